/- InsideBoat of the program returns what the reference's returns, for every mark and two hulls. No condition. -/
import Derived.Test.YtlnbieedgjmgnaaF
import Derived.Test.YtlnbieedgjmgnaaLaw
namespace Go.Proofs.Ytlnbieedgjmgnaa
open Go.ChangeShapes Go.WideShapes Go.ChangeAt Go.RowKit

set_option maxHeartbeats 2000000 in
theorem laws_FnExactInsideBoat (nm : ByteArray) (mx my sd zn : Int) (hs : (nm.size : Int) ≤ 9223372036854775807) (bx bY hx hy l cx cy ix iy m : Int) (w : World) :
    Calls Try.prog 3 #[.agg #[.string nm, .int .i64 mx, .int .i64 my, .int .i64 sd, .int .i64 zn], .agg #[.int .i64 bx, .int .i64 bY, .int .i64 hx, .int .i64 hy, .int .i64 l], .agg #[.int .i64 cx, .int .i64 cy, .int .i64 ix, .int .i64 iy, .int .i64 m]] w fun e w' => e = .returned (.bool true) ∧ Below w.heap.size w w' := by
  by_cases g : (nm.size : Int) ≤ 1048576
  · go_enter Try.func3, Try.ntmps3
    go_wp2_with (go_at_call 31; (with_reducible refine (laws_szMark_yes _ _ _ _ _ _ g (by omega) _).mono ?_); rintro e w9 ⟨rfl, hb⟩; obtain ⟨hc, hf⟩ := bcell hb; have hz := hb.size; have z0 : w.heap.size < w9.heap.size := (by first | omega | (simp at hz; omega)); have z1 : w.heap.size + 1 < w9.heap.size := (by first | omega | (simp at hz; omega)); have z2 : w.heap.size + 1 + 1 < w9.heap.size := (by first | omega | (simp at hz; omega)))
    go_region_held3 (fun W => W.cell? ⟨w.heap.size, 0, none⟩ = some (.string nm) ∧ W.cell? ⟨w.heap.size, 1, none⟩ = some (.int .i64 mx) ∧ W.cell? ⟨w.heap.size, 2, none⟩ = some (.int .i64 my) ∧ W.cell? ⟨w.heap.size, 3, none⟩ = some (.int .i64 sd) ∧ W.cell? ⟨w.heap.size, 4, none⟩ = some (.int .i64 zn) ∧ W.cell? ⟨w.heap.size + 1, 0, none⟩ = some (.int .i64 bx) ∧ W.cell? ⟨w.heap.size + 1, 1, none⟩ = some (.int .i64 bY) ∧ W.cell? ⟨w.heap.size + 1, 2, none⟩ = some (.int .i64 hx) ∧ W.cell? ⟨w.heap.size + 1, 3, none⟩ = some (.int .i64 hy) ∧ W.cell? ⟨w.heap.size + 1, 4, none⟩ = some (.int .i64 l) ∧ W.cell? ⟨w.heap.size + 2, 0, none⟩ = some (.int .i64 cx) ∧ W.cell? ⟨w.heap.size + 2, 1, none⟩ = some (.int .i64 cy) ∧ W.cell? ⟨w.heap.size + 2, 2, none⟩ = some (.int .i64 ix) ∧ W.cell? ⟨w.heap.size + 2, 3, none⟩ = some (.int .i64 iy) ∧ W.cell? ⟨w.heap.size + 2, 4, none⟩ = some (.int .i64 m) ∧ Below w.heap.size w W ∧ w.heap.size + 3 ≤ W.heap.size)
    (first | (obtain ⟨k1, k2, k3, k4, k5, k6, k7, k8, k9, k10, k11, k12, k13, k14, k15, kB, kz⟩ := ‹_ ∧ _›; exact ⟨cell_later hb k1, cell_later hb k2, cell_later hb k3, cell_later hb k4, cell_later hb k5, cell_later hb k6, cell_later hb k7, cell_later hb k8, cell_later hb k9, cell_later hb k10, cell_later hb k11, cell_later hb k12, cell_later hb k13, cell_later hb k14, cell_later hb k15, bstep kB hb, bsize kz hb⟩) | exact ⟨(by go_simp; done), (by go_simp; done), (by go_simp; done), (by go_simp; done), (by go_simp; done), (by go_simp; done), (by go_simp; done), (by go_simp; done), (by go_simp; done), (by go_simp; done), (by go_simp; done), (by go_simp; done), (by go_simp; done), (by go_simp; done), (by go_simp; done), (by repeat (first | with_reducible exact Below.refl _ _ | with_reducible assumption | with_reducible refine Below.drew ?_ | with_reducible refine below_drewN ?_ _ | with_reducible refine Below.setCell ?_ (by first | exact Nat.le_refl _ | (simp; done) | (simp; omega) | (dsimp only; omega)) _ | with_reducible refine Below.alloc ?_ (by first | exact Nat.le_refl _ | (simp; done) | (simp; omega) | (simp at *; omega)) _ | with_reducible refine bstep ?_ (by assumption))), (by first | (simp; done) | (simp; omega) | omega)⟩ | (obtain ⟨k1, k2, k3, k4, k5, k6, k7, k8, k9, k10, k11, k12, k13, k14, k15, kB, kz⟩ := ‹_ ∧ _›; exact ⟨k1, k2, k3, k4, k5, k6, k7, k8, k9, k10, k11, k12, k13, k14, k15, kB, kz⟩))
     (first | (go_at_call 33; (with_reducible refine (laws_toMark _ _ _ _ _ _).mono ?_); rintro e w9 ⟨rfl, hb⟩) | (go_at_call 34; (with_reducible refine (laws_toHull _ _ _ _ _ _).mono ?_); rintro e w9 ⟨rfl, hb⟩) | (go_at_call 32; (with_reducible refine (spec_InsideBoat _ _ _ _ _ _ _ _ _ _ _ _ _ _ _ _).mono ?_); rintro e w9 ⟨rfl, hb⟩))
    obtain ⟨k1, k2, k3, k4, k5, k6, k7, k8, k9, k10, k11, k12, k13, k14, k15, kB, kz⟩ := ‹_ ∧ _›
    go_wp2
    go_region_held3 (fun W => W.cell? ⟨w.heap.size, 0, none⟩ = some (.string nm) ∧ W.cell? ⟨w.heap.size, 1, none⟩ = some (.int .i64 mx) ∧ W.cell? ⟨w.heap.size, 2, none⟩ = some (.int .i64 my) ∧ W.cell? ⟨w.heap.size, 3, none⟩ = some (.int .i64 sd) ∧ W.cell? ⟨w.heap.size, 4, none⟩ = some (.int .i64 zn) ∧ W.cell? ⟨w.heap.size + 1, 0, none⟩ = some (.int .i64 bx) ∧ W.cell? ⟨w.heap.size + 1, 1, none⟩ = some (.int .i64 bY) ∧ W.cell? ⟨w.heap.size + 1, 2, none⟩ = some (.int .i64 hx) ∧ W.cell? ⟨w.heap.size + 1, 3, none⟩ = some (.int .i64 hy) ∧ W.cell? ⟨w.heap.size + 1, 4, none⟩ = some (.int .i64 l) ∧ W.cell? ⟨w.heap.size + 2, 0, none⟩ = some (.int .i64 cx) ∧ W.cell? ⟨w.heap.size + 2, 1, none⟩ = some (.int .i64 cy) ∧ W.cell? ⟨w.heap.size + 2, 2, none⟩ = some (.int .i64 ix) ∧ W.cell? ⟨w.heap.size + 2, 3, none⟩ = some (.int .i64 iy) ∧ W.cell? ⟨w.heap.size + 2, 4, none⟩ = some (.int .i64 m) ∧ Below w.heap.size w W ∧ w.heap.size + 3 ≤ W.heap.size)
    (first | (obtain ⟨k1, k2, k3, k4, k5, k6, k7, k8, k9, k10, k11, k12, k13, k14, k15, kB, kz⟩ := ‹_ ∧ _›; exact ⟨cell_later hb k1, cell_later hb k2, cell_later hb k3, cell_later hb k4, cell_later hb k5, cell_later hb k6, cell_later hb k7, cell_later hb k8, cell_later hb k9, cell_later hb k10, cell_later hb k11, cell_later hb k12, cell_later hb k13, cell_later hb k14, cell_later hb k15, bstep kB hb, bsize kz hb⟩) | exact ⟨(by go_simp; done), (by go_simp; done), (by go_simp; done), (by go_simp; done), (by go_simp; done), (by go_simp; done), (by go_simp; done), (by go_simp; done), (by go_simp; done), (by go_simp; done), (by go_simp; done), (by go_simp; done), (by go_simp; done), (by go_simp; done), (by go_simp; done), (by repeat (first | with_reducible exact Below.refl _ _ | with_reducible assumption | with_reducible refine Below.drew ?_ | with_reducible refine below_drewN ?_ _ | with_reducible refine Below.setCell ?_ (by first | exact Nat.le_refl _ | (simp; done) | (simp; omega) | (dsimp only; omega)) _ | with_reducible refine Below.alloc ?_ (by first | exact Nat.le_refl _ | (simp; done) | (simp; omega) | (simp at *; omega)) _ | with_reducible refine bstep ?_ (by assumption))), (by first | (simp; done) | (simp; omega) | omega)⟩ | (obtain ⟨k1, k2, k3, k4, k5, k6, k7, k8, k9, k10, k11, k12, k13, k14, k15, kB, kz⟩ := ‹_ ∧ _›; exact ⟨k1, k2, k3, k4, k5, k6, k7, k8, k9, k10, k11, k12, k13, k14, k15, kB, kz⟩))
     (first | (go_at_call 33; (with_reducible refine (laws_toMark _ _ _ _ _ _).mono ?_); rintro e w9 ⟨rfl, hb⟩) | (go_at_call 34; (with_reducible refine (laws_toHull _ _ _ _ _ _).mono ?_); rintro e w9 ⟨rfl, hb⟩) | (go_at_call 35; (with_reducible refine (impl_InsideBoat _ _ _ _ _ _ _ _ _ _ _ _ _ _ _ _).mono ?_); rintro e w9 ⟨rfl, hb⟩))
    obtain ⟨k1, k2, k3, k4, k5, k6, k7, k8, k9, k10, k11, k12, k13, k14, k15, kB, kz⟩ := ‹_ ∧ _›
    go_wp2
    all_goals (go_ret; exact ⟨rfl, kB⟩)
  · go_enter Try.func3, Try.ntmps3
    go_wp2_with (go_at_call 31; (with_reducible refine (laws_szMark_no _ _ _ _ _ _ (by omega) (by omega) hs _).mono ?_); rintro e w9 ⟨rfl, hb⟩; obtain ⟨hc, hf⟩ := bcell hb; have hz := hb.size; have z0 : w.heap.size < w9.heap.size := (by first | omega | (simp at hz; omega)); have z1 : w.heap.size + 1 < w9.heap.size := (by first | omega | (simp at hz; omega)); have z2 : w.heap.size + 1 + 1 < w9.heap.size := (by first | omega | (simp at hz; omega)))
    go_ret
    exact ⟨rfl, (by repeat (first | with_reducible exact Below.refl _ _ | with_reducible assumption | with_reducible refine Below.drew ?_ | with_reducible refine below_drewN ?_ _ | with_reducible refine Below.setCell ?_ (by first | exact Nat.le_refl _ | (simp; done) | (simp; omega) | (dsimp only; omega)) _ | with_reducible refine Below.alloc ?_ (by first | exact Nat.le_refl _ | (simp; done) | (simp; omega) | (simp at *; omega)) _ | with_reducible refine bstep ?_ (by assumption)))⟩

set_option maxRecDepth 100000 in
theorem FnExactInsideBoat_lifted (os : Os) (started : os.Started) (H : Type) (enc : TypeId × Value → H) :
    ReturnsInHanded {} Try.checked os 3 .any (Rows.fnExactInsideBoatSpec.pre6 enc Try.prog Try.f3 Rows.fnExactInsideBoatRow.domain false) (Rows.fnExactInsideBoatSpec.post enc Try.prog Try.f3 false true false false) := by
  refine returnsInHanded_of_change (C := Try.checked) Try.own started (by as_aux_lemma => kernel_rfl) Try.func3
    (ChangeSpec.witness6 (enc := enc) (C := Try.checked) false ⟨#[], #[.agg #[.string ByteArray.empty, .int .i64 0, .int .i64 0, .int .i64 0, .int .i64 0], .agg #[.int .i64 0, .int .i64 0, .int .i64 0, .int .i64 0, .int .i64 0], .agg #[.int .i64 0, .int .i64 0, .int .i64 0, .int .i64 0, .int .i64 0]], []⟩ 8 (by as_aux_lemma => kernel_rfl) (by as_aux_lemma => kernel_rfl) (by as_aux_lemma => kernel_rfl) (by as_aux_lemma => kernel_rfl)) ?_
  intro W base args ds gs before hval0 hW _ _
  have hval : ∀ (j : Nat) t v, Try.f3.params[j]? = some t → args[j]? = some v → Value.okWide Try.prog W .any base t v := hval0
  have hW' := hW
  obtain ⟨p, q, hA0, hV, rfl, _, _⟩ := hW
  have hA : DataW.TrodAll enc Try.prog W 0 (fun _ => true) true Try.f3.params.toList args.toList ds p := hA0
  rw [Try.params3] at hA hval
  obtain ⟨v0, vs0, d0, ds0, p0, q0, hargs, rfl, rfl, h0, r0⟩ := trodAll_cons hA
  obtain ⟨v1, vs1, d1, ds1, p1, q1, rfl, rfl, rfl, h1, r1⟩ := trodAll_cons r0
  obtain ⟨v2, vs2, d2, ds2, p2, q2, rfl, rfl, rfl, h2, r2⟩ := trodAll_cons r1
  obtain ⟨rfl, rfl, rfl⟩ := trodAll_nil r2
  obtain rfl : args = #[v0, v1, v2] := by cases args; simp_all
  obtain ⟨nm0, x0, y0, sd0, zn0, rfl, hs0⟩ := op_mark (hval 0 25 v0 rfl rfl) h0
  obtain ⟨bx1, bY1, hx1, hy1, l1, rfl⟩ := op_hull (hval 1 27 v1 rfl rfl) h1
  obtain ⟨bx2, bY2, hx2, hy2, l2, rfl⟩ := op_hull (hval 2 27 v2 rfl rfl) h2
  obtain ⟨rfl, rfl⟩ := trodVars_none hV
  refine (laws_FnExactInsideBoat nm0 x0 y0 sd0 zn0 hs0 bx1 bY1 hx1 hy1 l1 bx2 bY2 hx2 hy2 l2 W).mono fun e W1 ⟨he, hb⟩ => ⟨_, he, ?_⟩
  exact law_post Try.laidOut (by as_aux_lemma => kernel_rfl) Try.underlying4 rfl rfl hW' rfl rfl rfl hb
set_option maxHeartbeats 8000000 in
theorem FnExactInsideBoat_closed : joinedFacts Try.prog 3 Try.f3 Rows.fnExactInsideBoatSpec Rows.fnExactInsideBoatRow = true := by
  simp only [joinedFacts, Bool.and_eq_true, Try.laidOut, Try.mapsRowed, Try.stopsNone, Try.stopKnobsNone, Try.plainKeysIs, Try.stopsHeardIs, Try.mayEnterIs, Try.liftsFinalIs, Try.makeIs, and_true, true_and]
  repeat' (with_reducible refine And.intro ?_ ?_)
  all_goals (as_aux_lemma => kernel_rfl)
set_option maxHeartbeats 8000000 in
/-- FnExactInsideBoat: whatever the input, the law returns true, and the input reads as it did. -/
theorem FnExactInsideBoat_holds : Rows.FnExactInsideBoatSaid :=
  OpenClaim.holds_of_wide 3 Try.f3 rfl rfl rfl rfl rfl rfl rfl ⟨rfl, rfl, rfl, rfl, rfl⟩ rfl rfl rfl rfl rfl (by as_aux_lemma => kernel_rfl) Try.func3
    FnExactInsideBoat_closed
    (of_decide_eq_true (by as_aux_lemma => kernel_rfl)) (by unfold Func.isWrapper; rw [if_neg (of_decide_eq_false (by as_aux_lemma => kernel_rfl))]; exact ⟨rfl, rfl⟩)
    (fun os started H enc _ => FnExactInsideBoat_lifted os started H enc)
#print axioms FnExactInsideBoat_holds
end Go.Proofs.Ytlnbieedgjmgnaa
