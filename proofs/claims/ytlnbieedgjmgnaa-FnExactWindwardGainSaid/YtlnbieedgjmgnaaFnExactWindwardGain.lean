/- WindwardGain of the program returns what the reference's returns, for every wind and two points. No condition. -/
import Derived.Test.YtlnbieedgjmgnaaK
import Derived.Test.YtlnbieedgjmgnaaLaw
namespace Go.Proofs.Ytlnbieedgjmgnaa
open Go.ChangeShapes Go.WideShapes Go.ChangeAt Go.RowKit

set_option maxHeartbeats 1000000 in
theorem laws_FnExactWindwardGain (wx wy px py qx qy : Int) (w : World) :
    Calls Try.prog 8 #[.agg #[.int .i64 wx, .int .i64 wy], .agg #[.int .i64 px, .int .i64 py], .agg #[.int .i64 qx, .int .i64 qy]] w fun e w' => e = .returned (.bool true) ∧ Below w.heap.size w w' := by
  go_enter Try.func8, Try.ntmps8
  go_wp2
  go_region_held3 (fun W => W.cell? ⟨w.heap.size, 0, none⟩ = some (.int .i64 wx) ∧ W.cell? ⟨w.heap.size, 1, none⟩ = some (.int .i64 wy) ∧ W.cell? ⟨w.heap.size + 1, 0, none⟩ = some (.int .i64 px) ∧ W.cell? ⟨w.heap.size + 1, 1, none⟩ = some (.int .i64 py) ∧ W.cell? ⟨w.heap.size + 2, 0, none⟩ = some (.int .i64 qx) ∧ W.cell? ⟨w.heap.size + 2, 1, none⟩ = some (.int .i64 qy) ∧ Below w.heap.size w W ∧ w.heap.size + 3 ≤ W.heap.size)
    (first | (obtain ⟨k1, k2, k3, k4, k5, k6, kB, kz⟩ := ‹_ ∧ _›; exact ⟨cell_later hb k1, cell_later hb k2, cell_later hb k3, cell_later hb k4, cell_later hb k5, cell_later hb k6, bstep kB hb, bsize kz hb⟩) | exact ⟨(by go_simp; done), (by go_simp; done), (by go_simp; done), (by go_simp; done), (by go_simp; done), (by go_simp; done), (by repeat (first | with_reducible exact Below.refl _ _ | with_reducible assumption | with_reducible refine Below.drew ?_ | with_reducible refine below_drewN ?_ _ | with_reducible refine Below.setCell ?_ (by first | exact Nat.le_refl _ | (simp; done) | (simp; omega) | (dsimp only; omega)) _ | with_reducible refine Below.alloc ?_ (by first | exact Nat.le_refl _ | (simp; done) | (simp; omega) | (simp at *; omega)) _ | with_reducible refine bstep ?_ (by assumption))), (by first | (simp; done) | (simp; omega) | omega)⟩ | (obtain ⟨k1, k2, k3, k4, k5, k6, kB, kz⟩ := ‹_ ∧ _›; exact ⟨k1, k2, k3, k4, k5, k6, kB, kz⟩))
     (first | (go_at_call 38; (with_reducible refine (laws_toWind _ _ _).mono ?_); rintro e w9 ⟨rfl, hb⟩) | (go_at_call 52; (with_reducible refine (laws_toPoint _ _ _).mono ?_); rintro e w9 ⟨rfl, hb⟩) | (go_at_call 51; (with_reducible refine (spec_WindwardGain _ _ _ _ _ _ _).mono ?_); rintro e w9 ⟨rfl, hb⟩))
  obtain ⟨k1, k2, k3, k4, k5, k6, kB, kz⟩ := ‹_ ∧ _›
  go_wp2
  go_region_held3 (fun W => W.cell? ⟨w.heap.size, 0, none⟩ = some (.int .i64 wx) ∧ W.cell? ⟨w.heap.size, 1, none⟩ = some (.int .i64 wy) ∧ W.cell? ⟨w.heap.size + 1, 0, none⟩ = some (.int .i64 px) ∧ W.cell? ⟨w.heap.size + 1, 1, none⟩ = some (.int .i64 py) ∧ W.cell? ⟨w.heap.size + 2, 0, none⟩ = some (.int .i64 qx) ∧ W.cell? ⟨w.heap.size + 2, 1, none⟩ = some (.int .i64 qy) ∧ Below w.heap.size w W ∧ w.heap.size + 3 ≤ W.heap.size)
    (first | (obtain ⟨k1, k2, k3, k4, k5, k6, kB, kz⟩ := ‹_ ∧ _›; exact ⟨cell_later hb k1, cell_later hb k2, cell_later hb k3, cell_later hb k4, cell_later hb k5, cell_later hb k6, bstep kB hb, bsize kz hb⟩) | exact ⟨(by go_simp; done), (by go_simp; done), (by go_simp; done), (by go_simp; done), (by go_simp; done), (by go_simp; done), (by repeat (first | with_reducible exact Below.refl _ _ | with_reducible assumption | with_reducible refine Below.drew ?_ | with_reducible refine below_drewN ?_ _ | with_reducible refine Below.setCell ?_ (by first | exact Nat.le_refl _ | (simp; done) | (simp; omega) | (dsimp only; omega)) _ | with_reducible refine Below.alloc ?_ (by first | exact Nat.le_refl _ | (simp; done) | (simp; omega) | (simp at *; omega)) _ | with_reducible refine bstep ?_ (by assumption))), (by first | (simp; done) | (simp; omega) | omega)⟩ | (obtain ⟨k1, k2, k3, k4, k5, k6, kB, kz⟩ := ‹_ ∧ _›; exact ⟨k1, k2, k3, k4, k5, k6, kB, kz⟩))
     (first | (go_at_call 38; (with_reducible refine (laws_toWind _ _ _).mono ?_); rintro e w9 ⟨rfl, hb⟩) | (go_at_call 52; (with_reducible refine (laws_toPoint _ _ _).mono ?_); rintro e w9 ⟨rfl, hb⟩) | (go_at_call 53; (with_reducible refine (impl_WindwardGain _ _ _ _ _ _ _).mono ?_); rintro e w9 ⟨rfl, hb⟩))
  obtain ⟨k1, k2, k3, k4, k5, k6, kB, kz⟩ := ‹_ ∧ _›
  go_wp2
  all_goals (go_ret; exact ⟨rfl, kB⟩)

set_option maxRecDepth 100000 in
theorem FnExactWindwardGain_lifted (os : Os) (started : os.Started) (H : Type) (enc : TypeId × Value → H) :
    ReturnsInHanded {} Try.checked os 8 .any (Rows.fnExactWindwardGainSpec.pre6 enc Try.prog Try.f8 Rows.fnExactWindwardGainRow.domain false) (Rows.fnExactWindwardGainSpec.post enc Try.prog Try.f8 false true false false) := by
  refine returnsInHanded_of_change (C := Try.checked) Try.own started (by as_aux_lemma => kernel_rfl) Try.func8
    (ChangeSpec.witness6 (enc := enc) (C := Try.checked) false ⟨#[], #[.agg #[.int .i64 0, .int .i64 0], .agg #[.int .i64 0, .int .i64 0], .agg #[.int .i64 0, .int .i64 0]], []⟩ 8 (by as_aux_lemma => kernel_rfl) (by as_aux_lemma => kernel_rfl) (by as_aux_lemma => kernel_rfl) (by as_aux_lemma => kernel_rfl)) ?_
  intro W base args ds gs before hval0 hW _ _
  have hval : ∀ (j : Nat) t v, Try.f8.params[j]? = some t → args[j]? = some v → Value.okWide Try.prog W .any base t v := hval0
  have hW' := hW
  obtain ⟨p, q, hA0, hV, rfl, _, _⟩ := hW
  have hA : DataW.TrodAll enc Try.prog W 0 (fun _ => true) true Try.f8.params.toList args.toList ds p := hA0
  rw [Try.params8] at hA hval
  obtain ⟨v0, vs0, d0, ds0, p0, q0, hargs, rfl, rfl, h0, r0⟩ := trodAll_cons hA
  obtain ⟨v1, vs1, d1, ds1, p1, q1, rfl, rfl, rfl, h1, r1⟩ := trodAll_cons r0
  obtain ⟨v2, vs2, d2, ds2, p2, q2, rfl, rfl, rfl, h2, r2⟩ := trodAll_cons r1
  obtain ⟨rfl, rfl, rfl⟩ := trodAll_nil r2
  obtain rfl : args = #[v0, v1, v2] := by cases args; simp_all
  obtain ⟨x0, y0, rfl⟩ := op_wind (hval 0 39 v0 rfl rfl) h0
  obtain ⟨x1, y1, rfl⟩ := op_point (hval 1 23 v1 rfl rfl) h1
  obtain ⟨x2, y2, rfl⟩ := op_point (hval 2 23 v2 rfl rfl) h2
  obtain ⟨rfl, rfl⟩ := trodVars_none hV
  refine (laws_FnExactWindwardGain x0 y0 x1 y1 x2 y2 W).mono fun e W1 ⟨he, hb⟩ => ⟨_, he, ?_⟩
  exact law_post Try.laidOut (by as_aux_lemma => kernel_rfl) Try.underlying4 rfl rfl hW' rfl rfl rfl hb
set_option maxHeartbeats 8000000 in
theorem FnExactWindwardGain_closed : joinedFacts Try.prog 8 Try.f8 Rows.fnExactWindwardGainSpec Rows.fnExactWindwardGainRow = true := by
  simp only [joinedFacts, Bool.and_eq_true, Try.laidOut, Try.mapsRowed, Try.stopsNone, Try.stopKnobsNone, Try.plainKeysIs, Try.stopsHeardIs, Try.mayEnterIs, Try.liftsFinalIs, Try.makeIs, and_true, true_and]
  repeat' (with_reducible refine And.intro ?_ ?_)
  all_goals (as_aux_lemma => kernel_rfl)
set_option maxHeartbeats 8000000 in
/-- FnExactWindwardGain: whatever the input, the law returns true, and the input reads as it did. -/
theorem FnExactWindwardGain_holds : Rows.FnExactWindwardGainSaid :=
  OpenClaim.holds_of_wide 8 Try.f8 rfl rfl rfl rfl rfl rfl rfl ⟨rfl, rfl, rfl, rfl, rfl⟩ rfl rfl rfl rfl rfl (by as_aux_lemma => kernel_rfl) Try.func8
    FnExactWindwardGain_closed
    (of_decide_eq_true (by as_aux_lemma => kernel_rfl)) (by unfold Func.isWrapper; rw [if_neg (of_decide_eq_false (by as_aux_lemma => kernel_rfl))]; exact ⟨rfl, rfl⟩)
    (fun os started H enc _ => FnExactWindwardGain_lifted os started H enc)
#print axioms FnExactWindwardGain_holds
end Go.Proofs.Ytlnbieedgjmgnaa
