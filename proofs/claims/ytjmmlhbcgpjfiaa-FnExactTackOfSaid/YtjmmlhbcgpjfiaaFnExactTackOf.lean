/- TackOf of the program returns what the reference's returns, for every argument. No condition. -/
import Derived.Test.YtjmmlhbcgpjfiaaB
import Derived.Test.YtjmmlhbcgpjfiaaLaw
namespace Go.Proofs.Ytjmmlhbcgpjfiaa
open Go.ChangeShapes Go.WideShapes Go.ChangeAt Go.RowKit

theorem laws_FnExactTackOf (wx wy x y : Int) (w : World) :
    Calls Try.prog 7 #[.agg #[.int .i64 wx, .int .i64 wy], .agg #[.int .i64 x, .int .i64 y]] w fun e w' => e = .returned (.bool true) ∧ Below w.heap.size w w' := by
  go_enter Try.func7, Try.ntmps7
  go_wp2
  go_region_held3 (fun W => W.cell? ⟨w.heap.size, 0, none⟩ = some (.int .i64 wx) ∧ W.cell? ⟨w.heap.size, 1, none⟩ = some (.int .i64 wy) ∧ W.cell? ⟨w.heap.size + 1, 0, none⟩ = some (.int .i64 x) ∧ W.cell? ⟨w.heap.size + 1, 1, none⟩ = some (.int .i64 y) ∧ Below w.heap.size w W ∧ w.heap.size + 2 ≤ W.heap.size)
    (first | (obtain ⟨k1, k2, k3, k4, kB, kz⟩ := ‹_ ∧ _›; exact ⟨cell_later hb k1, cell_later hb k2, cell_later hb k3, cell_later hb k4, bstep kB hb, bsize kz hb⟩) | exact ⟨(by go_simp; done), (by go_simp; done), (by go_simp; done), (by go_simp; done), (by repeat (first | with_reducible exact Below.refl _ _ | with_reducible assumption | with_reducible refine Below.drew ?_ | with_reducible refine Below.setCell ?_ (by first | exact Nat.le_refl _ | (simp; done) | (simp; omega) | (dsimp only; omega)) _ | with_reducible refine Below.alloc ?_ (by first | exact Nat.le_refl _ | (simp; done) | (simp; omega) | (simp at *; omega)) _ | with_reducible refine bstep ?_ (by assumption))), (by first | (simp; done) | (simp; omega) | omega)⟩ | (obtain ⟨k1, k2, k3, k4, kB, kz⟩ := ‹_ ∧ _›; exact ⟨k1, k2, k3, k4, kB, kz⟩))
     (first | (go_at_call 10; (with_reducible refine (laws_toWind _ _ _).mono ?_); rintro e w9 ⟨rfl, hb⟩) | (go_at_call 19; (with_reducible refine (laws_toPoint _ _ _).mono ?_); rintro e w9 ⟨rfl, hb⟩) | (go_at_call 21; (with_reducible refine (spec_TackOf _ _ _ _ _).mono ?_); rintro e w9 ⟨rfl, hb⟩))
  obtain ⟨k1, k2, k3, k4, kB, kz⟩ := ‹_ ∧ _›
  go_wp2
  go_region_held3 (fun W => W.cell? ⟨w.heap.size, 0, none⟩ = some (.int .i64 wx) ∧ W.cell? ⟨w.heap.size, 1, none⟩ = some (.int .i64 wy) ∧ W.cell? ⟨w.heap.size + 1, 0, none⟩ = some (.int .i64 x) ∧ W.cell? ⟨w.heap.size + 1, 1, none⟩ = some (.int .i64 y) ∧ Below w.heap.size w W ∧ w.heap.size + 2 ≤ W.heap.size)
    (first | (obtain ⟨k1, k2, k3, k4, kB, kz⟩ := ‹_ ∧ _›; exact ⟨cell_later hb k1, cell_later hb k2, cell_later hb k3, cell_later hb k4, bstep kB hb, bsize kz hb⟩) | exact ⟨(by go_simp; done), (by go_simp; done), (by go_simp; done), (by go_simp; done), (by repeat (first | with_reducible exact Below.refl _ _ | with_reducible assumption | with_reducible refine Below.drew ?_ | with_reducible refine Below.setCell ?_ (by first | exact Nat.le_refl _ | (simp; done) | (simp; omega) | (dsimp only; omega)) _ | with_reducible refine Below.alloc ?_ (by first | exact Nat.le_refl _ | (simp; done) | (simp; omega) | (simp at *; omega)) _ | with_reducible refine bstep ?_ (by assumption))), (by first | (simp; done) | (simp; omega) | omega)⟩ | (obtain ⟨k1, k2, k3, k4, kB, kz⟩ := ‹_ ∧ _›; exact ⟨k1, k2, k3, k4, kB, kz⟩))
     (first | (go_at_call 10; (with_reducible refine (laws_toWind _ _ _).mono ?_); rintro e w9 ⟨rfl, hb⟩) | (go_at_call 19; (with_reducible refine (laws_toPoint _ _ _).mono ?_); rintro e w9 ⟨rfl, hb⟩) | (go_at_call 22; (with_reducible refine (impl_TackOf _ _ _ _ _).mono ?_); rintro e w9 ⟨rfl, hb⟩))
  obtain ⟨k1, k2, k3, k4, kB, kz⟩ := ‹_ ∧ _›
  go_wp2
  all_goals (go_ret; exact ⟨rfl, kB⟩)

set_option maxRecDepth 100000 in
theorem FnExactTackOf_lifted (os : Os) (started : os.Started) (H : Type) (enc : TypeId × Value → H) :
    ReturnsInHanded {} Try.checked os 7 .any (Rows.fnExactTackOfSpec.pre6 enc Try.prog Try.f7 Rows.fnExactTackOfRow.domain false) (Rows.fnExactTackOfSpec.post enc Try.prog Try.f7 false true false false) := by
  refine returnsInHanded_of_change (C := Try.checked) Try.own started (by kernel_rfl) Try.func7
    (ChangeSpec.witness6 (enc := enc) (C := Try.checked) false ⟨#[], #[.agg #[.int .i64 0, .int .i64 0], .agg #[.int .i64 0, .int .i64 0]], []⟩ 8 (by kernel_rfl) (by kernel_rfl) (by kernel_rfl) (by kernel_rfl)) ?_
  intro W base args ds gs before hval0 hW _ _
  have hval : ∀ (j : Nat) t v, Try.f7.params[j]? = some t → args[j]? = some v → Value.okWide Try.prog W .any base t v := hval0
  have hW' := hW
  obtain ⟨p, q, hA0, hV, rfl, _, _⟩ := hW
  have hA : DataW.TrodAll enc Try.prog W 0 (fun _ => true) true Try.f7.params.toList args.toList ds p := hA0
  rw [Try.params7] at hA hval
  obtain ⟨v0, vs0, d0, ds0, p0, q0, hargs, rfl, rfl, h0, r0⟩ := trodAll_cons hA
  obtain ⟨v1, vs1, d1, ds1, p1, q1, rfl, rfl, rfl, h1, r1⟩ := trodAll_cons r0
  obtain ⟨rfl, rfl, rfl⟩ := trodAll_nil r1
  obtain rfl : args = #[v0, v1] := by cases args; simp_all
  obtain ⟨x0, y0, rfl⟩ := op_wind (hval 0 23 v0 rfl rfl) h0
  obtain ⟨x1, y1, rfl⟩ := op_point (hval 1 34 v1 rfl rfl) h1
  obtain ⟨rfl, rfl⟩ := trodVars_none hV
  refine (laws_FnExactTackOf x0 y0 x1 y1 W).mono fun e W1 ⟨he, hb⟩ => ⟨_, he, ?_⟩
  exact law_post Try.laidOut (by kernel_rfl) Try.underlying4 rfl rfl hW' rfl rfl rfl hb
/-- FnExactTackOf: whatever the input, the law returns true, and the input reads as it did. -/
theorem FnExactTackOf_holds : Rows.FnExactTackOfSaid :=
  OpenClaim.holds_of_wide 7 Try.f7 rfl rfl rfl rfl rfl rfl rfl ⟨rfl, rfl, rfl, rfl, rfl⟩ rfl rfl rfl rfl rfl (by kernel_rfl) Try.func7 (by kernel_rfl)
    (of_decide_eq_true (by kernel_rfl)) (by unfold Func.isWrapper; rw [if_neg (of_decide_eq_false (by kernel_rfl))]; exact ⟨rfl, rfl⟩)
    (fun os started H enc _ => FnExactTackOf_lifted os started H enc)
#print axioms FnExactTackOf_holds
end Go.Proofs.Ytjmmlhbcgpjfiaa
