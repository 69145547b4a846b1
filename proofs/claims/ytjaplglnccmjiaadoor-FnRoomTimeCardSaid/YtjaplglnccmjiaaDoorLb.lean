/- How a slice of bytes that came in reads. -/
import Derived.Test.YtjaplglnccmjiaaDoorLaw
import Derived.Test.YtjaplglnccmjiaaDoorKp
namespace Go.Proofs.YtjaplglnccmjiaaDoor
open Go.ChangeShapes Go.WideShapes Go.ChangeAt Go.RowKit Go.Deep

theorem row1_of {w : World} {so : Option Addr} {len : Nat} (h : ∀ i, i < len → ∃ b o cs', so = some ⟨b, o, none⟩ ∧ (∃ x : Int, cs' = [.int .u8 x] ∧ 0 ≤ x ∧ x ≤ 255) ∧ ∀ j, j < 1 → w.cell? ⟨b, o + i * 1 + j, none⟩ = cs'[j]?) :
    ∃ B : Nat → Int, RowAt w so len 1 (vb B) ∧ ∀ i, 0 ≤ B i ∧ B i ≤ 255 := by
  have h' : ∀ i : Nat, ∃ q : Int, (0 ≤ q ∧ q ≤ 255) ∧ (i < len → ∃ b o, so = some ⟨b, o, none⟩ ∧ ∀ j, j < 1 → w.cell? ⟨b, o + i * 1 + j, none⟩ = [Value.int .u8 q][j]?) := fun i => by
    by_cases hi : i < len
    · obtain ⟨b, o, _, e, ⟨x, rfl, hx⟩, k⟩ := h i hi
      exact ⟨x, hx, fun _ => ⟨b, o, e, k⟩⟩
    · exact ⟨0, by decide, fun k => absurd k hi⟩
  obtain ⟨q, hq⟩ := Classical.axiomOfChoice h'
  refine ⟨q, fun i hi => ?_, fun i => (hq i).1⟩
  obtain ⟨b, o, e, k⟩ := (hq i).2 hi
  refine ⟨b, o, e, fun j hj => (k j hj).trans ?_⟩
  obtain rfl : j = 0 := by omega
  rfl
theorem Tryd.cByte : Tryd.prog.cellsOf 5 = 1 := by kernel_rfl
set_option maxRecDepth 100000 in
theorem op_bytes {H : Type} {enc : TypeId × Value → H} {w : World} {base : Nat} {spare : Nat → Bool} {held : Bool} {r : Reach} {b0 : Nat} {v : Value} {d : DataW H} {p : List MemPlace}
    (hv : Value.okWide Tryd.prog w r b0 22 v) (h : DataW.Trod enc Tryd.prog w base spare held 22 v d p) :
    ∃ so n cap B, v = .slice so n cap ∧ n ≤ maxLen ∧ RowAt w so n 1 (vb B) ∧ ∀ i, 0 ≤ B i ∧ B i ≤ 255 := by
  obtain ⟨a, len, cap, rfl⟩ := okWide_slice Tryd.underlying22 hv
  obtain ⟨n, h⟩ := h
  obtain ⟨so, ln, cp, e, hl, hr⟩ := open_row (Q := fun cs => ∃ x : Int, cs = [.int .u8 x] ∧ 0 ≤ x ∧ x ≤ 255) Tryd.underlying22 Tryd.cByte (by decide) (fun k => by
    obtain ⟨x, e, _, hw⟩ := DataW.trod_int Tryd.underlying5 k
    refine ⟨x, e, ?_⟩
    simp only [Lit.wf, Bool.and_eq_true, decide_eq_true_eq, IntKind.min, IntKind.max, IntKind.signed, IntKind.bits] at hw
    simp at hw
    omega) h
  simp [Value.cells] at e
  obtain ⟨rfl, rfl, rfl⟩ := e
  obtain ⟨B, R, hB⟩ := row1_of hr
  exact ⟨_, _, _, B, rfl, hl, R, hB⟩
end Go.Proofs.YtjaplglnccmjiaaDoor
