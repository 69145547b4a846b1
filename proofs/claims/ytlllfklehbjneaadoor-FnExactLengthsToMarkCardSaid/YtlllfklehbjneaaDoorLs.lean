/- How slices of structs, and tracks, that came in read. -/
import Derived.Test.YtlllfklehbjneaaDoorLaw
import Derived.Test.YtlllfklehbjneaaDoorSl
import Derived.Deep.Slices
namespace Go.Proofs.YtlllfklehbjneaaDoor
open Go.ChangeShapes Go.WideShapes Go.ChangeAt Go.RowKit Go.Deep

section
variable {H : Type} {enc : TypeId × Value → H} {P : Program} {w : World} {base : Nat} {spare : Nat → Bool} {held : Bool}
theorem open_row {t e : TypeId} {c fuel : Nat} {cs : List Value} {x : DataW H × List MemPlace} {Q : List Value → Prop} (ht : P.underlying t = some (.slice e)) (hc : P.cellsOf e = c) (h0 : 0 < c)
    (rd : ∀ {n : Nat} {cs : List Value} {x : DataW H × List MemPlace}, DataW.trod enc P w base spare held n e cs = some x → Q cs) (h : DataW.trod enc P w base spare held fuel t cs = some x) :
    ∃ so len cap, cs = [.slice so len cap] ∧ len ≤ maxLen ∧ ∀ i, i < len → ∃ b o cs', so = some ⟨b, o, none⟩ ∧ Q cs' ∧ ∀ j, j < c → w.cell? ⟨b, o + i * c + j, none⟩ = cs'[j]? := by
  rcases open_slice ht h with ⟨rfl, _⟩ | ⟨a, len, cap, m, n, D, Pl, rfl, _, hl, hcm, hm, _, hi⟩
  · exact ⟨none, 0, 0, rfl, Nat.zero_le _, fun i hi => absurd hi (Nat.not_lt_zero i)⟩
  · refine ⟨some a, len, cap, rfl, Nat.le_trans hl hcm, fun i hil => ?_⟩
    have hlm : len ≤ m := by rw [hm]; split <;> omega
    obtain ⟨b, o, s⟩ := a
    obtain ⟨cz, hcz, _⟩ := hi 0 (by omega)
    rw [hc] at hcz
    obtain ⟨_, hlz, hatz⟩ := World.cells?_some hcz
    have ez := hatz 0 h0
    rw [List.getElem?_eq_getElem (by omega)] at ez
    have sp := World.cell?_spot ez
    simp [Addr.add] at sp
    subst sp
    obtain ⟨cs', hcell, htr⟩ := hi i (by omega)
    rw [hc] at hcell
    obtain ⟨_, hcl, hat⟩ := World.cells?_some hcell
    refine ⟨b, o, cs', rfl, rd htr, fun j hj => ?_⟩
    have := hat j hj
    rwa [Addr.add_lit, Addr.add_lit] at this
/-- A struct of three int64. -/
theorem rd_three {ti t : TypeId} {f0 f1 f2 : Field} {n : Nat} {cs : List Value} {x : DataW H × List MemPlace} (hi : P.underlying ti = some (.int .i64)) (ht : P.underlying t = some (.struct #[f0, f1, f2])) (hc : P.cellsOf t = 3) (hci : P.cellsOf ti = 1)
    (h0 : f0.type = ti ∧ f0.offset = 0) (h1 : f1.type = ti ∧ f1.offset = 1) (h2 : f2.type = ti ∧ f2.offset = 2) (h : DataW.trod enc P w base spare held n t cs = some x) : ∃ a b c : Int, cs = [.int .i64 a, .int .i64 b, .int .i64 c] := by
  obtain ⟨xs, m, _, _, hl, hxl, hf⟩ := DataW.trod_struct ht h
  rw [hc] at hl
  match cs, hl with
  | [c0, c1, c2], _ =>
    have g0 := hf 0 f0 rfl
    have g1 := hf 1 f1 rfl
    have g2 := hf 2 f2 rfl
    rw [h0.1, h0.2, hci, List.getElem?_eq_getElem (by simp [hxl])] at g0
    rw [h1.1, h1.2, hci, List.getElem?_eq_getElem (by simp [hxl])] at g1
    rw [h2.1, h2.2, hci, List.getElem?_eq_getElem (by simp [hxl])] at g2
    obtain ⟨a, e0, _⟩ := rd_int hi g0
    obtain ⟨b, e1, _⟩ := rd_int hi g1
    obtain ⟨c, e2, _⟩ := rd_int hi g2
    simp at e0 e1 e2
    exact ⟨a, b, c, by simp [e0, e1, e2]⟩
theorem row2_of {so : Option Addr} {len : Nat} (h : ∀ i, i < len → ∃ b o cs', so = some ⟨b, o, none⟩ ∧ (∃ x y : Int, cs' = [.int .i64 x, .int .i64 y]) ∧ ∀ j, j < 2 → w.cell? ⟨b, o + i * 2 + j, none⟩ = cs'[j]?) :
    ∃ X Y : Nat → Int, RowAt w so len 2 (v2 X Y) := by
  have h' : ∀ i : Nat, ∃ q : Int × Int, i < len → ∃ b o, so = some ⟨b, o, none⟩ ∧ ∀ j, j < 2 → w.cell? ⟨b, o + i * 2 + j, none⟩ = [Value.int .i64 q.1, .int .i64 q.2][j]? := fun i => by
    by_cases hi : i < len
    · obtain ⟨b, o, _, e, ⟨x, y, rfl⟩, k⟩ := h i hi
      exact ⟨(x, y), fun _ => ⟨b, o, e, k⟩⟩
    · exact ⟨(0, 0), fun k => absurd k hi⟩
  obtain ⟨q, hq⟩ := Classical.axiomOfChoice h'
  refine ⟨fun i => (q i).1, fun i => (q i).2, fun i hi => ?_⟩
  obtain ⟨b, o, e, k⟩ := hq i hi
  refine ⟨b, o, e, fun j hj => (k j hj).trans ?_⟩
  rcases (by omega : j = 0 ∨ j = 1) with rfl | rfl <;> simp [v2]
theorem row3_of {so : Option Addr} {len : Nat} (h : ∀ i, i < len → ∃ b o cs', so = some ⟨b, o, none⟩ ∧ (∃ x y z : Int, cs' = [.int .i64 x, .int .i64 y, .int .i64 z]) ∧ ∀ j, j < 3 → w.cell? ⟨b, o + i * 3 + j, none⟩ = cs'[j]?) :
    ∃ T X Y : Nat → Int, RowAt w so len 3 (v3 T X Y) := by
  have h' : ∀ i : Nat, ∃ q : Int × Int × Int, i < len → ∃ b o, so = some ⟨b, o, none⟩ ∧ ∀ j, j < 3 → w.cell? ⟨b, o + i * 3 + j, none⟩ = [Value.int .i64 q.1, .int .i64 q.2.1, .int .i64 q.2.2][j]? := fun i => by
    by_cases hi : i < len
    · obtain ⟨b, o, _, e, ⟨x, y, z, rfl⟩, k⟩ := h i hi
      exact ⟨(x, y, z), fun _ => ⟨b, o, e, k⟩⟩
    · exact ⟨(0, 0, 0), fun k => absurd k hi⟩
  obtain ⟨q, hq⟩ := Classical.axiomOfChoice h'
  refine ⟨fun i => (q i).1, fun i => (q i).2.1, fun i => (q i).2.2, fun i hi => ?_⟩
  obtain ⟨b, o, e, k⟩ := hq i hi
  refine ⟨b, o, e, fun j hj => (k j hj).trans ?_⟩
  rcases (by omega : j = 0 ∨ j = 1 ∨ j = 2) with rfl | rfl | rfl <;> simp [v3]
end
theorem Tryd.cFix : Tryd.prog.cellsOf 113 = 3 := by kernel_rfl
theorem Tryd.cTrack : Tryd.prog.cellsOf 31 = 1 := by kernel_rfl
theorem Tryd.cFixS : Tryd.prog.cellsOf 29 = 1 := by kernel_rfl
set_option maxRecDepth 100000 in
theorem op_track {H : Type} {enc : TypeId × Value → H} {w : World} {base : Nat} {spare : Nat → Bool} {held : Bool} {r : Reach} {b0 : Nat} {v : Value} {d : DataW H} {p : List MemPlace}
    (hv : Value.okWide Tryd.prog w r b0 31 v) (h : DataW.Trod enc Tryd.prog w base spare held 31 v d p) :
    ∃ so n cap T X Y, v = .agg #[.slice so n cap] ∧ n ≤ maxLen ∧ RowAt w so n 3 (v3 T X Y) := by
  obtain ⟨cs, n, rfl, h'⟩ := agg_of Tryd.underlying31 hv h
  obtain ⟨xs, m, _, _, hl, hxl, hf⟩ := DataW.trod_struct Tryd.underlying31 h'
  rw [Tryd.cTrack] at hl
  match cs, hl with
  | [c0], _ =>
    have g0 := hf 0 _ rfl
    change DataW.trod enc Tryd.prog w base spare held m 29 (List.take (Tryd.prog.cellsOf 29) (List.drop 0 [c0])) = xs[0]? at g0
    rw [Tryd.cFixS, List.getElem?_eq_getElem (by simp [hxl])] at g0
    obtain ⟨so, ln, cp, e, hl, hr⟩ := open_row (Q := fun cs => ∃ x y z : Int, cs = [.int .i64 x, .int .i64 y, .int .i64 z]) Tryd.underlying29 Tryd.cFix (by decide) (fun k =>
      rd_three Tryd.underlying2 Tryd.underlying113 Tryd.cFix Tryd.cInt ⟨rfl, rfl⟩ ⟨rfl, rfl⟩ ⟨rfl, rfl⟩ k) g0
    simp at e
    subst e
    obtain ⟨T, X, Y, R⟩ := row3_of hr
    exact ⟨_, _, _, T, X, Y, rfl, hl, R⟩
end Go.Proofs.YtlllfklehbjneaaDoor
