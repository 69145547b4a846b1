/- How a course that came in reads. -/
import Derived.Test.YtlllfklehbjneaaDoorLs
import Derived.Test.YtlllfklehbjneaaDoorCo
namespace Go.Proofs.YtlllfklehbjneaaDoor
open Go.ChangeShapes Go.WideShapes Go.ChangeAt Go.RowKit Go.Deep
theorem Tryd.cLine : Tryd.prog.cellsOf 25 = 4 := by kernel_rfl
theorem Tryd.cMarkS : Tryd.prog.cellsOf 26 = 1 := by kernel_rfl
theorem Tryd.cCourse : Tryd.prog.cellsOf 28 = 9 := by kernel_rfl
section
variable {H : Type} {enc : TypeId × Value → H} {P : Program} {w : World} {base : Nat} {spare : Nat → Bool} {held : Bool}
/-- A struct of two structs of two int64. -/
theorem rd_line {ti tp t : TypeId} {f0 f1 g0 g1 : Field} {n : Nat} {cs : List Value} {x : DataW H × List MemPlace} (hi : P.underlying ti = some (.int .i64)) (hp : P.underlying tp = some (.struct #[f0, f1])) (hcp : P.cellsOf tp = 2) (hci : P.cellsOf ti = 1)
    (h0 : f0.type = ti ∧ f0.offset = 0) (h1 : f1.type = ti ∧ f1.offset = 1) (ht : P.underlying t = some (.struct #[g0, g1])) (hc : P.cellsOf t = 4)
    (k0 : g0.type = tp ∧ g0.offset = 0) (k1 : g1.type = tp ∧ g1.offset = 2) (h : DataW.trod enc P w base spare held n t cs = some x) :
    ∃ a b c d : Int, cs = [.int .i64 a, .int .i64 b, .int .i64 c, .int .i64 d] := by
  obtain ⟨xs, m, _, _, hl, hxl, hf⟩ := DataW.trod_struct ht h
  rw [hc] at hl
  match cs, hl with
  | [c0, c1, c2, c3], _ =>
    have e0 := hf 0 g0 rfl
    have e1 := hf 1 g1 rfl
    rw [k0.1, k0.2, hcp, List.getElem?_eq_getElem (by simp [hxl])] at e0
    rw [k1.1, k1.2, hcp, List.getElem?_eq_getElem (by simp [hxl])] at e1
    obtain ⟨a, b, e0, _⟩ := rd_two hi hp hcp hci h0 h1 e0
    obtain ⟨c, d, e1, _⟩ := rd_two hi hp hcp hci h0 h1 e1
    simp at e0 e1
    exact ⟨a, b, c, d, by simp [e0, e1]⟩
theorem row5_of {so : Option Addr} {len : Nat} (h : ∀ i, i < len → ∃ b o cs', so = some ⟨b, o, none⟩ ∧ (∃ (s : ByteArray) (x y p q : Int), cs' = [.string s, .int .i64 x, .int .i64 y, .int .i64 p, .int .i64 q] ∧ s.size ≤ maxLen) ∧ ∀ j, j < 5 → w.cell? ⟨b, o + i * 5 + j, none⟩ = cs'[j]?) :
    ∃ (N : Nat → ByteArray) (X Y S Z : Nat → Int), RowAt w so len 5 (v5 N X Y S Z) ∧ ∀ i, (N i).size ≤ maxLen := by
  have h' : ∀ i : Nat, ∃ q : (ByteArray × Int) × (Int × Int × Int), q.1.1.size ≤ maxLen ∧ (i < len → ∃ b o, so = some ⟨b, o, none⟩ ∧ ∀ j, j < 5 → w.cell? ⟨b, o + i * 5 + j, none⟩ = [Value.string q.1.1, .int .i64 q.1.2, .int .i64 q.2.1, .int .i64 q.2.2.1, .int .i64 q.2.2.2][j]?) := fun i => by
    by_cases hi : i < len
    · obtain ⟨b, o, _, e, ⟨s, x, y, p, q, rfl, hs⟩, k⟩ := h i hi
      exact ⟨((s, x), (y, p, q)), hs, fun _ => ⟨b, o, e, k⟩⟩
    · exact ⟨((⟨#[]⟩, 0), (0, 0, 0)), Nat.zero_le _, fun k => absurd k hi⟩
  obtain ⟨q, hq⟩ := Classical.axiomOfChoice h'
  refine ⟨fun i => (q i).1.1, fun i => (q i).1.2, fun i => (q i).2.1, fun i => (q i).2.2.1, fun i => (q i).2.2.2, fun i hi => ?_, fun i => (hq i).1⟩
  obtain ⟨b, o, e, k⟩ := (hq i).2 hi
  refine ⟨b, o, e, fun j hj => (k j hj).trans ?_⟩
  rcases (by omega : j = 0 ∨ j = 1 ∨ j = 2 ∨ j = 3 ∨ j = 4) with rfl | rfl | rfl | rfl | rfl <;> simp [v5]
end
set_option maxRecDepth 100000 in
theorem op_course {H : Type} {enc : TypeId × Value → H} {w : World} {base : Nat} {spare : Nat → Bool} {held : Bool} {r : Reach} {b0 : Nat} {v : Value} {d : DataW H} {p : List MemPlace}
    (hv : Value.okWide Tryd.prog w r b0 28 v) (h : DataW.Trod enc Tryd.prog w base spare held 28 v d p) :
    ∃ (ax ay bx bY cx cy dx dy : Int) (so : Option Addr) (n cap : Nat) (N : Nat → ByteArray) (X Y S Z : Nat → Int), v = .agg #[.int .i64 ax, .int .i64 ay, .int .i64 bx, .int .i64 bY, .int .i64 cx, .int .i64 cy, .int .i64 dx, .int .i64 dy, .slice so n cap] ∧ n ≤ maxLen ∧ RowAt w so n 5 (v5 N X Y S Z) ∧ ∀ i, (N i).size ≤ maxLen := by
  obtain ⟨cs, n, rfl, h'⟩ := agg_of Tryd.underlying28 hv h
  obtain ⟨xs, m, _, _, hl, hxl, hf⟩ := DataW.trod_struct Tryd.underlying28 h'
  rw [Tryd.cCourse] at hl
  match cs, hl with
  | [c0, c1, c2, c3, c4, c5, c6, c7, c8], _ =>
    have g0 := hf 0 _ rfl
    have g1 := hf 1 _ rfl
    have g2 := hf 2 _ rfl
    change DataW.trod enc Tryd.prog w base spare held m 25 (List.take (Tryd.prog.cellsOf 25) (List.drop 0 [c0, c1, c2, c3, c4, c5, c6, c7, c8])) = xs[0]? at g0
    change DataW.trod enc Tryd.prog w base spare held m 25 (List.take (Tryd.prog.cellsOf 25) (List.drop 4 [c0, c1, c2, c3, c4, c5, c6, c7, c8])) = xs[1]? at g1
    change DataW.trod enc Tryd.prog w base spare held m 26 (List.take (Tryd.prog.cellsOf 26) (List.drop 8 [c0, c1, c2, c3, c4, c5, c6, c7, c8])) = xs[2]? at g2
    rw [Tryd.cLine, List.getElem?_eq_getElem (by simp [hxl])] at g0 g1
    rw [Tryd.cMarkS, List.getElem?_eq_getElem (by simp [hxl])] at g2
    obtain ⟨ax, ay, bx, bY, e0⟩ := rd_line Tryd.underlying2 Tryd.underlying23 Tryd.cPoint Tryd.cInt ⟨rfl, rfl⟩ ⟨rfl, rfl⟩ Tryd.underlying25 Tryd.cLine ⟨rfl, rfl⟩ ⟨rfl, rfl⟩ g0
    obtain ⟨cx, cy, dx, dy, e1⟩ := rd_line Tryd.underlying2 Tryd.underlying23 Tryd.cPoint Tryd.cInt ⟨rfl, rfl⟩ ⟨rfl, rfl⟩ Tryd.underlying25 Tryd.cLine ⟨rfl, rfl⟩ ⟨rfl, rfl⟩ g1
    obtain ⟨so, ln, cp, e2, hl2, hr⟩ := open_row (Q := fun cs => ∃ (s : ByteArray) (x y p q : Int), cs = [.string s, .int .i64 x, .int .i64 y, .int .i64 p, .int .i64 q] ∧ s.size ≤ maxLen) Tryd.underlying26 Tryd.cMark (by decide) (fun k =>
      rd_mark Tryd.underlying2 Tryd.underlying9 Tryd.underlying23 Tryd.cPoint Tryd.cInt Tryd.cStr ⟨rfl, rfl⟩ ⟨rfl, rfl⟩ Tryd.underlying106 Tryd.cMark ⟨rfl, rfl⟩ ⟨rfl, rfl⟩ ⟨rfl, rfl⟩ ⟨rfl, rfl⟩ k) g2
    simp at e0 e1 e2
    obtain ⟨rfl, rfl, rfl, rfl⟩ := e0
    obtain ⟨rfl, rfl, rfl, rfl⟩ := e1
    subst e2
    obtain ⟨N, X, Y, S, Z, R, hN⟩ := row5_of hr
    exact ⟨_, _, _, _, _, _, _, _, _, _, _, N, X, Y, S, Z, rfl, hl2, R, hN⟩
end Go.Proofs.YtlllfklehbjneaaDoor
