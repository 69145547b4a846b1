/- Walks: the lines of a course, of both. -/
import Derived.Test.YthlnpcneicmblaaGreatDoorXl
import Derived.Test.YthlnpcneicmblaaGreatDoorCy
import Derived.Deep.AppendLies
import Derived.Deep.Onto
namespace Go.Proofs.YthlnpcneicmblaaGreatDoor
open Go.RowKit

theorem new4 {W : World} {e : TypeId} {x y z u' : Value} : ∀ (j : Nat) (u : Value), [x, y, z, u'][j]? = some u → (W.alloc (.cells #[x, y, z, u'] e)).cell? ((⟨W.heap.size, 0, none⟩ : Addr).add j) = some u := fun j u hj => by
 match j, hj with
 | 0, hj => simp at hj; subst hj; simp [Addr.add]
 | 1, hj => simp at hj; subst hj; simp [Addr.add]
 | 2, hj => simp at hj; subst hj; simp [Addr.add]
 | 3, hj => simp at hj; subst hj; simp [Addr.add]
theorem one4 (x y z u' : Int) : ∀ u ∈ [Value.int .i64 x, Value.int .i64 y, Value.int .i64 z, Value.int .i64 u'], u.oneCell' = true := fun u hu => by
 simp at hu; rcases hu with rfl | rfl | rfl | rfl <;> rfl
theorem own_one4 {w : World} {B : Nat} {e : TypeId} (a b c d : Int) (hb : B ≤ w.heap.size) : (w.alloc (.cells #[.int .i64 a, .int .i64 b, .int .i64 c, .int .i64 d] e)).ownsRow B e 4 (.slice (some ⟨w.heap.size, 0, none⟩) 1 1) 1 [.int .i64 a, .int .i64 b, .int .i64 c, .int .i64 d] :=
 ⟨rfl, .inr ⟨w.heap.size, 1, #[.int .i64 a, .int .i64 b, .int .i64 c, .int .i64 d], rfl, hb, heap_alloc_new w _, Nat.le_refl _, by decide, rfl, rfl⟩⟩
theorem infoLn : (Tryz.prog.info? 28).map (fun i => (i.zero, i.size, i.bytes)) = some (some (.agg #[.int .i64 0, .int .i64 0, .int .i64 0, .int .i64 0]), 4, 32) := by kernel_rfl
/-- A course as it lies in a box. -/
def CoBx (W : World) (B : Nat) (ax ay bx bY cx cy dx dy : Int) (so : Option Addr) (n cap : Nat) : Prop := W.cell? ⟨B, 0, none⟩ = some (.int .i64 ax) ∧ W.cell? ⟨B, 1, none⟩ = some (.int .i64 ay) ∧ W.cell? ⟨B, 2, none⟩ = some (.int .i64 bx) ∧ W.cell? ⟨B, 3, none⟩ = some (.int .i64 bY) ∧ W.cell? ⟨B, 4, none⟩ = some (.int .i64 cx) ∧ W.cell? ⟨B, 5, none⟩ = some (.int .i64 cy) ∧ W.cell? ⟨B, 6, none⟩ = some (.int .i64 dx) ∧ W.cell? ⟨B, 7, none⟩ = some (.int .i64 dy) ∧ W.cell? ⟨B, 8, none⟩ = some (.slice so n cap)
theorem CoBx.later {W W' : World} {B : Nat} {ax ay bx bY cx cy dx dy : Int} {so : Option Addr} {n cap : Nat} (hb : Below W.heap.size W W') (h : CoBx W B ax ay bx bY cx cy dx dy so n cap) : CoBx W' B ax ay bx bY cx cy dx dy so n cap := by
 obtain ⟨h0, h1, h2, h3, h4, h5, h6, h7, h8⟩ := h
 exact ⟨cell_later hb h0, cell_later hb h1, cell_later hb h2, cell_later hb h3, cell_later hb h4, cell_later hb h5, cell_later hb h6, cell_later hb h7, cell_later hb h8⟩
theorem CoBx.below {W W' : World} {B k : Nat} {ax ay bx bY cx cy dx dy : Int} {so : Option Addr} {n cap : Nat} (hb : Below k W W') (hk : B < k) (h : CoBx W B ax ay bx bY cx cy dx dy so n cap) : CoBx W' B ax ay bx bY cx cy dx dy so n cap := by
 obtain ⟨h0, h1, h2, h3, h4, h5, h6, h7, h8⟩ := h
 exact ⟨cell_below hb hk h0, cell_below hb hk h1, cell_below hb hk h2, cell_below hb hk h3, cell_below hb hk h4, cell_below hb hk h5, cell_below hb hk h6, cell_below hb hk h7, cell_below hb hk h8⟩
/-- What the lines are answered with. -/
def RetL (A B C D : Nat → Int) (n : Nat) (c0 c2 : Value) (ty : TypeId) (w : World) (e : Ending) (w' : World) : Prop := ((lnsOk A B C D (n + 1) = true ∧ ∃ g cp, e = .returned (.tuple #[.slice (some ⟨g, 0, none⟩) (n + 2) cp, c0]) ∧ w'.ownsRow w.heap.size ty 4 (.slice (some ⟨g, 0, none⟩) (n + 2) cp) (n + 2) (lnWs A B C D (n + 2))) ∨ (lnsOk A B C D (n + 1) = false ∧ e = .returned (.tuple #[.slice none 0 0, c2]))) ∧ Below w.heap.size w w'
set_option maxRecDepth 100000 in
set_option maxHeartbeats 8000000 in
theorem spec_l06Lines (ax ay bx bY cx cy dx dy : Int) (so : Option Addr) (n cap : Nat) (N : Nat → ByteArray) (X Y S Z : Nat → Int) (w : World) (h : RowAt w so n 5 (v5 N X Y S Z)) (hv : (isCo ax ay bx bY cx cy dx dy n N X Y S Z) = true) :
 Calls Tryz.prog 31 #[.agg #[.int .i64 ax, .int .i64 ay, .int .i64 bx, .int .i64 bY, .int .i64 cx, .int .i64 cy, .int .i64 dx, .int .i64 dy, .slice so n cap]] w (RetL (lnA ax ay bx bY cx cy dx dy n X Y S Z) (lnB ax ay bx bY cx cy dx dy n X Y S Z) (lnC ax ay bx bY cx cy dx dy n X Y S Z) (lnD ax ay bx bY cx cy dx dy n X Y S Z) n (.bool true) (.bool false) 28 w) := by
 obtain ⟨g1, g2, hn1, hn8, _⟩ := isCo_t hv
 obtain ⟨i1, hi, hz0, hz1', hz2'⟩ := info_parts infoLn
 have Hi := hide hi
 have Hz := hide (And.intro hz0 (And.intro hz1' hz2'))
 clear hi hz0 hz1' hz2'
 have KL := fun (k : Nat) (hk : k < n) W (hb : Below w.heap.size w W) => spec_l06Line ax ay bx bY cx cy dx dy so n cap N X Y S Z k W (RowAt.later hb h) hv hk
 have sA : lnA ax ay bx bY cx cy dx dy n X Y S Z 0 = ax := rfl
 have fA : lnA ax ay bx bY cx cy dx dy n X Y S Z (n + 1) = cx := by unfold lnA; rw [if_neg (by omega), if_neg (by omega)]
 have sB : lnB ax ay bx bY cx cy dx dy n X Y S Z 0 = ay := rfl
 have fB : lnB ax ay bx bY cx cy dx dy n X Y S Z (n + 1) = cy := by unfold lnB; rw [if_neg (by omega), if_neg (by omega)]
 have sC : lnC ax ay bx bY cx cy dx dy n X Y S Z 0 = bx := rfl
 have fC : lnC ax ay bx bY cx cy dx dy n X Y S Z (n + 1) = dx := by unfold lnC; rw [if_neg (by omega), if_neg (by omega)]
 have sD : lnD ax ay bx bY cx cy dx dy n X Y S Z 0 = bY := rfl
 have fD : lnD ax ay bx bY cx cy dx dy n X Y S Z (n + 1) = dy := by unfold lnD; rw [if_neg (by omega), if_neg (by omega)]
 generalize lnA ax ay bx bY cx cy dx dy n X Y S Z = A at *
 generalize lnB ax ay bx bY cx cy dx dy n X Y S Z = B at *
 generalize lnC ax ay bx bY cx cy dx dy n X Y S Z = C at *
 generalize lnD ax ay bx bY cx cy dx dy n X Y S Z = D at *
 have HS : lnsOk A B C D 1 = true := by show (true && isSg (A 0) (B 0) (C 0) (D 0)) = true; rw [sA, sB, sC, sD, g1]; rfl
 have HW0 : lnWs A B C D 1 = [.int .i64 ax, .int .i64 ay, .int .i64 bx, .int .i64 bY] := by show ([] : List Value) ++ [.int .i64 (A 0), .int .i64 (B 0), .int .i64 (C 0), .int .i64 (D 0)] = _; rw [sA, sB, sC, sD]; rfl
 have HW1 : lnWs A B C D (n + 2) = lnWs A B C D (n + 1) ++ [.int .i64 cx, .int .i64 cy, .int .i64 dx, .int .i64 dy] := by show lnWs A B C D (n + 1) ++ [.int .i64 (A (n + 1)), .int .i64 (B (n + 1)), .int .i64 (C (n + 1)), .int .i64 (D (n + 1))] = _; rw [fA, fB, fC, fD]
 have HS := hide HS
 have HW0 := hide HW0
 have HW1 := hide HW1
 have KL := hide KL
 clear h hv g1 g2 sA sB sC sD fA fB fC fD
 go_enter Tryz.func31, Tryz.ntmps31
 go_upto_region 1 with fail
 obtain ⟨w1, hw1⟩ : ∃ W, W = w.alloc (.cells #[.int .i64 ax, .int .i64 ay, .int .i64 bx, .int .i64 bY, .int .i64 cx, .int .i64 cy, .int .i64 dx, .int .i64 dy, .slice so n cap] 31) := ⟨_, rfl⟩
 have HC1 := hide (show CoBx w1 w.heap.size ax ay bx bY cx cy dx dy so n cap from ⟨by rw [hw1]; go_simp, by rw [hw1]; go_simp, by rw [hw1]; go_simp, by rw [hw1]; go_simp, by rw [hw1]; go_simp, by rw [hw1]; go_simp, by rw [hw1]; go_simp, by rw [hw1]; go_simp, by rw [hw1]; go_simp⟩)
 have HB1 := hide (show Below w.heap.size w w1 by rw [hw1]; exact bwz)
 have hz1 : w.heap.size + 1 ≤ w1.heap.size := by rw [hw1]; simp
 rw [← hw1]
 clear hw1
 have z0 : w.heap.size < w1.heap.size := by omega
 obtain ⟨c0, c1, c2, c3, c4, c5, c6, c7, c8⟩ := HC1.out
 have HO := hide (own_one4 (e := 28) (B := w.heap.size + 1) ax ay bx bY (show w.heap.size + 1 ≤ w1.heap.size by omega))
 go_wp2
 clear c0 c1 c2 c3 c4 c5 c6 c7 c8
 go_loopw [4, 5] (fun v i wr => ∃ k g9 cp9 : Nat, k ≤ n ∧ i = .int .i64 k ∧ v = .slice (some ⟨g9, 0, none⟩) (k + 1) cp9 ∧ Hid (lnsOk A B C D (k + 1) = true) ∧ Hid (wr.ownsRow (w.heap.size + 1) 28 4 (.slice (some ⟨g9, 0, none⟩) (k + 1) cp9) (k + 1) (lnWs A B C D (k + 1))) ∧ Hid (CoBx wr w.heap.size ax ay bx bY cx cy dx dy so n cap) ∧ Below w.heap.size w wr ∧ w.heap.size + 1 ≤ wr.heap.size) (fun _ i _ => n - (intOf i).toNat)
 case atStart => exact ⟨0, w1.heap.size, 1, Nat.zero_le _, rfl, rfl, HS, hide (by rw [show (0 : Nat) + 1 = 1 from rfl, HW0.out]; exact HO.out), hide (CoBx.later (Below.alloc (Below.refl _ _) (Nat.le_refl _) _) HC1.out), Below.alloc HB1.out (by omega) _, by simp; omega⟩
 case round =>
  clear HO HC1 HB1 hz1 z0 HS
  obtain ⟨k, g9, cp9, hk, rfl, rfl, HS, HO, HC, hbl, hsz⟩ := hrel
  have zr : w.heap.size < wr.heap.size := by omega
  have HBl := hide hbl
  clear hbl
  obtain ⟨c0, c1, c2, c3, c4, c5, c6, c7, c8⟩ := HC.out
  by_cases hlt : k < n
  ·have hi0 : (0 : Int) ≤ (k : Int) := by omega
   have hi1 : (k : Int) < (n : Int) := by omega
   have Kl := fun W (hb : Below w.heap.size w W) => KL.out k hlt W hb
   have hok : lnsOk A B C D (k + 1 + 1) = (lnsOk A B C D (k + 1) && isSg (A (k + 1)) (B (k + 1)) (C (k + 1)) (D (k + 1))) := rfl
   have hw2 : lnWs A B C D (k + 1 + 1) = lnWs A B C D (k + 1) ++ [.int .i64 (A (k + 1)), .int .i64 (B (k + 1)), .int .i64 (C (k + 1)), .int .i64 (D (k + 1))] := rfl
   have hno : isSg (A (k + 1)) (B (k + 1)) (C (k + 1)) (D (k + 1)) = false → lnsOk A B C D (n + 1) = false := fun q => lnsOk_f (i := k + 1) (by omega) q
   generalize A (k + 1) = a1 at *
   generalize B (k + 1) = a2 at *
   generalize C (k + 1) = a3 at *
   generalize D (k + 1) = a4 at *
   rw [HS.out, Bool.true_and] at hok
   obtain ⟨s9, hs9⟩ : ∃ v, v = isSg a1 a2 a3 a4 := ⟨_, rfl⟩
   rw [← hs9] at hok hno
   rw [← hs9] at Kl
   have Hok := hide hok
   have Hw2 := hide hw2
   have Hno := hide hno
   have Kl := hide Kl
   clear hok hw2 hno hs9
   go_wp2_with fail; (with_reducible refine (Kl.out _ HBl.out).mono ?_); rintro e w2 ⟨rfl, hb2⟩
   have HO2 := hide (own_later hb2 HO.out)
   have HC2 := hide (CoBx.later hb2 HC.out)
   have HB2 := hide (bstep HBl.out hb2)
   have sz2 : w.heap.size + 1 ≤ w2.heap.size := by have := hb2.size; omega
   clear HO HC HBl hb2 c0 c1 c2 c3 c4 c5 c6 c7 c8 Kl KL
   go_upto_region 6 with fail
   obtain ⟨wA, hA⟩ : ∃ W, W = w2.alloc (.cells #[.int .i64 a1, .int .i64 a2, .int .i64 a3, .int .i64 a4] 28) := ⟨_, rfl⟩
   have m0 : wA.cell? ⟨w2.heap.size, 0, none⟩ = some (.int .i64 a1) := by rw [hA]; go_simp
   have m1 : wA.cell? ⟨w2.heap.size, 1, none⟩ = some (.int .i64 a2) := by rw [hA]; go_simp
   have m2 : wA.cell? ⟨w2.heap.size, 2, none⟩ = some (.int .i64 a3) := by rw [hA]; go_simp
   have m3 : wA.cell? ⟨w2.heap.size, 3, none⟩ = some (.int .i64 a4) := by rw [hA]; go_simp
   have HOA := hide (show wA.ownsRow (w.heap.size + 1) 28 4 (.slice (some ⟨g9, 0, none⟩) (k + 1) cp9) (k + 1) (lnWs A B C D (k + 1)) by rw [hA]; exact HO2.out.alloc _)
   have HCA := hide (show CoBx wA w.heap.size ax ay bx bY cx cy dx dy so n cap by rw [hA]; exact CoBx.later (Below.alloc (Below.refl _ _) (Nat.le_refl _) _) HC2.out)
   have HBA := hide (show Below w.heap.size w wA by rw [hA]; exact Below.alloc HB2.out (by omega) _)
   have szA : w.heap.size + 1 ≤ wA.heap.size := by rw [hA]; simp; omega
   have szB : w2.heap.size < wA.heap.size := by rw [hA]; simp
   rw [← hA]
   clear hA HO2 HC2 HB2
   obtain ⟨w3, rfl⟩ : ∃ W : World, W = wA := ⟨_, rfl⟩
   have n0 := m0
   have n1 := m1
   have n2 := m2
   have n3 := m3
   have HO3 := HOA
   have HC3 := HCA
   have HB3 := HBA
   have sz3 := szA
   have sz4 := szB
   clear m0 m1 m2 m3 HOA HCA HBA
   cases s9
   ·have Hn := hide (Hno.out rfl)
    clear Hno Hok Hw2
    go_wp2
    go_ret2
    exact ⟨.inr ⟨Hn.out, rfl⟩, HB3.out⟩
   ·have hO3 := HO3.out
    clear Hno
    go_wp2_with (at_builtin; refine wpList_append_lies _ rfl _ _ 75 rfl (w.heap.size + 1) 28 i1 _ 4 32 Tryz.underlying75 Hi.out Hz.out.1 Hz.out.2.1 Hz.out.2.2 rfl (by decide) _ _ _ rfl (hO3.alloc _) ⟨w3.heap.size, 0, none⟩ 1 1 [.int .i64 a1, .int .i64 a2, .int .i64 a3, .int .i64 a4] rfl rfl new4 (one4 _ _ _ _) (by decide) (by unfold maxLen; omega) (by omega) (by simp; omega) (w3.heap.size + 1) (by simp) ?_)
    intro g' cap' wZ hown' hgr' hat hlt'
    have hbZ := below_grown hO3 (by omega) hgr'
    have szZ := hbZ.size
    go_wp2
    go_roundw
    case rel => exact ⟨k + 1, g', cap', by omega, by go_num, by go_num, hide Hok.out, hide (by rw [Hw2.out]; exact hown'), hide (CoBx.below hbZ (by omega) HC3.out), HB3.out.trans (hbZ.mono (by omega)), by omega⟩
    case measure => simp [intOf]; omega
  ·obtain rfl : k = n := by omega
   have hO3 := HO.out
   go_wp2_with (at_builtin; refine wpList_append_lies _ rfl _ _ 75 rfl (w.heap.size + 1) 28 i1 _ 4 32 Tryz.underlying75 Hi.out Hz.out.1 Hz.out.2.1 Hz.out.2.2 rfl (by decide) _ _ _ rfl (hO3.alloc _) ⟨wr.heap.size, 0, none⟩ 1 1 [.int .i64 cx, .int .i64 cy, .int .i64 dx, .int .i64 dy] rfl rfl new4 (one4 _ _ _ _) (by decide) (by unfold maxLen; omega) (by omega) (by simp; omega) (wr.heap.size + 1) (by simp) ?_)
   intro g' cap' wZ hown' hgr' hat hlt'
   have hbZ := below_grown hO3 (by omega) hgr'
   go_wp2
   go_ret2
   exact ⟨.inl ⟨HS.out, g', cap', rfl, by rw [HW1.out]; exact hown'.mono (by omega)⟩, HBl.out.trans (hbZ.mono (by omega))⟩
end Go.Proofs.YthlnpcneicmblaaGreatDoor
