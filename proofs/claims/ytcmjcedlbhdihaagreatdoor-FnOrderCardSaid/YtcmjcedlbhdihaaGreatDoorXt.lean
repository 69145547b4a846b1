/- Walks: the times at which the lines of a course are crossed one after the other, of both. -/
import Derived.Test.YtcmjcedlbhdihaaGreatDoorXn
import Derived.Test.YtcmjcedlbhdihaaGreatDoorGv
namespace Go.Proofs.YtcmjcedlbhdihaaGreatDoor
open Go.RowKit

theorem tm_stop {A B C D T U V : Nat → Int} {n k : Nat} (h : (tmS A B C D T U V n k).2 = false) : ∀ j, tmS A B C D T U V n (k + j) = tmS A B C D T U V n k := fun j => by
 induction j with
 | zero => rfl
 | succ j ih =>
  have e : tmS A B C D T U V n (k + j + 1) = if (tmS A B C D T U V n (k + j)).2 = true then (if fcT (A (k + j)) (B (k + j)) (C (k + j)) (D (k + j)) T U V (lastI (tmS A B C D T U V n (k + j)).1) (cxs (A (k + j)) (B (k + j)) (C (k + j)) (D (k + j)) U V (n - 1)) < 0 then ((tmS A B C D T U V n (k + j)).1, false) else ((tmS A B C D T U V n (k + j)).1 ++ [fcT (A (k + j)) (B (k + j)) (C (k + j)) (D (k + j)) T U V (lastI (tmS A B C D T U V n (k + j)).1) (cxs (A (k + j)) (B (k + j)) (C (k + j)) (D (k + j)) U V (n - 1))], true)) else tmS A B C D T U V n (k + j) := rfl
  show tmS A B C D T U V n (k + j + 1) = _
  rw [e, ih, h, if_neg (by decide)]
theorem tm_step {A B C D T U V : Nat → Int} {n k : Nat} {Lc : List Int} {f : Int} (h : tmS A B C D T U V n k = (Lc, true)) (hf : f = fcT (A k) (B k) (C k) (D k) T U V (lastI Lc) (cxs (A k) (B k) (C k) (D k) U V (n - 1))) : tmS A B C D T U V n (k + 1) = if f < 0 then (Lc, false) else (Lc ++ [f], true) := by
 have e : tmS A B C D T U V n (k + 1) = if (tmS A B C D T U V n k).2 = true then (if fcT (A k) (B k) (C k) (D k) T U V (lastI (tmS A B C D T U V n k).1) (cxs (A k) (B k) (C k) (D k) U V (n - 1)) < 0 then ((tmS A B C D T U V n k).1, false) else ((tmS A B C D T U V n k).1 ++ [fcT (A k) (B k) (C k) (D k) T U V (lastI (tmS A B C D T U V n k).1) (cxs (A k) (B k) (C k) (D k) U V (n - 1))], true)) else tmS A B C D T U V n k := rfl
 rw [e, h]
 dsimp only
 rw [if_pos rfl, ← hf]
theorem tm_no {A B C D T U V : Nat → Int} {n k m : Nat} {Lc : List Int} {f : Int} (h : tmS A B C D T U V n (k + 1) = if f < 0 then (Lc, false) else (Lc ++ [f], true)) (h0 : ¬ 0 ≤ f) (hk : k < m) : (tmS A B C D T U V n m).1 = Lc := by
 rw [if_pos (by omega)] at h
 have := tm_stop (A := A) (B := B) (C := C) (D := D) (T := T) (U := U) (V := V) (n := n) (k := k + 1) (by rw [h]) (m - (k + 1))
 rw [show k + 1 + (m - (k + 1)) = m by omega, h] at this
 rw [this]
theorem lastI_app (L : List Int) (x : Int) : lastI (L ++ [x]) = x := by
 unfold lastI
 rw [List.length_append, List.length_singleton, if_neg (by omega), Nat.add_sub_cancel, lgt_new]
theorem RetF.yes {w w' : World} {f : Int} {e : Ending} (h : RetF w f e w') (hf : 0 ≤ f) : (∃ x2 x3 x4 x5 : Int, e = .returned (.tuple #[.agg #[.int .i64 f, .int .i64 x2, .int .i64 x3, .int .i64 x4, .int .i64 x5], .bool true])) ∧ Below w.heap.size w w' := by
 obtain ⟨⟨x1, x2, x3, x4, x5, he, hx⟩, hb⟩ := h
 rw [hx hf, decide_eq_true hf] at he
 exact ⟨⟨x2, x3, x4, x5, he⟩, hb⟩
theorem RetF.no {w w' : World} {f : Int} {e : Ending} (h : RetF w f e w') (hf : ¬ 0 ≤ f) : (∃ x1 x2 x3 x4 x5 : Int, e = .returned (.tuple #[.agg #[.int .i64 x1, .int .i64 x2, .int .i64 x3, .int .i64 x4, .int .i64 x5], .bool false])) ∧ Below w.heap.size w w' := by
 obtain ⟨⟨x1, x2, x3, x4, x5, he, hx⟩, hb⟩ := h
 rw [decide_eq_false hf] at he
 exact ⟨⟨x1, x2, x3, x4, x5, he⟩, hb⟩
/-- A line of a row of lines. -/
theorem RowAt.on4 {w : World} {g m : Nat} {A B C D : Nat → Int} (h : RowAt w (some ⟨g, 0, none⟩) m 4 (v4 A B C D)) (i : Nat) (hi : i < m) : w.cell? ⟨g, i * 4, none⟩ = some (.int .i64 (A i)) ∧ w.cell? ⟨g, i * 4 + 1, none⟩ = some (.int .i64 (B i)) ∧ w.cell? ⟨g, i * 4 + 2, none⟩ = some (.int .i64 (C i)) ∧ w.cell? ⟨g, i * 4 + 3, none⟩ = some (.int .i64 (D i)) := by
 obtain ⟨b', o', e', k⟩ := h i hi
 simp only [Option.some.injEq, Addr.mk.injEq] at e'
 obtain ⟨rfl, rfl, _⟩ := e'
 have c0 := k 0 (by decide)
 have c1 := k 1 (by decide)
 have c2 := k 2 (by decide)
 have c3 := k 3 (by decide)
 rw [Nat.zero_add] at c0 c1 c2 c3
 exact ⟨c0, c1, c2, c3⟩
theorem own_lines {w : World} {B' : Nat} {e : TypeId} {g cp m : Nat} {A B C D : Nat → Int} (h : w.ownsRow B' e 4 (.slice (some ⟨g, 0, none⟩) m cp) m (lnWs A B C D m)) : RowAt w (some ⟨g, 0, none⟩) m 4 (v4 A B C D) := fun i hi => ⟨g, 0, rfl, fun j hj => by
 have k : ∀ v, (lnW A B C D i)[j]? = some v → w.cell? ⟨g, 0 + i * 4 + j, none⟩ = some v := fun v hv => by
  have := h.cells (g := g) rfl (i * 4 + j) v ((lnWs_at A B C D m i j hi hj).trans hv)
  rw [Addr.add_lit, Nat.zero_add] at this
  rwa [Nat.zero_add]
 rcases (by omega : j = 0 ∨ j = 1 ∨ j = 2 ∨ j = 3) with rfl | rfl | rfl | rfl <;> exact k _ rfl⟩
set_option maxRecDepth 100000 in
set_option maxHeartbeats 8000000 in
theorem impl_timesAcross (A B C D : Nat → Int) (gl m cpl : Nat) (b o n cap : Nat) (T U V : Nat → Int) (w : World) (hl : RowAt w (some ⟨gl, 0, none⟩) m 4 (v4 A B C D)) (hm : m ≤ 10) (h : RowAt w (some ⟨b, o, none⟩) n 3 (v3 T U V)) (hv : isTr n T U V = true) (hs : ∀ i, i < m → isSg (A i) (B i) (C i) (D i) = true) :
 Calls Tryz.prog 19 #[.slice (some ⟨gl, 0, none⟩) m cpl, .agg #[.slice (some ⟨b, o, none⟩) n cap]] w fun e w' => ∃ g cp, e = .returned (.slice (some ⟨g, 0, none⟩) (tmS A B C D T U V n m).1.length cp) ∧ w'.ownsRow w.heap.size 2 1 (.slice (some ⟨g, 0, none⟩) (tmS A B C D T U V n m).1.length cp) (tmS A B C D T U V n m).1.length ((tmS A B C D T U V n m).1.map (Value.int .i64)) ∧ Below w.heap.size w w' := by
 obtain ⟨hn2, hn40, _⟩ := isTr_t hv
 obtain ⟨i1, hi, hz0, hz1', hz2'⟩ := info_parts infoI64
 have Hi := hide hi
 have Hz := hide (And.intro hz0 (And.intro hz1' hz2'))
 clear hi hz0 hz1' hz2'
 have KF := hide (fun (k : Nat) (hk : k < m) (fr : Int) W (hb : Below w.heap.size w W) => impl_firstCrossing (A k) (B k) (C k) (D k) b o n cap T U V fr W (RowAt.later hb h) hv (hs k hk))
 obtain ⟨R9, hR9⟩ : ∃ R, R = (tmS A B C D T U V n m).1 := ⟨_, rfl⟩
 rw [← hR9]
 have HR := hide hR9
 have Hl := hide hl
 clear hR9 h hv hs hl
 go_enter Tryz.func19, Tryz.ntmps19
 go_wp2
 go_loopw [5, 6, 14] (fun v s6 i wr => ∃ (k g9 cp9 : Nat) (Lc : List Int), k ≤ m ∧ i = .int .i64 k ∧ Lc.length = k ∧ v = .slice (some ⟨g9, 0, none⟩) Lc.length cp9 ∧ s6 = .int .i64 (lastI Lc) ∧ Hid (tmS A B C D T U V n k = (Lc, true)) ∧ Hid (wr.ownsRow (w.heap.size + 1) 2 1 (.slice (some ⟨g9, 0, none⟩) Lc.length cp9) Lc.length (Lc.map (Value.int .i64))) ∧ wr.cell? ⟨w.heap.size, 0, none⟩ = some (.slice (some ⟨b, o, none⟩) n cap) ∧ Below w.heap.size w wr) (fun _ _ i _ => m - (intOf i).toNat)
 case atStart =>
  refine ⟨0, w.heap.size + 1, 0, [], Nat.zero_le _, rfl, rfl, rfl, rfl, hide rfl, hide ?_, by go_simp, bwz⟩
  have hm0 := World.ownsRow_made (base := w.heap.size + 1) (e := 2) (size := 1) (w.alloc (.cells #[.slice (some ⟨b, o, none⟩) n cap] 43)) #[] 0 (by simp) (by decide) rfl
  simp only [size_al] at hm0
  exact hm0
 case round =>
  obtain ⟨k, g9, cp9, Lc, hk, rfl, rfl, rfl, rfl, HT, HO, e0, hbl⟩ := hrel
  have hgl := (HO.out.lt g9 rfl).2
  have hgb := (HO.out.lt g9 rfl).1
  have zr : w.heap.size < wr.heap.size := World.block_lt_of_cell? _ _ e0
  by_cases hlt : Lc.length < m
  ·obtain ⟨l0, l1, l2, l3⟩ := RowAt.on4 (RowAt.later hbl Hl.out) Lc.length hlt
   have hls : gl < wr.heap.size := World.block_lt_of_cell? _ _ l0
   have hj1 : (0 : Int) ≤ (Lc.length : Int) := by omega
   have hj2 : (Lc.length : Int) < (m : Int) := by omega
   have Kf := KF.out Lc.length hlt (lastI Lc)
   obtain ⟨f9, hf9⟩ : ∃ f, f = fcT (A Lc.length) (B Lc.length) (C Lc.length) (D Lc.length) T U V (lastI Lc) (cxs (A Lc.length) (B Lc.length) (C Lc.length) (D Lc.length) U V (n - 1)) := ⟨_, rfl⟩
   have Hst := hide (tm_step HT.out hf9)
   rw [← hf9] at Kf
   clear hf9 HT
   generalize A Lc.length = a1 at *
   generalize B Lc.length = a2 at *
   generalize C Lc.length = a3 at *
   generalize D Lc.length = a4 at *
   generalize lastI Lc = fr at *
   have HBl := hide hbl
   clear hbl
   by_cases hf : 0 ≤ f9
   ·have Kf := hide (fun W (hb : Below w.heap.size w W) => (Kf W hb).mono fun _ _ q => RetF.yes q hf)
    go_wp2_with fail; (with_reducible refine (Kf.out _ (Below.alloc HBl.out (by omega) _)).mono ?_); rintro e wF ⟨⟨x2, x3, x4, x5, rfl⟩, hbF⟩
    have HOF := hide (own_later hbF (HO.out.alloc _))
    have eF := cell_later hbF (cell_alloc e0)
    have HBF := hide (bstep (Below.alloc HBl.out (by omega) _) hbF)
    have zF := hbF.size
    rw [size_al] at zF
    have zF1 : w.heap.size < wF.heap.size := by omega
    clear hbF HO e0 HBl l0 l1 l2 l3 Kf
    go_upto_region 7 with fail
    obtain ⟨wQ, hQ⟩ : ∃ W, W = wF.alloc (.cells #[.int .i64 f9, .int .i64 x2, .int .i64 x3, .int .i64 x4, .int .i64 x5] 87) := ⟨_, rfl⟩
    have cQ : wQ.cell? ⟨wF.heap.size, 0, none⟩ = some (.int .i64 f9) := by rw [hQ]; go_simp
    have eQ : wQ.cell? ⟨w.heap.size, 0, none⟩ = some (.slice (some ⟨b, o, none⟩) n cap) := by rw [hQ]; exact cell_alloc eF
    have hOut : wQ.ownsRow (w.heap.size + 1) 2 1 (.slice (some ⟨g9, 0, none⟩) Lc.length cp9) Lc.length (Lc.map (Value.int .i64)) := by rw [hQ]; exact HOF.out.alloc _
    have hbQ : Below w.heap.size w wQ := by rw [hQ]; exact Below.alloc HBF.out (by omega) _
    have zQ : wF.heap.size < wQ.heap.size := by rw [hQ]; simp
    have zQ1 : w.heap.size < wQ.heap.size := by omega
    rw [← hQ]
    clear hQ eF HOF HBF
    refine wp_region_held_drew (S := fun W => W.cell? ⟨wF.heap.size, 0, none⟩ = some (.int .i64 f9) ∧ W.cell? ⟨w.heap.size, 0, none⟩ = some (.slice (some ⟨b, o, none⟩) n cap) ∧ Below w.heap.size w W) (by kernel_rfl) (⟨by simpa using cQ, by simpa using eQ, Below.drew hbQ⟩) (fun hHeld => ?_)
    refine wpAnyH_take (i := 0) (oi := ⟨some 27, _, _, _, _, _⟩) (v := ?_) rfl (by kernel_rfl) (by kernel_rfl) (by kernel_rfl) (by intro _ _ _ h; exact h) (Or.inl ⟨by kernel_rfl, ?_⟩) (by assumption) ?_; rotate_left; focus (intro W0 hSw; (have hSw1 := hSw.1); (have hSw2 := hSw.2.1); go_simp; (try with_reducible rfl)); (try simp only [pz])
    refine wpAnyH_take (i := 1) (oi := ⟨some 28, _, _, _, _, _⟩) (v := ?_) rfl (by kernel_rfl) (by kernel_rfl) (by kernel_rfl) (by intro _ _ _ h; exact h) (Or.inl ⟨by kernel_rfl, ?_⟩) (by assumption) ?_; rotate_left; focus (intro W0 hSw; (have hSw1 := hSw.1); (have hSw2 := hSw.2.1); go_simp; (try with_reducible rfl)); (try simp only [pz])
    refine wpAnyH_take (i := 2) (oi := ⟨some 29, _, _, _, _, _⟩) (v := ?_) rfl (by kernel_rfl) (by kernel_rfl) (by kernel_rfl) (by intro _ _ _ h; exact h) (Or.inl ⟨by kernel_rfl, ?_⟩) (by assumption) ?_; rotate_left; focus (intro W0 hSw; (have hSw1 := hSw.1); (have hSw2 := hSw.2.1); go_simp; (try with_reducible rfl)); (try simp only [pz])
    refine wpAnyH_take (i := 5) (oi := ⟨some 32, _, _, _, _, _⟩) (v := ?_) rfl (by kernel_rfl) (by kernel_rfl) (by kernel_rfl) (by intro _ _ _ h; exact h) (Or.inl ⟨by kernel_rfl, ?_⟩) (by assumption) ?_; rotate_left; focus (intro W0 hSw; (have hSw1 := hSw.1); (have hSw2 := hSw.2.1); go_simp; (try with_reducible rfl)); (try simp only [pz])
    refine wpAnyH_take (i := 6) (oi := ⟨some 33, _, _, _, _, _⟩) (v := ?_) rfl (by kernel_rfl) (by kernel_rfl) (by kernel_rfl) (by intro _ _ _ h; exact h) (Or.inl ⟨by kernel_rfl, ?_⟩) (by assumption) ?_; rotate_left; focus (intro W0 hSw; (have hSw1 := hSw.1); (have hSw2 := hSw.2.1); go_simp; (try with_reducible rfl)); (try simp only [pz])
    refine rd1 3 (some 30) rfl (fun K hK => ?_)
    go_simp
    all_goals (try go_wp2_with fail)
    refine hK.out _ _ (⟨cell_alloc hHeld.1, cell_alloc hHeld.2.1, Below.alloc hHeld.2.2 hHeld.2.2.size _⟩) (fun hH2 => ?_)
    clear hK K hHeld; (have hHeld := hH2); clear hH2; (try simp only [pz])
    refine rd1 4 (some 31) rfl (fun K hK => ?_)
    refine step_append_lies _ (by rfl) _ _ 34 (by rfl) (w.heap.size + 1) 2 i1 _ 1 8 Tryz.underlying34 Hi.out Hz.out.1 Hz.out.2.1 Hz.out.2.2 (by rfl) (by decide) (.slice (some ⟨g9, 0, none⟩) Lc.length cp9) Lc.length _ (by rfl) (hOut.drew.alloc _) ⟨wQ.heap.size, 0, none⟩ 1 1 [.int .i64 f9] (by rfl) (by rfl) (new1 (W := wQ.drew)) (one1 _) (by decide) (by unfold maxLen; omega) (by omega) (by simp; omega) (wQ.heap.size + 1) (by simp) ?_
    intro g' cap' wA hown' hgr hat hlt'
    refine hK.out _ _ (⟨(gcell hgr wF.heap.size 0 (by simp; omega) (by show wF.heap.size ≠ g9; omega)).trans hHeld.1, (gcell hgr w.heap.size 0 (by simp; omega) (by show w.heap.size ≠ g9; omega)).trans hHeld.2.1, hHeld.2.2.trans (own_grown (hOut.drew.alloc _) (by simp; omega) hgr |>.mono (by omega))⟩) (fun hH2 => ?_)
    clear hK K hHeld; (have hHeld := hH2); clear hH2; (try simp only [pz])
    refine wpAnyH_take (i := 7) (oi := ⟨some 5, _, _, _, _, _⟩) (v := ?_) rfl (by kernel_rfl) (by kernel_rfl) (by kernel_rfl) (by intro _ _ _ h; exact h) (Or.inl ⟨by kernel_rfl, ?_⟩) (by assumption) ?_; rotate_left; focus (intro W0 hSw; (have hSw1 := hSw.1); (have hSw2 := hSw.2.1); go_simp; (try with_reducible rfl)); (try simp only [pz])
    refine wpAnyH_take (i := 8) (oi := ⟨some 6, _, _, _, _, _⟩) (v := ?_) rfl (by kernel_rfl) (by kernel_rfl) (by kernel_rfl) (by intro _ _ _ h; exact h) (Or.inl ⟨by kernel_rfl, ?_⟩) (by assumption) ?_; rotate_left; focus (intro W0 hSw; (have hSw1 := hSw.1); (have hSw2 := hSw.2.1); go_simp; (try with_reducible rfl)); (try simp only [pz])
    refine wpAnyH_done (by kernel_rfl) ?_ _; (try simp only [pz])
    have eA := hHeld.2.1
    have HBA := hide hHeld.2.2
    have HOA := hide hown'
    clear hown' hgr hat hlt' hHeld cQ eQ hOut hbQ
    go_wp2
    go_roundw
    case rel => exact ⟨Lc.length + 1, g', cap', Lc ++ [f9], by omega, by go_num, by rw [List.length_append, List.length_singleton], by rw [List.length_append, List.length_singleton], by rw [lastI_app], hide (Hst.out.trans (if_neg (by omega))), hide (by rw [List.length_append, List.length_singleton, List.map_append]; exact HOA.out), eA, HBA.out⟩
    case measure => simp [intOf]; omega
   ·have Kf := hide (fun W (hb : Below w.heap.size w W) => (Kf W hb).mono fun _ _ q => RetF.no q hf)
    have He := hide (HR.out.trans (tm_no Hst.out hf hlt))
    clear Hst HR
    go_wp2_with fail; (with_reducible refine (Kf.out _ (Below.alloc HBl.out (by omega) _)).mono ?_); rintro e wF ⟨⟨x1, x2, x3, x4, x5, rfl⟩, hbF⟩
    have HOF := hide (own_later hbF (HO.out.alloc _))
    have eF := cell_later hbF (cell_alloc e0)
    have HBF := hide (bstep (Below.alloc HBl.out (by omega) _) hbF)
    have zF := hbF.size
    rw [size_al] at zF
    have zF1 : w.heap.size < wF.heap.size := by omega
    clear hbF HO e0 HBl l0 l1 l2 l3 Kf
    obtain rfl := He.out
    go_wp2
    go_ret
    exact ⟨g9, cp9, rfl, (HOF.out.alloc _).mono (by omega), Below.alloc HBF.out (by omega) _⟩
  ·have He := hide (show R9 = Lc by rw [HR.out, show m = Lc.length by omega, HT.out])
   clear HT HR
   obtain rfl := He.out
   go_wp2
   go_ret
   exact ⟨g9, cp9, rfl, HO.out.mono (by omega), hbl⟩
set_option maxRecDepth 100000 in
set_option maxHeartbeats 8000000 in
theorem spec_l06Times (ax ay bx bY cx cy dx dy : Int) (so : Option Addr) (n9 cap9 : Nat) (N : Nat → ByteArray) (X Y S Z : Nat → Int) (b o n cap : Nat) (T U V : Nat → Int) (A B C D : Nat → Int) (w : World) (hc : RowAt w so n9 5 (v5 N X Y S Z)) (hco : (isCo ax ay bx bY cx cy dx dy n9 N X Y S Z) = true) (hA : A = lnA ax ay bx bY cx cy dx dy n9 X Y S Z) (hB : B = lnB ax ay bx bY cx cy dx dy n9 X Y S Z) (hC : C = lnC ax ay bx bY cx cy dx dy n9 X Y S Z) (hD : D = lnD ax ay bx bY cx cy dx dy n9 X Y S Z) (hok : lnsOk A B C D (n9 + 1) = true) (hs2 : isSg (A (n9 + 1)) (B (n9 + 1)) (C (n9 + 1)) (D (n9 + 1)) = true) (h : RowAt w (some ⟨b, o, none⟩) n 3 (v3 T U V)) (hv : isTr n T U V = true) :
 Calls Tryz.prog 26 #[.agg #[.int .i64 ax, .int .i64 ay, .int .i64 bx, .int .i64 bY, .int .i64 cx, .int .i64 cy, .int .i64 dx, .int .i64 dy, .slice so n9 cap9], .agg #[.slice (some ⟨b, o, none⟩) n cap]] w fun e w' => ∃ g cp, e = .returned (.slice (some ⟨g, 0, none⟩) (tmS A B C D T U V n (n9 + 2)).1.length cp) ∧ w'.ownsRow w.heap.size 2 1 (.slice (some ⟨g, 0, none⟩) (tmS A B C D T U V n (n9 + 2)).1.length cp) (tmS A B C D T U V n (n9 + 2)).1.length ((tmS A B C D T U V n (n9 + 2)).1.map (Value.int .i64)) ∧ Below w.heap.size w w' := by
 have hn8 := (isCo_t hco).2.2.2.1
 have KN := fun W (hb : Below w.heap.size w W) => (show Calls Tryz.prog 25 #[.agg #[.int .i64 ax, .int .i64 ay, .int .i64 bx, .int .i64 bY, .int .i64 cx, .int .i64 cy, .int .i64 dx, .int .i64 dy, .slice so n9 cap9]] W fun e w' => (∃ g cp, e = .returned (.tuple #[.slice (some ⟨g, 0, none⟩) (n9 + 2) cp, .bool true]) ∧ RowAt w' (some ⟨g, 0, none⟩) (n9 + 2) 4 (v4 A B C D)) ∧ Below W.heap.size W w' from (spec_l06Lines ax ay bx bY cx cy dx dy so n9 cap9 N X Y S Z W (RowAt.later hb hc) hco).mono fun e w' q => by
  rw [← hA, ← hB, ← hC, ← hD] at q
  obtain ⟨⟨_, g, cp, he, ho⟩ | ⟨q0, _⟩, hb'⟩ := q
  ·exact ⟨⟨g, cp, he, own_lines ho⟩, hb'⟩
  ·rw [hok] at q0; exact absurd q0 (by decide))
 have hs : ∀ i, i < n9 + 2 → isSg (A i) (B i) (C i) (D i) = true := fun i hi => by
  rcases Nat.lt_or_ge i (n9 + 1) with q | q
  ·exact lnsOk_t hok i q
  ·obtain rfl : i = n9 + 1 := by omega
   exact hs2
 obtain ⟨m, hm9⟩ : ∃ m : Nat, m = n9 + 2 := ⟨_, rfl⟩
 rw [← hm9] at KN hs ⊢
 have hm : m ≤ 10 := by omega
 have KN := hide KN
 clear hA hB hC hD hok hs2 hco hc hm9 hn8
 obtain ⟨hn2, hn40, _⟩ := isTr_t hv
 obtain ⟨i1, hi, hz0, hz1', hz2'⟩ := info_parts infoI64
 have Hi := hide hi
 have Hz := hide (And.intro hz0 (And.intro hz1' hz2'))
 clear hi hz0 hz1' hz2'
 have KF := hide (fun (k : Nat) (hk : k < m) (fr : Int) W (hb : Below w.heap.size w W) => spec_l05First (A k) (B k) (C k) (D k) b o n cap T U V fr W (RowAt.later hb h) hv (hs k hk))
 obtain ⟨R9, hR9⟩ : ∃ R, R = (tmS A B C D T U V n m).1 := ⟨_, rfl⟩
 rw [← hR9]
 have HR := hide hR9
 clear hR9 h hv hs
 go_enter Tryz.func26, Tryz.ntmps26
 go_wp2_with fail; (with_reducible refine (KN.out _ bwz).mono ?_); rintro e w1 ⟨⟨gl, cpl, rfl, hl⟩, hb1⟩
 have Hl := hide hl
 have t0 : w1.cell? ⟨w.heap.size + 1, 0, none⟩ = some (.slice (some ⟨b, o, none⟩) n cap) := by rw [(bcell hb1).1 _ _ (by simp)]; go_simp
 have HB1 := hide (show Below w.heap.size w w1 from bwz)
 have zz1 : w.heap.size + 1 < w1.heap.size := by have := hb1.size; simp at this; omega
 have zz0 : w.heap.size < w1.heap.size := by omega
 clear hl hb1 KN
 go_wp2
 go_loopw [7, 8, 9] (fun v s6 i wr => ∃ (k g9 cp9 : Nat) (Lc : List Int), k ≤ m ∧ i = .int .i64 k ∧ Lc.length = k ∧ v = .slice (some ⟨g9, 0, none⟩) Lc.length cp9 ∧ s6 = .int .i64 (lastI Lc) ∧ Hid (tmS A B C D T U V n k = (Lc, true)) ∧ Hid (wr.ownsRow (w1.heap.size) 2 1 (.slice (some ⟨g9, 0, none⟩) Lc.length cp9) Lc.length (Lc.map (Value.int .i64))) ∧ wr.cell? ⟨w.heap.size + 1, 0, none⟩ = some (.slice (some ⟨b, o, none⟩) n cap) ∧ Below w.heap.size w wr ∧ Below w1.heap.size w1 wr) (fun _ _ i _ => m - (intOf i).toNat)
 case atStart =>
  refine ⟨0, w1.heap.size, 0, [], Nat.zero_le _, rfl, rfl, rfl, rfl, hide rfl, hide ?_, by go_simp, Below.alloc HB1.out (by omega) _, Below.alloc (Below.refl _ _) (Nat.le_refl _) _⟩
  have hm0 := World.ownsRow_made (base := w1.heap.size) (e := 2) (size := 1) (w1) #[] 0 (by simp) (by decide) rfl
  skip
  exact hm0
 case round =>
  obtain ⟨k, g9, cp9, Lc, hk, rfl, rfl, rfl, rfl, HT, HO, e0, hbl, hbl1⟩ := hrel
  have hgl := (HO.out.lt g9 rfl).2
  have hgb := (HO.out.lt g9 rfl).1
  have zr : w.heap.size + 1 < wr.heap.size := World.block_lt_of_cell? _ _ e0
  have zr0 : w.heap.size < wr.heap.size := by omega
  by_cases hlt : Lc.length < m
  ·obtain ⟨l0, l1, l2, l3⟩ := RowAt.on4 (RowAt.later hbl1 Hl.out) Lc.length hlt
   have hls : gl < wr.heap.size := World.block_lt_of_cell? _ _ l0
   have hj1 : (0 : Int) ≤ (Lc.length : Int) := by omega
   have hj2 : (Lc.length : Int) < (m : Int) := by omega
   have Kf := KF.out Lc.length hlt (lastI Lc)
   obtain ⟨f9, hf9⟩ : ∃ f, f = fcT (A Lc.length) (B Lc.length) (C Lc.length) (D Lc.length) T U V (lastI Lc) (cxs (A Lc.length) (B Lc.length) (C Lc.length) (D Lc.length) U V (n - 1)) := ⟨_, rfl⟩
   have Hst := hide (tm_step HT.out hf9)
   rw [← hf9] at Kf
   clear hf9 HT
   generalize A Lc.length = a1 at *
   generalize B Lc.length = a2 at *
   generalize C Lc.length = a3 at *
   generalize D Lc.length = a4 at *
   generalize lastI Lc = fr at *
   have HBl := hide hbl
   have HBl1 := hide hbl1
   clear hbl hbl1
   by_cases hf : 0 ≤ f9
   ·have Kf := hide (fun W (hb : Below w.heap.size w W) => (Kf W hb).mono fun _ _ q => RetF.yes q hf)
    go_upto_region 7 with fail
    go_cut [10, 11] (fun s10 s11 W => ∃ gx : Nat, s10 = .pointer (some ⟨gx, 0, none⟩) ∧ s11 = .bool true ∧ W.cell? ⟨gx, 0, none⟩ = some (.int .i64 f9) ∧ wr.heap.size ≤ gx ∧ Below wr.heap.size wr W)
    case first =>
     refine wp_region_held_drew (S := fun W => Below wr.heap.size wr W) (by kernel_rfl) (Below.drew (Below.refl _ _)) (fun hHeld => ?_)
     refine tkL 0 (some 25) rfl ?_; simp only [pz]
     refine tkN 1 (some 26) rfl ?_; simp only [pz]
     refine tkN 2 (some 27) rfl ?_; simp only [pz]
     refine tkN 3 (some 28) rfl ?_; simp only [pz]
     refine tkL 4 (some 29) rfl ?_; simp only [pz]
     refine tkN 5 (some 30) rfl ?_; simp only [pz]
     refine wpAnyH_ready (rs := [6, 10]) (by kernel_rfl) (by simp) ?_; refine (AllReadyH.cons (o := ⟨some 31, _, _, _, _, _⟩) rfl (fun K hK => ?_) (AllReadyH.cons (o := ⟨some 10, _, _, _, _, _⟩) rfl (fun K hK => ?_) AllReadyH.nil))
     ·go_simp; (go_at_call 56; (with_reducible refine (Kf.out _ (bstep HBl.out bwz)).mono ?_); rintro e w9 ⟨⟨x2, x3, x4, x5, rfl⟩, hb⟩; obtain ⟨hc, hf9⟩ := bcell hb; have hzq := hb.size; (try simp at hzq))
      all_goals (try go_wp2_with fail)
      refine hK.out _ _ ?_ (fun hH2 => ?_)
      ·exact hhz
      clear hK K hHeld; (have hHeld := hH2); clear hH2; (try simp only [pz])
      refine tkN 7 (some 24) rfl ?_; simp only [pz]
      refine tkN 8 (some 32) rfl ?_; simp only [pz]
      refine tkN 9 (some 33) rfl ?_; simp only [pz]
      refine rd1 10 (some 10) rfl (fun K hK => ?_)
      have zh10 := Below.size hHeld; go_simp
      all_goals (try go_wp2_with fail)
      refine hK.out _ _ ?_ (fun hH2 => ?_)
      ·exact bwz
      clear hK K hHeld; (have hHeld := hH2); clear hH2; (try simp only [pz])
      (first | (have zg10 := alloc_lt hHeld) | (have zg10 := alloc_lt2 hHeld rfl)); skip
      have zs10 := zg10; (try simp only [size_al] at zs10)
      refine rd1 11 none rfl (fun K hK => ?_)
      go_simp
      all_goals (try go_wp2_with fail)
      refine hK.out _ _ ?_ (fun hH2 => ?_)
      ·exact bwz
      clear hK K hHeld; (have hHeld := hH2); clear hH2; (try simp only [pz])
      refine tkN 12 (some 11) rfl ?_; simp only [pz]
      refine wpAnyH_done (by kernel_rfl) ?_ _; (try simp only [pz])
      go_wp2_with fail
      go_meet
      exact ⟨_, rfl, rfl, (by go_simp; done), (by first | exact Nat.le_refl _ | (simp; done) | omega | (simp; omega)), hHeld⟩
     ·have zh10 := Below.size hHeld; go_simp
      all_goals (try go_wp2_with fail)
      refine hK.out _ _ ?_ (fun hH2 => ?_)
      ·exact bwz
      clear hK K hHeld; (have hHeld := hH2); clear hH2; (try simp only [pz])
      (first | (have zg10 := alloc_lt hHeld) | (have zg10 := alloc_lt2 hHeld rfl)); skip
      have zs10 := zg10; (try simp only [size_al] at zs10)
      refine rd1 6 (some 31) rfl (fun K hK => ?_)
      go_simp; (go_at_call 56; (with_reducible refine (Kf.out _ (bstep HBl.out bwz)).mono ?_); rintro e w9 ⟨⟨x2, x3, x4, x5, rfl⟩, hb⟩; obtain ⟨hc, hf9⟩ := bcell hb; have hzq := hb.size; (try simp at hzq)); have zg10 := Nat.lt_of_lt_of_le zg10 hb.size; have zs10 := zg10; (try simp only [size_al] at zs10)
      all_goals (try go_wp2_with fail)
      refine hK.out _ _ ?_ (fun hH2 => ?_)
      ·exact hhz
      clear hK K hHeld; (have hHeld := hH2); clear hH2; (try simp only [pz])
      refine tkN 7 (some 24) rfl ?_; simp only [pz]
      refine tkN 8 (some 32) rfl ?_; simp only [pz]
      refine tkN 9 (some 33) rfl ?_; simp only [pz]
      refine rd1 11 none rfl (fun K hK => ?_)
      go_simp
      all_goals (try go_wp2_with fail)
      refine hK.out _ _ ?_ (fun hH2 => ?_)
      ·exact bwz
      clear hK K hHeld; (have hHeld := hH2); clear hH2; (try simp only [pz])
      refine tkN 12 (some 11) rfl ?_; simp only [pz]
      refine wpAnyH_done (by kernel_rfl) ?_ _; (try simp only [pz])
      go_wp2_with fail
      go_meet
      exact ⟨_, rfl, rfl, (by go_simp; done), (by first | exact Nat.le_refl _ | (simp; done) | omega | (simp; omega)), hHeld⟩
    case rest =>
     obtain ⟨gx, rfl, rfl, cF, hgx, hbF⟩ := hcut
     have kgx : gx < wc.heap.size := World.block_lt_of_cell? _ _ cF
     have hOut := own_later hbF HO.out
     have eF := cell_later hbF e0
     have HBF := hide (bstep HBl.out hbF)
     have HB1F := hide (HBl1.out.trans (hbF.mono HBl1.out.size))
     have zF := hbF.size
     have zF1 : w.heap.size + 1 < wc.heap.size := by omega
     clear hbF HO e0 HBl HBl1 l0 l1 l2 l3 Kf
     go_wp2_with (at_builtin; refine wpList_append_lies _ rfl _ _ 34 rfl (w1.heap.size) 2 i1 _ 1 8 Tryz.underlying34 Hi.out Hz.out.1 Hz.out.2.1 Hz.out.2.2 rfl (by decide) _ _ _ rfl (hOut.alloc _) ⟨wc.heap.size, 0, none⟩ 1 1 [.int .i64 f9] rfl rfl new1 (one1 _) (by decide) (by unfold maxLen; omega) (by omega) (by simp; omega) (wc.heap.size + 1) (by simp) ?_)
     intro g' cap' wZ hown' hgr' hat hlt'
     have cZ := (gcell hgr' gx 0 (by simp; omega) (by show gx ≠ g9; omega)).trans (cell_alloc cF)
     have hbZ := below_grown hOut (by omega) hgr'
     have eZ := cell_below hbZ (by omega) eF
     have HOA := hide hown'
     have HBZ := hide (HBF.out.trans (hbZ.mono (by omega)))
     have HB1Z := hide (HB1F.out.trans (hbZ.mono (by omega)))
     have kgz : gx < wZ.heap.size := World.block_lt_of_cell? _ _ cZ
     clear hown' hgr' hat hlt' cF eF hOut HBF HB1F hbZ
     go_wp2
     go_roundw
     case rel => exact ⟨Lc.length + 1, g', cap', Lc ++ [f9], by omega, by go_num, by rw [List.length_append, List.length_singleton], by rw [List.length_append, List.length_singleton], by rw [lastI_app], hide (Hst.out.trans (if_neg (by omega))), hide (by rw [List.length_append, List.length_singleton, List.map_append]; exact HOA.out), eZ, HBZ.out, HB1Z.out⟩
     case measure => simp [intOf]; omega
   ·have Kf := hide (fun W (hb : Below w.heap.size w W) => (Kf W hb).mono fun _ _ q => RetF.no q hf)
    have He := hide (HR.out.trans (tm_no Hst.out hf hlt))
    clear Hst HR
    go_upto_region 7 with fail
    go_cut [11] (fun s11 W => s11 = .bool false ∧ Below wr.heap.size wr W)
    case first =>
     refine wp_region_held_drew (S := fun W => Below wr.heap.size wr W) (by kernel_rfl) (Below.drew (Below.refl _ _)) (fun hHeld => ?_)
     refine tkL 0 (some 25) rfl ?_; simp only [pz]
     refine tkN 1 (some 26) rfl ?_; simp only [pz]
     refine tkN 2 (some 27) rfl ?_; simp only [pz]
     refine tkN 3 (some 28) rfl ?_; simp only [pz]
     refine tkL 4 (some 29) rfl ?_; simp only [pz]
     refine tkN 5 (some 30) rfl ?_; simp only [pz]
     refine wpAnyH_ready (rs := [6, 10]) (by kernel_rfl) (by simp) ?_; refine (AllReadyH.cons (o := ⟨some 31, _, _, _, _, _⟩) rfl (fun K hK => ?_) (AllReadyH.cons (o := ⟨some 10, _, _, _, _, _⟩) rfl (fun K hK => ?_) AllReadyH.nil))
     ·go_simp; (go_at_call 56; (with_reducible refine (Kf.out _ (bstep HBl.out bwz)).mono ?_); rintro e w9 ⟨⟨x1, x2, x3, x4, x5, rfl⟩, hb⟩; obtain ⟨hc, hf9⟩ := bcell hb; have hzq := hb.size; (try simp at hzq))
      all_goals (try go_wp2_with fail)
      refine hK.out _ _ ?_ (fun hH2 => ?_)
      ·exact hhz
      clear hK K hHeld; (have hHeld := hH2); clear hH2; (try simp only [pz])
      refine tkN 7 (some 24) rfl ?_; simp only [pz]
      refine tkN 8 (some 32) rfl ?_; simp only [pz]
      refine tkN 9 (some 33) rfl ?_; simp only [pz]
      refine rd1 10 (some 10) rfl (fun K hK => ?_)
      have zh10 := Below.size hHeld; go_simp
      all_goals (try go_wp2_with fail)
      refine hK.out _ _ ?_ (fun hH2 => ?_)
      ·exact bwz
      clear hK K hHeld; (have hHeld := hH2); clear hH2; (try simp only [pz])
      (first | (have zg10 := alloc_lt hHeld) | (have zg10 := alloc_lt2 hHeld rfl)); skip
      have zs10 := zg10; (try simp only [size_al] at zs10)
      refine rd1 11 none rfl (fun K hK => ?_)
      go_simp
      all_goals (try go_wp2_with fail)
      refine hK.out _ _ ?_ (fun hH2 => ?_)
      ·exact bwz
      clear hK K hHeld; (have hHeld := hH2); clear hH2; (try simp only [pz])
      refine tkN 12 (some 11) rfl ?_; simp only [pz]
      refine wpAnyH_done (by kernel_rfl) ?_ _; (try simp only [pz])
      go_wp2_with fail
      go_meet
      exact ⟨rfl, hHeld⟩
     ·have zh10 := Below.size hHeld; go_simp
      all_goals (try go_wp2_with fail)
      refine hK.out _ _ ?_ (fun hH2 => ?_)
      ·exact bwz
      clear hK K hHeld; (have hHeld := hH2); clear hH2; (try simp only [pz])
      (first | (have zg10 := alloc_lt hHeld) | (have zg10 := alloc_lt2 hHeld rfl)); skip
      have zs10 := zg10; (try simp only [size_al] at zs10)
      refine rd1 6 (some 31) rfl (fun K hK => ?_)
      go_simp; (go_at_call 56; (with_reducible refine (Kf.out _ (bstep HBl.out bwz)).mono ?_); rintro e w9 ⟨⟨x1, x2, x3, x4, x5, rfl⟩, hb⟩; obtain ⟨hc, hf9⟩ := bcell hb; have hzq := hb.size; (try simp at hzq)); have zg10 := Nat.lt_of_lt_of_le zg10 hb.size; have zs10 := zg10; (try simp only [size_al] at zs10)
      all_goals (try go_wp2_with fail)
      refine hK.out _ _ ?_ (fun hH2 => ?_)
      ·exact hhz
      clear hK K hHeld; (have hHeld := hH2); clear hH2; (try simp only [pz])
      refine tkN 7 (some 24) rfl ?_; simp only [pz]
      refine tkN 8 (some 32) rfl ?_; simp only [pz]
      refine tkN 9 (some 33) rfl ?_; simp only [pz]
      refine rd1 11 none rfl (fun K hK => ?_)
      go_simp
      all_goals (try go_wp2_with fail)
      refine hK.out _ _ ?_ (fun hH2 => ?_)
      ·exact bwz
      clear hK K hHeld; (have hHeld := hH2); clear hH2; (try simp only [pz])
      refine tkN 12 (some 11) rfl ?_; simp only [pz]
      refine wpAnyH_done (by kernel_rfl) ?_ _; (try simp only [pz])
      go_wp2_with fail
      go_meet
      exact ⟨rfl, hHeld⟩
    case rest =>
     obtain ⟨rfl, hbF⟩ := hcut
     obtain rfl := He.out
     go_wp2
     go_ret
     exact ⟨g9, cp9, rfl, (own_later hbF HO.out).mono (by omega), bstep HBl.out hbF⟩
  ·have He := hide (show R9 = Lc by rw [HR.out, show m = Lc.length by omega, HT.out])
   clear HT HR
   obtain rfl := He.out
   go_wp2
   go_ret
   exact ⟨g9, cp9, rfl, HO.out.mono (by omega), hbl⟩
end Go.Proofs.YtcmjcedlbhdihaaGreatDoor
