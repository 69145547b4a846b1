/- Plain and walks: insertion of indices into a sorted row; slices.SortStableFunc on few elements; the indices in order, of the program. -/
import Derived.Test.YtcmjcedlbhdihaaGreatDoorXs
import Derived.Test.YtcmjcedlbhdihaaGreatDoorMk
import Derived.Test.YtcmjcedlbhdihaaGreatDoorXq
import Derived.Deep.LoopGhost
import Derived.Deep.QuietTactic
import Derived.Deep.AppendLies
namespace Go.Proofs.YtcmjcedlbhdihaaGreatDoor
open Go.RowKit

/-- Where x is inserted into the first j of a row: behind all that are not behind it. -/
def posF (lt : Nat → Nat → Bool) (S : Nat → Nat) (x : Nat) : Nat → Nat
 | 0 => 0
 | j + 1 => if lt x (S j) then posF lt S x j else j + 1
theorem posF_le (lt : Nat → Nat → Bool) (S : Nat → Nat) (x : Nat) : ∀ j, posF lt S x j ≤ j := fun j => by
 induction j with
 | zero => exact Nat.le_refl _
 | succ j ih => unfold posF; split <;> omega
/-- The row with x inserted at p. -/
def insF (S : Nat → Nat) (p x k : Nat) : Nat := if k < p then S k else if k = p then x else S (k - 1)
/-- The first n indices in order. -/
def srtF (lt : Nat → Nat → Bool) : Nat → Nat → Nat
 | 0 => fun _ => 0
 | n + 1 => insF (srtF lt n) (posF lt (srtF lt n) n n) n
theorem srtF_lt (lt : Nat → Nat → Bool) : ∀ n k, k < n → srtF lt n k < n := fun n => by
 induction n with
 | zero => intro k hk; omega
 | succ n ih =>
  intro k hk
  have hp := posF_le lt (srtF lt n) n n
  show insF (srtF lt n) (posF lt (srtF lt n) n n) n k < n + 1
  unfold insF
  split
  ·have := ih k (by omega); omega
  ·split
   ·omega
   ·have := ih (k - 1) (by omega); omega
/-- The row while x = i is on its way down, at j. -/
def wayF (S : Nat → Nat) (i j k : Nat) : Nat := if k < j then S k else if k = j then i else if k ≤ i then S (k - 1) else k
theorem wayF_start (S : Nat → Nat) (i k : Nat) : wayF S i i k = if k < i then S k else k := by
 unfold wayF
 by_cases h : k < i
 ·rw [if_pos h, if_pos h]
 ·rw [if_neg h, if_neg h]
  by_cases h2 : k = i
  ·rw [if_pos h2, h2]
  ·rw [if_neg h2, if_neg (by omega)]
theorem wayF_end (S : Nat → Nat) (i p k : Nat) (hp : p ≤ i) : wayF S i p k = if k < i + 1 then insF S p i k else k := by
 unfold wayF insF
 by_cases h : k < p
 ·rw [if_pos h, if_pos (by omega), if_pos h]
 ·rw [if_neg h]
  by_cases h2 : k = p
  ·rw [if_pos h2, if_pos (by omega), if_neg h, if_pos h2]
  ·rw [if_neg h2]
   by_cases h3 : k ≤ i
   ·rw [if_pos h3, if_pos (by omega), if_neg h, if_neg h2]
   ·rw [if_neg h3, if_neg (by omega)]
/-- One step down. -/
theorem wayF_step (S : Nat → Nat) (i j k : Nat) (hj : j + 1 ≤ i) : wayF S i j k = if k = j + 1 then wayF S i (j + 1) j else if k = j then wayF S i (j + 1) (j + 1) else wayF S i (j + 1) k := by
 rcases (by omega : k < j ∨ k = j ∨ k = j + 1 ∨ j + 1 < k) with h | h | h | h
 ·have a1 : ¬ k = j := by omega
  have a2 : ¬ k = j + 1 := by omega
  have a3 : k < j + 1 := by omega
  simp only [wayF, h, a1, a2, a3, ↓reduceIte]
 ·subst h
  have a2 : ¬ k = k + 1 := by omega
  simp only [wayF, a2, Nat.lt_irrefl, ↓reduceIte]
 ·subst h
  have a1 : ¬ j + 1 < j := by omega
  have a2 : ¬ j + 1 = j := by omega
  have a3 : j < j + 1 := by omega
  simp only [wayF, a1, a2, a3, hj, ↓reduceIte, Nat.add_sub_cancel]
 ·have a1 : ¬ k < j := by omega
  have a2 : ¬ k = j := by omega
  have a3 : ¬ k = j + 1 := by omega
  have a4 : ¬ k < j + 1 := by omega
  simp only [wayF, a1, a2, a3, a4, ↓reduceIte]
/-- Boat a is ahead of boat b. -/
def ahI (M T : Nat → Int) (a b : Nat) : Int := if M a = M b then T a - T b else M b - M a
def ahB (M T : Nat → Int) (a b : Nat) : Bool := decide (ahI M T a b < 0)
theorem sgn_neg (x : Int) : sgn x < 0 ↔ x < 0 := by unfold sgn; split <;> (try split) <;> omega
set_option maxHeartbeats 1000000 in
theorem impl_order1 (M T : Nat → Int) (m gm gt pm pt : Nat) (a b : Nat) (ha : a < m) (hb : b < m) (w : World) (c0 : w.cell? ⟨pm, 0, none⟩ = some (.slice (some ⟨gm, 0, none⟩) m m)) (c1 : w.cell? ⟨pt, 0, none⟩ = some (.slice (some ⟨gt, 0, none⟩) m m))
 (hm : ∀ i, i < m → w.cell? ⟨gm, i, none⟩ = some (.int .i64 (M i))) (ht : ∀ i, i < m → w.cell? ⟨gt, i, none⟩ = some (.int .i64 (T i))) (hM : ∀ i, i < m → 0 ≤ M i ∧ M i ≤ 1000) (hT : ∀ i, i < m → 0 ≤ T i ∧ T i ≤ 1000000000) :
 Calls Tryz.prog 22 #[.int .i64 (a : Int), .int .i64 (b : Int), .pointer (some ⟨pm, 0, none⟩), .pointer (some ⟨pt, 0, none⟩)] w fun e w' => e = .returned (.int .i64 (ahI M T a b)) ∧ ∃ n, w' = w.drewN n := by
 have e0 := hm a ha
 have e1 := hm b hb
 have e2 := ht a ha
 have e3 := ht b hb
 obtain ⟨q1, q2⟩ := hM a ha
 obtain ⟨q3, q4⟩ := hM b hb
 obtain ⟨q5, q6⟩ := hT a ha
 obtain ⟨q7, q8⟩ := hT b hb
 have ha0 : (0 : Int) ≤ (a : Int) := by omega
 have ha1 : (a : Int) < (m : Int) := by omega
 have hb0 : (0 : Int) ≤ (b : Int) := by omega
 have hb1 : (b : Int) < (m : Int) := by omega
 obtain ⟨v, hv⟩ : ∃ v, v = ahI M T a b := ⟨_, rfl⟩
 unfold ahI at hv
 have hE : ahI M T a b = v := by rw [hv]; rfl
 rw [hE]
 have HV := hide hv
 clear hm ht hM hT hv hE
 generalize M a = x1 at *
 generalize M b = x2 at *
 generalize T a = t1 at *
 generalize T b = t2 at *
 by_cases hx : x1 = x2
 ·have hv := HV.out
  rw [if_pos hx] at hv
  subst hx
  have w1 : IntKind.i64.wrap (t1 - t2) = t1 - t2 := IntWalk.i64_in _ (by omega)
  subst hv
  go_enter Tryz.func22, Tryz.ntmps22
  go_wp2_with fail
  go_quiet (fail)
  go_wp2_with fail
  go_quiet (fail)
  go_wp2
  go_ret
  exact ⟨rfl, _, World.drewN_drewN _ _ _⟩
 ·have hv := HV.out
  rw [if_neg hx] at hv
  have hxb : (x1 != x2) = true := bne_iff_ne.2 hx
  have w1 : IntKind.i64.wrap (x2 - x1) = x2 - x1 := IntWalk.i64_in _ (by omega)
  subst hv
  go_enter Tryz.func22, Tryz.ntmps22
  go_wp2_with fail
  go_quiet (fail)
  go_wp2_with fail
  go_quiet (fail)
  go_wp2
  go_ret
  exact ⟨rfl, _, World.drewN_drewN _ _ _⟩
end Go.Proofs.YtcmjcedlbhdihaaGreatDoor
/- Walks: slices.SortStableFunc on few indices; the indices in order, of the program. -/
namespace Go.Proofs.YtcmjcedlbhdihaaGreatDoor
open Go.RowKit

/-- Cells of a row of n indices in block r, which the call may write to. -/
def IxAt (W : World) (r m : Nat) (F : Nat → Nat) : Prop := ∀ k, k < m → W.cell? ⟨r, k, none⟩ = some (.int .i64 ((F k : Nat) : Int)) ∧ W.frozen? ⟨r, k, none⟩ = false
theorem IxAt.congr {W : World} {r m : Nat} {F F' : Nat → Nat} (h : IxAt W r m F) (e : ∀ k, k < m → F k = F' k) : IxAt W r m F' := fun k hk => by rw [← e k hk]; exact h k hk
theorem IxAt.drewN {W : World} {r m : Nat} {F : Nat → Nat} (h : IxAt W r m F) (n : Nat) : IxAt (W.drewN n) r m F := h
theorem IxAt.swap {W : World} {r m i j : Nat} {S : Nat → Nat} (h : IxAt W r m (wayF S i (j + 1))) (hj : j + 1 ≤ i) (_ : i < m) : IxAt ((W.setCell ⟨r, j + 1, none⟩ (.int .i64 ((wayF S i (j + 1) j : Nat) : Int))).setCell ⟨r, j, none⟩ (.int .i64 ((wayF S i (j + 1) (j + 1) : Nat) : Int))) r m (wayF S i j) := fun k hk => by
 obtain ⟨c, f⟩ := h k hk
 refine ⟨?_, by rw [World.frozen?_setCell, World.frozen?_setCell]; exact f⟩
 rw [wayF_step S i j k hj]
 by_cases h1 : k = j + 1
 ·rw [if_pos h1, h1]
  exact cell_off (cell_same (h1 ▸ c)) (.inr (by simp))
 ·rw [if_neg h1]
  by_cases h2 : k = j
  ·rw [if_pos h2, h2]
   exact cell_same (cell_off (h2 ▸ c) (.inr (by simp)))
  ·rw [if_neg h2]
   exact cell_off (cell_off c (.inr (by simp; omega))) (.inr (by simp; omega))
theorem grow_drewN {w W : World} {r : Option Nat} (h : w.grownBy W r) (n : Nat) : w.grownBy (W.drewN n) r := ⟨h.os, h.tape, h.output, h.size, h.block⟩
set_option maxRecDepth 100000 in
set_option maxHeartbeats 4000000 in
theorem sl_insertion (lt : Nat → Nat → Bool) (cf : Nat → Nat → Int) (hlt : ∀ a b, lt a b = decide (cf a b < 0)) (F pb : Nat) (hF : F = 47) (r m cap : Nat) (hm : m ≤ 16) (w : World) (hr : IxAt w r m fun k => k) (hrl : r < w.heap.size)
 (KF : ∀ W, w.grownBy W (some r) → ∀ a b, a < m → b < m → Calls Tryz.prog F #[.int .i64 (a : Int), .int .i64 (b : Int), .pointer (some ⟨pb, 0, none⟩)] W fun e w' => e = .returned (.int .i64 (cf a b)) ∧ ∃ n, w' = W.drewN n) :
 Calls Tryz.prog 81 #[.slice (some ⟨r, 0, none⟩) m cap, .int .i64 0, .int .i64 (m : Int), .func (.func F) #[] #[.pointer (some ⟨pb, 0, none⟩)]] w fun e w' => e = .returned (.tuple #[]) ∧ IxAt w' r m (srtF lt m) ∧ w.grownBy w' (some r) := by
 subst hF
 have Hr := hide hr
 have HKF := hide KF
 have Hl := hide hlt
 clear hr hlt KF
 go_enter Tryz.func81, Tryz.ntmps81
 go_wp2
 go_loopg [8] m (fun g1 vi wr => ∃ i : Nat, vi = .int .i64 i ∧ 1 ≤ i ∧ (i ≤ m ∨ i = 1) ∧ m + 1 - i ≤ g1 ∧ Hid (IxAt wr r m fun k => if k < i then srtF lt i k else k) ∧ Hid (w.grownBy wr (some r)))
 case atStart =>
  refine ⟨1, by go_num, Nat.le_refl _, by omega, by omega, hide (Hr.out.congr fun k hk => ?_), hide (World.grownBy.refl _ _)⟩
  by_cases h0 : k < 1
  ·obtain rfl : k = 0 := by omega
   rw [if_pos h0]; rfl
  ·rw [if_neg h0]
 case round =>
  clear Hr
  obtain ⟨i, rfl, hi1, hi2, hg1, HR, HG⟩ := hrel
  by_cases hlt : i < m
  ·have hi3 : (i : Int) < (m : Int) := by omega
   obtain ⟨S, hS⟩ : ∃ S, S = srtF lt i := ⟨_, rfl⟩
   have HS := hide hS
   have HR0 := hide (show IxAt wr r m (wayF S i i) from HR.out.congr fun k hk => by rw [wayF_start, hS])
   have HSl := hide (show ∀ k, k < i → S k < i from fun k hk => by rw [hS]; exact srtF_lt lt i k hk)
   obtain ⟨wo, rfl⟩ : ∃ x : World, x = wr := ⟨_, rfl⟩
   clear hS HR
   go_wp2
   go_loopg [9] i (fun g2 vj wr2 => ∃ j : Nat, vj = .int .i64 j ∧ j ≤ i ∧ j ≤ g2 ∧ Hid (IxAt wr2 r m (wayF S i j)) ∧ Hid (w.grownBy wr2 (some r)) ∧ Hid (posF lt S i j = posF lt S i i))
   case atStart => exact ⟨i, rfl, Nat.le_refl _, Nat.le_refl _, HR0, HG, hide rfl⟩
   case round =>
    clear HR0 HG
    obtain ⟨j, rfl, hji, hg2, HR, HG, HP⟩ := hrel
    have done : posF lt S i j = j → ∀ W, IxAt W r m (wayF S i j) → Hid (IxAt W r m fun k => if k < i + 1 then srtF lt (i + 1) k else k) := fun hp W hW => hide (hW.congr fun k hk => by
     rw [wayF_end S i j k hji]
     have e : insF S j i k = srtF lt (i + 1) k := by
      show _ = insF (srtF lt i) (posF lt (srtF lt i) i i) i k
      rw [← HS.out, ← HP.out, hp]
     rw [e])
    have DONE := hide done
    clear done
    by_cases hj0 : 0 < j
    ·obtain ⟨jp, rfl⟩ : ∃ jp, j = jp + 1 := ⟨j - 1, by omega⟩
     obtain ⟨c1, f1⟩ := HR.out (jp + 1) (by omega)
     obtain ⟨c2, f2⟩ := HR.out jp (by omega)
     have e1 : wayF S i (jp + 1) (jp + 1) = i := by unfold wayF; rw [if_neg (by omega), if_pos rfl]
     have e2 : wayF S i (jp + 1) jp = S jp := by unfold wayF; rw [if_pos (by omega)]
     rw [e1] at c1
     rw [e2] at c2
     have hSj := HSl.out jp (by omega)
     have Kc0 := fun W (hg : w.grownBy W (some r)) => HKF.out W hg i (S jp) hlt (by omega)
     have hl := Hl.out i (S jp)
     have HSW := hide (HR.out.swap (S := S) (i := i) (j := jp) hji hlt)
     rw [e1, e2] at HSW
     obtain ⟨y, hy⟩ : ∃ y, y = S jp := ⟨_, rfl⟩
     obtain ⟨v, hv⟩ : ∃ v, v = cf i y := ⟨_, rfl⟩
     rw [← hy] at c2 Kc0 HSW hl hSj
     rw [← hv] at Kc0 hl
     have Kc := hide Kc0
     clear Kc0
     have Hy := hide hy
     clear hv hy e1 e2
     have hjp0 : (0 : Int) < (jp : Int) + 1 := by omega
     have hjp1 : (0 : Int) ≤ (jp : Int) := by omega
     have hjp4 : (0 : Int) ≤ (jp : Int) + 1 := by omega
     have hjp2 : (jp : Int) + 1 < (m : Int) := by omega
     have hjp3 : (jp : Int) < (m : Int) := by omega
     have wj1 : IntKind.i64.wrap ((jp : Int) + 1) = (jp : Int) + 1 := IntWalk.i64_in _ (by omega)
     have wj2 : IntKind.i64.wrap (jp : Int) = (jp : Int) := IntWalk.i64_in _ (by omega)
     have tj1 : ((jp : Int) + 1).toNat = jp + 1 := by omega
     by_cases hv0 : v < 0
     ·have hd : decide (v < 0) = true := decide_eq_true hv0
      rw [hd] at hl
      go_wp2_with fail
      go_quiet ((first | (go_at_fn 47; refine Calls.quiet_of (Kc.out _ (grow_drewN HG.out _))) | (go_at_fn 47; refine Calls.quiet_of (Kc.out _ HG.out)) | (go_at_call 47; refine Calls.quiet_of (Kc.out _ (grow_drewN HG.out _))) | (go_at_call 47; refine Calls.quiet_of (Kc.out _ HG.out))))
      go_wp2_with fail
      obtain ⟨wQ, hQ⟩ : ∃ W, W = wr.drewN nq := ⟨_, rfl⟩
      have c1Q : wQ.cell? ⟨r, jp + 1, none⟩ = some (.int .i64 (i : Int)) := by rw [hQ]; exact c1
      have f1Q : wQ.frozen? ⟨r, jp + 1, none⟩ = false := by rw [hQ]; exact f1
      have c2Q : wQ.cell? ⟨r, jp, none⟩ = some (.int .i64 (y : Int)) := by rw [hQ]; exact c2
      have f2Q : wQ.frozen? ⟨r, jp, none⟩ = false := by rw [hQ]; exact f2
      have HSQ := hide (show IxAt ((wQ.setCell ⟨r, jp + 1, none⟩ (.int .i64 (y : Int))).setCell ⟨r, jp, none⟩ (.int .i64 (i : Int))) r m (wayF S i jp) by rw [hQ]; exact HSW.out)
      have HGQ := hide (show w.grownBy wQ (some r) by rw [hQ]; exact grow_drewN HG.out _)
      have HP2 := hide (show posF lt S i jp = posF lt S i i by
       rw [← HP.out]
       show _ = if lt i (S jp) then posF lt S i jp else jp + 1
       rw [← Hy.out, hl]; rfl)
      rw [← hQ]
      clear hQ HSW HR HG c1 c2 f1 f2 Kc DONE HP
      go_region
      all_goals
       go_wp2
       go_roundg jp
       case measure => omega
       case rel => exact ⟨jp, rfl, by omega, Nat.le_refl _, HSQ.out, hide (grow_drewN (gr_set (gr_set HGQ.out)) 1), HP2⟩
     ·have hd : decide (v < 0) = false := decide_eq_false hv0
      rw [hd] at hl
      have hp : posF lt S i (jp + 1) = jp + 1 := by
       show (if lt i (S jp) then posF lt S i jp else jp + 1) = jp + 1
       rw [← Hy.out, hl]; rfl
      go_wp2_with fail
      go_quiet ((first | (go_at_fn 47; refine Calls.quiet_of (Kc.out _ (grow_drewN HG.out _))) | (go_at_fn 47; refine Calls.quiet_of (Kc.out _ HG.out)) | (go_at_call 47; refine Calls.quiet_of (Kc.out _ (grow_drewN HG.out _))) | (go_at_call 47; refine Calls.quiet_of (Kc.out _ HG.out))))
      go_wp2
      go_roundg (m - i)
      case measure => omega
      case rel => exact ⟨i + 1, by go_num, by omega, by omega, by omega, DONE.out hp _ (HR.out.drewN _), hide (grow_drewN HG.out _)⟩
    ·obtain rfl : j = 0 := by omega
     go_wp2_with fail
     go_quiet (fail)
     go_wp2
     go_roundg (m - i)
     case measure => omega
     case rel => exact ⟨i + 1, by go_num, by omega, by omega, by omega, DONE.out rfl _ (HR.out.drewN _), hide (grow_drewN HG.out _)⟩
  ·go_wp2
   go_end0
   exact ⟨rfl, HR.out.congr fun k hk => by
    by_cases h0 : k < i
    ·rw [if_pos h0]
     rcases (by omega : i = m ∨ m = 0) with rfl | e
     ·rfl
     ·omega
    ·omega, HG.out⟩
end Go.Proofs.YtcmjcedlbhdihaaGreatDoor
/- Walks: the indices in order, of the program. -/
namespace Go.Proofs.YtcmjcedlbhdihaaGreatDoor
open Go.RowKit

set_option maxHeartbeats 4000000 in
theorem sl_stable (lt : Nat → Nat → Bool) (cf : Nat → Nat → Int) (hlt : ∀ a b, lt a b = decide (cf a b < 0)) (pb : Nat) (r m cap : Nat) (hm : m ≤ 16) (w : World) (hr : IxAt w r m fun k => k) (hrl : r < w.heap.size)
 (KF : ∀ W, w.grownBy W (some r) → ∀ a b, a < m → b < m → Calls Tryz.prog 47 #[.int .i64 (a : Int), .int .i64 (b : Int), .pointer (some ⟨pb, 0, none⟩)] W fun e w' => e = .returned (.int .i64 (cf a b)) ∧ ∃ n, w' = W.drewN n) :
 Calls Tryz.prog 46 #[.slice (some ⟨r, 0, none⟩) m cap, .func (.func 47) #[] #[.pointer (some ⟨pb, 0, none⟩)]] w fun e w' => e = .returned (.tuple #[]) ∧ IxAt w' r m (srtF lt m) ∧ w.grownBy w' (some r) := by
 have KI := hide (sl_insertion lt cf hlt 47 pb rfl r m cap hm w hr hrl KF)
 have h20 : ¬ (20 : Int) ≤ (m : Int) := by omega
 have h21 : ¬ (20 : Int) < (m : Int) := by omega
 clear hlt hr KF
 have KS : Calls Tryz.prog 69 #[.slice (some ⟨r, 0, none⟩) m cap, .int .i64 (m : Int), .func (.func 47) #[] #[.pointer (some ⟨pb, 0, none⟩)]] w fun e w' => e = .returned (.tuple #[]) ∧ IxAt w' r m (srtF lt m) ∧ w.grownBy w' (some r) := by
  go_enter Tryz.func69, Tryz.ntmps69
  go_wp2
  go_loopw [7, 8] (fun a b wr => a = .int .i64 0 ∧ b = .int .i64 20 ∧ wr = w) (fun _ _ _ => 0)
  case atStart => exact ⟨rfl, rfl, rfl⟩
  case round =>
   obtain ⟨rfl, rfl, rfl⟩ := hrel
   go_wp2_with fail; (with_reducible refine KI.out.mono ?_); rintro e w1 ⟨rfl, h1, h2⟩
   have H1 := hide h1
   have H2 := hide h2
   clear h1 h2
   go_wp2
   go_loopw [6] (fun a wr => a = .int .i64 20 ∧ wr = w1) (fun _ _ => 0)
   case atStart => exact ⟨rfl, rfl⟩
   case round =>
    obtain ⟨rfl, rfl⟩ := hrel
    go_wp2
    go_end0
    exact ⟨rfl, H1.out, H2.out⟩
 have KS := hide KS
 go_enter Tryz.func46, Tryz.ntmps46
 go_wp2_with fail; (with_reducible refine KS.out.mono ?_); rintro e w1 ⟨rfl, h1, h2⟩
 have H1 := hide h1
 have H2 := hide h2
 clear h1 h2
 go_wp2
 go_end0
 exact ⟨rfl, H1.out, H2.out⟩
set_option maxHeartbeats 1000000 in
theorem impl_sorted1 (v : Int) (a b : Int) (pb pm pt : Nat) (w : World) (cb : w.cell? ⟨pb, 0, none⟩ = some (.func (.func 22) #[] #[.pointer (some ⟨pm, 0, none⟩), .pointer (some ⟨pt, 0, none⟩)]))
 (KO : Calls Tryz.prog 22 #[.int .i64 a, .int .i64 b, .pointer (some ⟨pm, 0, none⟩), .pointer (some ⟨pt, 0, none⟩)] w fun e w' => e = .returned (.int .i64 v) ∧ ∃ n, w' = w.drewN n) :
 Calls Tryz.prog 47 #[.int .i64 a, .int .i64 b, .pointer (some ⟨pb, 0, none⟩)] w fun e w' => e = .returned (.int .i64 (sgn v)) ∧ ∃ n, w' = w.drewN n := by
 have KO := hide KO
 go_enter Tryz.func47, Tryz.ntmps47
 go_wp2_with (first | (go_at_fn 22; (with_reducible refine KO.out.mono ?_); rintro e w1 ⟨rfl, n, rfl⟩) | (go_at_call 22; (with_reducible refine KO.out.mono ?_); rintro e w1 ⟨rfl, n, rfl⟩) | (go_at_call 48; (with_reducible refine (impl_sign _ _).mono ?_); rintro e w9 ⟨rfl, rfl⟩))
 go_ret
 exact ⟨rfl, _, rfl⟩
/-- The indices in order, as a list. -/
def srtL (lt : Nat → Nat → Bool) (m : Nat) : List Int := (List.range m).map fun (k : Nat) => ((srtF lt m k : Nat) : Int)
theorem srtL_len (lt : Nat → Nat → Bool) (m : Nat) : (srtL lt m).length = m := by simp [srtL]
theorem srtL_at (lt : Nat → Nat → Bool) {m k : Nat} (h : k < m) : (srtL lt m)[k]?.getD 0 = ((srtF lt m k : Nat) : Int) := by simp [srtL, h]
def ixL (q : Nat) : List Value := (List.range q).map fun (k : Nat) => Value.int .i64 (k : Int)
theorem ixL_more (q : Nat) : ixL (q + 1) = ixL q ++ [.int .i64 (q : Int)] := by simp [ixL, List.range_succ]
theorem ix_of {w : World} {B g m cp : Nat} {e : TypeId} (h : w.ownsRow B e 1 (.slice (some ⟨g, 0, none⟩) m cp) m (ixL m)) : IxAt w g m fun k => k := fun k hk => ⟨by
 have := h.cells (g := g) rfl k (.int .i64 (k : Int)) (by simp [ixL, hk])
 rwa [Addr.add_lit, Nat.zero_add] at this, h.frozenAt k⟩
theorem ix_own {w : World} {B g m : Nat} {F : Nat → Nat} (h : IxAt w g m F) (hB : B ≤ g) (hg : g < w.heap.size) {lt : Nat → Nat → Bool} (hF : F = srtF lt m) : OwZ w B (some ⟨g, 0, none⟩) (srtL lt m) := by
 subst hF
 refine .inr ⟨g, rfl, hB, hg, fun j hj => ?_⟩
 rw [srtL_len] at hj
 rw [srtL_at lt hj]
 exact h j hj
set_option maxRecDepth 100000 in
set_option maxHeartbeats 4000000 in
theorem impl_sortedIndices (M T : Nat → Int) (m gm gt pm pt : Nat) (hm16 : m ≤ 16) (w : World) (c0 : w.cell? ⟨pm, 0, none⟩ = some (.slice (some ⟨gm, 0, none⟩) m m)) (c1 : w.cell? ⟨pt, 0, none⟩ = some (.slice (some ⟨gt, 0, none⟩) m m))
 (hm : ∀ i, i < m → w.cell? ⟨gm, i, none⟩ = some (.int .i64 (M i))) (ht : ∀ i, i < m → w.cell? ⟨gt, i, none⟩ = some (.int .i64 (T i))) (hM : ∀ i, i < m → 0 ≤ M i ∧ M i ≤ 1000) (hT : ∀ i, i < m → 0 ≤ T i ∧ T i ≤ 1000000000) :
 Calls Tryz.prog 21 #[.int .i64 (m : Int), .func (.func 22) #[] #[.pointer (some ⟨pm, 0, none⟩), .pointer (some ⟨pt, 0, none⟩)]] w fun e w' => ∃ g cp, e = .returned (.slice (some ⟨g, 0, none⟩) m cp) ∧ OwZ w' w.heap.size (some ⟨g, 0, none⟩) (srtL (ahB M T) m) ∧ Below w.heap.size w w' := by
 obtain ⟨i1, hi, hz0, hz1', hz2'⟩ := info_parts infoI64
 have Hi := hide hi
 have Hz := hide (And.intro hz0 (And.intro hz1' hz2'))
 have KO := hide (fun (W : World) (hk : ∀ b o, b < w.heap.size → W.cell? ⟨b, o, none⟩ = w.cell? ⟨b, o, none⟩) a b (ha : a < m) (hb : b < m) => impl_order1 M T m gm gt pm pt a b ha hb W ((hk _ _ (World.block_lt_of_cell? _ _ c0)).trans c0) ((hk _ _ (World.block_lt_of_cell? _ _ c1)).trans c1) (fun i hi => (hk _ _ (World.block_lt_of_cell? _ _ (hm i hi))).trans (hm i hi)) (fun i hi => (hk _ _ (World.block_lt_of_cell? _ _ (ht i hi))).trans (ht i hi)) hM hT)
 clear hi hz0 hz1' hz2' c0 c1 hm ht hM hT
 go_enter Tryz.func21, Tryz.ntmps21
 go_wp2
 go_loopw [5, 9] (fun v i wr => ∃ q g9 cp9 : Nat, q ≤ m ∧ i = .int .i64 q ∧ v = .slice (some ⟨g9, 0, none⟩) q cp9 ∧ Hid (wr.ownsRow (w.heap.size + 1) 2 1 (.slice (some ⟨g9, 0, none⟩) q cp9) q (ixL q)) ∧ wr.cell? ⟨w.heap.size, 0, none⟩ = some (.func (.func 22) #[] #[.pointer (some ⟨pm, 0, none⟩), .pointer (some ⟨pt, 0, none⟩)]) ∧ Below w.heap.size w wr) (fun _ i _ => m - (intOf i).toNat)
 case atStart =>
  refine ⟨0, w.heap.size + 1, 0, Nat.zero_le _, rfl, rfl, hide ?_, by go_simp, bwz⟩
  have hm0 := World.ownsRow_made (base := w.heap.size + 1) (e := 2) (size := 1) (w.alloc (.cells #[.func (.func 22) #[] #[.pointer (some ⟨pm, 0, none⟩), .pointer (some ⟨pt, 0, none⟩)]] 57)) #[] 0 (by simp) (by decide) rfl
  simp only [size_al] at hm0
  exact hm0
 case round =>
  obtain ⟨q, g9, cp9, hq, rfl, rfl, HO, e0, hbl⟩ := hrel
  have zr : w.heap.size < wr.heap.size := World.block_lt_of_cell? _ _ e0
  by_cases hlt : q < m
  ·have hj1 : (0 : Int) ≤ (q : Int) := by omega
   have hj2 : (q : Int) < (m : Int) := by omega
   go_wp2_with (at_builtin; refine wpList_append_lies _ rfl _ _ 34 rfl (w.heap.size + 1) 2 i1 _ 1 8 Tryz.underlying34 Hi.out Hz.out.1 Hz.out.2.1 Hz.out.2.2 rfl (by decide) _ _ _ rfl (HO.out.alloc _) ⟨wr.heap.size, 0, none⟩ 1 1 [.int .i64 q] rfl rfl new1 (one1 _) (by decide) (by unfold maxLen; omega) (by omega) (by simp; omega) (wr.heap.size + 1) (by simp) ?_)
   intro g' cap' wA hown' hgr hat hlt'
   have hbA := below_grown HO.out (by omega) hgr
   have HOA := hide hown'
   have eA := cell_below hbA (by omega) e0
   have HBA := hide (hbl.trans (hbA.mono (by omega)))
   clear hown' hgr hat hlt' e0 hbl
   go_wp2
   go_roundw
   case rel => exact ⟨q + 1, g', cap', by omega, by go_num, rfl, hide (by rw [ixL_more]; exact HOA.out), eA, HBA.out⟩
   case measure => simp [intOf]; omega
  ·obtain rfl : q = m := by omega
   have hgl := HO.out.lt g9 rfl
   have KF := hide (fun (W : World) (hg : wr.grownBy W (some g9)) (a b : Nat) (ha : a < q) (hb : b < q) => impl_sorted1 (ahI M T a b) (a : Int) (b : Int) w.heap.size pm pt W ((gcell hg _ _ zr (by omega)).trans e0) (KO.out W (fun b o hb => (gcell hg b o (by have := hbl.size; omega) (by omega)).trans ((bcell hbl).1 b o hb)) a b ha hb))
   have HX := hide (ix_of HO.out)
   have Hbl := hide hbl
   have hg1 := hgl.1
   have hg2 := hgl.2
   clear hgl HO e0 hbl KO
   go_wp2_with fail; (with_reducible refine (sl_stable (ahB M T) (fun a b => sgn (ahI M T a b)) (fun a b => by unfold ahB; exact decide_eq_decide.2 (sgn_neg _).symm) w.heap.size g9 q cp9 hm16 _ HX.out hg2 KF.out).mono ?_); rintro e wE ⟨rfl, hx, hgr⟩
   have HE := hide hx
   have HG := hide hgr
   clear hx hgr
   go_wp2
   go_ret
   exact ⟨g9, cp9, rfl, ix_own HE.out (by omega) (by have := HG.out.size; omega) rfl, Below.grown Hbl.out HG.out (by have := Hbl.out.size; omega) (by intro k hk; simp at hk; omega)⟩
end Go.Proofs.YtcmjcedlbhdihaaGreatDoor
