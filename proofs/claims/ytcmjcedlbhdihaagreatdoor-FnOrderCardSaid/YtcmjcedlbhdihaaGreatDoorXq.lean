/- Walks: LegTimes of both. -/
import Derived.Test.YtcmjcedlbhdihaaGreatDoorXs
import Derived.Test.YtcmjcedlbhdihaaGreatDoorMk
import Derived.Deep.DeepCutAuto
namespace Go.Proofs.YtcmjcedlbhdihaaGreatDoor
open Go.RowKit

theorem tm_inc {A B C D T U V : Nat → Int} {n m : Nat} (hv : isTr n T U V = true) (hs : ∀ i, i < m → isSg (A i) (B i) (C i) (D i) = true) : ∀ k, k ≤ m → Inc (tmS A B C D T U V n k).1 := fun k => by
 induction k with
 | zero => intro _; exact Inc.nil
 | succ k ih =>
  intro hk
  have ih := ih (by omega)
  rcases htm : tmS A B C D T U V n k with ⟨L, b⟩
  rw [htm] at ih
  cases b
  ·have := tm_stop (A := A) (B := B) (C := C) (D := D) (T := T) (U := U) (V := V) (n := n) (k := k) (by rw [htm]) 1
   rw [this, htm]
   exact ih
  ·rw [tm_step htm rfl]
   split
   ·exact ih
   ·rename_i hf
    rcases fcT_cases (A k) (B k) (C k) (D k) T U V (lastI L) (cxs (A k) (B k) (C k) (D k) U V (n - 1)) with e | ⟨j, hj, e, hl⟩
    ·rw [e] at hf; exact absurd (by decide) hf
    ·obtain ⟨j1, j2⟩ := cxs_mem _ _ _ _ U V (n - 1) j hj
     obtain ⟨t0, t1⟩ := cxT_bd (hs k (by omega)) hv (show j + 1 < n by omega) j2
     rw [e]
     exact ih.app t0 t1 hl
theorem tsL_inc (ax ay bx bY cx cy dx dy : Int) (so : Option Addr) (n cap : Nat) (N : Nat → ByteArray) (X Y S Z : Nat → Int) (n2 : Nat) (T U V : Nat → Int) : Inc (tsL (isCo ax ay bx bY cx cy dx dy n N X Y S Z) (isTr n2 T U V) (lnA ax ay bx bY cx cy dx dy n X Y S Z) (lnB ax ay bx bY cx cy dx dy n X Y S Z) (lnC ax ay bx bY cx cy dx dy n X Y S Z) (lnD ax ay bx bY cx cy dx dy n X Y S Z) n2 T U V n) := by
 unfold tsL
 split
 ·rename_i hz
  obtain ⟨hco, htr, hl⟩ := tsC_z hz
  refine tm_inc htr (m := n + 2) (fun i hi => ?_) (n + 2) (Nat.le_refl _)
  rcases Nat.lt_or_ge i (n + 1) with q | q
  ·exact lnsOk_t hl i q
  ·obtain rfl : i = n + 1 := by omega
   exact ln_last ax ay bx bY cx cy dx dy so n cap N X Y S Z (isCo_t hco).2.1
 ·exact Inc.nil
theorem tsL_len (ax ay bx bY cx cy dx dy : Int) (_ : Option Addr) (n _ : Nat) (N : Nat → ByteArray) (X Y S Z : Nat → Int) (n2 : Nat) (T U V : Nat → Int) : (tsL (isCo ax ay bx bY cx cy dx dy n N X Y S Z) (isTr n2 T U V) (lnA ax ay bx bY cx cy dx dy n X Y S Z) (lnB ax ay bx bY cx cy dx dy n X Y S Z) (lnC ax ay bx bY cx cy dx dy n X Y S Z) (lnD ax ay bx bY cx cy dx dy n X Y S Z) n2 T U V n).length ≤ 10 := by
 unfold tsL
 split
 ·rename_i hz
  have h8 := (isCo_t (tsC_z hz).1).2.2.2.1
  have := (tmS_len (lnA ax ay bx bY cx cy dx dy n X Y S Z) (lnB ax ay bx bY cx cy dx dy n X Y S Z) (lnC ax ay bx bY cx cy dx dy n X Y S Z) (lnD ax ay bx bY cx cy dx dy n X Y S Z) T U V n2 (n + 2)).1
  omega
 ·exact Nat.zero_le _
theorem OwZ.gets {w : World} {B : Nat} {so : Option Addr} {L : List Int} (h : OwZ w B so L) : ∃ g, (L.length = 0 ∨ (so = some ⟨g, 0, none⟩ ∧ B ≤ g ∧ g < w.heap.size)) ∧ ∀ j, j < L.length → w.cell? ⟨g, j, none⟩ = some (.int .i64 (lgt L j)) := by
 rcases h with ⟨_, h0⟩ | ⟨g, h1, h2, h3, h4⟩
 ·exact ⟨0, .inl h0, fun j hj => by omega⟩
 ·exact ⟨g, .inr ⟨h1, h2, h3⟩, fun j hj => (h4 j hj).1⟩
theorem dfL_end (L : List Int) {j : Nat} (h : ¬ j + 1 < L.length) (h2 : j = 0 ∨ j + 1 ≤ L.length) : dfL L (j + 1) = dfL L L.length := by
 rcases (by omega : j + 1 = L.length ∨ (j = 0 ∧ L.length = 0)) with e | ⟨rfl, e⟩
 ·rw [e]
 ·rw [e]; rfl
theorem dfL_next (L : List Int) (j : Nat) : dfL L (j + 1 + 1) = dfL L (j + 1) ++ [lgt L (j + 1) - lgt L j] := by
 show (if j + 1 = 0 then [] else dfL L (j + 1) ++ [lgt L (j + 1) - lgt L (j + 1 - 1)]) = _
 rw [if_neg (Nat.succ_ne_zero j), Nat.add_sub_cancel]
end Go.Proofs.YtcmjcedlbhdihaaGreatDoor
/- Walks: how many of some times are at or before a time, of both. -/
namespace Go.Proofs.YtcmjcedlbhdihaaGreatDoor
open Go.RowKit

theorem tsL_le (ax ay bx bY cx cy dx dy : Int) (_ : Option Addr) (n _ : Nat) (N : Nat → ByteArray) (X Y S Z : Nat → Int) (n2 : Nat) (T U V : Nat → Int) : (tsL (isCo ax ay bx bY cx cy dx dy n N X Y S Z) (isTr n2 T U V) (lnA ax ay bx bY cx cy dx dy n X Y S Z) (lnB ax ay bx bY cx cy dx dy n X Y S Z) (lnC ax ay bx bY cx cy dx dy n X Y S Z) (lnD ax ay bx bY cx cy dx dy n X Y S Z) n2 T U V n).length ≤ n + 2 := by
 unfold tsL
 split
 ·exact (tmS_len (lnA ax ay bx bY cx cy dx dy n X Y S Z) (lnB ax ay bx bY cx cy dx dy n X Y S Z) (lnC ax ay bx bY cx cy dx dy n X Y S Z) (lnD ax ay bx bY cx cy dx dy n X Y S Z) T U V n2 (n + 2)).1
 ·exact Nat.zero_le _
theorem cntL_step (L : List Int) (t : Int) (k : Nat) (x : Int) (h : x = lgt L k) : cntL L t (k + 1) = if x ≤ t then cntL L t k + 1 else cntL L t k := by subst h; rfl
set_option maxHeartbeats 4000000 in
theorem impl_reachedAt (L : List Int) (so : Option Addr) (g cp : Nat) (t : Int) (w : World) (hi : Inc L) (hl : L.length ≤ 100) (hs : L.length = 0 ∨ so = some ⟨g, 0, none⟩) (hc : ∀ j, j < L.length → w.cell? ⟨g, j, none⟩ = some (.int .i64 (lgt L j))) :
 Calls Tryz.prog 20 #[.slice so L.length cp, .int .i64 t] w fun e w' => e = .returned (.int .i64 ((cntL L t L.length : Nat) : Int)) ∧ w = w' := by
 have Hc := hide hc
 have Hi := hide hi
 obtain ⟨R, hR⟩ : ∃ R, R = cntL L t L.length := ⟨_, rfl⟩
 rw [← hR]
 have HR := hide hR
 clear hc hi hR
 go_enter Tryz.func20, Tryz.ntmps20
 go_wp2
 go_loop [5] (fun i => ∃ k : Nat, k ≤ L.length ∧ i = .int .i64 k ∧ Hid (∀ i, i < k → lgt L i ≤ t)) (fun i => L.length - (intOf i).toNat)
 case atStart => exact ⟨0, Nat.zero_le _, rfl, hide (fun i hi => absurd hi (Nat.not_lt_zero _))⟩
 case round =>
  obtain ⟨k, hk, rfl, HK⟩ := hrel
  have hk0 : (0 : Int) ≤ (k : Int) := by omega
  by_cases hlt : k < L.length
  ·obtain rfl : so = some ⟨g, 0, none⟩ := hs.resolve_left (by omega)
   have c0 := Hc.out k hlt
   have hk1 : (k : Int) < (L.length : Int) := by omega
   obtain ⟨x, hx⟩ : ∃ x, x = lgt L k := ⟨_, rfl⟩
   rw [← hx] at c0
   by_cases hle : x ≤ t
   ·have HK2 := hide (show ∀ i, i < k + 1 → lgt L i ≤ t from fun i hi => by
     rcases Nat.lt_or_ge i k with q | q
     ·exact HK.out i q
     ·obtain rfl : i = k := by omega
      rw [← hx]; exact hle)
    clear hx
    go_wp2
    go_round
    case rel => exact ⟨k + 1, by omega, by go_num, HK2⟩
    case measure => simp [intOf]; omega
   ·have He := HR.out.trans (cntL_all Hi.out (t := t) hk HK.out (.inr (by rw [← hx]; omega)))
    subst He
    clear hx
    go_wp2
    go_ret
    exact ⟨rfl, rfl⟩
  ·have He := HR.out.trans (cntL_all Hi.out (t := t) hk HK.out (.inl (by omega)))
   subst He
   go_wp2
   go_ret
   exact ⟨rfl, rfl⟩
set_option maxHeartbeats 4000000 in
theorem spec_l06Reached (L : List Int) (so : Option Addr) (g cp : Nat) (t : Int) (w : World) (hl : L.length ≤ 100) (hs : L.length = 0 ∨ so = some ⟨g, 0, none⟩) (hc : ∀ j, j < L.length → w.cell? ⟨g, j, none⟩ = some (.int .i64 (lgt L j))) :
 Calls Tryz.prog 57 #[.slice so L.length cp, .int .i64 t] w fun e w' => e = .returned (.int .i64 ((cntL L t L.length : Nat) : Int)) ∧ w = w' := by
 have Hc := hide hc
 obtain ⟨R, hR⟩ : ∃ R, R = cntL L t L.length := ⟨_, rfl⟩
 rw [← hR]
 have HR := hide hR
 clear hc hR
 go_enter Tryz.func57, Tryz.ntmps57
 go_wp2
 go_loop [5, 6] (fun c i => ∃ k m : Nat, k ≤ L.length ∧ m ≤ k ∧ i = .int .i64 k ∧ c = .int .i64 m ∧ Hid (m = cntL L t k)) (fun _ i => L.length - (intOf i).toNat)
 case atStart => exact ⟨0, 0, Nat.zero_le _, Nat.le_refl _, rfl, rfl, hide rfl⟩
 case round =>
  obtain ⟨k, m, hk, hm, rfl, rfl, HK⟩ := hrel
  have hk0 : (0 : Int) ≤ (k : Int) := by omega
  by_cases hlt : k < L.length
  ·obtain rfl : so = some ⟨g, 0, none⟩ := hs.resolve_left (by omega)
   have c0 := Hc.out k hlt
   have hk1 : (k : Int) < (L.length : Int) := by omega
   obtain ⟨x, hx⟩ : ∃ x, x = lgt L k := ⟨_, rfl⟩
   rw [← hx] at c0
   have HS := hide (cntL_step L t k x hx)
   clear hx
   by_cases hle : x ≤ t
   ·have HK2 := hide (show m + 1 = cntL L t (k + 1) by rw [HS.out, if_pos hle, ← HK.out])
    go_wp2
    go_round
    case rel => exact ⟨k + 1, m + 1, by omega, by omega, by go_num, by go_num, HK2⟩
    case measure => simp [intOf]; omega
   ·have HK2 := hide (show m = cntL L t (k + 1) by rw [HS.out, if_neg hle, ← HK.out])
    go_wp2
    go_round
    case rel => exact ⟨k + 1, m, by omega, by omega, by go_num, rfl, HK2⟩
    case measure => simp [intOf]; omega
  ·obtain rfl : k = L.length := by omega
   have He := HR.out.trans HK.out.symm
   subst He
   go_wp2
   go_ret
   exact ⟨rfl, rfl⟩
end Go.Proofs.YtcmjcedlbhdihaaGreatDoor
/- Walks: how many stations are reached, of both; the time of the finish, of the program. -/
namespace Go.Proofs.YtcmjcedlbhdihaaGreatDoor
open Go.RowKit

theorem tsL_zero {co tr : Bool} {A B C D : Nat → Int} {n2 : Nat} {T U V : Nat → Int} {n : Nat} (h : ¬ tsC co tr (lnsOk A B C D (n + 1)) = 0) (t : Int) : cntL (tsL co tr A B C D n2 T U V n) t (tsL co tr A B C D n2 T U V n).length = 0 := by rw [tsL_no h]; rfl
theorem dfL_at (L : List Int) : ∀ k j, j + 1 < k → lgt (dfL L k) j = lgt L (j + 1) - lgt L j := fun k => by
 induction k with
 | zero => intro j h; omega
 | succ k ih =>
  intro j h
  show lgt (if k = 0 then [] else dfL L k ++ [lgt L k - lgt L (k - 1)]) j = _
  rw [if_neg (by omega)]
  have hl := dfL_len L k
  rcases Nat.lt_or_ge (j + 1) k with h1 | h1
  ·rw [lgt_app (by omega)]
   exact ih j h1
  ·obtain rfl : j = (dfL L k).length := by omega
   rw [lgt_new, hl, show k - 1 + 1 = k by omega]
/-- The time of the finish, and the code. -/
def fnR (c : Int) (L : List Int) (n : Nat) : Int × Int := if c = 0 then (if L.length < n + 2 then (0, 4) else (lgt L (L.length - 1), 0)) else (0, c)
theorem fnR_no {c : Int} {L : List Int} {n : Nat} (h : ¬ c = 0) : fnR c L n = (0, c) := by unfold fnR; rw [if_neg h]
theorem fnR_few {L : List Int} {n : Nat} (h : L.length < n + 2) : fnR 0 L n = (0, 4) := by unfold fnR; rw [if_pos rfl, if_pos h]
theorem fnR_all {L : List Int} {n : Nat} (h : ¬ L.length < n + 2) : fnR 0 L n = (lgt L (L.length - 1), 0) := by unfold fnR; rw [if_pos rfl, if_neg h]

set_option maxRecDepth 100000 in
set_option maxHeartbeats 8000000 in
theorem impl_ReachedAt (ax ay bx bY cx cy dx dy : Int) (so : Option Addr) (n cap : Nat) (N : Nat → ByteArray) (X Y S Z : Nat → Int) (so2 : Option Addr) (n2 cap2 : Nat) (T U V : Nat → Int) (t : Int) (w : World) (h : RowAt w so n 5 (v5 N X Y S Z)) (hn : n ≤ 1048576) (hcap : n ≤ cap) (h2 : RowAt w so2 n2 3 (v3 T U V)) (hn2 : n2 ≤ 1048576) :
 Calls Tryz.prog 10 #[.agg #[.int .i64 ax, .int .i64 ay, .int .i64 bx, .int .i64 bY, .int .i64 cx, .int .i64 cy, .int .i64 dx, .int .i64 dy, .slice so n cap], .agg #[.slice so2 n2 cap2], .int .i64 t] w fun e w' => e = .returned (.tuple #[.int .i64 ((cntL (tsL (isCo ax ay bx bY cx cy dx dy n N X Y S Z) (isTr n2 T U V) (lnA ax ay bx bY cx cy dx dy n X Y S Z) (lnB ax ay bx bY cx cy dx dy n X Y S Z) (lnC ax ay bx bY cx cy dx dy n X Y S Z) (lnD ax ay bx bY cx cy dx dy n X Y S Z) n2 T U V n) t (tsL (isCo ax ay bx bY cx cy dx dy n N X Y S Z) (isTr n2 T U V) (lnA ax ay bx bY cx cy dx dy n X Y S Z) (lnB ax ay bx bY cx cy dx dy n X Y S Z) (lnC ax ay bx bY cx cy dx dy n X Y S Z) (lnD ax ay bx bY cx cy dx dy n X Y S Z) n2 T U V n).length : Nat) : Int), .int .i64 (tsC (isCo ax ay bx bY cx cy dx dy n N X Y S Z) (isTr n2 T U V) (lnsOk (lnA ax ay bx bY cx cy dx dy n X Y S Z) (lnB ax ay bx bY cx cy dx dy n X Y S Z) (lnC ax ay bx bY cx cy dx dy n X Y S Z) (lnD ax ay bx bY cx cy dx dy n X Y S Z) (n + 1)))]) ∧ Below w.heap.size w w' := by
 have hinc := tsL_inc ax ay bx bY cx cy dx dy so n cap N X Y S Z n2 T U V
 have hlen := tsL_len ax ay bx bY cx cy dx dy so n cap N X Y S Z n2 T U V
 have KC := hide (fun W (hb : Below w.heap.size w W) => impl_sailed ax ay bx bY cx cy dx dy so n cap N X Y S Z so2 n2 cap2 T U V W (RowAt.later hb h) hn hcap (RowAt.later hb h2) hn2)
 generalize (tsL (isCo ax ay bx bY cx cy dx dy n N X Y S Z) (isTr n2 T U V) (lnA ax ay bx bY cx cy dx dy n X Y S Z) (lnB ax ay bx bY cx cy dx dy n X Y S Z) (lnC ax ay bx bY cx cy dx dy n X Y S Z) (lnD ax ay bx bY cx cy dx dy n X Y S Z) n2 T U V n) = Lx at *
 generalize (tsC (isCo ax ay bx bY cx cy dx dy n N X Y S Z) (isTr n2 T U V) (lnsOk (lnA ax ay bx bY cx cy dx dy n X Y S Z) (lnB ax ay bx bY cx cy dx dy n X Y S Z) (lnC ax ay bx bY cx cy dx dy n X Y S Z) (lnD ax ay bx bY cx cy dx dy n X Y S Z) (n + 1))) = c9 at *
 have HI := hide hinc
 clear h h2 hinc
 go_enter Tryz.func10, Tryz.ntmps10
 go_wp2_with fail; (with_reducible refine (KC.out _ bwz).mono ?_); rintro e wB ⟨so9, cpt, rfl, hown, hbB⟩
 obtain ⟨gz, hgz, hcz⟩ := OwZ.gets (OwZ.of hown)
 have hso : Lx.length = 0 ∨ so9 = some ⟨gz, 0, none⟩ := hgz.imp id (·.1)
 have HCZ := hide hcz
 clear hown hcz hgz
 go_wp2_with fail; (with_reducible refine (impl_reachedAt Lx so9 gz cpt t _ HI.out (by omega) hso HCZ.out).mono ?_); rintro e w9 ⟨rfl, rfl⟩
 go_wp2
 go_ret2
 exact ⟨rfl, bstep bwz hbB⟩
end Go.Proofs.YtcmjcedlbhdihaaGreatDoor
