/- Walks: the boat that is first in a zone, of both. -/
import Derived.Test.YtgcdgdnmcdffoaaDoorZc
import Derived.Test.YtgcdgdnmcdffoaaDoorTm
import Derived.BigQuiet
namespace Go.Proofs.YtgcdgdnmcdffoaaDoor
open Go.RowKit

/-- The boat that comes first, of the first k, and when; -1 if none. -/
def ftP (x y z : Int) (nn : Nat → Nat) (T U V : Nat → Nat → Int) : Nat → Int × Int
 | 0 => (-1, 0)
 | k + 1 => if 0 ≤ cmI x y z (nn k) (T k) (U k) (V k) ∧ ((ftP x y z nn T U V k).1 < 0 ∨ cmI x y z (nn k) (T k) (U k) (V k) < (ftP x y z nn T U V k).2) then ((k : Int), cmI x y z (nn k) (T k) (U k) (V k)) else ftP x y z nn T U V k
theorem ftP_yes {x y z : Int} {nn : Nat → Nat} {T U V : Nat → Nat → Int} {k : Nat} {b f c : Int} (h : (b, f) = ftP x y z nn T U V k) (hc : cmI x y z (nn k) (T k) (U k) (V k) = c) (h1 : 0 ≤ c) (h2 : b < 0 ∨ c < f) : ((k : Int), c) = ftP x y z nn T U V (k + 1) := by
 subst hc
 rw [ftP, ← h, if_pos ⟨h1, h2⟩]
theorem ftP_no {x y z : Int} {nn : Nat → Nat} {T U V : Nat → Nat → Int} {k : Nat} {b f c : Int} (h : (b, f) = ftP x y z nn T U V k) (hc : cmI x y z (nn k) (T k) (U k) (V k) = c) (h1 : ¬ (0 ≤ c ∧ (b < 0 ∨ c < f))) : (b, f) = ftP x y z nn T U V (k + 1) := by
 subst hc
 rw [ftP, ← h, if_neg h1]
/-- What is answered, and the code. -/
def ftR (co al : Bool) (n m : Nat) (k b : Int) : Int × Int := if 16 < m then (0, 3) else if zoC co al n k = 0 then (if b < 0 then (0, 4) else (b, 0)) else (0, zoC co al n k)
theorem ftR_big {co al : Bool} {n m : Nat} {k b : Int} (h : 16 < m) : ftR co al n m k b = (0, 3) := by unfold ftR; rw [if_pos h]
theorem ftR_no {co al : Bool} {n m : Nat} {k b : Int} (h : ¬ 16 < m) (z : ¬ zoC co al n k = 0) : ftR co al n m k b = (0, zoC co al n k) := by unfold ftR; rw [if_neg h, if_neg z]
theorem ftR_none {co al : Bool} {n m : Nat} {k b : Int} (h : ¬ 16 < m) (z : zoC co al n k = 0) (hb : b < 0) : ftR co al n m k b = (0, 4) := by unfold ftR; rw [if_neg h, if_pos z, if_pos hb]
theorem ftR_yes {co al : Bool} {n m : Nat} {k b : Int} (h : ¬ 16 < m) (z : zoC co al n k = 0) (hb : ¬ b < 0) : ftR co al n m k b = (b, 0) := by unfold ftR; rw [if_neg h, if_pos z, if_neg hb]
theorem cmI_cases {x y z : Int} {n : Nat} {T U V : Nat → Int} : cmI x y z n T U V = hdT T (lgsZ x y z U V (n - 1)) := rfl
set_option maxRecDepth 100000 in
set_option maxHeartbeats 8000000 in
theorem impl_FirstToZone (ax ay bx bY cx cy dx dy : Int) (so : Option Addr) (n cap : Nat) (N : Nat → ByteArray) (X Y S Z : Nat → Int) (k : Int) (so2 : Option Addr) (m cap2 : Nat) (A : Nat → Option Addr) (nn C : Nat → Nat) (T U V : Nat → Nat → Int) (w : World) (h : RowAt w so n 5 (v5 N X Y S Z)) (hn : n ≤ 1048576) (hcap : n ≤ cap) (h2 : Trs w so2 m A nn C T U V) (hm : m ≤ 1048576) (hnn : ∀ i, i < m → nn i ≤ 1048576) :
 Calls Tryd.prog 13 #[.agg #[.int .i64 ax, .int .i64 ay, .int .i64 bx, .int .i64 bY, .int .i64 cx, .int .i64 cy, .int .i64 dx, .int .i64 dy, .slice so n cap], .int .i64 k, .slice so2 m cap2] w fun e w' => e = .returned (.tuple #[.int .i64 (ftR (isCo ax ay bx bY cx cy dx dy n N X Y S Z) (allTr nn T U V m) n m k (ftP (X k.toNat) (Y k.toNat) (Z k.toNat) nn T U V m).1).1, .int .i64 (ftR (isCo ax ay bx bY cx cy dx dy n N X Y S Z) (allTr nn T U V m) n m k (ftP (X k.toNat) (Y k.toNat) (Z k.toNat) nn T U V m).1).2]) ∧ Below w.heap.size w w' := by
 by_cases h16 : 16 < m
 ·rw [ftR_big h16]
  have h16i : (16 : Int) < (m : Int) := by omega
  clear h h2 hnn
  go_enter Tryd.func13, Tryd.ntmps13
  go_wp2
  go_ret2
  exact ⟨rfl, bwz⟩
 have h16i : ¬ (16 : Int) < (m : Int) := by omega
 have KA := fun W (hb : Below w.heap.size w W) => impl_areTracks so2 m cap2 A nn C T U V W (Trs.later hb h2) hm hnn
 rcases b2 (allTr nn T U V m) with ha | ha
 ·have KA2 := hide (ha ▸ KA)
  have z : ¬ zoC (isCo ax ay bx bY cx cy dx dy n N X Y S Z) (allTr nn T U V m) n k = 0 := by unfold zoC; rw [ha, Bool.and_false]; exact (by decide : ¬ (1 : Int) = 0)
  rw [ftR_no h16 z]
  have Hz := hide (show zoC (isCo ax ay bx bY cx cy dx dy n N X Y S Z) (allTr nn T U V m) n k = 1 by unfold zoC; rw [ha, Bool.and_false]; rfl)
  rw [Hz.out]
  clear KA h h2 hnn z ha Hz
  go_enter Tryd.func13, Tryd.ntmps13
  go_wp2_with (go_at_call 25; (with_reducible refine (KA2.out _ bwz).mono ?_); rintro e w9 ⟨rfl, hb⟩; obtain ⟨hc, hf⟩ := bcell hb; have hz := hb.size; have z0 : w.heap.size < w9.heap.size := (by first | omega | (simp at hz; omega)))
  go_ret2
  exact ⟨rfl, bwz⟩
 have KA2 := hide (ha ▸ KA)
 clear KA
 have KM := fun W (hb : Below w.heap.size w W) => impl_markCode ax ay bx bY cx cy dx dy so n cap N X Y S Z k W (RowAt.later hb h) hn hcap
 have em : mkC (isCo ax ay bx bY cx cy dx dy n N X Y S Z) n k = zoC (isCo ax ay bx bY cx cy dx dy n N X Y S Z) true n k := by unfold zoC mkC; rw [Bool.and_true]
 rw [em] at KM
 have hall := fun i (hi : i < m) => allTr_at hi ha
 rw [ha]
 clear em ha
 rcases zoC_two (isCo ax ay bx bY cx cy dx dy n N X Y S Z) true n k with ⟨z, hco, _, hk0, hk1⟩ | z
 ·have KM2 := hide (z ▸ KM)
  obtain ⟨p0, hp0⟩ : ∃ p, p = ftP (X k.toNat) (Y k.toNat) (Z k.toNat) nn T U V m := ⟨_, rfl⟩
  rw [← hp0]
  obtain ⟨R9, hR9⟩ : ∃ R, R = ftR (isCo ax ay bx bY cx cy dx dy n N X Y S Z) true n m k p0.1 := ⟨_, rfl⟩
  rw [← hR9]
  clear KM
  obtain ⟨K, rfl⟩ := Int.eq_ofNat_of_zero_le hk0
  have hKn : K < n := by omega
  obtain ⟨_, hpt, _, hz1, hz2⟩ := isMk_t ((isCo_t hco).2.2.2.2 K hKn)
  obtain ⟨b, o, rfl, hbs, e0, e1, e2, e3, e4⟩ := h.at5 K hKn
  have hi0 : (0 : Int) ≤ (K : Int) := by omega
  have hi1 : (K : Int) < (n : Int) := by omega
  have Rn := hide (fun (q : p0.1 < 0) => hR9.trans (ftR_none h16 z q))
  have Ry := hide (fun (q : ¬ p0.1 < 0) => hR9.trans (ftR_yes h16 z q))
  rw [Int.toNat_natCast] at hp0
  obtain ⟨x9, hx9⟩ : ∃ v, v = X K := ⟨_, rfl⟩
  obtain ⟨y9, hy9⟩ : ∃ v, v = Y K := ⟨_, rfl⟩
  obtain ⟨z9, hz9⟩ : ∃ v, v = Z K := ⟨_, rfl⟩
  rw [← hx9] at e1 hpt
  rw [← hy9] at e2 hpt
  rw [← hz9] at e4 hz1 hz2
  rw [← hx9, ← hy9, ← hz9] at hp0
  have Hp0 := hide hp0
  generalize N K = nm9 at *
  generalize S K = sd9 at *
  have KC := hide (fun (i : Nat) (hi : i < m) (bA oA : Nat) (eA : A i = some ⟨bA, oA, none⟩) W (hb : Below w.heap.size w W) => impl_comesAt nm9 x9 y9 sd9 z9 bA oA (nn i) (C i) (T i) (U i) (V i) W (RowAt.later hb (eA ▸ h2.2 i hi)) (hall i hi) hpt hz1 hz2)
  have Hbd := hide (fun (i : Nat) (hi : i < m) => cmI_bd (x := x9) (y := y9) (z := z9) (hall i hi))
  have Hrow := hide (fun (i : Nat) (hi : i < m) => row_some (h2.2 i hi) (hall i hi))
  have H2 := hide h2
  clear h h2 hco z hpt hz1 hz2 hall hnn hR9 hp0
  clear hx9 hy9 hz9
  go_enter Tryd.func13, Tryd.ntmps13
  go_wp2_with (first | (go_at_call 25; (with_reducible refine (KA2.out _ bwz).mono ?_); rintro e w9 ⟨rfl, hb⟩; obtain ⟨hc, hf⟩ := bcell hb; have hz := hb.size; have z0 : w.heap.size < w9.heap.size := (by first | omega | (simp at hz; omega)); have zzb : b < w9.heap.size := (by first | omega | (simp at hz; omega))) | (go_at_call 26; (with_reducible refine (KM2.out _ bwz).mono ?_); rintro e w9 ⟨rfl, hb⟩; obtain ⟨hc, hf⟩ := bcell hb; have hz := hb.size; have z0 : w.heap.size < w9.heap.size := (by first | omega | (simp at hz; omega)); have zzb : b < w9.heap.size := (by first | omega | (simp at hz; omega))))
  have t8 : w9.cell? ⟨w.heap.size, 8, none⟩ = some (.slice (some ⟨b, o, none⟩) n cap) := by go_simp
  have hB9 : Below w.heap.size w w9 := bwz
  clear hb hc hf hz
  go_loopw [9, 10, 28] (fun s1 s2 s3 wr => ∃ (i : Nat) (b9 f9 : Int), i ≤ m ∧ s1 = .int .i64 b9 ∧ s2 = .int .i64 f9 ∧ s3 = .int .i64 i ∧ Hid ((b9, f9) = ftP x9 y9 z9 nn T U V i) ∧ wr.cell? ⟨w.heap.size, 8, none⟩ = some (.slice (some ⟨b, o, none⟩) n cap) ∧ Below w.heap.size w wr) (fun _ _ i _ => m - (intOf i).toNat)
  case atStart => exact ⟨0, -1, 0, Nat.zero_le _, rfl, rfl, rfl, hide rfl, t8, hB9⟩
  case round =>
   clear t8 hB9
   obtain ⟨i, b9, f9, hi, rfl, rfl, rfl, HP, t8, hbl⟩ := hrel
   by_cases hlt : i < m
   ·obtain ⟨bT, oT, rfl, hbT, cT⟩ := (Trs.later hbl H2.out).at i hlt
    obtain ⟨bA, oA, eA⟩ := Hrow.out i hlt
    rw [eA] at cT
    have KCi := hide (KC.out i hlt bA oA eA)
    obtain ⟨c9, hc9⟩ : ∃ c, c = cmI x9 y9 z9 (nn i) (T i) (U i) (V i) := ⟨_, rfl⟩
    obtain ⟨bd1, bd2⟩ := Hbd.out i hlt
    rw [← hc9] at KCi bd1 bd2
    have Hc9 := hide hc9.symm
    clear hc9
    have hj1 : (0 : Int) ≤ (i : Int) := by omega
    have hj2 : (i : Int) < (m : Int) := by omega
    have zr := hbl.size
    have zr0 : w.heap.size < wr.heap.size := World.block_lt_of_cell? _ _ t8
    go_upto_region 12 with fail
    obtain ⟨wB, hB⟩ : ∃ W, W = wr.alloc (.cells #[.slice (some ⟨bA, oA, none⟩) (nn i) (C i)] 33) := ⟨_, rfl⟩
    rw [← hB]
    have HBB := hide (show Below w.heap.size w wB by rw [hB]; exact Below.alloc hbl (by omega) _)
    have t8B : wB.cell? ⟨w.heap.size, 8, none⟩ = some (.slice (some ⟨b, o, none⟩) n cap) := by rw [hB]; go_simp
    have t0B : wB.cell? ⟨wr.heap.size, 0, none⟩ = some (.slice (some ⟨bA, oA, none⟩) (nn i) (C i)) := by rw [hB]; go_simp
    have g0 := cell_later HBB.out e0
    have g1 := cell_later HBB.out e1
    have g2 := cell_later HBB.out e2
    have g3 := cell_later HBB.out e3
    have g4 := cell_later HBB.out e4
    have zB1 : wr.heap.size < wB.heap.size := World.block_lt_of_cell? _ _ t0B
    have zB0 : w.heap.size < wB.heap.size := by omega
    have zBb : b < wB.heap.size := by omega
    clear hB t8 cT hbl
    refine wp_region_held_drew (S := fun W => Below wB.heap.size wB W) (by kernel_rfl) (Below.drew (Below.refl _ _)) (fun hHeld => ?_)
    refine tkN 0 (some 33) rfl ?_; simp only [pz]
    refine tkL 1 (some 34) rfl ?_; simp only [pz]
    refine tkN 2 (some 35) rfl ?_; simp only [pz]
    refine tkN 3 (some 36) rfl ?_; simp only [pz]
    refine tkL 4 (some 37) rfl ?_; simp only [pz]
    refine tkL 5 (some 38) rfl ?_; simp only [pz]
    refine rd1 6 (some 39) rfl (fun K hK => ?_)
    go_simp; (go_at_call 27; (with_reducible refine (KCi.out _ (bstep HBB.out bwz)).mono ?_); rintro e w9 ⟨rfl, hb⟩)
    all_goals (try go_wp2_with fail)
    refine hK.out _ _ ?_ (fun hH2 => ?_)
    ·exact hhz
    clear hK K hHeld; (have hHeld := hH2); clear hH2; (try simp only [pz])
    refine tkN 7 (some 13) rfl ?_; simp only [pz]
    refine wpAnyH_done (by kernel_rfl) ?_ _; (try simp only [pz])
    have t8' := cell_later hHeld t8B
    have hbl' := bstep HBB.out hHeld
    clear hHeld t8B t0B g0 g1 g2 g3 g4 KCi hb
    by_cases q1 : 0 ≤ c9
    ·have q1f : ¬ c9 < 0 := by omega
     by_cases q2 : b9 < 0
     ·have Hn := hide (ftP_yes HP.out Hc9.out q1 (.inl q2))
      go_wp2
      go_roundw
      case rel => exact ⟨i + 1, _, _, by omega, rfl, rfl, by go_num, Hn, t8', hbl'⟩
      case measure => simp [intOf]; omega
     ·by_cases q3 : c9 < f9
      ·have Hn := hide (ftP_yes HP.out Hc9.out q1 (.inr q3))
       go_wp2
       go_roundw
       case rel => exact ⟨i + 1, _, _, by omega, rfl, rfl, by go_num, Hn, t8', hbl'⟩
       case measure => simp [intOf]; omega
      ·have Hn := hide (ftP_no HP.out Hc9.out (by omega))
       go_wp2
       go_roundw
       case rel => exact ⟨i + 1, _, _, by omega, rfl, rfl, by go_num, Hn, t8', hbl'⟩
       case measure => simp [intOf]; omega
    ·have Hn := hide (ftP_no HP.out Hc9.out (by omega))
     go_wp2
     go_roundw
     case rel => exact ⟨i + 1, _, _, by omega, rfl, rfl, by go_num, Hn, t8', hbl'⟩
     case measure => simp [intOf]; omega
   ·obtain rfl : i = m := by omega
    have ep := HP.out.trans Hp0.out.symm
    by_cases q2 : b9 < 0
    ·have e9 := hide (Rn.out (by rw [← ep]; exact q2))
     clear Rn Ry ep
     go_wp2
     go_ret2
     exact ⟨by rw [e9.out]; rfl, hbl⟩
    ·have e9 := hide (Ry.out (by rw [← ep]; first | exact q2 | exact Int.not_lt.1 q2))
     rw [← ep] at e9
     clear Rn Ry ep
     go_wp2
     go_ret2
     exact ⟨by rw [e9.out]; rfl, hbl⟩
 ·rw [ftR_no h16 z]
  obtain ⟨c0, hc0⟩ : ∃ c, c = zoC (isCo ax ay bx bY cx cy dx dy n N X Y S Z) true n k := ⟨_, rfl⟩
  rw [← hc0] at z ⊢
  have KM2 := hide (hc0 ▸ KM)
  have hcb : (c0 != 0) = true := bne_iff_ne.2 z
  clear KM hc0 h h2 hnn hall
  go_enter Tryd.func13, Tryd.ntmps13
  go_wp2_with (first | (go_at_call 25; (with_reducible refine (KA2.out _ bwz).mono ?_); rintro e w9 ⟨rfl, hb⟩; obtain ⟨hc, hf⟩ := bcell hb; have hz := hb.size; have z0 : w.heap.size < w9.heap.size := (by first | omega | (simp at hz; omega))) | (go_at_call 26; (with_reducible refine (KM2.out _ bwz).mono ?_); rintro e w9 ⟨rfl, hb⟩; obtain ⟨hc, hf⟩ := bcell hb; have hz := hb.size; have z0 : w.heap.size < w9.heap.size := (by first | omega | (simp at hz; omega))))
  go_ret2
  exact ⟨rfl, bwz⟩
set_option maxRecDepth 100000 in
set_option maxHeartbeats 8000000 in
theorem spec_FirstToZone (ax ay bx bY cx cy dx dy : Int) (so : Option Addr) (n cap : Nat) (N : Nat → ByteArray) (X Y S Z : Nat → Int) (k : Int) (so2 : Option Addr) (m cap2 : Nat) (A : Nat → Option Addr) (nn C : Nat → Nat) (T U V : Nat → Nat → Int) (w : World) (h : RowAt w so n 5 (v5 N X Y S Z)) (hn : n ≤ 1048576) (h2 : Trs w so2 m A nn C T U V) (hm : m ≤ 1048576) (hnn : ∀ i, i < m → nn i ≤ 1048576) :
 Calls Tryd.prog 14 #[.agg #[.int .i64 ax, .int .i64 ay, .int .i64 bx, .int .i64 bY, .int .i64 cx, .int .i64 cy, .int .i64 dx, .int .i64 dy, .slice so n cap], .int .i64 k, .slice so2 m cap2] w fun e w' => e = .returned (.tuple #[.int .i64 (ftR (isCo ax ay bx bY cx cy dx dy n N X Y S Z) (allTr nn T U V m) n m k (ftP (X k.toNat) (Y k.toNat) (Z k.toNat) nn T U V m).1).1, .int .i64 (ftR (isCo ax ay bx bY cx cy dx dy n N X Y S Z) (allTr nn T U V m) n m k (ftP (X k.toNat) (Y k.toNat) (Z k.toNat) nn T U V m).1).2]) ∧ Below w.heap.size w w' := by
 by_cases h16 : 16 < m
 ·rw [ftR_big h16]
  have h16i : (16 : Int) < (m : Int) := by omega
  clear h h2 hnn
  go_enter Tryd.func14, Tryd.ntmps14
  go_wp2
  go_ret2
  exact ⟨rfl, bwz⟩
 have h16i : ¬ (16 : Int) < (m : Int) := by omega
 have KI := fun W (hb : Below w.heap.size w W) => spec_IsCourse ax ay bx bY cx cy dx dy so n cap N X Y S Z W (RowAt.later hb h) hn
 rcases b2 (isCo ax ay bx bY cx cy dx dy n N X Y S Z) with hco | hco
 ·have z1 : zoC (isCo ax ay bx bY cx cy dx dy n N X Y S Z) (allTr nn T U V m) n k = 1 := by unfold zoC; rw [hco, Bool.false_and]; rfl
  have z : ¬ zoC (isCo ax ay bx bY cx cy dx dy n N X Y S Z) (allTr nn T U V m) n k = 0 := by rw [z1]; decide
  have KI2 := hide (hco ▸ KI)
  rw [ftR_no h16 z, z1]
  clear KI h h2 hnn z z1 hco
  go_enter Tryd.func14, Tryd.ntmps14
  go_wp2_with (go_at_call 28; (with_reducible refine (KI2.out _ bwz).mono ?_); rintro e w9 ⟨rfl, hb⟩; obtain ⟨hc, hf⟩ := bcell hb; have hz := hb.size; have z0 : w.heap.size < w9.heap.size := (by first | omega | (simp at hz; omega)))
  go_ret2
  exact ⟨rfl, bwz⟩
 have KI2 := hide (hco ▸ KI)
 obtain ⟨p0, hp0⟩ : ∃ p, p = ftP (X k.toNat) (Y k.toNat) (Z k.toNat) nn T U V m := ⟨_, rfl⟩
 rw [← hp0]
 obtain ⟨R9, hR9⟩ : ∃ R, R = ftR (isCo ax ay bx bY cx cy dx dy n N X Y S Z) (allTr nn T U V m) n m k p0.1 := ⟨_, rfl⟩
 rw [← hR9]
 have Hp := hide hp0
 have HR := hide hR9
 clear hp0 hR9
 have Hn1 := hide (fun (q : allTr nn T U V m = false) => show R9 = (0, 1) from by
  have z1 : zoC (isCo ax ay bx bY cx cy dx dy n N X Y S Z) (allTr nn T U V m) n k = 1 := by unfold zoC; rw [q, Bool.and_false]; rfl
  rw [HR.out, ftR_no h16 (by rw [z1]; decide), z1])
 have KT := hide (fun (i : Nat) (hi : i < m) W (hb : Below w.heap.size w W) => spec_IsTrack (A i) (nn i) (C i) (T i) (U i) (V i) W (RowAt.later hb (h2.2 i hi)) (hnn i hi))
 have H2 := hide h2
 have we := hide (show IntKind.i64.wrap ((n : Int) - 1) = (n : Int) - 1 from IntWalk.i64_in _ (by omega))
 have Hh := hide h
 have Hco := hide hco
 clear KI hnn h2 h hco
 go_enter Tryd.func14, Tryd.ntmps14
 go_wp2_with (go_at_call 28; (with_reducible refine (KI2.out _ bwz).mono ?_); rintro e w9 ⟨rfl, hb⟩; obtain ⟨hc, hf⟩ := bcell hb; have hz := hb.size; have z0 : w.heap.size < w9.heap.size := (by first | omega | (simp at hz; omega)))
 have t8 : w9.cell? ⟨w.heap.size, 8, none⟩ = some (.slice so n cap) := by go_simp
 have hB9 : Below w.heap.size w w9 := bwz
 clear hb hc hf hz
 go_loopw [8] (fun s1 wr => ∃ i : Nat, i ≤ m ∧ s1 = .int .i64 i ∧ Hid (allTr nn T U V i = true) ∧ wr.cell? ⟨w.heap.size, 8, none⟩ = some (.slice so n cap) ∧ Below w.heap.size w wr) (fun i _ => m - (intOf i).toNat)
 case atStart => exact ⟨0, Nat.zero_le _, rfl, hide rfl, t8, hB9⟩
 case round =>
  clear t8 hB9
  obtain ⟨i, hi, rfl, HA, t8, hbl⟩ := hrel
  have zr0 : w.heap.size < wr.heap.size := World.block_lt_of_cell? _ _ t8
  have zr := hbl.size
  by_cases hlt : i < m
  ·obtain ⟨bT, oT, rfl, hbT, cT⟩ := (Trs.later hbl H2.out).at i hlt
   have hj1 : (0 : Int) ≤ (i : Int) := by omega
   have hj2 : (i : Int) < (m : Int) := by omega
   have KTi := KT.out i hlt
   rcases b2 (isTr (nn i) (T i) (U i) (V i)) with ht | ht
   ·have KT2 := hide (ht ▸ KTi)
    have e9 := hide (Hn1.out (allTr_no hlt ht))
    clear KTi ht Hn1
    go_wp2_with (go_at_call 29; (with_reducible refine (KT2.out _ hbl).mono ?_); rintro e w9 ⟨rfl, hb⟩)
    go_ret2
    exact ⟨by rw [e9.out]; rfl, bwz⟩
   ·have KT2 := hide (ht ▸ KTi)
    have Hf := hide (show allTr nn T U V (i + 1) = true by rw [allTr, HA.out, ht]; rfl)
    clear KTi ht HA
    go_wp2_with (go_at_call 29; (with_reducible refine (KT2.out _ hbl).mono ?_); rintro e w9 ⟨rfl, hb⟩)
    have t8' := cell_later hb t8
    have hbl' := bstep hbl hb
    clear t8 cT hbl hb
    go_roundw
    case rel => exact ⟨i + 1, by omega, by go_num, Hf, t8', hbl'⟩
    case measure => simp [intOf]; omega
  ·obtain rfl : i = m := by omega
   have hal := HA.out
   have hall := fun j (hj : j < i) => allTr_at hj hal
   have hR9 := HR.out
   rw [hal] at hR9
   rcases b2 (inB k 0 ((n : Int) - 1)) with g2 | g2
   ·have z1 : zoC (isCo ax ay bx bY cx cy dx dy n N X Y S Z) true n k = 4 := by unfold zoC; rw [Hco.out, g2]; rfl
    rw [ftR_no h16 (by rw [z1]; decide), z1] at hR9
    have e9 := hide hR9
    have f1 := we.out
    clear z1 hall hal HA hR9 HR Hp Hn1
    go_wp2_with (go_at_call 30; (with_reducible refine (spec_l01In _ _ _ _).mono ?_); rintro e w9 ⟨rfl, rfl⟩)
    go_ret2
    exact ⟨by rw [e9.out]; rfl, hbl⟩
   have z : zoC (isCo ax ay bx bY cx cy dx dy n N X Y S Z) true n k = 0 := by unfold zoC; rw [Hco.out, g2]; rfl
   have hco := Hco.out
   have h := Hh.out
   have hp0 := Hp.out
   obtain ⟨hk0, hk1⟩ := inB_t g2
   obtain ⟨K, rfl⟩ := Int.eq_ofNat_of_zero_le hk0
   have hKn : K < n := by omega
   obtain ⟨_, hpt, _, hz1, hz2⟩ := isMk_t ((isCo_t hco).2.2.2.2 K hKn)
   obtain ⟨b, o, rfl, hbs, e0, e1, e2, e3, e4⟩ := h.at5 K hKn
   have hi0 : (0 : Int) ≤ (K : Int) := by omega
   have hi1 : (K : Int) < (n : Int) := by omega
   have Rn := hide (fun (q : p0.1 < 0) => hR9.trans (ftR_none h16 z q))
   have Ry := hide (fun (q : ¬ p0.1 < 0) => hR9.trans (ftR_yes h16 z q))
   rw [Int.toNat_natCast] at hp0
   obtain ⟨x9, hx9⟩ : ∃ v, v = X K := ⟨_, rfl⟩
   obtain ⟨y9, hy9⟩ : ∃ v, v = Y K := ⟨_, rfl⟩
   obtain ⟨z9, hz9⟩ : ∃ v, v = Z K := ⟨_, rfl⟩
   rw [← hx9] at e1 hpt
   rw [← hy9] at e2 hpt
   rw [← hz9] at e4 hz1 hz2
   rw [← hx9, ← hy9, ← hz9] at hp0
   have Hp0 := hide hp0
   generalize N K = nm9 at *
   generalize S K = sd9 at *
   have KC := hide (fun (j : Nat) (hj : j < i) (bA oA : Nat) (eA : A j = some ⟨bA, oA, none⟩) W (hb : Below w.heap.size w W) => spec_l07Legs nm9 x9 y9 sd9 z9 bA oA (nn j) (C j) (T j) (U j) (V j) W (RowAt.later hb (eA ▸ H2.out.2 j hj)) (hall j hj) hpt hz1 hz2)
   have Hbd := hide (fun (j : Nat) (hj : j < i) => cmI_bd (x := x9) (y := y9) (z := z9) (hall j hj))
   have Hleg := hide (fun (j : Nat) (hj : j < i) => And.intro (isTr_t (hall j hj)).1 (And.intro (lgsZ_mem x9 y9 z9 (U j) (V j) (nn j - 1)) (fun q (hq : q < nn j) => ((isTr_t (hall j hj)).2.2 q hq).1)))
   have Hrow := hide (fun (j : Nat) (hj : j < i) => row_some (H2.out.2 j hj) (hall j hj))
   have f1 := we.out
   clear h hco z hpt hz1 hz2 hall Hh Hco HA hal Hn1 KT hlt KI2 hx9 hy9 hz9 HR Hp hp0 hR9
   go_wp2_with (go_at_call 30; (with_reducible refine (spec_l01In _ _ _ _).mono ?_); rintro e w9 ⟨rfl, rfl⟩)
   clear f1 we g2
   obtain ⟨m, rfl⟩ : ∃ q, q = i := ⟨_, rfl⟩
   obtain ⟨wL, rfl⟩ : ∃ W : World, W = wr := ⟨_, rfl⟩
   go_loopw [9, 10, 11] (fun s1 s2 s3 wr => ∃ (i : Nat) (b9 f9 : Int), i ≤ m ∧ s1 = .int .i64 b9 ∧ s2 = .int .i64 f9 ∧ s3 = .int .i64 i ∧ Hid ((b9, f9) = ftP x9 y9 z9 nn T U V i) ∧ wr.cell? ⟨w.heap.size, 8, none⟩ = some (.slice (some ⟨b, o, none⟩) n cap) ∧ Below w.heap.size w wr) (fun _ _ i _ => m - (intOf i).toNat)
   case atStart => exact ⟨0, -1, 0, Nat.zero_le _, rfl, rfl, rfl, hide rfl, t8, hbl⟩
   case round =>
    clear t8 hbl zr0 zr
    obtain ⟨i, b9, f9, hi, rfl, rfl, rfl, HP, t8, hbl⟩ := hrel
    have zr0 : w.heap.size < wr.heap.size := World.block_lt_of_cell? _ _ t8
    have zr := hbl.size
    by_cases hlt : i < m
    ·obtain ⟨bT, oT, rfl, hbT, cT⟩ := (Trs.later hbl H2.out).at i hlt
     obtain ⟨bA, oA, eA⟩ := Hrow.out i hlt
     rw [eA] at cT
     have KCi := hide (KC.out i hlt bA oA eA)
     obtain ⟨c9, hc9⟩ : ∃ c, c = cmI x9 y9 z9 (nn i) (T i) (U i) (V i) := ⟨_, rfl⟩
     obtain ⟨bd1, bd2⟩ := Hbd.out i hlt
     obtain ⟨hn2, hmem, hT0⟩ := Hleg.out i hlt
     have hc8 := hc9
     rw [cmI_cases] at hc8
     rw [← hc9] at bd1 bd2
     have Hc9 := hide hc9.symm
     have Hc8 := hide hc8
     clear hc9
     generalize lgsZ x9 y9 z9 (U i) (V i) (nn i - 1) = L at *
     clear hc8
     have hj1 : (0 : Int) ≤ (i : Int) := by omega
     have hj2 : (i : Int) < (m : Int) := by omega
     have g0 := cell_later hbl e0
     have g1 := cell_later hbl e1
     have g2 := cell_later hbl e2
     have g3 := cell_later hbl e3
     have g4 := cell_later hbl e4
     have zBb : b < wr.heap.size := by omega
     have HBB := hide hbl
     obtain ⟨wB, rfl⟩ : ∃ W : World, W = wr := ⟨_, rfl⟩
     clear hbl
     go_upto_region 16 with fail
     refine wp_region_held_drew (S := fun W => Below wB.heap.size wB W) (by kernel_rfl) (Below.drew (Below.refl _ _)) (fun hHeld => ?_)
     refine tkN 0 (some 45) rfl ?_; simp only [pz]
     refine tkL 1 (some 46) rfl ?_; simp only [pz]
     refine tkN 2 (some 47) rfl ?_; simp only [pz]
     refine tkN 3 (some 48) rfl ?_; simp only [pz]
     refine tkL 4 (some 49) rfl ?_; simp only [pz]
     refine tkN 5 (some 50) rfl ?_; simp only [pz]
     refine tkN 6 (some 51) rfl ?_; simp only [pz]
     refine tkN 7 (some 52) rfl ?_; simp only [pz]
     refine tkL 8 (some 53) rfl ?_; simp only [pz]
     refine rd1 9 (some 54) rfl (fun K hK => ?_)
     go_simp; (go_at_call 20; (with_reducible refine (KCi.out _ (bstep HBB.out bwz)).mono ?_); rintro e w9 ⟨g9, cp9, rfl, hown, hb⟩; have Hown := hide hown; clear hown)
     all_goals (try go_wp2_with fail)
     refine hK.out _ _ ?_ (fun hH2 => ?_)
     ·exact hhz
     clear hK K hHeld; (have hHeld := hH2); clear hH2; (try simp only [pz])
     refine tkN 10 (some 12) rfl ?_; simp only [pz]
     refine wpAnyH_done (by kernel_rfl) ?_ _; (try simp only [pz])
     have t8' := cell_later hHeld t8
     have hbl' := bstep HBB.out hHeld
     have hown := Hown.out
     have cT' := cell_later hHeld cT
     clear t8 cT g0 g1 g2 g3 g4 KCi
     rcases L with _ | ⟨p, tl⟩
     ·have hc7 : c9 = -1 := Hc8.out
      have Hn := hide (ftP_no HP.out Hc9.out (by omega))
      go_wp2
      go_roundw
      case rel => exact ⟨i + 1, _, _, by omega, rfl, rfl, by go_num, Hn, t8', hbl'⟩
      case measure => simp [intOf]; omega
     ·obtain ⟨j, rfl, hj⟩ := hmem p List.mem_cons_self
      have hc7 : c9 = T i j := by rw [Hc8.out]; show T i (Int.toNat j) = T i j; rw [Int.toNat_natCast]
      have c0 := own_head hown
      have gl := (hown.lt g9 rfl).2
      have hrA := H2.out.2 i hlt
      rw [eA] at hrA
      obtain ⟨d0, d1, d2⟩ := (RowAt.later hbl' hrA).on3 j (by omega)
      obtain ⟨m9, hm9⟩ : ∃ m, m = ((j : Int) :: tl).length := ⟨_, rfl⟩
      have hm0 : (0 : Int) < (m9 : Int) := by rw [hm9, List.length_cons]; omega
      have hm1 : ((m9 : Int) == 0) = false := beq_eq_false_iff_ne.2 (by omega)
      rw [← hm9]
      have hj3 : (0 : Int) ≤ (j : Int) := by omega
      have hj4 : (j : Int) < (nn i : Int) := by omega
      have q1 : 0 ≤ c9 := by have := hT0 j (by omega); omega
      rw [← hc7] at d0
      clear hown hm9 hrA hmem hT0 hc7 d1 d2
      go_upto_region 18 with fail
      go_quiet (fail)
      by_cases q2 : b9 < 0
      ·have Hn := hide (ftP_yes HP.out Hc9.out q1 (.inl q2))
       go_wp2
       go_roundw
       case rel => exact ⟨i + 1, _, _, by omega, rfl, rfl, by go_num, Hn, by go_simp, bwz⟩
       case measure => simp [intOf]; omega
      ·by_cases q3 : c9 < f9
       ·have Hn := hide (ftP_yes HP.out Hc9.out q1 (.inr q3))
        go_wp2
        go_roundw
        case rel => exact ⟨i + 1, _, _, by omega, rfl, rfl, by go_num, Hn, by go_simp, bwz⟩
        case measure => simp [intOf]; omega
       ·have Hn := hide (ftP_no HP.out Hc9.out (by omega))
        go_wp2
        go_roundw
        case rel => exact ⟨i + 1, _, _, by omega, rfl, rfl, by go_num, Hn, by go_simp, bwz⟩
        case measure => simp [intOf]; omega
    ·obtain rfl : i = m := by omega
     have ep := HP.out.trans Hp0.out.symm
     by_cases q2 : b9 < 0
     ·have e9 := hide (Rn.out (by rw [← ep]; exact q2))
      clear Rn Ry ep
      go_wp2
      go_ret2
      exact ⟨by rw [e9.out]; rfl, hbl⟩
     ·have e9 := hide (Ry.out (by rw [← ep]; first | exact q2 | exact Int.not_lt.1 q2))
      rw [← ep] at e9
      clear Rn Ry ep
      go_wp2
      go_ret2
      exact ⟨by rw [e9.out]; rfl, hbl⟩
end Go.Proofs.YtgcdgdnmcdffoaaDoor
