/- Walks: in the zone at a time; the distance to a mark, in lengths too; of both. -/
import Derived.Test.YtklbbopdmnopgaaGreatDoorZa
import Derived.Test.YtklbbopdmnopgaaGreatDoorBp
namespace Go.Proofs.YtklbbopdmnopgaaGreatDoor
open Go.RowKit

def izOk (co tr : Bool) (n : Nat) (k : Int) (tin : Bool) : Bool := zoC co tr n k == 0 && tin
def izC (co tr : Bool) (n : Nat) (k : Int) (tin : Bool) : Int := if zoC co tr n k == 0 then sel tin 0 2 else zoC co tr n k
theorem iz_cases (co tr : Bool) (n : Nat) (k : Int) (tin : Bool) : (zoC co tr n k ≠ 0 ∧ izOk co tr n k tin = false ∧ izC co tr n k tin = zoC co tr n k) ∨ (zoC co tr n k = 0 ∧ tin = false ∧ izOk co tr n k tin = false ∧ izC co tr n k tin = 2) ∨ (zoC co tr n k = 0 ∧ tin = true ∧ izOk co tr n k tin = true ∧ izC co tr n k tin = 0) := by
 unfold izOk izC
 by_cases h : zoC co tr n k = 0
 ·right
  rw [h]
  cases tin
  ·left; exact ⟨rfl, rfl, rfl, rfl⟩
  ·right; exact ⟨rfl, rfl, rfl, rfl⟩
 ·left
  have e : (zoC co tr n k == 0) = false := beq_eq_false_iff_ne.2 h
  rw [e]
  exact ⟨h, rfl, rfl⟩
theorem zo_t {co tr : Bool} {n : Nat} {k : Int} (h : zoC co tr n k = 0) : co = true ∧ tr = true ∧ 0 ≤ k ∧ k ≤ (n : Int) - 1 := by
 rcases zoC_two co tr n k with h' | h'
 ·exact h'.2
 ·exact absurd h h'
/-- The square of the distance from a track at a time to mark k. -/
def dsq (n2 : Nat) (T U V : Nat → Int) (t : Int) (X Y : Nat → Int) (k : Int) : Int := sq (posX n2 T U t) (posX n2 T V t) (X k.toNat) (Y k.toNat)
def leOk (co tr : Bool) (n : Nat) (k : Int) (tin : Bool) (hull : Int) : Bool := izOk co tr n k tin && inB hull 1 1000
def leC (co tr : Bool) (n : Nat) (k : Int) (tin : Bool) (hull : Int) : Int := if zoC co tr n k == 0 then sel (inB hull 1 1000) (sel tin 0 2) 2 else zoC co tr n k
set_option maxRecDepth 100000 in
set_option maxHeartbeats 8000000 in
theorem impl_InZoneAt (ax ay bx bY cx cy dx dy : Int) (so : Option Addr) (n cap : Nat) (N : Nat → ByteArray) (X Y S Z : Nat → Int) (k : Int) (so2 : Option Addr) (n2 cap2 : Nat) (T U V : Nat → Int) (t : Int) (w : World) (h : RowAt w so n 5 (v5 N X Y S Z)) (hn : n ≤ 1048576) (hcap : n ≤ cap) (h2 : RowAt w so2 n2 3 (v3 T U V)) (hn2 : n2 ≤ 1048576) :
 Calls Tryz.prog 6 #[.agg #[.int .i64 ax, .int .i64 ay, .int .i64 bx, .int .i64 bY, .int .i64 cx, .int .i64 cy, .int .i64 dx, .int .i64 dy, .slice so n cap], .int .i64 k, .agg #[.slice so2 n2 cap2], .int .i64 t] w fun e w' => e = .returned (.tuple #[.bool (selB (izOk (isCo ax ay bx bY cx cy dx dy n N X Y S Z) (isTr n2 T U V) n k (inB t (T 0) (T (n2 - 1)))) (decide (dsq n2 T U V t X Y k ≤ Z k.toNat * Z k.toNat)) false), .int .i64 (izC (isCo ax ay bx bY cx cy dx dy n N X Y S Z) (isTr n2 T U V) n k (inB t (T 0) (T (n2 - 1))))]) ∧ Below w.heap.size w w' := by
 have KZ := fun W (hb : Below w.heap.size w W) => impl_zoneCode ax ay bx bY cx cy dx dy so n cap N X Y S Z k so2 n2 cap2 T U V W (RowAt.later hb h) hn hcap (RowAt.later hb h2) hn2
 rcases iz_cases (isCo ax ay bx bY cx cy dx dy n N X Y S Z) (isTr n2 T U V) n k (inB t (T 0) (T (n2 - 1))) with ⟨z, ho, hc⟩ | ⟨z, ht, ho, hc⟩ | ⟨z, ht, ho, hc⟩
 ·obtain ⟨c0, hc0⟩ : ∃ c, c = zoC (isCo ax ay bx bY cx cy dx dy n N X Y S Z) (isTr n2 T U V) n k := ⟨_, rfl⟩
  rw [← hc0] at z hc
  have KZ2 := hide (hc0 ▸ KZ)
  have hcb : (c0 != 0) = true := bne_iff_ne.2 z
  clear KZ hc0
  have key : Calls Tryz.prog 6 #[.agg #[.int .i64 ax, .int .i64 ay, .int .i64 bx, .int .i64 bY, .int .i64 cx, .int .i64 cy, .int .i64 dx, .int .i64 dy, .slice so n cap], .int .i64 k, .agg #[.slice so2 n2 cap2], .int .i64 t] w fun e w' => e = .returned (.tuple #[.bool false, .int .i64 c0]) ∧ Below w.heap.size w w' := by
   clear ho hc h h2
   go_enter Tryz.func6, Tryz.ntmps6
   go_wp2_with (go_at_call 17; (with_reducible refine (KZ2.out _ bwz).mono ?_); rintro e w9 ⟨rfl, hb⟩; obtain ⟨hc, hf⟩ := bcell hb; have hz := hb.size; have z0 : w.heap.size < w9.heap.size := (by first | omega | (simp at hz; omega)); have z1 : w.heap.size + 1 < w9.heap.size := (by first | omega | (simp at hz; omega)))
   go_ret2
   exact ⟨rfl, bwz⟩
  exact key.mono fun e w' k9 => ⟨by rw [k9.1, ho, hc]; rfl, k9.2⟩
 ·obtain ⟨hco, htr, hk0, hk1⟩ := zo_t z
  have KZ2 := hide (z ▸ KZ)
  obtain ⟨hn2a, _, _⟩ := isTr_t htr
  obtain ⟨b2, o2, rfl, hb2, _, _, _⟩ := h2.at3 0 (by omega)
  have KL := hide (fun W (hb : Below w.heap.size w W) => ht ▸ impl_lasts b2 o2 n2 cap2 T U V t W (RowAt.later hb h2) htr)
  clear KZ
  have key : Calls Tryz.prog 6 #[.agg #[.int .i64 ax, .int .i64 ay, .int .i64 bx, .int .i64 bY, .int .i64 cx, .int .i64 cy, .int .i64 dx, .int .i64 dy, .slice so n cap], .int .i64 k, .agg #[.slice (some ⟨b2, o2, none⟩) n2 cap2], .int .i64 t] w fun e w' => e = .returned (.tuple #[.bool false, .int .i64 2]) ∧ Below w.heap.size w w' := by
   clear ho hc h h2 hco htr ht z
   go_enter Tryz.func6, Tryz.ntmps6
   go_wp2_with (first | (go_at_call 17; (with_reducible refine (KZ2.out _ bwz).mono ?_); rintro e w9 ⟨rfl, hb⟩; obtain ⟨hc, hf⟩ := bcell hb; have hz := hb.size; have z0 : w.heap.size < w9.heap.size := (by first | omega | (simp at hz; omega)); have z1 : w.heap.size + 1 < w9.heap.size := (by first | omega | (simp at hz; omega))) | (go_at_call 18; (with_reducible refine (KL.out _ bwz).mono ?_); rintro e w9 ⟨rfl, hb⟩; obtain ⟨hc, hf⟩ := bcell hb; have hz := hb.size; have z0 : w.heap.size < w9.heap.size := (by first | omega | (simp at hz; omega)); have z1 : w.heap.size + 1 < w9.heap.size := (by first | omega | (simp at hz; omega))))
   go_ret2
   exact ⟨rfl, bwz⟩
  exact key.mono fun e w' k9 => ⟨by rw [k9.1, ho, hc]; rfl, k9.2⟩
 ·obtain ⟨hco, htr, hk0, hk1⟩ := zo_t z
  have KZ2 := hide (z ▸ KZ)
  obtain ⟨hn2a, _, _⟩ := isTr_t htr
  obtain ⟨b2, o2, rfl, hb2, _, _, _⟩ := h2.at3 0 (by omega)
  have KL := hide (fun W (hb : Below w.heap.size w W) => ht ▸ impl_lasts b2 o2 n2 cap2 T U V t W (RowAt.later hb h2) htr)
  obtain ⟨K, rfl⟩ := Int.eq_ofNat_of_zero_le hk0
  have hKn : K < n := by omega
  obtain ⟨_, hpt, _, hz1, hz2⟩ := isMk_t ((isCo_t hco).2.2.2.2 K hKn)
  have hps := posX_pt htr ht
  obtain ⟨s1, s2⟩ := pt_sm hps
  obtain ⟨s3, s4⟩ := pt_sm hpt
  obtain ⟨d1, d2⟩ := sq_pt hps hpt
  have KP := hide (fun W (hb : Below w.heap.size w W) => impl_positionAt b2 o2 n2 cap2 T U V t W (RowAt.later hb h2) htr ht)
  have KQ := hide (fun W => impl_squareDistance _ _ (X K) (Y K) s1 s2 s3 s4 W)
  obtain ⟨v9, hv9⟩ : ∃ v, v = sq (posX n2 T U t) (posX n2 T V t) (X K) (Y K) := ⟨_, rfl⟩
  rw [← hv9] at KQ
  have Hv9 := hide (show dsq n2 T U V t X Y (K : Int) = v9 by unfold dsq; rw [Int.toNat_natCast, hv9])
  have hZ1 : 0 ≤ Z K * Z K ∧ Z K * Z K ≤ 25000000 := ⟨Int.mul_nonneg (by omega) (by omega), Int.le_trans (Int.mul_le_mul hz2 hz2 (by omega) (by omega)) (by decide)⟩
  have We := hide (show IntKind.i64.wrap (Z K * Z K) = Z K * Z K from IntWalk.i64_in _ (by omega))
  obtain ⟨p1, hp1⟩ : ∃ p, p = posX n2 T U t := ⟨_, rfl⟩
  obtain ⟨p2, hp2⟩ : ∃ p, p = posX n2 T V t := ⟨_, rfl⟩
  rw [← hp1, ← hp2] at KP KQ
  obtain ⟨q9, hq9⟩ : ∃ q, q = decide (v9 ≤ Z K * Z K) := ⟨_, rfl⟩
  have Hq9 := hide hq9.symm
  obtain ⟨b, o, rfl, hbs, e0, e1, e2, e3, e4⟩ := h.at5 K hKn
  have hbs1 : b < w.heap.size + 1 := by omega
  have hbs2 : b < w.heap.size + 1 + 1 := by omega
  have hi0 : (0 : Int) ≤ (K : Int) := by omega
  have hi1 : (K : Int) < (n : Int) := by omega
  clear KZ
  have key : Calls Tryz.prog 6 #[.agg #[.int .i64 ax, .int .i64 ay, .int .i64 bx, .int .i64 bY, .int .i64 cx, .int .i64 cy, .int .i64 dx, .int .i64 dy, .slice (some ⟨b, o, none⟩) n cap], .int .i64 (K : Int), .agg #[.slice (some ⟨b2, o2, none⟩) n2 cap2], .int .i64 t] w fun e w' => e = .returned (.tuple #[.bool q9, .int .i64 0]) ∧ Below w.heap.size w w' := by
   clear ho hc h h2 hco htr ht z hpt hps s1 s2 s3 s4 d1 d2 hv9 hp1 hp2 hk1 hz1 hz2 hZ1 hq9
   go_enter Tryz.func6, Tryz.ntmps6
   go_upto_region 7 with (first | (go_at_call 17; (with_reducible refine (KZ2.out _ bwz).mono ?_); rintro e w9 ⟨rfl, hb⟩; obtain ⟨hc, hf⟩ := bcell hb; have hz := hb.size; have z0 : w.heap.size < w9.heap.size := (by first | omega | (simp at hz; omega)); have z1 : w.heap.size + 1 < w9.heap.size := (by first | omega | (simp at hz; omega)); have zzb : b < w9.heap.size := (by first | omega | (simp at hz; omega))) | (go_at_call 18; (with_reducible refine (KL.out _ bwz).mono ?_); rintro e w9 ⟨rfl, hb⟩; obtain ⟨hc, hf⟩ := bcell hb; have hz := hb.size; have z0 : w.heap.size < w9.heap.size := (by first | omega | (simp at hz; omega)); have z1 : w.heap.size + 1 < w9.heap.size := (by first | omega | (simp at hz; omega)); have zzb : b < w9.heap.size := (by first | omega | (simp at hz; omega))))
   obtain ⟨wL, rfl⟩ : ∃ x : World, x = w9 := ⟨_, rfl⟩
   have zL : w.heap.size + 1 < wL.heap.size := by first | omega | (have := hb.size; simp at this; omega)
   have HBL := hide (show Below w.heap.size w wL from bwz)
   have t0 : wL.cell? ⟨w.heap.size + 1, 0, none⟩ = some (.slice (some ⟨b2, o2, none⟩) n2 cap2) := by go_simp
   obtain ⟨wB, hB⟩ : ∃ W, W = wL.alloc (.cells #[.string (N K), .int .i64 (X K), .int .i64 (Y K), .int .i64 (S K), .int .i64 (Z K)] 45) := ⟨_, rfl⟩
   have m1 : wB.cell? ⟨wL.heap.size, 1, none⟩ = some (.int .i64 (X K)) := by rw [hB]; go_simp
   have m2 : wB.cell? ⟨wL.heap.size, 2, none⟩ = some (.int .i64 (Y K)) := by rw [hB]; go_simp
   have m4 : wB.cell? ⟨wL.heap.size, 4, none⟩ = some (.int .i64 (Z K)) := by rw [hB]; go_simp
   have t1 : wB.cell? ⟨w.heap.size + 1, 0, none⟩ = some (.slice (some ⟨b2, o2, none⟩) n2 cap2) := by rw [hB]; go_simp
   have HBB := hide (show Below w.heap.size w wB by rw [hB]; exact Below.alloc HBL.out (by omega) _)
   have zB : wL.heap.size < wB.heap.size := by rw [hB]; simp
   have zB1 : w.heap.size + 1 < wB.heap.size := by omega
   rw [← hB]
   clear hB t0 hb hc hf e0 e1 e2 e3 e4
   have f1 := We.out
   have f2 := Hq9.out
   refine wp_region_held_drew (S := fun W => Below wB.heap.size wB W) (by kernel_rfl) (Below.drew (Below.refl _ _)) (fun hHeld => ?_)
   refine tkL 0 (some 28) rfl ?_; simp only [pz]
   refine tkN 1 (some 29) rfl ?_; simp only [pz]
   refine tkN 3 (some 31) rfl ?_; simp only [pz]
   refine tkL 4 (some 32) rfl ?_; simp only [pz]
   refine tkN 6 (some 34) rfl ?_; simp only [pz]
   refine tkL 7 (some 35) rfl ?_; simp only [pz]
   refine tkN 8 (some 36) rfl ?_; simp only [pz]
   refine tkL 9 (some 37) rfl ?_; simp only [pz]
   refine tkN 10 (some 38) rfl ?_; simp only [pz]
   refine rd1 2 (some 30) rfl (fun K hK => ?_)
   go_simp; (go_at_call 20; (with_reducible refine (KP.out _ (bstep HBB.out bwz)).mono ?_); rintro e w9 ⟨rfl, hb⟩; have hzz := hb.size)
   all_goals (try go_wp2_with fail)
   refine hK.out _ _ ?_ (fun hH2 => ?_)
   ·exact hhz
   clear hK K hHeld; (have hHeld := hH2); clear hH2; (try simp only [pz])
   refine rd1 5 (some 33) rfl (fun K hK => ?_)
   go_simp; (go_at_call 19; (with_reducible refine (KQ.out _).mono ?_); rintro e w9 ⟨rfl, hb⟩; have hzz := hb.size)
   all_goals (try go_wp2_with fail)
   refine hK.out _ _ ?_ (fun hH2 => ?_)
   ·exact hhz
   clear hK K hHeld; (have hHeld := hH2); clear hH2; (try simp only [pz])
   refine tkN 11 (some 39) rfl ?_; simp only [pz]
   refine tkN 12 (some 8) rfl ?_; simp only [pz]
   refine tkN 13 (some 9) rfl ?_; simp only [pz]
   refine wpAnyH_done (by kernel_rfl) ?_ _; (try simp only [pz])
   go_wp2
   go_ret2
   exact ⟨rfl, bstep HBB.out hHeld⟩
  exact key.mono fun e w' k9 => ⟨by rw [k9.1, ho, hc, Hv9.out, Int.toNat_natCast, Hq9.out]; rfl, k9.2⟩
set_option maxRecDepth 100000 in
set_option maxHeartbeats 8000000 in
theorem impl_DistanceToMark (ax ay bx bY cx cy dx dy : Int) (so : Option Addr) (n cap : Nat) (N : Nat → ByteArray) (X Y S Z : Nat → Int) (k : Int) (so2 : Option Addr) (n2 cap2 : Nat) (T U V : Nat → Int) (t : Int) (w : World) (h : RowAt w so n 5 (v5 N X Y S Z)) (hn : n ≤ 1048576) (hcap : n ≤ cap) (h2 : RowAt w so2 n2 3 (v3 T U V)) (hn2 : n2 ≤ 1048576) :
 Calls Tryz.prog 8 #[.agg #[.int .i64 ax, .int .i64 ay, .int .i64 bx, .int .i64 bY, .int .i64 cx, .int .i64 cy, .int .i64 dx, .int .i64 dy, .slice so n cap], .int .i64 k, .agg #[.slice so2 n2 cap2], .int .i64 t] w fun e w' => e = .returned (.tuple #[.int .i64 (sel (izOk (isCo ax ay bx bY cx cy dx dy n N X Y S Z) (isTr n2 T U V) n k (inB t (T 0) (T (n2 - 1)))) (rt (dsq n2 T U V t X Y k)) 0), .int .i64 (izC (isCo ax ay bx bY cx cy dx dy n N X Y S Z) (isTr n2 T U V) n k (inB t (T 0) (T (n2 - 1))))]) ∧ Below w.heap.size w w' := by
 have KZ := fun W (hb : Below w.heap.size w W) => impl_zoneCode ax ay bx bY cx cy dx dy so n cap N X Y S Z k so2 n2 cap2 T U V W (RowAt.later hb h) hn hcap (RowAt.later hb h2) hn2
 rcases iz_cases (isCo ax ay bx bY cx cy dx dy n N X Y S Z) (isTr n2 T U V) n k (inB t (T 0) (T (n2 - 1))) with ⟨z, ho, hc⟩ | ⟨z, ht, ho, hc⟩ | ⟨z, ht, ho, hc⟩
 ·obtain ⟨c0, hc0⟩ : ∃ c, c = zoC (isCo ax ay bx bY cx cy dx dy n N X Y S Z) (isTr n2 T U V) n k := ⟨_, rfl⟩
  rw [← hc0] at z hc
  have KZ2 := hide (hc0 ▸ KZ)
  have hcb : (c0 != 0) = true := bne_iff_ne.2 z
  clear KZ hc0
  have key : Calls Tryz.prog 8 #[.agg #[.int .i64 ax, .int .i64 ay, .int .i64 bx, .int .i64 bY, .int .i64 cx, .int .i64 cy, .int .i64 dx, .int .i64 dy, .slice so n cap], .int .i64 k, .agg #[.slice so2 n2 cap2], .int .i64 t] w fun e w' => e = .returned (.tuple #[.int .i64 0, .int .i64 c0]) ∧ Below w.heap.size w w' := by
   clear ho hc h h2
   go_enter Tryz.func8, Tryz.ntmps8
   go_wp2_with (go_at_call 17; (with_reducible refine (KZ2.out _ bwz).mono ?_); rintro e w9 ⟨rfl, hb⟩; obtain ⟨hc, hf⟩ := bcell hb; have hz := hb.size; have z0 : w.heap.size < w9.heap.size := (by first | omega | (simp at hz; omega)); have z1 : w.heap.size + 1 < w9.heap.size := (by first | omega | (simp at hz; omega)))
   go_ret2
   exact ⟨rfl, bwz⟩
  exact key.mono fun e w' k9 => ⟨by rw [k9.1, ho, hc]; rfl, k9.2⟩
 ·obtain ⟨hco, htr, hk0, hk1⟩ := zo_t z
  have KZ2 := hide (z ▸ KZ)
  obtain ⟨hn2a, _, _⟩ := isTr_t htr
  obtain ⟨b2, o2, rfl, hb2, _, _, _⟩ := h2.at3 0 (by omega)
  have KL := hide (fun W (hb : Below w.heap.size w W) => ht ▸ impl_lasts b2 o2 n2 cap2 T U V t W (RowAt.later hb h2) htr)
  clear KZ
  have key : Calls Tryz.prog 8 #[.agg #[.int .i64 ax, .int .i64 ay, .int .i64 bx, .int .i64 bY, .int .i64 cx, .int .i64 cy, .int .i64 dx, .int .i64 dy, .slice so n cap], .int .i64 k, .agg #[.slice (some ⟨b2, o2, none⟩) n2 cap2], .int .i64 t] w fun e w' => e = .returned (.tuple #[.int .i64 0, .int .i64 2]) ∧ Below w.heap.size w w' := by
   clear ho hc h h2 hco htr ht z
   go_enter Tryz.func8, Tryz.ntmps8
   go_wp2_with (first | (go_at_call 17; (with_reducible refine (KZ2.out _ bwz).mono ?_); rintro e w9 ⟨rfl, hb⟩; obtain ⟨hc, hf⟩ := bcell hb; have hz := hb.size; have z0 : w.heap.size < w9.heap.size := (by first | omega | (simp at hz; omega)); have z1 : w.heap.size + 1 < w9.heap.size := (by first | omega | (simp at hz; omega))) | (go_at_call 18; (with_reducible refine (KL.out _ bwz).mono ?_); rintro e w9 ⟨rfl, hb⟩; obtain ⟨hc, hf⟩ := bcell hb; have hz := hb.size; have z0 : w.heap.size < w9.heap.size := (by first | omega | (simp at hz; omega)); have z1 : w.heap.size + 1 < w9.heap.size := (by first | omega | (simp at hz; omega))))
   go_ret2
   exact ⟨rfl, bwz⟩
  exact key.mono fun e w' k9 => ⟨by rw [k9.1, ho, hc]; rfl, k9.2⟩
 ·obtain ⟨hco, htr, hk0, hk1⟩ := zo_t z
  have KZ2 := hide (z ▸ KZ)
  obtain ⟨hn2a, _, _⟩ := isTr_t htr
  obtain ⟨b2, o2, rfl, hb2, _, _, _⟩ := h2.at3 0 (by omega)
  have KL := hide (fun W (hb : Below w.heap.size w W) => ht ▸ impl_lasts b2 o2 n2 cap2 T U V t W (RowAt.later hb h2) htr)
  obtain ⟨K, rfl⟩ := Int.eq_ofNat_of_zero_le hk0
  have hKn : K < n := by omega
  obtain ⟨_, hpt, _, hz1, hz2⟩ := isMk_t ((isCo_t hco).2.2.2.2 K hKn)
  have hps := posX_pt htr ht
  obtain ⟨s1, s2⟩ := pt_sm hps
  obtain ⟨s3, s4⟩ := pt_sm hpt
  obtain ⟨d1, d2⟩ := sq_pt hps hpt
  have KP := hide (fun W (hb : Below w.heap.size w W) => impl_positionAt b2 o2 n2 cap2 T U V t W (RowAt.later hb h2) htr ht)
  have KQ := hide (fun W => impl_squareDistance _ _ (X K) (Y K) s1 s2 s3 s4 W)
  have KR := hide (fun W => impl_rootOf _ d1 (by omega) W)
  obtain ⟨v9, hv9⟩ : ∃ v, v = sq (posX n2 T U t) (posX n2 T V t) (X K) (Y K) := ⟨_, rfl⟩
  rw [← hv9] at KQ KR
  have Hv9 := hide (show dsq n2 T U V t X Y (K : Int) = v9 by unfold dsq; rw [Int.toNat_natCast, hv9])
  obtain ⟨r9, hr9⟩ : ∃ r, r = rt v9 := ⟨_, rfl⟩
  rw [← hr9] at KR
  obtain ⟨p1, hp1⟩ : ∃ p, p = posX n2 T U t := ⟨_, rfl⟩
  obtain ⟨p2, hp2⟩ : ∃ p, p = posX n2 T V t := ⟨_, rfl⟩
  rw [← hp1, ← hp2] at KP KQ
  obtain ⟨b, o, rfl, hbs, e0, e1, e2, e3, e4⟩ := h.at5 K hKn
  have hbs1 : b < w.heap.size + 1 := by omega
  have hbs2 : b < w.heap.size + 1 + 1 := by omega
  have hi0 : (0 : Int) ≤ (K : Int) := by omega
  have hi1 : (K : Int) < (n : Int) := by omega
  clear KZ
  have key : Calls Tryz.prog 8 #[.agg #[.int .i64 ax, .int .i64 ay, .int .i64 bx, .int .i64 bY, .int .i64 cx, .int .i64 cy, .int .i64 dx, .int .i64 dy, .slice (some ⟨b, o, none⟩) n cap], .int .i64 (K : Int), .agg #[.slice (some ⟨b2, o2, none⟩) n2 cap2], .int .i64 t] w fun e w' => e = .returned (.tuple #[.int .i64 r9, .int .i64 0]) ∧ Below w.heap.size w w' := by
   clear ho hc h h2 hco htr ht z hpt hps s1 s2 s3 s4 d1 d2 hv9 hp1 hp2 hk1 hz1 hz2 hr9
   go_enter Tryz.func8, Tryz.ntmps8
   go_upto_region 6 with (first | (go_at_call 17; (with_reducible refine (KZ2.out _ bwz).mono ?_); rintro e w9 ⟨rfl, hb⟩; obtain ⟨hc, hf⟩ := bcell hb; have hz := hb.size; have z0 : w.heap.size < w9.heap.size := (by first | omega | (simp at hz; omega)); have z1 : w.heap.size + 1 < w9.heap.size := (by first | omega | (simp at hz; omega)); have zzb : b < w9.heap.size := (by first | omega | (simp at hz; omega))) | (go_at_call 18; (with_reducible refine (KL.out _ bwz).mono ?_); rintro e w9 ⟨rfl, hb⟩; obtain ⟨hc, hf⟩ := bcell hb; have hz := hb.size; have z0 : w.heap.size < w9.heap.size := (by first | omega | (simp at hz; omega)); have z1 : w.heap.size + 1 < w9.heap.size := (by first | omega | (simp at hz; omega)); have zzb : b < w9.heap.size := (by first | omega | (simp at hz; omega))))
   obtain ⟨wB, rfl⟩ : ∃ x : World, x = w9 := ⟨_, rfl⟩
   have zB : w.heap.size + 1 < wB.heap.size := by first | omega | (have := hb.size; simp at this; omega)
   have zB1 : w.heap.size < wB.heap.size := by omega
   have HBB := hide (show Below w.heap.size w wB from bwz)
   have zBb : b < wB.heap.size := by omega
   have t0 : wB.cell? ⟨w.heap.size + 1, 0, none⟩ = some (.slice (some ⟨b2, o2, none⟩) n2 cap2) := by go_simp
   have t1 : wB.cell? ⟨w.heap.size, 8, none⟩ = some (.slice (some ⟨b, o, none⟩) n cap) := by go_simp
   have m1 : wB.cell? ⟨b, o + K * 5 + 1, none⟩ = some (.int .i64 (X K)) := by go_simp
   have m2 : wB.cell? ⟨b, o + K * 5 + 2, none⟩ = some (.int .i64 (Y K)) := by go_simp
   clear hb hc hf e0 e1 e2 e3 e4
   refine wp_region_held_drew (S := fun W => Below wB.heap.size wB W) (by kernel_rfl) (Below.drew (Below.refl _ _)) (fun hHeld => ?_)
   refine tkL 0 (some 22) rfl ?_; simp only [pz]
   refine tkN 1 (some 23) rfl ?_; simp only [pz]
   refine tkN 3 (some 25) rfl ?_; simp only [pz]
   refine tkL 4 (some 26) rfl ?_; simp only [pz]
   refine tkN 5 (some 27) rfl ?_; simp only [pz]
   refine tkN 6 (some 28) rfl ?_; simp only [pz]
   refine tkN 7 (some 29) rfl ?_; simp only [pz]
   refine tkL 8 (some 30) rfl ?_; simp only [pz]
   refine rd1 2 (some 24) rfl (fun K hK => ?_)
   go_simp; (go_at_call 20; (with_reducible refine (KP.out _ (bstep HBB.out bwz)).mono ?_); rintro e w9 ⟨rfl, hb⟩; have hzz := hb.size)
   all_goals (try go_wp2_with fail)
   refine hK.out _ _ ?_ (fun hH2 => ?_)
   ·exact hhz
   clear hK K hHeld; (have hHeld := hH2); clear hH2; (try simp only [pz])
   refine rd1 9 (some 31) rfl (fun K hK => ?_)
   go_simp; (go_at_call 19; (with_reducible refine (KQ.out _).mono ?_); rintro e w9 ⟨rfl, hb⟩; have hzz := hb.size)
   all_goals (try go_wp2_with fail)
   refine hK.out _ _ ?_ (fun hH2 => ?_)
   ·exact hhz
   clear hK K hHeld; (have hHeld := hH2); clear hH2; (try simp only [pz])
   refine rd1 10 (some 32) rfl (fun K hK => ?_)
   go_simp; (go_at_call 25; (with_reducible refine (KR.out _).mono ?_); rintro e w9 ⟨rfl, rfl⟩)
   all_goals (try go_wp2_with fail)
   refine hK.out _ _ ?_ (fun hH2 => ?_)
   ·exact hhz
   clear hK K hHeld; (have hHeld := hH2); clear hH2; (try simp only [pz])
   refine tkN 11 (some 8) rfl ?_; simp only [pz]
   refine tkN 12 (some 9) rfl ?_; simp only [pz]
   refine wpAnyH_done (by kernel_rfl) ?_ _; (try simp only [pz])
   go_wp2
   go_ret2
   exact ⟨rfl, bstep HBB.out hHeld⟩
  exact key.mono fun e w' k9 => ⟨by rw [k9.1, ho, hc, Hv9.out, ← hr9]; rfl, k9.2⟩
set_option maxRecDepth 100000 in
set_option maxHeartbeats 8000000 in
theorem spec_InZoneAt (ax ay bx bY cx cy dx dy : Int) (so : Option Addr) (n cap : Nat) (N : Nat → ByteArray) (X Y S Z : Nat → Int) (k : Int) (so2 : Option Addr) (n2 cap2 : Nat) (T U V : Nat → Int) (t : Int) (w : World) (h : RowAt w so n 5 (v5 N X Y S Z)) (hn : n ≤ 1048576) (h2 : RowAt w so2 n2 3 (v3 T U V)) (hn2 : n2 ≤ 1048576) :
 Calls Tryz.prog 7 #[.agg #[.int .i64 ax, .int .i64 ay, .int .i64 bx, .int .i64 bY, .int .i64 cx, .int .i64 cy, .int .i64 dx, .int .i64 dy, .slice so n cap], .int .i64 k, .agg #[.slice so2 n2 cap2], .int .i64 t] w fun e w' => e = .returned (.tuple #[.bool (selB (izOk (isCo ax ay bx bY cx cy dx dy n N X Y S Z) (isTr n2 T U V) n k (inB t (T 0) (T (n2 - 1)))) (decide (dsq n2 T U V t X Y k ≤ Z k.toNat * Z k.toNat)) false), .int .i64 (izC (isCo ax ay bx bY cx cy dx dy n N X Y S Z) (isTr n2 T U V) n k (inB t (T 0) (T (n2 - 1))))]) ∧ Below w.heap.size w w' := by
 have KZ := fun W (hb : Below w.heap.size w W) => spec_l07Code ax ay bx bY cx cy dx dy so n cap N X Y S Z k so2 n2 cap2 T U V W (RowAt.later hb h) hn (RowAt.later hb h2) hn2
 rcases iz_cases (isCo ax ay bx bY cx cy dx dy n N X Y S Z) (isTr n2 T U V) n k (inB t (T 0) (T (n2 - 1))) with ⟨z, ho, hc⟩ | ⟨z, ht, ho, hc⟩ | ⟨z, ht, ho, hc⟩
 ·obtain ⟨c0, hc0⟩ : ∃ c, c = zoC (isCo ax ay bx bY cx cy dx dy n N X Y S Z) (isTr n2 T U V) n k := ⟨_, rfl⟩
  rw [← hc0] at z hc
  have KZ2 := hide (hc0 ▸ KZ)
  have hcb : (c0 != 0) = true := bne_iff_ne.2 z
  clear KZ hc0
  have key : Calls Tryz.prog 7 #[.agg #[.int .i64 ax, .int .i64 ay, .int .i64 bx, .int .i64 bY, .int .i64 cx, .int .i64 cy, .int .i64 dx, .int .i64 dy, .slice so n cap], .int .i64 k, .agg #[.slice so2 n2 cap2], .int .i64 t] w fun e w' => e = .returned (.tuple #[.bool false, .int .i64 c0]) ∧ Below w.heap.size w w' := by
   clear ho hc h h2
   go_enter Tryz.func7, Tryz.ntmps7
   go_wp2_with (go_at_call 21; (with_reducible refine (KZ2.out _ bwz).mono ?_); rintro e w9 ⟨rfl, hb⟩; obtain ⟨hc, hf⟩ := bcell hb; have hz := hb.size; have z0 : w.heap.size < w9.heap.size := (by first | omega | (simp at hz; omega)); have z1 : w.heap.size + 1 < w9.heap.size := (by first | omega | (simp at hz; omega)))
   go_ret2
   exact ⟨rfl, bwz⟩
  exact key.mono fun e w' k9 => ⟨by rw [k9.1, ho, hc]; rfl, k9.2⟩
 ·obtain ⟨hco, htr, hk0, hk1⟩ := zo_t z
  have KZ2 := hide (z ▸ KZ)
  obtain ⟨hn2a, _, _⟩ := isTr_t htr
  obtain ⟨b2, o2, rfl, hb2, _, _, _⟩ := h2.at3 0 (by omega)
  have KL := hide (fun W (hb : Below w.heap.size w W) => ht ▸ spec_l03Lasts b2 o2 n2 cap2 T U V t W (RowAt.later hb h2) htr)
  clear KZ
  have key : Calls Tryz.prog 7 #[.agg #[.int .i64 ax, .int .i64 ay, .int .i64 bx, .int .i64 bY, .int .i64 cx, .int .i64 cy, .int .i64 dx, .int .i64 dy, .slice so n cap], .int .i64 k, .agg #[.slice (some ⟨b2, o2, none⟩) n2 cap2], .int .i64 t] w fun e w' => e = .returned (.tuple #[.bool false, .int .i64 2]) ∧ Below w.heap.size w w' := by
   clear ho hc h h2 hco htr ht z
   go_enter Tryz.func7, Tryz.ntmps7
   go_wp2_with (first | (go_at_call 21; (with_reducible refine (KZ2.out _ bwz).mono ?_); rintro e w9 ⟨rfl, hb⟩; obtain ⟨hc, hf⟩ := bcell hb; have hz := hb.size; have z0 : w.heap.size < w9.heap.size := (by first | omega | (simp at hz; omega)); have z1 : w.heap.size + 1 < w9.heap.size := (by first | omega | (simp at hz; omega))) | (go_at_call 22; (with_reducible refine (KL.out _ bwz).mono ?_); rintro e w9 ⟨rfl, hb⟩; obtain ⟨hc, hf⟩ := bcell hb; have hz := hb.size; have z0 : w.heap.size < w9.heap.size := (by first | omega | (simp at hz; omega)); have z1 : w.heap.size + 1 < w9.heap.size := (by first | omega | (simp at hz; omega))))
   go_ret2
   exact ⟨rfl, bwz⟩
  exact key.mono fun e w' k9 => ⟨by rw [k9.1, ho, hc]; rfl, k9.2⟩
 ·obtain ⟨hco, htr, hk0, hk1⟩ := zo_t z
  have KZ2 := hide (z ▸ KZ)
  obtain ⟨hn2a, _, _⟩ := isTr_t htr
  obtain ⟨b2, o2, rfl, hb2, _, _, _⟩ := h2.at3 0 (by omega)
  have KL := hide (fun W (hb : Below w.heap.size w W) => ht ▸ spec_l03Lasts b2 o2 n2 cap2 T U V t W (RowAt.later hb h2) htr)
  obtain ⟨K, rfl⟩ := Int.eq_ofNat_of_zero_le hk0
  have hKn : K < n := by omega
  obtain ⟨_, hpt, _, hz1, hz2⟩ := isMk_t ((isCo_t hco).2.2.2.2 K hKn)
  have hps := posX_pt htr ht
  obtain ⟨s1, s2⟩ := pt_sm hps
  obtain ⟨s3, s4⟩ := pt_sm hpt
  obtain ⟨d1, d2⟩ := sq_pt hps hpt
  have KP := hide (fun W (hb : Below w.heap.size w W) => spec_l03At b2 o2 n2 cap2 T U V t W (RowAt.later hb h2) htr ht)
  have KQ := hide (fun W => spec_l01Square _ _ (X K) (Y K) s1 s2 s3 s4 W)
  obtain ⟨v9, hv9⟩ : ∃ v, v = sq (posX n2 T U t) (posX n2 T V t) (X K) (Y K) := ⟨_, rfl⟩
  rw [← hv9] at KQ
  have Hv9 := hide (show dsq n2 T U V t X Y (K : Int) = v9 by unfold dsq; rw [Int.toNat_natCast, hv9])
  have hZ1 : 0 ≤ Z K * Z K ∧ Z K * Z K ≤ 25000000 := ⟨Int.mul_nonneg (by omega) (by omega), Int.le_trans (Int.mul_le_mul hz2 hz2 (by omega) (by omega)) (by decide)⟩
  have We := hide (show IntKind.i64.wrap (Z K * Z K) = Z K * Z K from IntWalk.i64_in _ (by omega))
  obtain ⟨p1, hp1⟩ : ∃ p, p = posX n2 T U t := ⟨_, rfl⟩
  obtain ⟨p2, hp2⟩ : ∃ p, p = posX n2 T V t := ⟨_, rfl⟩
  rw [← hp1, ← hp2] at KP KQ
  obtain ⟨q9, hq9⟩ : ∃ q, q = decide (v9 ≤ Z K * Z K) := ⟨_, rfl⟩
  have Hq9 := hide hq9.symm
  obtain ⟨b, o, rfl, hbs, e0, e1, e2, e3, e4⟩ := h.at5 K hKn
  have hbs1 : b < w.heap.size + 1 := by omega
  have hbs2 : b < w.heap.size + 1 + 1 := by omega
  have hi0 : (0 : Int) ≤ (K : Int) := by omega
  have hi1 : (K : Int) < (n : Int) := by omega
  clear KZ
  have key : Calls Tryz.prog 7 #[.agg #[.int .i64 ax, .int .i64 ay, .int .i64 bx, .int .i64 bY, .int .i64 cx, .int .i64 cy, .int .i64 dx, .int .i64 dy, .slice (some ⟨b, o, none⟩) n cap], .int .i64 (K : Int), .agg #[.slice (some ⟨b2, o2, none⟩) n2 cap2], .int .i64 t] w fun e w' => e = .returned (.tuple #[.bool q9, .int .i64 0]) ∧ Below w.heap.size w w' := by
   clear ho hc h h2 hco htr ht z hpt hps s1 s2 s3 s4 d1 d2 hv9 hp1 hp2 hk1 hz1 hz2 hZ1 hq9
   go_enter Tryz.func7, Tryz.ntmps7
   go_upto_region 7 with (first | (go_at_call 21; (with_reducible refine (KZ2.out _ bwz).mono ?_); rintro e w9 ⟨rfl, hb⟩; obtain ⟨hc, hf⟩ := bcell hb; have hz := hb.size; have z0 : w.heap.size < w9.heap.size := (by first | omega | (simp at hz; omega)); have z1 : w.heap.size + 1 < w9.heap.size := (by first | omega | (simp at hz; omega)); have zzb : b < w9.heap.size := (by first | omega | (simp at hz; omega))) | (go_at_call 22; (with_reducible refine (KL.out _ bwz).mono ?_); rintro e w9 ⟨rfl, hb⟩; obtain ⟨hc, hf⟩ := bcell hb; have hz := hb.size; have z0 : w.heap.size < w9.heap.size := (by first | omega | (simp at hz; omega)); have z1 : w.heap.size + 1 < w9.heap.size := (by first | omega | (simp at hz; omega)); have zzb : b < w9.heap.size := (by first | omega | (simp at hz; omega))))
   obtain ⟨wL, rfl⟩ : ∃ x : World, x = w9 := ⟨_, rfl⟩
   have zL : w.heap.size + 1 < wL.heap.size := by first | omega | (have := hb.size; simp at this; omega)
   have HBL := hide (show Below w.heap.size w wL from bwz)
   have t0 : wL.cell? ⟨w.heap.size + 1, 0, none⟩ = some (.slice (some ⟨b2, o2, none⟩) n2 cap2) := by go_simp
   obtain ⟨wB, hB⟩ : ∃ W, W = wL.alloc (.cells #[.string (N K), .int .i64 (X K), .int .i64 (Y K), .int .i64 (S K), .int .i64 (Z K)] 45) := ⟨_, rfl⟩
   have m1 : wB.cell? ⟨wL.heap.size, 1, none⟩ = some (.int .i64 (X K)) := by rw [hB]; go_simp
   have m2 : wB.cell? ⟨wL.heap.size, 2, none⟩ = some (.int .i64 (Y K)) := by rw [hB]; go_simp
   have m4 : wB.cell? ⟨wL.heap.size, 4, none⟩ = some (.int .i64 (Z K)) := by rw [hB]; go_simp
   have t1 : wB.cell? ⟨w.heap.size + 1, 0, none⟩ = some (.slice (some ⟨b2, o2, none⟩) n2 cap2) := by rw [hB]; go_simp
   have HBB := hide (show Below w.heap.size w wB by rw [hB]; exact Below.alloc HBL.out (by omega) _)
   have zB : wL.heap.size < wB.heap.size := by rw [hB]; simp
   have zB1 : w.heap.size + 1 < wB.heap.size := by omega
   rw [← hB]
   clear hB t0 hb hc hf e0 e1 e2 e3 e4
   have f1 := We.out
   have f2 := Hq9.out
   refine wp_region_held_drew (S := fun W => Below wB.heap.size wB W) (by kernel_rfl) (Below.drew (Below.refl _ _)) (fun hHeld => ?_)
   refine tkL 0 (some 28) rfl ?_; simp only [pz]
   refine tkN 1 (some 29) rfl ?_; simp only [pz]
   refine tkN 3 (some 31) rfl ?_; simp only [pz]
   refine tkL 4 (some 32) rfl ?_; simp only [pz]
   refine tkN 6 (some 34) rfl ?_; simp only [pz]
   refine tkL 7 (some 35) rfl ?_; simp only [pz]
   refine tkN 8 (some 36) rfl ?_; simp only [pz]
   refine tkL 9 (some 37) rfl ?_; simp only [pz]
   refine tkN 10 (some 38) rfl ?_; simp only [pz]
   refine rd1 2 (some 30) rfl (fun K hK => ?_)
   go_simp; (go_at_call 24; (with_reducible refine (KP.out _ (bstep HBB.out bwz)).mono ?_); rintro e w9 ⟨rfl, hb⟩; have hzz := hb.size)
   all_goals (try go_wp2_with fail)
   refine hK.out _ _ ?_ (fun hH2 => ?_)
   ·exact hhz
   clear hK K hHeld; (have hHeld := hH2); clear hH2; (try simp only [pz])
   refine rd1 5 (some 33) rfl (fun K hK => ?_)
   go_simp; (go_at_call 23; (with_reducible refine (KQ.out _).mono ?_); rintro e w9 ⟨rfl, hb⟩; have hzz := hb.size)
   all_goals (try go_wp2_with fail)
   refine hK.out _ _ ?_ (fun hH2 => ?_)
   ·exact hhz
   clear hK K hHeld; (have hHeld := hH2); clear hH2; (try simp only [pz])
   refine tkN 11 (some 39) rfl ?_; simp only [pz]
   refine tkN 12 (some 8) rfl ?_; simp only [pz]
   refine tkN 13 (some 9) rfl ?_; simp only [pz]
   refine wpAnyH_done (by kernel_rfl) ?_ _; (try simp only [pz])
   go_wp2
   go_ret2
   exact ⟨rfl, bstep HBB.out hHeld⟩
  exact key.mono fun e w' k9 => ⟨by rw [k9.1, ho, hc, Hv9.out, Int.toNat_natCast, Hq9.out]; rfl, k9.2⟩
set_option maxRecDepth 100000 in
set_option maxHeartbeats 8000000 in
theorem impl_LengthsToMark (ax ay bx bY cx cy dx dy : Int) (so : Option Addr) (n cap : Nat) (N : Nat → ByteArray) (X Y S Z : Nat → Int) (k : Int) (so2 : Option Addr) (n2 cap2 : Nat) (T U V : Nat → Int) (t hull : Int) (w : World) (h : RowAt w so n 5 (v5 N X Y S Z)) (hn : n ≤ 1048576) (hcap : n ≤ cap) (h2 : RowAt w so2 n2 3 (v3 T U V)) (hn2 : n2 ≤ 1048576) :
 Calls Tryz.prog 9 #[.agg #[.int .i64 ax, .int .i64 ay, .int .i64 bx, .int .i64 bY, .int .i64 cx, .int .i64 cy, .int .i64 dx, .int .i64 dy, .slice so n cap], .int .i64 k, .agg #[.slice so2 n2 cap2], .int .i64 t, .int .i64 hull] w fun e w' => e = .returned (.tuple #[.int .i64 (sel (leOk (isCo ax ay bx bY cx cy dx dy n N X Y S Z) (isTr n2 T U V) n k (inB t (T 0) (T (n2 - 1))) hull) (rt (dsq n2 T U V t X Y k) / hull) 0), .int .i64 (leC (isCo ax ay bx bY cx cy dx dy n N X Y S Z) (isTr n2 T U V) n k (inB t (T 0) (T (n2 - 1))) hull)]) ∧ Below w.heap.size w w' := by
 have KZ := fun W (hb : Below w.heap.size w W) => impl_zoneCode ax ay bx bY cx cy dx dy so n cap N X Y S Z k so2 n2 cap2 T U V W (RowAt.later hb h) hn hcap (RowAt.later hb h2) hn2
 have KD := fun W (hb : Below w.heap.size w W) => impl_DistanceToMark ax ay bx bY cx cy dx dy so n cap N X Y S Z k so2 n2 cap2 T U V t W (RowAt.later hb h) hn hcap (RowAt.later hb h2) hn2
 have hdb : (izOk (isCo ax ay bx bY cx cy dx dy n N X Y S Z) (isTr n2 T U V) n k (inB t (T 0) (T (n2 - 1)))) = true → 0 ≤ rt (dsq n2 T U V t X Y k) ∧ rt (dsq n2 T U V t X Y k) ≤ 4000000 := fun ho => by
  rcases iz_cases (isCo ax ay bx bY cx cy dx dy n N X Y S Z) (isTr n2 T U V) n k (inB t (T 0) (T (n2 - 1))) with ⟨z, ho2, _⟩ | ⟨z, ht, ho2, _⟩ | ⟨z, ht, _, _⟩
  ·rw [ho2] at ho; cases ho
  ·rw [ho2] at ho; cases ho
  ·obtain ⟨hco, htr, hk0, hk1⟩ := zo_t z
   obtain ⟨K, rfl⟩ := Int.eq_ofNat_of_zero_le hk0
   obtain ⟨_, hpt, _, _, _⟩ := isMk_t ((isCo_t hco).2.2.2.2 K (by omega))
   obtain ⟨d1, d2⟩ := sq_pt (posX_pt htr ht) hpt
   unfold dsq; rw [Int.toNat_natCast]
   exact ⟨rt_nonneg _, rt_le d1 (by decide) (by omega)⟩
 obtain ⟨r9, hr9⟩ : ∃ r, r = rt (dsq n2 T U V t X Y k) := ⟨_, rfl⟩
 rw [← hr9] at KD hdb ⊢
 rcases iz_cases (isCo ax ay bx bY cx cy dx dy n N X Y S Z) (isTr n2 T U V) n k (inB t (T 0) (T (n2 - 1))) with ⟨z, ho, hc⟩ | ⟨z, ht, ho, hc⟩ | ⟨z, ht, ho, hc⟩
 ·have e1 : leOk (isCo ax ay bx bY cx cy dx dy n N X Y S Z) (isTr n2 T U V) n k (inB t (T 0) (T (n2 - 1))) hull = false := by unfold leOk; rw [ho]; rfl
  obtain ⟨c0, hc0⟩ : ∃ c, c = zoC (isCo ax ay bx bY cx cy dx dy n N X Y S Z) (isTr n2 T U V) n k := ⟨_, rfl⟩
  have e2 : leC (isCo ax ay bx bY cx cy dx dy n N X Y S Z) (isTr n2 T U V) n k (inB t (T 0) (T (n2 - 1))) hull = c0 := by unfold leC; rw [← hc0, beq_eq_false_iff_ne.2 (by rw [hc0]; exact z)]; rfl
  rw [e1, e2]
  rw [← hc0] at z
  have KZ2 := hide (hc0 ▸ KZ)
  have hcb : (c0 != 0) = true := bne_iff_ne.2 z
  clear KZ KD hdb hc0 ho hc h h2 hr9 e1 e2
  go_enter Tryz.func9, Tryz.ntmps9
  go_wp2_with (go_at_call 17; (with_reducible refine (KZ2.out _ bwz).mono ?_); rintro e w9 ⟨rfl, hb⟩; obtain ⟨hc, hf⟩ := bcell hb; have hz := hb.size; have z0 : w.heap.size < w9.heap.size := (by first | omega | (simp at hz; omega)); have z1 : w.heap.size + 1 < w9.heap.size := (by first | omega | (simp at hz; omega)))
  go_ret2
  exact ⟨rfl, bwz⟩
 ·rcases b2 (inB hull 1 1000) with g | g
  ·have e1 : leOk (isCo ax ay bx bY cx cy dx dy n N X Y S Z) (isTr n2 T U V) n k (inB t (T 0) (T (n2 - 1))) hull = false := by unfold leOk; rw [ho, g]; rfl
   have e2 : leC (isCo ax ay bx bY cx cy dx dy n N X Y S Z) (isTr n2 T U V) n k (inB t (T 0) (T (n2 - 1))) hull = 2 := by unfold leC; rw [z, g]; rfl
   have KZ2 := hide (z ▸ KZ)
   rw [e1, e2]
   clear KZ KD hdb ho hc h h2 hr9 e1 e2 z ht
   go_enter Tryz.func9, Tryz.ntmps9
   go_wp2_with (first | (go_at_call 17; (with_reducible refine (KZ2.out _ bwz).mono ?_); rintro e w9 ⟨rfl, hb⟩; obtain ⟨hc, hf⟩ := bcell hb; have hz := hb.size; have z0 : w.heap.size < w9.heap.size := (by first | omega | (simp at hz; omega)); have z1 : w.heap.size + 1 < w9.heap.size := (by first | omega | (simp at hz; omega))) | (go_at_call 26; (with_reducible refine (impl_within _ _ _ _).mono ?_); rintro e w9 ⟨rfl, rfl⟩))
   go_ret2
   exact ⟨rfl, bwz⟩
  ·have e1 : leOk (isCo ax ay bx bY cx cy dx dy n N X Y S Z) (isTr n2 T U V) n k (inB t (T 0) (T (n2 - 1))) hull = false := by unfold leOk; rw [ho, g]; rfl
   have e2 : leC (isCo ax ay bx bY cx cy dx dy n N X Y S Z) (isTr n2 T U V) n k (inB t (T 0) (T (n2 - 1))) hull = 2 := by unfold leC; rw [z, g, ht]; rfl
   have KZ2 := hide (z ▸ KZ)
   have KD2 := hide ((show sel false r9 0 = 0 from rfl) ▸ (hc ▸ ho ▸ KD))
   rw [e1, e2]
   obtain ⟨u1, u2⟩ := inB_t g
   have hb0 : (hull == 0) = false := by simp; omega
   have hb1 : (hull == -1) = false := by simp; omega
   have q3 : (0 : Int) / hull = 0 := Int.zero_ediv _
   clear KZ KD hdb ho hc h h2 hr9 e1 e2 z ht
   go_enter Tryz.func9, Tryz.ntmps9
   go_wp2_with (first | (go_at_call 17; (with_reducible refine (KZ2.out _ bwz).mono ?_); rintro e w9 ⟨rfl, hb⟩; obtain ⟨hc, hf⟩ := bcell hb; have hz := hb.size; have z0 : w.heap.size < w9.heap.size := (by first | omega | (simp at hz; omega)); have z1 : w.heap.size + 1 < w9.heap.size := (by first | omega | (simp at hz; omega))) | (go_at_call 26; (with_reducible refine (impl_within _ _ _ _).mono ?_); rintro e w9 ⟨rfl, rfl⟩) | (go_at_call 8; (with_reducible refine (KD2.out _ bwz).mono ?_); rintro e w9 ⟨rfl, hb⟩; obtain ⟨hc, hf⟩ := bcell hb; have hz := hb.size; have z0 : w.heap.size < w9.heap.size := (by first | omega | (simp at hz; omega)); have z1 : w.heap.size + 1 < w9.heap.size := (by first | omega | (simp at hz; omega))))
   go_ret2
   exact ⟨by first | rfl | (simp [sel]; done) | (simp [sel]; rfl), bwz⟩
 ·rcases b2 (inB hull 1 1000) with g | g
  ·have e1 : leOk (isCo ax ay bx bY cx cy dx dy n N X Y S Z) (isTr n2 T U V) n k (inB t (T 0) (T (n2 - 1))) hull = false := by unfold leOk; rw [ho, g]; rfl
   have e2 : leC (isCo ax ay bx bY cx cy dx dy n N X Y S Z) (isTr n2 T U V) n k (inB t (T 0) (T (n2 - 1))) hull = 2 := by unfold leC; rw [z, g]; rfl
   have KZ2 := hide (z ▸ KZ)
   rw [e1, e2]
   clear KZ KD hdb ho hc h h2 hr9 e1 e2 z ht
   go_enter Tryz.func9, Tryz.ntmps9
   go_wp2_with (first | (go_at_call 17; (with_reducible refine (KZ2.out _ bwz).mono ?_); rintro e w9 ⟨rfl, hb⟩; obtain ⟨hc, hf⟩ := bcell hb; have hz := hb.size; have z0 : w.heap.size < w9.heap.size := (by first | omega | (simp at hz; omega)); have z1 : w.heap.size + 1 < w9.heap.size := (by first | omega | (simp at hz; omega))) | (go_at_call 26; (with_reducible refine (impl_within _ _ _ _).mono ?_); rintro e w9 ⟨rfl, rfl⟩))
   go_ret2
   exact ⟨rfl, bwz⟩
  ·have e1 : leOk (isCo ax ay bx bY cx cy dx dy n N X Y S Z) (isTr n2 T U V) n k (inB t (T 0) (T (n2 - 1))) hull = true := by unfold leOk; rw [ho, g]; rfl
   have e2 : leC (isCo ax ay bx bY cx cy dx dy n N X Y S Z) (isTr n2 T U V) n k (inB t (T 0) (T (n2 - 1))) hull = 0 := by unfold leC; rw [z, g, ht]; rfl
   have KZ2 := hide (z ▸ KZ)
   have KD2 := hide ((show sel true r9 0 = r9 from rfl) ▸ (hc ▸ ho ▸ KD))
   rw [e1, e2]
   obtain ⟨d1, d2⟩ := hdb ho
   obtain ⟨u1, u2⟩ := inB_t g
   have hb0 : (hull == 0) = false := by simp; omega
   have hb1 : (hull == -1) = false := by simp; omega
   have q1 : 0 ≤ r9 / hull := Int.ediv_nonneg d1 (by omega)
   have q2 : r9 / hull ≤ r9 := Int.ediv_le_self _ d1
   clear KZ KD hdb ho hc h h2 hr9 e1 e2 z ht
   go_enter Tryz.func9, Tryz.ntmps9
   go_wp2_with (first | (go_at_call 17; (with_reducible refine (KZ2.out _ bwz).mono ?_); rintro e w9 ⟨rfl, hb⟩; obtain ⟨hc, hf⟩ := bcell hb; have hz := hb.size; have z0 : w.heap.size < w9.heap.size := (by first | omega | (simp at hz; omega)); have z1 : w.heap.size + 1 < w9.heap.size := (by first | omega | (simp at hz; omega))) | (go_at_call 26; (with_reducible refine (impl_within _ _ _ _).mono ?_); rintro e w9 ⟨rfl, rfl⟩) | (go_at_call 8; (with_reducible refine (KD2.out _ bwz).mono ?_); rintro e w9 ⟨rfl, hb⟩; obtain ⟨hc, hf⟩ := bcell hb; have hz := hb.size; have z0 : w.heap.size < w9.heap.size := (by first | omega | (simp at hz; omega)); have z1 : w.heap.size + 1 < w9.heap.size := (by first | omega | (simp at hz; omega))))
   go_ret2
   exact ⟨rfl, bwz⟩
end Go.Proofs.YtklbbopdmnopgaaGreatDoor
