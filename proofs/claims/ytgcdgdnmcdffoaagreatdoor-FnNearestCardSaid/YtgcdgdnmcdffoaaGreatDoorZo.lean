/- Walks: the nearest point of a track to a mark, of both. -/
import Derived.Test.YtgcdgdnmcdffoaaGreatDoorGe
import Derived.Test.YtgcdgdnmcdffoaaGreatDoorZb
import Derived.Test.YtgcdgdnmcdffoaaGreatDoorZl
namespace Go.Proofs.YtgcdgdnmcdffoaaGreatDoor
open Go.RowKit

/-- The leg, of the first k + 1, whose nearest point is nearest. -/
def nsF (x y : Int) (U V : Nat → Int) : Nat → Nat
 | 0 => 0
 | k + 1 => if sq (nrP x y U V (k + 1)).1 (nrP x y U V (k + 1)).2 x y < sq (nrP x y U V (nsF x y U V k)).1 (nrP x y U V (nsF x y U V k)).2 x y then k + 1 else nsF x y U V k
theorem nsF_le (x y : Int) (U V : Nat → Int) (k : Nat) : nsF x y U V k ≤ k := by
 induction k with
 | zero => exact Nat.le_refl _
 | succ k ih => unfold nsF; split <;> omega
theorem nsF_yes {x y : Int} {U V : Nat → Int} {k : Nat} (h : sq (nrP x y U V (k + 1)).1 (nrP x y U V (k + 1)).2 x y < sq (nrP x y U V (nsF x y U V k)).1 (nrP x y U V (nsF x y U V k)).2 x y) : nsF x y U V (k + 1) = k + 1 := by rw [nsF, if_pos h]
theorem nsF_no {x y : Int} {U V : Nat → Int} {k : Nat} (h : ¬ sq (nrP x y U V (k + 1)).1 (nrP x y U V (k + 1)).2 x y < sq (nrP x y U V (nsF x y U V k)).1 (nrP x y U V (nsF x y U V k)).2 x y) : nsF x y U V (k + 1) = nsF x y U V k := by rw [nsF, if_neg h]
def nnB (co tr : Bool) (n : Nat) (k : Int) (n2 : Nat) (U V X Y : Nat → Int) : Int := if zoC co tr n k = 0 then (nsF (X k.toNat) (Y k.toNat) U V (n2 - 2) : Nat) else 0
def nnX (co tr : Bool) (n : Nat) (k : Int) (n2 : Nat) (U V X Y : Nat → Int) : Int := if zoC co tr n k = 0 then (nrP (X k.toNat) (Y k.toNat) U V (nsF (X k.toNat) (Y k.toNat) U V (n2 - 2))).1 else 0
def nnY (co tr : Bool) (n : Nat) (k : Int) (n2 : Nat) (U V X Y : Nat → Int) : Int := if zoC co tr n k = 0 then (nrP (X k.toNat) (Y k.toNat) U V (nsF (X k.toNat) (Y k.toNat) U V (n2 - 2))).2 else 0
set_option maxRecDepth 100000 in
set_option maxHeartbeats 16000000 in
theorem spec_NearestOnTrack (ax ay bx bY cx cy dx dy : Int) (so : Option Addr) (n cap : Nat) (N : Nat → ByteArray) (X Y S Z : Nat → Int) (k : Int) (so2 : Option Addr) (n2 cap2 : Nat) (T U V : Nat → Int) (w : World) (h : RowAt w so n 5 (v5 N X Y S Z)) (hn : n ≤ 1048576) (h2 : RowAt w so2 n2 3 (v3 T U V)) (hn2 : n2 ≤ 1048576) :
 Calls Tryz.prog 20 #[.agg #[.int .i64 ax, .int .i64 ay, .int .i64 bx, .int .i64 bY, .int .i64 cx, .int .i64 cy, .int .i64 dx, .int .i64 dy, .slice so n cap], .int .i64 k, .agg #[.slice so2 n2 cap2]] w fun e w' => e = .returned (.tuple #[.int .i64 (nnB (isCo ax ay bx bY cx cy dx dy n N X Y S Z) (isTr n2 T U V) n k n2 U V X Y), .agg #[.int .i64 (nnX (isCo ax ay bx bY cx cy dx dy n N X Y S Z) (isTr n2 T U V) n k n2 U V X Y), .int .i64 (nnY (isCo ax ay bx bY cx cy dx dy n N X Y S Z) (isTr n2 T U V) n k n2 U V X Y)], .int .i64 (zoC (isCo ax ay bx bY cx cy dx dy n N X Y S Z) (isTr n2 T U V) n k)]) ∧ Below w.heap.size w w' := by
 have KZ := fun W (hb : Below w.heap.size w W) => spec_l07Code ax ay bx bY cx cy dx dy so n cap N X Y S Z k so2 n2 cap2 T U V W (RowAt.later hb h) hn (RowAt.later hb h2) hn2
 rcases zoC_two (isCo ax ay bx bY cx cy dx dy n N X Y S Z) (isTr n2 T U V) n k with ⟨z, _⟩ | z
 case inr =>
  have ennB : nnB (isCo ax ay bx bY cx cy dx dy n N X Y S Z) (isTr n2 T U V) n k n2 U V X Y = 0 := by unfold nnB; rw [if_neg z]
  have ennX : nnX (isCo ax ay bx bY cx cy dx dy n N X Y S Z) (isTr n2 T U V) n k n2 U V X Y = 0 := by unfold nnX; rw [if_neg z]
  have ennY : nnY (isCo ax ay bx bY cx cy dx dy n N X Y S Z) (isTr n2 T U V) n k n2 U V X Y = 0 := by unfold nnY; rw [if_neg z]
  obtain ⟨c0, hc0⟩ : ∃ c, c = zoC (isCo ax ay bx bY cx cy dx dy n N X Y S Z) (isTr n2 T U V) n k := ⟨_, rfl⟩
  rw [ennB, ennX, ennY, ← hc0]
  rw [← hc0] at z
  have KZ2 := hide (hc0 ▸ KZ)
  have hcb : (c0 != 0) = true := bne_iff_ne.2 z
  clear KZ hc0 ennB ennX ennY h h2
  go_enter Tryz.func20, Tryz.ntmps20
  go_wp2_with (go_at_call 44; (with_reducible refine (KZ2.out _ bwz).mono ?_); rintro e w9 ⟨rfl, hb⟩; obtain ⟨hc, hf⟩ := bcell hb; have hz := hb.size; have z0 : w.heap.size < w9.heap.size := (by first | omega | (simp at hz; omega)); have z1 : w.heap.size + 1 < w9.heap.size := (by first | omega | (simp at hz; omega)); have z2 : w.heap.size + 1 + 1 < w9.heap.size := (by first | omega | (simp at hz; omega)))
  simp [bodyPost, results, Tryz.results20, go_sem, *]
  all_goals exact bwz
 have ennB : nnB (isCo ax ay bx bY cx cy dx dy n N X Y S Z) (isTr n2 T U V) n k n2 U V X Y = ((nsF (X k.toNat) (Y k.toNat) U V (n2 - 2) : Nat) : Int) := by unfold nnB; rw [if_pos z]
 have ennX : nnX (isCo ax ay bx bY cx cy dx dy n N X Y S Z) (isTr n2 T U V) n k n2 U V X Y = (nrP (X k.toNat) (Y k.toNat) U V (nsF (X k.toNat) (Y k.toNat) U V (n2 - 2))).1 := by unfold nnX; rw [if_pos z]
 have ennY : nnY (isCo ax ay bx bY cx cy dx dy n N X Y S Z) (isTr n2 T U V) n k n2 U V X Y = (nrP (X k.toNat) (Y k.toNat) U V (nsF (X k.toNat) (Y k.toNat) U V (n2 - 2))).2 := by unfold nnY; rw [if_pos z]
 have KZ2 := hide (z ▸ KZ)
 rw [ennB, ennX, ennY, z]
 clear KZ ennB ennX ennY
 obtain ⟨hco, htr, hk0, hk1⟩ := zo_t z
 obtain ⟨hn2a, hn40, _⟩ := isTr_t htr
 obtain ⟨b2, o2, rfl, hb2, _, _, _⟩ := h2.at3 0 (by omega)
 obtain ⟨K, rfl⟩ := Int.eq_ofNat_of_zero_le hk0
 have hKn : K < n := by omega
 obtain ⟨_, hpt, _, _, _⟩ := isMk_t ((isCo_t hco).2.2.2.2 K hKn)
 obtain ⟨b, o, rfl, hbs, e0, e1, e2, e3, e4⟩ := h.at5 K hKn
 have hi0 : (0 : Int) ≤ (K : Int) := by omega
 have hi1 : (K : Int) < (n : Int) := by omega
 rw [Int.toNat_natCast]
 obtain ⟨x9, hx9⟩ : ∃ x, x = X K := ⟨_, rfl⟩
 obtain ⟨y9, hy9⟩ : ∃ x, x = Y K := ⟨_, rfl⟩
 rw [← hx9, ← hy9] at hpt ⊢
 rw [← hx9] at e1
 rw [← hy9] at e2
 have HP := hide (fun l (hl : l + 1 < n2) => nrP_pt (x := x9) (y := y9) htr hl)
 have KQ := hide (fun l (hl : l + 1 < n2) W => spec_l01Square (nrP x9 y9 U V l).1 (nrP x9 y9 U V l).2 x9 y9 (pt_sm (HP.out l hl)).1 (pt_sm (HP.out l hl)).2 (pt_sm hpt).1 (pt_sm hpt).2 W)
 have HS := hide (fun l (hl : l + 1 < n2) => sq_pt (HP.out l hl) hpt)
 have KN := hide (fun l (hl : l + 1 < n2) W (hb : Below w.heap.size w W) => spec_l07Near x9 y9 b2 o2 n2 cap2 l T U V W (RowAt.later hb h2) htr hl hpt)
 clear h h2 hco htr z hpt hk1 hx9 hy9 e0 e3 e4
 go_enter Tryz.func20, Tryz.ntmps20
 go_upto_region 5 with (go_at_call 44; (with_reducible refine (KZ2.out _ bwz).mono ?_); rintro e wA ⟨rfl, hb⟩; have t8 : wA.cell? ⟨w.heap.size, 8, none⟩ = some (.slice (some ⟨b, o, none⟩) n cap) := (cell_later hb (by go_simp)); have t5 : wA.cell? ⟨w.heap.size + 1, 0, none⟩ = some (.slice (some ⟨b2, o2, none⟩) n2 cap2) := (cell_later hb (by go_simp)); have r1 : wA.cell? ⟨w.heap.size + 1 + 1, 0, none⟩ = some (.int .i64 0) := (cell_later hb (by go_simp)); have r2 : wA.cell? ⟨w.heap.size + 1 + 1, 1, none⟩ = some (.int .i64 0) := (cell_later hb (by go_simp)); have y3 : wA.frozen? ⟨w.heap.size + 1 + 1, 0, none⟩ = false := (frozen_later (v := .int .i64 0) hb (by go_simp) (by go_simp)); have y4 : wA.frozen? ⟨w.heap.size + 1 + 1, 1, none⟩ = false := (frozen_later (v := .int .i64 0) hb (by go_simp) (by go_simp)); have HA := hide (show Below w.heap.size w wA from bwz); have g1 := cell_later HA.out e1; have g2 := cell_later HA.out e2; have zA := World.block_lt_of_cell? _ _ r1; have zAb := HA.out.size; clear hb e1 e2)
 (try simp only at zA)
 obtain ⟨wB, hB⟩ : ∃ W, W = wA.alloc (.cells #[.int .i64 x9, .int .i64 y9] 25) := ⟨_, rfl⟩
 have u1 : wB.cell? ⟨wA.heap.size, 0, none⟩ = some (.int .i64 x9) := by rw [hB]; go_simp
 have u2 : wB.cell? ⟨wA.heap.size, 1, none⟩ = some (.int .i64 y9) := by rw [hB]; go_simp
 have s5 : wB.cell? ⟨w.heap.size + 1, 0, none⟩ = some (.slice (some ⟨b2, o2, none⟩) n2 cap2) := by rw [hB]; exact cell_alloc t5
 have r1' : wB.cell? ⟨w.heap.size + 1 + 1, 0, none⟩ = some (.int .i64 0) := by rw [hB]; exact cell_alloc r1
 have r2' : wB.cell? ⟨w.heap.size + 1 + 1, 1, none⟩ = some (.int .i64 0) := by rw [hB]; exact cell_alloc r2
 have y3' : wB.frozen? ⟨w.heap.size + 1 + 1, 0, none⟩ = false := by rw [hB]; exact frozen_alloc r1 y3
 have y4' : wB.frozen? ⟨w.heap.size + 1 + 1, 1, none⟩ = false := by rw [hB]; exact frozen_alloc r2 y4
 have HB := hide (show Below w.heap.size w wB by rw [hB]; exact Below.alloc HA.out (by omega) _)
 have zB : wA.heap.size < wB.heap.size := by rw [hB]; simp
 rw [← hB]
 clear hB t8 t5 r1 r2 y3 y4 g1 g2 HA
 have K0 := hide (fun W (hb : Below w.heap.size w W) => (show Calls Tryz.prog 56 #[.agg #[.slice (some ⟨b2, o2, none⟩) n2 cap2], .int .i64 0, .agg #[.int .i64 x9, .int .i64 y9]] W _ from KN.out 0 (by omega) W hb))
 go_upto_region 6 with (go_at_call 56; (with_reducible refine (K0.out _ HB.out).mono ?_); rintro e wC ⟨rfl, hb⟩; have u1' := cell_later hb u1; have u2' := cell_later hb u2; have s5' := cell_later hb s5; have r1 := cell_later hb r1'; have r2 := cell_later hb r2'; have y3 := frozen_later hb r1' y3'; have y4 := frozen_later hb r2' y4'; have HC := hide (bstep HB.out hb); have zC := hb.size; clear hb u1 u2 s5 r1' r2' y3' y4' HB)
 go_wp2
 go_loopw [11, 13] (fun v11 v13 wr => ∃ k bs : Nat, 1 ≤ k ∧ k + 1 ≤ n2 ∧ v13 = .int .i64 k ∧ v11 = .int .i64 bs ∧ Hid (bs = nsF x9 y9 U V (k - 1)) ∧ wr.cell? ⟨wA.heap.size, 0, none⟩ = some (.int .i64 x9) ∧ wr.cell? ⟨wA.heap.size, 1, none⟩ = some (.int .i64 y9) ∧ wr.cell? ⟨w.heap.size + 1, 0, none⟩ = some (.slice (some ⟨b2, o2, none⟩) n2 cap2) ∧ wr.cell? ⟨w.heap.size + 1 + 1, 0, none⟩ = some (.int .i64 0) ∧ wr.cell? ⟨w.heap.size + 1 + 1, 1, none⟩ = some (.int .i64 0) ∧ wr.frozen? ⟨w.heap.size + 1 + 1, 0, none⟩ = false ∧ wr.frozen? ⟨w.heap.size + 1 + 1, 1, none⟩ = false ∧ wr.cell? ⟨wC.heap.size, 0, none⟩ = some (.int .i64 (nrP x9 y9 U V bs).1) ∧ wr.cell? ⟨wC.heap.size, 1, none⟩ = some (.int .i64 (nrP x9 y9 U V bs).2) ∧ wr.frozen? ⟨wC.heap.size, 0, none⟩ = false ∧ wr.frozen? ⟨wC.heap.size, 1, none⟩ = false ∧ Below w.heap.size w wr) (fun _ i _ => n2 - (intOf i).toNat)
 case atStart => exact ⟨1, 0, by omega, by omega, rfl, rfl, hide rfl, cell_alloc u1', cell_alloc u2', cell_alloc s5', cell_alloc r1, cell_alloc r2, frozen_alloc r1 y3, frozen_alloc r2 y4, by go_simp, by go_simp, by go_simp, by go_simp, Below.alloc HC.out (by have := HC.out.size; omega) _⟩
 case round =>
  clear u1' u2' s5' r1 r2 y3 y4 K0
  obtain ⟨k, bs, hk1, hk, rfl, rfl, Hbs, u1, u2, s5, r1, r2, y3, y4, p1, p2, y1, y2, hbl⟩ := hrel
  have zr := World.block_lt_of_cell? _ _ p1
  (try simp only at zr)
  have zr0 : wA.heap.size < wr.heap.size := by omega
  have zr1 : w.heap.size + 1 < wr.heap.size := by omega
  have zr2 : w.heap.size + 1 + 1 < wr.heap.size := by omega
  have nn1 : ¬ wC.heap.size = wA.heap.size := by omega
  have nn2 : ¬ wC.heap.size = w.heap.size + 1 := by omega
  have nn3 : ¬ wC.heap.size = w.heap.size + 1 + 1 := by omega
  have HBl := hide hbl
  have hbk : bs + 1 < n2 := by have := Hbs.out; have := nsF_le x9 y9 U V (k - 1); omega
  by_cases hlt : k + 1 < n2
  ·have we : IntKind.i64.wrap ((k : Int) + 1) = (k : Int) + 1 := IntWalk.i64_in _ (by omega)
   have hi2 : (k : Int) + 1 < (n2 : Int) := by omega
   have Kk := hide (fun W (hb : Below wr.heap.size wr W) => KN.out k hlt W (bstep HBl.out hb))
   have Kq := hide (KQ.out k hlt)
   have Kb := hide (KQ.out bs hbk)
   have Hyes := hide (fun (hh : sq (nrP x9 y9 U V k).1 (nrP x9 y9 U V k).2 x9 y9 < sq (nrP x9 y9 U V bs).1 (nrP x9 y9 U V bs).2 x9 y9) => show k = nsF x9 y9 U V k from by
    have e := Hbs.out
    obtain ⟨j, rfl⟩ : ∃ j, k = j + 1 := ⟨k - 1, by omega⟩
    rw [Nat.add_sub_cancel] at e
    rw [e] at hh
    exact (nsF_yes hh).symm)
   have Hno := hide (fun (hh : ¬ sq (nrP x9 y9 U V k).1 (nrP x9 y9 U V k).2 x9 y9 < sq (nrP x9 y9 U V bs).1 (nrP x9 y9 U V bs).2 x9 y9) => show bs = nsF x9 y9 U V k from by
    have e := Hbs.out
    obtain ⟨j, rfl⟩ : ∃ j, k = j + 1 := ⟨k - 1, by omega⟩
    rw [Nat.add_sub_cancel] at e
    have h3 := hh
    rw [e] at h3
    rw [nsF_no h3]; exact e)
   obtain ⟨P1, hP1⟩ : ∃ p, p = (nrP x9 y9 U V k).1 := ⟨_, rfl⟩
   obtain ⟨P2, hP2⟩ : ∃ p, p = (nrP x9 y9 U V k).2 := ⟨_, rfl⟩
   obtain ⟨Q1, hQ1⟩ : ∃ p, p = (nrP x9 y9 U V bs).1 := ⟨_, rfl⟩
   obtain ⟨Q2, hQ2⟩ : ∃ p, p = (nrP x9 y9 U V bs).2 := ⟨_, rfl⟩
   rw [← hP1, ← hP2] at Kk Kq Hyes Hno
   rw [← hQ1, ← hQ2] at Kb Hyes Hno
   rw [← hQ1] at p1
   rw [← hQ2] at p2
   obtain ⟨f9, hf9⟩ : ∃ f, f = sq P1 P2 x9 y9 := ⟨_, rfl⟩
   obtain ⟨l9, hl9⟩ : ∃ f, f = sq Q1 Q2 x9 y9 := ⟨_, rfl⟩
   rw [← hf9] at Kq Hyes Hno
   rw [← hl9] at Kb Hyes Hno
   have HPQ := hide (And.intro hP1 (And.intro hP2 (And.intro hQ1 hQ2)))
   clear hP1 hP2 hQ1 hQ2 hf9 hl9 hbl
   go_upto_region 10 with (go_at_call 56; (with_reducible refine (Kk.out _ (Below.refl _ _)).mono ?_); rintro e wE ⟨rfl, hb⟩; have zE := hb.size; have u1' := cell_later hb u1; have u2' := cell_later hb u2; have s5' := cell_later hb s5; have r1' := cell_later hb r1; have r2' := cell_later hb r2; have y3' := frozen_later hb r1 y3; have y4' := frozen_later hb r2 y4; have p1' := cell_later hb p1; have p2' := cell_later hb p2; have y1' := frozen_later hb p1 y1; have y2' := frozen_later hb p2 y2; have HE := hide (bstep HBl.out hb); clear hb u1 u2 s5 r1 r2 y3 y4 p1 p2 y1 y2)
   obtain ⟨wF, hF⟩ : ∃ W, W = wE.alloc (.cells #[.int .i64 P1, .int .i64 P2] 25) := ⟨_, rfl⟩
   have u1 : wF.cell? ⟨wA.heap.size, 0, none⟩ = some (.int .i64 x9) := by rw [hF]; exact cell_alloc u1'
   have u2 : wF.cell? ⟨wA.heap.size, 1, none⟩ = some (.int .i64 y9) := by rw [hF]; exact cell_alloc u2'
   have p1 : wF.cell? ⟨wC.heap.size, 0, none⟩ = some (.int .i64 Q1) := by rw [hF]; exact cell_alloc p1'
   have p2 : wF.cell? ⟨wC.heap.size, 1, none⟩ = some (.int .i64 Q2) := by rw [hF]; exact cell_alloc p2'
   have s5 : wF.cell? ⟨w.heap.size + 1, 0, none⟩ = some (.slice (some ⟨b2, o2, none⟩) n2 cap2) := by rw [hF]; exact cell_alloc s5'
   have r1 : wF.cell? ⟨w.heap.size + 1 + 1, 0, none⟩ = some (.int .i64 0) := by rw [hF]; exact cell_alloc r1'
   have r2 : wF.cell? ⟨w.heap.size + 1 + 1, 1, none⟩ = some (.int .i64 0) := by rw [hF]; exact cell_alloc r2'
   have y3 : wF.frozen? ⟨w.heap.size + 1 + 1, 0, none⟩ = false := by rw [hF]; exact frozen_alloc r1' y3'
   have y4 : wF.frozen? ⟨w.heap.size + 1 + 1, 1, none⟩ = false := by rw [hF]; exact frozen_alloc r2' y4'
   have y1 : wF.frozen? ⟨wC.heap.size, 0, none⟩ = false := by rw [hF]; exact frozen_alloc p1' y1'
   have y2 : wF.frozen? ⟨wC.heap.size, 1, none⟩ = false := by rw [hF]; exact frozen_alloc p2' y2'
   have c1 : wF.cell? ⟨wE.heap.size, 0, none⟩ = some (.int .i64 P1) := by rw [hF]; go_simp
   have c2 : wF.cell? ⟨wE.heap.size, 1, none⟩ = some (.int .i64 P2) := by rw [hF]; go_simp
   have HF := hide (show Below w.heap.size w wF by rw [hF]; exact Below.alloc HE.out (by have := HE.out.size; omega) _)
   have zF : wE.heap.size < wF.heap.size := by rw [hF]; simp
   have zFC : wC.heap.size < wF.heap.size := by omega
   have zFA : wA.heap.size < wF.heap.size := by omega
   rw [← hF]
   clear hF u1' u2' s5' r1' r2' y3' y4' p1' p2' y1' y2' HE Kk
   refine wp_region_held_drew (S := fun W => Below wF.heap.size wF W) (by kernel_rfl) (Below.drew (Below.refl _ _)) (fun hHeld => ?_)
   refine tkL 0 (some 44) rfl ?_; simp only [pz]
   refine tkL 1 (some 45) rfl ?_; simp only [pz]
   refine tkL 3 (some 47) rfl ?_; simp only [pz]
   refine tkL 4 (some 48) rfl ?_; simp only [pz]
   refine rd1 2 (some 46) rfl (fun K hK => ?_)
   go_simp; (first | (go_at_call 46; (with_reducible refine (Kq.out _).mono ?_); rintro e w9 ⟨rfl, hb⟩; have hzz := hb.size; (try simp at hzz); obtain ⟨hc, hf⟩ := bcell hb) | (go_at_call 46; (with_reducible refine (Kb.out _).mono ?_); rintro e w9 ⟨rfl, hb⟩; have hzz := hb.size; (try simp at hzz); obtain ⟨hc, hf⟩ := bcell hb))
   all_goals (try go_wp2_with fail)
   refine hK.out _ _ ?_ (fun hH2 => ?_)
   ·exact hhz
   clear hK K hHeld; (have hHeld := hH2); clear hH2; (try simp only [pz])
   refine rd1 5 (some 49) rfl (fun K hK => ?_)
   go_simp; (first | (go_at_call 46; (with_reducible refine (Kq.out _).mono ?_); rintro e w9 ⟨rfl, hb⟩; have hzz := hb.size; (try simp at hzz); obtain ⟨hc, hf⟩ := bcell hb) | (go_at_call 46; (with_reducible refine (Kb.out _).mono ?_); rintro e w9 ⟨rfl, hb⟩; have hzz := hb.size; (try simp at hzz); obtain ⟨hc, hf⟩ := bcell hb))
   all_goals (try go_wp2_with fail)
   refine hK.out _ _ ?_ (fun hH2 => ?_)
   ·exact hhz
   clear hK K hHeld; (have hHeld := hH2); clear hH2; (try simp only [pz])
   refine tkN 6 (some 50) rfl ?_; simp only [pz]
   refine wpAnyH_done (by kernel_rfl) ?_ _; (try simp only [pz])
   obtain ⟨wG, rfl⟩ : ∃ W : World, W = w9 := ⟨_, rfl⟩
   have u1' := cell_later hHeld u1
   have u2' := cell_later hHeld u2
   have p1' := cell_later hHeld p1
   have p2' := cell_later hHeld p2
   have s5' := cell_later hHeld s5
   have r1' := cell_later hHeld r1
   have r2' := cell_later hHeld r2
   have c1' := cell_later hHeld c1
   have c2' := cell_later hHeld c2
   have y3' := frozen_later hHeld r1 y3
   have y4' := frozen_later hHeld r2 y4
   have y1' := frozen_later hHeld p1 y1
   have y2' := frozen_later hHeld p2 y2
   have HG := hide (bstep HF.out hHeld)
   have zG := hHeld.size
   have zGE : wE.heap.size < wG.heap.size := by omega
   have zGC : wC.heap.size < wG.heap.size := by omega
   clear hHeld u1 u2 p1 p2 s5 r1 r2 c1 c2 y1 y2 y3 y4 HF hb hc hf Kq Kb
   obtain ⟨hP1, hP2, hQ1, hQ2⟩ := HPQ.out
   by_cases ht : f9 < l9
   ·have He := hide (Hyes.out ht)
    clear Hyes Hno hQ1 hQ2
    go_wp2
    go_roundw
    case rel => exact ⟨k + 1, k, by omega, by omega, by go_num, rfl, hide (by rw [Nat.add_sub_cancel]; exact He.out), by go_simp, by go_simp, by go_simp, by go_simp, by go_simp, by go_simp, by go_simp, by rw [← hP1]; go_simp, by rw [← hP2]; go_simp, by go_simp, by go_simp, Below.setCell (Below.setCell HG.out (by dsimp only; omega) _) (by dsimp only; omega) _⟩
    case measure => simp [intOf]; omega
   ·have He := hide (Hno.out (by omega))
    clear Hyes Hno hP1 hP2
    go_wp2
    go_roundw
    case rel => exact ⟨k + 1, bs, by omega, by omega, by go_num, rfl, hide (by rw [Nat.add_sub_cancel]; exact He.out), u1', u2', s5', r1', r2', y3', y4', by rw [← hQ1]; exact p1', by rw [← hQ2]; exact p2', y1', y2', HG.out⟩
    case measure => simp [intOf]; omega
  ·obtain rfl : k = n2 - 1 := by omega
   have hbs2 : bs = nsF x9 y9 U V (n2 - 2) := by rw [Hbs.out, show n2 - 1 - 1 = n2 - 2 by omega]
   have rr1 := hbs2.symm
   clear hbs2
   obtain ⟨Q1, hQ1⟩ : ∃ p, p = (nrP x9 y9 U V bs).1 := ⟨_, rfl⟩
   obtain ⟨Q2, hQ2⟩ : ∃ p, p = (nrP x9 y9 U V bs).2 := ⟨_, rfl⟩
   rw [← hQ1] at p1
   rw [← hQ2] at p2
   have rr2 := hQ1.symm
   have rr3 := hQ2.symm
   clear hQ1 hQ2 hbl
   go_wp2
   go_region
   all_goals go_wp2
   all_goals (simp [bodyPost, results, Tryz.results20, go_sem, *])
   all_goals exact Below.setCell (Below.setCell (Below.drew HBl.out) (by dsimp only; omega) _) (by dsimp only; omega) _
set_option maxRecDepth 100000 in
set_option maxHeartbeats 16000000 in
theorem impl_NearestOnTrack (ax ay bx bY cx cy dx dy : Int) (so : Option Addr) (n cap : Nat) (N : Nat → ByteArray) (X Y S Z : Nat → Int) (k : Int) (so2 : Option Addr) (n2 cap2 : Nat) (T U V : Nat → Int) (w : World) (h : RowAt w so n 5 (v5 N X Y S Z)) (hn : n ≤ 1048576) (hcap : n ≤ cap) (h2 : RowAt w so2 n2 3 (v3 T U V)) (hn2 : n2 ≤ 1048576) :
 Calls Tryz.prog 19 #[.agg #[.int .i64 ax, .int .i64 ay, .int .i64 bx, .int .i64 bY, .int .i64 cx, .int .i64 cy, .int .i64 dx, .int .i64 dy, .slice so n cap], .int .i64 k, .agg #[.slice so2 n2 cap2]] w fun e w' => e = .returned (.tuple #[.int .i64 (nnB (isCo ax ay bx bY cx cy dx dy n N X Y S Z) (isTr n2 T U V) n k n2 U V X Y), .agg #[.int .i64 (nnX (isCo ax ay bx bY cx cy dx dy n N X Y S Z) (isTr n2 T U V) n k n2 U V X Y), .int .i64 (nnY (isCo ax ay bx bY cx cy dx dy n N X Y S Z) (isTr n2 T U V) n k n2 U V X Y)], .int .i64 (zoC (isCo ax ay bx bY cx cy dx dy n N X Y S Z) (isTr n2 T U V) n k)]) ∧ Below w.heap.size w w' := by
 have KZ := fun W (hb : Below w.heap.size w W) => impl_zoneCode ax ay bx bY cx cy dx dy so n cap N X Y S Z k so2 n2 cap2 T U V W (RowAt.later hb h) hn hcap (RowAt.later hb h2) hn2
 rcases zoC_two (isCo ax ay bx bY cx cy dx dy n N X Y S Z) (isTr n2 T U V) n k with ⟨z, _⟩ | z
 case inr =>
  have ennB : nnB (isCo ax ay bx bY cx cy dx dy n N X Y S Z) (isTr n2 T U V) n k n2 U V X Y = 0 := by unfold nnB; rw [if_neg z]
  have ennX : nnX (isCo ax ay bx bY cx cy dx dy n N X Y S Z) (isTr n2 T U V) n k n2 U V X Y = 0 := by unfold nnX; rw [if_neg z]
  have ennY : nnY (isCo ax ay bx bY cx cy dx dy n N X Y S Z) (isTr n2 T U V) n k n2 U V X Y = 0 := by unfold nnY; rw [if_neg z]
  obtain ⟨c0, hc0⟩ : ∃ c, c = zoC (isCo ax ay bx bY cx cy dx dy n N X Y S Z) (isTr n2 T U V) n k := ⟨_, rfl⟩
  rw [ennB, ennX, ennY, ← hc0]
  rw [← hc0] at z
  have KZ2 := hide (hc0 ▸ KZ)
  have hcb : (c0 != 0) = true := bne_iff_ne.2 z
  clear KZ hc0 ennB ennX ennY h h2
  go_enter Tryz.func19, Tryz.ntmps19
  go_wp2_with (go_at_call 40; (with_reducible refine (KZ2.out _ bwz).mono ?_); rintro e w9 ⟨rfl, hb⟩; obtain ⟨hc, hf⟩ := bcell hb; have hz := hb.size; have z0 : w.heap.size < w9.heap.size := (by first | omega | (simp at hz; omega)); have z1 : w.heap.size + 1 < w9.heap.size := (by first | omega | (simp at hz; omega)); have z2 : w.heap.size + 1 + 1 < w9.heap.size := (by first | omega | (simp at hz; omega)))
  simp [bodyPost, results, Tryz.results19, go_sem, *]
  all_goals exact bwz
 have ennB : nnB (isCo ax ay bx bY cx cy dx dy n N X Y S Z) (isTr n2 T U V) n k n2 U V X Y = ((nsF (X k.toNat) (Y k.toNat) U V (n2 - 2) : Nat) : Int) := by unfold nnB; rw [if_pos z]
 have ennX : nnX (isCo ax ay bx bY cx cy dx dy n N X Y S Z) (isTr n2 T U V) n k n2 U V X Y = (nrP (X k.toNat) (Y k.toNat) U V (nsF (X k.toNat) (Y k.toNat) U V (n2 - 2))).1 := by unfold nnX; rw [if_pos z]
 have ennY : nnY (isCo ax ay bx bY cx cy dx dy n N X Y S Z) (isTr n2 T U V) n k n2 U V X Y = (nrP (X k.toNat) (Y k.toNat) U V (nsF (X k.toNat) (Y k.toNat) U V (n2 - 2))).2 := by unfold nnY; rw [if_pos z]
 have KZ2 := hide (z ▸ KZ)
 rw [ennB, ennX, ennY, z]
 clear KZ ennB ennX ennY
 obtain ⟨hco, htr, hk0, hk1⟩ := zo_t z
 obtain ⟨hn2a, hn40, _⟩ := isTr_t htr
 obtain ⟨b2, o2, rfl, hb2, _, _, _⟩ := h2.at3 0 (by omega)
 obtain ⟨K, rfl⟩ := Int.eq_ofNat_of_zero_le hk0
 have hKn : K < n := by omega
 obtain ⟨_, hpt, _, _, _⟩ := isMk_t ((isCo_t hco).2.2.2.2 K hKn)
 obtain ⟨b, o, rfl, hbs, e0, e1, e2, e3, e4⟩ := h.at5 K hKn
 have hi0 : (0 : Int) ≤ (K : Int) := by omega
 have hi1 : (K : Int) < (n : Int) := by omega
 rw [Int.toNat_natCast]
 obtain ⟨x9, hx9⟩ : ∃ x, x = X K := ⟨_, rfl⟩
 obtain ⟨y9, hy9⟩ : ∃ x, x = Y K := ⟨_, rfl⟩
 rw [← hx9, ← hy9] at hpt ⊢
 rw [← hx9] at e1
 rw [← hy9] at e2
 have HP := hide (fun l (hl : l + 1 < n2) => nrP_pt (x := x9) (y := y9) htr hl)
 have KQ := hide (fun l (hl : l + 1 < n2) W => impl_squareDistance (nrP x9 y9 U V l).1 (nrP x9 y9 U V l).2 x9 y9 (pt_sm (HP.out l hl)).1 (pt_sm (HP.out l hl)).2 (pt_sm hpt).1 (pt_sm hpt).2 W)
 have HS := hide (fun l (hl : l + 1 < n2) => sq_pt (HP.out l hl) hpt)
 have KN := hide (fun l (hl : l + 1 < n2) W (hb : Below w.heap.size w W) => impl_legSegment b2 o2 n2 cap2 l T U V W (RowAt.later hb h2) hn40 hl)
 have KP := hide (fun l (hl : l + 1 < n2) (hh : (U l == U (l + 1) && V l == V (l + 1)) = false) W => impl_NearestPlace_ok (U l) (V l) (U (l + 1)) (V (l + 1)) x9 y9 (isSg_of (isTr_leg htr hl).2.2.2.1 (isTr_leg htr hl).2.2.2.2 hh) hpt W)
 have KA := hide (fun l (hl : l + 1 < n2) (hh : (U l == U (l + 1) && V l == V (l + 1)) = false) W => impl_pointAt (U l) (V l) (U (l + 1)) (V (l + 1)) (npG (U l) (V l) (U (l + 1)) (V (l + 1)) x9 y9) (npM (U l) (V l) (U (l + 1)) (V (l + 1)) x9 y9) (isTr_leg htr hl).2.2.2.1 (isTr_leg htr hl).2.2.2.2 (np_facts x9 y9 (isSg_of (isTr_leg htr hl).2.2.2.1 (isTr_leg htr hl).2.2.2.2 hh)).1 (np_facts x9 y9 (isSg_of (isTr_leg htr hl).2.2.2.1 (isTr_leg htr hl).2.2.2.2 hh)).2.1 (np_facts x9 y9 (isSg_of (isTr_leg htr hl).2.2.2.1 (isTr_leg htr hl).2.2.2.2 hh)).2.2.1 (by have := (np_facts x9 y9 (isSg_of (isTr_leg htr hl).2.2.2.1 (isTr_leg htr hl).2.2.2.2 hh)).2.2.2; omega) W)
 clear h h2 hco htr z hpt hk1 hx9 hy9 e0 e3 e4
 have we0 : IntKind.i64.wrap ((n2 : Int) - 1) = (n2 : Int) - 1 := IntWalk.i64_in _ (by omega)
 go_enter Tryz.func19, Tryz.ntmps19
 go_upto_region 5 with (go_at_call 40; (with_reducible refine (KZ2.out _ bwz).mono ?_); rintro e wA ⟨rfl, hb⟩; have t8 : wA.cell? ⟨w.heap.size, 8, none⟩ = some (.slice (some ⟨b, o, none⟩) n cap) := (cell_later hb (by go_simp)); have t5 : wA.cell? ⟨w.heap.size + 1, 0, none⟩ = some (.slice (some ⟨b2, o2, none⟩) n2 cap2) := (cell_later hb (by go_simp)); have r1 : wA.cell? ⟨w.heap.size + 1 + 1, 0, none⟩ = some (.int .i64 0) := (cell_later hb (by go_simp)); have r2 : wA.cell? ⟨w.heap.size + 1 + 1, 1, none⟩ = some (.int .i64 0) := (cell_later hb (by go_simp)); have y3 : wA.frozen? ⟨w.heap.size + 1 + 1, 0, none⟩ = false := (frozen_later (v := .int .i64 0) hb (by go_simp) (by go_simp)); have y4 : wA.frozen? ⟨w.heap.size + 1 + 1, 1, none⟩ = false := (frozen_later (v := .int .i64 0) hb (by go_simp) (by go_simp)); have HA := hide (show Below w.heap.size w wA from bwz); have g1 := cell_later HA.out e1; have g2 := cell_later HA.out e2; have zA := World.block_lt_of_cell? _ _ r1; have zAb := HA.out.size; clear hb e1 e2)
 (try simp only at zA)
 obtain ⟨wB, hB⟩ : ∃ W, W = (wA.alloc (.cells #[.int .i64 x9, .int .i64 y9] 25)).alloc (.cells #[.int .i64 0, .int .i64 0] 25) := ⟨_, rfl⟩
 have u1 : wB.cell? ⟨wA.heap.size, 0, none⟩ = some (.int .i64 x9) := by rw [hB]; go_simp
 have u2 : wB.cell? ⟨wA.heap.size, 1, none⟩ = some (.int .i64 y9) := by rw [hB]; go_simp
 have p1 : wB.cell? ⟨wA.heap.size + 1, 0, none⟩ = some (.int .i64 0) := by rw [hB]; go_simp
 have p2 : wB.cell? ⟨wA.heap.size + 1, 1, none⟩ = some (.int .i64 0) := by rw [hB]; go_simp
 have y1 : wB.frozen? ⟨wA.heap.size + 1, 0, none⟩ = false := by rw [hB]; go_simp
 have y2 : wB.frozen? ⟨wA.heap.size + 1, 1, none⟩ = false := by rw [hB]; go_simp
 have s5 : wB.cell? ⟨w.heap.size + 1, 0, none⟩ = some (.slice (some ⟨b2, o2, none⟩) n2 cap2) := by rw [hB]; exact cell_alloc (cell_alloc t5)
 have r1' : wB.cell? ⟨w.heap.size + 1 + 1, 0, none⟩ = some (.int .i64 0) := by rw [hB]; exact cell_alloc (cell_alloc r1)
 have r2' : wB.cell? ⟨w.heap.size + 1 + 1, 1, none⟩ = some (.int .i64 0) := by rw [hB]; exact cell_alloc (cell_alloc r2)
 have y3' : wB.frozen? ⟨w.heap.size + 1 + 1, 0, none⟩ = false := by rw [hB]; exact frozen_alloc (cell_alloc r1) (frozen_alloc r1 y3)
 have y4' : wB.frozen? ⟨w.heap.size + 1 + 1, 1, none⟩ = false := by rw [hB]; exact frozen_alloc (cell_alloc r2) (frozen_alloc r2 y4)
 have HB := hide (show Below w.heap.size w wB by rw [hB]; exact Below.alloc (Below.alloc HA.out (by omega) _) (by simp; omega) _)
 have zB : wA.heap.size + 1 < wB.heap.size := by rw [hB]; simp
 rw [← hB]
 clear hB t8 t5 r1 r2 y3 y4 g1 g2 HA
 go_wp2
 clear we0
 go_loopw [11, 13, 39] (fun v11 v13 v39 wr => ∃ (k bs : Nat) (lst pa pb : Int), k + 1 ≤ n2 ∧ v39 = .int .i64 k ∧ v11 = .int .i64 bs ∧ v13 = .int .i64 lst ∧ Hid ((k = 0 ∧ lst = -1) ∨ (1 ≤ k ∧ bs = nsF x9 y9 U V (k - 1) ∧ lst = sq (nrP x9 y9 U V bs).1 (nrP x9 y9 U V bs).2 x9 y9 ∧ pa = (nrP x9 y9 U V bs).1 ∧ pb = (nrP x9 y9 U V bs).2)) ∧ wr.cell? ⟨wA.heap.size, 0, none⟩ = some (.int .i64 x9) ∧ wr.cell? ⟨wA.heap.size, 1, none⟩ = some (.int .i64 y9) ∧ wr.cell? ⟨w.heap.size + 1, 0, none⟩ = some (.slice (some ⟨b2, o2, none⟩) n2 cap2) ∧ wr.cell? ⟨w.heap.size + 1 + 1, 0, none⟩ = some (.int .i64 0) ∧ wr.cell? ⟨w.heap.size + 1 + 1, 1, none⟩ = some (.int .i64 0) ∧ wr.frozen? ⟨w.heap.size + 1 + 1, 0, none⟩ = false ∧ wr.frozen? ⟨w.heap.size + 1 + 1, 1, none⟩ = false ∧ wr.cell? ⟨wA.heap.size + 1, 0, none⟩ = some (.int .i64 pa) ∧ wr.cell? ⟨wA.heap.size + 1, 1, none⟩ = some (.int .i64 pb) ∧ wr.frozen? ⟨wA.heap.size + 1, 0, none⟩ = false ∧ wr.frozen? ⟨wA.heap.size + 1, 1, none⟩ = false ∧ Below w.heap.size w wr) (fun _ _ i _ => n2 - (intOf i).toNat)
 case atStart => exact ⟨0, 0, -1, 0, 0, by omega, rfl, rfl, rfl, hide (.inl ⟨rfl, rfl⟩), u1, u2, s5, r1', r2', y3', y4', p1, p2, y1, y2, HB.out⟩
 case round =>
  clear u1 u2 s5 r1' r2' y3' y4' p1 p2 y1 y2
  obtain ⟨k, bs, lst, pa, pb, hk, rfl, rfl, rfl, Hst, u1, u2, s5, r1, r2, y3, y4, p1, p2, y1, y2, hbl⟩ := hrel
  have zr := World.block_lt_of_cell? _ _ p1
  (try simp only at zr)
  have zr0 : wA.heap.size < wr.heap.size := by omega
  have zr1 : w.heap.size + 1 < wr.heap.size := by omega
  have zr2 : w.heap.size + 1 + 1 < wr.heap.size := by omega
  have nn1 : ¬ wA.heap.size + 1 = w.heap.size + 1 := by omega
  have nn2 : ¬ wA.heap.size + 1 = w.heap.size + 1 + 1 := by omega
  have nn3 : ¬ wA.heap.size = w.heap.size + 1 := by omega
  have HBl := hide hbl
  by_cases hlt : k + 1 < n2
  ·have we : IntKind.i64.wrap ((k : Int) + 1) = (k : Int) + 1 := IntWalk.i64_in _ (by omega)
   have hi2 : (k : Int) < (n2 : Int) - 1 := by omega
   have Kk := hide (fun W (hb : Below wr.heap.size wr W) => KN.out k hlt W (bstep HBl.out hb))
   have Kp := hide (KP.out k hlt)
   have Ka := hide (KA.out k hlt)
   have Kq := hide (KQ.out k hlt)
   have Hs := hide (HS.out k hlt)
   have He := hide (fun (hh : (U k == U (k + 1) && V k == V (k + 1)) = true) => nrP_eq (x := x9) (y := y9) hh)
   have Hn := hide (fun (hh : (U k == U (k + 1) && V k == V (k + 1)) = false) => nrP_ne (x := x9) (y := y9) hh)
   have hl0 : 0 ≤ lst ∨ (k = 0 ∧ lst = -1) := by
    rcases Hst.out with h | ⟨_, _, h, _⟩
    ·exact .inr h
    ·exact .inl (by rw [h]; exact sq_nonneg _ _ _ _)
   have Hyes := hide (fun (hh : lst < 0 ∨ sq (nrP x9 y9 U V k).1 (nrP x9 y9 U V k).2 x9 y9 < lst) => show k = nsF x9 y9 U V k from by
    rcases Hst.out with ⟨h1, h2⟩ | ⟨h1, h2, h3, _, _⟩
    ·subst h1; rfl
    ·have hq := sq_nonneg (nrP x9 y9 U V bs).1 (nrP x9 y9 U V bs).2 x9 y9
     obtain ⟨j, rfl⟩ : ∃ j, k = j + 1 := ⟨k - 1, by omega⟩
     rw [Nat.add_sub_cancel] at h2
     rw [h3, h2] at hh
     rw [h2] at hq
     rcases hh with hh | hh
     ·omega
     ·exact (nsF_yes hh).symm)
   have Hno := hide (fun (h0 : 0 ≤ lst) (hh : ¬ sq (nrP x9 y9 U V k).1 (nrP x9 y9 U V k).2 x9 y9 < lst) => show bs = nsF x9 y9 U V k ∧ lst = sq (nrP x9 y9 U V bs).1 (nrP x9 y9 U V bs).2 x9 y9 ∧ pa = (nrP x9 y9 U V bs).1 ∧ pb = (nrP x9 y9 U V bs).2 from by
    rcases Hst.out with ⟨h1, h2⟩ | ⟨h1, h2, h3, h4, h5⟩
    ·omega
    ·refine ⟨?_, h3, h4, h5⟩
     obtain ⟨j, rfl⟩ : ∃ j, k = j + 1 := ⟨k - 1, by omega⟩
     rw [Nat.add_sub_cancel] at h2
     have h6 := hh
     rw [h3, h2] at h6
     rw [nsF_no h6]; exact h2)
   obtain ⟨P1, hP1⟩ : ∃ p, p = (nrP x9 y9 U V k).1 := ⟨_, rfl⟩
   obtain ⟨P2, hP2⟩ : ∃ p, p = (nrP x9 y9 U V k).2 := ⟨_, rfl⟩
   have Hq12 := hide (And.intro hP1 hP2)
   rw [← hP1, ← hP2] at Kq Hs Hyes Hno
   have He2 := hide (fun hh => show P1 = U k ∧ P2 = V k from ⟨by rw [hP1, He.out hh], by rw [hP2, He.out hh]⟩)
   have Hn2 := hide (fun hh => show (posI (U k) (U (k + 1)) (npG (U k) (V k) (U (k + 1)) (V (k + 1)) x9 y9) (npM (U k) (V k) (U (k + 1)) (V (k + 1)) x9 y9) = P1) ∧ posI (V k) (V (k + 1)) (npG (U k) (V k) (U (k + 1)) (V (k + 1)) x9 y9) (npM (U k) (V k) (U (k + 1)) (V (k + 1)) x9 y9) = P2 from ⟨by rw [hP1, Hn.out hh], by rw [hP2, Hn.out hh]⟩)
   obtain ⟨f9, hf9⟩ : ∃ f, f = sq P1 P2 x9 y9 := ⟨_, rfl⟩
   have Hf := hide hf9
   rw [← hf9] at Kq Hs Hyes Hno
   clear hP1 hP2 hf9 hbl He Hn Hst
   generalize npG (U k) (V k) (U (k + 1)) (V (k + 1)) x9 y9 = G9 at *
   generalize npM (U k) (V k) (U (k + 1)) (V (k + 1)) x9 y9 = M9 at *
   obtain ⟨a1, ja1⟩ : ∃ a, a = U k := ⟨_, rfl⟩
   obtain ⟨a2, ja2⟩ : ∃ a, a = V k := ⟨_, rfl⟩
   obtain ⟨a3, ja3⟩ : ∃ a, a = U (k + 1) := ⟨_, rfl⟩
   obtain ⟨a4, ja4⟩ : ∃ a, a = V (k + 1) := ⟨_, rfl⟩
   rw [← ja1, ← ja2, ← ja3, ← ja4] at Kk Kp Ka Hn2
   rw [← ja1, ← ja2, ← ja3, ← ja4] at He2
   clear ja1 ja2 ja3 ja4
   go_upto_region 10 with (go_at_call 53; (with_reducible refine (Kk.out _ (Below.refl _ _)).mono ?_); rintro e wE ⟨rfl, hb⟩; have zE := hb.size; have u1' := cell_later hb u1; have u2' := cell_later hb u2; have s5' := cell_later hb s5; have r1' := cell_later hb r1; have r2' := cell_later hb r2; have p1' := cell_later hb p1; have p2' := cell_later hb p2; have y3' := frozen_later hb r1 y3; have y4' := frozen_later hb r2 y4; have y1' := frozen_later hb p1 y1; have y2' := frozen_later hb p2 y2; have HE := hide (bstep HBl.out hb); clear hb u1 u2 s5 r1 r2 p1 p2 y3 y4 y1 y2)
   obtain ⟨wF, hF⟩ : ∃ W, W = (wE.alloc (.cells #[.int .i64 a1, .int .i64 a2, .int .i64 a3, .int .i64 a4] 91)).alloc (.cells #[.int .i64 a1, .int .i64 a2] 25) := ⟨_, rfl⟩
   have u1 : wF.cell? ⟨wA.heap.size, 0, none⟩ = some (.int .i64 x9) := by rw [hF]; exact (cell_alloc (cell_alloc u1'))
   have u2 : wF.cell? ⟨wA.heap.size, 1, none⟩ = some (.int .i64 y9) := by rw [hF]; exact (cell_alloc (cell_alloc u2'))
   have s5 : wF.cell? ⟨w.heap.size + 1, 0, none⟩ = some (.slice (some ⟨b2, o2, none⟩) n2 cap2) := by rw [hF]; exact (cell_alloc (cell_alloc s5'))
   have r1 : wF.cell? ⟨w.heap.size + 1 + 1, 0, none⟩ = some (.int .i64 0) := by rw [hF]; exact (cell_alloc (cell_alloc r1'))
   have r2 : wF.cell? ⟨w.heap.size + 1 + 1, 1, none⟩ = some (.int .i64 0) := by rw [hF]; exact (cell_alloc (cell_alloc r2'))
   have p1 : wF.cell? ⟨wA.heap.size + 1, 0, none⟩ = some (.int .i64 pa) := by rw [hF]; exact (cell_alloc (cell_alloc p1'))
   have p2 : wF.cell? ⟨wA.heap.size + 1, 1, none⟩ = some (.int .i64 pb) := by rw [hF]; exact (cell_alloc (cell_alloc p2'))
   have y3 : wF.frozen? ⟨w.heap.size + 1 + 1, 0, none⟩ = false := by rw [hF]; exact (frozen_alloc (cell_alloc r1') (frozen_alloc r1' y3'))
   have y4 : wF.frozen? ⟨w.heap.size + 1 + 1, 1, none⟩ = false := by rw [hF]; exact (frozen_alloc (cell_alloc r2') (frozen_alloc r2' y4'))
   have y1 : wF.frozen? ⟨wA.heap.size + 1, 0, none⟩ = false := by rw [hF]; exact (frozen_alloc (cell_alloc p1') (frozen_alloc p1' y1'))
   have y2 : wF.frozen? ⟨wA.heap.size + 1, 1, none⟩ = false := by rw [hF]; exact (frozen_alloc (cell_alloc p2') (frozen_alloc p2' y2'))
   have s1 : wF.cell? ⟨wE.heap.size, 0, none⟩ = some (.int .i64 a1) := by rw [hF]; go_simp
   have s2 : wF.cell? ⟨wE.heap.size, 1, none⟩ = some (.int .i64 a2) := by rw [hF]; go_simp
   have s3 : wF.cell? ⟨wE.heap.size, 2, none⟩ = some (.int .i64 a3) := by rw [hF]; go_simp
   have s4 : wF.cell? ⟨wE.heap.size, 3, none⟩ = some (.int .i64 a4) := by rw [hF]; go_simp
   have c1 : wF.cell? ⟨wE.heap.size + 1, 0, none⟩ = some (.int .i64 a1) := by rw [hF]; go_simp
   have c2 : wF.cell? ⟨wE.heap.size + 1, 1, none⟩ = some (.int .i64 a2) := by rw [hF]; go_simp
   have d1 : wF.frozen? ⟨wE.heap.size + 1, 0, none⟩ = false := by rw [hF]; go_simp
   have d2 : wF.frozen? ⟨wE.heap.size + 1, 1, none⟩ = false := by rw [hF]; go_simp
   have HF := hide (show Below w.heap.size w wF by rw [hF]; exact Below.alloc (Below.alloc HE.out (by have := HE.out.size; omega) _) (by have := HE.out.size; simp; omega) _)
   have zF : wE.heap.size + 1 < wF.heap.size := by rw [hF]; simp
   rw [← hF]
   clear hF HE Kk u1' u2' s5' r1' r2' p1' p2' y3' y4' y1' y2'
   have hcmp := cmp_ptsN
   rcases Go.Proofs.YtgcdgdnmcdffoaaGreatDoor.b2 (a1 == a3 && a2 == a4) with h1 | h1
   ·have Kp3 := hide (Kp.out h1)
    have Ka3 := hide (fun W => (Hn2.out h1).1 ▸ (Hn2.out h1).2 ▸ Ka.out h1 W)
    clear Kp Ka Hn2 He2
    have hcm := hcmp a1 a2 a3 a4
    rw [h1] at hcm
    clear hcmp
    go_upto_region 12 with (go_at_call 54; (with_reducible refine (Kp3.out _).mono ?_); rintro e wN ⟨rfl, hb⟩; have zN := hb.size; have u1N := cell_later hb u1; have u2N := cell_later hb u2; have s5N := cell_later hb s5; have r1N := cell_later hb r1; have r2N := cell_later hb r2; have p1N := cell_later hb p1; have p2N := cell_later hb p2; have y3N := frozen_later hb r1 y3; have y4N := frozen_later hb r2 y4; have y1N := frozen_later hb p1 y1; have y2N := frozen_later hb p2 y2; have c1N := cell_later hb c1; have c2N := cell_later hb c2; have d1N := frozen_later hb c1 d1; have d2N := frozen_later hb c2 d2; have s1N := cell_later hb s1; have s2N := cell_later hb s2; have s3N := cell_later hb s3; have s4N := cell_later hb s4; have HN := hide (bstep HF.out hb); clear hb u1 u2 s5 r1 r2 p1 p2 y3 y4 y1 y2 c1 c2 d1 d2 s1 s2 s3 s4)
    obtain ⟨wR, hR⟩ : ∃ W, W = wN.alloc (.cells #[.int .i64 G9, .int .i64 M9] 94) := ⟨_, rfl⟩
    have u1 : wR.cell? ⟨wA.heap.size, 0, none⟩ = some (.int .i64 x9) := by rw [hR]; exact (cell_alloc u1N)
    have u2 : wR.cell? ⟨wA.heap.size, 1, none⟩ = some (.int .i64 y9) := by rw [hR]; exact (cell_alloc u2N)
    have s5 : wR.cell? ⟨w.heap.size + 1, 0, none⟩ = some (.slice (some ⟨b2, o2, none⟩) n2 cap2) := by rw [hR]; exact (cell_alloc s5N)
    have r1 : wR.cell? ⟨w.heap.size + 1 + 1, 0, none⟩ = some (.int .i64 0) := by rw [hR]; exact (cell_alloc r1N)
    have r2 : wR.cell? ⟨w.heap.size + 1 + 1, 1, none⟩ = some (.int .i64 0) := by rw [hR]; exact (cell_alloc r2N)
    have p1 : wR.cell? ⟨wA.heap.size + 1, 0, none⟩ = some (.int .i64 pa) := by rw [hR]; exact (cell_alloc p1N)
    have p2 : wR.cell? ⟨wA.heap.size + 1, 1, none⟩ = some (.int .i64 pb) := by rw [hR]; exact (cell_alloc p2N)
    have s1 : wR.cell? ⟨wE.heap.size, 0, none⟩ = some (.int .i64 a1) := by rw [hR]; exact (cell_alloc s1N)
    have s2 : wR.cell? ⟨wE.heap.size, 1, none⟩ = some (.int .i64 a2) := by rw [hR]; exact (cell_alloc s2N)
    have s3 : wR.cell? ⟨wE.heap.size, 2, none⟩ = some (.int .i64 a3) := by rw [hR]; exact (cell_alloc s3N)
    have s4 : wR.cell? ⟨wE.heap.size, 3, none⟩ = some (.int .i64 a4) := by rw [hR]; exact (cell_alloc s4N)
    have c1 : wR.cell? ⟨wE.heap.size + 1, 0, none⟩ = some (.int .i64 a1) := by rw [hR]; exact (cell_alloc c1N)
    have c2 : wR.cell? ⟨wE.heap.size + 1, 1, none⟩ = some (.int .i64 a2) := by rw [hR]; exact (cell_alloc c2N)
    have y3 : wR.frozen? ⟨w.heap.size + 1 + 1, 0, none⟩ = false := by rw [hR]; exact (frozen_alloc r1N y3N)
    have y4 : wR.frozen? ⟨w.heap.size + 1 + 1, 1, none⟩ = false := by rw [hR]; exact (frozen_alloc r2N y4N)
    have y1 : wR.frozen? ⟨wA.heap.size + 1, 0, none⟩ = false := by rw [hR]; exact (frozen_alloc p1N y1N)
    have y2 : wR.frozen? ⟨wA.heap.size + 1, 1, none⟩ = false := by rw [hR]; exact (frozen_alloc p2N y2N)
    have d1 : wR.frozen? ⟨wE.heap.size + 1, 0, none⟩ = false := by rw [hR]; exact (frozen_alloc c1N d1N)
    have d2 : wR.frozen? ⟨wE.heap.size + 1, 1, none⟩ = false := by rw [hR]; exact (frozen_alloc c2N d2N)
    have i1 : wR.cell? ⟨wN.heap.size, 0, none⟩ = some (.int .i64 G9) := by rw [hR]; go_simp
    have i2 : wR.cell? ⟨wN.heap.size, 1, none⟩ = some (.int .i64 M9) := by rw [hR]; go_simp
    have HR := hide (show Below w.heap.size w wR by rw [hR]; exact Below.alloc HN.out (by have := HN.out.size; omega) _)
    have zR : wN.heap.size < wR.heap.size := by rw [hR]; simp
    rw [← hR]
    clear hR HN HF u1N u2N s5N r1N r2N p1N p2N y3N y4N y1N y2N c1N c2N d1N d2N s1N s2N s3N s4N
    go_upto_region 13 with (go_at_call 55; (with_reducible refine (Ka3.out _).mono ?_); rintro e wP ⟨rfl, hb⟩; have zP := hb.size; have u1P := cell_later hb u1; have u2P := cell_later hb u2; have s5P := cell_later hb s5; have r1P := cell_later hb r1; have r2P := cell_later hb r2; have p1P := cell_later hb p1; have p2P := cell_later hb p2; have y3P := frozen_later hb r1 y3; have y4P := frozen_later hb r2 y4; have y1P := frozen_later hb p1 y1; have y2P := frozen_later hb p2 y2; have c1P := cell_later hb c1; have c2P := cell_later hb c2; have d1P := frozen_later hb c1 d1; have d2P := frozen_later hb c2 d2; have HP9 := hide (bstep HR.out hb); clear hb i1 i2 s1 s2 s3 s4 u1 u2 s5 r1 r2 p1 p2 y3 y4 y1 y2 c1 c2 d1 d2)
    have nE1 : ¬ wE.heap.size + 1 = wA.heap.size := by omega
    have nE2 : ¬ wE.heap.size + 1 = wA.heap.size + 1 := by omega
    have nE3 : ¬ wE.heap.size + 1 = w.heap.size + 1 := by omega
    have nE4 : ¬ wE.heap.size + 1 = w.heap.size + 1 + 1 := by omega
    obtain ⟨wQ, hQ⟩ : ∃ W, W = (wP.setCell ⟨wE.heap.size + 1, 0, none⟩ (.int .i64 P1)).setCell ⟨wE.heap.size + 1, 1, none⟩ (.int .i64 P2) := ⟨_, rfl⟩
    have u1 : wQ.cell? ⟨wA.heap.size, 0, none⟩ = some (.int .i64 x9) := by rw [hQ]; go_simp
    have u2 : wQ.cell? ⟨wA.heap.size, 1, none⟩ = some (.int .i64 y9) := by rw [hQ]; go_simp
    have s5 : wQ.cell? ⟨w.heap.size + 1, 0, none⟩ = some (.slice (some ⟨b2, o2, none⟩) n2 cap2) := by rw [hQ]; go_simp
    have r1 : wQ.cell? ⟨w.heap.size + 1 + 1, 0, none⟩ = some (.int .i64 0) := by rw [hQ]; go_simp
    have r2 : wQ.cell? ⟨w.heap.size + 1 + 1, 1, none⟩ = some (.int .i64 0) := by rw [hQ]; go_simp
    have p1 : wQ.cell? ⟨wA.heap.size + 1, 0, none⟩ = some (.int .i64 pa) := by rw [hQ]; go_simp
    have p2 : wQ.cell? ⟨wA.heap.size + 1, 1, none⟩ = some (.int .i64 pb) := by rw [hQ]; go_simp
    have c1 : wQ.cell? ⟨wE.heap.size + 1, 0, none⟩ = some (.int .i64 P1) := by rw [hQ]; go_simp
    have c2 : wQ.cell? ⟨wE.heap.size + 1, 1, none⟩ = some (.int .i64 P2) := by rw [hQ]; go_simp
    have y3 : wQ.frozen? ⟨w.heap.size + 1 + 1, 0, none⟩ = false := by rw [hQ]; go_simp
    have y4 : wQ.frozen? ⟨w.heap.size + 1 + 1, 1, none⟩ = false := by rw [hQ]; go_simp
    have y1 : wQ.frozen? ⟨wA.heap.size + 1, 0, none⟩ = false := by rw [hQ]; go_simp
    have y2 : wQ.frozen? ⟨wA.heap.size + 1, 1, none⟩ = false := by rw [hQ]; go_simp
    have d1 : wQ.frozen? ⟨wE.heap.size + 1, 0, none⟩ = false := by rw [hQ]; go_simp
    have d2 : wQ.frozen? ⟨wE.heap.size + 1, 1, none⟩ = false := by rw [hQ]; go_simp
    have HQ := hide (show Below w.heap.size w wQ by rw [hQ]; exact Below.setCell (Below.setCell HP9.out (by dsimp only; omega) _) (by dsimp only; omega) _)
    have zQ : wP.heap.size = wQ.heap.size := by rw [hQ]; simp
    rw [← hQ]
    clear hQ HP9 HR u1P u2P s5P r1P r2P p1P p2P y3P y4P y1P y2P c1P c2P d1P d2P
    go_upto_region 14 with (go_at_call 42; (with_reducible refine (Kq.out _).mono ?_); rintro e wT ⟨rfl, hb⟩; have zT := hb.size; have u1T := cell_later hb u1; have u2T := cell_later hb u2; have s5T := cell_later hb s5; have r1T := cell_later hb r1; have r2T := cell_later hb r2; have p1T := cell_later hb p1; have p2T := cell_later hb p2; have y3T := frozen_later hb r1 y3; have y4T := frozen_later hb r2 y4; have y1T := frozen_later hb p1 y1; have y2T := frozen_later hb p2 y2; have c1T := cell_later hb c1; have c2T := cell_later hb c2; have d1T := frozen_later hb c1 d1; have d2T := frozen_later hb c2 d2; have HT := hide (bstep HQ.out hb); clear hb u1 u2 s5 r1 r2 p1 p2 y3 y4 y1 y2 c1 c2 d1 d2)
    have zT1 : wE.heap.size + 1 < wT.heap.size := by omega
    have zT2 : wA.heap.size + 1 < wT.heap.size := by omega
    have zT3 : wA.heap.size < wT.heap.size := by omega
    have zT4 : w.heap.size + 1 + 1 < wT.heap.size := by omega
    obtain ⟨hs0, hs1⟩ := Hs.out
    by_cases hup : lst < 0 ∨ f9 < lst
    ·have Hk := hide (Hyes.out hup)
     clear Hyes Hno
     rcases Int.lt_or_le lst 0 with hneg | hpos
     ·clear hup
      go_wp2
      go_region
      go_wp2
      go_roundw
      case rel => exact ⟨k + 1, k, f9, P1, P2, by omega, by go_num, rfl, rfl, hide (.inr ⟨by omega, by rw [Nat.add_sub_cancel]; exact Hk.out, by rw [Hf.out, Hq12.out.1, Hq12.out.2], Hq12.out.1, Hq12.out.2⟩), by go_simp, by go_simp, by go_simp, by go_simp, by go_simp, by go_simp, by go_simp, by go_simp, by go_simp, by go_simp, by go_simp, Below.setCell (Below.setCell (Below.drew HT.out) (by dsimp only; omega) _) (by dsimp only; omega) _⟩
      case measure => simp [intOf]; omega
     ·have hlt2 : f9 < lst := by rcases hup with h | h <;> omega
      go_wp2
      go_region
      go_wp2
      go_roundw
      case rel => exact ⟨k + 1, k, f9, P1, P2, by omega, by go_num, rfl, rfl, hide (.inr ⟨by omega, by rw [Nat.add_sub_cancel]; exact Hk.out, by rw [Hf.out, Hq12.out.1, Hq12.out.2], Hq12.out.1, Hq12.out.2⟩), by go_simp, by go_simp, by go_simp, by go_simp, by go_simp, by go_simp, by go_simp, by go_simp, by go_simp, by go_simp, by go_simp, Below.setCell (Below.setCell (Below.drew HT.out) (by dsimp only; omega) _) (by dsimp only; omega) _⟩
      case measure => simp [intOf]; omega
    ·have h1 : ¬ lst < 0 := fun h => hup (.inl h)
     have h2 : ¬ f9 < lst := fun h => hup (.inr h)
     have Hk := hide (Hno.out (by omega) (by omega))
     clear Hyes Hno hup
     go_wp2
     go_roundw
     case rel => exact ⟨k + 1, bs, lst, pa, pb, by omega, by go_num, rfl, rfl, hide (.inr ⟨by omega, by rw [Nat.add_sub_cancel]; exact Hk.out.1, Hk.out.2.1, Hk.out.2.2.1, Hk.out.2.2.2⟩), u1T, u2T, s5T, r1T, r2T, y3T, y4T, p1T, p2T, y1T, y2T, HT.out⟩
     case measure => simp [intOf]; omega
   ·obtain ⟨e1, e2⟩ := He2.out h1
    subst e1 e2
    clear Kp Ka Hn2 He2
    have hcm := hcmp P1 P2 a3 a4
    rw [h1] at hcm
    clear hcmp
    go_upto_region 14 with (go_at_call 42; (with_reducible refine (Kq.out _).mono ?_); rintro e wT ⟨rfl, hb⟩; have zT := hb.size; have u1T := cell_later hb u1; have u2T := cell_later hb u2; have s5T := cell_later hb s5; have r1T := cell_later hb r1; have r2T := cell_later hb r2; have p1T := cell_later hb p1; have p2T := cell_later hb p2; have y3T := frozen_later hb r1 y3; have y4T := frozen_later hb r2 y4; have y1T := frozen_later hb p1 y1; have y2T := frozen_later hb p2 y2; have c1T := cell_later hb c1; have c2T := cell_later hb c2; have d1T := frozen_later hb c1 d1; have d2T := frozen_later hb c2 d2; have HT := hide (bstep HF.out hb); clear hb u1 u2 s5 r1 r2 p1 p2 y3 y4 y1 y2 c1 c2 d1 d2)
    have zT1 : wE.heap.size + 1 < wT.heap.size := by omega
    have zT2 : wA.heap.size + 1 < wT.heap.size := by omega
    have zT3 : wA.heap.size < wT.heap.size := by omega
    have zT4 : w.heap.size + 1 + 1 < wT.heap.size := by omega
    obtain ⟨hs0, hs1⟩ := Hs.out
    by_cases hup : lst < 0 ∨ f9 < lst
    ·have Hk := hide (Hyes.out hup)
     clear Hyes Hno
     rcases Int.lt_or_le lst 0 with hneg | hpos
     ·clear hup
      go_wp2
      go_region
      go_wp2
      go_roundw
      case rel => exact ⟨k + 1, k, f9, P1, P2, by omega, by go_num, rfl, rfl, hide (.inr ⟨by omega, by rw [Nat.add_sub_cancel]; exact Hk.out, by rw [Hf.out, Hq12.out.1, Hq12.out.2], Hq12.out.1, Hq12.out.2⟩), by go_simp, by go_simp, by go_simp, by go_simp, by go_simp, by go_simp, by go_simp, by go_simp, by go_simp, by go_simp, by go_simp, Below.setCell (Below.setCell (Below.drew HT.out) (by dsimp only; omega) _) (by dsimp only; omega) _⟩
      case measure => simp [intOf]; omega
     ·have hlt2 : f9 < lst := by rcases hup with h | h <;> omega
      go_wp2
      go_region
      go_wp2
      go_roundw
      case rel => exact ⟨k + 1, k, f9, P1, P2, by omega, by go_num, rfl, rfl, hide (.inr ⟨by omega, by rw [Nat.add_sub_cancel]; exact Hk.out, by rw [Hf.out, Hq12.out.1, Hq12.out.2], Hq12.out.1, Hq12.out.2⟩), by go_simp, by go_simp, by go_simp, by go_simp, by go_simp, by go_simp, by go_simp, by go_simp, by go_simp, by go_simp, by go_simp, Below.setCell (Below.setCell (Below.drew HT.out) (by dsimp only; omega) _) (by dsimp only; omega) _⟩
      case measure => simp [intOf]; omega
    ·have h1 : ¬ lst < 0 := fun h => hup (.inl h)
     have h2 : ¬ f9 < lst := fun h => hup (.inr h)
     have Hk := hide (Hno.out (by omega) (by omega))
     clear Hyes Hno hup
     go_wp2
     go_roundw
     case rel => exact ⟨k + 1, bs, lst, pa, pb, by omega, by go_num, rfl, rfl, hide (.inr ⟨by omega, by rw [Nat.add_sub_cancel]; exact Hk.out.1, Hk.out.2.1, Hk.out.2.2.1, Hk.out.2.2.2⟩), u1T, u2T, s5T, r1T, r2T, y3T, y4T, p1T, p2T, y1T, y2T, HT.out⟩
     case measure => simp [intOf]; omega
  ·obtain rfl : k = n2 - 1 := by omega
   rcases Hst.out with ⟨h1, _⟩ | ⟨_, h2, _, h4, h5⟩
   ·omega
   have hbs2 : bs = nsF x9 y9 U V (n2 - 2) := by rw [h2, show n2 - 1 - 1 = n2 - 2 by omega]
   have rr1 := hbs2.symm
   have rr2 := h4.symm
   have rr3 := h5.symm
   clear hbs2 h2 h4 h5 hbl Hst
   have hi3 : ¬ ((n2 - 1 : Nat) : Int) < (n2 : Int) - 1 := by omega
   go_wp2
   go_region
   all_goals go_wp2
   all_goals (simp [bodyPost, results, Tryz.results19, go_sem, *])
   all_goals exact Below.setCell (Below.setCell (Below.drew HBl.out) (by dsimp only; omega) _) (by dsimp only; omega) _
end Go.Proofs.YtgcdgdnmcdffoaaGreatDoor
/- Plain: the nearest point of a leg, rounded down, is hardly farther from a mark than the leg's ends; a leg that begins in a zone touches it. -/
namespace Go.Proofs.YtgcdgdnmcdffoaaGreatDoor
open Go.RowKit

theorem mul_self_mono {a b : Int} (ha : 0 ≤ a) (h : a ≤ b) : a * a ≤ b * b := Int.mul_le_mul h h ha (by omega)
/-- A number's greatness. -/
theorem abs_of (x : Int) : ∃ p : Int, 0 ≤ p ∧ x ≤ p ∧ -x ≤ p ∧ p * p = x * x := by
 rcases Int.le_total 0 x with h | h
 ·exact ⟨x, h, by omega, by omega, rfl⟩
 ·exact ⟨-x, by omega, by omega, by omega, by grind⟩
/-- The nearest place is no farther than the beginning. -/
theorem np_a (h g c f s a : Int) (hh : 0 ≤ h) (hg : 0 ≤ g) (hs : g * s = c * h) (h1 : 1 ≤ s) (hc : c = npN f s) : h * h * a - 2 * (h * (g * f)) + g * g * s ≤ h * h * a := by
 have e : g * g * s = h * (g * c) := by rw [Int.mul_assoc, hs]; grind
 rw [e]
 have k : g * c ≤ 2 * (g * f) := by
  unfold npN at hc
  split at hc
  ·subst hc
   rw [Int.zero_mul] at hs
   have : g = 0 := by
    rcases Int.mul_eq_zero.1 hs with h2 | h2
    ·exact h2
    ·omega
   subst this; simp
  ·split at hc
   ·subst hc
    have := Int.mul_le_mul_of_nonneg_left (show c ≤ 2 * f by omega) hg
    grind
   ·subst hc
    have := Int.mul_nonneg hg (show 0 ≤ c by omega)
    omega
 have k2 := Int.mul_le_mul_of_nonneg_left k hh
 have e2 : h * (2 * (g * f)) = 2 * (h * (g * f)) := by grind
 omega
/-- .. and than the end. -/
theorem np_b (h g c f s a b : Int) (hh : 1 ≤ h) (hg : 0 ≤ g) (hs : g * s = c * h) (h1 : 1 ≤ s) (hc : c = npN f s) (hb : b = a - 2 * f + s) : h * h * a - 2 * (h * (g * f)) + g * g * s ≤ h * h * b := by
 have e : g * g * s = h * (g * c) := by rw [Int.mul_assoc, hs]; grind
 rw [e, hb]
 have k : g * c - 2 * (g * f) ≤ h * (s - 2 * f) := by
  unfold npN at hc
  split at hc
  ·subst hc
   rw [Int.zero_mul] at hs
   have : g = 0 := by
    rcases Int.mul_eq_zero.1 hs with h2 | h2
    ·exact h2
    ·omega
   subst this
   have := Int.mul_nonneg (show 0 ≤ h by omega) (show 0 ≤ s - 2 * f by omega)
   simp; omega
  ·split at hc
   ·subst hc
    have : g = h := by
     have e3 : (g - h) * c = 0 := by grind
     rcases Int.mul_eq_zero.1 e3 with h2 | h2 <;> omega
    subst this
    grind
   ·subst hc
    -- times s
    have q := mul_self_nonneg' (s - c)
    have q2 := Int.mul_nonneg (show 0 ≤ h by omega) q
    have q3 : s * (g * c - 2 * (g * c)) ≤ s * (h * (s - 2 * c)) := by
     have e4 : s * (g * c - 2 * (g * c)) = -(c * (g * s)) := by grind
     rw [e4, hs]
     have e5 : h * ((s - c) * (s - c)) = s * (h * (s - 2 * c)) + c * (c * h) := by grind
     omega
    exact Int.le_of_mul_le_mul_left q3 (by omega)
 have k2 := Int.mul_le_mul_of_nonneg_left k (show 0 ≤ h by omega)
 have e2 : h * (g * c - 2 * (g * f)) = h * (g * c) - 2 * (h * (g * f)) := by grind
 have e3 : h * (h * (s - 2 * f)) = h * h * (a - 2 * f + s) - h * h * a := by grind
 omega
/-- The sum of two squares against its rounded parts. -/
theorem round_sq (h x y e f E v : Int) (hh : 1 ≤ h) (e0 : 0 ≤ e) (e1 : e ≤ h) (f0 : 0 ≤ f) (f1 : f ≤ h) (hE : 1 ≤ E) (hv : v < E * E) (hN : x * x + y * y ≤ h * h * v) : (x - e) * (x - e) + (y - f) * (y - f) < h * h * ((E + 2) * (E + 2)) := by
 obtain ⟨p, p0, p1, p2, p3⟩ := abs_of x
 obtain ⟨q, q0, q1, q2, q3⟩ := abs_of y
 have hh2 : 0 < h * h := Int.mul_pos (by omega) (by omega)
 have v1 : h * h * v ≤ h * h * (E * E) - h * h := by
  have := Int.mul_le_mul_of_nonneg_left (show v ≤ E * E - 1 by omega) (show 0 ≤ h * h by omega)
  grind
 -- 2 (p + q) ≤ 3 h E
 have hE0 : 0 ≤ h * E := Int.mul_nonneg (by omega) (by omega)
 have t1 : (p + q) * (p + q) ≤ 2 * (x * x + y * y) := by
  have := mul_self_nonneg' (p - q)
  grind
 have t2 : 2 * (p + q) ≤ 3 * (h * E) := by
  rcases Int.lt_or_le (3 * (h * E)) (2 * (p + q)) with k | k
  ·exfalso
   have := mul_self_mono (show 0 ≤ 3 * (h * E) by omega) (Int.le_of_lt k)
   have a1 : 3 * (h * E) * (3 * (h * E)) = 9 * (h * h * (E * E)) := by grind
   have a2 : 2 * (p + q) * (2 * (p + q)) = 4 * ((p + q) * (p + q)) := by grind
   have a3 : 0 < h * h * (E * E) := Int.mul_pos hh2 (Int.mul_pos (by omega) (by omega))
   omega
  ·exact k
 have u1 : -(x * e) ≤ p * h := by
  have a1 : -x * e ≤ p * e := Int.mul_le_mul_of_nonneg_right p2 e0
  have a2 : p * e ≤ p * h := Int.mul_le_mul_of_nonneg_left e1 p0
  have a3 : -x * e = -(x * e) := Int.neg_mul _ _
  omega
 have u2 : -(y * f) ≤ q * h := by
  have a1 : -y * f ≤ q * f := Int.mul_le_mul_of_nonneg_right q2 f0
  have a2 : q * f ≤ q * h := Int.mul_le_mul_of_nonneg_left f1 q0
  have a3 : -y * f = -(y * f) := Int.neg_mul _ _
  omega
 have u3 : e * e ≤ h * h := mul_self_mono e0 e1
 have u4 : f * f ≤ h * h := mul_self_mono f0 f1
 have u5 : 2 * (p + q) * h ≤ 3 * (h * E) * h := Int.mul_le_mul_of_nonneg_right t2 (by omega)
 have x1 : (x - e) * (x - e) + (y - f) * (y - f) = (x * x + y * y) - 2 * (x * e) - 2 * (y * f) + e * e + f * f := by grind
 have x2 : h * h * ((E + 2) * (E + 2)) = h * h * (E * E) + 4 * (h * h * E) + 4 * (h * h) := by grind
 have x3 : 2 * (p + q) * h = 2 * (p * h) + 2 * (q * h) := by grind
 have x4 : 3 * (h * E) * h = 3 * (h * h * E) := by grind
 have x5 : 0 ≤ h * h * E := Int.mul_nonneg (by omega) (by omega)
 omega
/-- A coordinate of the point, h-fold. -/
theorem pos_part (a b g h m : Int) (hh : 1 ≤ h) : ∃ e, 0 ≤ e ∧ e ≤ h ∧ h * (posI a b g h - m) = h * (a - m) + (b - a) * g - e := by
 have e1 := Int.emod_add_mul_ediv ((b - a) * g) h
 have e2 := Int.emod_nonneg ((b - a) * g) (b := h) (by omega)
 have e3 := Int.emod_lt_of_pos ((b - a) * g) (b := h) (by omega)
 refine ⟨(b - a) * g % h, e2, by omega, ?_⟩
 unfold posI
 have : h * (a + (b - a) * g / h - m) = h * (a - m) + h * ((b - a) * g / h) := by grind
 omega
theorem np_cross {ax ay bx bY px py : Int} (h : isSg ax ay bx bY = true) : npG ax ay bx bY px py * sq ax ay bx bY = npN (farI ax ay bx bY px py) (sq ax ay bx bY) * npM ax ay bx bY px py := by
 obtain ⟨ha, hb, m1⟩ := isSg_t h
 obtain ⟨b0, b1⟩ := npN_bd (farI ax ay bx bY px py) (show 0 ≤ sq ax ay bx bY by omega)
 have hg := gdI_pos (a := npN (farI ax ay bx bY px py) (sq ax ay bx bY)) m1
 obtain ⟨q, hq⟩ := gdI_dvd_r (a := npN (farI ax ay bx bY px py) (sq ax ay bx bY)) (show 0 ≤ sq ax ay bx bY by omega)
 obtain ⟨r, hr⟩ := gdI_dvd_l (b := sq ax ay bx bY) b0
 unfold npG npM
 generalize gdI (npN (farI ax ay bx bY px py) (sq ax ay bx bY)) (sq ax ay bx bY) = d at *
 generalize npN (farI ax ay bx bY px py) (sq ax ay bx bY) = c at *
 generalize sq ax ay bx bY = s at *
 subst hq hr
 rw [Int.mul_ediv_cancel_left _ (by omega), Int.mul_ediv_cancel_left _ (by omega)]
 grind
/-- The nearest point of a leg, rounded down, is hardly farther than its ends. -/
theorem nr_far {ax ay bx bY : Int} (px py E : Int) (h : isSg ax ay bx bY = true) (hE : 1 ≤ E) (hv : sq ax ay px py < E * E ∨ sq bx bY px py < E * E) :
 sq (posI ax bx (npG ax ay bx bY px py) (npM ax ay bx bY px py)) (posI ay bY (npG ax ay bx bY px py) (npM ax ay bx bY px py)) px py < (E + 2) * (E + 2) := by
 obtain ⟨f1, f2, f3, f4⟩ := np_facts px py h
 have hcr := np_cross (px := px) (py := py) h
 obtain ⟨_, _, m1⟩ := isSg_t h
 have hfb := far_b ax ay bx bY px py
 generalize npG ax ay bx bY px py = g at *
 generalize npM ax ay bx bY px py = m at *
 obtain ⟨e, e0, e1, e2⟩ := pos_part ax bx g m px f3
 obtain ⟨f, k0, k1, k2⟩ := pos_part ay bY g m py f3
 have hX : ∀ X Y : Int, X = posI ax bx g m → Y = posI ay bY g m → m * m * sq X Y px py = (m * (X - px)) * (m * (X - px)) + (m * (Y - py)) * (m * (Y - py)) := fun X Y _ _ => by unfold sq; grind
 have hm2 : 0 < m * m := Int.mul_pos (by omega) (by omega)
 have hN : (m * (ax - px) + (bx - ax) * g) * (m * (ax - px) + (bx - ax) * g) + (m * (ay - py) + (bY - ay) * g) * (m * (ay - py) + (bY - ay) * g) = m * m * sq ax ay px py - 2 * (m * (g * farI ax ay bx bY px py)) + g * g * sq ax ay bx bY := by unfold sq farI; grind
 have key : ∀ v, v < E * E → (m * (ax - px) + (bx - ax) * g) * (m * (ax - px) + (bx - ax) * g) + (m * (ay - py) + (bY - ay) * g) * (m * (ay - py) + (bY - ay) * g) ≤ m * m * v → sq (posI ax bx g m) (posI ay bY g m) px py < (E + 2) * (E + 2) := fun v hv hle => by
  have := round_sq m _ _ e f E v f3 e0 e1 k0 k1 hE hv hle
  rw [← e2, ← k2, ← hX _ _ rfl rfl] at this
  exact Int.lt_of_mul_lt_mul_left this (by omega)
 rcases hv with hv | hv
 ·exact key _ hv (by rw [hN]; exact np_a m g _ _ _ _ (by omega) f1 hcr m1 rfl)
 ·exact key _ hv (by rw [hN]; exact np_b m g _ _ _ _ _ f3 f1 hcr m1 rfl hfb)
/-- .. in roots. -/
theorem rt_hardly {v q : Int} (hq : 0 ≤ q) (h : q < (rt v + 1 + 2) * (rt v + 1 + 2)) : rt q ≤ rt v + 2 := by
 have k := rt_nonneg v
 exact rt_le hq (by omega) (by rw [show rt v + 2 + 1 = rt v + 1 + 2 by omega]; exact h)
theorem nrP_hardly {x y : Int} {n l i : Nat} {T U V : Nat → Int} (hv : isTr n T U V = true) (hl : l + 1 < n) (hi : i = l ∨ i = l + 1) :
 rt (sq (nrP x y U V l).1 (nrP x y U V l).2 x y) ≤ rt (sq (U i) (V i) x y) + 2 := by
 obtain ⟨_, _, _, p0, p1⟩ := isTr_leg hv hl
 rcases b2 (U l == U (l + 1) && V l == V (l + 1)) with h | h
 ·rw [nrP_ne h]
  refine rt_hardly (sq_nonneg _ _ _ _) (nr_far x y (rt (sq (U i) (V i) x y) + 1) (isSg_of p0 p1 h) (by have := rt_nonneg (sq (U i) (V i) x y); omega) ?_)
  rcases hi with rfl | rfl
  ·exact .inl (rt_spec (sq_nonneg _ _ _ _)).2
  ·exact .inr (rt_spec (sq_nonneg _ _ _ _)).2
 ·rw [nrP_eq h]
  simp only [Bool.and_eq_true, beq_iff_eq] at h
  rcases hi with rfl | rfl
  ·show rt (sq (U i) (V i) x y) ≤ _; omega
  ·show rt (sq (U l) (V l) x y) ≤ _; rw [h.1, h.2]; omega
/-- The nearest leg is nearest. -/
theorem nsF_min (x y : Int) (U V : Nat → Int) : ∀ k l, l ≤ k → sq (nrP x y U V (nsF x y U V k)).1 (nrP x y U V (nsF x y U V k)).2 x y ≤ sq (nrP x y U V l).1 (nrP x y U V l).2 x y := by
 intro k
 induction k with
 | zero => intro l h; obtain rfl : l = 0 := by omega
           exact Int.le_refl _
 | succ k ih =>
  intro l h
  by_cases hc : sq (nrP x y U V (k + 1)).1 (nrP x y U V (k + 1)).2 x y < sq (nrP x y U V (nsF x y U V k)).1 (nrP x y U V (nsF x y U V k)).2 x y
  ·rw [nsF_yes hc]
   rcases Nat.lt_or_ge l (k + 1) with h1 | h1
   ·exact Int.le_trans (Int.le_of_lt hc) (ih l (by omega))
   ·obtain rfl : l = k + 1 := by omega
    exact Int.le_refl _
  ·rw [nsF_no hc]
   rcases Nat.lt_or_ge l (k + 1) with h1 | h1
   ·exact ih l (by omega)
   ·obtain rfl : l = k + 1 := by omega
    exact Int.not_lt.1 hc
theorem rt_mono {a b : Int} (ha : 0 ≤ a) (h : a ≤ b) : rt a ≤ rt b := rt_le ha (rt_nonneg b) (Int.lt_of_le_of_lt h (rt_spec (by omega)).2)
/-- No fix of a track is much nearer than its nearest point. -/
theorem near_fix {x y : Int} {n i : Nat} {T U V : Nat → Int} (hv : isTr n T U V = true) (hi : i < n) :
 rt (sq (nrP x y U V (nsF x y U V (n - 2))).1 (nrP x y U V (nsF x y U V (n - 2))).2 x y) ≤ rt (sq (U i) (V i) x y) + 2 := by
 obtain ⟨hn2, _, _⟩ := isTr_t hv
 rcases Nat.lt_or_ge (i + 1) n with h | h
 ·exact Int.le_trans (rt_mono (sq_nonneg _ _ _ _) (nsF_min x y U V (n - 2) i (by omega))) (nrP_hardly hv h (.inl rfl))
 ·obtain ⟨j, rfl⟩ : ∃ j, i = j + 1 := ⟨i - 1, by omega⟩
  exact Int.le_trans (rt_mono (sq_nonneg _ _ _ _) (nsF_min x y U V (n - 2) j (by omega))) (nrP_hardly hv hi (.inr rfl))
end Go.Proofs.YtgcdgdnmcdffoaaGreatDoor
