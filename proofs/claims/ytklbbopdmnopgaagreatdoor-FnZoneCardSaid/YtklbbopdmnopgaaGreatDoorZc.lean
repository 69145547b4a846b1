/- Walks: when a track comes to a mark; the legs in a zone; the room time; of both. -/
import Derived.Test.YtklbbopdmnopgaaGreatDoorZa
import Derived.BigQuiet
namespace Go.Proofs.YtklbbopdmnopgaaGreatDoor
open Go.RowKit

/-- The time at which the first of some legs begins, or -1. -/
def hdT (T : Nat → Int) (L : List Int) : Int := match L with
 | [] => -1
 | p :: _ => T p.toNat
def cmI (x y z : Int) (n : Nat) (T U V : Nat → Int) : Int := hdT T (lgsZ x y z U V (n - 1))
def cmT (n2 : Nat) (T U V X Y Z : Nat → Int) (k : Int) : Int := cmI (X k.toNat) (Y k.toNat) (Z k.toNat) n2 T U V
def cmOk (co tr : Bool) (n : Nat) (k : Int) (n2 : Nat) (T U V X Y Z : Nat → Int) : Bool := zoC co tr n k == 0 && decide (0 ≤ cmT n2 T U V X Y Z k)
def cmC (co tr : Bool) (n : Nat) (k : Int) (n2 : Nat) (T U V X Y Z : Nat → Int) : Int := if zoC co tr n k == 0 then sel (decide (0 ≤ cmT n2 T U V X Y Z k)) 0 4 else zoC co tr n k
/-- The legs that are answered. -/
def lgL (co tr : Bool) (n : Nat) (k : Int) (n2 : Nat) (U V X Y Z : Nat → Int) : List Int := if zoC co tr n k = 0 then lgsZ (X k.toNat) (Y k.toNat) (Z k.toNat) U V (n2 - 1) else []
theorem lgL_len (co tr : Bool) (n : Nat) (k : Int) (n2 : Nat) (U V X Y Z : Nat → Int) : (lgL co tr n k n2 U V X Y Z).length ≤ n2 := by
 unfold lgL
 split
 ·have := lgsZ_len (X k.toNat) (Y k.toNat) (Z k.toNat) U V (n2 - 1); omega
 ·simp
theorem cmI_bd {x y z : Int} {n : Nat} {T U V : Nat → Int} (hv : isTr n T U V = true) : -1 ≤ cmI x y z n T U V ∧ cmI x y z n T U V ≤ 1000000000 := by
 unfold cmI
 rcases hL : lgsZ x y z U V (n - 1) with _ | ⟨p, tl⟩
 ·show (-1 : Int) ≤ -1 ∧ (-1 : Int) ≤ _; omega
 ·obtain ⟨j, rfl, hj⟩ := lgsZ_mem x y z U V (n - 1) p (by rw [hL]; exact List.mem_cons_self)
  obtain ⟨t0, t1, t2, _⟩ := isTr_leg (l := j) hv (by omega)
  show -1 ≤ T (Int.toNat j) ∧ T (Int.toNat j) ≤ _
  rw [Int.toNat_natCast]; omega
/-- The room time of two times, each -1 if there is none. -/
def rtI (c d : Int) : Int := if c < 0 then d else if d < 0 then c else if d < c then d else c
def rmT (n2 : Nat) (T U V : Nat → Int) (n3 : Nat) (T3 U3 V3 X Y Z : Nat → Int) (k : Int) : Int := rtI (cmT n2 T U V X Y Z k) (cmT n3 T3 U3 V3 X Y Z k)
def rmOk (co tr tu : Bool) (n : Nat) (k t : Int) : Bool := tu && (zoC co tr n k == 0 && decide (0 ≤ t))
def rmC (co tr tu : Bool) (n : Nat) (k t : Int) : Int := sel tu (if zoC co tr n k == 0 then sel (decide (0 ≤ t)) 0 4 else zoC co tr n k) 1
theorem zo_tt {co tr : Bool} {n : Nat} {k : Int} (h : zoC co tr n k = 0) : co = true ∧ tr = true ∧ 0 ≤ k ∧ k ≤ (n : Int) - 1 := by
 rcases zoC_two co tr n k with h' | h'
 ·exact h'.2
 ·exact absurd h h'
theorem own_head {w : World} {B : Nat} {e : TypeId} {g cp m : Nat} {p : Int} {xs : List Value} (h : w.ownsRow B e 1 (.slice (some ⟨g, 0, none⟩) m cp) m (.int .i64 p :: xs)) : w.cell? ⟨g, 0, none⟩ = some (.int .i64 p) := by
 have := h.cells (g := g) rfl 0 (.int .i64 p) rfl
 rwa [Addr.add_lit, Nat.zero_add] at this
set_option maxRecDepth 100000 in
set_option maxHeartbeats 8000000 in
theorem impl_LegsInZone (ax ay bx bY cx cy dx dy : Int) (so : Option Addr) (n cap : Nat) (N : Nat → ByteArray) (X Y S Z : Nat → Int) (k : Int) (so2 : Option Addr) (n2 cap2 : Nat) (T U V : Nat → Int) (w : World) (h : RowAt w so n 5 (v5 N X Y S Z)) (hn : n ≤ 1048576) (hcap : n ≤ cap) (h2 : RowAt w so2 n2 3 (v3 T U V)) (hn2 : n2 ≤ 1048576) :
 Calls Tryz.prog 12 #[.agg #[.int .i64 ax, .int .i64 ay, .int .i64 bx, .int .i64 bY, .int .i64 cx, .int .i64 cy, .int .i64 dx, .int .i64 dy, .slice so n cap], .int .i64 k, .agg #[.slice so2 n2 cap2]] w (RetG w (lgL (isCo ax ay bx bY cx cy dx dy n N X Y S Z) (isTr n2 T U V) n k n2 U V X Y Z) (zoC (isCo ax ay bx bY cx cy dx dy n N X Y S Z) (isTr n2 T U V) n k)) := by
 have KZ := fun W (hb : Below w.heap.size w W) => impl_zoneCode ax ay bx bY cx cy dx dy so n cap N X Y S Z k so2 n2 cap2 T U V W (RowAt.later hb h) hn hcap (RowAt.later hb h2) hn2
 rcases zoC_two (isCo ax ay bx bY cx cy dx dy n N X Y S Z) (isTr n2 T U V) n k with ⟨z, _⟩ | z
 ·have Ho := hide (show lgL (isCo ax ay bx bY cx cy dx dy n N X Y S Z) (isTr n2 T U V) n k n2 U V X Y Z = lgsZ (X k.toNat) (Y k.toNat) (Z k.toNat) U V (n2 - 1) by unfold lgL; rw [if_pos z])
  have KZ2 := hide (z ▸ KZ)
  rw [Ho.out, z]
  clear Ho KZ
  obtain ⟨hco, htr, hk0, hk1⟩ := zo_tt z
  obtain ⟨hn2a, _, _⟩ := isTr_t htr
  obtain ⟨b2, o2, rfl, hb2, _, _, _⟩ := h2.at3 0 (by omega)
  obtain ⟨K, rfl⟩ := Int.eq_ofNat_of_zero_le hk0
  have hKn : K < n := by omega
  obtain ⟨_, hpt, _, hz1, hz2⟩ := isMk_t ((isCo_t hco).2.2.2.2 K hKn)
  obtain ⟨b, o, rfl, hbs, e0, e1, e2, e3, e4⟩ := h.at5 K hKn
  have hi0 : (0 : Int) ≤ (K : Int) := by omega
  have hi1 : (K : Int) < (n : Int) := by omega
  rw [Int.toNat_natCast]
  have KL := hide (fun W (hb : Below w.heap.size w W) => impl_legsInZone (N K) (X K) (Y K) (S K) (Z K) b2 o2 n2 cap2 T U V W (RowAt.later hb h2) htr hpt hz1 hz2)
  generalize lgsZ (X K) (Y K) (Z K) U V (n2 - 1) = L at *
  clear h h2 hco htr z hpt hz1 hz2 hk1
  go_enter Tryz.func12, Tryz.ntmps12
  go_upto_region 4 with (go_at_call 17; (with_reducible refine (KZ2.out _ bwz).mono ?_); rintro e wB ⟨rfl, hb⟩)
  have t8 : wB.cell? ⟨w.heap.size, 8, none⟩ = some (.slice (some ⟨b, o, none⟩) n cap) := cell_later hb (by go_simp)
  have t0 : wB.cell? ⟨w.heap.size + 1, 0, none⟩ = some (.slice (some ⟨b2, o2, none⟩) n2 cap2) := cell_later hb (by go_simp)
  have HBB := hide (show Below w.heap.size w wB from bwz)
  have g0 := cell_later HBB.out e0
  have g1 := cell_later HBB.out e1
  have g2 := cell_later HBB.out e2
  have g3 := cell_later HBB.out e3
  have g4 := cell_later HBB.out e4
  have zB := HBB.out.size
  have zB1 : w.heap.size + 1 < wB.heap.size := World.block_lt_of_cell? _ _ t0
  have zB0 : w.heap.size < wB.heap.size := by omega
  have zBb : b < wB.heap.size := by omega
  clear hb e0 e1 e2 e3 e4
  refine wp_region_held_drew (S := fun W => Below wB.heap.size wB W) (by kernel_rfl) (Below.drew (Below.refl _ _)) (fun hHeld => ?_)
  refine tkN 0 (some 16) rfl ?_; simp only [pz]
  refine tkL 1 (some 17) rfl ?_; simp only [pz]
  refine tkN 2 (some 18) rfl ?_; simp only [pz]
  refine tkN 3 (some 19) rfl ?_; simp only [pz]
  refine tkL 4 (some 20) rfl ?_; simp only [pz]
  refine tkL 5 (some 21) rfl ?_; simp only [pz]
  refine rd1 6 (some 22) rfl (fun K hK => ?_)
  go_simp; (go_at_call 29; (with_reducible refine (KL.out _ (bstep HBB.out bwz)).mono ?_); rintro e w9 ⟨g9, cp9, rfl, hown, hb⟩; have Hown := hide hown; clear hown)
  all_goals (try go_wp2_with fail)
  refine hK.out _ _ ?_ (fun hH2 => ?_)
  ·exact hhz
  clear hK K hHeld; (have hHeld := hH2); clear hH2; (try simp only [pz])
  refine tkN 7 (some 6) rfl ?_; simp only [pz]
  refine tkN 8 (some 7) rfl ?_; simp only [pz]
  refine wpAnyH_done (by kernel_rfl) ?_ _; (try simp only [pz])
  go_wp2
  go_ret2
  exact ⟨_, _, rfl, Hown.out.mono (by first | omega | (simp; omega)), bstep HBB.out hHeld⟩
 ·have Ho := hide (show lgL (isCo ax ay bx bY cx cy dx dy n N X Y S Z) (isTr n2 T U V) n k n2 U V X Y Z = [] by unfold lgL; rw [if_neg z])
  obtain ⟨c0, hc0⟩ : ∃ c, c = zoC (isCo ax ay bx bY cx cy dx dy n N X Y S Z) (isTr n2 T U V) n k := ⟨_, rfl⟩
  rw [Ho.out, ← hc0]
  rw [← hc0] at z
  have KZ2 := hide (hc0 ▸ KZ)
  have hcb : (c0 != 0) = true := bne_iff_ne.2 z
  clear KZ hc0 Ho h h2
  go_enter Tryz.func12, Tryz.ntmps12
  go_wp2_with (go_at_call 17; (with_reducible refine (KZ2.out _ bwz).mono ?_); rintro e w9 ⟨rfl, hb⟩; obtain ⟨hc, hf⟩ := bcell hb; have hz := hb.size; have z0 : w.heap.size < w9.heap.size := (by first | omega | (simp at hz; omega)); have z1 : w.heap.size + 1 < w9.heap.size := (by first | omega | (simp at hz; omega)))
  go_ret2
  exact ⟨none, 0, rfl, own_nil, bwz⟩
end Go.Proofs.YtklbbopdmnopgaaGreatDoor
