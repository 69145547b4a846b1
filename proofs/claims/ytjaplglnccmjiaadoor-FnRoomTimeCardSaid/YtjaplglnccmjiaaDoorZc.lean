/- Walks: when a track comes to a mark; the legs in a zone; the room time; of both. -/
import Derived.Test.YtjaplglnccmjiaaDoorZa
import Derived.BigQuiet
namespace Go.Proofs.YtjaplglnccmjiaaDoor
open Go.RowKit

/-- The time at which the first of some legs begins, or -1. -/
def hdT (T : Nat → Int) (L : List Int) : Int := match L with
  | [] => -1
  | p :: _ => T p.toNat
def cmI (x y z : Int) (n : Nat) (T U V : Nat → Int) : Int := hdT T (lgsZ x y z U V (n - 1))
def cmT (n2 : Nat) (T U V X Y Z : Nat → Int) (k : Int) : Int := cmI (X k.toNat) (Y k.toNat) (Z k.toNat) n2 T U V
def cmOk (co tr : Bool) (n : Nat) (k : Int) (n2 : Nat) (T U V X Y Z : Nat → Int) : Bool := zoC co tr n k == 0 && decide (0 ≤ cmT n2 T U V X Y Z k)
def cmC (co tr : Bool) (n : Nat) (k : Int) (n2 : Nat) (T U V X Y Z : Nat → Int) : Int := if zoC co tr n k == 0 then sel (decide (0 ≤ cmT n2 T U V X Y Z k)) 0 4 else zoC co tr n k
/-- The legs that are answered. -/
def lgL (co tr : Bool) (n : Nat) (k : Int) (n2 : Nat) (U V X Y Z : Nat → Int) : List Int := if zoC co tr n k = 0 then lgsZ (X k.toNat) (Y k.toNat) (Z k.toNat) U V (n2 - 1) else []
theorem lgL_len (co tr : Bool) (n : Nat) (k : Int) (n2 : Nat) (U V X Y Z : Nat → Int) : (lgL co tr n k n2 U V X Y Z).length ≤ n2 := by
  unfold lgL
  split
  · have := lgsZ_len (X k.toNat) (Y k.toNat) (Z k.toNat) U V (n2 - 1); omega
  · simp
theorem cmI_bd {x y z : Int} {n : Nat} {T U V : Nat → Int} (hv : isTr n T U V = true) : -1 ≤ cmI x y z n T U V ∧ cmI x y z n T U V ≤ 1000000000 := by
  unfold cmI
  rcases hL : lgsZ x y z U V (n - 1) with _ | ⟨p, tl⟩
  · show (-1 : Int) ≤ -1 ∧ (-1 : Int) ≤ _; omega
  · obtain ⟨j, rfl, hj⟩ := lgsZ_mem x y z U V (n - 1) p (by rw [hL]; exact List.mem_cons_self)
    obtain ⟨t0, t1, t2, _⟩ := isTr_leg (l := j) hv (by omega)
    show -1 ≤ T (Int.toNat j) ∧ T (Int.toNat j) ≤ _
    rw [Int.toNat_natCast]; omega
/-- The room time of two times, each -1 if there is none. -/
def rtI (c d : Int) : Int := if c < 0 then d else if d < 0 then c else if d < c then d else c
def rmT (n2 : Nat) (T U V : Nat → Int) (n3 : Nat) (T3 U3 V3 X Y Z : Nat → Int) (k : Int) : Int := rtI (cmT n2 T U V X Y Z k) (cmT n3 T3 U3 V3 X Y Z k)
def rmOk (co tr tu : Bool) (n : Nat) (k t : Int) : Bool := tu && (zoC co tr n k == 0 && decide (0 ≤ t))
def rmC (co tr tu : Bool) (n : Nat) (k t : Int) : Int := sel tu (if zoC co tr n k == 0 then sel (decide (0 ≤ t)) 0 4 else zoC co tr n k) 1
theorem zo_tt {co tr : Bool} {n : Nat} {k : Int} (h : zoC co tr n k = 0) : co = true ∧ tr = true ∧ 0 ≤ k ∧ k ≤ (n : Int) - 1 := by
  rcases zoC_two co tr n k with h' | h'
  · exact h'.2
  · exact absurd h h'
theorem own_head {w : World} {B : Nat} {e : TypeId} {g cp m : Nat} {p : Int} {xs : List Value} (h : w.ownsRow B e 1 (.slice (some ⟨g, 0, none⟩) m cp) m (.int .i64 p :: xs)) : w.cell? ⟨g, 0, none⟩ = some (.int .i64 p) := by
  have := h.cells (g := g) rfl 0 (.int .i64 p) rfl
  rwa [Addr.add_lit, Nat.zero_add] at this
set_option maxRecDepth 100000 in
set_option maxHeartbeats 4000000 in
theorem impl_comesAt (nm : ByteArray) (x y sd z : Int) (b o n cap : Nat) (T U V : Nat → Int) (w : World) (h : RowAt w (some ⟨b, o, none⟩) n 3 (v3 T U V)) (hv : isTr n T U V = true) (hp : isPt x y = true) (hz1 : 1 ≤ z) (hz2 : z ≤ 5000) :
    Calls Tryd.prog 35 #[.agg #[.string nm, .int .i64 x, .int .i64 y, .int .i64 sd, .int .i64 z], .agg #[.slice (some ⟨b, o, none⟩) n cap]] w fun e w' => e = .returned (.int .i64 (cmI x y z n T U V)) ∧ Below w.heap.size w w' := by
  obtain ⟨hn2, hn40, _⟩ := isTr_t hv
  have KL := hide (fun W (hb : Below w.heap.size w W) => impl_legsInZone nm x y sd z b o n cap T U V W (RowAt.later hb h) hv hp hz1 hz2)
  have hm := lgsZ_mem x y z U V (n - 1)
  unfold cmI
  generalize lgsZ x y z U V (n - 1) = L at *
  clear hv hp hz1 hz2
  go_enter Tryd.func35, Tryd.ntmps35
  go_wp2_with fail; (with_reducible refine (KL.out _ bwz).mono ?_); rintro e w1 ⟨g, cp, rfl, hown, hb⟩
  have hbl : Below w.heap.size w w1 := bwz
  have m5 : w1.cell? ⟨w.heap.size + 1, 0, none⟩ = some (.slice (some ⟨b, o, none⟩) n cap) := cell_later hb (by go_simp)
  have z1 : w.heap.size + 1 < w1.heap.size := World.block_lt_of_cell? _ _ m5
  clear KL hb
  rcases L with _ | ⟨p, tl⟩
  · go_wp2
    go_ret
    exact ⟨rfl, hbl⟩
  · obtain ⟨j, rfl, hj⟩ := hm p List.mem_cons_self
    have c0 := own_head hown
    have gl := (hown.lt g rfl).2
    obtain ⟨d0, d1, d2⟩ := (RowAt.later hbl h).on3 j (by omega)
    obtain ⟨m9, hm9⟩ : ∃ m, m = ((j : Int) :: tl).length := ⟨_, rfl⟩
    have hm0 : (0 : Int) < (m9 : Int) := by rw [hm9, List.length_cons]; omega
    have hm1 : ((m9 : Int) == 0) = false := beq_eq_false_iff_ne.2 (by omega)
    rw [← hm9]
    have Hv := hide (show hdT T ((j : Int) :: tl) = T j from by show T (Int.toNat j) = T j; rw [Int.toNat_natCast])
    have hj1 : (0 : Int) ≤ (j : Int) := by omega
    have hj2 : (j : Int) < (n : Int) := by omega
    have bl := World.block_lt_of_cell? _ _ d0
    simp only at bl
    clear hown h hm hm9
    go_upto_region 4 with fail
    go_quiet (fail)
    go_wp2
    go_ret
    exact ⟨by rw [Hv.out]; rfl, bwz⟩
set_option maxRecDepth 100000 in
set_option maxHeartbeats 4000000 in
theorem spec_l11Comes (nm : ByteArray) (x y sd z : Int) (b o n cap : Nat) (T U V : Nat → Int) (w : World) (h : RowAt w (some ⟨b, o, none⟩) n 3 (v3 T U V)) (hv : isTr n T U V = true) (hp : isPt x y = true) (hz1 : 1 ≤ z) (hz2 : z ≤ 5000) :
    Calls Tryd.prog 57 #[.agg #[.string nm, .int .i64 x, .int .i64 y, .int .i64 sd, .int .i64 z], .agg #[.slice (some ⟨b, o, none⟩) n cap]] w fun e w' => e = .returned (.int .i64 (cmI x y z n T U V)) ∧ Below w.heap.size w w' := by
  obtain ⟨hn2, hn40, _⟩ := isTr_t hv
  have KL := hide (fun W (hb : Below w.heap.size w W) => spec_l07Legs nm x y sd z b o n cap T U V W (RowAt.later hb h) hv hp hz1 hz2)
  have hm := lgsZ_mem x y z U V (n - 1)
  unfold cmI
  generalize lgsZ x y z U V (n - 1) = L at *
  clear hv hp hz1 hz2
  go_enter Tryd.func57, Tryd.ntmps57
  go_wp2_with fail; (with_reducible refine (KL.out _ bwz).mono ?_); rintro e w1 ⟨g, cp, rfl, hown, hb⟩
  have hbl : Below w.heap.size w w1 := bwz
  have m5 : w1.cell? ⟨w.heap.size + 1, 0, none⟩ = some (.slice (some ⟨b, o, none⟩) n cap) := cell_later hb (by go_simp)
  have z1 : w.heap.size + 1 < w1.heap.size := World.block_lt_of_cell? _ _ m5
  clear KL hb
  rcases L with _ | ⟨p, tl⟩
  · go_wp2
    go_ret
    exact ⟨rfl, hbl⟩
  · obtain ⟨j, rfl, hj⟩ := hm p List.mem_cons_self
    have c0 := own_head hown
    have gl := (hown.lt g rfl).2
    obtain ⟨d0, d1, d2⟩ := (RowAt.later hbl h).on3 j (by omega)
    obtain ⟨m9, hm9⟩ : ∃ m, m = ((j : Int) :: tl).length := ⟨_, rfl⟩
    have hm0 : (0 : Int) < (m9 : Int) := by rw [hm9, List.length_cons]; omega
    have hm1 : ((m9 : Int) == 0) = false := beq_eq_false_iff_ne.2 (by omega)
    rw [← hm9]
    have Hv := hide (show hdT T ((j : Int) :: tl) = T j from by show T (Int.toNat j) = T j; rw [Int.toNat_natCast])
    have hj1 : (0 : Int) ≤ (j : Int) := by omega
    have hj2 : (j : Int) < (n : Int) := by omega
    have bl := World.block_lt_of_cell? _ _ d0
    simp only at bl
    clear hown h hm hm9
    go_upto_region 4 with fail
    go_quiet (fail)
    go_wp2
    go_ret
    exact ⟨by rw [Hv.out]; rfl, bwz⟩
set_option maxRecDepth 100000 in
set_option maxHeartbeats 8000000 in
theorem impl_LegsInZone (ax ay bx bY cx cy dx dy : Int) (so : Option Addr) (n cap : Nat) (N : Nat → ByteArray) (X Y S Z : Nat → Int) (k : Int) (so2 : Option Addr) (n2 cap2 : Nat) (T U V : Nat → Int) (w : World) (h : RowAt w so n 5 (v5 N X Y S Z)) (hn : n ≤ 1048576) (hcap : n ≤ cap) (h2 : RowAt w so2 n2 3 (v3 T U V)) (hn2 : n2 ≤ 1048576) :
    Calls Tryd.prog 11 #[.agg #[.int .i64 ax, .int .i64 ay, .int .i64 bx, .int .i64 bY, .int .i64 cx, .int .i64 cy, .int .i64 dx, .int .i64 dy, .slice so n cap], .int .i64 k, .agg #[.slice so2 n2 cap2]] w (RetG w (lgL (isCo ax ay bx bY cx cy dx dy n N X Y S Z) (isTr n2 T U V) n k n2 U V X Y Z) (zoC (isCo ax ay bx bY cx cy dx dy n N X Y S Z) (isTr n2 T U V) n k)) := by
  have KZ := fun W (hb : Below w.heap.size w W) => impl_zoneCode ax ay bx bY cx cy dx dy so n cap N X Y S Z k so2 n2 cap2 T U V W (RowAt.later hb h) hn hcap (RowAt.later hb h2) hn2
  rcases zoC_two (isCo ax ay bx bY cx cy dx dy n N X Y S Z) (isTr n2 T U V) n k with ⟨z, _⟩ | z
  · have Ho := hide (show lgL (isCo ax ay bx bY cx cy dx dy n N X Y S Z) (isTr n2 T U V) n k n2 U V X Y Z = lgsZ (X k.toNat) (Y k.toNat) (Z k.toNat) U V (n2 - 1) by unfold lgL; rw [if_pos z])
    have KZ2 := hide (z ▸ KZ)
    rw [Ho.out, z]
    clear Ho KZ
    obtain ⟨hco, htr, hk0, hk1⟩ := zo_tt z
    obtain ⟨hn2a, _, _⟩ := isTr_t htr
    obtain ⟨b2, o2, rfl, hb2, _, _, _⟩ := h2.at3 0 (by omega)
    obtain ⟨K, rfl⟩ := Int.eq_ofNat_of_zero_le hk0
    have hKn : K < n := by omega
    obtain ⟨_, hpt, _, hz1, hz2⟩ := isMk_t ((isCo_t hco).2.2.2.2 K hKn)
    obtain ⟨b, o, rfl, hbs, e0, e1, e2, e3, e4⟩ := h.at5 K hKn
    have hi0 : (0 : Int) ≤ (K : Int) := by omega
    have hi1 : (K : Int) < (n : Int) := by omega
    rw [Int.toNat_natCast]
    have KL := hide (fun W (hb : Below w.heap.size w W) => impl_legsInZone (N K) (X K) (Y K) (S K) (Z K) b2 o2 n2 cap2 T U V W (RowAt.later hb h2) htr hpt hz1 hz2)
    generalize lgsZ (X K) (Y K) (Z K) U V (n2 - 1) = L at *
    clear h h2 hco htr z hpt hz1 hz2 hk1
    go_enter Tryd.func11, Tryd.ntmps11
    go_upto_region 4 with (go_at_call 26; (with_reducible refine (KZ2.out _ bwz).mono ?_); rintro e wB ⟨rfl, hb⟩)
    have t8 : wB.cell? ⟨w.heap.size, 8, none⟩ = some (.slice (some ⟨b, o, none⟩) n cap) := cell_later hb (by go_simp)
    have t0 : wB.cell? ⟨w.heap.size + 1, 0, none⟩ = some (.slice (some ⟨b2, o2, none⟩) n2 cap2) := cell_later hb (by go_simp)
    have HBB := hide (show Below w.heap.size w wB from bwz)
    have g0 := cell_later HBB.out e0
    have g1 := cell_later HBB.out e1
    have g2 := cell_later HBB.out e2
    have g3 := cell_later HBB.out e3
    have g4 := cell_later HBB.out e4
    have zB := HBB.out.size
    have zB1 : w.heap.size + 1 < wB.heap.size := World.block_lt_of_cell? _ _ t0
    have zB0 : w.heap.size < wB.heap.size := by omega
    have zBb : b < wB.heap.size := by omega
    clear hb e0 e1 e2 e3 e4
    refine wp_region_held_drew (S := fun W => Below wB.heap.size wB W) (by kernel_rfl) (Below.drew (Below.refl _ _)) (fun hHeld => ?_)
    refine tkN 0 (some 16) rfl ?_; (try simp only [pz])
    refine tkL 1 (some 17) rfl ?_; (try simp only [pz])
    refine tkN 2 (some 18) rfl ?_; (try simp only [pz])
    refine tkN 3 (some 19) rfl ?_; (try simp only [pz])
    refine tkL 4 (some 20) rfl ?_; (try simp only [pz])
    refine tkL 5 (some 21) rfl ?_; (try simp only [pz])
    refine wpAnyH_ready (rs := [6]) (by kernel_rfl) (by simp) ?_; refine (AllReadyH.cons (o := ⟨some 22, _, _, _, _, _⟩) rfl (fun K hK => ?_) AllReadyH.nil)
    go_simp; (go_at_call 27; (with_reducible refine (KL.out _ (bstep HBB.out bwz)).mono ?_); rintro e w9 ⟨g9, cp9, rfl, hown, hb⟩; have Hown := hide hown; clear hown)
    all_goals (try go_wp2_with fail)
    refine hK.out _ _ ?_ (fun hH2 => ?_)
    · first | exact bstep hHeld hb | exact hHeld.trans hb | exact hHeld
    clear hK K hHeld; (have hHeld := hH2); clear hH2; (try simp only [pz])
    refine tkN 7 (some 6) rfl ?_; (try simp only [pz])
    refine tkN 8 (some 7) rfl ?_; (try simp only [pz])
    refine wpAnyH_done (by kernel_rfl) ?_ _; (try simp only [pz])
    go_wp2
    go_ret2
    exact ⟨_, _, rfl, Hown.out.mono (by first | omega | (simp; omega)), bstep HBB.out hHeld⟩
  · have Ho := hide (show lgL (isCo ax ay bx bY cx cy dx dy n N X Y S Z) (isTr n2 T U V) n k n2 U V X Y Z = [] by unfold lgL; rw [if_neg z])
    obtain ⟨c0, hc0⟩ : ∃ c, c = zoC (isCo ax ay bx bY cx cy dx dy n N X Y S Z) (isTr n2 T U V) n k := ⟨_, rfl⟩
    rw [Ho.out, ← hc0]
    rw [← hc0] at z
    have KZ2 := hide (hc0 ▸ KZ)
    have hcb : (c0 != 0) = true := bne_iff_ne.2 z
    clear KZ hc0 Ho h h2
    go_enter Tryd.func11, Tryd.ntmps11
    go_wp2_with (go_at_call 26; (with_reducible refine (KZ2.out _ bwz).mono ?_); rintro e w9 ⟨rfl, hb⟩; obtain ⟨hc, hf⟩ := bcell hb; have hz := hb.size; have z0 : w.heap.size < w9.heap.size := (by first | omega | (simp at hz; omega)); have z1 : w.heap.size + 1 < w9.heap.size := (by first | omega | (simp at hz; omega)))
    go_ret2
    exact ⟨none, 0, rfl, own_nil, bwz⟩
set_option maxRecDepth 100000 in
set_option maxHeartbeats 8000000 in
theorem impl_ComesAt (ax ay bx bY cx cy dx dy : Int) (so : Option Addr) (n cap : Nat) (N : Nat → ByteArray) (X Y S Z : Nat → Int) (k : Int) (so2 : Option Addr) (n2 cap2 : Nat) (T U V : Nat → Int) (w : World) (h : RowAt w so n 5 (v5 N X Y S Z)) (hn : n ≤ 1048576) (hcap : n ≤ cap) (h2 : RowAt w so2 n2 3 (v3 T U V)) (hn2 : n2 ≤ 1048576) :
    Calls Tryd.prog 16 #[.agg #[.int .i64 ax, .int .i64 ay, .int .i64 bx, .int .i64 bY, .int .i64 cx, .int .i64 cy, .int .i64 dx, .int .i64 dy, .slice so n cap], .int .i64 k, .agg #[.slice so2 n2 cap2]] w fun e w' => e = .returned (.tuple #[.int .i64 (sel (cmOk (isCo ax ay bx bY cx cy dx dy n N X Y S Z) (isTr n2 T U V) n k n2 T U V X Y Z) (cmT n2 T U V X Y Z k) 0), .int .i64 (cmC (isCo ax ay bx bY cx cy dx dy n N X Y S Z) (isTr n2 T U V) n k n2 T U V X Y Z)]) ∧ Below w.heap.size w w' := by
  have KZ := fun W (hb : Below w.heap.size w W) => impl_zoneCode ax ay bx bY cx cy dx dy so n cap N X Y S Z k so2 n2 cap2 T U V W (RowAt.later hb h) hn hcap (RowAt.later hb h2) hn2
  rcases zoC_two (isCo ax ay bx bY cx cy dx dy n N X Y S Z) (isTr n2 T U V) n k with ⟨z, _⟩ | z
  · have Hv := hide (show cmOk (isCo ax ay bx bY cx cy dx dy n N X Y S Z) (isTr n2 T U V) n k n2 T U V X Y Z = decide (0 ≤ cmT n2 T U V X Y Z k) by unfold cmOk; rw [z]; rfl)
    have Hc := hide (show cmC (isCo ax ay bx bY cx cy dx dy n N X Y S Z) (isTr n2 T U V) n k n2 T U V X Y Z = sel (decide (0 ≤ cmT n2 T U V X Y Z k)) 0 4 by unfold cmC; rw [z]; rfl)
    have KZ2 := hide (z ▸ KZ)
    rw [Hv.out, Hc.out]
    clear KZ Hv Hc
    obtain ⟨hco, htr, hk0, hk1⟩ := zo_tt z
    obtain ⟨hn2a, _, _⟩ := isTr_t htr
    obtain ⟨b2, o2, rfl, hb2, _, _, _⟩ := h2.at3 0 (by omega)
    obtain ⟨K, rfl⟩ := Int.eq_ofNat_of_zero_le hk0
    have hKn : K < n := by omega
    obtain ⟨_, hpt, _, hz1, hz2⟩ := isMk_t ((isCo_t hco).2.2.2.2 K hKn)
    obtain ⟨b, o, rfl, hbs, e0, e1, e2, e3, e4⟩ := h.at5 K hKn
    have hi0 : (0 : Int) ≤ (K : Int) := by omega
    have hi1 : (K : Int) < (n : Int) := by omega
    unfold cmT
    rw [Int.toNat_natCast]
    have KC := hide (fun W (hb : Below w.heap.size w W) => impl_comesAt (N K) (X K) (Y K) (S K) (Z K) b2 o2 n2 cap2 T U V W (RowAt.later hb h2) htr hpt hz1 hz2)
    generalize cmI (X K) (Y K) (Z K) n2 T U V = c9 at *
    clear h h2 hco htr z hpt hz1 hz2 hk1
    by_cases hneg : c9 < 0
    · have ev : decide (0 ≤ c9) = false := decide_eq_false (by omega)
      rw [ev]
      clear ev
      go_enter Tryd.func16, Tryd.ntmps16
      go_upto_region 4 with (go_at_call 26; (with_reducible refine (KZ2.out _ bwz).mono ?_); rintro e wB ⟨rfl, hb⟩)
      have t8 : wB.cell? ⟨w.heap.size, 8, none⟩ = some (.slice (some ⟨b, o, none⟩) n cap) := cell_later hb (by go_simp)
      have t0 : wB.cell? ⟨w.heap.size + 1, 0, none⟩ = some (.slice (some ⟨b2, o2, none⟩) n2 cap2) := cell_later hb (by go_simp)
      have HBB := hide (show Below w.heap.size w wB from bwz)
      have g0 := cell_later HBB.out e0
      have g1 := cell_later HBB.out e1
      have g2 := cell_later HBB.out e2
      have g3 := cell_later HBB.out e3
      have g4 := cell_later HBB.out e4
      have zB := HBB.out.size
      have zB1 : w.heap.size + 1 < wB.heap.size := World.block_lt_of_cell? _ _ t0
      have zB0 : w.heap.size < wB.heap.size := by omega
      have zBb : b < wB.heap.size := by omega
      clear hb e0 e1 e2 e3 e4
      refine wp_region_held_drew (S := fun W => Below wB.heap.size wB W) (by kernel_rfl) (Below.drew (Below.refl _ _)) (fun hHeld => ?_)
      refine tkN 0 (some 17) rfl ?_; (try simp only [pz])
      refine tkL 1 (some 18) rfl ?_; (try simp only [pz])
      refine tkN 2 (some 19) rfl ?_; (try simp only [pz])
      refine tkN 3 (some 20) rfl ?_; (try simp only [pz])
      refine tkL 4 (some 21) rfl ?_; (try simp only [pz])
      refine tkL 5 (some 22) rfl ?_; (try simp only [pz])
      refine wpAnyH_ready (rs := [6]) (by kernel_rfl) (by simp) ?_; refine (AllReadyH.cons (o := ⟨some 23, _, _, _, _, _⟩) rfl (fun K hK => ?_) AllReadyH.nil)
      go_simp; (go_at_call 35; (with_reducible refine (KC.out _ (bstep HBB.out bwz)).mono ?_); rintro e w9 ⟨rfl, hb⟩)
      all_goals (try go_wp2_with fail)
      refine hK.out _ _ ?_ (fun hH2 => ?_)
      · first | exact bstep hHeld hb | exact hHeld.trans hb | exact hHeld
      clear hK K hHeld; (have hHeld := hH2); clear hH2; (try simp only [pz])
      refine tkN 7 (some 9) rfl ?_; (try simp only [pz])
      refine wpAnyH_done (by kernel_rfl) ?_ _; (try simp only [pz])
      go_wp2
      go_ret2
      exact ⟨rfl, bstep HBB.out hHeld⟩
    · have ev : decide (0 ≤ c9) = true := decide_eq_true (by omega)
      rw [ev]
      clear ev
      go_enter Tryd.func16, Tryd.ntmps16
      go_upto_region 4 with (go_at_call 26; (with_reducible refine (KZ2.out _ bwz).mono ?_); rintro e wB ⟨rfl, hb⟩)
      have t8 : wB.cell? ⟨w.heap.size, 8, none⟩ = some (.slice (some ⟨b, o, none⟩) n cap) := cell_later hb (by go_simp)
      have t0 : wB.cell? ⟨w.heap.size + 1, 0, none⟩ = some (.slice (some ⟨b2, o2, none⟩) n2 cap2) := cell_later hb (by go_simp)
      have HBB := hide (show Below w.heap.size w wB from bwz)
      have g0 := cell_later HBB.out e0
      have g1 := cell_later HBB.out e1
      have g2 := cell_later HBB.out e2
      have g3 := cell_later HBB.out e3
      have g4 := cell_later HBB.out e4
      have zB := HBB.out.size
      have zB1 : w.heap.size + 1 < wB.heap.size := World.block_lt_of_cell? _ _ t0
      have zB0 : w.heap.size < wB.heap.size := by omega
      have zBb : b < wB.heap.size := by omega
      clear hb e0 e1 e2 e3 e4
      refine wp_region_held_drew (S := fun W => Below wB.heap.size wB W) (by kernel_rfl) (Below.drew (Below.refl _ _)) (fun hHeld => ?_)
      refine tkN 0 (some 17) rfl ?_; (try simp only [pz])
      refine tkL 1 (some 18) rfl ?_; (try simp only [pz])
      refine tkN 2 (some 19) rfl ?_; (try simp only [pz])
      refine tkN 3 (some 20) rfl ?_; (try simp only [pz])
      refine tkL 4 (some 21) rfl ?_; (try simp only [pz])
      refine tkL 5 (some 22) rfl ?_; (try simp only [pz])
      refine wpAnyH_ready (rs := [6]) (by kernel_rfl) (by simp) ?_; refine (AllReadyH.cons (o := ⟨some 23, _, _, _, _, _⟩) rfl (fun K hK => ?_) AllReadyH.nil)
      go_simp; (go_at_call 35; (with_reducible refine (KC.out _ (bstep HBB.out bwz)).mono ?_); rintro e w9 ⟨rfl, hb⟩)
      all_goals (try go_wp2_with fail)
      refine hK.out _ _ ?_ (fun hH2 => ?_)
      · first | exact bstep hHeld hb | exact hHeld.trans hb | exact hHeld
      clear hK K hHeld; (have hHeld := hH2); clear hH2; (try simp only [pz])
      refine tkN 7 (some 9) rfl ?_; (try simp only [pz])
      refine wpAnyH_done (by kernel_rfl) ?_ _; (try simp only [pz])
      go_wp2
      go_ret2
      exact ⟨rfl, bstep HBB.out hHeld⟩
  · obtain ⟨c0, hc0⟩ : ∃ c, c = zoC (isCo ax ay bx bY cx cy dx dy n N X Y S Z) (isTr n2 T U V) n k := ⟨_, rfl⟩
    have e1 : cmOk (isCo ax ay bx bY cx cy dx dy n N X Y S Z) (isTr n2 T U V) n k n2 T U V X Y Z = false := by unfold cmOk; rw [beq_eq_false_iff_ne.2 z]; rfl
    have e2 : cmC (isCo ax ay bx bY cx cy dx dy n N X Y S Z) (isTr n2 T U V) n k n2 T U V X Y Z = c0 := by unfold cmC; rw [beq_eq_false_iff_ne.2 z, hc0]; rfl
    rw [e1, e2]
    rw [← hc0] at z
    have KZ2 := hide (hc0 ▸ KZ)
    have hcb : (c0 != 0) = true := bne_iff_ne.2 z
    clear KZ hc0 e1 e2 h h2
    go_enter Tryd.func16, Tryd.ntmps16
    go_wp2_with (go_at_call 26; (with_reducible refine (KZ2.out _ bwz).mono ?_); rintro e w9 ⟨rfl, hb⟩; obtain ⟨hc, hf⟩ := bcell hb; have hz := hb.size; have z0 : w.heap.size < w9.heap.size := (by first | omega | (simp at hz; omega)); have z1 : w.heap.size + 1 < w9.heap.size := (by first | omega | (simp at hz; omega)))
    go_ret2
    exact ⟨rfl, bwz⟩
set_option maxRecDepth 100000 in
set_option maxHeartbeats 8000000 in
theorem spec_LegsInZone (ax ay bx bY cx cy dx dy : Int) (so : Option Addr) (n cap : Nat) (N : Nat → ByteArray) (X Y S Z : Nat → Int) (k : Int) (so2 : Option Addr) (n2 cap2 : Nat) (T U V : Nat → Int) (w : World) (h : RowAt w so n 5 (v5 N X Y S Z)) (hn : n ≤ 1048576) (h2 : RowAt w so2 n2 3 (v3 T U V)) (hn2 : n2 ≤ 1048576) :
    Calls Tryd.prog 20 #[.agg #[.int .i64 ax, .int .i64 ay, .int .i64 bx, .int .i64 bY, .int .i64 cx, .int .i64 cy, .int .i64 dx, .int .i64 dy, .slice so n cap], .int .i64 k, .agg #[.slice so2 n2 cap2]] w (RetG w (lgL (isCo ax ay bx bY cx cy dx dy n N X Y S Z) (isTr n2 T U V) n k n2 U V X Y Z) (zoC (isCo ax ay bx bY cx cy dx dy n N X Y S Z) (isTr n2 T U V) n k)) := by
  have KZ := fun W (hb : Below w.heap.size w W) => spec_l07Code ax ay bx bY cx cy dx dy so n cap N X Y S Z k so2 n2 cap2 T U V W (RowAt.later hb h) hn (RowAt.later hb h2) hn2
  rcases zoC_two (isCo ax ay bx bY cx cy dx dy n N X Y S Z) (isTr n2 T U V) n k with ⟨z, _⟩ | z
  · have Ho := hide (show lgL (isCo ax ay bx bY cx cy dx dy n N X Y S Z) (isTr n2 T U V) n k n2 U V X Y Z = lgsZ (X k.toNat) (Y k.toNat) (Z k.toNat) U V (n2 - 1) by unfold lgL; rw [if_pos z])
    have KZ2 := hide (z ▸ KZ)
    rw [Ho.out, z]
    clear Ho KZ
    obtain ⟨hco, htr, hk0, hk1⟩ := zo_tt z
    obtain ⟨hn2a, _, _⟩ := isTr_t htr
    obtain ⟨b2, o2, rfl, hb2, _, _, _⟩ := h2.at3 0 (by omega)
    obtain ⟨K, rfl⟩ := Int.eq_ofNat_of_zero_le hk0
    have hKn : K < n := by omega
    obtain ⟨_, hpt, _, hz1, hz2⟩ := isMk_t ((isCo_t hco).2.2.2.2 K hKn)
    obtain ⟨b, o, rfl, hbs, e0, e1, e2, e3, e4⟩ := h.at5 K hKn
    have hi0 : (0 : Int) ≤ (K : Int) := by omega
    have hi1 : (K : Int) < (n : Int) := by omega
    rw [Int.toNat_natCast]
    have KL := hide (fun W (hb : Below w.heap.size w W) => spec_l07Legs (N K) (X K) (Y K) (S K) (Z K) b2 o2 n2 cap2 T U V W (RowAt.later hb h2) htr hpt hz1 hz2)
    generalize lgsZ (X K) (Y K) (Z K) U V (n2 - 1) = L at *
    clear h h2 hco htr z hpt hz1 hz2 hk1
    go_enter Tryd.func20, Tryd.ntmps20
    go_upto_region 4 with (go_at_call 24; (with_reducible refine (KZ2.out _ bwz).mono ?_); rintro e wB ⟨rfl, hb⟩)
    have t8 : wB.cell? ⟨w.heap.size, 8, none⟩ = some (.slice (some ⟨b, o, none⟩) n cap) := cell_later hb (by go_simp)
    have t0 : wB.cell? ⟨w.heap.size + 1, 0, none⟩ = some (.slice (some ⟨b2, o2, none⟩) n2 cap2) := cell_later hb (by go_simp)
    have HBB := hide (show Below w.heap.size w wB from bwz)
    have g0 := cell_later HBB.out e0
    have g1 := cell_later HBB.out e1
    have g2 := cell_later HBB.out e2
    have g3 := cell_later HBB.out e3
    have g4 := cell_later HBB.out e4
    have zB := HBB.out.size
    have zB1 : w.heap.size + 1 < wB.heap.size := World.block_lt_of_cell? _ _ t0
    have zB0 : w.heap.size < wB.heap.size := by omega
    have zBb : b < wB.heap.size := by omega
    clear hb e0 e1 e2 e3 e4
    refine wp_region_held_drew (S := fun W => Below wB.heap.size wB W) (by kernel_rfl) (Below.drew (Below.refl _ _)) (fun hHeld => ?_)
    refine tkN 0 (some 17) rfl ?_; (try simp only [pz])
    refine tkL 1 (some 18) rfl ?_; (try simp only [pz])
    refine tkN 2 (some 19) rfl ?_; (try simp only [pz])
    refine tkN 3 (some 20) rfl ?_; (try simp only [pz])
    refine tkL 4 (some 21) rfl ?_; (try simp only [pz])
    refine tkL 5 (some 22) rfl ?_; (try simp only [pz])
    refine wpAnyH_ready (rs := [6]) (by kernel_rfl) (by simp) ?_; refine (AllReadyH.cons (o := ⟨some 23, _, _, _, _, _⟩) rfl (fun K hK => ?_) AllReadyH.nil)
    go_simp; (go_at_call 25; (with_reducible refine (KL.out _ (bstep HBB.out bwz)).mono ?_); rintro e w9 ⟨g9, cp9, rfl, hown, hb⟩; have Hown := hide hown; clear hown)
    all_goals (try go_wp2_with fail)
    refine hK.out _ _ ?_ (fun hH2 => ?_)
    · first | exact bstep hHeld hb | exact hHeld.trans hb | exact hHeld
    clear hK K hHeld; (have hHeld := hH2); clear hH2; (try simp only [pz])
    refine tkN 7 (some 6) rfl ?_; (try simp only [pz])
    refine tkN 8 (some 7) rfl ?_; (try simp only [pz])
    refine wpAnyH_done (by kernel_rfl) ?_ _; (try simp only [pz])
    go_wp2
    go_ret2
    exact ⟨_, _, rfl, Hown.out.mono (by first | omega | (simp; omega)), bstep HBB.out hHeld⟩
  · have Ho := hide (show lgL (isCo ax ay bx bY cx cy dx dy n N X Y S Z) (isTr n2 T U V) n k n2 U V X Y Z = [] by unfold lgL; rw [if_neg z])
    obtain ⟨c0, hc0⟩ : ∃ c, c = zoC (isCo ax ay bx bY cx cy dx dy n N X Y S Z) (isTr n2 T U V) n k := ⟨_, rfl⟩
    rw [Ho.out, ← hc0]
    rw [← hc0] at z
    have KZ2 := hide (hc0 ▸ KZ)
    have hcb : (c0 != 0) = true := bne_iff_ne.2 z
    clear KZ hc0 Ho h h2
    go_enter Tryd.func20, Tryd.ntmps20
    go_wp2_with (go_at_call 24; (with_reducible refine (KZ2.out _ bwz).mono ?_); rintro e w9 ⟨rfl, hb⟩; obtain ⟨hc, hf⟩ := bcell hb; have hz := hb.size; have z0 : w.heap.size < w9.heap.size := (by first | omega | (simp at hz; omega)); have z1 : w.heap.size + 1 < w9.heap.size := (by first | omega | (simp at hz; omega)))
    go_ret2
    exact ⟨_, _, rfl, World.ownsRow_made (base := w.heap.size) (e := 2) (size := 1) _ #[] 0 (by omega) (by decide) rfl, bwz⟩
set_option maxRecDepth 100000 in
set_option maxHeartbeats 8000000 in
theorem impl_roomTime (nm : ByteArray) (x y sd z : Int) (b o n cap : Nat) (T U V : Nat → Int) (b3 o3 n3 cap3 : Nat) (T3 U3 V3 : Nat → Int) (w : World) (h : RowAt w (some ⟨b, o, none⟩) n 3 (v3 T U V)) (hv : isTr n T U V = true) (h3 : RowAt w (some ⟨b3, o3, none⟩) n3 3 (v3 T3 U3 V3)) (hv3 : isTr n3 T3 U3 V3 = true) (hp : isPt x y = true) (hz1 : 1 ≤ z) (hz2 : z ≤ 5000) :
    Calls Tryd.prog 30 #[.agg #[.string nm, .int .i64 x, .int .i64 y, .int .i64 sd, .int .i64 z], .agg #[.slice (some ⟨b, o, none⟩) n cap], .agg #[.slice (some ⟨b3, o3, none⟩) n3 cap3]] w fun e w' => e = .returned (.int .i64 (rtI (cmI x y z n T U V) (cmI x y z n3 T3 U3 V3))) ∧ Below w.heap.size w w' := by
  have KC := hide (fun W (hb : Below w.heap.size w W) => impl_comesAt nm x y sd z b o n cap T U V W (RowAt.later hb h) hv hp hz1 hz2)
  have KD := hide (fun W (hb : Below w.heap.size w W) => impl_comesAt nm x y sd z b3 o3 n3 cap3 T3 U3 V3 W (RowAt.later hb h3) hv3 hp hz1 hz2)
  obtain ⟨c1, c2⟩ := cmI_bd (x := x) (y := y) (z := z) hv
  obtain ⟨d1, d2⟩ := cmI_bd (x := x) (y := y) (z := z) hv3
  generalize cmI x y z n T U V = c9 at *
  generalize cmI x y z n3 T3 U3 V3 = d9 at *
  clear h hv h3 hv3 hp hz1 hz2
  go_enter Tryd.func30, Tryd.ntmps30
  go_upto_region 1 with fail
  go_cut [7, 8] (fun s7 s8 W => s7 = .int .i64 c9 ∧ s8 = .int .i64 d9 ∧ Below w.heap.size w W)
  case first =>
    obtain ⟨wA, hA⟩ : ∃ W, W = (((w.alloc (.cells #[.string nm, .int .i64 x, .int .i64 y, .int .i64 sd, .int .i64 z] 62)).alloc (.cells #[.slice (some ⟨b, o, none⟩) n cap] 33)).alloc (.cells #[.slice (some ⟨b3, o3, none⟩) n3 cap3] 33)) := ⟨_, rfl⟩
    have m0 : wA.cell? ⟨w.heap.size, 0, none⟩ = some (.string nm) := by rw [hA]; go_simp
    have m1 : wA.cell? ⟨w.heap.size, 1, none⟩ = some (.int .i64 x) := by rw [hA]; go_simp
    have m2 : wA.cell? ⟨w.heap.size, 2, none⟩ = some (.int .i64 y) := by rw [hA]; go_simp
    have m3 : wA.cell? ⟨w.heap.size, 3, none⟩ = some (.int .i64 sd) := by rw [hA]; go_simp
    have m4 : wA.cell? ⟨w.heap.size, 4, none⟩ = some (.int .i64 z) := by rw [hA]; go_simp
    have t1 : wA.cell? ⟨w.heap.size + 1, 0, none⟩ = some (.slice (some ⟨b, o, none⟩) n cap) := by rw [hA]; go_simp
    have t2 : wA.cell? ⟨w.heap.size + 1 + 1, 0, none⟩ = some (.slice (some ⟨b3, o3, none⟩) n3 cap3) := by rw [hA]; go_simp
    have HBA := hide (show Below w.heap.size w wA by rw [hA]; exact bwz)
    have zA2 : w.heap.size + 1 + 1 < wA.heap.size := by rw [hA]; simp
    have zA1 : w.heap.size + 1 < wA.heap.size := by omega
    have zA0 : w.heap.size < wA.heap.size := by omega
    rw [← hA]
    clear hA
    refine wp_region_held_drew (S := fun W => Below wA.heap.size wA W) (by kernel_rfl) (Below.drew (Below.refl _ _)) (fun hHeld => ?_)
    refine tkL 0 (some 9) rfl ?_; (try simp only [pz])
    refine tkL 1 (some 10) rfl ?_; (try simp only [pz])
    refine tkL 3 (some 12) rfl ?_; (try simp only [pz])
    refine tkL 4 (some 13) rfl ?_; (try simp only [pz])
    refine wpAnyH_ready (rs := [2]) (by kernel_rfl) (by simp) ?_; refine (AllReadyH.cons (o := ⟨some 11, _, _, _, _, _⟩) rfl (fun K hK => ?_) AllReadyH.nil)
    go_simp; (first | (go_at_call 35; (with_reducible refine (KC.out _ (bstep HBA.out bwz)).mono ?_); rintro e w9 ⟨rfl, hb⟩; obtain ⟨hc, hf⟩ := bcell hb; have hzz := hb.size) | (go_at_call 35; (with_reducible refine (KD.out _ (bstep HBA.out bwz)).mono ?_); rintro e w9 ⟨rfl, hb⟩; obtain ⟨hc, hf⟩ := bcell hb; have hzz := hb.size))
    all_goals (try go_wp2_with fail)
    refine hK.out _ _ ?_ (fun hH2 => ?_)
    · first | exact bstep hHeld hb | exact hHeld.trans hb | exact hHeld
    clear hK K hHeld; (have hHeld := hH2); clear hH2; (try simp only [pz])
    refine wpAnyH_ready (rs := [5]) (by kernel_rfl) (by simp) ?_; refine (AllReadyH.cons (o := ⟨some 14, _, _, _, _, _⟩) rfl (fun K hK => ?_) AllReadyH.nil)
    go_simp; (first | (go_at_call 35; (with_reducible refine (KC.out _ (bstep HBA.out bwz)).mono ?_); rintro e w9 ⟨rfl, hb⟩; obtain ⟨hc, hf⟩ := bcell hb; have hzz := hb.size) | (go_at_call 35; (with_reducible refine (KD.out _ (bstep HBA.out bwz)).mono ?_); rintro e w9 ⟨rfl, hb⟩; obtain ⟨hc, hf⟩ := bcell hb; have hzz := hb.size))
    all_goals (try go_wp2_with fail)
    refine hK.out _ _ ?_ (fun hH2 => ?_)
    · first | exact bstep hHeld hb | exact hHeld.trans hb | exact hHeld
    clear hK K hHeld; (have hHeld := hH2); clear hH2; (try simp only [pz])
    refine tkN 6 (some 7) rfl ?_; (try simp only [pz])
    refine tkN 7 (some 8) rfl ?_; (try simp only [pz])
    refine wpAnyH_done (by kernel_rfl) ?_ _; (try simp only [pz])
    go_wp2_with fail
    go_meet
    exact ⟨rfl, rfl, bstep HBA.out hHeld⟩
  case rest =>
    obtain ⟨rfl, rfl, rB⟩ := hcut
    clear KC KD
    by_cases k1 : c9 < 0
    · have e9 : c9 = -1 := by omega
      subst e9
      have Hr := hide (show rtI (-1) d9 = d9 from rfl)
      go_wp2
      all_goals (go_ret; exact ⟨by rw [Hr.out]; first | rfl | exact ret_i (by omega), rB⟩)
    · by_cases k2 : d9 < 0
      · have e9 : d9 = -1 := by omega
        subst e9
        have Hr := hide (show rtI c9 (-1) = c9 by unfold rtI; rw [if_neg k1, if_pos (by omega)])
        go_wp2
        all_goals (go_ret; exact ⟨by rw [Hr.out]; first | rfl | exact ret_i (by omega), rB⟩)
      · by_cases k3 : d9 < c9
        · have Hr := hide (show rtI c9 d9 = d9 by unfold rtI; rw [if_neg k1, if_neg k2, if_pos k3])
          go_wp2
          all_goals (go_ret; exact ⟨by rw [Hr.out]; first | rfl | exact ret_i (by omega), rB⟩)
        · have Hr := hide (show rtI c9 d9 = c9 by unfold rtI; rw [if_neg k1, if_neg k2, if_neg k3])
          go_wp2
          all_goals (go_ret; exact ⟨by rw [Hr.out]; first | rfl | exact ret_i (by omega), rB⟩)
set_option maxRecDepth 100000 in
set_option maxHeartbeats 8000000 in
theorem impl_RoomTime (ax ay bx bY cx cy dx dy : Int) (so : Option Addr) (n cap : Nat) (N : Nat → ByteArray) (X Y S Z : Nat → Int) (k : Int) (so2 : Option Addr) (n2 cap2 : Nat) (T U V : Nat → Int) (so3 : Option Addr) (n3 cap3 : Nat) (T3 U3 V3 : Nat → Int) (w : World) (h : RowAt w so n 5 (v5 N X Y S Z)) (hn : n ≤ 1048576) (hcap : n ≤ cap) (h2 : RowAt w so2 n2 3 (v3 T U V)) (hn2 : n2 ≤ 1048576) (h3 : RowAt w so3 n3 3 (v3 T3 U3 V3)) (hn3 : n3 ≤ 1048576) :
    Calls Tryd.prog 14 #[.agg #[.int .i64 ax, .int .i64 ay, .int .i64 bx, .int .i64 bY, .int .i64 cx, .int .i64 cy, .int .i64 dx, .int .i64 dy, .slice so n cap], .int .i64 k, .agg #[.slice so2 n2 cap2], .agg #[.slice so3 n3 cap3]] w fun e w' => e = .returned (.tuple #[.int .i64 (sel (rmOk (isCo ax ay bx bY cx cy dx dy n N X Y S Z) (isTr n2 T U V) (isTr n3 T3 U3 V3) n k (rmT n2 T U V n3 T3 U3 V3 X Y Z k)) (rmT n2 T U V n3 T3 U3 V3 X Y Z k) 0), .int .i64 (rmC (isCo ax ay bx bY cx cy dx dy n N X Y S Z) (isTr n2 T U V) (isTr n3 T3 U3 V3) n k (rmT n2 T U V n3 T3 U3 V3 X Y Z k))]) ∧ Below w.heap.size w w' := by
  have KZ := fun W (hb : Below w.heap.size w W) => impl_zoneCode ax ay bx bY cx cy dx dy so n cap N X Y S Z k so2 n2 cap2 T U V W (RowAt.later hb h) hn hcap (RowAt.later hb h2) hn2
  have KT := fun W (hb : Below w.heap.size w W) => impl_IsTrack so3 n3 cap3 T3 U3 V3 W (RowAt.later hb h3) hn3
  rcases b2 (isTr n3 T3 U3 V3) with g3 | g3
  · have Hv := hide (show rmOk (isCo ax ay bx bY cx cy dx dy n N X Y S Z) (isTr n2 T U V) (isTr n3 T3 U3 V3) n k (rmT n2 T U V n3 T3 U3 V3 X Y Z k) = false by unfold rmOk; rw [g3]; rfl)
    have Hc := hide (show rmC (isCo ax ay bx bY cx cy dx dy n N X Y S Z) (isTr n2 T U V) (isTr n3 T3 U3 V3) n k (rmT n2 T U V n3 T3 U3 V3 X Y Z k) = 1 by unfold rmC; rw [g3]; rfl)
    have KT2 := hide (g3 ▸ KT)
    rw [Hv.out, Hc.out]
    clear KZ KT Hv Hc h h2 h3 g3
    go_enter Tryd.func14, Tryd.ntmps14
    go_wp2_with (go_at_call 29; (with_reducible refine (KT2.out _ bwz).mono ?_); rintro e w9 ⟨rfl, hb⟩; obtain ⟨hc, hf⟩ := bcell hb; have hz := hb.size; have z0 : w.heap.size < w9.heap.size := (by first | omega | (simp at hz; omega)); have z1 : w.heap.size + 1 < w9.heap.size := (by first | omega | (simp at hz; omega)); have z2 : w.heap.size + 1 + 1 < w9.heap.size := (by first | omega | (simp at hz; omega)))
    go_ret2
    exact ⟨rfl, bwz⟩
  have KT2 := hide (g3 ▸ KT)
  clear KT
  rcases zoC_two (isCo ax ay bx bY cx cy dx dy n N X Y S Z) (isTr n2 T U V) n k with ⟨z, _⟩ | z
  · have Hv := hide (show rmOk (isCo ax ay bx bY cx cy dx dy n N X Y S Z) (isTr n2 T U V) (isTr n3 T3 U3 V3) n k (rmT n2 T U V n3 T3 U3 V3 X Y Z k) = decide (0 ≤ (rmT n2 T U V n3 T3 U3 V3 X Y Z k)) by unfold rmOk; rw [g3, z]; rfl)
    have Hc := hide (show rmC (isCo ax ay bx bY cx cy dx dy n N X Y S Z) (isTr n2 T U V) (isTr n3 T3 U3 V3) n k (rmT n2 T U V n3 T3 U3 V3 X Y Z k) = sel (decide (0 ≤ (rmT n2 T U V n3 T3 U3 V3 X Y Z k))) 0 4 by unfold rmC; rw [g3, z]; rfl)
    have KZ2 := hide (z ▸ KZ)
    rw [Hv.out, Hc.out]
    clear KZ Hv Hc
    obtain ⟨hco, htr, hk0, hk1⟩ := zo_tt z
    obtain ⟨hn2a, _, _⟩ := isTr_t htr
    obtain ⟨b2, o2, rfl, hb2, _, _, _⟩ := h2.at3 0 (by omega)
    obtain ⟨K, rfl⟩ := Int.eq_ofNat_of_zero_le hk0
    have hKn : K < n := by omega
    obtain ⟨_, hpt, _, hz1, hz2⟩ := isMk_t ((isCo_t hco).2.2.2.2 K hKn)
    obtain ⟨b, o, rfl, hbs, e0, e1, e2, e3, e4⟩ := h.at5 K hKn
    have hi0 : (0 : Int) ≤ (K : Int) := by omega
    have hi1 : (K : Int) < (n : Int) := by omega
    obtain ⟨hn3a, _, _⟩ := isTr_t g3
    obtain ⟨b3, o3, rfl, hb3, _, _, _⟩ := h3.at3 0 (by omega)
    unfold rmT cmT
    rw [Int.toNat_natCast]
    have KC := hide (fun W (hb : Below w.heap.size w W) => impl_roomTime (N K) (X K) (Y K) (S K) (Z K) b2 o2 n2 cap2 T U V b3 o3 n3 cap3 T3 U3 V3 W (RowAt.later hb h2) htr (RowAt.later hb h3) g3 hpt hz1 hz2)
    generalize rtI (cmI (X K) (Y K) (Z K) n2 T U V) (cmI (X K) (Y K) (Z K) n3 T3 U3 V3) = c9 at *
    clear h h2 h3 g3 hco htr z hpt hz1 hz2 hk1
    by_cases hneg : c9 < 0
    · have ev : decide (0 ≤ c9) = false := decide_eq_false (by omega)
      rw [ev]
      clear ev
      go_enter Tryd.func14, Tryd.ntmps14
      go_upto_region 6 with (first | (go_at_call 29; (with_reducible refine (KT2.out _ bwz).mono ?_); rintro e w9 ⟨rfl, hb⟩; obtain ⟨hc, hf⟩ := bcell hb; have hz := hb.size; have z0 : w.heap.size < w9.heap.size := (by first | omega | (simp at hz; omega)); have z1 : w.heap.size + 1 < w9.heap.size := (by first | omega | (simp at hz; omega)); have z2 : w.heap.size + 1 + 1 < w9.heap.size := (by first | omega | (simp at hz; omega))) | (go_at_call 26; (with_reducible refine (KZ2.out _ bwz).mono ?_); rintro e wB ⟨rfl, hbz⟩))
      have hb := hbz
      have hbk := hbz
      clear hbz
      have t8 : wB.cell? ⟨w.heap.size, 8, none⟩ = some (.slice (some ⟨b, o, none⟩) n cap) := cell_later hb (by go_simp)
      have t0 : wB.cell? ⟨w.heap.size + 1, 0, none⟩ = some (.slice (some ⟨b2, o2, none⟩) n2 cap2) := cell_later hb (by go_simp)
      have t3 : wB.cell? ⟨w.heap.size + 1 + 1, 0, none⟩ = some (.slice (some ⟨b3, o3, none⟩) n3 cap3) := cell_later hb (by go_simp)
      have HBB := hide (show Below w.heap.size w wB from bwz)
      have g0 := cell_later HBB.out e0
      have g1 := cell_later HBB.out e1
      have g2 := cell_later HBB.out e2
      have g3 := cell_later HBB.out e3
      have g4 := cell_later HBB.out e4
      have zB := HBB.out.size
      have zB2 : w.heap.size + 1 + 1 < wB.heap.size := World.block_lt_of_cell? _ _ t3
      have zB1 : w.heap.size + 1 < wB.heap.size := by omega
      have zB0 : w.heap.size < wB.heap.size := by omega
      have zBb : b < wB.heap.size := by omega
      clear hb hbk e0 e1 e2 e3 e4
      refine wp_region_held_drew (S := fun W => Below wB.heap.size wB W) (by kernel_rfl) (Below.drew (Below.refl _ _)) (fun hHeld => ?_)
      refine tkN 0 (some 22) rfl ?_; (try simp only [pz])
      refine tkL 1 (some 23) rfl ?_; (try simp only [pz])
      refine tkN 2 (some 24) rfl ?_; (try simp only [pz])
      refine tkN 3 (some 25) rfl ?_; (try simp only [pz])
      refine tkL 4 (some 26) rfl ?_; (try simp only [pz])
      refine tkL 5 (some 27) rfl ?_; (try simp only [pz])
      refine tkL 6 (some 28) rfl ?_; (try simp only [pz])
      refine wpAnyH_ready (rs := [7]) (by kernel_rfl) (by simp) ?_; refine (AllReadyH.cons (o := ⟨some 29, _, _, _, _, _⟩) rfl (fun K hK => ?_) AllReadyH.nil)
      go_simp; (go_at_call 30; (with_reducible refine (KC.out _ (bstep HBB.out bwz)).mono ?_); rintro e w9 ⟨rfl, hb⟩)
      all_goals (try go_wp2_with fail)
      refine hK.out _ _ ?_ (fun hH2 => ?_)
      · first | exact bstep hHeld hb | exact hHeld.trans hb | exact hHeld
      clear hK K hHeld; (have hHeld := hH2); clear hH2; (try simp only [pz])
      refine tkN 8 (some 11) rfl ?_; (try simp only [pz])
      refine wpAnyH_done (by kernel_rfl) ?_ _; (try simp only [pz])
      go_wp2
      go_ret2
      exact ⟨rfl, bstep HBB.out hHeld⟩
    · have ev : decide (0 ≤ c9) = true := decide_eq_true (by omega)
      rw [ev]
      clear ev
      go_enter Tryd.func14, Tryd.ntmps14
      go_upto_region 6 with (first | (go_at_call 29; (with_reducible refine (KT2.out _ bwz).mono ?_); rintro e w9 ⟨rfl, hb⟩; obtain ⟨hc, hf⟩ := bcell hb; have hz := hb.size; have z0 : w.heap.size < w9.heap.size := (by first | omega | (simp at hz; omega)); have z1 : w.heap.size + 1 < w9.heap.size := (by first | omega | (simp at hz; omega)); have z2 : w.heap.size + 1 + 1 < w9.heap.size := (by first | omega | (simp at hz; omega))) | (go_at_call 26; (with_reducible refine (KZ2.out _ bwz).mono ?_); rintro e wB ⟨rfl, hbz⟩))
      have hb := hbz
      have hbk := hbz
      clear hbz
      have t8 : wB.cell? ⟨w.heap.size, 8, none⟩ = some (.slice (some ⟨b, o, none⟩) n cap) := cell_later hb (by go_simp)
      have t0 : wB.cell? ⟨w.heap.size + 1, 0, none⟩ = some (.slice (some ⟨b2, o2, none⟩) n2 cap2) := cell_later hb (by go_simp)
      have t3 : wB.cell? ⟨w.heap.size + 1 + 1, 0, none⟩ = some (.slice (some ⟨b3, o3, none⟩) n3 cap3) := cell_later hb (by go_simp)
      have HBB := hide (show Below w.heap.size w wB from bwz)
      have g0 := cell_later HBB.out e0
      have g1 := cell_later HBB.out e1
      have g2 := cell_later HBB.out e2
      have g3 := cell_later HBB.out e3
      have g4 := cell_later HBB.out e4
      have zB := HBB.out.size
      have zB2 : w.heap.size + 1 + 1 < wB.heap.size := World.block_lt_of_cell? _ _ t3
      have zB1 : w.heap.size + 1 < wB.heap.size := by omega
      have zB0 : w.heap.size < wB.heap.size := by omega
      have zBb : b < wB.heap.size := by omega
      clear hb hbk e0 e1 e2 e3 e4
      refine wp_region_held_drew (S := fun W => Below wB.heap.size wB W) (by kernel_rfl) (Below.drew (Below.refl _ _)) (fun hHeld => ?_)
      refine tkN 0 (some 22) rfl ?_; (try simp only [pz])
      refine tkL 1 (some 23) rfl ?_; (try simp only [pz])
      refine tkN 2 (some 24) rfl ?_; (try simp only [pz])
      refine tkN 3 (some 25) rfl ?_; (try simp only [pz])
      refine tkL 4 (some 26) rfl ?_; (try simp only [pz])
      refine tkL 5 (some 27) rfl ?_; (try simp only [pz])
      refine tkL 6 (some 28) rfl ?_; (try simp only [pz])
      refine wpAnyH_ready (rs := [7]) (by kernel_rfl) (by simp) ?_; refine (AllReadyH.cons (o := ⟨some 29, _, _, _, _, _⟩) rfl (fun K hK => ?_) AllReadyH.nil)
      go_simp; (go_at_call 30; (with_reducible refine (KC.out _ (bstep HBB.out bwz)).mono ?_); rintro e w9 ⟨rfl, hb⟩)
      all_goals (try go_wp2_with fail)
      refine hK.out _ _ ?_ (fun hH2 => ?_)
      · first | exact bstep hHeld hb | exact hHeld.trans hb | exact hHeld
      clear hK K hHeld; (have hHeld := hH2); clear hH2; (try simp only [pz])
      refine tkN 8 (some 11) rfl ?_; (try simp only [pz])
      refine wpAnyH_done (by kernel_rfl) ?_ _; (try simp only [pz])
      go_wp2
      go_ret2
      exact ⟨rfl, bstep HBB.out hHeld⟩
  · obtain ⟨c0, hc0⟩ : ∃ c, c = zoC (isCo ax ay bx bY cx cy dx dy n N X Y S Z) (isTr n2 T U V) n k := ⟨_, rfl⟩
    have e1 : rmOk (isCo ax ay bx bY cx cy dx dy n N X Y S Z) (isTr n2 T U V) (isTr n3 T3 U3 V3) n k (rmT n2 T U V n3 T3 U3 V3 X Y Z k) = false := by unfold rmOk; rw [g3, beq_eq_false_iff_ne.2 z]; rfl
    have e2 : rmC (isCo ax ay bx bY cx cy dx dy n N X Y S Z) (isTr n2 T U V) (isTr n3 T3 U3 V3) n k (rmT n2 T U V n3 T3 U3 V3 X Y Z k) = c0 := by unfold rmC; rw [g3, beq_eq_false_iff_ne.2 z, hc0]; rfl
    rw [e1, e2]
    rw [← hc0] at z
    have KZ2 := hide (hc0 ▸ KZ)
    have hcb : (c0 != 0) = true := bne_iff_ne.2 z
    clear KZ hc0 e1 e2 h h2 h3
    go_enter Tryd.func14, Tryd.ntmps14
    go_wp2_with (first | (go_at_call 29; (with_reducible refine (KT2.out _ bwz).mono ?_); rintro e w9 ⟨rfl, hb⟩; obtain ⟨hc, hf⟩ := bcell hb; have hz := hb.size; have z0 : w.heap.size < w9.heap.size := (by first | omega | (simp at hz; omega)); have z1 : w.heap.size + 1 < w9.heap.size := (by first | omega | (simp at hz; omega)); have z2 : w.heap.size + 1 + 1 < w9.heap.size := (by first | omega | (simp at hz; omega))) | (go_at_call 26; (with_reducible refine (KZ2.out _ bwz).mono ?_); rintro e w9 ⟨rfl, hb⟩; obtain ⟨hc, hf⟩ := bcell hb; have hz := hb.size; have z0 : w.heap.size < w9.heap.size := (by first | omega | (simp at hz; omega)); have z1 : w.heap.size + 1 < w9.heap.size := (by first | omega | (simp at hz; omega)); have z2 : w.heap.size + 1 + 1 < w9.heap.size := (by first | omega | (simp at hz; omega))))
    go_ret2
    exact ⟨rfl, bwz⟩
set_option maxRecDepth 100000 in
set_option maxHeartbeats 8000000 in
theorem spec_l11Time (nm : ByteArray) (x y sd z : Int) (b o n cap : Nat) (T U V : Nat → Int) (b3 o3 n3 cap3 : Nat) (T3 U3 V3 : Nat → Int) (w : World) (h : RowAt w (some ⟨b, o, none⟩) n 3 (v3 T U V)) (hv : isTr n T U V = true) (h3 : RowAt w (some ⟨b3, o3, none⟩) n3 3 (v3 T3 U3 V3)) (hv3 : isTr n3 T3 U3 V3 = true) (hp : isPt x y = true) (hz1 : 1 ≤ z) (hz2 : z ≤ 5000) :
    Calls Tryd.prog 34 #[.agg #[.string nm, .int .i64 x, .int .i64 y, .int .i64 sd, .int .i64 z], .agg #[.slice (some ⟨b, o, none⟩) n cap], .agg #[.slice (some ⟨b3, o3, none⟩) n3 cap3]] w fun e w' => e = .returned (.int .i64 (rtI (cmI x y z n T U V) (cmI x y z n3 T3 U3 V3))) ∧ Below w.heap.size w w' := by
  have KC := hide (fun W (hb : Below w.heap.size w W) => spec_l11Comes nm x y sd z b o n cap T U V W (RowAt.later hb h) hv hp hz1 hz2)
  have KD := hide (fun W (hb : Below w.heap.size w W) => spec_l11Comes nm x y sd z b3 o3 n3 cap3 T3 U3 V3 W (RowAt.later hb h3) hv3 hp hz1 hz2)
  obtain ⟨c1, c2⟩ := cmI_bd (x := x) (y := y) (z := z) hv
  obtain ⟨d1, d2⟩ := cmI_bd (x := x) (y := y) (z := z) hv3
  generalize cmI x y z n T U V = c9 at *
  generalize cmI x y z n3 T3 U3 V3 = d9 at *
  clear h hv h3 hv3 hp hz1 hz2
  go_enter Tryd.func34, Tryd.ntmps34
  go_upto_region 1 with fail
  go_cut [7, 8] (fun s7 s8 W => s7 = .int .i64 c9 ∧ s8 = .int .i64 d9 ∧ Below w.heap.size w W)
  case first =>
    obtain ⟨wA, hA⟩ : ∃ W, W = (((w.alloc (.cells #[.string nm, .int .i64 x, .int .i64 y, .int .i64 sd, .int .i64 z] 62)).alloc (.cells #[.slice (some ⟨b, o, none⟩) n cap] 33)).alloc (.cells #[.slice (some ⟨b3, o3, none⟩) n3 cap3] 33)) := ⟨_, rfl⟩
    have m0 : wA.cell? ⟨w.heap.size, 0, none⟩ = some (.string nm) := by rw [hA]; go_simp
    have m1 : wA.cell? ⟨w.heap.size, 1, none⟩ = some (.int .i64 x) := by rw [hA]; go_simp
    have m2 : wA.cell? ⟨w.heap.size, 2, none⟩ = some (.int .i64 y) := by rw [hA]; go_simp
    have m3 : wA.cell? ⟨w.heap.size, 3, none⟩ = some (.int .i64 sd) := by rw [hA]; go_simp
    have m4 : wA.cell? ⟨w.heap.size, 4, none⟩ = some (.int .i64 z) := by rw [hA]; go_simp
    have t1 : wA.cell? ⟨w.heap.size + 1, 0, none⟩ = some (.slice (some ⟨b, o, none⟩) n cap) := by rw [hA]; go_simp
    have t2 : wA.cell? ⟨w.heap.size + 1 + 1, 0, none⟩ = some (.slice (some ⟨b3, o3, none⟩) n3 cap3) := by rw [hA]; go_simp
    have HBA := hide (show Below w.heap.size w wA by rw [hA]; exact bwz)
    have zA2 : w.heap.size + 1 + 1 < wA.heap.size := by rw [hA]; simp
    have zA1 : w.heap.size + 1 < wA.heap.size := by omega
    have zA0 : w.heap.size < wA.heap.size := by omega
    rw [← hA]
    clear hA
    refine wp_region_held_drew (S := fun W => Below wA.heap.size wA W) (by kernel_rfl) (Below.drew (Below.refl _ _)) (fun hHeld => ?_)
    refine tkL 0 (some 9) rfl ?_; (try simp only [pz])
    refine tkL 1 (some 10) rfl ?_; (try simp only [pz])
    refine tkL 3 (some 12) rfl ?_; (try simp only [pz])
    refine tkL 4 (some 13) rfl ?_; (try simp only [pz])
    refine wpAnyH_ready (rs := [2]) (by kernel_rfl) (by simp) ?_; refine (AllReadyH.cons (o := ⟨some 11, _, _, _, _, _⟩) rfl (fun K hK => ?_) AllReadyH.nil)
    go_simp; (first | (go_at_call 57; (with_reducible refine (KC.out _ (bstep HBA.out bwz)).mono ?_); rintro e w9 ⟨rfl, hb⟩; obtain ⟨hc, hf⟩ := bcell hb; have hzz := hb.size) | (go_at_call 57; (with_reducible refine (KD.out _ (bstep HBA.out bwz)).mono ?_); rintro e w9 ⟨rfl, hb⟩; obtain ⟨hc, hf⟩ := bcell hb; have hzz := hb.size))
    all_goals (try go_wp2_with fail)
    refine hK.out _ _ ?_ (fun hH2 => ?_)
    · first | exact bstep hHeld hb | exact hHeld.trans hb | exact hHeld
    clear hK K hHeld; (have hHeld := hH2); clear hH2; (try simp only [pz])
    refine wpAnyH_ready (rs := [5]) (by kernel_rfl) (by simp) ?_; refine (AllReadyH.cons (o := ⟨some 14, _, _, _, _, _⟩) rfl (fun K hK => ?_) AllReadyH.nil)
    go_simp; (first | (go_at_call 57; (with_reducible refine (KC.out _ (bstep HBA.out bwz)).mono ?_); rintro e w9 ⟨rfl, hb⟩; obtain ⟨hc, hf⟩ := bcell hb; have hzz := hb.size) | (go_at_call 57; (with_reducible refine (KD.out _ (bstep HBA.out bwz)).mono ?_); rintro e w9 ⟨rfl, hb⟩; obtain ⟨hc, hf⟩ := bcell hb; have hzz := hb.size))
    all_goals (try go_wp2_with fail)
    refine hK.out _ _ ?_ (fun hH2 => ?_)
    · first | exact bstep hHeld hb | exact hHeld.trans hb | exact hHeld
    clear hK K hHeld; (have hHeld := hH2); clear hH2; (try simp only [pz])
    refine tkN 6 (some 7) rfl ?_; (try simp only [pz])
    refine tkN 7 (some 8) rfl ?_; (try simp only [pz])
    refine wpAnyH_done (by kernel_rfl) ?_ _; (try simp only [pz])
    go_wp2_with fail
    go_meet
    exact ⟨rfl, rfl, bstep HBA.out hHeld⟩
  case rest =>
    obtain ⟨rfl, rfl, rB⟩ := hcut
    clear KC KD
    by_cases k1 : c9 < 0
    · have e9 : c9 = -1 := by omega
      subst e9
      have Hr := hide (show rtI (-1) d9 = d9 from rfl)
      go_wp2
      all_goals (go_ret; exact ⟨by rw [Hr.out]; first | rfl | exact ret_i (by omega), rB⟩)
    · by_cases k2 : d9 < 0
      · have e9 : d9 = -1 := by omega
        subst e9
        have Hr := hide (show rtI c9 (-1) = c9 by unfold rtI; rw [if_neg k1, if_pos (by omega)])
        go_wp2
        all_goals (go_ret; exact ⟨by rw [Hr.out]; first | rfl | exact ret_i (by omega), rB⟩)
      · by_cases k3 : d9 < c9
        · have Hr := hide (show rtI c9 d9 = d9 by unfold rtI; rw [if_neg k1, if_neg k2, if_pos k3])
          go_wp2
          all_goals (go_ret; exact ⟨by rw [Hr.out]; first | rfl | exact ret_i (by omega), rB⟩)
        · have Hr := hide (show rtI c9 d9 = c9 by unfold rtI; rw [if_neg k1, if_neg k2, if_neg k3])
          go_wp2
          all_goals (go_ret; exact ⟨by rw [Hr.out]; first | rfl | exact ret_i (by omega), rB⟩)
set_option maxRecDepth 100000 in
set_option maxHeartbeats 8000000 in
theorem spec_RoomTime (ax ay bx bY cx cy dx dy : Int) (so : Option Addr) (n cap : Nat) (N : Nat → ByteArray) (X Y S Z : Nat → Int) (k : Int) (so2 : Option Addr) (n2 cap2 : Nat) (T U V : Nat → Int) (so3 : Option Addr) (n3 cap3 : Nat) (T3 U3 V3 : Nat → Int) (w : World) (h : RowAt w so n 5 (v5 N X Y S Z)) (hn : n ≤ 1048576) (h2 : RowAt w so2 n2 3 (v3 T U V)) (hn2 : n2 ≤ 1048576) (h3 : RowAt w so3 n3 3 (v3 T3 U3 V3)) (hn3 : n3 ≤ 1048576) :
    Calls Tryd.prog 15 #[.agg #[.int .i64 ax, .int .i64 ay, .int .i64 bx, .int .i64 bY, .int .i64 cx, .int .i64 cy, .int .i64 dx, .int .i64 dy, .slice so n cap], .int .i64 k, .agg #[.slice so2 n2 cap2], .agg #[.slice so3 n3 cap3]] w fun e w' => e = .returned (.tuple #[.int .i64 (sel (rmOk (isCo ax ay bx bY cx cy dx dy n N X Y S Z) (isTr n2 T U V) (isTr n3 T3 U3 V3) n k (rmT n2 T U V n3 T3 U3 V3 X Y Z k)) (rmT n2 T U V n3 T3 U3 V3 X Y Z k) 0), .int .i64 (rmC (isCo ax ay bx bY cx cy dx dy n N X Y S Z) (isTr n2 T U V) (isTr n3 T3 U3 V3) n k (rmT n2 T U V n3 T3 U3 V3 X Y Z k))]) ∧ Below w.heap.size w w' := by
  have KI := fun W (hb : Below w.heap.size w W) => spec_IsCourse ax ay bx bY cx cy dx dy so n cap N X Y S Z W (RowAt.later hb h) hn
  have KT := fun W (hb : Below w.heap.size w W) => spec_IsTrack so2 n2 cap2 T U V W (RowAt.later hb h2) hn2
  have KU := fun W (hb : Below w.heap.size w W) => spec_IsTrack so3 n3 cap3 T3 U3 V3 W (RowAt.later hb h3) hn3
  have we := hide (show IntKind.i64.wrap ((n : Int) - 1) = (n : Int) - 1 from IntWalk.i64_in _ (by omega))
  rcases b4 (isCo ax ay bx bY cx cy dx dy n N X Y S Z) (isTr n2 T U V) (isTr n3 T3 U3 V3) with g1 | ⟨g1, g2⟩ | ⟨g1, g2, g3⟩ | ⟨g1, g2, g3⟩
  · have Hv := hide (show rmOk (isCo ax ay bx bY cx cy dx dy n N X Y S Z) (isTr n2 T U V) (isTr n3 T3 U3 V3) n k (rmT n2 T U V n3 T3 U3 V3 X Y Z k) = false by unfold rmOk zoC; rw [g1]; cases (isTr n3 T3 U3 V3) <;> rfl)
    have Hc := hide (show rmC (isCo ax ay bx bY cx cy dx dy n N X Y S Z) (isTr n2 T U V) (isTr n3 T3 U3 V3) n k (rmT n2 T U V n3 T3 U3 V3 X Y Z k) = 1 by unfold rmC zoC; rw [g1]; cases (isTr n3 T3 U3 V3) <;> rfl)
    rw [Hv.out, Hc.out]
    have KI2 := hide (g1 ▸ KI)
    clear Hv Hc KI KT KU h h2 h3 g1
    go_enter Tryd.func15, Tryd.ntmps15
    go_wp2_with (first | (go_at_call 31; (with_reducible refine (KI2.out _ bwz).mono ?_); rintro e w9 ⟨rfl, hb⟩; obtain ⟨hc, hf⟩ := bcell hb; have hz := hb.size; have z0 : w.heap.size < w9.heap.size := (by first | omega | (simp at hz; omega)); have z1 : w.heap.size + 1 < w9.heap.size := (by first | omega | (simp at hz; omega)); have z2 : w.heap.size + 1 + 1 < w9.heap.size := (by first | omega | (simp at hz; omega))))
    go_ret2
    exact ⟨rfl, bwz⟩
  · have Hv := hide (show rmOk (isCo ax ay bx bY cx cy dx dy n N X Y S Z) (isTr n2 T U V) (isTr n3 T3 U3 V3) n k (rmT n2 T U V n3 T3 U3 V3 X Y Z k) = false by unfold rmOk zoC; rw [g1, g2]; cases (isTr n3 T3 U3 V3) <;> rfl)
    have Hc := hide (show rmC (isCo ax ay bx bY cx cy dx dy n N X Y S Z) (isTr n2 T U V) (isTr n3 T3 U3 V3) n k (rmT n2 T U V n3 T3 U3 V3 X Y Z k) = 1 by unfold rmC zoC; rw [g1, g2]; cases (isTr n3 T3 U3 V3) <;> rfl)
    rw [Hv.out, Hc.out]
    have KI2 := hide (g1 ▸ KI)
    have KT2 := hide (g2 ▸ KT)
    clear Hv Hc KI KT KU h h2 h3 g1 g2
    go_enter Tryd.func15, Tryd.ntmps15
    go_wp2_with (first | (go_at_call 31; (with_reducible refine (KI2.out _ bwz).mono ?_); rintro e w9 ⟨rfl, hb⟩; obtain ⟨hc, hf⟩ := bcell hb; have hz := hb.size; have z0 : w.heap.size < w9.heap.size := (by first | omega | (simp at hz; omega)); have z1 : w.heap.size + 1 < w9.heap.size := (by first | omega | (simp at hz; omega)); have z2 : w.heap.size + 1 + 1 < w9.heap.size := (by first | omega | (simp at hz; omega))) | (go_at_call 32; (with_reducible refine (KT2.out _ bwz).mono ?_); rintro e w9 ⟨rfl, hb⟩; obtain ⟨hc, hf⟩ := bcell hb; have hz := hb.size; have z0 : w.heap.size < w9.heap.size := (by first | omega | (simp at hz; omega)); have z1 : w.heap.size + 1 < w9.heap.size := (by first | omega | (simp at hz; omega)); have z2 : w.heap.size + 1 + 1 < w9.heap.size := (by first | omega | (simp at hz; omega))))
    go_ret2
    exact ⟨rfl, bwz⟩
  · have Hv := hide (show rmOk (isCo ax ay bx bY cx cy dx dy n N X Y S Z) (isTr n2 T U V) (isTr n3 T3 U3 V3) n k (rmT n2 T U V n3 T3 U3 V3 X Y Z k) = false by unfold rmOk; rw [g3]; rfl)
    have Hc := hide (show rmC (isCo ax ay bx bY cx cy dx dy n N X Y S Z) (isTr n2 T U V) (isTr n3 T3 U3 V3) n k (rmT n2 T U V n3 T3 U3 V3 X Y Z k) = 1 by unfold rmC; rw [g3]; rfl)
    rw [Hv.out, Hc.out]
    have KI2 := hide (g1 ▸ KI)
    have KT2 := hide (g2 ▸ KT)
    have KU2 := hide (g3 ▸ KU)
    clear Hv Hc KI KT KU h h2 h3 g1 g2 g3
    go_enter Tryd.func15, Tryd.ntmps15
    go_wp2_with (first | (go_at_call 31; (with_reducible refine (KI2.out _ bwz).mono ?_); rintro e w9 ⟨rfl, hb⟩; obtain ⟨hc, hf⟩ := bcell hb; have hz := hb.size; have z0 : w.heap.size < w9.heap.size := (by first | omega | (simp at hz; omega)); have z1 : w.heap.size + 1 < w9.heap.size := (by first | omega | (simp at hz; omega)); have z2 : w.heap.size + 1 + 1 < w9.heap.size := (by first | omega | (simp at hz; omega))) | (go_at_call 32; (with_reducible refine (KT2.out _ bwz).mono ?_); rintro e w9 ⟨rfl, hb⟩; obtain ⟨hc, hf⟩ := bcell hb; have hz := hb.size; have z0 : w.heap.size < w9.heap.size := (by first | omega | (simp at hz; omega)); have z1 : w.heap.size + 1 < w9.heap.size := (by first | omega | (simp at hz; omega)); have z2 : w.heap.size + 1 + 1 < w9.heap.size := (by first | omega | (simp at hz; omega))) | (go_at_call 32; (with_reducible refine (KU2.out _ bwz).mono ?_); rintro e w9 ⟨rfl, hb⟩; obtain ⟨hc, hf⟩ := bcell hb; have hz := hb.size; have z0 : w.heap.size < w9.heap.size := (by first | omega | (simp at hz; omega)); have z1 : w.heap.size + 1 < w9.heap.size := (by first | omega | (simp at hz; omega)); have z2 : w.heap.size + 1 + 1 < w9.heap.size := (by first | omega | (simp at hz; omega))))
    go_ret2
    exact ⟨rfl, bwz⟩
  · have KI2 := hide (g1 ▸ KI)
    have KT2 := hide (g2 ▸ KT)
    have KU2 := hide (g3 ▸ KU)
    clear KI KT KU
    rcases b2 (inB k 0 ((n : Int) - 1)) with g4 | g4
    · have Hv := hide (show rmOk (isCo ax ay bx bY cx cy dx dy n N X Y S Z) (isTr n2 T U V) (isTr n3 T3 U3 V3) n k (rmT n2 T U V n3 T3 U3 V3 X Y Z k) = false by unfold rmOk zoC; rw [g1, g2, g3, g4]; rfl)
      have Hc := hide (show rmC (isCo ax ay bx bY cx cy dx dy n N X Y S Z) (isTr n2 T U V) (isTr n3 T3 U3 V3) n k (rmT n2 T U V n3 T3 U3 V3 X Y Z k) = 4 by unfold rmC zoC; rw [g1, g2, g3, g4]; rfl)
      rw [Hv.out, Hc.out]
      clear Hv Hc g1 g2 g3 h h2 h3
      go_enter Tryd.func15, Tryd.ntmps15
      go_upto_region 3 with (first | (go_at_call 31; (with_reducible refine (KI2.out _ bwz).mono ?_); rintro e w9 ⟨rfl, hb⟩; obtain ⟨hc, hf⟩ := bcell hb; have hz := hb.size; have z0 : w.heap.size < w9.heap.size := (by first | omega | (simp at hz; omega)); have z1 : w.heap.size + 1 < w9.heap.size := (by first | omega | (simp at hz; omega)); have z2 : w.heap.size + 1 + 1 < w9.heap.size := (by first | omega | (simp at hz; omega))) | (go_at_call 32; (with_reducible refine (KT2.out _ bwz).mono ?_); rintro e w9 ⟨rfl, hb⟩; obtain ⟨hc, hf⟩ := bcell hb; have hz := hb.size; have z0 : w.heap.size < w9.heap.size := (by first | omega | (simp at hz; omega)); have z1 : w.heap.size + 1 < w9.heap.size := (by first | omega | (simp at hz; omega)); have z2 : w.heap.size + 1 + 1 < w9.heap.size := (by first | omega | (simp at hz; omega))) | (go_at_call 32; (with_reducible refine (KU2.out _ bwz).mono ?_); rintro e w9 ⟨rfl, hb⟩; obtain ⟨hc, hf⟩ := bcell hb; have hz := hb.size; have z0 : w.heap.size < w9.heap.size := (by first | omega | (simp at hz; omega)); have z1 : w.heap.size + 1 < w9.heap.size := (by first | omega | (simp at hz; omega)); have z2 : w.heap.size + 1 + 1 < w9.heap.size := (by first | omega | (simp at hz; omega))))
      obtain ⟨wB, rfl⟩ : ∃ W : World, W = w9 := ⟨_, rfl⟩
      have t8 : wB.cell? ⟨w.heap.size, 8, none⟩ = some (.slice so n cap) := by go_simp
      have HBB := hide (show Below w.heap.size w wB from bwz)
      have zB0 : w.heap.size < wB.heap.size := World.block_lt_of_cell? _ _ t8
      clear hb hc hf
      have f1 := we.out
      refine wp_region_held_drew (S := fun W => Below wB.heap.size wB W) (by kernel_rfl) (Below.drew (Below.refl _ _)) (fun hHeld => ?_)
      refine tkN 0 (some 23) rfl ?_; (try simp only [pz])
      refine tkN 1 (some 24) rfl ?_; (try simp only [pz])
      refine tkL 2 (some 25) rfl ?_; (try simp only [pz])
      refine tkN 3 (some 26) rfl ?_; (try simp only [pz])
      refine tkN 4 (some 27) rfl ?_; (try simp only [pz])
      refine wpAnyH_ready (rs := [5]) (by kernel_rfl) (by simp) ?_; refine (AllReadyH.cons (o := ⟨some 28, _, _, _, _, _⟩) rfl (fun K hK => ?_) AllReadyH.nil)
      go_simp; (go_at_call 33; (with_reducible refine (spec_l01In _ _ _ _).mono ?_); rintro e w9 ⟨rfl, rfl⟩)
      all_goals (try go_wp2_with fail)
      refine hK.out _ _ ?_ (fun hH2 => ?_)
      · first | exact bstep hHeld hb | exact hHeld.trans hb | exact hHeld
      clear hK K hHeld; (have hHeld := hH2); clear hH2; (try simp only [pz])
      refine tkN 6 (some 29) rfl ?_; (try simp only [pz])
      refine tkN 7 (some 30) rfl ?_; (try simp only [pz])
      refine tkO 8 (some 31) rfl ?_; (try simp only [pz])
      refine tkO 9 (some 32) rfl ?_; (try simp only [pz])
      refine tkO 10 (some 33) rfl ?_; (try simp only [pz])
      refine tkO 11 (some 34) rfl ?_; (try simp only [pz])
      refine tkO 12 (some 35) rfl ?_; (try simp only [pz])
      refine tkO 13 (some 36) rfl ?_; (try simp only [pz])
      refine tkO 14 (some 37) rfl ?_; (try simp only [pz])
      refine tkO 15 (some 38) rfl ?_; (try simp only [pz])
      refine tkO 16 (some 39) rfl ?_; (try simp only [pz])
      refine tkN 17 (some 40) rfl ?_; (try simp only [pz])
      refine wpAnyH_done (by kernel_rfl) ?_ _; (try simp only [pz])
      go_wp2
      go_ret2
      exact ⟨rfl, bstep HBB.out hHeld⟩
    · have z : zoC (isCo ax ay bx bY cx cy dx dy n N X Y S Z) (isTr n2 T U V) n k = 0 := by unfold zoC; rw [g1, g2, g4]; rfl
      have Hv := hide (show rmOk (isCo ax ay bx bY cx cy dx dy n N X Y S Z) (isTr n2 T U V) (isTr n3 T3 U3 V3) n k (rmT n2 T U V n3 T3 U3 V3 X Y Z k) = decide (0 ≤ (rmT n2 T U V n3 T3 U3 V3 X Y Z k)) by unfold rmOk; rw [g3, z]; rfl)
      have Hc := hide (show rmC (isCo ax ay bx bY cx cy dx dy n N X Y S Z) (isTr n2 T U V) (isTr n3 T3 U3 V3) n k (rmT n2 T U V n3 T3 U3 V3 X Y Z k) = sel (decide (0 ≤ (rmT n2 T U V n3 T3 U3 V3 X Y Z k))) 0 4 by unfold rmC; rw [g3, z]; rfl)
      rw [Hv.out, Hc.out]
      clear Hv Hc
      obtain ⟨hco, htr, hk0, hk1⟩ := zo_tt z
      obtain ⟨hn2a, _, _⟩ := isTr_t htr
      obtain ⟨b2, o2, rfl, hb2, _, _, _⟩ := h2.at3 0 (by omega)
      obtain ⟨K, rfl⟩ := Int.eq_ofNat_of_zero_le hk0
      have hKn : K < n := by omega
      obtain ⟨_, hpt, _, hz1, hz2⟩ := isMk_t ((isCo_t hco).2.2.2.2 K hKn)
      obtain ⟨b, o, rfl, hbs, e0, e1, e2, e3, e4⟩ := h.at5 K hKn
      have hi0 : (0 : Int) ≤ (K : Int) := by omega
      have hi1 : (K : Int) < (n : Int) := by omega
      obtain ⟨hn3a, _, _⟩ := isTr_t g3
      obtain ⟨b3, o3, rfl, hb3, _, _, _⟩ := h3.at3 0 (by omega)
      unfold rmT cmT
      rw [Int.toNat_natCast]
      have KC := hide (fun W (hb : Below w.heap.size w W) => spec_l11Time (N K) (X K) (Y K) (S K) (Z K) b2 o2 n2 cap2 T U V b3 o3 n3 cap3 T3 U3 V3 W (RowAt.later hb h2) htr (RowAt.later hb h3) g3 hpt hz1 hz2)
      generalize rtI (cmI (X K) (Y K) (Z K) n2 T U V) (cmI (X K) (Y K) (Z K) n3 T3 U3 V3) = c9 at *
      clear h h2 h3 g1 g2 g3 hco htr z hpt hz1 hz2 hk1
      by_cases hneg : c9 < 0
      · have ev : decide (0 ≤ c9) = false := decide_eq_false (by omega)
        have en : decide (c9 < 0) = true := decide_eq_true (by omega)
        rw [ev]
        clear ev
        go_enter Tryd.func15, Tryd.ntmps15
        go_upto_region 3 with (first | (go_at_call 31; (with_reducible refine (KI2.out _ bwz).mono ?_); rintro e w9 ⟨rfl, hb⟩; obtain ⟨hc, hf⟩ := bcell hb; have hz := hb.size; have z0 : w.heap.size < w9.heap.size := (by first | omega | (simp at hz; omega)); have z1 : w.heap.size + 1 < w9.heap.size := (by first | omega | (simp at hz; omega)); have z2 : w.heap.size + 1 + 1 < w9.heap.size := (by first | omega | (simp at hz; omega))) | (go_at_call 32; (with_reducible refine (KT2.out _ bwz).mono ?_); rintro e w9 ⟨rfl, hb⟩; obtain ⟨hc, hf⟩ := bcell hb; have hz := hb.size; have z0 : w.heap.size < w9.heap.size := (by first | omega | (simp at hz; omega)); have z1 : w.heap.size + 1 < w9.heap.size := (by first | omega | (simp at hz; omega)); have z2 : w.heap.size + 1 + 1 < w9.heap.size := (by first | omega | (simp at hz; omega))) | (go_at_call 32; (with_reducible refine (KU2.out _ bwz).mono ?_); rintro e w9 ⟨rfl, hb⟩; obtain ⟨hc, hf⟩ := bcell hb; have hz := hb.size; have z0 : w.heap.size < w9.heap.size := (by first | omega | (simp at hz; omega)); have z1 : w.heap.size + 1 < w9.heap.size := (by first | omega | (simp at hz; omega)); have z2 : w.heap.size + 1 + 1 < w9.heap.size := (by first | omega | (simp at hz; omega))))
        obtain ⟨wB, rfl⟩ : ∃ W : World, W = w9 := ⟨_, rfl⟩
        have t8 : wB.cell? ⟨w.heap.size, 8, none⟩ = some (.slice (some ⟨b, o, none⟩) n cap) := by go_simp
        have t0 : wB.cell? ⟨w.heap.size + 1, 0, none⟩ = some (.slice (some ⟨b2, o2, none⟩) n2 cap2) := by go_simp
        have t3 : wB.cell? ⟨w.heap.size + 1 + 1, 0, none⟩ = some (.slice (some ⟨b3, o3, none⟩) n3 cap3) := by go_simp
        have HBB := hide (show Below w.heap.size w wB from bwz)
        have g0 := cell_later HBB.out e0
        have g1 := cell_later HBB.out e1
        have g2 := cell_later HBB.out e2
        have g3 := cell_later HBB.out e3
        have g4 := cell_later HBB.out e4
        have zB := HBB.out.size
        have zB2 : w.heap.size + 1 + 1 < wB.heap.size := World.block_lt_of_cell? _ _ t3
        have zB1 : w.heap.size + 1 < wB.heap.size := by omega
        have zB0 : w.heap.size < wB.heap.size := by omega
        have zBb : b < wB.heap.size := by omega
        clear hb hc hf e0 e1 e2 e3 e4
        have f1 := we.out
        refine wp_region_held_drew (S := fun W => Below wB.heap.size wB W) (by kernel_rfl) (Below.drew (Below.refl _ _)) (fun hHeld => ?_)
        refine tkN 0 (some 23) rfl ?_; (try simp only [pz])
        refine tkN 1 (some 24) rfl ?_; (try simp only [pz])
        refine tkL 2 (some 25) rfl ?_; (try simp only [pz])
        refine tkN 3 (some 26) rfl ?_; (try simp only [pz])
        refine tkN 4 (some 27) rfl ?_; (try simp only [pz])
        refine wpAnyH_ready (rs := [5]) (by kernel_rfl) (by simp) ?_; refine (AllReadyH.cons (o := ⟨some 28, _, _, _, _, _⟩) rfl (fun K hK => ?_) AllReadyH.nil)
        go_simp; (first | (go_at_call 33; (with_reducible refine (spec_l01In _ _ _ _).mono ?_); rintro e w9 ⟨rfl, rfl⟩) | (go_at_call 34; (with_reducible refine (KC.out _ (bstep HBB.out bwz)).mono ?_); rintro e w9 ⟨rfl, hb⟩))
        all_goals (try go_wp2_with fail)
        refine hK.out _ _ ?_ (fun hH2 => ?_)
        · first | exact bstep hHeld hb | exact hHeld.trans hb | exact hHeld
        clear hK K hHeld; (have hHeld := hH2); clear hH2; (try simp only [pz])
        refine tkN 6 (some 29) rfl ?_; (try simp only [pz])
        refine tkN 7 (some 30) rfl ?_; (try simp only [pz])
        refine tkN 8 (some 31) rfl ?_; (try simp only [pz])
        refine tkL 9 (some 32) rfl ?_; (try simp only [pz])
        refine tkN 10 (some 33) rfl ?_; (try simp only [pz])
        refine tkN 11 (some 34) rfl ?_; (try simp only [pz])
        refine tkL 12 (some 35) rfl ?_; (try simp only [pz])
        refine tkL 13 (some 36) rfl ?_; (try simp only [pz])
        refine tkL 14 (some 37) rfl ?_; (try simp only [pz])
        refine wpAnyH_ready (rs := [15]) (by kernel_rfl) (by simp) ?_; refine (AllReadyH.cons (o := ⟨some 38, _, _, _, _, _⟩) rfl (fun K hK => ?_) AllReadyH.nil)
        go_simp; (first | (go_at_call 33; (with_reducible refine (spec_l01In _ _ _ _).mono ?_); rintro e w9 ⟨rfl, rfl⟩) | (go_at_call 34; (with_reducible refine (KC.out _ (bstep HBB.out bwz)).mono ?_); rintro e w9 ⟨rfl, hb⟩))
        all_goals (try go_wp2_with fail)
        refine hK.out _ _ ?_ (fun hH2 => ?_)
        · first | exact bstep hHeld hb | exact hHeld.trans hb | exact hHeld
        clear hK K hHeld; (have hHeld := hH2); clear hH2; (try simp only [pz])
        refine tkN 16 (some 39) rfl ?_; (try simp only [pz])
        refine tkN 17 (some 40) rfl ?_; (try simp only [pz])
        refine wpAnyH_done (by kernel_rfl) ?_ _; (try simp only [pz])
        go_wp2
        go_ret2
        exact ⟨rfl, bstep HBB.out hHeld⟩
      · have ev : decide (0 ≤ c9) = true := decide_eq_true (by omega)
        have en : decide (c9 < 0) = false := decide_eq_false (by omega)
        rw [ev]
        clear ev
        go_enter Tryd.func15, Tryd.ntmps15
        go_upto_region 3 with (first | (go_at_call 31; (with_reducible refine (KI2.out _ bwz).mono ?_); rintro e w9 ⟨rfl, hb⟩; obtain ⟨hc, hf⟩ := bcell hb; have hz := hb.size; have z0 : w.heap.size < w9.heap.size := (by first | omega | (simp at hz; omega)); have z1 : w.heap.size + 1 < w9.heap.size := (by first | omega | (simp at hz; omega)); have z2 : w.heap.size + 1 + 1 < w9.heap.size := (by first | omega | (simp at hz; omega))) | (go_at_call 32; (with_reducible refine (KT2.out _ bwz).mono ?_); rintro e w9 ⟨rfl, hb⟩; obtain ⟨hc, hf⟩ := bcell hb; have hz := hb.size; have z0 : w.heap.size < w9.heap.size := (by first | omega | (simp at hz; omega)); have z1 : w.heap.size + 1 < w9.heap.size := (by first | omega | (simp at hz; omega)); have z2 : w.heap.size + 1 + 1 < w9.heap.size := (by first | omega | (simp at hz; omega))) | (go_at_call 32; (with_reducible refine (KU2.out _ bwz).mono ?_); rintro e w9 ⟨rfl, hb⟩; obtain ⟨hc, hf⟩ := bcell hb; have hz := hb.size; have z0 : w.heap.size < w9.heap.size := (by first | omega | (simp at hz; omega)); have z1 : w.heap.size + 1 < w9.heap.size := (by first | omega | (simp at hz; omega)); have z2 : w.heap.size + 1 + 1 < w9.heap.size := (by first | omega | (simp at hz; omega))))
        obtain ⟨wB, rfl⟩ : ∃ W : World, W = w9 := ⟨_, rfl⟩
        have t8 : wB.cell? ⟨w.heap.size, 8, none⟩ = some (.slice (some ⟨b, o, none⟩) n cap) := by go_simp
        have t0 : wB.cell? ⟨w.heap.size + 1, 0, none⟩ = some (.slice (some ⟨b2, o2, none⟩) n2 cap2) := by go_simp
        have t3 : wB.cell? ⟨w.heap.size + 1 + 1, 0, none⟩ = some (.slice (some ⟨b3, o3, none⟩) n3 cap3) := by go_simp
        have HBB := hide (show Below w.heap.size w wB from bwz)
        have g0 := cell_later HBB.out e0
        have g1 := cell_later HBB.out e1
        have g2 := cell_later HBB.out e2
        have g3 := cell_later HBB.out e3
        have g4 := cell_later HBB.out e4
        have zB := HBB.out.size
        have zB2 : w.heap.size + 1 + 1 < wB.heap.size := World.block_lt_of_cell? _ _ t3
        have zB1 : w.heap.size + 1 < wB.heap.size := by omega
        have zB0 : w.heap.size < wB.heap.size := by omega
        have zBb : b < wB.heap.size := by omega
        clear hb hc hf e0 e1 e2 e3 e4
        have f1 := we.out
        refine wp_region_held_drew (S := fun W => Below wB.heap.size wB W) (by kernel_rfl) (Below.drew (Below.refl _ _)) (fun hHeld => ?_)
        refine tkN 0 (some 23) rfl ?_; (try simp only [pz])
        refine tkN 1 (some 24) rfl ?_; (try simp only [pz])
        refine tkL 2 (some 25) rfl ?_; (try simp only [pz])
        refine tkN 3 (some 26) rfl ?_; (try simp only [pz])
        refine tkN 4 (some 27) rfl ?_; (try simp only [pz])
        refine wpAnyH_ready (rs := [5]) (by kernel_rfl) (by simp) ?_; refine (AllReadyH.cons (o := ⟨some 28, _, _, _, _, _⟩) rfl (fun K hK => ?_) AllReadyH.nil)
        go_simp; (first | (go_at_call 33; (with_reducible refine (spec_l01In _ _ _ _).mono ?_); rintro e w9 ⟨rfl, rfl⟩) | (go_at_call 34; (with_reducible refine (KC.out _ (bstep HBB.out bwz)).mono ?_); rintro e w9 ⟨rfl, hb⟩))
        all_goals (try go_wp2_with fail)
        refine hK.out _ _ ?_ (fun hH2 => ?_)
        · first | exact bstep hHeld hb | exact hHeld.trans hb | exact hHeld
        clear hK K hHeld; (have hHeld := hH2); clear hH2; (try simp only [pz])
        refine tkN 6 (some 29) rfl ?_; (try simp only [pz])
        refine tkN 7 (some 30) rfl ?_; (try simp only [pz])
        refine tkN 8 (some 31) rfl ?_; (try simp only [pz])
        refine tkL 9 (some 32) rfl ?_; (try simp only [pz])
        refine tkN 10 (some 33) rfl ?_; (try simp only [pz])
        refine tkN 11 (some 34) rfl ?_; (try simp only [pz])
        refine tkL 12 (some 35) rfl ?_; (try simp only [pz])
        refine tkL 13 (some 36) rfl ?_; (try simp only [pz])
        refine tkL 14 (some 37) rfl ?_; (try simp only [pz])
        refine wpAnyH_ready (rs := [15]) (by kernel_rfl) (by simp) ?_; refine (AllReadyH.cons (o := ⟨some 38, _, _, _, _, _⟩) rfl (fun K hK => ?_) AllReadyH.nil)
        go_simp; (first | (go_at_call 33; (with_reducible refine (spec_l01In _ _ _ _).mono ?_); rintro e w9 ⟨rfl, rfl⟩) | (go_at_call 34; (with_reducible refine (KC.out _ (bstep HBB.out bwz)).mono ?_); rintro e w9 ⟨rfl, hb⟩))
        all_goals (try go_wp2_with fail)
        refine hK.out _ _ ?_ (fun hH2 => ?_)
        · first | exact bstep hHeld hb | exact hHeld.trans hb | exact hHeld
        clear hK K hHeld; (have hHeld := hH2); clear hH2; (try simp only [pz])
        refine tkN 16 (some 39) rfl ?_; (try simp only [pz])
        refine tkN 17 (some 40) rfl ?_; (try simp only [pz])
        refine wpAnyH_done (by kernel_rfl) ?_ _; (try simp only [pz])
        obtain ⟨wD, rfl⟩ : ∃ W : World, W = w9 := ⟨_, rfl⟩
        have v8 := cell_later hHeld t8
        have v0 := cell_later hHeld t0
        have v3 := cell_later hHeld t3
        have y0 := cell_later hHeld g0
        have y1 := cell_later hHeld g1
        have y2 := cell_later hHeld g2
        have y3 := cell_later hHeld g3
        have y4 := cell_later hHeld g4
        have HBD := hide (bstep HBB.out hHeld)
        have zD := hHeld.size
        have yB2 : w.heap.size + 1 + 1 < wD.heap.size := by omega
        have yB1 : w.heap.size + 1 < wD.heap.size := by omega
        have yB0 : w.heap.size < wD.heap.size := by omega
        have yBb : b < wD.heap.size := by omega
        clear hHeld t8 t0 t3 g0 g1 g2 g3 g4 zB zB0 zB1 zB2 zBb hb f1
        go_upto_region 5 with fail
        refine wp_region_held_drew (S := fun W => Below wD.heap.size wD W) (by kernel_rfl) (Below.drew (Below.refl _ _)) (fun hHeld => ?_)
        refine tkN 0 (some 41) rfl ?_; (try simp only [pz])
        refine tkL 1 (some 42) rfl ?_; (try simp only [pz])
        refine tkN 2 (some 43) rfl ?_; (try simp only [pz])
        refine tkN 3 (some 44) rfl ?_; (try simp only [pz])
        refine tkL 4 (some 45) rfl ?_; (try simp only [pz])
        refine tkL 5 (some 46) rfl ?_; (try simp only [pz])
        refine tkL 6 (some 47) rfl ?_; (try simp only [pz])
        refine wpAnyH_ready (rs := [7]) (by kernel_rfl) (by simp) ?_; refine (AllReadyH.cons (o := ⟨some 48, _, _, _, _, _⟩) rfl (fun K hK => ?_) AllReadyH.nil)
        go_simp; (go_at_call 34; (with_reducible refine (KC.out _ (bstep HBD.out bwz)).mono ?_); rintro e w9 ⟨rfl, hb⟩)
        all_goals (try go_wp2_with fail)
        refine hK.out _ _ ?_ (fun hH2 => ?_)
        · first | exact bstep hHeld hb | exact hHeld.trans hb | exact hHeld
        clear hK K hHeld; (have hHeld := hH2); clear hH2; (try simp only [pz])
        refine tkN 8 (some 8) rfl ?_; (try simp only [pz])
        refine tkN 9 (some 9) rfl ?_; (try simp only [pz])
        refine wpAnyH_done (by kernel_rfl) ?_ _; (try simp only [pz])
        go_wp2
        go_ret2
        exact ⟨rfl, bstep HBD.out hHeld⟩
end Go.Proofs.YtjaplglnccmjiaaDoor
