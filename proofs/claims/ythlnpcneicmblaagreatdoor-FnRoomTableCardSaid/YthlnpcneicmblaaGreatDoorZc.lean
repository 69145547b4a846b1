/- Walks: when a track comes to a mark; the legs in a zone; the room time; of both. -/
import Derived.Test.YthlnpcneicmblaaGreatDoorZa
import Derived.BigQuiet
namespace Go.Proofs.YthlnpcneicmblaaGreatDoor
open Go.RowKit

/-- The time at which the first of some legs begins, or -1. -/
def hdT (T : Nat → Int) (L : List Int) : Int := match L with
 | [] => -1
 | p :: _ => T p.toNat
def cmI (x y z : Int) (n : Nat) (T U V : Nat → Int) : Int := hdT T (lgsZ x y z U V (n - 1))
def cmT (n2 : Nat) (T U V X Y Z : Nat → Int) (k : Int) : Int := cmI (X k.toNat) (Y k.toNat) (Z k.toNat) n2 T U V
def cmOk (co tr : Bool) (n : Nat) (k : Int) (n2 : Nat) (T U V X Y Z : Nat → Int) : Bool := zoC co tr n k == 0 && decide (0 ≤ cmT n2 T U V X Y Z k)
def cmC (co tr : Bool) (n : Nat) (k : Int) (n2 : Nat) (T U V X Y Z : Nat → Int) : Int := if zoC co tr n k == 0 then sel (decide (0 ≤ cmT n2 T U V X Y Z k)) 0 4 else zoC co tr n k
/-- The legs that are answered. -/
def lgL (co tr : Bool) (n : Nat) (k : Int) (n2 : Nat) (U V X Y Z : Nat → Int) : List Int := if zoC co tr n k = 0 then lgsZ (X k.toNat) (Y k.toNat) (Z k.toNat) U V (n2 - 1) else []
theorem lgL_len (co tr : Bool) (n : Nat) (k : Int) (n2 : Nat) (U V X Y Z : Nat → Int) : (lgL co tr n k n2 U V X Y Z).length ≤ n2 := by
 unfold lgL
 split
 ·have := lgsZ_len (X k.toNat) (Y k.toNat) (Z k.toNat) U V (n2 - 1); omega
 ·simp
theorem cmI_bd {x y z : Int} {n : Nat} {T U V : Nat → Int} (hv : isTr n T U V = true) : -1 ≤ cmI x y z n T U V ∧ cmI x y z n T U V ≤ 1000000000 := by
 unfold cmI
 rcases hL : lgsZ x y z U V (n - 1) with _ | ⟨p, tl⟩
 ·show (-1 : Int) ≤ -1 ∧ (-1 : Int) ≤ _; omega
 ·obtain ⟨j, rfl, hj⟩ := lgsZ_mem x y z U V (n - 1) p (by rw [hL]; exact List.mem_cons_self)
  obtain ⟨t0, t1, t2, _⟩ := isTr_leg (l := j) hv (by omega)
  show -1 ≤ T (Int.toNat j) ∧ T (Int.toNat j) ≤ _
  rw [Int.toNat_natCast]; omega
/-- The room time of two times, each -1 if there is none. -/
def rtI (c d : Int) : Int := if c < 0 then d else if d < 0 then c else if d < c then d else c
def rmT (n2 : Nat) (T U V : Nat → Int) (n3 : Nat) (T3 U3 V3 X Y Z : Nat → Int) (k : Int) : Int := rtI (cmT n2 T U V X Y Z k) (cmT n3 T3 U3 V3 X Y Z k)
def rmOk (co tr tu : Bool) (n : Nat) (k t : Int) : Bool := tu && (zoC co tr n k == 0 && decide (0 ≤ t))
def rmC (co tr tu : Bool) (n : Nat) (k t : Int) : Int := sel tu (if zoC co tr n k == 0 then sel (decide (0 ≤ t)) 0 4 else zoC co tr n k) 1
theorem zo_tt {co tr : Bool} {n : Nat} {k : Int} (h : zoC co tr n k = 0) : co = true ∧ tr = true ∧ 0 ≤ k ∧ k ≤ (n : Int) - 1 := by
 rcases zoC_two co tr n k with h' | h'
 ·exact h'.2
 ·exact absurd h h'
theorem own_head {w : World} {B : Nat} {e : TypeId} {g cp m : Nat} {p : Int} {xs : List Value} (h : w.ownsRow B e 1 (.slice (some ⟨g, 0, none⟩) m cp) m (.int .i64 p :: xs)) : w.cell? ⟨g, 0, none⟩ = some (.int .i64 p) := by
 have := h.cells (g := g) rfl 0 (.int .i64 p) rfl
 rwa [Addr.add_lit, Nat.zero_add] at this
set_option maxRecDepth 100000 in
set_option maxHeartbeats 4000000 in
theorem impl_comesAt (nm : ByteArray) (x y sd z : Int) (b o n cap : Nat) (T U V : Nat → Int) (w : World) (h : RowAt w (some ⟨b, o, none⟩) n 3 (v3 T U V)) (hv : isTr n T U V = true) (hp : isPt x y = true) (hz1 : 1 ≤ z) (hz2 : z ≤ 5000) :
 Calls Tryz.prog 59 #[.agg #[.string nm, .int .i64 x, .int .i64 y, .int .i64 sd, .int .i64 z], .agg #[.slice (some ⟨b, o, none⟩) n cap]] w fun e w' => e = .returned (.int .i64 (cmI x y z n T U V)) ∧ Below w.heap.size w w' := by
 obtain ⟨hn2, hn40, _⟩ := isTr_t hv
 have KL := hide (fun W (hb : Below w.heap.size w W) => impl_legsInZone nm x y sd z b o n cap T U V W (RowAt.later hb h) hv hp hz1 hz2)
 have hm := lgsZ_mem x y z U V (n - 1)
 unfold cmI
 generalize lgsZ x y z U V (n - 1) = L at *
 clear hv hp hz1 hz2
 go_enter Tryz.func59, Tryz.ntmps59
 go_wp2_with fail; (with_reducible refine (KL.out _ bwz).mono ?_); rintro e w1 ⟨g, cp, rfl, hown, hb⟩
 have hbl : Below w.heap.size w w1 := bwz
 have m5 : w1.cell? ⟨w.heap.size + 1, 0, none⟩ = some (.slice (some ⟨b, o, none⟩) n cap) := cell_later hb (by go_simp)
 have z1 : w.heap.size + 1 < w1.heap.size := World.block_lt_of_cell? _ _ m5
 clear KL hb
 rcases L with _ | ⟨p, tl⟩
 ·go_wp2
  go_ret
  exact ⟨rfl, hbl⟩
 ·obtain ⟨j, rfl, hj⟩ := hm p List.mem_cons_self
  have c0 := own_head hown
  have gl := (hown.lt g rfl).2
  obtain ⟨d0, d1, d2⟩ := (RowAt.later hbl h).on3 j (by omega)
  obtain ⟨m9, hm9⟩ : ∃ m, m = ((j : Int) :: tl).length := ⟨_, rfl⟩
  have hm0 : (0 : Int) < (m9 : Int) := by rw [hm9, List.length_cons]; omega
  have hm1 : ((m9 : Int) == 0) = false := beq_eq_false_iff_ne.2 (by omega)
  rw [← hm9]
  have Hv := hide (show hdT T ((j : Int) :: tl) = T j from by show T (Int.toNat j) = T j; rw [Int.toNat_natCast])
  have hj1 : (0 : Int) ≤ (j : Int) := by omega
  have hj2 : (j : Int) < (n : Int) := by omega
  have bl := World.block_lt_of_cell? _ _ d0
  simp only at bl
  clear hown h hm hm9
  go_upto_region 4 with fail
  go_quiet (fail)
  go_wp2
  go_ret
  exact ⟨by rw [Hv.out]; rfl, bwz⟩
set_option maxRecDepth 100000 in
set_option maxHeartbeats 4000000 in
theorem spec_l11Comes (nm : ByteArray) (x y sd z : Int) (b o n cap : Nat) (T U V : Nat → Int) (w : World) (h : RowAt w (some ⟨b, o, none⟩) n 3 (v3 T U V)) (hv : isTr n T U V = true) (hp : isPt x y = true) (hz1 : 1 ≤ z) (hz2 : z ≤ 5000) :
 Calls Tryz.prog 66 #[.agg #[.string nm, .int .i64 x, .int .i64 y, .int .i64 sd, .int .i64 z], .agg #[.slice (some ⟨b, o, none⟩) n cap]] w fun e w' => e = .returned (.int .i64 (cmI x y z n T U V)) ∧ Below w.heap.size w w' := by
 obtain ⟨hn2, hn40, _⟩ := isTr_t hv
 have KL := hide (fun W (hb : Below w.heap.size w W) => spec_l07Legs nm x y sd z b o n cap T U V W (RowAt.later hb h) hv hp hz1 hz2)
 have hm := lgsZ_mem x y z U V (n - 1)
 unfold cmI
 generalize lgsZ x y z U V (n - 1) = L at *
 clear hv hp hz1 hz2
 go_enter Tryz.func66, Tryz.ntmps66
 go_wp2_with fail; (with_reducible refine (KL.out _ bwz).mono ?_); rintro e w1 ⟨g, cp, rfl, hown, hb⟩
 have hbl : Below w.heap.size w w1 := bwz
 have m5 : w1.cell? ⟨w.heap.size + 1, 0, none⟩ = some (.slice (some ⟨b, o, none⟩) n cap) := cell_later hb (by go_simp)
 have z1 : w.heap.size + 1 < w1.heap.size := World.block_lt_of_cell? _ _ m5
 clear KL hb
 rcases L with _ | ⟨p, tl⟩
 ·go_wp2
  go_ret
  exact ⟨rfl, hbl⟩
 ·obtain ⟨j, rfl, hj⟩ := hm p List.mem_cons_self
  have c0 := own_head hown
  have gl := (hown.lt g rfl).2
  obtain ⟨d0, d1, d2⟩ := (RowAt.later hbl h).on3 j (by omega)
  obtain ⟨m9, hm9⟩ : ∃ m, m = ((j : Int) :: tl).length := ⟨_, rfl⟩
  have hm0 : (0 : Int) < (m9 : Int) := by rw [hm9, List.length_cons]; omega
  have hm1 : ((m9 : Int) == 0) = false := beq_eq_false_iff_ne.2 (by omega)
  rw [← hm9]
  have Hv := hide (show hdT T ((j : Int) :: tl) = T j from by show T (Int.toNat j) = T j; rw [Int.toNat_natCast])
  have hj1 : (0 : Int) ≤ (j : Int) := by omega
  have hj2 : (j : Int) < (n : Int) := by omega
  have bl := World.block_lt_of_cell? _ _ d0
  simp only at bl
  clear hown h hm hm9
  go_upto_region 4 with fail
  go_quiet (fail)
  go_wp2
  go_ret
  exact ⟨by rw [Hv.out]; rfl, bwz⟩
set_option maxRecDepth 100000 in
set_option maxHeartbeats 8000000 in
theorem impl_roomTime (nm : ByteArray) (x y sd z : Int) (b o n cap : Nat) (T U V : Nat → Int) (b3 o3 n3 cap3 : Nat) (T3 U3 V3 : Nat → Int) (w : World) (h : RowAt w (some ⟨b, o, none⟩) n 3 (v3 T U V)) (hv : isTr n T U V = true) (h3 : RowAt w (some ⟨b3, o3, none⟩) n3 3 (v3 T3 U3 V3)) (hv3 : isTr n3 T3 U3 V3 = true) (hp : isPt x y = true) (hz1 : 1 ≤ z) (hz2 : z ≤ 5000) :
 Calls Tryz.prog 42 #[.agg #[.string nm, .int .i64 x, .int .i64 y, .int .i64 sd, .int .i64 z], .agg #[.slice (some ⟨b, o, none⟩) n cap], .agg #[.slice (some ⟨b3, o3, none⟩) n3 cap3]] w fun e w' => e = .returned (.int .i64 (rtI (cmI x y z n T U V) (cmI x y z n3 T3 U3 V3))) ∧ Below w.heap.size w w' := by
 have KC := hide (fun W (hb : Below w.heap.size w W) => impl_comesAt nm x y sd z b o n cap T U V W (RowAt.later hb h) hv hp hz1 hz2)
 have KD := hide (fun W (hb : Below w.heap.size w W) => impl_comesAt nm x y sd z b3 o3 n3 cap3 T3 U3 V3 W (RowAt.later hb h3) hv3 hp hz1 hz2)
 obtain ⟨c1, c2⟩ := cmI_bd (x := x) (y := y) (z := z) hv
 obtain ⟨d1, d2⟩ := cmI_bd (x := x) (y := y) (z := z) hv3
 generalize cmI x y z n T U V = c9 at *
 generalize cmI x y z n3 T3 U3 V3 = d9 at *
 clear h hv h3 hv3 hp hz1 hz2
 go_enter Tryz.func42, Tryz.ntmps42
 go_upto_region 1 with fail
 go_cut [7, 8] (fun s7 s8 W => s7 = .int .i64 c9 ∧ s8 = .int .i64 d9 ∧ Below w.heap.size w W)
 case first =>
  obtain ⟨wA, hA⟩ : ∃ W, W = (((w.alloc (.cells #[.string nm, .int .i64 x, .int .i64 y, .int .i64 sd, .int .i64 z] 60)).alloc (.cells #[.slice (some ⟨b, o, none⟩) n cap] 45)).alloc (.cells #[.slice (some ⟨b3, o3, none⟩) n3 cap3] 45)) := ⟨_, rfl⟩
  have m0 : wA.cell? ⟨w.heap.size, 0, none⟩ = some (.string nm) := by rw [hA]; go_simp
  have m1 : wA.cell? ⟨w.heap.size, 1, none⟩ = some (.int .i64 x) := by rw [hA]; go_simp
  have m2 : wA.cell? ⟨w.heap.size, 2, none⟩ = some (.int .i64 y) := by rw [hA]; go_simp
  have m3 : wA.cell? ⟨w.heap.size, 3, none⟩ = some (.int .i64 sd) := by rw [hA]; go_simp
  have m4 : wA.cell? ⟨w.heap.size, 4, none⟩ = some (.int .i64 z) := by rw [hA]; go_simp
  have t1 : wA.cell? ⟨w.heap.size + 1, 0, none⟩ = some (.slice (some ⟨b, o, none⟩) n cap) := by rw [hA]; go_simp
  have t2 : wA.cell? ⟨w.heap.size + 1 + 1, 0, none⟩ = some (.slice (some ⟨b3, o3, none⟩) n3 cap3) := by rw [hA]; go_simp
  have HBA := hide (show Below w.heap.size w wA by rw [hA]; exact bwz)
  have zA2 : w.heap.size + 1 + 1 < wA.heap.size := by rw [hA]; simp
  have zA1 : w.heap.size + 1 < wA.heap.size := by omega
  have zA0 : w.heap.size < wA.heap.size := by omega
  rw [← hA]
  clear hA
  refine wp_region_held_drew (S := fun W => Below wA.heap.size wA W) (by kernel_rfl) (Below.drew (Below.refl _ _)) (fun hHeld => ?_)
  refine tkL 0 (some 9) rfl ?_; simp only [pz]
  refine tkL 1 (some 10) rfl ?_; simp only [pz]
  refine tkL 3 (some 12) rfl ?_; simp only [pz]
  refine tkL 4 (some 13) rfl ?_; simp only [pz]
  refine rd1 2 (some 11) rfl (fun K hK => ?_)
  go_simp; (first | (go_at_call 59; (with_reducible refine (KC.out _ (bstep HBA.out bwz)).mono ?_); rintro e w9 ⟨rfl, hb⟩; obtain ⟨hc, hf⟩ := bcell hb; have hzz := hb.size) | (go_at_call 59; (with_reducible refine (KD.out _ (bstep HBA.out bwz)).mono ?_); rintro e w9 ⟨rfl, hb⟩; obtain ⟨hc, hf⟩ := bcell hb; have hzz := hb.size))
  all_goals (try go_wp2_with fail)
  refine hK.out _ _ ?_ (fun hH2 => ?_)
  ·exact hhz
  clear hK K hHeld; (have hHeld := hH2); clear hH2; (try simp only [pz])
  refine rd1 5 (some 14) rfl (fun K hK => ?_)
  go_simp; (first | (go_at_call 59; (with_reducible refine (KC.out _ (bstep HBA.out bwz)).mono ?_); rintro e w9 ⟨rfl, hb⟩; obtain ⟨hc, hf⟩ := bcell hb; have hzz := hb.size) | (go_at_call 59; (with_reducible refine (KD.out _ (bstep HBA.out bwz)).mono ?_); rintro e w9 ⟨rfl, hb⟩; obtain ⟨hc, hf⟩ := bcell hb; have hzz := hb.size))
  all_goals (try go_wp2_with fail)
  refine hK.out _ _ ?_ (fun hH2 => ?_)
  ·exact hhz
  clear hK K hHeld; (have hHeld := hH2); clear hH2; (try simp only [pz])
  refine tkN 6 (some 7) rfl ?_; simp only [pz]
  refine tkN 7 (some 8) rfl ?_; simp only [pz]
  refine wpAnyH_done (by kernel_rfl) ?_ _; (try simp only [pz])
  go_wp2_with fail
  go_meet
  exact ⟨rfl, rfl, bstep HBA.out hHeld⟩
 case rest =>
  obtain ⟨rfl, rfl, rB⟩ := hcut
  clear KC KD
  by_cases k1 : c9 < 0
  ·have e9 : c9 = -1 := by omega
   subst e9
   have Hr := hide (show rtI (-1) d9 = d9 from rfl)
   go_wp2
   all_goals (go_ret; exact ⟨by rw [Hr.out]; first | rfl | exact ret_i (by omega), rB⟩)
  ·by_cases k2 : d9 < 0
   ·have e9 : d9 = -1 := by omega
    subst e9
    have Hr := hide (show rtI c9 (-1) = c9 by unfold rtI; rw [if_neg k1, if_pos (by omega)])
    go_wp2
    all_goals (go_ret; exact ⟨by rw [Hr.out]; first | rfl | exact ret_i (by omega), rB⟩)
   ·by_cases k3 : d9 < c9
    ·have Hr := hide (show rtI c9 d9 = d9 by unfold rtI; rw [if_neg k1, if_neg k2, if_pos k3])
     go_wp2
     all_goals (go_ret; exact ⟨by rw [Hr.out]; first | rfl | exact ret_i (by omega), rB⟩)
    ·have Hr := hide (show rtI c9 d9 = c9 by unfold rtI; rw [if_neg k1, if_neg k2, if_neg k3])
     go_wp2
     all_goals (go_ret; exact ⟨by rw [Hr.out]; first | rfl | exact ret_i (by omega), rB⟩)
set_option maxRecDepth 100000 in
set_option maxHeartbeats 8000000 in
theorem spec_l11Time (nm : ByteArray) (x y sd z : Int) (b o n cap : Nat) (T U V : Nat → Int) (b3 o3 n3 cap3 : Nat) (T3 U3 V3 : Nat → Int) (w : World) (h : RowAt w (some ⟨b, o, none⟩) n 3 (v3 T U V)) (hv : isTr n T U V = true) (h3 : RowAt w (some ⟨b3, o3, none⟩) n3 3 (v3 T3 U3 V3)) (hv3 : isTr n3 T3 U3 V3 = true) (hp : isPt x y = true) (hz1 : 1 ≤ z) (hz2 : z ≤ 5000) :
 Calls Tryz.prog 47 #[.agg #[.string nm, .int .i64 x, .int .i64 y, .int .i64 sd, .int .i64 z], .agg #[.slice (some ⟨b, o, none⟩) n cap], .agg #[.slice (some ⟨b3, o3, none⟩) n3 cap3]] w fun e w' => e = .returned (.int .i64 (rtI (cmI x y z n T U V) (cmI x y z n3 T3 U3 V3))) ∧ Below w.heap.size w w' := by
 have KC := hide (fun W (hb : Below w.heap.size w W) => spec_l11Comes nm x y sd z b o n cap T U V W (RowAt.later hb h) hv hp hz1 hz2)
 have KD := hide (fun W (hb : Below w.heap.size w W) => spec_l11Comes nm x y sd z b3 o3 n3 cap3 T3 U3 V3 W (RowAt.later hb h3) hv3 hp hz1 hz2)
 obtain ⟨c1, c2⟩ := cmI_bd (x := x) (y := y) (z := z) hv
 obtain ⟨d1, d2⟩ := cmI_bd (x := x) (y := y) (z := z) hv3
 generalize cmI x y z n T U V = c9 at *
 generalize cmI x y z n3 T3 U3 V3 = d9 at *
 clear h hv h3 hv3 hp hz1 hz2
 go_enter Tryz.func47, Tryz.ntmps47
 go_upto_region 1 with fail
 go_cut [7, 8] (fun s7 s8 W => s7 = .int .i64 c9 ∧ s8 = .int .i64 d9 ∧ Below w.heap.size w W)
 case first =>
  obtain ⟨wA, hA⟩ : ∃ W, W = (((w.alloc (.cells #[.string nm, .int .i64 x, .int .i64 y, .int .i64 sd, .int .i64 z] 60)).alloc (.cells #[.slice (some ⟨b, o, none⟩) n cap] 45)).alloc (.cells #[.slice (some ⟨b3, o3, none⟩) n3 cap3] 45)) := ⟨_, rfl⟩
  have m0 : wA.cell? ⟨w.heap.size, 0, none⟩ = some (.string nm) := by rw [hA]; go_simp
  have m1 : wA.cell? ⟨w.heap.size, 1, none⟩ = some (.int .i64 x) := by rw [hA]; go_simp
  have m2 : wA.cell? ⟨w.heap.size, 2, none⟩ = some (.int .i64 y) := by rw [hA]; go_simp
  have m3 : wA.cell? ⟨w.heap.size, 3, none⟩ = some (.int .i64 sd) := by rw [hA]; go_simp
  have m4 : wA.cell? ⟨w.heap.size, 4, none⟩ = some (.int .i64 z) := by rw [hA]; go_simp
  have t1 : wA.cell? ⟨w.heap.size + 1, 0, none⟩ = some (.slice (some ⟨b, o, none⟩) n cap) := by rw [hA]; go_simp
  have t2 : wA.cell? ⟨w.heap.size + 1 + 1, 0, none⟩ = some (.slice (some ⟨b3, o3, none⟩) n3 cap3) := by rw [hA]; go_simp
  have HBA := hide (show Below w.heap.size w wA by rw [hA]; exact bwz)
  have zA2 : w.heap.size + 1 + 1 < wA.heap.size := by rw [hA]; simp
  have zA1 : w.heap.size + 1 < wA.heap.size := by omega
  have zA0 : w.heap.size < wA.heap.size := by omega
  rw [← hA]
  clear hA
  refine wp_region_held_drew (S := fun W => Below wA.heap.size wA W) (by kernel_rfl) (Below.drew (Below.refl _ _)) (fun hHeld => ?_)
  refine tkL 0 (some 9) rfl ?_; simp only [pz]
  refine tkL 1 (some 10) rfl ?_; simp only [pz]
  refine tkL 3 (some 12) rfl ?_; simp only [pz]
  refine tkL 4 (some 13) rfl ?_; simp only [pz]
  refine rd1 2 (some 11) rfl (fun K hK => ?_)
  go_simp; (first | (go_at_call 66; (with_reducible refine (KC.out _ (bstep HBA.out bwz)).mono ?_); rintro e w9 ⟨rfl, hb⟩; obtain ⟨hc, hf⟩ := bcell hb; have hzz := hb.size) | (go_at_call 66; (with_reducible refine (KD.out _ (bstep HBA.out bwz)).mono ?_); rintro e w9 ⟨rfl, hb⟩; obtain ⟨hc, hf⟩ := bcell hb; have hzz := hb.size))
  all_goals (try go_wp2_with fail)
  refine hK.out _ _ ?_ (fun hH2 => ?_)
  ·exact hhz
  clear hK K hHeld; (have hHeld := hH2); clear hH2; (try simp only [pz])
  refine rd1 5 (some 14) rfl (fun K hK => ?_)
  go_simp; (first | (go_at_call 66; (with_reducible refine (KC.out _ (bstep HBA.out bwz)).mono ?_); rintro e w9 ⟨rfl, hb⟩; obtain ⟨hc, hf⟩ := bcell hb; have hzz := hb.size) | (go_at_call 66; (with_reducible refine (KD.out _ (bstep HBA.out bwz)).mono ?_); rintro e w9 ⟨rfl, hb⟩; obtain ⟨hc, hf⟩ := bcell hb; have hzz := hb.size))
  all_goals (try go_wp2_with fail)
  refine hK.out _ _ ?_ (fun hH2 => ?_)
  ·exact hhz
  clear hK K hHeld; (have hHeld := hH2); clear hH2; (try simp only [pz])
  refine tkN 6 (some 7) rfl ?_; simp only [pz]
  refine tkN 7 (some 8) rfl ?_; simp only [pz]
  refine wpAnyH_done (by kernel_rfl) ?_ _; (try simp only [pz])
  go_wp2_with fail
  go_meet
  exact ⟨rfl, rfl, bstep HBA.out hHeld⟩
 case rest =>
  obtain ⟨rfl, rfl, rB⟩ := hcut
  clear KC KD
  by_cases k1 : c9 < 0
  ·have e9 : c9 = -1 := by omega
   subst e9
   have Hr := hide (show rtI (-1) d9 = d9 from rfl)
   go_wp2
   all_goals (go_ret; exact ⟨by rw [Hr.out]; first | rfl | exact ret_i (by omega), rB⟩)
  ·by_cases k2 : d9 < 0
   ·have e9 : d9 = -1 := by omega
    subst e9
    have Hr := hide (show rtI c9 (-1) = c9 by unfold rtI; rw [if_neg k1, if_pos (by omega)])
    go_wp2
    all_goals (go_ret; exact ⟨by rw [Hr.out]; first | rfl | exact ret_i (by omega), rB⟩)
   ·by_cases k3 : d9 < c9
    ·have Hr := hide (show rtI c9 d9 = d9 by unfold rtI; rw [if_neg k1, if_neg k2, if_pos k3])
     go_wp2
     all_goals (go_ret; exact ⟨by rw [Hr.out]; first | rfl | exact ret_i (by omega), rB⟩)
    ·have Hr := hide (show rtI c9 d9 = c9 by unfold rtI; rw [if_neg k1, if_neg k2, if_neg k3])
     go_wp2
     all_goals (go_ret; exact ⟨by rw [Hr.out]; first | rfl | exact ret_i (by omega), rB⟩)
end Go.Proofs.YthlnpcneicmblaaGreatDoor
