/- Walks: when a track comes to a mark; the legs in a zone; the room time; of both. -/
import Derived.Test.YtlllfklehbjneaaGreatDoorZm
import Derived.BigQuiet
namespace Go.Proofs.YtlllfklehbjneaaGreatDoor
open Go.RowKit

/-- The time at which the first of some legs begins, or -1. -/
def hdT (T : Nat → Int) (L : List Int) : Int := match L with
  | [] => -1
  | p :: _ => T p.toNat
def cmI (x y z : Int) (n : Nat) (T U V : Nat → Int) : Int := hdT T (lgsZ x y z U V (n - 1))
def cmT (n2 : Nat) (T U V X Y Z : Nat → Int) (k : Int) : Int := cmI (X k.toNat) (Y k.toNat) (Z k.toNat) n2 T U V
def cmOk (co tr : Bool) (n : Nat) (k : Int) (n2 : Nat) (T U V X Y Z : Nat → Int) : Bool := zoC co tr n k == 0 && decide (0 ≤ cmT n2 T U V X Y Z k)
def cmC (co tr : Bool) (n : Nat) (k : Int) (n2 : Nat) (T U V X Y Z : Nat → Int) : Int := if zoC co tr n k == 0 then sel (decide (0 ≤ cmT n2 T U V X Y Z k)) 0 4 else zoC co tr n k
/-- The legs that are answered. -/
def lgL (co tr : Bool) (n : Nat) (k : Int) (n2 : Nat) (U V X Y Z : Nat → Int) : List Int := if zoC co tr n k = 0 then lgsZ (X k.toNat) (Y k.toNat) (Z k.toNat) U V (n2 - 1) else []
theorem lgL_len (co tr : Bool) (n : Nat) (k : Int) (n2 : Nat) (U V X Y Z : Nat → Int) : (lgL co tr n k n2 U V X Y Z).length ≤ n2 := by
  unfold lgL
  split
  · have := lgsZ_len (X k.toNat) (Y k.toNat) (Z k.toNat) U V (n2 - 1); omega
  · simp
theorem cmI_bd {x y z : Int} {n : Nat} {T U V : Nat → Int} (hv : isTr n T U V = true) : -1 ≤ cmI x y z n T U V ∧ cmI x y z n T U V ≤ 1000000000 := by
  unfold cmI
  rcases hL : lgsZ x y z U V (n - 1) with _ | ⟨p, tl⟩
  · show (-1 : Int) ≤ -1 ∧ (-1 : Int) ≤ _; omega
  · obtain ⟨j, rfl, hj⟩ := lgsZ_mem x y z U V (n - 1) p (by rw [hL]; exact List.mem_cons_self)
    obtain ⟨t0, t1, t2, _⟩ := isTr_leg (l := j) hv (by omega)
    show -1 ≤ T (Int.toNat j) ∧ T (Int.toNat j) ≤ _
    rw [Int.toNat_natCast]; omega
/-- The room time of two times, each -1 if there is none. -/
def rtI (c d : Int) : Int := if c < 0 then d else if d < 0 then c else if d < c then d else c
def rmT (n2 : Nat) (T U V : Nat → Int) (n3 : Nat) (T3 U3 V3 X Y Z : Nat → Int) (k : Int) : Int := rtI (cmT n2 T U V X Y Z k) (cmT n3 T3 U3 V3 X Y Z k)
def rmOk (co tr tu : Bool) (n : Nat) (k t : Int) : Bool := tu && (zoC co tr n k == 0 && decide (0 ≤ t))
def rmC (co tr tu : Bool) (n : Nat) (k t : Int) : Int := sel tu (if zoC co tr n k == 0 then sel (decide (0 ≤ t)) 0 4 else zoC co tr n k) 1
theorem zo_tt {co tr : Bool} {n : Nat} {k : Int} (h : zoC co tr n k = 0) : co = true ∧ tr = true ∧ 0 ≤ k ∧ k ≤ (n : Int) - 1 := by
  rcases zoC_two co tr n k with h' | h'
  · exact h'.2
  · exact absurd h h'
theorem own_nil {w : World} {B : Nat} {e : TypeId} : w.ownsRow B e 1 (.slice none 0 0) 0 [] := ⟨rfl, .inl ⟨rfl, rfl⟩⟩
/-- What LegsInZone returns. -/
def RetG (w : World) (L : List Int) (c : Int) (e : Ending) (w' : World) : Prop :=
  ∃ so cp, e = .returned (.tuple #[.slice so L.length cp, .int .i64 c]) ∧ w'.ownsRow w.heap.size 2 1 (.slice so L.length cp) L.length (L.map (Value.int .i64)) ∧ Below w.heap.size w w'
theorem own_head {w : World} {B : Nat} {e : TypeId} {g cp m : Nat} {p : Int} {xs : List Value} (h : w.ownsRow B e 1 (.slice (some ⟨g, 0, none⟩) m cp) m (.int .i64 p :: xs)) : w.cell? ⟨g, 0, none⟩ = some (.int .i64 p) := by
  have := h.cells (g := g) rfl 0 (.int .i64 p) rfl
  rwa [Addr.add_lit, Nat.zero_add] at this
set_option maxRecDepth 100000 in
set_option maxHeartbeats 8000000 in
theorem impl_LegsInZone (ax ay bx bY cx cy dx dy : Int) (so : Option Addr) (n cap : Nat) (N : Nat → ByteArray) (X Y S Z : Nat → Int) (k : Int) (so2 : Option Addr) (n2 cap2 : Nat) (T U V : Nat → Int) (w : World) (h : RowAt w so n 5 (v5 N X Y S Z)) (hn : n ≤ 1048576) (hcap : n ≤ cap) (h2 : RowAt w so2 n2 3 (v3 T U V)) (hn2 : n2 ≤ 1048576) :
    Calls Tryz.prog 10 #[.agg #[.int .i64 ax, .int .i64 ay, .int .i64 bx, .int .i64 bY, .int .i64 cx, .int .i64 cy, .int .i64 dx, .int .i64 dy, .slice so n cap], .int .i64 k, .agg #[.slice so2 n2 cap2]] w (RetG w (lgL (isCo ax ay bx bY cx cy dx dy n N X Y S Z) (isTr n2 T U V) n k n2 U V X Y Z) (zoC (isCo ax ay bx bY cx cy dx dy n N X Y S Z) (isTr n2 T U V) n k)) := by
  have KZ := fun W (hb : Below w.heap.size w W) => impl_zoneCode ax ay bx bY cx cy dx dy so n cap N X Y S Z k so2 n2 cap2 T U V W (RowAt.later hb h) hn hcap (RowAt.later hb h2) hn2
  rcases zoC_two (isCo ax ay bx bY cx cy dx dy n N X Y S Z) (isTr n2 T U V) n k with ⟨z, _⟩ | z
  · have Ho := hide (show lgL (isCo ax ay bx bY cx cy dx dy n N X Y S Z) (isTr n2 T U V) n k n2 U V X Y Z = lgsZ (X k.toNat) (Y k.toNat) (Z k.toNat) U V (n2 - 1) by unfold lgL; rw [if_pos z])
    have KZ2 := hide (z ▸ KZ)
    rw [Ho.out, z]
    clear Ho KZ
    obtain ⟨hco, htr, hk0, hk1⟩ := zo_tt z
    obtain ⟨hn2a, _, _⟩ := isTr_t htr
    obtain ⟨b2, o2, rfl, hb2, _, _, _⟩ := h2.at3 0 (by omega)
    obtain ⟨K, rfl⟩ := Int.eq_ofNat_of_zero_le hk0
    have hKn : K < n := by omega
    obtain ⟨_, hpt, _, hz1, hz2⟩ := isMk_t ((isCo_t hco).2.2.2.2 K hKn)
    obtain ⟨b, o, rfl, hbs, e0, e1, e2, e3, e4⟩ := h.at5 K hKn
    have hi0 : (0 : Int) ≤ (K : Int) := by omega
    have hi1 : (K : Int) < (n : Int) := by omega
    rw [Int.toNat_natCast]
    have KL := hide (fun W (hb : Below w.heap.size w W) => impl_legsInZone (N K) (X K) (Y K) (S K) (Z K) b2 o2 n2 cap2 T U V W (RowAt.later hb h2) htr hpt hz1 hz2)
    generalize lgsZ (X K) (Y K) (Z K) U V (n2 - 1) = L at *
    clear h h2 hco htr z hpt hz1 hz2 hk1
    go_enter Tryz.func10, Tryz.ntmps10
    go_upto_region 4 with (go_at_call 30; (with_reducible refine (KZ2.out _ (by repeat (first | with_reducible exact Below.refl _ _ | with_reducible assumption | with_reducible refine Below.drew ?_ | with_reducible refine below_drewN ?_ _ | with_reducible refine Below.setCell ?_ (by first | exact Nat.le_refl _ | (simp; done) | (simp; omega) | (dsimp only; omega)) _ | with_reducible refine Below.alloc ?_ (by first | exact Nat.le_refl _ | (simp; done) | (simp; omega) | (simp at *; omega)) _ | with_reducible refine bstep ?_ (by assumption)))).mono ?_); rintro e wB ⟨rfl, hb⟩)
    have t8 : wB.cell? ⟨w.heap.size, 8, none⟩ = some (.slice (some ⟨b, o, none⟩) n cap) := cell_later hb (by go_simp)
    have t0 : wB.cell? ⟨w.heap.size + 1, 0, none⟩ = some (.slice (some ⟨b2, o2, none⟩) n2 cap2) := cell_later hb (by go_simp)
    have HBB := hide (show Below w.heap.size w wB from (by repeat (first | with_reducible exact Below.refl _ _ | with_reducible assumption | with_reducible refine Below.drew ?_ | with_reducible refine below_drewN ?_ _ | with_reducible refine Below.setCell ?_ (by first | exact Nat.le_refl _ | (simp; done) | (simp; omega) | (dsimp only; omega)) _ | with_reducible refine Below.alloc ?_ (by first | exact Nat.le_refl _ | (simp; done) | (simp; omega) | (simp at *; omega)) _ | with_reducible refine bstep ?_ (by assumption))))
    have g0 := cell_later HBB.out e0
    have g1 := cell_later HBB.out e1
    have g2 := cell_later HBB.out e2
    have g3 := cell_later HBB.out e3
    have g4 := cell_later HBB.out e4
    have zB := HBB.out.size
    have zB1 : w.heap.size + 1 < wB.heap.size := World.block_lt_of_cell? _ _ t0
    have zB0 : w.heap.size < wB.heap.size := by omega
    have zBb : b < wB.heap.size := by omega
    clear hb e0 e1 e2 e3 e4
    refine wp_region_held_drew (S := fun W => Below wB.heap.size wB W) (by kernel_rfl) (Below.drew (Below.refl _ _)) (fun hHeld => ?_)
    refine wpAnyH_take (i := 0) (oi := ⟨some 16, _, _, _, _, _⟩) (v := ?_) rfl (by kernel_rfl) (by kernel_rfl) (by kernel_rfl) (fun _ _ _ h => h) (Or.inl ⟨by kernel_rfl, ?_⟩) (by assumption) ?_; rotate_left; focus (intro W0 hSw; go_simp; (try with_reducible rfl)); (try simp only [Act.put, List.setIfInBounds_toArray, List.set_cons_zero, List.set_cons_succ])
    refine wpAnyH_take (i := 1) (oi := ⟨some 17, _, _, _, _, _⟩) (v := ?_) rfl (by kernel_rfl) (by kernel_rfl) (by kernel_rfl) (fun _ _ _ h => h) (Or.inl ⟨by kernel_rfl, ?_⟩) (by assumption) ?_; rotate_left; focus (intro W0 hSw; have hcS := (bcell hSw).1; go_simp; (try with_reducible rfl)); (try simp only [Act.put, List.setIfInBounds_toArray, List.set_cons_zero, List.set_cons_succ])
    refine wpAnyH_take (i := 2) (oi := ⟨some 18, _, _, _, _, _⟩) (v := ?_) rfl (by kernel_rfl) (by kernel_rfl) (by kernel_rfl) (fun _ _ _ h => h) (Or.inl ⟨by kernel_rfl, ?_⟩) (by assumption) ?_; rotate_left; focus (intro W0 hSw; go_simp; (try with_reducible rfl)); (try simp only [Act.put, List.setIfInBounds_toArray, List.set_cons_zero, List.set_cons_succ])
    refine wpAnyH_take (i := 3) (oi := ⟨some 19, _, _, _, _, _⟩) (v := ?_) rfl (by kernel_rfl) (by kernel_rfl) (by kernel_rfl) (fun _ _ _ h => h) (Or.inl ⟨by kernel_rfl, ?_⟩) (by assumption) ?_; rotate_left; focus (intro W0 hSw; go_simp; (try with_reducible rfl)); (try simp only [Act.put, List.setIfInBounds_toArray, List.set_cons_zero, List.set_cons_succ])
    refine wpAnyH_take (i := 4) (oi := ⟨some 20, _, _, _, _, _⟩) (v := ?_) rfl (by kernel_rfl) (by kernel_rfl) (by kernel_rfl) (fun _ _ _ h => h) (Or.inl ⟨by kernel_rfl, ?_⟩) (by assumption) ?_; rotate_left; focus (intro W0 hSw; have hcS := (bcell hSw).1; go_simp; (try with_reducible rfl)); (try simp only [Act.put, List.setIfInBounds_toArray, List.set_cons_zero, List.set_cons_succ])
    refine wpAnyH_take (i := 5) (oi := ⟨some 21, _, _, _, _, _⟩) (v := ?_) rfl (by kernel_rfl) (by kernel_rfl) (by kernel_rfl) (fun _ _ _ h => h) (Or.inl ⟨by kernel_rfl, ?_⟩) (by assumption) ?_; rotate_left; focus (intro W0 hSw; have hcS := (bcell hSw).1; go_simp; (try with_reducible rfl)); (try simp only [Act.put, List.setIfInBounds_toArray, List.set_cons_zero, List.set_cons_succ])
    refine wpAnyH_ready (rs := [6]) (by kernel_rfl) (by simp) ?_; refine (AllReadyH.cons (o := ⟨some 22, _, _, _, _, _⟩) rfl (fun K hK => ?_) AllReadyH.nil)
    go_simp; (go_at_call 31; (with_reducible refine (KL.out _ (bstep HBB.out (by repeat (first | with_reducible exact Below.refl _ _ | with_reducible assumption | with_reducible refine Below.drew ?_ | with_reducible refine below_drewN ?_ _ | with_reducible refine Below.setCell ?_ (by first | exact Nat.le_refl _ | (simp; done) | (simp; omega) | (dsimp only; omega)) _ | with_reducible refine Below.alloc ?_ (by first | exact Nat.le_refl _ | (simp; done) | (simp; omega) | (simp at *; omega)) _ | with_reducible refine bstep ?_ (by assumption))))).mono ?_); rintro e w9 ⟨g9, cp9, rfl, hown, hb⟩; have Hown := hide hown; clear hown)
    all_goals (try go_wp2_with fail)
    refine hK.out _ _ ?_ (fun hH2 => ?_)
    · first | exact bstep hHeld hb | exact hHeld.trans hb | exact hHeld
    clear hK K hHeld; (have hHeld := hH2); clear hH2; (try simp only [Act.put, List.setIfInBounds_toArray, List.set_cons_zero, List.set_cons_succ])
    refine wpAnyH_take (i := 7) (oi := ⟨some 6, _, _, _, _, _⟩) (v := ?_) rfl (by kernel_rfl) (by kernel_rfl) (by kernel_rfl) (fun _ _ _ h => h) (Or.inl ⟨by kernel_rfl, ?_⟩) (by assumption) ?_; rotate_left; focus (intro W0 hSw; go_simp; (try with_reducible rfl)); (try simp only [Act.put, List.setIfInBounds_toArray, List.set_cons_zero, List.set_cons_succ])
    refine wpAnyH_take (i := 8) (oi := ⟨some 7, _, _, _, _, _⟩) (v := ?_) rfl (by kernel_rfl) (by kernel_rfl) (by kernel_rfl) (fun _ _ _ h => h) (Or.inl ⟨by kernel_rfl, ?_⟩) (by assumption) ?_; rotate_left; focus (intro W0 hSw; go_simp; (try with_reducible rfl)); (try simp only [Act.put, List.setIfInBounds_toArray, List.set_cons_zero, List.set_cons_succ])
    refine wpAnyH_done (by kernel_rfl) ?_ _; (try simp only [Act.put, List.setIfInBounds_toArray, List.set_cons_zero, List.set_cons_succ])
    go_wp2
    go_ret2
    exact ⟨_, _, rfl, Hown.out.mono (by first | omega | (simp; omega)), bstep HBB.out hHeld⟩
  · have Ho := hide (show lgL (isCo ax ay bx bY cx cy dx dy n N X Y S Z) (isTr n2 T U V) n k n2 U V X Y Z = [] by unfold lgL; rw [if_neg z])
    obtain ⟨c0, hc0⟩ : ∃ c, c = zoC (isCo ax ay bx bY cx cy dx dy n N X Y S Z) (isTr n2 T U V) n k := ⟨_, rfl⟩
    rw [Ho.out, ← hc0]
    rw [← hc0] at z
    have KZ2 := hide (hc0 ▸ KZ)
    have hcb : (c0 != 0) = true := bne_iff_ne.2 z
    clear KZ hc0 Ho h h2
    go_enter Tryz.func10, Tryz.ntmps10
    go_wp2_with (go_at_call 30; (with_reducible refine (KZ2.out _ (by repeat (first | with_reducible exact Below.refl _ _ | with_reducible assumption | with_reducible refine Below.drew ?_ | with_reducible refine below_drewN ?_ _ | with_reducible refine Below.setCell ?_ (by first | exact Nat.le_refl _ | (simp; done) | (simp; omega) | (dsimp only; omega)) _ | with_reducible refine Below.alloc ?_ (by first | exact Nat.le_refl _ | (simp; done) | (simp; omega) | (simp at *; omega)) _ | with_reducible refine bstep ?_ (by assumption)))).mono ?_); rintro e w9 ⟨rfl, hb⟩; obtain ⟨hc, hf⟩ := bcell hb; have hz := hb.size; have z0 : w.heap.size < w9.heap.size := (by first | omega | (simp at hz; omega)); have z1 : w.heap.size + 1 < w9.heap.size := (by first | omega | (simp at hz; omega)))
    go_ret2
    exact ⟨none, 0, rfl, own_nil, (by repeat (first | with_reducible exact Below.refl _ _ | with_reducible assumption | with_reducible refine Below.drew ?_ | with_reducible refine below_drewN ?_ _ | with_reducible refine Below.setCell ?_ (by first | exact Nat.le_refl _ | (simp; done) | (simp; omega) | (dsimp only; omega)) _ | with_reducible refine Below.alloc ?_ (by first | exact Nat.le_refl _ | (simp; done) | (simp; omega) | (simp at *; omega)) _ | with_reducible refine bstep ?_ (by assumption)))⟩
set_option maxRecDepth 100000 in
set_option maxHeartbeats 8000000 in
theorem spec_LegsInZone (ax ay bx bY cx cy dx dy : Int) (so : Option Addr) (n cap : Nat) (N : Nat → ByteArray) (X Y S Z : Nat → Int) (k : Int) (so2 : Option Addr) (n2 cap2 : Nat) (T U V : Nat → Int) (w : World) (h : RowAt w so n 5 (v5 N X Y S Z)) (hn : n ≤ 1048576) (h2 : RowAt w so2 n2 3 (v3 T U V)) (hn2 : n2 ≤ 1048576) :
    Calls Tryz.prog 7 #[.agg #[.int .i64 ax, .int .i64 ay, .int .i64 bx, .int .i64 bY, .int .i64 cx, .int .i64 cy, .int .i64 dx, .int .i64 dy, .slice so n cap], .int .i64 k, .agg #[.slice so2 n2 cap2]] w (RetG w (lgL (isCo ax ay bx bY cx cy dx dy n N X Y S Z) (isTr n2 T U V) n k n2 U V X Y Z) (zoC (isCo ax ay bx bY cx cy dx dy n N X Y S Z) (isTr n2 T U V) n k)) := by
  have KZ := fun W (hb : Below w.heap.size w W) => spec_l07Code ax ay bx bY cx cy dx dy so n cap N X Y S Z k so2 n2 cap2 T U V W (RowAt.later hb h) hn (RowAt.later hb h2) hn2
  rcases zoC_two (isCo ax ay bx bY cx cy dx dy n N X Y S Z) (isTr n2 T U V) n k with ⟨z, _⟩ | z
  · have Ho := hide (show lgL (isCo ax ay bx bY cx cy dx dy n N X Y S Z) (isTr n2 T U V) n k n2 U V X Y Z = lgsZ (X k.toNat) (Y k.toNat) (Z k.toNat) U V (n2 - 1) by unfold lgL; rw [if_pos z])
    have KZ2 := hide (z ▸ KZ)
    rw [Ho.out, z]
    clear Ho KZ
    obtain ⟨hco, htr, hk0, hk1⟩ := zo_tt z
    obtain ⟨hn2a, _, _⟩ := isTr_t htr
    obtain ⟨b2, o2, rfl, hb2, _, _, _⟩ := h2.at3 0 (by omega)
    obtain ⟨K, rfl⟩ := Int.eq_ofNat_of_zero_le hk0
    have hKn : K < n := by omega
    obtain ⟨_, hpt, _, hz1, hz2⟩ := isMk_t ((isCo_t hco).2.2.2.2 K hKn)
    obtain ⟨b, o, rfl, hbs, e0, e1, e2, e3, e4⟩ := h.at5 K hKn
    have hi0 : (0 : Int) ≤ (K : Int) := by omega
    have hi1 : (K : Int) < (n : Int) := by omega
    rw [Int.toNat_natCast]
    have KL := hide (fun W (hb : Below w.heap.size w W) => spec_l07Legs (N K) (X K) (Y K) (S K) (Z K) b2 o2 n2 cap2 T U V W (RowAt.later hb h2) htr hpt hz1 hz2)
    generalize lgsZ (X K) (Y K) (Z K) U V (n2 - 1) = L at *
    clear h h2 hco htr z hpt hz1 hz2 hk1
    go_enter Tryz.func7, Tryz.ntmps7
    go_upto_region 4 with (go_at_call 25; (with_reducible refine (KZ2.out _ (by repeat (first | with_reducible exact Below.refl _ _ | with_reducible assumption | with_reducible refine Below.drew ?_ | with_reducible refine below_drewN ?_ _ | with_reducible refine Below.setCell ?_ (by first | exact Nat.le_refl _ | (simp; done) | (simp; omega) | (dsimp only; omega)) _ | with_reducible refine Below.alloc ?_ (by first | exact Nat.le_refl _ | (simp; done) | (simp; omega) | (simp at *; omega)) _ | with_reducible refine bstep ?_ (by assumption)))).mono ?_); rintro e wB ⟨rfl, hb⟩)
    have t8 : wB.cell? ⟨w.heap.size, 8, none⟩ = some (.slice (some ⟨b, o, none⟩) n cap) := cell_later hb (by go_simp)
    have t0 : wB.cell? ⟨w.heap.size + 1, 0, none⟩ = some (.slice (some ⟨b2, o2, none⟩) n2 cap2) := cell_later hb (by go_simp)
    have HBB := hide (show Below w.heap.size w wB from (by repeat (first | with_reducible exact Below.refl _ _ | with_reducible assumption | with_reducible refine Below.drew ?_ | with_reducible refine below_drewN ?_ _ | with_reducible refine Below.setCell ?_ (by first | exact Nat.le_refl _ | (simp; done) | (simp; omega) | (dsimp only; omega)) _ | with_reducible refine Below.alloc ?_ (by first | exact Nat.le_refl _ | (simp; done) | (simp; omega) | (simp at *; omega)) _ | with_reducible refine bstep ?_ (by assumption))))
    have g0 := cell_later HBB.out e0
    have g1 := cell_later HBB.out e1
    have g2 := cell_later HBB.out e2
    have g3 := cell_later HBB.out e3
    have g4 := cell_later HBB.out e4
    have zB := HBB.out.size
    have zB1 : w.heap.size + 1 < wB.heap.size := World.block_lt_of_cell? _ _ t0
    have zB0 : w.heap.size < wB.heap.size := by omega
    have zBb : b < wB.heap.size := by omega
    clear hb e0 e1 e2 e3 e4
    refine wp_region_held_drew (S := fun W => Below wB.heap.size wB W) (by kernel_rfl) (Below.drew (Below.refl _ _)) (fun hHeld => ?_)
    refine wpAnyH_take (i := 0) (oi := ⟨some 17, _, _, _, _, _⟩) (v := ?_) rfl (by kernel_rfl) (by kernel_rfl) (by kernel_rfl) (fun _ _ _ h => h) (Or.inl ⟨by kernel_rfl, ?_⟩) (by assumption) ?_; rotate_left; focus (intro W0 hSw; go_simp; (try with_reducible rfl)); (try simp only [Act.put, List.setIfInBounds_toArray, List.set_cons_zero, List.set_cons_succ])
    refine wpAnyH_take (i := 1) (oi := ⟨some 18, _, _, _, _, _⟩) (v := ?_) rfl (by kernel_rfl) (by kernel_rfl) (by kernel_rfl) (fun _ _ _ h => h) (Or.inl ⟨by kernel_rfl, ?_⟩) (by assumption) ?_; rotate_left; focus (intro W0 hSw; have hcS := (bcell hSw).1; go_simp; (try with_reducible rfl)); (try simp only [Act.put, List.setIfInBounds_toArray, List.set_cons_zero, List.set_cons_succ])
    refine wpAnyH_take (i := 2) (oi := ⟨some 19, _, _, _, _, _⟩) (v := ?_) rfl (by kernel_rfl) (by kernel_rfl) (by kernel_rfl) (fun _ _ _ h => h) (Or.inl ⟨by kernel_rfl, ?_⟩) (by assumption) ?_; rotate_left; focus (intro W0 hSw; go_simp; (try with_reducible rfl)); (try simp only [Act.put, List.setIfInBounds_toArray, List.set_cons_zero, List.set_cons_succ])
    refine wpAnyH_take (i := 3) (oi := ⟨some 20, _, _, _, _, _⟩) (v := ?_) rfl (by kernel_rfl) (by kernel_rfl) (by kernel_rfl) (fun _ _ _ h => h) (Or.inl ⟨by kernel_rfl, ?_⟩) (by assumption) ?_; rotate_left; focus (intro W0 hSw; go_simp; (try with_reducible rfl)); (try simp only [Act.put, List.setIfInBounds_toArray, List.set_cons_zero, List.set_cons_succ])
    refine wpAnyH_take (i := 4) (oi := ⟨some 21, _, _, _, _, _⟩) (v := ?_) rfl (by kernel_rfl) (by kernel_rfl) (by kernel_rfl) (fun _ _ _ h => h) (Or.inl ⟨by kernel_rfl, ?_⟩) (by assumption) ?_; rotate_left; focus (intro W0 hSw; have hcS := (bcell hSw).1; go_simp; (try with_reducible rfl)); (try simp only [Act.put, List.setIfInBounds_toArray, List.set_cons_zero, List.set_cons_succ])
    refine wpAnyH_take (i := 5) (oi := ⟨some 22, _, _, _, _, _⟩) (v := ?_) rfl (by kernel_rfl) (by kernel_rfl) (by kernel_rfl) (fun _ _ _ h => h) (Or.inl ⟨by kernel_rfl, ?_⟩) (by assumption) ?_; rotate_left; focus (intro W0 hSw; have hcS := (bcell hSw).1; go_simp; (try with_reducible rfl)); (try simp only [Act.put, List.setIfInBounds_toArray, List.set_cons_zero, List.set_cons_succ])
    refine wpAnyH_ready (rs := [6]) (by kernel_rfl) (by simp) ?_; refine (AllReadyH.cons (o := ⟨some 23, _, _, _, _, _⟩) rfl (fun K hK => ?_) AllReadyH.nil)
    go_simp; (go_at_call 26; (with_reducible refine (KL.out _ (bstep HBB.out (by repeat (first | with_reducible exact Below.refl _ _ | with_reducible assumption | with_reducible refine Below.drew ?_ | with_reducible refine below_drewN ?_ _ | with_reducible refine Below.setCell ?_ (by first | exact Nat.le_refl _ | (simp; done) | (simp; omega) | (dsimp only; omega)) _ | with_reducible refine Below.alloc ?_ (by first | exact Nat.le_refl _ | (simp; done) | (simp; omega) | (simp at *; omega)) _ | with_reducible refine bstep ?_ (by assumption))))).mono ?_); rintro e w9 ⟨g9, cp9, rfl, hown, hb⟩; have Hown := hide hown; clear hown)
    all_goals (try go_wp2_with fail)
    refine hK.out _ _ ?_ (fun hH2 => ?_)
    · first | exact bstep hHeld hb | exact hHeld.trans hb | exact hHeld
    clear hK K hHeld; (have hHeld := hH2); clear hH2; (try simp only [Act.put, List.setIfInBounds_toArray, List.set_cons_zero, List.set_cons_succ])
    refine wpAnyH_take (i := 7) (oi := ⟨some 6, _, _, _, _, _⟩) (v := ?_) rfl (by kernel_rfl) (by kernel_rfl) (by kernel_rfl) (fun _ _ _ h => h) (Or.inl ⟨by kernel_rfl, ?_⟩) (by assumption) ?_; rotate_left; focus (intro W0 hSw; go_simp; (try with_reducible rfl)); (try simp only [Act.put, List.setIfInBounds_toArray, List.set_cons_zero, List.set_cons_succ])
    refine wpAnyH_take (i := 8) (oi := ⟨some 7, _, _, _, _, _⟩) (v := ?_) rfl (by kernel_rfl) (by kernel_rfl) (by kernel_rfl) (fun _ _ _ h => h) (Or.inl ⟨by kernel_rfl, ?_⟩) (by assumption) ?_; rotate_left; focus (intro W0 hSw; go_simp; (try with_reducible rfl)); (try simp only [Act.put, List.setIfInBounds_toArray, List.set_cons_zero, List.set_cons_succ])
    refine wpAnyH_done (by kernel_rfl) ?_ _; (try simp only [Act.put, List.setIfInBounds_toArray, List.set_cons_zero, List.set_cons_succ])
    go_wp2
    go_ret2
    exact ⟨_, _, rfl, Hown.out.mono (by first | omega | (simp; omega)), bstep HBB.out hHeld⟩
  · have Ho := hide (show lgL (isCo ax ay bx bY cx cy dx dy n N X Y S Z) (isTr n2 T U V) n k n2 U V X Y Z = [] by unfold lgL; rw [if_neg z])
    obtain ⟨c0, hc0⟩ : ∃ c, c = zoC (isCo ax ay bx bY cx cy dx dy n N X Y S Z) (isTr n2 T U V) n k := ⟨_, rfl⟩
    rw [Ho.out, ← hc0]
    rw [← hc0] at z
    have KZ2 := hide (hc0 ▸ KZ)
    have hcb : (c0 != 0) = true := bne_iff_ne.2 z
    clear KZ hc0 Ho h h2
    go_enter Tryz.func7, Tryz.ntmps7
    go_wp2_with (go_at_call 25; (with_reducible refine (KZ2.out _ (by repeat (first | with_reducible exact Below.refl _ _ | with_reducible assumption | with_reducible refine Below.drew ?_ | with_reducible refine below_drewN ?_ _ | with_reducible refine Below.setCell ?_ (by first | exact Nat.le_refl _ | (simp; done) | (simp; omega) | (dsimp only; omega)) _ | with_reducible refine Below.alloc ?_ (by first | exact Nat.le_refl _ | (simp; done) | (simp; omega) | (simp at *; omega)) _ | with_reducible refine bstep ?_ (by assumption)))).mono ?_); rintro e w9 ⟨rfl, hb⟩; obtain ⟨hc, hf⟩ := bcell hb; have hz := hb.size; have z0 : w.heap.size < w9.heap.size := (by first | omega | (simp at hz; omega)); have z1 : w.heap.size + 1 < w9.heap.size := (by first | omega | (simp at hz; omega)))
    go_ret2
    exact ⟨_, _, rfl, World.ownsRow_made (base := w.heap.size) (e := 2) (size := 1) _ #[] 0 (by omega) (by decide) rfl, (by repeat (first | with_reducible exact Below.refl _ _ | with_reducible assumption | with_reducible refine Below.drew ?_ | with_reducible refine below_drewN ?_ _ | with_reducible refine Below.setCell ?_ (by first | exact Nat.le_refl _ | (simp; done) | (simp; omega) | (dsimp only; omega)) _ | with_reducible refine Below.alloc ?_ (by first | exact Nat.le_refl _ | (simp; done) | (simp; omega) | (simp at *; omega)) _ | with_reducible refine bstep ?_ (by assumption)))⟩
end Go.Proofs.YtlllfklehbjneaaGreatDoor
