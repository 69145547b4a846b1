/- Walks: the visits of a zone, the reference's. -/
import Derived.Test.YtgcdgdnmcdffoaaDoorZv
import Derived.Test.YtgcdgdnmcdffoaaDoorBs
namespace Go.Proofs.YtgcdgdnmcdffoaaDoor
open Go.RowKit
theorem lgL_40 (co : Bool) (n : Nat) (k : Int) (n2 : Nat) (T U V X Y Z : Nat → Int) : (lgL co (isTr n2 T U V) n k n2 U V X Y Z).length ≤ 40 := by
 have h1 := lgL_len co (isTr n2 T U V) n k n2 U V X Y Z
 by_cases z : zoC co (isTr n2 T U V) n k = 0
 ·obtain ⟨_, htr, _⟩ := zo_tt z
  obtain ⟨_, h, _⟩ := isTr_t htr
  omega
 ·unfold lgL; rw [if_neg z]; exact Nat.zero_le _
set_option maxRecDepth 100000 in
set_option maxHeartbeats 8000000 in
theorem spec_VisitsOf (ax ay bx bY cx cy dx dy : Int) (so : Option Addr) (n cap : Nat) (N : Nat → ByteArray) (X Y S Z : Nat → Int) (k : Int) (so2 : Option Addr) (n2 cap2 : Nat) (T U V : Nat → Int) (w : World) (h : RowAt w so n 5 (v5 N X Y S Z)) (hn : n ≤ 1048576) (h2 : RowAt w so2 n2 3 (v3 T U V)) (hn2 : n2 ≤ 1048576) :
 Calls Tryd.prog 8 #[.agg #[.int .i64 ax, .int .i64 ay, .int .i64 bx, .int .i64 bY, .int .i64 cx, .int .i64 cy, .int .i64 dx, .int .i64 dy, .slice so n cap], .int .i64 k, .agg #[.slice so2 n2 cap2]] w (RetV w (lgL (isCo ax ay bx bY cx cy dx dy n N X Y S Z) (isTr n2 T U V) n k n2 U V X Y Z) (zoC (isCo ax ay bx bY cx cy dx dy n N X Y S Z) (isTr n2 T U V) n k)) := by
 obtain ⟨i0, hi, hz0, hz1, hz2⟩ := info_parts infoRowZ
 have Hi0 := hide hi
 have Hz0 := hide (And.intro hz0 (And.intro hz1 hz2))
 clear hi hz0 hz1 hz2
 have KZ := fun W (hb : Below w.heap.size w W) => spec_l07Code ax ay bx bY cx cy dx dy so n cap N X Y S Z k so2 n2 cap2 T U V W (RowAt.later hb h) hn (RowAt.later hb h2) hn2
 have HLn := lgL_len (isCo ax ay bx bY cx cy dx dy n N X Y S Z) (isTr n2 T U V) n k n2 U V X Y Z
 have HLb := hide (lgL_bd (isCo ax ay bx bY cx cy dx dy n N X Y S Z) (isTr n2 T U V) n k n2 U V X Y Z hn2)
 rcases zoC_two (isCo ax ay bx bY cx cy dx dy n N X Y S Z) (isTr n2 T U V) n k with ⟨z, _⟩ | z
 case inr =>
  have Ho := hide (show lgL (isCo ax ay bx bY cx cy dx dy n N X Y S Z) (isTr n2 T U V) n k n2 U V X Y Z = [] by unfold lgL; rw [if_neg z])
  obtain ⟨c0, hc0⟩ : ∃ c, c = zoC (isCo ax ay bx bY cx cy dx dy n N X Y S Z) (isTr n2 T U V) n k := ⟨_, rfl⟩
  rw [Ho.out, ← hc0]
  rw [← hc0] at z
  have KZ2 := hide (hc0 ▸ KZ)
  have hcb : (c0 != 0) = true := bne_iff_ne.2 z
  clear KZ hc0 Ho h h2 HLn HLb
  go_enter Tryd.func8, Tryd.ntmps8
  go_wp2_with (go_at_call 19; (with_reducible refine (KZ2.out _ bwz).mono ?_); rintro e w9 ⟨rfl, hb⟩; obtain ⟨hc, hf⟩ := bcell hb; have hz := hb.size; have z0 : w.heap.size < w9.heap.size := (by first | omega | (simp at hz; omega)); have z1 : w.heap.size + 1 < w9.heap.size := (by first | omega | (simp at hz; omega)); have z2 : w.heap.size + 1 + 1 < w9.heap.size := (by first | omega | (simp at hz; omega)))
  go_ret2
  exact ⟨_, _, rfl, .inl rfl, bwz⟩
 have Ho := hide (show lgL (isCo ax ay bx bY cx cy dx dy n N X Y S Z) (isTr n2 T U V) n k n2 U V X Y Z = lgsZ (X k.toNat) (Y k.toNat) (Z k.toNat) U V (n2 - 1) by unfold lgL; rw [if_pos z])
 have KZ2 := hide (z ▸ KZ)
 rw [z]
 clear KZ
 obtain ⟨hco, htr, hk0, hk1⟩ := zo_tt z
 obtain ⟨hn2a, _, _⟩ := isTr_t htr
 obtain ⟨b2', o2, rfl, hb2, _, _, _⟩ := h2.at3 0 (by omega)
 obtain ⟨K, rfl⟩ := Int.eq_ofNat_of_zero_le hk0
 have hKn : K < n := by omega
 obtain ⟨_, hpt, _, hz1, hz2⟩ := isMk_t ((isCo_t hco).2.2.2.2 K hKn)
 obtain ⟨b, o, rfl, hbs, e0, e1, e2, e3, e4⟩ := h.at5 K hKn
 have hi0 : (0 : Int) ≤ (K : Int) := by omega
 have hi1 : (K : Int) < (n : Int) := by omega
 have ho := Ho.out
 rw [Int.toNat_natCast] at ho
 have KL := hide (fun W (hb : Below w.heap.size w W) => ho ▸ spec_l07Legs (N K) (X K) (Y K) (S K) (Z K) b2' o2 n2 cap2 T U V W (RowAt.later hb h2) htr hpt hz1 hz2)
 clear ho Ho z
 generalize lgL (isCo ax ay bx bY cx cy dx dy n N X Y S Z) (isTr n2 T U V) n (K : Int) n2 U V X Y Z = L at *
 clear h h2 hco htr hpt hz1 hz2 hk1
 go_enter Tryd.func8, Tryd.ntmps8
 go_upto_region 5 with (go_at_call 19; (with_reducible refine (KZ2.out _ bwz).mono ?_); rintro e wB ⟨rfl, hb⟩)
 have t8 : wB.cell? ⟨w.heap.size, 8, none⟩ = some (.slice (some ⟨b, o, none⟩) n cap) := cell_later hb (by go_simp)
 have t0 : wB.cell? ⟨w.heap.size + 1, 0, none⟩ = some (.slice (some ⟨b2', o2, none⟩) n2 cap2) := cell_later hb (by go_simp)
 have HBB := hide (show Below w.heap.size w wB from bwz)
 have hT0 := hide (show Tw wB (w.heap.size + 1 + 1) 40 (.slice (some ⟨w.heap.size + 1 + 1, 0, none⟩) 0 0) 0 (vsA (gtI L) 0) (vsB (gtI L) 0) by
  have hm := Tw.nil (w := ((w.alloc (.cells #[.int .i64 ax, .int .i64 ay, .int .i64 bx, .int .i64 bY, .int .i64 cx, .int .i64 cy, .int .i64 dx, .int .i64 dy, .slice (some ⟨b, o, none⟩) n cap] 30)).alloc (.cells #[.slice (some ⟨b2', o2, none⟩) n2 cap2] 33))) (B := w.heap.size + 1 + 1) (e := 40) (P := vsA (gtI L) 0) (Q := vsB (gtI L) 0) (by simp)
  simp only [size_al] at hm
  exact Tw.later hm hb)
 have g0 := cell_later HBB.out e0
 have g1 := cell_later HBB.out e1
 have g2 := cell_later HBB.out e2
 have g3 := cell_later HBB.out e3
 have g4 := cell_later HBB.out e4
 have zB := HBB.out.size
 have zB2 : w.heap.size + 1 + 1 < wB.heap.size := by have := hb.size; simp at this; omega
 have zB1 : w.heap.size + 1 < wB.heap.size := by omega
 have zB0 : w.heap.size < wB.heap.size := by omega
 have zBb : b < wB.heap.size := by omega
 clear hb e0 e1 e2 e3 e4
 refine wp_region_held_drew (S := fun W => Below wB.heap.size wB W) (by kernel_rfl) (Below.drew (Below.refl _ _)) (fun hHeld => ?_)
 refine tkN 0 (some 22) rfl ?_; simp only [pz]
 refine tkL 1 (some 23) rfl ?_; simp only [pz]
 refine tkN 2 (some 24) rfl ?_; simp only [pz]
 refine tkN 3 (some 25) rfl ?_; simp only [pz]
 refine tkL 4 (some 26) rfl ?_; simp only [pz]
 refine tkL 5 (some 27) rfl ?_; simp only [pz]
 refine rd1 6 (some 28) rfl (fun K hK => ?_)
 go_simp; (go_at_call 20; (with_reducible refine (KL.out _ (bstep HBB.out bwz)).mono ?_); rintro e w9 ⟨gz, cpz, rfl, hown, hb⟩; have hgz := hown.lt gz rfl; have HZ := hide (OwZ.of hown).read; clear hown)
 all_goals (try go_wp2_with fail)
 refine hK.out _ _ ?_ (fun hH2 => ?_)
 ·exact hhz
 clear hK K hHeld; (have hHeld := hH2); clear hH2; (try simp only [pz])
 refine tkN 7 (some 10) rfl ?_; simp only [pz]
 refine wpAnyH_done (by kernel_rfl) ?_ _; (try simp only [pz])
 obtain ⟨wL, rfl⟩ : ∃ W : World, W = w9 := ⟨_, rfl⟩
 have HTL := hide (Tw.later hT0.out hHeld)
 have HBL := hide (bstep HBB.out hHeld)
 have HZ2 := hide (show RowAt wL (some ⟨gz, 0, none⟩) L.length 1 (v1 (gtI L)) from HZ.out)
 have zL := hHeld.size
 have hgz1 : w.heap.size + 1 + 1 < gz := by have := hgz.1; (try simp at this); omega
 have hgz2 := hgz.2
 clear hHeld hb t8 t0 g0 g1 g2 g3 g4 HBB hT0 HZ hgz KL KZ2
 go_wp2
 go_loopw [8, 11] (fun v i wr => ∃ k g9 cp9 : Nat, k ≤ L.length ∧ i = .int .i64 k ∧ v = .slice (some ⟨g9, 0, none⟩) (vsN (gtI L) k) cp9 ∧ Hid (Tw wr (w.heap.size + 1 + 1) 40 (.slice (some ⟨g9, 0, none⟩) (vsN (gtI L) k) cp9) (vsN (gtI L) k) (vsA (gtI L) k) (vsB (gtI L) k)) ∧ Hid (RowAt wr (some ⟨gz, 0, none⟩) L.length 1 (v1 (gtI L))) ∧ Hid (∀ G C : Nat → Nat, TwR wr (w.heap.size + 1 + 1) (.slice (some ⟨g9, 0, none⟩) (vsN (gtI L) k) cp9) (vsN (gtI L) k) (vsA (gtI L) k) (vsB (gtI L) k) G → True) ∧ g9 ≠ gz ∧ gz < wr.heap.size ∧ Below w.heap.size w wr) (fun _ i _ => L.length - (intOf i).toNat)
 case atStart => exact ⟨0, w.heap.size + 1 + 1, 0, Nat.zero_le _, rfl, rfl, HTL, HZ2, hide (fun _ _ _ => trivial), by omega, hgz2, HBL.out⟩
 case round =>
  obtain ⟨k, g9, cp9, hk, rfl, rfl, HT, HZ, _, hne, hgw, hbl⟩ := hrel
  clear HTL HZ2
  have zr := hbl.size
  obtain ⟨G0, C0, hOut0, _⟩ := HT.out.open
  have hg9 := hOut0.lt g9 rfl
  clear hOut0
  have HBr := hide hbl
  by_cases hlt : k < L.length
  ·obtain ⟨bz, oz, hso, hbs2, c0⟩ := HZ.out.at1 k hlt
   simp only [Option.some.injEq, Addr.mk.injEq, and_true] at hso
   obtain ⟨hb9, ho9⟩ := hso
   subst ho9
   rw [← hb9] at c0 hbs2
   clear hb9
   simp only [v1, Nat.zero_add] at c0
   have hvn := vsN_le (gtI L) k
   obtain ⟨hb1, hb2'⟩ := HLb.out k
   have hj1 : (0 : Int) ≤ (k : Int) := by omega
   have hj2 : (k : Int) < (L.length : Int) := by omega
   have we2 : IntKind.i64.wrap (gtI L k - 1) = gtI L k - 1 := IntWalk.i64_in _ (by omega)
   rcases Nat.eq_zero_or_pos k with hk0 | hk0
   ·have hc : vsC (gtI L) k = false := by rw [hk0]; rfl
    have Hn := hide (show vsN (gtI L) (k + 1) = vsN (gtI L) k + 1 by rw [vsN, if_neg (by rw [hc]; decide)])
    have HA := hide (show vsA (gtI L) (k + 1) = (fun j => if j = vsN (gtI L) k then gtI L k else vsA (gtI L) k j) by rw [vsA, if_neg (by rw [hc]; decide)])
    have HB := hide (show vsB (gtI L) (k + 1) = (fun j => if j = vsN (gtI L) k then gtI L k else vsB (gtI L) k j) by rw [vsB, if_neg (by rw [hc]; decide)])
    have hv1 : vsN (gtI L) k = 0 := by rw [hk0]; rfl
    have hv0 : ¬ 0 < vsN (gtI L) k := by omega
    clear hv1
    clear hc hk0
    go_upto_region 10 with fail
    refine wp_region_held_drew (S := fun W => Below wr.heap.size wr W) (by kernel_rfl) (Below.drew (Below.refl _ _)) (fun hHeld => ?_)
    refine tkN 0 (some 37) rfl ?_; simp only [pz]
    refine tkN 1 (some 38) rfl ?_; simp only [pz]
    refine tkN 2 (some 39) rfl ?_; simp only [pz]
    refine tkO 3 (some 40) rfl ?_; simp only [pz]
    refine tkO 4 (some 41) rfl ?_; simp only [pz]
    refine tkO 5 (some 42) rfl ?_; simp only [pz]
    refine tkO 6 (some 43) rfl ?_; simp only [pz]
    refine tkO 7 (some 44) rfl ?_; simp only [pz]
    refine tkO 8 (some 45) rfl ?_; simp only [pz]
    refine tkO 9 (some 46) rfl ?_; simp only [pz]
    refine tkO 10 (some 47) rfl ?_; simp only [pz]
    refine tkO 11 (some 48) rfl ?_; simp only [pz]
    refine tkO 12 (some 49) rfl ?_; simp only [pz]
    refine tkO 13 (some 50) rfl ?_; simp only [pz]
    refine tkO 14 (some 51) rfl ?_; simp only [pz]
    refine tkO 15 (some 52) rfl ?_; simp only [pz]
    refine tkN 16 (some 53) rfl ?_; simp only [pz]
    refine wpAnyH_done (by kernel_rfl) ?_ _; (try simp only [pz])
    obtain ⟨wQ, hQ⟩ : ∃ W, W = wr.drew := ⟨_, rfl⟩
    rw [← hQ] at hHeld ⊢
    have HTQ := hide (Tw.later HT.out hHeld)
    have HZQ := hide (RowAt.later hHeld HZ.out)
    have hbQ := bstep hbl hHeld
    have c0Q := cell_later hHeld c0
    have zQ := hHeld.size
    have gwQ : gz < wQ.heap.size := by omega
    clear hQ hHeld HT HZ c0
    obtain ⟨G, C, hOut, hR⟩ := HTQ.out.open
    have hgq := (hOut.lt g9 rfl).2
    have zz0 := hbQ.size
    go_upto_region 12 with fail
    refine wp_region_held_drew (S := fun W => W.cell? ⟨gz, k, none⟩ = some (.int .i64 (gtI L k)) ∧ Below w.heap.size w W) (by kernel_rfl) (⟨by simpa using c0Q, Below.drew hbQ⟩) (fun hHeld => ?_)
    refine wpAnyH_take (i := 0) (oi := ⟨some 70, _, _, _, _, _⟩) (v := ?_) rfl (by kernel_rfl) (by kernel_rfl) (by kernel_rfl) (fun _ _ _ h => h) (Or.inl ⟨by kernel_rfl, ?_⟩) (by assumption) ?_; rotate_left; focus (intro W0 hSw; (have hSw1 := hSw.1); go_simp; (try with_reducible rfl)); (try simp only [pz])
    refine wpAnyH_take (i := 1) (oi := ⟨some 71, _, _, _, _, _⟩) (v := ?_) rfl (by kernel_rfl) (by kernel_rfl) (by kernel_rfl) (fun _ _ _ h => h) (Or.inl ⟨by kernel_rfl, ?_⟩) (by assumption) ?_; rotate_left; focus (intro W0 hSw; (have hSw1 := hSw.1); go_simp; (try with_reducible rfl)); (try simp only [pz])
    refine wpAnyH_take (i := 2) (oi := ⟨some 72, _, _, _, _, _⟩) (v := ?_) rfl (by kernel_rfl) (by kernel_rfl) (by kernel_rfl) (fun _ _ _ h => h) (Or.inl ⟨by kernel_rfl, ?_⟩) (by assumption) ?_; rotate_left; focus (intro W0 hSw; (have hSw1 := hSw.1); go_simp; (try with_reducible rfl)); (try simp only [pz])
    refine wpAnyH_take (i := 3) (oi := ⟨some 73, _, _, _, _, _⟩) (v := ?_) rfl (by kernel_rfl) (by kernel_rfl) (by kernel_rfl) (fun _ _ _ h => h) (Or.inl ⟨by kernel_rfl, ?_⟩) (by assumption) ?_; rotate_left; focus (intro W0 hSw; (have hSw1 := hSw.1); go_simp; (try with_reducible rfl)); (try simp only [pz])
    refine wpAnyH_take (i := 4) (oi := ⟨some 74, _, _, _, _, _⟩) (v := ?_) rfl (by kernel_rfl) (by kernel_rfl) (by kernel_rfl) (fun _ _ _ h => h) (Or.inl ⟨by kernel_rfl, ?_⟩) (by assumption) ?_; rotate_left; focus (intro W0 hSw; (have hSw1 := hSw.1); go_simp; (try with_reducible rfl)); (try simp only [pz])
    refine wpAnyH_take (i := 5) (oi := ⟨some 75, _, _, _, _, _⟩) (v := ?_) rfl (by kernel_rfl) (by kernel_rfl) (by kernel_rfl) (fun _ _ _ h => h) (Or.inl ⟨by kernel_rfl, ?_⟩) (by assumption) ?_; rotate_left; focus (intro W0 hSw; (have hSw1 := hSw.1); go_simp; (try with_reducible rfl)); (try simp only [pz])
    refine wpAnyH_take (i := 6) (oi := ⟨some 76, _, _, _, _, _⟩) (v := ?_) rfl (by kernel_rfl) (by kernel_rfl) (by kernel_rfl) (fun _ _ _ h => h) (Or.inl ⟨by kernel_rfl, ?_⟩) (by assumption) ?_; rotate_left; focus (intro W0 hSw; (have hSw1 := hSw.1); go_simp; (try with_reducible rfl)); (try simp only [pz])
    refine wpAnyH_take (i := 7) (oi := ⟨some 77, _, _, _, _, _⟩) (v := ?_) rfl (by kernel_rfl) (by kernel_rfl) (by kernel_rfl) (fun _ _ _ h => h) (Or.inl ⟨by kernel_rfl, ?_⟩) (by assumption) ?_; rotate_left; focus (intro W0 hSw; (have hSw1 := hSw.1); go_simp; (try with_reducible rfl)); (try simp only [pz])
    refine wpAnyH_take (i := 8) (oi := ⟨some 78, _, _, _, _, _⟩) (v := ?_) rfl (by kernel_rfl) (by kernel_rfl) (by kernel_rfl) (fun _ _ _ h => h) (Or.inl ⟨by kernel_rfl, ?_⟩) (by assumption) ?_; rotate_left; focus (intro W0 hSw; (have hSw1 := hSw.1); go_simp; (try with_reducible rfl)); (try simp only [pz])
    refine rd1 9 (some 79) rfl (fun K hK => ?_)
    go_simp
    all_goals (try go_wp2_with fail)
    refine hK.out _ _ (⟨cell_alloc hHeld.1, Below.alloc hHeld.2 hHeld.2.size _⟩) (fun hH2 => ?_)
    clear hK K hHeld; (have hHeld := hH2); clear hH2; (try simp only [pz])
    refine rd1 10 (some 80) rfl (fun K hK => ?_)
    go_simp
    all_goals (try go_wp2_with fail)
    refine hK.out _ _ (⟨cell_alloc hHeld.1, Below.alloc hHeld.2 hHeld.2.size _⟩) (fun hH2 => ?_)
    clear hK K hHeld; (have hHeld := hH2); clear hH2; (try simp only [pz])
    refine rd1 11 (some 81) rfl (fun K hK => ?_)
    refine step_append_lies _ (by rfl) _ _ 36 (by rfl) (w.heap.size + 1 + 1) 40 i0 _ 1 24 Tryd.underlying36 Hi0.out Hz0.out.1 Hz0.out.2.1 Hz0.out.2.2 (by rfl) (by decide) (.slice (some ⟨g9, 0, none⟩) (vsN (gtI L) k) cp9) (vsN (gtI L) k) _ (by rfl) ((hOut.drew.alloc _).alloc _) ⟨wQ.heap.size + 1, 0, none⟩ 1 1 [.slice (some ⟨wQ.heap.size, 0, none⟩) 2 2] (by rfl) (by rfl) (new1b (W := wQ.drew)) (fun u hu => by simp only [List.mem_singleton] at hu; subst hu; rfl) (by decide) (by unfold maxLen; omega) (by omega) (by simp; omega) (wQ.heap.size + 1 + 1) (by simp) ?_
    intro g' cap' wA hown' hgr hat hlt'
    refine hK.out _ _ (⟨(gcell hgr gz k (by simp; omega) (by show gz ≠ g9; omega)).trans hHeld.1, hHeld.2.trans (own_grown ((hOut.drew.alloc _).alloc _) (by simp; omega) hgr |>.mono (by omega))⟩) (fun hH2 => ?_)
    clear hK K hHeld; (have hHeld := hH2); clear hH2; (try simp only [pz])
    refine wpAnyH_take (i := 12) (oi := ⟨some 8, _, _, _, _, _⟩) (v := ?_) rfl (by kernel_rfl) (by kernel_rfl) (by kernel_rfl) (fun _ _ _ h => h) (Or.inl ⟨by kernel_rfl, ?_⟩) (by assumption) ?_; rotate_left; focus (intro W0 hSw; (have hSw1 := hSw.1); go_simp; (try with_reducible rfl)); (try simp only [pz])
    refine wpAnyH_done (by kernel_rfl) ?_ _; (try simp only [pz])
    have hTA := hide (Tw.app (w0 := wQ) (H := wQ.heap.size + 1 + 1) (x := wQ.heap.size) (p := gtI L k) (q := gtI L k) (c := 2) hR (Below.alloc (Below.alloc (Below.drew (Below.refl _ _)) (Nat.le_refl _) _) (by simp) _) (Nat.le_refl _) (by omega) (by simp; omega) (by omega) (by go_simp) (by go_simp) (by go_simp) (by go_simp) hown' hgr (hat.imp (fun k => by simp only [Value.ownBlock, Option.some.injEq] at k; exact k.symm) id) (by simp))
    have HZA := hide (grown_row (so := some ⟨gz, 0, none⟩) hgr (fun b o e => by simp only [Option.some.injEq, Addr.mk.injEq, and_true] at e; show b ≠ g9; omega) (RowAt.later (Below.alloc (Below.alloc (Below.drew (Below.refl _ _)) (Nat.le_refl _) _) (by simp) _) HZQ.out))
    have hne' : g' ≠ gz := by rcases hat with k | k; (simp only [Value.ownBlock, Option.some.injEq] at k; omega); omega
    have szA : gz < wA.heap.size := by have := hgr.size; simp at this; omega
    have HBA := hide hHeld.2
    clear hown' hgr hat hOut hR hHeld
    go_wp2
    go_roundw
    case rel => exact ⟨k + 1, g', cap', by omega, by go_num, by rw [Hn.out], by rw [Hn.out, HA.out, HB.out]; exact hTA, HZA, hide (fun _ _ _ => trivial), hne', szA, HBA.out⟩
    case measure => simp [intOf]; omega
   ·have hp := vsN_pos (f := gtI L) hk0
    obtain ⟨x, c, q1, q2, q3, q4, q5, q6, q7, q8, q9, _⟩ := HT.out.at (i := vsN (gtI L) k - 1) (by omega)
    rw [vsB_last hk0] at q7
    have heq := vsC_eq (f := gtI L) hk0
    have hv0 : 0 < vsN (gtI L) k := by omega
    have we4 : IntKind.i64.wrap ((vsN (gtI L) k : Int) - 1) = ((vsN (gtI L) k - 1 : Nat) : Int) := by rw [show (vsN (gtI L) k : Int) - 1 = ((vsN (gtI L) k - 1 : Nat) : Int) by omega]; exact IntWalk.i64_in _ (by omega)
    have hj5 : ((vsN (gtI L) k - 1 : Nat) : Int) < (vsN (gtI L) k : Int) := by omega
    rcases b2 (vsC (gtI L) k) with hc | hc
    ·have heq2 : (gtI L (k - 1) == gtI L k - 1) = false := by rw [← heq]; exact hc
     have Hn := hide (show vsN (gtI L) (k + 1) = vsN (gtI L) k + 1 by rw [vsN, if_neg (by rw [hc]; decide)])
     have HA := hide (show vsA (gtI L) (k + 1) = (fun j => if j = vsN (gtI L) k then gtI L k else vsA (gtI L) k j) by rw [vsA, if_neg (by rw [hc]; decide)])
     have HB := hide (show vsB (gtI L) (k + 1) = (fun j => if j = vsN (gtI L) k then gtI L k else vsB (gtI L) k j) by rw [vsB, if_neg (by rw [hc]; decide)])
     clear hc heq
     go_upto_region 10 with fail
     refine wp_region_held_drew (S := fun W => Below wr.heap.size wr W) (by kernel_rfl) (Below.drew (Below.refl _ _)) (fun hHeld => ?_)
     refine tkN 0 (some 37) rfl ?_; simp only [pz]
     refine tkN 1 (some 38) rfl ?_; simp only [pz]
     refine tkN 2 (some 39) rfl ?_; simp only [pz]
     refine tkN 3 (some 40) rfl ?_; simp only [pz]
     refine tkN 4 (some 41) rfl ?_; simp only [pz]
     refine tkN 5 (some 42) rfl ?_; simp only [pz]
     refine tkN 6 (some 43) rfl ?_; simp only [pz]
     refine tkL 7 (some 44) rfl ?_; simp only [pz]
     refine tkN 8 (some 45) rfl ?_; simp only [pz]
     refine tkL 9 (some 46) rfl ?_; simp only [pz]
     refine tkN 10 (some 47) rfl ?_; simp only [pz]
     refine tkN 11 (some 48) rfl ?_; simp only [pz]
     refine tkN 12 (some 49) rfl ?_; simp only [pz]
     refine tkL 13 (some 50) rfl ?_; simp only [pz]
     refine tkN 14 (some 51) rfl ?_; simp only [pz]
     refine tkN 15 (some 52) rfl ?_; simp only [pz]
     refine tkN 16 (some 53) rfl ?_; simp only [pz]
     refine wpAnyH_done (by kernel_rfl) ?_ _; (try simp only [pz])
     clear q1 q2 q3 q4 q5 q6 q7 q8 q9 heq2 we4
     obtain ⟨wQ, hQ⟩ : ∃ W, W = wr.drew := ⟨_, rfl⟩
     rw [← hQ] at hHeld ⊢
     have HTQ := hide (Tw.later HT.out hHeld)
     have HZQ := hide (RowAt.later hHeld HZ.out)
     have hbQ := bstep hbl hHeld
     have c0Q := cell_later hHeld c0
     have zQ := hHeld.size
     have gwQ : gz < wQ.heap.size := by omega
     clear hQ hHeld HT HZ c0
     obtain ⟨G, C, hOut, hR⟩ := HTQ.out.open
     have hgq := (hOut.lt g9 rfl).2
     have zz0 := hbQ.size
     go_upto_region 12 with fail
     refine wp_region_held_drew (S := fun W => W.cell? ⟨gz, k, none⟩ = some (.int .i64 (gtI L k)) ∧ Below w.heap.size w W) (by kernel_rfl) (⟨by simpa using c0Q, Below.drew hbQ⟩) (fun hHeld => ?_)
     refine wpAnyH_take (i := 0) (oi := ⟨some 70, _, _, _, _, _⟩) (v := ?_) rfl (by kernel_rfl) (by kernel_rfl) (by kernel_rfl) (fun _ _ _ h => h) (Or.inl ⟨by kernel_rfl, ?_⟩) (by assumption) ?_; rotate_left; focus (intro W0 hSw; (have hSw1 := hSw.1); go_simp; (try with_reducible rfl)); (try simp only [pz])
     refine wpAnyH_take (i := 1) (oi := ⟨some 71, _, _, _, _, _⟩) (v := ?_) rfl (by kernel_rfl) (by kernel_rfl) (by kernel_rfl) (fun _ _ _ h => h) (Or.inl ⟨by kernel_rfl, ?_⟩) (by assumption) ?_; rotate_left; focus (intro W0 hSw; (have hSw1 := hSw.1); go_simp; (try with_reducible rfl)); (try simp only [pz])
     refine wpAnyH_take (i := 2) (oi := ⟨some 72, _, _, _, _, _⟩) (v := ?_) rfl (by kernel_rfl) (by kernel_rfl) (by kernel_rfl) (fun _ _ _ h => h) (Or.inl ⟨by kernel_rfl, ?_⟩) (by assumption) ?_; rotate_left; focus (intro W0 hSw; (have hSw1 := hSw.1); go_simp; (try with_reducible rfl)); (try simp only [pz])
     refine wpAnyH_take (i := 3) (oi := ⟨some 73, _, _, _, _, _⟩) (v := ?_) rfl (by kernel_rfl) (by kernel_rfl) (by kernel_rfl) (fun _ _ _ h => h) (Or.inl ⟨by kernel_rfl, ?_⟩) (by assumption) ?_; rotate_left; focus (intro W0 hSw; (have hSw1 := hSw.1); go_simp; (try with_reducible rfl)); (try simp only [pz])
     refine wpAnyH_take (i := 4) (oi := ⟨some 74, _, _, _, _, _⟩) (v := ?_) rfl (by kernel_rfl) (by kernel_rfl) (by kernel_rfl) (fun _ _ _ h => h) (Or.inl ⟨by kernel_rfl, ?_⟩) (by assumption) ?_; rotate_left; focus (intro W0 hSw; (have hSw1 := hSw.1); go_simp; (try with_reducible rfl)); (try simp only [pz])
     refine wpAnyH_take (i := 5) (oi := ⟨some 75, _, _, _, _, _⟩) (v := ?_) rfl (by kernel_rfl) (by kernel_rfl) (by kernel_rfl) (fun _ _ _ h => h) (Or.inl ⟨by kernel_rfl, ?_⟩) (by assumption) ?_; rotate_left; focus (intro W0 hSw; (have hSw1 := hSw.1); go_simp; (try with_reducible rfl)); (try simp only [pz])
     refine wpAnyH_take (i := 6) (oi := ⟨some 76, _, _, _, _, _⟩) (v := ?_) rfl (by kernel_rfl) (by kernel_rfl) (by kernel_rfl) (fun _ _ _ h => h) (Or.inl ⟨by kernel_rfl, ?_⟩) (by assumption) ?_; rotate_left; focus (intro W0 hSw; (have hSw1 := hSw.1); go_simp; (try with_reducible rfl)); (try simp only [pz])
     refine wpAnyH_take (i := 7) (oi := ⟨some 77, _, _, _, _, _⟩) (v := ?_) rfl (by kernel_rfl) (by kernel_rfl) (by kernel_rfl) (fun _ _ _ h => h) (Or.inl ⟨by kernel_rfl, ?_⟩) (by assumption) ?_; rotate_left; focus (intro W0 hSw; (have hSw1 := hSw.1); go_simp; (try with_reducible rfl)); (try simp only [pz])
     refine wpAnyH_take (i := 8) (oi := ⟨some 78, _, _, _, _, _⟩) (v := ?_) rfl (by kernel_rfl) (by kernel_rfl) (by kernel_rfl) (fun _ _ _ h => h) (Or.inl ⟨by kernel_rfl, ?_⟩) (by assumption) ?_; rotate_left; focus (intro W0 hSw; (have hSw1 := hSw.1); go_simp; (try with_reducible rfl)); (try simp only [pz])
     refine rd1 9 (some 79) rfl (fun K hK => ?_)
     go_simp
     all_goals (try go_wp2_with fail)
     refine hK.out _ _ (⟨cell_alloc hHeld.1, Below.alloc hHeld.2 hHeld.2.size _⟩) (fun hH2 => ?_)
     clear hK K hHeld; (have hHeld := hH2); clear hH2; (try simp only [pz])
     refine rd1 10 (some 80) rfl (fun K hK => ?_)
     go_simp
     all_goals (try go_wp2_with fail)
     refine hK.out _ _ (⟨cell_alloc hHeld.1, Below.alloc hHeld.2 hHeld.2.size _⟩) (fun hH2 => ?_)
     clear hK K hHeld; (have hHeld := hH2); clear hH2; (try simp only [pz])
     refine rd1 11 (some 81) rfl (fun K hK => ?_)
     refine step_append_lies _ (by rfl) _ _ 36 (by rfl) (w.heap.size + 1 + 1) 40 i0 _ 1 24 Tryd.underlying36 Hi0.out Hz0.out.1 Hz0.out.2.1 Hz0.out.2.2 (by rfl) (by decide) (.slice (some ⟨g9, 0, none⟩) (vsN (gtI L) k) cp9) (vsN (gtI L) k) _ (by rfl) ((hOut.drew.alloc _).alloc _) ⟨wQ.heap.size + 1, 0, none⟩ 1 1 [.slice (some ⟨wQ.heap.size, 0, none⟩) 2 2] (by rfl) (by rfl) (new1b (W := wQ.drew)) (fun u hu => by simp only [List.mem_singleton] at hu; subst hu; rfl) (by decide) (by unfold maxLen; omega) (by omega) (by simp; omega) (wQ.heap.size + 1 + 1) (by simp) ?_
     intro g' cap' wA hown' hgr hat hlt'
     refine hK.out _ _ (⟨(gcell hgr gz k (by simp; omega) (by show gz ≠ g9; omega)).trans hHeld.1, hHeld.2.trans (own_grown ((hOut.drew.alloc _).alloc _) (by simp; omega) hgr |>.mono (by omega))⟩) (fun hH2 => ?_)
     clear hK K hHeld; (have hHeld := hH2); clear hH2; (try simp only [pz])
     refine wpAnyH_take (i := 12) (oi := ⟨some 8, _, _, _, _, _⟩) (v := ?_) rfl (by kernel_rfl) (by kernel_rfl) (by kernel_rfl) (fun _ _ _ h => h) (Or.inl ⟨by kernel_rfl, ?_⟩) (by assumption) ?_; rotate_left; focus (intro W0 hSw; (have hSw1 := hSw.1); go_simp; (try with_reducible rfl)); (try simp only [pz])
     refine wpAnyH_done (by kernel_rfl) ?_ _; (try simp only [pz])
     have hTA := hide (Tw.app (w0 := wQ) (H := wQ.heap.size + 1 + 1) (x := wQ.heap.size) (p := gtI L k) (q := gtI L k) (c := 2) hR (Below.alloc (Below.alloc (Below.drew (Below.refl _ _)) (Nat.le_refl _) _) (by simp) _) (Nat.le_refl _) (by omega) (by simp; omega) (by omega) (by go_simp) (by go_simp) (by go_simp) (by go_simp) hown' hgr (hat.imp (fun k => by simp only [Value.ownBlock, Option.some.injEq] at k; exact k.symm) id) (by simp))
     have HZA := hide (grown_row (so := some ⟨gz, 0, none⟩) hgr (fun b o e => by simp only [Option.some.injEq, Addr.mk.injEq, and_true] at e; show b ≠ g9; omega) (RowAt.later (Below.alloc (Below.alloc (Below.drew (Below.refl _ _)) (Nat.le_refl _) _) (by simp) _) HZQ.out))
     have hne' : g' ≠ gz := by rcases hat with k | k; (simp only [Value.ownBlock, Option.some.injEq] at k; omega); omega
     have szA : gz < wA.heap.size := by have := hgr.size; simp at this; omega
     have HBA := hide hHeld.2
     clear hown' hgr hat hOut hR hHeld
     go_wp2
     go_roundw
     case rel => exact ⟨k + 1, g', cap', by omega, by go_num, by rw [Hn.out], by rw [Hn.out, HA.out, HB.out]; exact hTA, HZA, hide (fun _ _ _ => trivial), hne', szA, HBA.out⟩
     case measure => simp [intOf]; omega
    ·have heq2 : (gtI L (k - 1) == gtI L k - 1) = true := by rw [← heq]; exact hc
     have Hn := hide (show vsN (gtI L) (k + 1) = vsN (gtI L) k by rw [vsN, if_pos hc])
     have HA := hide (show vsA (gtI L) (k + 1) = vsA (gtI L) k by rw [vsA, if_pos hc])
     have HB := hide (show vsB (gtI L) (k + 1) = (fun j => if j = vsN (gtI L) k - 1 then gtI L k else vsB (gtI L) k j) by rw [vsB, if_pos hc])
     clear hc heq
     go_upto_region 10 with fail
     refine wp_region_held_drew (S := fun W => Below wr.heap.size wr W) (by kernel_rfl) (Below.drew (Below.refl _ _)) (fun hHeld => ?_)
     refine tkN 0 (some 37) rfl ?_; simp only [pz]
     refine tkN 1 (some 38) rfl ?_; simp only [pz]
     refine tkN 2 (some 39) rfl ?_; simp only [pz]
     refine tkN 3 (some 40) rfl ?_; simp only [pz]
     refine tkN 4 (some 41) rfl ?_; simp only [pz]
     refine tkN 5 (some 42) rfl ?_; simp only [pz]
     refine tkN 6 (some 43) rfl ?_; simp only [pz]
     refine tkL 7 (some 44) rfl ?_; simp only [pz]
     refine tkN 8 (some 45) rfl ?_; simp only [pz]
     refine tkL 9 (some 46) rfl ?_; simp only [pz]
     refine tkN 10 (some 47) rfl ?_; simp only [pz]
     refine tkN 11 (some 48) rfl ?_; simp only [pz]
     refine tkN 12 (some 49) rfl ?_; simp only [pz]
     refine tkL 13 (some 50) rfl ?_; simp only [pz]
     refine tkN 14 (some 51) rfl ?_; simp only [pz]
     refine tkN 15 (some 52) rfl ?_; simp only [pz]
     refine tkN 16 (some 53) rfl ?_; simp only [pz]
     refine wpAnyH_done (by kernel_rfl) ?_ _; (try simp only [pz])
     obtain ⟨wQ, hQ⟩ : ∃ W, W = wr.drew := ⟨_, rfl⟩
     rw [← hQ] at hHeld ⊢
     have HTQ := hide (Tw.later HT.out hHeld)
     have HZQ := hide (RowAt.later hHeld HZ.out)
     have hbQ := bstep hbl hHeld
     have c0Q := cell_later hHeld c0
     have zQ := hHeld.size
     have gwQ : gz < wQ.heap.size := by omega
     have g9Q : g9 < wQ.heap.size := by have := hg9.2; omega
     have q1' := cell_later hHeld q1
     have q2' := frozen_later hHeld q1 q2
     have q6' := cell_later hHeld q6
     clear q1 q2 q3 q4 q6 q7 q8 q9 heq2 hQ hHeld HT HZ c0
     go_upto_region 11 with fail
     go_region
     go_wp2
     go_roundw
     have hTP := Tw.put (w0 := wQ) (w := wQ.alloc (.cells #[.int .i64 (vsA (gtI L) k (vsN (gtI L) k - 1)), .int .i64 (gtI L k)] 2)) (i := vsN (gtI L) k - 1) (x := wQ.heap.size) (c := 2) (p := vsA (gtI L) k (vsN (gtI L) k - 1)) (q := gtI L k) HTQ.out (Below.alloc (Below.refl _ _) (Nat.le_refl _) _) (Nat.le_refl _) (by omega) (by have := hbQ.size; omega) (by simp) (by omega) (by go_simp) (by go_simp) (by go_simp) (by go_simp)
     have zz0 := hbQ.size
     rw [World.setCell_alloc_past _ _ _ _ g9Q] at hTP
     have hTP2 := hide (Tw.congr (P' := vsA (gtI L) (k + 1)) (Q' := vsB (gtI L) (k + 1)) hTP (fun j _ => by rw [HA.out, HB.out]; refine ⟨?_, rfl⟩; by_cases e1 : j = vsN (gtI L) k - 1; (simp only [e1, ↓reduceIte]); simp only [e1, ↓reduceIte]))
     have hRP := hide (row_far (p := ⟨g9, vsN (gtI L) k - 1, none⟩) (x := .slice (some ⟨wQ.heap.size, 0, none⟩) 2 2) HZQ.out (fun b o e _ => by simp only [Option.some.injEq, Addr.mk.injEq, and_true] at e; show b ≠ g9; omega))
     case rel =>
      refine ⟨k + 1, g9, cp9, by omega, by go_num, by rw [Hn.out], ?_, ?_, hide (fun _ _ _ => trivial), hne, by (simp; omega), ?_⟩
      ·rw [Hn.out]; exact hide (Tw.later hTP2.out (Below.drew (Below.refl _ _)))
      ·exact hide (RowAt.later (Below.drew (Below.alloc (Below.refl _ _) (Nat.le_refl _) _)) hRP.out)
      ·exact bwz
     case measure => simp [intOf]; omega
  ·obtain rfl : k = L.length := by omega
   go_wp2
   go_ret2
   exact ⟨_, _, rfl, (HT.out.own).mono (by omega), hbl⟩
end Go.Proofs.YtgcdgdnmcdffoaaDoor
