/- Walks: the visits of a zone, the program's. -/
import Derived.Test.YtgcdgdnmcdffoaaDoorTw
namespace Go.Proofs.YtgcdgdnmcdffoaaDoor
open Go.RowKit

theorem new1b {W : World} {o : Obj} {e : TypeId} {x : Value} : ∀ (j : Nat) (u : Value), [x][j]? = some u → ((W.alloc o).alloc (.cells #[x] e)).cell? ((⟨W.heap.size + 1, 0, none⟩ : Addr).add j) = some u := fun j u hj => by
 have h := new1 (W := W.alloc o) (e := e) (x := x) j u hj
 rw [World.size_alloc] at h
 exact h
theorem infoRowZ : (Tryd.prog.info? 40).map (fun i => (i.zero, i.size, i.bytes)) = some (some (.slice none 0 0), 1, 24) := by kernel_rfl
theorem vsC_first (f : Nat → Int) : vsC f 0 = false := rfl
theorem vsC_eq {f : Nat → Int} {k : Nat} (h : 0 < k) : vsC f k = (f (k - 1) == f k - 1) := by unfold vsC; rw [decide_eq_true h]; rfl
theorem lgL_bd (co tr : Bool) (n : Nat) (k : Int) (n2 : Nat) (U V X Y Z : Nat → Int) (hn : n2 ≤ 1048576) : ∀ i, -1 ≤ gtI (lgL co tr n k n2 U V X Y Z) i ∧ gtI (lgL co tr n k n2 U V X Y Z) i ≤ 1048576 := by
 intro i
 unfold gtI
 by_cases hi : i < (lgL co tr n k n2 U V X Y Z).length
 ·rw [List.getElem?_eq_getElem hi]
  have hm := List.getElem_mem hi
  have key : ∀ p ∈ lgL co tr n k n2 U V X Y Z, ∃ j : Nat, p = (j : Int) ∧ j < n2 := by
   intro p hp
   unfold lgL at hp
   split at hp
   ·obtain ⟨j, h1, h2⟩ := lgsZ_mem _ _ _ _ _ _ p hp; exact ⟨j, h1, by omega⟩
   ·cases hp
  obtain ⟨j, h1, h2⟩ := key _ hm
  simp only [Option.getD_some, h1]
  omega
 ·rw [List.getElem?_eq_none (by omega)]; exact ⟨by decide, by decide⟩
set_option maxRecDepth 100000 in
set_option maxHeartbeats 8000000 in
theorem impl_VisitsOf (ax ay bx bY cx cy dx dy : Int) (so : Option Addr) (n cap : Nat) (N : Nat → ByteArray) (X Y S Z : Nat → Int) (k : Int) (so2 : Option Addr) (n2 cap2 : Nat) (T U V : Nat → Int) (w : World) (h : RowAt w so n 5 (v5 N X Y S Z)) (hn : n ≤ 1048576) (hcap : n ≤ cap) (h2 : RowAt w so2 n2 3 (v3 T U V)) (hn2 : n2 ≤ 1048576) :
 Calls Tryd.prog 7 #[.agg #[.int .i64 ax, .int .i64 ay, .int .i64 bx, .int .i64 bY, .int .i64 cx, .int .i64 cy, .int .i64 dx, .int .i64 dy, .slice so n cap], .int .i64 k, .agg #[.slice so2 n2 cap2]] w (RetV w (lgL (isCo ax ay bx bY cx cy dx dy n N X Y S Z) (isTr n2 T U V) n k n2 U V X Y Z) (zoC (isCo ax ay bx bY cx cy dx dy n N X Y S Z) (isTr n2 T U V) n k)) := by
 obtain ⟨i0, hi, hz0, hz1, hz2⟩ := info_parts infoRowZ
 have Hi0 := hide hi
 have Hz0 := hide (And.intro hz0 (And.intro hz1 hz2))
 clear hi hz0 hz1 hz2
 have KL := hide (fun W (hb : Below w.heap.size w W) => impl_LegsInZone ax ay bx bY cx cy dx dy so n cap N X Y S Z k so2 n2 cap2 T U V W (RowAt.later hb h) hn hcap (RowAt.later hb h2) hn2)
 have HLn := lgL_len (isCo ax ay bx bY cx cy dx dy n N X Y S Z) (isTr n2 T U V) n k n2 U V X Y Z
 have HLb := hide (lgL_bd (isCo ax ay bx bY cx cy dx dy n N X Y S Z) (isTr n2 T U V) n k n2 U V X Y Z hn2)
 generalize lgL (isCo ax ay bx bY cx cy dx dy n N X Y S Z) (isTr n2 T U V) n k n2 U V X Y Z = L at *
 generalize zoC (isCo ax ay bx bY cx cy dx dy n N X Y S Z) (isTr n2 T U V) n k = cd at *
 clear h h2
 go_enter Tryd.func7, Tryd.ntmps7
 go_wp2_with fail; (with_reducible refine (KL.out _ bwz).mono ?_); rintro e wL ⟨so1, cp1, rfl, hown, hb⟩
 have HBL := hide (show Below w.heap.size w wL from bwz)
 have hz := (OwZ.of hown).read
 have HZ := hide (show RowAt wL so1 L.length 1 (v1 (gtI L)) from hz)
 have hT0 := hide (Tw.nil (w := wL) (B := wL.heap.size) (e := 40) (P := vsA (gtI L) 0) (Q := vsB (gtI L) 0) (Nat.le_refl _))
 have zL := HBL.out.size
 clear hown hb hz KL
 go_wp2
 go_loopw [10, 23] (fun v i wr => ∃ k g9 cp9 : Nat, k ≤ L.length ∧ i = .int .i64 k ∧ v = .slice (some ⟨g9, 0, none⟩) (vsN (gtI L) k) cp9 ∧ Hid (Tw wr wL.heap.size 40 (.slice (some ⟨g9, 0, none⟩) (vsN (gtI L) k) cp9) (vsN (gtI L) k) (vsA (gtI L) k) (vsB (gtI L) k)) ∧ Below wL.heap.size wL wr) (fun _ i _ => L.length - (intOf i).toNat)
 case atStart => exact ⟨0, wL.heap.size, 0, Nat.zero_le _, rfl, rfl, hT0, Below.alloc (Below.refl _ _) (Nat.le_refl _) _⟩
 case round =>
  obtain ⟨k, g9, cp9, hk, rfl, rfl, HT, hbl⟩ := hrel
  have zr := hbl.size
  by_cases hlt : k < L.length
  ·obtain ⟨bz, oz, rfl, hbs, c0⟩ := (RowAt.later hbl HZ.out).at1 k hlt
   simp only [v1] at c0
   have hvn := vsN_le (gtI L) k
   obtain ⟨hb1, hb2⟩ := HLb.out k
   have hi1 : (0 : Int) ≤ (k : Int) := by omega
   have hi2 : (k : Int) < (L.length : Int) := by omega
   have we2 : IntKind.i64.wrap (gtI L k - 1) = gtI L k - 1 := IntWalk.i64_in _ (by omega)
   rcases b2 (vsC (gtI L) k) with hc | hc
   ·have Hn := hide (show vsN (gtI L) (k + 1) = vsN (gtI L) k + 1 by rw [vsN, if_neg (by rw [hc]; decide)])
    have HA := hide (show vsA (gtI L) (k + 1) = (fun j => if j = vsN (gtI L) k then gtI L k else vsA (gtI L) k j) by rw [vsA, if_neg (by rw [hc]; decide)])
    have HB := hide (show vsB (gtI L) (k + 1) = (fun j => if j = vsN (gtI L) k then gtI L k else vsB (gtI L) k j) by rw [vsB, if_neg (by rw [hc]; decide)])
    by_cases hk0 : k = 0
    ·have hi3 : ¬ (0 : Int) < (k : Int) := by omega
     clear hc hk0
     go_upto_region 8 with fail
     obtain ⟨G, C, hOut, hR⟩ := HT.out.open
     have hg9 := (hOut.lt g9 rfl).2
     go_wp2_with (at_builtin; refine wpList_append_lies _ rfl _ _ 36 rfl wL.heap.size 40 i0 _ 1 24 Tryd.underlying36 Hi0.out Hz0.out.1 Hz0.out.2.1 Hz0.out.2.2 rfl (by decide) _ (vsN (gtI L) k) _ rfl ((hOut.alloc _).alloc _) ⟨wr.heap.size + 1, 0, none⟩ 1 1 [.slice (some ⟨wr.heap.size, 0, none⟩) 2 2] rfl rfl new1b (fun u hu => by simp only [List.mem_singleton] at hu; subst hu; rfl) (by decide) (by unfold maxLen; omega) (by omega) (by simp; omega) (wr.heap.size + 1 + 1) (by simp) ?_)
     intro g' cap' wA hown' hgr hat hlt'
     have hbA := below_grown (hOut.alloc _) (by simp; omega) hgr
     have hTA := hide (Tw.app (H := wr.heap.size + 1 + 1) (x := wr.heap.size) (p := gtI L k) (q := gtI L k) (c := 2) hR (Below.alloc (Below.alloc (Below.refl _ _) (Nat.le_refl _) _) (by simp) _) (Nat.le_refl _) zr (by simp; omega) (by omega) (by go_simp) (by go_simp) (by go_simp) (by go_simp) hown' hgr (hat.imp (fun k => by simp only [Value.ownBlock, Option.some.injEq] at k; exact k.symm) id) (by simp))
     have HBA := hide ((Below.alloc hbl zr _).trans hbA)
     clear hown' hgr hat hbA hOut hR
     go_wp2
     go_roundw
     case rel => exact ⟨k + 1, g', cap', by omega, by go_num, by rw [Hn.out], by rw [Hn.out, HA.out, HB.out]; exact hTA, HBA.out⟩
     case measure => simp [intOf]; omega
    ·have hi3 : (0 : Int) < (k : Int) := by omega
     have hk1 : 0 < k := by omega
     clear hk0
     have d0 := ((RowAt.later hbl HZ.out).at1 (k - 1) (by omega))
     obtain ⟨bz2, oz2, hso, _, d0⟩ := d0
     simp only [Option.some.injEq, Addr.mk.injEq, and_true] at hso
     obtain ⟨rfl, rfl⟩ := hso
     simp only [v1] at d0
     have heq : (gtI L (k - 1) == gtI L k - 1) = false := by rw [← vsC_eq (by omega)]; exact hc
     have we3 : IntKind.i64.wrap ((k : Int) - 1) = ((k - 1 : Nat) : Int) := by rw [show (k : Int) - 1 = ((k - 1 : Nat) : Int) by omega]; exact IntWalk.i64_in _ (by omega)
     have hi4 : ((k - 1 : Nat) : Int) < (L.length : Int) := by omega
     clear hc
     go_upto_region 8 with fail
     clear d0 heq we3
     obtain ⟨G, C, hOut, hR⟩ := HT.out.open
     have hg9 := (hOut.lt g9 rfl).2
     go_wp2_with (at_builtin; refine wpList_append_lies _ rfl _ _ 36 rfl wL.heap.size 40 i0 _ 1 24 Tryd.underlying36 Hi0.out Hz0.out.1 Hz0.out.2.1 Hz0.out.2.2 rfl (by decide) _ (vsN (gtI L) k) _ rfl ((hOut.alloc _).alloc _) ⟨wr.heap.size + 1, 0, none⟩ 1 1 [.slice (some ⟨wr.heap.size, 0, none⟩) 2 2] rfl rfl new1b (fun u hu => by simp only [List.mem_singleton] at hu; subst hu; rfl) (by decide) (by unfold maxLen; omega) (by omega) (by simp; omega) (wr.heap.size + 1 + 1) (by simp) ?_)
     intro g' cap' wA hown' hgr hat hlt'
     have hbA := below_grown (hOut.alloc _) (by simp; omega) hgr
     have hTA := hide (Tw.app (H := wr.heap.size + 1 + 1) (x := wr.heap.size) (p := gtI L k) (q := gtI L k) (c := 2) hR (Below.alloc (Below.alloc (Below.refl _ _) (Nat.le_refl _) _) (by simp) _) (Nat.le_refl _) zr (by simp; omega) (by omega) (by go_simp) (by go_simp) (by go_simp) (by go_simp) hown' hgr (hat.imp (fun k => by simp only [Value.ownBlock, Option.some.injEq] at k; exact k.symm) id) (by simp))
     have HBA := hide ((Below.alloc hbl zr _).trans hbA)
     clear hown' hgr hat hbA hOut hR
     go_wp2
     go_roundw
     case rel => exact ⟨k + 1, g', cap', by omega, by go_num, by rw [Hn.out], by rw [Hn.out, HA.out, HB.out]; exact hTA, HBA.out⟩
     case measure => simp [intOf]; omega
   ·have hk1 : 0 < k := by
     rcases Nat.eq_zero_or_pos k with h | h
     ·subst h; rw [vsC_first] at hc; cases hc
     ·exact h
    have Hn := hide (show vsN (gtI L) (k + 1) = vsN (gtI L) k by rw [vsN, if_pos hc])
    have HA := hide (show vsA (gtI L) (k + 1) = vsA (gtI L) k by rw [vsA, if_pos hc])
    have HB := hide (show vsB (gtI L) (k + 1) = (fun j => if j = vsN (gtI L) k - 1 then gtI L k else vsB (gtI L) k j) by rw [vsB, if_pos hc])
    have hp := vsN_pos (f := gtI L) hk1
    have hi3 : (0 : Int) < (k : Int) := by omega
    obtain ⟨bz2, oz2, hso, _, d0⟩ := ((RowAt.later hbl HZ.out).at1 (k - 1) (by omega))
    simp only [Option.some.injEq, Addr.mk.injEq, and_true] at hso
    obtain ⟨rfl, rfl⟩ := hso
    simp only [v1] at d0
    have heq : (gtI L (k - 1) == gtI L k - 1) = true := by rw [← vsC_eq hk1]; exact hc
    have we3 : IntKind.i64.wrap ((k : Int) - 1) = ((k - 1 : Nat) : Int) := by rw [show (k : Int) - 1 = ((k - 1 : Nat) : Int) by omega]; exact IntWalk.i64_in _ (by omega)
    have hi4 : ((k - 1 : Nat) : Int) < (L.length : Int) := by omega
    have we4 : IntKind.i64.wrap ((vsN (gtI L) k : Int) - 1) = ((vsN (gtI L) k - 1 : Nat) : Int) := by rw [show (vsN (gtI L) k : Int) - 1 = ((vsN (gtI L) k - 1 : Nat) : Int) by omega]; exact IntWalk.i64_in _ (by omega)
    have hi5 : ((vsN (gtI L) k - 1 : Nat) : Int) < (vsN (gtI L) k : Int) := by omega
    obtain ⟨x, c, q1, q2, q3, q4, q5, q6, q7, q8, q9, hset⟩ := HT.out.at (i := vsN (gtI L) k - 1) (by omega)
    have Hset := hide (hset (gtI L k))
    clear hset hc
    go_wp2
    go_roundw
    case rel => exact ⟨k + 1, g9, cp9, by omega, by go_num, by rw [Hn.out], by rw [Hn.out, HA.out, HB.out]; exact Hset, Below.setCell hbl (by dsimp only; omega) _⟩
    case measure => simp [intOf]; omega
  ·obtain rfl : k = L.length := by omega
   go_wp2
   go_ret2
   exact ⟨_, _, rfl, (HT.out.own).mono (by omega), HBL.out.trans (hbl.mono (by omega))⟩
end Go.Proofs.YtgcdgdnmcdffoaaDoor
