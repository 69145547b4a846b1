/- Walks: the table of rooms, of both. -/
import Derived.Test.YthlnpcneicmblaaGreatDoorRm
import Derived.Test.YthlnpcneicmblaaGreatDoorMk
import Derived.Test.YthlnpcneicmblaaGreatDoorBs
namespace Go.Proofs.YthlnpcneicmblaaGreatDoor
open Go.RowKit

/-- Boat i gives room to boat j. -/
def rbQ (wx wy x y z : Int) (nn : Nat → Nat) (T U V : Nat → Nat → Int) (len : Int) (i j : Nat) : Bool := (rmA wx wy x y z (nn i) (T i) (U i) (V i) (nn j) (T j) (U j) (V j) len).1 == 1
/-- How many rows the table has; the code. -/
def rbN (m : Nat) (c : Int) : Nat := if decide (m ≤ 16) && c == 0 then m else 0
def rbC (m : Nat) (c : Int) : Int := sel (decide (m ≤ 16)) c 3
theorem rbN_16 {m : Nat} {c : Int} (h : 16 < m) : rbN m c = 0 ∧ rbC m c = 3 := by
 have e : decide (m ≤ 16) = false := decide_eq_false (by omega)
 unfold rbN rbC
 rw [e]
 exact ⟨rfl, rfl⟩
theorem rbN_no {m : Nat} {c : Int} (h : ¬ 16 < m) (hc : ¬ c = 0) : rbN m c = 0 ∧ rbC m c = c := by
 have e : decide (m ≤ 16) = true := decide_eq_true (by omega)
 have e2 : (c == 0) = false := beq_eq_false_iff_ne.2 hc
 unfold rbN rbC
 rw [e, e2]
 exact ⟨rfl, rfl⟩
theorem rbN_ok {m : Nat} (h : ¬ 16 < m) : rbN m 0 = m ∧ rbC m 0 = 0 := by
 have e : decide (m ≤ 16) = true := decide_eq_true (by omega)
 unfold rbN rbC
 rw [e]
 exact ⟨rfl, rfl⟩
theorem infoRowR : (Tryz.prog.info? 47).map (fun i => (i.zero, i.size, i.bytes)) = some (some (.slice none 0 0), 1, 24) := by kernel_rfl
theorem infoIntR : (Tryz.prog.info? 2).map (fun i => (i.zero, i.size, i.bytes)) = some (some (.int .i64 0), 1, 8) := by kernel_rfl
set_option maxRecDepth 100000 in
set_option maxHeartbeats 8000000 in
theorem impl_RoomTable (wx wy : Int) (ax ay bx bY cx cy dx dy : Int) (so : Option Addr) (n cap : Nat) (N : Nat → ByteArray) (X Y S Z : Nat → Int) (k : Int) (so2 : Option Addr) (m cap2 : Nat) (A : Nat → Option Addr) (nn C : Nat → Nat) (T U V : Nat → Nat → Int) (len : Int) (w : World) (h : RowAt w so n 5 (v5 N X Y S Z)) (hn : n ≤ 1048576) (hcap : n ≤ cap) (h2 : Trs w so2 m A nn C T U V) (hm : m ≤ 1048576) (hnn : ∀ i, i < m → nn i ≤ 1048576) :
 Calls Tryz.prog 6 #[.agg #[.int .i64 wx, .int .i64 wy], .agg #[.int .i64 ax, .int .i64 ay, .int .i64 bx, .int .i64 bY, .int .i64 cx, .int .i64 cy, .int .i64 dx, .int .i64 dy, .slice so n cap], .int .i64 k, .slice so2 m cap2, .int .i64 len] w (RetT w (rbN m (rmC5 (isWd wx wy) (isCo ax ay bx bY cx cy dx dy n N X Y S Z) (allTr nn T U V m) n k len)) (fun j => kcL (rbQ wx wy (X k.toNat) (Y k.toNat) (Z k.toNat) nn T U V len) j m) (rbC m (rmC5 (isWd wx wy) (isCo ax ay bx bY cx cy dx dy n N X Y S Z) (allTr nn T U V m) n k len))) := by
 have KC := fun W (hb : Below w.heap.size w W) => impl_roomCode wx wy ax ay bx bY cx cy dx dy so n cap N X Y S Z k so2 m cap2 A nn C T U V len W (RowAt.later hb h) hn hcap (Trs.later hb h2) hm hnn
 obtain ⟨cd, hcd⟩ : ∃ c, c = (rmC5 (isWd wx wy) (isCo ax ay bx bY cx cy dx dy n N X Y S Z) (allTr nn T U V m) n k len) := ⟨_, rfl⟩
 rw [← hcd] at KC ⊢
 by_cases h16 : 16 < m
 ·obtain ⟨Ho, Hd⟩ := rbN_16 (c := cd) h16
  rw [Ho, Hd]
  have h16i : (16 : Int) < (m : Int) := by omega
  clear KC h h2 hnn hcd Ho Hd
  go_enter Tryz.func6, Tryz.ntmps6
  go_wp2
  go_ret2
  exact ⟨none, 0, rfl, .inl rfl, bwz⟩
 have KC := hide KC
 have h16i : ¬ (16 : Int) < (m : Int) := by omega
 by_cases hz : cd = 0
 case neg =>
  obtain ⟨Ho, Hd⟩ := rbN_no h16 hz
  rw [Ho, Hd]
  have hcb : (cd != 0) = true := bne_iff_ne.2 hz
  clear h h2 hnn hcd Ho Hd
  go_enter Tryz.func6, Tryz.ntmps6
  go_wp2_with (go_at_call 18; (with_reducible refine (KC.out _ bwz).mono ?_); rintro e w9 ⟨rfl, hb⟩; obtain ⟨hc, hf⟩ := bcell hb; have hzq := hb.size)
  go_ret2
  exact ⟨none, 0, rfl, .inl rfl, bwz⟩
 obtain ⟨Ho, Hd⟩ := rbN_ok h16
 rw [hz, Ho, Hd]
 rw [hz] at KC
 obtain ⟨hw, hco, htr, z, hlen⟩ := zoC_of (hcd.symm.trans hz)
 obtain ⟨_, _, hk0, hk1⟩ := zo_tt z
 obtain ⟨K, rfl⟩ := Int.eq_ofNat_of_zero_le hk0
 have hKn : K < n := by omega
 obtain ⟨_, hpt, _, hz1, hz2⟩ := isMk_t ((isCo_t hco).2.2.2.2 K hKn)
 have hh := h
 obtain ⟨b, o, rfl, hbs, _⟩ := hh.at5 K hKn
 have hi0 : (0 : Int) ≤ (K : Int) := by omega
 have hi1 : (K : Int) < (n : Int) := by omega
 rw [Int.toNat_natCast]
 have hAt := fun (i : Nat) (hi : i < m) => allTr_at hi htr
 have HA := hide (show ∀ i, i < m → ∃ b' o', A i = some ⟨b', o', none⟩ from fun i hi => by
  obtain ⟨hn2a, _, _⟩ := isTr_t (hAt i hi)
  obtain ⟨b', o', e, _⟩ := (h2.2 i hi).at3 0 (by omega)
  exact ⟨b', o', e⟩)
 have KR := hide (fun (i j : Nat) (hi : i < m) (hj : j < m) W (hb : Below w.heap.size w W) => show Calls Tryz.prog 19 #[.agg #[.int .i64 wx, .int .i64 wy], .agg #[.string (N K), .int .i64 (X K), .int .i64 (Y K), .int .i64 (S K), .int .i64 (Z K)], .agg #[.slice (A i) (nn i) (C i)], .agg #[.slice (A j) (nn j) (C j)], .int .i64 len] W fun e w' => e = .returned (.agg #[.int .i64 (rmA wx wy (X K) (Y K) (Z K) (nn i) (T i) (U i) (V i) (nn j) (T j) (U j) (V j) len).1, .int .i64 (rmA wx wy (X K) (Y K) (Z K) (nn i) (T i) (U i) (V i) (nn j) (T j) (U j) (V j) len).2]) ∧ Below W.heap.size W w' by
  obtain ⟨b1, o1, e1⟩ := HA.out i hi
  obtain ⟨b2, o2, e2⟩ := HA.out j hj
  have r1 := RowAt.later hb (h2.2 i hi)
  have r2 := RowAt.later hb (h2.2 j hj)
  rw [e1] at r1 ⊢
  rw [e2] at r2 ⊢
  exact impl_roomAt wx wy (N K) (X K) (Y K) (S K) (Z K) b1 o1 (nn i) (C i) (T i) (U i) (V i) b2 o2 (nn j) (C j) (T j) (U j) (V j) len W hw r1 (hAt i hi) r2 (hAt j hj) hpt hz1 hz2)
 have Hh := hide h
 have Hh2 := hide h2
 obtain ⟨Q, hQ⟩ : ∃ Q : Nat → Nat → Bool, Q = fun i j => (rmA wx wy (X K) (Y K) (Z K) (nn i) (T i) (U i) (V i) (nn j) (T j) (U j) (V j) len).1 == 1 := ⟨_, rfl⟩
 have hQe : rbQ wx wy (X K) (Y K) (Z K) nn T U V len = Q := by rw [hQ]; rfl
 rw [hQe]
 have HQ := hide (show ∀ i j, Q i j = ((rmA wx wy (X K) (Y K) (Z K) (nn i) (T i) (U i) (V i) (nn j) (T j) (U j) (V j) len).1 == 1) from fun i j => by rw [hQ])
 clear hQ hQe hpt hz1 hz2 hw hco htr z hlen hcd hAt Ho Hd h h2 hk0 hk1 HA hnn hz hh
 obtain ⟨i0, hi, hz0, hz1, hz2⟩ := info_parts infoRowR
 have hmk := fun W => run_make_rowN (P := Tryz.prog) 35 47 i0 _ Tryz.underlying35 hi hz0 m (by rw [hz2]; omega) (by omega) W
 have hsz : (madeCells (Value.slice none 0 0).cells (m * i0.size)).size = m := by rw [size_madeCells, hz1]; simp
 have Hs := hide hsz
 clear hsz hi hz0 hz1 hz2
 obtain ⟨i1, hi, hz0, hz1, hz2⟩ := info_parts infoIntR
 have Hi := hide hi
 have Hz := hide (And.intro hz0 (And.intro hz1 hz2))
 clear hi hz0 hz1 hz2
 go_enter Tryz.func6, Tryz.ntmps6
 go_wp2_with (go_at_call 18; (with_reducible refine (KC.out _ bwz).mono ?_); rintro e w9 ⟨rfl, hb⟩; obtain ⟨hc, hf⟩ := bcell hb; have hzq := hb.size; simp only [size_al] at hzq; have z0 : w.heap.size < w9.heap.size := (by omega); have z1 : w.heap.size + 1 < w9.heap.size := (by omega))
 obtain ⟨wS, rfl⟩ : ∃ wS : World, wS = w9 := ⟨_, rfl⟩
 have d0 : wS.cell? ⟨w.heap.size, 0, none⟩ = some (.int .i64 wx) := by go_simp
 have d1 : wS.cell? ⟨w.heap.size, 1, none⟩ = some (.int .i64 wy) := by go_simp
 have d2 : wS.cell? ⟨w.heap.size + 1, 8, none⟩ = some (.slice (some ⟨b, o, none⟩) n cap) := by go_simp
 have hHb := hide (show Below w.heap.size w wS from bwz)
 clear hb hc hf hmk KC
 go_loopw [35] (fun i wr => ∃ q : Nat, q ≤ m ∧ i = .int .i64 q ∧ Hid (Tb wr 2 wS.heap.size q wS.heap.size fun j => if j < q then kcL Q j m else []) ∧ Hid (Mine wr wS.heap.size m) ∧ wr.cell? ⟨w.heap.size, 0, none⟩ = some (.int .i64 wx) ∧ wr.cell? ⟨w.heap.size, 1, none⟩ = some (.int .i64 wy) ∧ wr.cell? ⟨w.heap.size + 1, 8, none⟩ = some (.slice (some ⟨b, o, none⟩) n cap) ∧ Below w.heap.size w wr ∧ wS.heap.size + 1 ≤ wr.heap.size) (fun i _ => m - (intOf i).toNat)
 case atStart => exact ⟨0, Nat.zero_le _, rfl, hide (Tb.zero _ _ _ _ _), hide (mine_make Hs.out), by go_simp, by go_simp, by go_simp, Below.alloc hHb.out (by omega) _, by simp⟩
 case round =>
  clear d0 d1 d2
  obtain ⟨q, hq, rfl, HT, HM, c0, c1, c2, hbl, hsz⟩ := hrel
  obtain ⟨wo, rfl⟩ : ∃ x : World, x = wr := ⟨_, rfl⟩
  by_cases hlt : q < m
  ·obtain ⟨bt, ot, rfl, hbt, t0⟩ := (Trs.later hbl Hh2.out).at q hlt
   have hi1 : (0 : Int) ≤ (q : Int) := by omega
   have hi2 : (q : Int) < (m : Int) := by omega
   have zr : wS.heap.size < wo.heap.size := by omega
   have zr0 : w.heap.size < wo.heap.size := by omega
   have zr1 : w.heap.size + 1 < wo.heap.size := by omega
   go_upto_region 10 with fail
   obtain ⟨wB, hB⟩ : ∃ W, W = wo.alloc (.cells #[.slice (A q) (nn q) (C q)] 45) := ⟨_, rfl⟩
   have sB : wB.heap.size = wo.heap.size + 1 := by rw [hB]; simp
   have hbB : Below wo.heap.size wo wB := by rw [hB]; exact Below.alloc (Below.refl _ _) (Nat.le_refl _) _
   have HTB := hide ((HT.out.new.later hbB).congr (R' := fun j => if j < q then kcL Q j m else []) fun j hj => rfl)
   have HMB := hide (Mine.later hbB HM.out)
   have f0 := cell_later hbB c0
   have f1 := cell_later hbB c1
   have f2 := cell_later hbB c2
   have f3 : wB.cell? ⟨wo.heap.size, 0, none⟩ = some (.slice (A q) (nn q) (C q)) := by rw [hB]; go_simp
   have HBB := hide (bstep hbl hbB)
   have zb : wS.heap.size < wB.heap.size := by omega
   have zb0 : w.heap.size < wB.heap.size := by omega
   have zb1 : w.heap.size + 1 < wB.heap.size := by omega
   have zb2 : wo.heap.size < wB.heap.size := by omega
   obtain ⟨⟨x9, m9⟩, f9⟩ := HMB.out q hlt
   rw [← hB]
   have sB9 : wo.heap.size + 1 ≤ wB.heap.size := by omega
   clear hB hbB HT HM c0 c1 c2 hbl t0 sB
   go_wp2
   go_loopw [46] (fun i wr => ∃ p : Nat, p ≤ m ∧ i = .int .i64 p ∧ Hid (Tb wr 2 wS.heap.size (q + 1) wo.heap.size (fun j => if j < q then kcL Q j m else if j = q then kcL Q q p else [])) ∧ Hid (Mine wr wS.heap.size m) ∧ wr.cell? ⟨w.heap.size, 0, none⟩ = some (.int .i64 wx) ∧ wr.cell? ⟨w.heap.size, 1, none⟩ = some (.int .i64 wy) ∧ wr.cell? ⟨w.heap.size + 1, 8, none⟩ = some (.slice (some ⟨b, o, none⟩) n cap) ∧ wr.cell? ⟨wo.heap.size, 0, none⟩ = some (.slice (A q) (nn q) (C q)) ∧ Below w.heap.size w wr ∧ wB.heap.size ≤ wr.heap.size) (fun i _ => m - (intOf i).toNat)
   case atStart =>
    refine ⟨0, Nat.zero_le _, rfl, hide ((HTB.out.lay HMB.out hlt (by omega) (by omega) (if_neg (Nat.lt_irrefl q))).congr fun j hj => ?_), hide HMB.out.lay, by go_simp, by go_simp, by go_simp, by go_simp, Below.alloc (Below.setCell HBB.out (by dsimp only; omega) _) (by simp; omega) _, by simp⟩
    by_cases k1 : j < q
    ·rw [if_pos k1, if_pos k1]
    ·rw [if_neg k1, if_neg k1]; split <;> rfl
   case round =>
    clear f0 f1 f2 f3 m9 f9 HTB HMB HBB
    obtain ⟨p, hp, rfl, HT, HM, c0, c1, c2, c3, hbl, hsz2⟩ := hrel
    by_cases hlt2 : p < m
    ·obtain ⟨bt2, ot2, e9, hbt2, t0⟩ := (Trs.later hbl Hh2.out).at p hlt2
     simp only [Option.some.injEq, Addr.mk.injEq, and_true] at e9
     obtain ⟨rfl, rfl⟩ := e9
     have hi3 : (0 : Int) ≤ (p : Int) := by omega
     have hi4 : (p : Int) < (m : Int) := by omega
     have zi : wo.heap.size < wr.heap.size := by omega
     have ziw : w.heap.size < wr.heap.size := by omega
     have ziw1 : w.heap.size + 1 < wr.heap.size := by omega
     have zis : wS.heap.size < wr.heap.size := by omega
     go_upto_region 14 with fail
     obtain ⟨wT, hT⟩ : ∃ W, W = wr.alloc (.cells #[.slice (A p) (nn p) (C p)] 45) := ⟨_, rfl⟩
     have sT : wT.heap.size = wr.heap.size + 1 := by rw [hT]; simp
     have hbT : Below wr.heap.size wr wT := by rw [hT]; exact Below.alloc (Below.refl _ _) (Nat.le_refl _) _
     have HTT := hide (HT.out.later hbT)
     have HMT := hide (Mine.later hbT HM.out)
     have g0 := cell_later hbT c0
     have g1 := cell_later hbT c1
     have g2 := cell_later hbT c2
     have g3 := cell_later hbT c3
     have g4 : wT.cell? ⟨wr.heap.size, 0, none⟩ = some (.slice (A p) (nn p) (C p)) := by rw [hT]; go_simp
     have HBT := hide (bstep hbl hbT)
     obtain ⟨b', o', e9, hbs', e0, e1, e2, e3, e4⟩ := (RowAt.later HBT.out Hh.out).at5 K hKn
     simp only [Option.some.injEq, Addr.mk.injEq, and_true] at e9
     obtain ⟨rfl, rfl⟩ := e9
     have zT : wS.heap.size < wT.heap.size := by omega
     have zT0 : w.heap.size < wT.heap.size := by omega
     have zT1 : w.heap.size + 1 < wT.heap.size := by omega
     have zT2 : wo.heap.size < wT.heap.size := by omega
     have zT3 : wr.heap.size < wT.heap.size := by omega
     rw [← hT]
     have sT9 : wr.heap.size + 1 ≤ wT.heap.size := by omega
     clear hT hbT HT HM c0 c1 c2 c3 hbl t0 sT
     by_cases hpq : p = q
     ·have Hn := hide (kcL_no (q := Q) (i := q) (m := p) (.inl hpq))
      have hmi : ((q : Int) != (p : Int)) = false := by rw [show (q : Int) = (p : Int) by omega]; exact bne_self_eq_false _
      refine wp_region_held_drew (S := fun W => Below wT.heap.size wT W) (by kernel_rfl) (Below.drew (Below.refl _ _)) (fun hHeld => ?_)
      refine tkN 0 (some 51) rfl ?_; simp only [pz]
      refine tkN 1 (some 52) rfl ?_; simp only [pz]
      refine tkN 2 (some 53) rfl ?_; simp only [pz]
      refine tkN 3 (some 54) rfl ?_; simp only [pz]
      refine tkO 4 (some 55) rfl ?_; simp only [pz]
      refine tkO 5 (some 56) rfl ?_; simp only [pz]
      refine tkO 6 (some 57) rfl ?_; simp only [pz]
      refine tkO 7 (some 58) rfl ?_; simp only [pz]
      refine tkO 8 (some 59) rfl ?_; simp only [pz]
      refine tkO 9 (some 60) rfl ?_; simp only [pz]
      refine tkO 10 (some 61) rfl ?_; simp only [pz]
      refine tkO 11 (some 62) rfl ?_; simp only [pz]
      refine tkO 12 (some 63) rfl ?_; simp only [pz]
      refine tkO 13 (some 64) rfl ?_; simp only [pz]
      refine tkO 14 (some 65) rfl ?_; simp only [pz]
      refine tkO 15 (some 66) rfl ?_; simp only [pz]
      refine tkN 16 (some 67) rfl ?_; simp only [pz]
      refine wpAnyH_done (by kernel_rfl) ?_ _; (try simp only [pz])
      go_wp2
      go_roundw
      case rel => exact ⟨p + 1, by omega, by go_num, hide ((HTT.out.later hHeld).congr fun j hj => by
       by_cases k1 : j < q
       ·rw [if_pos k1, if_pos k1]
       ·rw [if_neg k1, if_neg k1, Hn.out]), hide (Mine.later hHeld HMT.out), cell_later hHeld g0, cell_later hHeld g1, cell_later hHeld g2, cell_later hHeld g3, bstep HBT.out hHeld, by have := hHeld.size; omega⟩
      case measure => simp [intOf]; omega
     ·have hmi : ((q : Int) != (p : Int)) = true := bne_iff_ne.2 (by omega)
      have K8 := KR.out q p hlt hlt2
      have hkq := HQ.out q p
      obtain ⟨r1, hr1⟩ : ∃ x : Int, x = (rmA wx wy (X K) (Y K) (Z K) (nn q) (T q) (U q) (V q) (nn p) (T p) (U p) (V p) len).1 := ⟨_, rfl⟩
      obtain ⟨r2, hr2⟩ : ∃ x : Int, x = (rmA wx wy (X K) (Y K) (Z K) (nn q) (T q) (U q) (V q) (nn p) (T p) (U p) (V p) len).2 := ⟨_, rfl⟩
      rw [← hr1, ← hr2] at K8
      rw [← hr1] at hkq
      have K9 := hide K8
      clear hr1 hr2 K8
      have hfd := fun (W : World) (x : Int) => (show (Instr.field 40 (.agg #[.int .i64 x, .int .i64 r2]) 0).run Tryz.prog W = .ok (.int .i64 x) W by kernel_rfl)
      by_cases h1 : r1 = 1
      ·have Hn := hide (kcL_yes (q := Q) (i := q) (m := p) hpq (by rw [hkq, h1]; rfl))
       subst h1
       clear hkq
       have hl9 := kcL_len Q q p
       refine wp_region_held_drew (S := fun W => Below wT.heap.size wT W) (by kernel_rfl) (Below.drew (Below.refl _ _)) (fun hHeld => ?_)
       refine tkN 0 (some 51) rfl ?_; simp only [pz]
       refine tkN 1 (some 52) rfl ?_; simp only [pz]
       refine tkN 2 (some 53) rfl ?_; simp only [pz]
       refine tkN 3 (some 54) rfl ?_; simp only [pz]
       refine tkL 4 (some 55) rfl ?_; simp only [pz]
       refine tkN 5 (some 56) rfl ?_; simp only [pz]
       refine tkL 6 (some 57) rfl ?_; simp only [pz]
       refine tkN 7 (some 58) rfl ?_; simp only [pz]
       refine tkN 8 (some 59) rfl ?_; simp only [pz]
       refine tkL 9 (some 60) rfl ?_; simp only [pz]
       refine tkL 10 (some 61) rfl ?_; simp only [pz]
       refine tkL 11 (some 62) rfl ?_; simp only [pz]
       refine tkN 12 (some 63) rfl ?_; simp only [pz]
       refine rd1 13 (some 64) rfl (fun K hK => ?_)
       go_simp; (go_at_call 19; (with_reducible refine (K9.out _ (bstep HBT.out bwz)).mono ?_); rintro e w9 ⟨rfl, hb⟩; have hzz := hb.size)
       all_goals (try go_wp2_with fail)
       refine hK.out _ _ ?_ (fun hH2 => ?_)
       ·exact hhz
       clear hK K hHeld; (have hHeld := hH2); clear hH2; (try simp only [pz])
       refine tkN 14 (some 65) rfl ?_; simp only [pz]
       refine tkN 15 (some 66) rfl ?_; simp only [pz]
       refine tkN 16 (some 67) rfl ?_; simp only [pz]
       refine wpAnyH_done (by kernel_rfl) ?_ _; (try simp only [pz])
       obtain ⟨w8, rfl⟩ : ∃ x : World, x = w9 := ⟨_, rfl⟩
       have hb8 := hHeld
       have hz8 := hb8.size
       have HTb := hide (HTT.out.later hb8)
       have HMb := hide (Mine.later hb8 HMT.out)
       obtain ⟨R, hR⟩ : ∃ R : Nat → List Int, R = (fun j => if j < q then kcL Q j m else if j = q then kcL Q q p else []) := ⟨_, rfl⟩
       rw [← hR] at HTb
       have hRq : R q = kcL Q q p := by rw [hR]; simp only [Nat.lt_irrefl, ↓reduceIte]
       obtain ⟨g, cap9, hcell, hown, hbg, hgl, hgd⟩ := HTb.out.at (i := q) (Nat.lt_succ_self q)
       rw [hRq] at hcell hown
       have HR := hide hR
       clear hR
       have p0 := cell_later hb8 g0
       have p1 := cell_later hb8 g1
       have p2 := cell_later hb8 g2
       have p3 := cell_later hb8 g3
       have HB8 := hide (bstep HBT.out hb8)
       clear g0 g1 g2 g3 g4 e0 e1 e2 e3 e4 hHeld HTT HMT K9 hb8 HBT hb
       obtain ⟨⟨x9, m9⟩, f9⟩ := HMb.out q hlt
       have M9 := hide m9
       clear m9
       have Hown := hide hown
       clear hown
       go_wp2_with (at_builtin; refine wpList_append_where rfl _ _ 47 rfl (wS.heap.size + 1) 2 i1 _ 1 8 Tryz.underlying47 Hi.out Hz.out.1 Hz.out.2.1 Hz.out.2.2 rfl (by decide) _ _ _ _ rfl (Hown.out.alloc _) ⟨w8.heap.size, 0, none⟩ 1 1 [.int .i64 p] rfl rfl new1 (one1 _) (by unfold maxLen; omega) (by omega) (by simp; omega) ?_)
       intro g' cap' wA hown' hgr hwh
       have hcA := gcell hgr
       have hfA := gfroz hgr
       have hzA := hgr.size
       simp only [World.size_alloc] at hcA hfA hzA
       have hcA2 : ∀ b o, b < w8.heap.size → b ≠ g → wA.cell? ⟨b, o, none⟩ = w8.cell? ⟨b, o, none⟩ := fun b o h1 h2 => (hcA b o (by omega) h2).trans (World.cell?_alloc_past _ _ _ h1)
       have hfA2 : ∀ b o, b < w8.heap.size → b ≠ g → wA.frozen? ⟨b, o, none⟩ = w8.frozen? ⟨b, o, none⟩ := fun b o h1 h2 => (hfA b o (by omega) h2).trans (World.frozen?_alloc_past _ _ _ h1)
       have q0 : wA.cell? ⟨wS.heap.size, q, none⟩ = some x9 := (hcA2 _ _ (by omega) (by omega)).trans M9.out
       have q1 : wA.frozen? ⟨wS.heap.size, q, none⟩ = false := (hfA2 _ _ (by omega) (by omega)).trans f9
       have HTA := Tb.app (x := (p : Int)) (HTb.out.later (Below.alloc (Below.refl _ _) (Nat.le_refl _) (.cells #[.int .i64 p] 2))) (Nat.lt_succ_self q) (by simp; omega) (by simp; omega) (by rw [hRq]; exact (World.cell?_alloc_past _ _ _ (by omega)).trans hcell) (by rw [hRq]; exact hown') hgr (by rw [World.size_alloc]; exact hwh)
       rw [hRq] at HTA
       have HTB := hide (HTA.congr (R' := (fun j => if j < q then kcL Q j m else if j = q then kcL Q q (p + 1) else [])) fun j hj => by
        by_cases k2 : j = q
        ·subst k2; simp only [Nat.lt_irrefl, ↓reduceIte, Hn.out]
        ·simp only [k2, ↓reduceIte, HR.out])
       have HMA := hide (show Mine (wA.setCell ⟨wS.heap.size, q, none⟩ (.slice (some ⟨g', 0, none⟩) ((kcL Q q p).length + 1) cap')) wS.heap.size m from Mine.set fun j hj => by
        obtain ⟨⟨x, hx⟩, hf⟩ := HMb.out j hj
        exact ⟨⟨x, (hcA2 _ _ (by omega) (by omega)).trans hx⟩, (hfA2 _ _ (by omega) (by omega)).trans hf⟩)
       have s0 := (hcA2 _ _ (by omega) (by omega)).trans p0
       have s1 := (hcA2 _ _ (by omega) (by omega)).trans p1
       have s2 := (hcA2 _ _ (by omega) (by omega)).trans p2
       have s3 := (hcA2 _ _ (by omega) hgd.symm).trans p3
       have HBA := hide (show Below w.heap.size w wA from HB8.out.trans ((below_grown Hown.out (by omega) hgr).mono (by omega)))
       have hsA : w8.heap.size + 1 ≤ wA.heap.size := hzA
       clear hcA hfA hcA2 hfA2 HTA HTb HMb HB8 hown' hgr p0 p1 p2 p3 hRq HR Hown hcell
       go_wp2
       go_roundw
       case rel => exact ⟨p + 1, by omega, by go_num, HTB, HMA, by go_simp, by go_simp, by go_simp, by go_simp, Below.setCell HBA.out (by dsimp only; omega) _, by simp; omega⟩
       case measure => simp [intOf]; omega
      ·have h1b : (r1 == 1) = false := beq_eq_false_iff_ne.2 h1
       have Hn := hide (kcL_no (q := Q) (i := q) (m := p) (.inr (by rw [hkq, h1b])))
       clear hkq
       refine wp_region_held_drew (S := fun W => Below wT.heap.size wT W) (by kernel_rfl) (Below.drew (Below.refl _ _)) (fun hHeld => ?_)
       refine tkN 0 (some 51) rfl ?_; simp only [pz]
       refine tkN 1 (some 52) rfl ?_; simp only [pz]
       refine tkN 2 (some 53) rfl ?_; simp only [pz]
       refine tkN 3 (some 54) rfl ?_; simp only [pz]
       refine tkL 4 (some 55) rfl ?_; simp only [pz]
       refine tkN 5 (some 56) rfl ?_; simp only [pz]
       refine tkL 6 (some 57) rfl ?_; simp only [pz]
       refine tkN 7 (some 58) rfl ?_; simp only [pz]
       refine tkN 8 (some 59) rfl ?_; simp only [pz]
       refine tkL 9 (some 60) rfl ?_; simp only [pz]
       refine tkL 10 (some 61) rfl ?_; simp only [pz]
       refine tkL 11 (some 62) rfl ?_; simp only [pz]
       refine tkN 12 (some 63) rfl ?_; simp only [pz]
       refine rd1 13 (some 64) rfl (fun K hK => ?_)
       go_simp; (go_at_call 19; (with_reducible refine (K9.out _ (bstep HBT.out bwz)).mono ?_); rintro e w9 ⟨rfl, hb⟩; have hzz := hb.size)
       all_goals (try go_wp2_with fail)
       refine hK.out _ _ ?_ (fun hH2 => ?_)
       ·exact hhz
       clear hK K hHeld; (have hHeld := hH2); clear hH2; (try simp only [pz])
       refine tkN 14 (some 65) rfl ?_; simp only [pz]
       refine tkN 15 (some 66) rfl ?_; simp only [pz]
       refine tkN 16 (some 67) rfl ?_; simp only [pz]
       refine wpAnyH_done (by kernel_rfl) ?_ _; (try simp only [pz])
       go_wp2
       go_roundw
       case rel => exact ⟨p + 1, by omega, by go_num, hide ((HTT.out.later hHeld).congr fun j hj => by
        by_cases k1 : j < q
        ·rw [if_pos k1, if_pos k1]
        ·rw [if_neg k1, if_neg k1, Hn.out]), hide (Mine.later hHeld HMT.out), cell_later hHeld g0, cell_later hHeld g1, cell_later hHeld g2, cell_later hHeld g3, bstep HBT.out hHeld, by have := hHeld.size; omega⟩
       case measure => simp [intOf]; omega
    ·obtain rfl : p = m := by omega
     go_wp2
     go_roundw
     case rel => exact ⟨q + 1, by omega, by go_num, hide (HT.out.old.congr fun j hj => by
      by_cases k1 : j < q
      ·rw [if_pos k1, if_pos (by omega)]
      ·rw [if_neg k1]
       by_cases k2 : j = q
       ·subst k2; rw [if_pos rfl, if_pos (by omega)]
       ·omega), HM, c0, c1, c2, hbl, by omega⟩
     case measure => simp [intOf]; omega
  ·obtain rfl : q = m := by omega
   go_wp2
   go_ret2
   exact ⟨_, _, rfl, (HT.out.congr fun j hj => by rw [if_pos hj]).own (by omega) (by omega), hbl⟩
set_option maxRecDepth 100000 in
set_option maxHeartbeats 8000000 in
theorem spec_RoomTable (wx wy : Int) (ax ay bx bY cx cy dx dy : Int) (so : Option Addr) (n cap : Nat) (N : Nat → ByteArray) (X Y S Z : Nat → Int) (k : Int) (so2 : Option Addr) (m cap2 : Nat) (A : Nat → Option Addr) (nn C : Nat → Nat) (T U V : Nat → Nat → Int) (len : Int) (w : World) (h : RowAt w so n 5 (v5 N X Y S Z)) (hn : n ≤ 1048576) (h2 : Trs w so2 m A nn C T U V) (hm : m ≤ 1048576) (hnn : ∀ i, i < m → nn i ≤ 1048576) :
 Calls Tryz.prog 7 #[.agg #[.int .i64 wx, .int .i64 wy], .agg #[.int .i64 ax, .int .i64 ay, .int .i64 bx, .int .i64 bY, .int .i64 cx, .int .i64 cy, .int .i64 dx, .int .i64 dy, .slice so n cap], .int .i64 k, .slice so2 m cap2, .int .i64 len] w (RetS w (rbN m (rmC5 (isWd wx wy) (isCo ax ay bx bY cx cy dx dy n N X Y S Z) (allTr nn T U V m) n k len)) (fun j => kcL (rbQ wx wy (X k.toNat) (Y k.toNat) (Z k.toNat) nn T U V len) j m) (rbC m (rmC5 (isWd wx wy) (isCo ax ay bx bY cx cy dx dy n N X Y S Z) (allTr nn T U V m) n k len))) := by
 have KC := fun W (hb : Below w.heap.size w W) => spec_l11Code wx wy ax ay bx bY cx cy dx dy so n cap N X Y S Z k so2 m cap2 A nn C T U V len W (RowAt.later hb h) hn (Trs.later hb h2) hm hnn
 obtain ⟨cd, hcd⟩ : ∃ c, c = (rmC5 (isWd wx wy) (isCo ax ay bx bY cx cy dx dy n N X Y S Z) (allTr nn T U V m) n k len) := ⟨_, rfl⟩
 rw [← hcd] at KC ⊢
 by_cases h16 : 16 < m
 ·obtain ⟨Ho, Hd⟩ := rbN_16 (c := cd) h16
  rw [Ho, Hd]
  have h16i : (16 : Int) < (m : Int) := by omega
  clear KC h h2 hnn hcd Ho Hd
  go_enter Tryz.func7, Tryz.ntmps7
  go_wp2
  go_ret2
  exact ⟨none, 0, rfl, RdT.zero _ _ _, bwz⟩
 have KC := hide KC
 have h16i : ¬ (16 : Int) < (m : Int) := by omega
 by_cases hz : cd = 0
 case neg =>
  obtain ⟨Ho, Hd⟩ := rbN_no h16 hz
  rw [Ho, Hd]
  have hcb : (cd != 0) = true := bne_iff_ne.2 hz
  clear h h2 hnn hcd Ho Hd
  go_enter Tryz.func7, Tryz.ntmps7
  go_wp2_with (go_at_call 20; (with_reducible refine (KC.out _ bwz).mono ?_); rintro e w9 ⟨rfl, hb⟩; obtain ⟨hc, hf⟩ := bcell hb; have hzq := hb.size)
  go_ret2
  exact ⟨none, 0, rfl, RdT.zero _ _ _, bwz⟩
 obtain ⟨Ho, Hd⟩ := rbN_ok h16
 rw [hz, Ho, Hd]
 rw [hz] at KC
 obtain ⟨hw, hco, htr, z, hlen⟩ := zoC_of (hcd.symm.trans hz)
 obtain ⟨_, _, hk0, hk1⟩ := zo_tt z
 obtain ⟨K, rfl⟩ := Int.eq_ofNat_of_zero_le hk0
 have hKn : K < n := by omega
 obtain ⟨_, hpt, _, hz1, hz2⟩ := isMk_t ((isCo_t hco).2.2.2.2 K hKn)
 have hh := h
 obtain ⟨b, o, rfl, hbs, _⟩ := hh.at5 K hKn
 have hi0 : (0 : Int) ≤ (K : Int) := by omega
 have hi1 : (K : Int) < (n : Int) := by omega
 rw [Int.toNat_natCast]
 have hAt := fun (i : Nat) (hi : i < m) => allTr_at hi htr
 have HA := hide (show ∀ i, i < m → ∃ b' o', A i = some ⟨b', o', none⟩ from fun i hi => by
  obtain ⟨hn2a, _, _⟩ := isTr_t (hAt i hi)
  obtain ⟨b', o', e, _⟩ := (h2.2 i hi).at3 0 (by omega)
  exact ⟨b', o', e⟩)
 have KR := hide (fun (i j : Nat) (hi : i < m) (hj : j < m) W (hb : Below w.heap.size w W) => show Calls Tryz.prog 21 #[.agg #[.int .i64 wx, .int .i64 wy], .agg #[.string (N K), .int .i64 (X K), .int .i64 (Y K), .int .i64 (S K), .int .i64 (Z K)], .agg #[.slice (A i) (nn i) (C i)], .agg #[.slice (A j) (nn j) (C j)], .int .i64 len] W fun e w' => e = .returned (.agg #[.int .i64 (rmA wx wy (X K) (Y K) (Z K) (nn i) (T i) (U i) (V i) (nn j) (T j) (U j) (V j) len).1, .int .i64 (rmA wx wy (X K) (Y K) (Z K) (nn i) (T i) (U i) (V i) (nn j) (T j) (U j) (V j) len).2]) ∧ Below W.heap.size W w' by
  obtain ⟨b1, o1, e1⟩ := HA.out i hi
  obtain ⟨b2, o2, e2⟩ := HA.out j hj
  have r1 := RowAt.later hb (h2.2 i hi)
  have r2 := RowAt.later hb (h2.2 j hj)
  rw [e1] at r1 ⊢
  rw [e2] at r2 ⊢
  exact spec_l11At wx wy (N K) (X K) (Y K) (S K) (Z K) b1 o1 (nn i) (C i) (T i) (U i) (V i) b2 o2 (nn j) (C j) (T j) (U j) (V j) len W hw r1 (hAt i hi) r2 (hAt j hj) hpt hz1 hz2)
 have Hh := hide h
 have Hh2 := hide h2
 obtain ⟨Q, hQ⟩ : ∃ Q : Nat → Nat → Bool, Q = fun i j => (rmA wx wy (X K) (Y K) (Z K) (nn i) (T i) (U i) (V i) (nn j) (T j) (U j) (V j) len).1 == 1 := ⟨_, rfl⟩
 have hQe : rbQ wx wy (X K) (Y K) (Z K) nn T U V len = Q := by rw [hQ]; rfl
 rw [hQe]
 have HQ := hide (show ∀ i j, Q i j = ((rmA wx wy (X K) (Y K) (Z K) (nn i) (T i) (U i) (V i) (nn j) (T j) (U j) (V j) len).1 == 1) from fun i j => by rw [hQ])
 clear hQ hQe hpt hz1 hz2 hw hco htr z hlen hcd hAt Ho Hd h h2 hk0 hk1 HA hnn hz hh
 obtain ⟨i0, hi, hz0, hz1, hz2⟩ := info_parts infoRowR
 have Hi0 := hide hi
 have Hz0 := hide (And.intro hz0 (And.intro hz1 hz2))
 clear hi hz0 hz1 hz2
 obtain ⟨i1, hi, hz0, hz1, hz2⟩ := info_parts infoIntR
 have Hi := hide hi
 have Hz := hide (And.intro hz0 (And.intro hz1 hz2))
 clear hi hz0 hz1 hz2
 go_enter Tryz.func7, Tryz.ntmps7
 go_upto_region 4 with (go_at_call 20; (with_reducible refine (KC.out _ bwz).mono ?_); rintro e w9 ⟨rfl, hb⟩; obtain ⟨hc, hf⟩ := bcell hb; have hzq := hb.size; simp only [size_al] at hzq; have z0 : w.heap.size < w9.heap.size := (by omega); have z1 : w.heap.size + 1 < w9.heap.size := (by omega))
 obtain ⟨wS, rfl⟩ : ∃ wS : World, wS = w9 := ⟨_, rfl⟩
 have d0 : wS.cell? ⟨w.heap.size, 0, none⟩ = some (.int .i64 wx) := by go_simp
 have d1 : wS.cell? ⟨w.heap.size, 1, none⟩ = some (.int .i64 wy) := by go_simp
 have d2 : wS.cell? ⟨w.heap.size + 1, 8, none⟩ = some (.slice (some ⟨b, o, none⟩) n cap) := by go_simp
 have hHb := hide (show Below w.heap.size w wS from bwz)
 have hTo := hide (show To (wS.alloc (.cells #[] 47)) wS.heap.size 47 (.slice (some ⟨wS.heap.size, 0, none⟩) 0 0) 0 (fun j => kcL Q j m) from To.nil rfl (Nat.le_refl _))
 clear hb hc hf KC
 go_wp2
 go_loopw [13, 14] (fun v i wr => ∃ q : Nat, q ≤ m ∧ i = .int .i64 q ∧ Hid (To wr wS.heap.size 47 v q fun j => kcL Q j m) ∧ wr.cell? ⟨w.heap.size, 0, none⟩ = some (.int .i64 wx) ∧ wr.cell? ⟨w.heap.size, 1, none⟩ = some (.int .i64 wy) ∧ wr.cell? ⟨w.heap.size + 1, 8, none⟩ = some (.slice (some ⟨b, o, none⟩) n cap) ∧ Below w.heap.size w wr ∧ wS.heap.size ≤ wr.heap.size) (fun _ i _ => m - (intOf i).toNat)
 case atStart => exact ⟨0, Nat.zero_le _, rfl, hTo, cell_alloc d0, cell_alloc d1, cell_alloc d2, Below.alloc hHb.out (by omega) _, by simp⟩
 case round =>
  clear d0 d1 d2 hTo
  obtain ⟨q, hq, rfl, HT, c0, c1, c2, hbq, hsz⟩ := hrel
  obtain ⟨wo, rfl⟩ : ∃ x : World, x = wr := ⟨_, rfl⟩
  have zo0 : w.heap.size < wo.heap.size := by omega
  have zo1 : w.heap.size + 1 < wo.heap.size := by omega
  by_cases hlt : q < m
  ·have Hbq := hide hbq
   have hO0 := hide (show (wo.alloc (.cells #[] 2)).ownsRow wo.heap.size 2 1 (.slice (some ⟨wo.heap.size, 0, none⟩) 0 0) 0 ((kcL Q q 0).map (Value.int .i64)) from World.ownsRow_made (base := wo.heap.size) (e := 2) (size := 1) wo #[] 0 (by omega) (by decide) rfl)
   go_wp2
   go_loopw [15, 16] (fun v i wr => ∃ p g9 cp9 : Nat, p ≤ m ∧ i = .int .i64 p ∧ v = .slice (some ⟨g9, 0, none⟩) (kcL Q q p).length cp9 ∧ Hid (wr.ownsRow wo.heap.size 2 1 (.slice (some ⟨g9, 0, none⟩) (kcL Q q p).length cp9) (kcL Q q p).length ((kcL Q q p).map (Value.int .i64))) ∧ Below wo.heap.size wo wr) (fun _ i _ => m - (intOf i).toNat)
   case atStart => exact ⟨0, wo.heap.size, 0, Nat.zero_le _, rfl, rfl, hO0, Below.alloc (Below.refl _ _) (Nat.le_refl _) _⟩
   case round =>
    clear hO0
    obtain ⟨p, g9, cp9, hp, rfl, rfl, HO, hbm⟩ := hrel
    have zm := hbm.size
    have b0 := cell_later hbm c0
    have b1 := cell_later hbm c1
    have b2' := cell_later hbm c2
    have HB3 := hide (bstep Hbq.out hbm)
    have zr0 : w.heap.size < wr.heap.size := by omega
    have zr1 : w.heap.size + 1 < wr.heap.size := by omega
    by_cases hlt2 : p < m
    ·obtain ⟨bt, ot, rfl, hbt, t0⟩ := (Trs.later HB3.out Hh2.out).at q hlt
     obtain ⟨bt2, ot2, e9, hbt2, t1⟩ := (Trs.later HB3.out Hh2.out).at p hlt2
     simp only [Option.some.injEq, Addr.mk.injEq, and_true] at e9
     obtain ⟨rfl, rfl⟩ := e9
     obtain ⟨b', o', e9, hbs', e0, e1, e2, e3, e4⟩ := (RowAt.later HB3.out Hh.out).at5 K hKn
     simp only [Option.some.injEq, Addr.mk.injEq, and_true] at e9
     obtain ⟨rfl, rfl⟩ := e9
     have hi1 : (0 : Int) ≤ (q : Int) := by omega
     have hi2 : (q : Int) < (m : Int) := by omega
     have hi3 : (0 : Int) ≤ (p : Int) := by omega
     have hi4 : (p : Int) < (m : Int) := by omega
     by_cases hpq : p = q
     ·have Hn' := hide (kcL_no (q := Q) (i := q) (m := p) (.inl hpq))
      have hmi : ((p : Int) != (q : Int)) = false := by rw [show (p : Int) = (q : Int) by omega]; exact bne_self_eq_false _
      go_upto_region 14 with fail
      refine wp_region_held_drew (S := fun W => Below wr.heap.size wr W) (by kernel_rfl) (Below.drew (Below.refl _ _)) (fun hHeld => ?_)
      refine tkN 0 (some 43) rfl ?_; simp only [pz]
      refine tkN 1 (some 44) rfl ?_; simp only [pz]
      refine tkN 2 (some 45) rfl ?_; simp only [pz]
      refine tkN 3 (some 46) rfl ?_; simp only [pz]
      refine tkO 4 (some 47) rfl ?_; simp only [pz]
      refine tkO 5 (some 48) rfl ?_; simp only [pz]
      refine tkO 6 (some 49) rfl ?_; simp only [pz]
      refine tkO 7 (some 50) rfl ?_; simp only [pz]
      refine tkO 8 (some 51) rfl ?_; simp only [pz]
      refine tkO 9 (some 52) rfl ?_; simp only [pz]
      refine tkO 10 (some 53) rfl ?_; simp only [pz]
      refine tkO 11 (some 54) rfl ?_; simp only [pz]
      refine tkO 12 (some 55) rfl ?_; simp only [pz]
      refine tkO 13 (some 56) rfl ?_; simp only [pz]
      refine tkO 14 (some 57) rfl ?_; simp only [pz]
      refine tkO 15 (some 58) rfl ?_; simp only [pz]
      refine tkO 16 (some 59) rfl ?_; simp only [pz]
      refine tkO 17 (some 60) rfl ?_; simp only [pz]
      refine tkO 18 (some 61) rfl ?_; simp only [pz]
      refine tkO 19 (some 62) rfl ?_; simp only [pz]
      refine tkO 20 (some 63) rfl ?_; simp only [pz]
      refine tkO 21 (some 64) rfl ?_; simp only [pz]
      refine tkN 22 (some 65) rfl ?_; simp only [pz]
      refine wpAnyH_done (by kernel_rfl) ?_ _; (try simp only [pz])
      go_wp2
      go_roundw
      case rel => exact ⟨p + 1, g9, cp9, by omega, by go_num, by rw [Hn'.out], by rw [Hn'.out]; exact hide (own_later hHeld HO.out), bstep hbm hHeld⟩
      case measure => simp [intOf]; omega
     ·have hmi : ((p : Int) != (q : Int)) = true := bne_iff_ne.2 (by omega)
      have K8 := KR.out q p hlt hlt2
      have hkq := HQ.out q p
      obtain ⟨r1, hr1⟩ : ∃ x : Int, x = (rmA wx wy (X K) (Y K) (Z K) (nn q) (T q) (U q) (V q) (nn p) (T p) (U p) (V p) len).1 := ⟨_, rfl⟩
      obtain ⟨r2, hr2⟩ : ∃ x : Int, x = (rmA wx wy (X K) (Y K) (Z K) (nn q) (T q) (U q) (V q) (nn p) (T p) (U p) (V p) len).2 := ⟨_, rfl⟩
      rw [← hr1, ← hr2] at K8
      rw [← hr1] at hkq
      have K9 := hide K8
      clear hr1 hr2 K8
      have hfd := fun (W : World) (x : Int) => (show (Instr.field 40 (.agg #[.int .i64 x, .int .i64 r2]) 0).run Tryz.prog W = .ok (.int .i64 x) W by kernel_rfl)
      have hl9 := kcL_len Q q p
      obtain ⟨Lq, hLq⟩ : ∃ x, x = kcL Q q p := ⟨_, rfl⟩
      by_cases h1 : r1 = 1
      ·have Hn' := hide (kcL_yes (q := Q) (i := q) (m := p) hpq (by rw [hkq, h1]; rfl))
       subst h1
       rw [← hLq] at HO hl9 Hn' ⊢
       clear hkq hLq
       go_upto_region 14 with fail
       refine wp_region_held_drew (S := fun W => Below wr.heap.size wr W) (by kernel_rfl) (Below.drew (Below.refl _ _)) (fun hHeld => ?_)
       refine tkN 0 (some 43) rfl ?_; simp only [pz]
       refine tkN 1 (some 44) rfl ?_; simp only [pz]
       refine tkN 2 (some 45) rfl ?_; simp only [pz]
       refine tkN 3 (some 46) rfl ?_; simp only [pz]
       refine tkL 4 (some 47) rfl ?_; simp only [pz]
       refine tkN 5 (some 48) rfl ?_; simp only [pz]
       refine tkL 6 (some 49) rfl ?_; simp only [pz]
       refine tkN 7 (some 50) rfl ?_; simp only [pz]
       refine tkN 8 (some 51) rfl ?_; simp only [pz]
       refine tkL 9 (some 52) rfl ?_; simp only [pz]
       refine tkN 10 (some 53) rfl ?_; simp only [pz]
       refine tkN 11 (some 54) rfl ?_; simp only [pz]
       refine tkN 12 (some 55) rfl ?_; simp only [pz]
       refine tkL 13 (some 56) rfl ?_; simp only [pz]
       refine tkN 14 (some 57) rfl ?_; simp only [pz]
       refine tkN 15 (some 58) rfl ?_; simp only [pz]
       refine tkN 16 (some 59) rfl ?_; simp only [pz]
       refine tkL 17 (some 60) rfl ?_; simp only [pz]
       refine tkN 18 (some 61) rfl ?_; simp only [pz]
       refine rd1 19 (some 62) rfl (fun K hK => ?_)
       go_simp; (go_at_call 21; (with_reducible refine (K9.out _ (bstep HB3.out bwz)).mono ?_); rintro e w9 ⟨rfl, hb⟩; have hzz := hb.size)
       all_goals (try go_wp2_with fail)
       refine hK.out _ _ ?_ (fun hH2 => ?_)
       ·exact hhz
       clear hK K hHeld; (have hHeld := hH2); clear hH2; (try simp only [pz])
       refine tkN 20 (some 63) rfl ?_; simp only [pz]
       refine tkN 21 (some 64) rfl ?_; simp only [pz]
       refine tkN 22 (some 65) rfl ?_; simp only [pz]
       refine wpAnyH_done (by kernel_rfl) ?_ _; (try simp only [pz])
       obtain ⟨wC, rfl⟩ : ∃ x : World, x = w9 := ⟨_, rfl⟩
       have hO9 := own_later hHeld HO.out
       have zC := hHeld.size
       clear e0 e1 e2 e3 e4 t0 t1 K9
       go_wp2_with (at_builtin; refine wpList_append_lies _ rfl _ _ 47 rfl wo.heap.size 2 i1 _ 1 8 Tryz.underlying47 Hi.out Hz.out.1 Hz.out.2.1 Hz.out.2.2 rfl (by decide) _ _ _ rfl (hO9.alloc _) ⟨wC.heap.size, 0, none⟩ 1 1 [.int .i64 p] rfl rfl new1 (one1 _) (by decide) (by unfold maxLen; omega) (by omega) (by simp; omega) (wC.heap.size + 1) (by simp) ?_)
       intro g' cap' wA hown' hgr hat hlt'
       have hbA := below_grown hO9 (by omega) hgr
       go_wp2
       go_roundw
       case rel => exact ⟨p + 1, g', cap', by omega, by go_num, by rw [Hn'.out, List.length_append, List.length_singleton], by rw [Hn'.out, List.length_append, List.length_singleton, List.map_append]; exact hide hown', (bstep hbm hHeld).trans hbA⟩
       case measure => simp [intOf]; omega
      ·have h1b : (r1 == 1) = false := beq_eq_false_iff_ne.2 h1
       have Hn' := hide (kcL_no (q := Q) (i := q) (m := p) (.inr (by rw [hkq, h1b])))
       rw [← hLq] at HO hl9 Hn' ⊢
       clear hkq hLq
       go_upto_region 14 with fail
       refine wp_region_held_drew (S := fun W => Below wr.heap.size wr W) (by kernel_rfl) (Below.drew (Below.refl _ _)) (fun hHeld => ?_)
       refine tkN 0 (some 43) rfl ?_; simp only [pz]
       refine tkN 1 (some 44) rfl ?_; simp only [pz]
       refine tkN 2 (some 45) rfl ?_; simp only [pz]
       refine tkN 3 (some 46) rfl ?_; simp only [pz]
       refine tkL 4 (some 47) rfl ?_; simp only [pz]
       refine tkN 5 (some 48) rfl ?_; simp only [pz]
       refine tkL 6 (some 49) rfl ?_; simp only [pz]
       refine tkN 7 (some 50) rfl ?_; simp only [pz]
       refine tkN 8 (some 51) rfl ?_; simp only [pz]
       refine tkL 9 (some 52) rfl ?_; simp only [pz]
       refine tkN 10 (some 53) rfl ?_; simp only [pz]
       refine tkN 11 (some 54) rfl ?_; simp only [pz]
       refine tkN 12 (some 55) rfl ?_; simp only [pz]
       refine tkL 13 (some 56) rfl ?_; simp only [pz]
       refine tkN 14 (some 57) rfl ?_; simp only [pz]
       refine tkN 15 (some 58) rfl ?_; simp only [pz]
       refine tkN 16 (some 59) rfl ?_; simp only [pz]
       refine tkL 17 (some 60) rfl ?_; simp only [pz]
       refine tkN 18 (some 61) rfl ?_; simp only [pz]
       refine rd1 19 (some 62) rfl (fun K hK => ?_)
       go_simp; (go_at_call 21; (with_reducible refine (K9.out _ (bstep HB3.out bwz)).mono ?_); rintro e w9 ⟨rfl, hb⟩; have hzz := hb.size)
       all_goals (try go_wp2_with fail)
       refine hK.out _ _ ?_ (fun hH2 => ?_)
       ·exact hhz
       clear hK K hHeld; (have hHeld := hH2); clear hH2; (try simp only [pz])
       refine tkN 20 (some 63) rfl ?_; simp only [pz]
       refine tkN 21 (some 64) rfl ?_; simp only [pz]
       refine tkN 22 (some 65) rfl ?_; simp only [pz]
       refine wpAnyH_done (by kernel_rfl) ?_ _; (try simp only [pz])
       obtain ⟨wC, rfl⟩ : ∃ x : World, x = w9 := ⟨_, rfl⟩
       have hO9 := own_later hHeld HO.out
       go_wp2
       go_roundw
       case rel => exact ⟨p + 1, g9, cp9, by omega, by go_num, by rw [Hn'.out], by rw [Hn'.out]; exact hide hO9, bstep hbm hHeld⟩
       case measure => simp [intOf]; omega
    ·obtain rfl : p = m := by omega
     obtain ⟨_, _, hOo, _⟩ := HT.out
     have hgo := fun b (hb : Value.ownBlock _ = some b) => (hOo.lt b hb).2
     obtain ⟨G, C9, hOut, hA⟩ := HT.out.later hbm
     have hl9 := kcL_len Q q p
     have hg9 := HO.out.lt g9 rfl
     have hgc : ∀ j, j < (kcL Q q p).length → wr.cell? ⟨g9, j, none⟩ = some (.int .i64 ((kcL Q q p)[j]?.getD 0)) := fun j hj => by
      have := HO.out.cells (g := g9) rfl j (.int .i64 ((kcL Q q p)[j]?.getD 0)) (by rw [List.getElem?_map, List.getElem?_eq_getElem hj]; rfl)
      rwa [Addr.add_lit, Nat.zero_add] at this
     have Hgc := hide hgc
     have HOu := hide hOut
     clear hgc hOo hOut
     go_wp2_with (at_builtin; refine wpList_append_lies _ rfl _ _ 35 rfl wS.heap.size 47 i0 _ 1 24 Tryz.underlying35 Hi0.out Hz0.out.1 Hz0.out.2.1 Hz0.out.2.2 rfl (by decide) _ q _ rfl (HOu.out.alloc _) ⟨wr.heap.size, 0, none⟩ 1 1 [.slice (some ⟨g9, 0, none⟩) (kcL Q q p).length cp9] rfl rfl new1 (fun u hu => by simp only [List.mem_singleton] at hu; subst hu; rfl) (by decide) (by unfold maxLen; omega) (by omega) (by simp; omega) (wr.heap.size + 1) (by simp) ?_)
     intro g' cap' wA hown' hgr hat hlt'
     have hbA := below_grown HOu.out (by omega) hgr
     have hTA := hide (To.app (R := fun j => kcL Q j p) ⟨G, C9, HOu.out, hA, hown'⟩ (Below.alloc (Below.refl _ _) (Nat.le_refl _) (.cells #[.slice (some ⟨g9, 0, none⟩) (kcL Q q p).length cp9] 47)) (fun k => by have := hgo _ k; omega) hg9.2 Hgc.out hgr (by rw [World.size_alloc]; exact hat))
     have s0 := cell_below hbA (by omega) b0
     have s1 := cell_below hbA (by omega) b1
     have s2 := cell_below hbA (by omega) b2'
     have hBA := HB3.out.trans (hbA.mono (by omega))
     have zA := hbA.size
     clear hown' hgr hat hA
     go_wp2
     go_roundw
     case rel => exact ⟨q + 1, by omega, by go_num, hTA, s0, s1, s2, hBA, by omega⟩
     case measure => simp [intOf]; omega
  ·obtain rfl : q = m := by omega
   obtain ⟨so9, cp9, rfl, hrd⟩ := HT.out.read
   go_wp2
   go_ret2
   exact ⟨_, _, rfl, hrd, hbq⟩
end Go.Proofs.YthlnpcneicmblaaGreatDoor
