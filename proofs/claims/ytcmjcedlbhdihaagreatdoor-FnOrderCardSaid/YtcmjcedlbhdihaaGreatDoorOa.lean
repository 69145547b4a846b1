/- Walks: OrderAt of the program. -/
import Derived.Test.YtcmjcedlbhdihaaGreatDoorSo
import Derived.Test.YtcmjcedlbhdihaaGreatDoorTm
import Derived.Deep.DeepCutAuto
import Derived.Deep.Upon
import Derived.BigQuiet
import Derived.Deep.CutBlock
namespace Go.Proofs.YtcmjcedlbhdihaaGreatDoor
open Go.RowKit

/-- The code; how many stations a boat has reached, and when the last of them. -/
def oaC (m : Nat) (z : Int) : Int := if 16 < m then 3 else z
def oaM (F : Nat → List Int) (t : Int) (j : Nat) : Int := ((cntL (F j) t (F j).length : Nat) : Int)
def oaT (F : Nat → List Int) (t : Int) (j : Nat) : Int := if cntL (F j) t (F j).length = 0 then 0 else lgt (F j) (cntL (F j) t (F j).length - 1)
def oaL (F : Nat → List Int) (t : Int) (m : Nat) (c : Int) : List Int := if c = 0 then srtL (ahB (oaM F t) (oaT F t)) m else []
theorem oaL_no {F : Nat → List Int} {t : Int} {m : Nat} {c : Int} (h : ¬ c = 0) : oaL F t m c = [] := by unfold oaL; rw [if_neg h]
theorem oaL_ok {F : Nat → List Int} {t : Int} {m : Nat} : oaL F t m 0 = srtL (ahB (oaM F t) (oaT F t)) m := by unfold oaL; rw [if_pos rfl]
theorem oaT_bd {F : Nat → List Int} {t : Int} {j : Nat} (h : Inc (F j)) : 0 ≤ oaT F t j ∧ oaT F t j ≤ 1000000000 := by
 unfold oaT
 split
 ·omega
 ·have := cntL_le (F j) t (F j).length
  obtain ⟨a, b, _⟩ := h (cntL (F j) t (F j).length - 1) (by omega)
  exact ⟨a, b⟩
/-- What OrderAt returns. -/
def RetZ (w : World) (L : List Int) (c : Int) (e : Ending) (w' : World) : Prop :=
 ∃ so cp, e = .returned (.tuple #[.slice so L.length cp, .int .i64 c]) ∧ OwZ w' w.heap.size so L ∧ Below w.heap.size w w'
/-- All cells but those of two blocks. -/
def Gr2 (w W : World) (a b : Nat) : Prop := (∀ k o, k < w.heap.size → k ≠ a → k ≠ b → W.cell? ⟨k, o, none⟩ = w.cell? ⟨k, o, none⟩) ∧ w.heap.size ≤ W.heap.size
theorem Gr2.later {w W W' : World} {a b : Nat} (h : Gr2 w W a b) (hb : Below W.heap.size W W') : Gr2 w W' a b := ⟨fun k o hk h1 h2 => ((bcell hb).1 k o (Nat.lt_of_lt_of_le hk h.2)).trans (h.1 k o hk h1 h2), Nat.le_trans h.2 hb.size⟩
theorem Gr2.set {w W : World} {a b c j : Nat} {x : Value} (h : Gr2 w W a b) (hc : c = a ∨ c = b) : Gr2 w (W.setCell ⟨c, j, none⟩ x) a b := ⟨fun k o hk h1 h2 => (World.cell?_setCell_other _ _ _ _ (fun e => by injection e with e; rcases hc with hc | hc <;> omega)).trans (h.1 k o hk h1 h2), by simpa [World.setCell] using h.2⟩
theorem Gr2.cell {w W : World} {a b k o : Nat} {v : Value} (h : Gr2 w W a b) (h1 : k ≠ a) (h2 : k ≠ b) (hc : w.cell? ⟨k, o, none⟩ = some v) : W.cell? ⟨k, o, none⟩ = some v := (h.1 k o (World.block_lt_of_cell? _ _ hc) h1 h2).trans hc
theorem Gr2.row {w W : World} {a b g n c : Nat} {R : Nat → Nat → Value} (h : Gr2 w W a b) (h1 : g ≠ a) (h2 : g ≠ b) (r : RowAt w (some ⟨g, 0, none⟩) n c R) : RowAt W (some ⟨g, 0, none⟩) n c R := fun i hi => by
 obtain ⟨b', o', e, k⟩ := r i hi
 simp only [Option.some.injEq, Addr.mk.injEq] at e
 obtain ⟨rfl, rfl, _⟩ := e
 exact ⟨g, 0, rfl, fun j hj => h.cell h1 h2 (k j hj)⟩
/-- A row of integers in block r that the call may write to. -/
def ZAt (W : World) (r m : Nat) (F : Nat → Int) : Prop := ∀ k, k < m → W.cell? ⟨r, k, none⟩ = some (.int .i64 (F k)) ∧ W.frozen? ⟨r, k, none⟩ = false
theorem ZAt.later {W W' : World} {r m : Nat} {F : Nat → Int} (h : ZAt W r m F) (hb : Below W.heap.size W W') : ZAt W' r m F := fun k hk => ⟨cell_later hb (h k hk).1, frozen_later hb (h k hk).1 (h k hk).2⟩
theorem ZAt.other {W : World} {r m c j : Nat} {F : Nat → Int} {x : Value} (h : ZAt W r m F) (hc : c ≠ r) : ZAt (W.setCell ⟨c, j, none⟩ x) r m F := fun k hk => ⟨cell_set (h k hk).1 hc, (World.frozen?_setCell _ _ _ _).trans (h k hk).2⟩
theorem ZAt.set {W : World} {r m q : Nat} {x : Int} {F F' : Nat → Int} (h : ZAt W r m F) (hq : F' q = x) (hF : ∀ k, k < m → k ≠ q → F' k = F k) : ZAt (W.setCell ⟨r, q, none⟩ (.int .i64 x)) r m F' := fun k hk => by
 obtain ⟨c, f⟩ := h k hk
 refine ⟨?_, (World.frozen?_setCell _ _ _ _).trans f⟩
 by_cases e : k = q
 ·subst e; rw [hq]; exact cell_same c
 ·rw [hF k hk e]; exact cell_off c (.inr (by simp; omega))
theorem ZAt.congr {W : World} {r m : Nat} {F F' : Nat → Int} (h : ZAt W r m F) (e : ∀ k, k < m → F k = F' k) : ZAt W r m F' := fun k hk => by rw [← e k hk]; exact h k hk
/-- The first k of a row are laid. -/
def rowF (F : Nat → Int) (k j : Nat) : Int := if j < k then F j else 0
theorem rowF_zero (F : Nat → Int) (j : Nat) : rowF F 0 j = 0 := by unfold rowF; rw [if_neg (by omega)]
theorem rowF_all (F : Nat → Int) {k j : Nat} (h : j < k) : rowF F k j = F j := by unfold rowF; rw [if_pos h]
theorem rowF_new (F : Nat → Int) (k : Nat) : rowF F (k + 1) k = F k := by unfold rowF; rw [if_pos (by omega)]
theorem rowF_old (F : Nat → Int) {k j : Nat} (h : j ≠ k) : rowF F (k + 1) j = rowF F k j := by
 unfold rowF
 by_cases e : j < k
 ·rw [if_pos e, if_pos (by omega)]
 ·rw [if_neg e, if_neg (by omega)]
theorem rowF_nil (F : Nat → Int) (k j : Nat) (h : F k = 0) : rowF F (k + 1) j = rowF F k j := by
 by_cases e : j = k
 ·subst e; rw [rowF_new, h]; unfold rowF; rw [if_neg (by omega)]
 ·exact rowF_old F e
theorem madeZ {m k : Nat} (hk : k < m) : (madeCells #[Value.int .i64 0] m)[k]? = some (.int .i64 0) := by simp [madeCells, hk, Nat.mod_one]
theorem ZAt.drew {W : World} {r m : Nat} {F : Nat → Int} (h : ZAt W r m F) : ZAt W.drew r m F := h
theorem ZAt.drewN {W : World} {r m n : Nat} {F : Nat → Int} (h : ZAt W r m F) : ZAt (W.drewN n) r m F := h
theorem Gr2.drew {w W : World} {a b : Nat} (h : Gr2 w W a b) : Gr2 w W.drew a b := h
theorem made_z {W : World} {m : Nat} {ty : TypeId} (c : Array Value) (hc : c = madeCells #[Value.int .i64 0] (m * 1)) : ZAt (W.alloc (.cells c ty)) W.heap.size m fun _ => 0 := fun k hk => by
 subst hc
 refine ⟨?_, World.frozen?_alloc_new _ _ _ _ ⟩
 rw [World.cell?_alloc_new]
 simp [madeCells, hk, Nat.mod_one]
set_option maxRecDepth 100000 in
set_option maxHeartbeats 8000000 in
theorem impl_OrderAt (ax ay bx bY cx cy dx dy : Int) (so : Option Addr) (n cap : Nat) (N : Nat → ByteArray) (X Y S Z : Nat → Int) (so2 : Option Addr) (m cap2 : Nat) (A : Nat → Option Addr) (nn C : Nat → Nat) (T U V : Nat → Nat → Int) (t : Int) (w : World) (h : RowAt w so n 5 (v5 N X Y S Z)) (hn : n ≤ 1048576) (hcap : n ≤ cap) (h2 : Trs w so2 m A nn C T U V) (hm : m ≤ 1048576) (hnn : ∀ i, i < m → nn i ≤ 1048576) :
 Calls Tryz.prog 6 #[.agg #[.int .i64 ax, .int .i64 ay, .int .i64 bx, .int .i64 bY, .int .i64 cx, .int .i64 cy, .int .i64 dx, .int .i64 dy, .slice so n cap], .slice so2 m cap2, .int .i64 t] w (RetZ w (oaL (fun j => (tmS (lnA ax ay bx bY cx cy dx dy n X Y S Z) (lnB ax ay bx bY cx cy dx dy n X Y S Z) (lnC ax ay bx bY cx cy dx dy n X Y S Z) (lnD ax ay bx bY cx cy dx dy n X Y S Z) (T j) (U j) (V j) (nn j) (n + 2)).1) t m (oaC m (tsC (isCo ax ay bx bY cx cy dx dy n N X Y S Z) (allTr nn T U V m) (lnsOk (lnA ax ay bx bY cx cy dx dy n X Y S Z) (lnB ax ay bx bY cx cy dx dy n X Y S Z) (lnC ax ay bx bY cx cy dx dy n X Y S Z) (lnD ax ay bx bY cx cy dx dy n X Y S Z) (n + 1))))) (oaC m (tsC (isCo ax ay bx bY cx cy dx dy n N X Y S Z) (allTr nn T U V m) (lnsOk (lnA ax ay bx bY cx cy dx dy n X Y S Z) (lnB ax ay bx bY cx cy dx dy n X Y S Z) (lnC ax ay bx bY cx cy dx dy n X Y S Z) (lnD ax ay bx bY cx cy dx dy n X Y S Z) (n + 1))))) := by
 by_cases h16 : 16 < m
 ·have hc : (oaC m (tsC (isCo ax ay bx bY cx cy dx dy n N X Y S Z) (allTr nn T U V m) (lnsOk (lnA ax ay bx bY cx cy dx dy n X Y S Z) (lnB ax ay bx bY cx cy dx dy n X Y S Z) (lnC ax ay bx bY cx cy dx dy n X Y S Z) (lnD ax ay bx bY cx cy dx dy n X Y S Z) (n + 1)))) = 3 := by unfold oaC; rw [if_pos h16]
  rw [hc, oaL_no (by decide)]
  have h16i : (16 : Int) < (m : Int) := by omega
  clear h h2 hnn hc
  go_enter Tryz.func6, Tryz.ntmps6
  go_wp2
  go_ret2
  exact ⟨none, 0, rfl, .inl ⟨rfl, rfl⟩, bwz⟩
 have h16i : ¬ (16 : Int) < (m : Int) := by omega
 have hcd : (oaC m (tsC (isCo ax ay bx bY cx cy dx dy n N X Y S Z) (allTr nn T U V m) (lnsOk (lnA ax ay bx bY cx cy dx dy n X Y S Z) (lnB ax ay bx bY cx cy dx dy n X Y S Z) (lnC ax ay bx bY cx cy dx dy n X Y S Z) (lnD ax ay bx bY cx cy dx dy n X Y S Z) (n + 1)))) = tsC (isCo ax ay bx bY cx cy dx dy n N X Y S Z) (allTr nn T U V m) (lnsOk (lnA ax ay bx bY cx cy dx dy n X Y S Z) (lnB ax ay bx bY cx cy dx dy n X Y S Z) (lnC ax ay bx bY cx cy dx dy n X Y S Z) (lnD ax ay bx bY cx cy dx dy n X Y S Z) (n + 1)) := by unfold oaC; rw [if_neg h16]
 rw [hcd]
 obtain ⟨cz, hcz⟩ : ∃ c, c = tsC (isCo ax ay bx bY cx cy dx dy n N X Y S Z) (allTr nn T U V m) (lnsOk (lnA ax ay bx bY cx cy dx dy n X Y S Z) (lnB ax ay bx bY cx cy dx dy n X Y S Z) (lnC ax ay bx bY cx cy dx dy n X Y S Z) (lnD ax ay bx bY cx cy dx dy n X Y S Z) (n + 1)) := ⟨_, rfl⟩
 obtain ⟨Lz, hLz⟩ : ∃ L, L = oaL (fun j => (tmS (lnA ax ay bx bY cx cy dx dy n X Y S Z) (lnB ax ay bx bY cx cy dx dy n X Y S Z) (lnC ax ay bx bY cx cy dx dy n X Y S Z) (lnD ax ay bx bY cx cy dx dy n X Y S Z) (T j) (U j) (V j) (nn j) (n + 2)).1) t m cz := ⟨_, rfl⟩
 rw [← hcz, ← hLz]
 have HCZ := hide hcz
 have HLZ := hide hLz
 clear hcz hLz
 have Hh := hide h
 have Hh2 := hide h2
 have Hn := hide hnn
 have KL := hide (fun W (hb : Below w.heap.size w W) (hv : (isCo ax ay bx bY cx cy dx dy n N X Y S Z) = true) => impl_courseLines ax ay bx bY cx cy dx dy so n cap N X Y S Z W (RowAt.later hb h) hcap hv)
 have KN := hide (fun W (hb : Below w.heap.size w W) (hv : (isCo ax ay bx bY cx cy dx dy n N X Y S Z) = false) => impl_courseLines_c ax ay bx bY cx cy dx dy so n cap N X Y S Z W (RowAt.later hb h) hn hcap hv)
 clear h h2 hnn hcd
 obtain ⟨wS, hwS⟩ : ∃ W, W = w.alloc (.cells #[.int .i64 ax, .int .i64 ay, .int .i64 bx, .int .i64 bY, .int .i64 cx, .int .i64 cy, .int .i64 dx, .int .i64 dy, .slice so n cap] 30) := ⟨_, rfl⟩
 have HBS := hide (show Below w.heap.size w wS by rw [hwS]; exact bwz)
 have HX := hide (show CoBx wS w.heap.size ax ay bx bY cx cy dx dy so n cap by rw [hwS]; exact ⟨by go_simp, by go_simp, by go_simp, by go_simp, by go_simp, by go_simp, by go_simp, by go_simp, by go_simp⟩)
 have zS : w.heap.size < wS.heap.size := by rw [hwS]; simp
 go_enter Tryz.func6, Tryz.ntmps6
 go_wp2
 rw [← hwS]
 clear hwS
 go_loopw [23] (fun i wr => ∃ k : Nat, k ≤ m ∧ i = .int .i64 k ∧ Hid (allTr nn T U V k = true) ∧ Below wS.heap.size wS wr) (fun i _ => m - (intOf i).toNat)
 case atStart => exact ⟨0, Nat.zero_le _, rfl, hide rfl, Below.refl _ _⟩
 case round =>
  obtain ⟨k, hk, rfl, HA, hbl⟩ := hrel
  have zr := hbl.size
  have HBr := hide (bstep HBS.out hbl)
  by_cases hlt : k < m
  ·obtain ⟨b, o, rfl, hbs, c0⟩ := (Trs.later HBr.out Hh2.out).at k hlt
   have Hk := hide (RowAt.later HBr.out (Hh2.out.2 k hlt))
   have hnk := Hn.out k hlt
   have hj1 : (0 : Int) ≤ (k : Int) := by omega
   have hj2 : (k : Int) < (m : Int) := by omega
   have KT := hide (fun W (hb : Below wr.heap.size wr W) => impl_IsTrack _ _ (C k) (T k) (U k) (V k) W (RowAt.later hb Hk.out) hnk)
   rcases b2 (isTr (nn k) (T k) (U k) (V k)) with ht | ht
   ·have hf := allTr_no hlt ht
    obtain rfl : cz = 1 := HCZ.out.trans (by rw [hf, tsC_tr])
    obtain rfl : Lz = [] := HLZ.out.trans (oaL_no (by decide))
    clear HCZ HLZ
    have KT2 := hide (ht ▸ KT.out)
    clear KT ht Hk HA hf
    go_wp2_with (go_at_call 17; (with_reducible refine (KT2.out _ bwz).mono ?_); rintro e w9 ⟨rfl, hb⟩; obtain ⟨hc, hf⟩ := bcell hb; have hz := hb.size; have z0 : wr.heap.size < w9.heap.size := (by first | omega | (simp at hz; omega)); have zzb : b < w9.heap.size := (by first | omega | (simp at hz; omega)))
    go_ret2
    exact ⟨none, 0, rfl, .inl ⟨rfl, rfl⟩, HBr.out.trans ((show Below wr.heap.size wr _ from bwz).mono (by have := HBr.out.size; omega))⟩
   ·have Hf := hide (show allTr nn T U V (k + 1) = true by rw [allTr, HA.out, ht]; rfl)
    have KT2 := hide (ht ▸ KT.out)
    clear KT ht Hk HA
    go_wp2_with (go_at_call 17; (with_reducible refine (KT2.out _ bwz).mono ?_); rintro e w9 ⟨rfl, hb⟩; obtain ⟨hc, hf⟩ := bcell hb; have hz := hb.size; have z0 : wr.heap.size < w9.heap.size := (by first | omega | (simp at hz; omega)); have zzb : b < w9.heap.size := (by first | omega | (simp at hz; omega)))
    go_roundw
    case rel => exact ⟨k + 1, by omega, by go_num, Hf, hbl.trans ((show Below wr.heap.size wr _ from bwz).mono (by omega))⟩
    case measure => simp [intOf]; omega
  ·obtain rfl : m = k := by omega
   have HTr := HA
   have HCZ := hide (HTr.out ▸ HCZ.out)
   obtain ⟨wK, rfl⟩ : ∃ x : World, x = wr := ⟨_, rfl⟩
   have HXK := hide (CoBx.later hbl HX.out)
   have zK0 : w.heap.size < wK.heap.size := by omega
   clear hbl HA HX HBS
   obtain ⟨q0, q1, q2, q3, q4, q5, q6, q7, q8⟩ := HXK.out
   rcases b2 (isCo ax ay bx bY cx cy dx dy n N X Y S Z) with hco | hco
   ·obtain rfl : cz = 1 := HCZ.out.trans (by rw [hco, tsC_co])
    obtain rfl : Lz = [] := HLZ.out.trans (oaL_no (by decide))
    clear HCZ HLZ
    have KN2 := hide (fun W hb => KN.out W hb hco)
    clear KL KN hco
    go_wp2_with fail; (with_reducible refine (KN2.out _ HBr.out).mono ?_); rintro e wL ⟨rfl, hbL⟩
    go_wp2
    go_ret2
    exact ⟨none, 0, rfl, .inl ⟨rfl, rfl⟩, bstep HBr.out hbL⟩
   ·have KL2 := hide (fun W hb => KL.out W hb hco)
    have hf := ln_last ax ay bx bY cx cy dx dy so n cap N X Y S Z (isCo_t hco).2.1
    have hn8 := (isCo_t hco).2.2.2.1
    have HCZ := hide (hco ▸ HCZ.out)
    clear KL KN hco
    generalize lnA ax ay bx bY cx cy dx dy n X Y S Z = A9 at *
    generalize lnB ax ay bx bY cx cy dx dy n X Y S Z = B9 at *
    generalize lnC ax ay bx bY cx cy dx dy n X Y S Z = C9 at *
    generalize lnD ax ay bx bY cx cy dx dy n X Y S Z = D9 at *
    go_wp2_with fail; (with_reducible refine (KL2.out _ HBr.out).mono ?_); rintro e wL ⟨⟨hl, gl, cpl, rfl, hown⟩ | ⟨hl, rfl⟩, hbL⟩
    rotate_left
    ·obtain rfl : cz = 2 := HCZ.out.trans (by rw [hl]; rfl)
     obtain rfl : Lz = [] := HLZ.out.trans (oaL_no (by decide))
     clear HCZ HLZ
     go_wp2
     go_ret2
     exact ⟨none, 0, rfl, .inl ⟨rfl, rfl⟩, bstep HBr.out hbL⟩
    ·obtain rfl : cz = 0 := HCZ.out.trans (by rw [hl]; rfl)
     have HLZ := hide (HLZ.out.trans oaL_ok)
     clear HCZ
     have hrow := own_lines hown
     have hgl := (hown.lt gl rfl)
     have HBL := hide (bstep HBr.out hbL)
     have HXL := hide (CoBx.later hbL HXK.out)
     have Hls := hide (show ∀ i, i < n + 2 → isSg (A9 i) (B9 i) (C9 i) (D9 i) = true from fun i hi => by
      rcases Nat.lt_or_ge i (n + 1) with q | q
      ·exact lnsOk_t hl i q
      ·obtain rfl : i = n + 1 := by omega
       exact hf)
     have Hrow := hide hrow
     have sL := hbL.size
     obtain ⟨F, hF⟩ : ∃ F : Nat → List Int, F = fun j => (tmS A9 B9 C9 D9 (T j) (U j) (V j) (nn j) (n + 2)).1 := ⟨_, rfl⟩
     have HLZ := hide (show Lz = srtL (ahB (oaM F t) (oaT F t)) m by rw [hF]; exact HLZ.out)
     obtain rfl := HLZ.out
     clear HLZ
     have HF := hide (show ∀ j, F j = (tmS A9 B9 C9 D9 (T j) (U j) (V j) (nn j) (n + 2)).1 from fun j => by rw [hF])
     have HI := hide (show ∀ j, j < m → Inc (F j) from fun j hj => by rw [hF]; exact tm_inc (allTr_at hj HTr.out) (m := n + 2) (fun i hi => Hls.out i hi) (n + 2) (Nat.le_refl _))
     have HN := hide (show ∀ j, (F j).length ≤ n + 2 from fun j => by rw [hF]; exact (tmS_len A9 B9 C9 D9 (T j) (U j) (V j) (nn j) (n + 2)).1)
     clear hF hbL hown hrow q0 q1 q2 q3 q4 q5 q6 q7 q8 HXK HBr KL2 hl hf
     -- the two rows
     obtain ⟨i0, hi, hz0, hz1, hz2⟩ := info_parts infoI64
     have hmk := fun W => run_make_rowN (P := Tryz.prog) 34 2 i0 _ Tryz.underlying34 hi hz0 m (by rw [hz2]; omega) (by omega) W
     rw [hz1] at hmk
     have HMk := hide hmk
     clear hi hz0 hz1 hz2 hmk
     go_upto_region 12 with fail
     go_cut [12, 13] (fun s1 s2 W => ∃ p1 p2 g1 g2 : Nat, s1 = .pointer (some ⟨p1, 0, none⟩) ∧ s2 = .pointer (some ⟨p2, 0, none⟩) ∧ W.cell? ⟨p1, 0, none⟩ = some (.slice (some ⟨g1, 0, none⟩) m m) ∧ W.cell? ⟨p2, 0, none⟩ = some (.slice (some ⟨g2, 0, none⟩) m m) ∧ Hid (ZAt W g1 m fun _ => 0) ∧ Hid (ZAt W g2 m fun _ => 0) ∧ wL.heap.size ≤ p1 ∧ wL.heap.size ≤ p2 ∧ wL.heap.size ≤ g1 ∧ wL.heap.size ≤ g2 ∧ g1 ≠ g2 ∧ p1 ≠ g1 ∧ p1 ≠ g2 ∧ p2 ≠ g1 ∧ p2 ≠ g2 ∧ g1 < W.heap.size ∧ g2 < W.heap.size ∧ Below wL.heap.size wL W)
     case first =>
      have hmk := HMk.out
      go_region
      all_goals
       go_wp2_with fail
       go_meet
       refine ⟨_, _, _, _, rfl, rfl, by go_simp; rfl, by go_simp; rfl, hide (fun k hk => ?_), hide (fun k hk => ?_), by omega, by omega, by omega, by omega, by omega, by omega, by omega, by omega, by omega, by simp <;> omega, by simp <;> omega, bwz⟩
       ·have e := madeZ (m := m) hk
        exact ⟨by go_simp, by go_simp⟩
       ·have e := madeZ (m := m) hk
        exact ⟨by go_simp, by go_simp⟩
     case rest =>
      obtain ⟨p1, p2, g1, g2, rfl, rfl, e1, e2, HZ1, HZ2, lp1, lp2, lg1, lg2, n1, n2, n3, n4, n5, hg1, hg2, hbC⟩ := hcut
      have HBC := hide hbC
      have sC := hbC.size
      have zp1 : p1 < wc.heap.size := World.block_lt_of_cell? _ _ e1
      have zp2 : p2 < wc.heap.size := World.block_lt_of_cell? _ _ e2
      clear hbC HMk
      go_wp2
      go_loopw [47] (fun i wr => ∃ k : Nat, k ≤ m ∧ i = .int .i64 k ∧ Hid (ZAt wr g1 m (rowF (oaM F t) k)) ∧ Hid (ZAt wr g2 m (rowF (oaT F t) k)) ∧ Hid (Gr2 wc wr g1 g2) ∧ Hid (Below wL.heap.size wL wr)) (fun i _ => m - (intOf i).toNat)
      case atStart => exact ⟨0, Nat.zero_le _, rfl, hide (HZ1.out.congr fun j _ => (rowF_zero _ j).symm), hide (HZ2.out.congr fun j _ => (rowF_zero _ j).symm), hide ⟨fun k o _ _ _ => rfl, Nat.le_refl _⟩, HBC⟩
      case round =>
       clear HZ1 HZ2 HBC
       obtain ⟨k, hk, rfl, HA1, HA2, HG, HB⟩ := hrel
       have zr := HG.out.2
       have HBr := hide (bstep HBL.out HB.out)
       have k1 := HG.out.cell n2 n3 e1
       have k2 := HG.out.cell n4 n5 e2
       have zq1 : p1 < wr.heap.size := by omega
       have zq2 : p2 < wr.heap.size := by omega
       have zs1 : g1 < wr.heap.size := by omega
       have zs2 : g2 < wr.heap.size := by omega
       by_cases hlt : k < m
       ·obtain ⟨b3, o3, rfl, hbs, c0⟩ := (Trs.later HBr.out Hh2.out).at k hlt
        have hv := allTr_at hlt HTr.out
        have hRk := RowAt.later HBr.out (Hh2.out.2 k hlt)
        obtain ⟨b4, o4, e4, _⟩ := hRk.at3 0 (by have := (isTr_t hv).1; omega)
        rw [e4] at c0 hRk
        have hj1 : (0 : Int) ≤ (k : Int) := by omega
        have hj2 : (k : Int) < (m : Int) := by omega
        have KT := fun W (hb : Below wr.heap.size wr W) => impl_timesAcross A9 B9 C9 D9 gl (n + 2) cpl b4 o4 (nn k) (C k) (T k) (U k) (V k) W (RowAt.later (bstep HB.out hb) Hrow.out) (by omega) (RowAt.later hb hRk) hv (fun i hi => Hls.out i hi)
        rw [← HF.out k] at KT
        have KT := hide KT
        have HIk := hide (HI.out k hlt)
        have hLk := HN.out k
        obtain ⟨c, hc⟩ : ∃ c : Nat, c = cntL (F k) t (F k).length := ⟨_, rfl⟩
        have hcl : c ≤ (F k).length := by rw [hc]; exact cntL_le _ _ _
        have HMk := hide (show oaM F t k = (c : Int) by unfold oaM; rw [hc])
        have HTk := hide (show oaT F t k = if c = 0 then 0 else lgt (F k) (c - 1) by unfold oaT; rw [← hc])
        have KR := fun so g cp W hs h9 => impl_reachedAt (F k) so g cp t W HIk.out (by omega) hs h9
        rw [← hc] at KR
        have KR := hide KR
        clear hc hv hRk HIk
        generalize F k = Lk at *
        go_wp2_with fail; (with_reducible refine (KT.out _ bwz).mono ?_); rintro e wT ⟨g5, cp5, rfl, hown, hbT⟩
        obtain ⟨gz, hgz, hcz⟩ := OwZ.gets (OwZ.of hown)
        have hso : Lk.length = 0 ∨ some (⟨g5, 0, none⟩ : Addr) = some ⟨gz, 0, none⟩ := hgz.imp id (·.1)
        have HCZ := hide hcz
        have zT := hbT.size
        simp only [size_al] at zT hgz
        have d1 : wT.cell? ⟨p1, 0, none⟩ = some (.slice (some ⟨g1, 0, none⟩) m m) := cell_later hbT (cell_alloc k1)
        have d2 : wT.cell? ⟨p2, 0, none⟩ = some (.slice (some ⟨g2, 0, none⟩) m m) := cell_later hbT (cell_alloc k2)
        have hal : Below wr.heap.size wr (wr.alloc (.cells #[.slice (some ⟨b4, o4, none⟩) (nn k) (C k)] 43)) := Below.alloc (Below.refl _ _) (Nat.le_refl _) _
        have HA1 := hide ((HA1.out.later hal).later hbT)
        have HA2 := hide ((HA2.out.later hal).later hbT)
        have HG := hide ((HG.out.later hal).later hbT)
        have HB := hide (bstep (HB.out.trans (hal.mono HB.out.size)) hbT)
        obtain ⟨x1, f1⟩ := HA1.out k hlt
        obtain ⟨x2, f2⟩ := HA2.out k hlt
        have zg1 : g1 < wT.heap.size := by omega
        have zg2 : g2 < wT.heap.size := by omega
        have hz5 : Lk.length = 0 ∨ (gz ≠ g1 ∧ gz ≠ g2) := by omega
        clear hown hgz hcz hbT hal KT k1 k2 c0
        go_wp2_with fail; (with_reducible refine (KR.out _ gz _ _ hso HCZ.out).mono ?_); rintro e wR ⟨rfl, rfl⟩
        clear KR
        by_cases hc0 : c = 0
        ·subst hc0
         have HTk2 := hide (HTk.out.trans (if_pos rfl))
         go_wp2
         go_roundw
         case rel => exact ⟨k + 1, by omega, by go_num, hide (HA1.out.set ((rowF_new _ _).trans HMk.out) (fun j _ h => rowF_old _ h)), hide ((HA2.out.other n1).congr fun j _ => (rowF_nil _ k j HTk2.out).symm), hide (HG.out.set (.inl rfl)), hide (HB.out.setCell (by dsimp only; omega) _)⟩
         case measure => simp [intOf]; omega
        ·obtain ⟨q, rfl⟩ : ∃ q, c = q + 1 := ⟨c - 1, by omega⟩
         have HTk2 := hide (HTk.out.trans (if_neg hc0))
         obtain ⟨hz5, hz6⟩ := hz5.resolve_left (by omega)
         obtain ⟨⟩ := hso.resolve_left (by omega)
         have y0 := HCZ.out q (by omega)
         have hq0 : (0 : Int) ≤ (q : Int) := by omega
         have hq1 : (q : Int) < (Lk.length : Int) := by omega
         have wq : IntKind.i64.wrap (q : Int) = (q : Int) := IntWalk.i64_in _ (by omega)
         generalize hy : lgt Lk q = yv at *
         have Hy := hide hy
         clear hy HTk hso HCZ
         go_upto_region 20 with fail
         obtain ⟨wG, hG⟩ : ∃ W, W = wT.setCell ⟨g1, k, none⟩ (.int .i64 ((q : Int) + 1)) := ⟨_, rfl⟩
         rw [← hG]
         have d3 : wG.cell? ⟨p2, 0, none⟩ = some (.slice (some ⟨g2, 0, none⟩) m m) := by rw [hG]; exact cell_set d2 (Ne.symm n4)
         have y1 : wG.cell? ⟨g5, q, none⟩ = some (.int .i64 yv) := by rw [hG]; exact cell_set y0 (Ne.symm hz5)
         have x3 : wG.cell? ⟨g2, k, none⟩ = some (.int .i64 (rowF (oaT F t) k k)) := by rw [hG]; exact cell_set x2 n1
         have f3 : wG.frozen? ⟨g2, k, none⟩ = false := by rw [hG, World.frozen?_setCell]; exact f2
         have HA1 := hide (show ZAt wG g1 m (rowF (oaM F t) (k + 1)) by rw [hG]; exact HA1.out.set ((rowF_new _ _).trans (HMk.out.trans (by omega))) (fun j _ h => rowF_old _ h))
         have HA2 := hide (show ZAt wG g2 m (rowF (oaT F t) k) by rw [hG]; exact HA2.out.other n1)
         have HG := hide (show Gr2 wc wG g1 g2 by rw [hG]; exact HG.out.set (.inl rfl))
         have HB := hide (show Below wL.heap.size wL wG by rw [hG]; exact HB.out.setCell (by dsimp only; omega) _)
         have hv : rowF (oaT F t) (k + 1) k = yv := (rowF_new _ _).trans (HTk2.out.trans (by rw [Nat.add_sub_cancel]; exact Hy.out))
         have Hv := hide hv
         clear hG d1 d2 y0 x1 x2 f1 f2 hv HTk2 Hy
         generalize rowF (oaT F t) k k = zz at *
         go_region
         all_goals
          go_wp2
          go_roundw
          case rel => exact ⟨k + 1, by omega, by go_num, hide (HA1.out.other (Ne.symm n1)).drew, hide (HA2.out.set Hv.out (fun j _ h => rowF_old _ h)).drew, hide (HG.out.set (.inr rfl)).drew, hide (Below.drew (HB.out.setCell (by dsimp only; omega) _))⟩
          case measure => simp [intOf] <;> omega
       ·obtain rfl : m = k := by omega
        have hm1 : ∀ i, i < m → wr.cell? ⟨g1, i, none⟩ = some (.int .i64 (oaM F t i)) := fun i hi => by rw [← rowF_all (oaM F t) hi]; exact (HA1.out i hi).1
        have hm2 : ∀ i, i < m → wr.cell? ⟨g2, i, none⟩ = some (.int .i64 (oaT F t i)) := fun i hi => by rw [← rowF_all (oaT F t) hi]; exact (HA2.out i hi).1
        have KS := hide (impl_sortedIndices (oaM F t) (oaT F t) m g1 g2 p1 p2 (by omega) wr k1 k2 hm1 hm2 (fun i hi => by have := cntL_le (F i) t (F i).length; have := HN.out i; unfold oaM; omega) (fun i hi => oaT_bd (HI.out i hi)))
        clear hm1 hm2
        go_wp2_with fail; (with_reducible refine KS.out.mono ?_); rintro e wS9 ⟨g9, cp9, rfl, hown, hbS⟩
        go_wp2
        go_ret2
        exact ⟨some ⟨g9, 0, none⟩, cp9, congrArg (fun l : Nat => Ending.returned (.tuple #[Value.slice (some ⟨g9, 0, none⟩) l cp9, .int .i64 0])) (srtL_len _ m).symm, hown.mono (by have := HBr.out.size; omega), bstep HBr.out hbS⟩
end Go.Proofs.YtcmjcedlbhdihaaGreatDoor
/- Walks: which of two boats is ahead, of the reference; appends of integers, of any number of them. -/
namespace Go.Proofs.YtcmjcedlbhdihaaGreatDoor
open Go.RowKit

/-- The time of the last station that is reached. -/
def tmL (t : Int) (L : List Int) : Int := if cntL L t L.length = 0 then 0 else lgt L (cntL L t L.length - 1)
/-- A boat with these times is ahead of one with those. -/
def ahL (t : Int) (L K : List Int) : Bool := decide ((if ((cntL L t L.length : Nat) : Int) = ((cntL K t K.length : Nat) : Int) then tmL t L - tmL t K else ((cntL K t K.length : Nat) : Int) - ((cntL L t L.length : Nat) : Int)) < 0)
theorem ahL_eq (F : Nat → List Int) (t : Int) (i j : Nat) : ahB (oaM F t) (oaT F t) i j = ahL t (F i) (F j) := rfl
set_option maxHeartbeats 4000000 in
theorem spec_l06Ahead (L K : List Int) (so1 so2 : Option Addr) (g1 c1 g2 c2 : Nat) (t : Int) (b : Bool) (w : World) (hb : ahL t L K = b) (hl : L.length ≤ 100) (hk : K.length ≤ 100) (hs1 : L.length = 0 ∨ so1 = some ⟨g1, 0, none⟩) (hc1 : ∀ j, j < L.length → w.cell? ⟨g1, j, none⟩ = some (.int .i64 (lgt L j))) (hs2 : K.length = 0 ∨ so2 = some ⟨g2, 0, none⟩) (hc2 : ∀ j, j < K.length → w.cell? ⟨g2, j, none⟩ = some (.int .i64 (lgt K j))) :
 Calls Tryz.prog 27 #[.slice so1 L.length c1, .slice so2 K.length c2, .int .i64 t] w fun e w' => e = .returned (.bool b) ∧ ∃ n, w' = w.drewN n := by
 have K1 := spec_l06Reached L so1 g1 c1 t w hl hs1 hc1
 have K2 := spec_l06Reached K so2 g2 c2 t w hk hs2 hc2
 unfold ahL tmL at hb
 have la := cntL_le L t L.length
 have lb := cntL_le K t K.length
 generalize cntL L t L.length = p at *
 generalize cntL K t K.length = q at *
 by_cases hpq : p = q
 ·subst hpq
  rw [if_pos rfl] at hb
  by_cases hp : p = 0
  ·subst hp
   obtain rfl : b = false := by rw [← hb]; rfl
   have K1 := hide K1
   have K2 := hide K2
   clear hb hs1 hs2 hc1 hc2 hl hk la lb
   go_enter Tryz.func27, Tryz.ntmps27
   go_wp2_with (first | (go_at_call 57; (with_reducible refine K1.out.mono ?_); rintro e w1 ⟨rfl, rfl⟩) | (go_at_call 57; (with_reducible refine K2.out.mono ?_); rintro e w1 ⟨rfl, rfl⟩))
   go_quiet (fail)
   go_wp2
   go_ret
   exact ⟨rfl, _, rfl⟩
  ·obtain ⟨r, rfl⟩ : ∃ r, p = r + 1 := ⟨p - 1, by omega⟩
   rw [if_neg hp, if_neg hp] at hb
   obtain rfl := hs1.resolve_left (by omega)
   obtain rfl := hs2.resolve_left (by omega)
   have y1 := hc1 r (by omega)
   have y2 := hc2 r (by omega)
   rw [Nat.add_sub_cancel] at hb
   generalize lgt L r = v1 at *
   generalize lgt K r = v2 at *
   have e : decide (v1 < v2) = b := by rw [← hb]; exact decide_eq_decide.2 (by omega)
   subst e
   have hr0 : (0 : Int) ≤ (r : Int) := by omega
   have hr1 : (r : Int) < (L.length : Int) := by omega
   have hr2 : (r : Int) < (K.length : Int) := by omega
   have wr : IntKind.i64.wrap (r : Int) = (r : Int) := IntWalk.i64_in _ (by omega)
   have hpos : (0 : Int) < (r : Int) + 1 := by omega
   have K1 := hide K1
   have K2 := hide K2
   clear hb hs1 hs2 hc1 hc2 hl hk la lb hp
   go_enter Tryz.func27, Tryz.ntmps27
   go_wp2_with (first | (go_at_call 57; (with_reducible refine K1.out.mono ?_); rintro e w1 ⟨rfl, rfl⟩) | (go_at_call 57; (with_reducible refine K2.out.mono ?_); rintro e w1 ⟨rfl, rfl⟩))
   go_quiet (fail)
   go_wp2
   go_ret
   exact ⟨rfl, _, rfl⟩
 ·rw [if_neg (by omega)] at hb
  have e : decide ((q : Int) < (p : Int)) = b := by rw [← hb]; exact decide_eq_decide.2 (by omega)
  subst e
  have hne : ¬ (p : Int) = (q : Int) := by omega
  generalize (p : Int) = x at *
  generalize (q : Int) = y at *
  have hneb : (x != y) = true := bne_iff_ne.2 hne
  have K1 := hide K1
  have K2 := hide K2
  clear hb hs1 hs2 hc1 hc2 hl hk la lb hpq
  go_enter Tryz.func27, Tryz.ntmps27
  go_wp2_with (first | (go_at_call 57; (with_reducible refine K1.out.mono ?_); rintro e w1 ⟨rfl, rfl⟩) | (go_at_call 57; (with_reducible refine K2.out.mono ?_); rintro e w1 ⟨rfl, rfl⟩))
  go_ret
  exact ⟨rfl, 0, rfl⟩
section
variable (i1 : TypeInfo) (Hi : Tryz.prog.info? 2 = some i1) (Hz : i1.zero = some (Value.int .i64 0) ∧ i1.size = 1 ∧ i1.bytes = 8)
include Hi Hz
/-- Integers, none or some, are appended to a row of the call's own. -/
theorem app_i64 (ty : TypeId) (W : World) (base g0 n cap : Nat) (xs : List Value) (so : Option Addr) (m c : Nat) (news : List Value) (h0 : W.ownsRow base 2 1 (.slice (some ⟨g0, 0, none⟩) n cap) n xs) (hl : news.length = m) (hs : m = 0 ∨ ∃ a, so = some a ∧ ∀ (j : Nat) (u : Value), news[j]? = some u → W.cell? (a.add j) = some u) (h1 : ∀ u ∈ news, u.oneCell' = true) (h63 : n + m ≤ 1000) (hB : base ≤ W.heap.size) :
 ∃ g cp W1, (Builtin.append_ #[34, 34] ty #[.slice (some ⟨g0, 0, none⟩) n cap, .slice so m c]).run Tryz.prog W = .ok (.slice (some ⟨g, 0, none⟩) (n + m) cp) W1 ∧ W1.ownsRow base 2 1 (.slice (some ⟨g, 0, none⟩) (n + m) cp) (n + m) (xs ++ news) ∧ W.grownBy W1 (some g0) ∧ (g = g0 ∨ g = W.heap.size) ∧ n + m ≤ cp := by
 have hcap : ∀ {W' : World} {g' n' c' : Nat} {ys : List Value}, W'.ownsRow base 2 1 (.slice (some ⟨g', 0, none⟩) n' c') n' ys → n' ≤ c' := fun h => by
  obtain ⟨_, ⟨e, _⟩ | ⟨g, c9, cur, e, _, _, hn, _⟩⟩ := h
  ·cases e
  ·injection e with _ _ e3
   omega
 by_cases e : m = 0
 ·subst e
  obtain rfl : news = [] := List.eq_nil_of_length_eq_zero hl
  have hsrc : Go.Src Tryz.prog i1.size 34 (.slice so 0 c) 0 [] W := by
   rw [Hz.2.1]
   cases so with
   | none => exact Go.Src.ofNil W Tryz.underlying34 c
   | some a => exact Go.Src.ofSlice W Tryz.underlying34 a 0 c [] rfl (fun j u h => by cases h) (fun u h => by cases h)
  exact ⟨g0, cap, W, run_append_nothing (P := Tryz.prog) W 34 34 ty 2 i1 Tryz.underlying34 Hi _ n cap (hcap h0) _ hsrc, by rw [List.append_nil]; exact h0, World.grownBy.refl _ _, .inl rfl, hcap h0⟩
 ·obtain ⟨a, rfl, ha⟩ := hs.resolve_left e
  obtain ⟨g, cp, w', hr, h2, h3, h4, _⟩ := run_append_lies (P := Tryz.prog) W 34 ty base 2 i1 _ 1 8 Tryz.underlying34 Hi Hz.1 Hz.2.1 Hz.2.2 rfl (by decide) _ n xs h0 a m c news (by omega) ha h1 (by omega) (by unfold maxLen; omega) (by omega) hB W.heap.size rfl
  refine ⟨g, cp, w', hr, h2, h3, ?_, hcap h2⟩
  rcases h4 with h4 | h4
  ·exact .inl (by simp only [Value.ownBlock, Option.some.injEq] at h4; exact h4.symm)
  ·exact .inr h4
theorem wpList_app_i64 {ops : Array Oper} {rest : List Oper} {o : Oper} {a : Act} {Q : Exit → Act → World → Prop} (hgd : o.guard = none) (s x : Operand) (ho : o.op = .call { callee := .builtin .append, args := #[s, x], argTypes := #[34, 34] })
 (W : World) (base g0 n cap : Nat) (xs : List Value) (so : Option Addr) (m c : Nat) (news : List Value) (hs : a.eval s = .slice (some ⟨g0, 0, none⟩) n cap) (hx : a.eval x = .slice so m c) (h0 : W.ownsRow base 2 1 (.slice (some ⟨g0, 0, none⟩) n cap) n xs) (hl : news.length = m) (hsrc : m = 0 ∨ ∃ a, so = some a ∧ ∀ (j : Nat) (u : Value), news[j]? = some u → W.cell? (a.add j) = some u) (h1 : ∀ u ∈ news, u.oneCell' = true) (h63 : n + m ≤ 1000) (hB : base ≤ W.heap.size)
 (h : ∀ g cp W1, W1.ownsRow base 2 1 (.slice (some ⟨g, 0, none⟩) (n + m) cp) (n + m) (xs ++ news) → W.grownBy W1 (some g0) → (g = g0 ∨ g = W.heap.size) → n + m ≤ cp → wpList Tryz.prog ops Q rest (a.put o.dst (.slice (some ⟨g, 0, none⟩) (n + m) cp)) W1) : wpList Tryz.prog ops Q (o :: rest) a W := by
 refine wpList_plain hgd fun K hK => ?_
 obtain ⟨g, cp, W1, hr, h2, h3, h4, h5⟩ := app_i64 i1 Hi Hz o.type W base g0 n cap xs so m c news h0 hl hsrc h1 h63 hB
 unfold Oper.wp execOp
 simp only [ho, resolve, invoke, builtin, Sem.run_bind, Sem.run_pure, Result.andThen_ok, List.map_toArray, List.map_cons, List.map_nil, hs, hx, hr]
 exact hK _ _ (h g cp W1 h2 h3 h4 h5)
end
theorem own_one1 {w : World} {B : Nat} {e : TypeId} (a : Int) (hb : B ≤ w.heap.size) : (w.alloc (.cells #[.int .i64 a] e)).ownsRow B e 1 (.slice (some ⟨w.heap.size, 0, none⟩) 1 1) 1 [.int .i64 a] :=
 ⟨rfl, .inr ⟨w.heap.size, 1, #[.int .i64 a], rfl, hb, heap_alloc_new w _, Nat.le_refl _, by decide, rfl, rfl⟩⟩
theorem own_none1 {w : World} {B : Nat} {e : TypeId} (hb : B ≤ w.heap.size) : (w.alloc (.cells #[] e)).ownsRow B e 1 (.slice (some ⟨w.heap.size, 0, none⟩) 0 0) 0 [] :=
 ⟨rfl, .inr ⟨w.heap.size, 0, #[], rfl, hb, heap_alloc_new w _, Nat.le_refl _, by decide, rfl, rfl⟩⟩
/-- A stretch of a row of indices. -/
def segL (S : Nat → Nat) (p r : Nat) : List Value := (List.range r).map fun q => Value.int .i64 ((S (p + q) : Nat) : Int)
theorem segL_len (S : Nat → Nat) (p r : Nat) : (segL S p r).length = r := by simp [segL]
theorem segL_at {S : Nat → Nat} {p r j : Nat} (h : j < r) : (segL S p r)[j]? = some (Value.int .i64 ((S (p + j) : Nat) : Int)) := by simp [segL, h]
theorem segL_one (S : Nat → Nat) (p r : Nat) : ∀ u ∈ segL S p r, u.oneCell' = true := fun u hu => by
 simp only [segL, List.mem_map] at hu; obtain ⟨q, _, rfl⟩ := hu; rfl
theorem segL_src {W : World} {g k p r : Nat} {S : Nat → Nat} (h : IxAt W g k S) (hp : p + r ≤ k) : ∀ (j : Nat) (u : Value), (segL S p r)[j]? = some u → W.cell? ((⟨g, p, none⟩ : Addr).add j) = some u := fun j u hj => by
 have hjr : j < r := by
  rcases Nat.lt_or_ge j r with q | q
  ·exact q
  ·rw [List.getElem?_eq_none (by rw [segL_len]; exact q)] at hj; cases hj
 rw [segL_at hjr] at hj
 rw [Addr.add_lit, ← hj]
 exact (h (p + j) (by omega)).1
/-- The row with one more in its place. -/
theorem seg_ins {W : World} {base g cp r x : Nat} {S : Nat → Nat} {p : Nat} {L : List Value} (h : W.ownsRow base 2 1 (.slice (some ⟨g, 0, none⟩) (p + (1 + r)) cp) (p + (1 + r)) L) (hL : L = segL S 0 p ++ ([Value.int .i64 (x : Int)] ++ segL S p r)) : IxAt W g (p + r + 1) (insF S p x) := fun k hk => ⟨by
 subst hL
 have hc := h.cells (g := g) rfl k (Value.int .i64 ((insF S p x k : Nat) : Int)) (by
  unfold insF
  by_cases e : k < p
  ·rw [if_pos e, List.getElem?_append_left (by rw [segL_len]; exact e), segL_at e, Nat.zero_add]
  ·rw [if_neg e, List.getElem?_append_right (by rw [segL_len]; omega), segL_len]
   by_cases e2 : k = p
   ·subst e2; rw [if_pos rfl, Nat.sub_self]; rfl
   ·obtain ⟨d, rfl⟩ : ∃ d, k = p + 1 + d := ⟨k - p - 1, by omega⟩
    rw [if_neg e2, show p + 1 + d - p = d + 1 by omega, List.singleton_append, List.getElem?_cons_succ, segL_at (by omega), show p + 1 + d - 1 = p + d by omega])
 rwa [Addr.add_lit, Nat.zero_add] at hc, h.frozenAt k⟩
theorem IxAt.later {W W' : World} {r m : Nat} {F : Nat → Nat} (h : IxAt W r m F) (hb : Below W.heap.size W W') : IxAt W' r m F := fun k hk => ⟨cell_later hb (h k hk).1, frozen_later hb (h k hk).1 (h k hk).2⟩
theorem IxAt.grown {W W' : World} {r m g : Nat} {F : Nat → Nat} (h : IxAt W r m F) (hg : W.grownBy W' (some g)) (hr : r < W.heap.size) (hn : ¬ r = g) : IxAt W' r m F := fun k hk => ⟨(gcell hg r k hr hn).trans (h k hk).1, (gfroz hg r k hr hn).trans (h k hk).2⟩
theorem IxAt.own {w : World} {B g m : Nat} {lt : Nat → Nat → Bool} (h : IxAt w g m (srtF lt m)) (hB : B ≤ g) (hg : g < w.heap.size) : OwZ w B (some ⟨g, 0, none⟩) (srtL lt m) := ix_own h hB hg rfl
/-- The times of the first k boats, in memory of the call's own. -/
def tmsL (F : Nat → List Int) (G C : Nat → Nat) (k : Nat) : List Value := (List.range k).map fun j => .slice (some ⟨G j, 0, none⟩) (F j).length (C j)
def Tms (w : World) (B : Nat) (e : TypeId) (gt ct k : Nat) (F : Nat → List Int) (G C : Nat → Nat) : Prop :=
 w.ownsRow B e 1 (.slice (some ⟨gt, 0, none⟩) k ct) k (tmsL F G C k) ∧ ∀ j, j < k → G j ≠ gt ∧ G j < w.heap.size ∧ ∀ i, i < (F j).length → w.cell? ⟨G j, i, none⟩ = some (.int .i64 (lgt (F j) i))
theorem Tms.later {w W : World} {B : Nat} {e : TypeId} {gt ct k : Nat} {F : Nat → List Int} {G C : Nat → Nat} (h : Tms w B e gt ct k F G C) (hb : Below w.heap.size w W) : Tms W B e gt ct k F G C :=
 ⟨own_later hb h.1, fun j hj => ⟨(h.2 j hj).1, Nat.lt_of_lt_of_le (h.2 j hj).2.1 hb.size, fun i hi => cell_later hb ((h.2 j hj).2.2 i hi)⟩⟩
theorem Tms.at {w : World} {B : Nat} {e : TypeId} {gt ct k j : Nat} {F : Nat → List Int} {G C : Nat → Nat} (h : Tms w B e gt ct k F G C) (hj : j < k) : w.cell? ⟨gt, j, none⟩ = some (.slice (some ⟨G j, 0, none⟩) (F j).length (C j)) ∧ ∀ i, i < (F j).length → w.cell? ⟨G j, i, none⟩ = some (.int .i64 (lgt (F j) i)) := by
 have := h.1.cells (g := gt) rfl j (.slice (some ⟨G j, 0, none⟩) (F j).length (C j)) (by simp [tmsL, hj])
 rw [Addr.add_lit, Nat.zero_add] at this
 exact ⟨this, (h.2 j hj).2.2⟩
theorem Tms.app {w0 w W : World} {B : Nat} {e : TypeId} {gt ct k g5 c5 g' ct' : Nat} {F : Nat → List Int} {G C : Nat → Nat} {o : Obj} (h : Tms w0 B e gt ct k F G C) (hb : Below w0.heap.size w0 w) (h5 : w0.heap.size ≤ g5) (h6 : g5 < w.heap.size) (hr : ∀ i, i < (F k).length → w.cell? ⟨g5, i, none⟩ = some (.int .i64 (lgt (F k) i)))
 (ho : W.ownsRow B e 1 (.slice (some ⟨g', 0, none⟩) (k + 1) ct') (k + 1) (tmsL F G C k ++ [.slice (some ⟨g5, 0, none⟩) (F k).length c5])) (hg : (w.alloc o).grownBy W (some gt)) (hw : g' = gt ∨ g' = w.heap.size + 1) :
 Tms W B e g' ct' (k + 1) F (fun j => if j = k then g5 else G j) (fun j => if j = k then c5 else C j) := by
 have hgt : gt < w0.heap.size := (h.1.lt gt rfl).2
 have hs := hb.size
 refine ⟨?_, fun j hj => ?_⟩
 ·have hL : tmsL F (fun j => if j = k then g5 else G j) (fun j => if j = k then c5 else C j) (k + 1) = tmsL F G C k ++ [.slice (some ⟨g5, 0, none⟩) (F k).length c5] := by
   unfold tmsL
   rw [List.range_succ, List.map_append, List.map_singleton]
   simp only [↓reduceIte]
   congr 1
   refine List.map_congr_left fun q hq => ?_
   have : ¬ q = k := by simp at hq; omega
   simp only [this, ↓reduceIte]
  rw [hL]
  exact ho
 ·have hW : w.heap.size + 1 ≤ W.heap.size := by have := hg.size; simpa using this
  by_cases ej : j = k
  ·subst ej
   simp only [↓reduceIte]
   refine ⟨by omega, by omega, fun i hi => ?_⟩
   exact (gcell hg g5 i (by simp; omega) (by omega)).trans (cell_alloc (hr i hi))
  ·simp only [ej, ↓reduceIte]
   obtain ⟨a1, a2, a3⟩ := h.2 j (by omega)
   exact ⟨by omega, by omega, fun i hi => (gcell hg (G j) i (by simp; omega) a1).trans (cell_alloc (cell_later hb (a3 i hi)))⟩
end Go.Proofs.YtcmjcedlbhdihaaGreatDoor
/- Walks: OrderAt of the reference. -/
namespace Go.Proofs.YtcmjcedlbhdihaaGreatDoor
open Go.RowKit

theorem infoRowZ2 : (Tryz.prog.info? 34).map (fun i => (i.zero, i.size, i.bytes)) = some (some (.slice none 0 0), 1, 24) := by kernel_rfl
theorem newS {W : World} {e : TypeId} {x : Value} : ∀ (j : Nat) (u : Value), [x][j]? = some u → (W.alloc (.cells #[x] e)).cell? ((⟨W.heap.size, 0, none⟩ : Addr).add j) = some u := new1
theorem oneS (b : Option Addr) (n c : Nat) : ∀ u ∈ [Value.slice b n c], u.oneCell' = true := fun u hu => by simp only [List.mem_singleton] at hu; subst hu; rfl
set_option maxRecDepth 100000 in
set_option maxHeartbeats 16000000 in
theorem spec_OrderAt (ax ay bx bY cx cy dx dy : Int) (so : Option Addr) (n cap : Nat) (N : Nat → ByteArray) (X Y S Z : Nat → Int) (so2 : Option Addr) (m cap2 : Nat) (A : Nat → Option Addr) (nn C : Nat → Nat) (T U V : Nat → Nat → Int) (t : Int) (w : World) (h : RowAt w so n 5 (v5 N X Y S Z)) (hn : n ≤ 1048576) (h2 : Trs w so2 m A nn C T U V) (hm : m ≤ 1048576) (hnn : ∀ i, i < m → nn i ≤ 1048576) :
 Calls Tryz.prog 7 #[.agg #[.int .i64 ax, .int .i64 ay, .int .i64 bx, .int .i64 bY, .int .i64 cx, .int .i64 cy, .int .i64 dx, .int .i64 dy, .slice so n cap], .slice so2 m cap2, .int .i64 t] w (RetZ w (oaL (fun j => (tmS (lnA ax ay bx bY cx cy dx dy n X Y S Z) (lnB ax ay bx bY cx cy dx dy n X Y S Z) (lnC ax ay bx bY cx cy dx dy n X Y S Z) (lnD ax ay bx bY cx cy dx dy n X Y S Z) (T j) (U j) (V j) (nn j) (n + 2)).1) t m (oaC m (tsC (isCo ax ay bx bY cx cy dx dy n N X Y S Z) (allTr nn T U V m) (lnsOk (lnA ax ay bx bY cx cy dx dy n X Y S Z) (lnB ax ay bx bY cx cy dx dy n X Y S Z) (lnC ax ay bx bY cx cy dx dy n X Y S Z) (lnD ax ay bx bY cx cy dx dy n X Y S Z) (n + 1))))) (oaC m (tsC (isCo ax ay bx bY cx cy dx dy n N X Y S Z) (allTr nn T U V m) (lnsOk (lnA ax ay bx bY cx cy dx dy n X Y S Z) (lnB ax ay bx bY cx cy dx dy n X Y S Z) (lnC ax ay bx bY cx cy dx dy n X Y S Z) (lnD ax ay bx bY cx cy dx dy n X Y S Z) (n + 1))))) := by
 by_cases h16 : 16 < m
 ·have hc : (oaC m (tsC (isCo ax ay bx bY cx cy dx dy n N X Y S Z) (allTr nn T U V m) (lnsOk (lnA ax ay bx bY cx cy dx dy n X Y S Z) (lnB ax ay bx bY cx cy dx dy n X Y S Z) (lnC ax ay bx bY cx cy dx dy n X Y S Z) (lnD ax ay bx bY cx cy dx dy n X Y S Z) (n + 1)))) = 3 := by unfold oaC; rw [if_pos h16]
  rw [hc, oaL_no (by decide)]
  have h16i : (16 : Int) < (m : Int) := by omega
  clear h h2 hnn hc
  go_enter Tryz.func7, Tryz.ntmps7
  go_wp2
  go_ret2
  exact ⟨_, _, rfl, .inr ⟨_, rfl, by omega, by simp, fun j hj => absurd hj (Nat.not_lt_zero _)⟩, bwz⟩
 have h16i : ¬ (16 : Int) < (m : Int) := by omega
 have hcd : (oaC m (tsC (isCo ax ay bx bY cx cy dx dy n N X Y S Z) (allTr nn T U V m) (lnsOk (lnA ax ay bx bY cx cy dx dy n X Y S Z) (lnB ax ay bx bY cx cy dx dy n X Y S Z) (lnC ax ay bx bY cx cy dx dy n X Y S Z) (lnD ax ay bx bY cx cy dx dy n X Y S Z) (n + 1)))) = tsC (isCo ax ay bx bY cx cy dx dy n N X Y S Z) (allTr nn T U V m) (lnsOk (lnA ax ay bx bY cx cy dx dy n X Y S Z) (lnB ax ay bx bY cx cy dx dy n X Y S Z) (lnC ax ay bx bY cx cy dx dy n X Y S Z) (lnD ax ay bx bY cx cy dx dy n X Y S Z) (n + 1)) := by unfold oaC; rw [if_neg h16]
 rw [hcd]
 obtain ⟨cz, hcz⟩ : ∃ c, c = tsC (isCo ax ay bx bY cx cy dx dy n N X Y S Z) (allTr nn T U V m) (lnsOk (lnA ax ay bx bY cx cy dx dy n X Y S Z) (lnB ax ay bx bY cx cy dx dy n X Y S Z) (lnC ax ay bx bY cx cy dx dy n X Y S Z) (lnD ax ay bx bY cx cy dx dy n X Y S Z) (n + 1)) := ⟨_, rfl⟩
 obtain ⟨Lz, hLz⟩ : ∃ L, L = oaL (fun j => (tmS (lnA ax ay bx bY cx cy dx dy n X Y S Z) (lnB ax ay bx bY cx cy dx dy n X Y S Z) (lnC ax ay bx bY cx cy dx dy n X Y S Z) (lnD ax ay bx bY cx cy dx dy n X Y S Z) (T j) (U j) (V j) (nn j) (n + 2)).1) t m cz := ⟨_, rfl⟩
 rw [← hcz, ← hLz]
 have HCZ := hide hcz
 have HLZ := hide hLz
 clear hcz hLz
 have Hh := hide h
 have Hh2 := hide h2
 have Hn := hide hnn
 have KI := hide (fun W (hb : Below w.heap.size w W) => spec_IsCourse ax ay bx bY cx cy dx dy so n cap N X Y S Z W (RowAt.later hb h) hn)
 have KL := hide (fun W (hb : Below w.heap.size w W) (hv : (isCo ax ay bx bY cx cy dx dy n N X Y S Z) = true) => spec_l06Lines ax ay bx bY cx cy dx dy so n cap N X Y S Z W (RowAt.later hb h) hv)
 clear h h2 hnn hcd
 obtain ⟨wS, hwS⟩ : ∃ W, W = (w.alloc (.cells #[.int .i64 ax, .int .i64 ay, .int .i64 bx, .int .i64 bY, .int .i64 cx, .int .i64 cy, .int .i64 dx, .int .i64 dy, .slice so n cap] 30)).alloc (.cells #[] 2) := ⟨_, rfl⟩
 have HBS := hide (show Below w.heap.size w wS by rw [hwS]; exact bwz)
 have HX := hide (show CoBx wS w.heap.size ax ay bx bY cx cy dx dy so n cap by rw [hwS]; exact ⟨by go_simp, by go_simp, by go_simp, by go_simp, by go_simp, by go_simp, by go_simp, by go_simp, by go_simp⟩)
 have zS1 : w.heap.size + 1 < wS.heap.size := by rw [hwS]; simp
 have zS : w.heap.size < wS.heap.size := by omega
 go_enter Tryz.func7, Tryz.ntmps7
 go_upto_region 4 with fail
 rw [← hwS]
 clear hwS
 rcases b2 (isCo ax ay bx bY cx cy dx dy n N X Y S Z) with hco | hco
 ·obtain rfl : cz = 1 := HCZ.out.trans (by rw [hco, tsC_co])
  obtain rfl : Lz = [] := HLZ.out.trans (oaL_no (by decide))
  clear HCZ HLZ
  have KI2 := hide (hco ▸ KI.out)
  clear KI KL hco
  obtain ⟨q0, q1, q2, q3, q4, q5, q6, q7, q8⟩ := HX.out
  go_wp2_with fail; (with_reducible refine (KI2.out _ HBS.out).mono ?_); rintro e wI ⟨rfl, hbI⟩
  have zI := hbI.size
  go_wp2
  go_ret2
  exact ⟨_, _, rfl, .inr ⟨_, rfl, by omega, by omega, fun j hj => absurd hj (Nat.not_lt_zero _)⟩, bstep HBS.out hbI⟩
 have KI2 := hide (hco ▸ KI.out)
 have KL2 := hide (fun W hb => KL.out W hb hco)
 have hf := ln_last ax ay bx bY cx cy dx dy so n cap N X Y S Z (isCo_t hco).2.1
 have hn8 := (isCo_t hco).2.2.2.1
 have KA := hide (fun (j : Nat) (b3 o3 : Nat) W (hb : Below w.heap.size w W) hl9 h3 hv => spec_l06Times ax ay bx bY cx cy dx dy so n cap N X Y S Z b3 o3 (nn j) (C j) (T j) (U j) (V j) (lnA ax ay bx bY cx cy dx dy n X Y S Z) (lnB ax ay bx bY cx cy dx dy n X Y S Z) (lnC ax ay bx bY cx cy dx dy n X Y S Z) (lnD ax ay bx bY cx cy dx dy n X Y S Z) W (RowAt.later hb Hh.out) hco rfl rfl rfl rfl hl9 hf h3 hv)
 have HCZ := hide (hco ▸ HCZ.out)
 clear KI KL hco
 obtain ⟨q0, q1, q2, q3, q4, q5, q6, q7, q8⟩ := HX.out
 go_wp2_with fail; (with_reducible refine (KI2.out _ HBS.out).mono ?_); rintro e wI ⟨rfl, hbI⟩
 have HBI := hide (bstep HBS.out hbI)
 have HXI := hide (CoBx.later hbI HX.out)
 have zI0 := hbI.size
 have zI1 : w.heap.size + 1 < wI.heap.size := by omega
 have zI : w.heap.size < wI.heap.size := by omega
 clear hbI HBS HX q0 q1 q2 q3 q4 q5 q6 q7 q8 KI2
 generalize lnA ax ay bx bY cx cy dx dy n X Y S Z = A9 at *
 generalize lnB ax ay bx bY cx cy dx dy n X Y S Z = B9 at *
 generalize lnC ax ay bx bY cx cy dx dy n X Y S Z = C9 at *
 generalize lnD ax ay bx bY cx cy dx dy n X Y S Z = D9 at *
 go_wp2
 go_loopw [9] (fun i wr => ∃ k : Nat, k ≤ m ∧ i = .int .i64 k ∧ Hid (allTr nn T U V k = true) ∧ Below wI.heap.size wI wr) (fun i _ => m - (intOf i).toNat)
 case atStart => exact ⟨0, Nat.zero_le _, rfl, hide rfl, Below.refl _ _⟩
 case round =>
  obtain ⟨k, hk, rfl, HA, hbl⟩ := hrel
  have zr := hbl.size
  have HBr := hide (bstep HBI.out hbl)
  have zr1 : w.heap.size + 1 < wr.heap.size := by omega
  by_cases hlt : k < m
  ·obtain ⟨b, o, rfl, hbs, c0⟩ := (Trs.later HBr.out Hh2.out).at k hlt
   have Hk := hide (RowAt.later HBr.out (Hh2.out.2 k hlt))
   have hnk := Hn.out k hlt
   have hj1 : (0 : Int) ≤ (k : Int) := by omega
   have hj2 : (k : Int) < (m : Int) := by omega
   have KT := hide (fun W (hb : Below wr.heap.size wr W) => spec_IsTrack _ _ (C k) (T k) (U k) (V k) W (RowAt.later hb Hk.out) hnk)
   rcases b2 (isTr (nn k) (T k) (U k) (V k)) with ht | ht
   ·have hf9 := allTr_no hlt ht
    obtain rfl : cz = 1 := HCZ.out.trans (by rw [hf9, tsC_tr])
    obtain rfl : Lz = [] := HLZ.out.trans (oaL_no (by decide))
    clear HCZ HLZ
    have KT2 := hide (ht ▸ KT.out)
    clear KT ht Hk HA hf9
    go_wp2_with fail; (with_reducible refine (KT2.out _ bwz).mono ?_); rintro e wI2 ⟨rfl, hbI⟩
    have zI2 := hbI.size
    go_wp2
    go_ret2
    exact ⟨_, _, rfl, .inr ⟨_, rfl, by omega, by omega, fun j hj => absurd hj (Nat.not_lt_zero _)⟩, bstep HBr.out hbI⟩
   ·have Hf := hide (show allTr nn T U V (k + 1) = true by rw [allTr, HA.out, ht]; rfl)
    have KT2 := hide (ht ▸ KT.out)
    clear KT ht Hk HA
    go_wp2_with fail; (with_reducible refine (KT2.out _ bwz).mono ?_); rintro e wI2 ⟨rfl, hbI⟩
    go_wp2
    go_roundw
    case rel => exact ⟨k + 1, by omega, by go_num, Hf, bstep hbl hbI⟩
    case measure => simp [intOf]; omega
  ·obtain rfl : m = k := by omega
   have HTr := HA
   have HCZ := hide (HTr.out ▸ HCZ.out)
   obtain ⟨wK, rfl⟩ : ∃ x : World, x = wr := ⟨_, rfl⟩
   have HXK := hide (CoBx.later hbl HXI.out)
   have zK0 : w.heap.size < wK.heap.size := by omega
   clear hbl HA HXI HBI
   obtain ⟨q0, q1, q2, q3, q4, q5, q6, q7, q8⟩ := HXK.out
   go_wp2_with fail; (with_reducible refine (KL2.out _ HBr.out).mono ?_); rintro e wL ⟨⟨hl, gl, cpl, rfl, hown⟩ | ⟨hl, rfl⟩, hbL⟩
   rotate_left
   ·obtain rfl : cz = 2 := HCZ.out.trans (by rw [hl]; rfl)
    obtain rfl : Lz = [] := HLZ.out.trans (oaL_no (by decide))
    clear HCZ HLZ
    have zL := hbL.size
    go_wp2
    go_ret2
    exact ⟨_, _, rfl, .inr ⟨_, rfl, by omega, by omega, fun j hj => absurd hj (Nat.not_lt_zero _)⟩, bstep HBr.out hbL⟩
   obtain rfl : cz = 0 := HCZ.out.trans (by rw [hl]; rfl)
   have HLZ := hide (HLZ.out.trans oaL_ok)
   clear HCZ
   have HBL := hide (bstep HBr.out hbL)
   have HXL := hide (CoBx.later hbL HXK.out)
   have sL := hbL.size
   have zL0 : w.heap.size < wL.heap.size := by omega
   have zL1 : w.heap.size + 1 < wL.heap.size := by omega
   have hls : ∀ i, i < n + 2 → isSg (A9 i) (B9 i) (C9 i) (D9 i) = true := fun i hi => by
    rcases Nat.lt_or_ge i (n + 1) with q | q
    ·exact lnsOk_t hl i q
    ·obtain rfl : i = n + 1 := by omega
     exact hf
   have KA := hide (fun j b3 o3 W hb h3 hv => KA.out j b3 o3 W hb hl h3 hv)
   obtain ⟨F, hF⟩ : ∃ F : Nat → List Int, F = fun j => (tmS A9 B9 C9 D9 (T j) (U j) (V j) (nn j) (n + 2)).1 := ⟨_, rfl⟩
   have HLZ := hide (show Lz = srtL (ahB (oaM F t) (oaT F t)) m by rw [hF]; exact HLZ.out)
   have HF := hide (show ∀ j, F j = (tmS A9 B9 C9 D9 (T j) (U j) (V j) (nn j) (n + 2)).1 from fun j => by rw [hF])
   have HN := hide (show ∀ j, (F j).length ≤ n + 2 from fun j => by rw [hF]; exact (tmS_len A9 B9 C9 D9 (T j) (U j) (V j) (nn j) (n + 2)).1)
   clear hF hbL hown q0 q1 q2 q3 q4 q5 q6 q7 q8 HXK HBr KL2 hl hf hls
   obtain ⟨lt9, hlt9⟩ : ∃ lt9 : Nat → Nat → Bool, lt9 = ahB (oaM F t) (oaT F t) := ⟨_, rfl⟩
   have HLZ := hide (show Lz = srtL lt9 m by rw [hlt9]; exact HLZ.out)
   obtain rfl := HLZ.out
   clear HLZ
   have HLT := hide hlt9
   clear hlt9
   obtain ⟨i1, hi, hz0, hz1', hz2'⟩ := info_parts infoI64
   have Hi := hide hi
   have Hz := hide (And.intro hz0 (And.intro hz1' hz2'))
   clear hi hz0 hz1' hz2'
   obtain ⟨i2, hi, hz0, hz1', hz2'⟩ := info_parts infoRowZ2
   have Hi2 := hide hi
   have Hz2 := hide (And.intro hz0 (And.intro hz1' hz2'))
   clear hi hz0 hz1' hz2'
   go_wp2
   go_loopw [8, 12, 13] (fun s8 s12 s13 wr => ∃ (k gt ct go co : Nat) (G9 C99 : Nat → Nat), k ≤ m ∧ s8 = .slice (some ⟨go, 0, none⟩) k co ∧ s12 = .slice (some ⟨gt, 0, none⟩) k ct ∧ s13 = .int .i64 k ∧ Hid (Tms wr wL.heap.size 34 gt ct k F G9 C99) ∧ Hid (IxAt wr go k (srtF lt9 k)) ∧ k ≤ co ∧ w.heap.size < go ∧ go < wr.heap.size ∧ go ≠ gt ∧ Hid (Below wL.heap.size wL wr)) (fun _ _ i _ => m - (intOf i).toNat)
   case atStart => exact ⟨0, wL.heap.size, 0, w.heap.size + 1, 0, fun _ => 0, fun _ => 0, Nat.zero_le _, rfl, rfl, rfl, hide ⟨own_none1 (Nat.le_refl _), fun j hj => absurd hj (Nat.not_lt_zero _)⟩, hide (fun j hj => absurd hj (Nat.not_lt_zero _)), Nat.le_refl _, by omega, by simp; omega, by omega, hide (Below.alloc (Below.refl _ _) (Nat.le_refl _) _)⟩
   case round =>
    obtain ⟨k, gt, ct, go, co, G9, C99, hk, rfl, rfl, rfl, HT, HI, hco, hg1, hg2, hgt, HB⟩ := hrel
    have zr := HB.out.size
    have hgtl := HT.out.1.lt gt rfl
    have hgt1 := hgtl.1
    have hgt2 := hgtl.2
    have hk0 : (0 : Int) ≤ (k : Int) := by omega
    by_cases hlt : k < m
    ·have hk1 : (k : Int) < (m : Int) := by omega
     obtain ⟨b, o, rfl, hbs, c0⟩ := (Trs.later HBL.out Hh2.out).at k hlt
     have hv := allTr_at hlt HTr.out
     have hRk := RowAt.later HBL.out (Hh2.out.2 k hlt)
     obtain ⟨b4, o4, e4, _⟩ := hRk.at3 0 (by have := (isTr_t hv).1; omega)
     rw [e4] at c0 hRk
     have KT := fun W (hb : Below wL.heap.size wL W) => KA.out k b4 o4 W (bstep HBL.out hb) (RowAt.later hb hRk) hv
     rw [← HF.out k] at KT
     have KT := hide KT
     obtain ⟨q0, q1, q2, q3, q4, q5, q6, q7, q8⟩ := HXL.out
     clear hgtl hv hRk
     go_upto_region 18 with fail
     refine wp_region_held_drew (S := fun W => Below wL.heap.size wL W) (by kernel_rfl) (Below.drew HB.out) (fun hHeld => ?_)
     refine tkL 0 (some 53) rfl ?_; simp only [pz]
     refine tkL 1 (some 54) rfl ?_; simp only [pz]
     refine tkL 2 (some 55) rfl ?_; simp only [pz]
     refine tkL 3 (some 56) rfl ?_; simp only [pz]
     refine tkL 4 (some 57) rfl ?_; simp only [pz]
     refine tkL 5 (some 58) rfl ?_; simp only [pz]
     refine rd1 6 (some 59) rfl (fun K hK => ?_)
     go_simp; (go_at_call 26; (with_reducible refine (KT.out _ hHeld).mono ?_); rintro e w9 ⟨g5, cp5, rfl, hown, hb9⟩; have zw9 := hb9.size; have zw8 : wL.heap.size ≤ w9.heap.size := by (have := HB.out.size; have h9 : wr.drew.heap.size = wr.heap.size := rfl; omega))
     all_goals (try go_wp2_with fail)
     refine hK.out _ _ (bstep hHeld hb9) (fun hH2 => ?_)
     clear hK K hHeld; (have hHeld := hH2); clear hH2; (try simp only [pz])
     refine rd1 7 (some 60) rfl (fun K hK => ?_)
     go_simp
     all_goals (try go_wp2_with fail)
     refine hK.out _ _ (Below.alloc hHeld hHeld.size _) (fun hH2 => ?_)
     clear hK K hHeld; (have hHeld := hH2); clear hH2; (try simp only [pz])
     refine rd1 8 (some 61) rfl (fun K hK => ?_)
     refine step_append_lies _ (by rfl) _ _ 61 (by rfl) (wL.heap.size) 34 i2 _ 1 24 Tryz.underlying61 Hi2.out Hz2.out.1 Hz2.out.2.1 Hz2.out.2.2 (by rfl) (by decide) (.slice (some ⟨gt, 0, none⟩) k ct) k (tmsL F G9 C99 k) (by rfl) (own_later hb9 HT.out.1 |>.alloc _) ⟨w9.heap.size, 0, none⟩ 1 1 [.slice (some ⟨g5, 0, none⟩) (F k).length cp5] (by rfl) (by rfl) newS (oneS _ _ _) (by decide) (by unfold maxLen; omega) (by omega) (by simp; omega) (w9.heap.size + 1) (by simp) ?_
     intro g' cap' wA hown' hgr hat hlt'
     refine hK.out _ _ (hHeld.trans (own_grown ((own_later hb9 HT.out.1).alloc _) (by simp; omega) hgr)) (fun hH2 => ?_)
     clear hK K hHeld; (have hHeld := hH2); clear hH2; (try simp only [pz])
     refine tkL 9 (some 12) rfl ?_; simp only [pz]
     refine wpAnyH_done (by kernel_rfl) ?_ _; (try simp only [pz])
     have hb8 : Below wr.heap.size wr w9 := (Below.drew (Below.refl _ _)).trans hb9
     have hr5 : ∀ i, i < (F k).length → w9.cell? ⟨g5, i, none⟩ = some (.int .i64 (lgt (F k) i)) := fun i hi => by
      obtain ⟨gz, hgz, hcz⟩ := OwZ.gets (OwZ.of hown)
      obtain ⟨e, _⟩ := hgz.resolve_left (by omega)
      injection e with e
      injection e with e
      subst e
      exact hcz i hi
     have hl5 := hown.lt g5 rfl
     have hat2 : g' = gt ∨ g' = w9.heap.size + 1 := hat.imp (fun e => by simp only [Value.ownBlock, Option.some.injEq] at e; exact e.symm) id
     have HT2 := hide (Tms.app HT.out hb8 hl5.1 hl5.2 hr5 hown' hgr hat2)
     have hs9 := hb8.size
     have hsA := World.grownBy.size hgr
     simp only [size_al] at hsA
     have HI2 := hide (((HI.out.later hb8).later (Below.alloc (Below.refl _ _) (Nat.le_refl _) _)).grown hgr (by simp; omega) hgt)
     have HB2 := hide hHeld
     have hgA : go < wA.heap.size := by omega
     have hgn : go ≠ g' := by omega
     have hgA' : g' < wA.heap.size := by omega
     have hsL : wL.heap.size ≤ wA.heap.size := by omega
     clear hown hown' hgr hat hat2 hb8 hb9 hr5 hl5 hHeld HT HI HB zw9 zw8 hs9 hsA hlt' q0 q1 q2 q3 q4 q5 q6 q7 q8 hg2 hgt hgt1 hgt2 zr
     have hSlt := srtF_lt lt9 k
     have HS1 := hide (show ∀ S, S = srtF lt9 k → srtF lt9 (k + 1) = insF S (posF lt9 S k k) k from fun S e => by rw [e]; rfl)
     generalize srtF lt9 k = S9 at *
     have HS1 := hide (HS1.out S9 rfl)
     have hPle := posF_le lt9 S9 k k
     obtain ⟨P, hP⟩ : ∃ P, P = posF lt9 S9 k k := ⟨_, rfl⟩
     rw [← hP] at hPle
     have HP0 := hide hP.symm
     have HS1 := hide (show srtF lt9 (k + 1) = insF S9 P k by rw [hP]; exact HS1.out)
     clear hP
     obtain ⟨wo, rfl⟩ : ∃ x : World, x = wr := ⟨_, rfl⟩
     generalize (fun j => if j = k then g5 else G9 j) = G2 at *
     generalize (fun j => if j = k then cp5 else C99 j) = C2 at *
     go_upto_block 4 with fail
     go_cut [14] (fun s W => s = .int .i64 (P : Int) ∧ ∃ nd : Nat, W = wA.drewN nd)
     case first =>
      go_wp2_with fail
      go_loopw [14] (fun s W => ∃ j : Nat, j ≤ k ∧ s = .int .i64 j ∧ Hid (posF lt9 S9 k j = P) ∧ ∃ nd : Nat, W = wA.drewN nd) (fun s _ => (intOf s).toNat)
      case atStart => exact ⟨k, Nat.le_refl _, rfl, HP0, 0, rfl⟩
      case round =>
       obtain ⟨j, hj, rfl, HP, nd, hwr⟩ := hrel
       have HWr := hide hwr
       clear hwr
       have HTr2 := hide (show Tms wr wL.heap.size 34 g' cap' (k + 1) F G2 C2 by rw [HWr.out]; exact HT2.out)
       have HIr2 := hide (show IxAt wr go k S9 by rw [HWr.out]; exact HI2.out)
       by_cases h0 : j = 0
       ·subst h0
        obtain rfl := HP.out
        go_upto_region 20 with fail
        go_quiet (fail)
        go_wp2_with fail
        go_meet
        exact ⟨rfl, by rw [HWr.out, World.drewN_drewN]; exact ⟨_, rfl⟩⟩
       ·obtain ⟨q, rfl⟩ : ∃ q, j = q + 1 := ⟨j - 1, by omega⟩
        have hq := hSlt q (by omega)
        have x0 := (HIr2.out q (by omega)).1
        obtain ⟨x1, y1⟩ := HTr2.out.at (Nat.lt_succ_self k)
        obtain ⟨x2, y2⟩ := HTr2.out.at (show S9 q < k + 1 by omega)
        have hl1 := HN.out k
        have hl2 := HN.out (S9 q)
        have KA2 := hide (fun (nn9 : Nat) => spec_l06Ahead (F k) (F (S9 q)) (some ⟨G2 k, 0, none⟩) (some ⟨G2 (S9 q), 0, none⟩) (G2 k) (C2 k) (G2 (S9 q)) (C2 (S9 q)) t (lt9 k (S9 q)) (wr.drewN nn9) (by rw [HLT.out]; rfl) (by omega) (by omega) (.inr rfl) y1 (.inr rfl) y2)
        have HPs := hide (show (if lt9 k (S9 q) = true then posF lt9 S9 k q else q + 1) = P from HP.out)
        have hq0 : (0 : Int) ≤ (q : Int) := by omega
        have hq1 : (q : Int) < (k : Int) := by omega
        have hqs0 : (0 : Int) ≤ ((S9 q : Nat) : Int) := by omega
        have hqs1 : ((S9 q : Nat) : Int) < ((k : Nat) : Int) + 1 := by omega
        have hkk : (k : Int) < (k : Int) + 1 := by omega
        have wq : IntKind.i64.wrap (q : Int) = (q : Int) := IntWalk.i64_in _ (by omega)
        have hqp : (0 : Int) < (q : Int) + 1 := by omega
        clear y1 y2 hl1 hl2 HP h0
        rcases b2 (lt9 k (S9 q)) with hb | hb
        ·rw [hb] at KA2 HPs
         have hPq : q + 1 = P := HPs.out
         subst hPq
         clear HPs hb
         generalize F k = L1 at *
         generalize F (S9 q) = L2 at *
         generalize S9 q = sq at *
         go_upto_region 20 with fail
         go_quiet ((go_at_call 27; first | exact Calls.quiet_of (KA2.out _) | exact Calls.quiet_of (KA2.out 0)))
         go_wp2_with fail
         go_meet
         exact ⟨rfl, by rw [HWr.out, World.drewN_drewN]; exact ⟨_, rfl⟩⟩
        ·rw [hb] at KA2 HPs
         have HPs := hide (show posF lt9 S9 k q = P from HPs.out)
         clear hb
         generalize F k = L1 at *
         generalize F (S9 q) = L2 at *
         generalize S9 q = sq at *
         go_upto_region 20 with fail
         go_quiet ((go_at_call 27; first | exact Calls.quiet_of (KA2.out _) | exact Calls.quiet_of (KA2.out 0)))
         go_wp2
         go_roundw
         case rel => exact ⟨q, by omega, by go_num, HPs, by rw [HWr.out, World.drewN_drewN]; exact ⟨_, rfl⟩⟩
         case measure => simp [intOf] <;> omega
     case rest =>
      obtain ⟨rfl, nd, hwc⟩ := hcut
      have HTr2 := hide (show Tms wc wL.heap.size 34 g' cap' (k + 1) F G2 C2 by rw [hwc]; exact HT2.out)
      have HIr2 := hide (show IxAt wc go k S9 by rw [hwc]; exact HI2.out)
      have HBr2 := hide (show Below wL.heap.size wL wc by rw [hwc]; exact below_drewN HB2.out nd)
      have zc0 : wA.heap.size ≤ wc.heap.size := by rw [hwc]; exact Nat.le_refl _
      clear hwc HT2 HI2 HB2
      have hbA : Below wc.heap.size wc (wc.alloc (.cells #[.int .i64 (k : Int)] 2)) := Below.alloc (Below.refl _ _) (Nat.le_refl _) _
      have hPk0 : (P : Int) ≤ (k : Int) := by omega
      go_wp2_with (at_builtin; refine wpList_app_i64 i1 Hi.out Hz.out (by rfl) _ _ (by rfl) _ wc.heap.size wc.heap.size 1 1 [.int .i64 (k : Int)] _ _ _ (segL S9 P (k - P)) (by rfl) (by rfl) (own_one1 _ (Nat.le_refl _)) (segL_len _ _ _) (if e9 : co = P then .inl (by omega) else .inr ⟨_, if_neg e9, segL_src (HIr2.out.later hbA) (by omega)⟩) (segL_one _ _ _) (by omega) (by simp) ?_)
      all_goals
       intro gR cR wR hoR hgR hwR hcR
       have hb1 : Below wc.heap.size wc wR := hbA.trans (own_grown (own_one1 _ (Nat.le_refl _)) (by simp) hgR)
       have HoR := hide hoR
       have hsR := World.grownBy.size hgR
       simp only [size_al] at hsR
       have HIR := hide (HIr2.out.later hb1)
       have hlR := hoR.lt gR rfl
       have hbR : Below wR.heap.size wR (wR.alloc (.cells #[] 2)) := Below.alloc (Below.refl _ _) (Nat.le_refl _) _
       have Hb1 := hide hb1
       clear hoR hgR hwR hbA hb1
       go_wp2_with (at_builtin; refine wpList_app_i64 i1 Hi.out Hz.out (by rfl) _ _ (by rfl) _ wR.heap.size wR.heap.size 0 0 [] _ _ _ (segL S9 0 P) (by rfl) (by rfl) (own_none1 (Nat.le_refl _)) (segL_len _ _ _) (.inr ⟨_, rfl, segL_src (HIR.out.later hbR) (by omega)⟩) (segL_one _ _ _) (by omega) (by simp) ?_)
       intro gS cS wZ hoS hgS hwS hcS
       have hoS : wZ.ownsRow wR.heap.size 2 1 (.slice (some ⟨gS, 0, none⟩) P cS) P (segL S9 0 P) := by first | exact hoS | (have h9 := hoS; rw [Nat.zero_add] at h9; exact h9)
       have hb2 : Below wR.heap.size wR wZ := hbR.trans (own_grown (own_none1 (Nat.le_refl _)) (by simp) hgS)
       have hrR : ∀ (j : Nat) (u : Value), ([Value.int .i64 (k : Int)] ++ segL S9 P (k - P))[j]? = some u → wZ.cell? ((⟨gR, 0, none⟩ : Addr).add j) = some u := fun j u hj => by
        have h := HoR.out.cells (g := gR) rfl j u hj
        rw [Addr.add_lit] at h ⊢
        exact (gcell hgS gR _ (by simp; omega) (by omega)).trans (cell_alloc h)
       have hsZ := World.grownBy.size hgS
       simp only [size_al] at hsZ
       have HoS := hide hoS
       have Hb2 := hide hb2
       have HrR := hide hrR
       clear hoS hgS hwS hbR hb2 hrR
       go_wp2_with (at_builtin; refine wpList_app_i64 i1 Hi.out Hz.out (by rfl) _ _ (by rfl) _ wR.heap.size gS P cS (segL S9 0 P) _ _ _ ([Value.int .i64 (k : Int)] ++ segL S9 P (k - P)) (by rfl) (by rfl) HoS.out (by rw [List.length_append, segL_len]; rfl) (.inr ⟨_, rfl, HrR.out⟩) (fun u hu => by
        rcases List.mem_append.1 hu with h | h
        ·exact one1 _ u h
        ·exact segL_one _ _ _ u h) (by omega) (by omega) ?_)
       intro gN cN wN hoN hgN hwN hcN
       have hlN := hoN.lt gN rfl
       have hb3 : Below wR.heap.size wR wN := Hb2.out.trans (own_grown HoS.out (by omega) hgN)
       have hb4 : Below wc.heap.size wc wN := Hb1.out.trans (hb3.mono (by omega))
       have HTN := hide (HTr2.out.later hb4)
       have HBN := hide (HBr2.out.trans (hb4.mono (by omega)))
       have HIN := hide (show IxAt wN gN (k + 1) (srtF lt9 (k + 1)) by rw [HS1.out]; have := seg_ins hoN rfl; rwa [show P + (k - P) + 1 = k + 1 by omega] at this)
       have hcN2 : k + 1 ≤ cN := by omega
       clear hoN hgN hwN hb3 hb4 hcN
       go_wp2
       go_roundw
       case rel => exact ⟨k + 1, g', cap', gN, cN, G2, C2, by omega, by congr 1; omega, rfl, by go_num, HTN, HIN, hcN2, by omega, by omega, by omega, HBN⟩
       case measure => simp [intOf] <;> omega
    ·obtain rfl : m = k := by omega
     go_wp2
     go_ret2
     exact ⟨some ⟨go, 0, none⟩, co, congrArg (fun l : Nat => Ending.returned (.tuple #[Value.slice (some ⟨go, 0, none⟩) l co, .int .i64 0])) (srtL_len _ m).symm, HI.out.own (by omega) hg2, HBL.out.trans (HB.out.mono (by omega))⟩
end Go.Proofs.YtcmjcedlbhdihaaGreatDoor
