/- Walks: LegTimes of both. -/
import Derived.Test.YtgcdgdnmcdffoaaGreatDoorXs
import Derived.Test.YtgcdgdnmcdffoaaGreatDoorMk
import Derived.Deep.DeepCutAuto
namespace Go.Proofs.YtgcdgdnmcdffoaaGreatDoor
open Go.RowKit

theorem tm_inc {A B C D T U V : Nat → Int} {n m : Nat} (hv : isTr n T U V = true) (hs : ∀ i, i < m → isSg (A i) (B i) (C i) (D i) = true) : ∀ k, k ≤ m → Inc (tmS A B C D T U V n k).1 := fun k => by
 induction k with
 | zero => intro _; exact Inc.nil
 | succ k ih =>
  intro hk
  have ih := ih (by omega)
  rcases htm : tmS A B C D T U V n k with ⟨L, b⟩
  rw [htm] at ih
  cases b
  ·have := tm_stop (A := A) (B := B) (C := C) (D := D) (T := T) (U := U) (V := V) (n := n) (k := k) (by rw [htm]) 1
   rw [this, htm]
   exact ih
  ·rw [tm_step htm rfl]
   split
   ·exact ih
   ·rename_i hf
    rcases fcT_cases (A k) (B k) (C k) (D k) T U V (lastI L) (cxs (A k) (B k) (C k) (D k) U V (n - 1)) with e | ⟨j, hj, e, hl⟩
    ·rw [e] at hf; exact absurd (by decide) hf
    ·obtain ⟨j1, j2⟩ := cxs_mem _ _ _ _ U V (n - 1) j hj
     obtain ⟨t0, t1⟩ := cxT_bd (hs k (by omega)) hv (show j + 1 < n by omega) j2
     rw [e]
     exact ih.app t0 t1 hl
theorem tsL_inc (ax ay bx bY cx cy dx dy : Int) (so : Option Addr) (n cap : Nat) (N : Nat → ByteArray) (X Y S Z : Nat → Int) (n2 : Nat) (T U V : Nat → Int) : Inc (tsL (isCo ax ay bx bY cx cy dx dy n N X Y S Z) (isTr n2 T U V) (lnA ax ay bx bY cx cy dx dy n X Y S Z) (lnB ax ay bx bY cx cy dx dy n X Y S Z) (lnC ax ay bx bY cx cy dx dy n X Y S Z) (lnD ax ay bx bY cx cy dx dy n X Y S Z) n2 T U V n) := by
 unfold tsL
 split
 ·rename_i hz
  obtain ⟨hco, htr, hl⟩ := tsC_z hz
  refine tm_inc htr (m := n + 2) (fun i hi => ?_) (n + 2) (Nat.le_refl _)
  rcases Nat.lt_or_ge i (n + 1) with q | q
  ·exact lnsOk_t hl i q
  ·obtain rfl : i = n + 1 := by omega
   exact ln_last ax ay bx bY cx cy dx dy so n cap N X Y S Z (isCo_t hco).2.1
 ·exact Inc.nil
theorem tsL_len (ax ay bx bY cx cy dx dy : Int) (_ : Option Addr) (n _ : Nat) (N : Nat → ByteArray) (X Y S Z : Nat → Int) (n2 : Nat) (T U V : Nat → Int) : (tsL (isCo ax ay bx bY cx cy dx dy n N X Y S Z) (isTr n2 T U V) (lnA ax ay bx bY cx cy dx dy n X Y S Z) (lnB ax ay bx bY cx cy dx dy n X Y S Z) (lnC ax ay bx bY cx cy dx dy n X Y S Z) (lnD ax ay bx bY cx cy dx dy n X Y S Z) n2 T U V n).length ≤ 10 := by
 unfold tsL
 split
 ·rename_i hz
  have h8 := (isCo_t (tsC_z hz).1).2.2.2.1
  have := (tmS_len (lnA ax ay bx bY cx cy dx dy n X Y S Z) (lnB ax ay bx bY cx cy dx dy n X Y S Z) (lnC ax ay bx bY cx cy dx dy n X Y S Z) (lnD ax ay bx bY cx cy dx dy n X Y S Z) T U V n2 (n + 2)).1
  omega
 ·exact Nat.zero_le _
theorem OwZ.gets {w : World} {B : Nat} {so : Option Addr} {L : List Int} (h : OwZ w B so L) : ∃ g, (L.length = 0 ∨ (so = some ⟨g, 0, none⟩ ∧ B ≤ g ∧ g < w.heap.size)) ∧ ∀ j, j < L.length → w.cell? ⟨g, j, none⟩ = some (.int .i64 (lgt L j)) := by
 rcases h with ⟨_, h0⟩ | ⟨g, h1, h2, h3, h4⟩
 ·exact ⟨0, .inl h0, fun j hj => by omega⟩
 ·exact ⟨g, .inr ⟨h1, h2, h3⟩, fun j hj => (h4 j hj).1⟩
theorem dfL_end (L : List Int) {j : Nat} (h : ¬ j + 1 < L.length) (h2 : j = 0 ∨ j + 1 ≤ L.length) : dfL L (j + 1) = dfL L L.length := by
 rcases (by omega : j + 1 = L.length ∨ (j = 0 ∧ L.length = 0)) with e | ⟨rfl, e⟩
 ·rw [e]
 ·rw [e]; rfl
theorem dfL_next (L : List Int) (j : Nat) : dfL L (j + 1 + 1) = dfL L (j + 1) ++ [lgt L (j + 1) - lgt L j] := by
 show (if j + 1 = 0 then [] else dfL L (j + 1) ++ [lgt L (j + 1) - lgt L (j + 1 - 1)]) = _
 rw [if_neg (Nat.succ_ne_zero j), Nat.add_sub_cancel]
set_option maxRecDepth 100000 in
set_option maxHeartbeats 8000000 in
theorem impl_LegTimes (ax ay bx bY cx cy dx dy : Int) (so : Option Addr) (n cap : Nat) (N : Nat → ByteArray) (X Y S Z : Nat → Int) (so2 : Option Addr) (n2 cap2 : Nat) (T U V : Nat → Int) (w : World) (h : RowAt w so n 5 (v5 N X Y S Z)) (hn : n ≤ 1048576) (hcap : n ≤ cap) (h2 : RowAt w so2 n2 3 (v3 T U V)) (hn2 : n2 ≤ 1048576) :
 Calls Tryz.prog 31 #[.agg #[.int .i64 ax, .int .i64 ay, .int .i64 bx, .int .i64 bY, .int .i64 cx, .int .i64 cy, .int .i64 dx, .int .i64 dy, .slice so n cap], .agg #[.slice so2 n2 cap2]] w (RetG w (dfL (tsL (isCo ax ay bx bY cx cy dx dy n N X Y S Z) (isTr n2 T U V) (lnA ax ay bx bY cx cy dx dy n X Y S Z) (lnB ax ay bx bY cx cy dx dy n X Y S Z) (lnC ax ay bx bY cx cy dx dy n X Y S Z) (lnD ax ay bx bY cx cy dx dy n X Y S Z) n2 T U V n) (tsL (isCo ax ay bx bY cx cy dx dy n N X Y S Z) (isTr n2 T U V) (lnA ax ay bx bY cx cy dx dy n X Y S Z) (lnB ax ay bx bY cx cy dx dy n X Y S Z) (lnC ax ay bx bY cx cy dx dy n X Y S Z) (lnD ax ay bx bY cx cy dx dy n X Y S Z) n2 T U V n).length) (tsC (isCo ax ay bx bY cx cy dx dy n N X Y S Z) (isTr n2 T U V) (lnsOk (lnA ax ay bx bY cx cy dx dy n X Y S Z) (lnB ax ay bx bY cx cy dx dy n X Y S Z) (lnC ax ay bx bY cx cy dx dy n X Y S Z) (lnD ax ay bx bY cx cy dx dy n X Y S Z) (n + 1)))) := by
 have hinc := tsL_inc ax ay bx bY cx cy dx dy so n cap N X Y S Z n2 T U V
 have hlen := tsL_len ax ay bx bY cx cy dx dy so n cap N X Y S Z n2 T U V
 have KC := hide (fun W (hb : Below w.heap.size w W) => impl_sailed ax ay bx bY cx cy dx dy so n cap N X Y S Z so2 n2 cap2 T U V W (RowAt.later hb h) hn hcap (RowAt.later hb h2) hn2)
 generalize (tsL (isCo ax ay bx bY cx cy dx dy n N X Y S Z) (isTr n2 T U V) (lnA ax ay bx bY cx cy dx dy n X Y S Z) (lnB ax ay bx bY cx cy dx dy n X Y S Z) (lnC ax ay bx bY cx cy dx dy n X Y S Z) (lnD ax ay bx bY cx cy dx dy n X Y S Z) n2 T U V n) = Lx at *
 generalize (tsC (isCo ax ay bx bY cx cy dx dy n N X Y S Z) (isTr n2 T U V) (lnsOk (lnA ax ay bx bY cx cy dx dy n X Y S Z) (lnB ax ay bx bY cx cy dx dy n X Y S Z) (lnC ax ay bx bY cx cy dx dy n X Y S Z) (lnD ax ay bx bY cx cy dx dy n X Y S Z) (n + 1))) = c9 at *
 clear h h2
 obtain ⟨i1, hi, hz0, hz1', hz2'⟩ := info_parts infoI64
 have Hi := hide hi
 have Hz := hide (And.intro hz0 (And.intro hz1' hz2'))
 have Hinc := hide hinc
 clear hi hz0 hz1' hz2' hinc
 go_enter Tryz.func31, Tryz.ntmps31
 go_wp2_with fail; (with_reducible refine (KC.out _ bwz).mono ?_); rintro e wB ⟨so9, cpt, rfl, hown, hbB⟩
 obtain ⟨gz, hgz, hcz⟩ := OwZ.gets (OwZ.of hown)
 have HBB := hide (bstep (show Below w.heap.size w _ from bwz) hbB)
 have zB := hbB.size
 simp only [size_al] at zB hgz
 have HCZ := hide hcz
 have HO0 := hide (World.ownsRow_made (base := w.heap.size + 1 + 1) (e := 2) (size := 1) wB #[] 0 (by omega) (by decide) rfl)
 have hg0 : Lx.length = 0 ∨ gz ≠ wB.heap.size := by omega
 have hgs : Lx.length = 0 ∨ gz < wB.heap.size := by omega
 have hso : Lx.length = 0 ∨ so9 = some ⟨gz, 0, none⟩ := hgz.imp id (·.1)
 clear hown hbB KC hcz
 go_wp2
 clear hgz
 go_loopw [8, 9] (fun v i wr => ∃ j g9 cp9 : Nat, (j = 0 ∨ j + 1 ≤ Lx.length) ∧ i = .int .i64 ((j : Int) + 1) ∧ v = .slice (some ⟨g9, 0, none⟩) (dfL Lx (j + 1)).length cp9 ∧ Hid (wr.ownsRow (w.heap.size + 1 + 1) 2 1 (.slice (some ⟨g9, 0, none⟩) (dfL Lx (j + 1)).length cp9) (dfL Lx (j + 1)).length ((dfL Lx (j + 1)).map (Value.int .i64))) ∧ (Lx.length = 0 ∨ gz ≠ g9) ∧ Hid (∀ j, j < Lx.length → wr.cell? ⟨gz, j, none⟩ = some (.int .i64 (lgt Lx j))) ∧ Below w.heap.size w wr ∧ (Lx.length = 0 ∨ gz < wr.heap.size) ∧ w.heap.size + 1 + 1 ≤ wr.heap.size) (fun _ i _ => 20 - (intOf i).toNat)
 case atStart => exact ⟨0, wB.heap.size, 0, .inl rfl, rfl, rfl, HO0, hg0, hide (fun j hj => cell_alloc (HCZ.out j hj)), Below.alloc HBB.out (by omega) _, hgs.imp id (fun k => by simp; omega), by simp; omega⟩
 case round =>
  clear HO0 hg0 HCZ HBB hgs zB
  obtain ⟨j, g9, cp9, hj, rfl, rfl, HO, hne, HZ, hbl, hgs, hsz⟩ := hrel
  have hj1 : (0 : Int) ≤ (j : Int) := by omega
  have hj2 : (0 : Int) ≤ (j : Int) + 1 := by omega
  by_cases hlt : j + 1 < Lx.length
  ·have hj3 : (j : Int) + 1 < (Lx.length : Int) := by omega
   have hj4 : (j : Int) < (Lx.length : Int) := by omega
   obtain rfl : so9 = some ⟨gz, 0, none⟩ := hso.resolve_left (by omega)
   have hne := hne.resolve_left (by omega)
   have hgs := hgs.resolve_left (by omega)
   have c1 := HZ.out (j + 1) hlt
   have c0 := HZ.out j (by omega)
   obtain ⟨p0, p1, _⟩ := Hinc.out (j + 1) hlt
   obtain ⟨p2, p3, _⟩ := Hinc.out j (by omega)
   have Hn := hide (dfL_next Lx j)
   have hdl := Nat.le_of_eq (dfL_len Lx (j + 1))
   generalize lgt Lx (j + 1) = x1 at *
   generalize lgt Lx j = x0 at *
   have hOut := HO.out
   generalize dfL Lx (j + 1) = R at *
   have hg9 := (hOut.lt g9 rfl)
   have we1 : IntKind.i64.wrap (x1 - x0) = x1 - x0 := IntWalk.i64_in _ (by omega)
   have we2 : IntKind.i64.wrap ((j : Int) + 1 - 1) = (j : Int) := by rw [Int.add_sub_cancel]; exact IntWalk.i64_in _ (by omega)
   have we3 : IntKind.i64.wrap (j : Int) = (j : Int) := IntWalk.i64_in _ (by omega)
   go_upto_region 6 with fail
   refine wp_region_held_drew (S := fun W => W.cell? ⟨gz, j + 1, none⟩ = some (.int .i64 x1) ∧ W.cell? ⟨gz, j, none⟩ = some (.int .i64 x0) ∧ Below w.heap.size w W) (by kernel_rfl) (⟨by simpa using c1, by simpa using c0, Below.drew hbl⟩) (fun hHeld => ?_)
   refine wpAnyH_take (i := 0) (oi := ⟨some 23, _, _, _, _, _⟩) (v := ?_) rfl (by kernel_rfl) (by kernel_rfl) (by kernel_rfl) (by intro _ _ _ h; exact h) (Or.inl ⟨by kernel_rfl, ?_⟩) (by assumption) ?_; rotate_left; focus (intro W0 hSw; (have hSw1 := hSw.1); (have hSw2 := hSw.2.1); go_simp; (try with_reducible rfl)); (try simp only [pz])
   refine wpAnyH_take (i := 1) (oi := ⟨some 24, _, _, _, _, _⟩) (v := ?_) rfl (by kernel_rfl) (by kernel_rfl) (by kernel_rfl) (by intro _ _ _ h; exact h) (Or.inl ⟨by kernel_rfl, ?_⟩) (by assumption) ?_; rotate_left; focus (intro W0 hSw; (have hSw1 := hSw.1); (have hSw2 := hSw.2.1); go_simp; (try with_reducible rfl)); (try simp only [pz])
   refine wpAnyH_take (i := 2) (oi := ⟨some 25, _, _, _, _, _⟩) (v := ?_) rfl (by kernel_rfl) (by kernel_rfl) (by kernel_rfl) (by intro _ _ _ h; exact h) (Or.inl ⟨by kernel_rfl, ?_⟩) (by assumption) ?_; rotate_left; focus (intro W0 hSw; (have hSw1 := hSw.1); (have hSw2 := hSw.2.1); go_simp; (try with_reducible rfl)); (try simp only [pz])
   refine wpAnyH_take (i := 3) (oi := ⟨some 26, _, _, _, _, _⟩) (v := ?_) rfl (by kernel_rfl) (by kernel_rfl) (by kernel_rfl) (by intro _ _ _ h; exact h) (Or.inl ⟨by kernel_rfl, ?_⟩) (by assumption) ?_; rotate_left; focus (intro W0 hSw; (have hSw1 := hSw.1); (have hSw2 := hSw.2.1); go_simp; (try with_reducible rfl)); (try simp only [pz])
   refine wpAnyH_take (i := 4) (oi := ⟨some 27, _, _, _, _, _⟩) (v := ?_) rfl (by kernel_rfl) (by kernel_rfl) (by kernel_rfl) (by intro _ _ _ h; exact h) (Or.inl ⟨by kernel_rfl, ?_⟩) (by assumption) ?_; rotate_left; focus (intro W0 hSw; (have hSw1 := hSw.1); (have hSw2 := hSw.2.1); go_simp; (try with_reducible rfl)); (try simp only [pz])
   refine wpAnyH_take (i := 5) (oi := ⟨some 28, _, _, _, _, _⟩) (v := ?_) rfl (by kernel_rfl) (by kernel_rfl) (by kernel_rfl) (by intro _ _ _ h; exact h) (Or.inl ⟨by kernel_rfl, ?_⟩) (by assumption) ?_; rotate_left; focus (intro W0 hSw; (have hSw1 := hSw.1); (have hSw2 := hSw.2.1); go_simp; (try with_reducible rfl)); (try simp only [pz])
   refine wpAnyH_take (i := 6) (oi := ⟨some 29, _, _, _, _, _⟩) (v := ?_) rfl (by kernel_rfl) (by kernel_rfl) (by kernel_rfl) (by intro _ _ _ h; exact h) (Or.inl ⟨by kernel_rfl, ?_⟩) (by assumption) ?_; rotate_left; focus (intro W0 hSw; (have hSw1 := hSw.1); (have hSw2 := hSw.2.1); go_simp; (try with_reducible rfl)); (try simp only [pz])
   refine wpAnyH_take (i := 7) (oi := ⟨some 30, _, _, _, _, _⟩) (v := ?_) rfl (by kernel_rfl) (by kernel_rfl) (by kernel_rfl) (by intro _ _ _ h; exact h) (Or.inl ⟨by kernel_rfl, ?_⟩) (by assumption) ?_; rotate_left; focus (intro W0 hSw; (have hSw1 := hSw.1); (have hSw2 := hSw.2.1); go_simp; (try with_reducible rfl)); (try simp only [pz])
   refine wpAnyH_take (i := 8) (oi := ⟨some 31, _, _, _, _, _⟩) (v := ?_) rfl (by kernel_rfl) (by kernel_rfl) (by kernel_rfl) (by intro _ _ _ h; exact h) (Or.inl ⟨by kernel_rfl, ?_⟩) (by assumption) ?_; rotate_left; focus (intro W0 hSw; (have hSw1 := hSw.1); (have hSw2 := hSw.2.1); go_simp; (try with_reducible rfl)); (try simp only [pz])
   refine wpAnyH_take (i := 9) (oi := ⟨some 32, _, _, _, _, _⟩) (v := ?_) rfl (by kernel_rfl) (by kernel_rfl) (by kernel_rfl) (by intro _ _ _ h; exact h) (Or.inl ⟨by kernel_rfl, ?_⟩) (by assumption) ?_; rotate_left; focus (intro W0 hSw; (have hSw1 := hSw.1); (have hSw2 := hSw.2.1); go_simp; (try with_reducible rfl)); (try simp only [pz])
   refine wpAnyH_take (i := 10) (oi := ⟨some 33, _, _, _, _, _⟩) (v := ?_) rfl (by kernel_rfl) (by kernel_rfl) (by kernel_rfl) (by intro _ _ _ h; exact h) (Or.inl ⟨by kernel_rfl, ?_⟩) (by assumption) ?_; rotate_left; focus (intro W0 hSw; (have hSw1 := hSw.1); (have hSw2 := hSw.2.1); go_simp; (try with_reducible rfl)); (try simp only [pz])
   refine rd1 11 (some 34) rfl (fun K hK => ?_)
   go_simp
   all_goals (try go_wp2_with fail)
   refine hK.out _ _ (⟨cell_alloc hHeld.1, cell_alloc hHeld.2.1, Below.alloc hHeld.2.2 hHeld.2.2.size _⟩) (fun hH2 => ?_)
   clear hK K hHeld; (have hHeld := hH2); clear hH2; (try simp only [pz])
   refine rd1 12 (some 35) rfl (fun K hK => ?_)
   refine step_append_lies _ (by rfl) _ _ 46 (by rfl) (w.heap.size + 1 + 1) 2 i1 _ 1 8 Tryz.underlying46 Hi.out Hz.out.1 Hz.out.2.1 Hz.out.2.2 (by rfl) (by decide) (.slice (some ⟨g9, 0, none⟩) R.length cp9) R.length _ (by rfl) (hOut.drew.alloc _) ⟨wr.heap.size, 0, none⟩ 1 1 [.int .i64 (x1 - x0)] (by rfl) (by rfl) (new1 (W := wr.drew)) (one1 _) (by decide) (by unfold maxLen; omega) (by omega) (by simp; omega) (wr.heap.size + 1) (by simp) ?_
   intro g' cap' wA hown' hgr hat hlt'
   refine hK.out _ _ (⟨(gcell hgr gz (j + 1) (by simp; omega) (by show gz ≠ g9; exact hne)).trans hHeld.1, (gcell hgr gz j (by simp; omega) (by show gz ≠ g9; exact hne)).trans hHeld.2.1, hHeld.2.2.trans (own_grown (hOut.drew.alloc _) (by simp; omega) hgr |>.mono (by omega))⟩) (fun hH2 => ?_)
   clear hK K hHeld; (have hHeld := hH2); clear hH2; (try simp only [pz])
   refine wpAnyH_take (i := 13) (oi := ⟨some 8, _, _, _, _, _⟩) (v := ?_) rfl (by kernel_rfl) (by kernel_rfl) (by kernel_rfl) (by intro _ _ _ h; exact h) (Or.inl ⟨by kernel_rfl, ?_⟩) (by assumption) ?_; rotate_left; focus (intro W0 hSw; (have hSw1 := hSw.1); (have hSw2 := hSw.2.1); go_simp; (try with_reducible rfl)); (try simp only [pz])
   refine wpAnyH_done (by kernel_rfl) ?_ _; (try simp only [pz])
   have HOA := hide hown'
   have HBA := hide hHeld.2.2
   have hne' : gz ≠ g' := by rcases hat with k | k; (simp only [Value.ownBlock, Option.some.injEq] at k; omega); omega
   have HZA := hide (fun (q : Nat) (hq : q < Lx.length) => (gcell hgr gz q (by simp; omega) (by show gz ≠ g9; exact hne)).trans (cell_alloc (by simpa using HZ.out q hq)))
   have hsA := hgr.size
   simp at hsA
   clear hown' hgr hat hlt' hHeld c0 c1
   go_wp2
   go_roundw
   case rel => exact ⟨j + 1, g', cap', .inr (by omega), by go_num, by rw [Hn.out, List.length_append, List.length_singleton], hide (by rw [Hn.out, List.length_append, List.length_singleton, List.map_append]; exact HOA.out), .inr hne', HZA, HBA.out, .inr (by omega), by omega⟩
   case measure => simp [intOf]; omega
  ·have He := hide (dfL_end Lx hlt hj)
   have hj3 : ¬ (j : Int) + 1 < (Lx.length : Int) := by omega
   rw [He.out] at HO
   have he := He.out
   rw [he]
   clear he He
   go_wp2
   go_ret2
   exact ⟨_, _, rfl, HO.out.mono (by omega), hbl⟩
end Go.Proofs.YtgcdgdnmcdffoaaGreatDoor
/- Walks: how many of some times are at or before a time, of both. -/
namespace Go.Proofs.YtgcdgdnmcdffoaaGreatDoor
open Go.RowKit

theorem tsL_le (ax ay bx bY cx cy dx dy : Int) (_ : Option Addr) (n _ : Nat) (N : Nat → ByteArray) (X Y S Z : Nat → Int) (n2 : Nat) (T U V : Nat → Int) : (tsL (isCo ax ay bx bY cx cy dx dy n N X Y S Z) (isTr n2 T U V) (lnA ax ay bx bY cx cy dx dy n X Y S Z) (lnB ax ay bx bY cx cy dx dy n X Y S Z) (lnC ax ay bx bY cx cy dx dy n X Y S Z) (lnD ax ay bx bY cx cy dx dy n X Y S Z) n2 T U V n).length ≤ n + 2 := by
 unfold tsL
 split
 ·exact (tmS_len (lnA ax ay bx bY cx cy dx dy n X Y S Z) (lnB ax ay bx bY cx cy dx dy n X Y S Z) (lnC ax ay bx bY cx cy dx dy n X Y S Z) (lnD ax ay bx bY cx cy dx dy n X Y S Z) T U V n2 (n + 2)).1
 ·exact Nat.zero_le _
theorem cntL_step (L : List Int) (t : Int) (k : Nat) (x : Int) (h : x = lgt L k) : cntL L t (k + 1) = if x ≤ t then cntL L t k + 1 else cntL L t k := by subst h; rfl
set_option maxHeartbeats 4000000 in
theorem impl_reachedAt (L : List Int) (so : Option Addr) (g cp : Nat) (t : Int) (w : World) (hi : Inc L) (hl : L.length ≤ 100) (hs : L.length = 0 ∨ so = some ⟨g, 0, none⟩) (hc : ∀ j, j < L.length → w.cell? ⟨g, j, none⟩ = some (.int .i64 (lgt L j))) :
 Calls Tryz.prog 69 #[.slice so L.length cp, .int .i64 t] w fun e w' => e = .returned (.int .i64 ((cntL L t L.length : Nat) : Int)) ∧ w = w' := by
 have Hc := hide hc
 have Hi := hide hi
 obtain ⟨R, hR⟩ : ∃ R, R = cntL L t L.length := ⟨_, rfl⟩
 rw [← hR]
 have HR := hide hR
 clear hc hi hR
 go_enter Tryz.func69, Tryz.ntmps69
 go_wp2
 go_loop [5] (fun i => ∃ k : Nat, k ≤ L.length ∧ i = .int .i64 k ∧ Hid (∀ i, i < k → lgt L i ≤ t)) (fun i => L.length - (intOf i).toNat)
 case atStart => exact ⟨0, Nat.zero_le _, rfl, hide (fun i hi => absurd hi (Nat.not_lt_zero _))⟩
 case round =>
  obtain ⟨k, hk, rfl, HK⟩ := hrel
  have hk0 : (0 : Int) ≤ (k : Int) := by omega
  by_cases hlt : k < L.length
  ·obtain rfl : so = some ⟨g, 0, none⟩ := hs.resolve_left (by omega)
   have c0 := Hc.out k hlt
   have hk1 : (k : Int) < (L.length : Int) := by omega
   obtain ⟨x, hx⟩ : ∃ x, x = lgt L k := ⟨_, rfl⟩
   rw [← hx] at c0
   by_cases hle : x ≤ t
   ·have HK2 := hide (show ∀ i, i < k + 1 → lgt L i ≤ t from fun i hi => by
     rcases Nat.lt_or_ge i k with q | q
     ·exact HK.out i q
     ·obtain rfl : i = k := by omega
      rw [← hx]; exact hle)
    clear hx
    go_wp2
    go_round
    case rel => exact ⟨k + 1, by omega, by go_num, HK2⟩
    case measure => simp [intOf]; omega
   ·have He := HR.out.trans (cntL_all Hi.out (t := t) hk HK.out (.inr (by rw [← hx]; omega)))
    subst He
    clear hx
    go_wp2
    go_ret
    exact ⟨rfl, rfl⟩
  ·have He := HR.out.trans (cntL_all Hi.out (t := t) hk HK.out (.inl (by omega)))
   subst He
   go_wp2
   go_ret
   exact ⟨rfl, rfl⟩
set_option maxHeartbeats 4000000 in
theorem spec_l06Reached (L : List Int) (so : Option Addr) (g cp : Nat) (t : Int) (w : World) (hl : L.length ≤ 100) (hs : L.length = 0 ∨ so = some ⟨g, 0, none⟩) (hc : ∀ j, j < L.length → w.cell? ⟨g, j, none⟩ = some (.int .i64 (lgt L j))) :
 Calls Tryz.prog 71 #[.slice so L.length cp, .int .i64 t] w fun e w' => e = .returned (.int .i64 ((cntL L t L.length : Nat) : Int)) ∧ w = w' := by
 have Hc := hide hc
 obtain ⟨R, hR⟩ : ∃ R, R = cntL L t L.length := ⟨_, rfl⟩
 rw [← hR]
 have HR := hide hR
 clear hc hR
 go_enter Tryz.func71, Tryz.ntmps71
 go_wp2
 go_loop [5, 6] (fun c i => ∃ k m : Nat, k ≤ L.length ∧ m ≤ k ∧ i = .int .i64 k ∧ c = .int .i64 m ∧ Hid (m = cntL L t k)) (fun _ i => L.length - (intOf i).toNat)
 case atStart => exact ⟨0, 0, Nat.zero_le _, Nat.le_refl _, rfl, rfl, hide rfl⟩
 case round =>
  obtain ⟨k, m, hk, hm, rfl, rfl, HK⟩ := hrel
  have hk0 : (0 : Int) ≤ (k : Int) := by omega
  by_cases hlt : k < L.length
  ·obtain rfl : so = some ⟨g, 0, none⟩ := hs.resolve_left (by omega)
   have c0 := Hc.out k hlt
   have hk1 : (k : Int) < (L.length : Int) := by omega
   obtain ⟨x, hx⟩ : ∃ x, x = lgt L k := ⟨_, rfl⟩
   rw [← hx] at c0
   have HS := hide (cntL_step L t k x hx)
   clear hx
   by_cases hle : x ≤ t
   ·have HK2 := hide (show m + 1 = cntL L t (k + 1) by rw [HS.out, if_pos hle, ← HK.out])
    go_wp2
    go_round
    case rel => exact ⟨k + 1, m + 1, by omega, by omega, by go_num, by go_num, HK2⟩
    case measure => simp [intOf]; omega
   ·have HK2 := hide (show m = cntL L t (k + 1) by rw [HS.out, if_neg hle, ← HK.out])
    go_wp2
    go_round
    case rel => exact ⟨k + 1, m, by omega, by omega, by go_num, rfl, HK2⟩
    case measure => simp [intOf]; omega
  ·obtain rfl : k = L.length := by omega
   have He := HR.out.trans HK.out.symm
   subst He
   go_wp2
   go_ret
   exact ⟨rfl, rfl⟩
end Go.Proofs.YtgcdgdnmcdffoaaGreatDoor
/- Walks: how many stations are reached, of both; the time of the finish, of the program. -/
namespace Go.Proofs.YtgcdgdnmcdffoaaGreatDoor
open Go.RowKit

theorem tsL_zero {co tr : Bool} {A B C D : Nat → Int} {n2 : Nat} {T U V : Nat → Int} {n : Nat} (h : ¬ tsC co tr (lnsOk A B C D (n + 1)) = 0) (t : Int) : cntL (tsL co tr A B C D n2 T U V n) t (tsL co tr A B C D n2 T U V n).length = 0 := by rw [tsL_no h]; rfl
theorem dfL_at (L : List Int) : ∀ k j, j + 1 < k → lgt (dfL L k) j = lgt L (j + 1) - lgt L j := fun k => by
 induction k with
 | zero => intro j h; omega
 | succ k ih =>
  intro j h
  show lgt (if k = 0 then [] else dfL L k ++ [lgt L k - lgt L (k - 1)]) j = _
  rw [if_neg (by omega)]
  have hl := dfL_len L k
  rcases Nat.lt_or_ge (j + 1) k with h1 | h1
  ·rw [lgt_app (by omega)]
   exact ih j h1
  ·obtain rfl : j = (dfL L k).length := by omega
   rw [lgt_new, hl, show k - 1 + 1 = k by omega]
/-- The time of the finish, and the code. -/
def fnR (c : Int) (L : List Int) (n : Nat) : Int × Int := if c = 0 then (if L.length < n + 2 then (0, 4) else (lgt L (L.length - 1), 0)) else (0, c)
theorem fnR_no {c : Int} {L : List Int} {n : Nat} (h : ¬ c = 0) : fnR c L n = (0, c) := by unfold fnR; rw [if_neg h]
theorem fnR_few {L : List Int} {n : Nat} (h : L.length < n + 2) : fnR 0 L n = (0, 4) := by unfold fnR; rw [if_pos rfl, if_pos h]
theorem fnR_all {L : List Int} {n : Nat} (h : ¬ L.length < n + 2) : fnR 0 L n = (lgt L (L.length - 1), 0) := by unfold fnR; rw [if_pos rfl, if_neg h]

set_option maxRecDepth 100000 in
set_option maxHeartbeats 8000000 in
theorem impl_ReachedAt (ax ay bx bY cx cy dx dy : Int) (so : Option Addr) (n cap : Nat) (N : Nat → ByteArray) (X Y S Z : Nat → Int) (so2 : Option Addr) (n2 cap2 : Nat) (T U V : Nat → Int) (t : Int) (w : World) (h : RowAt w so n 5 (v5 N X Y S Z)) (hn : n ≤ 1048576) (hcap : n ≤ cap) (h2 : RowAt w so2 n2 3 (v3 T U V)) (hn2 : n2 ≤ 1048576) :
 Calls Tryz.prog 28 #[.agg #[.int .i64 ax, .int .i64 ay, .int .i64 bx, .int .i64 bY, .int .i64 cx, .int .i64 cy, .int .i64 dx, .int .i64 dy, .slice so n cap], .agg #[.slice so2 n2 cap2], .int .i64 t] w fun e w' => e = .returned (.tuple #[.int .i64 ((cntL (tsL (isCo ax ay bx bY cx cy dx dy n N X Y S Z) (isTr n2 T U V) (lnA ax ay bx bY cx cy dx dy n X Y S Z) (lnB ax ay bx bY cx cy dx dy n X Y S Z) (lnC ax ay bx bY cx cy dx dy n X Y S Z) (lnD ax ay bx bY cx cy dx dy n X Y S Z) n2 T U V n) t (tsL (isCo ax ay bx bY cx cy dx dy n N X Y S Z) (isTr n2 T U V) (lnA ax ay bx bY cx cy dx dy n X Y S Z) (lnB ax ay bx bY cx cy dx dy n X Y S Z) (lnC ax ay bx bY cx cy dx dy n X Y S Z) (lnD ax ay bx bY cx cy dx dy n X Y S Z) n2 T U V n).length : Nat) : Int), .int .i64 (tsC (isCo ax ay bx bY cx cy dx dy n N X Y S Z) (isTr n2 T U V) (lnsOk (lnA ax ay bx bY cx cy dx dy n X Y S Z) (lnB ax ay bx bY cx cy dx dy n X Y S Z) (lnC ax ay bx bY cx cy dx dy n X Y S Z) (lnD ax ay bx bY cx cy dx dy n X Y S Z) (n + 1)))]) ∧ Below w.heap.size w w' := by
 have hinc := tsL_inc ax ay bx bY cx cy dx dy so n cap N X Y S Z n2 T U V
 have hlen := tsL_len ax ay bx bY cx cy dx dy so n cap N X Y S Z n2 T U V
 have KC := hide (fun W (hb : Below w.heap.size w W) => impl_sailed ax ay bx bY cx cy dx dy so n cap N X Y S Z so2 n2 cap2 T U V W (RowAt.later hb h) hn hcap (RowAt.later hb h2) hn2)
 generalize (tsL (isCo ax ay bx bY cx cy dx dy n N X Y S Z) (isTr n2 T U V) (lnA ax ay bx bY cx cy dx dy n X Y S Z) (lnB ax ay bx bY cx cy dx dy n X Y S Z) (lnC ax ay bx bY cx cy dx dy n X Y S Z) (lnD ax ay bx bY cx cy dx dy n X Y S Z) n2 T U V n) = Lx at *
 generalize (tsC (isCo ax ay bx bY cx cy dx dy n N X Y S Z) (isTr n2 T U V) (lnsOk (lnA ax ay bx bY cx cy dx dy n X Y S Z) (lnB ax ay bx bY cx cy dx dy n X Y S Z) (lnC ax ay bx bY cx cy dx dy n X Y S Z) (lnD ax ay bx bY cx cy dx dy n X Y S Z) (n + 1))) = c9 at *
 have HI := hide hinc
 clear h h2 hinc
 go_enter Tryz.func28, Tryz.ntmps28
 go_wp2_with fail; (with_reducible refine (KC.out _ bwz).mono ?_); rintro e wB ⟨so9, cpt, rfl, hown, hbB⟩
 obtain ⟨gz, hgz, hcz⟩ := OwZ.gets (OwZ.of hown)
 have hso : Lx.length = 0 ∨ so9 = some ⟨gz, 0, none⟩ := hgz.imp id (·.1)
 have HCZ := hide hcz
 clear hown hcz hgz
 go_wp2_with fail; (with_reducible refine (impl_reachedAt Lx so9 gz cpt t _ HI.out (by omega) hso HCZ.out).mono ?_); rintro e w9 ⟨rfl, rfl⟩
 go_wp2
 go_ret2
 exact ⟨rfl, bstep bwz hbB⟩
set_option maxRecDepth 100000 in
set_option maxHeartbeats 8000000 in
theorem spec_ReachedAt (ax ay bx bY cx cy dx dy : Int) (so : Option Addr) (n cap : Nat) (N : Nat → ByteArray) (X Y S Z : Nat → Int) (so2 : Option Addr) (n2 cap2 : Nat) (T U V : Nat → Int) (t : Int) (w : World) (h : RowAt w so n 5 (v5 N X Y S Z)) (hn : n ≤ 1048576) (h2 : RowAt w so2 n2 3 (v3 T U V)) (hn2 : n2 ≤ 1048576) :
 Calls Tryz.prog 29 #[.agg #[.int .i64 ax, .int .i64 ay, .int .i64 bx, .int .i64 bY, .int .i64 cx, .int .i64 cy, .int .i64 dx, .int .i64 dy, .slice so n cap], .agg #[.slice so2 n2 cap2], .int .i64 t] w fun e w' => e = .returned (.tuple #[.int .i64 ((cntL (tsL (isCo ax ay bx bY cx cy dx dy n N X Y S Z) (isTr n2 T U V) (lnA ax ay bx bY cx cy dx dy n X Y S Z) (lnB ax ay bx bY cx cy dx dy n X Y S Z) (lnC ax ay bx bY cx cy dx dy n X Y S Z) (lnD ax ay bx bY cx cy dx dy n X Y S Z) n2 T U V n) t (tsL (isCo ax ay bx bY cx cy dx dy n N X Y S Z) (isTr n2 T U V) (lnA ax ay bx bY cx cy dx dy n X Y S Z) (lnB ax ay bx bY cx cy dx dy n X Y S Z) (lnC ax ay bx bY cx cy dx dy n X Y S Z) (lnD ax ay bx bY cx cy dx dy n X Y S Z) n2 T U V n).length : Nat) : Int), .int .i64 (tsC (isCo ax ay bx bY cx cy dx dy n N X Y S Z) (isTr n2 T U V) (lnsOk (lnA ax ay bx bY cx cy dx dy n X Y S Z) (lnB ax ay bx bY cx cy dx dy n X Y S Z) (lnC ax ay bx bY cx cy dx dy n X Y S Z) (lnD ax ay bx bY cx cy dx dy n X Y S Z) (n + 1)))]) ∧ Below w.heap.size w w' := by
 have hlen := tsL_len ax ay bx bY cx cy dx dy so n cap N X Y S Z n2 T U V
 have KC := fun W (hb : Below w.heap.size w W) => spec_l06Code ax ay bx bY cx cy dx dy so n cap N X Y S Z so2 n2 cap2 T U V W (RowAt.later hb h) hn (RowAt.later hb h2) hn2
 by_cases z : (tsC (isCo ax ay bx bY cx cy dx dy n N X Y S Z) (isTr n2 T U V) (lnsOk (lnA ax ay bx bY cx cy dx dy n X Y S Z) (lnB ax ay bx bY cx cy dx dy n X Y S Z) (lnC ax ay bx bY cx cy dx dy n X Y S Z) (lnD ax ay bx bY cx cy dx dy n X Y S Z) (n + 1))) = 0
 ·obtain ⟨hco, htr, hl⟩ := tsC_z z
  have g2 := (isCo_t hco).2.1
  have hf := ln_last ax ay bx bY cx cy dx dy so n cap N X Y S Z g2
  obtain ⟨hn2a, _, _⟩ := isTr_t htr
  obtain ⟨b2, o2, rfl, hb2, _, _, _⟩ := h2.at3 0 (by omega)
  have KA := hide (fun W (hb : Below w.heap.size w W) => spec_l06Times ax ay bx bY cx cy dx dy so n cap N X Y S Z b2 o2 n2 cap2 T U V (lnA ax ay bx bY cx cy dx dy n X Y S Z) (lnB ax ay bx bY cx cy dx dy n X Y S Z) (lnC ax ay bx bY cx cy dx dy n X Y S Z) (lnD ax ay bx bY cx cy dx dy n X Y S Z) W (RowAt.later hb h) hco rfl rfl rfl rfl hl hf (RowAt.later hb h2) htr)
  have Ho : (tsL (isCo ax ay bx bY cx cy dx dy n N X Y S Z) (isTr n2 T U V) (lnA ax ay bx bY cx cy dx dy n X Y S Z) (lnB ax ay bx bY cx cy dx dy n X Y S Z) (lnC ax ay bx bY cx cy dx dy n X Y S Z) (lnD ax ay bx bY cx cy dx dy n X Y S Z) n2 T U V n) = (tmS (lnA ax ay bx bY cx cy dx dy n X Y S Z) (lnB ax ay bx bY cx cy dx dy n X Y S Z) (lnC ax ay bx bY cx cy dx dy n X Y S Z) (lnD ax ay bx bY cx cy dx dy n X Y S Z) T U V n2 (n + 2)).1 := by unfold tsL; rw [if_pos z]
  rw [Ho, z]
  rw [Ho] at hlen
  rw [z] at KC
  have KC := hide KC
  clear Ho hf g2 hco htr hl h h2 z
  generalize (tmS (lnA ax ay bx bY cx cy dx dy n X Y S Z) (lnB ax ay bx bY cx cy dx dy n X Y S Z) (lnC ax ay bx bY cx cy dx dy n X Y S Z) (lnD ax ay bx bY cx cy dx dy n X Y S Z) T U V n2 (n + 2)).1 = R9 at *
  go_enter Tryz.func29, Tryz.ntmps29
  go_wp2_with (go_at_call 70; (with_reducible refine (KC.out _ bwz).mono ?_); rintro e w9 ⟨rfl, hb⟩; obtain ⟨hc, hf⟩ := bcell hb; have hz := hb.size; have z0 : w.heap.size < w9.heap.size := (by first | omega | (simp at hz; omega)); have z1 : w.heap.size + 1 < w9.heap.size := (by first | omega | (simp at hz; omega)))
  have HB9 := hide (show Below w.heap.size w w9 from bwz)
  go_wp2_with fail; (with_reducible refine (KA.out _ HB9.out).mono ?_); rintro e wD ⟨g9, cp9, rfl, hown, hbD⟩
  obtain ⟨gz, hgz, hcz⟩ := OwZ.gets (OwZ.of hown)
  have hso : R9.length = 0 ∨ (some ⟨g9, 0, none⟩ : Option Addr) = some ⟨gz, 0, none⟩ := hgz.imp id (·.1)
  have HCZ := hide hcz
  clear hown hcz hgz
  go_wp2_with fail; (with_reducible refine (spec_l06Reached R9 (some ⟨g9, 0, none⟩) gz cp9 t _ (by omega) hso HCZ.out).mono ?_); rintro e wE ⟨rfl, rfl⟩
  go_wp2
  go_ret2
  exact ⟨rfl, bstep HB9.out hbD⟩
 ·rw [tsL_zero z]
  obtain ⟨c9, hc9⟩ : ∃ c, c = (tsC (isCo ax ay bx bY cx cy dx dy n N X Y S Z) (isTr n2 T U V) (lnsOk (lnA ax ay bx bY cx cy dx dy n X Y S Z) (lnB ax ay bx bY cx cy dx dy n X Y S Z) (lnC ax ay bx bY cx cy dx dy n X Y S Z) (lnD ax ay bx bY cx cy dx dy n X Y S Z) (n + 1))) := ⟨_, rfl⟩
  rw [← hc9] at KC z ⊢
  have hcb : (c9 != 0) = true := bne_iff_ne.2 z
  have KC := hide KC
  clear hc9 h h2 hlen
  go_enter Tryz.func29, Tryz.ntmps29
  go_wp2_with (go_at_call 70; (with_reducible refine (KC.out _ bwz).mono ?_); rintro e w9 ⟨rfl, hb⟩; obtain ⟨hc, hf⟩ := bcell hb; have hz := hb.size; have z0 : w.heap.size < w9.heap.size := (by first | omega | (simp at hz; omega)); have z1 : w.heap.size + 1 < w9.heap.size := (by first | omega | (simp at hz; omega)))
  go_ret2
  exact ⟨rfl, bwz⟩
set_option maxRecDepth 100000 in
set_option maxHeartbeats 8000000 in
theorem impl_FinishTime (ax ay bx bY cx cy dx dy : Int) (so : Option Addr) (n cap : Nat) (N : Nat → ByteArray) (X Y S Z : Nat → Int) (so2 : Option Addr) (n2 cap2 : Nat) (T U V : Nat → Int) (w : World) (h : RowAt w so n 5 (v5 N X Y S Z)) (hn : n ≤ 1048576) (hcap : n ≤ cap) (h2 : RowAt w so2 n2 3 (v3 T U V)) (hn2 : n2 ≤ 1048576) :
 Calls Tryz.prog 32 #[.agg #[.int .i64 ax, .int .i64 ay, .int .i64 bx, .int .i64 bY, .int .i64 cx, .int .i64 cy, .int .i64 dx, .int .i64 dy, .slice so n cap], .agg #[.slice so2 n2 cap2]] w fun e w' => e = .returned (.tuple #[.int .i64 (fnR (tsC (isCo ax ay bx bY cx cy dx dy n N X Y S Z) (isTr n2 T U V) (lnsOk (lnA ax ay bx bY cx cy dx dy n X Y S Z) (lnB ax ay bx bY cx cy dx dy n X Y S Z) (lnC ax ay bx bY cx cy dx dy n X Y S Z) (lnD ax ay bx bY cx cy dx dy n X Y S Z) (n + 1))) (tsL (isCo ax ay bx bY cx cy dx dy n N X Y S Z) (isTr n2 T U V) (lnA ax ay bx bY cx cy dx dy n X Y S Z) (lnB ax ay bx bY cx cy dx dy n X Y S Z) (lnC ax ay bx bY cx cy dx dy n X Y S Z) (lnD ax ay bx bY cx cy dx dy n X Y S Z) n2 T U V n) n).1, .int .i64 (fnR (tsC (isCo ax ay bx bY cx cy dx dy n N X Y S Z) (isTr n2 T U V) (lnsOk (lnA ax ay bx bY cx cy dx dy n X Y S Z) (lnB ax ay bx bY cx cy dx dy n X Y S Z) (lnC ax ay bx bY cx cy dx dy n X Y S Z) (lnD ax ay bx bY cx cy dx dy n X Y S Z) (n + 1))) (tsL (isCo ax ay bx bY cx cy dx dy n N X Y S Z) (isTr n2 T U V) (lnA ax ay bx bY cx cy dx dy n X Y S Z) (lnB ax ay bx bY cx cy dx dy n X Y S Z) (lnC ax ay bx bY cx cy dx dy n X Y S Z) (lnD ax ay bx bY cx cy dx dy n X Y S Z) n2 T U V n) n).2]) ∧ Below w.heap.size w w' := by
 have hlen := tsL_len ax ay bx bY cx cy dx dy so n cap N X Y S Z n2 T U V
 have hn8 : (tsC (isCo ax ay bx bY cx cy dx dy n N X Y S Z) (isTr n2 T U V) (lnsOk (lnA ax ay bx bY cx cy dx dy n X Y S Z) (lnB ax ay bx bY cx cy dx dy n X Y S Z) (lnC ax ay bx bY cx cy dx dy n X Y S Z) (lnD ax ay bx bY cx cy dx dy n X Y S Z) (n + 1))) = 0 → n ≤ 8 := fun z => (isCo_t (tsC_z z).1).2.2.2.1
 have KC := hide (fun W (hb : Below w.heap.size w W) => impl_sailed ax ay bx bY cx cy dx dy so n cap N X Y S Z so2 n2 cap2 T U V W (RowAt.later hb h) hn hcap (RowAt.later hb h2) hn2)
 generalize (tsL (isCo ax ay bx bY cx cy dx dy n N X Y S Z) (isTr n2 T U V) (lnA ax ay bx bY cx cy dx dy n X Y S Z) (lnB ax ay bx bY cx cy dx dy n X Y S Z) (lnC ax ay bx bY cx cy dx dy n X Y S Z) (lnD ax ay bx bY cx cy dx dy n X Y S Z) n2 T U V n) = Lx at *
 generalize (tsC (isCo ax ay bx bY cx cy dx dy n N X Y S Z) (isTr n2 T U V) (lnsOk (lnA ax ay bx bY cx cy dx dy n X Y S Z) (lnB ax ay bx bY cx cy dx dy n X Y S Z) (lnC ax ay bx bY cx cy dx dy n X Y S Z) (lnD ax ay bx bY cx cy dx dy n X Y S Z) (n + 1))) = c9 at *
 clear h h2
 by_cases z : c9 = 0
 case neg =>
  rw [fnR_no z]
  have hcb : (c9 != 0) = true := bne_iff_ne.2 z
  clear hn8
  go_enter Tryz.func32, Tryz.ntmps32
  go_wp2_with fail; (with_reducible refine (KC.out _ bwz).mono ?_); rintro e wB ⟨so9, cpt, rfl, hown, hbB⟩
  clear hown
  go_wp2
  go_ret2
  exact ⟨rfl, bstep bwz hbB⟩
 subst z
 have hn8 := hn8 rfl
 obtain ⟨m, hm9⟩ : ∃ m : Nat, m = n + 2 := ⟨_, rfl⟩
 have wn : IntKind.i64.wrap ((n : Int) + 2) = (m : Int) := by rw [hm9]; exact IntWalk.i64_in _ (by omega)
 by_cases hl : Lx.length < n + 2
 ·rw [fnR_few hl]
  have hli : (Lx.length : Int) < (m : Int) := by omega
  clear hl hm9
  go_enter Tryz.func32, Tryz.ntmps32
  go_wp2_with fail; (with_reducible refine (KC.out _ bwz).mono ?_); rintro e wB ⟨so9, cpt, rfl, hown, hbB⟩
  have zB := hbB.size
  simp only [size_al] at zB
  have c8 : wB.cell? ⟨w.heap.size, 8, none⟩ = some (.slice so n cap) := cell_later hbB (by go_simp)
  clear hown
  go_wp2
  go_ret2
  exact ⟨rfl, bstep bwz hbB⟩
 ·rw [fnR_all hl]
  have hli : ¬ (Lx.length : Int) < (m : Int) := by omega
  obtain ⟨q, hq⟩ : ∃ q, q = Lx.length - 1 := ⟨_, rfl⟩
  rw [← hq]
  have wq : IntKind.i64.wrap ((Lx.length : Int) - 1) = (q : Int) := by rw [IntWalk.i64_in _ (by omega)]; omega
  have hq0 : (0 : Int) ≤ (q : Int) := by omega
  have hq1 : (q : Int) < (Lx.length : Int) := by omega
  have hq2 : q < Lx.length := by omega
  clear hl hm9 hq
  go_enter Tryz.func32, Tryz.ntmps32
  go_wp2_with fail; (with_reducible refine (KC.out _ bwz).mono ?_); rintro e wB ⟨so9, cpt, rfl, hown, hbB⟩
  obtain ⟨gz, hgz, hcz⟩ := OwZ.gets (OwZ.of hown)
  obtain rfl : so9 = some ⟨gz, 0, none⟩ := (hgz.resolve_left (by omega)).1
  have cq := hcz q hq2
  have zB := hbB.size
  simp only [size_al] at zB
  have c8 : wB.cell? ⟨w.heap.size, 8, none⟩ = some (.slice so n cap) := cell_later hbB (by go_simp)
  clear hown hcz hgz
  go_wp2
  go_ret2
  exact ⟨rfl, bstep bwz hbB⟩
end Go.Proofs.YtgcdgdnmcdffoaaGreatDoor
