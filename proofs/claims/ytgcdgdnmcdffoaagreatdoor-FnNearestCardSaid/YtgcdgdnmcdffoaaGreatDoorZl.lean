/- Walks: the legs of a track that touch a mark's zone. -/
import Derived.Test.YtgcdgdnmcdffoaaGreatDoorTb0
import Derived.Test.YtgcdgdnmcdffoaaGreatDoorCz
import Derived.Test.YtgcdgdnmcdffoaaGreatDoorI
import Derived.Test.YtgcdgdnmcdffoaaGreatDoorKp
import Derived.Test.YtgcdgdnmcdffoaaGreatDoorIv
import Derived.Deep.DeepCutAuto
import Derived.Deep.AppendLies
import Derived.Deep.Onto
namespace Go.Proofs.YtgcdgdnmcdffoaaGreatDoor
open Go.RowKit

/-- Leg l touches the zone. -/
def touI (x y z : Int) (U V : Nat → Int) (l : Nat) : Bool := wdB (U l) (V l) (U (l + 1)) (V (l + 1)) x y z
theorem touI_eq {x y z : Int} {U V : Nat → Int} {l : Nat} (h : (U l == U (l + 1) && V l == V (l + 1)) = true) : touI x y z U V l = decide (sq (U l) (V l) x y ≤ z * z) := by
 simp only [Bool.and_eq_true, beq_iff_eq] at h
 unfold touI wdB farI
 rw [← h.1, ← h.2, Int.sub_self, Int.sub_self, Int.mul_zero, Int.mul_zero, if_pos (by decide)]
theorem isSg_of {a b c d : Int} (h1 : isPt a b = true) (h2 : isPt c d = true) (h3 : (a == c && b == d) = false) : isSg a b c d = true := by unfold isSg; rw [h1, h2, h3]; rfl
/-- The legs below k that touch the zone. -/
def lgsZ (x y z : Int) (U V : Nat → Int) : Nat → List Int
 | 0 => []
 | k + 1 => if touI x y z U V k = true then lgsZ x y z U V k ++ [(k : Int)] else lgsZ x y z U V k
theorem lgsZ_yes {x y z : Int} {U V : Nat → Int} {k : Nat} (h : touI x y z U V k = true) : lgsZ x y z U V (k + 1) = lgsZ x y z U V k ++ [(k : Int)] := by rw [lgsZ, if_pos h]
theorem lgsZ_no {x y z : Int} {U V : Nat → Int} {k : Nat} (h : touI x y z U V k = false) : lgsZ x y z U V (k + 1) = lgsZ x y z U V k := by rw [lgsZ, if_neg (by rw [h]; decide)]
theorem lgsZ_len (x y z : Int) (U V : Nat → Int) (k : Nat) : (lgsZ x y z U V k).length ≤ k := by
 induction k with
 | zero => exact Nat.le_refl _
 | succ k ih =>
  unfold lgsZ
  split
  ·rw [List.length_append, List.length_singleton]; omega
  ·omega
theorem lgsZ_mem (x y z : Int) (U V : Nat → Int) (k : Nat) : ∀ p ∈ lgsZ x y z U V k, ∃ j : Nat, p = (j : Int) ∧ j < k := by
 induction k with
 | zero => intro p hp; exact absurd hp (by simp [lgsZ])
 | succ k ih =>
  intro p hp
  unfold lgsZ at hp
  split at hp
  ·rcases List.mem_append.1 hp with h | h
   ·obtain ⟨j, h1, h2⟩ := ih p h; exact ⟨j, h1, by omega⟩
   ·rw [List.mem_singleton] at h; exact ⟨k, h, by omega⟩
  ·obtain ⟨j, h1, h2⟩ := ih p hp; exact ⟨j, h1, by omega⟩
theorem lgsZ_at {x y z : Int} {U V : Nat → Int} {k i : Nat} (h : i < (lgsZ x y z U V k).length) : ∃ j : Nat, (lgsZ x y z U V k)[i]?.getD 0 = (j : Int) ∧ j < k := by
 rw [List.getElem?_eq_getElem h]
 exact lgsZ_mem x y z U V k _ (List.getElem_mem h)
theorem infoI64 : (Tryz.prog.info? 2).map (fun i => (i.zero, i.size, i.bytes)) = some (some (.int .i64 0), 1, 8) := by kernel_rfl
set_option maxRecDepth 100000 in
set_option maxHeartbeats 2000000 in
theorem impl_legSegment (b o n cap l : Nat) (T X Y : Nat → Int) (w : World) (h : RowAt w (some ⟨b, o, none⟩) n 3 (v3 T X Y)) (hn : n ≤ 40) (hl : l + 1 < n) :
 Calls Tryz.prog 53 #[.agg #[.slice (some ⟨b, o, none⟩) n cap], .int .i64 l] w fun e w' => e = .returned (.agg #[.int .i64 (X l), .int .i64 (Y l), .int .i64 (X (l + 1)), .int .i64 (Y (l + 1))]) ∧ Below w.heap.size w w' := by
 have hbs := World.block_lt_of_cell? _ _ (h.on3 0 (by omega)).1
 simp only at hbs
 obtain ⟨c0, c1, c2⟩ := h.on3 l (by omega)
 obtain ⟨d0, d1, d2⟩ := h.on3 (l + 1) hl
 clear h
 have hj1 : (0 : Int) ≤ (l : Int) := by omega
 have hj2 : (l : Int) < (n : Int) := by omega
 have hj3 : (l : Int) + 1 < (n : Int) := by omega
 have hj4 : (0 : Int) ≤ (l : Int) + 1 := by omega
 have we : IntKind.i64.wrap ((l : Int) + 1) = (l : Int) + 1 := IntWalk.i64_in _ (by omega)
 have nbb0 : ¬ b = w.heap.size := (by omega); have ncb0 : ¬ w.heap.size = b := (by omega); have ndb0 : b < w.heap.size := (by omega); have nbb1 : ¬ b = w.heap.size + 1 := (by omega); have ncb1 : ¬ w.heap.size + 1 = b := (by omega); have ndb1 : b < w.heap.size + 1 := (by omega); have nbb2 : ¬ b = w.heap.size + 1 + 1 := (by omega); have ncb2 : ¬ w.heap.size + 1 + 1 = b := (by omega); have ndb2 : b < w.heap.size + 1 + 1 := (by omega); have nbb3 : ¬ b = w.heap.size + 1 + 1 + 1 := (by omega); have ncb3 : ¬ w.heap.size + 1 + 1 + 1 = b := (by omega); have ndb3 : b < w.heap.size + 1 + 1 + 1 := (by omega); have nbb4 : ¬ b = w.heap.size + 1 + 1 + 1 + 1 := (by omega); have ncb4 : ¬ w.heap.size + 1 + 1 + 1 + 1 = b := (by omega); have ndb4 : b < w.heap.size + 1 + 1 + 1 + 1 := (by omega)
 go_enter Tryz.func53, Tryz.ntmps53
 go_upto_region 1 with fail
 obtain ⟨wT, hT⟩ : ∃ W, W = w.alloc (.cells #[.slice (some ⟨b, o, none⟩) n cap] 33) := ⟨_, rfl⟩
 have m5 : wT.cell? ⟨w.heap.size, 0, none⟩ = some (.slice (some ⟨b, o, none⟩) n cap) := by rw [hT]; go_simp
 have x1 : wT.cell? ⟨b, o + l * 3, none⟩ = some (.int .i64 (T l)) := by rw [hT]; go_simp
 have x2 : wT.cell? ⟨b, o + l * 3 + 1, none⟩ = some (.int .i64 (X l)) := by rw [hT]; go_simp
 have x3 : wT.cell? ⟨b, o + l * 3 + 2, none⟩ = some (.int .i64 (Y l)) := by rw [hT]; go_simp
 have x4 : wT.cell? ⟨b, o + (l + 1) * 3, none⟩ = some (.int .i64 (T (l + 1))) := by rw [hT]; go_simp
 have x5 : wT.cell? ⟨b, o + (l + 1) * 3 + 1, none⟩ = some (.int .i64 (X (l + 1))) := by rw [hT]; go_simp
 have x6 : wT.cell? ⟨b, o + (l + 1) * 3 + 2, none⟩ = some (.int .i64 (Y (l + 1))) := by rw [hT]; go_simp
 have HBT := hide (show Below w.heap.size w wT by rw [hT]; exact bwz)
 have zT : w.heap.size < wT.heap.size := by rw [hT]; simp
 have zTb : b < wT.heap.size := by omega
 have hTs : w.heap.size + 1 = wT.heap.size := by rw [hT]; simp
 rw [← hT, hTs]
 clear hT hTs c0 c1 c2 d0 d1 d2
 refine wp_region_held_drew (S := fun W => Below wT.heap.size wT W) (by kernel_rfl) (Below.drew (Below.alloc (Below.refl _ _) (Nat.le_refl _) _)) (fun hHeld => ?_)
 refine tkN 0 (some 5) rfl ?_; simp only [pz]
 refine tkL 1 (some 6) rfl ?_; simp only [pz]
 refine tkN 2 (some 7) rfl ?_; simp only [pz]
 refine tkN 3 (some 8) rfl ?_; simp only [pz]
 refine tkL 4 (some 9) rfl ?_; simp only [pz]
 refine tkN 6 (some 11) rfl ?_; simp only [pz]
 refine tkL 7 (some 12) rfl ?_; simp only [pz]
 refine tkN 8 (some 13) rfl ?_; simp only [pz]
 refine tkN 9 (some 14) rfl ?_; simp only [pz]
 refine tkN 10 (some 15) rfl ?_; simp only [pz]
 refine tkL 11 (some 16) rfl ?_; simp only [pz]
 refine rd1 5 (some 10) rfl (fun K hK => ?_)
 go_simp; ((go_at_call 95; (with_reducible refine (impl_pointOf _ _ _ _).mono ?_); rintro e w9 ⟨rfl, hb⟩; have hzz := hb.size; (try simp at hzz); have hn0 : ¬ w9.heap.size = wT.heap.size := (by omega); have hm0 : ¬ wT.heap.size = w9.heap.size := (by omega); have z0 : wT.heap.size < w9.heap.size := (by omega); have hxb : ¬ w9.heap.size = b := (by omega); have hyb : ¬ b = w9.heap.size := (by omega); obtain ⟨hc, hf⟩ := bcell hb))
 all_goals (try go_wp2_with fail)
 refine hK.out _ _ ?_ (fun hH2 => ?_)
 ·exact hhz
 clear hK K hHeld; (have hHeld := hH2); clear hH2; (try simp only [pz])
 refine rd1 12 (some 17) rfl (fun K hK => ?_)
 go_simp; ((go_at_call 95; (with_reducible refine (impl_pointOf _ _ _ _).mono ?_); rintro e w9 ⟨rfl, hb⟩; have hzz := hb.size; (try simp at hzz); have hn0 : ¬ w9.heap.size = wT.heap.size := (by omega); have hm0 : ¬ wT.heap.size = w9.heap.size := (by omega); have z0 : wT.heap.size < w9.heap.size := (by omega); have hxb : ¬ w9.heap.size = b := (by omega); have hyb : ¬ b = w9.heap.size := (by omega); obtain ⟨hc, hf⟩ := bcell hb))
 all_goals (try go_wp2_with fail)
 refine hK.out _ _ ?_ (fun hH2 => ?_)
 ·exact hhz
 clear hK K hHeld; (have hHeld := hH2); clear hH2; (try simp only [pz])
 refine tkN 13 (some 18) rfl ?_; simp only [pz]
 refine rd1 14 none rfl (fun K hK => ?_)
 go_simp
 all_goals (try go_wp2_with fail)
 refine hK.out _ _ ?_ (fun hH2 => ?_)
 ·exact bwz
 clear hK K hHeld; (have hHeld := hH2); clear hH2; (try simp only [pz])
 refine wpAnyH_done (by kernel_rfl) ?_ _; (try simp only [pz])
 clear we
 go_wp2
 simp [bodyPost, results, Tryz.results53, go_sem, *]
 all_goals exact HBT.out.trans (hHeld.mono (by omega))
set_option maxRecDepth 100000 in
set_option maxHeartbeats 4000000 in
theorem spec_l07Touches (nm : ByteArray) (x y sd z : Int) (b o n cap l : Nat) (T U V : Nat → Int) (w : World) (h : RowAt w (some ⟨b, o, none⟩) n 3 (v3 T U V)) (hv : isTr n T U V = true) (hl : l + 1 < n) (hp : isPt x y = true) (hz1 : 1 ≤ z) (hz2 : z ≤ 5000) :
 Calls Tryz.prog 187 #[.agg #[.string nm, .int .i64 x, .int .i64 y, .int .i64 sd, .int .i64 z], .agg #[.slice (some ⟨b, o, none⟩) n cap], .int .i64 l] w fun e w' => e = .returned (.bool (touI x y z U V l)) ∧ Below w.heap.size w w' := by
 obtain ⟨hn2, hn40, _⟩ := isTr_t hv
 obtain ⟨_, _, _, p0, p1⟩ := isTr_leg hv hl
 have hbs := World.block_lt_of_cell? _ _ (h.on3 0 (by omega)).1
 simp only at hbs
 obtain ⟨c0, c1, c2⟩ := h.on3 l (by omega)
 obtain ⟨d0, d1, d2⟩ := h.on3 (l + 1) hl
 have hj1 : (0 : Int) ≤ (l : Int) := by omega
 have hj2 : (l : Int) < (n : Int) := by omega
 have hj3 : (l : Int) + 1 < (n : Int) := by omega
 have hj4 : (0 : Int) ≤ (l : Int) + 1 := by omega
 have we : IntKind.i64.wrap ((l : Int) + 1) = (l : Int) + 1 := IntWalk.i64_in _ (by omega)
 have hZ1 : 0 ≤ z * z ∧ z * z ≤ 25000000 := ⟨Int.mul_nonneg (by omega) (by omega), Int.le_trans (Int.mul_le_mul hz2 hz2 (by omega) (by omega)) (by decide)⟩
 obtain ⟨s1, s2⟩ := pt_sm p0
 obtain ⟨s3, s4⟩ := pt_sm hp
 obtain ⟨q9, hq9⟩ : ∃ q, q = decide (sq (U l) (V l) x y ≤ z * z) := ⟨_, rfl⟩
 obtain ⟨t9, ht9⟩ : ∃ q, q = touI x y z U V l := ⟨_, rfl⟩
 have KQ := hide (fun W => spec_l01Square (U l) (V l) x y s1 s2 s3 s4 W)
 have HT := hide (fun (hh : (U l == U (l + 1) && V l == V (l + 1)) = true) => show t9 = q9 by rw [ht9, hq9, touI_eq hh])
 have KW := hide (fun (hh : (U l == U (l + 1) && V l == V (l + 1)) = false) W => (show t9 = wdB (U l) (V l) (U (l + 1)) (V (l + 1)) x y z from ht9) ▸ spec_l02Within (U l) (V l) (U (l + 1)) (V (l + 1)) x y z (isSg_of p0 p1 hh) hp (by unfold inB; exact decide_eq_true ⟨by omega, by omega⟩) W)
 rw [← ht9]
 obtain ⟨v9, hv9⟩ : ∃ v, v = sq (U l) (V l) x y := ⟨_, rfl⟩
 rw [← hv9] at KQ hq9
 have Hq9 := hide hq9.symm
 have We := hide (show IntKind.i64.wrap (z * z) = z * z from IntWalk.i64_in _ (by omega))
 clear hp p0 p1 s1 s2 s3 s4 h hv ht9 hv9 hq9 hZ1 hz1 hz2
 obtain ⟨a1, e1⟩ : ∃ a, a = U l := ⟨_, rfl⟩
 obtain ⟨a2, e2⟩ : ∃ a, a = V l := ⟨_, rfl⟩
 obtain ⟨a3, e3⟩ : ∃ a, a = U (l + 1) := ⟨_, rfl⟩
 obtain ⟨a4, e4⟩ : ∃ a, a = V (l + 1) := ⟨_, rfl⟩
 rw [← e1] at c1 KQ HT KW
 rw [← e2] at c2 KQ HT KW
 rw [← e3] at d1 HT KW
 rw [← e4] at d2 HT KW
 clear e1 e2 e3 e4
 have nbb0 : ¬ b = w.heap.size := (by omega); have ncb0 : ¬ w.heap.size = b := (by omega); have ndb0 : b < w.heap.size := (by omega); have nbb1 : ¬ b = w.heap.size + 1 := (by omega); have ncb1 : ¬ w.heap.size + 1 = b := (by omega); have ndb1 : b < w.heap.size + 1 := (by omega); have nbb2 : ¬ b = w.heap.size + 1 + 1 := (by omega); have ncb2 : ¬ w.heap.size + 1 + 1 = b := (by omega); have ndb2 : b < w.heap.size + 1 + 1 := (by omega); have nbb3 : ¬ b = w.heap.size + 1 + 1 + 1 := (by omega); have ncb3 : ¬ w.heap.size + 1 + 1 + 1 = b := (by omega); have ndb3 : b < w.heap.size + 1 + 1 + 1 := (by omega); have nbb4 : ¬ b = w.heap.size + 1 + 1 + 1 + 1 := (by omega); have ncb4 : ¬ w.heap.size + 1 + 1 + 1 + 1 = b := (by omega); have ndb4 : b < w.heap.size + 1 + 1 + 1 + 1 := (by omega)
 go_enter Tryz.func187, Tryz.ntmps187
 go_upto_region 1 with fail
 go_cut [7, 8] (fun s7 s8 W => ∃ g h : Nat, s7 = .pointer (some ⟨g, 0, none⟩) ∧ s8 = .pointer (some ⟨h, 0, none⟩) ∧ W.cell? ⟨g, 0, none⟩ = some (.int .i64 a1) ∧ W.cell? ⟨g, 1, none⟩ = some (.int .i64 a2) ∧ W.cell? ⟨h, 0, none⟩ = some (.int .i64 a3) ∧ W.cell? ⟨h, 1, none⟩ = some (.int .i64 a4) ∧ W.cell? ⟨w.heap.size, 1, none⟩ = some (.int .i64 x) ∧ W.cell? ⟨w.heap.size, 2, none⟩ = some (.int .i64 y) ∧ W.cell? ⟨w.heap.size, 4, none⟩ = some (.int .i64 z) ∧ Below w.heap.size w W ∧ w.heap.size + 1 < W.heap.size)
 case first =>
  obtain ⟨wB, hB⟩ : ∃ W, W = ((w.alloc (.cells #[.string nm, .int .i64 x, .int .i64 y, .int .i64 sd, .int .i64 z] 45)).alloc (.cells #[.slice (some ⟨b, o, none⟩) n cap] 33)) := ⟨_, rfl⟩
  have m1 : wB.cell? ⟨w.heap.size, 1, none⟩ = some (.int .i64 x) := by rw [hB]; go_simp
  have m2 : wB.cell? ⟨w.heap.size, 2, none⟩ = some (.int .i64 y) := by rw [hB]; go_simp
  have m4 : wB.cell? ⟨w.heap.size, 4, none⟩ = some (.int .i64 z) := by rw [hB]; go_simp
  have m5 : wB.cell? ⟨w.heap.size + 1, 0, none⟩ = some (.slice (some ⟨b, o, none⟩) n cap) := by rw [hB]; go_simp
  have x1 : wB.cell? ⟨b, o + l * 3, none⟩ = some (.int .i64 (T l)) := by rw [hB]; go_simp
  have x2 : wB.cell? ⟨b, o + l * 3 + 1, none⟩ = some (.int .i64 a1) := by rw [hB]; go_simp
  have x3 : wB.cell? ⟨b, o + l * 3 + 2, none⟩ = some (.int .i64 a2) := by rw [hB]; go_simp
  have x4 : wB.cell? ⟨b, o + (l + 1) * 3, none⟩ = some (.int .i64 (T (l + 1))) := by rw [hB]; go_simp
  have x5 : wB.cell? ⟨b, o + (l + 1) * 3 + 1, none⟩ = some (.int .i64 a3) := by rw [hB]; go_simp
  have x6 : wB.cell? ⟨b, o + (l + 1) * 3 + 2, none⟩ = some (.int .i64 a4) := by rw [hB]; go_simp
  have HBB := hide (show Below w.heap.size w wB by rw [hB]; exact bwz)
  have zB : w.heap.size + 1 < wB.heap.size := by rw [hB]; simp
  have zB0 : w.heap.size < wB.heap.size := by omega
  have zBb : b < wB.heap.size := by omega
  rw [← hB]
  clear hB c0 c1 c2 d0 d1 d2
  refine wp_region_held_drew (S := fun W => Below wB.heap.size wB W) (by kernel_rfl) (Below.drew (by first | with_reducible exact Below.refl _ _ | with_reducible exact below_drewN (Below.refl _ _) _)) (fun hHeld => ?_)
  refine tkN 0 (some 9) rfl ?_; simp only [pz]
  refine tkL 1 (some 10) rfl ?_; simp only [pz]
  refine tkN 2 (some 11) rfl ?_; simp only [pz]
  refine tkN 3 (some 12) rfl ?_; simp only [pz]
  refine tkL 4 (some 13) rfl ?_; simp only [pz]
  refine tkN 6 (some 15) rfl ?_; simp only [pz]
  refine tkL 7 (some 16) rfl ?_; simp only [pz]
  refine tkN 8 (some 17) rfl ?_; simp only [pz]
  refine tkN 9 (some 18) rfl ?_; simp only [pz]
  refine tkN 10 (some 19) rfl ?_; simp only [pz]
  refine tkL 11 (some 20) rfl ?_; simp only [pz]
  refine wpAnyH_inv2 (fuel := 2) [5, 12, 13, 14] [] [14, 21, 7, 8] (fun uT L W => Below wB.heap.size wB W ∧ (L 5 → (uT 14) = (.agg #[.int .i64 a1, .int .i64 a2])) ∧ (L 12 → (uT 21) = (.agg #[.int .i64 a3, .int .i64 a4])) ∧ (L 13 → FBoxB wB 2 (uT 7) W) ∧ (L 14 → FBoxB wB 2 (uT 8) W) ∧ (L 13 → L 14 → uT 7 ≠ uT 8) ∧ True) (by decide) (by kernel_rfl) (by kernel_rfl) (by intro _ _ _ _ _ h; exact h) (fun uT L W hJ => hJ.1) (fun uT L hL => ⟨hHeld, fun k => absurd k (hL 5 (by decide)), fun k => absurd k (hL 12 (by decide)), fun k => absurd k (hL 13 (by decide)), fun k => absurd k (hL 14 (by decide)), fun k _ => absurd k (hL 13 (by decide)), trivial⟩) ?_ ?_ ?_
  ·refine sc1 14 ?_ ?_
   rotate_left
   refine sc1 21 ?_ ?_
   rotate_left
   refine sc1 7 ?_ ?_
   rotate_left
   refine sc1 8 ?_ ?_
   rotate_left
   exact StepsH.nil
   ·intro uT L W hn hd hJ
    obtain ⟨hk, f14, f21, f7, f8, n7_8, _⟩ := hJ
    intro K hK
    simp only [puts, pz]
    go_simp; (first | (go_at_call 100; (with_reducible refine (spec_l03Point _ _ _ _).mono ?_); rintro e w9 ⟨rfl, hb⟩; have hzz := hb.size; (try simp at hzz); obtain ⟨hc, hf⟩ := bcell hb))
    all_goals (try go_wp2_with fail)
    all_goals
     apply Shut.go4 (W := W) hK
     ·simp only [puts, pz]; rfl
     ·exact bez
     ·intro hb; exact ⟨bstep hk hb, fun _ => upd_same _ _ _, unz f21, unz fun h => FBoxB.later hb (f7 h), unz fun h => FBoxB.later hb (f8 h), fun k k2 => by rw [upd_ne uT _ (by decide), upd_ne uT _ (by decide)]; exact n7_8 (k.resolve_left (by decide)) (k2.resolve_left (by decide)), trivial⟩
   ·intro uT L W hn hd hJ
    obtain ⟨hk, f14, f21, f7, f8, n7_8, _⟩ := hJ
    intro K hK
    simp only [puts, pz]
    go_simp; (first | (go_at_call 100; (with_reducible refine (spec_l03Point _ _ _ _).mono ?_); rintro e w9 ⟨rfl, hb⟩; have hzz := hb.size; (try simp at hzz); obtain ⟨hc, hf⟩ := bcell hb))
    all_goals (try go_wp2_with fail)
    all_goals
     apply Shut.go4 (W := W) hK
     ·simp only [puts, pz]; rfl
     ·exact bez
     ·intro hb; exact ⟨bstep hk hb, unz f14, fun _ => upd_same _ _ _, unz fun h => FBoxB.later hb (f7 h), unz fun h => FBoxB.later hb (f8 h), fun k k2 => by rw [upd_ne uT _ (by decide), upd_ne uT _ (by decide)]; exact n7_8 (k.resolve_left (by decide)) (k2.resolve_left (by decide)), trivial⟩
   ·intro uT L W hn hd hJ
    obtain ⟨hk, f14, f21, f7, f8, n7_8, _⟩ := hJ
    intro K hK
    simp only [puts, pz]
    go_simp
    all_goals (try go_wp2_with fail)
    all_goals
     apply Shut.go4 (W := W) hK
     ·simp only [puts, pz]; rfl
     ·exact bez
     ·intro hb; exact ⟨bstep hk hb, unz f14, unz f21, fun _ => by rw [upd_same]; exact FBoxB.new (Below.size hk) _ _ (by rfl), unz fun h => FBoxB.later hb (f8 h), fun _ k => by rw [upd_same, upd_ne uT _ (by decide)]; exact FBoxB.ne_new (f8 (k.resolve_left (by decide))), trivial⟩
   ·intro uT L W hn hd hJ
    obtain ⟨hk, f14, f21, f7, f8, n7_8, _⟩ := hJ
    intro K hK
    simp only [puts, pz]
    go_simp
    all_goals (try go_wp2_with fail)
    all_goals
     apply Shut.go4 (W := W) hK
     ·simp only [puts, pz]; rfl
     ·exact bez
     ·intro hb; exact ⟨bstep hk hb, unz f14, unz f21, unz fun h => FBoxB.later hb (f7 h), fun _ => by rw [upd_same]; exact FBoxB.new (Below.size hk) _ _ (by rfl), fun k _ => by rw [upd_same, upd_ne uT _ (by decide)]; exact (FBoxB.ne_new (f7 (k.resolve_left (by decide)))).symm, trivial⟩
  ·exact PuresH.nil
  ·intro uT L W hJ hL
   obtain ⟨hk, f14, f21, f7, f8, n7_8, _⟩ := hJ
   obtain e14 := f14 (hL 5 (by kernel_rfl))
   obtain e21 := f21 (hL 12 (by kernel_rfl))
   obtain ⟨b7, e7, bb7, lb7, cb7⟩ := f7 (hL 13 (by kernel_rfl))
   obtain ⟨b8, e8, bb8, lb8, cb8⟩ := f8 (hL 14 (by kernel_rfl))
   have hne := n7_8 (hL 13 (by kernel_rfl)) (hL 14 (by kernel_rfl)); rw [e7, e8] at hne; simp at hne; have hne2 := Ne.symm hne
   clear hHeld; have hcW := (bcell hk).1; have hfW := (bcell hk).2; have lW := Below.size hk; have hHeld := hk
   clear f14
   clear f21
   clear f7
   clear f8
   clear n7_8
   simp only [puts, pz, Array.replicate, e14, e21, e7, e8]
   obtain ⟨⟨y7_0, cy7_0⟩, fy7_0⟩ := cb7 0 (by decide)
   obtain ⟨⟨y7_1, cy7_1⟩, fy7_1⟩ := cb7 1 (by decide)
   obtain ⟨⟨y8_0, cy8_0⟩, fy8_0⟩ := cb8 0 (by decide)
   obtain ⟨⟨y8_1, cy8_1⟩, fy8_1⟩ := cb8 1 (by decide)
   refine rd1 15 none rfl (fun K hK => ?_)
   go_simp
   all_goals (try go_wp2_with fail)
   refine hK.out _ _ ?_ (fun hH2 => ?_)
   ·exact bwz
   clear hK K hHeld; (have hHeld := hH2); clear hH2; (try simp only [Act.put])
   refine rd1 16 none rfl (fun K hK => ?_)
   go_simp
   all_goals (try go_wp2_with fail)
   refine hK.out _ _ ?_ (fun hH2 => ?_)
   ·exact bwz
   clear hK K hHeld; (have hHeld := hH2); clear hH2; (try simp only [Act.put])
   refine wpAnyH_done (by kernel_rfl) ?_ _; (try simp only [pz])
   go_wp2_with fail
   go_meet
   exact ⟨_, _, rfl, rfl, ctz, ctz, ctz, ctz, (by go_simp; done), (by go_simp; done), (by go_simp; done), bstep HBB.out hHeld, (by have := hHeld.size; omega)⟩
 case rest =>
  obtain ⟨g, h', rfl, rfl, q1, q2, q3, q4, m1, m2, m4, rB, hsz⟩ := hcut
  have kg := World.block_lt_of_cell? _ _ q1
  have kh := World.block_lt_of_cell? _ _ q3
  simp only at kg kh
  have HB := hide rB
  clear rB we hj1 hj2 hj3 hj4 c0 c1 c2 d0 d1 d2
  have kz0 : w.heap.size < wc.heap.size := by omega
  have hcmp := cmp_pts
  rcases b2 (a1 == a3 && a2 == a4) with h1 | h1
  ·have KW2 := hide (KW.out h1)
   clear KW HT KQ We Hq9
   go_wp2_with (go_at_call 198; (with_reducible refine (KW2.out _).mono ?_); rintro e w9 ⟨rfl, hb⟩; obtain ⟨hc, hf⟩ := bcell hb; have hz := hb.size; skip)
   go_ret
   exact ⟨rfl, bstep HB.out bwz⟩
  ·have ht := HT.out h1
   subst ht
   clear KW HT
   go_upto_region 3 with fail
   have f1 := We.out
   have f2 := Hq9.out
   refine wp_region_held_drew (S := fun W => Below wc.heap.size wc W) (by kernel_rfl) (Below.drew (Below.refl _ _)) (fun hHeld => ?_)
   refine tkL 0 (some 25) rfl ?_; simp only [pz]
   refine tkN 1 (some 26) rfl ?_; simp only [pz]
   refine tkL 2 (some 27) rfl ?_; simp only [pz]
   refine tkN 4 (some 29) rfl ?_; simp only [pz]
   refine tkL 5 (some 30) rfl ?_; simp only [pz]
   refine tkN 6 (some 31) rfl ?_; simp only [pz]
   refine tkL 7 (some 32) rfl ?_; simp only [pz]
   refine tkN 8 (some 33) rfl ?_; simp only [pz]
   refine rd1 3 (some 28) rfl (fun K hK => ?_)
   go_simp; (first | (go_at_call 46; (with_reducible refine (KQ.out _).mono ?_); rintro e w9 ⟨rfl, hb⟩; have hzz := hb.size; (try simp at hzz); obtain ⟨hc, hf⟩ := bcell hb))
   all_goals (try go_wp2_with fail)
   refine hK.out _ _ ?_ (fun hH2 => ?_)
   ·exact hhz
   clear hK K hHeld; (have hHeld := hH2); clear hH2; (try simp only [pz])
   refine tkN 9 (some 34) rfl ?_; simp only [pz]
   refine tkN 10 (some 6) rfl ?_; simp only [pz]
   refine wpAnyH_done (by kernel_rfl) ?_ _; (try simp only [pz])
   go_wp2
   go_ret
   exact ⟨rfl, bstep HB.out hHeld⟩
set_option maxRecDepth 100000 in
set_option maxHeartbeats 4000000 in
theorem spec_l07Legs (nm : ByteArray) (x y sd z : Int) (b o n cap : Nat) (T U V : Nat → Int) (w : World) (h : RowAt w (some ⟨b, o, none⟩) n 3 (v3 T U V)) (hv : isTr n T U V = true) (hp : isPt x y = true) (hz1 : 1 ≤ z) (hz2 : z ≤ 5000) :
 Calls Tryz.prog 167 #[.agg #[.string nm, .int .i64 x, .int .i64 y, .int .i64 sd, .int .i64 z], .agg #[.slice (some ⟨b, o, none⟩) n cap]] w fun e w' => ∃ g cp, e = .returned (.slice (some ⟨g, 0, none⟩) (lgsZ x y z U V (n - 1)).length cp) ∧ w'.ownsRow w.heap.size 2 1 (.slice (some ⟨g, 0, none⟩) (lgsZ x y z U V (n - 1)).length cp) (lgsZ x y z U V (n - 1)).length ((lgsZ x y z U V (n - 1)).map (Value.int .i64)) ∧ Below w.heap.size w w' := by
 obtain ⟨hn2, hn40, _⟩ := isTr_t hv
 obtain ⟨i1, hi, hz0, hz1', hz2'⟩ := info_parts infoI64
 have Hi := hide hi
 have Hz := hide (And.intro hz0 (And.intro hz1' hz2'))
 clear hi hz0 hz1' hz2'
 have KT := hide (fun (l : Nat) (hl : l + 1 < n) W (hb : Below w.heap.size w W) => spec_l07Touches nm x y sd z b o n cap l T U V W (RowAt.later hb h) hv hl hp hz1 hz2)
 clear h hv hp hz1 hz2
 go_enter Tryz.func167, Tryz.ntmps167
 go_wp2
 go_loopw [5, 6] (fun v i wr => ∃ k g9 cp9 : Nat, k + 1 ≤ n ∧ i = .int .i64 k ∧ v = .slice (some ⟨g9, 0, none⟩) (lgsZ x y z U V k).length cp9 ∧ Hid (wr.ownsRow (w.heap.size + 1 + 1) 2 1 (.slice (some ⟨g9, 0, none⟩) (lgsZ x y z U V k).length cp9) (lgsZ x y z U V k).length ((lgsZ x y z U V k).map (Value.int .i64))) ∧ wr.cell? ⟨w.heap.size, 0, none⟩ = some (.string nm) ∧ wr.cell? ⟨w.heap.size, 1, none⟩ = some (.int .i64 x) ∧ wr.cell? ⟨w.heap.size, 2, none⟩ = some (.int .i64 y) ∧ wr.cell? ⟨w.heap.size, 3, none⟩ = some (.int .i64 sd) ∧ wr.cell? ⟨w.heap.size, 4, none⟩ = some (.int .i64 z) ∧ wr.cell? ⟨w.heap.size + 1, 0, none⟩ = some (.slice (some ⟨b, o, none⟩) n cap) ∧ Below w.heap.size w wr) (fun _ i _ => n - (intOf i).toNat)
 case atStart =>
  refine ⟨0, w.heap.size + 1 + 1, 0, by omega, rfl, rfl, hide ?_, by go_simp, by go_simp, by go_simp, by go_simp, by go_simp, by go_simp, bwz⟩
  have hm := World.ownsRow_made (base := w.heap.size + 1 + 1) (e := 2) (size := 1) ((w.alloc (.cells #[.string nm, .int .i64 x, .int .i64 y, .int .i64 sd, .int .i64 z] 45)).alloc (.cells #[.slice (some ⟨b, o, none⟩) n cap] 33)) #[] 0 (by simp) (by decide) rfl
  simp only [size_al] at hm
  exact hm
 case round =>
  obtain ⟨k, g9, cp9, hk, rfl, rfl, HO, e0, e1, e2, e3, e4, e5, hbl⟩ := hrel
  have hg9b := HO.out.lt g9 rfl
  have zr0 : w.heap.size < wr.heap.size := by omega
  have zr1 : w.heap.size + 1 < wr.heap.size := by omega
  have HBl := hide hbl
  by_cases hlt : k + 1 < n
  ·have we : IntKind.i64.wrap ((k : Int) + 1) = (k : Int) + 1 := IntWalk.i64_in _ (by omega)
   have hi1 : (k : Int) + 1 < (n : Int) := by omega
   have hl9 := lgsZ_len x y z U V k
   have Kk := hide (fun W (hb : Below wr.heap.size wr W) => KT.out k hlt W (bstep HBl.out hb))
   clear hbl
   rcases b2 (touI x y z U V k) with h1 | h1
   ·have Hn := hide (lgsZ_no h1)
    rw [h1] at Kk
    go_wp2_with (go_at_call 187; (with_reducible refine (Kk.out _ (Below.refl _ _)).mono ?_); rintro e w9 ⟨rfl, hb⟩)
    have a0 := cell_later hb e0
    have a1 := cell_later hb e1
    have a2 := cell_later hb e2
    have a3 := cell_later hb e3
    have a4 := cell_later hb e4
    have a5 := cell_later hb e5
    have hO9 := hide (own_later hb HO.out)
    have hB9 := bstep HBl.out hb
    clear e0 e1 e2 e3 e4 e5 hb
    go_roundw
    case rel => exact ⟨k + 1, g9, cp9, by omega, by go_num, by rw [Hn.out], by rw [Hn.out]; exact hO9, a0, a1, a2, a3, a4, a5, hB9⟩
    case measure => simp [intOf]; omega
   ·have Hn := hide (lgsZ_yes h1)
    rw [h1] at Kk
    go_upto_region 5 with fail
    go_wp2_with (first | (go_at_call 187; (with_reducible refine (Kk.out _ (Below.refl _ _)).mono ?_); rintro e wC ⟨rfl, hb⟩; have a0 := cell_later hb e0; have a1 := cell_later hb e1; have a2 := cell_later hb e2; have a3 := cell_later hb e3; have a4 := cell_later hb e4; have a5 := cell_later hb e5; have hO9 := own_later hb HO.out; have hB9 := bstep HBl.out hb; have zC := hb.size; clear e0 e1 e2 e3 e4 e5 hb) | (at_builtin; refine wpList_append_lies _ rfl _ _ 46 rfl (w.heap.size + 1 + 1) 2 i1 _ 1 8 Tryz.underlying46 Hi.out Hz.out.1 Hz.out.2.1 Hz.out.2.2 rfl (by decide) _ _ _ rfl (hO9.alloc _) ⟨wC.heap.size, 0, none⟩ 1 1 [.int .i64 k] rfl rfl new1 (one1 _) (by decide) (by unfold maxLen; omega) (by omega) (by simp; omega) (wC.heap.size + 1) (by simp) ?_))
    intro g' cap' wA hown' hgr hat hlt'
    have hbA := below_grown hO9 (by omega) hgr
    have b0 := cell_below hbA (by omega) a0
    have b1 := cell_below hbA (by omega) a1
    have b2' := cell_below hbA (by omega) a2
    have b3' := cell_below hbA (by omega) a3
    have b4' := cell_below hbA (by omega) a4
    have b5' := cell_below hbA (by omega) a5
    clear a0 a1 a2 a3 a4 a5
    go_wp2
    go_roundw
    case rel => exact ⟨k + 1, g', cap', by omega, by go_num, by rw [Hn.out, List.length_append, List.length_singleton], by rw [Hn.out, List.length_append, List.length_singleton, List.map_append]; exact hown', b0, b1, b2', b3', b4', b5', hB9.trans (hbA.mono (by omega))⟩
    case measure => simp [intOf]; omega
  ·obtain rfl : k = n - 1 := by omega
   go_wp2
   go_ret
   exact ⟨g9, cp9, rfl, HO.out.mono (by omega), hbl⟩
theorem own_nil {w : World} {B : Nat} {e : TypeId} : w.ownsRow B e 1 (.slice none 0 0) 0 [] := ⟨rfl, .inl ⟨rfl, rfl⟩⟩
/-- What LegsInZone returns. -/
def RetG (w : World) (L : List Int) (c : Int) (e : Ending) (w' : World) : Prop :=
 ∃ so cp, e = .returned (.tuple #[.slice so L.length cp, .int .i64 c]) ∧ w'.ownsRow w.heap.size 2 1 (.slice so L.length cp) L.length (L.map (Value.int .i64)) ∧ Below w.heap.size w w'
end Go.Proofs.YtgcdgdnmcdffoaaGreatDoor
