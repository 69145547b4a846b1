/- Walks: the stations of a course. -/
import Derived.Test.YthlnpcneicmblaaGreatDoorCo
import Derived.Test.YthlnpcneicmblaaGreatDoorC
import Derived.Test.YthlnpcneicmblaaGreatDoorMp
import Derived.Test.YthlnpcneicmblaaGreatDoorBs
import Derived.StillTailTactics
import Derived.Deep.DeepCutAuto
namespace Go.Proofs.YthlnpcneicmblaaGreatDoor
open Go.RowKit

/-- The start's middle and the first k marks; all stations. -/
def stL (a b : Int) (X Y : Nat → Int) (k : Nat) : List (Int × Int) := (a, b) :: (List.range k).map fun i => (X i, Y i)
def stF (a b c d : Int) (X Y : Nat → Int) (n : Nat) : List (Int × Int) := stL a b X Y n ++ [(c, d)]
theorem stL_len (a b : Int) (X Y : Nat → Int) (k : Nat) : (stL a b X Y k).length = k + 1 := by simp [stL]
theorem stF_len (a b c d : Int) (X Y : Nat → Int) (n : Nat) : (stF a b c d X Y n).length = n + 2 := by simp [stF, stL_len]
theorem stL_more (a b : Int) (X Y : Nat → Int) (k : Nat) : mcells (stL a b X Y (k + 1)) = mcells (stL a b X Y k) ++ [.int .i64 (X k), .int .i64 (Y k)] := by
 rw [show stL a b X Y (k + 1) = stL a b X Y k ++ [(X k, Y k)] by simp [stL, List.range_succ], mcells_app]
theorem stF_cells (a b c d : Int) (X Y : Nat → Int) (n : Nat) : mcells (stF a b c d X Y n) = mcells (stL a b X Y n) ++ [.int .i64 c, .int .i64 d] := by rw [stF, mcells_app]
theorem stF_at (a b c d : Int) (X Y : Nat → Int) (n i : Nat) (hi : i < n + 2) : LX (stF a b c d X Y n) i = stA a c n X i ∧ LY (stF a b c d X Y n) i = stA b d n Y i := by
 unfold LX LY stF stA
 by_cases h0 : i = 0
 ·subst h0; simp [stL]
 ·by_cases h1 : i ≤ n
  ·rw [if_neg h0, if_pos h1, if_neg h0, if_pos h1, List.getElem?_append_left (by rw [stL_len]; omega)]
   obtain ⟨j, rfl⟩ : ∃ j, i = j + 1 := ⟨i - 1, by omega⟩
   simp [stL, show j < n by omega]
  ·obtain rfl : i = n + 1 := by omega
   rw [if_neg h0, if_neg h1, if_neg h0, if_neg h1, List.getElem?_append_right (by rw [stL_len]; exact Nat.le_refl _), stL_len, Nat.sub_self]
   exact ⟨rfl, rfl⟩
theorem own_one2 {w : World} {B : Nat} {e : TypeId} (a b : Int) (hb : B ≤ w.heap.size) : (w.alloc (.cells #[.int .i64 a, .int .i64 b] e)).ownsRow B e 2 (.slice (some ⟨w.heap.size, 0, none⟩) 1 1) 1 [.int .i64 a, .int .i64 b] :=
 ⟨rfl, .inr ⟨w.heap.size, 1, #[.int .i64 a, .int .i64 b], rfl, hb, heap_alloc_new w _, Nat.le_refl _, by decide, rfl, rfl⟩⟩
theorem own_of_row2 {w : World} {B : Nat} {e : TypeId} {v : Value} {L : List (Int × Int)} (h : w.ownsRow B e 2 v L.length (mcells L)) : ∃ so cap, v = .slice so L.length cap ∧ L.length ≤ cap ∧ OwnL w B L so := by
 obtain ⟨so, cap, rfl, ho⟩ := own_of_row h
 refine ⟨so, cap, rfl, ?_, ho⟩
 obtain ⟨_, ⟨e1, h0⟩ | ⟨g, cap', cur, e1, _, _, hn, _⟩⟩ := h
 ·omega
 ·injection e1 with _ _ e3
  omega
theorem infoPt : (Tryz.prog.info? 26).map (fun i => (i.zero, i.size, i.bytes)) = some (some (.agg #[.int .i64 0, .int .i64 0]), 2, 16) := by kernel_rfl
set_option maxRecDepth 100000 in
set_option maxHeartbeats 1000000 in
theorem impl_middleOf (a b c d : Int) (h : isSg a b c d = true) (w : World) :
 Calls Tryz.prog 108 #[.agg #[.int .i64 a, .int .i64 b, .int .i64 c, .int .i64 d]] w fun e w' => e = .returned (.agg #[.int .i64 ((a + c) / 2), .int .i64 ((b + d) / 2)]) ∧ Below w.heap.size w w' := by
 obtain ⟨p, q, _⟩ := isSg_t h
 obtain ⟨a1, a2, a3, a4⟩ := isPt_t p
 obtain ⟨b1, b2, b3, b4⟩ := isPt_t q
 clear h p q
 have e1 := hide (show IntKind.i64.wrap (a + c) = a + c from IntWalk.i64_in _ (by omega))
 have e2 := hide (show IntKind.i64.wrap (b + d) = b + d from IntWalk.i64_in _ (by omega))
 have k1 : -9000000000000000000 ≤ a + c := by omega
 have k2 : a + c ≤ 9000000000000000000 := by omega
 have k3 : -9000000000000000000 ≤ b + d := by omega
 have k4 : b + d ≤ 9000000000000000000 := by omega
 go_enter Tryz.func108, Tryz.ntmps108
 go_upto_region 1 with fail
 obtain ⟨wA, hA⟩ : ∃ W, W = (w.alloc (.cells #[.int .i64 a, .int .i64 b, .int .i64 c, .int .i64 d] 28)).alloc (.cells #[.int .i64 0, .int .i64 0] 26) := ⟨_, rfl⟩
 have q0 : wA.cell? ⟨w.heap.size, 0, none⟩ = some (.int .i64 a) := by rw [hA]; go_simp
 have q1 : wA.cell? ⟨w.heap.size, 1, none⟩ = some (.int .i64 b) := by rw [hA]; go_simp
 have q2 : wA.cell? ⟨w.heap.size, 2, none⟩ = some (.int .i64 c) := by rw [hA]; go_simp
 have q3 : wA.cell? ⟨w.heap.size, 3, none⟩ = some (.int .i64 d) := by rw [hA]; go_simp
 have r0 : wA.cell? ⟨w.heap.size + 1, 0, none⟩ = some (.int .i64 0) := by rw [hA]; go_simp
 have r1 : wA.cell? ⟨w.heap.size + 1, 1, none⟩ = some (.int .i64 0) := by rw [hA]; go_simp
 have s0 : wA.frozen? ⟨w.heap.size + 1, 0, none⟩ = false := by rw [hA]; go_simp
 have s1 : wA.frozen? ⟨w.heap.size + 1, 1, none⟩ = false := by rw [hA]; go_simp
 have hBA : Below w.heap.size w wA := by rw [hA]; exact bwz
 rw [← hA]
 clear hA
 have f1 := e1.out
 have f2 := e2.out
 refine wp_region_still_tail 17 (by kernel_rfl) (by kernel_rfl) ?_
 simp only [List.take_succ_cons, List.take_zero, List.drop_succ_cons, List.drop_zero]
 repeat (first | still_step | (refine wpStill_step (fun K hK => ?_); go_simp; (with_reducible refine ⟨_, still_of (impl_floorDiv (a + c) _ k1 k2 (by decide) _), hK _ ?_⟩); clear hK K) | (refine wpStill_step (fun K hK => ?_); go_simp; (with_reducible refine ⟨_, still_of (impl_floorDiv (b + d) _ k3 k4 (by decide) _), hK _ ?_⟩); clear hK K))
 refine wpStill_nil ?_
 clear f1 f2
 change wpList _ _ _ _ _ wA.drew
 go_wp2
 simp [bodyPost, results, Tryz.results108, go_sem, *]
 exact bwz
set_option maxRecDepth 100000 in
set_option maxHeartbeats 1000000 in
theorem spec_l04Middle (a b c d : Int) (h : isSg a b c d = true) (w : World) :
 Calls Tryz.prog 32 #[.agg #[.int .i64 a, .int .i64 b, .int .i64 c, .int .i64 d]] w fun e w' => e = .returned (.agg #[.int .i64 ((a + c) / 2), .int .i64 ((b + d) / 2)]) ∧ Below w.heap.size w w' := by
 obtain ⟨p, q, _⟩ := isSg_t h
 obtain ⟨a1, a2, a3, a4⟩ := isPt_t p
 obtain ⟨b1, b2, b3, b4⟩ := isPt_t q
 clear h p q
 have e1 := hide (show IntKind.i64.wrap (a + c) = a + c from IntWalk.i64_in _ (by omega))
 have e2 := hide (show IntKind.i64.wrap (b + d) = b + d from IntWalk.i64_in _ (by omega))
 have k1 : -9000000000000000000 ≤ a + c := by omega
 have k2 : a + c ≤ 9000000000000000000 := by omega
 have k3 : -9000000000000000000 ≤ b + d := by omega
 have k4 : b + d ≤ 9000000000000000000 := by omega
 go_enter Tryz.func32, Tryz.ntmps32
 go_upto_region 1 with fail
 obtain ⟨wA, hA⟩ : ∃ W, W = (w.alloc (.cells #[.int .i64 a, .int .i64 b, .int .i64 c, .int .i64 d] 28)).alloc (.cells #[.int .i64 0, .int .i64 0] 26) := ⟨_, rfl⟩
 have q0 : wA.cell? ⟨w.heap.size, 0, none⟩ = some (.int .i64 a) := by rw [hA]; go_simp
 have q1 : wA.cell? ⟨w.heap.size, 1, none⟩ = some (.int .i64 b) := by rw [hA]; go_simp
 have q2 : wA.cell? ⟨w.heap.size, 2, none⟩ = some (.int .i64 c) := by rw [hA]; go_simp
 have q3 : wA.cell? ⟨w.heap.size, 3, none⟩ = some (.int .i64 d) := by rw [hA]; go_simp
 have r0 : wA.cell? ⟨w.heap.size + 1, 0, none⟩ = some (.int .i64 0) := by rw [hA]; go_simp
 have r1 : wA.cell? ⟨w.heap.size + 1, 1, none⟩ = some (.int .i64 0) := by rw [hA]; go_simp
 have s0 : wA.frozen? ⟨w.heap.size + 1, 0, none⟩ = false := by rw [hA]; go_simp
 have s1 : wA.frozen? ⟨w.heap.size + 1, 1, none⟩ = false := by rw [hA]; go_simp
 have hBA : Below w.heap.size w wA := by rw [hA]; exact bwz
 rw [← hA]
 clear hA
 have f1 := e1.out
 have f2 := e2.out
 refine wp_region_still_tail 17 (by kernel_rfl) (by kernel_rfl) ?_
 simp only [List.take_succ_cons, List.take_zero, List.drop_succ_cons, List.drop_zero]
 repeat (first | still_step | (refine wpStill_step (fun K hK => ?_); go_simp; (with_reducible refine ⟨_, still_of (spec_l01Floor (a + c) _ k1 k2 (by decide) _), hK _ ?_⟩); clear hK K) | (refine wpStill_step (fun K hK => ?_); go_simp; (with_reducible refine ⟨_, still_of (spec_l01Floor (b + d) _ k3 k4 (by decide) _), hK _ ?_⟩); clear hK K))
 refine wpStill_nil ?_
 clear f1 f2
 change wpList _ _ _ _ _ wA.drew
 go_wp2
 simp [bodyPost, results, Tryz.results32, go_sem, *]
 exact bwz
set_option maxRecDepth 100000 in
set_option maxHeartbeats 4000000 in
theorem impl_stationsOf (ax ay bx bY cx cy dx dy : Int) (so : Option Addr) (n cap : Nat) (N : Nat → ByteArray) (X Y S Z : Nat → Int) (w : World) (h : RowAt w so n 5 (v5 N X Y S Z)) (hn : n ≤ 8) (g1 : isSg ax ay bx bY = true) (g2 : isSg cx cy dx dy = true) :
 Calls Tryz.prog 82 #[.agg #[.int .i64 ax, .int .i64 ay, .int .i64 bx, .int .i64 bY, .int .i64 cx, .int .i64 cy, .int .i64 dx, .int .i64 dy, .slice so n cap]] w fun e w' => ∃ so' cp, e = .returned (.slice so' (stF ((ax + bx) / 2) ((ay + bY) / 2) ((cx + dx) / 2) ((cy + dy) / 2) X Y n).length cp) ∧ n + 2 ≤ cp ∧ OwnL w' w.heap.size (stF ((ax + bx) / 2) ((ay + bY) / 2) ((cx + dx) / 2) ((cy + dy) / 2) X Y n) so' ∧ Below w.heap.size w w' := by
 obtain ⟨i0, hi, hz0, hz1, hz2⟩ := info_parts infoPt
 have Hi := hide hi
 have Hz := hide (And.intro hz0 (And.intro hz1 hz2))
 clear hi hz0 hz1 hz2
 have KM := hide (fun W => impl_middleOf ax ay bx bY g1 W)
 have KN := hide (fun W => impl_middleOf cx cy dx dy g2 W)
 clear g1 g2
 generalize (ax + bx) / 2 = mx at *
 generalize (ay + bY) / 2 = my at *
 generalize (cx + dx) / 2 = px at *
 generalize (cy + dy) / 2 = py at *
 go_enter Tryz.func82, Tryz.ntmps82
 go_wp2_with fail; (with_reducible refine (KM.out _).mono ?_); rintro e w1 ⟨rfl, hb1⟩; obtain ⟨hc1, hf1⟩ := bcell hb1; have hz1 := hb1.size
 simp only [size_al] at hz1
 have z0 : w.heap.size < w1.heap.size := by omega
 have c4 : w1.cell? ⟨w.heap.size, 4, none⟩ = some (.int .i64 cx) := by rw [hc1 _ _ (by simp)]; go_simp
 have c5 : w1.cell? ⟨w.heap.size, 5, none⟩ = some (.int .i64 cy) := by rw [hc1 _ _ (by simp)]; go_simp
 have c6 : w1.cell? ⟨w.heap.size, 6, none⟩ = some (.int .i64 dx) := by rw [hc1 _ _ (by simp)]; go_simp
 have c7 : w1.cell? ⟨w.heap.size, 7, none⟩ = some (.int .i64 dy) := by rw [hc1 _ _ (by simp)]; go_simp
 have c8 : w1.cell? ⟨w.heap.size, 8, none⟩ = some (.slice so n cap) := by rw [hc1 _ _ (by simp)]; go_simp
 have HB1 := hide (show Below w.heap.size w w1 from bwz)
 have HO := hide (own_one2 (e := 26) (B := w.heap.size + 1) mx my (show w.heap.size + 1 ≤ w1.heap.size by omega))
 clear hc1 hf1 hb1
 go_wp2
 go_loopw [3, 13] (fun v i wr => ∃ k : Nat, k ≤ n ∧ i = .int .i64 k ∧ Hid (wr.ownsRow (w.heap.size + 1) 26 2 v (k + 1) (mcells (stL mx my X Y k))) ∧ wr.cell? ⟨w.heap.size, 4, none⟩ = some (.int .i64 cx) ∧ wr.cell? ⟨w.heap.size, 5, none⟩ = some (.int .i64 cy) ∧ wr.cell? ⟨w.heap.size, 6, none⟩ = some (.int .i64 dx) ∧ wr.cell? ⟨w.heap.size, 7, none⟩ = some (.int .i64 dy) ∧ Below w.heap.size w wr ∧ w.heap.size + 1 ≤ wr.heap.size) (fun _ i _ => n - (intOf i).toNat)
 case atStart => exact ⟨0, Nat.zero_le _, rfl, HO, by go_simp, by go_simp, by go_simp, by go_simp, Below.alloc HB1.out (by omega) _, by simp; omega⟩
 case round =>
  clear HO c4 c5 c6 c7 c8
  obtain ⟨k, hk, rfl, HO, c4, c5, c6, c7, hbl, hsz⟩ := hrel
  have zr : w.heap.size < wr.heap.size := by omega
  by_cases hlt : k < n
  ·obtain ⟨b, o, rfl, hbs, e0, e1, e2, e3, e4⟩ := (RowAt.later hbl h).at5 k hlt
   have hi0 : (0 : Int) ≤ (k : Int) := by omega
   have hi1 : (k : Int) < (n : Int) := by omega
   go_upto_region 5 with fail
   obtain ⟨wA, hA⟩ : ∃ W, W = wr.alloc (.cells #[.string (N k), .int .i64 (X k), .int .i64 (Y k), .int .i64 (S k), .int .i64 (Z k)] 60) := ⟨_, rfl⟩
   have HOA := hide (show wA.ownsRow (w.heap.size + 1) 26 2 _ (k + 1) (mcells (stL mx my X Y k)) by rw [hA]; exact HO.out.alloc _)
   have m1 : wA.cell? ⟨wr.heap.size, 1, none⟩ = some (.int .i64 (X k)) := by rw [hA]; go_simp
   have m2 : wA.cell? ⟨wr.heap.size, 2, none⟩ = some (.int .i64 (Y k)) := by rw [hA]; go_simp
   have a4 := hide (show wA.cell? ⟨w.heap.size, 4, none⟩ = some (.int .i64 cx) by rw [hA]; go_simp)
   have a5 := hide (show wA.cell? ⟨w.heap.size, 5, none⟩ = some (.int .i64 cy) by rw [hA]; go_simp)
   have a6 := hide (show wA.cell? ⟨w.heap.size, 6, none⟩ = some (.int .i64 dx) by rw [hA]; go_simp)
   have a7 := hide (show wA.cell? ⟨w.heap.size, 7, none⟩ = some (.int .i64 dy) by rw [hA]; go_simp)
   have HBA := hide (show Below w.heap.size w wA by rw [hA]; exact Below.alloc hbl (by omega) _)
   have szA : w.heap.size + 1 ≤ wA.heap.size := by rw [hA]; simp; omega
   rw [← hA]
   clear hA hbl HO c4 c5 c6 c7 e0 e1 e2 e3 e4
   go_wp2_with (at_builtin; refine wpList_append_own _ rfl _ _ 72 rfl (w.heap.size + 1) 26 i0 _ 2 16 Tryz.underlying72 Hi.out Hz.out.1 Hz.out.2.1 Hz.out.2.2 rfl (by decide) _ _ _ rfl (HOA.out.alloc _) ⟨wA.heap.size, 0, none⟩ 1 1 [.int .i64 (X k), .int .i64 (Y k)] rfl rfl new2 (one2 _ _) (by unfold maxLen; omega) (by omega) (by simp; omega) ?_)
   intro v' w5 hown' hgrow _
   have hgB := below_grown HOA.out szA hgrow
   have hs5 := hgB.size
   have HO5 := hide (show w5.ownsRow (w.heap.size + 1) 26 2 v' (k + 1 + 1) (mcells (stL mx my X Y (k + 1))) by rw [stL_more]; exact hown')
   clear hgrow hown'
   go_wp2
   go_roundw
   case rel => exact ⟨k + 1, by omega, by go_num, HO5, cell_below hgB (by omega) a4.out, cell_below hgB (by omega) a5.out, cell_below hgB (by omega) a6.out, cell_below hgB (by omega) a7.out, HBA.out.trans (hgB.mono (by omega)), by omega⟩
   case measure => simp [intOf]; omega
  ·obtain rfl : k = n := by omega
   go_wp2_with fail; (with_reducible refine (KN.out _).mono ?_); rintro e w6 ⟨rfl, hb6⟩
   have HO6 := hide (own_later hb6 HO.out)
   have HB6 := hide (bstep hbl hb6)
   have sz6 : w.heap.size + 1 ≤ w6.heap.size := by have := hb6.size; omega
   clear HO hbl hb6 c4 c5 c6 c7
   go_wp2_with (at_builtin; refine wpList_append_own _ rfl _ _ 72 rfl (w.heap.size + 1) 26 i0 _ 2 16 Tryz.underlying72 Hi.out Hz.out.1 Hz.out.2.1 Hz.out.2.2 rfl (by decide) _ _ _ rfl (HO6.out.alloc _) ⟨w6.heap.size, 0, none⟩ 1 1 [.int .i64 px, .int .i64 py] rfl rfl new2 (one2 _ _) (by unfold maxLen; omega) (by omega) (by simp; omega) ?_)
   intro v' w7 hown' hgrow _
   have hgB := below_grown HO6.out sz6 hgrow
   have HO7 := hide (show w7.ownsRow (w.heap.size + 1) 26 2 v' (stF mx my px py X Y k).length (mcells (stF mx my px py X Y k)) by rw [stF_cells, stF_len]; exact hown')
   clear hgrow hown'
   obtain ⟨so', cp, rfl, hcp, ho⟩ := own_of_row2 HO7.out
   rw [stF_len] at hcp
   go_wp2
   go_ret
   exact ⟨so', cp, rfl, hcp, ho.mono (by omega), HB6.out.trans (hgB.mono (by omega))⟩
set_option maxRecDepth 100000 in
set_option maxHeartbeats 4000000 in
theorem spec_l04Stations (ax ay bx bY cx cy dx dy : Int) (so : Option Addr) (n cap : Nat) (N : Nat → ByteArray) (X Y S Z : Nat → Int) (w : World) (h : RowAt w so n 5 (v5 N X Y S Z)) (hn : n ≤ 8) (g1 : isSg ax ay bx bY = true) (g2 : isSg cx cy dx dy = true) :
 Calls Tryz.prog 29 #[.agg #[.int .i64 ax, .int .i64 ay, .int .i64 bx, .int .i64 bY, .int .i64 cx, .int .i64 cy, .int .i64 dx, .int .i64 dy, .slice so n cap]] w fun e w' => ∃ so' cp, e = .returned (.slice so' (stF ((ax + bx) / 2) ((ay + bY) / 2) ((cx + dx) / 2) ((cy + dy) / 2) X Y n).length cp) ∧ n + 2 ≤ cp ∧ OwnL w' w.heap.size (stF ((ax + bx) / 2) ((ay + bY) / 2) ((cx + dx) / 2) ((cy + dy) / 2) X Y n) so' ∧ Below w.heap.size w w' := by
 obtain ⟨i0, hi, hz0, hz1, hz2⟩ := info_parts infoPt
 have Hi := hide hi
 have Hz := hide (And.intro hz0 (And.intro hz1 hz2))
 clear hi hz0 hz1 hz2
 have KM := hide (fun W => spec_l04Middle ax ay bx bY g1 W)
 have KN := hide (fun W => spec_l04Middle cx cy dx dy g2 W)
 clear g1 g2
 generalize (ax + bx) / 2 = mx at *
 generalize (ay + bY) / 2 = my at *
 generalize (cx + dx) / 2 = px at *
 generalize (cy + dy) / 2 = py at *
 go_enter Tryz.func29, Tryz.ntmps29
 go_wp2_with fail; (with_reducible refine (KM.out _).mono ?_); rintro e w1 ⟨rfl, hb1⟩; obtain ⟨hc1, hf1⟩ := bcell hb1; have hz1 := hb1.size
 simp only [size_al] at hz1
 have z0 : w.heap.size < w1.heap.size := by omega
 have c4 : w1.cell? ⟨w.heap.size, 4, none⟩ = some (.int .i64 cx) := by rw [hc1 _ _ (by simp)]; go_simp
 have c5 : w1.cell? ⟨w.heap.size, 5, none⟩ = some (.int .i64 cy) := by rw [hc1 _ _ (by simp)]; go_simp
 have c6 : w1.cell? ⟨w.heap.size, 6, none⟩ = some (.int .i64 dx) := by rw [hc1 _ _ (by simp)]; go_simp
 have c7 : w1.cell? ⟨w.heap.size, 7, none⟩ = some (.int .i64 dy) := by rw [hc1 _ _ (by simp)]; go_simp
 have c8 : w1.cell? ⟨w.heap.size, 8, none⟩ = some (.slice so n cap) := by rw [hc1 _ _ (by simp)]; go_simp
 have HB1 := hide (show Below w.heap.size w w1 from bwz)
 have HO := hide (own_one2 (e := 26) (B := w.heap.size + 1) mx my (show w.heap.size + 1 ≤ w1.heap.size by omega))
 clear hc1 hf1 hb1
 go_wp2
 go_loopw [3, 4] (fun v i wr => ∃ k : Nat, k ≤ n ∧ i = .int .i64 k ∧ Hid (wr.ownsRow (w.heap.size + 1) 26 2 v (k + 1) (mcells (stL mx my X Y k))) ∧ wr.cell? ⟨w.heap.size, 4, none⟩ = some (.int .i64 cx) ∧ wr.cell? ⟨w.heap.size, 5, none⟩ = some (.int .i64 cy) ∧ wr.cell? ⟨w.heap.size, 6, none⟩ = some (.int .i64 dx) ∧ wr.cell? ⟨w.heap.size, 7, none⟩ = some (.int .i64 dy) ∧ wr.cell? ⟨w.heap.size, 8, none⟩ = some (.slice so n cap) ∧ Below w.heap.size w wr ∧ w.heap.size + 1 ≤ wr.heap.size) (fun _ i _ => n - (intOf i).toNat)
 case atStart => exact ⟨0, Nat.zero_le _, rfl, HO, by go_simp, by go_simp, by go_simp, by go_simp, by go_simp, Below.alloc HB1.out (by omega) _, by simp; omega⟩
 case round =>
  clear HO c4 c5 c6 c7 c8
  obtain ⟨k, hk, rfl, HO, c4, c5, c6, c7, c8, hbl, hsz⟩ := hrel
  have zr : w.heap.size < wr.heap.size := by omega
  by_cases hlt : k < n
  ·obtain ⟨b, o, rfl, hbs, e0, e1, e2, e3, e4⟩ := (RowAt.later hbl h).at5 k hlt
   have hi0 : (0 : Int) ≤ (k : Int) := by omega
   have hi1 : (k : Int) < (n : Int) := by omega
   go_wp2_with (at_builtin; refine wpList_append_own _ rfl _ _ 72 rfl (w.heap.size + 1) 26 i0 _ 2 16 Tryz.underlying72 Hi.out Hz.out.1 Hz.out.2.1 Hz.out.2.2 rfl (by decide) _ _ _ rfl (HO.out.alloc _) ⟨wr.heap.size, 0, none⟩ 1 1 [.int .i64 (X k), .int .i64 (Y k)] rfl rfl new2 (one2 _ _) (by unfold maxLen; omega) (by omega) (by simp; omega) ?_)
   intro v' w5 hown' hgrow _
   have hgB := below_grown HO.out hsz hgrow
   have hs5 := hgB.size
   have HO5 := hide (show w5.ownsRow (w.heap.size + 1) 26 2 v' (k + 1 + 1) (mcells (stL mx my X Y (k + 1))) by rw [stL_more]; exact hown')
   clear hgrow hown'
   have r4 := cell_below hgB (by omega) c4
   have r5 := cell_below hgB (by omega) c5
   have r6 := cell_below hgB (by omega) c6
   have r7 := cell_below hgB (by omega) c7
   have r8 := cell_below hgB (by omega) c8
   have HB5 := hide (hbl.trans (hgB.mono (by omega)))
   clear c4 c5 c6 c7 c8 e0 e1 e2 e3 e4 hgB
   go_wp2
   go_roundw
   case rel => exact ⟨k + 1, by omega, by go_num, HO5, r4, r5, r6, r7, r8, HB5.out, by omega⟩
   case measure => simp [intOf]; omega
  ·obtain rfl : k = n := by omega
   go_wp2_with fail; (with_reducible refine (KN.out _).mono ?_); rintro e w6 ⟨rfl, hb6⟩
   have HO6 := hide (own_later hb6 HO.out)
   have HB6 := hide (bstep hbl hb6)
   have sz6 : w.heap.size + 1 ≤ w6.heap.size := by have := hb6.size; omega
   clear HO hbl hb6 c4 c5 c6 c7 c8
   go_wp2_with (at_builtin; refine wpList_append_own _ rfl _ _ 72 rfl (w.heap.size + 1) 26 i0 _ 2 16 Tryz.underlying72 Hi.out Hz.out.1 Hz.out.2.1 Hz.out.2.2 rfl (by decide) _ _ _ rfl (HO6.out.alloc _) ⟨w6.heap.size, 0, none⟩ 1 1 [.int .i64 px, .int .i64 py] rfl rfl new2 (one2 _ _) (by unfold maxLen; omega) (by omega) (by simp; omega) ?_)
   intro v' w7 hown' hgrow _
   have hgB := below_grown HO6.out sz6 hgrow
   have HO7 := hide (show w7.ownsRow (w.heap.size + 1) 26 2 v' (stF mx my px py X Y k).length (mcells (stF mx my px py X Y k)) by rw [stF_cells, stF_len]; exact hown')
   clear hgrow hown'
   obtain ⟨so', cp, rfl, hcp, ho⟩ := own_of_row2 HO7.out
   rw [stF_len] at hcp
   go_wp2
   go_ret
   exact ⟨so', cp, rfl, hcp, ho.mono (by omega), HB6.out.trans (hgB.mono (by omega))⟩
end Go.Proofs.YthlnpcneicmblaaGreatDoor
