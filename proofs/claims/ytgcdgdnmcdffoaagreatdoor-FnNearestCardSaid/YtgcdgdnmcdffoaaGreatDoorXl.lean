/- Walks: the rounding line of a mark, of both. -/
import Derived.Test.YtgcdgdnmcdffoaaGreatDoorXp
import Derived.Test.YtgcdgdnmcdffoaaGreatDoorCw
import Derived.Test.YtgcdgdnmcdffoaaGreatDoorCu
import Derived.Test.YtgcdgdnmcdffoaaGreatDoorG
namespace Go.Proofs.YtgcdgdnmcdffoaaGreatDoor
open Go.RowKit

/-- A row of pairs that the region was handed, one pair of it known; the address of a pair. -/
def FPRow (m K : Nat) (P Q : Value) (v : Value) (W : World) : Prop := ∃ b c, v = .slice (some ⟨b, 0, none⟩) m c ∧ b < W.heap.size ∧ W.cell? ⟨b, K * 2, none⟩ = some P ∧ W.cell? ⟨b, K * 2 + 1, none⟩ = some Q
theorem FPRow.later {m K : Nat} {P Q : Value} {v : Value} {W W' : World} (hb : Below W.heap.size W W') (h : FPRow m K P Q v W) : FPRow m K P Q v W' := by
 obtain ⟨b, c, e, h1, h2, h3⟩ := h
 exact ⟨b, c, e, Nat.lt_of_lt_of_le h1 hb.size, cell_later hb h2, cell_later hb h3⟩
def FPAddr (P Q : Value) (v : Value) (W : World) : Prop := ∃ b o, v = .pointer (some ⟨b, o, none⟩) ∧ b < W.heap.size ∧ W.cell? ⟨b, o, none⟩ = some P ∧ W.cell? ⟨b, o + 1, none⟩ = some Q
theorem FPAddr.later {P Q : Value} {v : Value} {W W' : World} (hb : Below W.heap.size W W') (h : FPAddr P Q v W) : FPAddr P Q v W' := by
 obtain ⟨b, o, e, h1, h2, h3⟩ := h
 exact ⟨b, o, e, Nat.lt_of_lt_of_le h1 hb.size, cell_later hb h2, cell_later hb h3⟩
theorem q_same {P : Program} {f : FuncId} {args : Array Value} {w : World} {a n : Nat} {v : Value} (h : ∀ W, Calls P f args W fun e w' => e = .returned v ∧ W = w') : Calls P f args ((w.drewN a).drewN n) fun e w'' => e = .returned v ∧ ∃ m, w'' = (w.drewN a).drewN m := (h _).mono fun _ _ ⟨he, hw⟩ => ⟨he, n, hw.symm⟩
theorem q_same2 {P : Program} {f : FuncId} {args : Array Value} {w : World} {a n : Nat} {v : Value} (h : ∀ W, Calls P f args W fun e w' => e = .returned v ∧ W = w') : Calls P f args (w.drewN (a + n)) fun e w'' => e = .returned v ∧ ∃ m, w'' = w.drewN (a + m) := (h _).mono fun _ _ ⟨he, hw⟩ => ⟨he, n, hw.symm⟩
/-- What is known of a mark and the station ahead of it. -/
theorem rl_facts (ax ay bx bY cx cy dx dy : Int) (_ : Option Addr) (n _ : Nat) (N : Nat → ByteArray) (X Y S Z : Nat → Int) {K : Nat} (hv : (isCo ax ay bx bY cx cy dx dy n N X Y S Z) = true) (hK : K < n) : isPt (stA ((ax + bx) / 2) ((cx + dx) / 2) n X K) (stA ((ay + bY) / 2) ((cy + dy) / 2) n Y K) = true ∧ isHd (X K - stA ((ax + bx) / 2) ((cx + dx) / 2) n X K) (Y K - stA ((ay + bY) / 2) ((cy + dy) / 2) n Y K) = true ∧ isMk (N K) (X K) (Y K) (S K) (Z K) = true := by
 obtain ⟨g1, g2, h1, h8, hm⟩ := isCo_t hv
 have hp : isPt (stA ((ax + bx) / 2) ((cx + dx) / 2) n X K) (stA ((ay + bY) / 2) ((cy + dy) / 2) n Y K) = true := by
  by_cases e : K = 0
  ·subst e
   have p1 := isPt_t (isSg_t g1).1
   have p2 := isPt_t (isSg_t g1).2.1
   unfold stA
   rw [if_pos rfl, if_pos rfl]
   simp [isPt, inB]; omega
  ·have := (isMk_t (hm (K - 1) (by omega))).2.1
   unfold stA
   rw [if_neg e, if_neg e, if_pos (by omega), if_pos (by omega)]
   exact this
 have hq := isPt_t (isMk_t (hm K hK)).2.1
 have hne : (stA ((ax + bx) / 2) ((cx + dx) / 2) n X K == X K && stA ((ay + bY) / 2) ((cy + dy) / 2) n Y K == Y K) = false := by
  simp only [isCo, Bool.and_eq_true] at hv
  have := apart_t hv.2 K (by omega)
  have e1 : ∀ (p q : Int) (F : Nat → Int), stA p q n F (K + 1) = F K := fun p q F => by unfold stA; rw [if_neg (by omega), if_pos (by omega)]; rfl
  rwa [e1, e1] at this
 refine ⟨hp, ?_, hm K hK⟩
 have hp2 := isPt_t hp
 generalize stA ((ax + bx) / 2) ((cx + dx) / 2) n X K = p at *
 generalize stA ((ay + bY) / 2) ((cy + dy) / 2) n Y K = q at *
 have hn2 : ¬ (p = X K ∧ q = Y K) := fun ⟨e1, e2⟩ => by rw [e1, e2] at hne; simp at hne
 simp [isHd, inB]
 omega
theorem rl_nums {u v w1 : Int} (hh : isHd u v = true) (h1 : -50000 ≤ w1) (h2 : w1 ≤ 50000) : (0 ≤ u * u ∧ u * u ≤ 4000000000000) ∧ (0 ≤ v * v ∧ v * v ≤ 4000000000000) ∧ (-100000000000 ≤ v * w1 ∧ v * w1 ≤ 100000000000) ∧ (-100000000000 ≤ u * w1 ∧ u * w1 ≤ 100000000000) ∧ (-100000000000 ≤ v * w1 / rt (u * u + v * v) ∧ v * w1 / rt (u * u + v * v) ≤ 100000000000) ∧ (-100000000000 ≤ u * w1 / rt (u * u + v * v) ∧ u * w1 / rt (u * u + v * v) ≤ 100000000000) ∧ 1 ≤ rt (u * u + v * v) ∧ rt (u * u + v * v) ≤ 3000000 := by
 obtain ⟨r1, r2⟩ := rt_hd hh
 obtain ⟨a1, a2, a3, a4, _⟩ := isHd_t hh
 have m1 := mul_bd' 2000000 2000000 4000000000000 a1 a2 a1 a2 (by decide)
 have m2 := mul_bd' 2000000 2000000 4000000000000 a3 a4 a3 a4 (by decide)
 have m3 := mul_bd' 2000000 50000 100000000000 a3 a4 h1 h2 (by decide)
 have m4 := mul_bd' 2000000 50000 100000000000 a1 a2 h1 h2 (by decide)
 exact ⟨⟨mul_self_nonneg' u, m1.2⟩, ⟨mul_self_nonneg' v, m2.2⟩, m3, m4, ediv_bd r1 (by decide) m3.1 m3.2, ediv_bd r1 (by decide) m4.1 m4.2, r1, r2⟩
theorem rl_1 (px py x y z : Int) : rlA px py x y 1 z = x ∧ rlB px py x y 1 z = y ∧ rlC px py x y 1 z = x + (y - py) * (10 * z) / rt ((x - px) * (x - px) + (y - py) * (y - py)) ∧ rlD px py x y 1 z = y - (x - px) * (10 * z) / rt ((x - px) * (x - px) + (y - py) * (y - py)) := ⟨rfl, rfl, rfl, rfl⟩
theorem rl_2 (px py x y z : Int) : rlC px py x y 2 z = x ∧ rlD px py x y 2 z = y ∧ rlA px py x y 2 z = x + (y - py) * (-(10 * z)) / rt ((x - px) * (x - px) + (y - py) * (y - py)) ∧ rlB px py x y 2 z = y - (x - px) * (-(10 * z)) / rt ((x - px) * (x - px) + (y - py) * (y - py)) := ⟨rfl, rfl, rfl, rfl⟩
theorem ln_k (ax ay bx bY cx cy dx dy : Int) (_ : Option Addr) (n _ : Nat) (_ : Nat → ByteArray) (X Y S Z : Nat → Int) {K : Nat} (hK : K < n) : lnA ax ay bx bY cx cy dx dy n X Y S Z (K + 1) = rlA (stA ((ax + bx) / 2) ((cx + dx) / 2) n X K) (stA ((ay + bY) / 2) ((cy + dy) / 2) n Y K) (X K) (Y K) (S K) (Z K) ∧ lnB ax ay bx bY cx cy dx dy n X Y S Z (K + 1) = rlB (stA ((ax + bx) / 2) ((cx + dx) / 2) n X K) (stA ((ay + bY) / 2) ((cy + dy) / 2) n Y K) (X K) (Y K) (S K) (Z K) ∧ lnC ax ay bx bY cx cy dx dy n X Y S Z (K + 1) = rlC (stA ((ax + bx) / 2) ((cx + dx) / 2) n X K) (stA ((ay + bY) / 2) ((cy + dy) / 2) n Y K) (X K) (Y K) (S K) (Z K) ∧ lnD ax ay bx bY cx cy dx dy n X Y S Z (K + 1) = rlD (stA ((ax + bx) / 2) ((cx + dx) / 2) n X K) (stA ((ay + bY) / 2) ((cy + dy) / 2) n Y K) (X K) (Y K) (S K) (Z K) := by
 unfold lnA lnB lnC lnD
 simp only [if_neg (Nat.succ_ne_zero K), if_pos (show K + 1 ≤ n by omega), Nat.add_sub_cancel]
 exact ⟨trivial, trivial, trivial, trivial⟩
theorem impl_stationsOf_at (ax ay bx bY cx cy dx dy : Int) (so : Option Addr) (n cap : Nat) (N : Nat → ByteArray) (X Y S Z : Nat → Int) (K : Nat) (w : World) (h : RowAt w so n 5 (v5 N X Y S Z)) (hn : n ≤ 8) (g1 : isSg ax ay bx bY = true) (g2 : isSg cx cy dx dy = true) (hK : K < n + 2) :
 Calls Tryz.prog 156 #[.agg #[.int .i64 ax, .int .i64 ay, .int .i64 bx, .int .i64 bY, .int .i64 cx, .int .i64 cy, .int .i64 dx, .int .i64 dy, .slice so n cap]] w fun e w' => ∃ b c, e = .returned (.slice (some ⟨b, 0, none⟩) (n + 2) c) ∧ b < w'.heap.size ∧ w'.cell? ⟨b, K * 2, none⟩ = some (.int .i64 (stA ((ax + bx) / 2) ((cx + dx) / 2) n X K)) ∧ w'.cell? ⟨b, K * 2 + 1, none⟩ = some (.int .i64 (stA ((ay + bY) / 2) ((cy + dy) / 2) n Y K)) ∧ Below w.heap.size w w' :=
 (impl_stationsOf ax ay bx bY cx cy dx dy so n cap N X Y S Z w h hn g1 g2).mono fun e w' ⟨so', cp, he, _, ⟨hr, ho⟩, hb⟩ => by
  have hl := stF_len ((ax + bx) / 2) ((ay + bY) / 2) ((cx + dx) / 2) ((cy + dy) / 2) X Y n
  obtain ⟨s1, s2⟩ := stF_at ((ax + bx) / 2) ((ay + bY) / 2) ((cx + dx) / 2) ((cy + dy) / 2) X Y n K hK
  rw [hl] at he hr ho
  obtain ⟨_, h0⟩ | ⟨g, rfl, _, hg, _⟩ := ho
  ·omega
  obtain ⟨b', o', e', k⟩ := hr K hK
  simp only [Option.some.injEq, Addr.mk.injEq] at e'
  obtain ⟨rfl, rfl, _⟩ := e'
  have c0 := k 0 (by decide)
  have c1 := k 1 (by decide)
  refine ⟨g, cp, he, hg, ?_, ?_, hb⟩
  ·rw [← s1]; simpa [v2] using c0
  ·rw [← s2]; simpa [v2] using c1
set_option maxRecDepth 100000 in
set_option maxHeartbeats 8000000 in
theorem impl_roundingLine (ax ay bx bY cx cy dx dy : Int) (so : Option Addr) (n cap : Nat) (N : Nat → ByteArray) (X Y S Z : Nat → Int) (K : Nat) (w : World) (h : RowAt w so n 5 (v5 N X Y S Z)) (hv : (isCo ax ay bx bY cx cy dx dy n N X Y S Z) = true) (hK : K < n) :
 Calls Tryz.prog 126 #[.agg #[.int .i64 ax, .int .i64 ay, .int .i64 bx, .int .i64 bY, .int .i64 cx, .int .i64 cy, .int .i64 dx, .int .i64 dy, .slice so n cap], .int .i64 (K : Int)] w fun e w' => e = .returned (.agg #[.int .i64 (lnA ax ay bx bY cx cy dx dy n X Y S Z (K + 1)), .int .i64 (lnB ax ay bx bY cx cy dx dy n X Y S Z (K + 1)), .int .i64 (lnC ax ay bx bY cx cy dx dy n X Y S Z (K + 1)), .int .i64 (lnD ax ay bx bY cx cy dx dy n X Y S Z (K + 1))]) ∧ Below w.heap.size w w' := by
 obtain ⟨l1, l2, l3, l4⟩ := ln_k ax ay bx bY cx cy dx dy so n cap N X Y S Z hK
 obtain ⟨hp, hh, hm⟩ := rl_facts ax ay bx bY cx cy dx dy so n cap N X Y S Z hv hK
 obtain ⟨g1, g2, hn1, hn8, _⟩ := isCo_t hv
 obtain ⟨_, hq, hs, hz1, hz2⟩ := isMk_t hm
 rw [l1, l2, l3, l4]
 clear l1 l2 l3 l4
 have KS := fun W (hb : Below w.heap.size w W) => impl_stationsOf_at ax ay bx bY cx cy dx dy so n cap N X Y S Z K W (RowAt.later hb h) hn8 g1 g2 (by omega)
 obtain ⟨m, hm9⟩ : ∃ m : Nat, m = n + 2 := ⟨_, rfl⟩
 rw [← hm9] at KS
 have hKm : (K : Int) < (m : Int) := by omega
 have hKn : (K : Int) < (n : Int) := by omega
 have hK0 : (0 : Int) ≤ (K : Int) := by omega
 obtain ⟨b, o, rfl, hbs, e0, e1, e2, e3, e4⟩ := h.at5 K hK
 have KS := hide KS
 clear h hv hm9 hm g1 g2
 generalize stA ((ax + bx) / 2) ((cx + dx) / 2) n X K = px at *
 generalize stA ((ay + bY) / 2) ((cy + dy) / 2) n Y K = py at *
 generalize X K = x at *
 generalize Y K = y at *
 generalize S K = sd at *
 generalize Z K = z at *
 generalize N K = nm at *
 obtain ⟨p1, p2, p3, p4⟩ := isPt_t hp
 obtain ⟨q1', q2', q3', q4'⟩ := isPt_t hq
 rcases (by omega : sd = 1 ∨ sd = 2) with rfl | rfl
 ·obtain ⟨l1, l2, l3, l4⟩ := rl_1 px py x y z
  rw [l1, l2, l3, l4]
  clear l1 l2 l3 l4
  obtain ⟨w1, hw1⟩ : ∃ v : Int, v = 10 * z := ⟨_, rfl⟩
  rw [← hw1]
  obtain ⟨u, hu⟩ : ∃ v : Int, v = x - px := ⟨_, rfl⟩
  obtain ⟨v, hv⟩ : ∃ v : Int, v = y - py := ⟨_, rfl⟩
  rw [← hu, ← hv] at hh ⊢
  obtain ⟨⟨c1, c2⟩, ⟨c3, c4⟩, ⟨c5, c6⟩, ⟨c7, c8⟩, ⟨c9, c10⟩, ⟨c11, c12⟩, c13, c14⟩ := rl_nums (w1 := w1) hh (by omega) (by omega)
  have eu : x - px = u := hu.symm
  have ev : y - py = v := hv.symm
  have ew : 10 * z = w1 := hw1.symm
  obtain ⟨r9, hr9⟩ : ∃ r : Int, r = rt (u * u + v * v) := ⟨_, rfl⟩
  rw [← hr9] at c9 c10 c11 c12 c13 c14 ⊢
  obtain ⟨q1, hq1⟩ : ∃ r : Int, r = v * w1 / r9 := ⟨_, rfl⟩
  obtain ⟨q2, hq2⟩ : ∃ r : Int, r = u * w1 / r9 := ⟨_, rfl⟩
  rw [← hq1] at c9 c10 ⊢
  rw [← hq2] at c11 c12 ⊢
  have wq1 : IntKind.i64.wrap (u * u) = u * u := IntWalk.i64_in _ (by omega)
  have wq2 : IntKind.i64.wrap (v * v) = v * v := IntWalk.i64_in _ (by omega)
  have wq3 : IntKind.i64.wrap (u * u + v * v) = u * u + v * v := IntWalk.i64_in _ (by omega)
  have wq4 : IntKind.i64.wrap (v * w1) = v * w1 := IntWalk.i64_in _ (by omega)
  have wq5 : IntKind.i64.wrap (u * w1) = u * w1 := IntWalk.i64_in _ (by omega)
  have wq6 : IntKind.i64.wrap (x + q1) = x + q1 := IntWalk.i64_in _ (by omega)
  have wq7 : IntKind.i64.wrap (y - q2) = y - q2 := IntWalk.i64_in _ (by omega)
  have WQ := hide (And.intro wq1 (And.intro wq2 (And.intro wq3 (And.intro wq4 (And.intro wq5 (And.intro wq6 wq7))))))
  have KR := hide (fun W => show Calls Tryz.prog 48 #[.int .i64 (u * u + v * v)] W fun e w' => e = .returned (.int .i64 r9) ∧ W = w' by rw [hr9]; exact impl_rootOf _ (by omega) (by omega) W)
  have KF := hide (fun W => show Calls Tryz.prog 87 #[.int .i64 (v * w1), .int .i64 r9] W fun e w' => e = .returned (.int .i64 q1) ∧ W = w' by rw [hq1]; exact impl_floorDiv _ _ (by omega) (by omega) c13 W)
  have KG := hide (fun W => show Calls Tryz.prog 87 #[.int .i64 (u * w1), .int .i64 r9] W fun e w' => e = .returned (.int .i64 q2) ∧ W = w' by rw [hq2]; exact impl_floorDiv _ _ (by omega) (by omega) c13 W)
  have Heu := hide (And.intro eu (And.intro ev ew))
  clear hu hv hw1 hr9 hq1 hq2 wq1 wq2 wq3 wq4 wq5 wq6 wq7 eu ev ew hh hp hq hs
  go_enter Tryz.func126, Tryz.ntmps126
  go_upto_region 1 with fail
  go_cut [5, 6] (fun s5 s6 W => ∃ g h : Nat, s5 = .pointer (some ⟨g, 0, none⟩) ∧ s6 = .pointer (some ⟨h, 0, none⟩) ∧ W.cell? ⟨g, 0, none⟩ = some (.int .i64 px) ∧ W.cell? ⟨g, 1, none⟩ = some (.int .i64 py) ∧ W.cell? ⟨h, 0, none⟩ = some (.string nm) ∧ W.cell? ⟨h, 1, none⟩ = some (.int .i64 x) ∧ W.cell? ⟨h, 2, none⟩ = some (.int .i64 y) ∧ W.cell? ⟨h, 3, none⟩ = some (.int .i64 1) ∧ W.cell? ⟨h, 4, none⟩ = some (.int .i64 z) ∧ Hid (Mine W (w.heap.size + 1) 4) ∧ Below w.heap.size w W ∧ w.heap.size + 1 < W.heap.size)
  case first =>
   obtain ⟨wT, hT⟩ : ∃ W, W = (w.alloc (.cells #[.int .i64 ax, .int .i64 ay, .int .i64 bx, .int .i64 bY, .int .i64 cx, .int .i64 cy, .int .i64 dx, .int .i64 dy, .slice (some ⟨b, o, none⟩) n cap] 30)).alloc (.cells #[.int .i64 0, .int .i64 0, .int .i64 0, .int .i64 0] 27) := ⟨_, rfl⟩
   have t0 : wT.cell? ⟨w.heap.size, 0, none⟩ = some (.int .i64 ax) := by rw [hT]; go_simp
   have t1 : wT.cell? ⟨w.heap.size, 1, none⟩ = some (.int .i64 ay) := by rw [hT]; go_simp
   have t2 : wT.cell? ⟨w.heap.size, 2, none⟩ = some (.int .i64 bx) := by rw [hT]; go_simp
   have t3 : wT.cell? ⟨w.heap.size, 3, none⟩ = some (.int .i64 bY) := by rw [hT]; go_simp
   have t4 : wT.cell? ⟨w.heap.size, 4, none⟩ = some (.int .i64 cx) := by rw [hT]; go_simp
   have t5 : wT.cell? ⟨w.heap.size, 5, none⟩ = some (.int .i64 cy) := by rw [hT]; go_simp
   have t6 : wT.cell? ⟨w.heap.size, 6, none⟩ = some (.int .i64 dx) := by rw [hT]; go_simp
   have t7 : wT.cell? ⟨w.heap.size, 7, none⟩ = some (.int .i64 dy) := by rw [hT]; go_simp
   have t8 : wT.cell? ⟨w.heap.size, 8, none⟩ = some (.slice (some ⟨b, o, none⟩) n cap) := by rw [hT]; go_simp
   have HMT := hide (show Mine wT (w.heap.size + 1) 4 by
    rw [hT]
    have := mine_make (w := w.alloc (.cells #[.int .i64 ax, .int .i64 ay, .int .i64 bx, .int .i64 bY, .int .i64 cx, .int .i64 cy, .int .i64 dx, .int .i64 dy, .slice (some ⟨b, o, none⟩) n cap] 30)) (c := #[.int .i64 0, .int .i64 0, .int .i64 0, .int .i64 0]) (t := 27) (m := 4) rfl
    simp only [size_al] at this
    exact this)
   have HBT := hide (show Below w.heap.size w wT by rw [hT]; exact bwz)
   have zT1 : w.heap.size + 1 < wT.heap.size := by rw [hT]; simp
   have zT0 : w.heap.size < wT.heap.size := by omega
   have zTb : b < wT.heap.size := by omega
   have k0 := cell_later HBT.out e0
   have k1 := cell_later HBT.out e1
   have k2 := cell_later HBT.out e2
   have k3 := cell_later HBT.out e3
   have k4 := cell_later HBT.out e4
   rw [← hT]
   clear hT e0 e1 e2 e3 e4
   refine wp_region_held_drew (S := fun W => Below wT.heap.size wT W) (by kernel_rfl) (Below.drew (by first | with_reducible exact Below.refl _ _ | with_reducible exact below_drewN (Below.refl _ _) _)) (fun hHeld => ?_)
   refine tkL 0 (some 12) rfl ?_; simp only [pz]
   refine tkN 2 (some 14) rfl ?_; simp only [pz]
   refine tkN 5 (some 17) rfl ?_; simp only [pz]
   refine tkL 6 (some 18) rfl ?_; simp only [pz]
   refine tkN 7 (some 19) rfl ?_; simp only [pz]
   refine tkN 8 (some 20) rfl ?_; simp only [pz]
   refine tkL 9 (some 21) rfl ?_; simp only [pz]
   refine wpAnyH_inv2 (fuel := 2) [1, 3, 4, 10, 11] [] [13, 15, 16, 5, 6] (fun uT L W => Below wT.heap.size wT W ∧ (L 1 → FPRow m K (.int .i64 px) (.int .i64 py) (uT 13) W) ∧ (L 3 → FPAddr (.int .i64 px) (.int .i64 py) (uT 15) W) ∧ (L 4 → (uT 16) = (.agg #[.int .i64 px, .int .i64 py])) ∧ (L 10 → FBoxB wT 2 (uT 5) W) ∧ (L 11 → FBoxB wT 5 (uT 6) W) ∧ (L 10 → L 11 → uT 5 ≠ uT 6) ∧ True) (by decide) (by kernel_rfl) (by kernel_rfl) (by intro _ _ _ _ _ h; exact h) (fun uT L W hJ => hJ.1) (fun uT L hL => ⟨hHeld, fun k => absurd k (hL 1 (by decide)), fun k => absurd k (hL 3 (by decide)), fun k => absurd k (hL 4 (by decide)), fun k => absurd k (hL 10 (by decide)), fun k => absurd k (hL 11 (by decide)), fun k _ => absurd k (hL 10 (by decide)), trivial⟩) ?_ ?_ ?_
   ·refine sc1 13 ?_ ?_
    rotate_left
    refine sc1 15 ?_ ?_
    rotate_left
    refine sc1 16 ?_ ?_
    rotate_left
    refine sc1 5 ?_ ?_
    rotate_left
    refine sc1 6 ?_ ?_
    rotate_left
    exact StepsH.nil
    ·intro uT L W hn hd hJ
     obtain ⟨hk, f13, f15, f16, f5, f6, n5_6, _⟩ := hJ
     intro K hK
     simp only [puts, pz]
     go_simp; (go_at_call 156; (with_reducible refine (KS.out _ (bstep HBT.out hk)).mono ?_); rintro e w9 ⟨b9, c9, rfl, hl9, hp9, hq9, hb⟩)
     all_goals (try go_wp2_with fail)
     all_goals
      apply Shut.go4 (W := W) hK
      ·simp only [puts, pz]; rfl
      ·exact bez
      ·intro hb; exact ⟨bstep hk hb, fun _ => by rw [upd_same]; exact ⟨b9, c9, rfl, hl9, hp9, hq9⟩, unz fun h => FPAddr.later hb (f15 h), unz f16, unz fun h => FBoxB.later hb (f5 h), unz fun h => FBoxB.later hb (f6 h), fun k k2 => by rw [upd_ne uT _ (by decide), upd_ne uT _ (by decide)]; exact n5_6 (k.resolve_left (by decide)) (k2.resolve_left (by decide)), trivial⟩
    ·intro uT L W hn hd hJ
     obtain ⟨hk, f13, f15, f16, f5, f6, n5_6, _⟩ := hJ
     obtain ⟨b13, c13, e13, lb13, cb13, cd13⟩ := f13 (hd 1 (by kernel_rfl))
     intro K hK
     simp only [puts, pz, e13]
     go_simp
     all_goals (try go_wp2_with fail)
     all_goals
      apply Shut.go4 (W := W) hK
      ·simp only [puts, pz, e13]; rfl
      ·exact bez
      ·intro hb; exact ⟨bstep hk hb, unz fun h => FPRow.later hb (f13 h), fun _ => by rw [upd_same]; exact ⟨_, _, rfl, lb13, (by first | exact cb13 | simpa using cb13), (by first | exact cd13 | simpa using cd13)⟩, unz f16, unz fun h => FBoxB.later hb (f5 h), unz fun h => FBoxB.later hb (f6 h), fun k k2 => by rw [upd_ne uT _ (by decide), upd_ne uT _ (by decide)]; exact n5_6 (k.resolve_left (by decide)) (k2.resolve_left (by decide)), trivial⟩
    ·intro uT L W hn hd hJ
     obtain ⟨hk, f13, f15, f16, f5, f6, n5_6, _⟩ := hJ
     obtain ⟨b15, o15, e15, lb15, cb15, cd15⟩ := f15 (hd 3 (by kernel_rfl))
     intro K hK
     simp only [puts, pz, e15]
     go_simp
     all_goals (try go_wp2_with fail)
     all_goals
      apply Shut.go4 (W := W) hK
      ·simp only [puts, pz, e15]; rfl
      ·exact bez
      ·intro hb; exact ⟨bstep hk hb, unz fun h => FPRow.later hb (f13 h), unz fun h => FPAddr.later hb (f15 h), fun _ => upd_same _ _ _, unz fun h => FBoxB.later hb (f5 h), unz fun h => FBoxB.later hb (f6 h), fun k k2 => by rw [upd_ne uT _ (by decide), upd_ne uT _ (by decide)]; exact n5_6 (k.resolve_left (by decide)) (k2.resolve_left (by decide)), trivial⟩
    ·intro uT L W hn hd hJ
     obtain ⟨hk, f13, f15, f16, f5, f6, n5_6, _⟩ := hJ
     intro K hK
     simp only [puts, pz]
     go_simp
     all_goals (try go_wp2_with fail)
     all_goals
      apply Shut.go4 (W := W) hK
      ·simp only [puts, pz]; rfl
      ·exact bez
      ·intro hb; exact ⟨bstep hk hb, unz fun h => FPRow.later hb (f13 h), unz fun h => FPAddr.later hb (f15 h), unz f16, fun _ => by rw [upd_same]; exact FBoxB.new (Below.size hk) _ _ (by rfl), unz fun h => FBoxB.later hb (f6 h), fun _ k => by rw [upd_same, upd_ne uT _ (by decide)]; exact FBoxB.ne_new (f6 (k.resolve_left (by decide))), trivial⟩
    ·intro uT L W hn hd hJ
     obtain ⟨hk, f13, f15, f16, f5, f6, n5_6, _⟩ := hJ
     intro K hK
     simp only [puts, pz]
     go_simp
     all_goals (try go_wp2_with fail)
     all_goals
      apply Shut.go4 (W := W) hK
      ·simp only [puts, pz]; rfl
      ·exact bez
      ·intro hb; exact ⟨bstep hk hb, unz fun h => FPRow.later hb (f13 h), unz fun h => FPAddr.later hb (f15 h), unz f16, unz fun h => FBoxB.later hb (f5 h), fun _ => by rw [upd_same]; exact FBoxB.new (Below.size hk) _ _ (by rfl), fun k _ => by rw [upd_same, upd_ne uT _ (by decide)]; exact (FBoxB.ne_new (f5 (k.resolve_left (by decide)))).symm, trivial⟩
   ·exact PuresH.nil
   ·intro uT L W hJ hL
    obtain ⟨hk, f13, f15, f16, f5, f6, n5_6, _⟩ := hJ
    obtain ⟨b13, c13, e13, lb13, cb13, cd13⟩ := f13 (hL 1 (by kernel_rfl))
    obtain ⟨b15, o15, e15, lb15, cb15, cd15⟩ := f15 (hL 3 (by kernel_rfl))
    obtain e16 := f16 (hL 4 (by kernel_rfl))
    obtain ⟨b5, e5, bb5, lb5, cb5⟩ := f5 (hL 10 (by kernel_rfl))
    obtain ⟨b6, e6, bb6, lb6, cb6⟩ := f6 (hL 11 (by kernel_rfl))
    have hne := n5_6 (hL 10 (by kernel_rfl)) (hL 11 (by kernel_rfl)); rw [e5, e6] at hne; simp at hne; have hne2 := Ne.symm hne
    clear hHeld; have hcW := (bcell hk).1; have hfW := (bcell hk).2; have lW := Below.size hk; have hHeld := hk
    clear f13
    clear f15
    clear f16
    clear f5
    clear f6
    clear n5_6
    simp only [puts, pz, Array.replicate, e13, e15, e16, e5, e6]
    obtain ⟨⟨y5_0, cy5_0⟩, fy5_0⟩ := cb5 0 (by decide)
    obtain ⟨⟨y5_1, cy5_1⟩, fy5_1⟩ := cb5 1 (by decide)
    obtain ⟨⟨y6_0, cy6_0⟩, fy6_0⟩ := cb6 0 (by decide)
    obtain ⟨⟨y6_1, cy6_1⟩, fy6_1⟩ := cb6 1 (by decide)
    obtain ⟨⟨y6_2, cy6_2⟩, fy6_2⟩ := cb6 2 (by decide)
    obtain ⟨⟨y6_3, cy6_3⟩, fy6_3⟩ := cb6 3 (by decide)
    obtain ⟨⟨y6_4, cy6_4⟩, fy6_4⟩ := cb6 4 (by decide)
    refine rd1 12 none rfl (fun K hK => ?_)
    go_simp
    all_goals (try go_wp2_with fail)
    refine hK.out _ _ ?_ (fun hH2 => ?_)
    ·exact bwz
    clear hK K hHeld; (have hHeld := hH2); clear hH2; (try simp only [Act.put])
    refine rd1 13 none rfl (fun K hK => ?_)
    go_simp
    all_goals (try go_wp2_with fail)
    refine hK.out _ _ ?_ (fun hH2 => ?_)
    ·exact bwz
    clear hK K hHeld; (have hHeld := hH2); clear hH2; (try simp only [Act.put])
    refine wpAnyH_done (by kernel_rfl) ?_ _; (try simp only [pz])
    go_wp2_with fail
    go_meet
    exact ⟨_, _, rfl, rfl, ctz, ctz, ctz, ctz, ctz, ctz, ctz, hide (Mine.later hHeld HMT.out), bstep HBT.out hHeld, (by have := hHeld.size; omega)⟩
  case rest =>
   obtain ⟨eu, ev, ew⟩ := Heu.out
   obtain ⟨wq1, wq2, wq3, wq4, wq5, wq6, wq7⟩ := WQ.out
   obtain ⟨g, h, rfl, rfl, d0, d1, m0, m1, m2, m3, m4, HM, kB, kz⟩ := hcut
   have kg : g < wc.heap.size := World.block_lt_of_cell? _ _ d0
   have kh : h < wc.heap.size := World.block_lt_of_cell? _ _ m0
   clear Heu WQ KS e0 e1 e2 e3 e4
   go_upto_region 2 with fail
   go_quiet (fail)
   go_upto_region 3 with fail
   go_quiet ((go_at_call 48; first | exact q_same KR.out | exact q_same2 KR.out))
   go_upto_region 6 with fail
   go_cut [11] (fun s W => ∃ g2 : Nat, s = .pointer (some ⟨g2, 0, none⟩) ∧ W.cell? ⟨g2, 0, none⟩ = some (.int .i64 (x + q1)) ∧ W.cell? ⟨g2, 1, none⟩ = some (.int .i64 (y - q2)) ∧ W.cell? ⟨h, 0, none⟩ = some (.string nm) ∧ W.cell? ⟨h, 1, none⟩ = some (.int .i64 x) ∧ W.cell? ⟨h, 2, none⟩ = some (.int .i64 y) ∧ W.cell? ⟨h, 3, none⟩ = some (.int .i64 1) ∧ W.cell? ⟨h, 4, none⟩ = some (.int .i64 z) ∧ Hid (Mine W (w.heap.size + 1) 4) ∧ Below w.heap.size w W ∧ w.heap.size + 1 < W.heap.size)
   case first =>
    obtain ⟨wX, rfl⟩ : ∃ W : World, W = wc := ⟨_, rfl⟩
    refine wp_region_held_drew (S := fun W => Below wX.heap.size wX W) (by kernel_rfl) (Below.drew (by first | with_reducible exact Below.refl _ _ | with_reducible exact below_drewN (Below.refl _ _) _)) (fun hHeld => ?_)
    refine tkN 0 (some 50) rfl ?_; simp only [pz]
    refine tkN 1 (some 51) rfl ?_; simp only [pz]
    refine tkL 2 (some 52) rfl ?_; simp only [pz]
    refine tkN 3 (some 53) rfl ?_; simp only [pz]
    refine tkN 4 (some 54) rfl ?_; simp only [pz]
    refine tkN 5 (some 55) rfl ?_; simp only [pz]
    refine tkN 6 (some 56) rfl ?_; simp only [pz]
    refine tkN 9 (some 59) rfl ?_; simp only [pz]
    refine tkN 10 (some 60) rfl ?_; simp only [pz]
    refine tkL 11 (some 61) rfl ?_; simp only [pz]
    refine tkN 12 (some 62) rfl ?_; simp only [pz]
    refine tkN 13 (some 63) rfl ?_; simp only [pz]
    refine tkN 14 (some 64) rfl ?_; simp only [pz]
    refine tkN 15 (some 65) rfl ?_; simp only [pz]
    refine wpAnyH_inv2 (fuel := 1) [7, 8, 16, 17, 18, 19] [] [57, 58, 66, 67, 68, 11] (fun uT L W => Below wX.heap.size wX W ∧ (L 7 → (uT 57) = (.int .i64 q1)) ∧ (L 8 → (uT 58) = (.int .i64 (x + q1))) ∧ (L 16 → (uT 66) = (.int .i64 q2)) ∧ (L 17 → (uT 67) = (.int .i64 (y - q2))) ∧ (L 18 → (uT 68) = (.agg #[.int .i64 (x + q1), .int .i64 (y - q2)])) ∧ (L 19 → FBoxB wX 2 (uT 11) W) ∧ True) (by decide) (by kernel_rfl) (by kernel_rfl) (by intro _ _ _ _ _ h; exact h) (fun uT L W hJ => hJ.1) (fun uT L hL => ⟨hHeld, fun k => absurd k (hL 7 (by decide)), fun k => absurd k (hL 8 (by decide)), fun k => absurd k (hL 16 (by decide)), fun k => absurd k (hL 17 (by decide)), fun k => absurd k (hL 18 (by decide)), fun k => absurd k (hL 19 (by decide)), trivial⟩) ?_ ?_ ?_
    ·refine sc1 57 ?_ ?_
     rotate_left
     refine sc1 58 ?_ ?_
     rotate_left
     refine sc1 66 ?_ ?_
     rotate_left
     refine sc1 67 ?_ ?_
     rotate_left
     refine sc1 68 ?_ ?_
     rotate_left
     refine sc1 11 ?_ ?_
     rotate_left
     exact StepsH.nil
     ·intro uT L W hn hd hJ
      obtain ⟨hk, f57, f58, f66, f67, f68, f11, _⟩ := hJ
      intro K hK
      simp only [puts, pz]
      go_simp; (first | (go_at_call 87; (with_reducible refine (KF.out _).mono ?_); rintro e w9 ⟨rfl, rfl⟩) | (go_at_call 87; (with_reducible refine (KG.out _).mono ?_); rintro e w9 ⟨rfl, rfl⟩))
      all_goals (try go_wp2_with fail)
      all_goals
       apply Shut.go4 (W := W) hK
       ·simp only [puts, pz]; rfl
       ·exact bez
       ·intro hb; exact ⟨bstep hk hb, fun _ => upd_same _ _ _, unz f58, unz f66, unz f67, unz f68, unz fun h => FBoxB.later hb (f11 h), trivial⟩
     ·intro uT L W hn hd hJ
      obtain ⟨hk, f57, f58, f66, f67, f68, f11, _⟩ := hJ
      obtain e57 := f57 (hd 7 (by kernel_rfl))
      intro K hK
      simp only [puts, pz, e57]
      go_simp
      all_goals (try go_wp2_with fail)
      all_goals
       apply Shut.go4 (W := W) hK
       ·simp only [puts, pz, e57]; rfl
       ·exact bez
       ·intro hb; exact ⟨bstep hk hb, unz f57, fun _ => upd_same _ _ _, unz f66, unz f67, unz f68, unz fun h => FBoxB.later hb (f11 h), trivial⟩
     ·intro uT L W hn hd hJ
      obtain ⟨hk, f57, f58, f66, f67, f68, f11, _⟩ := hJ
      intro K hK
      simp only [puts, pz]
      go_simp; (first | (go_at_call 87; (with_reducible refine (KF.out _).mono ?_); rintro e w9 ⟨rfl, rfl⟩) | (go_at_call 87; (with_reducible refine (KG.out _).mono ?_); rintro e w9 ⟨rfl, rfl⟩))
      all_goals (try go_wp2_with fail)
      all_goals
       apply Shut.go4 (W := W) hK
       ·simp only [puts, pz]; rfl
       ·exact bez
       ·intro hb; exact ⟨bstep hk hb, unz f57, unz f58, fun _ => upd_same _ _ _, unz f67, unz f68, unz fun h => FBoxB.later hb (f11 h), trivial⟩
     ·intro uT L W hn hd hJ
      obtain ⟨hk, f57, f58, f66, f67, f68, f11, _⟩ := hJ
      obtain e66 := f66 (hd 16 (by kernel_rfl))
      intro K hK
      simp only [puts, pz, e66]
      go_simp
      all_goals (try go_wp2_with fail)
      all_goals
       apply Shut.go4 (W := W) hK
       ·simp only [puts, pz, e66]; rfl
       ·exact bez
       ·intro hb; exact ⟨bstep hk hb, unz f57, unz f58, unz f66, fun _ => upd_same _ _ _, unz f68, unz fun h => FBoxB.later hb (f11 h), trivial⟩
     ·intro uT L W hn hd hJ
      obtain ⟨hk, f57, f58, f66, f67, f68, f11, _⟩ := hJ
      obtain e58 := f58 (hd 8 (by kernel_rfl))
      obtain e67 := f67 (hd 17 (by kernel_rfl))
      intro K hK
      simp only [puts, pz, e58, e67]
      go_simp
      all_goals (try go_wp2_with fail)
      all_goals
       apply Shut.go4 (W := W) hK
       ·simp only [puts, pz, e58, e67]; rfl
       ·exact bez
       ·intro hb; exact ⟨bstep hk hb, unz f57, unz f58, unz f66, unz f67, fun _ => upd_same _ _ _, unz fun h => FBoxB.later hb (f11 h), trivial⟩
     ·intro uT L W hn hd hJ
      obtain ⟨hk, f57, f58, f66, f67, f68, f11, _⟩ := hJ
      intro K hK
      simp only [puts, pz]
      go_simp
      all_goals (try go_wp2_with fail)
      all_goals
       apply Shut.go4 (W := W) hK
       ·simp only [puts, pz]; rfl
       ·exact bez
       ·intro hb; exact ⟨bstep hk hb, unz f57, unz f58, unz f66, unz f67, unz f68, fun _ => by rw [upd_same]; exact FBoxB.new (Below.size hk) _ _ (by rfl), trivial⟩
    ·exact PuresH.nil
    ·intro uT L W hJ hL
     obtain ⟨hk, f57, f58, f66, f67, f68, f11, _⟩ := hJ
     obtain e57 := f57 (hL 7 (by kernel_rfl))
     obtain e58 := f58 (hL 8 (by kernel_rfl))
     obtain e66 := f66 (hL 16 (by kernel_rfl))
     obtain e67 := f67 (hL 17 (by kernel_rfl))
     obtain e68 := f68 (hL 18 (by kernel_rfl))
     obtain ⟨b11, e11, bb11, lb11, cb11⟩ := f11 (hL 19 (by kernel_rfl))
     clear hHeld; have hcW := (bcell hk).1; have hfW := (bcell hk).2; have lW := Below.size hk; have hHeld := hk
     clear f57
     clear f58
     clear f66
     clear f67
     clear f68
     clear f11
     simp only [puts, pz, Array.replicate, e57, e58, e66, e67, e68, e11]
     obtain ⟨⟨y11_0, cy11_0⟩, fy11_0⟩ := cb11 0 (by decide)
     obtain ⟨⟨y11_1, cy11_1⟩, fy11_1⟩ := cb11 1 (by decide)
     refine rd1 20 none rfl (fun K hK => ?_)
     go_simp
     all_goals (try go_wp2_with fail)
     refine hK.out _ _ ?_ (fun hH2 => ?_)
     ·exact bwz
     clear hK K hHeld; (have hHeld := hH2); clear hH2; (try simp only [Act.put])
     refine wpAnyH_done (by kernel_rfl) ?_ _; (try simp only [pz])
     go_wp2_with fail
     go_meet
     exact ⟨_, rfl, ctz, ctz, (by go_simp; done), (by go_simp; done), (by go_simp; done), (by go_simp; done), (by go_simp; done), hide (Mine.later hHeld HM.out), bstep kB hHeld, (by have := hHeld.size; omega)⟩
   case rest =>
    obtain ⟨g2, rfl, f0, f1, m0, m1, m2, m3, m4, HM3, kB3, kz3⟩ := hcut
    clear eu ev ew wq1 wq2 wq3 wq4 wq5 wq6 wq7 KF KG KR kB HM d0 d1
    have kg3 : g2 < wc.heap.size := World.block_lt_of_cell? _ _ f0
    have kh3 : h < wc.heap.size := World.block_lt_of_cell? _ _ m0
    obtain ⟨⟨x0, z0⟩, y0⟩ := HM3.out 0 (by decide)
    obtain ⟨⟨x1, z1⟩, y1⟩ := HM3.out 1 (by decide)
    obtain ⟨⟨x2, z2⟩, y2⟩ := HM3.out 2 (by decide)
    obtain ⟨⟨x3, z3⟩, y3⟩ := HM3.out 3 (by decide)
    go_wp2
    simp [bodyPost, results, Tryz.results126, go_sem, *]
    all_goals exact bwz
 ·obtain ⟨l1, l2, l3, l4⟩ := rl_2 px py x y z
  rw [l1, l2, l3, l4]
  clear l1 l2 l3 l4
  obtain ⟨w1, hw1⟩ : ∃ v : Int, v = -(10 * z) := ⟨_, rfl⟩
  rw [← hw1]
  obtain ⟨u, hu⟩ : ∃ v : Int, v = x - px := ⟨_, rfl⟩
  obtain ⟨v, hv⟩ : ∃ v : Int, v = y - py := ⟨_, rfl⟩
  rw [← hu, ← hv] at hh ⊢
  obtain ⟨⟨c1, c2⟩, ⟨c3, c4⟩, ⟨c5, c6⟩, ⟨c7, c8⟩, ⟨c9, c10⟩, ⟨c11, c12⟩, c13, c14⟩ := rl_nums (w1 := w1) hh (by omega) (by omega)
  have eu : x - px = u := hu.symm
  have ev : y - py = v := hv.symm
  have ew : -(10 * z) = w1 := hw1.symm
  obtain ⟨r9, hr9⟩ : ∃ r : Int, r = rt (u * u + v * v) := ⟨_, rfl⟩
  rw [← hr9] at c9 c10 c11 c12 c13 c14 ⊢
  obtain ⟨q1, hq1⟩ : ∃ r : Int, r = v * w1 / r9 := ⟨_, rfl⟩
  obtain ⟨q2, hq2⟩ : ∃ r : Int, r = u * w1 / r9 := ⟨_, rfl⟩
  rw [← hq1] at c9 c10 ⊢
  rw [← hq2] at c11 c12 ⊢
  have wq1 : IntKind.i64.wrap (u * u) = u * u := IntWalk.i64_in _ (by omega)
  have wq2 : IntKind.i64.wrap (v * v) = v * v := IntWalk.i64_in _ (by omega)
  have wq3 : IntKind.i64.wrap (u * u + v * v) = u * u + v * v := IntWalk.i64_in _ (by omega)
  have wq4 : IntKind.i64.wrap (v * w1) = v * w1 := IntWalk.i64_in _ (by omega)
  have wq5 : IntKind.i64.wrap (u * w1) = u * w1 := IntWalk.i64_in _ (by omega)
  have wq6 : IntKind.i64.wrap (x + q1) = x + q1 := IntWalk.i64_in _ (by omega)
  have wq7 : IntKind.i64.wrap (y - q2) = y - q2 := IntWalk.i64_in _ (by omega)
  have WQ := hide (And.intro wq1 (And.intro wq2 (And.intro wq3 (And.intro wq4 (And.intro wq5 (And.intro wq6 wq7))))))
  have KR := hide (fun W => show Calls Tryz.prog 48 #[.int .i64 (u * u + v * v)] W fun e w' => e = .returned (.int .i64 r9) ∧ W = w' by rw [hr9]; exact impl_rootOf _ (by omega) (by omega) W)
  have KF := hide (fun W => show Calls Tryz.prog 87 #[.int .i64 (v * w1), .int .i64 r9] W fun e w' => e = .returned (.int .i64 q1) ∧ W = w' by rw [hq1]; exact impl_floorDiv _ _ (by omega) (by omega) c13 W)
  have KG := hide (fun W => show Calls Tryz.prog 87 #[.int .i64 (u * w1), .int .i64 r9] W fun e w' => e = .returned (.int .i64 q2) ∧ W = w' by rw [hq2]; exact impl_floorDiv _ _ (by omega) (by omega) c13 W)
  have Heu := hide (And.intro eu (And.intro ev ew))
  clear hu hv hw1 hr9 hq1 hq2 wq1 wq2 wq3 wq4 wq5 wq6 wq7 eu ev ew hh hp hq hs
  go_enter Tryz.func126, Tryz.ntmps126
  go_upto_region 1 with fail
  go_cut [5, 6] (fun s5 s6 W => ∃ g h : Nat, s5 = .pointer (some ⟨g, 0, none⟩) ∧ s6 = .pointer (some ⟨h, 0, none⟩) ∧ W.cell? ⟨g, 0, none⟩ = some (.int .i64 px) ∧ W.cell? ⟨g, 1, none⟩ = some (.int .i64 py) ∧ W.cell? ⟨h, 0, none⟩ = some (.string nm) ∧ W.cell? ⟨h, 1, none⟩ = some (.int .i64 x) ∧ W.cell? ⟨h, 2, none⟩ = some (.int .i64 y) ∧ W.cell? ⟨h, 3, none⟩ = some (.int .i64 2) ∧ W.cell? ⟨h, 4, none⟩ = some (.int .i64 z) ∧ Hid (Mine W (w.heap.size + 1) 4) ∧ Below w.heap.size w W ∧ w.heap.size + 1 < W.heap.size)
  case first =>
   obtain ⟨wT, hT⟩ : ∃ W, W = (w.alloc (.cells #[.int .i64 ax, .int .i64 ay, .int .i64 bx, .int .i64 bY, .int .i64 cx, .int .i64 cy, .int .i64 dx, .int .i64 dy, .slice (some ⟨b, o, none⟩) n cap] 30)).alloc (.cells #[.int .i64 0, .int .i64 0, .int .i64 0, .int .i64 0] 27) := ⟨_, rfl⟩
   have t0 : wT.cell? ⟨w.heap.size, 0, none⟩ = some (.int .i64 ax) := by rw [hT]; go_simp
   have t1 : wT.cell? ⟨w.heap.size, 1, none⟩ = some (.int .i64 ay) := by rw [hT]; go_simp
   have t2 : wT.cell? ⟨w.heap.size, 2, none⟩ = some (.int .i64 bx) := by rw [hT]; go_simp
   have t3 : wT.cell? ⟨w.heap.size, 3, none⟩ = some (.int .i64 bY) := by rw [hT]; go_simp
   have t4 : wT.cell? ⟨w.heap.size, 4, none⟩ = some (.int .i64 cx) := by rw [hT]; go_simp
   have t5 : wT.cell? ⟨w.heap.size, 5, none⟩ = some (.int .i64 cy) := by rw [hT]; go_simp
   have t6 : wT.cell? ⟨w.heap.size, 6, none⟩ = some (.int .i64 dx) := by rw [hT]; go_simp
   have t7 : wT.cell? ⟨w.heap.size, 7, none⟩ = some (.int .i64 dy) := by rw [hT]; go_simp
   have t8 : wT.cell? ⟨w.heap.size, 8, none⟩ = some (.slice (some ⟨b, o, none⟩) n cap) := by rw [hT]; go_simp
   have HMT := hide (show Mine wT (w.heap.size + 1) 4 by
    rw [hT]
    have := mine_make (w := w.alloc (.cells #[.int .i64 ax, .int .i64 ay, .int .i64 bx, .int .i64 bY, .int .i64 cx, .int .i64 cy, .int .i64 dx, .int .i64 dy, .slice (some ⟨b, o, none⟩) n cap] 30)) (c := #[.int .i64 0, .int .i64 0, .int .i64 0, .int .i64 0]) (t := 27) (m := 4) rfl
    simp only [size_al] at this
    exact this)
   have HBT := hide (show Below w.heap.size w wT by rw [hT]; exact bwz)
   have zT1 : w.heap.size + 1 < wT.heap.size := by rw [hT]; simp
   have zT0 : w.heap.size < wT.heap.size := by omega
   have zTb : b < wT.heap.size := by omega
   have k0 := cell_later HBT.out e0
   have k1 := cell_later HBT.out e1
   have k2 := cell_later HBT.out e2
   have k3 := cell_later HBT.out e3
   have k4 := cell_later HBT.out e4
   rw [← hT]
   clear hT e0 e1 e2 e3 e4
   refine wp_region_held_drew (S := fun W => Below wT.heap.size wT W) (by kernel_rfl) (Below.drew (by first | with_reducible exact Below.refl _ _ | with_reducible exact below_drewN (Below.refl _ _) _)) (fun hHeld => ?_)
   refine tkL 0 (some 12) rfl ?_; simp only [pz]
   refine tkN 2 (some 14) rfl ?_; simp only [pz]
   refine tkN 5 (some 17) rfl ?_; simp only [pz]
   refine tkL 6 (some 18) rfl ?_; simp only [pz]
   refine tkN 7 (some 19) rfl ?_; simp only [pz]
   refine tkN 8 (some 20) rfl ?_; simp only [pz]
   refine tkL 9 (some 21) rfl ?_; simp only [pz]
   refine wpAnyH_inv2 (fuel := 2) [1, 3, 4, 10, 11] [] [13, 15, 16, 5, 6] (fun uT L W => Below wT.heap.size wT W ∧ (L 1 → FPRow m K (.int .i64 px) (.int .i64 py) (uT 13) W) ∧ (L 3 → FPAddr (.int .i64 px) (.int .i64 py) (uT 15) W) ∧ (L 4 → (uT 16) = (.agg #[.int .i64 px, .int .i64 py])) ∧ (L 10 → FBoxB wT 2 (uT 5) W) ∧ (L 11 → FBoxB wT 5 (uT 6) W) ∧ (L 10 → L 11 → uT 5 ≠ uT 6) ∧ True) (by decide) (by kernel_rfl) (by kernel_rfl) (by intro _ _ _ _ _ h; exact h) (fun uT L W hJ => hJ.1) (fun uT L hL => ⟨hHeld, fun k => absurd k (hL 1 (by decide)), fun k => absurd k (hL 3 (by decide)), fun k => absurd k (hL 4 (by decide)), fun k => absurd k (hL 10 (by decide)), fun k => absurd k (hL 11 (by decide)), fun k _ => absurd k (hL 10 (by decide)), trivial⟩) ?_ ?_ ?_
   ·refine sc1 13 ?_ ?_
    rotate_left
    refine sc1 15 ?_ ?_
    rotate_left
    refine sc1 16 ?_ ?_
    rotate_left
    refine sc1 5 ?_ ?_
    rotate_left
    refine sc1 6 ?_ ?_
    rotate_left
    exact StepsH.nil
    ·intro uT L W hn hd hJ
     obtain ⟨hk, f13, f15, f16, f5, f6, n5_6, _⟩ := hJ
     intro K hK
     simp only [puts, pz]
     go_simp; (go_at_call 156; (with_reducible refine (KS.out _ (bstep HBT.out hk)).mono ?_); rintro e w9 ⟨b9, c9, rfl, hl9, hp9, hq9, hb⟩)
     all_goals (try go_wp2_with fail)
     all_goals
      apply Shut.go4 (W := W) hK
      ·simp only [puts, pz]; rfl
      ·exact bez
      ·intro hb; exact ⟨bstep hk hb, fun _ => by rw [upd_same]; exact ⟨b9, c9, rfl, hl9, hp9, hq9⟩, unz fun h => FPAddr.later hb (f15 h), unz f16, unz fun h => FBoxB.later hb (f5 h), unz fun h => FBoxB.later hb (f6 h), fun k k2 => by rw [upd_ne uT _ (by decide), upd_ne uT _ (by decide)]; exact n5_6 (k.resolve_left (by decide)) (k2.resolve_left (by decide)), trivial⟩
    ·intro uT L W hn hd hJ
     obtain ⟨hk, f13, f15, f16, f5, f6, n5_6, _⟩ := hJ
     obtain ⟨b13, c13, e13, lb13, cb13, cd13⟩ := f13 (hd 1 (by kernel_rfl))
     intro K hK
     simp only [puts, pz, e13]
     go_simp
     all_goals (try go_wp2_with fail)
     all_goals
      apply Shut.go4 (W := W) hK
      ·simp only [puts, pz, e13]; rfl
      ·exact bez
      ·intro hb; exact ⟨bstep hk hb, unz fun h => FPRow.later hb (f13 h), fun _ => by rw [upd_same]; exact ⟨_, _, rfl, lb13, (by first | exact cb13 | simpa using cb13), (by first | exact cd13 | simpa using cd13)⟩, unz f16, unz fun h => FBoxB.later hb (f5 h), unz fun h => FBoxB.later hb (f6 h), fun k k2 => by rw [upd_ne uT _ (by decide), upd_ne uT _ (by decide)]; exact n5_6 (k.resolve_left (by decide)) (k2.resolve_left (by decide)), trivial⟩
    ·intro uT L W hn hd hJ
     obtain ⟨hk, f13, f15, f16, f5, f6, n5_6, _⟩ := hJ
     obtain ⟨b15, o15, e15, lb15, cb15, cd15⟩ := f15 (hd 3 (by kernel_rfl))
     intro K hK
     simp only [puts, pz, e15]
     go_simp
     all_goals (try go_wp2_with fail)
     all_goals
      apply Shut.go4 (W := W) hK
      ·simp only [puts, pz, e15]; rfl
      ·exact bez
      ·intro hb; exact ⟨bstep hk hb, unz fun h => FPRow.later hb (f13 h), unz fun h => FPAddr.later hb (f15 h), fun _ => upd_same _ _ _, unz fun h => FBoxB.later hb (f5 h), unz fun h => FBoxB.later hb (f6 h), fun k k2 => by rw [upd_ne uT _ (by decide), upd_ne uT _ (by decide)]; exact n5_6 (k.resolve_left (by decide)) (k2.resolve_left (by decide)), trivial⟩
    ·intro uT L W hn hd hJ
     obtain ⟨hk, f13, f15, f16, f5, f6, n5_6, _⟩ := hJ
     intro K hK
     simp only [puts, pz]
     go_simp
     all_goals (try go_wp2_with fail)
     all_goals
      apply Shut.go4 (W := W) hK
      ·simp only [puts, pz]; rfl
      ·exact bez
      ·intro hb; exact ⟨bstep hk hb, unz fun h => FPRow.later hb (f13 h), unz fun h => FPAddr.later hb (f15 h), unz f16, fun _ => by rw [upd_same]; exact FBoxB.new (Below.size hk) _ _ (by rfl), unz fun h => FBoxB.later hb (f6 h), fun _ k => by rw [upd_same, upd_ne uT _ (by decide)]; exact FBoxB.ne_new (f6 (k.resolve_left (by decide))), trivial⟩
    ·intro uT L W hn hd hJ
     obtain ⟨hk, f13, f15, f16, f5, f6, n5_6, _⟩ := hJ
     intro K hK
     simp only [puts, pz]
     go_simp
     all_goals (try go_wp2_with fail)
     all_goals
      apply Shut.go4 (W := W) hK
      ·simp only [puts, pz]; rfl
      ·exact bez
      ·intro hb; exact ⟨bstep hk hb, unz fun h => FPRow.later hb (f13 h), unz fun h => FPAddr.later hb (f15 h), unz f16, unz fun h => FBoxB.later hb (f5 h), fun _ => by rw [upd_same]; exact FBoxB.new (Below.size hk) _ _ (by rfl), fun k _ => by rw [upd_same, upd_ne uT _ (by decide)]; exact (FBoxB.ne_new (f5 (k.resolve_left (by decide)))).symm, trivial⟩
   ·exact PuresH.nil
   ·intro uT L W hJ hL
    obtain ⟨hk, f13, f15, f16, f5, f6, n5_6, _⟩ := hJ
    obtain ⟨b13, c13, e13, lb13, cb13, cd13⟩ := f13 (hL 1 (by kernel_rfl))
    obtain ⟨b15, o15, e15, lb15, cb15, cd15⟩ := f15 (hL 3 (by kernel_rfl))
    obtain e16 := f16 (hL 4 (by kernel_rfl))
    obtain ⟨b5, e5, bb5, lb5, cb5⟩ := f5 (hL 10 (by kernel_rfl))
    obtain ⟨b6, e6, bb6, lb6, cb6⟩ := f6 (hL 11 (by kernel_rfl))
    have hne := n5_6 (hL 10 (by kernel_rfl)) (hL 11 (by kernel_rfl)); rw [e5, e6] at hne; simp at hne; have hne2 := Ne.symm hne
    clear hHeld; have hcW := (bcell hk).1; have hfW := (bcell hk).2; have lW := Below.size hk; have hHeld := hk
    clear f13
    clear f15
    clear f16
    clear f5
    clear f6
    clear n5_6
    simp only [puts, pz, Array.replicate, e13, e15, e16, e5, e6]
    obtain ⟨⟨y5_0, cy5_0⟩, fy5_0⟩ := cb5 0 (by decide)
    obtain ⟨⟨y5_1, cy5_1⟩, fy5_1⟩ := cb5 1 (by decide)
    obtain ⟨⟨y6_0, cy6_0⟩, fy6_0⟩ := cb6 0 (by decide)
    obtain ⟨⟨y6_1, cy6_1⟩, fy6_1⟩ := cb6 1 (by decide)
    obtain ⟨⟨y6_2, cy6_2⟩, fy6_2⟩ := cb6 2 (by decide)
    obtain ⟨⟨y6_3, cy6_3⟩, fy6_3⟩ := cb6 3 (by decide)
    obtain ⟨⟨y6_4, cy6_4⟩, fy6_4⟩ := cb6 4 (by decide)
    refine rd1 12 none rfl (fun K hK => ?_)
    go_simp
    all_goals (try go_wp2_with fail)
    refine hK.out _ _ ?_ (fun hH2 => ?_)
    ·exact bwz
    clear hK K hHeld; (have hHeld := hH2); clear hH2; (try simp only [Act.put])
    refine rd1 13 none rfl (fun K hK => ?_)
    go_simp
    all_goals (try go_wp2_with fail)
    refine hK.out _ _ ?_ (fun hH2 => ?_)
    ·exact bwz
    clear hK K hHeld; (have hHeld := hH2); clear hH2; (try simp only [Act.put])
    refine wpAnyH_done (by kernel_rfl) ?_ _; (try simp only [pz])
    go_wp2_with fail
    go_meet
    exact ⟨_, _, rfl, rfl, ctz, ctz, ctz, ctz, ctz, ctz, ctz, hide (Mine.later hHeld HMT.out), bstep HBT.out hHeld, (by have := hHeld.size; omega)⟩
  case rest =>
   obtain ⟨eu, ev, ew⟩ := Heu.out
   obtain ⟨wq1, wq2, wq3, wq4, wq5, wq6, wq7⟩ := WQ.out
   obtain ⟨g, h, rfl, rfl, d0, d1, m0, m1, m2, m3, m4, HM, kB, kz⟩ := hcut
   have kg : g < wc.heap.size := World.block_lt_of_cell? _ _ d0
   have kh : h < wc.heap.size := World.block_lt_of_cell? _ _ m0
   clear Heu WQ KS e0 e1 e2 e3 e4
   go_upto_region 2 with fail
   go_quiet (fail)
   go_upto_region 3 with fail
   go_quiet ((go_at_call 48; first | exact q_same KR.out | exact q_same2 KR.out))
   go_upto_region 6 with fail
   go_cut [11] (fun s W => ∃ g2 : Nat, s = .pointer (some ⟨g2, 0, none⟩) ∧ W.cell? ⟨g2, 0, none⟩ = some (.int .i64 (x + q1)) ∧ W.cell? ⟨g2, 1, none⟩ = some (.int .i64 (y - q2)) ∧ W.cell? ⟨h, 0, none⟩ = some (.string nm) ∧ W.cell? ⟨h, 1, none⟩ = some (.int .i64 x) ∧ W.cell? ⟨h, 2, none⟩ = some (.int .i64 y) ∧ W.cell? ⟨h, 3, none⟩ = some (.int .i64 2) ∧ W.cell? ⟨h, 4, none⟩ = some (.int .i64 z) ∧ Hid (Mine W (w.heap.size + 1) 4) ∧ Below w.heap.size w W ∧ w.heap.size + 1 < W.heap.size)
   case first =>
    obtain ⟨wX, rfl⟩ : ∃ W : World, W = wc := ⟨_, rfl⟩
    refine wp_region_held_drew (S := fun W => Below wX.heap.size wX W) (by kernel_rfl) (Below.drew (by first | with_reducible exact Below.refl _ _ | with_reducible exact below_drewN (Below.refl _ _) _)) (fun hHeld => ?_)
    refine tkN 0 (some 50) rfl ?_; simp only [pz]
    refine tkN 1 (some 51) rfl ?_; simp only [pz]
    refine tkL 2 (some 52) rfl ?_; simp only [pz]
    refine tkN 3 (some 53) rfl ?_; simp only [pz]
    refine tkN 4 (some 54) rfl ?_; simp only [pz]
    refine tkN 5 (some 55) rfl ?_; simp only [pz]
    refine tkN 6 (some 56) rfl ?_; simp only [pz]
    refine tkN 9 (some 59) rfl ?_; simp only [pz]
    refine tkN 10 (some 60) rfl ?_; simp only [pz]
    refine tkL 11 (some 61) rfl ?_; simp only [pz]
    refine tkN 12 (some 62) rfl ?_; simp only [pz]
    refine tkN 13 (some 63) rfl ?_; simp only [pz]
    refine tkN 14 (some 64) rfl ?_; simp only [pz]
    refine tkN 15 (some 65) rfl ?_; simp only [pz]
    refine wpAnyH_inv2 (fuel := 1) [7, 8, 16, 17, 18, 19] [] [57, 58, 66, 67, 68, 11] (fun uT L W => Below wX.heap.size wX W ∧ (L 7 → (uT 57) = (.int .i64 q1)) ∧ (L 8 → (uT 58) = (.int .i64 (x + q1))) ∧ (L 16 → (uT 66) = (.int .i64 q2)) ∧ (L 17 → (uT 67) = (.int .i64 (y - q2))) ∧ (L 18 → (uT 68) = (.agg #[.int .i64 (x + q1), .int .i64 (y - q2)])) ∧ (L 19 → FBoxB wX 2 (uT 11) W) ∧ True) (by decide) (by kernel_rfl) (by kernel_rfl) (by intro _ _ _ _ _ h; exact h) (fun uT L W hJ => hJ.1) (fun uT L hL => ⟨hHeld, fun k => absurd k (hL 7 (by decide)), fun k => absurd k (hL 8 (by decide)), fun k => absurd k (hL 16 (by decide)), fun k => absurd k (hL 17 (by decide)), fun k => absurd k (hL 18 (by decide)), fun k => absurd k (hL 19 (by decide)), trivial⟩) ?_ ?_ ?_
    ·refine sc1 57 ?_ ?_
     rotate_left
     refine sc1 58 ?_ ?_
     rotate_left
     refine sc1 66 ?_ ?_
     rotate_left
     refine sc1 67 ?_ ?_
     rotate_left
     refine sc1 68 ?_ ?_
     rotate_left
     refine sc1 11 ?_ ?_
     rotate_left
     exact StepsH.nil
     ·intro uT L W hn hd hJ
      obtain ⟨hk, f57, f58, f66, f67, f68, f11, _⟩ := hJ
      intro K hK
      simp only [puts, pz]
      go_simp; (first | (go_at_call 87; (with_reducible refine (KF.out _).mono ?_); rintro e w9 ⟨rfl, rfl⟩) | (go_at_call 87; (with_reducible refine (KG.out _).mono ?_); rintro e w9 ⟨rfl, rfl⟩))
      all_goals (try go_wp2_with fail)
      all_goals
       apply Shut.go4 (W := W) hK
       ·simp only [puts, pz]; rfl
       ·exact bez
       ·intro hb; exact ⟨bstep hk hb, fun _ => upd_same _ _ _, unz f58, unz f66, unz f67, unz f68, unz fun h => FBoxB.later hb (f11 h), trivial⟩
     ·intro uT L W hn hd hJ
      obtain ⟨hk, f57, f58, f66, f67, f68, f11, _⟩ := hJ
      obtain e57 := f57 (hd 7 (by kernel_rfl))
      intro K hK
      simp only [puts, pz, e57]
      go_simp
      all_goals (try go_wp2_with fail)
      all_goals
       apply Shut.go4 (W := W) hK
       ·simp only [puts, pz, e57]; rfl
       ·exact bez
       ·intro hb; exact ⟨bstep hk hb, unz f57, fun _ => upd_same _ _ _, unz f66, unz f67, unz f68, unz fun h => FBoxB.later hb (f11 h), trivial⟩
     ·intro uT L W hn hd hJ
      obtain ⟨hk, f57, f58, f66, f67, f68, f11, _⟩ := hJ
      intro K hK
      simp only [puts, pz]
      go_simp; (first | (go_at_call 87; (with_reducible refine (KF.out _).mono ?_); rintro e w9 ⟨rfl, rfl⟩) | (go_at_call 87; (with_reducible refine (KG.out _).mono ?_); rintro e w9 ⟨rfl, rfl⟩))
      all_goals (try go_wp2_with fail)
      all_goals
       apply Shut.go4 (W := W) hK
       ·simp only [puts, pz]; rfl
       ·exact bez
       ·intro hb; exact ⟨bstep hk hb, unz f57, unz f58, fun _ => upd_same _ _ _, unz f67, unz f68, unz fun h => FBoxB.later hb (f11 h), trivial⟩
     ·intro uT L W hn hd hJ
      obtain ⟨hk, f57, f58, f66, f67, f68, f11, _⟩ := hJ
      obtain e66 := f66 (hd 16 (by kernel_rfl))
      intro K hK
      simp only [puts, pz, e66]
      go_simp
      all_goals (try go_wp2_with fail)
      all_goals
       apply Shut.go4 (W := W) hK
       ·simp only [puts, pz, e66]; rfl
       ·exact bez
       ·intro hb; exact ⟨bstep hk hb, unz f57, unz f58, unz f66, fun _ => upd_same _ _ _, unz f68, unz fun h => FBoxB.later hb (f11 h), trivial⟩
     ·intro uT L W hn hd hJ
      obtain ⟨hk, f57, f58, f66, f67, f68, f11, _⟩ := hJ
      obtain e58 := f58 (hd 8 (by kernel_rfl))
      obtain e67 := f67 (hd 17 (by kernel_rfl))
      intro K hK
      simp only [puts, pz, e58, e67]
      go_simp
      all_goals (try go_wp2_with fail)
      all_goals
       apply Shut.go4 (W := W) hK
       ·simp only [puts, pz, e58, e67]; rfl
       ·exact bez
       ·intro hb; exact ⟨bstep hk hb, unz f57, unz f58, unz f66, unz f67, fun _ => upd_same _ _ _, unz fun h => FBoxB.later hb (f11 h), trivial⟩
     ·intro uT L W hn hd hJ
      obtain ⟨hk, f57, f58, f66, f67, f68, f11, _⟩ := hJ
      intro K hK
      simp only [puts, pz]
      go_simp
      all_goals (try go_wp2_with fail)
      all_goals
       apply Shut.go4 (W := W) hK
       ·simp only [puts, pz]; rfl
       ·exact bez
       ·intro hb; exact ⟨bstep hk hb, unz f57, unz f58, unz f66, unz f67, unz f68, fun _ => by rw [upd_same]; exact FBoxB.new (Below.size hk) _ _ (by rfl), trivial⟩
    ·exact PuresH.nil
    ·intro uT L W hJ hL
     obtain ⟨hk, f57, f58, f66, f67, f68, f11, _⟩ := hJ
     obtain e57 := f57 (hL 7 (by kernel_rfl))
     obtain e58 := f58 (hL 8 (by kernel_rfl))
     obtain e66 := f66 (hL 16 (by kernel_rfl))
     obtain e67 := f67 (hL 17 (by kernel_rfl))
     obtain e68 := f68 (hL 18 (by kernel_rfl))
     obtain ⟨b11, e11, bb11, lb11, cb11⟩ := f11 (hL 19 (by kernel_rfl))
     clear hHeld; have hcW := (bcell hk).1; have hfW := (bcell hk).2; have lW := Below.size hk; have hHeld := hk
     clear f57
     clear f58
     clear f66
     clear f67
     clear f68
     clear f11
     simp only [puts, pz, Array.replicate, e57, e58, e66, e67, e68, e11]
     obtain ⟨⟨y11_0, cy11_0⟩, fy11_0⟩ := cb11 0 (by decide)
     obtain ⟨⟨y11_1, cy11_1⟩, fy11_1⟩ := cb11 1 (by decide)
     refine rd1 20 none rfl (fun K hK => ?_)
     go_simp
     all_goals (try go_wp2_with fail)
     refine hK.out _ _ ?_ (fun hH2 => ?_)
     ·exact bwz
     clear hK K hHeld; (have hHeld := hH2); clear hH2; (try simp only [Act.put])
     refine wpAnyH_done (by kernel_rfl) ?_ _; (try simp only [pz])
     go_wp2_with fail
     go_meet
     exact ⟨_, rfl, ctz, ctz, (by go_simp; done), (by go_simp; done), (by go_simp; done), (by go_simp; done), (by go_simp; done), hide (Mine.later hHeld HM.out), bstep kB hHeld, (by have := hHeld.size; omega)⟩
   case rest =>
    obtain ⟨g2, rfl, f0, f1, m0, m1, m2, m3, m4, HM3, kB3, kz3⟩ := hcut
    clear eu ev ew wq1 wq2 wq3 wq4 wq5 wq6 wq7 KF KG KR kB HM d0 d1
    have kg3 : g2 < wc.heap.size := World.block_lt_of_cell? _ _ f0
    have kh3 : h < wc.heap.size := World.block_lt_of_cell? _ _ m0
    obtain ⟨⟨x0, z0⟩, y0⟩ := HM3.out 0 (by decide)
    obtain ⟨⟨x1, z1⟩, y1⟩ := HM3.out 1 (by decide)
    obtain ⟨⟨x2, z2⟩, y2⟩ := HM3.out 2 (by decide)
    obtain ⟨⟨x3, z3⟩, y3⟩ := HM3.out 3 (by decide)
    go_wp2
    simp [bodyPost, results, Tryz.results126, go_sem, *]
    all_goals exact bwz
theorem spec_l04Stations_at (ax ay bx bY cx cy dx dy : Int) (so : Option Addr) (n cap : Nat) (N : Nat → ByteArray) (X Y S Z : Nat → Int) (K : Nat) (w : World) (h : RowAt w so n 5 (v5 N X Y S Z)) (hn : n ≤ 8) (g1 : isSg ax ay bx bY = true) (g2 : isSg cx cy dx dy = true) (hK : K < n + 2) :
 Calls Tryz.prog 106 #[.agg #[.int .i64 ax, .int .i64 ay, .int .i64 bx, .int .i64 bY, .int .i64 cx, .int .i64 cy, .int .i64 dx, .int .i64 dy, .slice so n cap]] w fun e w' => ∃ b c, e = .returned (.slice (some ⟨b, 0, none⟩) (n + 2) c) ∧ b < w'.heap.size ∧ w'.cell? ⟨b, K * 2, none⟩ = some (.int .i64 (stA ((ax + bx) / 2) ((cx + dx) / 2) n X K)) ∧ w'.cell? ⟨b, K * 2 + 1, none⟩ = some (.int .i64 (stA ((ay + bY) / 2) ((cy + dy) / 2) n Y K)) ∧ Below w.heap.size w w' :=
 (spec_l04Stations ax ay bx bY cx cy dx dy so n cap N X Y S Z w h hn g1 g2).mono fun e w' ⟨so', cp, he, _, ⟨hr, ho⟩, hb⟩ => by
  have hl := stF_len ((ax + bx) / 2) ((ay + bY) / 2) ((cx + dx) / 2) ((cy + dy) / 2) X Y n
  obtain ⟨s1, s2⟩ := stF_at ((ax + bx) / 2) ((ay + bY) / 2) ((cx + dx) / 2) ((cy + dy) / 2) X Y n K hK
  rw [hl] at he hr ho
  obtain ⟨_, h0⟩ | ⟨g, rfl, _, hg, _⟩ := ho
  ·omega
  obtain ⟨b', o', e', k⟩ := hr K hK
  simp only [Option.some.injEq, Addr.mk.injEq] at e'
  obtain ⟨rfl, rfl, _⟩ := e'
  have c0 := k 0 (by decide)
  have c1 := k 1 (by decide)
  refine ⟨g, cp, he, hg, ?_, ?_, hb⟩
  ·rw [← s1]; simpa [v2] using c0
  ·rw [← s2]; simpa [v2] using c1
set_option maxRecDepth 100000 in
set_option maxHeartbeats 8000000 in
theorem spec_l06Line (ax ay bx bY cx cy dx dy : Int) (so : Option Addr) (n cap : Nat) (N : Nat → ByteArray) (X Y S Z : Nat → Int) (K : Nat) (w : World) (h : RowAt w so n 5 (v5 N X Y S Z)) (hv : (isCo ax ay bx bY cx cy dx dy n N X Y S Z) = true) (hK : K < n) :
 Calls Tryz.prog 132 #[.agg #[.int .i64 ax, .int .i64 ay, .int .i64 bx, .int .i64 bY, .int .i64 cx, .int .i64 cy, .int .i64 dx, .int .i64 dy, .slice so n cap], .int .i64 (K : Int)] w fun e w' => e = .returned (.tuple #[.agg #[.int .i64 (lnA ax ay bx bY cx cy dx dy n X Y S Z (K + 1)), .int .i64 (lnB ax ay bx bY cx cy dx dy n X Y S Z (K + 1)), .int .i64 (lnC ax ay bx bY cx cy dx dy n X Y S Z (K + 1)), .int .i64 (lnD ax ay bx bY cx cy dx dy n X Y S Z (K + 1))], .bool (isSg (lnA ax ay bx bY cx cy dx dy n X Y S Z (K + 1)) (lnB ax ay bx bY cx cy dx dy n X Y S Z (K + 1)) (lnC ax ay bx bY cx cy dx dy n X Y S Z (K + 1)) (lnD ax ay bx bY cx cy dx dy n X Y S Z (K + 1)))]) ∧ Below w.heap.size w w' := by
 obtain ⟨l1, l2, l3, l4⟩ := ln_k ax ay bx bY cx cy dx dy so n cap N X Y S Z hK
 obtain ⟨hp, hh, hm⟩ := rl_facts ax ay bx bY cx cy dx dy so n cap N X Y S Z hv hK
 obtain ⟨g1, g2, hn1, hn8, _⟩ := isCo_t hv
 obtain ⟨_, hq, hs, hz1, hz2⟩ := isMk_t hm
 rw [l1, l2, l3, l4]
 clear l1 l2 l3 l4
 have KS := fun W (hb : Below w.heap.size w W) => spec_l04Stations_at ax ay bx bY cx cy dx dy so n cap N X Y S Z K W (RowAt.later hb h) hn8 g1 g2 (by omega)
 obtain ⟨m, hm9⟩ : ∃ m : Nat, m = n + 2 := ⟨_, rfl⟩
 rw [← hm9] at KS
 have hKm : (K : Int) < (m : Int) := by omega
 have hKn : (K : Int) < (n : Int) := by omega
 have hK0 : (0 : Int) ≤ (K : Int) := by omega
 obtain ⟨b, o, rfl, hbs, e0, e1, e2, e3, e4⟩ := h.at5 K hK
 have KS := hide KS
 clear h hv hm9 hm g1 g2
 generalize stA ((ax + bx) / 2) ((cx + dx) / 2) n X K = px at *
 generalize stA ((ay + bY) / 2) ((cy + dy) / 2) n Y K = py at *
 generalize X K = x at *
 generalize Y K = y at *
 generalize S K = sd at *
 generalize Z K = z at *
 generalize N K = nm at *
 obtain ⟨p1, p2, p3, p4⟩ := isPt_t hp
 obtain ⟨q1', q2', q3', q4'⟩ := isPt_t hq
 rcases (by omega : sd = 1 ∨ sd = 2) with rfl | rfl
 ·obtain ⟨l1, l2, l3, l4⟩ := rl_1 px py x y z
  rw [l1, l2, l3, l4]
  clear l1 l2 l3 l4
  obtain ⟨w1, hw1⟩ : ∃ v : Int, v = 10 * z := ⟨_, rfl⟩
  rw [← hw1]
  obtain ⟨u, hu⟩ : ∃ v : Int, v = x - px := ⟨_, rfl⟩
  obtain ⟨v, hv⟩ : ∃ v : Int, v = y - py := ⟨_, rfl⟩
  rw [← hu, ← hv] at hh ⊢
  obtain ⟨⟨c1, c2⟩, ⟨c3, c4⟩, ⟨c5, c6⟩, ⟨c7, c8⟩, ⟨c9, c10⟩, ⟨c11, c12⟩, c13, c14⟩ := rl_nums (w1 := w1) hh (by omega) (by omega)
  have eu : x - px = u := hu.symm
  have ev : y - py = v := hv.symm
  have ew : 10 * z = w1 := hw1.symm
  obtain ⟨r9, hr9⟩ : ∃ r : Int, r = rt (u * u + v * v) := ⟨_, rfl⟩
  rw [← hr9] at c9 c10 c11 c12 c13 c14 ⊢
  obtain ⟨q1, hq1⟩ : ∃ r : Int, r = v * w1 / r9 := ⟨_, rfl⟩
  obtain ⟨q2, hq2⟩ : ∃ r : Int, r = u * w1 / r9 := ⟨_, rfl⟩
  rw [← hq1] at c9 c10 ⊢
  rw [← hq2] at c11 c12 ⊢
  have wq1 : IntKind.i64.wrap (u * u) = u * u := IntWalk.i64_in _ (by omega)
  have wq2 : IntKind.i64.wrap (v * v) = v * v := IntWalk.i64_in _ (by omega)
  have wq3 : IntKind.i64.wrap (u * u + v * v) = u * u + v * v := IntWalk.i64_in _ (by omega)
  have wq4 : IntKind.i64.wrap (v * w1) = v * w1 := IntWalk.i64_in _ (by omega)
  have wq5 : IntKind.i64.wrap (u * w1) = u * w1 := IntWalk.i64_in _ (by omega)
  have wq6 : IntKind.i64.wrap (x + q1) = x + q1 := IntWalk.i64_in _ (by omega)
  have wq7 : IntKind.i64.wrap (y - q2) = y - q2 := IntWalk.i64_in _ (by omega)
  have WQ := hide (And.intro wq1 (And.intro wq2 (And.intro wq3 (And.intro wq4 (And.intro wq5 (And.intro wq6 wq7))))))
  have KR := hide (fun W => show Calls Tryz.prog 108 #[.int .i64 (u * u + v * v)] W fun e w' => e = .returned (.int .i64 r9) ∧ W = w' by rw [hr9]; exact spec_l01Root _ (by omega) (by omega) W)
  have KD := hide (fun W => spec_l01Dot u v u v ⟨by omega, by omega⟩ ⟨by omega, by omega⟩ W)
  have KM := hide (fun W => show Calls Tryz.prog 90 #[.agg #[.int .i64 x, .int .i64 y], .agg #[.int .i64 px, .int .i64 py]] W fun e w' => e = .returned (.agg #[.int .i64 u, .int .i64 v]) ∧ Below W.heap.size W w' by rw [hu, hv]; exact spec_l01Minus x y px py ⟨by omega, by omega⟩ ⟨by omega, by omega⟩ ⟨by omega, by omega⟩ ⟨by omega, by omega⟩ W)
  have KF := hide (fun W => show Calls Tryz.prog 109 #[.int .i64 (v * w1), .int .i64 r9] W fun e w' => e = .returned (.int .i64 q1) ∧ W = w' by rw [hq1]; exact spec_l01Floor _ _ (by omega) (by omega) c13 W)
  have KG := hide (fun W => show Calls Tryz.prog 109 #[.int .i64 (u * w1), .int .i64 r9] W fun e w' => e = .returned (.int .i64 q2) ∧ W = w' by rw [hq2]; exact spec_l01Floor _ _ (by omega) (by omega) c13 W)
  have KI := hide (fun W => spec_IsLine x y (x + q1) (y - q2) W)
  obtain ⟨s9, hs9⟩ : ∃ v, v = isSg x y (x + q1) (y - q2) := ⟨_, rfl⟩
  rw [← hs9] at KI ⊢
  clear hs9
  have Heu := hide (And.intro eu (And.intro ev ew))
  clear hu hv hw1 hr9 hq1 hq2 wq1 wq2 wq3 wq4 wq5 wq6 wq7 eu ev ew hh hp hq hs
  go_enter Tryz.func132, Tryz.ntmps132
  go_upto_region 2 with fail
  go_cut [7] (fun s7 W => ∃ g : Nat, s7 = .pointer (some ⟨g, 0, none⟩) ∧ W.cell? ⟨g, 0, none⟩ = some (.int .i64 u) ∧ W.cell? ⟨g, 1, none⟩ = some (.int .i64 v) ∧ W.cell? ⟨w.heap.size + 1 + 1, 0, none⟩ = some (.string nm) ∧ W.cell? ⟨w.heap.size + 1 + 1, 1, none⟩ = some (.int .i64 x) ∧ W.cell? ⟨w.heap.size + 1 + 1, 2, none⟩ = some (.int .i64 y) ∧ W.cell? ⟨w.heap.size + 1 + 1, 3, none⟩ = some (.int .i64 1) ∧ W.cell? ⟨w.heap.size + 1 + 1, 4, none⟩ = some (.int .i64 z) ∧ Hid (Mine W (w.heap.size + 1) 4) ∧ Below w.heap.size w W ∧ w.heap.size + 1 + 1 < W.heap.size)
  case first =>
   obtain ⟨wT, hT⟩ : ∃ W, W = ((w.alloc (.cells #[.int .i64 ax, .int .i64 ay, .int .i64 bx, .int .i64 bY, .int .i64 cx, .int .i64 cy, .int .i64 dx, .int .i64 dy, .slice (some ⟨b, o, none⟩) n cap] 30)).alloc (.cells #[.int .i64 0, .int .i64 0, .int .i64 0, .int .i64 0] 27)).alloc (.cells #[.string nm, .int .i64 x, .int .i64 y, .int .i64 1, .int .i64 z] 45) := ⟨_, rfl⟩
   have t0 : wT.cell? ⟨w.heap.size, 0, none⟩ = some (.int .i64 ax) := by rw [hT]; go_simp
   have t1 : wT.cell? ⟨w.heap.size, 1, none⟩ = some (.int .i64 ay) := by rw [hT]; go_simp
   have t2 : wT.cell? ⟨w.heap.size, 2, none⟩ = some (.int .i64 bx) := by rw [hT]; go_simp
   have t3 : wT.cell? ⟨w.heap.size, 3, none⟩ = some (.int .i64 bY) := by rw [hT]; go_simp
   have t4 : wT.cell? ⟨w.heap.size, 4, none⟩ = some (.int .i64 cx) := by rw [hT]; go_simp
   have t5 : wT.cell? ⟨w.heap.size, 5, none⟩ = some (.int .i64 cy) := by rw [hT]; go_simp
   have t6 : wT.cell? ⟨w.heap.size, 6, none⟩ = some (.int .i64 dx) := by rw [hT]; go_simp
   have t7 : wT.cell? ⟨w.heap.size, 7, none⟩ = some (.int .i64 dy) := by rw [hT]; go_simp
   have t8 : wT.cell? ⟨w.heap.size, 8, none⟩ = some (.slice (some ⟨b, o, none⟩) n cap) := by rw [hT]; go_simp
   have k0 : wT.cell? ⟨w.heap.size + 1 + 1, 0, none⟩ = some (.string nm) := by rw [hT]; go_simp
   have k1 : wT.cell? ⟨w.heap.size + 1 + 1, 1, none⟩ = some (.int .i64 x) := by rw [hT]; go_simp
   have k2 : wT.cell? ⟨w.heap.size + 1 + 1, 2, none⟩ = some (.int .i64 y) := by rw [hT]; go_simp
   have k3 : wT.cell? ⟨w.heap.size + 1 + 1, 3, none⟩ = some (.int .i64 1) := by rw [hT]; go_simp
   have k4 : wT.cell? ⟨w.heap.size + 1 + 1, 4, none⟩ = some (.int .i64 z) := by rw [hT]; go_simp
   have HMT := hide (show Mine wT (w.heap.size + 1) 4 by
    rw [hT]
    have := mine_make (w := w.alloc (.cells #[.int .i64 ax, .int .i64 ay, .int .i64 bx, .int .i64 bY, .int .i64 cx, .int .i64 cy, .int .i64 dx, .int .i64 dy, .slice (some ⟨b, o, none⟩) n cap] 30)) (c := #[.int .i64 0, .int .i64 0, .int .i64 0, .int .i64 0]) (t := 27) (m := 4) rfl
    simp only [size_al] at this
    exact Mine.later (Below.alloc (Below.refl _ _) (Nat.le_refl _) _) this)
   have HBT := hide (show Below w.heap.size w wT by rw [hT]; exact bwz)
   have zT1 : w.heap.size + 1 + 1 < wT.heap.size := by rw [hT]; simp
   have zT2 : w.heap.size + 1 < wT.heap.size := by omega
   have zT0 : w.heap.size < wT.heap.size := by omega
   have zTb : b < wT.heap.size := by omega
   rw [← hT]
   clear hT e0 e1 e2 e3 e4
   refine wp_region_held_drew (S := fun W => Below wT.heap.size wT W) (by kernel_rfl) (Below.drew (by first | with_reducible exact Below.refl _ _ | with_reducible exact below_drewN (Below.refl _ _) _)) (fun hHeld => ?_)
   refine tkN 0 (some 17) rfl ?_; simp only [pz]
   refine tkL 1 (some 18) rfl ?_; simp only [pz]
   refine tkL 2 (some 19) rfl ?_; simp only [pz]
   refine tkN 4 (some 21) rfl ?_; simp only [pz]
   refine wpAnyH_inv2 (fuel := 1) [3, 5, 6, 7, 8] [] [20, 22, 23, 24, 7] (fun uT L W => Below wT.heap.size wT W ∧ (L 3 → FPRow m K (.int .i64 px) (.int .i64 py) (uT 20) W) ∧ (L 5 → FPAddr (.int .i64 px) (.int .i64 py) (uT 22) W) ∧ (L 6 → (uT 23) = (.agg #[.int .i64 px, .int .i64 py])) ∧ (L 7 → (uT 24) = (.agg #[.int .i64 u, .int .i64 v])) ∧ (L 8 → FBoxB wT 2 (uT 7) W) ∧ True) (by decide) (by kernel_rfl) (by kernel_rfl) (by intro _ _ _ _ _ h; exact h) (fun uT L W hJ => hJ.1) (fun uT L hL => ⟨hHeld, fun k => absurd k (hL 3 (by decide)), fun k => absurd k (hL 5 (by decide)), fun k => absurd k (hL 6 (by decide)), fun k => absurd k (hL 7 (by decide)), fun k => absurd k (hL 8 (by decide)), trivial⟩) ?_ ?_ ?_
   ·refine sc1 20 ?_ ?_
    rotate_left
    refine sc1 22 ?_ ?_
    rotate_left
    refine sc1 23 ?_ ?_
    rotate_left
    refine sc1 24 ?_ ?_
    rotate_left
    refine sc1 7 ?_ ?_
    rotate_left
    exact StepsH.nil
    ·intro uT L W hn hd hJ
     obtain ⟨hk, f20, f22, f23, f24, f7, _⟩ := hJ
     intro K hK
     simp only [puts, pz]
     go_simp; (go_at_call 106; (with_reducible refine (KS.out _ (bstep HBT.out hk)).mono ?_); rintro e w9 ⟨b9, c9, rfl, hl9, hp9, hq9, hb⟩)
     all_goals (try go_wp2_with fail)
     all_goals
      apply Shut.go4 (W := W) hK
      ·simp only [puts, pz]; rfl
      ·exact bez
      ·intro hb; exact ⟨bstep hk hb, fun _ => by rw [upd_same]; exact ⟨b9, c9, rfl, hl9, hp9, hq9⟩, unz fun h => FPAddr.later hb (f22 h), unz f23, unz f24, unz fun h => FBoxB.later hb (f7 h), trivial⟩
    ·intro uT L W hn hd hJ
     obtain ⟨hk, f20, f22, f23, f24, f7, _⟩ := hJ
     obtain ⟨b20, c20, e20, lb20, cb20, cd20⟩ := f20 (hd 3 (by kernel_rfl))
     intro K hK
     simp only [puts, pz, e20]
     go_simp
     all_goals (try go_wp2_with fail)
     all_goals
      apply Shut.go4 (W := W) hK
      ·simp only [puts, pz, e20]; rfl
      ·exact bez
      ·intro hb; exact ⟨bstep hk hb, unz fun h => FPRow.later hb (f20 h), fun _ => by rw [upd_same]; exact ⟨_, _, rfl, lb20, (by first | exact cb20 | simpa using cb20), (by first | exact cd20 | simpa using cd20)⟩, unz f23, unz f24, unz fun h => FBoxB.later hb (f7 h), trivial⟩
    ·intro uT L W hn hd hJ
     obtain ⟨hk, f20, f22, f23, f24, f7, _⟩ := hJ
     obtain ⟨b22, o22, e22, lb22, cb22, cd22⟩ := f22 (hd 5 (by kernel_rfl))
     intro K hK
     simp only [puts, pz, e22]
     go_simp
     all_goals (try go_wp2_with fail)
     all_goals
      apply Shut.go4 (W := W) hK
      ·simp only [puts, pz, e22]; rfl
      ·exact bez
      ·intro hb; exact ⟨bstep hk hb, unz fun h => FPRow.later hb (f20 h), unz fun h => FPAddr.later hb (f22 h), fun _ => upd_same _ _ _, unz f24, unz fun h => FBoxB.later hb (f7 h), trivial⟩
    ·intro uT L W hn hd hJ
     obtain ⟨hk, f20, f22, f23, f24, f7, _⟩ := hJ
     obtain e23 := f23 (hd 6 (by kernel_rfl))
     intro K hK
     simp only [puts, pz, e23]
     go_simp; (go_at_call 90; (with_reducible refine (KM.out _).mono ?_); rintro e w9 ⟨rfl, hb⟩)
     all_goals (try go_wp2_with fail)
     all_goals
      apply Shut.go4 (W := W) hK
      ·simp only [puts, pz, e23]; rfl
      ·exact bez
      ·intro hb; exact ⟨bstep hk hb, unz fun h => FPRow.later hb (f20 h), unz fun h => FPAddr.later hb (f22 h), unz f23, fun _ => upd_same _ _ _, unz fun h => FBoxB.later hb (f7 h), trivial⟩
    ·intro uT L W hn hd hJ
     obtain ⟨hk, f20, f22, f23, f24, f7, _⟩ := hJ
     intro K hK
     simp only [puts, pz]
     go_simp
     all_goals (try go_wp2_with fail)
     all_goals
      apply Shut.go4 (W := W) hK
      ·simp only [puts, pz]; rfl
      ·exact bez
      ·intro hb; exact ⟨bstep hk hb, unz fun h => FPRow.later hb (f20 h), unz fun h => FPAddr.later hb (f22 h), unz f23, unz f24, fun _ => by rw [upd_same]; exact FBoxB.new (Below.size hk) _ _ (by rfl), trivial⟩
   ·exact PuresH.nil
   ·intro uT L W hJ hL
    obtain ⟨hk, f20, f22, f23, f24, f7, _⟩ := hJ
    obtain ⟨b20, c20, e20, lb20, cb20, cd20⟩ := f20 (hL 3 (by kernel_rfl))
    obtain ⟨b22, o22, e22, lb22, cb22, cd22⟩ := f22 (hL 5 (by kernel_rfl))
    obtain e23 := f23 (hL 6 (by kernel_rfl))
    obtain e24 := f24 (hL 7 (by kernel_rfl))
    obtain ⟨b7, e7, bb7, lb7, cb7⟩ := f7 (hL 8 (by kernel_rfl))
    clear hHeld; have hcW := (bcell hk).1; have hfW := (bcell hk).2; have lW := Below.size hk; have hHeld := hk
    clear f20
    clear f22
    clear f23
    clear f24
    clear f7
    simp only [puts, pz, Array.replicate, e20, e22, e23, e24, e7]
    obtain ⟨⟨y7_0, cy7_0⟩, fy7_0⟩ := cb7 0 (by decide)
    obtain ⟨⟨y7_1, cy7_1⟩, fy7_1⟩ := cb7 1 (by decide)
    refine rd1 9 none rfl (fun K hK => ?_)
    go_simp
    all_goals (try go_wp2_with fail)
    refine hK.out _ _ ?_ (fun hH2 => ?_)
    ·exact bwz
    clear hK K hHeld; (have hHeld := hH2); clear hH2; (try simp only [Act.put])
    refine wpAnyH_done (by kernel_rfl) ?_ _; (try simp only [pz])
    go_wp2_with fail
    go_meet
    exact ⟨_, rfl, ctz, ctz, (by go_simp; done), (by go_simp; done), (by go_simp; done), (by go_simp; done), (by go_simp; done), hide (Mine.later hHeld HMT.out), bstep HBT.out hHeld, (by have := hHeld.size; omega)⟩
  case rest =>
   obtain ⟨eu, ev, ew⟩ := Heu.out
   obtain ⟨wq1, wq2, wq3, wq4, wq5, wq6, wq7⟩ := WQ.out
   obtain ⟨g, rfl, d0, d1, m0, m1, m2, m3, m4, HM, kB, kz⟩ := hcut
   have kg : g < wc.heap.size := World.block_lt_of_cell? _ _ d0
   clear Heu WQ KS e0 e1 e2 e3 e4
   go_wp2_with fail; (with_reducible refine (KD.out _).mono ?_); rintro e wD ⟨rfl, hb⟩
   have nd0 := cell_later hb d0
   have nd1 := cell_later hb d1
   have nm0 := cell_later hb m0
   have nm1 := cell_later hb m1
   have nm2 := cell_later hb m2
   have nm3 := cell_later hb m3
   have nm4 := cell_later hb m4
   have HM2 := hide (Mine.later hb HM.out)
   have kB2 := bstep kB hb
   have zD := hb.size
   have kg2 : g < wD.heap.size := by omega
   have kz2 : w.heap.size + 1 + 1 < wD.heap.size := by omega
   clear hb d0 d1 m0 m1 m2 m3 m4 HM kB KD
   go_upto_region 7 with (go_at_call 108; (with_reducible refine (KR.out _).mono ?_); rintro e w9 ⟨rfl, rfl⟩)
   go_cut [10] (fun s W => ∃ g2 : Nat, s = .pointer (some ⟨g2, 0, none⟩) ∧ W.cell? ⟨g2, 0, none⟩ = some (.int .i64 (x + q1)) ∧ W.cell? ⟨g2, 1, none⟩ = some (.int .i64 (y - q2)) ∧ W.cell? ⟨w.heap.size + 1 + 1, 0, none⟩ = some (.string nm) ∧ W.cell? ⟨w.heap.size + 1 + 1, 1, none⟩ = some (.int .i64 x) ∧ W.cell? ⟨w.heap.size + 1 + 1, 2, none⟩ = some (.int .i64 y) ∧ W.cell? ⟨w.heap.size + 1 + 1, 3, none⟩ = some (.int .i64 1) ∧ W.cell? ⟨w.heap.size + 1 + 1, 4, none⟩ = some (.int .i64 z) ∧ Hid (Mine W (w.heap.size + 1) 4) ∧ Below w.heap.size w W ∧ w.heap.size + 1 < W.heap.size)
   case first =>
    obtain ⟨wX, rfl⟩ : ∃ W : World, W = wD := ⟨_, rfl⟩
    refine wp_region_held_drew (S := fun W => Below wX.heap.size wX W) (by kernel_rfl) (Below.drew (by first | with_reducible exact Below.refl _ _ | with_reducible exact below_drewN (Below.refl _ _) _)) (fun hHeld => ?_)
    refine tkN 0 (some 37) rfl ?_; simp only [pz]
    refine tkN 1 (some 38) rfl ?_; simp only [pz]
    refine tkL 2 (some 39) rfl ?_; simp only [pz]
    refine tkN 3 (some 40) rfl ?_; simp only [pz]
    refine tkL 4 (some 41) rfl ?_; simp only [pz]
    refine tkN 5 (some 42) rfl ?_; simp only [pz]
    refine tkN 6 (some 43) rfl ?_; simp only [pz]
    refine tkN 7 (some 44) rfl ?_; simp only [pz]
    refine tkN 10 (some 47) rfl ?_; simp only [pz]
    refine tkN 11 (some 48) rfl ?_; simp only [pz]
    refine tkL 12 (some 49) rfl ?_; simp only [pz]
    refine tkN 13 (some 50) rfl ?_; simp only [pz]
    refine tkL 14 (some 51) rfl ?_; simp only [pz]
    refine tkN 15 (some 52) rfl ?_; simp only [pz]
    refine tkN 16 (some 53) rfl ?_; simp only [pz]
    refine tkN 17 (some 54) rfl ?_; simp only [pz]
    refine wpAnyH_inv2 (fuel := 1) [8, 9, 18, 19, 20, 21] [] [45, 46, 55, 56, 57, 10] (fun uT L W => Below wX.heap.size wX W ∧ (L 8 → (uT 45) = (.int .i64 q1)) ∧ (L 9 → (uT 46) = (.int .i64 (x + q1))) ∧ (L 18 → (uT 55) = (.int .i64 q2)) ∧ (L 19 → (uT 56) = (.int .i64 (y - q2))) ∧ (L 20 → (uT 57) = (.agg #[.int .i64 (x + q1), .int .i64 (y - q2)])) ∧ (L 21 → FBoxB wX 2 (uT 10) W) ∧ True) (by decide) (by kernel_rfl) (by kernel_rfl) (by intro _ _ _ _ _ h; exact h) (fun uT L W hJ => hJ.1) (fun uT L hL => ⟨hHeld, fun k => absurd k (hL 8 (by decide)), fun k => absurd k (hL 9 (by decide)), fun k => absurd k (hL 18 (by decide)), fun k => absurd k (hL 19 (by decide)), fun k => absurd k (hL 20 (by decide)), fun k => absurd k (hL 21 (by decide)), trivial⟩) ?_ ?_ ?_
    ·refine sc1 45 ?_ ?_
     rotate_left
     refine sc1 46 ?_ ?_
     rotate_left
     refine sc1 55 ?_ ?_
     rotate_left
     refine sc1 56 ?_ ?_
     rotate_left
     refine sc1 57 ?_ ?_
     rotate_left
     refine sc1 10 ?_ ?_
     rotate_left
     exact StepsH.nil
     ·intro uT L W hn hd hJ
      obtain ⟨hk, f45, f46, f55, f56, f57, f10, _⟩ := hJ
      intro K hK
      simp only [puts, pz]
      go_simp; (first | (go_at_call 109; (with_reducible refine (KF.out _).mono ?_); rintro e w9 ⟨rfl, rfl⟩) | (go_at_call 109; (with_reducible refine (KG.out _).mono ?_); rintro e w9 ⟨rfl, rfl⟩))
      all_goals (try go_wp2_with fail)
      all_goals
       apply Shut.go4 (W := W) hK
       ·simp only [puts, pz]; rfl
       ·exact bez
       ·intro hb; exact ⟨bstep hk hb, fun _ => upd_same _ _ _, unz f46, unz f55, unz f56, unz f57, unz fun h => FBoxB.later hb (f10 h), trivial⟩
     ·intro uT L W hn hd hJ
      obtain ⟨hk, f45, f46, f55, f56, f57, f10, _⟩ := hJ
      obtain e45 := f45 (hd 8 (by kernel_rfl))
      intro K hK
      simp only [puts, pz, e45]
      go_simp
      all_goals (try go_wp2_with fail)
      all_goals
       apply Shut.go4 (W := W) hK
       ·simp only [puts, pz, e45]; rfl
       ·exact bez
       ·intro hb; exact ⟨bstep hk hb, unz f45, fun _ => upd_same _ _ _, unz f55, unz f56, unz f57, unz fun h => FBoxB.later hb (f10 h), trivial⟩
     ·intro uT L W hn hd hJ
      obtain ⟨hk, f45, f46, f55, f56, f57, f10, _⟩ := hJ
      intro K hK
      simp only [puts, pz]
      go_simp; (first | (go_at_call 109; (with_reducible refine (KF.out _).mono ?_); rintro e w9 ⟨rfl, rfl⟩) | (go_at_call 109; (with_reducible refine (KG.out _).mono ?_); rintro e w9 ⟨rfl, rfl⟩))
      all_goals (try go_wp2_with fail)
      all_goals
       apply Shut.go4 (W := W) hK
       ·simp only [puts, pz]; rfl
       ·exact bez
       ·intro hb; exact ⟨bstep hk hb, unz f45, unz f46, fun _ => upd_same _ _ _, unz f56, unz f57, unz fun h => FBoxB.later hb (f10 h), trivial⟩
     ·intro uT L W hn hd hJ
      obtain ⟨hk, f45, f46, f55, f56, f57, f10, _⟩ := hJ
      obtain e55 := f55 (hd 18 (by kernel_rfl))
      intro K hK
      simp only [puts, pz, e55]
      go_simp
      all_goals (try go_wp2_with fail)
      all_goals
       apply Shut.go4 (W := W) hK
       ·simp only [puts, pz, e55]; rfl
       ·exact bez
       ·intro hb; exact ⟨bstep hk hb, unz f45, unz f46, unz f55, fun _ => upd_same _ _ _, unz f57, unz fun h => FBoxB.later hb (f10 h), trivial⟩
     ·intro uT L W hn hd hJ
      obtain ⟨hk, f45, f46, f55, f56, f57, f10, _⟩ := hJ
      obtain e46 := f46 (hd 9 (by kernel_rfl))
      obtain e56 := f56 (hd 19 (by kernel_rfl))
      intro K hK
      simp only [puts, pz, e46, e56]
      go_simp
      all_goals (try go_wp2_with fail)
      all_goals
       apply Shut.go4 (W := W) hK
       ·simp only [puts, pz, e46, e56]; rfl
       ·exact bez
       ·intro hb; exact ⟨bstep hk hb, unz f45, unz f46, unz f55, unz f56, fun _ => upd_same _ _ _, unz fun h => FBoxB.later hb (f10 h), trivial⟩
     ·intro uT L W hn hd hJ
      obtain ⟨hk, f45, f46, f55, f56, f57, f10, _⟩ := hJ
      intro K hK
      simp only [puts, pz]
      go_simp
      all_goals (try go_wp2_with fail)
      all_goals
       apply Shut.go4 (W := W) hK
       ·simp only [puts, pz]; rfl
       ·exact bez
       ·intro hb; exact ⟨bstep hk hb, unz f45, unz f46, unz f55, unz f56, unz f57, fun _ => by rw [upd_same]; exact FBoxB.new (Below.size hk) _ _ (by rfl), trivial⟩
    ·exact PuresH.nil
    ·intro uT L W hJ hL
     obtain ⟨hk, f45, f46, f55, f56, f57, f10, _⟩ := hJ
     obtain e45 := f45 (hL 8 (by kernel_rfl))
     obtain e46 := f46 (hL 9 (by kernel_rfl))
     obtain e55 := f55 (hL 18 (by kernel_rfl))
     obtain e56 := f56 (hL 19 (by kernel_rfl))
     obtain e57 := f57 (hL 20 (by kernel_rfl))
     obtain ⟨b10, e10, bb10, lb10, cb10⟩ := f10 (hL 21 (by kernel_rfl))
     clear hHeld; have hcW := (bcell hk).1; have hfW := (bcell hk).2; have lW := Below.size hk; have hHeld := hk
     clear f45
     clear f46
     clear f55
     clear f56
     clear f57
     clear f10
     simp only [puts, pz, Array.replicate, e45, e46, e55, e56, e57, e10]
     obtain ⟨⟨y10_0, cy10_0⟩, fy10_0⟩ := cb10 0 (by decide)
     obtain ⟨⟨y10_1, cy10_1⟩, fy10_1⟩ := cb10 1 (by decide)
     refine rd1 22 none rfl (fun K hK => ?_)
     go_simp
     all_goals (try go_wp2_with fail)
     refine hK.out _ _ ?_ (fun hH2 => ?_)
     ·exact bwz
     clear hK K hHeld; (have hHeld := hH2); clear hH2; (try simp only [Act.put])
     refine wpAnyH_done (by kernel_rfl) ?_ _; (try simp only [pz])
     go_wp2_with fail
     go_meet
     exact ⟨_, rfl, ctz, ctz, (by go_simp; done), (by go_simp; done), (by go_simp; done), (by go_simp; done), (by go_simp; done), hide (Mine.later hHeld HM2.out), bstep kB2 hHeld, (by have := hHeld.size; omega)⟩
   case rest =>
    obtain ⟨g2, rfl, f0, f1, m0, m1, m2, m3, m4, HM3, kB3, kz3⟩ := hcut
    clear eu ev ew wq1 wq2 wq3 wq4 wq5 wq6 wq7 KF KG KR kB2 HM2 nd0 nd1 nm0 nm1 nm2 nm3 nm4
    have kg3 : g2 < wc.heap.size := World.block_lt_of_cell? _ _ f0
    have kh3 : w.heap.size + 1 + 1 < wc.heap.size := World.block_lt_of_cell? _ _ m0
    go_upto_region 11 with fail
    refine wp_region_held_drew (S := fun W => Below w.heap.size w W ∧ Mine W (w.heap.size + 1) 4 ∧ W.cell? ⟨wc.heap.size, 0, none⟩ = some (.int .i64 x) ∧ W.cell? ⟨wc.heap.size, 1, none⟩ = some (.int .i64 y) ∧ W.cell? ⟨wc.heap.size, 2, none⟩ = some (.int .i64 (x + q1)) ∧ W.cell? ⟨wc.heap.size, 3, none⟩ = some (.int .i64 (y - q2)) ∧ True) (by kernel_rfl) ⟨Below.drew (bwz), Mine.later (Below.drew (Below.refl _ _)) ((by (repeat with_reducible refine Mine.set ?_); with_reducible exact Mine.later (Below.alloc (Below.refl _ _) (Nat.le_refl _) _) HM3.out)), cell_later (Below.drew (Below.refl _ _)) (by go_simp; done), cell_later (Below.drew (Below.refl _ _)) (by go_simp; done), cell_later (Below.drew (Below.refl _ _)) (by go_simp; done), cell_later (Below.drew (Below.refl _ _)) (by go_simp; done), trivial⟩ (fun hHeld => ?_)
    refine wpAnyH_take (i := 0) (oi := ⟨some 69, _, _, _, _, _⟩) (v := ?_) rfl (by kernel_rfl) (by kernel_rfl) (by kernel_rfl) (by intro _ _ _ h; exact h) (Or.inl ⟨by kernel_rfl, ?_⟩) (by assumption) ?_; rotate_left; focus (intro W0 hSw; have hcS := (bcell hSw.1).1; have hx0 := hSw.2.2.1; have hx1 := hSw.2.2.2.1; have hx2 := hSw.2.2.2.2.1; have hx3 := hSw.2.2.2.2.2.1; go_simp; (try with_reducible rfl))
    refine wpAnyH_take (i := 1) (oi := ⟨some 70, _, _, _, _, _⟩) (v := ?_) rfl (by kernel_rfl) (by kernel_rfl) (by kernel_rfl) (by intro _ _ _ h; exact h) (Or.inl ⟨by kernel_rfl, ?_⟩) (by assumption) ?_; rotate_left; focus (intro W0 hSw; have hcS := (bcell hSw.1).1; have hx0 := hSw.2.2.1; have hx1 := hSw.2.2.2.1; have hx2 := hSw.2.2.2.2.1; have hx3 := hSw.2.2.2.2.2.1; go_simp; (try with_reducible rfl))
    refine rd1 2 (some 71) rfl (fun K hK => ?_)
    go_simp; (go_at_call 103; (with_reducible refine (KI.out _).mono ?_); rintro e w9 ⟨rfl, hb⟩)
    all_goals (try go_wp2_with fail)
    refine hK.out _ _ ?_ (fun hH2 => ?_)
    ·first | exact ⟨bstep hHeld.1 hb, Mine.later hb hHeld.2.1, cell_later hb hHeld.2.2.1, cell_later hb hHeld.2.2.2.1, cell_later hb hHeld.2.2.2.2.1, cell_later hb hHeld.2.2.2.2.2.1, trivial⟩ | exact hHeld
    clear hK K hHeld; (have hHeld := hH2); clear hH2; (try simp only [pz])
    refine rd1 3 none rfl (fun K hK => ?_)
    obtain ⟨⟨mx0, mc0⟩, mf0⟩ := hHeld.2.1 0 (by decide); obtain ⟨⟨mx1, mc1⟩, mf1⟩ := hHeld.2.1 1 (by decide); obtain ⟨⟨mx2, mc2⟩, mf2⟩ := hHeld.2.1 2 (by decide); obtain ⟨⟨mx3, mc3⟩, mf3⟩ := hHeld.2.1 3 (by decide); have hx0 := hHeld.2.2.1; have hx1 := hHeld.2.2.2.1; have hx2 := hHeld.2.2.2.2.1; have hx3 := hHeld.2.2.2.2.2.1; go_simp
    all_goals (try go_wp2_with fail)
    refine hK.out _ _ ?_ (fun hH2 => ?_)
    ·have hHg := hHeld.1; exact ⟨bwz, (by (repeat with_reducible refine Mine.set ?_); exact hHeld.2.1), (by go_simp; done), (by go_simp; done), (by go_simp; done), (by go_simp; done), trivial⟩
    clear hK K hHeld; (have hHeld := hH2); clear hH2; (try simp only [pz])
    refine tkN 4 (some 5) rfl ?_
    refine wpAnyH_done (by kernel_rfl) ?_ _; (try simp only [pz])
    go_wp2
    simp [bodyPost, results, Tryz.results132, go_sem, *]
    all_goals exact hHeld.1
 ·obtain ⟨l1, l2, l3, l4⟩ := rl_2 px py x y z
  rw [l1, l2, l3, l4]
  clear l1 l2 l3 l4
  obtain ⟨w1, hw1⟩ : ∃ v : Int, v = -(10 * z) := ⟨_, rfl⟩
  rw [← hw1]
  obtain ⟨u, hu⟩ : ∃ v : Int, v = x - px := ⟨_, rfl⟩
  obtain ⟨v, hv⟩ : ∃ v : Int, v = y - py := ⟨_, rfl⟩
  rw [← hu, ← hv] at hh ⊢
  obtain ⟨⟨c1, c2⟩, ⟨c3, c4⟩, ⟨c5, c6⟩, ⟨c7, c8⟩, ⟨c9, c10⟩, ⟨c11, c12⟩, c13, c14⟩ := rl_nums (w1 := w1) hh (by omega) (by omega)
  have eu : x - px = u := hu.symm
  have ev : y - py = v := hv.symm
  have ew : -(10 * z) = w1 := hw1.symm
  obtain ⟨r9, hr9⟩ : ∃ r : Int, r = rt (u * u + v * v) := ⟨_, rfl⟩
  rw [← hr9] at c9 c10 c11 c12 c13 c14 ⊢
  obtain ⟨q1, hq1⟩ : ∃ r : Int, r = v * w1 / r9 := ⟨_, rfl⟩
  obtain ⟨q2, hq2⟩ : ∃ r : Int, r = u * w1 / r9 := ⟨_, rfl⟩
  rw [← hq1] at c9 c10 ⊢
  rw [← hq2] at c11 c12 ⊢
  have wq1 : IntKind.i64.wrap (u * u) = u * u := IntWalk.i64_in _ (by omega)
  have wq2 : IntKind.i64.wrap (v * v) = v * v := IntWalk.i64_in _ (by omega)
  have wq3 : IntKind.i64.wrap (u * u + v * v) = u * u + v * v := IntWalk.i64_in _ (by omega)
  have wq4 : IntKind.i64.wrap (v * w1) = v * w1 := IntWalk.i64_in _ (by omega)
  have wq5 : IntKind.i64.wrap (u * w1) = u * w1 := IntWalk.i64_in _ (by omega)
  have wq6 : IntKind.i64.wrap (x + q1) = x + q1 := IntWalk.i64_in _ (by omega)
  have wq7 : IntKind.i64.wrap (y - q2) = y - q2 := IntWalk.i64_in _ (by omega)
  have WQ := hide (And.intro wq1 (And.intro wq2 (And.intro wq3 (And.intro wq4 (And.intro wq5 (And.intro wq6 wq7))))))
  have KR := hide (fun W => show Calls Tryz.prog 108 #[.int .i64 (u * u + v * v)] W fun e w' => e = .returned (.int .i64 r9) ∧ W = w' by rw [hr9]; exact spec_l01Root _ (by omega) (by omega) W)
  have KD := hide (fun W => spec_l01Dot u v u v ⟨by omega, by omega⟩ ⟨by omega, by omega⟩ W)
  have KM := hide (fun W => show Calls Tryz.prog 90 #[.agg #[.int .i64 x, .int .i64 y], .agg #[.int .i64 px, .int .i64 py]] W fun e w' => e = .returned (.agg #[.int .i64 u, .int .i64 v]) ∧ Below W.heap.size W w' by rw [hu, hv]; exact spec_l01Minus x y px py ⟨by omega, by omega⟩ ⟨by omega, by omega⟩ ⟨by omega, by omega⟩ ⟨by omega, by omega⟩ W)
  have KF := hide (fun W => show Calls Tryz.prog 109 #[.int .i64 (v * w1), .int .i64 r9] W fun e w' => e = .returned (.int .i64 q1) ∧ W = w' by rw [hq1]; exact spec_l01Floor _ _ (by omega) (by omega) c13 W)
  have KG := hide (fun W => show Calls Tryz.prog 109 #[.int .i64 (u * w1), .int .i64 r9] W fun e w' => e = .returned (.int .i64 q2) ∧ W = w' by rw [hq2]; exact spec_l01Floor _ _ (by omega) (by omega) c13 W)
  have KI := hide (fun W => spec_IsLine (x + q1) (y - q2) x y W)
  obtain ⟨s9, hs9⟩ : ∃ v, v = isSg (x + q1) (y - q2) x y := ⟨_, rfl⟩
  rw [← hs9] at KI ⊢
  clear hs9
  have Heu := hide (And.intro eu (And.intro ev ew))
  clear hu hv hw1 hr9 hq1 hq2 wq1 wq2 wq3 wq4 wq5 wq6 wq7 eu ev ew hh hp hq hs
  go_enter Tryz.func132, Tryz.ntmps132
  go_upto_region 2 with fail
  go_cut [7] (fun s7 W => ∃ g : Nat, s7 = .pointer (some ⟨g, 0, none⟩) ∧ W.cell? ⟨g, 0, none⟩ = some (.int .i64 u) ∧ W.cell? ⟨g, 1, none⟩ = some (.int .i64 v) ∧ W.cell? ⟨w.heap.size + 1 + 1, 0, none⟩ = some (.string nm) ∧ W.cell? ⟨w.heap.size + 1 + 1, 1, none⟩ = some (.int .i64 x) ∧ W.cell? ⟨w.heap.size + 1 + 1, 2, none⟩ = some (.int .i64 y) ∧ W.cell? ⟨w.heap.size + 1 + 1, 3, none⟩ = some (.int .i64 2) ∧ W.cell? ⟨w.heap.size + 1 + 1, 4, none⟩ = some (.int .i64 z) ∧ Hid (Mine W (w.heap.size + 1) 4) ∧ Below w.heap.size w W ∧ w.heap.size + 1 + 1 < W.heap.size)
  case first =>
   obtain ⟨wT, hT⟩ : ∃ W, W = ((w.alloc (.cells #[.int .i64 ax, .int .i64 ay, .int .i64 bx, .int .i64 bY, .int .i64 cx, .int .i64 cy, .int .i64 dx, .int .i64 dy, .slice (some ⟨b, o, none⟩) n cap] 30)).alloc (.cells #[.int .i64 0, .int .i64 0, .int .i64 0, .int .i64 0] 27)).alloc (.cells #[.string nm, .int .i64 x, .int .i64 y, .int .i64 2, .int .i64 z] 45) := ⟨_, rfl⟩
   have t0 : wT.cell? ⟨w.heap.size, 0, none⟩ = some (.int .i64 ax) := by rw [hT]; go_simp
   have t1 : wT.cell? ⟨w.heap.size, 1, none⟩ = some (.int .i64 ay) := by rw [hT]; go_simp
   have t2 : wT.cell? ⟨w.heap.size, 2, none⟩ = some (.int .i64 bx) := by rw [hT]; go_simp
   have t3 : wT.cell? ⟨w.heap.size, 3, none⟩ = some (.int .i64 bY) := by rw [hT]; go_simp
   have t4 : wT.cell? ⟨w.heap.size, 4, none⟩ = some (.int .i64 cx) := by rw [hT]; go_simp
   have t5 : wT.cell? ⟨w.heap.size, 5, none⟩ = some (.int .i64 cy) := by rw [hT]; go_simp
   have t6 : wT.cell? ⟨w.heap.size, 6, none⟩ = some (.int .i64 dx) := by rw [hT]; go_simp
   have t7 : wT.cell? ⟨w.heap.size, 7, none⟩ = some (.int .i64 dy) := by rw [hT]; go_simp
   have t8 : wT.cell? ⟨w.heap.size, 8, none⟩ = some (.slice (some ⟨b, o, none⟩) n cap) := by rw [hT]; go_simp
   have k0 : wT.cell? ⟨w.heap.size + 1 + 1, 0, none⟩ = some (.string nm) := by rw [hT]; go_simp
   have k1 : wT.cell? ⟨w.heap.size + 1 + 1, 1, none⟩ = some (.int .i64 x) := by rw [hT]; go_simp
   have k2 : wT.cell? ⟨w.heap.size + 1 + 1, 2, none⟩ = some (.int .i64 y) := by rw [hT]; go_simp
   have k3 : wT.cell? ⟨w.heap.size + 1 + 1, 3, none⟩ = some (.int .i64 2) := by rw [hT]; go_simp
   have k4 : wT.cell? ⟨w.heap.size + 1 + 1, 4, none⟩ = some (.int .i64 z) := by rw [hT]; go_simp
   have HMT := hide (show Mine wT (w.heap.size + 1) 4 by
    rw [hT]
    have := mine_make (w := w.alloc (.cells #[.int .i64 ax, .int .i64 ay, .int .i64 bx, .int .i64 bY, .int .i64 cx, .int .i64 cy, .int .i64 dx, .int .i64 dy, .slice (some ⟨b, o, none⟩) n cap] 30)) (c := #[.int .i64 0, .int .i64 0, .int .i64 0, .int .i64 0]) (t := 27) (m := 4) rfl
    simp only [size_al] at this
    exact Mine.later (Below.alloc (Below.refl _ _) (Nat.le_refl _) _) this)
   have HBT := hide (show Below w.heap.size w wT by rw [hT]; exact bwz)
   have zT1 : w.heap.size + 1 + 1 < wT.heap.size := by rw [hT]; simp
   have zT2 : w.heap.size + 1 < wT.heap.size := by omega
   have zT0 : w.heap.size < wT.heap.size := by omega
   have zTb : b < wT.heap.size := by omega
   rw [← hT]
   clear hT e0 e1 e2 e3 e4
   refine wp_region_held_drew (S := fun W => Below wT.heap.size wT W) (by kernel_rfl) (Below.drew (by first | with_reducible exact Below.refl _ _ | with_reducible exact below_drewN (Below.refl _ _) _)) (fun hHeld => ?_)
   refine tkN 0 (some 17) rfl ?_; simp only [pz]
   refine tkL 1 (some 18) rfl ?_; simp only [pz]
   refine tkL 2 (some 19) rfl ?_; simp only [pz]
   refine tkN 4 (some 21) rfl ?_; simp only [pz]
   refine wpAnyH_inv2 (fuel := 1) [3, 5, 6, 7, 8] [] [20, 22, 23, 24, 7] (fun uT L W => Below wT.heap.size wT W ∧ (L 3 → FPRow m K (.int .i64 px) (.int .i64 py) (uT 20) W) ∧ (L 5 → FPAddr (.int .i64 px) (.int .i64 py) (uT 22) W) ∧ (L 6 → (uT 23) = (.agg #[.int .i64 px, .int .i64 py])) ∧ (L 7 → (uT 24) = (.agg #[.int .i64 u, .int .i64 v])) ∧ (L 8 → FBoxB wT 2 (uT 7) W) ∧ True) (by decide) (by kernel_rfl) (by kernel_rfl) (by intro _ _ _ _ _ h; exact h) (fun uT L W hJ => hJ.1) (fun uT L hL => ⟨hHeld, fun k => absurd k (hL 3 (by decide)), fun k => absurd k (hL 5 (by decide)), fun k => absurd k (hL 6 (by decide)), fun k => absurd k (hL 7 (by decide)), fun k => absurd k (hL 8 (by decide)), trivial⟩) ?_ ?_ ?_
   ·refine sc1 20 ?_ ?_
    rotate_left
    refine sc1 22 ?_ ?_
    rotate_left
    refine sc1 23 ?_ ?_
    rotate_left
    refine sc1 24 ?_ ?_
    rotate_left
    refine sc1 7 ?_ ?_
    rotate_left
    exact StepsH.nil
    ·intro uT L W hn hd hJ
     obtain ⟨hk, f20, f22, f23, f24, f7, _⟩ := hJ
     intro K hK
     simp only [puts, pz]
     go_simp; (go_at_call 106; (with_reducible refine (KS.out _ (bstep HBT.out hk)).mono ?_); rintro e w9 ⟨b9, c9, rfl, hl9, hp9, hq9, hb⟩)
     all_goals (try go_wp2_with fail)
     all_goals
      apply Shut.go4 (W := W) hK
      ·simp only [puts, pz]; rfl
      ·exact bez
      ·intro hb; exact ⟨bstep hk hb, fun _ => by rw [upd_same]; exact ⟨b9, c9, rfl, hl9, hp9, hq9⟩, unz fun h => FPAddr.later hb (f22 h), unz f23, unz f24, unz fun h => FBoxB.later hb (f7 h), trivial⟩
    ·intro uT L W hn hd hJ
     obtain ⟨hk, f20, f22, f23, f24, f7, _⟩ := hJ
     obtain ⟨b20, c20, e20, lb20, cb20, cd20⟩ := f20 (hd 3 (by kernel_rfl))
     intro K hK
     simp only [puts, pz, e20]
     go_simp
     all_goals (try go_wp2_with fail)
     all_goals
      apply Shut.go4 (W := W) hK
      ·simp only [puts, pz, e20]; rfl
      ·exact bez
      ·intro hb; exact ⟨bstep hk hb, unz fun h => FPRow.later hb (f20 h), fun _ => by rw [upd_same]; exact ⟨_, _, rfl, lb20, (by first | exact cb20 | simpa using cb20), (by first | exact cd20 | simpa using cd20)⟩, unz f23, unz f24, unz fun h => FBoxB.later hb (f7 h), trivial⟩
    ·intro uT L W hn hd hJ
     obtain ⟨hk, f20, f22, f23, f24, f7, _⟩ := hJ
     obtain ⟨b22, o22, e22, lb22, cb22, cd22⟩ := f22 (hd 5 (by kernel_rfl))
     intro K hK
     simp only [puts, pz, e22]
     go_simp
     all_goals (try go_wp2_with fail)
     all_goals
      apply Shut.go4 (W := W) hK
      ·simp only [puts, pz, e22]; rfl
      ·exact bez
      ·intro hb; exact ⟨bstep hk hb, unz fun h => FPRow.later hb (f20 h), unz fun h => FPAddr.later hb (f22 h), fun _ => upd_same _ _ _, unz f24, unz fun h => FBoxB.later hb (f7 h), trivial⟩
    ·intro uT L W hn hd hJ
     obtain ⟨hk, f20, f22, f23, f24, f7, _⟩ := hJ
     obtain e23 := f23 (hd 6 (by kernel_rfl))
     intro K hK
     simp only [puts, pz, e23]
     go_simp; (go_at_call 90; (with_reducible refine (KM.out _).mono ?_); rintro e w9 ⟨rfl, hb⟩)
     all_goals (try go_wp2_with fail)
     all_goals
      apply Shut.go4 (W := W) hK
      ·simp only [puts, pz, e23]; rfl
      ·exact bez
      ·intro hb; exact ⟨bstep hk hb, unz fun h => FPRow.later hb (f20 h), unz fun h => FPAddr.later hb (f22 h), unz f23, fun _ => upd_same _ _ _, unz fun h => FBoxB.later hb (f7 h), trivial⟩
    ·intro uT L W hn hd hJ
     obtain ⟨hk, f20, f22, f23, f24, f7, _⟩ := hJ
     intro K hK
     simp only [puts, pz]
     go_simp
     all_goals (try go_wp2_with fail)
     all_goals
      apply Shut.go4 (W := W) hK
      ·simp only [puts, pz]; rfl
      ·exact bez
      ·intro hb; exact ⟨bstep hk hb, unz fun h => FPRow.later hb (f20 h), unz fun h => FPAddr.later hb (f22 h), unz f23, unz f24, fun _ => by rw [upd_same]; exact FBoxB.new (Below.size hk) _ _ (by rfl), trivial⟩
   ·exact PuresH.nil
   ·intro uT L W hJ hL
    obtain ⟨hk, f20, f22, f23, f24, f7, _⟩ := hJ
    obtain ⟨b20, c20, e20, lb20, cb20, cd20⟩ := f20 (hL 3 (by kernel_rfl))
    obtain ⟨b22, o22, e22, lb22, cb22, cd22⟩ := f22 (hL 5 (by kernel_rfl))
    obtain e23 := f23 (hL 6 (by kernel_rfl))
    obtain e24 := f24 (hL 7 (by kernel_rfl))
    obtain ⟨b7, e7, bb7, lb7, cb7⟩ := f7 (hL 8 (by kernel_rfl))
    clear hHeld; have hcW := (bcell hk).1; have hfW := (bcell hk).2; have lW := Below.size hk; have hHeld := hk
    clear f20
    clear f22
    clear f23
    clear f24
    clear f7
    simp only [puts, pz, Array.replicate, e20, e22, e23, e24, e7]
    obtain ⟨⟨y7_0, cy7_0⟩, fy7_0⟩ := cb7 0 (by decide)
    obtain ⟨⟨y7_1, cy7_1⟩, fy7_1⟩ := cb7 1 (by decide)
    refine rd1 9 none rfl (fun K hK => ?_)
    go_simp
    all_goals (try go_wp2_with fail)
    refine hK.out _ _ ?_ (fun hH2 => ?_)
    ·exact bwz
    clear hK K hHeld; (have hHeld := hH2); clear hH2; (try simp only [Act.put])
    refine wpAnyH_done (by kernel_rfl) ?_ _; (try simp only [pz])
    go_wp2_with fail
    go_meet
    exact ⟨_, rfl, ctz, ctz, (by go_simp; done), (by go_simp; done), (by go_simp; done), (by go_simp; done), (by go_simp; done), hide (Mine.later hHeld HMT.out), bstep HBT.out hHeld, (by have := hHeld.size; omega)⟩
  case rest =>
   obtain ⟨eu, ev, ew⟩ := Heu.out
   obtain ⟨wq1, wq2, wq3, wq4, wq5, wq6, wq7⟩ := WQ.out
   obtain ⟨g, rfl, d0, d1, m0, m1, m2, m3, m4, HM, kB, kz⟩ := hcut
   have kg : g < wc.heap.size := World.block_lt_of_cell? _ _ d0
   clear Heu WQ KS e0 e1 e2 e3 e4
   go_wp2_with fail; (with_reducible refine (KD.out _).mono ?_); rintro e wD ⟨rfl, hb⟩
   have nd0 := cell_later hb d0
   have nd1 := cell_later hb d1
   have nm0 := cell_later hb m0
   have nm1 := cell_later hb m1
   have nm2 := cell_later hb m2
   have nm3 := cell_later hb m3
   have nm4 := cell_later hb m4
   have HM2 := hide (Mine.later hb HM.out)
   have kB2 := bstep kB hb
   have zD := hb.size
   have kg2 : g < wD.heap.size := by omega
   have kz2 : w.heap.size + 1 + 1 < wD.heap.size := by omega
   clear hb d0 d1 m0 m1 m2 m3 m4 HM kB KD
   go_upto_region 7 with (go_at_call 108; (with_reducible refine (KR.out _).mono ?_); rintro e w9 ⟨rfl, rfl⟩)
   go_cut [10] (fun s W => ∃ g2 : Nat, s = .pointer (some ⟨g2, 0, none⟩) ∧ W.cell? ⟨g2, 0, none⟩ = some (.int .i64 (x + q1)) ∧ W.cell? ⟨g2, 1, none⟩ = some (.int .i64 (y - q2)) ∧ W.cell? ⟨w.heap.size + 1 + 1, 0, none⟩ = some (.string nm) ∧ W.cell? ⟨w.heap.size + 1 + 1, 1, none⟩ = some (.int .i64 x) ∧ W.cell? ⟨w.heap.size + 1 + 1, 2, none⟩ = some (.int .i64 y) ∧ W.cell? ⟨w.heap.size + 1 + 1, 3, none⟩ = some (.int .i64 2) ∧ W.cell? ⟨w.heap.size + 1 + 1, 4, none⟩ = some (.int .i64 z) ∧ Hid (Mine W (w.heap.size + 1) 4) ∧ Below w.heap.size w W ∧ w.heap.size + 1 < W.heap.size)
   case first =>
    obtain ⟨wX, rfl⟩ : ∃ W : World, W = wD := ⟨_, rfl⟩
    refine wp_region_held_drew (S := fun W => Below wX.heap.size wX W) (by kernel_rfl) (Below.drew (by first | with_reducible exact Below.refl _ _ | with_reducible exact below_drewN (Below.refl _ _) _)) (fun hHeld => ?_)
    refine tkN 0 (some 37) rfl ?_; simp only [pz]
    refine tkN 1 (some 38) rfl ?_; simp only [pz]
    refine tkL 2 (some 39) rfl ?_; simp only [pz]
    refine tkN 3 (some 40) rfl ?_; simp only [pz]
    refine tkL 4 (some 41) rfl ?_; simp only [pz]
    refine tkN 5 (some 42) rfl ?_; simp only [pz]
    refine tkN 6 (some 43) rfl ?_; simp only [pz]
    refine tkN 7 (some 44) rfl ?_; simp only [pz]
    refine tkN 10 (some 47) rfl ?_; simp only [pz]
    refine tkN 11 (some 48) rfl ?_; simp only [pz]
    refine tkL 12 (some 49) rfl ?_; simp only [pz]
    refine tkN 13 (some 50) rfl ?_; simp only [pz]
    refine tkL 14 (some 51) rfl ?_; simp only [pz]
    refine tkN 15 (some 52) rfl ?_; simp only [pz]
    refine tkN 16 (some 53) rfl ?_; simp only [pz]
    refine tkN 17 (some 54) rfl ?_; simp only [pz]
    refine wpAnyH_inv2 (fuel := 1) [8, 9, 18, 19, 20, 21] [] [45, 46, 55, 56, 57, 10] (fun uT L W => Below wX.heap.size wX W ∧ (L 8 → (uT 45) = (.int .i64 q1)) ∧ (L 9 → (uT 46) = (.int .i64 (x + q1))) ∧ (L 18 → (uT 55) = (.int .i64 q2)) ∧ (L 19 → (uT 56) = (.int .i64 (y - q2))) ∧ (L 20 → (uT 57) = (.agg #[.int .i64 (x + q1), .int .i64 (y - q2)])) ∧ (L 21 → FBoxB wX 2 (uT 10) W) ∧ True) (by decide) (by kernel_rfl) (by kernel_rfl) (by intro _ _ _ _ _ h; exact h) (fun uT L W hJ => hJ.1) (fun uT L hL => ⟨hHeld, fun k => absurd k (hL 8 (by decide)), fun k => absurd k (hL 9 (by decide)), fun k => absurd k (hL 18 (by decide)), fun k => absurd k (hL 19 (by decide)), fun k => absurd k (hL 20 (by decide)), fun k => absurd k (hL 21 (by decide)), trivial⟩) ?_ ?_ ?_
    ·refine sc1 45 ?_ ?_
     rotate_left
     refine sc1 46 ?_ ?_
     rotate_left
     refine sc1 55 ?_ ?_
     rotate_left
     refine sc1 56 ?_ ?_
     rotate_left
     refine sc1 57 ?_ ?_
     rotate_left
     refine sc1 10 ?_ ?_
     rotate_left
     exact StepsH.nil
     ·intro uT L W hn hd hJ
      obtain ⟨hk, f45, f46, f55, f56, f57, f10, _⟩ := hJ
      intro K hK
      simp only [puts, pz]
      go_simp; (first | (go_at_call 109; (with_reducible refine (KF.out _).mono ?_); rintro e w9 ⟨rfl, rfl⟩) | (go_at_call 109; (with_reducible refine (KG.out _).mono ?_); rintro e w9 ⟨rfl, rfl⟩))
      all_goals (try go_wp2_with fail)
      all_goals
       apply Shut.go4 (W := W) hK
       ·simp only [puts, pz]; rfl
       ·exact bez
       ·intro hb; exact ⟨bstep hk hb, fun _ => upd_same _ _ _, unz f46, unz f55, unz f56, unz f57, unz fun h => FBoxB.later hb (f10 h), trivial⟩
     ·intro uT L W hn hd hJ
      obtain ⟨hk, f45, f46, f55, f56, f57, f10, _⟩ := hJ
      obtain e45 := f45 (hd 8 (by kernel_rfl))
      intro K hK
      simp only [puts, pz, e45]
      go_simp
      all_goals (try go_wp2_with fail)
      all_goals
       apply Shut.go4 (W := W) hK
       ·simp only [puts, pz, e45]; rfl
       ·exact bez
       ·intro hb; exact ⟨bstep hk hb, unz f45, fun _ => upd_same _ _ _, unz f55, unz f56, unz f57, unz fun h => FBoxB.later hb (f10 h), trivial⟩
     ·intro uT L W hn hd hJ
      obtain ⟨hk, f45, f46, f55, f56, f57, f10, _⟩ := hJ
      intro K hK
      simp only [puts, pz]
      go_simp; (first | (go_at_call 109; (with_reducible refine (KF.out _).mono ?_); rintro e w9 ⟨rfl, rfl⟩) | (go_at_call 109; (with_reducible refine (KG.out _).mono ?_); rintro e w9 ⟨rfl, rfl⟩))
      all_goals (try go_wp2_with fail)
      all_goals
       apply Shut.go4 (W := W) hK
       ·simp only [puts, pz]; rfl
       ·exact bez
       ·intro hb; exact ⟨bstep hk hb, unz f45, unz f46, fun _ => upd_same _ _ _, unz f56, unz f57, unz fun h => FBoxB.later hb (f10 h), trivial⟩
     ·intro uT L W hn hd hJ
      obtain ⟨hk, f45, f46, f55, f56, f57, f10, _⟩ := hJ
      obtain e55 := f55 (hd 18 (by kernel_rfl))
      intro K hK
      simp only [puts, pz, e55]
      go_simp
      all_goals (try go_wp2_with fail)
      all_goals
       apply Shut.go4 (W := W) hK
       ·simp only [puts, pz, e55]; rfl
       ·exact bez
       ·intro hb; exact ⟨bstep hk hb, unz f45, unz f46, unz f55, fun _ => upd_same _ _ _, unz f57, unz fun h => FBoxB.later hb (f10 h), trivial⟩
     ·intro uT L W hn hd hJ
      obtain ⟨hk, f45, f46, f55, f56, f57, f10, _⟩ := hJ
      obtain e46 := f46 (hd 9 (by kernel_rfl))
      obtain e56 := f56 (hd 19 (by kernel_rfl))
      intro K hK
      simp only [puts, pz, e46, e56]
      go_simp
      all_goals (try go_wp2_with fail)
      all_goals
       apply Shut.go4 (W := W) hK
       ·simp only [puts, pz, e46, e56]; rfl
       ·exact bez
       ·intro hb; exact ⟨bstep hk hb, unz f45, unz f46, unz f55, unz f56, fun _ => upd_same _ _ _, unz fun h => FBoxB.later hb (f10 h), trivial⟩
     ·intro uT L W hn hd hJ
      obtain ⟨hk, f45, f46, f55, f56, f57, f10, _⟩ := hJ
      intro K hK
      simp only [puts, pz]
      go_simp
      all_goals (try go_wp2_with fail)
      all_goals
       apply Shut.go4 (W := W) hK
       ·simp only [puts, pz]; rfl
       ·exact bez
       ·intro hb; exact ⟨bstep hk hb, unz f45, unz f46, unz f55, unz f56, unz f57, fun _ => by rw [upd_same]; exact FBoxB.new (Below.size hk) _ _ (by rfl), trivial⟩
    ·exact PuresH.nil
    ·intro uT L W hJ hL
     obtain ⟨hk, f45, f46, f55, f56, f57, f10, _⟩ := hJ
     obtain e45 := f45 (hL 8 (by kernel_rfl))
     obtain e46 := f46 (hL 9 (by kernel_rfl))
     obtain e55 := f55 (hL 18 (by kernel_rfl))
     obtain e56 := f56 (hL 19 (by kernel_rfl))
     obtain e57 := f57 (hL 20 (by kernel_rfl))
     obtain ⟨b10, e10, bb10, lb10, cb10⟩ := f10 (hL 21 (by kernel_rfl))
     clear hHeld; have hcW := (bcell hk).1; have hfW := (bcell hk).2; have lW := Below.size hk; have hHeld := hk
     clear f45
     clear f46
     clear f55
     clear f56
     clear f57
     clear f10
     simp only [puts, pz, Array.replicate, e45, e46, e55, e56, e57, e10]
     obtain ⟨⟨y10_0, cy10_0⟩, fy10_0⟩ := cb10 0 (by decide)
     obtain ⟨⟨y10_1, cy10_1⟩, fy10_1⟩ := cb10 1 (by decide)
     refine rd1 22 none rfl (fun K hK => ?_)
     go_simp
     all_goals (try go_wp2_with fail)
     refine hK.out _ _ ?_ (fun hH2 => ?_)
     ·exact bwz
     clear hK K hHeld; (have hHeld := hH2); clear hH2; (try simp only [Act.put])
     refine wpAnyH_done (by kernel_rfl) ?_ _; (try simp only [pz])
     go_wp2_with fail
     go_meet
     exact ⟨_, rfl, ctz, ctz, (by go_simp; done), (by go_simp; done), (by go_simp; done), (by go_simp; done), (by go_simp; done), hide (Mine.later hHeld HM2.out), bstep kB2 hHeld, (by have := hHeld.size; omega)⟩
   case rest =>
    obtain ⟨g2, rfl, f0, f1, m0, m1, m2, m3, m4, HM3, kB3, kz3⟩ := hcut
    clear eu ev ew wq1 wq2 wq3 wq4 wq5 wq6 wq7 KF KG KR kB2 HM2 nd0 nd1 nm0 nm1 nm2 nm3 nm4
    have kg3 : g2 < wc.heap.size := World.block_lt_of_cell? _ _ f0
    have kh3 : w.heap.size + 1 + 1 < wc.heap.size := World.block_lt_of_cell? _ _ m0
    go_upto_region 11 with fail
    refine wp_region_held_drew (S := fun W => Below w.heap.size w W ∧ Mine W (w.heap.size + 1) 4 ∧ W.cell? ⟨wc.heap.size, 0, none⟩ = some (.int .i64 (x + q1)) ∧ W.cell? ⟨wc.heap.size, 1, none⟩ = some (.int .i64 (y - q2)) ∧ W.cell? ⟨wc.heap.size, 2, none⟩ = some (.int .i64 x) ∧ W.cell? ⟨wc.heap.size, 3, none⟩ = some (.int .i64 y) ∧ True) (by kernel_rfl) ⟨Below.drew (bwz), Mine.later (Below.drew (Below.refl _ _)) ((by (repeat with_reducible refine Mine.set ?_); with_reducible exact Mine.later (Below.alloc (Below.refl _ _) (Nat.le_refl _) _) HM3.out)), cell_later (Below.drew (Below.refl _ _)) (by go_simp; done), cell_later (Below.drew (Below.refl _ _)) (by go_simp; done), cell_later (Below.drew (Below.refl _ _)) (by go_simp; done), cell_later (Below.drew (Below.refl _ _)) (by go_simp; done), trivial⟩ (fun hHeld => ?_)
    refine wpAnyH_take (i := 0) (oi := ⟨some 69, _, _, _, _, _⟩) (v := ?_) rfl (by kernel_rfl) (by kernel_rfl) (by kernel_rfl) (by intro _ _ _ h; exact h) (Or.inl ⟨by kernel_rfl, ?_⟩) (by assumption) ?_; rotate_left; focus (intro W0 hSw; have hcS := (bcell hSw.1).1; have hx0 := hSw.2.2.1; have hx1 := hSw.2.2.2.1; have hx2 := hSw.2.2.2.2.1; have hx3 := hSw.2.2.2.2.2.1; go_simp; (try with_reducible rfl))
    refine wpAnyH_take (i := 1) (oi := ⟨some 70, _, _, _, _, _⟩) (v := ?_) rfl (by kernel_rfl) (by kernel_rfl) (by kernel_rfl) (by intro _ _ _ h; exact h) (Or.inl ⟨by kernel_rfl, ?_⟩) (by assumption) ?_; rotate_left; focus (intro W0 hSw; have hcS := (bcell hSw.1).1; have hx0 := hSw.2.2.1; have hx1 := hSw.2.2.2.1; have hx2 := hSw.2.2.2.2.1; have hx3 := hSw.2.2.2.2.2.1; go_simp; (try with_reducible rfl))
    refine rd1 2 (some 71) rfl (fun K hK => ?_)
    go_simp; (go_at_call 103; (with_reducible refine (KI.out _).mono ?_); rintro e w9 ⟨rfl, hb⟩)
    all_goals (try go_wp2_with fail)
    refine hK.out _ _ ?_ (fun hH2 => ?_)
    ·first | exact ⟨bstep hHeld.1 hb, Mine.later hb hHeld.2.1, cell_later hb hHeld.2.2.1, cell_later hb hHeld.2.2.2.1, cell_later hb hHeld.2.2.2.2.1, cell_later hb hHeld.2.2.2.2.2.1, trivial⟩ | exact hHeld
    clear hK K hHeld; (have hHeld := hH2); clear hH2; (try simp only [pz])
    refine rd1 3 none rfl (fun K hK => ?_)
    obtain ⟨⟨mx0, mc0⟩, mf0⟩ := hHeld.2.1 0 (by decide); obtain ⟨⟨mx1, mc1⟩, mf1⟩ := hHeld.2.1 1 (by decide); obtain ⟨⟨mx2, mc2⟩, mf2⟩ := hHeld.2.1 2 (by decide); obtain ⟨⟨mx3, mc3⟩, mf3⟩ := hHeld.2.1 3 (by decide); have hx0 := hHeld.2.2.1; have hx1 := hHeld.2.2.2.1; have hx2 := hHeld.2.2.2.2.1; have hx3 := hHeld.2.2.2.2.2.1; go_simp
    all_goals (try go_wp2_with fail)
    refine hK.out _ _ ?_ (fun hH2 => ?_)
    ·have hHg := hHeld.1; exact ⟨bwz, (by (repeat with_reducible refine Mine.set ?_); exact hHeld.2.1), (by go_simp; done), (by go_simp; done), (by go_simp; done), (by go_simp; done), trivial⟩
    clear hK K hHeld; (have hHeld := hH2); clear hH2; (try simp only [pz])
    refine tkN 4 (some 5) rfl ?_
    refine wpAnyH_done (by kernel_rfl) ?_ _; (try simp only [pz])
    go_wp2
    simp [bodyPost, results, Tryz.results132, go_sem, *]
    all_goals exact hHeld.1
end Go.Proofs.YtgcdgdnmcdffoaaGreatDoor
