/- Walks: quotients of great products; the crossings of a track and a line, of the program. -/
import Derived.Test.YtiokigjnacmilaaGreatDoorXv
import Derived.Test.YtiokigjnacmilaaGreatDoorZl
namespace Go.Proofs.YtiokigjnacmilaaGreatDoor
open Go.RowKit

theorem hilo64 {p : Int} (h0 : 0 ≤ p) : hi64 p * 18446744073709551616 + lo64 p = p ∧ 0 ≤ hi64 p ∧ 0 ≤ lo64 p ∧ lo64 p ≤ 18446744073709551615 := by unfold hi64 lo64; omega
set_option maxHeartbeats 2000000 in
theorem impl_mulDiv_q (x y c : Int) (h1 : 0 ≤ x) (h2 : x ≤ 9223372036854775807) (h3 : 0 ≤ y) (h4 : y ≤ 9223372036854775807) (h5 : 1 ≤ c) (h6 : c ≤ 9223372036854775807) (hq : x * y / c ≤ 2147483647) (w : World) :
    Calls Tryz.prog 97 #[.int .i64 x, .int .i64 y, .int .i64 c] w fun e w' => e = .returned (.tuple #[.int .i64 (x * y / c), .bool (decide (0 < x * y % c))]) ∧ Below w.heap.size w w' := by
  have hp := Int.mul_nonneg h1 h3
  have K1 := fun W => bits_Mul64 x y h1 h2 h3 h4 W
  generalize x * y = p at *
  obtain ⟨e0, e1, e2, e3⟩ := hilo64 hp
  have KM := hide K1
  have hq0 : 0 ≤ p / c := Int.ediv_nonneg hp (by omega)
  have hr0 : 0 ≤ p % c := Int.emod_nonneg _ (by omega)
  have hr1 : p % c < c := Int.emod_lt_of_pos _ (by omega)
  have KD : ∀ W, Calls Tryz.prog 113 #[.int .u64 (hi64 p), .int .u64 (lo64 p), .int .u64 c] W fun e w' => e = .returned (.tuple #[.int .u64 (p / c), .int .u64 (p % c)]) ∧ Below W.heap.size W w' := fun W => by
    by_cases hh : hi64 p = 0
    · have K := bits_Div64_small (lo64 p) c e2 e3 h5 h6 W
      have el : lo64 p = p := by rw [hh] at e0; omega
      rw [el] at K
      rw [hh, el]
      exact K
    · have K := bits_Div64_q (hi64 p) (lo64 p) c (by omega) e2 e3 h5 h6 (by rw [e0]; exact hq) W
      rw [e0] at K
      exact K
  have KD := hide KD
  clear K1 e0
  go_enter Tryz.func97, Tryz.ntmps97
  go_wp2_with (first | (go_at_call 112; (with_reducible refine (KM.out _).mono ?_); rintro e w9 ⟨rfl, rfl⟩) | (go_at_call 113; (with_reducible refine (KD.out _).mono ?_); rintro e w9 ⟨rfl, hb⟩))
  go_ret2
  exact ⟨rfl, hb⟩
theorem new5 {W : World} {e : TypeId} {x y z u' v : Value} : ∀ (j : Nat) (u : Value), [x, y, z, u', v][j]? = some u → (W.alloc (.cells #[x, y, z, u', v] e)).cell? ((⟨W.heap.size, 0, none⟩ : Addr).add j) = some u := fun j u hj => by
  match j, hj with
  | 0, hj => simp at hj; subst hj; simp [Addr.add]
  | 1, hj => simp at hj; subst hj; simp [Addr.add]
  | 2, hj => simp at hj; subst hj; simp [Addr.add]
  | 3, hj => simp at hj; subst hj; simp [Addr.add]
  | 4, hj => simp at hj; subst hj; simp [Addr.add]
theorem one5 (x y z u' v : Int) : ∀ u ∈ [Value.int .i64 x, Value.int .i64 y, Value.int .i64 z, Value.int .i64 u', Value.int .i64 v], u.oneCell' = true := fun u hu => by
  simp at hu; rcases hu with rfl | rfl | rfl | rfl | rfl <;> rfl
theorem infoCx : (Tryz.prog.info? 102).map (fun i => (i.zero, i.size, i.bytes)) = some (some (.agg #[.int .i64 0, .int .i64 0, .int .i64 0, .int .i64 0, .int .i64 0]), 5, 40) := by kernel_rfl
/-- What is known of a crossing. -/
theorem cx_facts {ax ay bx bY : Int} {n k : Nat} {T U V : Nat → Int} (hl : isSg ax ay bx bY = true) (hv : isTr n T U V = true) (hk : k + 1 < n) (hw : ¬ wyL ax ay bx bY U V k = 0) :
    0 ≤ cxN ax ay bx bY U V k ∧ cxN ax ay bx bY U V k ≤ cxD ax ay bx bY U V k ∧ 1 ≤ cxD ax ay bx bY U V k ∧ cxD ax ay bx bY U V k ≤ 16000000000000 := by
  obtain ⟨_, _, _, p0, p1⟩ := isTr_leg hv hk
  obtain ⟨c0, c1, c2, c3⟩ := cp_pre hl p0 p1
  obtain ⟨f1, f2, f3, f4⟩ := cp_facts (way_den hw)
  refine ⟨f1, f2, f3, Int.le_trans f4 ?_⟩
  unfold absI; split <;> split <;> omega
theorem cxT_bd {ax ay bx bY : Int} {n k : Nat} {T U V : Nat → Int} (hl : isSg ax ay bx bY = true) (hv : isTr n T U V = true) (hk : k + 1 < n) (hw : ¬ wyL ax ay bx bY U V k = 0) : 0 ≤ cxT ax ay bx bY T U V k ∧ cxT ax ay bx bY T U V k ≤ 1000000000 := by
  obtain ⟨t0, t1, t2, _, _⟩ := isTr_leg hv hk
  obtain ⟨f1, f2, f3, f4⟩ := cx_facts hl hv hk hw
  obtain ⟨g1, g2, g3, g4⟩ := gone_bd (show 0 ≤ T (k + 1) - T k by omega) f1 f2 f3
  unfold cxT; omega
set_option maxRecDepth 100000 in
set_option maxHeartbeats 8000000 in
theorem impl_crossingsOf (ax ay bx bY : Int) (b o n cap : Nat) (T U V : Nat → Int) (w : World) (h : RowAt w (some ⟨b, o, none⟩) n 3 (v3 T U V)) (hv : isTr n T U V = true) (hl : isSg ax ay bx bY = true) :
    Calls Tryz.prog 83 #[.agg #[.slice (some ⟨b, o, none⟩) n cap], .agg #[.int .i64 ax, .int .i64 ay, .int .i64 bx, .int .i64 bY]] w fun e w' => ∃ g cp, e = .returned (.slice (some ⟨g, 0, none⟩) (cxs ax ay bx bY U V (n - 1)).length cp) ∧ w'.ownsRow w.heap.size 102 5 (.slice (some ⟨g, 0, none⟩) (cxs ax ay bx bY U V (n - 1)).length cp) (cxs ax ay bx bY U V (n - 1)).length (cxCs ax ay bx bY T U V (cxs ax ay bx bY U V (n - 1))) ∧ Below w.heap.size w w' := by
  obtain ⟨hn2, hn40, hall⟩ := isTr_t hv
  obtain ⟨i1, hi, hz0, hz1', hz2'⟩ := info_parts infoCx
  have Hi := hide hi
  have Hz := hide (And.intro hz0 (And.intro hz1' hz2'))
  clear hi hz0 hz1' hz2'
  obtain ⟨la, lb, _⟩ := isSg_t hl
  obtain ⟨s1, s2⟩ := pt_sm la
  obtain ⟨s3, s4⟩ := pt_sm lb
  have KS := hide (fun (l : Nat) (hl : l + 1 < n) W (hb : Below w.heap.size w W) => impl_legSegment b o n cap l T U V W (RowAt.later hb h) hn40 hl)
  have KY := hide (fun (l : Nat) (hl : l + 1 < n) W => impl_wayAcross ax ay bx bY (U l) (V l) (U (l + 1)) (V (l + 1)) s1 s2 s3 s4 (pt_sm (isTr_leg hv hl).2.2.2.1).1 (pt_sm (isTr_leg hv hl).2.2.2.1).2 (pt_sm (isTr_leg hv hl).2.2.2.2).1 (pt_sm (isTr_leg hv hl).2.2.2.2).2 W)
  have KP := hide (fun (l : Nat) (hll : l + 1 < n) (hw : ¬ wyL ax ay bx bY U V l = 0) W => impl_CrossingPlace_ok ax ay bx bY (U l) (V l) (U (l + 1)) (V (l + 1)) hl (isTr_leg hv hll).2.2.2.1 (isTr_leg hv hll).2.2.2.2 hw W)
  have HF := hide (fun (l : Nat) (hll : l + 1 < n) (hw : ¬ wyL ax ay bx bY U V l = 0) => cx_facts hl hv hll hw)
  have HT := hide (fun (l : Nat) (hll : l + 1 < n) => isTr_leg hv hll)
  have Hh := hide h
  clear h hv hl la lb s1 s2 s3 s4 hall
  go_enter Tryz.func83, Tryz.ntmps83
  have we0 : IntKind.i64.wrap ((n : Int) - 1) = (n : Int) - 1 := IntWalk.i64_in _ (by omega)
  go_wp2
  clear we0
  go_loopw [5, 19] (fun v i wr => ∃ k g9 cp9 : Nat, k + 1 ≤ n ∧ i = .int .i64 k ∧ v = .slice (some ⟨g9, 0, none⟩) (cxs ax ay bx bY U V k).length cp9 ∧ Hid (wr.ownsRow (w.heap.size + 1 + 1) 102 5 (.slice (some ⟨g9, 0, none⟩) (cxs ax ay bx bY U V k).length cp9) (cxs ax ay bx bY U V k).length (cxCs ax ay bx bY T U V (cxs ax ay bx bY U V k))) ∧ wr.cell? ⟨w.heap.size, 0, none⟩ = some (.slice (some ⟨b, o, none⟩) n cap) ∧ wr.cell? ⟨w.heap.size + 1, 0, none⟩ = some (.int .i64 ax) ∧ wr.cell? ⟨w.heap.size + 1, 1, none⟩ = some (.int .i64 ay) ∧ wr.cell? ⟨w.heap.size + 1, 2, none⟩ = some (.int .i64 bx) ∧ wr.cell? ⟨w.heap.size + 1, 3, none⟩ = some (.int .i64 bY) ∧ Below w.heap.size w wr) (fun _ i _ => n - (intOf i).toNat)
  case atStart =>
    refine ⟨0, w.heap.size + 1 + 1, 0, by omega, rfl, rfl, hide ?_, by go_simp, by go_simp, by go_simp, by go_simp, by go_simp, bwz⟩
    have hm := World.ownsRow_made (base := w.heap.size + 1 + 1) (e := 102) (size := 5) ((w.alloc (.cells #[.slice (some ⟨b, o, none⟩) n cap] 60)).alloc (.cells #[.int .i64 ax, .int .i64 ay, .int .i64 bx, .int .i64 bY] 37)) #[] 0 (by simp) (by decide) rfl
    simp only [size_al] at hm
    exact hm
  case round =>
    obtain ⟨k, g9, cp9, hk, rfl, rfl, HO, e0, e1, e2, e3, e4, hbl⟩ := hrel
    have hg9b := HO.out.lt g9 rfl
    have zr0 : w.heap.size < wr.heap.size := by omega
    have zr1 : w.heap.size + 1 < wr.heap.size := by omega
    have HBl := hide hbl
    by_cases hlt : k + 1 < n
    · have we : IntKind.i64.wrap ((k : Int) + 1) = (k : Int) + 1 := IntWalk.i64_in _ (by omega)
      have hi1 : (k : Int) < (n : Int) - 1 := by omega
      have hi2 : (k : Int) < (n : Int) := by omega
      have hi3 : (k : Int) + 1 < (n : Int) := by omega
      have hi4 : (0 : Int) ≤ (k : Int) := by omega
      have hi5 : (0 : Int) ≤ (k : Int) + 1 := by omega
      have hl9 := cxs_len ax ay bx bY U V k
      have Kk := hide (fun W (hb : Below wr.heap.size wr W) => KS.out k hlt W (bstep HBl.out hb))
      have Ky := fun W => (show wayI ax ay bx bY (U k) (V k) (U (k + 1)) (V (k + 1)) = wyL ax ay bx bY U V k from rfl) ▸ KY.out k hlt W
      obtain ⟨y9, hy9⟩ : ∃ v, v = wyL ax ay bx bY U V k := ⟨_, rfl⟩
      rw [← hy9] at Ky
      have Ky := hide Ky
      have Hy9 := hide hy9
      clear hbl hy9
      obtain ⟨a1, j1⟩ : ∃ v, v = U k := ⟨_, rfl⟩
      obtain ⟨a2, j2⟩ : ∃ v, v = V k := ⟨_, rfl⟩
      obtain ⟨a3, j3⟩ : ∃ v, v = U (k + 1) := ⟨_, rfl⟩
      obtain ⟨a4, j4⟩ : ∃ v, v = V (k + 1) := ⟨_, rfl⟩
      have Kp := hide (fun (hw : ¬ y9 = 0) W => (show cpN (crs ax ay bx bY a1 a2) (crs ax ay bx bY a3 a4) = cxN ax ay bx bY U V k by rw [j1, j2, j3, j4]; rfl) ▸ (show cpD (crs ax ay bx bY a1 a2) (crs ax ay bx bY a3 a4) = cxD ax ay bx bY U V k by rw [j1, j2, j3, j4]; rfl) ▸ j1 ▸ j2 ▸ j3 ▸ j4 ▸ KP.out k hlt (by rw [← Hy9.out]; exact hw) W)
      rw [← j1, ← j2, ← j3, ← j4] at Kk Ky
      clear j1 j2 j3 j4
      go_upto_region 6 with (go_at_call 94; (with_reducible refine (Kk.out _ (Below.refl _ _)).mono ?_); rintro e wA ⟨rfl, hb⟩; have zA := hb.size; have d0 := cell_later hb e0; have d1 := cell_later hb e1; have d2 := cell_later hb e2; have d3 := cell_later hb e3; have d4 := cell_later hb e4; have hOA := own_later hb HO.out; have hBA := bstep HBl.out hb; clear e0 e1 e2 e3 e4 hb)
      obtain ⟨wS, hS⟩ : ∃ W, W = wA.alloc (.cells #[.int .i64 a1, .int .i64 a2, .int .i64 a3, .int .i64 a4] 129) := ⟨_, rfl⟩
      have s1 : wS.cell? ⟨wA.heap.size, 0, none⟩ = some (.int .i64 a1) := by rw [hS]; go_simp
      have s2 : wS.cell? ⟨wA.heap.size, 1, none⟩ = some (.int .i64 a2) := by rw [hS]; go_simp
      have s3 : wS.cell? ⟨wA.heap.size, 2, none⟩ = some (.int .i64 a3) := by rw [hS]; go_simp
      have s4 : wS.cell? ⟨wA.heap.size, 3, none⟩ = some (.int .i64 a4) := by rw [hS]; go_simp
      have m0 : wS.cell? ⟨w.heap.size, 0, none⟩ = some (.slice (some ⟨b, o, none⟩) n cap) := by rw [hS]; exact cell_alloc d0
      have m1 : wS.cell? ⟨w.heap.size + 1, 0, none⟩ = some (.int .i64 ax) := by rw [hS]; exact cell_alloc d1
      have m2 : wS.cell? ⟨w.heap.size + 1, 1, none⟩ = some (.int .i64 ay) := by rw [hS]; exact cell_alloc d2
      have m3 : wS.cell? ⟨w.heap.size + 1, 2, none⟩ = some (.int .i64 bx) := by rw [hS]; exact cell_alloc d3
      have m4 : wS.cell? ⟨w.heap.size + 1, 3, none⟩ = some (.int .i64 bY) := by rw [hS]; exact cell_alloc d4
      have HBS := hide (show Below w.heap.size w wS by rw [hS]; exact Below.alloc hBA (by omega) _)
      have HOS := hide (show wS.ownsRow (w.heap.size + 1 + 1) 102 5 (.slice (some ⟨g9, 0, none⟩) (cxs ax ay bx bY U V k).length cp9) (cxs ax ay bx bY U V k).length (cxCs ax ay bx bY T U V (cxs ax ay bx bY U V k)) by rw [hS]; exact hOA.alloc _)
      have zS : wA.heap.size < wS.heap.size := by rw [hS]; simp
      have zS1 : w.heap.size + 1 < wS.heap.size := by omega
      have zS0 : w.heap.size < wS.heap.size := by omega
      rw [← hS]
      clear hS d0 d1 d2 d3 d4 hOA hBA HO
      go_wp2_with fail; (with_reducible refine (Ky.out _).mono ?_); rintro e wV ⟨rfl, hb⟩
      have r1 := cell_later hb s1
      have r2 := cell_later hb s2
      have r3 := cell_later hb s3
      have r4 := cell_later hb s4
      have n0 := cell_later hb m0
      have n1 := cell_later hb m1
      have n2 := cell_later hb m2
      have n3 := cell_later hb m3
      have n4 := cell_later hb m4
      have HOV := hide (own_later hb HOS.out)
      have HBV := hide (bstep HBS.out hb)
      have zV := hb.size
      have zV1 : wA.heap.size < wV.heap.size := by omega
      have zV2 : w.heap.size + 1 < wV.heap.size := by omega
      have zV3 : w.heap.size < wV.heap.size := by omega
      clear hb s1 s2 s3 s4 m0 m1 m2 m3 m4 HOS HBS Ky Kk
      by_cases hy : y9 = 0
      · have Hn := hide (cxs_no (k := k) (Hy9.out.symm.trans hy))
        subst hy
        clear r1 r2 r3 r4 Kp
        go_wp2
        go_roundw
        case rel => exact ⟨k + 1, g9, cp9, by omega, by go_num, by rw [Hn.out], by rw [Hn.out]; exact HOV, n0, n1, n2, n3, n4, HBV.out⟩
        case measure => simp [intOf]; omega
      · have hyb : (y9 == 0) = false := beq_eq_false_iff_ne.2 hy
        have Hn := hide (cxs_yes (k := k) (fun q => hy (Hy9.out.trans q)))
        obtain ⟨f1, f2, f3, f4⟩ := HF.out k hlt (fun q => hy (Hy9.out.trans q))
        obtain ⟨t0, t1, t2, _, _⟩ := HT.out k hlt
        obtain ⟨x1, x2, x3, x4⟩ := gone_bd (show 0 ≤ T (k + 1) - T k by omega) f1 f2 f3
        have Kp2 := hide (Kp.out hy)
        have Km := hide (fun W => impl_mulDiv_q (T (k + 1) - T k) (cxN ax ay bx bY U V k) (cxD ax ay bx bY U V k) (by omega) (by omega) f1 (by omega) f3 (by omega) (by omega) W)
        have hcC : cxC ax ay bx bY T U V k = [.int .i64 (T k + goneI (T (k + 1) - T k) (cxN ax ay bx bY U V k) (cxD ax ay bx bY U V k)), .int .i64 (k : Int), .int .i64 y9, .int .i64 (cxN ax ay bx bY U V k), .int .i64 (cxD ax ay bx bY U V k)] := by unfold cxC cxT; rw [← Hy9.out]
        have hgo : goneI (T (k + 1) - T k) (cxN ax ay bx bY U V k) (cxD ax ay bx bY U V k) = if 0 < (T (k + 1) - T k) * cxN ax ay bx bY U V k % cxD ax ay bx bY U V k then (T (k + 1) - T k) * cxN ax ay bx bY U V k / cxD ax ay bx bY U V k + 1 else (T (k + 1) - T k) * cxN ax ay bx bY U V k / cxD ax ay bx bY U V k := rfl
        generalize (T (k + 1) - T k) * cxN ax ay bx bY U V k / cxD ax ay bx bY U V k = q9 at *
        obtain ⟨r9, hr9⟩ : ∃ v, v = decide (0 < (T (k + 1) - T k) * cxN ax ay bx bY U V k % cxD ax ay bx bY U V k) := ⟨_, rfl⟩
        rw [← hr9] at Km
        have Hgo := hide (show goneI (T (k + 1) - T k) (cxN ax ay bx bY U V k) (cxD ax ay bx bY U V k) = if r9 = true then q9 + 1 else q9 by rw [hgo, hr9]; simp only [decide_eq_true_eq])
        have hgr := Hgo.out
        generalize goneI (T (k + 1) - T k) (cxN ax ay bx bY U V k) (cxD ax ay bx bY U V k) = o9 at *
        clear hr9 hgo
        generalize cxN ax ay bx bY U V k = n9 at *
        generalize cxD ax ay bx bY U V k = d9 at *
        have HcC := hide hcC
        clear hcC
        go_wp2_with fail; (with_reducible refine (Kp2.out _).mono ?_); rintro e wP ⟨rfl, hb⟩
        have p0 := cell_later hb n0
        have p1 := cell_later hb n1
        have p2 := cell_later hb n2
        have p3 := cell_later hb n3
        have p4 := cell_later hb n4
        have hOP := own_later hb HOV.out
        have hBP := bstep HBV.out hb
        have zP := hb.size
        clear hb r1 r2 r3 r4 n0 n1 n2 n3 n4 HOV HBV Kp Kp2
        obtain ⟨c0, c1, c2⟩ := (RowAt.later hBP Hh.out).on3 k (by omega)
        obtain ⟨c3, c4, c5⟩ := (RowAt.later hBP Hh.out).on3 (k + 1) hlt
        have hbs : b < wP.heap.size := World.block_lt_of_cell? _ _ c0
        obtain ⟨wR, hR⟩ : ∃ W, W = wP.alloc (.cells #[.int .i64 n9, .int .i64 d9] 100) := ⟨_, rfl⟩
        have u1 : wR.cell? ⟨wP.heap.size, 0, none⟩ = some (.int .i64 n9) := by rw [hR]; go_simp
        have u2 : wR.cell? ⟨wP.heap.size, 1, none⟩ = some (.int .i64 d9) := by rw [hR]; go_simp
        have y0 : wR.cell? ⟨w.heap.size, 0, none⟩ = some (.slice (some ⟨b, o, none⟩) n cap) := by rw [hR]; exact cell_alloc p0
        have y1 : wR.cell? ⟨w.heap.size + 1, 0, none⟩ = some (.int .i64 ax) := by rw [hR]; exact cell_alloc p1
        have y2 : wR.cell? ⟨w.heap.size + 1, 1, none⟩ = some (.int .i64 ay) := by rw [hR]; exact cell_alloc p2
        have y3 : wR.cell? ⟨w.heap.size + 1, 2, none⟩ = some (.int .i64 bx) := by rw [hR]; exact cell_alloc p3
        have y4 : wR.cell? ⟨w.heap.size + 1, 3, none⟩ = some (.int .i64 bY) := by rw [hR]; exact cell_alloc p4
        have b0 : wR.cell? ⟨b, o + k * 3, none⟩ = some (.int .i64 (T k)) := by rw [hR]; exact cell_alloc c0
        have b3 : wR.cell? ⟨b, o + (k + 1) * 3, none⟩ = some (.int .i64 (T (k + 1))) := by rw [hR]; exact cell_alloc c3
        have HBR := hide (show Below w.heap.size w wR by rw [hR]; exact Below.alloc hBP (by omega) _)
        have HOR := hide (show wR.ownsRow (w.heap.size + 1 + 1) 102 5 (.slice (some ⟨g9, 0, none⟩) (cxs ax ay bx bY U V k).length cp9) (cxs ax ay bx bY U V k).length (cxCs ax ay bx bY T U V (cxs ax ay bx bY U V k)) by rw [hR]; exact hOP.alloc _)
        have zR : wP.heap.size < wR.heap.size := by rw [hR]; simp
        have zR1 : w.heap.size + 1 < wR.heap.size := by omega
        have zR0 : w.heap.size < wR.heap.size := by omega
        have zRb : b < wR.heap.size := by omega
        go_upto_region 9 with fail
        rw [← hR]
        clear hR p0 p1 p2 p3 p4 c0 c1 c2 c3 c4 c5 hOP hBP
        have wt : IntKind.i64.wrap (T (k + 1) - T k) = T (k + 1) - T k := IntWalk.i64_in _ (by omega)
        go_upto_region 10 with fail
        refine wp_region_held_drew (S := fun W => Below wR.heap.size wR W) (by kernel_rfl) (Below.drew (Below.refl _ _)) (fun hHeld => ?_)
        refine tkN 0 (some 46) rfl ?_; (try simp only [pz])
        refine tkL 1 (some 47) rfl ?_; (try simp only [pz])
        refine tkN 2 (some 48) rfl ?_; (try simp only [pz])
        refine tkN 3 (some 49) rfl ?_; (try simp only [pz])
        refine tkN 4 (some 50) rfl ?_; (try simp only [pz])
        refine tkN 5 (some 51) rfl ?_; (try simp only [pz])
        refine tkL 6 (some 52) rfl ?_; (try simp only [pz])
        refine tkN 7 (some 53) rfl ?_; (try simp only [pz])
        refine tkN 8 (some 54) rfl ?_; (try simp only [pz])
        refine tkN 9 (some 55) rfl ?_; (try simp only [pz])
        refine tkL 10 (some 56) rfl ?_; (try simp only [pz])
        refine tkN 11 (some 57) rfl ?_; (try simp only [pz])
        refine tkL 12 (some 58) rfl ?_; (try simp only [pz])
        refine wpAnyH_ready (rs := [13]) (by kernel_rfl) (by simp) ?_; refine (AllReadyH.cons (o := ⟨some 59, _, _, _, _, _⟩) rfl (fun K hK => ?_) AllReadyH.nil)
        go_simp; (go_at_call 97; (with_reducible refine (Km.out _).mono ?_); rintro e w9 ⟨rfl, hb⟩)
        all_goals (try go_wp2_with fail)
        refine hK.out _ _ ?_ (fun hH2 => ?_)
        · first | exact bstep hHeld hb | exact hHeld.trans hb | exact hHeld
        clear hK K hHeld; (have hHeld := hH2); clear hH2; (try simp only [pz])
        refine tkN 14 (some 45) rfl ?_; (try simp only [pz])
        refine tkN 15 (some 60) rfl ?_; (try simp only [pz])
        refine tkN 16 (some 61) rfl ?_; (try simp only [pz])
        refine tkN 17 (some 12) rfl ?_; (try simp only [pz])
        refine tkN 18 (some 13) rfl ?_; (try simp only [pz])
        refine wpAnyH_done (by kernel_rfl) ?_ _; (try simp only [pz])
        obtain ⟨wW, rfl⟩ : ∃ W : World, W = w9 := ⟨_, rfl⟩
        have h0 := cell_later hHeld y0
        have h1 := cell_later hHeld y1
        have h2 := cell_later hHeld y2
        have h3 := cell_later hHeld y3
        have h4 := cell_later hHeld y4
        have v1 := cell_later hHeld u1
        have v2 := cell_later hHeld u2
        have HOW := hide (own_later hHeld HOR.out)
        have HBW := hide (bstep HBR.out hHeld)
        have zW := hHeld.size
        have zW1 : wP.heap.size < wW.heap.size := by omega
        clear hHeld y0 y1 y2 y3 y4 u1 u2 b0 b3 HOR HBR hb Km wt
        have hOW := HOW.out
        cases r9
        · have ho : o9 = q9 := hgr
          have wt2 : IntKind.i64.wrap (T k + q9) = T k + q9 := IntWalk.i64_in _ (by omega)
          have HcC2 := hide (ho ▸ HcC.out)
          clear HcC hgr ho Hgo
          go_wp2_with (at_builtin; refine wpList_append_lies _ rfl _ _ 122 rfl (w.heap.size + 1 + 1) 102 i1 _ 5 40 Tryz.underlying122 Hi.out Hz.out.1 Hz.out.2.1 Hz.out.2.2 rfl (by decide) _ _ _ rfl (hOW.alloc _) ⟨wW.heap.size, 0, none⟩ 1 1 [.int .i64 (T k + q9), .int .i64 (k : Int), .int .i64 y9, .int .i64 n9, .int .i64 d9] rfl rfl new5 (one5 _ _ _ _ _) (by decide) (by unfold maxLen; omega) (by omega) (by simp; omega) (wW.heap.size + 1) (by simp) ?_)
          intro g' cap' wZ hown' hgr' hat hlt'
          have hbZ := below_grown hOW (by omega) hgr'
          have z0 := cell_below hbZ (by omega) h0
          have z1 := cell_below hbZ (by omega) h1
          have z2 := cell_below hbZ (by omega) h2
          have z3 := cell_below hbZ (by omega) h3
          have z4 := cell_below hbZ (by omega) h4
          clear h0 h1 h2 h3 h4 v1 v2
          go_wp2
          go_roundw
          case rel => exact ⟨k + 1, g', cap', by omega, by go_num, by rw [Hn.out, List.length_append, List.length_singleton], by rw [Hn.out, List.length_append, List.length_singleton, cxCs_app, HcC2.out]; exact hown', z0, z1, z2, z3, z4, HBW.out.trans (hbZ.mono (by omega))⟩
          case measure => simp [intOf]; omega
        · have ho : o9 = q9 + 1 := hgr
          have wt2 : IntKind.i64.wrap (T k + (q9 + 1)) = T k + (q9 + 1) := IntWalk.i64_in _ (by omega)
          have wt3 : IntKind.i64.wrap (q9 + 1) = q9 + 1 := IntWalk.i64_in _ (by omega)
          have HcC2 := hide (ho ▸ HcC.out)
          clear HcC hgr ho Hgo
          go_wp2_with (at_builtin; refine wpList_append_lies _ rfl _ _ 122 rfl (w.heap.size + 1 + 1) 102 i1 _ 5 40 Tryz.underlying122 Hi.out Hz.out.1 Hz.out.2.1 Hz.out.2.2 rfl (by decide) _ _ _ rfl (hOW.alloc _) ⟨wW.heap.size, 0, none⟩ 1 1 [.int .i64 (T k + (q9 + 1)), .int .i64 (k : Int), .int .i64 y9, .int .i64 n9, .int .i64 d9] rfl rfl new5 (one5 _ _ _ _ _) (by decide) (by unfold maxLen; omega) (by omega) (by simp; omega) (wW.heap.size + 1) (by simp) ?_)
          intro g' cap' wZ hown' hgr' hat hlt'
          have hbZ := below_grown hOW (by omega) hgr'
          have z0 := cell_below hbZ (by omega) h0
          have z1 := cell_below hbZ (by omega) h1
          have z2 := cell_below hbZ (by omega) h2
          have z3 := cell_below hbZ (by omega) h3
          have z4 := cell_below hbZ (by omega) h4
          clear h0 h1 h2 h3 h4 v1 v2
          go_wp2
          go_roundw
          case rel => exact ⟨k + 1, g', cap', by omega, by go_num, by rw [Hn.out, List.length_append, List.length_singleton], by rw [Hn.out, List.length_append, List.length_singleton, cxCs_app, HcC2.out]; exact hown', z0, z1, z2, z3, z4, HBW.out.trans (hbZ.mono (by omega))⟩
          case measure => simp [intOf]; omega
    · obtain rfl : k = n - 1 := by omega
      go_wp2
      go_ret
      exact ⟨g9, cp9, rfl, HO.out.mono (by omega), HBl.out⟩
end Go.Proofs.YtiokigjnacmilaaGreatDoor
/- Walks: the exact time of a crossing, the crossings of a track and a line, of the reference. -/
namespace Go.Proofs.YtiokigjnacmilaaGreatDoor
open Go.RowKit

theorem own_ne {w : World} {B : Nat} {e : TypeId} {size : Nat} {g cp m : Nat} {x : Value} {n : Nat} {xs : List Value} {b j : Nat} (h : w.ownsRow B e size (.slice (some ⟨g, 0, none⟩) m cp) n xs) (hb : g ≠ b) : (w.setCell ⟨b, j, none⟩ x).ownsRow B e size (.slice (some ⟨g, 0, none⟩) m cp) n xs :=
  h.kept (gr_set (g := b) ⟨rfl, rfl, rfl, Nat.le_refl _, fun _ _ _ => rfl⟩) (.inr (by
    show some g ≠ some b
    simp; omega))
theorem new5b {W : World} {b : Nat} {e : TypeId} {x y z u' v : Value} (hb : b = W.heap.size) : ∀ (j : Nat) (u : Value), [x, y, z, u', v][j]? = some u → (W.alloc (.cells #[x, y, z, u', v] e)).cell? ((⟨b, 0, none⟩ : Addr).add j) = some u := by subst hb; exact new5
set_option maxRecDepth 100000 in
set_option maxHeartbeats 8000000 in
theorem spec_l05Exact (b o n cap l : Nat) (T U V : Nat → Int) (tm wy g m : Int) (w : World) (h : RowAt w (some ⟨b, o, none⟩) n 3 (v3 T U V)) (hv : isTr n T U V = true) (hl : l + 1 < n) (g0 : 0 ≤ g) (g1 : g ≤ m) (m1 : 1 ≤ m) (m2 : m ≤ 20000000000000) :
    Calls Tryz.prog 88 #[.agg #[.slice (some ⟨b, o, none⟩) n cap], .agg #[.int .i64 tm, .int .i64 l, .int .i64 wy, .int .i64 g, .int .i64 m]] w fun e w' => e = .returned (.tuple #[.int .i64 (T l + (T (l + 1) - T l) * g / m), .agg #[.int .i64 ((T (l + 1) - T l) * g % m), .int .i64 m]]) ∧ Below w.heap.size w w' := by
  obtain ⟨hn2, hn40, _⟩ := isTr_t hv
  obtain ⟨t0, t1, t2, _, _⟩ := isTr_leg hv hl
  obtain ⟨x1, x2, _, _⟩ := gone_bd (show 0 ≤ T (l + 1) - T l by omega) g0 g1 m1
  have KD := hide (fun W => spec_l05Divide (T (l + 1) - T l) g m (by omega) (by omega) g0 g1 m1 m2 W)
  generalize (T (l + 1) - T l) * g / m = q9 at *
  generalize (T (l + 1) - T l) * g % m = r9 at *
  obtain ⟨c0, c1, c2⟩ := h.on3 l (by omega)
  obtain ⟨d0, d1, d2⟩ := h.on3 (l + 1) hl
  have hbs : b < w.heap.size := World.block_lt_of_cell? _ _ c0
  have hj1 : (0 : Int) ≤ (l : Int) := by omega
  have hj2 : (l : Int) < (n : Int) := by omega
  have hj3 : (l : Int) + 1 < (n : Int) := by omega
  have hj4 : (0 : Int) ≤ (l : Int) + 1 := by omega
  have we : IntKind.i64.wrap ((l : Int) + 1) = (l : Int) + 1 := IntWalk.i64_in _ (by omega)
  clear h hv
  have nbb0 : ¬ b = w.heap.size := (by omega); have ncb0 : ¬ w.heap.size = b := (by omega); have ndb0 : b < w.heap.size := (by omega); have nbb1 : ¬ b = w.heap.size + 1 := (by omega); have ncb1 : ¬ w.heap.size + 1 = b := (by omega); have ndb1 : b < w.heap.size + 1 := (by omega); have nbb2 : ¬ b = w.heap.size + 1 + 1 := (by omega); have ncb2 : ¬ w.heap.size + 1 + 1 = b := (by omega); have ndb2 : b < w.heap.size + 1 + 1 := (by omega); have nbb3 : ¬ b = w.heap.size + 1 + 1 + 1 := (by omega); have ncb3 : ¬ w.heap.size + 1 + 1 + 1 = b := (by omega); have ndb3 : b < w.heap.size + 1 + 1 + 1 := (by omega); have nbb4 : ¬ b = w.heap.size + 1 + 1 + 1 + 1 := (by omega); have ncb4 : ¬ w.heap.size + 1 + 1 + 1 + 1 = b := (by omega); have ndb4 : b < w.heap.size + 1 + 1 + 1 + 1 := (by omega)
  go_enter Tryz.func88, Tryz.ntmps88
  go_upto_region 1 with fail
  go_cut [6, 7] (fun s6 s7 W => ∃ gf hf2 : Nat, s6 = .pointer (some ⟨gf, 0, none⟩) ∧ s7 = .pointer (some ⟨hf2, 0, none⟩) ∧ w.heap.size + 1 + 1 < gf ∧ w.heap.size + 1 + 1 < hf2 ∧ W.cell? ⟨w.heap.size + 1, 3, none⟩ = some (.int .i64 g) ∧ W.cell? ⟨w.heap.size + 1, 4, none⟩ = some (.int .i64 m) ∧ W.cell? ⟨w.heap.size + 2, 0, none⟩ = some (.int .i64 0) ∧ W.frozen? ⟨w.heap.size + 2, 0, none⟩ = false ∧ W.cell? ⟨w.heap.size + 2, 1, none⟩ = some (.int .i64 0) ∧ W.frozen? ⟨w.heap.size + 2, 1, none⟩ = false ∧ W.cell? ⟨gf, 0, none⟩ = some (.int .i64 (T l)) ∧ W.cell? ⟨hf2, 0, none⟩ = some (.int .i64 (T (l + 1))) ∧ Below w.heap.size w W ∧ w.heap.size + 3 ≤ W.heap.size)
  case first =>
    have e0 : w.heap.size < w.heap.size + 1 + 1 + 1 := by omega
    have e1 : w.heap.size + 1 < w.heap.size + 1 + 1 + 1 := by omega
    have e2 : w.heap.size + 1 + 1 < w.heap.size + 1 + 1 + 1 := by omega
    refine wp_region_held_drew (S := (fun W => W.cell? ⟨w.heap.size, 0, none⟩ = some ((.slice (some ⟨b, o, none⟩) n cap)) ∧ W.cell? ⟨w.heap.size + 1, 0, none⟩ = some (.int .i64 tm) ∧ W.cell? ⟨w.heap.size + 1, 1, none⟩ = some (.int .i64 l) ∧ W.cell? ⟨w.heap.size + 1, 2, none⟩ = some (.int .i64 wy) ∧ W.cell? ⟨w.heap.size + 1, 3, none⟩ = some (.int .i64 g) ∧ W.cell? ⟨w.heap.size + 1, 4, none⟩ = some (.int .i64 m) ∧ W.cell? ⟨w.heap.size + 2, 0, none⟩ = some (.int .i64 0) ∧ W.frozen? ⟨w.heap.size + 2, 0, none⟩ = false ∧ W.cell? ⟨w.heap.size + 2, 1, none⟩ = some (.int .i64 0) ∧ W.frozen? ⟨w.heap.size + 2, 1, none⟩ = false ∧ W.cell? ⟨b, o + l * 3, none⟩ = some (.int .i64 (T l)) ∧ W.cell? ⟨b, o + l * 3 + 1, none⟩ = some (.int .i64 (U l)) ∧ W.cell? ⟨b, o + l * 3 + 2, none⟩ = some (.int .i64 (V l)) ∧ W.cell? ⟨b, o + (l + 1) * 3, none⟩ = some (.int .i64 (T (l + 1))) ∧ W.cell? ⟨b, o + (l + 1) * 3 + 1, none⟩ = some (.int .i64 (U (l + 1))) ∧ W.cell? ⟨b, o + (l + 1) * 3 + 2, none⟩ = some (.int .i64 (V (l + 1))) ∧ Below w.heap.size w W ∧ w.heap.size + 3 ≤ W.heap.size)) (by kernel_rfl) ?_ (fun hHeld => ?_)
    · exact ⟨(by go_simp; done), (by go_simp; done), (by go_simp; done), (by go_simp; done), (by go_simp; done), (by go_simp; done), (by go_simp; done), (by go_simp; done), (by go_simp; done), (by go_simp; done), (by go_simp; done), (by go_simp; done), (by go_simp; done), (by go_simp; done), (by go_simp; done), (by go_simp; done), bwz, (by first | (simp; done) | (simp; omega) | omega)⟩
    refine tkD 0 (some 10) rfl ?_; (try simp only [pz])
    refine tkD 1 (some 11) rfl ?_; (try simp only [pz])
    refine tkD 2 (some 12) rfl ?_; (try simp only [pz])
    refine tkD 3 (some 13) rfl ?_; (try simp only [pz])
    refine tkD 4 (some 14) rfl ?_; (try simp only [pz])
    refine tkD 5 (some 15) rfl ?_; (try simp only [pz])
    refine tkD 6 (some 16) rfl ?_; (try simp only [pz])
    refine tkD 7 (some 17) rfl ?_; (try simp only [pz])
    refine tkD 8 (some 18) rfl ?_; (try simp only [pz])
    refine tkD 9 (some 19) rfl ?_; (try simp only [pz])
    refine tkD 10 (some 20) rfl ?_; (try simp only [pz])
    refine tkD 11 (some 21) rfl ?_; (try simp only [pz])
    refine tkD 12 (some 22) rfl ?_; (try simp only [pz])
    refine wpAnyH_ready (rs := [13, 14]) (by kernel_rfl) (by simp) ?_; refine (AllReadyH.cons (o := ⟨some 6, _, _, _, _, _⟩) rfl (fun K hK => ?_) (AllReadyH.cons (o := ⟨some 7, _, _, _, _, _⟩) rfl (fun K hK => ?_) AllReadyH.nil))
    · go_simp
      all_goals (try go_wp2_with fail)
      refine hK.out _ _ ?_ (fun hH2 => ?_)
      · (try dsimp only); obtain ⟨k1, k2, k3, k4, k5, k6, k7, k8, k9, k10, k11, k12, k13, k14, k15, k16, kB, kz⟩ := hHeld; exact ⟨cell_alloc k1, cell_alloc k2, cell_alloc k3, cell_alloc k4, cell_alloc k5, cell_alloc k6, cell_alloc k7, (frozen_alloc k7 k8), cell_alloc k9, (frozen_alloc k9 k10), cell_alloc k11, cell_alloc k12, cell_alloc k13, cell_alloc k14, cell_alloc k15, cell_alloc k16, bwz, (by first | (simp; done) | (simp at kz ⊢; omega) | omega)⟩
      clear hK K hHeld; (have hHeld := hH2); clear hH2; (try simp only [pz])
      have hx := hHeld; obtain ⟨k1, k2, k3, k4, k5, k6, k7, k8, k9, k10, k11, k12, k13, k14, k15, k16, kB, kz⟩ := hx; (first | (have zg13 := alloc_lt kB) | (have zg13 := alloc_lt2 kB rfl)); clear k1 k2 k3 k4 k5 k6 k7 k8 k9 k10 k11 k12 k13 k14 k15 k16 kB kz
      refine wpAnyH_ready (rs := [14]) (by kernel_rfl) (by simp) ?_; refine (AllReadyH.cons (o := ⟨some 7, _, _, _, _, _⟩) rfl (fun K hK => ?_) AllReadyH.nil)
      have nq13 := Nat.ne_of_lt zg13; have nr13 := Nat.ne_of_gt zg13; go_simp
      all_goals (try go_wp2_with fail)
      refine hK.out _ _ ?_ (fun hH2 => ?_)
      · (try dsimp only); obtain ⟨k1, k2, k3, k4, k5, k6, k7, k8, k9, k10, k11, k12, k13, k14, k15, k16, kB, kz⟩ := hHeld; exact ⟨cell_alloc k1, cell_alloc k2, cell_alloc k3, cell_alloc k4, cell_alloc k5, cell_alloc k6, cell_alloc k7, (frozen_alloc k7 k8), cell_alloc k9, (frozen_alloc k9 k10), cell_alloc k11, cell_alloc k12, cell_alloc k13, cell_alloc k14, cell_alloc k15, cell_alloc k16, bwz, (by first | (simp; done) | (simp at kz ⊢; omega) | omega)⟩
      clear hK K hHeld; (have hHeld := hH2); clear hH2; (try simp only [pz])
      have hx := hHeld; obtain ⟨k1, k2, k3, k4, k5, k6, k7, k8, k9, k10, k11, k12, k13, k14, k15, k16, kB, kz⟩ := hx; (first | (have zg14 := alloc_lt kB) | (have zg14 := alloc_lt2 kB rfl)); (first | (have zg13 := Nat.lt_trans zg13 zg14) | (have zg13 := Nat.lt_trans (show w.heap.size + 1 + 1 + 1 < w.heap.size + 1 + 1 + 1 + 1 by omega) zg14)); clear k1 k2 k3 k4 k5 k6 k7 k8 k9 k10 k11 k12 k13 k14 k15 k16 kB kz
      refine wpAnyH_ready (rs := [15]) (by kernel_rfl) (by simp) ?_; refine (AllReadyH.cons (o := ⟨none, _, _, _, _, _⟩) rfl (fun K hK => ?_) AllReadyH.nil)
      go_simp
      all_goals (try go_wp2_with fail)
      refine hK.out _ _ ?_ (fun hH2 => ?_)
      · (try dsimp only); first | (obtain ⟨k1, k2, k3, k4, k5, k6, k7, k8, k9, k10, k11, k12, k13, k14, k15, k16, kB, kz⟩ := hHeld; (have kz2 := kz); (try simp at kz2); exact ⟨(by with_reducible refine cell_realloc ?_ k1; dsimp only; omega), (by with_reducible refine cell_realloc ?_ k2; dsimp only; omega), (by with_reducible refine cell_realloc ?_ k3; dsimp only; omega), (by with_reducible refine cell_realloc ?_ k4; dsimp only; omega), (by with_reducible refine cell_realloc ?_ k5; dsimp only; omega), (by with_reducible refine cell_realloc ?_ k6; dsimp only; omega), (by with_reducible refine cell_realloc ?_ k7; dsimp only; omega), (by with_reducible refine frozen_realloc ?_ k8; dsimp only; omega), (by with_reducible refine cell_realloc ?_ k9; dsimp only; omega), (by with_reducible refine frozen_realloc ?_ k10; dsimp only; omega), (by with_reducible refine cell_realloc ?_ k11; dsimp only; omega), (by with_reducible refine cell_realloc ?_ k12; dsimp only; omega), (by with_reducible refine cell_realloc ?_ k13; dsimp only; omega), (by with_reducible refine cell_realloc ?_ k14; dsimp only; omega), (by with_reducible refine cell_realloc ?_ k15; dsimp only; omega), (by with_reducible refine cell_realloc ?_ k16; dsimp only; omega), (by with_reducible refine below_realloc kB ?_; omega), (by first | (simp; done) | (simp at kz ⊢; omega) | omega)⟩) | (obtain ⟨k1, k2, k3, k4, k5, k6, k7, k8, k9, k10, k11, k12, k13, k14, k15, k16, kB, kz⟩ := hHeld; exact ⟨(by first | ((repeat with_reducible refine cell_set ?_ (by dsimp only; omega)); with_reducible exact k1) | (go_simp; done)), (by first | ((repeat with_reducible refine cell_set ?_ (by dsimp only; omega)); with_reducible exact k2) | (go_simp; done)), (by first | ((repeat with_reducible refine cell_set ?_ (by dsimp only; omega)); with_reducible exact k3) | (go_simp; done)), (by first | ((repeat with_reducible refine cell_set ?_ (by dsimp only; omega)); with_reducible exact k4) | (go_simp; done)), (by first | ((repeat with_reducible refine cell_set ?_ (by dsimp only; omega)); with_reducible exact k5) | (go_simp; done)), (by first | ((repeat with_reducible refine cell_set ?_ (by dsimp only; omega)); with_reducible exact k6) | (go_simp; done)), (by first | ((repeat with_reducible refine cell_set ?_ (by dsimp only; omega)); with_reducible exact k7) | (go_simp; done)), (by first | ((repeat rw [World.frozen?_setCell]); with_reducible exact k8) | (go_simp; done)), (by first | ((repeat with_reducible refine cell_set ?_ (by dsimp only; omega)); with_reducible exact k9) | (go_simp; done)), (by first | ((repeat rw [World.frozen?_setCell]); with_reducible exact k10) | (go_simp; done)), (by first | ((repeat with_reducible refine cell_set ?_ (by dsimp only; omega)); with_reducible exact k11) | (go_simp; done)), (by first | ((repeat with_reducible refine cell_set ?_ (by dsimp only; omega)); with_reducible exact k12) | (go_simp; done)), (by first | ((repeat with_reducible refine cell_set ?_ (by dsimp only; omega)); with_reducible exact k13) | (go_simp; done)), (by first | ((repeat with_reducible refine cell_set ?_ (by dsimp only; omega)); with_reducible exact k14) | (go_simp; done)), (by first | ((repeat with_reducible refine cell_set ?_ (by dsimp only; omega)); with_reducible exact k15) | (go_simp; done)), (by first | ((repeat with_reducible refine cell_set ?_ (by dsimp only; omega)); with_reducible exact k16) | (go_simp; done)), bwz, (by first | (simp; done) | (simp at kz ⊢; omega) | omega)⟩)
      clear hK K hHeld; (have hHeld := hH2); clear hH2; (try simp only [pz])
      refine wpAnyH_ready (rs := [16]) (by kernel_rfl) (by simp) ?_; refine (AllReadyH.cons (o := ⟨none, _, _, _, _, _⟩) rfl (fun K hK => ?_) AllReadyH.nil)
      go_simp
      all_goals (try go_wp2_with fail)
      refine hK.out _ _ ?_ (fun hH2 => ?_)
      · (try dsimp only); first | (obtain ⟨k1, k2, k3, k4, k5, k6, k7, k8, k9, k10, k11, k12, k13, k14, k15, k16, kB, kz⟩ := hHeld; (have kz2 := kz); (try simp at kz2); exact ⟨(by with_reducible refine cell_realloc ?_ k1; dsimp only; omega), (by with_reducible refine cell_realloc ?_ k2; dsimp only; omega), (by with_reducible refine cell_realloc ?_ k3; dsimp only; omega), (by with_reducible refine cell_realloc ?_ k4; dsimp only; omega), (by with_reducible refine cell_realloc ?_ k5; dsimp only; omega), (by with_reducible refine cell_realloc ?_ k6; dsimp only; omega), (by with_reducible refine cell_realloc ?_ k7; dsimp only; omega), (by with_reducible refine frozen_realloc ?_ k8; dsimp only; omega), (by with_reducible refine cell_realloc ?_ k9; dsimp only; omega), (by with_reducible refine frozen_realloc ?_ k10; dsimp only; omega), (by with_reducible refine cell_realloc ?_ k11; dsimp only; omega), (by with_reducible refine cell_realloc ?_ k12; dsimp only; omega), (by with_reducible refine cell_realloc ?_ k13; dsimp only; omega), (by with_reducible refine cell_realloc ?_ k14; dsimp only; omega), (by with_reducible refine cell_realloc ?_ k15; dsimp only; omega), (by with_reducible refine cell_realloc ?_ k16; dsimp only; omega), (by with_reducible refine below_realloc kB ?_; omega), (by first | (simp; done) | (simp at kz ⊢; omega) | omega)⟩) | (obtain ⟨k1, k2, k3, k4, k5, k6, k7, k8, k9, k10, k11, k12, k13, k14, k15, k16, kB, kz⟩ := hHeld; exact ⟨(by first | ((repeat with_reducible refine cell_set ?_ (by dsimp only; omega)); with_reducible exact k1) | (go_simp; done)), (by first | ((repeat with_reducible refine cell_set ?_ (by dsimp only; omega)); with_reducible exact k2) | (go_simp; done)), (by first | ((repeat with_reducible refine cell_set ?_ (by dsimp only; omega)); with_reducible exact k3) | (go_simp; done)), (by first | ((repeat with_reducible refine cell_set ?_ (by dsimp only; omega)); with_reducible exact k4) | (go_simp; done)), (by first | ((repeat with_reducible refine cell_set ?_ (by dsimp only; omega)); with_reducible exact k5) | (go_simp; done)), (by first | ((repeat with_reducible refine cell_set ?_ (by dsimp only; omega)); with_reducible exact k6) | (go_simp; done)), (by first | ((repeat with_reducible refine cell_set ?_ (by dsimp only; omega)); with_reducible exact k7) | (go_simp; done)), (by first | ((repeat rw [World.frozen?_setCell]); with_reducible exact k8) | (go_simp; done)), (by first | ((repeat with_reducible refine cell_set ?_ (by dsimp only; omega)); with_reducible exact k9) | (go_simp; done)), (by first | ((repeat rw [World.frozen?_setCell]); with_reducible exact k10) | (go_simp; done)), (by first | ((repeat with_reducible refine cell_set ?_ (by dsimp only; omega)); with_reducible exact k11) | (go_simp; done)), (by first | ((repeat with_reducible refine cell_set ?_ (by dsimp only; omega)); with_reducible exact k12) | (go_simp; done)), (by first | ((repeat with_reducible refine cell_set ?_ (by dsimp only; omega)); with_reducible exact k13) | (go_simp; done)), (by first | ((repeat with_reducible refine cell_set ?_ (by dsimp only; omega)); with_reducible exact k14) | (go_simp; done)), (by first | ((repeat with_reducible refine cell_set ?_ (by dsimp only; omega)); with_reducible exact k15) | (go_simp; done)), (by first | ((repeat with_reducible refine cell_set ?_ (by dsimp only; omega)); with_reducible exact k16) | (go_simp; done)), bwz, (by first | (simp; done) | (simp at kz ⊢; omega) | omega)⟩)
      clear hK K hHeld; (have hHeld := hH2); clear hH2; (try simp only [pz])
      refine wpAnyH_done (by kernel_rfl) ?_ _; (try simp only [pz])
      obtain ⟨k1, k2, k3, k4, k5, k6, k7, k8, k9, k10, k11, k12, k13, k14, k15, k16, kB, kz⟩ := hHeld
      go_wp2_with fail
      go_meet
      exact ⟨_, _, rfl, rfl, (by omega), (by omega), k5, k6, k7, k8, k9, k10, (by go_simp; done), (by go_simp; done), kB, kz⟩
    · go_simp
      all_goals (try go_wp2_with fail)
      refine hK.out _ _ ?_ (fun hH2 => ?_)
      · (try dsimp only); obtain ⟨k1, k2, k3, k4, k5, k6, k7, k8, k9, k10, k11, k12, k13, k14, k15, k16, kB, kz⟩ := hHeld; exact ⟨cell_alloc k1, cell_alloc k2, cell_alloc k3, cell_alloc k4, cell_alloc k5, cell_alloc k6, cell_alloc k7, (frozen_alloc k7 k8), cell_alloc k9, (frozen_alloc k9 k10), cell_alloc k11, cell_alloc k12, cell_alloc k13, cell_alloc k14, cell_alloc k15, cell_alloc k16, bwz, (by first | (simp; done) | (simp at kz ⊢; omega) | omega)⟩
      clear hK K hHeld; (have hHeld := hH2); clear hH2; (try simp only [pz])
      have hx := hHeld; obtain ⟨k1, k2, k3, k4, k5, k6, k7, k8, k9, k10, k11, k12, k13, k14, k15, k16, kB, kz⟩ := hx; (first | (have zg14 := alloc_lt kB) | (have zg14 := alloc_lt2 kB rfl)); clear k1 k2 k3 k4 k5 k6 k7 k8 k9 k10 k11 k12 k13 k14 k15 k16 kB kz
      refine wpAnyH_ready (rs := [13]) (by kernel_rfl) (by simp) ?_; refine (AllReadyH.cons (o := ⟨some 6, _, _, _, _, _⟩) rfl (fun K hK => ?_) AllReadyH.nil)
      have nq14 := Nat.ne_of_lt zg14; have nr14 := Nat.ne_of_gt zg14; go_simp
      all_goals (try go_wp2_with fail)
      refine hK.out _ _ ?_ (fun hH2 => ?_)
      · (try dsimp only); obtain ⟨k1, k2, k3, k4, k5, k6, k7, k8, k9, k10, k11, k12, k13, k14, k15, k16, kB, kz⟩ := hHeld; exact ⟨cell_alloc k1, cell_alloc k2, cell_alloc k3, cell_alloc k4, cell_alloc k5, cell_alloc k6, cell_alloc k7, (frozen_alloc k7 k8), cell_alloc k9, (frozen_alloc k9 k10), cell_alloc k11, cell_alloc k12, cell_alloc k13, cell_alloc k14, cell_alloc k15, cell_alloc k16, bwz, (by first | (simp; done) | (simp at kz ⊢; omega) | omega)⟩
      clear hK K hHeld; (have hHeld := hH2); clear hH2; (try simp only [pz])
      have hx := hHeld; obtain ⟨k1, k2, k3, k4, k5, k6, k7, k8, k9, k10, k11, k12, k13, k14, k15, k16, kB, kz⟩ := hx; (first | (have zg13 := alloc_lt kB) | (have zg13 := alloc_lt2 kB rfl)); (first | (have zg14 := Nat.lt_trans zg14 zg13) | (have zg14 := Nat.lt_trans (show w.heap.size + 1 + 1 + 1 < w.heap.size + 1 + 1 + 1 + 1 by omega) zg13)); clear k1 k2 k3 k4 k5 k6 k7 k8 k9 k10 k11 k12 k13 k14 k15 k16 kB kz
      refine wpAnyH_ready (rs := [15]) (by kernel_rfl) (by simp) ?_; refine (AllReadyH.cons (o := ⟨none, _, _, _, _, _⟩) rfl (fun K hK => ?_) AllReadyH.nil)
      go_simp
      all_goals (try go_wp2_with fail)
      refine hK.out _ _ ?_ (fun hH2 => ?_)
      · (try dsimp only); first | (obtain ⟨k1, k2, k3, k4, k5, k6, k7, k8, k9, k10, k11, k12, k13, k14, k15, k16, kB, kz⟩ := hHeld; (have kz2 := kz); (try simp at kz2); exact ⟨(by with_reducible refine cell_realloc ?_ k1; dsimp only; omega), (by with_reducible refine cell_realloc ?_ k2; dsimp only; omega), (by with_reducible refine cell_realloc ?_ k3; dsimp only; omega), (by with_reducible refine cell_realloc ?_ k4; dsimp only; omega), (by with_reducible refine cell_realloc ?_ k5; dsimp only; omega), (by with_reducible refine cell_realloc ?_ k6; dsimp only; omega), (by with_reducible refine cell_realloc ?_ k7; dsimp only; omega), (by with_reducible refine frozen_realloc ?_ k8; dsimp only; omega), (by with_reducible refine cell_realloc ?_ k9; dsimp only; omega), (by with_reducible refine frozen_realloc ?_ k10; dsimp only; omega), (by with_reducible refine cell_realloc ?_ k11; dsimp only; omega), (by with_reducible refine cell_realloc ?_ k12; dsimp only; omega), (by with_reducible refine cell_realloc ?_ k13; dsimp only; omega), (by with_reducible refine cell_realloc ?_ k14; dsimp only; omega), (by with_reducible refine cell_realloc ?_ k15; dsimp only; omega), (by with_reducible refine cell_realloc ?_ k16; dsimp only; omega), (by with_reducible refine below_realloc kB ?_; omega), (by first | (simp; done) | (simp at kz ⊢; omega) | omega)⟩) | (obtain ⟨k1, k2, k3, k4, k5, k6, k7, k8, k9, k10, k11, k12, k13, k14, k15, k16, kB, kz⟩ := hHeld; exact ⟨(by first | ((repeat with_reducible refine cell_set ?_ (by dsimp only; omega)); with_reducible exact k1) | (go_simp; done)), (by first | ((repeat with_reducible refine cell_set ?_ (by dsimp only; omega)); with_reducible exact k2) | (go_simp; done)), (by first | ((repeat with_reducible refine cell_set ?_ (by dsimp only; omega)); with_reducible exact k3) | (go_simp; done)), (by first | ((repeat with_reducible refine cell_set ?_ (by dsimp only; omega)); with_reducible exact k4) | (go_simp; done)), (by first | ((repeat with_reducible refine cell_set ?_ (by dsimp only; omega)); with_reducible exact k5) | (go_simp; done)), (by first | ((repeat with_reducible refine cell_set ?_ (by dsimp only; omega)); with_reducible exact k6) | (go_simp; done)), (by first | ((repeat with_reducible refine cell_set ?_ (by dsimp only; omega)); with_reducible exact k7) | (go_simp; done)), (by first | ((repeat rw [World.frozen?_setCell]); with_reducible exact k8) | (go_simp; done)), (by first | ((repeat with_reducible refine cell_set ?_ (by dsimp only; omega)); with_reducible exact k9) | (go_simp; done)), (by first | ((repeat rw [World.frozen?_setCell]); with_reducible exact k10) | (go_simp; done)), (by first | ((repeat with_reducible refine cell_set ?_ (by dsimp only; omega)); with_reducible exact k11) | (go_simp; done)), (by first | ((repeat with_reducible refine cell_set ?_ (by dsimp only; omega)); with_reducible exact k12) | (go_simp; done)), (by first | ((repeat with_reducible refine cell_set ?_ (by dsimp only; omega)); with_reducible exact k13) | (go_simp; done)), (by first | ((repeat with_reducible refine cell_set ?_ (by dsimp only; omega)); with_reducible exact k14) | (go_simp; done)), (by first | ((repeat with_reducible refine cell_set ?_ (by dsimp only; omega)); with_reducible exact k15) | (go_simp; done)), (by first | ((repeat with_reducible refine cell_set ?_ (by dsimp only; omega)); with_reducible exact k16) | (go_simp; done)), bwz, (by first | (simp; done) | (simp at kz ⊢; omega) | omega)⟩)
      clear hK K hHeld; (have hHeld := hH2); clear hH2; (try simp only [pz])
      refine wpAnyH_ready (rs := [16]) (by kernel_rfl) (by simp) ?_; refine (AllReadyH.cons (o := ⟨none, _, _, _, _, _⟩) rfl (fun K hK => ?_) AllReadyH.nil)
      go_simp
      all_goals (try go_wp2_with fail)
      refine hK.out _ _ ?_ (fun hH2 => ?_)
      · (try dsimp only); first | (obtain ⟨k1, k2, k3, k4, k5, k6, k7, k8, k9, k10, k11, k12, k13, k14, k15, k16, kB, kz⟩ := hHeld; (have kz2 := kz); (try simp at kz2); exact ⟨(by with_reducible refine cell_realloc ?_ k1; dsimp only; omega), (by with_reducible refine cell_realloc ?_ k2; dsimp only; omega), (by with_reducible refine cell_realloc ?_ k3; dsimp only; omega), (by with_reducible refine cell_realloc ?_ k4; dsimp only; omega), (by with_reducible refine cell_realloc ?_ k5; dsimp only; omega), (by with_reducible refine cell_realloc ?_ k6; dsimp only; omega), (by with_reducible refine cell_realloc ?_ k7; dsimp only; omega), (by with_reducible refine frozen_realloc ?_ k8; dsimp only; omega), (by with_reducible refine cell_realloc ?_ k9; dsimp only; omega), (by with_reducible refine frozen_realloc ?_ k10; dsimp only; omega), (by with_reducible refine cell_realloc ?_ k11; dsimp only; omega), (by with_reducible refine cell_realloc ?_ k12; dsimp only; omega), (by with_reducible refine cell_realloc ?_ k13; dsimp only; omega), (by with_reducible refine cell_realloc ?_ k14; dsimp only; omega), (by with_reducible refine cell_realloc ?_ k15; dsimp only; omega), (by with_reducible refine cell_realloc ?_ k16; dsimp only; omega), (by with_reducible refine below_realloc kB ?_; omega), (by first | (simp; done) | (simp at kz ⊢; omega) | omega)⟩) | (obtain ⟨k1, k2, k3, k4, k5, k6, k7, k8, k9, k10, k11, k12, k13, k14, k15, k16, kB, kz⟩ := hHeld; exact ⟨(by first | ((repeat with_reducible refine cell_set ?_ (by dsimp only; omega)); with_reducible exact k1) | (go_simp; done)), (by first | ((repeat with_reducible refine cell_set ?_ (by dsimp only; omega)); with_reducible exact k2) | (go_simp; done)), (by first | ((repeat with_reducible refine cell_set ?_ (by dsimp only; omega)); with_reducible exact k3) | (go_simp; done)), (by first | ((repeat with_reducible refine cell_set ?_ (by dsimp only; omega)); with_reducible exact k4) | (go_simp; done)), (by first | ((repeat with_reducible refine cell_set ?_ (by dsimp only; omega)); with_reducible exact k5) | (go_simp; done)), (by first | ((repeat with_reducible refine cell_set ?_ (by dsimp only; omega)); with_reducible exact k6) | (go_simp; done)), (by first | ((repeat with_reducible refine cell_set ?_ (by dsimp only; omega)); with_reducible exact k7) | (go_simp; done)), (by first | ((repeat rw [World.frozen?_setCell]); with_reducible exact k8) | (go_simp; done)), (by first | ((repeat with_reducible refine cell_set ?_ (by dsimp only; omega)); with_reducible exact k9) | (go_simp; done)), (by first | ((repeat rw [World.frozen?_setCell]); with_reducible exact k10) | (go_simp; done)), (by first | ((repeat with_reducible refine cell_set ?_ (by dsimp only; omega)); with_reducible exact k11) | (go_simp; done)), (by first | ((repeat with_reducible refine cell_set ?_ (by dsimp only; omega)); with_reducible exact k12) | (go_simp; done)), (by first | ((repeat with_reducible refine cell_set ?_ (by dsimp only; omega)); with_reducible exact k13) | (go_simp; done)), (by first | ((repeat with_reducible refine cell_set ?_ (by dsimp only; omega)); with_reducible exact k14) | (go_simp; done)), (by first | ((repeat with_reducible refine cell_set ?_ (by dsimp only; omega)); with_reducible exact k15) | (go_simp; done)), (by first | ((repeat with_reducible refine cell_set ?_ (by dsimp only; omega)); with_reducible exact k16) | (go_simp; done)), bwz, (by first | (simp; done) | (simp at kz ⊢; omega) | omega)⟩)
      clear hK K hHeld; (have hHeld := hH2); clear hH2; (try simp only [pz])
      refine wpAnyH_done (by kernel_rfl) ?_ _; (try simp only [pz])
      obtain ⟨k1, k2, k3, k4, k5, k6, k7, k8, k9, k10, k11, k12, k13, k14, k15, k16, kB, kz⟩ := hHeld
      go_wp2_with fail
      go_meet
      exact ⟨_, _, rfl, rfl, (by omega), (by omega), k5, k6, k7, k8, k9, k10, (by go_simp; done), (by go_simp; done), kB, kz⟩
  case rest =>
    obtain ⟨gf, hf2, rfl, rfl, kg, kh, k1, k2, k3, k4, k5, k6, k7, k8, kB, kz⟩ := hcut
    have lg : gf < wc.heap.size := World.block_lt_of_cell? _ _ k7
    have lh : hf2 < wc.heap.size := World.block_lt_of_cell? _ _ k8
    have lr : w.heap.size + 1 + 1 < wc.heap.size := World.block_lt_of_cell? _ _ k3
    have lb : w.heap.size + 1 < wc.heap.size := by omega
    have v2 : IntKind.i64.wrap (T (l + 1) - T l) = T (l + 1) - T l := IntWalk.i64_in _ (by omega)
    have v3 : IntKind.i64.wrap (T l + q9) = T l + q9 := IntWalk.i64_in _ (by omega)
    clear c0 c1 c2 d0 d1 d2 we
    go_wp2_with (go_at_call 105; (with_reducible refine (KD.out _).mono ?_); rintro e w9 ⟨rfl, hb⟩; obtain ⟨hc, hf⟩ := bcell hb; have hz9 := hb.size)
    have mg : gf < w9.heap.size := by omega
    have mh : hf2 < w9.heap.size := by omega
    have mr : w.heap.size + 1 + 1 < w9.heap.size := by omega
    have mb : w.heap.size + 1 < w9.heap.size := by omega
    go_region
    all_goals go_wp2
    all_goals (simp [bodyPost, results, Tryz.results88, go_sem, *])
    all_goals exact bwz
set_option maxRecDepth 100000 in
set_option maxHeartbeats 8000000 in
theorem spec_l05Crossings (ax ay bx bY : Int) (b o n cap : Nat) (T U V : Nat → Int) (w : World) (h : RowAt w (some ⟨b, o, none⟩) n 3 (v3 T U V)) (hv : isTr n T U V = true) (hl : isSg ax ay bx bY = true) :
    Calls Tryz.prog 73 #[.agg #[.slice (some ⟨b, o, none⟩) n cap], .agg #[.int .i64 ax, .int .i64 ay, .int .i64 bx, .int .i64 bY]] w fun e w' => ∃ g cp, e = .returned (.slice (some ⟨g, 0, none⟩) (cxs ax ay bx bY U V (n - 1)).length cp) ∧ w'.ownsRow w.heap.size 102 5 (.slice (some ⟨g, 0, none⟩) (cxs ax ay bx bY U V (n - 1)).length cp) (cxs ax ay bx bY U V (n - 1)).length (cxCs ax ay bx bY T U V (cxs ax ay bx bY U V (n - 1))) ∧ Below w.heap.size w w' := by
  obtain ⟨hn2, hn40, hall⟩ := isTr_t hv
  obtain ⟨i1, hi, hz0, hz1', hz2'⟩ := info_parts infoCx
  have Hi := hide hi
  have Hz := hide (And.intro hz0 (And.intro hz1' hz2'))
  clear hi hz0 hz1' hz2'
  obtain ⟨la, lb, _⟩ := isSg_t hl
  obtain ⟨s1, s2⟩ := pt_sm la
  obtain ⟨s3, s4⟩ := pt_sm lb
  have KY := hide (fun (l : Nat) (hl : l + 1 < n) W => spec_l05Way ax ay bx bY (U l) (V l) (U (l + 1)) (V (l + 1)) s1 s2 s3 s4 (pt_sm (isTr_leg hv hl).2.2.2.1).1 (pt_sm (isTr_leg hv hl).2.2.2.1).2 (pt_sm (isTr_leg hv hl).2.2.2.2).1 (pt_sm (isTr_leg hv hl).2.2.2.2).2 W)
  have KP := hide (fun (l : Nat) (hll : l + 1 < n) (hw : ¬ wyL ax ay bx bY U V l = 0) W => spec_l02Place_ok ax ay bx bY (U l) (V l) (U (l + 1)) (V (l + 1)) hl (isTr_leg hv hll).2.2.2.1 (isTr_leg hv hll).2.2.2.2 hw W)
  have KE := hide (fun (l : Nat) (hll : l + 1 < n) (hw : ¬ wyL ax ay bx bY U V l = 0) (tm wy : Int) W (hb : Below w.heap.size w W) => spec_l05Exact b o n cap l T U V tm wy (cxN ax ay bx bY U V l) (cxD ax ay bx bY U V l) W (RowAt.later hb h) hv hll (cx_facts hl hv hll hw).1 (cx_facts hl hv hll hw).2.1 (cx_facts hl hv hll hw).2.2.1 (Int.le_trans (cx_facts hl hv hll hw).2.2.2 (by decide)))
  have HF := hide (fun (l : Nat) (hll : l + 1 < n) (hw : ¬ wyL ax ay bx bY U V l = 0) => cx_facts hl hv hll hw)
  have HT := hide (fun (l : Nat) (hll : l + 1 < n) => isTr_leg hv hll)
  have Hh := hide h
  clear h hv hl la lb s1 s2 s3 s4 hall
  go_enter Tryz.func73, Tryz.ntmps73
  go_wp2
  go_loopw [5, 6] (fun v i wr => ∃ k g9 cp9 : Nat, k + 1 ≤ n ∧ i = .int .i64 k ∧ v = .slice (some ⟨g9, 0, none⟩) (cxs ax ay bx bY U V k).length cp9 ∧ Hid (wr.ownsRow (w.heap.size + 1 + 1) 102 5 (.slice (some ⟨g9, 0, none⟩) (cxs ax ay bx bY U V k).length cp9) (cxs ax ay bx bY U V k).length (cxCs ax ay bx bY T U V (cxs ax ay bx bY U V k))) ∧ wr.cell? ⟨w.heap.size, 0, none⟩ = some (.slice (some ⟨b, o, none⟩) n cap) ∧ wr.cell? ⟨w.heap.size + 1, 0, none⟩ = some (.int .i64 ax) ∧ wr.cell? ⟨w.heap.size + 1, 1, none⟩ = some (.int .i64 ay) ∧ wr.cell? ⟨w.heap.size + 1, 2, none⟩ = some (.int .i64 bx) ∧ wr.cell? ⟨w.heap.size + 1, 3, none⟩ = some (.int .i64 bY) ∧ Below w.heap.size w wr) (fun _ i _ => n - (intOf i).toNat)
  case atStart =>
    refine ⟨0, w.heap.size + 1 + 1, 0, by omega, rfl, rfl, hide ?_, by go_simp, by go_simp, by go_simp, by go_simp, by go_simp, bwz⟩
    have hm := World.ownsRow_made (base := w.heap.size + 1 + 1) (e := 102) (size := 5) ((w.alloc (.cells #[.slice (some ⟨b, o, none⟩) n cap] 60)).alloc (.cells #[.int .i64 ax, .int .i64 ay, .int .i64 bx, .int .i64 bY] 37)) #[] 0 (by simp) (by decide) rfl
    simp only [size_al] at hm
    exact hm
  case round =>
    obtain ⟨k, g9, cp9, hk, rfl, rfl, HO, e0, e1, e2, e3, e4, hbl⟩ := hrel
    have hg9b := HO.out.lt g9 rfl
    have zr0 : w.heap.size < wr.heap.size := by omega
    have zr1 : w.heap.size + 1 < wr.heap.size := by omega
    have HBl := hide hbl
    have we : IntKind.i64.wrap ((k : Int) + 1) = (k : Int) + 1 := IntWalk.i64_in _ (by omega)
    by_cases hlt : k + 1 < n
    · have hi1 : (k : Int) + 1 < (n : Int) := by omega
      have hi2 : (k : Int) < (n : Int) := by omega
      have hi4 : (0 : Int) ≤ (k : Int) := by omega
      have hi5 : (0 : Int) ≤ (k : Int) + 1 := by omega
      have hl9 := cxs_len ax ay bx bY U V k
      have Ky := fun W => (show wayI ax ay bx bY (U k) (V k) (U (k + 1)) (V (k + 1)) = wyL ax ay bx bY U V k from rfl) ▸ KY.out k hlt W
      obtain ⟨y9, hy9⟩ : ∃ v, v = wyL ax ay bx bY U V k := ⟨_, rfl⟩
      rw [← hy9] at Ky
      have Hy9 := hide hy9
      clear hy9
      obtain ⟨c0, c1, c2⟩ := (RowAt.later hbl Hh.out).on3 k (by omega)
      obtain ⟨c3, c4, c5⟩ := (RowAt.later hbl Hh.out).on3 (k + 1) hlt
      have hbs : b < wr.heap.size := World.block_lt_of_cell? _ _ c0
      clear hbl
      obtain ⟨a1, j1⟩ : ∃ v, v = U k := ⟨_, rfl⟩
      obtain ⟨a2, j2⟩ : ∃ v, v = V k := ⟨_, rfl⟩
      obtain ⟨a3, j3⟩ : ∃ v, v = U (k + 1) := ⟨_, rfl⟩
      obtain ⟨a4, j4⟩ : ∃ v, v = V (k + 1) := ⟨_, rfl⟩
      have Kp := hide (fun (hw : ¬ y9 = 0) W => (show cpN (crs ax ay bx bY a1 a2) (crs ax ay bx bY a3 a4) = cxN ax ay bx bY U V k by rw [j1, j2, j3, j4]; rfl) ▸ (show cpD (crs ax ay bx bY a1 a2) (crs ax ay bx bY a3 a4) = cxD ax ay bx bY U V k by rw [j1, j2, j3, j4]; rfl) ▸ j1 ▸ j2 ▸ j3 ▸ j4 ▸ KP.out k hlt (by rw [← Hy9.out]; exact hw) W)
      rw [← j1, ← j2, ← j3, ← j4] at Ky
      have Ky := hide Ky
      rw [← j1] at c1
      rw [← j2] at c2
      rw [← j3] at c4
      rw [← j4] at c5
      clear j1 j2 j3 j4
      go_upto_region 5 with fail
      go_cut [7, 8] (fun s7 s8 W => ∃ gp gq : Nat, s7 = .pointer (some ⟨gp, 0, none⟩) ∧ s8 = .pointer (some ⟨gq, 0, none⟩) ∧ W.cell? ⟨gp, 0, none⟩ = some (.int .i64 a1) ∧ W.cell? ⟨gp, 1, none⟩ = some (.int .i64 a2) ∧ W.cell? ⟨gq, 0, none⟩ = some (.int .i64 a3) ∧ W.cell? ⟨gq, 1, none⟩ = some (.int .i64 a4) ∧ Below wr.heap.size wr W)
      case first =>
        obtain ⟨wB, rfl⟩ : ∃ W : World, W = wr := ⟨_, rfl⟩
        refine wp_region_held_drew (S := fun W => Below wB.heap.size wB W) (by kernel_rfl) (Below.drew (by first | with_reducible exact Below.refl _ _ | with_reducible exact below_drewN (Below.refl _ _) _)) (fun hHeld => ?_)
        refine tkN 0 (some 24) rfl ?_; (try simp only [pz])
        refine tkL 1 (some 25) rfl ?_; (try simp only [pz])
        refine tkN 2 (some 26) rfl ?_; (try simp only [pz])
        refine tkN 3 (some 27) rfl ?_; (try simp only [pz])
        refine tkL 4 (some 28) rfl ?_; (try simp only [pz])
        refine tkN 6 (some 30) rfl ?_; (try simp only [pz])
        refine tkL 7 (some 31) rfl ?_; (try simp only [pz])
        refine tkN 8 (some 32) rfl ?_; (try simp only [pz])
        refine tkN 9 (some 33) rfl ?_; (try simp only [pz])
        refine tkN 10 (some 34) rfl ?_; (try simp only [pz])
        refine tkL 11 (some 35) rfl ?_; (try simp only [pz])
        refine wpAnyH_inv2 (fuel := 2) [5, 12, 13, 14] [] [29, 36, 7, 8] (fun uT L W => Below wB.heap.size wB W ∧ (L 5 → (uT 29) = (.agg #[.int .i64 a1, .int .i64 a2])) ∧ (L 12 → (uT 36) = (.agg #[.int .i64 a3, .int .i64 a4])) ∧ (L 13 → FBoxB wB 2 (uT 7) W) ∧ (L 14 → FBoxB wB 2 (uT 8) W) ∧ (L 13 → L 14 → uT 7 ≠ uT 8) ∧ True) (by decide) (by kernel_rfl) (by kernel_rfl) (by intro _ _ _ _ _ h; exact h) (fun uT L W hJ => hJ.1) (fun uT L hL => ⟨hHeld, fun k => absurd k (hL 5 (by decide)), fun k => absurd k (hL 12 (by decide)), fun k => absurd k (hL 13 (by decide)), fun k => absurd k (hL 14 (by decide)), fun k _ => absurd k (hL 13 (by decide)), trivial⟩) ?_ ?_ ?_
        · refine StepsH.cons (d := 29) (o := ⟨some 29, _, _, _, _, _⟩) rfl rfl (by kernel_rfl) ?_ ?_
          rotate_left
          refine StepsH.cons (d := 36) (o := ⟨some 36, _, _, _, _, _⟩) rfl rfl (by kernel_rfl) ?_ ?_
          rotate_left
          refine StepsH.cons (d := 7) (o := ⟨some 7, _, _, _, _, _⟩) rfl rfl (by kernel_rfl) ?_ ?_
          rotate_left
          refine StepsH.cons (d := 8) (o := ⟨some 8, _, _, _, _, _⟩) rfl rfl (by kernel_rfl) ?_ ?_
          rotate_left
          exact StepsH.nil
          · intro uT L W hn hd hJ
            obtain ⟨hk, f29, f36, f7, f8, n7_8, _⟩ := hJ
            intro K hK
            simp only [puts, pz]
            go_simp; (first | (go_at_call 46; (with_reducible refine (spec_l03Point _ _ _ _).mono ?_); rintro e w9 ⟨rfl, hb⟩; have hzz := hb.size; (try simp at hzz); obtain ⟨hc, hf⟩ := bcell hb))
            all_goals (try go_wp2_with fail)
            all_goals
              apply Shut.go4 (W := W) hK
              · simp only [puts, pz]; rfl
              · first | with_reducible assumption | with_reducible exact Below.refl _ _ | exact Below.alloc (Below.refl _ _) (Nat.le_refl _) _
              · intro hb; exact ⟨bstep hk hb, fun _ => upd_same _ _ _, fun k => by rw [upd_ne uT _ (by decide)]; exact (f36 (k.resolve_left (by decide))), fun k => by rw [upd_ne uT _ (by decide)]; exact FBoxB.later hb (f7 (k.resolve_left (by decide))), fun k => by rw [upd_ne uT _ (by decide)]; exact FBoxB.later hb (f8 (k.resolve_left (by decide))), fun k k2 => by rw [upd_ne uT _ (by decide), upd_ne uT _ (by decide)]; exact n7_8 (k.resolve_left (by decide)) (k2.resolve_left (by decide)), trivial⟩
          · intro uT L W hn hd hJ
            obtain ⟨hk, f29, f36, f7, f8, n7_8, _⟩ := hJ
            intro K hK
            simp only [puts, pz]
            go_simp; (first | (go_at_call 46; (with_reducible refine (spec_l03Point _ _ _ _).mono ?_); rintro e w9 ⟨rfl, hb⟩; have hzz := hb.size; (try simp at hzz); obtain ⟨hc, hf⟩ := bcell hb))
            all_goals (try go_wp2_with fail)
            all_goals
              apply Shut.go4 (W := W) hK
              · simp only [puts, pz]; rfl
              · first | with_reducible assumption | with_reducible exact Below.refl _ _ | exact Below.alloc (Below.refl _ _) (Nat.le_refl _) _
              · intro hb; exact ⟨bstep hk hb, fun k => by rw [upd_ne uT _ (by decide)]; exact (f29 (k.resolve_left (by decide))), fun _ => upd_same _ _ _, fun k => by rw [upd_ne uT _ (by decide)]; exact FBoxB.later hb (f7 (k.resolve_left (by decide))), fun k => by rw [upd_ne uT _ (by decide)]; exact FBoxB.later hb (f8 (k.resolve_left (by decide))), fun k k2 => by rw [upd_ne uT _ (by decide), upd_ne uT _ (by decide)]; exact n7_8 (k.resolve_left (by decide)) (k2.resolve_left (by decide)), trivial⟩
          · intro uT L W hn hd hJ
            obtain ⟨hk, f29, f36, f7, f8, n7_8, _⟩ := hJ
            intro K hK
            simp only [puts, pz]
            go_simp
            all_goals (try go_wp2_with fail)
            all_goals
              apply Shut.go4 (W := W) hK
              · simp only [puts, pz]; rfl
              · first | with_reducible assumption | with_reducible exact Below.refl _ _ | exact Below.alloc (Below.refl _ _) (Nat.le_refl _) _
              · intro hb; exact ⟨bstep hk hb, fun k => by rw [upd_ne uT _ (by decide)]; exact (f29 (k.resolve_left (by decide))), fun k => by rw [upd_ne uT _ (by decide)]; exact (f36 (k.resolve_left (by decide))), fun _ => by rw [upd_same]; exact FBoxB.new (Below.size hk) _ _ (by rfl), fun k => by rw [upd_ne uT _ (by decide)]; exact FBoxB.later hb (f8 (k.resolve_left (by decide))), fun _ k => by rw [upd_same, upd_ne uT _ (by decide)]; exact FBoxB.ne_new (f8 (k.resolve_left (by decide))), trivial⟩
          · intro uT L W hn hd hJ
            obtain ⟨hk, f29, f36, f7, f8, n7_8, _⟩ := hJ
            intro K hK
            simp only [puts, pz]
            go_simp
            all_goals (try go_wp2_with fail)
            all_goals
              apply Shut.go4 (W := W) hK
              · simp only [puts, pz]; rfl
              · first | with_reducible assumption | with_reducible exact Below.refl _ _ | exact Below.alloc (Below.refl _ _) (Nat.le_refl _) _
              · intro hb; exact ⟨bstep hk hb, fun k => by rw [upd_ne uT _ (by decide)]; exact (f29 (k.resolve_left (by decide))), fun k => by rw [upd_ne uT _ (by decide)]; exact (f36 (k.resolve_left (by decide))), fun k => by rw [upd_ne uT _ (by decide)]; exact FBoxB.later hb (f7 (k.resolve_left (by decide))), fun _ => by rw [upd_same]; exact FBoxB.new (Below.size hk) _ _ (by rfl), fun k _ => by rw [upd_same, upd_ne uT _ (by decide)]; exact (FBoxB.ne_new (f7 (k.resolve_left (by decide)))).symm, trivial⟩
        · exact PuresH.nil
        · intro uT L W hJ hL
          obtain ⟨hk, f29, f36, f7, f8, n7_8, _⟩ := hJ
          obtain e29 := f29 (hL 5 (by kernel_rfl))
          obtain e36 := f36 (hL 12 (by kernel_rfl))
          obtain ⟨b7, e7, bb7, lb7, cb7⟩ := f7 (hL 13 (by kernel_rfl))
          obtain ⟨b8, e8, bb8, lb8, cb8⟩ := f8 (hL 14 (by kernel_rfl))
          have hne := n7_8 (hL 13 (by kernel_rfl)) (hL 14 (by kernel_rfl)); rw [e7, e8] at hne; simp at hne; have hne2 := Ne.symm hne
          clear hHeld; have hcW := (bcell hk).1; have hfW := (bcell hk).2; have lW := Below.size hk; have hHeld := hk
          clear f29
          clear f36
          clear f7
          clear f8
          clear n7_8
          simp only [puts, pz, setAll, Array.replicate, e29, e36, e7, e8]
          obtain ⟨⟨y7_0, cy7_0⟩, fy7_0⟩ := cb7 0 (by decide)
          obtain ⟨⟨y7_1, cy7_1⟩, fy7_1⟩ := cb7 1 (by decide)
          obtain ⟨⟨y8_0, cy8_0⟩, fy8_0⟩ := cb8 0 (by decide)
          obtain ⟨⟨y8_1, cy8_1⟩, fy8_1⟩ := cb8 1 (by decide)
          refine wpAnyH_ready (rs := [15]) (by kernel_rfl) (by simp) ?_; refine (AllReadyH.cons (o := ⟨none, _, _, _, _, _⟩) rfl (fun K hK => ?_) AllReadyH.nil)
          go_simp
          all_goals (try go_wp2_with fail)
          refine hK.out _ _ ?_ (fun hH2 => ?_)
          · exact bwz
          clear hK K hHeld; (have hHeld := hH2); clear hH2; (try simp only [Act.put])
          refine wpAnyH_ready (rs := [16]) (by kernel_rfl) (by simp) ?_; refine (AllReadyH.cons (o := ⟨none, _, _, _, _, _⟩) rfl (fun K hK => ?_) AllReadyH.nil)
          go_simp
          all_goals (try go_wp2_with fail)
          refine hK.out _ _ ?_ (fun hH2 => ?_)
          · exact bwz
          clear hK K hHeld; (have hHeld := hH2); clear hH2; (try simp only [Act.put])
          refine wpAnyH_done (by kernel_rfl) ?_ _; (try simp only [pz])
          go_wp2_with fail
          go_meet
          exact ⟨_, _, rfl, rfl, ctz, ctz, ctz, ctz, hHeld⟩
      case rest =>
        obtain ⟨gp, gq, rfl, rfl, q1, q2, q3, q4, rB⟩ := hcut
        have kp : gp < wc.heap.size := World.block_lt_of_cell? _ _ q1
        have kq : gq < wc.heap.size := World.block_lt_of_cell? _ _ q3
        have m0 := cell_later rB e0
        have m1 := cell_later rB e1
        have m2 := cell_later rB e2
        have m3 := cell_later rB e3
        have m4 := cell_later rB e4
        have HOS := hide (own_later rB HO.out)
        have HBS := hide (bstep HBl.out rB)
        have zS := rB.size
        have zS1 : w.heap.size + 1 < wc.heap.size := by omega
        have zS0 : w.heap.size < wc.heap.size := by omega
        clear rB e0 e1 e2 e3 e4 HO HBl c0 c1 c2 c3 c4 c5
        go_wp2_with fail; (with_reducible refine (Ky.out _).mono ?_); rintro e wV ⟨rfl, hb⟩
        have n0 := cell_later hb m0
        have n1 := cell_later hb m1
        have n2 := cell_later hb m2
        have n3 := cell_later hb m3
        have n4 := cell_later hb m4
        have r1 := cell_later hb q1
        have r2 := cell_later hb q2
        have r3 := cell_later hb q3
        have r4 := cell_later hb q4
        have HOV := hide (own_later hb HOS.out)
        have HBV := hide (bstep HBS.out hb)
        have zV := hb.size
        have zV1 : gp < wV.heap.size := by omega
        have zV4 : gq < wV.heap.size := by omega
        have zV2 : w.heap.size + 1 < wV.heap.size := by omega
        have zV3 : w.heap.size < wV.heap.size := by omega
        clear hb q1 q2 q3 q4 m0 m1 m2 m3 m4 HOS HBS Ky
        by_cases hy : y9 = 0
        · have Hn := hide (cxs_no (k := k) (Hy9.out.symm.trans hy))
          subst hy
          clear r1 r2 r3 r4 Kp
          go_wp2
          go_roundw
          case rel => exact ⟨k + 1, g9, cp9, by omega, by go_num, by rw [Hn.out], by rw [Hn.out]; exact HOV, n0, n1, n2, n3, n4, HBV.out⟩
          case measure => simp [intOf]; omega
        · have hyb : (y9 == 0) = false := beq_eq_false_iff_ne.2 hy
          have hyw := fun q => hy (Hy9.out.trans q)
          have Hn := hide (cxs_yes (k := k) hyw)
          obtain ⟨f1, f2, f3, f4⟩ := HF.out k hlt hyw
          obtain ⟨t0, t1, t2, _, _⟩ := HT.out k hlt
          obtain ⟨x1, x2, x3, x4⟩ := gone_bd (show 0 ≤ T (k + 1) - T k by omega) f1 f2 f3
          have Kp2 := hide (Kp.out hy)
          have Ke := hide (KE.out k hlt hyw)
          have hcC : cxC ax ay bx bY T U V k = [.int .i64 (T k + goneI (T (k + 1) - T k) (cxN ax ay bx bY U V k) (cxD ax ay bx bY U V k)), .int .i64 (k : Int), .int .i64 y9, .int .i64 (cxN ax ay bx bY U V k), .int .i64 (cxD ax ay bx bY U V k)] := by unfold cxC cxT; rw [← Hy9.out]
          have hgo : goneI (T (k + 1) - T k) (cxN ax ay bx bY U V k) (cxD ax ay bx bY U V k) = if 0 < (T (k + 1) - T k) * cxN ax ay bx bY U V k % cxD ax ay bx bY U V k then (T (k + 1) - T k) * cxN ax ay bx bY U V k / cxD ax ay bx bY U V k + 1 else (T (k + 1) - T k) * cxN ax ay bx bY U V k / cxD ax ay bx bY U V k := rfl
          generalize (T (k + 1) - T k) * cxN ax ay bx bY U V k / cxD ax ay bx bY U V k = q9 at *
          generalize (T (k + 1) - T k) * cxN ax ay bx bY U V k % cxD ax ay bx bY U V k = r9 at *
          have Hgo := hide hgo
          generalize goneI (T (k + 1) - T k) (cxN ax ay bx bY U V k) (cxD ax ay bx bY U V k) = o9 at *
          clear hgo hyw
          generalize cxN ax ay bx bY U V k = n9 at *
          generalize cxD ax ay bx bY U V k = d9 at *
          have HcC := hide hcC
          clear hcC
          go_wp2_with fail; (with_reducible refine (Kp2.out _).mono ?_); rintro e wP ⟨rfl, hb⟩
          have p0 := cell_later hb n0
          have p1 := cell_later hb n1
          have p2 := cell_later hb n2
          have p3 := cell_later hb n3
          have p4 := cell_later hb n4
          have hOP := own_later hb HOV.out
          have hBP := bstep HBV.out hb
          have zP := hb.size
          have zP0 : w.heap.size < wP.heap.size := by omega
          have zP1 : w.heap.size + 1 < wP.heap.size := by omega
          clear hb r1 r2 r3 r4 n0 n1 n2 n3 n4 HOV HBV Kp Kp2
          go_wp2_with fail; (with_reducible refine (Ke.out _ _ _ (Below.alloc (Below.alloc hBP (by omega) _) (by simp; omega) _)).mono ?_); rintro e wE ⟨rfl, hb⟩
          obtain ⟨wQ, hQ⟩ : ∃ W, W = (wP.alloc (.cells #[.int .i64 n9, .int .i64 d9] 100)).alloc (.cells #[.int .i64 0, .int .i64 k, .int .i64 y9, .int .i64 n9, .int .i64 d9] 102) := ⟨_, rfl⟩
          have sQ : wP.heap.size + 1 < wQ.heap.size := by rw [hQ]; simp
          have u0 : wQ.cell? ⟨wP.heap.size + 1, 0, none⟩ = some (.int .i64 0) := by rw [hQ]; go_simp
          have u1 : wQ.cell? ⟨wP.heap.size + 1, 1, none⟩ = some (.int .i64 k) := by rw [hQ]; go_simp
          have u2 : wQ.cell? ⟨wP.heap.size + 1, 2, none⟩ = some (.int .i64 y9) := by rw [hQ]; go_simp
          have u3 : wQ.cell? ⟨wP.heap.size + 1, 3, none⟩ = some (.int .i64 n9) := by rw [hQ]; go_simp
          have u4 : wQ.cell? ⟨wP.heap.size + 1, 4, none⟩ = some (.int .i64 d9) := by rw [hQ]; go_simp
          have uf : wQ.frozen? ⟨wP.heap.size + 1, 0, none⟩ = false := by rw [hQ]; go_simp
          have y0 := (hQ ▸ cell_alloc (cell_alloc p0) : wQ.cell? _ = _)
          have y1 := (hQ ▸ cell_alloc (cell_alloc p1) : wQ.cell? _ = _)
          have y2 := (hQ ▸ cell_alloc (cell_alloc p2) : wQ.cell? _ = _)
          have y3 := (hQ ▸ cell_alloc (cell_alloc p3) : wQ.cell? _ = _)
          have y4 := (hQ ▸ cell_alloc (cell_alloc p4) : wQ.cell? _ = _)
          have hOQ := (hQ ▸ (hOP.alloc _).alloc _ : wQ.ownsRow (w.heap.size + 1 + 1) 102 5 (.slice (some ⟨g9, 0, none⟩) (cxs ax ay bx bY U V k).length cp9) (cxs ax ay bx bY U V k).length (cxCs ax ay bx bY T U V (cxs ax ay bx bY U V k)))
          have hBQ := (hQ ▸ Below.alloc (Below.alloc hBP (by omega) _) (by simp; omega) _ : Below w.heap.size w wQ)
          rw [← hQ] at hb
          clear hQ p0 p1 p2 p3 p4 hOP hBP
          have h0 := cell_later hb y0
          have h1 := cell_later hb y1
          have h2 := cell_later hb y2
          have h3 := cell_later hb y3
          have h4 := cell_later hb y4
          have v0 := cell_later hb u0
          have v1 := cell_later hb u1
          have v2 := cell_later hb u2
          have v3 := cell_later hb u3
          have v4 := cell_later hb u4
          have vf := frozen_later hb u0 uf
          have hOW := own_later hb hOQ
          have HBW := hide (bstep hBQ hb)
          have zW := hb.size
          have zW1 : wP.heap.size + 1 < wE.heap.size := by omega
          have hg9P : g9 ≠ wP.heap.size + 1 := by have := hOQ.lt g9 rfl; omega
          clear hb y0 y1 y2 y3 y4 u0 u1 u2 u3 u4 uf hOQ hBQ
          go_upto_region 12 with fail
          obtain ⟨wX, hX⟩ : ∃ W, W = (wE.setCell ⟨wP.heap.size + 1, 0, none⟩ (.int .i64 (T k + q9))).alloc (.cells #[.int .i64 r9, .int .i64 d9] 100) := ⟨_, rfl⟩
          rw [← hX]
          have l0 : wX.cell? ⟨w.heap.size, 0, none⟩ = some (.slice (some ⟨b, o, none⟩) n cap) := by rw [hX]; exact cell_alloc (cell_off h0 (.inl (by show wP.heap.size + 1 ≠ w.heap.size; omega)))
          have l1 : wX.cell? ⟨w.heap.size + 1, 0, none⟩ = some (.int .i64 ax) := by rw [hX]; exact cell_alloc (cell_off h1 (.inl (by show wP.heap.size + 1 ≠ w.heap.size + 1; omega)))
          have l2 : wX.cell? ⟨w.heap.size + 1, 1, none⟩ = some (.int .i64 ay) := by rw [hX]; exact cell_alloc (cell_off h2 (.inl (by show wP.heap.size + 1 ≠ w.heap.size + 1; omega)))
          have l3 : wX.cell? ⟨w.heap.size + 1, 2, none⟩ = some (.int .i64 bx) := by rw [hX]; exact cell_alloc (cell_off h3 (.inl (by show wP.heap.size + 1 ≠ w.heap.size + 1; omega)))
          have l4 : wX.cell? ⟨w.heap.size + 1, 3, none⟩ = some (.int .i64 bY) := by rw [hX]; exact cell_alloc (cell_off h4 (.inl (by show wP.heap.size + 1 ≠ w.heap.size + 1; omega)))
          have ic0 : wX.cell? ⟨wP.heap.size + 1, 0, none⟩ = some (.int .i64 (T k + q9)) := by rw [hX]; exact cell_alloc (cell_same v0)
          have ic1 : wX.cell? ⟨wP.heap.size + 1, 1, none⟩ = some (.int .i64 (k)) := by rw [hX]; exact cell_alloc (cell_off v1 (.inr (by show 0 ≠ 1; decide)))
          have ic2 : wX.cell? ⟨wP.heap.size + 1, 2, none⟩ = some (.int .i64 (y9)) := by rw [hX]; exact cell_alloc (cell_off v2 (.inr (by show 0 ≠ 2; decide)))
          have ic3 : wX.cell? ⟨wP.heap.size + 1, 3, none⟩ = some (.int .i64 (n9)) := by rw [hX]; exact cell_alloc (cell_off v3 (.inr (by show 0 ≠ 3; decide)))
          have ic4 : wX.cell? ⟨wP.heap.size + 1, 4, none⟩ = some (.int .i64 (d9)) := by rw [hX]; exact cell_alloc (cell_off v4 (.inr (by show 0 ≠ 4; decide)))
          have if0 : wX.frozen? ⟨wP.heap.size + 1, 0, none⟩ = false := by rw [hX]; go_simp
          have ir : wX.cell? ⟨wE.heap.size, 0, none⟩ = some (.int .i64 r9) := by rw [hX]; go_simp
          have hOX := (by rw [hX]; exact (own_ne hOW hg9P).alloc _ : wX.ownsRow (w.heap.size + 1 + 1) 102 5 (.slice (some ⟨g9, 0, none⟩) (cxs ax ay bx bY U V k).length cp9) (cxs ax ay bx bY U V k).length (cxCs ax ay bx bY T U V (cxs ax ay bx bY U V k)))
          have HBX := hide (show Below w.heap.size w wX by rw [hX]; have hBW := HBW.out; exact bwz)
          have zX : wP.heap.size + 1 < wX.heap.size := World.block_lt_of_cell? _ _ ic0
          have zXw : w.heap.size + 1 < wX.heap.size := World.block_lt_of_cell? _ _ l1
          clear hX h0 h1 h2 h3 h4 v0 v1 v2 v3 v4 vf hOW HBW
          by_cases hr : 0 < r9
          · have ho : o9 = q9 + 1 := by rw [Hgo.out, if_pos hr]
            have wt2 : IntKind.i64.wrap (T k + q9 + 1) = T k + q9 + 1 := IntWalk.i64_in _ (by omega)
            have HcC2 := hide (ho ▸ HcC.out)
            clear HcC ho Hgo x3 x4
            have hOY := own_ne (j := 0) (x := .int .i64 (T k + q9 + 1)) hOX hg9P
            have hBY := hide (show Below w.heap.size w (wX.setCell ⟨wP.heap.size + 1, 0, none⟩ (.int .i64 (T k + q9 + 1))) by have hBW := HBX.out; exact bwz)
            have o0 := cell_off (x := .int .i64 (T k + q9 + 1)) (p := ⟨wP.heap.size + 1, 0, none⟩) l0 (.inl (by show wP.heap.size + 1 ≠ w.heap.size; omega))
            have o1 := cell_off (x := .int .i64 (T k + q9 + 1)) (p := ⟨wP.heap.size + 1, 0, none⟩) l1 (.inl (by show wP.heap.size + 1 ≠ w.heap.size + 1; omega))
            have o2 := cell_off (x := .int .i64 (T k + q9 + 1)) (p := ⟨wP.heap.size + 1, 0, none⟩) l2 (.inl (by show wP.heap.size + 1 ≠ w.heap.size + 1; omega))
            have o3 := cell_off (x := .int .i64 (T k + q9 + 1)) (p := ⟨wP.heap.size + 1, 0, none⟩) l3 (.inl (by show wP.heap.size + 1 ≠ w.heap.size + 1; omega))
            have o4 := cell_off (x := .int .i64 (T k + q9 + 1)) (p := ⟨wP.heap.size + 1, 0, none⟩) l4 (.inl (by show wP.heap.size + 1 ≠ w.heap.size + 1; omega))
            go_upto_region 14 with fail
            go_wp2_with (at_builtin; refine wpList_append_lies _ rfl _ _ 122 rfl (w.heap.size + 1 + 1) 102 i1 _ 5 40 Tryz.underlying122 Hi.out Hz.out.1 Hz.out.2.1 Hz.out.2.2 rfl (by decide) _ _ _ rfl (hOY.alloc _) ⟨wX.heap.size, 0, none⟩ 1 1 [.int .i64 (T k + q9 + 1), .int .i64 (k : Int), .int .i64 y9, .int .i64 n9, .int .i64 d9] rfl rfl (new5b (by first | rfl | (simp; done))) (one5 _ _ _ _ _) (by decide) (by unfold maxLen; omega) (by omega) (by simp; omega) (wX.heap.size + 1) (by simp) ?_)
            intro g' cap' wZ hown' hgr' hat hlt'
            have hbZ := below_grown hOY (by first | omega | (simp; omega)) hgr'
            have z0 := cell_below hbZ (by omega) o0
            have z1 := cell_below hbZ (by omega) o1
            have z2 := cell_below hbZ (by omega) o2
            have z3 := cell_below hbZ (by omega) o3
            have z4 := cell_below hbZ (by omega) o4
            clear l0 l1 l2 l3 l4
            go_wp2
            go_roundw
            case rel => exact ⟨k + 1, g', cap', by omega, by go_num, by rw [Hn.out, List.length_append, List.length_singleton], by rw [Hn.out, List.length_append, List.length_singleton, cxCs_app, HcC2.out]; first | exact hown' | (rw [← Int.add_assoc]; exact hown'), z0, z1, z2, z3, z4, hBY.out.trans (hbZ.mono (by first | omega | (simp; omega)))⟩
            case measure => simp [intOf]; omega
          · have ho : o9 = q9 := by rw [Hgo.out, if_neg hr]
            have HcC2 := hide (ho ▸ HcC.out)
            clear HcC ho Hgo x3 x4
            go_upto_region 14 with fail
            go_wp2_with (at_builtin; refine wpList_append_lies _ rfl _ _ 122 rfl (w.heap.size + 1 + 1) 102 i1 _ 5 40 Tryz.underlying122 Hi.out Hz.out.1 Hz.out.2.1 Hz.out.2.2 rfl (by decide) _ _ _ rfl (hOX.alloc _) ⟨wX.heap.size, 0, none⟩ 1 1 [.int .i64 (T k + q9), .int .i64 (k : Int), .int .i64 y9, .int .i64 n9, .int .i64 d9] rfl rfl (new5b (by first | rfl | (simp; done))) (one5 _ _ _ _ _) (by decide) (by unfold maxLen; omega) (by omega) (by simp; omega) (wX.heap.size + 1) (by simp) ?_)
            intro g' cap' wZ hown' hgr' hat hlt'
            have hbZ := below_grown hOX (by first | omega | (simp; omega)) hgr'
            have z0 := cell_below hbZ (by omega) l0
            have z1 := cell_below hbZ (by omega) l1
            have z2 := cell_below hbZ (by omega) l2
            have z3 := cell_below hbZ (by omega) l3
            have z4 := cell_below hbZ (by omega) l4
            clear l0 l1 l2 l3 l4
            go_wp2
            go_roundw
            case rel => exact ⟨k + 1, g', cap', by omega, by go_num, by rw [Hn.out, List.length_append, List.length_singleton], by rw [Hn.out, List.length_append, List.length_singleton, cxCs_app, HcC2.out]; first | exact hown' | (rw [← Int.add_assoc]; exact hown'), z0, z1, z2, z3, z4, HBX.out.trans (hbZ.mono (by first | omega | (simp; omega)))⟩
            case measure => simp [intOf]; omega
    · obtain rfl : k = n - 1 := by omega
      go_wp2
      go_ret
      exact ⟨g9, cp9, rfl, HO.out.mono (by omega), HBl.out⟩
end Go.Proofs.YtiokigjnacmilaaGreatDoor
