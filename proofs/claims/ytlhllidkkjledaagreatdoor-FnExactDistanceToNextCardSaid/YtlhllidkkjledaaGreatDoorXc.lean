/- Walks: quotients of great products; the crossings of a track and a line, of the program. -/
import Derived.Test.YtlhllidkkjledaaGreatDoorXv
import Derived.Test.YtlhllidkkjledaaGreatDoorZl
namespace Go.Proofs.YtlhllidkkjledaaGreatDoor
open Go.RowKit

theorem hilo64 {p : Int} (h0 : 0 ≤ p) : hi64 p * 18446744073709551616 + lo64 p = p ∧ 0 ≤ hi64 p ∧ 0 ≤ lo64 p ∧ lo64 p ≤ 18446744073709551615 := by unfold hi64 lo64; omega
set_option maxHeartbeats 2000000 in
theorem impl_mulDiv_q (x y c : Int) (h1 : 0 ≤ x) (h2 : x ≤ 9223372036854775807) (h3 : 0 ≤ y) (h4 : y ≤ 9223372036854775807) (h5 : 1 ≤ c) (h6 : c ≤ 9223372036854775807) (hq : x * y / c ≤ 2147483647) (w : World) :
    Calls Tryz.prog 169 #[.int .i64 x, .int .i64 y, .int .i64 c] w fun e w' => e = .returned (.tuple #[.int .i64 (x * y / c), .bool (decide (0 < x * y % c))]) ∧ Below w.heap.size w w' := by
  have hp := Int.mul_nonneg h1 h3
  have K1 := fun W => bits_Mul64 x y h1 h2 h3 h4 W
  generalize x * y = p at *
  obtain ⟨e0, e1, e2, e3⟩ := hilo64 hp
  have KM := hide K1
  have hq0 : 0 ≤ p / c := Int.ediv_nonneg hp (by omega)
  have hr0 : 0 ≤ p % c := Int.emod_nonneg _ (by omega)
  have hr1 : p % c < c := Int.emod_lt_of_pos _ (by omega)
  have KD : ∀ W, Calls Tryz.prog 188 #[.int .u64 (hi64 p), .int .u64 (lo64 p), .int .u64 c] W fun e w' => e = .returned (.tuple #[.int .u64 (p / c), .int .u64 (p % c)]) ∧ Below W.heap.size W w' := fun W => by
    by_cases hh : hi64 p = 0
    · have K := bits_Div64_small (lo64 p) c e2 e3 h5 h6 W
      have el : lo64 p = p := by rw [hh] at e0; omega
      rw [el] at K
      rw [hh, el]
      exact K
    · have K := bits_Div64_q (hi64 p) (lo64 p) c (by omega) e2 e3 h5 h6 (by rw [e0]; exact hq) W
      rw [e0] at K
      exact K
  have KD := hide KD
  clear K1 e0
  go_enter Tryz.func169, Tryz.ntmps169
  go_wp2_with (first | (go_at_call 187; (with_reducible refine (KM.out _).mono ?_); rintro e w9 ⟨rfl, rfl⟩) | (go_at_call 188; (with_reducible refine (KD.out _).mono ?_); rintro e w9 ⟨rfl, hb⟩))
  go_ret2
  exact ⟨rfl, hb⟩
theorem new5 {W : World} {e : TypeId} {x y z u' v : Value} : ∀ (j : Nat) (u : Value), [x, y, z, u', v][j]? = some u → (W.alloc (.cells #[x, y, z, u', v] e)).cell? ((⟨W.heap.size, 0, none⟩ : Addr).add j) = some u := fun j u hj => by
  match j, hj with
  | 0, hj => simp at hj; subst hj; simp [Addr.add]
  | 1, hj => simp at hj; subst hj; simp [Addr.add]
  | 2, hj => simp at hj; subst hj; simp [Addr.add]
  | 3, hj => simp at hj; subst hj; simp [Addr.add]
  | 4, hj => simp at hj; subst hj; simp [Addr.add]
theorem one5 (x y z u' v : Int) : ∀ u ∈ [Value.int .i64 x, Value.int .i64 y, Value.int .i64 z, Value.int .i64 u', Value.int .i64 v], u.oneCell' = true := fun u hu => by
  simp at hu; rcases hu with rfl | rfl | rfl | rfl | rfl <;> rfl
theorem infoCx : (Tryz.prog.info? 122).map (fun i => (i.zero, i.size, i.bytes)) = some (some (.agg #[.int .i64 0, .int .i64 0, .int .i64 0, .int .i64 0, .int .i64 0]), 5, 40) := by kernel_rfl
/-- What is known of a crossing. -/
theorem cx_facts {ax ay bx bY : Int} {n k : Nat} {T U V : Nat → Int} (hl : isSg ax ay bx bY = true) (hv : isTr n T U V = true) (hk : k + 1 < n) (hw : ¬ wyL ax ay bx bY U V k = 0) :
    0 ≤ cxN ax ay bx bY U V k ∧ cxN ax ay bx bY U V k ≤ cxD ax ay bx bY U V k ∧ 1 ≤ cxD ax ay bx bY U V k ∧ cxD ax ay bx bY U V k ≤ 16000000000000 := by
  obtain ⟨_, _, _, p0, p1⟩ := isTr_leg hv hk
  obtain ⟨c0, c1, c2, c3⟩ := cp_pre hl p0 p1
  obtain ⟨f1, f2, f3, f4⟩ := cp_facts (way_den hw)
  refine ⟨f1, f2, f3, Int.le_trans f4 ?_⟩
  unfold absI; split <;> split <;> omega
theorem cxT_bd {ax ay bx bY : Int} {n k : Nat} {T U V : Nat → Int} (hl : isSg ax ay bx bY = true) (hv : isTr n T U V = true) (hk : k + 1 < n) (hw : ¬ wyL ax ay bx bY U V k = 0) : 0 ≤ cxT ax ay bx bY T U V k ∧ cxT ax ay bx bY T U V k ≤ 1000000000 := by
  obtain ⟨t0, t1, t2, _, _⟩ := isTr_leg hv hk
  obtain ⟨f1, f2, f3, f4⟩ := cx_facts hl hv hk hw
  obtain ⟨g1, g2, g3, g4⟩ := gone_bd (show 0 ≤ T (k + 1) - T k by omega) f1 f2 f3
  unfold cxT; omega
set_option maxRecDepth 100000 in
set_option maxHeartbeats 8000000 in
theorem impl_crossingsOf (ax ay bx bY : Int) (b o n cap : Nat) (T U V : Nat → Int) (w : World) (h : RowAt w (some ⟨b, o, none⟩) n 3 (v3 T U V)) (hv : isTr n T U V = true) (hl : isSg ax ay bx bY = true) :
    Calls Tryz.prog 145 #[.agg #[.slice (some ⟨b, o, none⟩) n cap], .agg #[.int .i64 ax, .int .i64 ay, .int .i64 bx, .int .i64 bY]] w fun e w' => ∃ g cp, e = .returned (.slice (some ⟨g, 0, none⟩) (cxs ax ay bx bY U V (n - 1)).length cp) ∧ w'.ownsRow w.heap.size 122 5 (.slice (some ⟨g, 0, none⟩) (cxs ax ay bx bY U V (n - 1)).length cp) (cxs ax ay bx bY U V (n - 1)).length (cxCs ax ay bx bY T U V (cxs ax ay bx bY U V (n - 1))) ∧ Below w.heap.size w w' := by
  obtain ⟨hn2, hn40, hall⟩ := isTr_t hv
  obtain ⟨i1, hi, hz0, hz1', hz2'⟩ := info_parts infoCx
  have Hi := hide hi
  have Hz := hide (And.intro hz0 (And.intro hz1' hz2'))
  clear hi hz0 hz1' hz2'
  obtain ⟨la, lb, _⟩ := isSg_t hl
  obtain ⟨s1, s2⟩ := pt_sm la
  obtain ⟨s3, s4⟩ := pt_sm lb
  have KS := hide (fun (l : Nat) (hl : l + 1 < n) W (hb : Below w.heap.size w W) => impl_legSegment b o n cap l T U V W (RowAt.later hb h) hn40 hl)
  have KY := hide (fun (l : Nat) (hl : l + 1 < n) W => impl_wayAcross ax ay bx bY (U l) (V l) (U (l + 1)) (V (l + 1)) s1 s2 s3 s4 (pt_sm (isTr_leg hv hl).2.2.2.1).1 (pt_sm (isTr_leg hv hl).2.2.2.1).2 (pt_sm (isTr_leg hv hl).2.2.2.2).1 (pt_sm (isTr_leg hv hl).2.2.2.2).2 W)
  have KP := hide (fun (l : Nat) (hll : l + 1 < n) (hw : ¬ wyL ax ay bx bY U V l = 0) W => impl_CrossingPlace_ok ax ay bx bY (U l) (V l) (U (l + 1)) (V (l + 1)) hl (isTr_leg hv hll).2.2.2.1 (isTr_leg hv hll).2.2.2.2 hw W)
  have HF := hide (fun (l : Nat) (hll : l + 1 < n) (hw : ¬ wyL ax ay bx bY U V l = 0) => cx_facts hl hv hll hw)
  have HT := hide (fun (l : Nat) (hll : l + 1 < n) => isTr_leg hv hll)
  have Hh := hide h
  clear h hv hl la lb s1 s2 s3 s4 hall
  go_enter Tryz.func145, Tryz.ntmps145
  have we0 : IntKind.i64.wrap ((n : Int) - 1) = (n : Int) - 1 := IntWalk.i64_in _ (by omega)
  go_wp2
  clear we0
  go_loopw [5, 19] (fun v i wr => ∃ k g9 cp9 : Nat, k + 1 ≤ n ∧ i = .int .i64 k ∧ v = .slice (some ⟨g9, 0, none⟩) (cxs ax ay bx bY U V k).length cp9 ∧ Hid (wr.ownsRow (w.heap.size + 1 + 1) 122 5 (.slice (some ⟨g9, 0, none⟩) (cxs ax ay bx bY U V k).length cp9) (cxs ax ay bx bY U V k).length (cxCs ax ay bx bY T U V (cxs ax ay bx bY U V k))) ∧ wr.cell? ⟨w.heap.size, 0, none⟩ = some (.slice (some ⟨b, o, none⟩) n cap) ∧ wr.cell? ⟨w.heap.size + 1, 0, none⟩ = some (.int .i64 ax) ∧ wr.cell? ⟨w.heap.size + 1, 1, none⟩ = some (.int .i64 ay) ∧ wr.cell? ⟨w.heap.size + 1, 2, none⟩ = some (.int .i64 bx) ∧ wr.cell? ⟨w.heap.size + 1, 3, none⟩ = some (.int .i64 bY) ∧ Below w.heap.size w wr) (fun _ i _ => n - (intOf i).toNat)
  case atStart =>
    refine ⟨0, w.heap.size + 1 + 1, 0, by omega, rfl, rfl, hide ?_, by go_simp, by go_simp, by go_simp, by go_simp, by go_simp, bwz⟩
    have hm := World.ownsRow_made (base := w.heap.size + 1 + 1) (e := 122) (size := 5) ((w.alloc (.cells #[.slice (some ⟨b, o, none⟩) n cap] 46)).alloc (.cells #[.int .i64 ax, .int .i64 ay, .int .i64 bx, .int .i64 bY] 39)) #[] 0 (by simp) (by decide) rfl
    simp only [size_al] at hm
    exact hm
  case round =>
    obtain ⟨k, g9, cp9, hk, rfl, rfl, HO, e0, e1, e2, e3, e4, hbl⟩ := hrel
    have hg9b := HO.out.lt g9 rfl
    have zr0 : w.heap.size < wr.heap.size := by omega
    have zr1 : w.heap.size + 1 < wr.heap.size := by omega
    have HBl := hide hbl
    by_cases hlt : k + 1 < n
    · have we : IntKind.i64.wrap ((k : Int) + 1) = (k : Int) + 1 := IntWalk.i64_in _ (by omega)
      have hi1 : (k : Int) < (n : Int) - 1 := by omega
      have hi2 : (k : Int) < (n : Int) := by omega
      have hi3 : (k : Int) + 1 < (n : Int) := by omega
      have hi4 : (0 : Int) ≤ (k : Int) := by omega
      have hi5 : (0 : Int) ≤ (k : Int) + 1 := by omega
      have hl9 := cxs_len ax ay bx bY U V k
      have Kk := hide (fun W (hb : Below wr.heap.size wr W) => KS.out k hlt W (bstep HBl.out hb))
      have Ky := fun W => (show wayI ax ay bx bY (U k) (V k) (U (k + 1)) (V (k + 1)) = wyL ax ay bx bY U V k from rfl) ▸ KY.out k hlt W
      obtain ⟨y9, hy9⟩ : ∃ v, v = wyL ax ay bx bY U V k := ⟨_, rfl⟩
      rw [← hy9] at Ky
      have Ky := hide Ky
      have Hy9 := hide hy9
      clear hbl hy9
      obtain ⟨a1, j1⟩ : ∃ v, v = U k := ⟨_, rfl⟩
      obtain ⟨a2, j2⟩ : ∃ v, v = V k := ⟨_, rfl⟩
      obtain ⟨a3, j3⟩ : ∃ v, v = U (k + 1) := ⟨_, rfl⟩
      obtain ⟨a4, j4⟩ : ∃ v, v = V (k + 1) := ⟨_, rfl⟩
      have Kp := hide (fun (hw : ¬ y9 = 0) W => (show cpN (crs ax ay bx bY a1 a2) (crs ax ay bx bY a3 a4) = cxN ax ay bx bY U V k by rw [j1, j2, j3, j4]; rfl) ▸ (show cpD (crs ax ay bx bY a1 a2) (crs ax ay bx bY a3 a4) = cxD ax ay bx bY U V k by rw [j1, j2, j3, j4]; rfl) ▸ j1 ▸ j2 ▸ j3 ▸ j4 ▸ KP.out k hlt (by rw [← Hy9.out]; exact hw) W)
      rw [← j1, ← j2, ← j3, ← j4] at Kk Ky
      clear j1 j2 j3 j4
      go_upto_region 6 with (go_at_call 166; (with_reducible refine (Kk.out _ (Below.refl _ _)).mono ?_); rintro e wA ⟨rfl, hb⟩; have zA := hb.size; have d0 := cell_later hb e0; have d1 := cell_later hb e1; have d2 := cell_later hb e2; have d3 := cell_later hb e3; have d4 := cell_later hb e4; have hOA := own_later hb HO.out; have hBA := bstep HBl.out hb; clear e0 e1 e2 e3 e4 hb)
      obtain ⟨wS, hS⟩ : ∃ W, W = wA.alloc (.cells #[.int .i64 a1, .int .i64 a2, .int .i64 a3, .int .i64 a4] 177) := ⟨_, rfl⟩
      have s1 : wS.cell? ⟨wA.heap.size, 0, none⟩ = some (.int .i64 a1) := by rw [hS]; go_simp
      have s2 : wS.cell? ⟨wA.heap.size, 1, none⟩ = some (.int .i64 a2) := by rw [hS]; go_simp
      have s3 : wS.cell? ⟨wA.heap.size, 2, none⟩ = some (.int .i64 a3) := by rw [hS]; go_simp
      have s4 : wS.cell? ⟨wA.heap.size, 3, none⟩ = some (.int .i64 a4) := by rw [hS]; go_simp
      have m0 : wS.cell? ⟨w.heap.size, 0, none⟩ = some (.slice (some ⟨b, o, none⟩) n cap) := by rw [hS]; exact cell_alloc d0
      have m1 : wS.cell? ⟨w.heap.size + 1, 0, none⟩ = some (.int .i64 ax) := by rw [hS]; exact cell_alloc d1
      have m2 : wS.cell? ⟨w.heap.size + 1, 1, none⟩ = some (.int .i64 ay) := by rw [hS]; exact cell_alloc d2
      have m3 : wS.cell? ⟨w.heap.size + 1, 2, none⟩ = some (.int .i64 bx) := by rw [hS]; exact cell_alloc d3
      have m4 : wS.cell? ⟨w.heap.size + 1, 3, none⟩ = some (.int .i64 bY) := by rw [hS]; exact cell_alloc d4
      have HBS := hide (show Below w.heap.size w wS by rw [hS]; exact Below.alloc hBA (by omega) _)
      have HOS := hide (show wS.ownsRow (w.heap.size + 1 + 1) 122 5 (.slice (some ⟨g9, 0, none⟩) (cxs ax ay bx bY U V k).length cp9) (cxs ax ay bx bY U V k).length (cxCs ax ay bx bY T U V (cxs ax ay bx bY U V k)) by rw [hS]; exact hOA.alloc _)
      have zS : wA.heap.size < wS.heap.size := by rw [hS]; simp
      have zS1 : w.heap.size + 1 < wS.heap.size := by omega
      have zS0 : w.heap.size < wS.heap.size := by omega
      rw [← hS]
      clear hS d0 d1 d2 d3 d4 hOA hBA HO
      go_wp2_with fail; (with_reducible refine (Ky.out _).mono ?_); rintro e wV ⟨rfl, hb⟩
      have r1 := cell_later hb s1
      have r2 := cell_later hb s2
      have r3 := cell_later hb s3
      have r4 := cell_later hb s4
      have n0 := cell_later hb m0
      have n1 := cell_later hb m1
      have n2 := cell_later hb m2
      have n3 := cell_later hb m3
      have n4 := cell_later hb m4
      have HOV := hide (own_later hb HOS.out)
      have HBV := hide (bstep HBS.out hb)
      have zV := hb.size
      have zV1 : wA.heap.size < wV.heap.size := by omega
      have zV2 : w.heap.size + 1 < wV.heap.size := by omega
      have zV3 : w.heap.size < wV.heap.size := by omega
      clear hb s1 s2 s3 s4 m0 m1 m2 m3 m4 HOS HBS Ky Kk
      by_cases hy : y9 = 0
      · have Hn := hide (cxs_no (k := k) (Hy9.out.symm.trans hy))
        subst hy
        clear r1 r2 r3 r4 Kp
        go_wp2
        go_roundw
        case rel => exact ⟨k + 1, g9, cp9, by omega, by go_num, by rw [Hn.out], by rw [Hn.out]; exact HOV, n0, n1, n2, n3, n4, HBV.out⟩
        case measure => simp [intOf]; omega
      · have hyb : (y9 == 0) = false := beq_eq_false_iff_ne.2 hy
        have Hn := hide (cxs_yes (k := k) (fun q => hy (Hy9.out.trans q)))
        obtain ⟨f1, f2, f3, f4⟩ := HF.out k hlt (fun q => hy (Hy9.out.trans q))
        obtain ⟨t0, t1, t2, _, _⟩ := HT.out k hlt
        obtain ⟨x1, x2, x3, x4⟩ := gone_bd (show 0 ≤ T (k + 1) - T k by omega) f1 f2 f3
        have Kp2 := hide (Kp.out hy)
        have Km := hide (fun W => impl_mulDiv_q (T (k + 1) - T k) (cxN ax ay bx bY U V k) (cxD ax ay bx bY U V k) (by omega) (by omega) f1 (by omega) f3 (by omega) (by omega) W)
        have hcC : cxC ax ay bx bY T U V k = [.int .i64 (T k + goneI (T (k + 1) - T k) (cxN ax ay bx bY U V k) (cxD ax ay bx bY U V k)), .int .i64 (k : Int), .int .i64 y9, .int .i64 (cxN ax ay bx bY U V k), .int .i64 (cxD ax ay bx bY U V k)] := by unfold cxC cxT; rw [← Hy9.out]
        have hgo : goneI (T (k + 1) - T k) (cxN ax ay bx bY U V k) (cxD ax ay bx bY U V k) = if 0 < (T (k + 1) - T k) * cxN ax ay bx bY U V k % cxD ax ay bx bY U V k then (T (k + 1) - T k) * cxN ax ay bx bY U V k / cxD ax ay bx bY U V k + 1 else (T (k + 1) - T k) * cxN ax ay bx bY U V k / cxD ax ay bx bY U V k := rfl
        generalize (T (k + 1) - T k) * cxN ax ay bx bY U V k / cxD ax ay bx bY U V k = q9 at *
        obtain ⟨r9, hr9⟩ : ∃ v, v = decide (0 < (T (k + 1) - T k) * cxN ax ay bx bY U V k % cxD ax ay bx bY U V k) := ⟨_, rfl⟩
        rw [← hr9] at Km
        have Hgo := hide (show goneI (T (k + 1) - T k) (cxN ax ay bx bY U V k) (cxD ax ay bx bY U V k) = if r9 = true then q9 + 1 else q9 by rw [hgo, hr9]; simp only [decide_eq_true_eq])
        have hgr := Hgo.out
        generalize goneI (T (k + 1) - T k) (cxN ax ay bx bY U V k) (cxD ax ay bx bY U V k) = o9 at *
        clear hr9 hgo
        generalize cxN ax ay bx bY U V k = n9 at *
        generalize cxD ax ay bx bY U V k = d9 at *
        have HcC := hide hcC
        clear hcC
        go_wp2_with fail; (with_reducible refine (Kp2.out _).mono ?_); rintro e wP ⟨rfl, hb⟩
        have p0 := cell_later hb n0
        have p1 := cell_later hb n1
        have p2 := cell_later hb n2
        have p3 := cell_later hb n3
        have p4 := cell_later hb n4
        have hOP := own_later hb HOV.out
        have hBP := bstep HBV.out hb
        have zP := hb.size
        clear hb r1 r2 r3 r4 n0 n1 n2 n3 n4 HOV HBV Kp Kp2
        obtain ⟨c0, c1, c2⟩ := (RowAt.later hBP Hh.out).on3 k (by omega)
        obtain ⟨c3, c4, c5⟩ := (RowAt.later hBP Hh.out).on3 (k + 1) hlt
        have hbs : b < wP.heap.size := World.block_lt_of_cell? _ _ c0
        obtain ⟨wR, hR⟩ : ∃ W, W = wP.alloc (.cells #[.int .i64 n9, .int .i64 d9] 120) := ⟨_, rfl⟩
        have u1 : wR.cell? ⟨wP.heap.size, 0, none⟩ = some (.int .i64 n9) := by rw [hR]; go_simp
        have u2 : wR.cell? ⟨wP.heap.size, 1, none⟩ = some (.int .i64 d9) := by rw [hR]; go_simp
        have y0 : wR.cell? ⟨w.heap.size, 0, none⟩ = some (.slice (some ⟨b, o, none⟩) n cap) := by rw [hR]; exact cell_alloc p0
        have y1 : wR.cell? ⟨w.heap.size + 1, 0, none⟩ = some (.int .i64 ax) := by rw [hR]; exact cell_alloc p1
        have y2 : wR.cell? ⟨w.heap.size + 1, 1, none⟩ = some (.int .i64 ay) := by rw [hR]; exact cell_alloc p2
        have y3 : wR.cell? ⟨w.heap.size + 1, 2, none⟩ = some (.int .i64 bx) := by rw [hR]; exact cell_alloc p3
        have y4 : wR.cell? ⟨w.heap.size + 1, 3, none⟩ = some (.int .i64 bY) := by rw [hR]; exact cell_alloc p4
        have b0 : wR.cell? ⟨b, o + k * 3, none⟩ = some (.int .i64 (T k)) := by rw [hR]; exact cell_alloc c0
        have b3 : wR.cell? ⟨b, o + (k + 1) * 3, none⟩ = some (.int .i64 (T (k + 1))) := by rw [hR]; exact cell_alloc c3
        have HBR := hide (show Below w.heap.size w wR by rw [hR]; exact Below.alloc hBP (by omega) _)
        have HOR := hide (show wR.ownsRow (w.heap.size + 1 + 1) 122 5 (.slice (some ⟨g9, 0, none⟩) (cxs ax ay bx bY U V k).length cp9) (cxs ax ay bx bY U V k).length (cxCs ax ay bx bY T U V (cxs ax ay bx bY U V k)) by rw [hR]; exact hOP.alloc _)
        have zR : wP.heap.size < wR.heap.size := by rw [hR]; simp
        have zR1 : w.heap.size + 1 < wR.heap.size := by omega
        have zR0 : w.heap.size < wR.heap.size := by omega
        have zRb : b < wR.heap.size := by omega
        go_upto_region 9 with fail
        rw [← hR]
        clear hR p0 p1 p2 p3 p4 c0 c1 c2 c3 c4 c5 hOP hBP
        have wt : IntKind.i64.wrap (T (k + 1) - T k) = T (k + 1) - T k := IntWalk.i64_in _ (by omega)
        go_upto_region 10 with fail
        refine wp_region_held_drew (S := fun W => Below wR.heap.size wR W) (by kernel_rfl) (Below.drew (Below.refl _ _)) (fun hHeld => ?_)
        refine tkN 0 (some 46) rfl ?_; (try simp only [pz])
        refine tkL 1 (some 47) rfl ?_; (try simp only [pz])
        refine tkN 2 (some 48) rfl ?_; (try simp only [pz])
        refine tkN 3 (some 49) rfl ?_; (try simp only [pz])
        refine tkN 4 (some 50) rfl ?_; (try simp only [pz])
        refine tkN 5 (some 51) rfl ?_; (try simp only [pz])
        refine tkL 6 (some 52) rfl ?_; (try simp only [pz])
        refine tkN 7 (some 53) rfl ?_; (try simp only [pz])
        refine tkN 8 (some 54) rfl ?_; (try simp only [pz])
        refine tkN 9 (some 55) rfl ?_; (try simp only [pz])
        refine tkL 10 (some 56) rfl ?_; (try simp only [pz])
        refine tkN 11 (some 57) rfl ?_; (try simp only [pz])
        refine tkL 12 (some 58) rfl ?_; (try simp only [pz])
        refine wpAnyH_ready (rs := [13]) (by kernel_rfl) (by simp) ?_; refine (AllReadyH.cons (o := ⟨some 59, _, _, _, _, _⟩) rfl (fun K hK => ?_) AllReadyH.nil)
        go_simp; (go_at_call 169; (with_reducible refine (Km.out _).mono ?_); rintro e w9 ⟨rfl, hb⟩)
        all_goals (try go_wp2_with fail)
        refine hK.out _ _ ?_ (fun hH2 => ?_)
        · first | exact bstep hHeld hb | exact hHeld.trans hb | exact hHeld
        clear hK K hHeld; (have hHeld := hH2); clear hH2; (try simp only [pz])
        refine tkN 14 (some 45) rfl ?_; (try simp only [pz])
        refine tkN 15 (some 60) rfl ?_; (try simp only [pz])
        refine tkN 16 (some 61) rfl ?_; (try simp only [pz])
        refine tkN 17 (some 12) rfl ?_; (try simp only [pz])
        refine tkN 18 (some 13) rfl ?_; (try simp only [pz])
        refine wpAnyH_done (by kernel_rfl) ?_ _; (try simp only [pz])
        obtain ⟨wW, rfl⟩ : ∃ W : World, W = w9 := ⟨_, rfl⟩
        have h0 := cell_later hHeld y0
        have h1 := cell_later hHeld y1
        have h2 := cell_later hHeld y2
        have h3 := cell_later hHeld y3
        have h4 := cell_later hHeld y4
        have v1 := cell_later hHeld u1
        have v2 := cell_later hHeld u2
        have HOW := hide (own_later hHeld HOR.out)
        have HBW := hide (bstep HBR.out hHeld)
        have zW := hHeld.size
        have zW1 : wP.heap.size < wW.heap.size := by omega
        clear hHeld y0 y1 y2 y3 y4 u1 u2 b0 b3 HOR HBR hb Km wt
        have hOW := HOW.out
        cases r9
        · have ho : o9 = q9 := hgr
          have wt2 : IntKind.i64.wrap (T k + q9) = T k + q9 := IntWalk.i64_in _ (by omega)
          have HcC2 := hide (ho ▸ HcC.out)
          clear HcC hgr ho Hgo
          go_wp2_with (at_builtin; refine wpList_append_lies _ rfl _ _ 163 rfl (w.heap.size + 1 + 1) 122 i1 _ 5 40 Tryz.underlying163 Hi.out Hz.out.1 Hz.out.2.1 Hz.out.2.2 rfl (by decide) _ _ _ rfl (hOW.alloc _) ⟨wW.heap.size, 0, none⟩ 1 1 [.int .i64 (T k + q9), .int .i64 (k : Int), .int .i64 y9, .int .i64 n9, .int .i64 d9] rfl rfl new5 (one5 _ _ _ _ _) (by decide) (by unfold maxLen; omega) (by omega) (by simp; omega) (wW.heap.size + 1) (by simp) ?_)
          intro g' cap' wZ hown' hgr' hat hlt'
          have hbZ := below_grown hOW (by omega) hgr'
          have z0 := cell_below hbZ (by omega) h0
          have z1 := cell_below hbZ (by omega) h1
          have z2 := cell_below hbZ (by omega) h2
          have z3 := cell_below hbZ (by omega) h3
          have z4 := cell_below hbZ (by omega) h4
          clear h0 h1 h2 h3 h4 v1 v2
          go_wp2
          go_roundw
          case rel => exact ⟨k + 1, g', cap', by omega, by go_num, by rw [Hn.out, List.length_append, List.length_singleton], by rw [Hn.out, List.length_append, List.length_singleton, cxCs_app, HcC2.out]; exact hown', z0, z1, z2, z3, z4, HBW.out.trans (hbZ.mono (by omega))⟩
          case measure => simp [intOf]; omega
        · have ho : o9 = q9 + 1 := hgr
          have wt2 : IntKind.i64.wrap (T k + (q9 + 1)) = T k + (q9 + 1) := IntWalk.i64_in _ (by omega)
          have wt3 : IntKind.i64.wrap (q9 + 1) = q9 + 1 := IntWalk.i64_in _ (by omega)
          have HcC2 := hide (ho ▸ HcC.out)
          clear HcC hgr ho Hgo
          go_wp2_with (at_builtin; refine wpList_append_lies _ rfl _ _ 163 rfl (w.heap.size + 1 + 1) 122 i1 _ 5 40 Tryz.underlying163 Hi.out Hz.out.1 Hz.out.2.1 Hz.out.2.2 rfl (by decide) _ _ _ rfl (hOW.alloc _) ⟨wW.heap.size, 0, none⟩ 1 1 [.int .i64 (T k + (q9 + 1)), .int .i64 (k : Int), .int .i64 y9, .int .i64 n9, .int .i64 d9] rfl rfl new5 (one5 _ _ _ _ _) (by decide) (by unfold maxLen; omega) (by omega) (by simp; omega) (wW.heap.size + 1) (by simp) ?_)
          intro g' cap' wZ hown' hgr' hat hlt'
          have hbZ := below_grown hOW (by omega) hgr'
          have z0 := cell_below hbZ (by omega) h0
          have z1 := cell_below hbZ (by omega) h1
          have z2 := cell_below hbZ (by omega) h2
          have z3 := cell_below hbZ (by omega) h3
          have z4 := cell_below hbZ (by omega) h4
          clear h0 h1 h2 h3 h4 v1 v2
          go_wp2
          go_roundw
          case rel => exact ⟨k + 1, g', cap', by omega, by go_num, by rw [Hn.out, List.length_append, List.length_singleton], by rw [Hn.out, List.length_append, List.length_singleton, cxCs_app, HcC2.out]; exact hown', z0, z1, z2, z3, z4, HBW.out.trans (hbZ.mono (by omega))⟩
          case measure => simp [intOf]; omega
    · obtain rfl : k = n - 1 := by omega
      go_wp2
      go_ret
      exact ⟨g9, cp9, rfl, HO.out.mono (by omega), HBl.out⟩
end Go.Proofs.YtlhllidkkjledaaGreatDoor
