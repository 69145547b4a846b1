/- Walks: the code for a course, its mark and a track; in the zone at a time; the distance to the mark. -/
import Derived.Test.YthlnpcneicmblaaGreatDoorCy
import Derived.Test.YthlnpcneicmblaaGreatDoorTe
import Derived.Test.YthlnpcneicmblaaGreatDoorTb0
import Derived.Test.YthlnpcneicmblaaGreatDoorTl
import Derived.Test.YthlnpcneicmblaaGreatDoorC
import Derived.Test.YthlnpcneicmblaaGreatDoorZl
namespace Go.Proofs.YthlnpcneicmblaaGreatDoor
open Go.RowKit

/-- The code: 1 not valid, 4 no such mark. -/
def mkC (co : Bool) (n : Nat) (k : Int) : Int := sel co (sel (inB k 0 ((n : Int) - 1)) 0 4) 1
def zoC (co tr : Bool) (n : Nat) (k : Int) : Int := sel (co && tr) (sel (inB k 0 ((n : Int) - 1)) 0 4) 1
theorem zoC_two (co tr : Bool) (n : Nat) (k : Int) : (zoC co tr n k = 0 ∧ co = true ∧ tr = true ∧ 0 ≤ k ∧ k ≤ (n : Int) - 1) ∨ zoC co tr n k ≠ 0 := by
 unfold zoC
 rcases b2 (co && tr) with h | h
 ·rw [h]; right; show (1 : Int) ≠ 0; decide
 ·rcases b2 (inB k 0 ((n : Int) - 1)) with h2 | h2
  ·rw [h, h2]; right; show (4 : Int) ≠ 0; decide
  ·left
   simp only [Bool.and_eq_true] at h
   rw [h.1, h.2, h2]
   simp only [inB, decide_eq_true_eq] at h2
   exact ⟨rfl, rfl, rfl, h2.1, h2.2⟩
theorem impl_markCode (ax ay bx bY cx cy dx dy : Int) (so : Option Addr) (n cap : Nat) (N : Nat → ByteArray) (X Y S Z : Nat → Int) (k : Int) (w : World) (h : RowAt w so n 5 (v5 N X Y S Z)) (hn : n ≤ 1048576) (hcap : n ≤ cap) :
 Calls Tryz.prog 40 #[.agg #[.int .i64 ax, .int .i64 ay, .int .i64 bx, .int .i64 bY, .int .i64 cx, .int .i64 cy, .int .i64 dx, .int .i64 dy, .slice so n cap], .int .i64 k] w fun e w' => e = .returned (.int .i64 (mkC (isCo ax ay bx bY cx cy dx dy n N X Y S Z) n k)) ∧ Below w.heap.size w w' := by
 obtain ⟨co, hco⟩ : ∃ b, b = (isCo ax ay bx bY cx cy dx dy n N X Y S Z) := ⟨_, rfl⟩
 have KI := hide (fun W (hb : Below w.heap.size w W) => hco ▸ impl_IsCourse ax ay bx bY cx cy dx dy so n cap N X Y S Z W (RowAt.later hb h) hn hcap)
 have we := hide (show IntKind.i64.wrap ((n : Int) - 1) = (n : Int) - 1 from IntWalk.i64_in _ (by omega))
 rw [← hco]
 clear hco h
 rcases b2 co with g1 | g1
 ·subst g1
  have H := hide (show mkC false n k = 1 from rfl)
  rw [H.out]
  go_enter Tryz.func40, Tryz.ntmps40
  go_wp2_with (go_at_call 58; (with_reducible refine (KI.out _ bwz).mono ?_); rintro e w9 ⟨rfl, hb⟩; obtain ⟨hc, hf⟩ := bcell hb; have hz := hb.size; have z0 : w.heap.size < w9.heap.size := (by first | omega | (simp at hz; omega)))
  go_ret
  exact ⟨rfl, bwz⟩
 ·subst g1
  rcases b2 (inB k 0 ((n : Int) - 1)) with g2 | g2
  ·have H := hide (show mkC true n k = 4 by unfold mkC; rw [g2]; rfl)
   rw [H.out]
   go_enter Tryz.func40, Tryz.ntmps40
   have f1 := we.out
   go_wp2_with (first | (go_at_call 58; (with_reducible refine (KI.out _ bwz).mono ?_); rintro e w9 ⟨rfl, hb⟩; obtain ⟨hc, hf⟩ := bcell hb; have hz := hb.size; have z0 : w.heap.size < w9.heap.size := (by first | omega | (simp at hz; omega))) | (go_at_call 41; (with_reducible refine (impl_within _ _ _ _).mono ?_); rintro e w9 ⟨rfl, rfl⟩))
   go_ret
   exact ⟨rfl, bwz⟩
  ·have H := hide (show mkC true n k = 0 by unfold mkC; rw [g2]; rfl)
   rw [H.out]
   go_enter Tryz.func40, Tryz.ntmps40
   have f1 := we.out
   go_wp2_with (first | (go_at_call 58; (with_reducible refine (KI.out _ bwz).mono ?_); rintro e w9 ⟨rfl, hb⟩; obtain ⟨hc, hf⟩ := bcell hb; have hz := hb.size; have z0 : w.heap.size < w9.heap.size := (by first | omega | (simp at hz; omega))) | (go_at_call 41; (with_reducible refine (impl_within _ _ _ _).mono ?_); rintro e w9 ⟨rfl, rfl⟩))
   go_ret
   exact ⟨rfl, bwz⟩
end Go.Proofs.YthlnpcneicmblaaGreatDoor
/- Walks: the legs of a track that touch a mark's zone, the program's. -/
namespace Go.Proofs.YthlnpcneicmblaaGreatDoor
open Go.RowKit

theorem cmp_ptsN (a b c d : Int) (W : World) : (binOp .neq 26 (.agg #[.int .i64 a, .int .i64 b]) (.agg #[.int .i64 c, .int .i64 d])).run Tryz.prog W = .ok (.bool (!(a == c && b == d))) W := by
 rcases b2 (a == c) with h1 | h1 <;> rcases b2 (b == d) with h2 | h2 <;> simp [run_neq_struct, run_equalIn_agg, go_sem, *]
set_option maxRecDepth 100000 in
set_option maxHeartbeats 8000000 in
theorem impl_legsInZone (nm : ByteArray) (x y sd z : Int) (b o n cap : Nat) (T U V : Nat → Int) (w : World) (h : RowAt w (some ⟨b, o, none⟩) n 3 (v3 T U V)) (hv : isTr n T U V = true) (hp : isPt x y = true) (hz1 : 1 ≤ z) (hz2 : z ≤ 5000) :
 Calls Tryz.prog 84 #[.agg #[.string nm, .int .i64 x, .int .i64 y, .int .i64 sd, .int .i64 z], .agg #[.slice (some ⟨b, o, none⟩) n cap]] w fun e w' => ∃ g cp, e = .returned (.slice (some ⟨g, 0, none⟩) (lgsZ x y z U V (n - 1)).length cp) ∧ w'.ownsRow w.heap.size 2 1 (.slice (some ⟨g, 0, none⟩) (lgsZ x y z U V (n - 1)).length cp) (lgsZ x y z U V (n - 1)).length ((lgsZ x y z U V (n - 1)).map (Value.int .i64)) ∧ Below w.heap.size w w' := by
 obtain ⟨hn2, hn40, _⟩ := isTr_t hv
 obtain ⟨i1, hi, hz0, hz1', hz2'⟩ := info_parts infoI64
 have Hi := hide hi
 have Hz := hide (And.intro hz0 (And.intro hz1' hz2'))
 clear hi hz0 hz1' hz2'
 have hZ1 : 0 ≤ z * z ∧ z * z ≤ 25000000 := ⟨Int.mul_nonneg (by omega) (by omega), Int.le_trans (Int.mul_le_mul hz2 hz2 (by omega) (by omega)) (by decide)⟩
 have We := hide (show IntKind.i64.wrap (z * z) = z * z from IntWalk.i64_in _ (by omega))
 have KS := hide (fun (l : Nat) (hl : l + 1 < n) W (hb : Below w.heap.size w W) => impl_legSegment b o n cap l T U V W (RowAt.later hb h) hn40 hl)
 have KQ := hide (fun (l : Nat) (hl : l + 1 < n) W => impl_squareDistance (U l) (V l) x y (pt_sm (isTr_leg hv hl).2.2.2.1).1 (pt_sm (isTr_leg hv hl).2.2.2.1).2 (pt_sm hp).1 (pt_sm hp).2 W)
 have KW := hide (fun (l : Nat) (hl : l + 1 < n) (hh : (U l == U (l + 1) && V l == V (l + 1)) = false) W => impl_WithinDistance_ok (U l) (V l) (U (l + 1)) (V (l + 1)) x y z (isSg_of (isTr_leg hv hl).2.2.2.1 (isTr_leg hv hl).2.2.2.2 hh) hp (by unfold inB; exact decide_eq_true ⟨by omega, by omega⟩) W)
 clear h hv hp hz1 hz2 hZ1
 go_enter Tryz.func84, Tryz.ntmps84
 have we0 : IntKind.i64.wrap ((n : Int) - 1) = (n : Int) - 1 := IntWalk.i64_in _ (by omega)
 go_wp2
 clear we0
 go_loopw [5, 14] (fun v i wr => ∃ k g9 cp9 : Nat, k + 1 ≤ n ∧ i = .int .i64 k ∧ v = .slice (some ⟨g9, 0, none⟩) (lgsZ x y z U V k).length cp9 ∧ Hid (wr.ownsRow (w.heap.size + 1 + 1) 2 1 (.slice (some ⟨g9, 0, none⟩) (lgsZ x y z U V k).length cp9) (lgsZ x y z U V k).length ((lgsZ x y z U V k).map (Value.int .i64))) ∧ wr.cell? ⟨w.heap.size, 1, none⟩ = some (.int .i64 x) ∧ wr.cell? ⟨w.heap.size, 2, none⟩ = some (.int .i64 y) ∧ wr.cell? ⟨w.heap.size, 4, none⟩ = some (.int .i64 z) ∧ wr.cell? ⟨w.heap.size + 1, 0, none⟩ = some (.slice (some ⟨b, o, none⟩) n cap) ∧ Below w.heap.size w wr) (fun _ i _ => n - (intOf i).toNat)
 case atStart =>
  refine ⟨0, w.heap.size + 1 + 1, 0, by omega, rfl, rfl, hide ?_, by go_simp, by go_simp, by go_simp, by go_simp, bwz⟩
  have hm := World.ownsRow_made (base := w.heap.size + 1 + 1) (e := 2) (size := 1) ((w.alloc (.cells #[.string nm, .int .i64 x, .int .i64 y, .int .i64 sd, .int .i64 z] 60)).alloc (.cells #[.slice (some ⟨b, o, none⟩) n cap] 45)) #[] 0 (by simp) (by decide) rfl
  simp only [size_al] at hm
  exact hm
 case round =>
  obtain ⟨k, g9, cp9, hk, rfl, rfl, HO, e1, e2, e4, e5, hbl⟩ := hrel
  have hg9b := HO.out.lt g9 rfl
  have zr0 : w.heap.size < wr.heap.size := by omega
  have zr1 : w.heap.size + 1 < wr.heap.size := by omega
  have HBl := hide hbl
  by_cases hlt : k + 1 < n
  ·have we : IntKind.i64.wrap ((k : Int) + 1) = (k : Int) + 1 := IntWalk.i64_in _ (by omega)
   have hi1 : (k : Int) < (n : Int) - 1 := by omega
   have hl9 := lgsZ_len x y z U V k
   have Kk := hide (fun W (hb : Below wr.heap.size wr W) => KS.out k hlt W (bstep HBl.out hb))
   have Kq := hide (KQ.out k hlt)
   have Kw := hide (KW.out k hlt)
   obtain ⟨q9, hq9⟩ : ∃ q, q = decide (sq (U k) (V k) x y ≤ z * z) := ⟨_, rfl⟩
   obtain ⟨t9, ht9⟩ : ∃ q, q = touI x y z U V k := ⟨_, rfl⟩
   have HT := hide (fun (hh : (U k == U (k + 1) && V k == V (k + 1)) = true) => show t9 = q9 by rw [ht9, hq9, touI_eq hh])
   have Kw2 := hide (fun (hh : (U k == U (k + 1) && V k == V (k + 1)) = false) W => (show t9 = wdB (U k) (V k) (U (k + 1)) (V (k + 1)) x y z from ht9) ▸ Kw.out hh W)
   obtain ⟨v9, hv9⟩ : ∃ v, v = sq (U k) (V k) x y := ⟨_, rfl⟩
   rw [← hv9] at Kq hq9
   have Hq9 := hide hq9.symm
   have Ht9 := hide ht9
   clear hbl Kw hv9 hq9 ht9
   obtain ⟨a1, j1⟩ : ∃ a, a = U k := ⟨_, rfl⟩
   obtain ⟨a2, j2⟩ : ∃ a, a = V k := ⟨_, rfl⟩
   obtain ⟨a3, j3⟩ : ∃ a, a = U (k + 1) := ⟨_, rfl⟩
   obtain ⟨a4, j4⟩ : ∃ a, a = V (k + 1) := ⟨_, rfl⟩
   rw [← j1, ← j2] at Kk Kq HT Kw2
   rw [← j3, ← j4] at Kk HT Kw2
   clear j1 j2 j3 j4
   go_upto_region 6 with (go_at_call 109; (with_reducible refine (Kk.out _ (Below.refl _ _)).mono ?_); rintro e wA ⟨rfl, hb⟩; have zA := hb.size; have d1 := cell_later hb e1; have d2 := cell_later hb e2; have d4 := cell_later hb e4; have d5 := cell_later hb e5; have hOA := own_later hb HO.out; have hBA := bstep HBl.out hb; clear e1 e2 e4 e5 hb)
   obtain ⟨wS, hS⟩ : ∃ W, W = wA.alloc (.cells #[.int .i64 a1, .int .i64 a2, .int .i64 a3, .int .i64 a4] 126) := ⟨_, rfl⟩
   have s1 : wS.cell? ⟨wA.heap.size, 0, none⟩ = some (.int .i64 a1) := by rw [hS]; go_simp
   have s2 : wS.cell? ⟨wA.heap.size, 1, none⟩ = some (.int .i64 a2) := by rw [hS]; go_simp
   have s3 : wS.cell? ⟨wA.heap.size, 2, none⟩ = some (.int .i64 a3) := by rw [hS]; go_simp
   have s4 : wS.cell? ⟨wA.heap.size, 3, none⟩ = some (.int .i64 a4) := by rw [hS]; go_simp
   have m1 : wS.cell? ⟨w.heap.size, 1, none⟩ = some (.int .i64 x) := by rw [hS]; exact cell_alloc d1
   have m2 : wS.cell? ⟨w.heap.size, 2, none⟩ = some (.int .i64 y) := by rw [hS]; exact cell_alloc d2
   have m4 : wS.cell? ⟨w.heap.size, 4, none⟩ = some (.int .i64 z) := by rw [hS]; exact cell_alloc d4
   have m5 : wS.cell? ⟨w.heap.size + 1, 0, none⟩ = some (.slice (some ⟨b, o, none⟩) n cap) := by rw [hS]; exact cell_alloc d5
   have HBS := hide (show Below w.heap.size w wS by rw [hS]; exact Below.alloc hBA (by omega) _)
   have HOS := hide (show wS.ownsRow (w.heap.size + 1 + 1) 2 1 (.slice (some ⟨g9, 0, none⟩) (lgsZ x y z U V k).length cp9) (lgsZ x y z U V k).length ((lgsZ x y z U V k).map (Value.int .i64)) by rw [hS]; exact hOA.alloc _)
   have zS : wA.heap.size < wS.heap.size := by rw [hS]; simp
   have zS1 : w.heap.size + 1 < wS.heap.size := by omega
   have zS0 : w.heap.size < wS.heap.size := by omega
   rw [← hS]
   clear hS d1 d2 d4 d5 hOA hBA HO
   have f1 := We.out
   have f2 := Hq9.out
   refine wp_region_held_drew (S := fun W => Below wS.heap.size wS W) (by kernel_rfl) (Below.drew (Below.refl _ _)) (fun hHeld => ?_)
   refine tkN 0 (some 20) rfl ?_; simp only [pz]
   refine tkL 1 (some 21) rfl ?_; simp only [pz]
   refine tkN 2 (some 22) rfl ?_; simp only [pz]
   refine tkL 3 (some 23) rfl ?_; simp only [pz]
   refine tkN 5 (some 25) rfl ?_; simp only [pz]
   refine tkL 6 (some 26) rfl ?_; simp only [pz]
   refine tkN 7 (some 27) rfl ?_; simp only [pz]
   refine tkL 8 (some 28) rfl ?_; simp only [pz]
   refine tkN 9 (some 29) rfl ?_; simp only [pz]
   refine rd1 4 (some 24) rfl (fun K hK => ?_)
   go_simp; ((go_at_call 91; (with_reducible refine (Kq.out _).mono ?_); rintro e w9 ⟨rfl, hb⟩; have hzz := hb.size; (try simp at hzz); obtain ⟨hc, hf⟩ := bcell hb))
   all_goals (try go_wp2_with fail)
   refine hK.out _ _ ?_ (fun hH2 => ?_)
   ·exact hhz
   clear hK K hHeld; (have hHeld := hH2); clear hH2; (try simp only [pz])
   refine tkN 10 (some 30) rfl ?_; simp only [pz]
   refine tkN 11 (some 8) rfl ?_; simp only [pz]
   refine wpAnyH_done (by kernel_rfl) ?_ _; (try simp only [pz])
   clear f1 f2 Hq9
   obtain ⟨wV, rfl⟩ : ∃ W : World, W = w9 := ⟨_, rfl⟩
   have r1 := cell_later hHeld s1
   have r2 := cell_later hHeld s2
   have r3 := cell_later hHeld s3
   have r4 := cell_later hHeld s4
   have n1 := cell_later hHeld m1
   have n2 := cell_later hHeld m2
   have n4 := cell_later hHeld m4
   have n5 := cell_later hHeld m5
   have HOV := hide (own_later hHeld HOS.out)
   have HBV := hide (bstep HBS.out hHeld)
   have zV := hHeld.size
   have zV1 : wA.heap.size < wV.heap.size := by omega
   have zV2 : w.heap.size + 1 < wV.heap.size := by omega
   have zV3 : w.heap.size < wV.heap.size := by omega
   clear hHeld s1 s2 s3 s4 m1 m2 m4 m5 HOS HBS hb hc hf Kq Kk
   have hcmp := cmp_ptsN
   rcases b2 (a1 == a3 && a2 == a4) with h1 | h1
   ·have Kw3 := hide (Kw2.out h1)
    clear Kw2 HT
    have hcm := hcmp a1 a2 a3 a4
    rw [h1] at hcm
    clear hcmp
    go_upto_region 9 with (go_at_call 110; (with_reducible refine (Kw3.out _).mono ?_); rintro e wW ⟨rfl, hb⟩; have zW := hb.size; have p1 := cell_later hb n1; have p2 := cell_later hb n2; have p4 := cell_later hb n4; have p5 := cell_later hb n5; have HOW := hide (own_later hb HOV.out); have HBW := hide (bstep HBV.out hb); clear hb n1 n2 n4 n5 r1 r2 r3 r4 HOV HBV)
    cases t9
    ·have Hn := hide (lgsZ_no Ht9.out.symm)
     go_wp2
     go_roundw
     case rel => exact ⟨k + 1, g9, cp9, by omega, by go_num, by rw [Hn.out], by rw [Hn.out]; exact HOW, p1, p2, p4, p5, HBW.out⟩
     case measure => simp [intOf]; omega
    ·have Hn := hide (lgsZ_yes Ht9.out.symm)
     have hOW := HOW.out
     go_wp2_with (at_builtin; refine wpList_append_lies _ rfl _ _ 47 rfl (w.heap.size + 1 + 1) 2 i1 _ 1 8 Tryz.underlying47 Hi.out Hz.out.1 Hz.out.2.1 Hz.out.2.2 rfl (by decide) _ _ _ rfl (hOW.alloc _) ⟨wW.heap.size, 0, none⟩ 1 1 [.int .i64 k] rfl rfl new1 (one1 _) (by decide) (by unfold maxLen; omega) (by omega) (by simp; omega) (wW.heap.size + 1) (by simp) ?_)
     intro g' cap' wZ hown' hgr hat hlt'
     have hbZ := below_grown hOW (by omega) hgr
     have b10 := cell_below hbZ (by omega) p1
     have b11 := cell_below hbZ (by omega) p2
     have b12 := cell_below hbZ (by omega) p4
     have b13 := cell_below hbZ (by omega) p5
     clear p1 p2 p4 p5
     go_wp2
     go_roundw
     case rel => exact ⟨k + 1, g', cap', by omega, by go_num, by rw [Hn.out, List.length_append, List.length_singleton], by rw [Hn.out, List.length_append, List.length_singleton, List.map_append]; exact hown', b10, b11, b12, b13, HBW.out.trans (hbZ.mono (by omega))⟩
     case measure => simp [intOf]; omega
   ·have ht := HT.out h1
    subst ht
    clear Kw2 HT
    have hcm := hcmp a1 a2 a3 a4
    rw [h1] at hcm
    clear hcmp
    go_upto_region 9 with fail
    clear r1 r2 r3 r4
    cases t9
    ·have Hn := hide (lgsZ_no Ht9.out.symm)
     go_wp2
     go_roundw
     case rel => exact ⟨k + 1, g9, cp9, by omega, by go_num, by rw [Hn.out], by rw [Hn.out]; exact HOV, n1, n2, n4, n5, HBV.out⟩
     case measure => simp [intOf]; omega
    ·have Hn := hide (lgsZ_yes Ht9.out.symm)
     have hOW := HOV.out
     go_wp2_with (at_builtin; refine wpList_append_lies _ rfl _ _ 47 rfl (w.heap.size + 1 + 1) 2 i1 _ 1 8 Tryz.underlying47 Hi.out Hz.out.1 Hz.out.2.1 Hz.out.2.2 rfl (by decide) _ _ _ rfl (hOW.alloc _) ⟨wV.heap.size, 0, none⟩ 1 1 [.int .i64 k] rfl rfl new1 (one1 _) (by decide) (by unfold maxLen; omega) (by omega) (by simp; omega) (wV.heap.size + 1) (by simp) ?_)
     intro g' cap' wZ hown' hgr hat hlt'
     have hbZ := below_grown hOW (by omega) hgr
     have b10 := cell_below hbZ (by omega) n1
     have b11 := cell_below hbZ (by omega) n2
     have b12 := cell_below hbZ (by omega) n4
     have b13 := cell_below hbZ (by omega) n5
     clear n1 n2 n4 n5
     go_wp2
     go_roundw
     case rel => exact ⟨k + 1, g', cap', by omega, by go_num, by rw [Hn.out, List.length_append, List.length_singleton], by rw [Hn.out, List.length_append, List.length_singleton, List.map_append]; exact hown', b10, b11, b12, b13, HBV.out.trans (hbZ.mono (by omega))⟩
     case measure => simp [intOf]; omega
  ·obtain rfl : k = n - 1 := by omega
   go_wp2
   go_ret
   exact ⟨g9, cp9, rfl, HO.out.mono (by omega), hbl⟩
end Go.Proofs.YthlnpcneicmblaaGreatDoor
