/- KeepClearTable of the program returns what the reference's returns, in memory of its own, for every wind and every list of boats. No condition. -/
import Derived.Test.YtnnjfnbdljakmaaKe
namespace Go.Proofs.Ytnnjfnbdljakmaa
open Go.ChangeShapes Go.WideShapes Go.ChangeAt Go.RowKit

theorem kcN_le (wx wy : Int) (X Y H K L : Nat → Int) (n : Nat) : kcN wx wy X Y H K L n ≤ 16 := by
  unfold kcN
  split
  · rename_i h
    simp only [Bool.and_eq_true, decide_eq_true_eq] at h
    exact h.1.1
  · omega
theorem kcN_row (wx wy : Int) (X Y H K L : Nat → Int) (U : Nat → Bool) (n j : Nat) (hj : j < kcN wx wy X Y H K L n) : (kcL (kq wx wy X Y H K L U) j n).length ≤ 16 := by
  unfold kcN at hj
  split at hj
  · rename_i h
    simp only [Bool.and_eq_true, decide_eq_true_eq] at h
    exact Nat.le_trans (kcL_len _ _ _) h.1.1
  · omega
set_option maxRecDepth 100000 in
set_option maxHeartbeats 8000000 in
theorem laws_FnExactKeepClearTable (wx wy : Int) (so : Option Addr) (n cap : Nat) (X Y H K L : Nat → Int) (U : Nat → Bool) (w : World) (hl : n ≤ maxLen) (h : RowAt w so n 6 (v6 X Y H K L U)) :
    Calls Try.prog 11 #[.agg #[.int .i64 wx, .int .i64 wy], .slice so n cap] w fun e w' => e = .returned (.bool true) ∧ Below w.heap.size w w' := by
  unfold maxLen at hl
  by_cases hn : n ≤ 1048576
  · obtain ⟨m, R, c, hm16, hR16, hI, hS⟩ : ∃ (m : Nat) (R : Nat → List Int) (c : Int), m ≤ 16 ∧ (∀ j, j < m → (R j).length ≤ 16) ∧
        (∀ W so cp, RowAt W so n 6 (v6 X Y H K L U) → Calls Try.prog 51 #[.agg #[.int .i64 wx, .int .i64 wy], .slice so n cp] W (RetT W m R c)) ∧
        (∀ W so cp, RowAt W so n 6 (v6 X Y H K L U) → Calls Try.prog 49 #[.agg #[.int .i64 wx, .int .i64 wy], .slice so n cp] W (RetS W m R c)) :=
      ⟨_, _, _, kcN_le wx wy X Y H K L n, fun j hj => kcN_row wx wy X Y H K L U n j hj, fun W so cp hr => impl_KeepClearTable wx wy so n cp X Y H K L U W hr hn, fun W so cp hr => spec_KeepClearTable wx wy so n cp X Y H K L U W hr hn⟩
    have HI := hide hI
    have HS := hide hS
    obtain ⟨q9, hq9⟩ : ∃ q : Nat, q = 1 + cntT R m := ⟨_, rfl⟩
    have KE := hide (fun (s1 s2 : Option Addr) (c1 c2 : Nat) (W : World) (r1 : RdT W s1 m R) (r2 : RdT W s2 m R) => laws_eqInt64SS s1 s2 m c1 c2 R W r1 r2 (by omega) (fun j hj => by have := hR16 j hj; omega))
    have KM := hide (fun (s1 : Option Addr) (B c1 : Nat) (W : World) (r1 : OwT W B s1 m R) (hB : B ≤ W.heap.size) => hq9 ▸ laws_markInt64SS s1 B m c1 R W r1 hm16 hR16 hB)
    have KH := hide (fun (s1 : Option Addr) (c1 : Nat) (W : World) (r1 : MkT W s1 m R) => hq9 ▸ laws_heldInt64SS s1 m c1 R W r1 hm16 hR16)
    have Hh := hide h
    have hq0 : ¬ (q9 : Int) < 0 := by omega
    clear h hI hS hq9 hR16
    go_enter Try.func11, Try.ntmps11
    go_upto_region 5 with (go_at_call 48; (with_reducible refine (laws_szBoatS_yes _ _ _ _ _ (by omega) (by omega)).mono ?_); rintro e w9 ⟨rfl, rfl⟩)
    obtain ⟨wA, hwA⟩ : ∃ W : World, W = w.alloc (.cells #[.int .i64 wx, .int .i64 wy] 23) := ⟨_, rfl⟩
    rw [← hwA]
    have a0 : wA.cell? ⟨w.heap.size, 0, none⟩ = some (.int .i64 wx) := by rw [hwA]; go_simp
    have a1 : wA.cell? ⟨w.heap.size, 1, none⟩ = some (.int .i64 wy) := by rw [hwA]; go_simp
    have HA := hide (show Below w.heap.size w wA from by rw [hwA]; exact Below.alloc (Below.refl _ _) (Nat.le_refl _) _)
    have sA0 : w.heap.size < wA.heap.size := by rw [hwA]; simp
    have HhA := hide (RowAt.later HA.out Hh.out)
    clear hwA
    go_upto_region 6 with (first | (go_at_call 16; (with_reducible refine (laws_toWind _ _ _).mono ?_); rintro e w9 ⟨rfl, hb⟩; have hzz := hb.size) | (go_at_call 50; (with_reducible refine (laws_toBoatS so n cap X Y H K L U _ (RowAt.later (by repeat (first | with_reducible exact Below.refl _ _ | with_reducible assumption | with_reducible refine Below.drew ?_ | with_reducible refine below_drewN ?_ _ | with_reducible refine Below.setCell ?_ (by first | exact Nat.le_refl _ | (simp; done) | (simp; omega) | (dsimp only; omega)) _ | with_reducible refine Below.alloc ?_ (by first | exact Nat.le_refl _ | (simp; done) | (simp; omega) | (simp at *; omega)) _ | with_reducible refine bstep ?_ (by assumption))) HhA.out) hn).mono ?_); rintro e w9 ⟨gt, rfl, hrow, _, _, _, hb⟩; have Hrow := hide hrow; clear hrow) | (go_at_call 49; (with_reducible refine (HS.out _ _ _ Hrow.out).mono ?_); rintro e w9 ⟨so0, cp0, rfl, hown, hb⟩; have H0 := hide hown; clear hown))
    have hHeld : Below wA.heap.size wA w9 := (by repeat (first | with_reducible exact Below.refl _ _ | with_reducible assumption | with_reducible refine Below.drew ?_ | with_reducible refine below_drewN ?_ _ | with_reducible refine Below.setCell ?_ (by first | exact Nat.le_refl _ | (simp; done) | (simp; omega) | (dsimp only; omega)) _ | with_reducible refine Below.alloc ?_ (by first | exact Nat.le_refl _ | (simp; done) | (simp; omega) | (simp at *; omega)) _ | with_reducible refine bstep ?_ (by assumption)))
    obtain ⟨wB, rfl⟩ : ∃ W : World, W = w9 := ⟨_, rfl⟩
    have b0 := cell_later hHeld a0
    have b1 := cell_later hHeld a1
    have HB := hide (bstep HA.out hHeld)
    have HhB := hide (RowAt.later HB.out Hh.out)
    have sB0 : w.heap.size < wB.heap.size := by have := hHeld.size; omega
    clear a0 a1 hb hHeld
    go_upto_region 7 with (go_at_call 50; (with_reducible refine (laws_toBoatS so n cap X Y H K L U _ HhB.out hn).mono ?_); rintro e w9 ⟨g1, rfl, hrow, hmine, hge, hgl, hb⟩; have Hrow1 := hide hrow; have Hmine1 := hide hmine; clear hrow hmine)
    obtain ⟨wc, rfl⟩ : ∃ W : World, W = w9 := ⟨_, rfl⟩
    have c0 := cell_later hb b0
    have c1 := cell_later hb b1
    have HBC := hide hb
    have HC := hide (bstep HB.out hb)
    have H0C := hide (RdT.later H0.out hb)
    have sC0 : w.heap.size < wc.heap.size := by have := hb.size; omega
    clear b0 b1 hb
    go_upto_region 8 with (first | (go_at_call 16; (with_reducible refine (laws_toWind _ _ _).mono ?_); rintro e w9 ⟨rfl, hb⟩; have hzz := hb.size) | (go_at_call 51; have Hz := hide (show Below wc.heap.size wc w9 from (by repeat (first | with_reducible exact Below.refl _ _ | with_reducible assumption | with_reducible refine Below.drew ?_ | with_reducible refine below_drewN ?_ _ | with_reducible refine Below.setCell ?_ (by first | exact Nat.le_refl _ | (simp; done) | (simp; omega) | (dsimp only; omega)) _ | with_reducible refine Below.alloc ?_ (by first | exact Nat.le_refl _ | (simp; done) | (simp; omega) | (simp at *; omega)) _ | with_reducible refine bstep ?_ (by assumption)))); (with_reducible refine (HI.out _ _ _ (RowAt.later Hz.out Hrow1.out)).mono ?_); rintro e w9 ⟨so1, cp1, rfl, hown, hb⟩; have H1 := hide (OwT.mono hown Hz.out.size); clear hown Hz))
    have hHeld : Below wc.heap.size wc w9 := (by repeat (first | with_reducible exact Below.refl _ _ | with_reducible assumption | with_reducible refine Below.drew ?_ | with_reducible refine below_drewN ?_ _ | with_reducible refine Below.setCell ?_ (by first | exact Nat.le_refl _ | (simp; done) | (simp; omega) | (dsimp only; omega)) _ | with_reducible refine Below.alloc ?_ (by first | exact Nat.le_refl _ | (simp; done) | (simp; omega) | (simp at *; omega)) _ | with_reducible refine bstep ?_ (by assumption)))
    obtain ⟨wD, rfl⟩ : ∃ W : World, W = w9 := ⟨_, rfl⟩
    have d0 := cell_later hHeld c0
    have d1 := cell_later hHeld c1
    have HD := hide (bstep HC.out hHeld)
    have H0D := hide (RdT.later H0C.out hHeld)
    have Hrow1D := hide (RowAt.later hHeld Hrow1.out)
    have Hmine1D := hide (Mine.later hHeld Hmine1.out)
    have HBD := hide (HBC.out.trans (hHeld.mono HBC.out.size))
    have sD0 : w.heap.size < wD.heap.size := by have := hHeld.size; omega
    have sDc : wc.heap.size ≤ wD.heap.size := hHeld.size
    clear c0 c1 hb hHeld
    go_wp2_with fail; (with_reducible refine (KE.out _ _ _ _ _ (OwT.read H1.out) H0D.out).mono ?_); rintro e wE ⟨rfl, hbE⟩
    have e0 := cell_later hbE d0
    have e1 := cell_later hbE d1
    have HE := hide (bstep HD.out hbE)
    have H0E := hide (RdT.later H0D.out hbE)
    have H1E := hide (OwT.later H1.out hbE)
    have Hrow1E := hide (RowAt.later hbE Hrow1D.out)
    have Hmine1E := hide (Mine.later hbE Hmine1D.out)
    have HBE := hide (HBD.out.trans (hbE.mono HBD.out.size))
    have sE0 : w.heap.size < wE.heap.size := by have := hbE.size; omega
    have sEc : wc.heap.size ≤ wE.heap.size := by have := hbE.size; omega
    have HhE := hide (RowAt.later HE.out Hh.out)
    clear d0 d1 hbE
    go_upto_region 10 with fail
    go_upto_region 11 with (first | (go_at_call 50; (with_reducible refine (laws_toBoatS so n cap X Y H K L U _ (RowAt.later (by repeat (first | with_reducible exact Below.refl _ _ | with_reducible assumption | with_reducible refine Below.drew ?_ | with_reducible refine below_drewN ?_ _ | with_reducible refine Below.setCell ?_ (by first | exact Nat.le_refl _ | (simp; done) | (simp; omega) | (dsimp only; omega)) _ | with_reducible refine Below.alloc ?_ (by first | exact Nat.le_refl _ | (simp; done) | (simp; omega) | (simp at *; omega)) _ | with_reducible refine bstep ?_ (by assumption))) HhE.out) hn).mono ?_); rintro e w9 ⟨gt, rfl, hrow, _, _, _, hb⟩; have Hrow2 := hide hrow; clear hrow) | (go_at_call 53; (with_reducible refine (laws_eqBoatS _ _ _ _ _ X Y H K L U _ (RowAt.later (show Below wE.heap.size wE w9 from (by repeat (first | with_reducible exact Below.refl _ _ | with_reducible assumption | with_reducible refine Below.drew ?_ | with_reducible refine below_drewN ?_ _ | with_reducible refine Below.setCell ?_ (by first | exact Nat.le_refl _ | (simp; done) | (simp; omega) | (dsimp only; omega)) _ | with_reducible refine Below.alloc ?_ (by first | exact Nat.le_refl _ | (simp; done) | (simp; omega) | (simp at *; omega)) _ | with_reducible refine bstep ?_ (by assumption)))) Hrow1E.out) Hrow2.out hn).mono ?_); rintro e w9 ⟨rfl, hb⟩))
    have hHeld : Below wE.heap.size wE w9 := (by repeat (first | with_reducible exact Below.refl _ _ | with_reducible assumption | with_reducible refine Below.drew ?_ | with_reducible refine below_drewN ?_ _ | with_reducible refine Below.setCell ?_ (by first | exact Nat.le_refl _ | (simp; done) | (simp; omega) | (dsimp only; omega)) _ | with_reducible refine Below.alloc ?_ (by first | exact Nat.le_refl _ | (simp; done) | (simp; omega) | (simp at *; omega)) _ | with_reducible refine bstep ?_ (by assumption)))
    obtain ⟨wF, rfl⟩ : ∃ W : World, W = w9 := ⟨_, rfl⟩
    have f0 := cell_later hHeld e0
    have f1 := cell_later hHeld e1
    have HF := hide (bstep HE.out hHeld)
    have H0F := hide (RdT.later H0E.out hHeld)
    have H1F := hide (OwT.later H1E.out hHeld)
    have Hmine1F := hide (Mine.later hHeld Hmine1E.out)
    have HBF := hide (HBE.out.trans (hHeld.mono HBE.out.size))
    have sFc : wc.heap.size ≤ wF.heap.size := by have := hHeld.size; omega
    have sF0 : w.heap.size < wF.heap.size := by omega
    clear e0 e1 hb hHeld
    go_wp2_with fail; (with_reducible refine (laws_markBoatS g1 n n _ Hmine1F.out hn).mono ?_); rintro e wG ⟨rfl, hgr⟩
    have kG : Below wB.heap.size wF wG := Below.grown (Below.refl _ _) hgr (by omega) (by intro k hk; simp at hk; omega)
    have g0' := cell_below kG sB0 f0
    have g1' := cell_below kG sB0 f1
    have HG := hide (HF.out.trans (kG.mono (by omega)))
    have HBG := hide (HBF.out.trans kG)
    have H0G := hide (RdT.later H0.out HBG.out)
    have H1G := hide (OwT.grown H1F.out hgr hgl)
    have sGc : wc.heap.size ≤ wG.heap.size := by have := kG.size; omega
    clear f0 f1 kG hgr
    go_wp2_with fail; (with_reducible refine (KE.out _ _ _ _ _ (OwT.read H1G.out) H0G.out).mono ?_); rintro e wH ⟨rfl, hbH⟩
    have H1H := hide (OwT.later H1G.out hbH)
    have i0 := cell_later hbH g0'
    have i1 := cell_later hbH g1'
    have HH := hide (bstep HG.out hbH)
    have HBH := hide (HBG.out.trans (hbH.mono HBG.out.size))
    have sHc : wc.heap.size ≤ wH.heap.size := by have := hbH.size; omega
    clear g0' g1' hbH
    go_wp2_with fail; (with_reducible refine (KM.out _ _ _ _ H1H.out sHc).mono ?_); rintro e wI ⟨rfl, kI, hmk⟩
    have j0 := cell_below kI sC0 i0
    have j1 := cell_below kI sC0 i1
    have HI' := hide (HH.out.trans (kI.mono (by omega)))
    have HBI := hide (HBH.out.trans (kI.mono (by have := HBC.out.size; omega)))
    have HmkI := hide hmk
    have sIc : wc.heap.size ≤ wI.heap.size := by have := kI.size; omega
    clear i0 i1 kI hmk
    go_wp2_with fail; (with_reducible refine (KH.out _ _ _ HmkI.out).mono ?_); rintro e wJ ⟨rfl, hbJ⟩
    have l0 := cell_later hbJ j0
    have l1 := cell_later hbJ j1
    have HJ := hide (bstep HI'.out hbJ)
    have HBJ := hide (HBI.out.trans (hbJ.mono HBI.out.size))
    have HmkJ := hide (MkT.later HmkI.out hbJ)
    have HhJ := hide (RowAt.later HJ.out Hh.out)
    have H0J := hide (RdT.later H0.out HBJ.out)
    have sJ0 : w.heap.size < wJ.heap.size := by have := hbJ.size; omega
    clear j0 j1 hbJ
    go_upto_region 24 with fail
    go_upto_region 25 with (first | (go_at_call 16; (with_reducible refine (laws_toWind _ _ _).mono ?_); rintro e w9 ⟨rfl, hb⟩; have hzz := hb.size) | (go_at_call 50; (with_reducible refine (laws_toBoatS so n cap X Y H K L U _ (RowAt.later (by repeat (first | with_reducible exact Below.refl _ _ | with_reducible assumption | with_reducible refine Below.drew ?_ | with_reducible refine below_drewN ?_ _ | with_reducible refine Below.setCell ?_ (by first | exact Nat.le_refl _ | (simp; done) | (simp; omega) | (dsimp only; omega)) _ | with_reducible refine Below.alloc ?_ (by first | exact Nat.le_refl _ | (simp; done) | (simp; omega) | (simp at *; omega)) _ | with_reducible refine bstep ?_ (by assumption))) HhJ.out) hn).mono ?_); rintro e w9 ⟨gt, rfl, hrow, _, _, _, hb⟩; have Hrow3 := hide hrow; clear hrow) | (go_at_call 51; (with_reducible refine (HI.out _ _ _ Hrow3.out).mono ?_); rintro e w9 ⟨so3, cp3, rfl, hown, hb⟩; have H3 := hide (OwT.read hown); clear hown))
    have hHeld : Below wJ.heap.size wJ w9 := (by repeat (first | with_reducible exact Below.refl _ _ | with_reducible assumption | with_reducible refine Below.drew ?_ | with_reducible refine below_drewN ?_ _ | with_reducible refine Below.setCell ?_ (by first | exact Nat.le_refl _ | (simp; done) | (simp; omega) | (dsimp only; omega)) _ | with_reducible refine Below.alloc ?_ (by first | exact Nat.le_refl _ | (simp; done) | (simp; omega) | (simp at *; omega)) _ | with_reducible refine bstep ?_ (by assumption)))
    obtain ⟨wK, rfl⟩ : ∃ W : World, W = w9 := ⟨_, rfl⟩
    have HK := hide (bstep HJ.out hHeld)
    have H0K := hide (RdT.later H0J.out hHeld)
    have HmkK := hide (MkT.later HmkJ.out hHeld)
    clear l0 l1 hb hHeld
    go_wp2_with fail; (with_reducible refine (KE.out _ _ _ _ _ H3.out H0K.out).mono ?_); rintro e wL ⟨rfl, hbL⟩
    have HmkL := hide (MkT.later HmkK.out hbL)
    have HLL := hide (bstep HK.out hbL)
    clear hbL
    go_wp2_with fail; (with_reducible refine (KH.out _ _ _ HmkL.out).mono ?_); rintro e wM ⟨rfl, hbM⟩
    have HM := hide (bstep HLL.out hbM)
    clear hbM
    go_wp2
    go_ret
    exact ⟨rfl, HM.out⟩
  · go_enter Try.func11, Try.ntmps11
    go_wp2_with (go_at_call 48; (with_reducible refine (laws_szBoatS_no _ _ _ _ _ (by omega) (by omega) (by omega)).mono ?_); rintro e w9 ⟨rfl, rfl⟩)
    go_ret
    exact ⟨rfl, (by repeat (first | with_reducible exact Below.refl _ _ | with_reducible assumption | with_reducible refine Below.drew ?_ | with_reducible refine below_drewN ?_ _ | with_reducible refine Below.setCell ?_ (by first | exact Nat.le_refl _ | (simp; done) | (simp; omega) | (dsimp only; omega)) _ | with_reducible refine Below.alloc ?_ (by first | exact Nat.le_refl _ | (simp; done) | (simp; omega) | (simp at *; omega)) _ | with_reducible refine bstep ?_ (by assumption)))⟩

set_option maxRecDepth 100000 in
theorem FnExactKeepClearTable_lifted (os : Os) (started : os.Started) (H : Type) (enc : TypeId × Value → H) :
    ReturnsInHanded {} Try.checked os 11 .any (Rows.fnExactKeepClearTableSpec.pre6 enc Try.prog Try.f11 Rows.fnExactKeepClearTableRow.domain false) (Rows.fnExactKeepClearTableSpec.post enc Try.prog Try.f11 false true false false) := by
  refine returnsInHanded_of_change (C := Try.checked) Try.own started (by as_aux_lemma => kernel_rfl) Try.func11
    (ChangeSpec.witness6 (enc := enc) (C := Try.checked) false ⟨#[], #[.agg #[.int .i64 0, .int .i64 0], .slice none 0 0], []⟩ 8 (by as_aux_lemma => kernel_rfl) (by as_aux_lemma => kernel_rfl) (by as_aux_lemma => kernel_rfl) (by as_aux_lemma => kernel_rfl)) ?_
  intro W base args ds gs before hval0 hW _ _
  have hval : ∀ (j : Nat) t v, Try.f11.params[j]? = some t → args[j]? = some v → Value.okWide Try.prog W .any base t v := hval0
  have hW' := hW
  obtain ⟨p, q, hA0, hV, rfl, _, _⟩ := hW
  have hA : DataW.TrodAll enc Try.prog W 0 (fun _ => true) true Try.f11.params.toList args.toList ds p := hA0
  rw [Try.params11] at hA hval
  obtain ⟨v0, vs0, d0, ds0, p0, q0, hargs, rfl, rfl, h0, r0⟩ := trodAll_cons hA
  obtain ⟨v1, vs1, d1, ds1, p1, q1, rfl, rfl, rfl, h1, r1⟩ := trodAll_cons r0
  obtain ⟨rfl, rfl, rfl⟩ := trodAll_nil r1
  obtain rfl : args = #[v0, v1] := by cases args; simp_all
  obtain ⟨x0, y0, rfl⟩ := op_wind (hval 0 23 v0 rfl rfl) h0
  obtain ⟨so1, n1, cp1, X1, Y1, H1, K1, L1, U1, rfl, hl1, hr1⟩ := op_boats (hval 1 91 v1 rfl rfl) h1
  obtain ⟨rfl, rfl⟩ := trodVars_none hV
  refine (laws_FnExactKeepClearTable x0 y0 so1 n1 cp1 X1 Y1 H1 K1 L1 U1 W hl1 hr1).mono fun e W1 ⟨he, hb⟩ => ⟨_, he, ?_⟩
  exact law_post Try.laidOut (by as_aux_lemma => kernel_rfl) Try.underlying4 rfl rfl hW' rfl rfl rfl hb
set_option maxHeartbeats 8000000 in
theorem FnExactKeepClearTable_closed : joinedFacts Try.prog 11 Try.f11 Rows.fnExactKeepClearTableSpec Rows.fnExactKeepClearTableRow = true := by
  simp only [joinedFacts, Bool.and_eq_true, Try.laidOut, Try.mapsRowed, Try.stopsNone, Try.stopKnobsNone, Try.plainKeysIs, Try.stopsHeardIs, Try.mayEnterIs, Try.liftsFinalIs, Try.makeIs, and_true, true_and]
  repeat' (with_reducible refine And.intro ?_ ?_)
  all_goals (as_aux_lemma => kernel_rfl)
set_option maxHeartbeats 8000000 in
/-- FnExactKeepClearTable: whatever the input, the law returns true, and the input reads as it did. -/
theorem FnExactKeepClearTable_holds : Rows.FnExactKeepClearTableSaid :=
  OpenClaim.holds_of_wide 11 Try.f11 rfl rfl rfl rfl rfl rfl rfl ⟨rfl, rfl, rfl, rfl, rfl⟩ rfl rfl rfl rfl rfl (by as_aux_lemma => kernel_rfl) Try.func11
    FnExactKeepClearTable_closed
    (of_decide_eq_true (by as_aux_lemma => kernel_rfl)) (by unfold Func.isWrapper; rw [if_neg (of_decide_eq_false (by as_aux_lemma => kernel_rfl))]; exact ⟨rfl, rfl⟩)
    (fun os started H enc _ => FnExactKeepClearTable_lifted os started H enc)
#print axioms FnExactKeepClearTable_holds
end Go.Proofs.Ytnnjfnbdljakmaa
