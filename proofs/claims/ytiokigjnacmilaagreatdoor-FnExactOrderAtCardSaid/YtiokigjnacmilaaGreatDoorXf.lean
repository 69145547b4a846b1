/- Walks: the first crossing forward at or behind a time, of both. -/
import Derived.Test.YtiokigjnacmilaaGreatDoorXc
namespace Go.Proofs.YtiokigjnacmilaaGreatDoor
open Go.RowKit

theorem own_cx {w : World} {B : Nat} {e : TypeId} {g cp m : Nat} {ax ay bx bY : Int} {T U V : Nat → Int} {L : List Nat} (h : w.ownsRow B e 5 (.slice (some ⟨g, 0, none⟩) m cp) m (cxCs ax ay bx bY T U V L)) (i : Nat) (hi : i < L.length) :
    w.cell? ⟨g, i * 5, none⟩ = some (.int .i64 (cxT ax ay bx bY T U V (L[i]?.getD 0))) ∧ w.cell? ⟨g, i * 5 + 1, none⟩ = some (.int .i64 ((L[i]?.getD 0 : Nat) : Int)) ∧ w.cell? ⟨g, i * 5 + 2, none⟩ = some (.int .i64 (wyL ax ay bx bY U V (L[i]?.getD 0))) ∧ w.cell? ⟨g, i * 5 + 3, none⟩ = some (.int .i64 (cxN ax ay bx bY U V (L[i]?.getD 0))) ∧ w.cell? ⟨g, i * 5 + 4, none⟩ = some (.int .i64 (cxD ax ay bx bY U V (L[i]?.getD 0))) := by
  have k : ∀ j v, j < 5 → (cxC ax ay bx bY T U V (L[i]?.getD 0))[j]? = some v → w.cell? ⟨g, i * 5 + j, none⟩ = some v := fun j v hj hv => by
    have := h.cells (g := g) rfl (i * 5 + j) v ((cxCs_at ax ay bx bY T U V L i j hi hj).trans hv)
    rwa [Addr.add_lit, Nat.zero_add] at this
  exact ⟨k 0 _ (by decide) rfl, k 1 _ (by decide) rfl, k 2 _ (by decide) rfl, k 3 _ (by decide) rfl, k 4 _ (by decide) rfl⟩
theorem fcT_drop (ax ay bx bY : Int) (T U V : Nat → Int) (fr : Int) (L : List Nat) (i : Nat) (hi : i < L.length) :
    fcT ax ay bx bY T U V fr (L.drop i) = if wyL ax ay bx bY U V (L[i]?.getD 0) = 1 ∧ fr ≤ cxT ax ay bx bY T U V (L[i]?.getD 0) then cxT ax ay bx bY T U V (L[i]?.getD 0) else fcT ax ay bx bY T U V fr (L.drop (i + 1)) := by
  rw [List.drop_eq_getElem_cons hi, List.getElem?_eq_getElem hi]
  rfl
theorem fcT_end (ax ay bx bY : Int) (T U V : Nat → Int) (fr : Int) (L : List Nat) : fcT ax ay bx bY T U V fr (L.drop L.length) = -1 := by rw [List.drop_length]; rfl
/-- What the first crossing is answered with. -/
def RetF (w : World) (f : Int) (e : Ending) (w' : World) : Prop := (∃ x1 x2 x3 x4 x5 : Int, e = .returned (.tuple #[.agg #[.int .i64 x1, .int .i64 x2, .int .i64 x3, .int .i64 x4, .int .i64 x5], .bool (decide (0 ≤ f))]) ∧ (0 ≤ f → x1 = f)) ∧ Below w.heap.size w w'
set_option maxRecDepth 100000 in
set_option maxHeartbeats 8000000 in
theorem impl_firstCrossing (ax ay bx bY : Int) (b o n cap : Nat) (T U V : Nat → Int) (fr : Int) (w : World) (h : RowAt w (some ⟨b, o, none⟩) n 3 (v3 T U V)) (hv : isTr n T U V = true) (hl : isSg ax ay bx bY = true) :
    Calls Tryz.prog 59 #[.agg #[.slice (some ⟨b, o, none⟩) n cap], .agg #[.int .i64 ax, .int .i64 ay, .int .i64 bx, .int .i64 bY], .int .i64 1, .int .i64 fr] w (RetF w (fcT ax ay bx bY T U V fr (cxs ax ay bx bY U V (n - 1)))) := by
  obtain ⟨hn2, hn40, _⟩ := isTr_t hv
  have KC := hide (fun W (hb : Below w.heap.size w W) => impl_crossingsOf ax ay bx bY b o n cap T U V W (RowAt.later hb h) hv hl)
  have hbd : ∀ i, i < (cxs ax ay bx bY U V (n - 1)).length → 0 ≤ cxT ax ay bx bY T U V ((cxs ax ay bx bY U V (n - 1))[i]?.getD 0) := fun i hi => by
    rw [List.getElem?_eq_getElem hi]
    obtain ⟨h1, h2⟩ := cxs_mem ax ay bx bY U V (n - 1) _ (List.getElem_mem hi)
    exact (cxT_bd hl hv (by show (cxs ax ay bx bY U V (n - 1))[i] + 1 < n; omega) h2).1
  have hlen := cxs_len ax ay bx bY U V (n - 1)
  generalize cxs ax ay bx bY U V (n - 1) = Lx at *
  obtain ⟨f9, hf9⟩ : ∃ v, v = fcT ax ay bx bY T U V fr Lx := ⟨_, rfl⟩
  rw [← hf9]
  have Hf9 := hide hf9
  have Hbd := hide hbd
  clear h hv hl hf9 hbd
  have hMn : ∀ (W : World), Mine ((W.alloc (.cells #[.int .i64 0, .int .i64 0, .int .i64 0, .int .i64 0, .int .i64 0] 102))) W.heap.size 5 := fun W => mine_make rfl
  go_enter Tryz.func59, Tryz.ntmps59
  go_upto_region 1 with fail
  obtain ⟨wT, hT⟩ : ∃ W, W = ((w.alloc (.cells #[.slice (some ⟨b, o, none⟩) n cap] 60)).alloc (.cells #[.int .i64 ax, .int .i64 ay, .int .i64 bx, .int .i64 bY] 37)).alloc (.cells #[.int .i64 0, .int .i64 0, .int .i64 0, .int .i64 0, .int .i64 0] 102) := ⟨_, rfl⟩
  have m0 : wT.cell? ⟨w.heap.size, 0, none⟩ = some (.slice (some ⟨b, o, none⟩) n cap) := by rw [hT]; go_simp
  have m1 : wT.cell? ⟨w.heap.size + 1, 0, none⟩ = some (.int .i64 ax) := by rw [hT]; go_simp
  have m2 : wT.cell? ⟨w.heap.size + 1, 1, none⟩ = some (.int .i64 ay) := by rw [hT]; go_simp
  have m3 : wT.cell? ⟨w.heap.size + 1, 2, none⟩ = some (.int .i64 bx) := by rw [hT]; go_simp
  have m4 : wT.cell? ⟨w.heap.size + 1, 3, none⟩ = some (.int .i64 bY) := by rw [hT]; go_simp
  have HM := hide (show Mine wT (w.heap.size + 1 + 1) 5 by
    rw [hT]
    have := hMn ((w.alloc (.cells #[.slice (some ⟨b, o, none⟩) n cap] 60)).alloc (.cells #[.int .i64 ax, .int .i64 ay, .int .i64 bx, .int .i64 bY] 37))
    simpa using this)
  have HBT := hide (show Below w.heap.size w wT by rw [hT]; exact bwz)
  rw [← hT]
  clear hT hMn
  go_wp2_with fail; (with_reducible refine (KC.out _ HBT.out).mono ?_); rintro e wA ⟨g9, cp9, rfl, hown, hb⟩
  have hgl := (hown.lt g9 rfl).2
  have hgb := (hown.lt g9 rfl).1
  have HO := hide hown
  have HMA := hide (Mine.later hb HM.out)
  have HBA := hide (bstep HBT.out hb)
  have hBA := HBA.out
  have zT := (show w.heap.size + 1 + 1 < wT.heap.size from World.block_lt_of_cell? _ _ (Classical.choose_spec (HM.out 0 (by decide)).1))
  have zA := hb.size
  clear hown hb m0 m1 m2 m3 m4 HM KC
  go_wp2
  go_loopw [16] (fun s1 wr => ∃ i : Nat, i ≤ Lx.length ∧ s1 = .int .i64 i ∧ Hid (f9 = fcT ax ay bx bY T U V fr (Lx.drop i)) ∧ Hid (Mine wr (w.heap.size + 1 + 1) 5) ∧ Below wA.heap.size wA wr) (fun i _ => Lx.length - (intOf i).toNat)
  case atStart => exact ⟨0, Nat.zero_le _, rfl, hide (by rw [List.drop_zero]; exact Hf9.out), HMA, Below.refl _ _⟩
  case round =>
    obtain ⟨i, hi, rfl, HI, HMr, hbr⟩ := hrel
    have zr := hbr.size
    have zr2 : w.heap.size + 1 + 1 < wr.heap.size := by omega
    have zrg : g9 < wr.heap.size := by omega
    by_cases hlt : i < Lx.length
    · have hst := HI.out
      rw [fcT_drop ax ay bx bY T U V fr Lx i hlt] at hst
      obtain ⟨c0, c1, c2, c3, c4⟩ := own_cx HO.out i hlt
      have d0 := cell_later hbr c0
      have d1 := cell_later hbr c1
      have d2 := cell_later hbr c2
      have d3 := cell_later hbr c3
      have d4 := cell_later hbr c4
      have ht0 := Hbd.out i hlt
      obtain ⟨⟨x0, e0⟩, f0⟩ := HMr.out 0 (by decide)
      obtain ⟨⟨x1, e1⟩, f1⟩ := HMr.out 1 (by decide)
      obtain ⟨⟨x2, e2⟩, f2⟩ := HMr.out 2 (by decide)
      obtain ⟨⟨x3, e3⟩, f3⟩ := HMr.out 3 (by decide)
      obtain ⟨⟨x4, e4⟩, f4⟩ := HMr.out 4 (by decide)
      clear c0 c1 c2 c3 c4
      generalize cxT ax ay bx bY T U V (Lx[i]?.getD 0) = tm at *
      generalize wyL ax ay bx bY U V (Lx[i]?.getD 0) = wy at *
      generalize cxN ax ay bx bY U V (Lx[i]?.getD 0) = n9 at *
      generalize cxD ax ay bx bY U V (Lx[i]?.getD 0) = d9 at *
      generalize ((Lx[i]?.getD 0 : Nat) : Int) = l9 at *
      have hj1 : (0 : Int) ≤ (i : Int) := by omega
      have hj2 : (i : Int) < (Lx.length : Int) := by omega
      obtain ⟨m9, hm9⟩ : ∃ m : Nat, m = Lx.length := ⟨_, rfl⟩
      rw [← hm9] at hj2 ⊢
      by_cases hw : wy = 1
      · have hwb : (wy == 1) = true := beq_iff_eq.2 hw
        by_cases hf : fr ≤ tm
        · rw [if_pos ⟨hw, hf⟩] at hst
          have He := hide hst
          clear hst HI hw hm9
          go_wp2
          simp [bodyPost, results, Tryz.results59, go_sem, *]
          all_goals exact ⟨⟨_, _, _, _, _, by rw [show decide (0 ≤ f9) = true from decide_eq_true (by rw [He.out]; exact ht0)], fun _ => He.out.symm⟩, bwz⟩
        · rw [if_neg (fun q => hf q.2)] at hst
          have He := hide hst
          clear hst HI hw
          go_wp2
          go_roundw
          case rel => exact ⟨i + 1, by omega, by go_num, He, hide (Mine.later (Below.alloc (Below.refl _ _) (Nat.le_refl _) _) HMr.out), bwz⟩
          case measure => simp [intOf]; omega
      · have hwb : (wy == 1) = false := beq_eq_false_iff_ne.2 hw
        rw [if_neg (fun q => hw q.1)] at hst
        have He := hide hst
        clear hst HI hw
        go_wp2
        go_roundw
        case rel => exact ⟨i + 1, by omega, by go_num, He, hide (Mine.later (Below.alloc (Below.refl _ _) (Nat.le_refl _) _) HMr.out), bwz⟩
        case measure => simp [intOf]; omega
    · obtain rfl : i = Lx.length := by omega
      have he := HI.out
      rw [fcT_end] at he
      have He := hide he
      obtain ⟨⟨x0, e0⟩, f0⟩ := HMr.out 0 (by decide)
      obtain ⟨⟨x1, e1⟩, f1⟩ := HMr.out 1 (by decide)
      obtain ⟨⟨x2, e2⟩, f2⟩ := HMr.out 2 (by decide)
      obtain ⟨⟨x3, e3⟩, f3⟩ := HMr.out 3 (by decide)
      obtain ⟨⟨x4, e4⟩, f4⟩ := HMr.out 4 (by decide)
      clear he HI
      go_wp2
      simp [bodyPost, results, Tryz.results59, go_sem, *]
      all_goals exact ⟨⟨_, _, _, _, _, by rw [show decide (0 ≤ f9) = false from decide_eq_false (by rw [He.out]; decide)], fun q => absurd q (by rw [He.out]; decide)⟩, bwz⟩
set_option maxRecDepth 100000 in
set_option maxHeartbeats 8000000 in
theorem spec_l05First (ax ay bx bY : Int) (b o n cap : Nat) (T U V : Nat → Int) (fr : Int) (w : World) (h : RowAt w (some ⟨b, o, none⟩) n 3 (v3 T U V)) (hv : isTr n T U V = true) (hl : isSg ax ay bx bY = true) :
    Calls Tryz.prog 48 #[.agg #[.slice (some ⟨b, o, none⟩) n cap], .agg #[.int .i64 ax, .int .i64 ay, .int .i64 bx, .int .i64 bY], .int .i64 1, .int .i64 fr] w (RetF w (fcT ax ay bx bY T U V fr (cxs ax ay bx bY U V (n - 1)))) := by
  obtain ⟨hn2, hn40, _⟩ := isTr_t hv
  have KC := hide (fun W (hb : Below w.heap.size w W) => spec_l05Crossings ax ay bx bY b o n cap T U V W (RowAt.later hb h) hv hl)
  have hbd : ∀ i, i < (cxs ax ay bx bY U V (n - 1)).length → 0 ≤ cxT ax ay bx bY T U V ((cxs ax ay bx bY U V (n - 1))[i]?.getD 0) := fun i hi => by
    rw [List.getElem?_eq_getElem hi]
    obtain ⟨h1, h2⟩ := cxs_mem ax ay bx bY U V (n - 1) _ (List.getElem_mem hi)
    exact (cxT_bd hl hv (by show (cxs ax ay bx bY U V (n - 1))[i] + 1 < n; omega) h2).1
  have hlen := cxs_len ax ay bx bY U V (n - 1)
  generalize cxs ax ay bx bY U V (n - 1) = Lx at *
  obtain ⟨f9, hf9⟩ : ∃ v, v = fcT ax ay bx bY T U V fr Lx := ⟨_, rfl⟩
  rw [← hf9]
  have Hf9 := hide hf9
  have Hbd := hide hbd
  clear h hv hl hf9 hbd
  have hMn : ∀ (W : World), Mine ((W.alloc (.cells #[.int .i64 0, .int .i64 0, .int .i64 0, .int .i64 0, .int .i64 0] 102))) W.heap.size 5 := fun W => mine_make rfl
  go_enter Tryz.func48, Tryz.ntmps48
  go_upto_region 1 with fail
  obtain ⟨wT, hT⟩ : ∃ W, W = ((w.alloc (.cells #[.slice (some ⟨b, o, none⟩) n cap] 60)).alloc (.cells #[.int .i64 ax, .int .i64 ay, .int .i64 bx, .int .i64 bY] 37)).alloc (.cells #[.int .i64 0, .int .i64 0, .int .i64 0, .int .i64 0, .int .i64 0] 102) := ⟨_, rfl⟩
  have m0 : wT.cell? ⟨w.heap.size, 0, none⟩ = some (.slice (some ⟨b, o, none⟩) n cap) := by rw [hT]; go_simp
  have m1 : wT.cell? ⟨w.heap.size + 1, 0, none⟩ = some (.int .i64 ax) := by rw [hT]; go_simp
  have m2 : wT.cell? ⟨w.heap.size + 1, 1, none⟩ = some (.int .i64 ay) := by rw [hT]; go_simp
  have m3 : wT.cell? ⟨w.heap.size + 1, 2, none⟩ = some (.int .i64 bx) := by rw [hT]; go_simp
  have m4 : wT.cell? ⟨w.heap.size + 1, 3, none⟩ = some (.int .i64 bY) := by rw [hT]; go_simp
  have HM := hide (show Mine wT (w.heap.size + 1 + 1) 5 by
    rw [hT]
    have := hMn ((w.alloc (.cells #[.slice (some ⟨b, o, none⟩) n cap] 60)).alloc (.cells #[.int .i64 ax, .int .i64 ay, .int .i64 bx, .int .i64 bY] 37))
    simpa using this)
  have HBT := hide (show Below w.heap.size w wT by rw [hT]; exact bwz)
  rw [← hT]
  clear hT hMn
  go_wp2_with fail; (with_reducible refine (KC.out _ HBT.out).mono ?_); rintro e wA ⟨g9, cp9, rfl, hown, hb⟩
  have hgl := (hown.lt g9 rfl).2
  have hgb := (hown.lt g9 rfl).1
  have HO := hide hown
  have HMA := hide (Mine.later hb HM.out)
  have HBA := hide (bstep HBT.out hb)
  have hBA := HBA.out
  have zT := (show w.heap.size + 1 + 1 < wT.heap.size from World.block_lt_of_cell? _ _ (Classical.choose_spec (HM.out 0 (by decide)).1))
  have zA := hb.size
  clear hown hb m0 m1 m2 m3 m4 HM KC
  go_wp2
  go_loopw [11] (fun s1 wr => ∃ i : Nat, i ≤ Lx.length ∧ s1 = .int .i64 i ∧ Hid (f9 = fcT ax ay bx bY T U V fr (Lx.drop i)) ∧ Hid (Mine wr (w.heap.size + 1 + 1) 5) ∧ Below wA.heap.size wA wr) (fun i _ => Lx.length - (intOf i).toNat)
  case atStart => exact ⟨0, Nat.zero_le _, rfl, hide (by rw [List.drop_zero]; exact Hf9.out), HMA, Below.refl _ _⟩
  case round =>
    obtain ⟨i, hi, rfl, HI, HMr, hbr⟩ := hrel
    have zr := hbr.size
    have zr2 : w.heap.size + 1 + 1 < wr.heap.size := by omega
    have zrg : g9 < wr.heap.size := by omega
    by_cases hlt : i < Lx.length
    · have hst := HI.out
      rw [fcT_drop ax ay bx bY T U V fr Lx i hlt] at hst
      obtain ⟨c0, c1, c2, c3, c4⟩ := own_cx HO.out i hlt
      have d0 := cell_later hbr c0
      have d1 := cell_later hbr c1
      have d2 := cell_later hbr c2
      have d3 := cell_later hbr c3
      have d4 := cell_later hbr c4
      have ht0 := Hbd.out i hlt
      obtain ⟨⟨x0, e0⟩, f0⟩ := HMr.out 0 (by decide)
      obtain ⟨⟨x1, e1⟩, f1⟩ := HMr.out 1 (by decide)
      obtain ⟨⟨x2, e2⟩, f2⟩ := HMr.out 2 (by decide)
      obtain ⟨⟨x3, e3⟩, f3⟩ := HMr.out 3 (by decide)
      obtain ⟨⟨x4, e4⟩, f4⟩ := HMr.out 4 (by decide)
      clear c0 c1 c2 c3 c4
      generalize cxT ax ay bx bY T U V (Lx[i]?.getD 0) = tm at *
      generalize wyL ax ay bx bY U V (Lx[i]?.getD 0) = wy at *
      generalize cxN ax ay bx bY U V (Lx[i]?.getD 0) = n9 at *
      generalize cxD ax ay bx bY U V (Lx[i]?.getD 0) = d9 at *
      generalize ((Lx[i]?.getD 0 : Nat) : Int) = l9 at *
      have hj1 : (0 : Int) ≤ (i : Int) := by omega
      have hj2 : (i : Int) < (Lx.length : Int) := by omega
      obtain ⟨m9, hm9⟩ : ∃ m : Nat, m = Lx.length := ⟨_, rfl⟩
      rw [← hm9] at hj2 ⊢
      by_cases hw : wy = 1
      · have hwb : (wy == 1) = true := beq_iff_eq.2 hw
        by_cases hf : fr ≤ tm
        · rw [if_pos ⟨hw, hf⟩] at hst
          have He := hide hst
          clear hst HI hw hm9
          go_wp2
          simp [bodyPost, results, Tryz.results48, go_sem, *]
          all_goals exact ⟨⟨_, _, _, _, _, by rw [show decide (0 ≤ f9) = true from decide_eq_true (by rw [He.out]; exact ht0)], fun _ => He.out.symm⟩, bwz⟩
        · rw [if_neg (fun q => hf q.2)] at hst
          have He := hide hst
          clear hst HI hw
          go_wp2
          go_roundw
          case rel => exact ⟨i + 1, by omega, by go_num, He, HMr, bwz⟩
          case measure => simp [intOf]; omega
      · have hwb : (wy == 1) = false := beq_eq_false_iff_ne.2 hw
        rw [if_neg (fun q => hw q.1)] at hst
        have He := hide hst
        clear hst HI hw
        go_wp2
        go_roundw
        case rel => exact ⟨i + 1, by omega, by go_num, He, HMr, bwz⟩
        case measure => simp [intOf]; omega
    · obtain rfl : i = Lx.length := by omega
      have he := HI.out
      rw [fcT_end] at he
      have He := hide he
      obtain ⟨⟨x0, e0⟩, f0⟩ := HMr.out 0 (by decide)
      obtain ⟨⟨x1, e1⟩, f1⟩ := HMr.out 1 (by decide)
      obtain ⟨⟨x2, e2⟩, f2⟩ := HMr.out 2 (by decide)
      obtain ⟨⟨x3, e3⟩, f3⟩ := HMr.out 3 (by decide)
      obtain ⟨⟨x4, e4⟩, f4⟩ := HMr.out 4 (by decide)
      clear he HI
      go_wp2
      simp [bodyPost, results, Tryz.results48, go_sem, *]
      all_goals exact ⟨⟨_, _, _, _, _, by rw [show decide (0 ≤ f9) = false from decide_eq_false (by rw [He.out]; decide)], fun q => absurd q (by rw [He.out]; decide)⟩, bwz⟩
end Go.Proofs.YtiokigjnacmilaaGreatDoor
