/- Walks: a time on a track and a span are drawn. -/
import Derived.Test.YtndlpoffpcpnkaaDb
namespace Go.Proofs.Ytndlpoffpcpnkaa
open Go.RowKit

def IntC (w : World) (g : Nat) (e : Ending) (w' : World) : Prop := (∃ x : Int, e = .returned (.int .i64 x)) ∧ w.grownBy w' (some g) ∧ Src w' g
def FAgg3 (v : Value) : Prop := ∃ a b c : Int, v = .agg #[.int .i64 a, .int .i64 b, .int .i64 c]
def FAt (b n : Nat) (v : Value) : Prop := ∃ x : Nat, v = .pointer (some ⟨b, x * 3, none⟩) ∧ x < n
theorem own_at {w W : World} {b n g : Nat} {L : List Int} (h : ∀ j, j < n * 3 → w.cell? ⟨b, j, none⟩ = some (.int .i64 (L[j]?.getD 0)) ∧ w.frozen? ⟨b, j, none⟩ = false) (hg : w.grownBy W (some g)) (hb : b < w.heap.size) (hn : b ≠ g) {x : Nat} (hx : x < n) :
    ∃ a1 a2 a3 : Int, W.cell? ⟨b, x * 3, none⟩ = some (.int .i64 a1) ∧ W.cell? ⟨b, x * 3 + 1, none⟩ = some (.int .i64 a2) ∧ W.cell? ⟨b, x * 3 + 2, none⟩ = some (.int .i64 a3) :=
  ⟨_, _, _, (gcell hg b _ hb hn).trans (h (x * 3) (by omega)).1, (gcell hg b _ hb hn).trans (h (x * 3 + 1) (by omega)).1, (gcell hg b _ hb hn).trans (h (x * 3 + 2) (by omega)).1⟩
set_option maxRecDepth 100000 in
set_option maxHeartbeats 4000000 in
theorem spec_l10DrawSpan (g : Nat) (w : World) (h : Src w g) : Calls Try.prog 16 #[.pointer (some ⟨g, 0, none⟩)] w (IntC w g) := by
  have ng := Src.lt h
  go_enter Try.func16, Try.ntmps16
  go_wp2_with fail; (with_reducible refine (spec_l01Next g _ _ swz (by decide)).mono ?_); rintro e w1 ⟨⟨x1, rfl, hx1⟩, hg1, hs1⟩; have hc1 := gcell hg1; have hf1 := gfroz hg1; have lg1 := Src.lt hs1; have nga1 : ¬ w1.heap.size = g := (by omega); have ngb1 : ¬ g = w1.heap.size := (by omega); have hzs1 := hg1.size; (try simp at hzs1)
  clear hx1
  by_cases k1 : x1 = 0
  · subst k1
    go_wp2_with fail; (with_reducible refine (spec_l01NextN g 3 3 _ swz (by decide) (by decide) (by decide)).mono ?_); rintro e w2 ⟨⟨x2, rfl, hx2⟩, hg2, hs2⟩; have hc2 := gcell hg2; have hf2 := gfroz hg2; have lg2 := Src.lt hs2; have nga2 : ¬ w2.heap.size = g := (by omega); have ngb2 : ¬ g = w2.heap.size := (by omega); have hzs2 := hg2.size; (try simp at hzs2); have zx2_0 : w1.heap.size < w2.heap.size := (by first | omega | (simp at hzs2; omega)); have zy2_0 : w1.heap.size < w2.heap.size + 1 := (by omega); have zw2_0 : ¬ w2.heap.size = w1.heap.size := (by omega); have zv2_0 : ¬ w1.heap.size = w2.heap.size := (by omega); have zu2_0 : w1.heap.size < w2.heap.size + 1 + 1 := (by omega); have zt2_0 : ¬ w2.heap.size + 1 = w1.heap.size := (by omega); have zr2_0 : ¬ w1.heap.size = w2.heap.size + 1 := (by omega)
    rcases (by omega : x2 = 0 ∨ x2 = 1 ∨ x2 = 2) with rfl | rfl | rfl
    all_goals
      go_wp2
      go_ret
      exact ⟨⟨_, rfl⟩, gwz, swz⟩
  · have k2 : (x1 == 0) = false := beq_eq_false_iff_ne.2 k1
    go_wp2_with fail; (with_reducible refine (spec_l01Next g _ _ swz (by decide)).mono ?_); rintro e w2 ⟨⟨x2, rfl, hx2⟩, hg2, hs2⟩; have hc2 := gcell hg2; have hf2 := gfroz hg2; have lg2 := Src.lt hs2; have nga2 : ¬ w2.heap.size = g := (by omega); have ngb2 : ¬ g = w2.heap.size := (by omega); have hzs2 := hg2.size; (try simp at hzs2)
    go_wp2
    go_ret
    exact ⟨⟨_, rfl⟩, gwz, swz⟩
set_option maxRecDepth 100000 in
set_option maxHeartbeats 8000000 in
theorem spec_l03DrawTime (g B n cap : Nat) (so : Option Addr) (Lf : List Int) (w : World) (h : Src w g) (ho : OwnI 3 2000000000 w B Lf n so) (hn : n ≤ 41) (hB : g < B) : Calls Try.prog 13 #[.pointer (some ⟨g, 0, none⟩), .agg #[.slice so n cap]] w (IntC w g) := by
  have ng := Src.lt h
  have nz0 : ¬ w.heap.size = g := by omega
  have nz1 : ¬ g = w.heap.size := by omega
  by_cases hn2 : n < 2
  · have hi : (n : Int) < 2 := by omega
    clear ho
    go_enter Try.func13, Try.ntmps13
    go_wp2_with fail; (with_reducible refine (spec_l01Next g _ _ swz (by decide)).mono ?_); rintro e w1 ⟨⟨x1, rfl, hx1⟩, hg1, hs1⟩; have hc1 := gcell hg1; have hf1 := gfroz hg1; have lg1 := Src.lt hs1; have nga1 : ¬ w1.heap.size = g := (by omega); have ngb1 : ¬ g = w1.heap.size := (by omega); have hzs1 := hg1.size; (try simp at hzs1); have zx1_0 : w.heap.size < w1.heap.size := (by first | omega | (simp at hzs1; omega)); have zy1_0 : w.heap.size < w1.heap.size + 1 := (by omega); have zw1_0 : ¬ w1.heap.size = w.heap.size := (by omega); have zv1_0 : ¬ w.heap.size = w1.heap.size := (by omega); have zu1_0 : w.heap.size < w1.heap.size + 1 + 1 := (by omega); have zt1_0 : ¬ w1.heap.size + 1 = w.heap.size := (by omega); have zr1_0 : ¬ w.heap.size = w1.heap.size + 1 := (by omega)
    go_wp2
    go_ret
    exact ⟨⟨_, rfl⟩, gwz, swz⟩
  have hi : ¬ (n : Int) < 2 := by omega
  obtain ⟨b, rfl, hbB, hbl, hbc⟩ := ho.blk (by omega)
  have nb0 : ¬ b = w.heap.size := by omega
  have nb1 : ¬ w.heap.size = b := by omega
  have nb4 : ¬ b = g := by omega
  have hM0 := hide (ho.2.1 0 (by omega))
  obtain ⟨m, rfl⟩ : ∃ m, n = m + 1 := ⟨n - 1, by omega⟩
  have hMm := hide (ho.2.1 m (by omega))
  have hi2 : ¬ (m : Int) + 1 < 2 := by omega
  clear ho
  have Hbc := hide hbc
  clear hbc
  go_enter Try.func13, Try.ntmps13
  go_wp2_with fail; (with_reducible refine (spec_l01Next g _ _ swz (by decide)).mono ?_); rintro e w1 ⟨⟨x1, rfl, hx1⟩, hg1, hs1⟩; have hc1 := gcell hg1; have hf1 := gfroz hg1; have lg1 := Src.lt hs1; have nga1 : ¬ w1.heap.size = g := (by omega); have ngb1 : ¬ g = w1.heap.size := (by omega); have hzs1 := hg1.size; (try simp at hzs1); have zx1_0 : w.heap.size < w1.heap.size := (by first | omega | (simp at hzs1; omega)); have zy1_0 : w.heap.size < w1.heap.size + 1 := (by omega); have zw1_0 : ¬ w1.heap.size = w.heap.size := (by omega); have zv1_0 : ¬ w.heap.size = w1.heap.size := (by omega); have zu1_0 : w.heap.size < w1.heap.size + 1 + 1 := (by omega); have zt1_0 : ¬ w1.heap.size + 1 = w.heap.size := (by omega); have zr1_0 : ¬ w.heap.size = w1.heap.size + 1 := (by omega); have zx1_1 : b < w1.heap.size := (by first | omega | (simp at hzs1; omega)); have zy1_1 : b < w1.heap.size + 1 := (by omega); have zw1_1 : ¬ w1.heap.size = b := (by omega); have zv1_1 : ¬ b = w1.heap.size := (by omega); have zu1_1 : b < w1.heap.size + 1 + 1 := (by omega); have zt1_1 : ¬ w1.heap.size + 1 = b := (by omega); have zr1_1 : ¬ b = w1.heap.size + 1 := (by omega)
  clear hx1
  by_cases k1 : x1 = 0
  · subst k1
    go_wp2_with fail; (with_reducible refine (spec_l01Next g _ _ swz (by decide)).mono ?_); rintro e w2 ⟨⟨x2, rfl, hx2⟩, hg2, hs2⟩; have hc2 := gcell hg2; have hf2 := gfroz hg2; have lg2 := Src.lt hs2; have nga2 : ¬ w2.heap.size = g := (by omega); have ngb2 : ¬ g = w2.heap.size := (by omega); have hzs2 := hg2.size; (try simp at hzs2); have zx2_0 : w.heap.size < w2.heap.size := (by first | omega | (simp at hzs2; omega)); have zy2_0 : w.heap.size < w2.heap.size + 1 := (by omega); have zw2_0 : ¬ w2.heap.size = w.heap.size := (by omega); have zv2_0 : ¬ w.heap.size = w2.heap.size := (by omega); have zu2_0 : w.heap.size < w2.heap.size + 1 + 1 := (by omega); have zt2_0 : ¬ w2.heap.size + 1 = w.heap.size := (by omega); have zr2_0 : ¬ w.heap.size = w2.heap.size + 1 := (by omega)
    go_wp2
    go_ret
    exact ⟨⟨_, rfl⟩, gwz, swz⟩
  have k2 : (x1 == 0) = false := beq_eq_false_iff_ne.2 k1
  have a0 : w1.cell? ⟨w.heap.size, 0, none⟩ = some (.slice (some ⟨b, 0, none⟩) (m + 1) cap) := by go_simp
  have Hb1 := hide (show ∀ j, j < (m + 1) * 3 → w1.cell? ⟨b, j, none⟩ = some (.int .i64 (Lf[j]?.getD 0)) ∧ w1.frozen? ⟨b, j, none⟩ = false from fun j hj => ⟨((hc1 b j (by simp; omega) nb4).trans (World.cell?_alloc_past _ _ _ hbl)).trans (Hbc.out j hj).1, ((hf1 b j (by simp; omega) nb4).trans (World.frozen?_alloc_past _ _ _ hbl)).trans (Hbc.out j hj).2⟩)
  have hb1 : b < w1.heap.size := by omega
  have G1 := hide (show w.grownBy w1 (some g) from gr_step (gr_alloc (World.grownBy.refl _ _) _) hg1)
  clear hc1 hf1 hg1 Hbc
  have hg1 := G1.out
  go_upto_region 3 with fail
  have HwE : World.grownBy w w1 (some g) := gwz
  have HcE0 : World.cell? w1 ⟨w.heap.size, 0, none⟩ = some (.slice (some ⟨b, 0, none⟩) (m + 1) cap) := (by go_simp)
  refine wp_region_held_drew (S := fun W => W.cell? ⟨w.heap.size, 0, none⟩ = some (.slice (some ⟨b, 0, none⟩) (m + 1) cap) ∧ World.grownBy w W (some g) ∧ Src W g) (by kernel_rfl) ⟨HcE0, gr_drew HwE, by assumption⟩ (fun hHeld => ?_)
  refine tkD 0 (some 20) rfl ?_; (try simp only [pz])
  refine tkD 1 (some 21) rfl ?_; (try simp only [pz])
  refine tkD 2 (some 22) rfl ?_; (try simp only [pz])
  refine tkD 3 (some 23) rfl ?_; (try simp only [pz])
  refine tkD 4 (some 24) rfl ?_; (try simp only [pz])
  refine tkD 5 (some 25) rfl ?_; (try simp only [pz])
  refine wpAnyH_inv (fuel := 1) [6, 7, 8, 9] [26, 27, 28, 5] (fun u L W => (World.grownBy w1 W (some g) ∧ Src W g) ∧ (L 6 → FNat (m+1) (u 26)) ∧ (L 7 → FAt b (m+1) (u 27)) ∧ (L 8 → FAgg3 (u 28)) ∧ (L 9 → FBox g w1 3 (u 5) W) ∧ True) (by decide) (by kernel_rfl) (fun u L W hJ => ⟨cell_grown hJ.1.1 (by omega) HcE0, HwE.trans hJ.1.1, hJ.1.2⟩) (fun u L hL => ⟨⟨gr_drew (World.grownBy.refl _ _), by assumption⟩, fun k => absurd k (hL 6 (by decide)), fun k => absurd k (hL 7 (by decide)), fun k => absurd k (hL 8 (by decide)), fun k => absurd k (hL 9 (by decide)), trivial⟩) ?_ ?_
  · refine StepsH.cons (d := 26) (o := ⟨some 26, _, _, _, _, _⟩) rfl rfl (by kernel_rfl) ?_ ?_
    rotate_left
    refine StepsH.cons (d := 27) (o := ⟨some 27, _, _, _, _, _⟩) rfl rfl (by kernel_rfl) ?_ ?_
    rotate_left
    refine StepsH.cons (d := 28) (o := ⟨some 28, _, _, _, _, _⟩) rfl rfl (by kernel_rfl) ?_ ?_
    rotate_left
    refine StepsH.cons (d := 5) (o := ⟨some 5, _, _, _, _, _⟩) rfl rfl (by kernel_rfl) ?_ ?_
    rotate_left
    exact StepsH.nil
    · intro u L W hn hd hJ
      obtain ⟨hk, f26, f27, f28, f5, _⟩ := hJ
      have hnd := hk.2
      intro K hK
      simp only [puts, pz]
      go_simp; (go_at_call 14; (with_reducible refine (spec_l01NextN g (m + 1) _ _ hnd (by simp) (by omega) (by omega)).mono ?_); rintro e w9 ⟨⟨xx, rfl, hxx⟩, hg, hs⟩)
      all_goals (try go_wp2_with fail)
      all_goals
        apply Shut.go3 (W := W) (g := g) hK
        · simp only [puts, pz]; rfl
        · first | with_reducible assumption | with_reducible exact World.grownBy.refl _ _ | exact World.grownBy_alloc _ _ _
        · first | with_reducible assumption | exact Src.alloc hnd _
        · intro hg hs; exact ⟨Dr.step hk hg hs, fun _ => by rw [upd_same]; exact ⟨_, rfl, by first | assumption | omega⟩, fun k => by rw [upd_ne u _ (by decide)]; exact (f27 (k.resolve_left (by decide))), fun k => by rw [upd_ne u _ (by decide)]; exact (f28 (k.resolve_left (by decide))), fun k => by rw [upd_ne u _ (by decide)]; exact FBox.later hg (f5 (k.resolve_left (by decide))), trivial⟩
    · intro u L W hn hd hJ
      obtain ⟨hk, f26, f27, f28, f5, _⟩ := hJ
      have hnd := hk.2
      obtain ⟨x26, e26, l26⟩ := f26 (hd 6 (by kernel_rfl))
      have il26 : (0 : Int) ≤ (x26 : Int) := (by omega); have iu26 : (x26 : Int) < ((m+1) : Int) := (by omega)
      intro K hK
      simp only [puts, pz, e26]
      go_simp
      all_goals (try go_wp2_with fail)
      all_goals
        apply Shut.go3 (W := W) (g := g) hK
        · simp only [puts, pz, e26]; rfl
        · first | with_reducible assumption | with_reducible exact World.grownBy.refl _ _ | exact World.grownBy_alloc _ _ _
        · first | with_reducible assumption | exact Src.alloc hnd _
        · intro hg hs; exact ⟨Dr.step hk hg hs, fun k => by rw [upd_ne u _ (by decide)]; exact (f26 (k.resolve_left (by decide))), fun _ => by rw [upd_same]; exact ⟨_, rfl, by exact l26⟩, fun k => by rw [upd_ne u _ (by decide)]; exact (f28 (k.resolve_left (by decide))), fun k => by rw [upd_ne u _ (by decide)]; exact FBox.later hg (f5 (k.resolve_left (by decide))), trivial⟩
    · intro u L W hn hd hJ
      obtain ⟨hk, f26, f27, f28, f5, _⟩ := hJ
      have hnd := hk.2
      obtain ⟨x27, e27, hx27⟩ := f27 (hd 7 (by kernel_rfl))
      obtain ⟨y1, y2, y3, hy1, hy2, hy3⟩ := own_at Hb1.out hk.1 hb1 nb4 hx27
      intro K hK
      simp only [puts, pz, e27]
      go_simp
      all_goals (try go_wp2_with fail)
      all_goals
        apply Shut.go3 (W := W) (g := g) hK
        · simp only [puts, pz, e27]; rfl
        · first | with_reducible assumption | with_reducible exact World.grownBy.refl _ _ | exact World.grownBy_alloc _ _ _
        · first | with_reducible assumption | exact Src.alloc hnd _
        · intro hg hs; exact ⟨Dr.step hk hg hs, fun k => by rw [upd_ne u _ (by decide)]; exact (f26 (k.resolve_left (by decide))), fun k => by rw [upd_ne u _ (by decide)]; exact (f27 (k.resolve_left (by decide))), fun _ => by rw [upd_same]; exact ⟨_, _, _, rfl⟩, fun k => by rw [upd_ne u _ (by decide)]; exact FBox.later hg (f5 (k.resolve_left (by decide))), trivial⟩
    · intro u L W hn hd hJ
      obtain ⟨hk, f26, f27, f28, f5, _⟩ := hJ
      have hnd := hk.2
      intro K hK
      simp only [puts, pz]
      go_simp
      all_goals (try go_wp2_with fail)
      all_goals
        apply Shut.go3 (W := W) (g := g) hK
        · simp only [puts, pz]; rfl
        · first | with_reducible assumption | with_reducible exact World.grownBy.refl _ _ | exact World.grownBy_alloc _ _ _
        · first | with_reducible assumption | exact Src.alloc hnd _
        · intro hg hs; exact ⟨Dr.step hk hg hs, fun k => by rw [upd_ne u _ (by decide)]; exact (f26 (k.resolve_left (by decide))), fun k => by rw [upd_ne u _ (by decide)]; exact (f27 (k.resolve_left (by decide))), fun k => by rw [upd_ne u _ (by decide)]; exact (f28 (k.resolve_left (by decide))), fun _ => by rw [upd_same]; exact FBox.new (Src.lt hnd) (World.grownBy.size hk.1) _ _ (by rfl), trivial⟩
  · intro u L W hJ hL
    obtain ⟨hk, f26, f27, f28, f5, _⟩ := hJ
    obtain ⟨x26, e26, l26⟩ := f26 (hL 6 (by kernel_rfl))
    obtain ⟨x27, e27, hx27⟩ := f27 (hL 7 (by kernel_rfl))
    obtain ⟨x28_0, x28_1, x28_2, e28⟩ := f28 (hL 8 (by kernel_rfl))
    obtain ⟨b5, e5, gb5, bb5, lb5, cb5⟩ := f5 (hL 9 (by kernel_rfl))
    clear hHeld; have hcW := gcell hk.1; have hfW := gfroz hk.1; have hHeld := And.intro (HwE.trans hk.1) hk.2; have lW := hk.1.size
    clear f26
    clear f27
    clear f28
    clear f5
    simp only [puts, pz, setAll, Array.replicate, e26, e27, e28, e5]
    obtain ⟨⟨y5_0, cy5_0⟩, fy5_0⟩ := cb5 0 (by decide)
    obtain ⟨⟨y5_1, cy5_1⟩, fy5_1⟩ := cb5 1 (by decide)
    obtain ⟨⟨y5_2, cy5_2⟩, fy5_2⟩ := cb5 2 (by decide)
    refine wpAnyH_ready (rs := [10]) (by kernel_rfl) (by simp) ?_; refine (AllReadyH.cons (o := ⟨none, _, _, _, _, _⟩) rfl (fun K hK => ?_) AllReadyH.nil)
    go_simp
    all_goals (try go_wp2_with fail)
    refine hK.out _ _ ?_ (fun hH2 => ?_)
    · have hHg := hHeld.1; have hHs := hHeld.2; exact ⟨(by go_simp; done), gwz, swz⟩
    clear hK K hHeld; (have hHeld := hH2.2); clear hH2; (try simp only [Act.put])
    refine wpAnyH_done (by kernel_rfl) ?_ _; (try simp only [pz])
    obtain ⟨hgE, hsE⟩ := hHeld
    obtain ⟨wE, hE⟩ : ∃ x, x = ((W.setCell ⟨b5, 0, none⟩ (.int .i64 x28_0)).setCell ⟨b5, 1, none⟩ (.int .i64 x28_1)).setCell ⟨b5, 2, none⟩ (.int .i64 x28_2) := ⟨_, rfl⟩
    have z6 := hk.1.size
    have nv0 : ¬ b5 = b := by omega
    have nv1 : ¬ b5 = w.heap.size := by omega
    have nv2 : ¬ w.heap.size = b5 := by omega
    have e0 : wE.cell? ⟨b5, 0, none⟩ = some (.int .i64 x28_0) := by rw [hE]; exact ctz
    have e1 : wE.cell? ⟨w.heap.size, 0, none⟩ = some (.slice (some ⟨b, 0, none⟩) (m + 1) cap) := by
      rw [hE]; exact cell_set (cell_set (cell_set ((hcW _ _ (by omega) nz0).trans a0) (by dsimp only; omega)) (by dsimp only; omega)) (by dsimp only; omega)
    have HbE : ∀ j, j < (m + 1) * 3 → wE.cell? ⟨b, j, none⟩ = some (.int .i64 (Lf[j]?.getD 0)) := fun j hj => by
      rw [hE]; exact cell_set (cell_set (cell_set ((hcW _ _ hb1 nb4).trans (Hb1.out j hj).1) (by dsimp only; omega)) (by dsimp only; omega)) (by dsimp only; omega)
    have zE : W.heap.size = wE.heap.size := by rw [hE]; simp [World.setCell]
    have f0 := HbE 0 (by omega)
    have f1 := HbE (m * 3) (by omega)
    obtain ⟨tf, htf⟩ : ∃ x, x = Lf[0]?.getD 0 := ⟨_, rfl⟩
    obtain ⟨tl, htl⟩ : ∃ x, x = Lf[m * 3]?.getD 0 := ⟨_, rfl⟩
    have h1 := hM0.out
    have h2 := hMm.out
    rw [Nat.zero_mul] at h1
    rw [← htf] at f0 h1
    rw [← htl] at f1 h2
    rw [← hE] at hgE hsE ⊢
    have zv0 : w.heap.size < wE.heap.size := by omega
    have zv1 : b < wE.heap.size := by omega
    have zv2 : b5 < wE.heap.size := by omega
    have nv3 : ¬ b5 = g := by omega
    clear hE hcW hfW hk HbE htf htl Hb1 hMm hM0 cy5_0 cy5_1 cy5_2 fy5_0 fy5_1 fy5_2 a0
    go_wp2_with fail; (with_reducible refine (spec_l01Next g _ _ swz (by decide)).mono ?_); rintro e w4 ⟨⟨x4, rfl, hx4⟩, hg4, hs4⟩; have hc4 := gcell hg4; have hf4 := gfroz hg4; have lg4 := Src.lt hs4; have nga4 : ¬ w4.heap.size = g := (by omega); have ngb4 : ¬ g = w4.heap.size := (by omega); have hzs4 := hg4.size; (try simp at hzs4); have zx4_0 : w.heap.size < w4.heap.size := (by first | omega | (simp at hzs4; omega)); have zy4_0 : w.heap.size < w4.heap.size + 1 := (by omega); have zw4_0 : ¬ w4.heap.size = w.heap.size := (by omega); have zv4_0 : ¬ w.heap.size = w4.heap.size := (by omega); have zu4_0 : w.heap.size < w4.heap.size + 1 + 1 := (by omega); have zt4_0 : ¬ w4.heap.size + 1 = w.heap.size := (by omega); have zr4_0 : ¬ w.heap.size = w4.heap.size + 1 := (by omega); have zx4_1 : b < w4.heap.size := (by first | omega | (simp at hzs4; omega)); have zy4_1 : b < w4.heap.size + 1 := (by omega); have zw4_1 : ¬ w4.heap.size = b := (by omega); have zv4_1 : ¬ b = w4.heap.size := (by omega); have zu4_1 : b < w4.heap.size + 1 + 1 := (by omega); have zt4_1 : ¬ w4.heap.size + 1 = b := (by omega); have zr4_1 : ¬ b = w4.heap.size + 1 := (by omega); have zx4_2 : b5 < w4.heap.size := (by first | omega | (simp at hzs4; omega)); have zy4_2 : b5 < w4.heap.size + 1 := (by omega); have zw4_2 : ¬ w4.heap.size = b5 := (by omega); have zv4_2 : ¬ b5 = w4.heap.size := (by omega); have zu4_2 : b5 < w4.heap.size + 1 + 1 := (by omega); have zt4_2 : ¬ w4.heap.size + 1 = b5 := (by omega); have zr4_2 : ¬ b5 = w4.heap.size + 1 := (by omega)
    clear hx4
    by_cases k4 : x4 = 0
    · subst k4
      go_wp2
      go_ret
      exact ⟨⟨_, rfl⟩, gwz, swz⟩
    have k5 : (x4 == 0) = false := beq_eq_false_iff_ne.2 k4
    have we1 : IntKind.i64.wrap (tl - tf) = tl - tf := IntWalk.i64_in _ (by omega)
    have we2 : IntKind.i64.wrap (tl - tf + 1) = tl - tf + 1 := IntWalk.i64_in _ (by omega)
    have wem : IntKind.i64.wrap (m : Int) = (m : Int) := IntWalk.i64_in _ (by omega)
    have hj1 : (0 : Int) ≤ (m : Int) := by omega
    have hj2 : (m : Int) < (m : Int) + 1 := by omega
    have hj3 : (0 : Int) < (m : Int) + 1 := by omega
    go_upto_region 6 with fail
    go_quiet (fail)
    go_wp2_with fail; (with_reducible refine (spec_l01Next g _ _ swz (by omega)).mono ?_); rintro e w6 ⟨⟨x6, rfl, hx6⟩, hg6, hs6⟩; have hc6 := gcell hg6; have hf6 := gfroz hg6; have lg6 := Src.lt hs6; have nga6 : ¬ w6.heap.size = g := (by omega); have ngb6 : ¬ g = w6.heap.size := (by omega); have hzs6 := hg6.size; (try simp at hzs6); have zx6_0 : w.heap.size < w6.heap.size := (by first | omega | (simp at hzs6; omega)); have zy6_0 : w.heap.size < w6.heap.size + 1 := (by omega); have zw6_0 : ¬ w6.heap.size = w.heap.size := (by omega); have zv6_0 : ¬ w.heap.size = w6.heap.size := (by omega); have zu6_0 : w.heap.size < w6.heap.size + 1 + 1 := (by omega); have zt6_0 : ¬ w6.heap.size + 1 = w.heap.size := (by omega); have zr6_0 : ¬ w.heap.size = w6.heap.size + 1 := (by omega); have zx6_1 : b < w6.heap.size := (by first | omega | (simp at hzs6; omega)); have zy6_1 : b < w6.heap.size + 1 := (by omega); have zw6_1 : ¬ w6.heap.size = b := (by omega); have zv6_1 : ¬ b = w6.heap.size := (by omega); have zu6_1 : b < w6.heap.size + 1 + 1 := (by omega); have zt6_1 : ¬ w6.heap.size + 1 = b := (by omega); have zr6_1 : ¬ b = w6.heap.size + 1 := (by omega); have zx6_2 : b5 < w6.heap.size := (by first | omega | (simp at hzs6; omega)); have zy6_2 : b5 < w6.heap.size + 1 := (by omega); have zw6_2 : ¬ w6.heap.size = b5 := (by omega); have zv6_2 : ¬ b5 = w6.heap.size := (by omega); have zu6_2 : b5 < w6.heap.size + 1 + 1 := (by omega); have zt6_2 : ¬ w6.heap.size + 1 = b5 := (by omega); have zr6_2 : ¬ b5 = w6.heap.size + 1 := (by omega)
    go_wp2
    go_ret
    exact ⟨⟨_, rfl⟩, gwz, swz⟩
end Go.Proofs.Ytndlpoffpcpnkaa
