/- Walks: whether a boat is turning at a time, the reference's. -/
import Derived.Test.YtndlpoffpcpnkaaBp
import Derived.Test.YtndlpoffpcpnkaaMs
namespace Go.Proofs.Ytndlpoffpcpnkaa
open Go.RowKit

set_option maxRecDepth 100000 in
set_option maxHeartbeats 4000000 in
theorem spec_l10Turning (wx wy : Int) (b o n cap : Nat) (T X Y : Nat → Int) (t sp : Int) (w : World) (h : RowAt w (some ⟨b, o, none⟩) n 3 (v3 T X Y)) (hw : isWd wx wy = true) (hv : isTr n T X Y = true) (hl : inB t (T 0) (T (n - 1)) = true) (hs : inB sp 0 60000 = true) :
    Calls Try.prog 52 #[.agg #[.int .i64 wx, .int .i64 wy], .agg #[.slice (some ⟨b, o, none⟩) n cap], .int .i64 t, .int .i64 sp] w fun e w' => e = .returned (.bool (turB T t sp (mans wx wy X Y (n - 2)) (mans wx wy X Y (n - 2)).length)) ∧ Below w.heap.size w w' := by
  obtain ⟨hn2, hn40, hT⟩ := isTr_t hv
  obtain ⟨s1, s2⟩ := inB_t hs
  obtain ⟨l1, l2⟩ := inB_t hl
  have t1 : 0 ≤ t := by have := (hT 0 (by omega)).1; omega
  have t2 : t ≤ 1000000000 := by have := (hT (n - 1) (by omega)).2.1; omega
  have HT := hide (fun i hi => And.intro (hT i hi).1 (hT i hi).2.1)
  have HL := hide (fun i (hi : i < (mans wx wy X Y (n - 2)).length) => LX_fix hi)
  have HN := hide (mans_le wx wy X Y (n - 2))
  have HM := hide (fun W hb => spec_l08Manoeuvres wx wy b o n cap T X Y W (RowAt.later hb h) hw hv)
  have Hh := hide h
  clear h hw hv hl hs l1 l2 hT
  generalize mans wx wy X Y (n - 2) = L at *
  go_enter Try.func52, Try.ntmps52
  go_wp2_with (go_at_call 72; (with_reducible refine (HM.out _ bwz).mono ?_); rintro e w9 ⟨so, cp, rfl, hown, hb⟩; obtain ⟨hc, hf⟩ := bcell hb; have hz := hb.size; (try simp at hz); have z0 : w.heap.size < w9.heap.size := (by omega); have z1 : w.heap.size + 1 < w9.heap.size := (by omega); have Hown := hide hown; clear hown)
  obtain ⟨wM, rfl⟩ : ∃ W : World, W = w9 := ⟨_, rfl⟩
  have HB := hide (show Below w.heap.size w wM from bwz)
  go_loopw [10] (fun i wr => ∃ k : Nat, k ≤ L.length ∧ i = .int .i64 k ∧ Hid (turB T t sp L k = false) ∧ wr.cell? ⟨w.heap.size + 1, 0, none⟩ = some (.slice (some ⟨b, o, none⟩) n cap) ∧ Below wM.heap.size wM wr) (fun i _ => L.length - (intOf i).toNat)
  case atStart => exact ⟨0, Nat.zero_le _, rfl, hide rfl, by go_simp, Below.refl _ _⟩
  case round =>
    obtain ⟨k, hk, rfl, Hno, e0, hbl⟩ := hrel
    have zr := hbl.size
    have HB2 := hide (bstep HB.out hbl)
    clear hb hc hf hz
    by_cases hlt : k < L.length
    · obtain ⟨bL, oL, rfl, hbs, c0, c1⟩ := (RowAt.later hbl Hown.out.1).at2 k hlt
      obtain ⟨j, hj, hj1, hj2⟩ := HL.out k hlt
      rw [hj] at c0
      have Hj := hide hj
      clear hj
      obtain ⟨d0, _, _⟩ := (RowAt.later HB2.out Hh.out).on3 j (by omega)
      have hbb := World.block_lt_of_cell? _ _ d0
      simp only at hbb
      obtain ⟨u1, u2⟩ := HT.out j (by omega)
      have nz0 : w.heap.size + 1 < wr.heap.size := by omega
      have nh := HN.out
      have hi1 : (0 : Int) ≤ (k : Int) := by omega
      have hi2 : (k : Int) < (L.length : Int) := by omega
      have hi3 : (0 : Int) ≤ (j : Int) := by omega
      have hi4 : (j : Int) < (n : Int) := by omega
      have we : IntKind.i64.wrap (T j - t) = T j - t := IntWalk.i64_in _ (by omega)
      have Hs := hide (fun W => spec_l01Abs (T j - t) (by omega) (by omega) W)
      have Ha := hide (abs_inB (T j - t) sp)
      go_upto_region 5 with fail
      refine wp_region_held_drew (S := fun W => Below wr.heap.size wr W) (by kernel_rfl) (Below.drew (Below.refl _ _)) (fun hHeld => ?_)
      refine tkN 0 (some 20) rfl ?_; (try simp only [pz])
      refine tkL 1 (some 21) rfl ?_; (try simp only [pz])
      refine tkN 2 (some 22) rfl ?_; (try simp only [pz])
      refine tkN 3 (some 23) rfl ?_; (try simp only [pz])
      refine tkN 4 (some 24) rfl ?_; (try simp only [pz])
      refine tkN 5 (some 25) rfl ?_; (try simp only [pz])
      refine tkL 6 (some 26) rfl ?_; (try simp only [pz])
      refine tkN 7 (some 27) rfl ?_; (try simp only [pz])
      refine tkN 8 (some 28) rfl ?_; (try simp only [pz])
      refine tkL 9 (some 29) rfl ?_; (try simp only [pz])
      refine tkN 10 (some 30) rfl ?_; (try simp only [pz])
      refine tkN 11 (some 31) rfl ?_; (try simp only [pz])
      refine tkN 13 (some 33) rfl ?_; (try simp only [pz])
      refine wpAnyH_ready (rs := [12]) (by kernel_rfl) (by simp) ?_; refine (AllReadyH.cons (o := ⟨some 32, _, _, _, _, _⟩) rfl (fun K hK => ?_) AllReadyH.nil)
      go_simp; (go_at_call 73; (with_reducible refine (Hs.out _).mono ?_); rintro e w9 ⟨rfl, rfl⟩)
      all_goals (try go_wp2_with fail)
      refine hK.out _ _ ?_ (fun hH2 => ?_)
      · first | exact bstep hHeld hb | exact hHeld.trans hb | exact hHeld
      clear hK K hHeld; (have hHeld := hH2); clear hH2; (try simp only [pz])
      refine tkN 14 (some 34) rfl ?_; (try simp only [pz])
      refine wpAnyH_done (by kernel_rfl) ?_ _; (try simp only [pz])
      by_cases g : absI (T j - t) ≤ sp
      · have Hg := hide (Ha.out.symm.trans (decide_eq_true g))
        go_wp2
        go_ret
        exact ⟨ret_b (turB_yes hlt Hj.out Hg.out).symm, bstep HB2.out hHeld⟩
      · have Hg := hide (Ha.out.symm.trans (decide_eq_false g))
        go_wp2
        go_roundw
        case rel => exact ⟨k + 1, by omega, by go_num, hide (turB_no Hj.out Hno.out Hg.out), cell_later hHeld e0, bstep hbl hHeld⟩
        case measure => simp [intOf]; omega
    · obtain rfl : k = L.length := by omega
      go_wp2
      go_ret
      exact ⟨ret_b Hno.out.symm, HB2.out⟩
set_option maxHeartbeats 4000000 in
theorem spec_TurningAt (wx wy : Int) (so : Option Addr) (n cap : Nat) (T X Y : Nat → Int) (t sp : Int) (w : World) (h : RowAt w so n 3 (v3 T X Y)) (hn : n ≤ 1048576) :
    Calls Try.prog 31 #[.agg #[.int .i64 wx, .int .i64 wy], .agg #[.slice so n cap], .int .i64 t, .int .i64 sp] w fun e w' => e = .returned (.tuple #[.bool (tuB wx wy n T X Y t sp), .int .i64 (tuC wx wy n T X Y t sp)]) ∧ Below w.heap.size w w' := by
  rcases b5 (isWd wx wy) (isTr n T X Y) (inB t (T 0) (T (n - 1))) (inB sp 0 60000) with g1 | ⟨g1, g2⟩ | ⟨g1, g2, g3⟩ | ⟨g1, g2, g3, g4⟩ | ⟨g1, g2, g3, g4⟩
  · have Ho := hide (show tuB wx wy n T X Y t sp = false by simp [tuB, selB, g1])
    have Hd := hide (show tuC wx wy n T X Y t sp = 1 by simp [tuC, sel, g1])
    go_enter Try.func31, Try.ntmps31
    go_wp2_with (first | (go_at_call 48; (with_reducible refine (spec_IsWind _ _ _).mono ?_); rintro e w9 ⟨rfl, hb⟩; obtain ⟨hc, hf⟩ := bcell hb; have hz := hb.size; have z0 : w.heap.size < w9.heap.size := (by first | omega | (simp at hz; omega)); have z1 : w.heap.size + 1 < w9.heap.size := (by first | omega | (simp at hz; omega))) | (go_at_call 49; (with_reducible refine (spec_IsTrack _ _ _ T X Y _ (RowAt.later bwz h) hn).mono ?_); rintro e w9 ⟨rfl, hb⟩; obtain ⟨hc, hf⟩ := bcell hb; have hz := hb.size; have z0 : w.heap.size < w9.heap.size := (by first | omega | (simp at hz; omega)); have z1 : w.heap.size + 1 < w9.heap.size := (by first | omega | (simp at hz; omega))))
    go_ret2
    exact ⟨by simp [Ho.out, Hd.out], bwz⟩
  · have Ho := hide (show tuB wx wy n T X Y t sp = false by simp [tuB, selB, g1, g2])
    have Hd := hide (show tuC wx wy n T X Y t sp = 1 by simp [tuC, sel, g1, g2])
    go_enter Try.func31, Try.ntmps31
    go_wp2_with (first | (go_at_call 48; (with_reducible refine (spec_IsWind _ _ _).mono ?_); rintro e w9 ⟨rfl, hb⟩; obtain ⟨hc, hf⟩ := bcell hb; have hz := hb.size; have z0 : w.heap.size < w9.heap.size := (by first | omega | (simp at hz; omega)); have z1 : w.heap.size + 1 < w9.heap.size := (by first | omega | (simp at hz; omega))) | (go_at_call 49; (with_reducible refine (spec_IsTrack _ _ _ T X Y _ (RowAt.later bwz h) hn).mono ?_); rintro e w9 ⟨rfl, hb⟩; obtain ⟨hc, hf⟩ := bcell hb; have hz := hb.size; have z0 : w.heap.size < w9.heap.size := (by first | omega | (simp at hz; omega)); have z1 : w.heap.size + 1 < w9.heap.size := (by first | omega | (simp at hz; omega))))
    go_ret2
    exact ⟨by simp [Ho.out, Hd.out], bwz⟩
  · have Ho := hide (show tuB wx wy n T X Y t sp = false by simp [tuB, selB, g1, g2, g3])
    have Hd := hide (show tuC wx wy n T X Y t sp = 2 by simp [tuC, sel, g1, g2, g3])
    obtain ⟨b, o, rfl⟩ := row_some h g2
    go_enter Try.func31, Try.ntmps31
    go_wp2_with (first | (go_at_call 48; (with_reducible refine (spec_IsWind _ _ _).mono ?_); rintro e w9 ⟨rfl, hb⟩; obtain ⟨hc, hf⟩ := bcell hb; have hz := hb.size; have z0 : w.heap.size < w9.heap.size := (by first | omega | (simp at hz; omega)); have z1 : w.heap.size + 1 < w9.heap.size := (by first | omega | (simp at hz; omega))) | (go_at_call 49; (with_reducible refine (spec_IsTrack _ _ _ T X Y _ (RowAt.later bwz h) hn).mono ?_); rintro e w9 ⟨rfl, hb⟩; obtain ⟨hc, hf⟩ := bcell hb; have hz := hb.size; have z0 : w.heap.size < w9.heap.size := (by first | omega | (simp at hz; omega)); have z1 : w.heap.size + 1 < w9.heap.size := (by first | omega | (simp at hz; omega))) | (go_at_call 50; (with_reducible refine (spec_l03Lasts _ _ _ _ T X Y _ _ (RowAt.later bwz h) g2).mono ?_); rintro e w9 ⟨rfl, hb⟩; obtain ⟨hc, hf⟩ := bcell hb; have hz := hb.size; have z0 : w.heap.size < w9.heap.size := (by first | omega | (simp at hz; omega)); have z1 : w.heap.size + 1 < w9.heap.size := (by first | omega | (simp at hz; omega))))
    go_ret2
    exact ⟨by simp [Ho.out, Hd.out], bwz⟩
  · have Ho := hide (show tuB wx wy n T X Y t sp = false by simp [tuB, selB, g1, g2, g3, g4])
    have Hd := hide (show tuC wx wy n T X Y t sp = 2 by simp [tuC, sel, g1, g2, g3, g4])
    obtain ⟨b, o, rfl⟩ := row_some h g2
    go_enter Try.func31, Try.ntmps31
    go_wp2_with (first | (go_at_call 48; (with_reducible refine (spec_IsWind _ _ _).mono ?_); rintro e w9 ⟨rfl, hb⟩; obtain ⟨hc, hf⟩ := bcell hb; have hz := hb.size; have z0 : w.heap.size < w9.heap.size := (by first | omega | (simp at hz; omega)); have z1 : w.heap.size + 1 < w9.heap.size := (by first | omega | (simp at hz; omega))) | (go_at_call 49; (with_reducible refine (spec_IsTrack _ _ _ T X Y _ (RowAt.later bwz h) hn).mono ?_); rintro e w9 ⟨rfl, hb⟩; obtain ⟨hc, hf⟩ := bcell hb; have hz := hb.size; have z0 : w.heap.size < w9.heap.size := (by first | omega | (simp at hz; omega)); have z1 : w.heap.size + 1 < w9.heap.size := (by first | omega | (simp at hz; omega))) | (go_at_call 50; (with_reducible refine (spec_l03Lasts _ _ _ _ T X Y _ _ (RowAt.later bwz h) g2).mono ?_); rintro e w9 ⟨rfl, hb⟩; obtain ⟨hc, hf⟩ := bcell hb; have hz := hb.size; have z0 : w.heap.size < w9.heap.size := (by first | omega | (simp at hz; omega)); have z1 : w.heap.size + 1 < w9.heap.size := (by first | omega | (simp at hz; omega))) | (go_at_call 51; (with_reducible refine (spec_l01In _ _ _ _).mono ?_); rintro e w9 ⟨rfl, rfl⟩))
    go_ret2
    exact ⟨by simp [Ho.out, Hd.out], bwz⟩
  · have Ho := hide (show tuB wx wy n T X Y t sp = turB T t sp (mans wx wy X Y (n - 2)) (mans wx wy X Y (n - 2)).length by simp [tuB, selB, g1, g2, g3, g4])
    have Hd := hide (show tuC wx wy n T X Y t sp = 0 by simp [tuC, sel, g1, g2, g3, g4])
    obtain ⟨b, o, rfl⟩ := row_some h g2
    go_enter Try.func31, Try.ntmps31
    go_wp2_with (first | (go_at_call 48; (with_reducible refine (spec_IsWind _ _ _).mono ?_); rintro e w9 ⟨rfl, hb⟩; obtain ⟨hc, hf⟩ := bcell hb; have hz := hb.size; have z0 : w.heap.size < w9.heap.size := (by first | omega | (simp at hz; omega)); have z1 : w.heap.size + 1 < w9.heap.size := (by first | omega | (simp at hz; omega))) | (go_at_call 49; (with_reducible refine (spec_IsTrack _ _ _ T X Y _ (RowAt.later bwz h) hn).mono ?_); rintro e w9 ⟨rfl, hb⟩; obtain ⟨hc, hf⟩ := bcell hb; have hz := hb.size; have z0 : w.heap.size < w9.heap.size := (by first | omega | (simp at hz; omega)); have z1 : w.heap.size + 1 < w9.heap.size := (by first | omega | (simp at hz; omega))) | (go_at_call 50; (with_reducible refine (spec_l03Lasts _ _ _ _ T X Y _ _ (RowAt.later bwz h) g2).mono ?_); rintro e w9 ⟨rfl, hb⟩; obtain ⟨hc, hf⟩ := bcell hb; have hz := hb.size; have z0 : w.heap.size < w9.heap.size := (by first | omega | (simp at hz; omega)); have z1 : w.heap.size + 1 < w9.heap.size := (by first | omega | (simp at hz; omega))) | (go_at_call 51; (with_reducible refine (spec_l01In _ _ _ _).mono ?_); rintro e w9 ⟨rfl, rfl⟩) | (go_at_call 52; (with_reducible refine (spec_l10Turning _ _ _ _ _ _ T X Y _ _ _ (RowAt.later bwz h) g1 g2 g3 g4).mono ?_); rintro e w9 ⟨rfl, hb⟩; obtain ⟨hc, hf⟩ := bcell hb; have hz := hb.size; have z0 : w.heap.size < w9.heap.size := (by first | omega | (simp at hz; omega)); have z1 : w.heap.size + 1 < w9.heap.size := (by first | omega | (simp at hz; omega))))
    go_ret2
    exact ⟨by simp [Ho.out, Hd.out], bwz⟩
end Go.Proofs.Ytndlpoffpcpnkaa
