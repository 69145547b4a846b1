/- Walks: whether a boat is turning at a time, the program's. -/
import Derived.Test.YtndlpoffpcpnkaaBp
import Derived.Test.YtndlpoffpcpnkaaMa
namespace Go.Proofs.Ytndlpoffpcpnkaa
open Go.RowKit

set_option maxRecDepth 100000 in
set_option maxHeartbeats 4000000 in
theorem impl_turningAt (wx wy : Int) (b o n cap : Nat) (T X Y : Nat → Int) (t sp : Int) (w : World) (h : RowAt w (some ⟨b, o, none⟩) n 3 (v3 T X Y)) (hw : isWd wx wy = true) (hv : isTr n T X Y = true) (hl : inB t (T 0) (T (n - 1)) = true) (hs : inB sp 0 60000 = true) :
    Calls Try.prog 40 #[.agg #[.int .i64 wx, .int .i64 wy], .agg #[.slice (some ⟨b, o, none⟩) n cap], .int .i64 t, .int .i64 sp] w fun e w' => e = .returned (.bool (turB T t sp (mans wx wy X Y (n - 2)) (mans wx wy X Y (n - 2)).length)) ∧ Below w.heap.size w w' := by
  obtain ⟨hn2, hn40, hT⟩ := isTr_t hv
  obtain ⟨s1, s2⟩ := inB_t hs
  obtain ⟨l1, l2⟩ := inB_t hl
  have t1 : 0 ≤ t := by have := (hT 0 (by omega)).1; omega
  have t2 : t ≤ 1000000000 := by have := (hT (n - 1) (by omega)).2.1; omega
  have HT := hide (fun i hi => And.intro (hT i hi).1 (hT i hi).2.1)
  have HL := hide (fun i (hi : i < (mans wx wy X Y (n - 2)).length) => LX_fix hi)
  have HN := hide (mans_le wx wy X Y (n - 2))
  have HM := hide (fun W hb => impl_manoeuvresOf wx wy b o n cap T X Y W (RowAt.later hb h) hw hv)
  have Hh := hide h
  clear h hw hv hl hs l1 l2 hT
  generalize mans wx wy X Y (n - 2) = L at *
  go_enter Try.func40, Try.ntmps40
  go_wp2_with (go_at_call 63; (with_reducible refine (HM.out _ bwz).mono ?_); rintro e w9 ⟨so, cp, rfl, hown, hb⟩; obtain ⟨hc, hf⟩ := bcell hb; have hz := hb.size; (try simp at hz); have z0 : w.heap.size < w9.heap.size := (by omega); have z1 : w.heap.size + 1 < w9.heap.size := (by omega); have Hown := hide hown; clear hown)
  obtain ⟨wM, rfl⟩ : ∃ W : World, W = w9 := ⟨_, rfl⟩
  have HB := hide (show Below w.heap.size w wM from bwz)
  go_loopw [15] (fun i wr => ∃ k : Nat, k ≤ L.length ∧ i = .int .i64 k ∧ Hid (turB T t sp L k = false) ∧ wr.cell? ⟨w.heap.size + 1, 0, none⟩ = some (.slice (some ⟨b, o, none⟩) n cap) ∧ Below wM.heap.size wM wr) (fun i _ => L.length - (intOf i).toNat)
  case atStart => exact ⟨0, Nat.zero_le _, rfl, hide rfl, by go_simp, Below.refl _ _⟩
  case round =>
    obtain ⟨k, hk, rfl, Hno, e0, hbl⟩ := hrel
    have zr := hbl.size
    have HB2 := hide (bstep HB.out hbl)
    clear hb hc hf hz
    by_cases hlt : k < L.length
    · obtain ⟨bL, oL, rfl, hbs, c0, c1⟩ := (RowAt.later hbl Hown.out.1).at2 k hlt
      obtain ⟨j, hj, hj1, hj2⟩ := HL.out k hlt
      rw [hj] at c0
      have Hj := hide hj
      clear hj
      obtain ⟨d0, _, _⟩ := (RowAt.later HB2.out Hh.out).on3 j (by omega)
      have hbb := World.block_lt_of_cell? _ _ d0
      simp only at hbb
      obtain ⟨u1, u2⟩ := HT.out j (by omega)
      have nz0 : w.heap.size + 1 < wr.heap.size := by omega
      have nh := HN.out
      rcases b2 (inB (T j - t) (-sp) sp) with g | g
      · have Hg := hide g
        go_wp2_with (go_at_call 39; (with_reducible refine (impl_within _ _ _ _).mono ?_); rintro e w9 ⟨rfl, rfl⟩)
        go_roundw
        case rel => exact ⟨k + 1, by omega, by go_num, hide (turB_no Hj.out Hno.out Hg.out), by go_simp, bwz⟩
        case measure => simp [intOf]; omega
      · have Hg := hide g
        go_wp2_with (go_at_call 39; (with_reducible refine (impl_within _ _ _ _).mono ?_); rintro e w9 ⟨rfl, rfl⟩)
        go_ret
        have HB3 := HB2.out
        exact ⟨ret_b (turB_yes hlt Hj.out Hg.out).symm, bwz⟩
    · obtain rfl : k = L.length := by omega
      go_wp2
      go_ret
      exact ⟨ret_b Hno.out.symm, HB2.out⟩
set_option maxHeartbeats 4000000 in
theorem impl_TurningAt (wx wy : Int) (so : Option Addr) (n cap : Nat) (T X Y : Nat → Int) (t sp : Int) (w : World) (h : RowAt w so n 3 (v3 T X Y)) (hn : n ≤ 1048576) :
    Calls Try.prog 20 #[.agg #[.int .i64 wx, .int .i64 wy], .agg #[.slice so n cap], .int .i64 t, .int .i64 sp] w fun e w' => e = .returned (.tuple #[.bool (tuB wx wy n T X Y t sp), .int .i64 (tuC wx wy n T X Y t sp)]) ∧ Below w.heap.size w w' := by
  rcases b5 (isWd wx wy) (isTr n T X Y) (inB t (T 0) (T (n - 1))) (inB sp 0 60000) with g1 | ⟨g1, g2⟩ | ⟨g1, g2, g3⟩ | ⟨g1, g2, g3, g4⟩ | ⟨g1, g2, g3, g4⟩
  · have Ho := hide (show tuB wx wy n T X Y t sp = false by simp [tuB, selB, g1])
    have Hd := hide (show tuC wx wy n T X Y t sp = 1 by simp [tuC, sel, g1])
    go_enter Try.func20, Try.ntmps20
    go_wp2_with (first | (go_at_call 22; (with_reducible refine (impl_IsWind _ _ _).mono ?_); rintro e w9 ⟨rfl, hb⟩; obtain ⟨hc, hf⟩ := bcell hb; have hz := hb.size; have z0 : w.heap.size < w9.heap.size := (by first | omega | (simp at hz; omega)); have z1 : w.heap.size + 1 < w9.heap.size := (by first | omega | (simp at hz; omega))) | (go_at_call 37; (with_reducible refine (impl_IsTrack _ _ _ T X Y _ (RowAt.later bwz h) hn).mono ?_); rintro e w9 ⟨rfl, hb⟩; obtain ⟨hc, hf⟩ := bcell hb; have hz := hb.size; have z0 : w.heap.size < w9.heap.size := (by first | omega | (simp at hz; omega)); have z1 : w.heap.size + 1 < w9.heap.size := (by first | omega | (simp at hz; omega))))
    go_ret2
    exact ⟨by simp [Ho.out, Hd.out], bwz⟩
  · have Ho := hide (show tuB wx wy n T X Y t sp = false by simp [tuB, selB, g1, g2])
    have Hd := hide (show tuC wx wy n T X Y t sp = 1 by simp [tuC, sel, g1, g2])
    go_enter Try.func20, Try.ntmps20
    go_wp2_with (first | (go_at_call 22; (with_reducible refine (impl_IsWind _ _ _).mono ?_); rintro e w9 ⟨rfl, hb⟩; obtain ⟨hc, hf⟩ := bcell hb; have hz := hb.size; have z0 : w.heap.size < w9.heap.size := (by first | omega | (simp at hz; omega)); have z1 : w.heap.size + 1 < w9.heap.size := (by first | omega | (simp at hz; omega))) | (go_at_call 37; (with_reducible refine (impl_IsTrack _ _ _ T X Y _ (RowAt.later bwz h) hn).mono ?_); rintro e w9 ⟨rfl, hb⟩; obtain ⟨hc, hf⟩ := bcell hb; have hz := hb.size; have z0 : w.heap.size < w9.heap.size := (by first | omega | (simp at hz; omega)); have z1 : w.heap.size + 1 < w9.heap.size := (by first | omega | (simp at hz; omega))))
    go_ret2
    exact ⟨by simp [Ho.out, Hd.out], bwz⟩
  · have Ho := hide (show tuB wx wy n T X Y t sp = false by simp [tuB, selB, g1, g2, g3])
    have Hd := hide (show tuC wx wy n T X Y t sp = 2 by simp [tuC, sel, g1, g2, g3])
    obtain ⟨b, o, rfl⟩ := row_some h g2
    go_enter Try.func20, Try.ntmps20
    go_wp2_with (first | (go_at_call 22; (with_reducible refine (impl_IsWind _ _ _).mono ?_); rintro e w9 ⟨rfl, hb⟩; obtain ⟨hc, hf⟩ := bcell hb; have hz := hb.size; have z0 : w.heap.size < w9.heap.size := (by first | omega | (simp at hz; omega)); have z1 : w.heap.size + 1 < w9.heap.size := (by first | omega | (simp at hz; omega))) | (go_at_call 37; (with_reducible refine (impl_IsTrack _ _ _ T X Y _ (RowAt.later bwz h) hn).mono ?_); rintro e w9 ⟨rfl, hb⟩; obtain ⟨hc, hf⟩ := bcell hb; have hz := hb.size; have z0 : w.heap.size < w9.heap.size := (by first | omega | (simp at hz; omega)); have z1 : w.heap.size + 1 < w9.heap.size := (by first | omega | (simp at hz; omega))) | (go_at_call 38; (with_reducible refine (impl_lasts _ _ _ _ T X Y _ _ (RowAt.later bwz h) g2).mono ?_); rintro e w9 ⟨rfl, hb⟩; obtain ⟨hc, hf⟩ := bcell hb; have hz := hb.size; have z0 : w.heap.size < w9.heap.size := (by first | omega | (simp at hz; omega)); have z1 : w.heap.size + 1 < w9.heap.size := (by first | omega | (simp at hz; omega))))
    go_ret2
    exact ⟨by simp [Ho.out, Hd.out], bwz⟩
  · have Ho := hide (show tuB wx wy n T X Y t sp = false by simp [tuB, selB, g1, g2, g3, g4])
    have Hd := hide (show tuC wx wy n T X Y t sp = 2 by simp [tuC, sel, g1, g2, g3, g4])
    obtain ⟨b, o, rfl⟩ := row_some h g2
    go_enter Try.func20, Try.ntmps20
    go_wp2_with (first | (go_at_call 22; (with_reducible refine (impl_IsWind _ _ _).mono ?_); rintro e w9 ⟨rfl, hb⟩; obtain ⟨hc, hf⟩ := bcell hb; have hz := hb.size; have z0 : w.heap.size < w9.heap.size := (by first | omega | (simp at hz; omega)); have z1 : w.heap.size + 1 < w9.heap.size := (by first | omega | (simp at hz; omega))) | (go_at_call 37; (with_reducible refine (impl_IsTrack _ _ _ T X Y _ (RowAt.later bwz h) hn).mono ?_); rintro e w9 ⟨rfl, hb⟩; obtain ⟨hc, hf⟩ := bcell hb; have hz := hb.size; have z0 : w.heap.size < w9.heap.size := (by first | omega | (simp at hz; omega)); have z1 : w.heap.size + 1 < w9.heap.size := (by first | omega | (simp at hz; omega))) | (go_at_call 38; (with_reducible refine (impl_lasts _ _ _ _ T X Y _ _ (RowAt.later bwz h) g2).mono ?_); rintro e w9 ⟨rfl, hb⟩; obtain ⟨hc, hf⟩ := bcell hb; have hz := hb.size; have z0 : w.heap.size < w9.heap.size := (by first | omega | (simp at hz; omega)); have z1 : w.heap.size + 1 < w9.heap.size := (by first | omega | (simp at hz; omega))) | (go_at_call 39; (with_reducible refine (impl_within _ _ _ _).mono ?_); rintro e w9 ⟨rfl, rfl⟩))
    go_ret2
    exact ⟨by simp [Ho.out, Hd.out], bwz⟩
  · have Ho := hide (show tuB wx wy n T X Y t sp = turB T t sp (mans wx wy X Y (n - 2)) (mans wx wy X Y (n - 2)).length by simp [tuB, selB, g1, g2, g3, g4])
    have Hd := hide (show tuC wx wy n T X Y t sp = 0 by simp [tuC, sel, g1, g2, g3, g4])
    obtain ⟨b, o, rfl⟩ := row_some h g2
    go_enter Try.func20, Try.ntmps20
    go_wp2_with (first | (go_at_call 22; (with_reducible refine (impl_IsWind _ _ _).mono ?_); rintro e w9 ⟨rfl, hb⟩; obtain ⟨hc, hf⟩ := bcell hb; have hz := hb.size; have z0 : w.heap.size < w9.heap.size := (by first | omega | (simp at hz; omega)); have z1 : w.heap.size + 1 < w9.heap.size := (by first | omega | (simp at hz; omega))) | (go_at_call 37; (with_reducible refine (impl_IsTrack _ _ _ T X Y _ (RowAt.later bwz h) hn).mono ?_); rintro e w9 ⟨rfl, hb⟩; obtain ⟨hc, hf⟩ := bcell hb; have hz := hb.size; have z0 : w.heap.size < w9.heap.size := (by first | omega | (simp at hz; omega)); have z1 : w.heap.size + 1 < w9.heap.size := (by first | omega | (simp at hz; omega))) | (go_at_call 38; (with_reducible refine (impl_lasts _ _ _ _ T X Y _ _ (RowAt.later bwz h) g2).mono ?_); rintro e w9 ⟨rfl, hb⟩; obtain ⟨hc, hf⟩ := bcell hb; have hz := hb.size; have z0 : w.heap.size < w9.heap.size := (by first | omega | (simp at hz; omega)); have z1 : w.heap.size + 1 < w9.heap.size := (by first | omega | (simp at hz; omega))) | (go_at_call 39; (with_reducible refine (impl_within _ _ _ _).mono ?_); rintro e w9 ⟨rfl, rfl⟩) | (go_at_call 40; (with_reducible refine (impl_turningAt _ _ _ _ _ _ T X Y _ _ _ (RowAt.later bwz h) g1 g2 g3 g4).mono ?_); rintro e w9 ⟨rfl, hb⟩; obtain ⟨hc, hf⟩ := bcell hb; have hz := hb.size; have z0 : w.heap.size < w9.heap.size := (by first | omega | (simp at hz; omega)); have z1 : w.heap.size + 1 < w9.heap.size := (by first | omega | (simp at hz; omega))))
    go_ret2
    exact ⟨by simp [Ho.out, Hd.out], bwz⟩
end Go.Proofs.Ytndlpoffpcpnkaa
