/- Walks: the source of draws is made, and hands out numbers. -/
import Derived.Test.YtndlpoffpcpnkaaKp
import Derived.Test.YtndlpoffpcpnkaaA
import Derived.Deep.QuietTactic
import Derived.BigQuiet
import Derived.Deep.DeepCutAuto
namespace Go.Proofs.Ytndlpoffpcpnkaa
open Go.RowKit

theorem rem_bd (a : Int) (h : 0 ≤ a) : 0 ≤ a.tmod 2147483647 ∧ a.tmod 2147483647 < 2147483647 := ⟨Int.tmod_nonneg _ h, Int.tmod_lt_of_pos _ (by decide)⟩
theorem quo_bd (a : Int) (h : 0 ≤ a) (h2 : a < 2147483647) : 0 ≤ a.tdiv 17 ∧ a.tdiv 17 < 2147483647 := by
  rw [Int.tdiv_eq_ediv_of_nonneg h]; omega
theorem rem_bd2 (a k : Int) (h : 0 ≤ a) (h2 : 1 < k) : 0 ≤ a.tmod k ∧ a.tmod k < k := ⟨Int.tmod_nonneg _ h, Int.tmod_lt_of_pos _ (by omega)⟩
/-- What a draw of a number returns. -/
def NumC (w : World) (g : Nat) (k : Int) (e : Ending) (w' : World) : Prop := (∃ x : Int, e = .returned (.int .i64 x) ∧ (1 < k → 0 ≤ x ∧ x < k)) ∧ w.grownBy w' (some g) ∧ Src w' g
set_option maxRecDepth 100000 in
set_option maxHeartbeats 4000000 in
theorem spec_l01Next (g : Nat) (k : Int) (w : World) (h : Src w g) (hk : k ≤ 9000000000000000000) :
    Calls Try.prog 14 #[.pointer (some ⟨g, 0, none⟩), .int .i64 k] w (NumC w g k) := by
  by_cases k1 : k ≤ 1
  · go_enter Try.func14, Try.ntmps14
    go_wp2
    go_ret
    exact ⟨⟨_, rfl, fun k2 => absurd k2 (by omega)⟩, World.grownBy.refl _ _, h⟩
  have HS := hide h
  obtain ⟨so, n, cap, B, a, sd, hn, hrow, hB, hso, ha, hs0, hs1, c0, c1, c2, f1, f2⟩ := h
  have m1 : 0 ≤ sd * 48271 + 23 := by omega
  have hj1 : (0 : Int) ≤ (a : Int) := by omega
  by_cases hlt : a < n
  · obtain ⟨b, o, rfl, hcb⟩ := hrow a hlt
    have cb := hcb 0 (by decide)
    simp only [vb, Nat.mul_one, Nat.add_zero] at cb
    have hbg := hso b o rfl (by omega)
    have hbg2 : ¬ b = g := by omega
    have hbg3 : ¬ g = b := by omega
    obtain ⟨B1, B2⟩ := hB a
    have hj2 : (a : Int) < (n : Int) := by omega
    have hj3 : (0 : Int) ≤ (a : Int) + 1 - 1 := by omega
    clear hrow hB hso hcb
    by_cases k4 : k ≤ 256
    · by_cases k5 : ((a : Int) + 1) % 2 = 0
      · go_enter Try.func14, Try.ntmps14
        go_upto_region 5 with fail
        go_quiet (fail)
        go_upto_region 6 with fail
        go_quiet (fail)
        go_upto_region 9 with fail
        go_quiet (fail)
        go_wp2
        go_ret
        exact ⟨⟨_, rfl, fun _ => ⟨Int.emod_nonneg _ (by omega), Int.emod_lt_of_pos _ (by omega)⟩⟩, by (repeat (first | exact World.grownBy.refl _ _ | refine gr_drewN ?_ _ | refine gr_set ?_)), by (repeat (first | exact HS.out | refine Src.drewN ?_ _ | refine Src.seed ?_ (by omega) (by omega) | refine Src.at ?_ (show World.cell? _ _ = some (.slice (some ⟨b, o, none⟩) n cap) by go_simp) (by omega) (by omega)))⟩
      · go_enter Try.func14, Try.ntmps14
        go_upto_region 5 with fail
        go_quiet (fail)
        go_upto_region 6 with fail
        go_quiet (fail)
        go_wp2
        go_ret
        exact ⟨⟨_, rfl, fun _ => ⟨Int.emod_nonneg _ (by omega), Int.emod_lt_of_pos _ (by omega)⟩⟩, by (repeat (first | exact World.grownBy.refl _ _ | refine gr_drewN ?_ _ | refine gr_set ?_)), by (repeat (first | exact HS.out | refine Src.drewN ?_ _ | refine Src.seed ?_ (by omega) (by omega) | refine Src.at ?_ (show World.cell? _ _ = some (.slice (some ⟨b, o, none⟩) n cap) by go_simp) (by omega) (by omega)))⟩
    · go_enter Try.func14, Try.ntmps14
      go_upto_region 5 with fail
      go_quiet (fail)
      go_upto_region 6 with fail
      go_quiet (fail)
      go_wp2
      go_ret
      exact ⟨⟨_, rfl, fun _ => ⟨Int.emod_nonneg _ (by omega), Int.emod_lt_of_pos _ (by omega)⟩⟩, by (repeat (first | exact World.grownBy.refl _ _ | refine gr_drewN ?_ _ | refine gr_set ?_)), by (repeat (first | exact HS.out | refine Src.drewN ?_ _ | refine Src.seed ?_ (by omega) (by omega) | refine Src.at ?_ (show World.cell? _ _ = some (.slice (some ⟨b, o, none⟩) n cap) by go_simp) (by omega) (by omega)))⟩
  · have hj2 : (n : Int) ≤ (a : Int) := by omega
    clear hrow hB hso
    go_enter Try.func14, Try.ntmps14
    go_upto_region 5 with fail
    go_quiet (fail)
    go_wp2
    go_ret
    exact ⟨⟨_, rfl, fun _ => ⟨Int.emod_nonneg _ (by omega), Int.emod_lt_of_pos _ (by omega)⟩⟩, by (repeat (first | exact World.grownBy.refl _ _ | refine gr_drewN ?_ _ | refine gr_set ?_)), by (repeat (first | exact HS.out | refine Src.drewN ?_ _ | refine Src.seed ?_ (by omega) (by omega)))⟩
set_option maxRecDepth 100000 in
set_option maxHeartbeats 4000000 in
theorem spec_l01From (so : Option Addr) (n cap : Nat) (B : Nat → Int) (w : World) (h : RowAt w so n 1 (vb B)) (hB : ∀ i, 0 ≤ B i ∧ B i ≤ 255) (hn : n ≤ 1048576) :
    Calls Try.prog 11 #[.slice so n cap] w fun e w' => e = .returned (.pointer (some ⟨w.heap.size, 0, none⟩)) ∧ Src w' w.heap.size ∧ Below w.heap.size w w' := by
  have Hh := hide h
  have HB := hide hB
  have Hf := hide (show ∀ b o, so = some ⟨b, o, none⟩ → 0 < n → b < w.heap.size from fun b o e h0 => by
    obtain ⟨b', o', e', k⟩ := h 0 h0
    rw [e] at e'
    injection e' with e'
    injection e' with e1 e2
    subst e1
    exact World.block_lt_of_cell? _ _ (k 0 (by decide)))
  clear h hB
  go_enter Try.func11, Try.ntmps11
  go_wp2
  go_loopw [4] (fun i wr => ∃ k : Nat, k ≤ n ∧ i = .int .i64 k ∧ Hid (Src wr w.heap.size) ∧ Below w.heap.size w wr) (fun i _ => n - (intOf i).toNat)
  case atStart =>
    exact ⟨0, Nat.zero_le _, rfl, hide ⟨so, n, cap, B, 0, 61657, hn, RowAt.later bwz Hh.out, HB.out, Hf.out, Nat.zero_le _, by decide, by decide, by go_simp, by go_simp, by go_simp, by go_simp, by go_simp⟩, bwz⟩
  case round =>
    obtain ⟨k, hk, rfl, HS, hbl⟩ := hrel
    have hlt9 := Src.lt HS.out
    by_cases hlt : k < n
    · by_cases h64 : k < 64
      · obtain ⟨so', n', cap', B', a, sd, _, _, _, _, _, d1, d2, c0, c1, c2, f1, f2⟩ := HS.out
        obtain ⟨b, o, rfl, hcb⟩ := (RowAt.later hbl Hh.out) k hlt
        have cb := hcb 0 (by decide)
        simp only [vb, Nat.mul_one, Nat.add_zero] at cb
        have hbs := World.block_lt_of_cell? _ _ cb
        simp only at hbs
        have hbg := Hf.out b o rfl (by omega)
        have hn1 : ¬ b = w.heap.size := by omega
        have hn2 : ¬ w.heap.size = b := by omega
        obtain ⟨B1, B2⟩ := HB.out k
        have hi1 : (0 : Int) ≤ (k : Int) := by omega
        have hi2 : (k : Int) < (n : Int) := by omega
        clear hcb
        go_upto_region 5 with fail
        go_region
        go_wp2
        go_roundw
        case rel => exact ⟨k + 1, by omega, by go_num, hide (by repeat (first | exact HS.out | refine Src.drewN ?_ _ | refine Src.seed ?_ (by omega) (by omega))), bwz⟩
        case measure => simp [intOf]; omega
      · have hi3 : ¬ (k : Int) < 64 := by omega
        go_wp2
        go_ret
        exact ⟨rfl, HS.out, hbl⟩
    · obtain rfl : k = n := by omega
      go_wp2
      go_ret
      exact ⟨rfl, HS.out, hbl⟩
end Go.Proofs.Ytndlpoffpcpnkaa
