/- Walks: valid tracks, and legs. -/
import Derived.Test.YtlhllidkkjledaaGreatDoorBs
import Derived.Test.YtlhllidkkjledaaGreatDoorBase
import Derived.Test.YtlhllidkkjledaaGreatDoorA
import Derived.Deep.RegionHeld3
import Derived.Deep.DeepCutAuto
namespace Go.Proofs.YtlhllidkkjledaaGreatDoor
open Go.RowKit

set_option maxHeartbeats 1000000 in
theorem impl_legAt (b o n cap : Nat) (T X Y : Nat → Int) (t : Int) (w : World) (h : RowAt w (some ⟨b, o, none⟩) n 3 (v3 T X Y)) (hn : n ≤ 40) (h2 : 2 ≤ n) :
    Calls Tryz.prog 96 #[.agg #[.slice (some ⟨b, o, none⟩) n cap], .int .i64 t] w fun e w' => e = .returned (.int .i64 (legF T t (n - 2) : Nat)) ∧ Below w.heap.size w w' := by
  have hbs := World.block_lt_of_cell? _ _ (h.on3 0 (by omega)).1
  simp only at hbs
  have hm : ((n : Int) - 2) = ((n - 2 : Nat) : Int) := by omega
  go_enter Tryz.func96, Tryz.ntmps96
  go_wp2
  go_loop [5] (fun i => ∃ k : Nat, k ≤ n - 2 ∧ i = .int .i64 k ∧ Hid (legF T t (n - 2) = legF T t k)) (fun i => (intOf i).toNat)
  case atStart => exact ⟨n - 2, Nat.le_refl _, by go_num, hide rfl⟩
  case round =>
    obtain ⟨k, hk, rfl, He⟩ := hrel
    clear hm
    obtain ⟨c0, c1, c2⟩ := h.on3 k (by omega)
    by_cases h0 : 0 < k
    · by_cases ht : t < T k
      · have Hs := hide (legF_yes h0 ht)
        go_wp2
        go_round
        case rel => exact ⟨k - 1, by omega, by go_num, hide (He.out.trans Hs.out)⟩
        case measure => simp [intOf]; omega
      · have Hs := hide (legF_no (T := T) (t := t) (k := k) (.inr (by omega)))
        go_wp2
        go_ret
        exact ⟨ret_i (by rw [He.out, Hs.out]), bwz⟩
    · obtain rfl : k = 0 := by omega
      go_wp2
      go_ret
      exact ⟨ret_i (by rw [He.out]; rfl), bwz⟩
set_option maxHeartbeats 1000000 in
theorem spec_l03Leg (b o n cap : Nat) (T X Y : Nat → Int) (t : Int) (w : World) (h : RowAt w (some ⟨b, o, none⟩) n 3 (v3 T X Y)) (hn : n ≤ 40) (h2 : 2 ≤ n) :
    Calls Tryz.prog 92 #[.agg #[.slice (some ⟨b, o, none⟩) n cap], .int .i64 t] w fun e w' => e = .returned (.int .i64 (legF T t (n - 2) : Nat)) ∧ Below w.heap.size w w' := by
  have hbs := World.block_lt_of_cell? _ _ (h.on3 0 (by omega)).1
  simp only at hbs
  go_enter Tryz.func92, Tryz.ntmps92
  go_wp2
  go_loop [5, 6] (fun l i => ∃ k : Nat, k ≤ n - 1 ∧ i = .int .i64 k ∧ ∃ q : Nat, q ≤ n ∧ l = .int .i64 q ∧ Hid (q = legF T t (k - 1))) (fun _ i => n - (intOf i).toNat)
  case atStart => exact ⟨0, Nat.zero_le _, rfl, 0, Nat.zero_le _, rfl, hide rfl⟩
  case round =>
    obtain ⟨k, hk, rfl, q, hq, rfl, He⟩ := hrel
    by_cases hlt : k + 1 < n
    · obtain ⟨c0, c1, c2⟩ := h.on3 k (by omega)
      by_cases ht : T k ≤ t
      · have Hs := hide (legF_no (T := T) (t := t) (k := k) (.inr ht))
        go_wp2
        go_round
        case rel => exact ⟨k + 1, by omega, by go_num, k, by omega, rfl, hide (by rw [Nat.add_sub_cancel]; exact Hs.out.symm)⟩
        case measure => simp [intOf]; omega
      · have Hs : Hid (q = legF T t k) := hide (by
          by_cases h0 : 0 < k
          · rw [legF_yes h0 (by omega)]; exact He.out
          · obtain rfl : k = 0 := by omega
            exact He.out)
        go_wp2
        go_round
        case rel => exact ⟨k + 1, by omega, by go_num, q, hq, rfl, hide (by rw [Nat.add_sub_cancel]; exact Hs.out)⟩
        case measure => simp [intOf]; omega
    · obtain rfl : k = n - 1 := by omega
      go_wp2
      go_ret
      exact ⟨ret_i (by rw [He.out]; congr 1), bwz⟩
end Go.Proofs.YtlhllidkkjledaaGreatDoor
