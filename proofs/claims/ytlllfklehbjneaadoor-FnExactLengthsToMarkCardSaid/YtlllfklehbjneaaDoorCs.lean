/- Walks: the names of marks: strings.Trim at the cutset of names' signs. -/
import Derived.Test.YtlllfklehbjneaaDoorCo
import Derived.Lib.Strings
import Derived.Laws.Strings3
import Derived.Laws.ResultCell
import Derived.Deep.LoopGhost
import Derived.Deep.WholeRow
namespace Go.Proofs.YtlllfklehbjneaaDoor
open Go.RowKit

theorem nm_beq (a b : ByteArray) : (a.toList == b.toList) = decide (a = b) := by
  rw [ByteArray.toList_eq, ByteArray.toList_eq, Bool.eq_iff_iff]
  simp only [beq_iff_eq, decide_eq_true_eq]
  exact ⟨fun h => ByteArray.ext (Array.toList_inj.1 h), fun h => by rw [h]⟩
theorem nm_emp (a : ByteArray) : a.toList.isEmpty = decide (a.size = 0) := by
  rw [ByteArray.toList_eq, Bool.eq_iff_iff, List.isEmpty_iff, decide_eq_true_eq, ← List.length_eq_zero_iff, Array.length_toList]
  exact Iff.rfl
theorem size_mk' (l : List UInt8) : (⟨l.toArray⟩ : ByteArray).size = l.length := by rw [Lib.size_eq]
theorem extract_mk' (l : List UInt8) (a b : Nat) : (⟨l.toArray⟩ : ByteArray).extract a b = ⟨((l.drop a).take (b - a)).toArray⟩ := by rw [Lib.extract_eq]
/-- Nothing is left just where all are signs of names; as many signs as before. -/
def TrimQ (s t : ByteArray) : Prop := t.size = 0 ↔ chsOk s s.size = true
def TrimR (s t : ByteArray) : Prop := chsOk t t.size = true ↔ chsOk s s.size = true
def sizeOfS : Value → Nat
  | .string s => s.size
  | _ => 0
theorem chs_drop {s : ByteArray} {k : Nat} (h : ∀ j, j < k → chOk (byt s j) = true) (h2 : k < s.size → chOk (byt s k) = false) (hk : k ≤ s.size) : s.size - k = 0 ↔ chsOk s s.size = true := by
  constructor
  · intro e
    exact chsOk_of fun i hi => h i (by omega)
  · intro e
    rcases Nat.lt_or_ge k s.size with c | c
    · have := chsOk_t e k c
      rw [h2 c] at this; cases this
    · omega
theorem as_contains (b x : Nat) (v : Bool) (w : World) (hx : x < 256) (hc : w.cell? ⟨b, x, none⟩ = some (.bool v)) :
    Calls Tryd.prog 136 #[.pointer (some ⟨b, 0, none⟩), .int .u8 x] w fun e w' => e = .returned (.bool v) ∧ w = w' := by
  have hx256 : (x : Int) < 256 := by omega
  go_enter Tryd.func136, Tryd.ntmps136
  go_wp2
  go_ret
  exact ⟨rfl, rfl⟩
set_option maxRecDepth 100000 in
set_option maxHeartbeats 2000000 in
theorem trimLeft_set (s : ByteArray) (b : Nat) (w : World) (hset : ∀ x, x < 256 → w.cell? ⟨b, x, none⟩ = some (.bool (chOk x))) :
    Calls Tryd.prog 132 #[.string s, .pointer (some ⟨b, 0, none⟩)] w fun e w' => ∃ t : ByteArray, e = .returned (.string t) ∧ TrimQ s t ∧ w = w' := by
  have HS := hide hset
  clear hset
  go_enter Tryd.func132, Tryd.ntmps132
  go_wp2
  go_loop [0] (fun v => ∃ (k : Nat) (t : ByteArray), k ≤ s.size ∧ v = .string t ∧ Hid (t = ⟨(s.data.toList.drop k).toArray⟩) ∧ Hid (∀ j, j < k → chOk (byt s j) = true)) (fun v => sizeOfS v)
  case atStart => exact ⟨0, s, Nat.zero_le _, rfl, hide (by simp), hide fun j hj => absurd hj (Nat.not_lt_zero _)⟩
  case round =>
    obtain ⟨k, t, hk, rfl, HT, HC⟩ := hrel
    have hts : t.size = s.size - k := by rw [HT.out, size_mk', List.length_drop, ← Lib.size_eq]
    have hx1 := hide (show t.extract 1 t.size = ⟨(s.data.toList.drop (k + 1)).toArray⟩ by
      rw [hts, HT.out, extract_mk', List.drop_drop, List.take_of_length_le (by simp [← Lib.size_eq]; omega)])
    by_cases h0 : 0 < t.size
    · have hbk := hide (show (t[0]'h0).toNat = byt s k by
        unfold byt
        have e : s.data.toList[k]? = some (t[0]'h0) := by
          have e1 : t.data.toList[0]? = some (t[0]'h0) := by
            rw [Array.getElem?_toList]; exact Array.getElem?_eq_getElem (xs := t.data) h0
          have e2 : t.data.toList[0]? = s.data.toList[k]? := by rw [HT.out]; simp [List.getElem?_drop]
          rw [← e2]; exact e1
        rw [e]; rfl)
      have hcx := HS.out (t[0]'h0).toNat (UInt8.toNat_lt _)
      obtain ⟨t1, ht1⟩ : ∃ t1 : ByteArray, t1 = t.extract 1 t.size := ⟨_, rfl⟩
      rcases b2 (chOk (t[0]'h0).toNat) with c | c <;> rw [c] at hcx
      · have Hc := hide c
        clear c ht1
        go_wp2_with (go_at_call 136; (with_reducible refine (as_contains _ _ _ _ (UInt8.toNat_lt _) hcx).mono ?_); rintro e w9 ⟨rfl, rfl⟩)
        go_ret
        refine ⟨t, rfl, ?_, rfl⟩
        unfold TrimQ
        rw [hts]
        exact chs_drop HC.out (fun _ => by rw [← hbk.out]; exact Hc.out) hk
      · have Hc := hide c
        clear c
        have Ht1 := hide ht1
        have e1 : t.extract 1 (s.size - k) = t1 := by rw [ht1, hts]
        have z1 : t1.size = s.size - (k + 1) := by rw [ht1, hx1.out, size_mk', List.length_drop, ← Lib.size_eq]
        clear ht1
        go_wp2_with (go_at_call 136; (with_reducible refine (as_contains _ _ _ _ (UInt8.toNat_lt _) hcx).mono ?_); rintro e w9 ⟨rfl, rfl⟩)
        refine ⟨⟨k + 1, t1, by omega, rfl, hide (by rw [Ht1.out, hx1.out]), hide fun j hj => ?_⟩, ?_⟩
        · by_cases e : j = k
          · subst e; rw [← hbk.out]; exact Hc.out
          · exact HC.out j (by omega)
        · simp only [sizeOfS]; omega
    · go_wp2
      go_ret
      refine ⟨t, rfl, ?_, rfl⟩
      unfold TrimQ
      rw [hts]
      exact chs_drop HC.out (fun c => absurd c (by omega)) hk
set_option maxRecDepth 100000 in
set_option maxHeartbeats 2000000 in
/-- What is left when the signs of names are cut off at the end: nothing, or a text whose last sign is none. -/
theorem trimRight_set (s : ByteArray) (b : Nat) (w : World) (hs : s.size ≤ 8) (hset : ∀ x, x < 256 → w.cell? ⟨b, x, none⟩ = some (.bool (chOk x))) :
    Calls Tryd.prog 133 #[.string s, .pointer (some ⟨b, 0, none⟩)] w fun e w' => ∃ t : ByteArray, e = .returned (.string t) ∧ TrimR s t ∧ w = w' := by
  have HS := hide hset
  clear hset
  go_enter Tryd.func133, Tryd.ntmps133
  go_wp2
  go_loop [0] (fun v => ∃ (k : Nat) (t : ByteArray), k ≤ s.size ∧ v = .string t ∧ t.size = k ∧ Hid (t = ⟨(s.data.toList.take k).toArray⟩) ∧ Hid (∀ j, k ≤ j → j < s.size → chOk (byt s j) = true)) (fun v => sizeOfS v)
  case atStart => exact ⟨s.size, s, Nat.le_refl _, rfl, rfl, hide (by rw [List.take_of_length_le (by rw [← Lib.size_eq]; exact Nat.le_refl _)]), hide fun j h1 h2 => absurd h1 (by omega)⟩
  case round =>
    obtain ⟨k, t, hk, rfl, hts, HT, HC⟩ := hrel
    have hbt := hide (show ∀ j, j < k → byt t j = byt s j from fun j hj => by
      unfold byt
      rw [HT.out]
      simp [List.getElem?_take, hj])
    have hout := hide (show (0 < k → chOk (byt s (k - 1)) = false) → TrimR s t from fun hlast => by
      unfold TrimR
      constructor
      · intro e
        by_cases hk0 : k = 0
        · exact chsOk_of fun i hi => HC.out i (by omega) hi
        · have := chsOk_t e (k - 1) (by omega)
          rw [hbt.out _ (by omega), hlast (by omega)] at this; cases this
      · intro e
        exact chsOk_of fun i hi => by rw [hbt.out i (by omega)]; exact chsOk_t e i (by omega))
    have hx1 := hide (show t.extract 0 (k - 1) = ⟨(s.data.toList.take (k - 1)).toArray⟩ by
      rw [HT.out, extract_mk', List.drop_zero, List.take_take]
      congr 3
      omega)
    by_cases h0 : 0 < k
    · have h1 : k - 1 < t.size := by omega
      have hwr : IntKind.i64.wrap ((k : Int) - 1) = ((k - 1 : Nat) : Int) := by rw [show (k : Int) - 1 = ((k - 1 : Nat) : Int) by omega]; exact IntWalk.i64_in _ (by omega)
      have hi0 : (0 : Int) ≤ ((k - 1 : Nat) : Int) := by omega
      have hi1 : ((k - 1 : Nat) : Int) < (k : Int) := by omega
      have hbk := hide (show (t[k - 1]'h1).toNat = byt s (k - 1) by rw [← hbt.out (k - 1) (by omega), byt_at h1])
      have hcx := HS.out (t[k - 1]'h1).toNat (UInt8.toNat_lt _)
      obtain ⟨t1, ht1⟩ : ∃ t1 : ByteArray, t1 = t.extract 0 (k - 1) := ⟨_, rfl⟩
      rcases b2 (chOk (t[k - 1]'h1).toNat) with c | c <;> rw [c] at hcx
      · have Hc := hide c
        clear c ht1
        go_wp2_with (go_at_call 136; (with_reducible refine (as_contains _ _ _ _ (UInt8.toNat_lt _) hcx).mono ?_); rintro e w9 ⟨rfl, rfl⟩)
        go_ret
        exact ⟨t, rfl, hout.out fun _ => by rw [← hbk.out]; exact Hc.out, rfl⟩
      · have Hc := hide c
        clear c
        have Ht1 := hide ht1
        have e1 : t.extract 0 (k - 1) = t1 := ht1.symm
        have z1 : t1.size = k - 1 := by rw [ht1, hx1.out, size_mk', List.length_take, ← Lib.size_eq]; omega
        clear ht1
        go_wp2_with (go_at_call 136; (with_reducible refine (as_contains _ _ _ _ (UInt8.toNat_lt _) hcx).mono ?_); rintro e w9 ⟨rfl, rfl⟩)
        refine ⟨⟨k - 1, t1, by omega, rfl, z1, hide (by rw [Ht1.out, hx1.out]), hide fun j h2 h3 => ?_⟩, ?_⟩
        · by_cases e : j = k - 1
          · subst e; rw [← hbk.out]; exact Hc.out
          · exact HC.out j (by omega) h3
        · simp only [sizeOfS]; omega
    · obtain rfl : k = 0 := by omega
      go_wp2
      go_ret
      exact ⟨t, rfl, hout.out fun c => absurd c (Nat.lt_irrefl _), rfl⟩
end Go.Proofs.YtlllfklehbjneaaDoor
