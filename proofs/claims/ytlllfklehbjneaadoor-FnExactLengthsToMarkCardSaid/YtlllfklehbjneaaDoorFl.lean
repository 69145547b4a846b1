/- The root that math.Sqrt gives of a number below 2^63, made whole, is a number from 0 to 2^53. Plain facts on words of floats. -/
import Derived.WalkKit
import Derived.WalkLawsBesides
import Ieee.Arith
namespace Go.Proofs.YtlllfklehbjneaaDoor
open Ieee

theorem shl_lt {m k e : Nat} (h : m.log2 + 1 + k ≤ e) : m <<< k < 2 ^ e := by
  rw [Nat.shiftLeft_eq]
  have h1 : m < 2 ^ (m.log2 + 1) := Nat.lt_log2_self
  calc m * 2 ^ k < 2 ^ (m.log2 + 1) * 2 ^ k := Nat.mul_lt_mul_of_pos_right h1 (Nat.two_pow_pos k)
    _ = 2 ^ (m.log2 + 1 + k) := (Nat.pow_add 2 _ _).symm
    _ ≤ 2 ^ e := Nat.pow_le_pow_right (by omega) h

theorem cut_le (neg : Bool) (way : Toward) (n drop : Nat) : way.cut neg n drop ≤ n / (1 <<< min drop (n.log2 + 2)) + 1 := by
  unfold Toward.cut
  exact Nat.add_le_add_left (Bool.toNat_le _) _

theorem cut_even (mag : Nat) (place last : Int) (h : place + mag.log2 - 52 ≤ last) : Toward.even.cut false (mag <<< (place - last).toNat) (last - place).toNat ≤ 2 ^ 53 := by
  have h1 := cut_le false .even (mag <<< (place - last).toNat) (last - place).toNat
  by_cases hp : last ≤ place
  · have h2 : mag <<< (place - last).toNat < 2 ^ 53 := shl_lt (by omega)
    have h3 := Nat.div_le_self (mag <<< (place - last).toNat) (1 <<< min (last - place).toNat ((mag <<< (place - last).toNat).log2 + 2))
    omega
  · have e0 : (place - last).toNat = 0 := by omega
    rw [e0, Nat.shiftLeft_zero] at h1 ⊢
    rw [Nat.shiftLeft_eq, Nat.one_mul] at h1
    have h2 : mag / 2 ^ (min (last - place).toNat (mag.log2 + 2)) < 2 ^ 53 := by
      rw [Nat.div_lt_iff_lt_mul (Nat.two_pow_pos _), ← Nat.pow_add]
      exact Nat.lt_of_lt_of_le Nat.lt_log2_self (Nat.pow_le_pow_right (by omega) (by omega))
    omega

/-- What is read of a rung. -/
theorem read_rung (R q : Nat) (h : R ≤ q * double.binade) (hq : q ≤ 2000) : ∃ (m : Nat) (i : Int), double.read R = .number false m i ∧ m < 2 * double.binade ∧ i ≤ max (-1075 + (q : Int)) (-1074) := by
  have hB : 0 < double.binade := by decide
  have hir : double.infRung = 2047 * double.binade := by decide
  have hsw : double.signWeight = 2048 * double.binade := by decide
  have hlp : double.leastPlace = -1074 := by decide
  have h1 : R < 2047 * double.binade := Nat.lt_of_le_of_lt h (Nat.mul_lt_mul_of_pos_right (by omega) hB)
  have h2 : R < 2048 * double.binade := Nat.lt_of_lt_of_le h1 (Nat.mul_le_mul_right _ (by omega))
  unfold Format.read
  simp only [hir, hsw, hlp, Nat.div_eq_of_lt h2, Nat.mod_eq_of_lt h2]
  by_cases hb : R < double.binade
  · rw [if_pos hb]
    exact ⟨R, -1074, rfl, by omega, by omega⟩
  · rw [if_neg hb, if_pos h1]
    have hd : R / double.binade ≤ q := by
      rw [Nat.mul_comm] at h
      exact Nat.div_le_of_le_mul h
    have hmd := Nat.mod_lt R hB
    exact ⟨_, _, rfl, by omega, by omega⟩

/-- What is read of the nearest word. -/
theorem read_nearest (mag : Nat) (place : Int) (hp : place + mag.log2 ≤ 900) :
    ∃ (m : Nat) (i : Int), double.read (double.nearest false mag place) = .number false m i ∧ m < 2 * double.binade ∧ i ≤ max (place + mag.log2 - 52) (-1074) + 1 := by
  by_cases h0 : mag = 0
  · subst h0
    refine ⟨0, -1074, ?_, by decide, by omega⟩
    simp only [Format.nearest, if_true]
    decide
  · have hk := cut_even mag place (max (place + mag.log2 - 52) (-1074)) (by omega)
    have hlp : double.leastPlace = -1074 := by decide
    have hfb : double.fractionBits = 52 := by decide
    have e53 : (2 : Nat) ^ 53 = 2 * double.binade := by decide
    rw [e53] at hk
    unfold Format.nearest
    rw [if_neg h0, hfb, hlp]
    simp only [Int.cast_ofNat_Int]
    generalize Toward.even.cut false (mag <<< (place - max (place + ↑mag.log2 - 52) (-1074)).toNat) (max (place + ↑mag.log2 - 52) (-1074) - place).toNat = kept at hk ⊢
    generalize hl : max (place + (mag.log2 : Int) - 52) (-1074) = last at *
    have hl1 : -1074 ≤ last := by omega
    have hl2 : last ≤ 900 := by omega
    unfold Format.word
    rw [if_neg (by decide)]
    have hR : min ((last - -1074).toNat * double.binade + kept) double.infRung ≤ ((last - -1074).toNat + 2) * double.binade := by
      refine Nat.le_trans (Nat.min_le_left _ _) ?_
      rw [Nat.add_mul]
      exact Nat.add_le_add_left hk _
    obtain ⟨m, i, h1, h2, h3⟩ := read_rung _ _ hR (by omega)
    exact ⟨m, i, h1, h2, by omega⟩

theorem rootFrom_lt (n : Nat) : ∀ (todo root : Nat), Datum.rootFrom n todo root < root + 2 ^ todo
  | 0, root => by simp [Datum.rootFrom]
  | todo + 1, root => by
    unfold Datum.rootFrom
    have h := rootFrom_lt n todo (if (root + 1 <<< todo) * (root + 1 <<< todo) ≤ n then root + 1 <<< todo else root)
    have e : 1 <<< todo = 2 ^ todo := by rw [Nat.shiftLeft_eq, Nat.one_mul]
    have e2 : 2 ^ (todo + 1) = 2 * 2 ^ todo := by rw [Nat.pow_succ, Nat.mul_comm]
    simp only
    split at h <;> rename_i hc
    · rw [if_pos hc]; rw [e] at h ⊢; omega
    · rw [if_neg hc]; omega

theorem log2_shl {m k : Nat} (h : m ≠ 0) : (m <<< k).log2 = m.log2 + k := by
  induction k with
  | zero => simp
  | succ k ih =>
    rw [Nat.shiftLeft_succ, Nat.log2_two_mul (by rw [Nat.shiftLeft_eq]; exact Nat.mul_ne_zero h (Nat.ne_of_gt (Nat.two_pow_pos k))), ih]
    omega

/-- The root of a number below 2^63: its word, and that word made whole. -/
theorem sqrt_word (n : Nat) (hn : n < 9223372036854775808) : ∃ (y k : Nat), double.sqrt (double.nearest false n 0) = some y ∧ (double.read y).toInt .zero = some (k : Int) ∧ k < 9007199254740992 := by
  have hl : n.log2 ≤ 62 := by
    rcases Nat.eq_zero_or_pos n with h | h
    · subst h; decide
    · have := (Nat.log2_lt (n := n) (k := 63) (by omega)).2 (by simpa using hn)
      omega
  obtain ⟨m, i, hr, hm, hi⟩ := read_nearest n 0 (by omega)
  rw [show 2 * double.binade = 2 ^ 53 from by decide] at hm
  have hi' : i ≤ 11 := by omega
  have fin : ∀ (mag : Nat) (place : Int), place + mag.log2 ≤ 33 → ∃ k : Nat, (double.read (double.nearest false mag place)).toInt .zero = some (k : Int) ∧ k < 9007199254740992 := by
    intro mag place hp
    obtain ⟨m2, i2, hr2, hm2, hi2⟩ := read_nearest mag place (by omega)
    rw [hr2]
    have e0 : i2.toNat = 0 := by omega
    rw [show 2 * double.binade = 9007199254740992 from by decide] at hm2
    refine ⟨Toward.zero.cut false (m2 <<< i2.toNat) (-i2).toNat, ?_, ?_⟩
    · simp [Datum.toInt, Datum.integral, signed]
    · rw [e0, Nat.shiftLeft_zero]
      unfold Toward.cut
      simp only [Bool.toNat_false, Nat.add_zero]
      exact Nat.lt_of_le_of_lt (Nat.div_le_self _ _) hm2
  have hfb : double.fractionBits = 52 := by decide
  unfold Format.sqrt
  rw [hr, hfb]
  unfold Datum.root
  by_cases h0 : m = 0
  · subst h0
    obtain ⟨k, h1, h2⟩ := fin 0 i (by rw [show Nat.log2 0 = 0 from by decide]; omega)
    exact ⟨double.nearest false 0 i, k, rfl, h1, h2⟩
  · dsimp only
    rw [if_neg h0]
    simp only [Bool.false_eq_true, if_false, Option.map_some, Format.write]
    have hml : m.log2 ≤ 52 := by
      have := (Nat.log2_lt (n := m) (k := 53) h0).2 hm
      omega
    generalize hmore : 2 * (52 + 2) - m.log2 + ((i - ↑(2 * (52 + 2) - m.log2)) % 2).toNat = more
    have hmo : 108 - m.log2 ≤ more ∧ more ≤ 109 - m.log2 := by omega
    have hlog := log2_shl (k := more) h0
    generalize hw : Datum.rootFrom (m <<< more) ((m <<< more).log2 / 2 + 1) 0 = whole
    have hwl : whole < 2 ^ 55 := by
      have h1 := rootFrom_lt (m <<< more) ((m <<< more).log2 / 2 + 1) 0
      rw [hw, hlog] at h1
      have h2 : (2 : Nat) ^ ((m.log2 + more) / 2 + 1) ≤ 2 ^ 55 := Nat.pow_le_pow_right (by omega) (by omega)
      omega
    generalize hc : 2 * whole + (whole * whole != m <<< more).toNat = mag
    have hmag : mag < 2 ^ 56 := by
      have : (whole * whole != m <<< more).toNat ≤ 1 := Bool.toNat_le _
      omega
    have hml2 : mag.log2 ≤ 55 := by
      rcases Nat.eq_zero_or_pos mag with h | h
      · rw [h]; decide
      · have := (Nat.log2_lt (n := mag) (k := 56) (by omega)).2 hmag
        omega
    obtain ⟨k, h1, h2⟩ := fin mag ((i - ↑more) / 2 - 1) (by omega)
    exact ⟨_, k, rfl, h1, h2⟩
end Go.Proofs.YtlllfklehbjneaaDoor
