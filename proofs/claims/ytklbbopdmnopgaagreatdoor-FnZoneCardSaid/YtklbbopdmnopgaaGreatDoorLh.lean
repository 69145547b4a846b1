/- Walks: rows of integers compared; is an integer in a row? -/
import Derived.Test.YtklbbopdmnopgaaGreatDoorKp
import Derived.Test.YtklbbopdmnopgaaGreatDoorLaw
import Derived.Deep.AppendLies
import Derived.Deep.DeepCutAuto
namespace Go.Proofs.YtklbbopdmnopgaaGreatDoor
open Go.RowKit
/-- Is x among the first k of a list? -/
def hasK (L : List Int) (x : Int) : Nat → Bool
 | 0 => false
 | k + 1 => hasK L x k || L[k]?.getD 0 == x
theorem hasK_mem (L : List Int) (x : Int) : ∀ k, k ≤ L.length → (hasK L x k = true ↔ ∃ j, j < k ∧ L[j]? = some x) := by
 intro k
 induction k with
 | zero => intro _; simp [hasK]
 | succ k ih =>
  intro hk
  have e : L[k]? = some (L[k]'(by omega)) := List.getElem?_eq_getElem (by omega)
  rw [hasK, Bool.or_eq_true, ih (by omega), e, Option.getD_some, beq_iff_eq]
  constructor
  ·rintro (⟨j, h1, h2⟩ | h)
   ·exact ⟨j, by omega, h2⟩
   ·exact ⟨k, by omega, by rw [e, h]⟩
  ·rintro ⟨j, h1, h2⟩
   by_cases ej : j = k
   ·subst ej; rw [e] at h2; exact .inr (Option.some.inj h2)
   ·exact .inl ⟨j, by omega, h2⟩
theorem hasK_is (L : List Int) (x : Int) : hasK L x L.length = decide (x ∈ L) := by
 rw [Bool.eq_iff_iff, hasK_mem L x _ (Nat.le_refl _), decide_eq_true_iff, List.mem_iff_getElem?]
 constructor
 ·rintro ⟨j, _, h⟩; exact ⟨j, h⟩
 ·rintro ⟨j, h⟩
  refine ⟨j, ?_, h⟩
  rcases Nat.lt_or_ge j L.length with k | k
  ·exact k
  ·rw [List.getElem?_eq_none k] at h; cases h
theorem hasK_in {L : List Int} {x : Int} {k : Nat} (hk : k < L.length) (h : L[k]?.getD 0 = x) : hasK L x L.length = true := by
 rw [hasK_is, decide_eq_true_iff, ← h, List.getElem?_eq_getElem hk]
 exact List.getElem_mem hk
set_option maxHeartbeats 1000000 in
theorem laws_hasInt (so : Option Addr) (cap : Nat) (L : List Int) (x : Int) (w : World) (h : RowAt w so L.length 1 (vI L)) (hn : L.length ≤ 1048576) :
 Calls Tryz.prog 13 #[.slice so L.length cap, .int .i64 x] w fun e w' => e = .returned (.bool (decide (x ∈ L))) ∧ Below w.heap.size w w' := by
 obtain ⟨b9, hb9⟩ : ∃ b, b = decide (x ∈ L) := ⟨_, rfl⟩
 have HY := hide (fun (k : Nat) (hk : k < L.length) (e : L[k]?.getD 0 = x) => (show b9 = true by rw [hb9, ← hasK_is]; exact hasK_in hk e))
 have HZ := hide (fun (e : hasK L x L.length = false) => (show b9 = false by rw [hb9, ← hasK_is]; exact e))
 rw [← hb9]
 clear hb9
 go_enter Tryz.func13, Tryz.ntmps13
 go_wp2
 go_loopw [5] (fun i wr => ∃ k : Nat, k ≤ L.length ∧ i = .int .i64 k ∧ Hid (hasK L x k = false) ∧ Below w.heap.size w wr) (fun i _ => L.length - (intOf i).toNat)
 case atStart => exact ⟨0, Nat.zero_le _, rfl, hide rfl, bwz⟩
 case round =>
  obtain ⟨k, hk, rfl, HK, hbl⟩ := hrel
  by_cases hlt : k < L.length
  ·obtain ⟨b, o, rfl, hbs, c0⟩ := (RowAt.later hbl h).at1 k hlt
   simp only [vI] at c0
   have HY2 := hide (HY.out k hlt)
   have HK2 := hide (show L[k]?.getD 0 ≠ x → hasK L x (k + 1) = false from fun hne => by rw [hasK, HK.out, Bool.false_or]; exact beq_eq_false_iff_ne.2 hne)
   obtain ⟨y, hy⟩ : ∃ y, y = L[k]?.getD 0 := ⟨_, rfl⟩
   rw [← hy] at HY2 HK2 c0
   have Hy := hide hy
   clear hy
   by_cases e : y = x
   ·have hb := HY2.out e
    subst e
    subst hb
    go_wp2
    go_ret
    exact ⟨rfl, hbl⟩
   ·have e1 : (y == x) = false := beq_eq_false_iff_ne.2 e
    go_wp2
    go_roundw
    case rel => exact ⟨k + 1, by omega, by go_num, hide (HK2.out e), bwz⟩
    case measure => simp [intOf]; omega
  ·obtain rfl : k = L.length := by omega
   have hb := HZ.out HK.out
   subst hb
   go_wp2
   go_ret
   exact ⟨rfl, hbl⟩
end Go.Proofs.YtklbbopdmnopgaaGreatDoor
