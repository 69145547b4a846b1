/- Walks: rows of integers compared; is an integer in a row? -/
import Derived.Test.YtcmjcedlbhdihaaGreatDoorKp
import Derived.Test.YtcmjcedlbhdihaaGreatDoorLaw
import Derived.Deep.AppendLies
import Derived.Deep.DeepCutAuto
namespace Go.Proofs.YtcmjcedlbhdihaaGreatDoor
open Go.RowKit
/-- A row of integers by a function. -/
def v1k (V : Nat → Int) (i _j : Nat) : Value := .int .i64 (V i)
theorem RowAt.v1k {w : World} {so : Option Addr} {L : List Int} (h : RowAt w so L.length 1 (vI L)) : RowAt w so L.length 1 (v1k fun i => L[i]?.getD 0) := h
set_option maxRecDepth 100000 in
set_option maxHeartbeats 1000000 in
theorem laws_likeInts (so1 so2 : Option Addr) (n cap1 cap2 : Nat) (V : Nat → Int) (w : World) (h1 : RowAt w so1 n 1 (v1k V)) (h2 : RowAt w so2 n 1 (v1k V)) (hn : n ≤ 1048576) :
 Calls Tryz.prog 8 #[.slice so1 n cap1, .slice so2 n cap2] w fun e w' => e = .returned (.bool true) ∧ Below w.heap.size w w' := by
 go_enter Tryz.func8, Tryz.ntmps8
 go_wp2
 go_loopw [5] (fun i wr => ∃ k : Nat, k ≤ n ∧ i = .int .i64 k ∧ Below w.heap.size w wr) (fun i _ => n - (intOf i).toNat)
 case atStart => exact ⟨0, Nat.zero_le _, rfl, bwz⟩
 case round =>
  obtain ⟨k, hk, rfl, hbl⟩ := hrel
  have hsz := hbl.size
  by_cases hlt : k < n
  ·obtain ⟨b, o, rfl, hbs, c0⟩ := (RowAt.later hbl h1).at1 k hlt
   obtain ⟨b2, o2, rfl, hbs2, d0⟩ := (RowAt.later hbl h2).at1 k hlt
   simp only [Go.Proofs.YtcmjcedlbhdihaaGreatDoor.v1k] at c0 d0
   have hi1 : (0 : Int) ≤ (k : Int) := by omega
   have hi2 : (k : Int) < (n : Int) := by omega
   go_upto_region 6 with fail
   refine wp_region_held_drew (S := (fun W => W.cell? ⟨b, o + k, none⟩ = some (.int .i64 (V k)) ∧ W.cell? ⟨b2, o2 + k, none⟩ = some (.int .i64 (V k)) ∧ Below w.heap.size w W ∧ w.heap.size + 0 ≤ W.heap.size)) (by kernel_rfl) ?_ (fun hHeld => ?_)
   ·exact ⟨(by go_simp; done), (by go_simp; done), bwz, (by first | (simp; done) | (simp; omega) | omega)⟩
   refine tkD 0 (some 17) rfl ?_; simp only [pz]
   refine tkD 1 (some 18) rfl ?_; simp only [pz]
   refine tkD 2 (some 19) rfl ?_; simp only [pz]
   refine tkD 3 (some 20) rfl ?_; simp only [pz]
   refine tkD 4 (some 21) rfl ?_; simp only [pz]
   refine tkD 5 (some 22) rfl ?_; simp only [pz]
   refine tkD 6 (some 23) rfl ?_; simp only [pz]
   refine tkD 7 (some 24) rfl ?_; simp only [pz]
   refine tkD 8 (some 25) rfl ?_; simp only [pz]
   refine wpAnyH_done (by kernel_rfl) ?_ _; (try simp only [pz])
   obtain ⟨k1, k2, kB, kz⟩ := hHeld
   go_wp2
   (go_roundw; (case rel => exact ⟨k + 1, by omega, by go_num, kB⟩); (case measure => simp [intOf]; omega))
  ·go_wp2
   go_ret
   exact ⟨rfl, hbl⟩
/-- Is x among the first k of a list? -/
def hasK (L : List Int) (x : Int) : Nat → Bool
 | 0 => false
 | k + 1 => hasK L x k || L[k]?.getD 0 == x
theorem hasK_mem (L : List Int) (x : Int) : ∀ k, k ≤ L.length → (hasK L x k = true ↔ ∃ j, j < k ∧ L[j]? = some x) := by
 intro k
 induction k with
 | zero => intro _; simp [hasK]
 | succ k ih =>
  intro hk
  have e : L[k]? = some (L[k]'(by omega)) := List.getElem?_eq_getElem (by omega)
  rw [hasK, Bool.or_eq_true, ih (by omega), e, Option.getD_some, beq_iff_eq]
  constructor
  ·rintro (⟨j, h1, h2⟩ | h)
   ·exact ⟨j, by omega, h2⟩
   ·exact ⟨k, by omega, by rw [e, h]⟩
  ·rintro ⟨j, h1, h2⟩
   by_cases ej : j = k
   ·subst ej; rw [e] at h2; exact .inr (Option.some.inj h2)
   ·exact .inl ⟨j, by omega, h2⟩
theorem hasK_is (L : List Int) (x : Int) : hasK L x L.length = decide (x ∈ L) := by
 rw [Bool.eq_iff_iff, hasK_mem L x _ (Nat.le_refl _), decide_eq_true_iff, List.mem_iff_getElem?]
 constructor
 ·rintro ⟨j, _, h⟩; exact ⟨j, h⟩
 ·rintro ⟨j, h⟩
  refine ⟨j, ?_, h⟩
  rcases Nat.lt_or_ge j L.length with k | k
  ·exact k
  ·rw [List.getElem?_eq_none k] at h; cases h
theorem hasK_in {L : List Int} {x : Int} {k : Nat} (hk : k < L.length) (h : L[k]?.getD 0 = x) : hasK L x L.length = true := by
 rw [hasK_is, decide_eq_true_iff, ← h, List.getElem?_eq_getElem hk]
 exact List.getElem_mem hk
set_option maxHeartbeats 1000000 in
theorem laws_hasInt (so : Option Addr) (cap : Nat) (L : List Int) (x : Int) (w : World) (h : RowAt w so L.length 1 (vI L)) (hn : L.length ≤ 1048576) :
 Calls Tryz.prog 9 #[.slice so L.length cap, .int .i64 x] w fun e w' => e = .returned (.bool (decide (x ∈ L))) ∧ Below w.heap.size w w' := by
 obtain ⟨b9, hb9⟩ : ∃ b, b = decide (x ∈ L) := ⟨_, rfl⟩
 have HY := hide (fun (k : Nat) (hk : k < L.length) (e : L[k]?.getD 0 = x) => (show b9 = true by rw [hb9, ← hasK_is]; exact hasK_in hk e))
 have HZ := hide (fun (e : hasK L x L.length = false) => (show b9 = false by rw [hb9, ← hasK_is]; exact e))
 rw [← hb9]
 clear hb9
 go_enter Tryz.func9, Tryz.ntmps9
 go_wp2
 go_loopw [5] (fun i wr => ∃ k : Nat, k ≤ L.length ∧ i = .int .i64 k ∧ Hid (hasK L x k = false) ∧ Below w.heap.size w wr) (fun i _ => L.length - (intOf i).toNat)
 case atStart => exact ⟨0, Nat.zero_le _, rfl, hide rfl, bwz⟩
 case round =>
  obtain ⟨k, hk, rfl, HK, hbl⟩ := hrel
  by_cases hlt : k < L.length
  ·obtain ⟨b, o, rfl, hbs, c0⟩ := (RowAt.later hbl h).at1 k hlt
   simp only [vI] at c0
   have HY2 := hide (HY.out k hlt)
   have HK2 := hide (show L[k]?.getD 0 ≠ x → hasK L x (k + 1) = false from fun hne => by rw [hasK, HK.out, Bool.false_or]; exact beq_eq_false_iff_ne.2 hne)
   obtain ⟨y, hy⟩ : ∃ y, y = L[k]?.getD 0 := ⟨_, rfl⟩
   rw [← hy] at HY2 HK2 c0
   have Hy := hide hy
   clear hy
   by_cases e : y = x
   ·have hb := HY2.out e
    subst e
    subst hb
    go_wp2
    go_ret
    exact ⟨rfl, hbl⟩
   ·have e1 : (y == x) = false := beq_eq_false_iff_ne.2 e
    go_wp2
    go_roundw
    case rel => exact ⟨k + 1, by omega, by go_num, hide (HK2.out e), bwz⟩
    case measure => simp [intOf]; omega
  ·obtain rfl : k = L.length := by omega
   have hb := HZ.out HK.out
   subst hb
   go_wp2
   go_ret
   exact ⟨rfl, hbl⟩
end Go.Proofs.YtcmjcedlbhdihaaGreatDoor
