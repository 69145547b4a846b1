/- Walks: how many stations are reached at a time; DistanceToNext of both. -/
import Derived.Test.YtlhllidkkjledaaGreatDoorXq
import Derived.Test.YtlhllidkkjledaaGreatDoorZb
namespace Go.Proofs.YtlhllidkkjledaaGreatDoor
open Go.RowKit

/-- The distance to the next station, and the code. -/
def dnC (z : Int) (L : List Int) (n : Nat) (t : Int) (tin : Bool) : Int := if z = 0 then (if cntL L t L.length = n + 2 then 5 else if tin then 0 else 3) else z
def dnV (z : Int) (L : List Int) (n : Nat) (t : Int) (tin : Bool) (d : Nat → Int) : Int := if z = 0 then (if cntL L t L.length = n + 2 then 0 else if tin then d (cntL L t L.length) else 0) else 0
theorem dn_cases (z : Int) (L : List Int) (n : Nat) (t : Int) (tin : Bool) (d : Nat → Int) : (¬ z = 0 ∧ dnV z L n t tin d = 0 ∧ dnC z L n t tin = z) ∨ (z = 0 ∧ cntL L t L.length = n + 2 ∧ dnV z L n t tin d = 0 ∧ dnC z L n t tin = 5) ∨ (z = 0 ∧ ¬ cntL L t L.length = n + 2 ∧ tin = false ∧ dnV z L n t tin d = 0 ∧ dnC z L n t tin = 3) ∨ (z = 0 ∧ ¬ cntL L t L.length = n + 2 ∧ tin = true ∧ dnV z L n t tin d = d (cntL L t L.length) ∧ dnC z L n t tin = 0) := by
  unfold dnV dnC
  by_cases h : z = 0
  · by_cases h1 : cntL L t L.length = n + 2
    · exact .inr (.inl ⟨h, h1, by rw [if_pos h, if_pos h1], by rw [if_pos h, if_pos h1]⟩)
    · cases tin
      · exact .inr (.inr (.inl ⟨h, h1, rfl, by rw [if_pos h, if_neg h1]; rfl, by rw [if_pos h, if_neg h1]; rfl⟩))
      · exact .inr (.inr (.inr ⟨h, h1, rfl, by rw [if_pos h, if_neg h1]; rfl, by rw [if_pos h, if_neg h1]; rfl⟩))
  · exact .inl ⟨h, by rw [if_neg h], by rw [if_neg h]⟩
theorem tsL_le (ax ay bx bY cx cy dx dy : Int) (so : Option Addr) (n cap : Nat) (N : Nat → ByteArray) (X Y S Z : Nat → Int) (n2 : Nat) (T U V : Nat → Int) : (tsL (isCo ax ay bx bY cx cy dx dy n N X Y S Z) (isTr n2 T U V) (lnA ax ay bx bY cx cy dx dy n X Y S Z) (lnB ax ay bx bY cx cy dx dy n X Y S Z) (lnC ax ay bx bY cx cy dx dy n X Y S Z) (lnD ax ay bx bY cx cy dx dy n X Y S Z) n2 T U V n).length ≤ n + 2 := by
  unfold tsL
  split
  · exact (tmS_len (lnA ax ay bx bY cx cy dx dy n X Y S Z) (lnB ax ay bx bY cx cy dx dy n X Y S Z) (lnC ax ay bx bY cx cy dx dy n X Y S Z) (lnD ax ay bx bY cx cy dx dy n X Y S Z) T U V n2 (n + 2)).1
  · exact Nat.zero_le _
theorem st_pt (ax ay bx bY cx cy dx dy : Int) (so : Option Addr) (n cap : Nat) (N : Nat → ByteArray) (X Y S Z : Nat → Int) {K : Nat} (hv : (isCo ax ay bx bY cx cy dx dy n N X Y S Z) = true) (hK : K < n + 2) : isPt (stA ((ax + bx) / 2) ((cx + dx) / 2) n X K) (stA ((ay + bY) / 2) ((cy + dy) / 2) n Y K) = true := by
  obtain ⟨g1, g2, h1, h8, hm⟩ := isCo_t hv
  by_cases e : K = 0
  · subst e
    have p1 := isPt_t (isSg_t g1).1
    have p2 := isPt_t (isSg_t g1).2.1
    unfold stA
    rw [if_pos rfl, if_pos rfl]
    simp [isPt, inB]; omega
  · by_cases e2 : K ≤ n
    · have := (isMk_t (hm (K - 1) (by omega))).2.1
      unfold stA
      rw [if_neg e, if_neg e, if_pos e2, if_pos e2]
      exact this
    · have p1 := isPt_t (isSg_t g2).1
      have p2 := isPt_t (isSg_t g2).2.1
      unfold stA
      rw [if_neg e, if_neg e, if_neg e2, if_neg e2]
      simp [isPt, inB]; omega
theorem cntL_step (L : List Int) (t : Int) (k : Nat) (x : Int) (h : x = lgt L k) : cntL L t (k + 1) = if x ≤ t then cntL L t k + 1 else cntL L t k := by subst h; rfl
set_option maxHeartbeats 4000000 in
theorem impl_reachedAt (L : List Int) (so : Option Addr) (g cp : Nat) (t : Int) (w : World) (hi : Inc L) (hl : L.length ≤ 100) (hs : L.length = 0 ∨ so = some ⟨g, 0, none⟩) (hc : ∀ j, j < L.length → w.cell? ⟨g, j, none⟩ = some (.int .i64 (lgt L j))) :
    Calls Tryz.prog 60 #[.slice so L.length cp, .int .i64 t] w fun e w' => e = .returned (.int .i64 ((cntL L t L.length : Nat) : Int)) ∧ w = w' := by
  have Hc := hide hc
  have Hi := hide hi
  obtain ⟨R, hR⟩ : ∃ R, R = cntL L t L.length := ⟨_, rfl⟩
  rw [← hR]
  have HR := hide hR
  clear hc hi hR
  go_enter Tryz.func60, Tryz.ntmps60
  go_wp2
  go_loop [5] (fun i => ∃ k : Nat, k ≤ L.length ∧ i = .int .i64 k ∧ Hid (∀ i, i < k → lgt L i ≤ t)) (fun i => L.length - (intOf i).toNat)
  case atStart => exact ⟨0, Nat.zero_le _, rfl, hide (fun i hi => absurd hi (Nat.not_lt_zero _))⟩
  case round =>
    obtain ⟨k, hk, rfl, HK⟩ := hrel
    have hk0 : (0 : Int) ≤ (k : Int) := by omega
    by_cases hlt : k < L.length
    · obtain rfl : so = some ⟨g, 0, none⟩ := hs.resolve_left (by omega)
      have c0 := Hc.out k hlt
      have hk1 : (k : Int) < (L.length : Int) := by omega
      obtain ⟨x, hx⟩ : ∃ x, x = lgt L k := ⟨_, rfl⟩
      rw [← hx] at c0
      by_cases hle : x ≤ t
      · have HK2 := hide (show ∀ i, i < k + 1 → lgt L i ≤ t from fun i hi => by
          rcases Nat.lt_or_ge i k with q | q
          · exact HK.out i q
          · obtain rfl : i = k := by omega
            rw [← hx]; exact hle)
        clear hx
        go_wp2
        go_round
        case rel => exact ⟨k + 1, by omega, by go_num, HK2⟩
        case measure => simp [intOf]; omega
      · have He := HR.out.trans (cntL_all Hi.out (t := t) hk HK.out (.inr (by rw [← hx]; omega)))
        subst He
        clear hx
        go_wp2
        go_ret
        exact ⟨rfl, rfl⟩
    · have He := HR.out.trans (cntL_all Hi.out (t := t) hk HK.out (.inl (by omega)))
      subst He
      go_wp2
      go_ret
      exact ⟨rfl, rfl⟩
set_option maxHeartbeats 4000000 in
theorem spec_l06Reached (L : List Int) (so : Option Addr) (g cp : Nat) (t : Int) (w : World) (hl : L.length ≤ 100) (hs : L.length = 0 ∨ so = some ⟨g, 0, none⟩) (hc : ∀ j, j < L.length → w.cell? ⟨g, j, none⟩ = some (.int .i64 (lgt L j))) :
    Calls Tryz.prog 55 #[.slice so L.length cp, .int .i64 t] w fun e w' => e = .returned (.int .i64 ((cntL L t L.length : Nat) : Int)) ∧ w = w' := by
  have Hc := hide hc
  obtain ⟨R, hR⟩ : ∃ R, R = cntL L t L.length := ⟨_, rfl⟩
  rw [← hR]
  have HR := hide hR
  clear hc hR
  go_enter Tryz.func55, Tryz.ntmps55
  go_wp2
  go_loop [5, 6] (fun c i => ∃ k m : Nat, k ≤ L.length ∧ m ≤ k ∧ i = .int .i64 k ∧ c = .int .i64 m ∧ Hid (m = cntL L t k)) (fun _ i => L.length - (intOf i).toNat)
  case atStart => exact ⟨0, 0, Nat.zero_le _, Nat.le_refl _, rfl, rfl, hide rfl⟩
  case round =>
    obtain ⟨k, m, hk, hm, rfl, rfl, HK⟩ := hrel
    have hk0 : (0 : Int) ≤ (k : Int) := by omega
    by_cases hlt : k < L.length
    · obtain rfl : so = some ⟨g, 0, none⟩ := hs.resolve_left (by omega)
      have c0 := Hc.out k hlt
      have hk1 : (k : Int) < (L.length : Int) := by omega
      obtain ⟨x, hx⟩ : ∃ x, x = lgt L k := ⟨_, rfl⟩
      rw [← hx] at c0
      have HS := hide (cntL_step L t k x hx)
      clear hx
      by_cases hle : x ≤ t
      · have HK2 := hide (show m + 1 = cntL L t (k + 1) by rw [HS.out, if_pos hle, ← HK.out])
        go_wp2
        go_round
        case rel => exact ⟨k + 1, m + 1, by omega, by omega, by go_num, by go_num, HK2⟩
        case measure => simp [intOf]; omega
      · have HK2 := hide (show m = cntL L t (k + 1) by rw [HS.out, if_neg hle, ← HK.out])
        go_wp2
        go_round
        case rel => exact ⟨k + 1, m, by omega, by omega, by go_num, rfl, HK2⟩
        case measure => simp [intOf]; omega
    · obtain rfl : k = L.length := by omega
      have He := HR.out.trans HK.out.symm
      subst He
      go_wp2
      go_ret
      exact ⟨rfl, rfl⟩
set_option maxRecDepth 100000 in
set_option maxHeartbeats 8000000 in
theorem impl_DistanceToNext (ax ay bx bY cx cy dx dy : Int) (so : Option Addr) (n cap : Nat) (N : Nat → ByteArray) (X Y S Z : Nat → Int) (so2 : Option Addr) (n2 cap2 : Nat) (T U V : Nat → Int) (t : Int) (w : World) (h : RowAt w so n 5 (v5 N X Y S Z)) (hn : n ≤ 1048576) (hcap : n ≤ cap) (h2 : RowAt w so2 n2 3 (v3 T U V)) (hn2 : n2 ≤ 1048576) :
    Calls Tryz.prog 25 #[.agg #[.int .i64 ax, .int .i64 ay, .int .i64 bx, .int .i64 bY, .int .i64 cx, .int .i64 cy, .int .i64 dx, .int .i64 dy, .slice so n cap], .agg #[.slice so2 n2 cap2], .int .i64 t] w fun e w' => e = .returned (.tuple #[.int .i64 (dnV (tsC (isCo ax ay bx bY cx cy dx dy n N X Y S Z) (isTr n2 T U V) (lnsOk (lnA ax ay bx bY cx cy dx dy n X Y S Z) (lnB ax ay bx bY cx cy dx dy n X Y S Z) (lnC ax ay bx bY cx cy dx dy n X Y S Z) (lnD ax ay bx bY cx cy dx dy n X Y S Z) (n + 1))) (tsL (isCo ax ay bx bY cx cy dx dy n N X Y S Z) (isTr n2 T U V) (lnA ax ay bx bY cx cy dx dy n X Y S Z) (lnB ax ay bx bY cx cy dx dy n X Y S Z) (lnC ax ay bx bY cx cy dx dy n X Y S Z) (lnD ax ay bx bY cx cy dx dy n X Y S Z) n2 T U V n) n t (inB t (T 0) (T (n2 - 1))) (fun K => rt (sq (posX n2 T U t) (posX n2 T V t) (stA ((ax + bx) / 2) ((cx + dx) / 2) n X K) (stA ((ay + bY) / 2) ((cy + dy) / 2) n Y K)))), .int .i64 (dnC (tsC (isCo ax ay bx bY cx cy dx dy n N X Y S Z) (isTr n2 T U V) (lnsOk (lnA ax ay bx bY cx cy dx dy n X Y S Z) (lnB ax ay bx bY cx cy dx dy n X Y S Z) (lnC ax ay bx bY cx cy dx dy n X Y S Z) (lnD ax ay bx bY cx cy dx dy n X Y S Z) (n + 1))) (tsL (isCo ax ay bx bY cx cy dx dy n N X Y S Z) (isTr n2 T U V) (lnA ax ay bx bY cx cy dx dy n X Y S Z) (lnB ax ay bx bY cx cy dx dy n X Y S Z) (lnC ax ay bx bY cx cy dx dy n X Y S Z) (lnD ax ay bx bY cx cy dx dy n X Y S Z) n2 T U V n) n t (inB t (T 0) (T (n2 - 1))))]) ∧ Below w.heap.size w w' := by
  have hinc := tsL_inc ax ay bx bY cx cy dx dy so n cap N X Y S Z n2 T U V
  have hlen := tsL_le ax ay bx bY cx cy dx dy so n cap N X Y S Z n2 T U V
  have KC := fun W (hb : Below w.heap.size w W) => impl_sailed ax ay bx bY cx cy dx dy so n cap N X Y S Z so2 n2 cap2 T U V W (RowAt.later hb h) hn hcap (RowAt.later hb h2) hn2
  rcases dn_cases (tsC (isCo ax ay bx bY cx cy dx dy n N X Y S Z) (isTr n2 T U V) (lnsOk (lnA ax ay bx bY cx cy dx dy n X Y S Z) (lnB ax ay bx bY cx cy dx dy n X Y S Z) (lnC ax ay bx bY cx cy dx dy n X Y S Z) (lnD ax ay bx bY cx cy dx dy n X Y S Z) (n + 1))) (tsL (isCo ax ay bx bY cx cy dx dy n N X Y S Z) (isTr n2 T U V) (lnA ax ay bx bY cx cy dx dy n X Y S Z) (lnB ax ay bx bY cx cy dx dy n X Y S Z) (lnC ax ay bx bY cx cy dx dy n X Y S Z) (lnD ax ay bx bY cx cy dx dy n X Y S Z) n2 T U V n) n t (inB t (T 0) (T (n2 - 1))) (fun K => rt (sq (posX n2 T U t) (posX n2 T V t) (stA ((ax + bx) / 2) ((cx + dx) / 2) n X K) (stA ((ay + bY) / 2) ((cy + dy) / 2) n Y K))) with ⟨z, hv, hc⟩ | hz
  · rw [hv, hc]
    generalize (tsC (isCo ax ay bx bY cx cy dx dy n N X Y S Z) (isTr n2 T U V) (lnsOk (lnA ax ay bx bY cx cy dx dy n X Y S Z) (lnB ax ay bx bY cx cy dx dy n X Y S Z) (lnC ax ay bx bY cx cy dx dy n X Y S Z) (lnD ax ay bx bY cx cy dx dy n X Y S Z) (n + 1))) = c9 at *
    have hcb : (c9 != 0) = true := bne_iff_ne.2 z
    generalize (tsL (isCo ax ay bx bY cx cy dx dy n N X Y S Z) (isTr n2 T U V) (lnA ax ay bx bY cx cy dx dy n X Y S Z) (lnB ax ay bx bY cx cy dx dy n X Y S Z) (lnC ax ay bx bY cx cy dx dy n X Y S Z) (lnD ax ay bx bY cx cy dx dy n X Y S Z) n2 T U V n) = Lx at *
    have KC := hide KC
    clear hv hc h h2 hinc hlen
    go_enter Tryz.func25, Tryz.ntmps25
    go_wp2_with fail; (with_reducible refine (KC.out _ bwz).mono ?_); rintro e wB ⟨so9, cpt, rfl, hown, hbB⟩
    clear hown
    go_wp2
    go_ret2
    exact ⟨rfl, bstep bwz hbB⟩
  have z : (tsC (isCo ax ay bx bY cx cy dx dy n N X Y S Z) (isTr n2 T U V) (lnsOk (lnA ax ay bx bY cx cy dx dy n X Y S Z) (lnB ax ay bx bY cx cy dx dy n X Y S Z) (lnC ax ay bx bY cx cy dx dy n X Y S Z) (lnD ax ay bx bY cx cy dx dy n X Y S Z) (n + 1))) = 0 := by rcases hz with k | k | k <;> exact k.1
  obtain ⟨hco, htr, hl⟩ := tsC_z z
  obtain ⟨g1, g2, _, hn8, _⟩ := isCo_t hco
  obtain ⟨hn2a, _, _⟩ := isTr_t htr
  obtain ⟨b2, o2, rfl, hb2, _, _, _⟩ := h2.at3 0 (by omega)
  rw [z] at KC
  have KL := fun W (hb : Below w.heap.size w W) => impl_lasts b2 o2 n2 cap2 T U V t W (RowAt.later hb h2) htr
  have KR := fun so g cp W hs hc => impl_reachedAt (tsL (isCo ax ay bx bY cx cy dx dy n N X Y S Z) (isTr n2 T U V) (lnA ax ay bx bY cx cy dx dy n X Y S Z) (lnB ax ay bx bY cx cy dx dy n X Y S Z) (lnC ax ay bx bY cx cy dx dy n X Y S Z) (lnD ax ay bx bY cx cy dx dy n X Y S Z) n2 T U V n) so g cp t W hinc (by omega) hs hc
  have hKS : ∃ K : Nat, K < n + 2 ∧ (¬ cntL (tsL (isCo ax ay bx bY cx cy dx dy n N X Y S Z) (isTr n2 T U V) (lnA ax ay bx bY cx cy dx dy n X Y S Z) (lnB ax ay bx bY cx cy dx dy n X Y S Z) (lnC ax ay bx bY cx cy dx dy n X Y S Z) (lnD ax ay bx bY cx cy dx dy n X Y S Z) n2 T U V n) t (tsL (isCo ax ay bx bY cx cy dx dy n N X Y S Z) (isTr n2 T U V) (lnA ax ay bx bY cx cy dx dy n X Y S Z) (lnB ax ay bx bY cx cy dx dy n X Y S Z) (lnC ax ay bx bY cx cy dx dy n X Y S Z) (lnD ax ay bx bY cx cy dx dy n X Y S Z) n2 T U V n).length = n + 2 → cntL (tsL (isCo ax ay bx bY cx cy dx dy n N X Y S Z) (isTr n2 T U V) (lnA ax ay bx bY cx cy dx dy n X Y S Z) (lnB ax ay bx bY cx cy dx dy n X Y S Z) (lnC ax ay bx bY cx cy dx dy n X Y S Z) (lnD ax ay bx bY cx cy dx dy n X Y S Z) n2 T U V n) t (tsL (isCo ax ay bx bY cx cy dx dy n N X Y S Z) (isTr n2 T U V) (lnA ax ay bx bY cx cy dx dy n X Y S Z) (lnB ax ay bx bY cx cy dx dy n X Y S Z) (lnC ax ay bx bY cx cy dx dy n X Y S Z) (lnD ax ay bx bY cx cy dx dy n X Y S Z) n2 T U V n).length = K) := by
    have := cntL_le (tsL (isCo ax ay bx bY cx cy dx dy n N X Y S Z) (isTr n2 T U V) (lnA ax ay bx bY cx cy dx dy n X Y S Z) (lnB ax ay bx bY cx cy dx dy n X Y S Z) (lnC ax ay bx bY cx cy dx dy n X Y S Z) (lnD ax ay bx bY cx cy dx dy n X Y S Z) n2 T U V n) t (tsL (isCo ax ay bx bY cx cy dx dy n N X Y S Z) (isTr n2 T U V) (lnA ax ay bx bY cx cy dx dy n X Y S Z) (lnB ax ay bx bY cx cy dx dy n X Y S Z) (lnC ax ay bx bY cx cy dx dy n X Y S Z) (lnD ax ay bx bY cx cy dx dy n X Y S Z) n2 T U V n).length
    by_cases e : cntL (tsL (isCo ax ay bx bY cx cy dx dy n N X Y S Z) (isTr n2 T U V) (lnA ax ay bx bY cx cy dx dy n X Y S Z) (lnB ax ay bx bY cx cy dx dy n X Y S Z) (lnC ax ay bx bY cx cy dx dy n X Y S Z) (lnD ax ay bx bY cx cy dx dy n X Y S Z) n2 T U V n) t (tsL (isCo ax ay bx bY cx cy dx dy n N X Y S Z) (isTr n2 T U V) (lnA ax ay bx bY cx cy dx dy n X Y S Z) (lnB ax ay bx bY cx cy dx dy n X Y S Z) (lnC ax ay bx bY cx cy dx dy n X Y S Z) (lnD ax ay bx bY cx cy dx dy n X Y S Z) n2 T U V n).length = n + 2
    · exact ⟨0, by omega, fun k => absurd e k⟩
    · exact ⟨_, by omega, fun _ => rfl⟩
  obtain ⟨K, hK, hKe⟩ := hKS
  have KS := fun W (hb : Below w.heap.size w W) => impl_stationsOf_at ax ay bx bY cx cy dx dy so n cap N X Y S Z K W (RowAt.later hb h) hn8 g1 g2 hK
  have hst := st_pt ax ay bx bY cx cy dx dy so n cap N X Y S Z hco hK
  have hq0 : ∀ q : Nat, cntL (tsL (isCo ax ay bx bY cx cy dx dy n N X Y S Z) (isTr n2 T U V) (lnA ax ay bx bY cx cy dx dy n X Y S Z) (lnB ax ay bx bY cx cy dx dy n X Y S Z) (lnC ax ay bx bY cx cy dx dy n X Y S Z) (lnD ax ay bx bY cx cy dx dy n X Y S Z) n2 T U V n) t (tsL (isCo ax ay bx bY cx cy dx dy n N X Y S Z) (isTr n2 T U V) (lnA ax ay bx bY cx cy dx dy n X Y S Z) (lnB ax ay bx bY cx cy dx dy n X Y S Z) (lnC ax ay bx bY cx cy dx dy n X Y S Z) (lnD ax ay bx bY cx cy dx dy n X Y S Z) n2 T U V n).length = q → q ≤ n + 2 := fun q e => by have := cntL_le (tsL (isCo ax ay bx bY cx cy dx dy n N X Y S Z) (isTr n2 T U V) (lnA ax ay bx bY cx cy dx dy n X Y S Z) (lnB ax ay bx bY cx cy dx dy n X Y S Z) (lnC ax ay bx bY cx cy dx dy n X Y S Z) (lnD ax ay bx bY cx cy dx dy n X Y S Z) n2 T U V n) t (tsL (isCo ax ay bx bY cx cy dx dy n N X Y S Z) (isTr n2 T U V) (lnA ax ay bx bY cx cy dx dy n X Y S Z) (lnB ax ay bx bY cx cy dx dy n X Y S Z) (lnC ax ay bx bY cx cy dx dy n X Y S Z) (lnD ax ay bx bY cx cy dx dy n X Y S Z) n2 T U V n).length; omega
  obtain ⟨m, hm9⟩ : ∃ m : Nat, m = n + 2 := ⟨_, rfl⟩
  have wn : IntKind.i64.wrap ((n : Int) + 2) = (m : Int) := by rw [hm9]; exact IntWalk.i64_in _ (by omega)
  rw [← hm9] at KS
  rcases hz with ⟨_, q, hv, hc⟩ | ⟨_, q, ti, hv, hc⟩ | ⟨_, q, ti, hv, hc⟩
  · rw [hv, hc]
    rw [q, ← hm9] at KR
    clear hKe hq0 q hv hc hinc 
    generalize (tsL (isCo ax ay bx bY cx cy dx dy n N X Y S Z) (isTr n2 T U V) (lnA ax ay bx bY cx cy dx dy n X Y S Z) (lnB ax ay bx bY cx cy dx dy n X Y S Z) (lnC ax ay bx bY cx cy dx dy n X Y S Z) (lnD ax ay bx bY cx cy dx dy n X Y S Z) n2 T U V n) = Lx at *
    have KC := hide KC
    have KL := hide KL
    have KR := hide KR
    have KS := hide KS
    have hK0 : (0 : Int) ≤ (K : Int) := by omega
    have hKm : (K : Int) < (m : Int) := by omega
    clear hco htr hl z g1 g2 h h2 hn hn2 hm9 hst
    go_enter Tryz.func25, Tryz.ntmps25
    go_wp2_with fail; (with_reducible refine (KC.out _ bwz).mono ?_); rintro e wB ⟨so9, cpt, rfl, hown, hbB⟩
    obtain ⟨gz, hgz, hcz⟩ := OwZ.gets (OwZ.of hown)
    have hso : Lx.length = 0 ∨ so9 = some ⟨gz, 0, none⟩ := hgz.imp id (·.1)
    have HCZ := hide hcz
    have zB := hbB.size
    simp only [size_al] at zB
    have c8 : wB.cell? ⟨w.heap.size, 8, none⟩ = some (.slice so n cap) := cell_later hbB (by go_simp)
    have t0 : wB.cell? ⟨w.heap.size + 1, 0, none⟩ = some (.slice (some ⟨b2, o2, none⟩) n2 cap2) := cell_later hbB (by go_simp)
    have c0 : wB.cell? ⟨w.heap.size, 0, none⟩ = some (.int .i64 ax) := cell_later hbB (by go_simp)
    have c1 : wB.cell? ⟨w.heap.size, 1, none⟩ = some (.int .i64 ay) := cell_later hbB (by go_simp)
    have c2 : wB.cell? ⟨w.heap.size, 2, none⟩ = some (.int .i64 bx) := cell_later hbB (by go_simp)
    have c3 : wB.cell? ⟨w.heap.size, 3, none⟩ = some (.int .i64 bY) := cell_later hbB (by go_simp)
    have c4 : wB.cell? ⟨w.heap.size, 4, none⟩ = some (.int .i64 cx) := cell_later hbB (by go_simp)
    have c5 : wB.cell? ⟨w.heap.size, 5, none⟩ = some (.int .i64 cy) := cell_later hbB (by go_simp)
    have c6 : wB.cell? ⟨w.heap.size, 6, none⟩ = some (.int .i64 dx) := cell_later hbB (by go_simp)
    have c7 : wB.cell? ⟨w.heap.size, 7, none⟩ = some (.int .i64 dy) := cell_later hbB (by go_simp)
    have HB := hide (bstep (show Below w.heap.size w _ from bwz) hbB)
    have hz0 : w.heap.size < wB.heap.size := by omega
    have hz1 : w.heap.size + 1 < wB.heap.size := by omega
    clear hown hgz hcz hbB KC
    go_wp2_with fail; (with_reducible refine (KR.out _ gz _ _ hso HCZ.out).mono ?_); rintro e wR ⟨rfl, rfl⟩
    clear KR HCZ hso
    go_wp2
    go_ret2
    exact ⟨rfl, HB.out⟩
  · rw [hv, hc]
    have e := hKe q
    rw [e] at KR
    rw [ti] at KL
    have hne : ((K : Int) == (m : Int)) = false := beq_eq_false_iff_ne.2 (by rw [hm9]; omega)
    have hne2 : ¬ (K : Int) = (m : Int) := by rw [hm9]; omega
    have hne3 : ¬ K = m := by omega
    clear hKe hq0 q hv hc hinc e ti
    generalize (tsL (isCo ax ay bx bY cx cy dx dy n N X Y S Z) (isTr n2 T U V) (lnA ax ay bx bY cx cy dx dy n X Y S Z) (lnB ax ay bx bY cx cy dx dy n X Y S Z) (lnC ax ay bx bY cx cy dx dy n X Y S Z) (lnD ax ay bx bY cx cy dx dy n X Y S Z) n2 T U V n) = Lx at *
    have KC := hide KC
    have KL := hide KL
    have KR := hide KR
    have KS := hide KS
    have hK0 : (0 : Int) ≤ (K : Int) := by omega
    have hKm : (K : Int) < (m : Int) := by omega
    clear hco htr hl z g1 g2 h h2 hn hn2 hm9 hst
    go_enter Tryz.func25, Tryz.ntmps25
    go_wp2_with fail; (with_reducible refine (KC.out _ bwz).mono ?_); rintro e wB ⟨so9, cpt, rfl, hown, hbB⟩
    obtain ⟨gz, hgz, hcz⟩ := OwZ.gets (OwZ.of hown)
    have hso : Lx.length = 0 ∨ so9 = some ⟨gz, 0, none⟩ := hgz.imp id (·.1)
    have HCZ := hide hcz
    have zB := hbB.size
    simp only [size_al] at zB
    have c8 : wB.cell? ⟨w.heap.size, 8, none⟩ = some (.slice so n cap) := cell_later hbB (by go_simp)
    have t0 : wB.cell? ⟨w.heap.size + 1, 0, none⟩ = some (.slice (some ⟨b2, o2, none⟩) n2 cap2) := cell_later hbB (by go_simp)
    have c0 : wB.cell? ⟨w.heap.size, 0, none⟩ = some (.int .i64 ax) := cell_later hbB (by go_simp)
    have c1 : wB.cell? ⟨w.heap.size, 1, none⟩ = some (.int .i64 ay) := cell_later hbB (by go_simp)
    have c2 : wB.cell? ⟨w.heap.size, 2, none⟩ = some (.int .i64 bx) := cell_later hbB (by go_simp)
    have c3 : wB.cell? ⟨w.heap.size, 3, none⟩ = some (.int .i64 bY) := cell_later hbB (by go_simp)
    have c4 : wB.cell? ⟨w.heap.size, 4, none⟩ = some (.int .i64 cx) := cell_later hbB (by go_simp)
    have c5 : wB.cell? ⟨w.heap.size, 5, none⟩ = some (.int .i64 cy) := cell_later hbB (by go_simp)
    have c6 : wB.cell? ⟨w.heap.size, 6, none⟩ = some (.int .i64 dx) := cell_later hbB (by go_simp)
    have c7 : wB.cell? ⟨w.heap.size, 7, none⟩ = some (.int .i64 dy) := cell_later hbB (by go_simp)
    have HB := hide (bstep (show Below w.heap.size w _ from bwz) hbB)
    have hz0 : w.heap.size < wB.heap.size := by omega
    have hz1 : w.heap.size + 1 < wB.heap.size := by omega
    clear hown hgz hcz hbB KC
    go_wp2_with fail; (with_reducible refine (KR.out _ gz _ _ hso HCZ.out).mono ?_); rintro e wR ⟨rfl, rfl⟩
    clear KR HCZ hso
    go_wp2_with fail; (with_reducible refine (KL.out _ HB.out).mono ?_); rintro e wL ⟨rfl, hbL⟩
    go_wp2
    go_ret2
    exact ⟨rfl, bstep HB.out hbL⟩
  · rw [hv, hc]
    have e := hKe q
    rw [e] at KR
    rw [e]
    rw [ti] at KL
    have hne : ((K : Int) == (m : Int)) = false := beq_eq_false_iff_ne.2 (by rw [hm9]; omega)
    have hne2 : ¬ (K : Int) = (m : Int) := by rw [hm9]; omega
    have hne3 : ¬ K = m := by omega
    have hps := posX_pt htr ti
    have KP := fun W (hb : Below w.heap.size w W) => impl_positionAt b2 o2 n2 cap2 T U V t W (RowAt.later hb h2) htr ti
    clear hKe hq0 q hv hc hinc e ti
    generalize (tsL (isCo ax ay bx bY cx cy dx dy n N X Y S Z) (isTr n2 T U V) (lnA ax ay bx bY cx cy dx dy n X Y S Z) (lnB ax ay bx bY cx cy dx dy n X Y S Z) (lnC ax ay bx bY cx cy dx dy n X Y S Z) (lnD ax ay bx bY cx cy dx dy n X Y S Z) n2 T U V n) = Lx at *
    obtain ⟨s1, s2⟩ := pt_sm hps
    obtain ⟨s3, s4⟩ := pt_sm hst
    obtain ⟨d1, d2⟩ := sq_pt hps hst
    have KQ := fun W => impl_squareDistance _ _ _ _ s1 s2 s3 s4 W
    have KT := fun W => impl_rootOf _ d1 (by omega) W
    clear s1 s2 s3 s4 d1 d2 hps hst
    generalize (stA ((ax + bx) / 2) ((cx + dx) / 2) n X K) = px at *
    generalize (stA ((ay + bY) / 2) ((cy + dy) / 2) n Y K) = py at *
    generalize posX n2 T U t = p1 at *
    generalize posX n2 T V t = p2 at *
    obtain ⟨v9, hv9⟩ : ∃ v, v = sq p1 p2 px py := ⟨_, rfl⟩
    show _
    rw [← hv9] at KQ KT
    obtain ⟨r9, hr9⟩ : ∃ r, r = rt v9 := ⟨_, rfl⟩
    have hgoal : rt (sq p1 p2 px py) = r9 := by rw [← hv9, hr9]
    rw [hgoal]
    rw [← hr9] at KT
    have KQ := hide KQ
    have KT := hide KT
    have KP := hide KP
    clear hgoal hv9 hr9
    have KC := hide KC
    have KL := hide KL
    have KR := hide KR
    have KS := hide KS
    have hK0 : (0 : Int) ≤ (K : Int) := by omega
    have hKm : (K : Int) < (m : Int) := by omega
    clear hco htr hl z g1 g2 h h2 hn hn2 hm9 
    go_enter Tryz.func25, Tryz.ntmps25
    go_wp2_with fail; (with_reducible refine (KC.out _ bwz).mono ?_); rintro e wB ⟨so9, cpt, rfl, hown, hbB⟩
    obtain ⟨gz, hgz, hcz⟩ := OwZ.gets (OwZ.of hown)
    have hso : Lx.length = 0 ∨ so9 = some ⟨gz, 0, none⟩ := hgz.imp id (·.1)
    have HCZ := hide hcz
    have zB := hbB.size
    simp only [size_al] at zB
    have c8 : wB.cell? ⟨w.heap.size, 8, none⟩ = some (.slice so n cap) := cell_later hbB (by go_simp)
    have t0 : wB.cell? ⟨w.heap.size + 1, 0, none⟩ = some (.slice (some ⟨b2, o2, none⟩) n2 cap2) := cell_later hbB (by go_simp)
    have c0 : wB.cell? ⟨w.heap.size, 0, none⟩ = some (.int .i64 ax) := cell_later hbB (by go_simp)
    have c1 : wB.cell? ⟨w.heap.size, 1, none⟩ = some (.int .i64 ay) := cell_later hbB (by go_simp)
    have c2 : wB.cell? ⟨w.heap.size, 2, none⟩ = some (.int .i64 bx) := cell_later hbB (by go_simp)
    have c3 : wB.cell? ⟨w.heap.size, 3, none⟩ = some (.int .i64 bY) := cell_later hbB (by go_simp)
    have c4 : wB.cell? ⟨w.heap.size, 4, none⟩ = some (.int .i64 cx) := cell_later hbB (by go_simp)
    have c5 : wB.cell? ⟨w.heap.size, 5, none⟩ = some (.int .i64 cy) := cell_later hbB (by go_simp)
    have c6 : wB.cell? ⟨w.heap.size, 6, none⟩ = some (.int .i64 dx) := cell_later hbB (by go_simp)
    have c7 : wB.cell? ⟨w.heap.size, 7, none⟩ = some (.int .i64 dy) := cell_later hbB (by go_simp)
    have HB := hide (bstep (show Below w.heap.size w _ from bwz) hbB)
    have hz0 : w.heap.size < wB.heap.size := by omega
    have hz1 : w.heap.size + 1 < wB.heap.size := by omega
    clear hown hgz hcz hbB KC
    go_wp2_with fail; (with_reducible refine (KR.out _ gz _ _ hso HCZ.out).mono ?_); rintro e wR ⟨rfl, rfl⟩
    clear KR HCZ hso
    go_wp2_with fail; (with_reducible refine (KL.out _ HB.out).mono ?_); rintro e wL ⟨rfl, hbL⟩
    have HL := hide (bstep HB.out hbL)
    have k8 := cell_later hbL c8
    have k9 := cell_later hbL t0
    have k0 := cell_later hbL c0
    have k1 := cell_later hbL c1
    have k2 := cell_later hbL c2
    have k3 := cell_later hbL c3
    have k4 := cell_later hbL c4
    have k5 := cell_later hbL c5
    have k6 := cell_later hbL c6
    have k7 := cell_later hbL c7
    have zL := hbL.size
    have zL0 : w.heap.size < wL.heap.size := by omega
    have zL1 : w.heap.size + 1 < wL.heap.size := by omega
    clear hbL HB KL t0 c0 c1 c2 c3 c4 c5 c6 c7 c8
    go_upto_region 9 with fail
    refine wp_region_held_drew (S := fun W => Below wL.heap.size wL W) (by kernel_rfl) (Below.drew (by first | with_reducible exact Below.refl _ _ | with_reducible exact below_drewN (Below.refl _ _) _)) (fun hHeld => ?_)
    refine tkL 0 (some 33) rfl ?_; (try simp only [pz])
    refine tkN 1 (some 34) rfl ?_; (try simp only [pz])
    refine tkL 3 (some 36) rfl ?_; (try simp only [pz])
    refine tkN 5 (some 38) rfl ?_; (try simp only [pz])
    refine wpAnyH_inv2 (fuel := 0) [2, 4, 6, 7, 8, 9, 10, 11] [] [35, 37, 39, 40, 41, 42, 6, 7] (fun uT L W => Below wL.heap.size wL W ∧ (L 2 → (uT 35) = (.agg #[.int .i64 p1, .int .i64 p2])) ∧ (L 4 → FPRow m K (.int .i64 px) (.int .i64 py) (uT 37) W) ∧ (L 6 → FPAddr (.int .i64 px) (.int .i64 py) (uT 39) W) ∧ (L 7 → (uT 40) = (.agg #[.int .i64 px, .int .i64 py])) ∧ (L 8 → (uT 41) = (.int .i64 v9)) ∧ (L 9 → (uT 42) = (.int .i64 r9)) ∧ (L 10 → (uT 6) = (.int .i64 r9)) ∧ (L 11 → (uT 7) = (.int .i64 0)) ∧ True) (by decide) (by kernel_rfl) (by kernel_rfl) (by intro _ _ _ _ _ h; exact h) (fun uT L W hJ => hJ.1) (fun uT L hL => ⟨hHeld, fun k => absurd k (hL 2 (by decide)), fun k => absurd k (hL 4 (by decide)), fun k => absurd k (hL 6 (by decide)), fun k => absurd k (hL 7 (by decide)), fun k => absurd k (hL 8 (by decide)), fun k => absurd k (hL 9 (by decide)), fun k => absurd k (hL 10 (by decide)), fun k => absurd k (hL 11 (by decide)), trivial⟩) ?_ ?_ ?_
    · refine StepsH.cons (d := 35) (o := ⟨some 35, _, _, _, _, _⟩) rfl rfl (by kernel_rfl) ?_ ?_
      rotate_left
      refine StepsH.cons (d := 37) (o := ⟨some 37, _, _, _, _, _⟩) rfl rfl (by kernel_rfl) ?_ ?_
      rotate_left
      refine StepsH.cons (d := 39) (o := ⟨some 39, _, _, _, _, _⟩) rfl rfl (by kernel_rfl) ?_ ?_
      rotate_left
      refine StepsH.cons (d := 40) (o := ⟨some 40, _, _, _, _, _⟩) rfl rfl (by kernel_rfl) ?_ ?_
      rotate_left
      refine StepsH.cons (d := 41) (o := ⟨some 41, _, _, _, _, _⟩) rfl rfl (by kernel_rfl) ?_ ?_
      rotate_left
      refine StepsH.cons (d := 42) (o := ⟨some 42, _, _, _, _, _⟩) rfl rfl (by kernel_rfl) ?_ ?_
      rotate_left
      refine StepsH.cons (d := 6) (o := ⟨some 6, _, _, _, _, _⟩) rfl rfl (by kernel_rfl) ?_ ?_
      rotate_left
      refine StepsH.cons (d := 7) (o := ⟨some 7, _, _, _, _, _⟩) rfl rfl (by kernel_rfl) ?_ ?_
      rotate_left
      exact StepsH.nil
      · intro uT L W hn hd hJ
        obtain ⟨hk, f35, f37, f39, f40, f41, f42, f6, f7, _⟩ := hJ
        intro K hK
        simp only [puts, pz]
        go_simp; (first | (go_at_call 64; (with_reducible refine (KP.out _ (bstep HL.out hk)).mono ?_); rintro e w9 ⟨rfl, hb⟩) | (go_at_call 65; (with_reducible refine (KS.out _ (bstep HL.out hk)).mono ?_); rintro e w9 ⟨b9, c9, rfl, hl9, hp9, hq9, hb⟩) | (go_at_call 63; (with_reducible refine (KQ.out _).mono ?_); rintro e w9 ⟨rfl, hb⟩) | (go_at_call 62; (with_reducible refine (KT.out _).mono ?_); rintro e w9 ⟨rfl, rfl⟩))
        all_goals (try go_wp2_with fail)
        all_goals
          apply Shut.go4 (W := W) hK
          · simp only [puts, pz]; rfl
          · first | with_reducible assumption | with_reducible exact Below.refl _ _ | exact Below.alloc (Below.refl _ _) (Nat.le_refl _) _
          · intro hb; exact ⟨bstep hk hb, fun _ => upd_same _ _ _, fun k => by rw [upd_ne uT _ (by decide)]; exact FPRow.later hb (f37 (k.resolve_left (by decide))), fun k => by rw [upd_ne uT _ (by decide)]; exact FPAddr.later hb (f39 (k.resolve_left (by decide))), fun k => by rw [upd_ne uT _ (by decide)]; exact (f40 (k.resolve_left (by decide))), fun k => by rw [upd_ne uT _ (by decide)]; exact (f41 (k.resolve_left (by decide))), fun k => by rw [upd_ne uT _ (by decide)]; exact (f42 (k.resolve_left (by decide))), fun k => by rw [upd_ne uT _ (by decide)]; exact (f6 (k.resolve_left (by decide))), fun k => by rw [upd_ne uT _ (by decide)]; exact (f7 (k.resolve_left (by decide))), trivial⟩
      · intro uT L W hn hd hJ
        obtain ⟨hk, f35, f37, f39, f40, f41, f42, f6, f7, _⟩ := hJ
        intro K hK
        simp only [puts, pz]
        go_simp; (first | (go_at_call 64; (with_reducible refine (KP.out _ (bstep HL.out hk)).mono ?_); rintro e w9 ⟨rfl, hb⟩) | (go_at_call 65; (with_reducible refine (KS.out _ (bstep HL.out hk)).mono ?_); rintro e w9 ⟨b9, c9, rfl, hl9, hp9, hq9, hb⟩) | (go_at_call 63; (with_reducible refine (KQ.out _).mono ?_); rintro e w9 ⟨rfl, hb⟩) | (go_at_call 62; (with_reducible refine (KT.out _).mono ?_); rintro e w9 ⟨rfl, rfl⟩))
        all_goals (try go_wp2_with fail)
        all_goals
          apply Shut.go4 (W := W) hK
          · simp only [puts, pz]; rfl
          · first | with_reducible assumption | with_reducible exact Below.refl _ _ | exact Below.alloc (Below.refl _ _) (Nat.le_refl _) _
          · intro hb; exact ⟨bstep hk hb, fun k => by rw [upd_ne uT _ (by decide)]; exact (f35 (k.resolve_left (by decide))), fun _ => by rw [upd_same]; exact ⟨b9, c9, rfl, hl9, hp9, hq9⟩, fun k => by rw [upd_ne uT _ (by decide)]; exact FPAddr.later hb (f39 (k.resolve_left (by decide))), fun k => by rw [upd_ne uT _ (by decide)]; exact (f40 (k.resolve_left (by decide))), fun k => by rw [upd_ne uT _ (by decide)]; exact (f41 (k.resolve_left (by decide))), fun k => by rw [upd_ne uT _ (by decide)]; exact (f42 (k.resolve_left (by decide))), fun k => by rw [upd_ne uT _ (by decide)]; exact (f6 (k.resolve_left (by decide))), fun k => by rw [upd_ne uT _ (by decide)]; exact (f7 (k.resolve_left (by decide))), trivial⟩
      · intro uT L W hn hd hJ
        obtain ⟨hk, f35, f37, f39, f40, f41, f42, f6, f7, _⟩ := hJ
        obtain ⟨b37, c37, e37, lb37, cb37, cd37⟩ := f37 (hd 4 (by kernel_rfl))
        intro K hK
        simp only [puts, pz, e37]
        go_simp
        all_goals (try go_wp2_with fail)
        all_goals
          apply Shut.go4 (W := W) hK
          · simp only [puts, pz, e37]; rfl
          · first | with_reducible assumption | with_reducible exact Below.refl _ _ | exact Below.alloc (Below.refl _ _) (Nat.le_refl _) _
          · intro hb; exact ⟨bstep hk hb, fun k => by rw [upd_ne uT _ (by decide)]; exact (f35 (k.resolve_left (by decide))), fun k => by rw [upd_ne uT _ (by decide)]; exact FPRow.later hb (f37 (k.resolve_left (by decide))), fun _ => by rw [upd_same]; exact ⟨_, _, rfl, lb37, (by first | exact cb37 | simpa using cb37), (by first | exact cd37 | simpa using cd37)⟩, fun k => by rw [upd_ne uT _ (by decide)]; exact (f40 (k.resolve_left (by decide))), fun k => by rw [upd_ne uT _ (by decide)]; exact (f41 (k.resolve_left (by decide))), fun k => by rw [upd_ne uT _ (by decide)]; exact (f42 (k.resolve_left (by decide))), fun k => by rw [upd_ne uT _ (by decide)]; exact (f6 (k.resolve_left (by decide))), fun k => by rw [upd_ne uT _ (by decide)]; exact (f7 (k.resolve_left (by decide))), trivial⟩
      · intro uT L W hn hd hJ
        obtain ⟨hk, f35, f37, f39, f40, f41, f42, f6, f7, _⟩ := hJ
        obtain ⟨b39, o39, e39, lb39, cb39, cd39⟩ := f39 (hd 6 (by kernel_rfl))
        intro K hK
        simp only [puts, pz, e39]
        go_simp
        all_goals (try go_wp2_with fail)
        all_goals
          apply Shut.go4 (W := W) hK
          · simp only [puts, pz, e39]; rfl
          · first | with_reducible assumption | with_reducible exact Below.refl _ _ | exact Below.alloc (Below.refl _ _) (Nat.le_refl _) _
          · intro hb; exact ⟨bstep hk hb, fun k => by rw [upd_ne uT _ (by decide)]; exact (f35 (k.resolve_left (by decide))), fun k => by rw [upd_ne uT _ (by decide)]; exact FPRow.later hb (f37 (k.resolve_left (by decide))), fun k => by rw [upd_ne uT _ (by decide)]; exact FPAddr.later hb (f39 (k.resolve_left (by decide))), fun _ => upd_same _ _ _, fun k => by rw [upd_ne uT _ (by decide)]; exact (f41 (k.resolve_left (by decide))), fun k => by rw [upd_ne uT _ (by decide)]; exact (f42 (k.resolve_left (by decide))), fun k => by rw [upd_ne uT _ (by decide)]; exact (f6 (k.resolve_left (by decide))), fun k => by rw [upd_ne uT _ (by decide)]; exact (f7 (k.resolve_left (by decide))), trivial⟩
      · intro uT L W hn hd hJ
        obtain ⟨hk, f35, f37, f39, f40, f41, f42, f6, f7, _⟩ := hJ
        obtain e35 := f35 (hd 2 (by kernel_rfl))
        obtain e40 := f40 (hd 7 (by kernel_rfl))
        intro K hK
        simp only [puts, pz, e35, e40]
        go_simp; (first | (go_at_call 64; (with_reducible refine (KP.out _ (bstep HL.out hk)).mono ?_); rintro e w9 ⟨rfl, hb⟩) | (go_at_call 65; (with_reducible refine (KS.out _ (bstep HL.out hk)).mono ?_); rintro e w9 ⟨b9, c9, rfl, hl9, hp9, hq9, hb⟩) | (go_at_call 63; (with_reducible refine (KQ.out _).mono ?_); rintro e w9 ⟨rfl, hb⟩) | (go_at_call 62; (with_reducible refine (KT.out _).mono ?_); rintro e w9 ⟨rfl, rfl⟩))
        all_goals (try go_wp2_with fail)
        all_goals
          apply Shut.go4 (W := W) hK
          · simp only [puts, pz, e35, e40]; rfl
          · first | with_reducible assumption | with_reducible exact Below.refl _ _ | exact Below.alloc (Below.refl _ _) (Nat.le_refl _) _
          · intro hb; exact ⟨bstep hk hb, fun k => by rw [upd_ne uT _ (by decide)]; exact (f35 (k.resolve_left (by decide))), fun k => by rw [upd_ne uT _ (by decide)]; exact FPRow.later hb (f37 (k.resolve_left (by decide))), fun k => by rw [upd_ne uT _ (by decide)]; exact FPAddr.later hb (f39 (k.resolve_left (by decide))), fun k => by rw [upd_ne uT _ (by decide)]; exact (f40 (k.resolve_left (by decide))), fun _ => upd_same _ _ _, fun k => by rw [upd_ne uT _ (by decide)]; exact (f42 (k.resolve_left (by decide))), fun k => by rw [upd_ne uT _ (by decide)]; exact (f6 (k.resolve_left (by decide))), fun k => by rw [upd_ne uT _ (by decide)]; exact (f7 (k.resolve_left (by decide))), trivial⟩
      · intro uT L W hn hd hJ
        obtain ⟨hk, f35, f37, f39, f40, f41, f42, f6, f7, _⟩ := hJ
        obtain e41 := f41 (hd 8 (by kernel_rfl))
        intro K hK
        simp only [puts, pz, e41]
        go_simp; (first | (go_at_call 64; (with_reducible refine (KP.out _ (bstep HL.out hk)).mono ?_); rintro e w9 ⟨rfl, hb⟩) | (go_at_call 65; (with_reducible refine (KS.out _ (bstep HL.out hk)).mono ?_); rintro e w9 ⟨b9, c9, rfl, hl9, hp9, hq9, hb⟩) | (go_at_call 63; (with_reducible refine (KQ.out _).mono ?_); rintro e w9 ⟨rfl, hb⟩) | (go_at_call 62; (with_reducible refine (KT.out _).mono ?_); rintro e w9 ⟨rfl, rfl⟩))
        all_goals (try go_wp2_with fail)
        all_goals
          apply Shut.go4 (W := W) hK
          · simp only [puts, pz, e41]; rfl
          · first | with_reducible assumption | with_reducible exact Below.refl _ _ | exact Below.alloc (Below.refl _ _) (Nat.le_refl _) _
          · intro hb; exact ⟨bstep hk hb, fun k => by rw [upd_ne uT _ (by decide)]; exact (f35 (k.resolve_left (by decide))), fun k => by rw [upd_ne uT _ (by decide)]; exact FPRow.later hb (f37 (k.resolve_left (by decide))), fun k => by rw [upd_ne uT _ (by decide)]; exact FPAddr.later hb (f39 (k.resolve_left (by decide))), fun k => by rw [upd_ne uT _ (by decide)]; exact (f40 (k.resolve_left (by decide))), fun k => by rw [upd_ne uT _ (by decide)]; exact (f41 (k.resolve_left (by decide))), fun _ => upd_same _ _ _, fun k => by rw [upd_ne uT _ (by decide)]; exact (f6 (k.resolve_left (by decide))), fun k => by rw [upd_ne uT _ (by decide)]; exact (f7 (k.resolve_left (by decide))), trivial⟩
      · intro uT L W hn hd hJ
        obtain ⟨hk, f35, f37, f39, f40, f41, f42, f6, f7, _⟩ := hJ
        obtain e42 := f42 (hd 9 (by kernel_rfl))
        intro K hK
        simp only [puts, pz, e42]
        go_simp
        all_goals (try go_wp2_with fail)
        all_goals
          apply Shut.go4 (W := W) hK
          · simp only [puts, pz, e42]; rfl
          · first | with_reducible assumption | with_reducible exact Below.refl _ _ | exact Below.alloc (Below.refl _ _) (Nat.le_refl _) _
          · intro hb; exact ⟨bstep hk hb, fun k => by rw [upd_ne uT _ (by decide)]; exact (f35 (k.resolve_left (by decide))), fun k => by rw [upd_ne uT _ (by decide)]; exact FPRow.later hb (f37 (k.resolve_left (by decide))), fun k => by rw [upd_ne uT _ (by decide)]; exact FPAddr.later hb (f39 (k.resolve_left (by decide))), fun k => by rw [upd_ne uT _ (by decide)]; exact (f40 (k.resolve_left (by decide))), fun k => by rw [upd_ne uT _ (by decide)]; exact (f41 (k.resolve_left (by decide))), fun k => by rw [upd_ne uT _ (by decide)]; exact (f42 (k.resolve_left (by decide))), fun _ => upd_same _ _ _, fun k => by rw [upd_ne uT _ (by decide)]; exact (f7 (k.resolve_left (by decide))), trivial⟩
      · intro uT L W hn hd hJ
        obtain ⟨hk, f35, f37, f39, f40, f41, f42, f6, f7, _⟩ := hJ
        intro K hK
        simp only [puts, pz]
        go_simp
        all_goals (try go_wp2_with fail)
        all_goals
          apply Shut.go4 (W := W) hK
          · simp only [puts, pz]; rfl
          · first | with_reducible assumption | with_reducible exact Below.refl _ _ | exact Below.alloc (Below.refl _ _) (Nat.le_refl _) _
          · intro hb; exact ⟨bstep hk hb, fun k => by rw [upd_ne uT _ (by decide)]; exact (f35 (k.resolve_left (by decide))), fun k => by rw [upd_ne uT _ (by decide)]; exact FPRow.later hb (f37 (k.resolve_left (by decide))), fun k => by rw [upd_ne uT _ (by decide)]; exact FPAddr.later hb (f39 (k.resolve_left (by decide))), fun k => by rw [upd_ne uT _ (by decide)]; exact (f40 (k.resolve_left (by decide))), fun k => by rw [upd_ne uT _ (by decide)]; exact (f41 (k.resolve_left (by decide))), fun k => by rw [upd_ne uT _ (by decide)]; exact (f42 (k.resolve_left (by decide))), fun k => by rw [upd_ne uT _ (by decide)]; exact (f6 (k.resolve_left (by decide))), fun _ => upd_same _ _ _, trivial⟩
    · exact PuresH.nil
    · intro uT L W hJ hL
      obtain ⟨hk, f35, f37, f39, f40, f41, f42, f6, f7, _⟩ := hJ
      obtain e35 := f35 (hL 2 (by kernel_rfl))
      obtain ⟨b37, c37, e37, lb37, cb37, cd37⟩ := f37 (hL 4 (by kernel_rfl))
      obtain ⟨b39, o39, e39, lb39, cb39, cd39⟩ := f39 (hL 6 (by kernel_rfl))
      obtain e40 := f40 (hL 7 (by kernel_rfl))
      obtain e41 := f41 (hL 8 (by kernel_rfl))
      obtain e42 := f42 (hL 9 (by kernel_rfl))
      obtain e6 := f6 (hL 10 (by kernel_rfl))
      obtain e7 := f7 (hL 11 (by kernel_rfl))
      clear hHeld; have hcW := (bcell hk).1; have hfW := (bcell hk).2; have lW := Below.size hk; have hHeld := hk
      clear f35
      clear f37
      clear f39
      clear f40
      clear f41
      clear f42
      clear f6
      clear f7
      simp only [puts, pz, setAll, Array.replicate, e35, e37, e39, e40, e41, e42, e6, e7]
      refine wpAnyH_done (by kernel_rfl) ?_ _; (try simp only [pz])
      go_wp2
      go_ret2
      exact ⟨rfl, bstep HL.out hHeld⟩
set_option maxRecDepth 100000 in
set_option maxHeartbeats 8000000 in
theorem spec_DistanceToNext (ax ay bx bY cx cy dx dy : Int) (so : Option Addr) (n cap : Nat) (N : Nat → ByteArray) (X Y S Z : Nat → Int) (so2 : Option Addr) (n2 cap2 : Nat) (T U V : Nat → Int) (t : Int) (w : World) (h : RowAt w so n 5 (v5 N X Y S Z)) (hn : n ≤ 1048576) (h2 : RowAt w so2 n2 3 (v3 T U V)) (hn2 : n2 ≤ 1048576) :
    Calls Tryz.prog 24 #[.agg #[.int .i64 ax, .int .i64 ay, .int .i64 bx, .int .i64 bY, .int .i64 cx, .int .i64 cy, .int .i64 dx, .int .i64 dy, .slice so n cap], .agg #[.slice so2 n2 cap2], .int .i64 t] w fun e w' => e = .returned (.tuple #[.int .i64 (dnV (tsC (isCo ax ay bx bY cx cy dx dy n N X Y S Z) (isTr n2 T U V) (lnsOk (lnA ax ay bx bY cx cy dx dy n X Y S Z) (lnB ax ay bx bY cx cy dx dy n X Y S Z) (lnC ax ay bx bY cx cy dx dy n X Y S Z) (lnD ax ay bx bY cx cy dx dy n X Y S Z) (n + 1))) (tsL (isCo ax ay bx bY cx cy dx dy n N X Y S Z) (isTr n2 T U V) (lnA ax ay bx bY cx cy dx dy n X Y S Z) (lnB ax ay bx bY cx cy dx dy n X Y S Z) (lnC ax ay bx bY cx cy dx dy n X Y S Z) (lnD ax ay bx bY cx cy dx dy n X Y S Z) n2 T U V n) n t (inB t (T 0) (T (n2 - 1))) (fun K => rt (sq (posX n2 T U t) (posX n2 T V t) (stA ((ax + bx) / 2) ((cx + dx) / 2) n X K) (stA ((ay + bY) / 2) ((cy + dy) / 2) n Y K)))), .int .i64 (dnC (tsC (isCo ax ay bx bY cx cy dx dy n N X Y S Z) (isTr n2 T U V) (lnsOk (lnA ax ay bx bY cx cy dx dy n X Y S Z) (lnB ax ay bx bY cx cy dx dy n X Y S Z) (lnC ax ay bx bY cx cy dx dy n X Y S Z) (lnD ax ay bx bY cx cy dx dy n X Y S Z) (n + 1))) (tsL (isCo ax ay bx bY cx cy dx dy n N X Y S Z) (isTr n2 T U V) (lnA ax ay bx bY cx cy dx dy n X Y S Z) (lnB ax ay bx bY cx cy dx dy n X Y S Z) (lnC ax ay bx bY cx cy dx dy n X Y S Z) (lnD ax ay bx bY cx cy dx dy n X Y S Z) n2 T U V n) n t (inB t (T 0) (T (n2 - 1))))]) ∧ Below w.heap.size w w' := by
  have hinc := tsL_inc ax ay bx bY cx cy dx dy so n cap N X Y S Z n2 T U V
  have hlen := tsL_le ax ay bx bY cx cy dx dy so n cap N X Y S Z n2 T U V
  have KC := fun W (hb : Below w.heap.size w W) => spec_l06Code ax ay bx bY cx cy dx dy so n cap N X Y S Z so2 n2 cap2 T U V W (RowAt.later hb h) hn (RowAt.later hb h2) hn2
  rcases dn_cases (tsC (isCo ax ay bx bY cx cy dx dy n N X Y S Z) (isTr n2 T U V) (lnsOk (lnA ax ay bx bY cx cy dx dy n X Y S Z) (lnB ax ay bx bY cx cy dx dy n X Y S Z) (lnC ax ay bx bY cx cy dx dy n X Y S Z) (lnD ax ay bx bY cx cy dx dy n X Y S Z) (n + 1))) (tsL (isCo ax ay bx bY cx cy dx dy n N X Y S Z) (isTr n2 T U V) (lnA ax ay bx bY cx cy dx dy n X Y S Z) (lnB ax ay bx bY cx cy dx dy n X Y S Z) (lnC ax ay bx bY cx cy dx dy n X Y S Z) (lnD ax ay bx bY cx cy dx dy n X Y S Z) n2 T U V n) n t (inB t (T 0) (T (n2 - 1))) (fun K => rt (sq (posX n2 T U t) (posX n2 T V t) (stA ((ax + bx) / 2) ((cx + dx) / 2) n X K) (stA ((ay + bY) / 2) ((cy + dy) / 2) n Y K))) with ⟨z, hv, hc⟩ | hz
  · rw [hv, hc]
    generalize (tsC (isCo ax ay bx bY cx cy dx dy n N X Y S Z) (isTr n2 T U V) (lnsOk (lnA ax ay bx bY cx cy dx dy n X Y S Z) (lnB ax ay bx bY cx cy dx dy n X Y S Z) (lnC ax ay bx bY cx cy dx dy n X Y S Z) (lnD ax ay bx bY cx cy dx dy n X Y S Z) (n + 1))) = c9 at *
    have hcb : (c9 != 0) = true := bne_iff_ne.2 z
    have KC := hide KC
    clear hv hc h h2 hinc hlen
    go_enter Tryz.func24, Tryz.ntmps24
    go_wp2_with fail; (with_reducible refine (KC.out _ bwz).mono ?_); rintro e wB ⟨rfl, hbB⟩
    go_wp2
    go_ret2
    exact ⟨rfl, bstep bwz hbB⟩
  have z : (tsC (isCo ax ay bx bY cx cy dx dy n N X Y S Z) (isTr n2 T U V) (lnsOk (lnA ax ay bx bY cx cy dx dy n X Y S Z) (lnB ax ay bx bY cx cy dx dy n X Y S Z) (lnC ax ay bx bY cx cy dx dy n X Y S Z) (lnD ax ay bx bY cx cy dx dy n X Y S Z) (n + 1))) = 0 := by rcases hz with k | k | k <;> exact k.1
  obtain ⟨hco, htr, hl⟩ := tsC_z z
  obtain ⟨g1, g2, _, hn8, _⟩ := isCo_t hco
  obtain ⟨hn2a, _, _⟩ := isTr_t htr
  obtain ⟨b2, o2, rfl, hb2, _, _, _⟩ := h2.at3 0 (by omega)
  rw [z] at KC
  have KL := fun W (hb : Below w.heap.size w W) => spec_l03Lasts b2 o2 n2 cap2 T U V t W (RowAt.later hb h2) htr
  have KR := fun so g cp W hs hc => spec_l06Reached (tsL (isCo ax ay bx bY cx cy dx dy n N X Y S Z) (isTr n2 T U V) (lnA ax ay bx bY cx cy dx dy n X Y S Z) (lnB ax ay bx bY cx cy dx dy n X Y S Z) (lnC ax ay bx bY cx cy dx dy n X Y S Z) (lnD ax ay bx bY cx cy dx dy n X Y S Z) n2 T U V n) so g cp t W (by omega) hs hc
  have hf := ln_last ax ay bx bY cx cy dx dy so n cap N X Y S Z g2
  have KA := fun W (hb : Below w.heap.size w W) => spec_l06Times ax ay bx bY cx cy dx dy so n cap N X Y S Z b2 o2 n2 cap2 T U V (lnA ax ay bx bY cx cy dx dy n X Y S Z) (lnB ax ay bx bY cx cy dx dy n X Y S Z) (lnC ax ay bx bY cx cy dx dy n X Y S Z) (lnD ax ay bx bY cx cy dx dy n X Y S Z) W (RowAt.later hb h) hco rfl rfl rfl rfl hl hf (RowAt.later hb h2) htr
  have Ho : (tsL (isCo ax ay bx bY cx cy dx dy n N X Y S Z) (isTr n2 T U V) (lnA ax ay bx bY cx cy dx dy n X Y S Z) (lnB ax ay bx bY cx cy dx dy n X Y S Z) (lnC ax ay bx bY cx cy dx dy n X Y S Z) (lnD ax ay bx bY cx cy dx dy n X Y S Z) n2 T U V n) = (tmS (lnA ax ay bx bY cx cy dx dy n X Y S Z) (lnB ax ay bx bY cx cy dx dy n X Y S Z) (lnC ax ay bx bY cx cy dx dy n X Y S Z) (lnD ax ay bx bY cx cy dx dy n X Y S Z) T U V n2 (n + 2)).1 := by unfold tsL; rw [if_pos z]
  rw [← Ho] at KA
  clear Ho hf
  have hKS : ∃ K : Nat, K < n + 2 ∧ (¬ cntL (tsL (isCo ax ay bx bY cx cy dx dy n N X Y S Z) (isTr n2 T U V) (lnA ax ay bx bY cx cy dx dy n X Y S Z) (lnB ax ay bx bY cx cy dx dy n X Y S Z) (lnC ax ay bx bY cx cy dx dy n X Y S Z) (lnD ax ay bx bY cx cy dx dy n X Y S Z) n2 T U V n) t (tsL (isCo ax ay bx bY cx cy dx dy n N X Y S Z) (isTr n2 T U V) (lnA ax ay bx bY cx cy dx dy n X Y S Z) (lnB ax ay bx bY cx cy dx dy n X Y S Z) (lnC ax ay bx bY cx cy dx dy n X Y S Z) (lnD ax ay bx bY cx cy dx dy n X Y S Z) n2 T U V n).length = n + 2 → cntL (tsL (isCo ax ay bx bY cx cy dx dy n N X Y S Z) (isTr n2 T U V) (lnA ax ay bx bY cx cy dx dy n X Y S Z) (lnB ax ay bx bY cx cy dx dy n X Y S Z) (lnC ax ay bx bY cx cy dx dy n X Y S Z) (lnD ax ay bx bY cx cy dx dy n X Y S Z) n2 T U V n) t (tsL (isCo ax ay bx bY cx cy dx dy n N X Y S Z) (isTr n2 T U V) (lnA ax ay bx bY cx cy dx dy n X Y S Z) (lnB ax ay bx bY cx cy dx dy n X Y S Z) (lnC ax ay bx bY cx cy dx dy n X Y S Z) (lnD ax ay bx bY cx cy dx dy n X Y S Z) n2 T U V n).length = K) := by
    have := cntL_le (tsL (isCo ax ay bx bY cx cy dx dy n N X Y S Z) (isTr n2 T U V) (lnA ax ay bx bY cx cy dx dy n X Y S Z) (lnB ax ay bx bY cx cy dx dy n X Y S Z) (lnC ax ay bx bY cx cy dx dy n X Y S Z) (lnD ax ay bx bY cx cy dx dy n X Y S Z) n2 T U V n) t (tsL (isCo ax ay bx bY cx cy dx dy n N X Y S Z) (isTr n2 T U V) (lnA ax ay bx bY cx cy dx dy n X Y S Z) (lnB ax ay bx bY cx cy dx dy n X Y S Z) (lnC ax ay bx bY cx cy dx dy n X Y S Z) (lnD ax ay bx bY cx cy dx dy n X Y S Z) n2 T U V n).length
    by_cases e : cntL (tsL (isCo ax ay bx bY cx cy dx dy n N X Y S Z) (isTr n2 T U V) (lnA ax ay bx bY cx cy dx dy n X Y S Z) (lnB ax ay bx bY cx cy dx dy n X Y S Z) (lnC ax ay bx bY cx cy dx dy n X Y S Z) (lnD ax ay bx bY cx cy dx dy n X Y S Z) n2 T U V n) t (tsL (isCo ax ay bx bY cx cy dx dy n N X Y S Z) (isTr n2 T U V) (lnA ax ay bx bY cx cy dx dy n X Y S Z) (lnB ax ay bx bY cx cy dx dy n X Y S Z) (lnC ax ay bx bY cx cy dx dy n X Y S Z) (lnD ax ay bx bY cx cy dx dy n X Y S Z) n2 T U V n).length = n + 2
    · exact ⟨0, by omega, fun k => absurd e k⟩
    · exact ⟨_, by omega, fun _ => rfl⟩
  obtain ⟨K, hK, hKe⟩ := hKS
  have KS := fun W (hb : Below w.heap.size w W) => spec_l04Stations_at ax ay bx bY cx cy dx dy so n cap N X Y S Z K W (RowAt.later hb h) hn8 g1 g2 hK
  have hst := st_pt ax ay bx bY cx cy dx dy so n cap N X Y S Z hco hK
  have hq0 : ∀ q : Nat, cntL (tsL (isCo ax ay bx bY cx cy dx dy n N X Y S Z) (isTr n2 T U V) (lnA ax ay bx bY cx cy dx dy n X Y S Z) (lnB ax ay bx bY cx cy dx dy n X Y S Z) (lnC ax ay bx bY cx cy dx dy n X Y S Z) (lnD ax ay bx bY cx cy dx dy n X Y S Z) n2 T U V n) t (tsL (isCo ax ay bx bY cx cy dx dy n N X Y S Z) (isTr n2 T U V) (lnA ax ay bx bY cx cy dx dy n X Y S Z) (lnB ax ay bx bY cx cy dx dy n X Y S Z) (lnC ax ay bx bY cx cy dx dy n X Y S Z) (lnD ax ay bx bY cx cy dx dy n X Y S Z) n2 T U V n).length = q → q ≤ n + 2 := fun q e => by have := cntL_le (tsL (isCo ax ay bx bY cx cy dx dy n N X Y S Z) (isTr n2 T U V) (lnA ax ay bx bY cx cy dx dy n X Y S Z) (lnB ax ay bx bY cx cy dx dy n X Y S Z) (lnC ax ay bx bY cx cy dx dy n X Y S Z) (lnD ax ay bx bY cx cy dx dy n X Y S Z) n2 T U V n) t (tsL (isCo ax ay bx bY cx cy dx dy n N X Y S Z) (isTr n2 T U V) (lnA ax ay bx bY cx cy dx dy n X Y S Z) (lnB ax ay bx bY cx cy dx dy n X Y S Z) (lnC ax ay bx bY cx cy dx dy n X Y S Z) (lnD ax ay bx bY cx cy dx dy n X Y S Z) n2 T U V n).length; omega
  obtain ⟨m, hm9⟩ : ∃ m : Nat, m = n + 2 := ⟨_, rfl⟩
  have wn : IntKind.i64.wrap ((n : Int) + 2) = (m : Int) := by rw [hm9]; exact IntWalk.i64_in _ (by omega)
  rw [← hm9] at KS
  rcases hz with ⟨_, q, hv, hc⟩ | ⟨_, q, ti, hv, hc⟩ | ⟨_, q, ti, hv, hc⟩
  · rw [hv, hc]
    rw [q, ← hm9] at KR
    clear hKe hq0 q hv hc hinc 
    generalize (tsL (isCo ax ay bx bY cx cy dx dy n N X Y S Z) (isTr n2 T U V) (lnA ax ay bx bY cx cy dx dy n X Y S Z) (lnB ax ay bx bY cx cy dx dy n X Y S Z) (lnC ax ay bx bY cx cy dx dy n X Y S Z) (lnD ax ay bx bY cx cy dx dy n X Y S Z) n2 T U V n) = Lx at *
    have KC := hide KC
    have KL := hide KL
    have KR := hide KR
    have KS := hide KS
    have KA := hide KA
    have hK0 : (0 : Int) ≤ (K : Int) := by omega
    have hKm : (K : Int) < (m : Int) := by omega
    clear hco htr hl z g1 g2 h h2 hn hn2 hm9 hst
    go_enter Tryz.func24, Tryz.ntmps24
    go_wp2_with fail; (with_reducible refine (KC.out _ bwz).mono ?_); rintro e wC ⟨rfl, hbC⟩
    have zC := hbC.size
    simp only [size_al] at zC
    have HC := hide (bstep (show Below w.heap.size w _ from bwz) hbC)
    have c8 : wC.cell? ⟨w.heap.size, 8, none⟩ = some (.slice so n cap) := cell_later hbC (by go_simp)
    have t0 : wC.cell? ⟨w.heap.size + 1, 0, none⟩ = some (.slice (some ⟨b2, o2, none⟩) n2 cap2) := cell_later hbC (by go_simp)
    have c0 : wC.cell? ⟨w.heap.size, 0, none⟩ = some (.int .i64 ax) := cell_later hbC (by go_simp)
    have c1 : wC.cell? ⟨w.heap.size, 1, none⟩ = some (.int .i64 ay) := cell_later hbC (by go_simp)
    have c2 : wC.cell? ⟨w.heap.size, 2, none⟩ = some (.int .i64 bx) := cell_later hbC (by go_simp)
    have c3 : wC.cell? ⟨w.heap.size, 3, none⟩ = some (.int .i64 bY) := cell_later hbC (by go_simp)
    have c4 : wC.cell? ⟨w.heap.size, 4, none⟩ = some (.int .i64 cx) := cell_later hbC (by go_simp)
    have c5 : wC.cell? ⟨w.heap.size, 5, none⟩ = some (.int .i64 cy) := cell_later hbC (by go_simp)
    have c6 : wC.cell? ⟨w.heap.size, 6, none⟩ = some (.int .i64 dx) := cell_later hbC (by go_simp)
    have c7 : wC.cell? ⟨w.heap.size, 7, none⟩ = some (.int .i64 dy) := cell_later hbC (by go_simp)
    have hz0 : w.heap.size < wC.heap.size := by omega
    have hz1 : w.heap.size + 1 < wC.heap.size := by omega
    clear hbC KC
    go_wp2_with fail; (with_reducible refine (KS.out _ HC.out).mono ?_); rintro e wS ⟨bs, cs, rfl, hls, hps0, hqs0, hbS⟩
    have HS := hide (bstep HC.out hbS)
    have d0 := cell_later hbS c0
    have d1 := cell_later hbS c1
    have d2 := cell_later hbS c2
    have d3 := cell_later hbS c3
    have d4 := cell_later hbS c4
    have d5 := cell_later hbS c5
    have d6 := cell_later hbS c6
    have d7 := cell_later hbS c7
    have d8 := cell_later hbS c8
    have d9 := cell_later hbS t0
    have zS := hbS.size
    have zS0 : w.heap.size < wS.heap.size := by omega
    have zS1 : w.heap.size + 1 < wS.heap.size := by omega
    clear hbS HC KS t0 c0 c1 c2 c3 c4 c5 c6 c7 c8
    go_wp2_with fail; (with_reducible refine (KA.out _ HS.out).mono ?_); rintro e wT ⟨gt, cpt, rfl, hown, hbT⟩
    obtain ⟨gz, hgz, hcz⟩ := OwZ.gets (OwZ.of hown)
    have hso : Lx.length = 0 ∨ (some ⟨gt, 0, none⟩ : Option Addr) = some ⟨gz, 0, none⟩ := hgz.imp id (·.1)
    have HCZ := hide hcz
    have HT := hide (bstep HS.out hbT)
    have e9 := cell_later hbT d9
    have hp2 := cell_later hbT hps0
    have hq2 := cell_later hbT hqs0
    have zT := hbT.size
    have zT1 : w.heap.size + 1 < wT.heap.size := by omega
    have zT2 : bs < wT.heap.size := by omega
    have zT3 : w.heap.size < wT.heap.size := by omega
    clear hbT hown hgz hcz KA HS d9 hps0 hqs0 d0 d1 d2 d3 d4 d5 d6 d7 d8
    go_wp2_with fail; (with_reducible refine (KR.out _ gz _ _ hso HCZ.out).mono ?_); rintro e wR ⟨rfl, rfl⟩
    clear KR HCZ hso
    go_wp2
    go_ret2
    exact ⟨rfl, HT.out⟩
  · rw [hv, hc]
    have e := hKe q
    rw [e] at KR
    rw [ti] at KL
    have hne : ((K : Int) == (m : Int)) = false := beq_eq_false_iff_ne.2 (by rw [hm9]; omega)
    have hne2 : ¬ (K : Int) = (m : Int) := by rw [hm9]; omega
    have hne3 : ¬ K = m := by omega
    clear hKe hq0 q hv hc hinc e ti
    generalize (tsL (isCo ax ay bx bY cx cy dx dy n N X Y S Z) (isTr n2 T U V) (lnA ax ay bx bY cx cy dx dy n X Y S Z) (lnB ax ay bx bY cx cy dx dy n X Y S Z) (lnC ax ay bx bY cx cy dx dy n X Y S Z) (lnD ax ay bx bY cx cy dx dy n X Y S Z) n2 T U V n) = Lx at *
    have KC := hide KC
    have KL := hide KL
    have KR := hide KR
    have KS := hide KS
    have KA := hide KA
    have hK0 : (0 : Int) ≤ (K : Int) := by omega
    have hKm : (K : Int) < (m : Int) := by omega
    clear hco htr hl z g1 g2 h h2 hn hn2 hm9 hst
    go_enter Tryz.func24, Tryz.ntmps24
    go_wp2_with fail; (with_reducible refine (KC.out _ bwz).mono ?_); rintro e wC ⟨rfl, hbC⟩
    have zC := hbC.size
    simp only [size_al] at zC
    have HC := hide (bstep (show Below w.heap.size w _ from bwz) hbC)
    have c8 : wC.cell? ⟨w.heap.size, 8, none⟩ = some (.slice so n cap) := cell_later hbC (by go_simp)
    have t0 : wC.cell? ⟨w.heap.size + 1, 0, none⟩ = some (.slice (some ⟨b2, o2, none⟩) n2 cap2) := cell_later hbC (by go_simp)
    have c0 : wC.cell? ⟨w.heap.size, 0, none⟩ = some (.int .i64 ax) := cell_later hbC (by go_simp)
    have c1 : wC.cell? ⟨w.heap.size, 1, none⟩ = some (.int .i64 ay) := cell_later hbC (by go_simp)
    have c2 : wC.cell? ⟨w.heap.size, 2, none⟩ = some (.int .i64 bx) := cell_later hbC (by go_simp)
    have c3 : wC.cell? ⟨w.heap.size, 3, none⟩ = some (.int .i64 bY) := cell_later hbC (by go_simp)
    have c4 : wC.cell? ⟨w.heap.size, 4, none⟩ = some (.int .i64 cx) := cell_later hbC (by go_simp)
    have c5 : wC.cell? ⟨w.heap.size, 5, none⟩ = some (.int .i64 cy) := cell_later hbC (by go_simp)
    have c6 : wC.cell? ⟨w.heap.size, 6, none⟩ = some (.int .i64 dx) := cell_later hbC (by go_simp)
    have c7 : wC.cell? ⟨w.heap.size, 7, none⟩ = some (.int .i64 dy) := cell_later hbC (by go_simp)
    have hz0 : w.heap.size < wC.heap.size := by omega
    have hz1 : w.heap.size + 1 < wC.heap.size := by omega
    clear hbC KC
    go_wp2_with fail; (with_reducible refine (KS.out _ HC.out).mono ?_); rintro e wS ⟨bs, cs, rfl, hls, hps0, hqs0, hbS⟩
    have HS := hide (bstep HC.out hbS)
    have d0 := cell_later hbS c0
    have d1 := cell_later hbS c1
    have d2 := cell_later hbS c2
    have d3 := cell_later hbS c3
    have d4 := cell_later hbS c4
    have d5 := cell_later hbS c5
    have d6 := cell_later hbS c6
    have d7 := cell_later hbS c7
    have d8 := cell_later hbS c8
    have d9 := cell_later hbS t0
    have zS := hbS.size
    have zS0 : w.heap.size < wS.heap.size := by omega
    have zS1 : w.heap.size + 1 < wS.heap.size := by omega
    clear hbS HC KS t0 c0 c1 c2 c3 c4 c5 c6 c7 c8
    go_wp2_with fail; (with_reducible refine (KA.out _ HS.out).mono ?_); rintro e wT ⟨gt, cpt, rfl, hown, hbT⟩
    obtain ⟨gz, hgz, hcz⟩ := OwZ.gets (OwZ.of hown)
    have hso : Lx.length = 0 ∨ (some ⟨gt, 0, none⟩ : Option Addr) = some ⟨gz, 0, none⟩ := hgz.imp id (·.1)
    have HCZ := hide hcz
    have HT := hide (bstep HS.out hbT)
    have e9 := cell_later hbT d9
    have hp2 := cell_later hbT hps0
    have hq2 := cell_later hbT hqs0
    have zT := hbT.size
    have zT1 : w.heap.size + 1 < wT.heap.size := by omega
    have zT2 : bs < wT.heap.size := by omega
    have zT3 : w.heap.size < wT.heap.size := by omega
    clear hbT hown hgz hcz KA HS d9 hps0 hqs0 d0 d1 d2 d3 d4 d5 d6 d7 d8
    go_wp2_with fail; (with_reducible refine (KR.out _ gz _ _ hso HCZ.out).mono ?_); rintro e wR ⟨rfl, rfl⟩
    clear KR HCZ hso
    go_wp2_with fail; (with_reducible refine (KL.out _ HT.out).mono ?_); rintro e wL ⟨rfl, hbL⟩
    go_wp2
    go_ret2
    exact ⟨rfl, bstep HT.out hbL⟩
  · rw [hv, hc]
    have e := hKe q
    rw [e] at KR
    rw [e]
    rw [ti] at KL
    have hne : ((K : Int) == (m : Int)) = false := beq_eq_false_iff_ne.2 (by rw [hm9]; omega)
    have hne2 : ¬ (K : Int) = (m : Int) := by rw [hm9]; omega
    have hne3 : ¬ K = m := by omega
    have hps := posX_pt htr ti
    have KP := fun W (hb : Below w.heap.size w W) => spec_l03At b2 o2 n2 cap2 T U V t W (RowAt.later hb h2) htr ti
    clear hKe hq0 q hv hc hinc e ti
    generalize (tsL (isCo ax ay bx bY cx cy dx dy n N X Y S Z) (isTr n2 T U V) (lnA ax ay bx bY cx cy dx dy n X Y S Z) (lnB ax ay bx bY cx cy dx dy n X Y S Z) (lnC ax ay bx bY cx cy dx dy n X Y S Z) (lnD ax ay bx bY cx cy dx dy n X Y S Z) n2 T U V n) = Lx at *
    obtain ⟨s1, s2⟩ := pt_sm hps
    obtain ⟨s3, s4⟩ := pt_sm hst
    obtain ⟨d1, d2⟩ := sq_pt hps hst
    have KQ := fun W => spec_l01Square _ _ _ _ s1 s2 s3 s4 W
    have KT := fun W => spec_l01Root _ d1 (by omega) W
    clear s1 s2 s3 s4 d1 d2 hps hst
    generalize (stA ((ax + bx) / 2) ((cx + dx) / 2) n X K) = px at *
    generalize (stA ((ay + bY) / 2) ((cy + dy) / 2) n Y K) = py at *
    generalize posX n2 T U t = p1 at *
    generalize posX n2 T V t = p2 at *
    obtain ⟨v9, hv9⟩ : ∃ v, v = sq p1 p2 px py := ⟨_, rfl⟩
    show _
    rw [← hv9] at KQ KT
    obtain ⟨r9, hr9⟩ : ∃ r, r = rt v9 := ⟨_, rfl⟩
    have hgoal : rt (sq p1 p2 px py) = r9 := by rw [← hv9, hr9]
    rw [hgoal]
    rw [← hr9] at KT
    have KQ := hide KQ
    have KT := hide KT
    have KP := hide KP
    clear hgoal hv9 hr9
    have KC := hide KC
    have KL := hide KL
    have KR := hide KR
    have KS := hide KS
    have KA := hide KA
    have hK0 : (0 : Int) ≤ (K : Int) := by omega
    have hKm : (K : Int) < (m : Int) := by omega
    clear hco htr hl z g1 g2 h h2 hn hn2 hm9 
    go_enter Tryz.func24, Tryz.ntmps24
    go_wp2_with fail; (with_reducible refine (KC.out _ bwz).mono ?_); rintro e wC ⟨rfl, hbC⟩
    have zC := hbC.size
    simp only [size_al] at zC
    have HC := hide (bstep (show Below w.heap.size w _ from bwz) hbC)
    have c8 : wC.cell? ⟨w.heap.size, 8, none⟩ = some (.slice so n cap) := cell_later hbC (by go_simp)
    have t0 : wC.cell? ⟨w.heap.size + 1, 0, none⟩ = some (.slice (some ⟨b2, o2, none⟩) n2 cap2) := cell_later hbC (by go_simp)
    have c0 : wC.cell? ⟨w.heap.size, 0, none⟩ = some (.int .i64 ax) := cell_later hbC (by go_simp)
    have c1 : wC.cell? ⟨w.heap.size, 1, none⟩ = some (.int .i64 ay) := cell_later hbC (by go_simp)
    have c2 : wC.cell? ⟨w.heap.size, 2, none⟩ = some (.int .i64 bx) := cell_later hbC (by go_simp)
    have c3 : wC.cell? ⟨w.heap.size, 3, none⟩ = some (.int .i64 bY) := cell_later hbC (by go_simp)
    have c4 : wC.cell? ⟨w.heap.size, 4, none⟩ = some (.int .i64 cx) := cell_later hbC (by go_simp)
    have c5 : wC.cell? ⟨w.heap.size, 5, none⟩ = some (.int .i64 cy) := cell_later hbC (by go_simp)
    have c6 : wC.cell? ⟨w.heap.size, 6, none⟩ = some (.int .i64 dx) := cell_later hbC (by go_simp)
    have c7 : wC.cell? ⟨w.heap.size, 7, none⟩ = some (.int .i64 dy) := cell_later hbC (by go_simp)
    have hz0 : w.heap.size < wC.heap.size := by omega
    have hz1 : w.heap.size + 1 < wC.heap.size := by omega
    clear hbC KC
    go_wp2_with fail; (with_reducible refine (KS.out _ HC.out).mono ?_); rintro e wS ⟨bs, cs, rfl, hls, hps0, hqs0, hbS⟩
    have HS := hide (bstep HC.out hbS)
    have d0 := cell_later hbS c0
    have d1 := cell_later hbS c1
    have d2 := cell_later hbS c2
    have d3 := cell_later hbS c3
    have d4 := cell_later hbS c4
    have d5 := cell_later hbS c5
    have d6 := cell_later hbS c6
    have d7 := cell_later hbS c7
    have d8 := cell_later hbS c8
    have d9 := cell_later hbS t0
    have zS := hbS.size
    have zS0 : w.heap.size < wS.heap.size := by omega
    have zS1 : w.heap.size + 1 < wS.heap.size := by omega
    clear hbS HC KS t0 c0 c1 c2 c3 c4 c5 c6 c7 c8
    go_wp2_with fail; (with_reducible refine (KA.out _ HS.out).mono ?_); rintro e wT ⟨gt, cpt, rfl, hown, hbT⟩
    obtain ⟨gz, hgz, hcz⟩ := OwZ.gets (OwZ.of hown)
    have hso : Lx.length = 0 ∨ (some ⟨gt, 0, none⟩ : Option Addr) = some ⟨gz, 0, none⟩ := hgz.imp id (·.1)
    have HCZ := hide hcz
    have HT := hide (bstep HS.out hbT)
    have e9 := cell_later hbT d9
    have hp2 := cell_later hbT hps0
    have hq2 := cell_later hbT hqs0
    have zT := hbT.size
    have zT1 : w.heap.size + 1 < wT.heap.size := by omega
    have zT2 : bs < wT.heap.size := by omega
    have zT3 : w.heap.size < wT.heap.size := by omega
    clear hbT hown hgz hcz KA HS d9 hps0 hqs0 d0 d1 d2 d3 d4 d5 d6 d7 d8
    go_wp2_with fail; (with_reducible refine (KR.out _ gz _ _ hso HCZ.out).mono ?_); rintro e wR ⟨rfl, rfl⟩
    clear KR HCZ hso
    go_wp2_with fail; (with_reducible refine (KL.out _ HT.out).mono ?_); rintro e wL ⟨rfl, hbL⟩
    have HL := hide (bstep HT.out hbL)
    have k9 := cell_later hbL e9
    have kp := cell_later hbL hp2
    have kq := cell_later hbL hq2
    have zL := hbL.size
    have zL1 : w.heap.size + 1 < wL.heap.size := by omega
    have zL2 : bs < wL.heap.size := by omega
    clear hbL HT KL e9 hp2 hq2
    go_upto_region 10 with fail
    refine wp_region_held_drew (S := fun W => Below wL.heap.size wL W) (by kernel_rfl) (Below.drew (Below.refl _ _)) (fun hHeld => ?_)
    refine tkL 0 (some 32) rfl ?_; (try simp only [pz])
    refine tkN 1 (some 33) rfl ?_; (try simp only [pz])
    refine tkN 3 (some 35) rfl ?_; (try simp only [pz])
    refine tkN 4 (some 36) rfl ?_; (try simp only [pz])
    refine tkN 5 (some 37) rfl ?_; (try simp only [pz])
    refine tkL 6 (some 38) rfl ?_; (try simp only [pz])
    refine wpAnyH_ready (rs := [2]) (by kernel_rfl) (by simp) ?_; refine (AllReadyH.cons (o := ⟨some 34, _, _, _, _, _⟩) rfl (fun K hK => ?_) AllReadyH.nil)
    go_simp; (first | (go_at_call 59; (with_reducible refine (KP.out _ (bstep HL.out bwz)).mono ?_); rintro e w9 ⟨rfl, hb⟩; have hzz := hb.size) | (go_at_call 58; (with_reducible refine (KQ.out _).mono ?_); rintro e w9 ⟨rfl, hb⟩; have hzz := hb.size) | (go_at_call 57; (with_reducible refine (KT.out _).mono ?_); rintro e w9 ⟨rfl, rfl⟩))
    all_goals (try go_wp2_with fail)
    refine hK.out _ _ ?_ (fun hH2 => ?_)
    · first | exact bstep hHeld hb | exact hHeld.trans hb | exact hHeld
    clear hK K hHeld; (have hHeld := hH2); clear hH2; (try simp only [pz])
    refine wpAnyH_ready (rs := [7]) (by kernel_rfl) (by simp) ?_; refine (AllReadyH.cons (o := ⟨some 39, _, _, _, _, _⟩) rfl (fun K hK => ?_) AllReadyH.nil)
    go_simp; (first | (go_at_call 59; (with_reducible refine (KP.out _ (bstep HL.out bwz)).mono ?_); rintro e w9 ⟨rfl, hb⟩; have hzz := hb.size) | (go_at_call 58; (with_reducible refine (KQ.out _).mono ?_); rintro e w9 ⟨rfl, hb⟩; have hzz := hb.size) | (go_at_call 57; (with_reducible refine (KT.out _).mono ?_); rintro e w9 ⟨rfl, rfl⟩))
    all_goals (try go_wp2_with fail)
    refine hK.out _ _ ?_ (fun hH2 => ?_)
    · first | exact bstep hHeld hb | exact hHeld.trans hb | exact hHeld
    clear hK K hHeld; (have hHeld := hH2); clear hH2; (try simp only [pz])
    refine wpAnyH_ready (rs := [8]) (by kernel_rfl) (by simp) ?_; refine (AllReadyH.cons (o := ⟨some 40, _, _, _, _, _⟩) rfl (fun K hK => ?_) AllReadyH.nil)
    go_simp; (first | (go_at_call 59; (with_reducible refine (KP.out _ (bstep HL.out bwz)).mono ?_); rintro e w9 ⟨rfl, hb⟩; have hzz := hb.size) | (go_at_call 58; (with_reducible refine (KQ.out _).mono ?_); rintro e w9 ⟨rfl, hb⟩; have hzz := hb.size) | (go_at_call 57; (with_reducible refine (KT.out _).mono ?_); rintro e w9 ⟨rfl, rfl⟩))
    all_goals (try go_wp2_with fail)
    refine hK.out _ _ ?_ (fun hH2 => ?_)
    · first | exact bstep hHeld hb | exact hHeld.trans hb | exact hHeld
    clear hK K hHeld; (have hHeld := hH2); clear hH2; (try simp only [pz])
    refine tkN 9 (some 6) rfl ?_; (try simp only [pz])
    refine tkN 10 (some 7) rfl ?_; (try simp only [pz])
    refine wpAnyH_done (by kernel_rfl) ?_ _; (try simp only [pz])
    go_wp2
    go_ret2
    exact ⟨rfl, bstep HL.out hHeld⟩
end Go.Proofs.YtlhllidkkjledaaGreatDoor
