/- Lists of tracks that came in: opened, copied, compared, measured; whether each is a track. -/
import Derived.Test.YthlnpcneicmblaaGreatDoorCd
import Derived.Test.YthlnpcneicmblaaGreatDoorTb0
import Derived.Test.YthlnpcneicmblaaGreatDoorLaw
import Derived.Test.YthlnpcneicmblaaGreatDoorBs
import Derived.BigQuiet
namespace Go.Proofs.YthlnpcneicmblaaGreatDoor
open Go.ChangeShapes Go.WideShapes Go.ChangeAt Go.RowKit Go.Deep

/-- A list of m tracks: track i has nn i fixes, in the row at A i. -/
def Trs (w : World) (so : Option Addr) (m : Nat) (A : Nat → Option Addr) (nn C : Nat → Nat) (T U V : Nat → Nat → Int) : Prop :=
 RowAt w so m 1 (fun i _ => .slice (A i) (nn i) (C i)) ∧ ∀ i, i < m → RowAt w (A i) (nn i) 3 (v3 (T i) (U i) (V i))
theorem Trs.later {w W : World} {so : Option Addr} {m : Nat} {A : Nat → Option Addr} {nn C : Nat → Nat} {T U V : Nat → Nat → Int} (hb : Below w.heap.size w W) (h : Trs w so m A nn C T U V) : Trs W so m A nn C T U V :=
 ⟨RowAt.later hb h.1, fun i hi => RowAt.later hb (h.2 i hi)⟩
theorem Trs.at {w : World} {so : Option Addr} {m : Nat} {A : Nat → Option Addr} {nn C : Nat → Nat} {T U V : Nat → Nat → Int} (h : Trs w so m A nn C T U V) (i : Nat) (hi : i < m) : ∃ b o, so = some ⟨b, o, none⟩ ∧ b < w.heap.size ∧ w.cell? ⟨b, o + i, none⟩ = some (.slice (A i) (nn i) (C i)) := by
 obtain ⟨b, o, e, k⟩ := h.1 i hi
 have k0 := k 0 (by omega)
 rw [Nat.mul_one, Nat.add_zero] at k0
 exact ⟨b, o, e, World.block_lt_of_cell? _ _ k0, k0⟩
/-- The copy of a list of tracks. -/
def CopTs (w : World) (m : Nat) (nn : Nat → Nat) (T U V : Nat → Nat → Int) (e : Ending) (w' : World) : Prop :=
 ∃ g, ∃ G : Nat → Nat, e = .returned (.slice (some ⟨g, 0, none⟩) m m) ∧ Trs w' (some ⟨g, 0, none⟩) m (fun i => some ⟨G i, 0, none⟩) nn nn T U V ∧ Below w.heap.size w w'
/-- The first m of the tracks are tracks. -/
def allTr (nn : Nat → Nat) (T U V : Nat → Nat → Int) : Nat → Bool
 | 0 => true
 | k + 1 => allTr nn T U V k && isTr (nn k) (T k) (U k) (V k)
theorem allTr_no {nn : Nat → Nat} {T U V : Nat → Nat → Int} {k m : Nat} (hk : k < m) (h : isTr (nn k) (T k) (U k) (V k) = false) : allTr nn T U V m = false := by
 induction m with
 | zero => omega
 | succ m ih =>
  rcases Nat.lt_or_ge k m with h1 | h1
  ·rw [allTr, ih h1]; rfl
  ·obtain rfl : k = m := by omega
   rw [allTr, h, Bool.and_false]
theorem allTr_at {nn : Nat → Nat} {T U V : Nat → Nat → Int} {k m : Nat} (hk : k < m) (h : allTr nn T U V m = true) : isTr (nn k) (T k) (U k) (V k) = true := by
 rcases b2 (isTr (nn k) (T k) (U k) (V k)) with h1 | h1
 ·rw [allTr_no hk h1] at h; exact absurd h (by decide)
 ·exact h1
section
variable {w : World}
theorem rowT_of {so : Option Addr} {len : Nat} (h : ∀ i, i < len → ∃ b o cs', so = some ⟨b, o, none⟩ ∧ (∃ (a : Option Addr) (n c : Nat) (T X Y : Nat → Int), cs' = [Value.slice a n c] ∧ n ≤ maxLen ∧ RowAt w a n 3 (v3 T X Y)) ∧ ∀ j, j < 1 → w.cell? ⟨b, o + i * 1 + j, none⟩ = cs'[j]?) :
 ∃ (A : Nat → Option Addr) (nn C : Nat → Nat) (T U V : Nat → Nat → Int), Trs w so len A nn C T U V ∧ ∀ i, nn i ≤ maxLen := by
 have h' : ∀ i : Nat, ∃ q : (Option Addr × Nat × Nat) × ((Nat → Int) × (Nat → Int) × (Nat → Int)), q.1.2.1 ≤ maxLen ∧ (i < len → (∃ b o, so = some ⟨b, o, none⟩ ∧ ∀ j, j < 1 → w.cell? ⟨b, o + i * 1 + j, none⟩ = [Value.slice q.1.1 q.1.2.1 q.1.2.2][j]?) ∧ RowAt w q.1.1 q.1.2.1 3 (v3 q.2.1 q.2.2.1 q.2.2.2)) := fun i => by
  by_cases hi : i < len
  ·obtain ⟨b, o, _, e, ⟨a, n, c, T, X, Y, rfl, hn, hr⟩, k⟩ := h i hi
   exact ⟨((a, n, c), (T, X, Y)), hn, fun _ => ⟨⟨b, o, e, k⟩, hr⟩⟩
  ·exact ⟨((none, 0, 0), (fun _ => 0, fun _ => 0, fun _ => 0)), Nat.zero_le _, fun k => absurd k hi⟩
 obtain ⟨q, hq⟩ := Classical.axiomOfChoice h'
 refine ⟨fun i => (q i).1.1, fun i => (q i).1.2.1, fun i => (q i).1.2.2, fun i => (q i).2.1, fun i => (q i).2.2.1, fun i => (q i).2.2.2, ⟨fun i hi => ?_, fun i hi => ((hq i).2 hi).2⟩, fun i => (hq i).1⟩
 obtain ⟨⟨b, o, e, k⟩, _⟩ := (hq i).2 hi
 refine ⟨b, o, e, fun j hj => (k j hj).trans ?_⟩
 obtain rfl : j = 0 := by omega
 rfl
end
set_option maxRecDepth 100000 in
set_option maxHeartbeats 4000000 in
theorem impl_areTracks (so : Option Addr) (m cap : Nat) (A : Nat → Option Addr) (nn C : Nat → Nat) (T U V : Nat → Nat → Int) (w : World) (h : Trs w so m A nn C T U V) (hm : m ≤ 1048576) (hn : ∀ i, i < m → nn i ≤ 1048576) :
 Calls Tryz.prog 39 #[.slice so m cap] w fun e w' => e = .returned (.bool (allTr nn T U V m)) ∧ Below w.heap.size w w' := by
 have Hh := hide h
 have Hn := hide hn
 clear h hn
 go_enter Tryz.func39, Tryz.ntmps39
 go_wp2
 go_loopw [7] (fun i wr => ∃ k : Nat, k ≤ m ∧ i = .int .i64 k ∧ Hid (allTr nn T U V k = true) ∧ Below w.heap.size w wr) (fun i _ => m - (intOf i).toNat)
 case atStart => exact ⟨0, Nat.zero_le _, rfl, hide rfl, bwz⟩
 case round =>
  obtain ⟨k, hk, rfl, HA, hbl⟩ := hrel
  by_cases hlt : k < m
  ·obtain ⟨b, o, rfl, hbs, c0⟩ := (Trs.later hbl Hh.out).at k hlt
   have Hk := hide (RowAt.later hbl (Hh.out.2 k hlt))
   have hnk := Hn.out k hlt
   have zr := hbl.size
   have hj1 : (0 : Int) ≤ (k : Int) := by omega
   have hj2 : (k : Int) < (m : Int) := by omega
   have KT := hide (fun W (hb : Below wr.heap.size wr W) => impl_IsTrack _ _ (C k) (T k) (U k) (V k) W (RowAt.later hb Hk.out) hnk)
   rcases b2 (isTr (nn k) (T k) (U k) (V k)) with ht | ht
   ·have Hf := hide (allTr_no hlt ht)
    have KT2 := hide (ht ▸ KT.out)
    clear KT ht Hk HA
    go_wp2_with (go_at_call 57; (with_reducible refine (KT2.out _ bwz).mono ?_); rintro e w9 ⟨rfl, hb⟩; obtain ⟨hc, hf⟩ := bcell hb; have hz := hb.size; have z0 : wr.heap.size < w9.heap.size := (by first | omega | (simp at hz; omega)); have zzb : b < w9.heap.size := (by first | omega | (simp at hz; omega)))
    go_ret
    exact ⟨by rw [Hf.out]; rfl, bwz⟩
   ·have Hf := hide (show allTr nn T U V (k + 1) = true by rw [allTr, HA.out, ht]; rfl)
    have KT2 := hide (ht ▸ KT.out)
    clear KT ht Hk HA
    go_wp2_with (go_at_call 57; (with_reducible refine (KT2.out _ bwz).mono ?_); rintro e w9 ⟨rfl, hb⟩; obtain ⟨hc, hf⟩ := bcell hb; have hz := hb.size; have z0 : wr.heap.size < w9.heap.size := (by first | omega | (simp at hz; omega)); have zzb : b < w9.heap.size := (by first | omega | (simp at hz; omega)))
    go_roundw
    case rel => exact ⟨k + 1, by omega, by go_num, Hf, bwz⟩
    case measure => simp [intOf]; omega
  ·obtain rfl : k = m := by omega
   go_wp2
   go_ret
   exact ⟨by rw [HA.out]; rfl, hbl⟩
end Go.Proofs.YthlnpcneicmblaaGreatDoor
