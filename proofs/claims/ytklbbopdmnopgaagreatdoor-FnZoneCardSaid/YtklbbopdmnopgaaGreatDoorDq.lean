/- Walks: points, winds and headings are drawn, second part. -/
import Derived.Test.YtklbbopdmnopgaaGreatDoorDn
import Derived.Test.YtklbbopdmnopgaaGreatDoorMp
import Derived.Test.YtklbbopdmnopgaaGreatDoorBs
import Derived.Laws.AppendOwnNone
namespace Go.Proofs.YtklbbopdmnopgaaGreatDoor
open Go.RowKit

end Go.Proofs.YtklbbopdmnopgaaGreatDoor
/- Walks: hulls are drawn. -/
namespace Go.Proofs.YtklbbopdmnopgaaGreatDoor
open Go.RowKit

/-- What a draw of a hull returns. -/
def HuD (w : World) (g : Nat) (e : Ending) (w' : World) : Prop := (∃ a b c d l : Int, e = .returned (.agg #[.int .i64 a, .int .i64 b, .int .i64 c, .int .i64 d, .int .i64 l])) ∧ w.grownBy w' (some g) ∧ Src w' g
end Go.Proofs.YtklbbopdmnopgaaGreatDoor
/- Walks: the law's bound on codes; the draws that the laws begin with. -/
namespace Go.Proofs.YtklbbopdmnopgaaGreatDoor
open Go.RowKit

theorem laws_big (so : Option Addr) (n cap : Nat) (w : World) (hn : n ≤ 9223372036854775807) :
 Calls Tryz.prog 4 #[.slice so n cap] w fun e w' => e = .returned (.bool (decide (4096 < n))) ∧ w = w' := by
 by_cases h : 4096 < n
 ·go_enter Tryz.func4, Tryz.ntmps4
  go_wp2
  go_ret
  exact ⟨ret_b (by rw [decide_eq_decide]; omega), rfl⟩
 ·go_enter Tryz.func4, Tryz.ntmps4
  go_wp2
  go_ret
  exact ⟨ret_b (by rw [decide_eq_decide]; omega), rfl⟩
theorem below_gr {w W W' : World} {B g : Nat} (h : Below B w W) (k : W.grownBy W' (some g)) (hB : B ≤ W.heap.size) (hg : B ≤ g) : Below B w W' :=
 h.trans (below_grown' k hB hg)
end Go.Proofs.YtklbbopdmnopgaaGreatDoor
/- Walks: a code is changed into another; a wind and points are drawn. -/
namespace Go.Proofs.YtklbbopdmnopgaaGreatDoor
open Go.RowKit

theorem own1_of_row {w : World} {B : Nat} {e : TypeId} {v : Value} {L : List Int} {n : Nat} (hn : n = L.length) (h : w.ownsRow B e 1 v n (L.map (Value.int .u8))) : ∃ so cap, v = .slice so n cap ∧ RowAt w so n 1 (vb fun i => L[i]?.getD 0) := by
 subst hn
 have hc := fun g (hg : v.ownBlock = some g) => World.ownsRow.cells h hg
 obtain ⟨_, ⟨rfl, h0⟩ | ⟨g, cap, cur, rfl, hB, hg, hn, _, hsz, htk⟩⟩ := h
 ·exact ⟨none, 0, by rw [h0], fun i hi => absurd hi (by omega)⟩
 ·refine ⟨some ⟨g, 0, none⟩, cap, rfl, fun i hi => ⟨g, 0, rfl, fun j hj => ?_⟩⟩
  obtain rfl : j = 0 := by omega
  have := hc g rfl i (.int .u8 (L[i]?.getD 0)) (by rw [List.getElem?_map, List.getElem?_eq_getElem hi]; rfl)
  rw [Addr.add_lit] at this
  simpa [vb] using this
theorem byte_all {L : List Int} (h : ∀ x ∈ L, 0 ≤ x ∧ x ≤ 255) (i : Nat) : 0 ≤ L[i]?.getD 0 ∧ L[i]?.getD 0 ≤ 255 := by
 rcases Nat.lt_or_ge i L.length with k | k
 ·rw [List.getElem?_eq_getElem k]; exact h _ (List.getElem_mem k)
 ·rw [List.getElem?_eq_none k]; exact ⟨by decide, by decide⟩
/-- The bytes of a code, as a list. -/
def bl (B : Nat → Int) (n : Nat) : List Int := (List.range n).map B
theorem bl_len (B : Nat → Int) (n : Nat) : (bl B n).length = n := by simp [bl]
theorem bl_cells {w : World} {ad : Addr} {n : Nat} {B : Nat → Int} (r : RowAt w (some ad) n 1 (vb B)) : ∀ (j : Nat) (u : Value), ((bl B n).map (Value.int .u8))[j]? = some u → w.cell? (ad.add j) = some u := fun j u hj => by
 have hjn : j < n := by
  rcases Nat.lt_or_ge j n with k | k
  ·exact k
  ·rw [List.getElem?_eq_none (by simpa [bl] using k)] at hj; cases hj
 obtain ⟨b, o, e, k⟩ := r j hjn
 injection e with e
 subst e
 have h1 := k 0 (by decide)
 have h2 : u = .int .u8 (B j) := by
  rw [bl, List.map_map, List.getElem?_map, List.getElem?_range hjn] at hj
  simpa using hj.symm
 rw [Addr.add_lit, h2]
 simpa [vb] using h1
theorem Src.keepB {W W' : World} {g : Nat} (hb : Below (g + 1) W W') (h : Src W g) : Src W' g := by
 obtain ⟨so, n, cap, B, a, sd, h0, hr, hB, h3, h4, h5, h6, c0, c1, c2, f1, f2⟩ := h
 have cc := (bcell hb).1
 have cf := (bcell hb).2
 refine ⟨so, n, cap, B, a, sd, h0, fun i hi => ?_, hB, h3, h4, h5, h6, (cc _ _ (by omega)).trans c0, (cc _ _ (by omega)).trans c1, (cc _ _ (by omega)).trans c2, (cf _ _ (by omega)).trans f1, (cf _ _ (by omega)).trans f2⟩
 obtain ⟨b, o, e, k⟩ := hr i hi
 exact ⟨b, o, e, fun j hj => (cc _ _ (by have := h3 b o e (by omega); omega)).trans (k j hj)⟩
end Go.Proofs.YtklbbopdmnopgaaGreatDoor
