/- Walks: a code is changed into another; a wind and points are drawn. -/
import Derived.Test.YtkhapajjbomknaaDq
import Derived.Test.YtkhapajjbomknaaDt
import Derived.Test.YtkhapajjbomknaaMp
import Derived.Test.YtkhapajjbomknaaOw
import Derived.Laws.AppendOwnNone
namespace Go.Proofs.Ytkhapajjbomknaa
open Go.RowKit

theorem own1_of_row {w : World} {B : Nat} {e : TypeId} {v : Value} {L : List Int} {n : Nat} (hn : n = L.length) (h : w.ownsRow B e 1 v n (L.map (Value.int .u8))) : ∃ so cap, v = .slice so n cap ∧ RowAt w so n 1 (vb fun i => L[i]?.getD 0) := by
  subst hn
  have hc := fun g (hg : v.ownBlock = some g) => World.ownsRow.cells h hg
  obtain ⟨_, ⟨rfl, h0⟩ | ⟨g, cap, cur, rfl, hB, hg, hn, _, hsz, htk⟩⟩ := h
  · exact ⟨none, 0, by rw [h0], fun i hi => absurd hi (by omega)⟩
  · refine ⟨some ⟨g, 0, none⟩, cap, rfl, fun i hi => ⟨g, 0, rfl, fun j hj => ?_⟩⟩
    obtain rfl : j = 0 := by omega
    have := hc g rfl i (.int .u8 (L[i]?.getD 0)) (by rw [List.getElem?_map, List.getElem?_eq_getElem hi]; rfl)
    rw [Addr.add_lit] at this
    simpa [vb] using this
theorem byte_all {L : List Int} (h : ∀ x ∈ L, 0 ≤ x ∧ x ≤ 255) (i : Nat) : 0 ≤ L[i]?.getD 0 ∧ L[i]?.getD 0 ≤ 255 := by
  rcases Nat.lt_or_ge i L.length with k | k
  · rw [List.getElem?_eq_getElem k]; exact h _ (List.getElem_mem k)
  · rw [List.getElem?_eq_none k]; exact ⟨by decide, by decide⟩
/-- The bytes of a code, as a list. -/
def bl (B : Nat → Int) (n : Nat) : List Int := (List.range n).map B
theorem bl_len (B : Nat → Int) (n : Nat) : (bl B n).length = n := by simp [bl]
theorem bl_cells {w : World} {ad : Addr} {n : Nat} {B : Nat → Int} (r : RowAt w (some ad) n 1 (vb B)) : ∀ (j : Nat) (u : Value), ((bl B n).map (Value.int .u8))[j]? = some u → w.cell? (ad.add j) = some u := fun j u hj => by
  have hjn : j < n := by
    rcases Nat.lt_or_ge j n with k | k
    · exact k
    · rw [List.getElem?_eq_none (by simpa [bl] using k)] at hj; cases hj
  obtain ⟨b, o, e, k⟩ := r j hjn
  injection e with e
  subst e
  have h1 := k 0 (by decide)
  have h2 : u = .int .u8 (B j) := by
    rw [bl, List.map_map, List.getElem?_map, List.getElem?_range hjn] at hj
    simpa using hj.symm
  rw [Addr.add_lit, h2]
  simpa [vb] using h1
theorem Src.keepB {W W' : World} {g : Nat} (hb : Below (g + 1) W W') (h : Src W g) : Src W' g := by
  obtain ⟨so, n, cap, B, a, sd, h0, hr, hB, h3, h4, h5, h6, c0, c1, c2, f1, f2⟩ := h
  have cc := (bcell hb).1
  have cf := (bcell hb).2
  refine ⟨so, n, cap, B, a, sd, h0, fun i hi => ?_, hB, h3, h4, h5, h6, (cc _ _ (by omega)).trans c0, (cc _ _ (by omega)).trans c1, (cc _ _ (by omega)).trans c2, (cf _ _ (by omega)).trans f1, (cf _ _ (by omega)).trans f2⟩
  obtain ⟨b, o, e, k⟩ := hr i hi
  exact ⟨b, o, e, fun j hj => (cc _ _ (by have := h3 b o e (by omega); omega)).trans (k j hj)⟩
theorem infoByte : (Try.prog.info? 5).map (fun i => (i.zero, i.size, i.bytes)) = some (some (.int .u8 0), 1, 1) := by kernel_rfl
set_option maxHeartbeats 2000000 in
theorem laws_other (so : Option Addr) (n cap : Nat) (B : Nat → Int) (w : World) (h : RowAt w so n 1 (vb B)) (hB : ∀ i, 0 ≤ B i ∧ B i ≤ 255) (hn : n ≤ 4096) (h0 : so = none → n = 0 ∧ cap = 0) :
    Calls Try.prog 27 #[.slice so n cap, .int .u8 8] w fun e w' => (∃ so' m cap' B', e = .returned (.slice so' m cap') ∧ m ≤ 5000 ∧ RowAt w' so' m 1 (vb B') ∧ ∀ i, 0 ≤ B' i ∧ B' i ≤ 255) ∧ Below w.heap.size w w' := by
  obtain ⟨i0, hi, hz0, hz1, hz2⟩ := info_parts infoByte
  have Hi := hide hi
  have Hz := hide (And.intro hz0 (And.intro hz1 hz2))
  clear hi hz0 hz1 hz2
  have Hm := hide (show (w.alloc (Obj.cells #[Value.int .u8 8, Value.int .u8 15, Value.int .u8 24] 5)).ownsRow w.heap.size 5 1 (.slice (some ⟨w.heap.size, 0, none⟩) 3 3) 3 ([8, 15, 24].map (Value.int .u8)) from
    ⟨rfl, .inr ⟨w.heap.size, 3, #[Value.int .u8 8, Value.int .u8 15, Value.int .u8 24], rfl, Nat.le_refl _, heap_alloc_new w _, Nat.le_refl _, by decide, rfl, rfl⟩⟩)
  have Hh := hide (RowAt.later (Below.alloc (Below.refl _ _) (Nat.le_refl _) (Obj.cells #[Value.int .u8 8, Value.int .u8 15, Value.int .u8 24] 5)) h)
  cases so with
  | none =>
    obtain ⟨rfl, rfl⟩ := h0 rfl
    obtain ⟨so1, cp1, e1, r1⟩ := own1_of_row (L := [8, 15, 24]) rfl Hm.out
    injection e1 with e1 e2 e3
    subst e1 e3
    clear h0 h
    go_enter Try.func27, Try.ntmps27
    go_wp2_with (at_builtin; refine wpList_append_own_none rfl _ _ 22 rfl w.heap.size 5 i0 1 Try.underlying22 Hi.out _ 3 _ rfl Hm.out rfl ?_)
    go_ret
    exact ⟨⟨_, _, _, _, rfl, by decide, r1, byte_all (by decide)⟩, (by repeat (first | with_reducible exact Below.refl _ _ | with_reducible assumption | with_reducible refine Below.drew ?_ | with_reducible refine below_drewN ?_ _ | with_reducible refine Below.setCell ?_ (by first | exact Nat.le_refl _ | (simp; done) | (simp; omega) | (dsimp only; omega)) _ | with_reducible refine Below.alloc ?_ (by first | exact Nat.le_refl _ | (simp; done) | (simp; omega) | (simp at *; omega)) _ | with_reducible refine bstep ?_ (by assumption)))⟩
  | some ad =>
    clear h0 h
    go_enter Try.func27, Try.ntmps27
    go_wp2_with (at_builtin; refine wpList_append_own _ rfl _ _ 22 rfl w.heap.size 5 i0 _ 1 1 Try.underlying22 Hi.out Hz.out.1 Hz.out.2.1 Hz.out.2.2 rfl (by decide) _ 3 _ rfl Hm.out ad n cap ((bl B n).map (Value.int .u8)) rfl (by simp [bl]) (bl_cells Hh.out) (ints_oneCell _ _) (by unfold maxLen; omega) (by omega) (by simp) ?_)
    intro v' w1 hown' hgrow _
    have hb : Below w.heap.size w w1 := (Below.alloc (Below.refl _ _) (Nat.le_refl _) _).grown hgrow (by simp) (fun k hk => (Hm.out.lt k hk).1)
    have hown' := (show w1.ownsRow w.heap.size 5 1 v' (3 + n) (([8, 15, 24] ++ bl B n).map (Value.int .u8)) by rw [List.map_append]; exact hown')
    obtain ⟨so1, cp1, rfl, r1⟩ := own1_of_row (by simp [bl]; omega) hown'
    clear hown' hgrow
    go_wp2
    go_ret
    exact ⟨⟨_, _, _, _, rfl, by omega, r1, byte_all (by
      intro x hx
      rcases List.mem_append.1 hx with h1 | h1
      · simp only [List.mem_cons, List.not_mem_nil, or_false] at h1; rcases h1 with rfl | rfl | rfl <;> decide
      · obtain ⟨i, _, rfl⟩ := List.mem_map.1 h1; exact hB i)⟩, hb⟩
end Go.Proofs.Ytkhapajjbomknaa
