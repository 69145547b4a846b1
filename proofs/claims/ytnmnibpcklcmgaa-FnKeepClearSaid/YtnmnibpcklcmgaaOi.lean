/- Rows of integers that the call owns. -/
import Derived.Test.YtnmnibpcklcmgaaDs
import Derived.Test.YtnmnibpcklcmgaaOw
namespace Go.Proofs.Ytnmnibpcklcmgaa
open Go.RowKit

/-- A row of n elements of c integers each, in memory of the call's own: from block B on; the first integer of none is beyond M. -/
def OwnI (c : Nat) (M : Int) (w : World) (B : Nat) (L : List Int) (n : Nat) (so : Option Addr) : Prop :=
  L.length = n * c ∧ (∀ i, i < n → -M ≤ L[i * c]?.getD 0 ∧ L[i * c]?.getD 0 ≤ M) ∧ (so = none ∧ n = 0 ∨ ∃ g, so = some ⟨g, 0, none⟩ ∧ B ≤ g ∧ g < w.heap.size ∧ ∀ j, j < n * c → w.cell? ⟨g, j, none⟩ = some (.int .i64 (L[j]?.getD 0)) ∧ w.frozen? ⟨g, j, none⟩ = false)
theorem ownI_of_row {c : Nat} {M : Int} {w : World} {B : Nat} {e : TypeId} {v : Value} {L : List Int} {n : Nat} (hl : L.length = n * c) (hM : ∀ i, i < n → -M ≤ L[i * c]?.getD 0 ∧ L[i * c]?.getD 0 ≤ M) (h : w.ownsRow B e c v n (L.map (Value.int .i64))) :
    ∃ so cap, v = .slice so n cap ∧ n ≤ cap ∧ OwnI c M w B L n so := by
  have hc := fun g (hg : v.ownBlock = some g) => World.ownsRow.cells h hg
  obtain ⟨_, ⟨rfl, h0⟩ | ⟨g, cap, cur, rfl, hB, hg, hn, _, hsz, htk⟩⟩ := h
  · exact ⟨none, 0, by rw [h0], by omega, hl, hM, .inl ⟨rfl, h0⟩⟩
  · have hgl : g < w.heap.size := by
      rcases Nat.lt_or_ge g w.heap.size with h | h
      · exact h
      · rw [Array.getElem?_eq_none h] at hg; exact absurd hg (by simp)
    refine ⟨some ⟨g, 0, none⟩, cap, rfl, hn, hl, hM, .inr ⟨g, rfl, hB, hgl, fun j hj => ⟨?_, ?_⟩⟩⟩
    · have := hc g rfl j (.int .i64 (L[j]?.getD 0)) (by rw [List.getElem?_map, List.getElem?_eq_getElem (by omega)]; rfl)
      rwa [Addr.add_lit, Nat.zero_add] at this
    · simp [World.frozen?, hg]
theorem OwnI.grown {c : Nat} {M : Int} {w W : World} {B g : Nat} {L : List Int} {n : Nat} {so : Option Addr} (h : OwnI c M w B L n so) (hg : w.grownBy W (some g)) (hl : g < B) : OwnI c M W B L n so := by
  obtain ⟨h0, hM, ⟨rfl, h2⟩ | ⟨g', rfl, h3, h4, h5⟩⟩ := h
  · exact ⟨h0, hM, .inl ⟨rfl, h2⟩⟩
  · refine ⟨h0, hM, .inr ⟨g', rfl, h3, Nat.lt_of_lt_of_le h4 hg.size, fun j hj => ?_⟩⟩
    obtain ⟨e, f⟩ := h5 j hj
    exact ⟨(gcell hg g' j h4 (by omega)).trans e, (gfroz hg g' j h4 (by omega)).trans f⟩
theorem OwnI.later {c : Nat} {M : Int} {w W : World} {B : Nat} {L : List Int} {n : Nat} {so : Option Addr} (h : OwnI c M w B L n so) (hb : Below w.heap.size w W) : OwnI c M W B L n so := by
  obtain ⟨h0, hM, ⟨rfl, h2⟩ | ⟨g', rfl, h3, h4, h5⟩⟩ := h
  · exact ⟨h0, hM, .inl ⟨rfl, h2⟩⟩
  · refine ⟨h0, hM, .inr ⟨g', rfl, h3, Nat.lt_of_lt_of_le h4 hb.size, fun j hj => ?_⟩⟩
    obtain ⟨e, f⟩ := h5 j hj
    exact ⟨((bcell hb).1 g' j h4).trans e, ((bcell hb).2 g' j h4).trans f⟩
theorem OwnI.mono {c : Nat} {M M' : Int} {w : World} {B B' : Nat} {L : List Int} {n : Nat} {so : Option Addr} (h : OwnI c M w B L n so) (hM : M ≤ M') (hB : B' ≤ B) : OwnI c M' w B' L n so := by
  obtain ⟨h0, h1, h2 | ⟨g', rfl, h3, h4⟩⟩ := h
  · exact ⟨h0, fun i hi => by have := h1 i hi; omega, .inl h2⟩
  · exact ⟨h0, fun i hi => by have := h1 i hi; omega, .inr ⟨g', rfl, by omega, h4⟩⟩
/-- A store into the row. -/
theorem OwnI.set {c : Nat} {M : Int} {w : World} {B g : Nat} {L : List Int} {n : Nat} (h : OwnI c M w B L n (some ⟨g, 0, none⟩)) (j : Nat) (x : Int) (hx : -M ≤ x ∧ x ≤ M) :
    OwnI c M (w.setCell ⟨g, j, none⟩ (.int .i64 x)) B (L.set j x) n (some ⟨g, 0, none⟩) := by
  obtain ⟨h0, hM, ⟨h, _⟩ | ⟨g', e, h3, h4, h5⟩⟩ := h
  · cases h
  · injection e with e; injection e with e
    subst e
    refine ⟨by rw [List.length_set]; exact h0, fun i hi => ?_, .inr ⟨g, rfl, h3, by simpa [World.setCell] using h4, fun k hk => ⟨?_, ?_⟩⟩⟩
    · by_cases e : j = i * c
      · subst e
        rcases Nat.lt_or_ge (i * c) L.length with k | k
        · rw [List.getElem?_set_self k]; exact hx
        · rw [List.getElem?_eq_none (by simpa using k)]; exact ⟨by show -M ≤ 0; omega, by show (0 : Int) ≤ M; omega⟩
      · rw [List.getElem?_set_ne e]; exact hM i hi
    · refine (set_row (h5 k hk).1).trans (congrArg some ?_)
      by_cases e : j = k
      · subst e
        rw [if_pos rfl, List.getElem?_set_self (by omega)]; rfl
      · rw [if_neg e, List.getElem?_set_ne e]
    · rw [World.frozen?_setCell]; exact (h5 k hk).2
/-- Fewer of them. -/
theorem OwnI.take {c : Nat} {M : Int} {w : World} {B : Nat} {L : List Int} {n m : Nat} {so : Option Addr} (h : OwnI c M w B L n so) (hm : m ≤ n) : OwnI c M w B (L.take (m * c)) m so := by
  obtain ⟨h0, hM, h⟩ := h
  have hmc : m * c ≤ n * c := Nat.mul_le_mul_right c hm
  refine ⟨by rw [List.length_take]; omega, fun i hi => ?_, ?_⟩
  · rcases Nat.eq_zero_or_pos c with e | e
    · subst e; simp; have := hM i (by omega); omega
    · rw [List.getElem?_take_of_lt (by have := Nat.mul_lt_mul_of_pos_right hi e; omega)]; exact hM i (by omega)
  rcases h with ⟨rfl, h2⟩ | ⟨g', rfl, h3, h4, h5⟩
  · exact .inl ⟨rfl, by omega⟩
  · refine .inr ⟨g', rfl, h3, h4, fun j hj => ?_⟩
    rw [List.getElem?_take_of_lt hj]
    exact h5 j (by omega)
def q3 (L : List Int) (k i : Nat) : Int := L[i * 3 + k]?.getD 0
theorem OwnI.row3 {M : Int} {w : World} {B : Nat} {L : List Int} {n : Nat} {so : Option Addr} (h : OwnI 3 M w B L n so) : RowAt w so n 3 (v3 (q3 L 0) (q3 L 1) (q3 L 2)) := by
  obtain ⟨h0, hM, ⟨rfl, h2⟩ | ⟨g', rfl, h3, h4, h5⟩⟩ := h
  · exact fun i hi => absurd hi (by omega)
  · refine own_row fun i hi j hj => (h5 _ (by omega)).1.trans (congrArg some ?_)
    rcases (by omega : j = 0 ∨ j = 1 ∨ j = 2) with rfl | rfl | rfl <;> simp [v3, q3]
theorem OwnI.q3_le {M : Int} {w : World} {B : Nat} {L : List Int} {n : Nat} {so : Option Addr} (h : OwnI 3 M w B L n so) (i : Nat) (hi : i < n) : -M ≤ q3 L 0 i ∧ q3 L 0 i ≤ M := h.2.1 i hi
/-- The row's cells, as 'append' asks for them. -/
theorem OwnI.cells {c : Nat} {M : Int} {w : World} {B g : Nat} {L : List Int} {n : Nat} (h : OwnI c M w B L n (some ⟨g, 0, none⟩)) : ∀ (j : Nat) (u : Value), (L.map (Value.int .i64))[j]? = some u → w.cell? ((⟨g, 0, none⟩ : Addr).add j) = some u := fun j u hj => by
  obtain ⟨h0, hM, ⟨h, _⟩ | ⟨g', e, h3, h4, h5⟩⟩ := h
  · cases h
  · injection e with e; injection e with e
    subst e
    have hjn : j < L.length := by
      rcases Nat.lt_or_ge j L.length with k | k
      · exact k
      · rw [List.getElem?_eq_none (by simpa using k)] at hj; cases hj
    rw [List.getElem?_map, List.getElem?_eq_getElem hjn] at hj
    simp only [Option.map_some, Option.some.injEq] at hj
    subst hj
    have := (h5 j (by omega)).1
    rw [List.getElem?_eq_getElem hjn] at this
    rw [Addr.add_lit, Nat.zero_add]
    exact this
theorem new3 {W : World} {e : TypeId} {x y z : Value} : ∀ (j : Nat) (u : Value), [x, y, z][j]? = some u → (W.alloc (.cells #[x, y, z] e)).cell? ((⟨W.heap.size, 0, none⟩ : Addr).add j) = some u := fun j u hj => by
  match j, hj with
  | 0, hj => simp at hj; subst hj; simp [Addr.add]
  | 1, hj => simp at hj; subst hj; simp [Addr.add]
  | 2, hj => simp at hj; subst hj; simp [Addr.add]
theorem ints_one (L : List Int) : ∀ u ∈ L.map (Value.int .i64), u.oneCell' = true := fun u hu => by
  obtain ⟨x, _, rfl⟩ := List.mem_map.1 hu; rfl
end Go.Proofs.Ytnmnibpcklcmgaa
