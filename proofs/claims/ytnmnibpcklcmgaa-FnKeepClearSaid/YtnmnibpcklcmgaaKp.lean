/- Tables of integers: a row of rows that the call owns; an append that tells where the row then lies. -/
import Derived.Test.YtnmnibpcklcmgaaOi
namespace Go.Proofs.Ytnmnibpcklcmgaa
open Go.RowKit

section
variable {P : Program} (w : World)
theorem run_append_where (base : Nat) (t ty e : TypeId) (i : TypeInfo) (z : Value) (size bytes : Nat) (ht : P.underlying t = some (.slice e)) (hi : P.info? e = some i) (hz : i.zero = some z)
    (hsize : i.size = size) (hby : i.bytes = bytes) (hzs : z.cells.size = size) (hsz : 0 < size)
    (g n cap : Nat) (xs : List Value) (hown : w.ownsRow base e size (.slice (some ⟨g, 0, none⟩) n cap) n xs)
    (a : Addr) (m c : Nat) (news : List Value) (hl : news.length = m * size) (hnews : ∀ j u, news[j]? = some u → w.cell? (a.add j) = some u) (h1 : ∀ u ∈ news, u.oneCell' = true)
    (h63 : n + m ≤ maxLen) (hbytes : (n + m) * bytes ≤ 140737488355328) (hbase : base ≤ w.heap.size) :
    ∃ g' cap' w', (Builtin.append_ #[t, t] ty #[.slice (some ⟨g, 0, none⟩) n cap, .slice (some a) m c]).run P w = .ok (.slice (some ⟨g', 0, none⟩) (n + m) cap') w' ∧ w'.ownsRow base e size (.slice (some ⟨g', 0, none⟩) (n + m) cap') (n + m) (xs ++ news) ∧ w.grownBy w' (some g) ∧ (g' = g ∨ g' = w.heap.size) := by
  obtain ⟨v', w', hr, h2, h3, _⟩ := run_append_own (P := P) w base t ty e i z size bytes ht hi hz hsize hby hzs hsz _ n xs hown a m c news hl hnews h1 h63 hbytes hbase
  subst hsize hby
  have holds : ∀ j u, xs[j]? = some u → w.cell? ((⟨g, 0, none⟩ : Addr).add j) = some u := hown.cells (g := g) rfl
  have hlen := hown.1
  obtain ⟨_, ⟨h, _⟩ | ⟨g0, cap0, cur, e0, hbg, hg, hnc, hcm, hcs, htake⟩⟩ := hown
  · cases h
  · injection e0 with e1 e2 e3
    injection e1 with e1
    injection e1 with e1
    subst e1 e3
    by_cases hroom : n + m ≤ cap
    · have hfit : n * i.size + news.length ≤ cur.size := by rw [hl, hcs, ← Nat.add_mul]; exact Nat.mul_le_mul_right _ hroom
      have hr' := run_append_room (P := P) w t ty e i ht hi g n cap cur hg a m c news hl hnews h1 hroom hfit
      have hv : v' = .slice (some ⟨g, 0, none⟩) (n + m) cap := by rw [hr'] at hr; injection hr with e1 _; exact e1.symm
      subst hv
      exact ⟨g, cap, w', hr, h2, h3, .inl rfl⟩
    · have hr' := run_append_grow (P := P) w t ty e i z ht hi hz ⟨g, 0, none⟩ n cap xs hlen holds a m c news hl hnews (by omega) (by simp only [maxLen] at h63; omega) (growslice_fits (by omega) hbytes)
      have hv := hr'.symm.trans hr
      injection hv with e1 _
      subst e1
      exact ⟨_, _, w', hr, h2, h3, .inr rfl⟩
theorem wpList_append_where {w : World} {ops : Array Oper} {rest : List Oper} {o : Oper} {a : Act} {Q : Exit → Act → World → Prop} (hgd : o.guard = none) (s x : Operand) (t : TypeId)
    (ho : o.op = .call { callee := .builtin .append, args := #[s, x], argTypes := #[t, t] })
    (base : Nat) (e : TypeId) (i : TypeInfo) (z : Value) (size bytes : Nat) (ht : P.underlying t = some (.slice e)) (hi : P.info? e = some i) (hz : i.zero = some z)
    (hsize : i.size = size) (hby : i.bytes = bytes) (hzs : z.cells.size = size) (hsz : 0 < size)
    (g n cap : Nat) (xs : List Value) (hs : a.eval s = .slice (some ⟨g, 0, none⟩) n cap) (hown : w.ownsRow base e size (.slice (some ⟨g, 0, none⟩) n cap) n xs)
    (ad : Addr) (m c : Nat) (news : List Value) (hx : a.eval x = .slice (some ad) m c) (hl : news.length = m * size) (hnews : ∀ j u, news[j]? = some u → w.cell? (ad.add j) = some u) (h1 : ∀ u ∈ news, u.oneCell' = true)
    (h63 : n + m ≤ maxLen) (hbytes : (n + m) * bytes ≤ 140737488355328) (hbase : base ≤ w.heap.size)
    (h : ∀ g' cap' w', w'.ownsRow base e size (.slice (some ⟨g', 0, none⟩) (n + m) cap') (n + m) (xs ++ news) → w.grownBy w' (some g) → (g' = g ∨ g' = w.heap.size) → wpList P ops Q rest (a.put o.dst (.slice (some ⟨g', 0, none⟩) (n + m) cap')) w') :
    wpList P ops Q (o :: rest) a w := by
  refine wpList_plain hgd fun K hK => ?_
  obtain ⟨g', cap', w', hr, h2, h3, h4⟩ := run_append_where (P := P) w base t o.type e i z size bytes ht hi hz hsize hby hzs hsz g n cap xs hown ad m c news hl hnews h1 h63 hbytes hbase
  unfold Oper.wp execOp
  simp only [ho, resolve, invoke, builtin, Sem.run_bind, Sem.run_pure, Result.andThen_ok, List.map_toArray, List.map_cons, List.map_nil, hs, hx, hr]
  exact hK _ _ (h g' cap' w' h2 h3 h4)
end

/-- A row of integers. -/
def vI (L : List Int) (i _j : Nat) : Value := .int .i64 (L[i]?.getD 0)
/-- A row of rows. -/
def vS (A : Nat → Option Addr) (R : Nat → List Int) (C : Nat → Nat) (i _j : Nat) : Value := .slice (A i) (R i).length (C i)
/-- The slice at 'so' has n elements; element i reads as the list R i. -/
def RdT (w : World) (so : Option Addr) (n : Nat) (R : Nat → List Int) : Prop := ∃ (A : Nat → Option Addr) (C : Nat → Nat), RowAt w so n 1 (vS A R C) ∧ ∀ i, i < n → RowAt w (A i) (R i).length 1 (vI (R i))
theorem RdT.later {w W : World} {so : Option Addr} {n : Nat} {R : Nat → List Int} (h : RdT w so n R) (hb : Below w.heap.size w W) : RdT W so n R := by
  obtain ⟨A, C, h1, h2⟩ := h
  exact ⟨A, C, h1.later hb, fun i hi => (h2 i hi).later hb⟩
theorem RdT.zero (w : World) (so : Option Addr) (R : Nat → List Int) : RdT w so 0 R := ⟨fun _ => none, fun _ => 0, row_zero _ _ _ _, fun i hi => absurd hi (Nat.not_lt_zero _)⟩
theorem RowAt.at1 {w : World} {so : Option Addr} {n : Nat} {V : Nat → Nat → Value} (h : RowAt w so n 1 V) (i : Nat) (hi : i < n) : ∃ b o, so = some ⟨b, o, none⟩ ∧ b < w.heap.size ∧ w.cell? ⟨b, o + i, none⟩ = some (V i 0) := by
  obtain ⟨b, o, e, k⟩ := h i hi
  have k0 := k 0 (by omega)
  rw [Nat.mul_one, Nat.add_zero] at k0
  exact ⟨b, o, e, World.block_lt_of_cell? _ _ k0, k0⟩

/-- The table that lies in block b: k of its rows are laid; each row in a block of its own, behind b. -/
def Tb (w : World) (e : TypeId) (b k d : Nat) (R : Nat → List Int) : Prop :=
  ∃ G C : Nat → Nat, (∀ j, j < k → w.cell? ⟨b, j, none⟩ = some (.slice (some ⟨G j, 0, none⟩) (R j).length (C j)) ∧ w.ownsRow (b + 1) e 1 (.slice (some ⟨G j, 0, none⟩) (R j).length (C j)) (R j).length ((R j).map (Value.int .i64))) ∧
    (∀ i j, i < k → j < k → i ≠ j → G i ≠ G j) ∧ ∀ j, j < k → G j ≠ d
theorem Tb.zero (w : World) (e : TypeId) (b d : Nat) (R : Nat → List Int) : Tb w e b 0 d R := ⟨fun _ => 0, fun _ => 0, fun j h => absurd h (Nat.not_lt_zero _), fun i j h => absurd h (Nat.not_lt_zero _), fun j h => absurd h (Nat.not_lt_zero _)⟩
theorem own_set {w : World} {B : Nat} {e : TypeId} {size : Nat} {v x : Value} {n : Nat} {xs : List Value} {b j : Nat} (h : w.ownsRow B e size v n xs) (hb : b < B) : (w.setCell ⟨b, j, none⟩ x).ownsRow B e size v n xs :=
  h.kept (gr_set (g := b) ⟨rfl, rfl, rfl, Nat.le_refl _, fun _ _ _ => rfl⟩) (by
    rcases hv : v.ownBlock with _ | k
    · exact .inl rfl
    · have := (h.lt k hv).1
      exact .inr (by simp; omega))
theorem Tb.later {w W : World} {e : TypeId} {b k d : Nat} {R : Nat → List Int} (h : Tb w e b k d R) (hb : Below w.heap.size w W) : Tb W e b k d R := by
  obtain ⟨G, C, h1, h2⟩ := h
  exact ⟨G, C, fun j hj => ⟨cell_later hb (h1 j hj).1, own_later hb (h1 j hj).2⟩, h2⟩
/-- A block that is newer than all is none of them; nor is the table's own. -/
theorem Tb.new {w : World} {e : TypeId} {b k d : Nat} {R : Nat → List Int} (h : Tb w e b k d R) : Tb w e b k w.heap.size R := by
  obtain ⟨G, C, h1, h2, _⟩ := h
  exact ⟨G, C, h1, h2, fun j hj => by have := ((h1 j hj).2.lt (G j) rfl).2; omega⟩
theorem Tb.old {w : World} {e : TypeId} {b k d : Nat} {R : Nat → List Int} (h : Tb w e b k d R) : Tb w e b k b R := by
  obtain ⟨G, C, h1, h2, _⟩ := h
  exact ⟨G, C, h1, h2, fun j hj => by have := ((h1 j hj).2.lt (G j) rfl).1; omega⟩
theorem Tb.congr {w : World} {e : TypeId} {b k d : Nat} {R R' : Nat → List Int} (h : Tb w e b k d R) (hR : ∀ j, j < k → R j = R' j) : Tb w e b k d R' := by
  obtain ⟨G, C, h1, h2⟩ := h
  exact ⟨G, C, fun j hj => by rw [← hR j hj]; exact h1 j hj, h2⟩
/-- One row more: an empty one. -/
theorem Tb.lay {w : World} {e : TypeId} {b k n d : Nat} {R : Nat → List Int} (h : Tb w e b k d R) (hm : Mine w b n) (hk : k < n) (hbl : b < w.heap.size) (hd : d < w.heap.size) (hR : R k = []) :
    Tb ((w.setCell ⟨b, k, none⟩ (.slice (some ⟨w.heap.size, 0, none⟩) 0 0)).alloc (.cells #[] e)) e b (k + 1) d R := by
  rw [← World.setCell_alloc_past _ _ _ _ hbl]
  obtain ⟨G, C, h1, h2, h3⟩ := h
  have hb : Below w.heap.size w (w.alloc (.cells #[] e)) := Below.alloc (Below.refl _ _) (Nat.le_refl _) _
  have hG : ∀ j, j < k → G j < w.heap.size := fun j hj => ((h1 j hj).2.lt (G j) rfl).2
  refine ⟨fun j => if j = k then w.heap.size else G j, fun j => if j = k then 0 else C j, fun j hj => ?_, fun i j hi hj hne => ?_, fun j hj => ?_⟩
  · by_cases e1 : j = k
    · subst e1
      simp only [↓reduceIte, hR, List.length_nil, List.map_nil]
      refine ⟨?_, own_set ?_ (Nat.lt_succ_self _)⟩
      · obtain ⟨⟨v, hv⟩, _⟩ := hm j hk
        exact World.cell?_setCell_same _ _ _ (cell_later hb hv)
      · exact ⟨rfl, .inr ⟨w.heap.size, 0, #[], rfl, hbl, heap_alloc_new w _, Nat.le_refl _, by decide, rfl, rfl⟩⟩
    · simp only [e1, ↓reduceIte]
      obtain ⟨a1, a2⟩ := h1 j (by omega)
      refine ⟨?_, own_set (own_later hb a2) (Nat.lt_succ_self _)⟩
      exact (World.cell?_setCell_other _ _ _ _ (fun k => e1 (by injection k with _ k; exact k.symm))).trans (cell_later hb a1)
  · by_cases e1 : i = k
    · have e2 : ¬ j = k := by omega
      simp only [e1, e2, ↓reduceIte]
      have := hG j (by omega); omega
    · by_cases e2 : j = k
      · simp only [e1, e2, ↓reduceIte]
        have := hG i (by omega); omega
      · simp only [e1, e2, ↓reduceIte]
        exact h2 i j (by omega) (by omega) hne
  · by_cases e1 : j = k
    · simp only [e1, ↓reduceIte]; omega
    · simp only [e1, ↓reduceIte]; exact h3 j (by omega)
theorem Mine.lay {w : World} {b n k : Nat} {x : Value} {o : Obj} (h : Mine w b n) : Mine ((w.setCell ⟨b, k, none⟩ x).alloc o) b n := Mine.later (Below.alloc (Below.refl _ _) (Nat.le_refl _) _) (Mine.set h)
/-- A row has been appended to, and its slice laid back. -/
theorem Tb.app {w w' : World} {e : TypeId} {b k i g g' cap cap' d : Nat} {R : Nat → List Int} {x : Int} (h : Tb w e b k d R) (hi : i < k) (hbl : b < w.heap.size) (hd : d < w.heap.size)
    (hc : w.cell? ⟨b, i, none⟩ = some (.slice (some ⟨g, 0, none⟩) (R i).length cap))
    (ho : w'.ownsRow (b + 1) e 1 (.slice (some ⟨g', 0, none⟩) ((R i).length + 1) cap') ((R i).length + 1) ((R i).map (Value.int .i64) ++ [Value.int .i64 x])) (hg : w.grownBy w' (some g)) (hw : g' = g ∨ g' = w.heap.size) :
    Tb (w'.setCell ⟨b, i, none⟩ (.slice (some ⟨g', 0, none⟩) ((R i).length + 1) cap')) e b k d (fun j => if j = i then R i ++ [x] else R j) := by
  obtain ⟨G, C, h1, h2, h3⟩ := h
  have hgi : g = G i ∧ cap = C i := by
    have := (h1 i hi).1
    rw [hc] at this
    injection this with this
    injection this with e1 e2 e3
    injection e1 with e1
    injection e1 with e1
    exact ⟨e1, e3⟩
  obtain ⟨rfl, rfl⟩ := hgi
  have hG : ∀ j, j < k → b + 1 ≤ G j ∧ G j < w.heap.size := fun j hj => (h1 j hj).2.lt (G j) rfl
  refine ⟨fun j => if j = i then g' else G j, fun j => if j = i then cap' else C j, fun j hj => ?_, fun a c ha hc' hne => ?_, fun j hj => ?_⟩
  · by_cases e1 : j = i
    · subst e1
      simp only [↓reduceIte, List.length_append, List.length_singleton, List.map_append, List.map_cons, List.map_nil]
      refine ⟨?_, own_set ho (Nat.lt_succ_self _)⟩
      have hb1 := hG j hj
      exact World.cell?_setCell_same _ _ _ ((gcell hg b j hbl (by omega)).trans hc)
    · simp only [e1, ↓reduceIte]
      obtain ⟨a1, a2⟩ := h1 j hj
      have hb1 := hG i hi
      refine ⟨?_, own_set (a2.kept hg (.inr ?_)) (Nat.lt_succ_self _)⟩
      · exact (World.cell?_setCell_other _ _ _ _ (fun k => e1 (by injection k with _ k; exact k.symm))).trans ((gcell hg b j hbl (by omega)).trans a1)
      · simp only [Value.ownBlock]
        intro e2
        exact h2 j i hj hi e1 (Option.some.inj e2)
  · have hne2 : ∀ j, j < k → j ≠ i → g' ≠ G j := fun j hj hji e2 => by
      rcases hw with e3 | e3
      · exact h2 j i hj hi hji (by omega)
      · have := (hG j hj).2; omega
    by_cases e1 : a = i
    · have e2 : ¬ c = i := by omega
      simp only [e1, e2, ↓reduceIte]
      exact hne2 c hc' e2
    · by_cases e2 : c = i
      · simp only [e1, e2, ↓reduceIte]
        exact (hne2 a ha e1).symm
      · simp only [e1, e2, ↓reduceIte]
        exact h2 a c ha hc' hne
  · by_cases e1 : j = i
    · simp only [e1, ↓reduceIte]
      have := h3 i hi
      rcases hw with e3 | e3 <;> omega
    · simp only [e1, ↓reduceIte]; exact h3 j hj
theorem Tb.at {w : World} {e : TypeId} {b k i d : Nat} {R : Nat → List Int} (h : Tb w e b k d R) (hi : i < k) : ∃ g cap, w.cell? ⟨b, i, none⟩ = some (.slice (some ⟨g, 0, none⟩) (R i).length cap) ∧ w.ownsRow (b + 1) e 1 (.slice (some ⟨g, 0, none⟩) (R i).length cap) (R i).length ((R i).map (Value.int .i64)) ∧ b < g ∧ g < w.heap.size ∧ g ≠ d := by
  obtain ⟨G, C, h1, _, h3⟩ := h
  exact ⟨G i, C i, (h1 i hi).1, (h1 i hi).2, ((h1 i hi).2.lt (G i) rfl).1, ((h1 i hi).2.lt (G i) rfl).2, h3 i hi⟩
/-- A table of the call's own, as the marks need it. -/
def OwT (w : World) (B : Nat) (so : Option Addr) (n : Nat) (R : Nat → List Int) : Prop :=
  n = 0 ∨ ∃ (b : Nat) (G C : Nat → Nat), so = some ⟨b, 0, none⟩ ∧ B ≤ b ∧ b < w.heap.size ∧ (∀ j, j < n → w.cell? ⟨b, j, none⟩ = some (.slice (some ⟨G j, 0, none⟩) (R j).length (C j))) ∧
    (∀ j, j < n → b < G j ∧ G j < w.heap.size ∧ ∀ q, q < (R j).length → w.cell? ⟨G j, q, none⟩ = some (.int .i64 ((R j)[q]?.getD 0)) ∧ w.frozen? ⟨G j, q, none⟩ = false) ∧ ∀ i j, i < n → j < n → i ≠ j → G i ≠ G j
theorem Tb.own {w : World} {e : TypeId} {B b n d : Nat} {R : Nat → List Int} (h : Tb w e b n d R) (hB : B ≤ b) (hb : b < w.heap.size) : OwT w B (some ⟨b, 0, none⟩) n R := by
  obtain ⟨G, C, h1, h2, _⟩ := h
  refine .inr ⟨b, G, C, rfl, hB, hb, fun j hj => (h1 j hj).1, fun j hj => ⟨((h1 j hj).2.lt (G j) rfl).1, ((h1 j hj).2.lt (G j) rfl).2, fun q hq => ?_⟩, h2⟩
  obtain ⟨_, o⟩ := h1 j hj
  have hc := o.cells (g := G j) rfl q (.int .i64 ((R j)[q]?.getD 0)) (by rw [List.getElem?_map, List.getElem?_eq_getElem hq]; rfl)
  rw [Addr.add_lit, Nat.zero_add] at hc
  exact ⟨hc, o.frozenAt q⟩
theorem OwT.later {w W : World} {B : Nat} {so : Option Addr} {n : Nat} {R : Nat → List Int} (h : OwT w B so n R) (hb : Below w.heap.size w W) : OwT W B so n R := by
  rcases h with h | ⟨b, G, C, h1, h2, h3, h4, h5, h6⟩
  · exact .inl h
  · exact .inr ⟨b, G, C, h1, h2, Nat.lt_of_lt_of_le h3 hb.size, fun j hj => cell_later hb (h4 j hj), fun j hj => ⟨(h5 j hj).1, Nat.lt_of_lt_of_le (h5 j hj).2.1 hb.size, fun q hq => ⟨cell_later hb ((h5 j hj).2.2 q hq).1, frozen_later hb ((h5 j hj).2.2 q hq).1 ((h5 j hj).2.2 q hq).2⟩⟩, h6⟩
theorem OwT.read {w : World} {B : Nat} {so : Option Addr} {n : Nat} {R : Nat → List Int} (h : OwT w B so n R) : RdT w so n R := by
  rcases h with rfl | ⟨b, G, C, rfl, _, _, h4, h5, _⟩
  · exact RdT.zero _ _ _
  · refine ⟨fun j => some ⟨G j, 0, none⟩, C, fun i hi => ⟨b, 0, rfl, fun j hj => ?_⟩, fun i hi q hq => ⟨G i, 0, rfl, fun j hj => ?_⟩⟩
    · obtain rfl : j = 0 := by omega
      rw [Nat.zero_add, Nat.mul_one, Nat.add_zero]; exact h4 i hi
    · obtain rfl : j = 0 := by omega
      rw [Nat.zero_add, Nat.mul_one, Nat.add_zero]; exact ((h5 i hi).2.2 q hq).1

/-- Who of the first m is told so: others than i. -/
def kcL (q : Nat → Nat → Bool) (i : Nat) : Nat → List Int
  | 0 => []
  | m + 1 => if (!(m == i) && q i m) = true then kcL q i m ++ [(m : Int)] else kcL q i m
theorem kcL_yes {q : Nat → Nat → Bool} {i m : Nat} (h1 : m ≠ i) (h2 : q i m = true) : kcL q i (m + 1) = kcL q i m ++ [(m : Int)] := by
  rw [kcL, if_pos (by rw [h2, beq_eq_false_iff_ne.2 h1]; rfl)]
theorem kcL_no {q : Nat → Nat → Bool} {i m : Nat} (h : m = i ∨ q i m = false) : kcL q i (m + 1) = kcL q i m := by
  rw [kcL, if_neg]
  rcases h with rfl | h
  · simp
  · rw [h]; simp
theorem kcL_len (q : Nat → Nat → Bool) (i m : Nat) : (kcL q i m).length ≤ m := by
  induction m with
  | zero => exact Nat.le_refl _
  | succ m ih =>
    rw [kcL]
    split
    · rw [List.length_append, List.length_singleton]; omega
    · omega
theorem new1 {W : World} {e : TypeId} {x : Value} : ∀ (j : Nat) (u : Value), [x][j]? = some u → (W.alloc (.cells #[x] e)).cell? ((⟨W.heap.size, 0, none⟩ : Addr).add j) = some u := fun j u hj => by
  match j, hj with
  | 0, hj => simp at hj; subst hj; simp [Addr.add]
theorem one1 (x : Int) : ∀ u ∈ [Value.int .i64 x], u.oneCell' = true := fun u hu => by
  simp only [List.mem_singleton] at hu; subst hu; rfl
end Go.Proofs.Ytnmnibpcklcmgaa
