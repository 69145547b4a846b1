/- Walks: courses are drawn. -/
import Derived.Test.YtgcdgdnmcdffoaaGreatDoorYc
import Derived.Test.YtgcdgdnmcdffoaaGreatDoorYb
import Derived.Test.YtgcdgdnmcdffoaaGreatDoorDb
import Derived.Test.YtgcdgdnmcdffoaaGreatDoorIv
import Derived.Test.YtgcdgdnmcdffoaaGreatDoorCz
import Derived.Test.YtgcdgdnmcdffoaaGreatDoorCw
import Derived.Deep.AppendLies
import Derived.Deep.Upon
namespace Go.Proofs.YtgcdgdnmcdffoaaGreatDoor
open Go.RowKit


theorem mine_grow {w W : World} {h m g : Nat} (k : Mine w h m) (hg : w.grownBy W (some g)) (hn : h < w.heap.size) (hne : ¬ h = g) : Mine W h m := fun j hj => by
 obtain ⟨⟨v, e⟩, f⟩ := k j hj
 exact ⟨⟨v, (gcell hg h j hn hne).trans e⟩, (gfroz hg h j hn hne).trans f⟩
/-- Only block b may differ, and no cell is frozen anew. -/
structure Spot (b : Nat) (W W' : World) : Prop where
 size : W'.heap.size = W.heap.size
 cell' : ∀ k o, ¬ k = b → W'.cell? ⟨k, o, none⟩ = W.cell? ⟨k, o, none⟩
 froz' : ∀ k o, W'.frozen? ⟨k, o, none⟩ = W.frozen? ⟨k, o, none⟩
 grow : ∀ {w : World} {r : Option Nat}, w.heap.size ≤ b → w.grownBy W r → w.grownBy W' r
 src : ∀ {g : Nat}, g < b → Src W g → Src W' g
theorem Spot.refl (b : Nat) (W : World) : Spot b W W := ⟨rfl, fun _ _ _ => rfl, fun _ _ => rfl, fun _ h => h, fun _ h => h⟩
theorem Spot.set {b j : Nat} {x : Value} {W W' : World} (h : Spot b W W') : Spot b W (W'.setCell ⟨b, j, none⟩ x) :=
 ⟨by simpa [World.setCell] using h.size, fun k o hk => (World.cell?_setCell_other _ _ _ _ (fun e => hk (by injection e with e; exact e.symm))).trans (h.cell' k o hk), fun k o => (World.frozen?_setCell _ _ _ _).trans (h.froz' k o), fun hb hg => gr_new (h.grow hb hg) hb, fun hg hs => Src.set hg (h.src hg hs)⟩
theorem Spot.cell {b k o : Nat} {W W' : World} (h : Spot b W W') (hk : ¬ k = b) : W'.cell? ⟨k, o, none⟩ = W.cell? ⟨k, o, none⟩ := h.cell' k o hk
theorem Spot.mine {b k m : Nat} {W W' : World} (h : Spot b W W') (hk : ¬ k = b) (hm : Mine W k m) : Mine W' k m := fun j hj => by
 obtain ⟨⟨v, e⟩, f⟩ := hm j hj
 exact ⟨⟨v, (h.cell hk).trans e⟩, (h.froz' k j).trans f⟩
/-- Strings in memory of the region's own. -/
def FRowS (g k : Nat) (v : Value) (W : World) : Prop := ∃ b, v = .slice (some ⟨b, 0, none⟩) k k ∧ b ≠ g ∧ b < W.heap.size ∧ ∀ j, j < k → ∃ s : ByteArray, W.cell? ⟨b, j, none⟩ = some (.string s)
def FAddrS (g : Nat) (v : Value) (W : World) : Prop := ∃ b o, v = .pointer (some ⟨b, o, none⟩) ∧ b ≠ g ∧ b < W.heap.size ∧ ∃ s : ByteArray, W.cell? ⟨b, o, none⟩ = some (.string s)
theorem FRowS.later {g k : Nat} {v : Value} {W W' : World} (hg : W.grownBy W' (some g)) (h : FRowS g k v W) : FRowS g k v W' := by
 obtain ⟨b, e, h1, h2, h3⟩ := h
 exact ⟨b, e, h1, Nat.lt_of_lt_of_le h2 hg.size, fun j hj => by obtain ⟨s, hs⟩ := h3 j hj; exact ⟨s, (gcell hg b j h2 h1).trans hs⟩⟩
theorem FAddrS.later {g : Nat} {v : Value} {W W' : World} (hg : W.grownBy W' (some g)) (h : FAddrS g v W) : FAddrS g v W' := by
 obtain ⟨b, o, e, h1, h2, s, hs⟩ := h
 exact ⟨b, o, e, h1, Nat.lt_of_lt_of_le h2 hg.size, s, (gcell hg b o h2 h1).trans hs⟩
theorem FRowS.new {g k : Nat} {W : World} (h : g < W.heap.size) (c : Array Value) (t : TypeId) (hc : ∀ j, j < k → ∃ s : ByteArray, c[j]? = some (.string s)) : FRowS g k (.slice (some ⟨W.heap.size, 0, none⟩) k k) (W.alloc (.cells c t)) :=
 ⟨W.heap.size, rfl, by omega, by simp, fun j hj => by rw [World.cell?_alloc_new]; exact hc j hj⟩
/-- What has been gathered on the way to a row of marks with one more. -/
def FE5 (B : Nat) (e : TypeId) (v : Value) (W : World) : Prop := ∃ b, v = .slice (some ⟨b, 0, none⟩) 0 0 ∧ W.ownsRow B e 5 (.slice (some ⟨b, 0, none⟩) 0 0) 0 []
def FX5 (s : ByteArray) (a c d z : Int) (v : Value) (W : World) : Prop := ∃ x, v = .slice (some ⟨x, 0, none⟩) 1 1 ∧ x < W.heap.size ∧ ∀ (j : Nat) (u : Value), [Value.string s, Value.int .i64 a, Value.int .i64 c, Value.int .i64 d, Value.int .i64 z][j]? = some u → W.cell? ((⟨x, 0, none⟩ : Addr).add j) = some u
def FA5 (B : Nat) (e : TypeId) (n : Nat) (N : Nat → ByteArray) (X Y S Z : Nat → Int) (v : Value) (W : World) : Prop := ∃ b cap, v = .slice (some ⟨b, 0, none⟩) n cap ∧ W.ownsRow B e 5 (.slice (some ⟨b, 0, none⟩) n cap) n (mkWs N X Y S Z n)
def FM5 (B n : Nat) (N : Nat → ByteArray) (X Y S Z : Nat → Int) (v : Value) (W : World) : Prop := ∃ b cap, v = .slice (some ⟨b, 0, none⟩) n cap ∧ n ≤ cap ∧ b < W.heap.size ∧ OwnM W B N X Y S Z n (some ⟨b, 0, none⟩)
def FB9 (B k : Nat) (v : Value) (W : World) : Prop := ∃ y, v = .pointer (some ⟨y, 0, none⟩) ∧ B ≤ y ∧ y < W.heap.size ∧ Mine W y k
theorem FE5.alloc {B : Nat} {e : TypeId} {v : Value} {W : World} (h : FE5 B e v W) (o : Obj) : FE5 B e v (W.alloc o) := by
 obtain ⟨b, e, k⟩ := h
 exact ⟨b, e, k.alloc o⟩
theorem FA5.alloc {B : Nat} {e : TypeId} {n : Nat} {N : Nat → ByteArray} {X Y S Z : Nat → Int} {v : Value} {W : World} (h : FA5 B e n N X Y S Z v W) (o : Obj) : FA5 B e n N X Y S Z v (W.alloc o) := by
 obtain ⟨b, c, e, k⟩ := h
 exact ⟨b, c, e, k.alloc o⟩
theorem FX5.later {s : ByteArray} {a c d z : Int} {v : Value} {W W' : World} (hb : Below W.heap.size W W') (h : FX5 s a c d z v W) : FX5 s a c d z v W' := by
 obtain ⟨x, e, hx, hc⟩ := h
 exact ⟨x, e, Nat.lt_of_lt_of_le hx hb.size, fun j u hj => cell_later hb (hc j u hj)⟩
theorem FX5.grown {s : ByteArray} {a c d z : Int} {v : Value} {W W' : World} {q : Nat} (hg : W.grownBy W' (some q)) (h : FX5 s a c d z v W) (hne : v.ownBlock ≠ some q) : FX5 s a c d z v W' := by
 obtain ⟨x, rfl, hx, hc⟩ := h
 simp only [Value.ownBlock, ne_eq, Option.some.injEq] at hne
 exact ⟨x, rfl, Nat.lt_of_lt_of_le hx hg.size, fx_kept hg hx hne hc⟩
theorem FM5.later {B n : Nat} {N : Nat → ByteArray} {X Y S Z : Nat → Int} {v : Value} {W W' : World} (hb : Below W.heap.size W W') (h : FM5 B n N X Y S Z v W) : FM5 B n N X Y S Z v W' := by
 obtain ⟨b, cap, e, hc, hl, ho⟩ := h
 exact ⟨b, cap, e, hc, Nat.lt_of_lt_of_le hl hb.size, ho.later hb⟩
theorem FB9.later {B k : Nat} {v : Value} {W W' : World} (hb : Below W.heap.size W W') (h : FB9 B k v W) : FB9 B k v W' := by
 obtain ⟨y, e, h1, h2, h3⟩ := h
 exact ⟨y, e, h1, Nat.lt_of_lt_of_le h2 hb.size, Mine.later hb h3⟩
def ptrOf : Value → Option Nat
 | .pointer (some a) => some a.block
 | _ => none
theorem FB9.grown {B k q : Nat} {v : Value} {W W' : World} (hg : W.grownBy W' (some q)) (h : FB9 B k v W) (hne : ptrOf v ≠ some q) : FB9 B k v W' := by
 obtain ⟨y, rfl, h1, h2, h3⟩ := h
 simp only [ptrOf, ne_eq, Option.some.injEq] at hne
 exact ⟨y, rfl, h1, Nat.lt_of_lt_of_le h2 hg.size, mine_grow h3 hg h2 hne⟩
theorem FB9.lt {B k y : Nat} {v : Value} {W : World} (h : FB9 B k v W) (e : ptrOf v = some y) : y < W.heap.size := by
 obtain ⟨y', rfl, _, h2, _⟩ := h
 simp only [ptrOf, Option.some.injEq] at e
 omega
theorem newM5 {W : World} {e : TypeId} {s v x y z : Value} : ∀ (j : Nat) (u : Value), [s, v, x, y, z][j]? = some u → (W.alloc (.cells #[s, v, x, y, z] e)).cell? ((⟨W.heap.size, 0, none⟩ : Addr).add j) = some u := fun j u h => by
 rw [Addr.add_lit, Nat.zero_add, World.cell?_alloc_new]
 simpa using h
theorem OwnM.ge {w : World} {B b n : Nat} {N : Nat → ByteArray} {X Y S Z : Nat → Int} (h : OwnM w B N X Y S Z n (some ⟨b, 0, none⟩)) : B ≤ b ∧ b < w.heap.size := by
 rcases h with ⟨h, _⟩ | ⟨g', e, h3, h4, _⟩
 ·cases h
 ·injection e with e
  injection e with e
  subst e
  exact ⟨h3, h4⟩
/-- At a step of a region: an append by its run. -/
theorem step_append_run {P : Program} {ops : Array Oper} {o : Oper} {a : Act} {w : World} {K : Act → World → Prop} {Q : Exit → Act → World → Prop} {E : Prop} (hgd : o.guard = none) (s x : Operand) (t : TypeId)
 (ho : o.op = .call { callee := .builtin .append, args := #[s, x], argTypes := #[t, t] }) (v1 v2 : Value) (hs : a.eval s = v1) (hx : a.eval x = v2) (v' : Value) (W1 : World) (hr : (Builtin.append_ #[t, t] o.type #[v1, v2]).run P w = .ok v' W1) (h : K (a.put o.dst v') W1) :
 if Region.wanted o (yielded ops a.tmps) = true then Oper.wp P o a w K Q else E := by
 have hw : Region.wanted o (yielded ops a.tmps) = true := by simp [Region.wanted, hgd]
 rw [if_pos hw]
 unfold Oper.wp execOp
 simp only [ho, resolve, invoke, builtin, Sem.run_bind, Sem.run_pure, Result.andThen_ok, List.map_toArray, List.map_cons, List.map_nil, hs, hx, hr]
 exact h
theorem infoMk : (Tryz.prog.info? 45).map (fun i => (i.zero, i.size, i.bytes)) = some (some (.agg #[.string ByteArray.empty, .int .i64 0, .int .i64 0, .int .i64 0, .int .i64 0]), 5, 48) := by kernel_rfl
/-- Marks are copied into new memory. -/
theorem app_marks (i0 : TypeInfo) (Hi : Tryz.prog.info? 45 = some i0) (Hz : i0.zero = some (Value.agg #[.string ByteArray.empty, .int .i64 0, .int .i64 0, .int .i64 0, .int .i64 0]) ∧ i0.size = 5 ∧ i0.bytes = 48) (W : World) (base B e0 : Nat) (so : Option Addr) (n cap : Nat) (N : Nat → ByteArray) (X Y S Z : Nat → Int) (hn : n ≤ 9) (ho : OwnM W B N X Y S Z n so)
 (h0 : W.ownsRow base 45 5 (.slice (some ⟨e0, 0, none⟩) 0 0) 0 []) (hB : base ≤ W.heap.size) :
 ∃ g c W1, (Builtin.append_ #[28, 28] 28 #[.slice (some ⟨e0, 0, none⟩) 0 0, .slice so n cap]).run Tryz.prog W = .ok (.slice (some ⟨g, 0, none⟩) n c) W1 ∧ W1.ownsRow base 45 5 (.slice (some ⟨g, 0, none⟩) n c) n (mkWs N X Y S Z n) ∧ Below base W W1 ∧ W.grownBy W1 (some e0) ∧ (g = e0 ∨ g = W.heap.size) := by
 by_cases h9 : n = 0
 ·subst h9
  have hsrc : ∀ a, so = some a → (Go.Src Tryz.prog 5 28 (.slice so 0 cap) 0 [] W) := fun a e => by rw [e]; exact Go.Src.ofSlice W Tryz.underlying28 a 0 cap [] rfl (fun j u h => by cases h) (fun u h => by cases h)
  have hs : Go.Src Tryz.prog i0.size 28 (.slice so 0 cap) 0 [] W := by
   rw [Hz.2.1]
   cases so with
   | none => exact Go.Src.ofNil W Tryz.underlying28 cap
   | some a => exact hsrc a rfl
  exact ⟨e0, 0, W, run_append_nothing (P := Tryz.prog) W 28 28 28 45 i0 Tryz.underlying28 Hi _ 0 0 (Nat.le_refl _) _ hs, h0, Below.refl _ _, World.grownBy.refl _ _, .inl rfl⟩
 ·obtain ⟨b, rfl, hb1, hb2, hb3⟩ := ho.blk (by omega)
  obtain ⟨g, c, w', hr, h2, h3, h4, _⟩ := run_append_lies (P := Tryz.prog) W 28 28 base 45 i0 _ 5 48 Tryz.underlying28 Hi Hz.1 Hz.2.1 Hz.2.2 rfl (by decide) _ 0 [] h0 ⟨b, 0, none⟩ n cap (mkWs N X Y S Z n) (by rw [mkWs_len]) ho.cells (mkWs_one N X Y S Z n) (by omega) (by unfold maxLen; omega) (by omega) hB W.heap.size rfl
  rw [Nat.zero_add] at hr h2
  rw [List.nil_append] at h2
  refine ⟨g, c, w', hr, h2, own_grown h0 hB h3, h3, ?_⟩
  rcases h4 with h4 | h4
  ·exact .inl (by simp only [Value.ownBlock, Option.some.injEq] at h4; exact h4.symm)
  ·exact .inr h4
/-- A mark is appended to marks that the call owns. -/
theorem app_mark (i0 : TypeInfo) (Hi : Tryz.prog.info? 45 = some i0) (Hz : i0.zero = some (Value.agg #[.string ByteArray.empty, .int .i64 0, .int .i64 0, .int .i64 0, .int .i64 0]) ∧ i0.size = 5 ∧ i0.bytes = 48) (W : World) (base b x n cap : Nat) (N : Nat → ByteArray) (X Y S Z : Nat → Int) (s : ByteArray) (a c d z : Int) (hn : n ≤ 9)
 (h0 : W.ownsRow base 45 5 (.slice (some ⟨b, 0, none⟩) n cap) n (mkWs N X Y S Z n)) (hB : base ≤ W.heap.size)
 (hs : ∀ (j : Nat) (u : Value), [Value.string s, Value.int .i64 a, Value.int .i64 c, Value.int .i64 d, Value.int .i64 z][j]? = some u → W.cell? ((⟨x, 0, none⟩ : Addr).add j) = some u) :
 ∃ g cp W1, (Builtin.append_ #[28, 28] 28 #[.slice (some ⟨b, 0, none⟩) n cap, .slice (some ⟨x, 0, none⟩) 1 1]).run Tryz.prog W = .ok (.slice (some ⟨g, 0, none⟩) (n + 1) cp) W1 ∧ n + 1 ≤ cp ∧ g < W1.heap.size ∧ OwnM W1 base (more N n s) (more X n a) (more Y n c) (more S n d) (more Z n z) (n + 1) (some ⟨g, 0, none⟩) ∧ Below base W W1 ∧ W.grownBy W1 (some b) ∧ (g = b ∨ g = W.heap.size) := by
 obtain ⟨g, cp, w', hr, h2, h3, h4, h5⟩ := run_append_lies (P := Tryz.prog) W 28 28 base 45 i0 _ 5 48 Tryz.underlying28 Hi Hz.1 Hz.2.1 Hz.2.2 rfl (by decide) _ n _ h0 ⟨x, 0, none⟩ 1 1 [.string s, .int .i64 a, .int .i64 c, .int .i64 d, .int .i64 z] rfl hs (oneM5 _ _ _ _ _) (by omega) (by unfold maxLen; omega) (by omega) hB W.heap.size rfl
 rw [mkWs_more] at h2
 obtain ⟨so, cp2, e, hc, ho⟩ := ownM_of_row h2
 injection e with e1 e2 e3
 subst e1
 subst e3
 refine ⟨g, cp, w', hr, hc, h5, ho, own_grown h0 hB h3, h3, ?_⟩
 rcases h4 with h4 | h4
 ·exact .inl (by simp only [Value.ownBlock, Option.some.injEq] at h4; exact h4.symm)
 ·exact .inr h4
theorem own_new5 (W : World) (base : Nat) (hB : base ≤ W.heap.size) : (W.alloc (.cells #[] 45)).ownsRow base 45 5 (.slice (some ⟨W.heap.size, 0, none⟩) 0 0) 0 [] :=
 World.ownsRow_made (base := base) (e := 45) (size := 5) W #[] 0 (by omega) (by decide) rfl


/-- A course in a box. -/
def CoB (W : World) (b : Nat) (ax ay bx bY cx cy dx dy : Int) (so : Option Addr) (n cap : Nat) : Prop := W.cell? ⟨b, 0, none⟩ = some (.int .i64 ax) ∧ W.cell? ⟨b, 1, none⟩ = some (.int .i64 ay) ∧ W.cell? ⟨b, 2, none⟩ = some (.int .i64 bx) ∧ W.cell? ⟨b, 3, none⟩ = some (.int .i64 bY) ∧ W.cell? ⟨b, 4, none⟩ = some (.int .i64 cx) ∧ W.cell? ⟨b, 5, none⟩ = some (.int .i64 cy) ∧ W.cell? ⟨b, 6, none⟩ = some (.int .i64 dx) ∧ W.cell? ⟨b, 7, none⟩ = some (.int .i64 dy) ∧ W.cell? ⟨b, 8, none⟩ = some (.slice so n cap) ∧ W.frozen? ⟨b, 0, none⟩ = false ∧ W.frozen? ⟨b, 1, none⟩ = false ∧ W.frozen? ⟨b, 2, none⟩ = false ∧ W.frozen? ⟨b, 3, none⟩ = false ∧ W.frozen? ⟨b, 4, none⟩ = false ∧ W.frozen? ⟨b, 5, none⟩ = false ∧ W.frozen? ⟨b, 6, none⟩ = false ∧ W.frozen? ⟨b, 7, none⟩ = false ∧ W.frozen? ⟨b, 8, none⟩ = false
theorem CoB.grown {W W' : World} {b g : Nat} {ax ay bx bY cx cy dx dy : Int} {so : Option Addr} {n cap : Nat} (h : CoB W b ax ay bx bY cx cy dx dy so n cap) (hg : W.grownBy W' (some g)) (hl : b < W.heap.size) (hne : ¬ b = g) : CoB W' b ax ay bx bY cx cy dx dy so n cap := by
 obtain ⟨c0, c1, c2, c3, c4, c5, c6, c7, c8, f0, f1, f2, f3, f4, f5, f6, f7, f8⟩ := h
 have k := fun j => gcell hg b j hl hne
 have l := fun j => gfroz hg b j hl hne
 exact ⟨(k 0).trans c0, (k 1).trans c1, (k 2).trans c2, (k 3).trans c3, (k 4).trans c4, (k 5).trans c5, (k 6).trans c6, (k 7).trans c7, (k 8).trans c8, (l 0).trans f0, (l 1).trans f1, (l 2).trans f2, (l 3).trans f3, (l 4).trans f4, (l 5).trans f5, (l 6).trans f6, (l 7).trans f7, (l 8).trans f8⟩
theorem CoB.later {W W' : World} {b : Nat} {ax ay bx bY cx cy dx dy : Int} {so : Option Addr} {n cap : Nat} (h : CoB W b ax ay bx bY cx cy dx dy so n cap) (hb : Below W.heap.size W W') : CoB W' b ax ay bx bY cx cy dx dy so n cap := by
 obtain ⟨c0, c1, c2, c3, c4, c5, c6, c7, c8, f0, f1, f2, f3, f4, f5, f6, f7, f8⟩ := h
 exact ⟨cell_later hb c0, cell_later hb c1, cell_later hb c2, cell_later hb c3, cell_later hb c4, cell_later hb c5, cell_later hb c6, cell_later hb c7, cell_later hb c8, frozen_later hb c0 f0, frozen_later hb c1 f1, frozen_later hb c2 f2, frozen_later hb c3 f3, frozen_later hb c4 f4, frozen_later hb c5 f5, frozen_later hb c6 f6, frozen_later hb c7 f7, frozen_later hb c8 f8⟩
theorem CoB.far {W : World} {b b' j : Nat} {x : Value} {ax ay bx bY cx cy dx dy : Int} {so : Option Addr} {n cap : Nat} (h : CoB W b ax ay bx bY cx cy dx dy so n cap) (hne : ¬ b' = b) : CoB (W.setCell ⟨b', j, none⟩ x) b ax ay bx bY cx cy dx dy so n cap := by
 obtain ⟨c0, c1, c2, c3, c4, c5, c6, c7, c8, f0, f1, f2, f3, f4, f5, f6, f7, f8⟩ := h
 exact ⟨cell_set c0 (by simp; omega), cell_set c1 (by simp; omega), cell_set c2 (by simp; omega), cell_set c3 (by simp; omega), cell_set c4 (by simp; omega), cell_set c5 (by simp; omega), cell_set c6 (by simp; omega), cell_set c7 (by simp; omega), cell_set c8 (by simp; omega), by rw [World.frozen?_setCell]; exact f0, by rw [World.frozen?_setCell]; exact f1, by rw [World.frozen?_setCell]; exact f2, by rw [World.frozen?_setCell]; exact f3, by rw [World.frozen?_setCell]; exact f4, by rw [World.frozen?_setCell]; exact f5, by rw [World.frozen?_setCell]; exact f6, by rw [World.frozen?_setCell]; exact f7, by rw [World.frozen?_setCell]; exact f8⟩

set_option maxRecDepth 100000 in
set_option maxHeartbeats 16000000 in
theorem spec_l04Draw (g : Nat) (w : World) (h : Src w g) : Calls Tryz.prog 73 #[.pointer (some ⟨g, 0, none⟩)] w (CoC 1 4 w g) := by
 have ng := Src.lt h
 have nz0 : ¬ w.heap.size = g := by omega
 have nz1 : ¬ g = w.heap.size := by omega
 obtain ⟨i0, hi, hz0, hz1, hz2⟩ := info_parts infoMk
 have Hi := hide hi
 have Hz := hide (And.intro hz0 (And.intro hz1 hz2))
 clear hi hz0 hz1 hz2
 go_enter Tryz.func73, Tryz.ntmps73
 go_wp2_with fail; (with_reducible refine (spec_l04DrawLine_b g _ swz).mono ?_); rintro e w1 ⟨⟨ax, ay, bx, bY, rfl, hA1⟩, hg1, hs1⟩; have hc1 := gcell hg1; have hf1 := gfroz hg1; have lg1 := Src.lt hs1; have nga1 : ¬ w1.heap.size = g := (by omega); have ngb1 : ¬ g = w1.heap.size := (by omega); have hzs1 := hg1.size; (try simp at hzs1); have zx1_0 : w.heap.size < w1.heap.size := (by first | omega | (simp at hzs1; omega)); have zy1_0 : w.heap.size < w1.heap.size + 1 := (by omega); have zw1_0 : ¬ w1.heap.size = w.heap.size := (by omega); have zv1_0 : ¬ w.heap.size = w1.heap.size := (by omega); have zu1_0 : w.heap.size < w1.heap.size + 1 + 1 := (by omega); have zt1_0 : ¬ w1.heap.size + 1 = w.heap.size := (by omega); have zr1_0 : ¬ w.heap.size = w1.heap.size + 1 := (by omega)
 go_wp2_with fail; (with_reducible refine (spec_l04DrawLine_b g _ swz).mono ?_); rintro e w2 ⟨⟨cx, cy, dx, dy, rfl, hA2⟩, hg2, hs2⟩; have hc2 := gcell hg2; have hf2 := gfroz hg2; have lg2 := Src.lt hs2; have nga2 : ¬ w2.heap.size = g := (by omega); have ngb2 : ¬ g = w2.heap.size := (by omega); have hzs2 := hg2.size; (try simp at hzs2); have zx2_0 : w.heap.size < w2.heap.size := (by first | omega | (simp at hzs2; omega)); have zy2_0 : w.heap.size < w2.heap.size + 1 := (by omega); have zw2_0 : ¬ w2.heap.size = w.heap.size := (by omega); have zv2_0 : ¬ w.heap.size = w2.heap.size := (by omega); have zu2_0 : w.heap.size < w2.heap.size + 1 + 1 := (by omega); have zt2_0 : ¬ w2.heap.size + 1 = w.heap.size := (by omega); have zr2_0 : ¬ w.heap.size = w2.heap.size + 1 := (by omega)
 go_wp2_with fail; (with_reducible refine (spec_l01NextN g 4 4 _ swz (by decide) (by decide) (by decide)).mono ?_); rintro e w3 ⟨⟨x3, rfl, hx3⟩, hg3, hs3⟩; have hc3 := gcell hg3; have hf3 := gfroz hg3; have lg3 := Src.lt hs3; have nga3 : ¬ w3.heap.size = g := (by omega); have ngb3 : ¬ g = w3.heap.size := (by omega); have hzs3 := hg3.size; (try simp at hzs3); have zx3_0 : w.heap.size < w3.heap.size := (by first | omega | (simp at hzs3; omega)); have zy3_0 : w.heap.size < w3.heap.size + 1 := (by omega); have zw3_0 : ¬ w3.heap.size = w.heap.size := (by omega); have zv3_0 : ¬ w.heap.size = w3.heap.size := (by omega); have zu3_0 : w.heap.size < w3.heap.size + 1 + 1 := (by omega); have zt3_0 : ¬ w3.heap.size + 1 = w.heap.size := (by omega); have zr3_0 : ¬ w.heap.size = w3.heap.size + 1 := (by omega); have zx3_1 : w2.heap.size < w3.heap.size := (by first | omega | (simp at hzs3; omega)); have zy3_1 : w2.heap.size < w3.heap.size + 1 := (by omega); have zw3_1 : ¬ w3.heap.size = w2.heap.size := (by omega); have zv3_1 : ¬ w2.heap.size = w3.heap.size := (by omega); have zu3_1 : w2.heap.size < w3.heap.size + 1 + 1 := (by omega); have zt3_1 : ¬ w3.heap.size + 1 = w2.heap.size := (by omega); have zr3_1 : ¬ w2.heap.size = w3.heap.size + 1 := (by omega); have zx3_2 : w2.heap.size + 1 < w3.heap.size := (by first | omega | (simp at hzs3; omega)); have zy3_2 : w2.heap.size + 1 < w3.heap.size + 1 := (by omega); have zw3_2 : ¬ w3.heap.size = w2.heap.size + 1 := (by omega); have zv3_2 : ¬ w2.heap.size + 1 = w3.heap.size := (by omega); have zu3_2 : w2.heap.size + 1 < w3.heap.size + 1 + 1 := (by omega); have zt3_2 : ¬ w3.heap.size + 1 = w2.heap.size + 1 := (by omega); have zr3_2 : ¬ w2.heap.size + 1 = w3.heap.size + 1 := (by omega)
 have b3g : ¬ w2.heap.size + 1 = g := by omega
 have HC3 := hide (show CoB w3 w2.heap.size ax ay bx bY cx cy dx dy none 0 0 from ⟨by go_simp, by go_simp, by go_simp, by go_simp, by go_simp, by go_simp, by go_simp, by go_simp, by go_simp, by go_simp, by go_simp, by go_simp, by go_simp, by go_simp, by go_simp, by go_simp, by go_simp, by go_simp⟩)
 have HR3 := hide (mine_grow (Mine.later (Below.alloc (Below.refl _ _) (Nat.le_refl _) _) (Mine.later (Below.alloc (Below.refl _ _) (Nat.le_refl _) _) (mine_grow (mine_grow (mine_make (m := 9) rfl) hg1 (by simp) (by omega)) hg2 (by omega) (by omega)))) hg3 (by simp; omega) (by omega))
 have HN3 := hide (show ∀ j, j < 8 → ∃ s : ByteArray, w3.cell? ⟨w2.heap.size + 1, j, none⟩ = some (.string s) from fun j hj => by
  rcases (by omega : j = 0 ∨ j = 1 ∨ j = 2 ∨ j = 3 ∨ j = 4 ∨ j = 5 ∨ j = 6 ∨ j = 7) with rfl | rfl | rfl | rfl | rfl | rfl | rfl | rfl
  ·exact ⟨⟨#[109, 49]⟩, by go_simp⟩
  ·exact ⟨⟨#[109, 50]⟩, by go_simp⟩
  ·exact ⟨⟨#[116, 111, 112]⟩, by go_simp⟩
  ·exact ⟨⟨#[103, 97, 116, 101]⟩, by go_simp⟩
  ·exact ⟨⟨#[109, 53]⟩, by go_simp⟩
  ·exact ⟨⟨#[119, 105, 110, 103]⟩, by go_simp⟩
  ·exact ⟨⟨#[109, 55]⟩, by go_simp⟩
  ·exact ⟨⟨#[120, 56]⟩, by go_simp⟩)
 have HG3 := hide (show w.grownBy w3 (some g) from gwz)
 have HS3 := hide hs3
 have HA1 := hide hA1
 have HA2 := hide hA2
 have wx : IntKind.i64.wrap (1 + (x3 : Int)) = 1 + (x3 : Int) := IntWalk.i64_in _ (by omega)
 clear hc1 hf1 hc2 hf2 hc3 hf3 hg1 hg2 hg3 hs1 hs2 hs3 hA1 hA2
 have b2g : ¬ w2.heap.size = g := by omega
 go_wp2
 go_loopw [5] (fun i wr => ∃ (k n cap : Nat) (so : Option Addr) (N : Nat → ByteArray) (X Y S Z : Nat → Int), i = .int .i64 (k : Int) ∧ n + k ≤ 4 ∧ n ≤ cap ∧ Hid (OwnM wr w3.heap.size N X Y S Z n so) ∧ Hid (CoB wr w2.heap.size ax ay bx bY cx cy dx dy so n cap) ∧ Hid (Mine wr w.heap.size 9) ∧ Hid (∀ j, j < 8 → ∃ s : ByteArray, wr.cell? ⟨w2.heap.size + 1, j, none⟩ = some (.string s)) ∧ Hid (Src wr g) ∧ Hid (w.grownBy wr (some g)) ∧ w3.heap.size ≤ wr.heap.size) (fun i _ => (intOf i).toNat)
 case atStart => exact ⟨x3 + 1, 0, 0, none, fun _ => ByteArray.empty, fun _ => 0, fun _ => 0, fun _ => 0, fun _ => 0, by congr 1; omega, by omega, Nat.le_refl _, hide (.inl ⟨rfl, rfl⟩), HC3, HR3, HN3, HS3, HG3, Nat.le_refl _⟩
 case round =>
  clear HC3 HR3 HN3 HS3 HG3 wx
  obtain ⟨k, n, cap, so, N, X, Y, S, Z, rfl, hnk, hnc, HOwn, HC, HR, HN, HS, HG, hsz⟩ := hrel
  have hsr := HS.out
  have hgr := HG.out
  have lgr := Src.lt hsr
  have zr0 : w.heap.size < wr.heap.size := by omega
  have zr1 : w2.heap.size < wr.heap.size := by omega
  have zr2 : w2.heap.size + 1 < wr.heap.size := by omega
  by_cases k0 : k = 0
  ·subst k0
   clear HN
   obtain ⟨i1, i2, _⟩ := isSg_t HA1.out
   obtain ⟨i3, i4, i5, i6⟩ := isPt_t i1
   obtain ⟨j3, j4, j5, j6⟩ := isPt_t i2
   clear i1 i2
   obtain ⟨c0, c1, c2, c3, c4, c5, c6, c7, c8, f0, f1, f2, f3, f4, f5, f6, f7, f8⟩ := HC.out
   go_wp2
   clear c0 c1 c2 c3 c4 c5 c6 c7 c8 f0 f1 f2 f3 f4 f5 f6 f7 f8 hsr hgr
   go_loopg [] (if n = 0 then 1 else 0) (fun gk wr => ∃ (n cap : Nat) (so : Option Addr) (N : Nat → ByteArray) (X Y S Z : Nat → Int), (n = 0 ∧ gk = 1 ∨ 1 ≤ n ∧ n ≤ 4) ∧ n ≤ cap ∧ Hid (OwnM wr w3.heap.size N X Y S Z n so) ∧ Hid (CoB wr w2.heap.size ax ay bx bY cx cy dx dy so n cap) ∧ Hid (Mine wr w.heap.size 9) ∧ Hid (Src wr g) ∧ Hid (w.grownBy wr (some g)) ∧ w3.heap.size ≤ wr.heap.size)
   case atStart => exact ⟨n, cap, so, N, X, Y, S, Z, (if h9 : n = 0 then .inl ⟨h9, if_pos h9⟩ else .inr (by omega)), hnc, HOwn, HC, HR, HS, HG, hsz⟩
   case round =>
    clear HOwn HC HR HS HG lgr hsz zr0 zr1 zr2 hnk hnc
    obtain ⟨n, cap, so, N, X, Y, S, Z, hn, hnc, HO, HC, HR, HS, HG, hsz⟩ := hrel
    have hsr := HS.out
    have hgr := HG.out
    have lgr := Src.lt hsr
    have zr0 : w.heap.size < wr.heap.size := by omega
    have zr1 : w2.heap.size < wr.heap.size := by omega
    obtain ⟨c0, c1, c2, c3, c4, c5, c6, c7, c8, f0, f1, f2, f3, f4, f5, f6, f7, f8⟩ := HC.out
    by_cases n0 : n = 0
    ·subst n0
     go_wp2_with fail; (with_reducible refine (spec_l04Middle _ _ _ _ HA1.out _).mono ?_); rintro e w4 ⟨rfl, hb4⟩
     have hz4 := hb4.size
     obtain ⟨P, hP⟩ : ∃ x, x = (ax + bx) / 2 := ⟨_, rfl⟩
     have hP1 : -1000000 ≤ P := by omega
     have hP2 : P ≤ 1000000 := by omega
     rw [← hP]
     clear hP
     obtain ⟨Q0, hQ, qb1, qb2⟩ : ∃ q : Int, (ay + bY) / 2 = q ∧ -1000000 ≤ q ∧ q ≤ 1000000 := ⟨_, rfl, by omega, by omega⟩
     rw [hQ]
     clear hQ
     have wP : IntKind.i64.wrap (P + 1) = P + 1 := IntWalk.i64_in _ (by omega)
     obtain ⟨px, hpx, px1, px2⟩ : ∃ px : Int, (if P + 1 < 1000000 then P + 1 else 1000000) = px ∧ -1000000 ≤ px ∧ px ≤ 1000000 := ⟨_, rfl, by split <;> omega, by split <;> omega⟩
     clear hP1 hP2
     have zq0 : w.heap.size < w4.heap.size := by omega
     have zq1 : w2.heap.size < w4.heap.size := by omega
     have d0 := cell_later hb4 c0
     have e0 := frozen_later hb4 c0 f0
     have d1 := cell_later hb4 c1
     have e1 := frozen_later hb4 c1 f1
     have d2 := cell_later hb4 c2
     have e2 := frozen_later hb4 c2 f2
     have d3 := cell_later hb4 c3
     have e3 := frozen_later hb4 c3 f3
     have d4 := cell_later hb4 c4
     have e4 := frozen_later hb4 c4 f4
     have d5 := cell_later hb4 c5
     have e5 := frozen_later hb4 c5 f5
     have d6 := cell_later hb4 c6
     have e6 := frozen_later hb4 c6 f6
     have d7 := cell_later hb4 c7
     have e7 := frozen_later hb4 c7 f7
     have d8 := cell_later hb4 c8
     have e8 := frozen_later hb4 c8 f8
     go_wp2_with fail; (with_reducible refine (spec_l04Middle _ _ _ _ HA2.out _).mono ?_); rintro e w5 ⟨rfl, hb5⟩
     have hz5 := hb5.size
     simp only [size_al] at hz5
     have hpx := hide hpx
     have hng5 : ¬ w5.heap.size = g := by omega
     have hng4 : ¬ w4.heap.size = g := by omega
     generalize (cx + dx) / 2 = U0
     generalize (cy + dy) / 2 = V0
     go_upto_region 14 with fail
     obtain ⟨wC, hwC⟩ : ∃ x, x = w5.alloc (.cells #[.int .i64 U0, .int .i64 V0] 25) := ⟨_, rfl⟩
     rw [← hwC]
     have h5C : Below w5.heap.size w5 wC := by rw [hwC]; exact Below.alloc (Below.refl _ _) (Nat.le_refl _) _
     obtain ⟨hc5, hf5⟩ := bcell hb5
     have x0 : w5.cell? ⟨w4.heap.size, 0, none⟩ = some (.int .i64 px) := by go_simp
     have x1 : w5.cell? ⟨w4.heap.size, 1, none⟩ = some (.int .i64 Q0) := by go_simp
     have x2 : w5.frozen? ⟨w4.heap.size, 0, none⟩ = false := by go_simp
     have x4 : w5.frozen? ⟨w4.heap.size, 1, none⟩ = false := by go_simp
     have y0 : wC.cell? ⟨w5.heap.size, 0, none⟩ = some (.int .i64 U0) := by rw [hwC]; go_simp
     have y1 : wC.cell? ⟨w5.heap.size, 1, none⟩ = some (.int .i64 V0) := by rw [hwC]; go_simp
     have hrC : Below wr.heap.size wr wC := by rw [hwC]; exact bwz
     have kx0 := cell_later h5C x0
     have kx1 := cell_later h5C x1
     have kx2 := frozen_later h5C x0 x2
     have kx4 := frozen_later h5C x1 x4
     have HCC := hide (HC.out.later hrC)
     have HRC := hide (Mine.later hrC HR.out)
     have HSC := hide (Src.keep hrC hsr)
     have HGC := hide (gr_belowB hgr (hrC.mono (by omega)))
     have zC := hrC.size
     have zC4 : w4.heap.size < wC.heap.size := World.block_lt_of_cell? _ _ kx0
     have zC5 : w5.heap.size < wC.heap.size := World.block_lt_of_cell? _ _ y0
     have zC2 : w2.heap.size < wC.heap.size := by omega
     have zC0 : w.heap.size < wC.heap.size := by omega
     have z4r : wr.heap.size ≤ w4.heap.size := by omega
     have z5g : g < w5.heap.size := by omega
     have z54 : ¬ w4.heap.size = w5.heap.size := by omega
     clear hwC h5C hrC hc5 hf5 x0 x1 x2 x4 hb4 hb5 hz4 hz5 HC HR HS HG hsr hgr hpx wP hng4 hng5 zq0 zq1 c0 f0 d0 e0 c1 f1 d1 e1 c2 f2 d2 e2 c3 f3 d3 e3 c4 f4 d4 e4 c5 f5 d5 e5 c6 f6 d6 e6 c7 f7 d7 e7 c8 f8 d8 e8
     obtain ⟨c0, c1, c2, c3, c4, c5, c6, c7, c8, f0, f1, f2, f3, f4, f5, f6, f7, f8⟩ := HCC.out
     obtain ⟨M0, M1, KM0⟩ : ∃ M0 M1 : Int, ∀ W, Calls Tryz.prog 107 #[.agg #[.int .i64 ax, .int .i64 ay, .int .i64 bx, .int .i64 bY]] W fun e w' => e = .returned (.agg #[.int .i64 M0, .int .i64 M1]) ∧ Below W.heap.size W w' := ⟨_, _, fun W => spec_l04Middle _ _ _ _ HA1.out W⟩
     obtain ⟨dd, hE⟩ : ∃ dd : Bool, ∀ W : World, (if px = U0 then (if Q0 = V0 then Result.ok (Next.value (Value.bool true)) W else Result.ok (Next.value (Value.bool false)) W) else Result.ok (Next.value (Value.bool false)) W) = Result.ok (Next.value (Value.bool dd)) W := ⟨decide (px = U0 ∧ Q0 = V0), fun W => by by_cases e1 : px = U0 <;> by_cases e2 : Q0 = V0 <;> simp [e1, e2]⟩
     obtain ⟨d2, hE2⟩ : ∃ dd : Bool, ∀ W : World, (if px = M0 then (if Q0 = M1 then Result.ok (Next.value (Value.bool true)) W else Result.ok (Next.value (Value.bool false)) W) else Result.ok (Next.value (Value.bool false)) W) = Result.ok (Next.value (Value.bool dd)) W := ⟨decide (px = M0 ∧ Q0 = M1), fun W => by by_cases e1 : px = M0 <;> by_cases e2 : Q0 = M1 <;> simp [e1, e2]⟩
     have KM := hide KM0
     clear KM0
     cases dd
     rotate_left
     ·skip
      refine wp_region_held_drew (S := fun W => Below wC.heap.size wC W) (by kernel_rfl) (Below.drew (Below.refl _ _)) (fun hHeld => ?_)
      refine tkL 0 (some 68) rfl ?_; simp only [pz]
      refine tkL 1 (some 69) rfl ?_; simp only [pz]
      refine tkN 2 (some 70) rfl ?_; simp only [pz]
      refine tkN 3 (some 71) rfl ?_; simp only [pz]
      refine tkO 4 (some 72) rfl ?_; simp only [pz]
      refine tkO 5 (some 73) rfl ?_; simp only [pz]
      refine tkO 6 (some 74) rfl ?_; simp only [pz]
      refine tkO 7 (some 75) rfl ?_; simp only [pz]
      refine tkO 8 (some 76) rfl ?_; simp only [pz]
      refine tkN 9 (some 77) rfl ?_; simp only [pz]
      refine wpAnyH_done (by kernel_rfl) ?_ _; (try simp only [pz])
      skip
      obtain ⟨wD, hwD⟩ : ∃ x : World, x = wC.drew := ⟨_, rfl⟩
      rw [← hwD] at hHeld ⊢
      clear hwD
      have lx0 := cell_later hHeld kx0
      have lx1 := cell_later hHeld kx1
      have lf0 := frozen_later hHeld kx0 kx2
      have lf1 := frozen_later hHeld kx1 kx4
      have HCL := hide (HCC.out.later hHeld)
      have HRL := hide (Mine.later hHeld HRC.out)
      have HSL := hide (Src.keep hHeld HSC.out)
      have HGL := hide (gr_belowB HGC.out (hHeld.mono (by omega)))
      have zD := hHeld.size
      have zL4 : w4.heap.size < wD.heap.size := by omega
      have zL2 : w2.heap.size < wD.heap.size := by omega
      have zL0 : w.heap.size < wD.heap.size := by omega
      have zL3 : w3.heap.size ≤ wD.heap.size := by omega
      clear hHeld HCC HRC HSC HGC kx0 kx1 kx2 kx4 y0 y1 c0 f0 c1 f1 c2 f2 c3 f3 c4 f4 c5 f5 c6 f6 c7 f7 c8 f8
      have hsl := HSL.out
      have hgl := HGL.out
      have n4g : ¬ w4.heap.size = g := by omega
      go_upto_region 15 with fail
      have HwE : World.grownBy w wD (some g) := gwz
      refine wp_region_held_drew (S := fun W => World.grownBy w W (some g) ∧ Src W g) (by kernel_rfl) ⟨gr_drew HwE, by assumption⟩ (fun hHeld => ?_)
      refine tkD 0 (some 78) rfl ?_; simp only [pz]
      refine tkD 4 (some 82) rfl ?_; simp only [pz]
      refine wpAnyH_inv (fuel := 1) [1, 2, 3, 5, 6, 7, 8] [79, 80, 81, 83, 84, 85, 86] (fun u L W => (World.grownBy wD W (some g) ∧ Src W g) ∧ (L 1 → (u 79) = (.int .i64 px)) ∧ (L 2 → FInt (u 80)) ∧ (L 3 → FInt (u 81)) ∧ (L 5 → (u 83) = (.int .i64 Q0)) ∧ (L 6 → FInt (u 84)) ∧ (L 7 → FInt (u 85)) ∧ (L 8 → FAgg2 (u 86)) ∧ True) (by decide) (by kernel_rfl) (fun u L W hJ => ⟨HwE.trans hJ.1.1, hJ.1.2⟩) (fun u L hL => ⟨⟨gr_drew (World.grownBy.refl _ _), by assumption⟩, fun k => absurd k (hL 1 (by decide)), fun k => absurd k (hL 2 (by decide)), fun k => absurd k (hL 3 (by decide)), fun k => absurd k (hL 5 (by decide)), fun k => absurd k (hL 6 (by decide)), fun k => absurd k (hL 7 (by decide)), fun k => absurd k (hL 8 (by decide)), trivial⟩) ?_ ?_
      ·refine sc1 79 ?_ ?_
       rotate_left
       refine sc1 80 ?_ ?_
       rotate_left
       refine sc1 81 ?_ ?_
       rotate_left
       refine sc1 83 ?_ ?_
       rotate_left
       refine sc1 84 ?_ ?_
       rotate_left
       refine sc1 85 ?_ ?_
       rotate_left
       refine sc1 86 ?_ ?_
       rotate_left
       exact StepsH.nil
       ·intro u L W hn hd hJ
        obtain ⟨hk, f79, f80, f81, f83, f84, f85, f86, _⟩ := hJ
        have hnd := hk.2
        have hcS := gcell hk.1
        intro K hK
        simp only [puts, pz]
        go_simp
        all_goals (try go_wp2_with fail)
        all_goals
         apply Shut.go3 (W := W) (g := g) hK
         ·simp only [puts, pz]; rfl
         ·exact gbz
         ·exact sbz
         ·intro hg hs; exact ⟨Dr.step hk hg hs, fun _ => upd_same _ _ _, unz f80, unz f81, unz f83, unz f84, unz f85, unz f86, trivial⟩
       ·intro u L W hn hd hJ
        obtain ⟨hk, f79, f80, f81, f83, f84, f85, f86, _⟩ := hJ
        have hnd := hk.2
        obtain e79 := f79 (hd 1 (by kernel_rfl))
        intro K hK
        simp only [puts, pz, e79]
        go_simp; (go_at_call 109; (with_reducible refine (spec_l01Floor _ _ (by omega) (by omega) (by decide) _).mono ?_); rintro e w9 ⟨rfl, rfl⟩)
        all_goals (try go_wp2_with fail)
        all_goals
         apply Shut.go3 (W := W) (g := g) hK
         ·simp only [puts, pz, e79]; rfl
         ·exact gbz
         ·exact sbz
         ·intro hg hs; exact ⟨Dr.step hk hg hs, unz f79, fun _ => by rw [upd_same]; exact ⟨_, rfl⟩, unz f81, unz f83, unz f84, unz f85, unz f86, trivial⟩
       ·intro u L W hn hd hJ
        obtain ⟨hk, f79, f80, f81, f83, f84, f85, f86, _⟩ := hJ
        have hnd := hk.2
        obtain ⟨x80, e80⟩ := f80 (hd 2 (by kernel_rfl))
        intro K hK
        simp only [puts, pz, e80]
        go_simp
        all_goals (try go_wp2_with fail)
        all_goals
         apply Shut.go3 (W := W) (g := g) hK
         ·simp only [puts, pz, e80]; rfl
         ·exact gbz
         ·exact sbz
         ·intro hg hs; exact ⟨Dr.step hk hg hs, unz f79, unz f80, fun _ => by rw [upd_same]; exact ⟨_, rfl⟩, unz f83, unz f84, unz f85, unz f86, trivial⟩
       ·intro u L W hn hd hJ
        obtain ⟨hk, f79, f80, f81, f83, f84, f85, f86, _⟩ := hJ
        have hnd := hk.2
        have hcS := gcell hk.1
        intro K hK
        simp only [puts, pz]
        go_simp
        all_goals (try go_wp2_with fail)
        all_goals
         apply Shut.go3 (W := W) (g := g) hK
         ·simp only [puts, pz]; rfl
         ·exact gbz
         ·exact sbz
         ·intro hg hs; exact ⟨Dr.step hk hg hs, unz f79, unz f80, unz f81, fun _ => upd_same _ _ _, unz f84, unz f85, unz f86, trivial⟩
       ·intro u L W hn hd hJ
        obtain ⟨hk, f79, f80, f81, f83, f84, f85, f86, _⟩ := hJ
        have hnd := hk.2
        obtain e83 := f83 (hd 5 (by kernel_rfl))
        intro K hK
        simp only [puts, pz, e83]
        go_simp; (go_at_call 109; (with_reducible refine (spec_l01Floor _ _ (by omega) (by omega) (by decide) _).mono ?_); rintro e w9 ⟨rfl, rfl⟩)
        all_goals (try go_wp2_with fail)
        all_goals
         apply Shut.go3 (W := W) (g := g) hK
         ·simp only [puts, pz, e83]; rfl
         ·exact gbz
         ·exact sbz
         ·intro hg hs; exact ⟨Dr.step hk hg hs, unz f79, unz f80, unz f81, unz f83, fun _ => by rw [upd_same]; exact ⟨_, rfl⟩, unz f85, unz f86, trivial⟩
       ·intro u L W hn hd hJ
        obtain ⟨hk, f79, f80, f81, f83, f84, f85, f86, _⟩ := hJ
        have hnd := hk.2
        obtain ⟨x84, e84⟩ := f84 (hd 6 (by kernel_rfl))
        intro K hK
        simp only [puts, pz, e84]
        go_simp
        all_goals (try go_wp2_with fail)
        all_goals
         apply Shut.go3 (W := W) (g := g) hK
         ·simp only [puts, pz, e84]; rfl
         ·exact gbz
         ·exact sbz
         ·intro hg hs; exact ⟨Dr.step hk hg hs, unz f79, unz f80, unz f81, unz f83, unz f84, fun _ => by rw [upd_same]; exact ⟨_, rfl⟩, unz f86, trivial⟩
       ·intro u L W hn hd hJ
        obtain ⟨hk, f79, f80, f81, f83, f84, f85, f86, _⟩ := hJ
        have hnd := hk.2
        obtain ⟨x81, e81⟩ := f81 (hd 3 (by kernel_rfl))
        obtain ⟨x85, e85⟩ := f85 (hd 7 (by kernel_rfl))
        intro K hK
        simp only [puts, pz, e81, e85]
        go_simp
        all_goals (try go_wp2_with fail)
        all_goals
         apply Shut.go3 (W := W) (g := g) hK
         ·simp only [puts, pz, e81, e85]; rfl
         ·exact gbz
         ·exact sbz
         ·intro hg hs; exact ⟨Dr.step hk hg hs, unz f79, unz f80, unz f81, unz f83, unz f84, unz f85, fun _ => by rw [upd_same]; exact ⟨_, _, rfl⟩, trivial⟩
      ·intro u L W hJ hL
       obtain ⟨hk, f79, f80, f81, f83, f84, f85, f86, _⟩ := hJ
       obtain e79 := f79 (hL 1 (by kernel_rfl))
       obtain ⟨x80, e80⟩ := f80 (hL 2 (by kernel_rfl))
       obtain ⟨x81, e81⟩ := f81 (hL 3 (by kernel_rfl))
       obtain e83 := f83 (hL 5 (by kernel_rfl))
       obtain ⟨x84, e84⟩ := f84 (hL 6 (by kernel_rfl))
       obtain ⟨x85, e85⟩ := f85 (hL 7 (by kernel_rfl))
       obtain ⟨x86_0, x86_1, e86⟩ := f86 (hL 8 (by kernel_rfl))
       clear hHeld; have hcW := gcell hk.1; have hfW := gfroz hk.1; have hHeld := And.intro (HwE.trans hk.1) hk.2; have lW := hk.1.size
       clear f79
       clear f80
       clear f81
       clear f83
       clear f84
       clear f85
       clear f86
       simp only [puts, pz, setAll, Array.replicate, e79, e80, e81, e83, e84, e85, e86]
       refine rd1 9 none rfl (fun K hK => ?_)
       go_simp
       all_goals (try go_wp2_with fail)
       refine hK.out _ _ ?_ (fun hH2 => ?_)
       ·have hHg := hHeld.1; have hHs := hHeld.2; exact ⟨gwz, swz⟩
       clear hK K hHeld; (have hHeld := hH2); clear hH2; (try simp only [Act.put])
       refine wpAnyH_done (by kernel_rfl) ?_ _; (try simp only [pz])
       obtain ⟨hgE, hsE⟩ := hHeld
       obtain ⟨wL, hwL⟩ : ∃ x, x = (W.setCell ⟨w4.heap.size, 0, none⟩ (.int .i64 x86_0)).setCell ⟨w4.heap.size, 1, none⟩ (.int .i64 x86_1) := ⟨_, rfl⟩
       have lx0 : wL.cell? ⟨w4.heap.size, 0, none⟩ = some (.int .i64 x86_0) := by rw [hwL]; go_simp
       have lx1 : wL.cell? ⟨w4.heap.size, 1, none⟩ = some (.int .i64 x86_1) := by rw [hwL]; go_simp
       have HCL := hide (show CoB wL w2.heap.size ax ay bx bY cx cy dx dy so 0 cap by rw [hwL]; exact ((HCL.out.grown hk.1 (by omega) (by omega)).far (by omega)).far (by omega))
       have HRL := hide (show Mine wL w.heap.size 9 by rw [hwL]; exact Mine.set (Mine.set (mine_grow HRL.out hk.1 (by omega) (by omega))))
       have zE := hk.1.size
       have zE2 : W.heap.size ≤ wL.heap.size := by rw [hwL]; simp [World.setCell]
       rw [← hwL] at hgE hsE ⊢
       have HSL := hide hsE
       have HGL := hide hgE
       have zL4 : w4.heap.size < wL.heap.size := by omega
       have zL2 : w2.heap.size < wL.heap.size := by omega
       have zL0 : w.heap.size < wL.heap.size := by omega
       have zL3 : w3.heap.size ≤ wL.heap.size := by omega
       clear hwL hcW hfW hk hgE hsE
       obtain ⟨g0, g1, g2, g3, g4, g5, g6, g7, g8, r0, r1, r2, r3, r4, r5, r6, r7, r8⟩ := HCL.out
       have hsl := HSL.out
       have hgl := HGL.out
       go_wp2
       go_roundg (gk - 1)
       case measure => omega
       case rel => exact ⟨1, 1, some ⟨wL.heap.size, 0, none⟩, fun _ => ⟨#[111, 110, 108, 121]⟩, fun _ => x86_0, fun _ => x86_1, fun _ => 1, fun _ => 30, .inr (by omega), Nat.le_refl _, hide (.inr ⟨_, rfl, by omega, by simp, fun i hi j hj => by obtain rfl : i = 0 := (by omega); rcases (by omega : j = 0 ∨ j = 1 ∨ j = 2 ∨ j = 3 ∨ j = 4) with rfl | rfl | rfl | rfl | rfl <;> exact ⟨(by go_simp; rfl), by go_simp⟩⟩), hide ⟨by go_simp, by go_simp, by go_simp, by go_simp, by go_simp, by go_simp, by go_simp, by go_simp, by go_simp, by go_simp, by go_simp, by go_simp, by go_simp, by go_simp, by go_simp, by go_simp, by go_simp, by go_simp⟩, hide (Mine.later (Below.alloc (Below.refl _ _) (Nat.le_refl _) _) (Mine.set HRL.out)), hide swz, hide gwz, by simp; omega⟩
     ·cases d2
      ·skip
       refine wp_region_held_drew (S := fun W => Below wC.heap.size wC W) (by kernel_rfl) (Below.drew (Below.refl _ _)) (fun hHeld => ?_)
       refine tkL 0 (some 68) rfl ?_; simp only [pz]
       refine tkL 1 (some 69) rfl ?_; simp only [pz]
       refine tkN 2 (some 70) rfl ?_; simp only [pz]
       refine tkN 3 (some 71) rfl ?_; simp only [pz]
       refine tkL 4 (some 72) rfl ?_; simp only [pz]
       refine tkN 5 (some 73) rfl ?_; simp only [pz]
       refine tkL 6 (some 74) rfl ?_; simp only [pz]
       refine rd1 7 (some 75) rfl (fun K hK => ?_)
       go_simp; (go_at_call 107; (with_reducible refine (KM.out _).mono ?_); rintro e w9 ⟨rfl, hb⟩)
       all_goals (try go_wp2_with fail)
       refine hK.out _ _ ?_ (fun hH2 => ?_)
       ·exact hhz
       clear hK K hHeld; (have hHeld := hH2); clear hH2; (try simp only [pz])
       refine tkN 8 (some 76) rfl ?_; simp only [pz]
       refine tkN 9 (some 77) rfl ?_; simp only [pz]
       refine wpAnyH_done (by kernel_rfl) ?_ _; (try simp only [pz])
       skip
       obtain ⟨wL, hwD⟩ : ∃ x : World, x = w9 := ⟨_, rfl⟩
       rw [← hwD] at hHeld ⊢
       clear hwD
       have lx0 := cell_later hHeld kx0
       have lx1 := cell_later hHeld kx1
       have lf0 := frozen_later hHeld kx0 kx2
       have lf1 := frozen_later hHeld kx1 kx4
       have HCL := hide (HCC.out.later hHeld)
       have HRL := hide (Mine.later hHeld HRC.out)
       have HSL := hide (Src.keep hHeld HSC.out)
       have HGL := hide (gr_belowB HGC.out (hHeld.mono (by omega)))
       have zD := hHeld.size
       have zL4 : w4.heap.size < wL.heap.size := by omega
       have zL2 : w2.heap.size < wL.heap.size := by omega
       have zL0 : w.heap.size < wL.heap.size := by omega
       have zL3 : w3.heap.size ≤ wL.heap.size := by omega
       clear hHeld HCC HRC HSC HGC kx0 kx1 kx2 kx4 y0 y1 c0 f0 c1 f1 c2 f2 c3 f3 c4 f4 c5 f5 c6 f6 c7 f7 c8 f8
       obtain ⟨g0, g1, g2, g3, g4, g5, g6, g7, g8, r0, r1, r2, r3, r4, r5, r6, r7, r8⟩ := HCL.out
       have hsl := HSL.out
       have hgl := HGL.out
       go_wp2
       go_roundg (gk - 1)
       case measure => omega
       case rel => exact ⟨1, 1, some ⟨wL.heap.size, 0, none⟩, fun _ => ⟨#[111, 110, 108, 121]⟩, fun _ => px, fun _ => Q0, fun _ => 1, fun _ => 30, .inr (by omega), Nat.le_refl _, hide (.inr ⟨_, rfl, by omega, by simp, fun i hi j hj => by obtain rfl : i = 0 := (by omega); rcases (by omega : j = 0 ∨ j = 1 ∨ j = 2 ∨ j = 3 ∨ j = 4) with rfl | rfl | rfl | rfl | rfl <;> exact ⟨(by go_simp; rfl), by go_simp⟩⟩), hide ⟨by go_simp, by go_simp, by go_simp, by go_simp, by go_simp, by go_simp, by go_simp, by go_simp, by go_simp, by go_simp, by go_simp, by go_simp, by go_simp, by go_simp, by go_simp, by go_simp, by go_simp, by go_simp⟩, hide (Mine.later (Below.alloc (Below.refl _ _) (Nat.le_refl _) _) (Mine.set HRL.out)), hide swz, hide gwz, by simp; omega⟩
      ·skip
       refine wp_region_held_drew (S := fun W => Below wC.heap.size wC W) (by kernel_rfl) (Below.drew (Below.refl _ _)) (fun hHeld => ?_)
       refine tkL 0 (some 68) rfl ?_; simp only [pz]
       refine tkL 1 (some 69) rfl ?_; simp only [pz]
       refine tkN 2 (some 70) rfl ?_; simp only [pz]
       refine tkN 3 (some 71) rfl ?_; simp only [pz]
       refine tkL 4 (some 72) rfl ?_; simp only [pz]
       refine tkN 5 (some 73) rfl ?_; simp only [pz]
       refine tkL 6 (some 74) rfl ?_; simp only [pz]
       refine rd1 7 (some 75) rfl (fun K hK => ?_)
       go_simp; (go_at_call 107; (with_reducible refine (KM.out _).mono ?_); rintro e w9 ⟨rfl, hb⟩)
       all_goals (try go_wp2_with fail)
       refine hK.out _ _ ?_ (fun hH2 => ?_)
       ·exact hhz
       clear hK K hHeld; (have hHeld := hH2); clear hH2; (try simp only [pz])
       refine tkN 8 (some 76) rfl ?_; simp only [pz]
       refine tkN 9 (some 77) rfl ?_; simp only [pz]
       refine wpAnyH_done (by kernel_rfl) ?_ _; (try simp only [pz])
       skip
       obtain ⟨wD, hwD⟩ : ∃ x : World, x = w9 := ⟨_, rfl⟩
       rw [← hwD] at hHeld ⊢
       clear hwD
       have lx0 := cell_later hHeld kx0
       have lx1 := cell_later hHeld kx1
       have lf0 := frozen_later hHeld kx0 kx2
       have lf1 := frozen_later hHeld kx1 kx4
       have HCL := hide (HCC.out.later hHeld)
       have HRL := hide (Mine.later hHeld HRC.out)
       have HSL := hide (Src.keep hHeld HSC.out)
       have HGL := hide (gr_belowB HGC.out (hHeld.mono (by omega)))
       have zD := hHeld.size
       have zL4 : w4.heap.size < wD.heap.size := by omega
       have zL2 : w2.heap.size < wD.heap.size := by omega
       have zL0 : w.heap.size < wD.heap.size := by omega
       have zL3 : w3.heap.size ≤ wD.heap.size := by omega
       clear hHeld HCC HRC HSC HGC kx0 kx1 kx2 kx4 y0 y1 c0 f0 c1 f1 c2 f2 c3 f3 c4 f4 c5 f5 c6 f6 c7 f7 c8 f8
       have hsl := HSL.out
       have hgl := HGL.out
       have n4g : ¬ w4.heap.size = g := by omega
       go_upto_region 15 with fail
       have HwE : World.grownBy w wD (some g) := gwz
       refine wp_region_held_drew (S := fun W => World.grownBy w W (some g) ∧ Src W g) (by kernel_rfl) ⟨gr_drew HwE, by assumption⟩ (fun hHeld => ?_)
       refine tkD 0 (some 78) rfl ?_; simp only [pz]
       refine tkD 4 (some 82) rfl ?_; simp only [pz]
       refine wpAnyH_inv (fuel := 1) [1, 2, 3, 5, 6, 7, 8] [79, 80, 81, 83, 84, 85, 86] (fun u L W => (World.grownBy wD W (some g) ∧ Src W g) ∧ (L 1 → (u 79) = (.int .i64 px)) ∧ (L 2 → FInt (u 80)) ∧ (L 3 → FInt (u 81)) ∧ (L 5 → (u 83) = (.int .i64 Q0)) ∧ (L 6 → FInt (u 84)) ∧ (L 7 → FInt (u 85)) ∧ (L 8 → FAgg2 (u 86)) ∧ True) (by decide) (by kernel_rfl) (fun u L W hJ => ⟨HwE.trans hJ.1.1, hJ.1.2⟩) (fun u L hL => ⟨⟨gr_drew (World.grownBy.refl _ _), by assumption⟩, fun k => absurd k (hL 1 (by decide)), fun k => absurd k (hL 2 (by decide)), fun k => absurd k (hL 3 (by decide)), fun k => absurd k (hL 5 (by decide)), fun k => absurd k (hL 6 (by decide)), fun k => absurd k (hL 7 (by decide)), fun k => absurd k (hL 8 (by decide)), trivial⟩) ?_ ?_
       ·refine sc1 79 ?_ ?_
        rotate_left
        refine sc1 80 ?_ ?_
        rotate_left
        refine sc1 81 ?_ ?_
        rotate_left
        refine sc1 83 ?_ ?_
        rotate_left
        refine sc1 84 ?_ ?_
        rotate_left
        refine sc1 85 ?_ ?_
        rotate_left
        refine sc1 86 ?_ ?_
        rotate_left
        exact StepsH.nil
        ·intro u L W hn hd hJ
         obtain ⟨hk, f79, f80, f81, f83, f84, f85, f86, _⟩ := hJ
         have hnd := hk.2
         have hcS := gcell hk.1
         intro K hK
         simp only [puts, pz]
         go_simp
         all_goals (try go_wp2_with fail)
         all_goals
          apply Shut.go3 (W := W) (g := g) hK
          ·simp only [puts, pz]; rfl
          ·exact gbz
          ·exact sbz
          ·intro hg hs; exact ⟨Dr.step hk hg hs, fun _ => upd_same _ _ _, unz f80, unz f81, unz f83, unz f84, unz f85, unz f86, trivial⟩
        ·intro u L W hn hd hJ
         obtain ⟨hk, f79, f80, f81, f83, f84, f85, f86, _⟩ := hJ
         have hnd := hk.2
         obtain e79 := f79 (hd 1 (by kernel_rfl))
         intro K hK
         simp only [puts, pz, e79]
         go_simp; (go_at_call 109; (with_reducible refine (spec_l01Floor _ _ (by omega) (by omega) (by decide) _).mono ?_); rintro e w9 ⟨rfl, rfl⟩)
         all_goals (try go_wp2_with fail)
         all_goals
          apply Shut.go3 (W := W) (g := g) hK
          ·simp only [puts, pz, e79]; rfl
          ·exact gbz
          ·exact sbz
          ·intro hg hs; exact ⟨Dr.step hk hg hs, unz f79, fun _ => by rw [upd_same]; exact ⟨_, rfl⟩, unz f81, unz f83, unz f84, unz f85, unz f86, trivial⟩
        ·intro u L W hn hd hJ
         obtain ⟨hk, f79, f80, f81, f83, f84, f85, f86, _⟩ := hJ
         have hnd := hk.2
         obtain ⟨x80, e80⟩ := f80 (hd 2 (by kernel_rfl))
         intro K hK
         simp only [puts, pz, e80]
         go_simp
         all_goals (try go_wp2_with fail)
         all_goals
          apply Shut.go3 (W := W) (g := g) hK
          ·simp only [puts, pz, e80]; rfl
          ·exact gbz
          ·exact sbz
          ·intro hg hs; exact ⟨Dr.step hk hg hs, unz f79, unz f80, fun _ => by rw [upd_same]; exact ⟨_, rfl⟩, unz f83, unz f84, unz f85, unz f86, trivial⟩
        ·intro u L W hn hd hJ
         obtain ⟨hk, f79, f80, f81, f83, f84, f85, f86, _⟩ := hJ
         have hnd := hk.2
         have hcS := gcell hk.1
         intro K hK
         simp only [puts, pz]
         go_simp
         all_goals (try go_wp2_with fail)
         all_goals
          apply Shut.go3 (W := W) (g := g) hK
          ·simp only [puts, pz]; rfl
          ·exact gbz
          ·exact sbz
          ·intro hg hs; exact ⟨Dr.step hk hg hs, unz f79, unz f80, unz f81, fun _ => upd_same _ _ _, unz f84, unz f85, unz f86, trivial⟩
        ·intro u L W hn hd hJ
         obtain ⟨hk, f79, f80, f81, f83, f84, f85, f86, _⟩ := hJ
         have hnd := hk.2
         obtain e83 := f83 (hd 5 (by kernel_rfl))
         intro K hK
         simp only [puts, pz, e83]
         go_simp; (go_at_call 109; (with_reducible refine (spec_l01Floor _ _ (by omega) (by omega) (by decide) _).mono ?_); rintro e w9 ⟨rfl, rfl⟩)
         all_goals (try go_wp2_with fail)
         all_goals
          apply Shut.go3 (W := W) (g := g) hK
          ·simp only [puts, pz, e83]; rfl
          ·exact gbz
          ·exact sbz
          ·intro hg hs; exact ⟨Dr.step hk hg hs, unz f79, unz f80, unz f81, unz f83, fun _ => by rw [upd_same]; exact ⟨_, rfl⟩, unz f85, unz f86, trivial⟩
        ·intro u L W hn hd hJ
         obtain ⟨hk, f79, f80, f81, f83, f84, f85, f86, _⟩ := hJ
         have hnd := hk.2
         obtain ⟨x84, e84⟩ := f84 (hd 6 (by kernel_rfl))
         intro K hK
         simp only [puts, pz, e84]
         go_simp
         all_goals (try go_wp2_with fail)
         all_goals
          apply Shut.go3 (W := W) (g := g) hK
          ·simp only [puts, pz, e84]; rfl
          ·exact gbz
          ·exact sbz
          ·intro hg hs; exact ⟨Dr.step hk hg hs, unz f79, unz f80, unz f81, unz f83, unz f84, fun _ => by rw [upd_same]; exact ⟨_, rfl⟩, unz f86, trivial⟩
        ·intro u L W hn hd hJ
         obtain ⟨hk, f79, f80, f81, f83, f84, f85, f86, _⟩ := hJ
         have hnd := hk.2
         obtain ⟨x81, e81⟩ := f81 (hd 3 (by kernel_rfl))
         obtain ⟨x85, e85⟩ := f85 (hd 7 (by kernel_rfl))
         intro K hK
         simp only [puts, pz, e81, e85]
         go_simp
         all_goals (try go_wp2_with fail)
         all_goals
          apply Shut.go3 (W := W) (g := g) hK
          ·simp only [puts, pz, e81, e85]; rfl
          ·exact gbz
          ·exact sbz
          ·intro hg hs; exact ⟨Dr.step hk hg hs, unz f79, unz f80, unz f81, unz f83, unz f84, unz f85, fun _ => by rw [upd_same]; exact ⟨_, _, rfl⟩, trivial⟩
       ·intro u L W hJ hL
        obtain ⟨hk, f79, f80, f81, f83, f84, f85, f86, _⟩ := hJ
        obtain e79 := f79 (hL 1 (by kernel_rfl))
        obtain ⟨x80, e80⟩ := f80 (hL 2 (by kernel_rfl))
        obtain ⟨x81, e81⟩ := f81 (hL 3 (by kernel_rfl))
        obtain e83 := f83 (hL 5 (by kernel_rfl))
        obtain ⟨x84, e84⟩ := f84 (hL 6 (by kernel_rfl))
        obtain ⟨x85, e85⟩ := f85 (hL 7 (by kernel_rfl))
        obtain ⟨x86_0, x86_1, e86⟩ := f86 (hL 8 (by kernel_rfl))
        clear hHeld; have hcW := gcell hk.1; have hfW := gfroz hk.1; have hHeld := And.intro (HwE.trans hk.1) hk.2; have lW := hk.1.size
        clear f79
        clear f80
        clear f81
        clear f83
        clear f84
        clear f85
        clear f86
        simp only [puts, pz, setAll, Array.replicate, e79, e80, e81, e83, e84, e85, e86]
        refine rd1 9 none rfl (fun K hK => ?_)
        go_simp
        all_goals (try go_wp2_with fail)
        refine hK.out _ _ ?_ (fun hH2 => ?_)
        ·have hHg := hHeld.1; have hHs := hHeld.2; exact ⟨gwz, swz⟩
        clear hK K hHeld; (have hHeld := hH2); clear hH2; (try simp only [Act.put])
        refine wpAnyH_done (by kernel_rfl) ?_ _; (try simp only [pz])
        obtain ⟨hgE, hsE⟩ := hHeld
        obtain ⟨wL, hwL⟩ : ∃ x, x = (W.setCell ⟨w4.heap.size, 0, none⟩ (.int .i64 x86_0)).setCell ⟨w4.heap.size, 1, none⟩ (.int .i64 x86_1) := ⟨_, rfl⟩
        have lx0 : wL.cell? ⟨w4.heap.size, 0, none⟩ = some (.int .i64 x86_0) := by rw [hwL]; go_simp
        have lx1 : wL.cell? ⟨w4.heap.size, 1, none⟩ = some (.int .i64 x86_1) := by rw [hwL]; go_simp
        have HCL := hide (show CoB wL w2.heap.size ax ay bx bY cx cy dx dy so 0 cap by rw [hwL]; exact ((HCL.out.grown hk.1 (by omega) (by omega)).far (by omega)).far (by omega))
        have HRL := hide (show Mine wL w.heap.size 9 by rw [hwL]; exact Mine.set (Mine.set (mine_grow HRL.out hk.1 (by omega) (by omega))))
        have zE := hk.1.size
        have zE2 : W.heap.size ≤ wL.heap.size := by rw [hwL]; simp [World.setCell]
        rw [← hwL] at hgE hsE ⊢
        have HSL := hide hsE
        have HGL := hide hgE
        have zL4 : w4.heap.size < wL.heap.size := by omega
        have zL2 : w2.heap.size < wL.heap.size := by omega
        have zL0 : w.heap.size < wL.heap.size := by omega
        have zL3 : w3.heap.size ≤ wL.heap.size := by omega
        clear hwL hcW hfW hk hgE hsE
        obtain ⟨g0, g1, g2, g3, g4, g5, g6, g7, g8, r0, r1, r2, r3, r4, r5, r6, r7, r8⟩ := HCL.out
        have hsl := HSL.out
        have hgl := HGL.out
        go_wp2
        go_roundg (gk - 1)
        case measure => omega
        case rel => exact ⟨1, 1, some ⟨wL.heap.size, 0, none⟩, fun _ => ⟨#[111, 110, 108, 121]⟩, fun _ => x86_0, fun _ => x86_1, fun _ => 1, fun _ => 30, .inr (by omega), Nat.le_refl _, hide (.inr ⟨_, rfl, by omega, by simp, fun i hi j hj => by obtain rfl : i = 0 := (by omega); rcases (by omega : j = 0 ∨ j = 1 ∨ j = 2 ∨ j = 3 ∨ j = 4) with rfl | rfl | rfl | rfl | rfl <;> exact ⟨(by go_simp; rfl), by go_simp⟩⟩), hide ⟨by go_simp, by go_simp, by go_simp, by go_simp, by go_simp, by go_simp, by go_simp, by go_simp, by go_simp, by go_simp, by go_simp, by go_simp, by go_simp, by go_simp, by go_simp, by go_simp, by go_simp, by go_simp⟩, hide (Mine.later (Below.alloc (Below.refl _ _) (Nat.le_refl _) _) (Mine.set HRL.out)), hide swz, hide gwz, by simp; omega⟩
    ·have hn1 : 1 ≤ n := by omega
     have hn2 : ((n : Int) == 0) = false := beq_eq_false_iff_ne.2 (by omega)
     have hn4 : n ≤ 4 := by omega
     clear hn n0
     obtain ⟨v0, cy0, fy0⟩ := HR.out.cells 0 (by decide)
     obtain ⟨v1, cy1, fy1⟩ := HR.out.cells 1 (by decide)
     obtain ⟨v2, cy2, fy2⟩ := HR.out.cells 2 (by decide)
     obtain ⟨v3, cy3, fy3⟩ := HR.out.cells 3 (by decide)
     obtain ⟨v4, cy4, fy4⟩ := HR.out.cells 4 (by decide)
     obtain ⟨v5, cy5, fy5⟩ := HR.out.cells 5 (by decide)
     obtain ⟨v6, cy6, fy6⟩ := HR.out.cells 6 (by decide)
     obtain ⟨v7, cy7, fy7⟩ := HR.out.cells 7 (by decide)
     obtain ⟨v8, cy8, fy8⟩ := HR.out.cells 8 (by decide)
     have HA := HA1.out
     go_wp2
     simp [bodyPost, results, Tryz.results73, go_sem, *]
     exact ⟨⟨_, _, _, _, _, _, _, _, so, n, cap, N, X, Y, S, Z, rfl, by omega, by omega, hnc, HA, by refine OwnM.mono (B := w3.heap.size) ?_ (by omega); (repeat with_reducible refine OwnM.far ?_ (by omega)); exact HO.out⟩, gwz, swz⟩
  ·obtain ⟨k, rfl⟩ : ∃ m, k = m + 1 := ⟨k - 1, by omega⟩
   have hkp : (0 : Int) < ((k + 1 : Nat) : Int) := by omega
   obtain ⟨nm, hnm⟩ := HN.out n (by omega)
   have hn1 : (0 : Int) ≤ (n : Int) := by omega
   have hn2 : (n : Int) < 8 := by omega
   obtain ⟨c0, c1, c2, c3, c4, c5, c6, c7, c8, f0, f1, f2, f3, f4, f5, f6, f7, f8⟩ := HC.out
   go_upto_region 6 with fail
   have HwE : World.grownBy w wr (some g) := gwz
   have HcE0 : World.cell? wr ⟨w2.heap.size, 8, none⟩ = some (.slice so n cap) := (by go_simp)
   have HcE1 : World.cell? wr ⟨w2.heap.size + 1, n, none⟩ = some (.string nm) := (by go_simp)
   refine wp_region_held_drew (S := fun W => W.cell? ⟨w2.heap.size, 8, none⟩ = some (.slice so n cap) ∧ W.cell? ⟨w2.heap.size + 1, n, none⟩ = some (.string nm) ∧ World.grownBy w W (some g) ∧ Src W g) (by kernel_rfl) ⟨HcE0, HcE1, gr_drew HwE, by assumption⟩ (fun hHeld => ?_)
   refine tkD 0 (some 23) rfl ?_; simp only [pz]
   refine tkD 1 (some 24) rfl ?_; simp only [pz]
   refine tkD 2 (some 25) rfl ?_; simp only [pz]
   refine tkD 3 (some 26) rfl ?_; simp only [pz]
   refine tkD 4 (some 27) rfl ?_; simp only [pz]
   refine tkD 5 (some 28) rfl ?_; simp only [pz]
   refine tkD 6 (some 29) rfl ?_; simp only [pz]
   refine tkD 8 (some 31) rfl ?_; simp only [pz]
   refine tkD 11 (some 34) rfl ?_; simp only [pz]
   refine wpAnyH_inv (fuel := 1) [7, 9, 10, 12, 13, 14, 15] [30, 32, 33, 35, 36, 37, 6] (fun u L W => (World.grownBy wr W (some g) ∧ Src W g) ∧ (L 7 → FAgg2 (u 30)) ∧ (L 9 → FNat 2 (u 32)) ∧ (L 10 → FInt (u 33)) ∧ (L 12 → FNat 60 (u 35)) ∧ (L 13 → FInt (u 36)) ∧ (L 14 → FMark (u 37)) ∧ (L 15 → FBox g wr 5 (u 6) W) ∧ True) (by decide) (by kernel_rfl) (fun u L W hJ => ⟨cell_grown hJ.1.1 (by omega) HcE0, cell_grown hJ.1.1 (by omega) HcE1, HwE.trans hJ.1.1, hJ.1.2⟩) (fun u L hL => ⟨⟨gr_drew (World.grownBy.refl _ _), by assumption⟩, fun k => absurd k (hL 7 (by decide)), fun k => absurd k (hL 9 (by decide)), fun k => absurd k (hL 10 (by decide)), fun k => absurd k (hL 12 (by decide)), fun k => absurd k (hL 13 (by decide)), fun k => absurd k (hL 14 (by decide)), fun k => absurd k (hL 15 (by decide)), trivial⟩) ?_ ?_
   ·refine sc1 30 ?_ ?_
    rotate_left
    refine sc1 32 ?_ ?_
    rotate_left
    refine sc1 33 ?_ ?_
    rotate_left
    refine sc1 35 ?_ ?_
    rotate_left
    refine sc1 36 ?_ ?_
    rotate_left
    refine sc1 37 ?_ ?_
    rotate_left
    refine sc1 6 ?_ ?_
    rotate_left
    exact StepsH.nil
    ·intro u L W hn hd hJ
     obtain ⟨hk, f30, f32, f33, f35, f36, f37, f6, _⟩ := hJ
     have hnd := hk.2
     intro K hK
     simp only [puts, pz]
     go_simp; (go_at_call 122; (with_reducible refine (spec_l01DrawPoint_b g _ hnd).mono ?_); rintro e w9 ⟨⟨px, py, rfl, hxx⟩, hg, hs⟩)
     all_goals (try go_wp2_with fail)
     all_goals
      apply Shut.go3 (W := W) (g := g) hK
      ·simp only [puts, pz]; rfl
      ·exact gbz
      ·exact sbz
      ·intro hg hs; exact ⟨Dr.step hk hg hs, fun _ => by rw [upd_same]; exact ⟨_, _, rfl⟩, unz f32, unz f33, unz f35, unz f36, unz f37, unz fun h => FBox.later hg (f6 h), trivial⟩
    ·intro u L W hn hd hJ
     obtain ⟨hk, f30, f32, f33, f35, f36, f37, f6, _⟩ := hJ
     have hnd := hk.2
     intro K hK
     simp only [puts, pz]
     go_simp; (first | (go_at_call 59; (with_reducible refine (spec_l01NextN g 2 2 _ hnd (by decide) (by decide) (by decide)).mono ?_); rintro e w9 ⟨⟨xx, rfl, hxx⟩, hg, hs⟩) | (go_at_call 59; (with_reducible refine (spec_l01NextN g 60 60 _ hnd (by decide) (by decide) (by decide)).mono ?_); rintro e w9 ⟨⟨xx, rfl, hxx⟩, hg, hs⟩))
     all_goals (try go_wp2_with fail)
     all_goals
      apply Shut.go3 (W := W) (g := g) hK
      ·simp only [puts, pz]; rfl
      ·exact gbz
      ·exact sbz
      ·intro hg hs; exact ⟨Dr.step hk hg hs, unz f30, fun _ => by rw [upd_same]; exact ⟨_, rfl, by first | assumption | omega⟩, unz f33, unz f35, unz f36, unz f37, unz fun h => FBox.later hg (f6 h), trivial⟩
    ·intro u L W hn hd hJ
     obtain ⟨hk, f30, f32, f33, f35, f36, f37, f6, _⟩ := hJ
     have hnd := hk.2
     obtain ⟨x32, e32, l32⟩ := f32 (hd 9 (by kernel_rfl))
     have il32 : (0 : Int) ≤ (x32 : Int) := (by omega); have iu32 : (x32 : Int) < (2 : Int) := (by omega)
     intro K hK
     simp only [puts, pz, e32]
     go_simp
     all_goals (try go_wp2_with fail)
     all_goals
      apply Shut.go3 (W := W) (g := g) hK
      ·simp only [puts, pz, e32]; rfl
      ·exact gbz
      ·exact sbz
      ·intro hg hs; exact ⟨Dr.step hk hg hs, unz f30, unz f32, fun _ => by rw [upd_same]; exact ⟨_, rfl⟩, unz f35, unz f36, unz f37, unz fun h => FBox.later hg (f6 h), trivial⟩
    ·intro u L W hn hd hJ
     obtain ⟨hk, f30, f32, f33, f35, f36, f37, f6, _⟩ := hJ
     have hnd := hk.2
     intro K hK
     simp only [puts, pz]
     go_simp; (first | (go_at_call 59; (with_reducible refine (spec_l01NextN g 2 2 _ hnd (by decide) (by decide) (by decide)).mono ?_); rintro e w9 ⟨⟨xx, rfl, hxx⟩, hg, hs⟩) | (go_at_call 59; (with_reducible refine (spec_l01NextN g 60 60 _ hnd (by decide) (by decide) (by decide)).mono ?_); rintro e w9 ⟨⟨xx, rfl, hxx⟩, hg, hs⟩))
     all_goals (try go_wp2_with fail)
     all_goals
      apply Shut.go3 (W := W) (g := g) hK
      ·simp only [puts, pz]; rfl
      ·exact gbz
      ·exact sbz
      ·intro hg hs; exact ⟨Dr.step hk hg hs, unz f30, unz f32, unz f33, fun _ => by rw [upd_same]; exact ⟨_, rfl, by first | assumption | omega⟩, unz f36, unz f37, unz fun h => FBox.later hg (f6 h), trivial⟩
    ·intro u L W hn hd hJ
     obtain ⟨hk, f30, f32, f33, f35, f36, f37, f6, _⟩ := hJ
     have hnd := hk.2
     obtain ⟨x35, e35, l35⟩ := f35 (hd 12 (by kernel_rfl))
     have il35 : (0 : Int) ≤ (x35 : Int) := (by omega); have iu35 : (x35 : Int) < (60 : Int) := (by omega)
     intro K hK
     simp only [puts, pz, e35]
     go_simp
     all_goals (try go_wp2_with fail)
     all_goals
      apply Shut.go3 (W := W) (g := g) hK
      ·simp only [puts, pz, e35]; rfl
      ·exact gbz
      ·exact sbz
      ·intro hg hs; exact ⟨Dr.step hk hg hs, unz f30, unz f32, unz f33, unz f35, fun _ => by rw [upd_same]; exact ⟨_, rfl⟩, unz f37, unz fun h => FBox.later hg (f6 h), trivial⟩
    ·intro u L W hn hd hJ
     obtain ⟨hk, f30, f32, f33, f35, f36, f37, f6, _⟩ := hJ
     have hnd := hk.2
     obtain ⟨x30_0, x30_1, e30⟩ := f30 (hd 7 (by kernel_rfl))
     obtain ⟨x33, e33⟩ := f33 (hd 10 (by kernel_rfl))
     obtain ⟨x36, e36⟩ := f36 (hd 13 (by kernel_rfl))
     intro K hK
     simp only [puts, pz, e30, e33, e36]
     go_simp
     all_goals (try go_wp2_with fail)
     all_goals
      apply Shut.go3 (W := W) (g := g) hK
      ·simp only [puts, pz, e30, e33, e36]; rfl
      ·exact gbz
      ·exact sbz
      ·intro hg hs; exact ⟨Dr.step hk hg hs, unz f30, unz f32, unz f33, unz f35, unz f36, fun _ => by rw [upd_same]; exact ⟨_, _, _, _, _, rfl⟩, unz fun h => FBox.later hg (f6 h), trivial⟩
    ·intro u L W hn hd hJ
     obtain ⟨hk, f30, f32, f33, f35, f36, f37, f6, _⟩ := hJ
     have hnd := hk.2
     intro K hK
     simp only [puts, pz]
     go_simp
     all_goals (try go_wp2_with fail)
     all_goals
      apply Shut.go3 (W := W) (g := g) hK
      ·simp only [puts, pz]; rfl
      ·exact gbz
      ·exact sbz
      ·intro hg hs; exact ⟨Dr.step hk hg hs, unz f30, unz f32, unz f33, unz f35, unz f36, unz f37, fun _ => by rw [upd_same]; exact FBox.new (Src.lt hnd) (World.grownBy.size hk.1) _ _ (by rfl), trivial⟩
   ·intro u L W hJ hL
    obtain ⟨hk, f30, f32, f33, f35, f36, f37, f6, _⟩ := hJ
    obtain ⟨x30_0, x30_1, e30⟩ := f30 (hL 7 (by kernel_rfl))
    obtain ⟨x32, e32, l32⟩ := f32 (hL 9 (by kernel_rfl))
    obtain ⟨x33, e33⟩ := f33 (hL 10 (by kernel_rfl))
    obtain ⟨x35, e35, l35⟩ := f35 (hL 12 (by kernel_rfl))
    obtain ⟨x36, e36⟩ := f36 (hL 13 (by kernel_rfl))
    obtain ⟨x37_0, x37_1, x37_2, x37_3, x37_4, e37⟩ := f37 (hL 14 (by kernel_rfl))
    obtain ⟨b6, e6, gb6, bb6, lb6, cb6⟩ := f6 (hL 15 (by kernel_rfl))
    clear hHeld; have hcW := gcell hk.1; have hfW := gfroz hk.1; have hHeld := And.intro (HwE.trans hk.1) hk.2; have lW := hk.1.size
    clear f30
    clear f32
    clear f33
    clear f35
    clear f36
    clear f37
    clear f6
    simp only [puts, pz, setAll, Array.replicate, e30, e32, e33, e35, e36, e37, e6]
    obtain ⟨⟨y6_0, cy6_0⟩, fy6_0⟩ := cb6 0 (by decide)
    obtain ⟨⟨y6_1, cy6_1⟩, fy6_1⟩ := cb6 1 (by decide)
    obtain ⟨⟨y6_2, cy6_2⟩, fy6_2⟩ := cb6 2 (by decide)
    obtain ⟨⟨y6_3, cy6_3⟩, fy6_3⟩ := cb6 3 (by decide)
    obtain ⟨⟨y6_4, cy6_4⟩, fy6_4⟩ := cb6 4 (by decide)
    refine rd1 16 none rfl (fun K hK => ?_)
    go_simp
    all_goals (try go_wp2_with fail)
    refine hK.out _ _ ?_ (fun hH2 => ?_)
    ·have hHg := hHeld.1; have hHs := hHeld.2; exact ⟨(by go_simp; done), (by go_simp; done), gwz, swz⟩
    clear hK K hHeld; (have hHeld := hH2.2.2); clear hH2; (try simp only [Act.put])
    refine wpAnyH_done (by kernel_rfl) ?_ _; (try simp only [pz])
    obtain ⟨hgE, hsE⟩ := hHeld
    have zWr := hk.1.size
    obtain ⟨wB, hwB⟩ : ∃ x, x = ((((W.setCell ⟨b6, 0, none⟩ (.string x37_0)).setCell ⟨b6, 1, none⟩ (.int .i64 x37_1)).setCell ⟨b6, 2, none⟩ (.int .i64 x37_2)).setCell ⟨b6, 3, none⟩ (.int .i64 x37_3)).setCell ⟨b6, 4, none⟩ (.int .i64 x37_4) := ⟨_, rfl⟩
    rw [← hwB] at hgE hsE ⊢
    have zB : wB.heap.size = W.heap.size := (by rw [hwB]; simp [World.setCell])
    have hk1 := hk.1
    have hrB : wr.grownBy wB (some g) := (by rw [hwB]; exact gwz)
    have m0 : wB.cell? ⟨b6, 0, none⟩ = some (.string x37_0) := (by rw [hwB]; go_simp)
    have m1 : wB.cell? ⟨b6, 1, none⟩ = some (.int .i64 x37_1) := (by rw [hwB]; go_simp)
    have m2 : wB.cell? ⟨b6, 2, none⟩ = some (.int .i64 x37_2) := (by rw [hwB]; go_simp)
    have m3 : wB.cell? ⟨b6, 3, none⟩ = some (.int .i64 x37_3) := (by rw [hwB]; go_simp)
    have m4 : wB.cell? ⟨b6, 4, none⟩ = some (.int .i64 x37_4) := (by rw [hwB]; go_simp)
    have HOB := hide (HOwn.out.grown hrB (by omega))
    have HCB := hide (HC.out.grown hrB (by omega) (by omega))
    have HRB := hide (mine_grow HR.out hrB (by omega) (by omega))
    have HNB := hide (fun j (hj : j < 8) => (HN.out j hj).imp (fun s k => (gcell hrB (w2.heap.size + 1) j (by omega) (by omega)).trans k))
    have HGB := hide hgE
    have HSB := hide hsE
    obtain ⟨g0, g1, g2, g3, g4, g5, g6, g7, g8, _⟩ := HCB.out
    have zb6 : b6 < wB.heap.size := (by omega)
    have zb2 : w2.heap.size < wB.heap.size := (by omega)
    have zb3 : wr.heap.size ≤ wB.heap.size := (by omega)
    have zb4 : W.heap.size ≤ wB.heap.size := (by omega)
    have zb5 : w.heap.size < wB.heap.size := (by omega)
    have zb7 : w2.heap.size + 1 < wB.heap.size := (by omega)
    clear hwB zB hk1 hrB hgE hsE HOwn HC HR HN HS HG hsr hgr hcW hfW hk hnm cb6 c0 c1 c2 c3 c4 c5 c6 c7 c8 f0 f1 f2 f3 f4 f5 f6 f7 f8 cy6_0 fy6_0 cy6_1 fy6_1 cy6_2 fy6_2 cy6_3 fy6_3 cy6_4 fy6_4
    have HOwn := HOB
    clear HOB
    go_upto_region 7 with fail
    refine wp_region_held_drew (S := fun W => W.cell? ⟨w2.heap.size, 0, none⟩ = some (.int .i64 ax) ∧ W.cell? ⟨w2.heap.size, 1, none⟩ = some (.int .i64 ay) ∧ W.cell? ⟨w2.heap.size, 2, none⟩ = some (.int .i64 bx) ∧ W.cell? ⟨w2.heap.size, 3, none⟩ = some (.int .i64 bY) ∧ W.cell? ⟨w2.heap.size, 4, none⟩ = some (.int .i64 cx) ∧ W.cell? ⟨w2.heap.size, 5, none⟩ = some (.int .i64 cy) ∧ W.cell? ⟨w2.heap.size, 6, none⟩ = some (.int .i64 dx) ∧ W.cell? ⟨w2.heap.size, 7, none⟩ = some (.int .i64 dy) ∧ W.cell? ⟨w2.heap.size, 8, none⟩ = some (.slice so n cap) ∧ W.cell? ⟨b6, 0, none⟩ = some (.string x37_0) ∧ W.cell? ⟨b6, 1, none⟩ = some (.int .i64 x37_1) ∧ W.cell? ⟨b6, 2, none⟩ = some (.int .i64 x37_2) ∧ W.cell? ⟨b6, 3, none⟩ = some (.int .i64 x37_3) ∧ W.cell? ⟨b6, 4, none⟩ = some (.int .i64 x37_4) ∧ Below wB.heap.size wB W) (by kernel_rfl) ⟨g0, g1, g2, g3, g4, g5, g6, g7, g8, m0, m1, m2, m3, m4, Below.drew (Below.refl _ _)⟩ (fun hHeld => ?_)
    refine tkD 0 (some 38) rfl ?_; simp only [pz]
    refine tkD 1 (some 39) rfl ?_; simp only [pz]
    refine tkD 2 (some 40) rfl ?_; simp only [pz]
    refine tkD 3 (some 41) rfl ?_; simp only [pz]
    refine tkD 5 (some 43) rfl ?_; simp only [pz]
    refine tkD 6 (some 44) rfl ?_; simp only [pz]
    refine tkD 8 (some 46) rfl ?_; simp only [pz]
    refine wpAnyH_inv2 (fuel := 1) [4, 7, 9, 10, 11, 12] [] [42, 45, 47, 48, 49, 7] (fun u L W => Below wB.heap.size wB W ∧ (L 4 → ¬ L 7 → FE5 wB.heap.size 45 (u 42) W) ∧ (L 7 → ¬ L 10 → FA5 wB.heap.size 45 n N X Y S Z (u 45) W) ∧ (L 9 → ¬ L 10 → FX5 x37_0 x37_1 x37_2 x37_3 x37_4 (u 47) W) ∧ (L 4 → L 9 → ¬ L 7 → ∀ q, (u 42).ownBlock = some q → (u 47).ownBlock ≠ some q) ∧ (L 10 → FM5 wB.heap.size (n + 1) (more N n x37_0) (more X n x37_1) (more Y n x37_2) (more S n x37_3) (more Z n x37_4) (u 48) W) ∧ (L 10 → L 7) ∧ (L 12 → FB9 wB.heap.size 9 (u 7) W) ∧ (L 12 → L 4 → ¬ L 7 → ∀ q, (u 42).ownBlock = some q → ptrOf (u 7) ≠ some q) ∧ (L 12 → L 7 → ¬ L 10 → ∀ q, (u 45).ownBlock = some q → ptrOf (u 7) ≠ some q) ∧ (L 12 → L 10 → ∀ q, (u 48).ownBlock = some q → ptrOf (u 7) ≠ some q) ∧ (L 11 → ∀ b c, u 48 = .slice (some ⟨b, 0, none⟩) (n + 1) c → u 49 = .agg #[.int .i64 ax, .int .i64 ay, .int .i64 bx, .int .i64 bY, .int .i64 cx, .int .i64 cy, .int .i64 dx, .int .i64 dy, .slice (some ⟨b, 0, none⟩) (n + 1) c]) ∧ (L 11 → L 10)) (by decide) (by kernel_rfl) (by kernel_rfl) (fun _ _ _ _ _ h => h) (fun u L W hJ => ⟨cell_later hJ.1 g0, cell_later hJ.1 g1, cell_later hJ.1 g2, cell_later hJ.1 g3, cell_later hJ.1 g4, cell_later hJ.1 g5, cell_later hJ.1 g6, cell_later hJ.1 g7, cell_later hJ.1 g8, cell_later hJ.1 m0, cell_later hJ.1 m1, cell_later hJ.1 m2, cell_later hJ.1 m3, cell_later hJ.1 m4, hJ.1⟩) (fun u L hL => ⟨Below.drew (Below.refl _ _), fun k => absurd k (hL 4 (by decide)), fun k => absurd k (hL 7 (by decide)), fun k => absurd k (hL 9 (by decide)), fun k => absurd k (hL 4 (by decide)), fun k => absurd k (hL 10 (by decide)), fun k => absurd k (hL 10 (by decide)), fun k => absurd k (hL 12 (by decide)), fun k => absurd k (hL 12 (by decide)), fun k => absurd k (hL 12 (by decide)), fun k => absurd k (hL 12 (by decide)), fun k => absurd k (hL 11 (by decide)), fun k => absurd k (hL 11 (by decide))⟩) ?_ ?_ ?_
    ·refine sc1 42 ?_ ?_
     rotate_left
     refine sc1 45 ?_ ?_
     rotate_left
     refine sc1 47 ?_ ?_
     rotate_left
     refine sc1 48 ?_ ?_
     rotate_left
     refine sc1 49 ?_ ?_
     rotate_left
     refine sc1 7 ?_ ?_
     rotate_left
     exact StepsH.nil
     ·intro u L W hn hd hJ
      obtain ⟨fk, fE, fA, fX, fEX, fZ, fZA, fB, fBE, fBA, fBZ, fP, fPZ⟩ := hJ
      have hzk := fk.size
      intro K hK
      simp only [puts, pz]
      go_simp
      apply Shut.go4 (W := W) hK
      ·simp only [puts, pz]; rfl
      ·exact Below.alloc (Below.refl _ _) (Nat.le_refl _) _
      ·intro hb
       exact ⟨bstep fk hb, fun _ _ => by rw [upd_same]; exact ⟨_, rfl, own_new5 W _ fk.size⟩, fun k kn => by rw [upd_ne u _ (by decide)]; exact (fA (k.resolve_left (by decide)) (fun h => kn (Or.inr h))).alloc _, fun k kn => by rw [upd_ne u _ (by decide)]; exact (fX (k.resolve_left (by decide)) (fun h => kn (Or.inr h))).later hb, fun _ k kn q hq => by rw [upd_same] at hq; rw [upd_ne u _ (by decide)]; obtain ⟨x9, ex, hx9, _⟩ := fX (k.resolve_left (by decide)) (fun h => kn (Or.inr (fZA h))); rw [ex]; simp only [Value.ownBlock, ne_eq, Option.some.injEq] at hq ⊢; omega, fun k => by rw [upd_ne u _ (by decide)]; exact (fZ (k.resolve_left (by decide))).later hb, fun k => Or.inr (fZA (k.resolve_left (by decide))), fun k => by rw [upd_ne u _ (by decide)]; exact (fB (k.resolve_left (by decide))).later hb, fun k _ kn q hq hp => by rw [upd_same] at hq; rw [upd_ne u _ (by decide)] at hp; have hl9 := (fB (k.resolve_left (by decide))).lt hp; simp only [Value.ownBlock, Option.some.injEq] at hq; omega, fun k k2 kn q hq => by rw [upd_ne u _ (by decide)] at hq; rw [upd_ne u _ (by decide)]; exact fBA (k.resolve_left (by decide)) (k2.resolve_left (by decide)) (fun h => kn (Or.inr h)) q hq, fun k k2 q hq => by rw [upd_ne u _ (by decide)] at hq; rw [upd_ne u _ (by decide)]; exact fBZ (k.resolve_left (by decide)) (k2.resolve_left (by decide)) q hq, fun k => by simp only [upd_ne u _ (show 48 ≠ 42 by decide), upd_ne u _ (show 49 ≠ 42 by decide)]; exact fP (k.resolve_left (by decide)), fun k => Or.inr (fPZ (k.resolve_left (by decide)))⟩
     ·intro u L W hn hd hJ
      obtain ⟨fk, fE, fA, fX, fEX, fZ, fZA, fB, fBE, fBA, fBZ, fP, fPZ⟩ := hJ
      have hzk := fk.size
      obtain ⟨e0, eE, oE⟩ := fE (hd 4 (by kernel_rfl)) hn
      obtain ⟨g9, c9, W9, hr9, ho9, hb9, hg9, hw9⟩ := app_marks i0 Hi.out Hz.out W wB.heap.size _ e0 so n cap N X Y S Z (by omega) (HOwn.out.later fk) oE hzk
      intro K hK
      refine step_append_run (by rfl) _ _ 28 (by rfl) (.slice (some ⟨e0, 0, none⟩) 0 0) (.slice so n cap) (by simp only [puts, pz, eE]; rfl) (by simp only [puts, pz]; rfl) _ _ hr9 ?_
      exact hK.out _ _ ⟨fk.trans hb9, fun _ h => absurd (Or.inl rfl) h, fun _ _ => by rw [upd_same]; exact ⟨g9, c9, rfl, ho9⟩, fun k kn => by rw [upd_ne u _ (by decide)]; exact (fX (k.resolve_left (by decide)) (fun h => kn (Or.inr h))).grown hg9 (fEX (hd 4 (by kernel_rfl)) (k.resolve_left (by decide)) hn e0 (by rw [eE]; rfl)), fun _ _ h => absurd (Or.inl rfl) h, fun k => absurd (fZA (k.resolve_left (by decide))) hn, fun _ => Or.inl rfl, fun k => by rw [upd_ne u _ (by decide)]; exact (fB (k.resolve_left (by decide))).grown hg9 (fBE (k.resolve_left (by decide)) (hd 4 (by kernel_rfl)) hn e0 (by rw [eE]; rfl)), fun _ _ h => absurd (Or.inl rfl) h, (fun k _ kn q hq hp => by
       rw [upd_same] at hq
       rw [upd_ne u _ (by decide)] at hp
       have hl9 := (fB (k.resolve_left (by decide))).lt hp
       have hne9 := fBE (k.resolve_left (by decide)) (hd 4 (by kernel_rfl)) hn e0 (by rw [eE]; rfl)
       simp only [Value.ownBlock, Option.some.injEq] at hq
       rcases hw9 with hw9 | hw9
       ·rw [← hq, hw9] at hp; exact hne9 hp
       ·omega), fun _ k => absurd (fZA (k.resolve_left (by decide))) hn, fun k => absurd (fZA (fPZ (k.resolve_left (by decide)))) hn, fun k => Or.inr (fPZ (k.resolve_left (by decide)))⟩
     ·intro u L W hn hd hJ
      obtain ⟨fk, fE, fA, fX, fEX, fZ, fZA, fB, fBE, fBA, fBZ, fP, fPZ⟩ := hJ
      have hzk := fk.size
      intro K hK
      simp only [puts, pz]
      go_simp
      apply Shut.go4 (W := W) hK
      ·simp only [puts, pz]; rfl
      ·exact Below.alloc (Below.refl _ _) (Nat.le_refl _) _
      ·intro hb
       exact ⟨bstep fk hb, fun k kn => by rw [upd_ne u _ (by decide)]; exact (fE (k.resolve_left (by decide)) (fun h => kn (Or.inr h))).alloc _, fun k kn => by rw [upd_ne u _ (by decide)]; exact (fA (k.resolve_left (by decide)) (fun h => kn (Or.inr h))).alloc _, fun _ _ => by rw [upd_same]; exact ⟨_, rfl, by simp, newM5⟩, fun k _ kn q hq => by rw [upd_same]; rw [upd_ne u _ (by decide)] at hq; obtain ⟨b9, e9, o9⟩ := fE (k.resolve_left (by decide)) (fun h => kn (Or.inr h)); rw [e9] at hq; have hl9 := (o9.lt q hq).2; simp only [Value.ownBlock, ne_eq, Option.some.injEq] at hq ⊢; omega, fun k => by rw [upd_ne u _ (by decide)]; exact (fZ (k.resolve_left (by decide))).later hb, fun k => Or.inr (fZA (k.resolve_left (by decide))), fun k => by rw [upd_ne u _ (by decide)]; exact (fB (k.resolve_left (by decide))).later hb, fun k k2 kn q hq => by rw [upd_ne u _ (by decide)] at hq; rw [upd_ne u _ (by decide)]; exact fBE (k.resolve_left (by decide)) (k2.resolve_left (by decide)) (fun h => kn (Or.inr h)) q hq, fun k k2 kn q hq => by rw [upd_ne u _ (by decide)] at hq; rw [upd_ne u _ (by decide)]; exact fBA (k.resolve_left (by decide)) (k2.resolve_left (by decide)) (fun h => kn (Or.inr h)) q hq, fun k k2 q hq => by rw [upd_ne u _ (by decide)] at hq; rw [upd_ne u _ (by decide)]; exact fBZ (k.resolve_left (by decide)) (k2.resolve_left (by decide)) q hq, fun k => by simp only [upd_ne u _ (show 48 ≠ 47 by decide), upd_ne u _ (show 49 ≠ 47 by decide)]; exact fP (k.resolve_left (by decide)), fun k => Or.inr (fPZ (k.resolve_left (by decide)))⟩
     ·intro u L W hn hd hJ
      obtain ⟨fk, fE, fA, fX, fEX, fZ, fZA, fB, fBE, fBA, fBZ, fP, fPZ⟩ := hJ
      have hzk := fk.size
      obtain ⟨bA, cA, eA, oA⟩ := fA (hd 7 (by kernel_rfl)) hn
      obtain ⟨xX, eX, hxX, hcX⟩ := fX (hd 9 (by kernel_rfl)) hn
      obtain ⟨g9, c9, W9, hr9, hc9, hl9, ho9, hb9, hg9, hw9⟩ := app_mark i0 Hi.out Hz.out W wB.heap.size bA xX n cA N X Y S Z x37_0 x37_1 x37_2 x37_3 x37_4 (by omega) oA hzk hcX
      intro K hK
      refine step_append_run (by rfl) _ _ 28 (by rfl) (.slice (some ⟨bA, 0, none⟩) n cA) (.slice (some ⟨xX, 0, none⟩) 1 1) (by simp only [puts, pz, eA]; rfl) (by simp only [puts, pz, eX]; rfl) _ _ hr9 ?_
      exact hK.out _ _ ⟨fk.trans hb9, fun _ kn => absurd (Or.inr (hd 7 (by kernel_rfl))) kn, fun _ h => absurd (Or.inl rfl) h, fun _ h => absurd (Or.inl rfl) h, fun _ _ kn => absurd (Or.inr (hd 7 (by kernel_rfl))) kn, fun _ => by rw [upd_same]; exact ⟨g9, c9, rfl, hc9, hl9, ho9⟩, fun _ => Or.inr (hd 7 (by kernel_rfl)), fun k => by rw [upd_ne u _ (by decide)]; exact (fB (k.resolve_left (by decide))).grown hg9 (fBA (k.resolve_left (by decide)) (hd 7 (by kernel_rfl)) hn bA (by rw [eA]; rfl)), fun _ _ kn => absurd (Or.inr (hd 7 (by kernel_rfl))) kn, fun _ _ h => absurd (Or.inl rfl) h, (fun k _ q hq hp => by
       rw [upd_same] at hq
       rw [upd_ne u _ (by decide)] at hp
       have hl8 := (fB (k.resolve_left (by decide))).lt hp
       have hne9 := fBA (k.resolve_left (by decide)) (hd 7 (by kernel_rfl)) hn bA (by rw [eA]; rfl)
       simp only [Value.ownBlock, Option.some.injEq] at hq
       rcases hw9 with hw9 | hw9
       ·rw [← hq, hw9] at hp; exact hne9 hp
       ·omega), fun k => absurd (fPZ (k.resolve_left (by decide))) hn, fun k => Or.inr (fPZ (k.resolve_left (by decide)))⟩
     ·intro u L W hn hd hJ
      obtain ⟨fk, fE, fA, fX, fEX, fZ, fZA, fB, fBE, fBA, fBZ, fP, fPZ⟩ := hJ
      have hzk := fk.size
      obtain ⟨bZ, cZ, eZ, _⟩ := fZ (hd 10 (by kernel_rfl))
      intro K hK
      simp only [puts, pz, eZ]
      go_simp
      apply Shut.go4 (W := W) hK
      ·simp only [puts, pz, eZ]; rfl
      ·exact Below.refl _ _
      ·intro hb
       exact ⟨fk, fun k kn => by rw [upd_ne u _ (by decide)]; exact fE (k.resolve_left (by decide)) (fun h => kn (Or.inr h)), fun k kn => by rw [upd_ne u _ (by decide)]; exact fA (k.resolve_left (by decide)) (fun h => kn (Or.inr h)), fun k kn => by rw [upd_ne u _ (by decide)]; exact fX (k.resolve_left (by decide)) (fun h => kn (Or.inr h)), fun k k2 kn q hq => by rw [upd_ne u _ (by decide)] at hq; rw [upd_ne u _ (by decide)]; exact fEX (k.resolve_left (by decide)) (k2.resolve_left (by decide)) (fun h => kn (Or.inr h)) q hq, fun k => by rw [upd_ne u _ (by decide)]; exact fZ (k.resolve_left (by decide)), fun k => Or.inr (fZA (k.resolve_left (by decide))), fun k => by rw [upd_ne u _ (by decide)]; exact fB (k.resolve_left (by decide)), fun k k2 kn q hq => by rw [upd_ne u _ (by decide)] at hq; rw [upd_ne u _ (by decide)]; exact fBE (k.resolve_left (by decide)) (k2.resolve_left (by decide)) (fun h => kn (Or.inr h)) q hq, fun k k2 kn q hq => by rw [upd_ne u _ (by decide)] at hq; rw [upd_ne u _ (by decide)]; exact fBA (k.resolve_left (by decide)) (k2.resolve_left (by decide)) (fun h => kn (Or.inr h)) q hq, fun k k2 q hq => by rw [upd_ne u _ (by decide)] at hq; rw [upd_ne u _ (by decide)]; exact fBZ (k.resolve_left (by decide)) (k2.resolve_left (by decide)) q hq, fun _ => by intro b c e; rw [upd_same]; rw [upd_ne u _ (by decide), eZ] at e; injection e with e1 _ e2; injection e1 with e1; injection e1 with e1; subst e1; subst e2; rfl, fun _ => Or.inr (hd 10 (by kernel_rfl))⟩
     ·intro u L W hn hd hJ
      obtain ⟨fk, fE, fA, fX, fEX, fZ, fZA, fB, fBE, fBA, fBZ, fP, fPZ⟩ := hJ
      have hzk := fk.size
      intro K hK
      simp only [puts, pz]
      go_simp
      apply Shut.go4 (W := W) hK
      ·simp only [puts, pz]; rfl
      ·exact Below.alloc (Below.refl _ _) (Nat.le_refl _) _
      ·intro hb
       exact ⟨bstep fk hb, fun k kn => by rw [upd_ne u _ (by decide)]; exact (fE (k.resolve_left (by decide)) (fun h => kn (Or.inr h))).alloc _, fun k kn => by rw [upd_ne u _ (by decide)]; exact (fA (k.resolve_left (by decide)) (fun h => kn (Or.inr h))).alloc _, fun k kn => by rw [upd_ne u _ (by decide)]; exact (fX (k.resolve_left (by decide)) (fun h => kn (Or.inr h))).later hb, fun k k2 kn q hq => by rw [upd_ne u _ (by decide)] at hq; rw [upd_ne u _ (by decide)]; exact fEX (k.resolve_left (by decide)) (k2.resolve_left (by decide)) (fun h => kn (Or.inr h)) q hq, fun k => by rw [upd_ne u _ (by decide)]; exact (fZ (k.resolve_left (by decide))).later hb, fun k => Or.inr (fZA (k.resolve_left (by decide))), fun _ => by rw [upd_same]; exact ⟨_, rfl, fk.size, by simp, mine_make rfl⟩, fun _ k kn q hq => by rw [upd_same]; rw [upd_ne u _ (by decide)] at hq; obtain ⟨b9, e9, o9⟩ := fE (k.resolve_left (by decide)) (fun h => kn (Or.inr h)); rw [e9] at hq; have hl9 := (o9.lt q hq).2; simp only [ptrOf, ne_eq, Option.some.injEq] at hq ⊢; omega, fun _ k kn q hq => by rw [upd_same]; rw [upd_ne u _ (by decide)] at hq; obtain ⟨b9, c9, e9, o9⟩ := fA (k.resolve_left (by decide)) (fun h => kn (Or.inr h)); rw [e9] at hq; have hl9 := (o9.lt q hq).2; simp only [ptrOf, ne_eq, Option.some.injEq] at hq ⊢; omega, fun _ k q hq => by rw [upd_same]; rw [upd_ne u _ (by decide)] at hq; obtain ⟨b9, c9, e9, _, hl9, _⟩ := fZ (k.resolve_left (by decide)); rw [e9] at hq; simp only [ptrOf, Value.ownBlock, ne_eq, Option.some.injEq] at hq ⊢; omega, fun k => by simp only [upd_ne u _ (show 48 ≠ 7 by decide), upd_ne u _ (show 49 ≠ 7 by decide)]; exact fP (k.resolve_left (by decide)), fun k => Or.inr (fPZ (k.resolve_left (by decide)))⟩
    ·exact PuresH.nil
    ·intro u L W hJ hL
     obtain ⟨fk, fE, fA, fX, fEX, fZ, fZA, fB, fBE, fBA, fBZ, fP, fPZ⟩ := hJ
     obtain ⟨b9, cp9, eZ, hc9, hl9, ho9⟩ := fZ (hL 10 (by kernel_rfl))
     have hBZ := fBZ (hL 12 (by kernel_rfl)) (hL 10 (by kernel_rfl)) b9 (by rw [eZ]; rfl)
     obtain ⟨y9, eB, hy9, hyl9, hm9⟩ := fB (hL 12 (by kernel_rfl))
     rw [eB] at hBZ; simp only [ptrOf, ne_eq, Option.some.injEq] at hBZ
     have eP := fP (hL 11 (by kernel_rfl)) b9 cp9 eZ
     clear hHeld fE fA fX fEX fZ fZA fB fBE fBA fBZ fP fPZ
     have hcW := (bcell fk).1
     have hfW := (bcell fk).2
     have zW := fk.size
     have Hm9 := hide hm9
     have HO9 := hide ho9
     clear ho9 hm9
     simp only [puts, pz, Array.replicate, eZ, eB, eP]
     obtain ⟨v0, cy0, fy0⟩ := Hm9.out.cells 0 (by decide)
     obtain ⟨v1, cy1, fy1⟩ := Hm9.out.cells 1 (by decide)
     obtain ⟨v2, cy2, fy2⟩ := Hm9.out.cells 2 (by decide)
     obtain ⟨v3, cy3, fy3⟩ := Hm9.out.cells 3 (by decide)
     obtain ⟨v4, cy4, fy4⟩ := Hm9.out.cells 4 (by decide)
     obtain ⟨v5, cy5, fy5⟩ := Hm9.out.cells 5 (by decide)
     obtain ⟨v6, cy6, fy6⟩ := Hm9.out.cells 6 (by decide)
     obtain ⟨v7, cy7, fy7⟩ := Hm9.out.cells 7 (by decide)
     obtain ⟨v8, cy8, fy8⟩ := Hm9.out.cells 8 (by decide)
     have y1 : ¬ y9 = w2.heap.size := by omega
     have y2 : ¬ y9 = b6 := by omega
     have y3 : ¬ w2.heap.size = y9 := by omega
     have y4 : ¬ b6 = y9 := by omega
     refine rd1 13 none rfl (fun K hK => ?_)
     go_simp
     all_goals (try go_wp2_with fail)
     refine hK.out _ _ ?_ (fun hH2 => ?_)
     ·exact ⟨by go_simp, by go_simp, by go_simp, by go_simp, by go_simp, by go_simp, by go_simp, by go_simp, by go_simp, by go_simp, by go_simp, by go_simp, by go_simp, by go_simp, bwz⟩
     clear hK K
     (try simp only [Act.put])
     refine wpAnyH_done (by kernel_rfl) ?_ _
     (try simp only [pz])
     obtain ⟨wF, hF⟩ : ∃ x, x = (((((((((W.setCell ⟨y9, 0, none⟩ (.int .i64 ax)).setCell ⟨y9, 1, none⟩ (.int .i64 ay)).setCell ⟨y9, 2, none⟩ (.int .i64 bx)).setCell ⟨y9, 3, none⟩ (.int .i64 bY)).setCell ⟨y9, 4, none⟩ (.int .i64 cx)).setCell ⟨y9, 5, none⟩ (.int .i64 cy)).setCell ⟨y9, 6, none⟩ (.int .i64 dx)).setCell ⟨y9, 7, none⟩ (.int .i64 dy)).setCell ⟨y9, 8, none⟩ (.slice (some ⟨b9, 0, none⟩) (n + 1) cp9)) := ⟨_, rfl⟩
     rw [← hF]
     have zF : wF.heap.size = W.heap.size := by rw [hF]; simp [World.setCell]
     have hFB : Below wB.heap.size wB wF := by rw [hF]; exact bwz
     have q0 : wF.cell? ⟨y9, 0, none⟩ = some (.int .i64 ax) := by rw [hF]; go_simp
     have q1 : wF.cell? ⟨y9, 1, none⟩ = some (.int .i64 ay) := by rw [hF]; go_simp
     have q2 : wF.cell? ⟨y9, 2, none⟩ = some (.int .i64 bx) := by rw [hF]; go_simp
     have q3 : wF.cell? ⟨y9, 3, none⟩ = some (.int .i64 bY) := by rw [hF]; go_simp
     have q4 : wF.cell? ⟨y9, 4, none⟩ = some (.int .i64 cx) := by rw [hF]; go_simp
     have q5 : wF.cell? ⟨y9, 5, none⟩ = some (.int .i64 cy) := by rw [hF]; go_simp
     have q6 : wF.cell? ⟨y9, 6, none⟩ = some (.int .i64 dx) := by rw [hF]; go_simp
     have q7 : wF.cell? ⟨y9, 7, none⟩ = some (.int .i64 dy) := by rw [hF]; go_simp
     have q8 : wF.cell? ⟨y9, 8, none⟩ = some (.slice (some ⟨b9, 0, none⟩) (n + 1) cp9) := by rw [hF]; go_simp
     have HOF := hide (show OwnM wF wB.heap.size (more N n x37_0) (more X n x37_1) (more Y n x37_2) (more S n x37_3) (more Z n x37_4) (n + 1) (some ⟨b9, 0, none⟩) by rw [hF]; (repeat with_reducible refine OwnM.off ?_ (by omega)); exact HO9.out)
     have HCF := hide (HCB.out.later hFB)
     have HRF := hide (Mine.later hFB HRB.out)
     have HNF := hide (fun j (hj : j < 8) => (HNB.out j hj).imp (fun s k => cell_later hFB k))
     have HSF := hide (Src.keep hFB HSB.out)
     have HGF := hide (gr_belowB HGB.out (hFB.mono (by omega)))
     have HOo := hide (HOwn.out.later hFB)
     clear hF hcW hfW hH2 Hm9 HO9 hFB cy0 fy0 cy1 fy1 cy2 fy2 cy3 fy3 cy4 fy4 cy5 fy5 cy6 fy6 cy7 fy7 cy8 fy8
     go_wp2_with fail; (with_reducible refine (spec_IsCourse _ _ _ _ _ _ _ _ _ _ _ _ _ _ _ _ _ HOF.out.row (by omega)).mono ?_); rintro e w9 ⟨rfl, hb⟩
     have hz9 := hb.size
     have HCG := hide (HCF.out.later hb)
     have HRG := hide (Mine.later hb HRF.out)
     have HNG := hide (fun j (hj : j < 8) => (HNF.out j hj).imp (fun s k => cell_later hb k))
     have HSG := hide (Src.keep hb HSF.out)
     have HGG := hide (gr_belowB HGF.out (hb.mono (by omega)))
     have HOg := hide (HOo.out.later hb)
     have HON := hide (HOF.out.later hb)
     have q0 := cell_later hb q0
     have q1 := cell_later hb q1
     have q2 := cell_later hb q2
     have q3 := cell_later hb q3
     have q4 := cell_later hb q4
     have q5 := cell_later hb q5
     have q6 := cell_later hb q6
     have q7 := cell_later hb q7
     have q8 := cell_later hb q8
     generalize isCo ax ay bx bY cx cy dx dy (n + 1) (more N n x37_0) (more X n x37_1) (more Y n x37_2) (more S n x37_3) (more Z n x37_4) = bb
     cases bb
     ·go_wp2
      go_roundw
      case rel => exact ⟨k, n, cap, so, N, X, Y, S, Z, by first | rfl | (congr 1; omega), by omega, hnc, HOg, HCG, HRG, HNG, HSG, HGG, by omega⟩
      case measure => simp [intOf] <;> omega
     ·obtain ⟨d0, d1, d2, d3, d4, d5, d6, d7, d8, e0, e1, e2, e3, e4, e5, e6, e7, e8⟩ := HCG.out
      have zc : w2.heap.size < w9.heap.size := by omega
      have hsg := HSG.out
      have hgg := HGG.out
      go_wp2
      obtain ⟨wG, hwG⟩ : ∃ x, x = ((((((((w9.setCell ⟨w2.heap.size, 0, none⟩ (.int .i64 ax)).setCell ⟨w2.heap.size, 1, none⟩ (.int .i64 ay)).setCell ⟨w2.heap.size, 2, none⟩ (.int .i64 bx)).setCell ⟨w2.heap.size, 3, none⟩ (.int .i64 bY)).setCell ⟨w2.heap.size, 4, none⟩ (.int .i64 cx)).setCell ⟨w2.heap.size, 5, none⟩ (.int .i64 cy)).setCell ⟨w2.heap.size, 6, none⟩ (.int .i64 dx)).setCell ⟨w2.heap.size, 7, none⟩ (.int .i64 dy)).setCell ⟨w2.heap.size, 8, none⟩ (.slice (some ⟨b9, 0, none⟩) (n + 1) cp9) := ⟨_, rfl⟩
      rw [← hwG]
      have h23 : w2.heap.size < w3.heap.size := by omega
      have hm3 : w3.heap.size ≤ wB.heap.size := by omega
      have HO2 := hide (show OwnM wG w3.heap.size (more N n x37_0) (more X n x37_1) (more Y n x37_2) (more S n x37_3) (more Z n x37_4) (n + 1) (some ⟨b9, 0, none⟩) by rw [hwG]; exact (((((((((HON.out.mono hm3).far h23).far h23).far h23).far h23).far h23).far h23).far h23).far h23).far h23)
      have HC2 := hide (show CoB wG w2.heap.size ax ay bx bY cx cy dx dy (some ⟨b9, 0, none⟩) (n + 1) cp9 by rw [hwG]; exact ⟨by go_simp, by go_simp, by go_simp, by go_simp, by go_simp, by go_simp, by go_simp, by go_simp, by go_simp, by go_simp, by go_simp, by go_simp, by go_simp, by go_simp, by go_simp, by go_simp, by go_simp, by go_simp⟩)
      have HP : Spot w2.heap.size w9 wG := by rw [hwG]; exact (((((((((Spot.refl _ _).set).set).set).set).set).set).set).set).set
      clear hwG HON d0 d1 d2 d3 d4 d5 d6 d7 d8 e0 e1 e2 e3 e4 e5 e6 e7 e8 hsg hgg
      have hw02 : ¬ w.heap.size = w2.heap.size := by omega
      have hw12 : ¬ w2.heap.size + 1 = w2.heap.size := by omega
      have hwg2 : g < w2.heap.size := by omega
      have hw03 : w.heap.size ≤ w2.heap.size := by omega
      have HR2 := hide (HP.mine hw02 HRG.out)
      have HN2 := hide (show ∀ j, j < 8 → ∃ s : ByteArray, wG.cell? ⟨w2.heap.size + 1, j, none⟩ = some (.string s) from fun j hj => (HNG.out j hj).imp (fun s k => (HP.cell hw12).trans k))
      have HS2 := hide (HP.src hwg2 HSG.out)
      have HG2 := hide (HP.grow hw03 HGG.out)
      have zG := HP.size
      have hnk2 : n + 1 + k ≤ 4 := by omega
      have hsz2 : w3.heap.size ≤ wG.heap.size := by omega
      clear HP HRG HNG HSG HGG HCG
      go_roundw
      case rel => exact ⟨k, n + 1, cp9, some ⟨b9, 0, none⟩, _, _, _, _, _, by first | rfl | (congr 1; omega), hnk2, hc9, HO2, HC2, HR2, HN2, HS2, HG2, hsz2⟩
      case measure => simp [intOf] <;> omega
end Go.Proofs.YtgcdgdnmcdffoaaGreatDoor
