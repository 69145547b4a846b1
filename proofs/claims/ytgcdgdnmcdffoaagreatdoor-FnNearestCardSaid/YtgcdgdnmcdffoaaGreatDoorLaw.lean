/- The frame of every law's proof: a law whose call returns true and leaves below the heap's old size all as it was meets its row; how a struct that came in by value reads. -/
import Derived.Test.YtgcdgdnmcdffoaaGreatDoorRows
import Derived.Test.YtgcdgdnmcdffoaaGreatDoorBase
import Derived.ProofKit
import Derived.Test.YtgcdgdnmcdffoaaGreatDoorBs
import Derived.Deep.Slices
import Derived.Test.YtgcdgdnmcdffoaaGreatDoorCo
import Derived.Test.YtgcdgdnmcdffoaaGreatDoorKp
namespace Go.Proofs.YtgcdgdnmcdffoaaGreatDoor
open Go.ChangeShapes Go.WideShapes Go.ChangeAt Go.RowKit

theorem Tryz.own : ownKnob Tryz.prog.godebug = none := by kernel_rfl
theorem Tryz.laidOut : laidOutB Tryz.prog = true := by kernel_rfl

theorem Tryz.mapsRowed : mapsRowed Tryz.prog = true := by kernel_rfl
theorem Tryz.stopsNone : (Tryz.prog.stops == []) = true := by kernel_rfl
theorem Tryz.stopKnobsNone : (Tryz.prog.stopKnobs == []) = true := by kernel_rfl
theorem Tryz.plainKeysIs : Tryz.prog.plainKeys = true := by kernel_rfl
theorem Tryz.stopsHeardIs : Tryz.prog.stopsHeard = true := by kernel_rfl
theorem Tryz.mayEnterIs : Tryz.prog.mayEnter = true := by as_aux_lemma => kernel_rfl
theorem Tryz.liftsFinalIs : Tryz.prog.liftsFinal = false := by as_aux_lemma => kernel_rfl
theorem Tryz.makeIs : Tryz.prog.make = some .cut := by as_aux_lemma => kernel_rfl

section
variable {H : Type} {enc : TypeId × Value → H} {P : Program}
theorem trodAll_below (hl : laidOutB P = true) {W W' : World} (hb : Below W.heap.size W W') : ∀ {ts : List TypeId} {vs : List Value} {ds : List (DataW H)} {ps : List MemPlace},
 (∀ t ∈ ts, P.readableRec t = true ∧ t < P.types.size) → (∀ x ∈ ps, x.block < W.heap.size) → DataW.TrodAll enc P W 0 (fun _ => true) true ts vs ds ps →
 DataW.TrodAll enc P W' 0 (fun b => decide (b < W.heap.size)) true ts vs ds ps
 | [], [], [], _, _, _, h => h
 | t :: ts, v :: vs, d :: ds, ps, hr, hlt, h => by
  obtain ⟨p, q, h1, h2, rfl⟩ := h
  refine ⟨p, q, Below.trod hl (hr t (by simp)).1 (hr t (by simp)).2 h1 hb fun x hx => hlt x (by simp [hx]), trodAll_below hl hb (fun t ht => hr t (by simp [ht])) (fun x hx => hlt x (by simp [hx])) h2, rfl⟩
 | [], [], _ :: _, _, _, _, h => h.elim
 | [], _ :: _, _, _, _, _, h => by cases ‹List (DataW H)› <;> exact h.elim
 | _ :: _, [], _, _, _, _, h => by cases ‹List (DataW H)› <;> exact h.elim
 | _ :: _, _ :: _, [], _, _, _, h => h.elim

theorem law_post {f : Func} {s : ChangeSpec} {W W' : World} {args : Array Value} {ds gs : List (DataW H)} {before : List MemPlace} {tb : TypeId}
 (hl : laidOutB P = true) (hr : (f.params.toList.all fun t => P.readableRec t && decide (t < P.types.size)) = true) (htb : P.underlying tb = some .bool) (hres : f.resultTypes = #[tb]) (hvars : s.vars = [])
 (hW : DataW.Whole enc P f.params.toList s.vars false W args.toList ds gs before) (hsr : (s.fn H (ds ++ gs)).results = [.lit (.bool true)]) (hsa : (s.fn H (ds ++ gs)).args = ds) (hsv : (s.fn H (ds ++ gs)).vars = [])
 (hb : Below W.heap.size W W') : s.post enc P f false true false false W args (.bool true) W' := by
 have hW' := hW
 have hlt := fun p hp => hW.lt p hp
 obtain ⟨p, q, hA, hV, rfl, _, _⟩ := hW
 rw [hvars] at hV
 obtain ⟨rfl, rfl⟩ := trodVars_none hV
 refine ⟨ds, [], _, [], p, [], hW', ?_, ?_, ?_, hb.frame _, fun h => by cases h⟩
 ·rw [hsr, hres]
  exact ⟨[], [], ⟨1, by simp [DataW.trod, Value.cells, htb]⟩, rfl, rfl⟩
 ·rw [hsa]
  refine trodAll_below hl hb (fun t ht => ?_) (fun x hx => hlt x (by simp [hx])) hA
  have := List.all_eq_true.1 hr t ht
  simpa using this
 ·rw [hsv, hvars]
  rfl
end

section
variable {H : Type} {enc : TypeId × Value → H} {P : Program} {w : World} {base : Nat} {spare : Nat → Bool} {held : Bool}
/-- One int64. -/
theorem rd_int {t : TypeId} {n : Nat} {cs : List Value} {x : DataW H × List MemPlace} (ht : P.underlying t = some (.int .i64)) (h : DataW.trod enc P w base spare held n t cs = some x) : ∃ a : Int, cs = [.int .i64 a] ∧ (Lit.int .i64 a).wf = true := by
 obtain ⟨a, h1, _, h3⟩ := DataW.trod_int ht h
 exact ⟨a, h1, h3⟩
/-- A struct of two int64. -/
theorem rd_two {ti t : TypeId} {f0 f1 : Field} {n : Nat} {cs : List Value} {x : DataW H × List MemPlace} (hi : P.underlying ti = some (.int .i64)) (ht : P.underlying t = some (.struct #[f0, f1])) (hc : P.cellsOf t = 2) (hci : P.cellsOf ti = 1)
 (h0 : f0.type = ti ∧ f0.offset = 0) (h1 : f1.type = ti ∧ f1.offset = 1) (h : DataW.trod enc P w base spare held n t cs = some x) : ∃ a b : Int, cs = [.int .i64 a, .int .i64 b] ∧ (Lit.int .i64 a).wf = true ∧ (Lit.int .i64 b).wf = true := by
 obtain ⟨xs, m, _, _, hl, hxl, hf⟩ := DataW.trod_struct ht h
 rw [hc] at hl
 match cs, hl with
 | [c0, c1], _ =>
  have g0 := hf 0 f0 rfl
  have g1 := hf 1 f1 rfl
  rw [h0.1, h0.2, hci, List.getElem?_eq_getElem (by simp [hxl])] at g0
  rw [h1.1, h1.2, hci, List.getElem?_eq_getElem (by simp [hxl])] at g1
  obtain ⟨a, e0, wa⟩ := rd_int hi g0
  obtain ⟨b, e1, wb⟩ := rd_int hi g1
  simp at e0 e1
  exact ⟨a, b, by simp [e0, e1], wa, wb⟩
/-- A struct of two structs of two int64, and an int64. -/
theorem rd_hull {ti tp t : TypeId} {f0 f1 g0 g1 g2 : Field} {n : Nat} {cs : List Value} {x : DataW H × List MemPlace} (hi : P.underlying ti = some (.int .i64)) (hp : P.underlying tp = some (.struct #[f0, f1])) (hcp : P.cellsOf tp = 2) (hci : P.cellsOf ti = 1)
 (h0 : f0.type = ti ∧ f0.offset = 0) (h1 : f1.type = ti ∧ f1.offset = 1) (ht : P.underlying t = some (.struct #[g0, g1, g2])) (hc : P.cellsOf t = 5)
 (k0 : g0.type = tp ∧ g0.offset = 0) (k1 : g1.type = tp ∧ g1.offset = 2) (k2 : g2.type = ti ∧ g2.offset = 4) (h : DataW.trod enc P w base spare held n t cs = some x) :
 ∃ a b c d l : Int, cs = [.int .i64 a, .int .i64 b, .int .i64 c, .int .i64 d, .int .i64 l] ∧ (Lit.int .i64 a).wf = true ∧ (Lit.int .i64 b).wf = true ∧ (Lit.int .i64 c).wf = true ∧ (Lit.int .i64 d).wf = true ∧ (Lit.int .i64 l).wf = true := by
 obtain ⟨xs, m, _, _, hl, hxl, hf⟩ := DataW.trod_struct ht h
 rw [hc] at hl
 match cs, hl with
 | [c0, c1, c2, c3, c4], _ =>
  have e0 := hf 0 g0 rfl
  have e1 := hf 1 g1 rfl
  have e2 := hf 2 g2 rfl
  rw [k0.1, k0.2, hcp, List.getElem?_eq_getElem (by simp [hxl])] at e0
  rw [k1.1, k1.2, hcp, List.getElem?_eq_getElem (by simp [hxl])] at e1
  rw [k2.1, k2.2, hci, List.getElem?_eq_getElem (by simp [hxl])] at e2
  obtain ⟨a, b, e0, wa, wb⟩ := rd_two hi hp hcp hci h0 h1 e0
  obtain ⟨c, d, e1, wc, wd⟩ := rd_two hi hp hcp hci h0 h1 e1
  obtain ⟨l, e2, wl⟩ := rd_int hi e2
  simp at e0 e1 e2
  exact ⟨a, b, c, d, l, by simp [e0, e1, e2], wa, wb, wc, wd, wl⟩

/-- A struct of a string, a struct of two int64, and two int64. -/
theorem rd_mark {ti tp tS t : TypeId} {f0 f1 g0 g1 g2 g3 : Field} {n : Nat} {cs : List Value} {x : DataW H × List MemPlace} (hi : P.underlying ti = some (.int .i64)) (hs : P.underlying tS = some .string) (hp : P.underlying tp = some (.struct #[f0, f1])) (hcp : P.cellsOf tp = 2) (hci : P.cellsOf ti = 1) (hcs : P.cellsOf tS = 1)
 (h0 : f0.type = ti ∧ f0.offset = 0) (h1 : f1.type = ti ∧ f1.offset = 1) (ht : P.underlying t = some (.struct #[g0, g1, g2, g3])) (hc : P.cellsOf t = 5)
 (k0 : g0.type = tS ∧ g0.offset = 0) (k1 : g1.type = tp ∧ g1.offset = 1) (k2 : g2.type = ti ∧ g2.offset = 3) (k3 : g3.type = ti ∧ g3.offset = 4) (h : DataW.trod enc P w base spare held n t cs = some x) :
 ∃ (s : ByteArray) (a b c d : Int), cs = [.string s, .int .i64 a, .int .i64 b, .int .i64 c, .int .i64 d] ∧ s.size ≤ maxLen := by
 obtain ⟨xs, m, _, _, hl, hxl, hf⟩ := DataW.trod_struct ht h
 rw [hc] at hl
 match cs, hl with
 | [c0, c1, c2, c3, c4], _ =>
  have e0 := hf 0 g0 rfl
  have e1 := hf 1 g1 rfl
  have e2 := hf 2 g2 rfl
  have e3 := hf 3 g3 rfl
  rw [k0.1, k0.2, hcs, List.getElem?_eq_getElem (by simp [hxl])] at e0
  rw [k1.1, k1.2, hcp, List.getElem?_eq_getElem (by simp [hxl])] at e1
  rw [k2.1, k2.2, hci, List.getElem?_eq_getElem (by simp [hxl])] at e2
  rw [k3.1, k3.2, hci, List.getElem?_eq_getElem (by simp [hxl])] at e3
  obtain ⟨s, e0, _, ws⟩ := DataW.trod_string hs e0
  obtain ⟨a, b, e1, wa, wb⟩ := rd_two hi hp hcp hci h0 h1 e1
  obtain ⟨c, e2, wc⟩ := rd_int hi e2
  obtain ⟨d, e3, wd⟩ := rd_int hi e3
  simp at e0 e1 e2 e3
  exact ⟨s, a, b, c, d, by simp [e0, e1, e2, e3], ws⟩
/-- A struct of a hull and a bool. -/
theorem rd_boat {th tb t : TypeId} {g0 g1 : Field} {n : Nat} {cs : List Value} {x : DataW H × List MemPlace}
 (hh : ∀ {n : Nat} {cs : List Value} {x : DataW H × List MemPlace}, DataW.trod enc P w base spare held n th cs = some x → ∃ a b c d l : Int, cs = [.int .i64 a, .int .i64 b, .int .i64 c, .int .i64 d, .int .i64 l] ∧ (Lit.int .i64 a).wf = true ∧ (Lit.int .i64 b).wf = true ∧ (Lit.int .i64 c).wf = true ∧ (Lit.int .i64 d).wf = true ∧ (Lit.int .i64 l).wf = true)
 (hb : P.underlying tb = some .bool) (ht : P.underlying t = some (.struct #[g0, g1])) (hc : P.cellsOf t = 6) (hch : P.cellsOf th = 5) (hcb : P.cellsOf tb = 1)
 (k0 : g0.type = th ∧ g0.offset = 0) (k1 : g1.type = tb ∧ g1.offset = 5) (h : DataW.trod enc P w base spare held n t cs = some x) :
 ∃ (bx bY hx hy l : Int) (t : Bool), cs = [.int .i64 bx, .int .i64 bY, .int .i64 hx, .int .i64 hy, .int .i64 l, .bool t] := by
 obtain ⟨xs, m, _, _, hl, hxl, hf⟩ := DataW.trod_struct ht h
 rw [hc] at hl
 match cs, hl with
 | [c0, c1, c2, c3, c4, c5], _ =>
  have e0 := hf 0 g0 rfl
  have e1 := hf 1 g1 rfl
  rw [k0.1, k0.2, hch, List.getElem?_eq_getElem (by simp [hxl])] at e0
  rw [k1.1, k1.2, hcb, List.getElem?_eq_getElem (by simp [hxl])] at e1
  obtain ⟨a, b, c, d, l, q0, _⟩ := hh e0
  obtain ⟨t, q1, _⟩ := DataW.trod_bool hb e1
  simp at q0 q1
  exact ⟨a, b, c, d, l, t, by simp [q0, q1]⟩
/-- The value of a struct that came in. -/
theorem agg_of {r : Reach} {b0 : Nat} {t : TypeId} {fs : Array Field} {v : Value} {d : DataW H} {p : List MemPlace} (hs : P.underlying t = some (.struct fs)) (hv : Value.okWide P w r b0 t v) (h : DataW.Trod enc P w base spare held t v d p) :
 ∃ (cs : List Value) (n : Nat), v = .agg cs.toArray ∧ DataW.trod enc P w base spare held n t cs = some (d, p) := by
 obtain ⟨cs, rfl, _⟩ := okWide_struct hs hv
 obtain ⟨n, h⟩ := h
 exact ⟨cs.toList, n, by simp, by simpa [Value.cells] using h⟩
end

theorem Tryz.cInt : Tryz.prog.cellsOf 2 = 1 := by kernel_rfl
end Go.Proofs.YtgcdgdnmcdffoaaGreatDoor
/- How slices of structs, and tracks, that came in read. -/
namespace Go.Proofs.YtgcdgdnmcdffoaaGreatDoor
open Go.ChangeShapes Go.WideShapes Go.ChangeAt Go.RowKit Go.Deep

section
variable {H : Type} {enc : TypeId × Value → H} {P : Program} {w : World} {base : Nat} {spare : Nat → Bool} {held : Bool}
theorem open_row {t e : TypeId} {c fuel : Nat} {cs : List Value} {x : DataW H × List MemPlace} {Q : List Value → Prop} (ht : P.underlying t = some (.slice e)) (hc : P.cellsOf e = c) (h0 : 0 < c)
 (rd : ∀ {n : Nat} {cs : List Value} {x : DataW H × List MemPlace}, DataW.trod enc P w base spare held n e cs = some x → Q cs) (h : DataW.trod enc P w base spare held fuel t cs = some x) :
 ∃ so len cap, cs = [.slice so len cap] ∧ len ≤ maxLen ∧ ∀ i, i < len → ∃ b o cs', so = some ⟨b, o, none⟩ ∧ Q cs' ∧ ∀ j, j < c → w.cell? ⟨b, o + i * c + j, none⟩ = cs'[j]? := by
 rcases open_slice ht h with ⟨rfl, _⟩ | ⟨a, len, cap, m, n, D, Pl, rfl, _, hl, hcm, hm, _, hi⟩
 ·exact ⟨none, 0, 0, rfl, Nat.zero_le _, fun i hi => absurd hi (Nat.not_lt_zero i)⟩
 ·refine ⟨some a, len, cap, rfl, Nat.le_trans hl hcm, fun i hil => ?_⟩
  have hlm : len ≤ m := by rw [hm]; split <;> omega
  obtain ⟨b, o, s⟩ := a
  obtain ⟨cz, hcz, _⟩ := hi 0 (by omega)
  rw [hc] at hcz
  obtain ⟨_, hlz, hatz⟩ := World.cells?_some hcz
  have ez := hatz 0 h0
  rw [List.getElem?_eq_getElem (by omega)] at ez
  have sp := World.cell?_spot ez
  simp [Addr.add] at sp
  subst sp
  obtain ⟨cs', hcell, htr⟩ := hi i (by omega)
  rw [hc] at hcell
  obtain ⟨_, hcl, hat⟩ := World.cells?_some hcell
  refine ⟨b, o, cs', rfl, rd htr, fun j hj => ?_⟩
  have := hat j hj
  rwa [Addr.add_lit, Addr.add_lit] at this
/-- A struct of three int64. -/
theorem rd_three {ti t : TypeId} {f0 f1 f2 : Field} {n : Nat} {cs : List Value} {x : DataW H × List MemPlace} (hi : P.underlying ti = some (.int .i64)) (ht : P.underlying t = some (.struct #[f0, f1, f2])) (hc : P.cellsOf t = 3) (hci : P.cellsOf ti = 1)
 (h0 : f0.type = ti ∧ f0.offset = 0) (h1 : f1.type = ti ∧ f1.offset = 1) (h2 : f2.type = ti ∧ f2.offset = 2) (h : DataW.trod enc P w base spare held n t cs = some x) : ∃ a b c : Int, cs = [.int .i64 a, .int .i64 b, .int .i64 c] := by
 obtain ⟨xs, m, _, _, hl, hxl, hf⟩ := DataW.trod_struct ht h
 rw [hc] at hl
 match cs, hl with
 | [c0, c1, c2], _ =>
  have g0 := hf 0 f0 rfl
  have g1 := hf 1 f1 rfl
  have g2 := hf 2 f2 rfl
  rw [h0.1, h0.2, hci, List.getElem?_eq_getElem (by simp [hxl])] at g0
  rw [h1.1, h1.2, hci, List.getElem?_eq_getElem (by simp [hxl])] at g1
  rw [h2.1, h2.2, hci, List.getElem?_eq_getElem (by simp [hxl])] at g2
  obtain ⟨a, e0, _⟩ := rd_int hi g0
  obtain ⟨b, e1, _⟩ := rd_int hi g1
  obtain ⟨c, e2, _⟩ := rd_int hi g2
  simp at e0 e1 e2
  exact ⟨a, b, c, by simp [e0, e1, e2]⟩
theorem row2_of {so : Option Addr} {len : Nat} (h : ∀ i, i < len → ∃ b o cs', so = some ⟨b, o, none⟩ ∧ (∃ x y : Int, cs' = [.int .i64 x, .int .i64 y]) ∧ ∀ j, j < 2 → w.cell? ⟨b, o + i * 2 + j, none⟩ = cs'[j]?) :
 ∃ X Y : Nat → Int, RowAt w so len 2 (v2 X Y) := by
 have h' : ∀ i : Nat, ∃ q : Int × Int, i < len → ∃ b o, so = some ⟨b, o, none⟩ ∧ ∀ j, j < 2 → w.cell? ⟨b, o + i * 2 + j, none⟩ = [Value.int .i64 q.1, .int .i64 q.2][j]? := fun i => by
  by_cases hi : i < len
  ·obtain ⟨b, o, _, e, ⟨x, y, rfl⟩, k⟩ := h i hi
   exact ⟨(x, y), fun _ => ⟨b, o, e, k⟩⟩
  ·exact ⟨(0, 0), fun k => absurd k hi⟩
 obtain ⟨q, hq⟩ := Classical.axiomOfChoice h'
 refine ⟨fun i => (q i).1, fun i => (q i).2, fun i hi => ?_⟩
 obtain ⟨b, o, e, k⟩ := hq i hi
 refine ⟨b, o, e, fun j hj => (k j hj).trans ?_⟩
 rcases (by omega : j = 0 ∨ j = 1) with rfl | rfl <;> simp [v2]
theorem row3_of {so : Option Addr} {len : Nat} (h : ∀ i, i < len → ∃ b o cs', so = some ⟨b, o, none⟩ ∧ (∃ x y z : Int, cs' = [.int .i64 x, .int .i64 y, .int .i64 z]) ∧ ∀ j, j < 3 → w.cell? ⟨b, o + i * 3 + j, none⟩ = cs'[j]?) :
 ∃ T X Y : Nat → Int, RowAt w so len 3 (v3 T X Y) := by
 have h' : ∀ i : Nat, ∃ q : Int × Int × Int, i < len → ∃ b o, so = some ⟨b, o, none⟩ ∧ ∀ j, j < 3 → w.cell? ⟨b, o + i * 3 + j, none⟩ = [Value.int .i64 q.1, .int .i64 q.2.1, .int .i64 q.2.2][j]? := fun i => by
  by_cases hi : i < len
  ·obtain ⟨b, o, _, e, ⟨x, y, z, rfl⟩, k⟩ := h i hi
   exact ⟨(x, y, z), fun _ => ⟨b, o, e, k⟩⟩
  ·exact ⟨(0, 0, 0), fun k => absurd k hi⟩
 obtain ⟨q, hq⟩ := Classical.axiomOfChoice h'
 refine ⟨fun i => (q i).1, fun i => (q i).2.1, fun i => (q i).2.2, fun i hi => ?_⟩
 obtain ⟨b, o, e, k⟩ := hq i hi
 refine ⟨b, o, e, fun j hj => (k j hj).trans ?_⟩
 rcases (by omega : j = 0 ∨ j = 1 ∨ j = 2) with rfl | rfl | rfl <;> simp [v3]
end
end Go.Proofs.YtgcdgdnmcdffoaaGreatDoor
/- How a course that came in reads. -/
namespace Go.Proofs.YtgcdgdnmcdffoaaGreatDoor
open Go.ChangeShapes Go.WideShapes Go.ChangeAt Go.RowKit Go.Deep
end Go.Proofs.YtgcdgdnmcdffoaaGreatDoor
/- How a slice of bytes that came in reads. -/
namespace Go.Proofs.YtgcdgdnmcdffoaaGreatDoor
open Go.ChangeShapes Go.WideShapes Go.ChangeAt Go.RowKit Go.Deep

theorem row1_of {w : World} {so : Option Addr} {len : Nat} (h : ∀ i, i < len → ∃ b o cs', so = some ⟨b, o, none⟩ ∧ (∃ x : Int, cs' = [.int .u8 x] ∧ 0 ≤ x ∧ x ≤ 255) ∧ ∀ j, j < 1 → w.cell? ⟨b, o + i * 1 + j, none⟩ = cs'[j]?) :
 ∃ B : Nat → Int, RowAt w so len 1 (vb B) ∧ ∀ i, 0 ≤ B i ∧ B i ≤ 255 := by
 have h' : ∀ i : Nat, ∃ q : Int, (0 ≤ q ∧ q ≤ 255) ∧ (i < len → ∃ b o, so = some ⟨b, o, none⟩ ∧ ∀ j, j < 1 → w.cell? ⟨b, o + i * 1 + j, none⟩ = [Value.int .u8 q][j]?) := fun i => by
  by_cases hi : i < len
  ·obtain ⟨b, o, _, e, ⟨x, rfl, hx⟩, k⟩ := h i hi
   exact ⟨x, hx, fun _ => ⟨b, o, e, k⟩⟩
  ·exact ⟨0, by decide, fun k => absurd k hi⟩
 obtain ⟨q, hq⟩ := Classical.axiomOfChoice h'
 refine ⟨q, fun i hi => ?_, fun i => (hq i).1⟩
 obtain ⟨b, o, e, k⟩ := (hq i).2 hi
 refine ⟨b, o, e, fun j hj => (k j hj).trans ?_⟩
 obtain rfl : j = 0 := by omega
 rfl
theorem Tryz.cByte : Tryz.prog.cellsOf 5 = 1 := by kernel_rfl
set_option maxRecDepth 100000 in
theorem op_bytes {H : Type} {enc : TypeId × Value → H} {w : World} {base : Nat} {spare : Nat → Bool} {held : Bool} {r : Reach} {b0 : Nat} {v : Value} {d : DataW H} {p : List MemPlace}
 (hv : Value.okWide Tryz.prog w r b0 22 v) (h : DataW.Trod enc Tryz.prog w base spare held 22 v d p) :
 ∃ so n cap B, v = .slice so n cap ∧ n ≤ maxLen ∧ RowAt w so n 1 (vb B) ∧ ∀ i, 0 ≤ B i ∧ B i ≤ 255 := by
 obtain ⟨a, len, cap, rfl⟩ := okWide_slice Tryz.underlying22 hv
 obtain ⟨n, h⟩ := h
 obtain ⟨so, ln, cp, e, hl, hr⟩ := open_row (Q := fun cs => ∃ x : Int, cs = [.int .u8 x] ∧ 0 ≤ x ∧ x ≤ 255) Tryz.underlying22 Tryz.cByte (by decide) (fun k => by
  obtain ⟨x, e, _, hw⟩ := DataW.trod_int Tryz.underlying5 k
  refine ⟨x, e, ?_⟩
  simp only [Lit.wf, Bool.and_eq_true, IntKind.min, IntKind.max, IntKind.signed, IntKind.bits] at hw
  simp at hw
  omega) h
 simp [Value.cells] at e
 obtain ⟨rfl, rfl, rfl⟩ := e
 obtain ⟨B, R, hB⟩ := row1_of hr
 exact ⟨_, _, _, B, rfl, hl, R, hB⟩
end Go.Proofs.YtgcdgdnmcdffoaaGreatDoor
