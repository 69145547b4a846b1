/- Walks: slices.Compact at a row of points of the caller's own: is the result as long? -/
import Derived.Test.YthlnpcneicmblaaGreatDoorCw
import Derived.Laws.StructEq
import Derived.Laws.IdiomCopy
import Derived.Deep.LoopGhost
import Derived.Test.YthlnpcneicmblaaGreatDoorIv
namespace Go.Proofs.YthlnpcneicmblaaGreatDoor
open Go.RowKit

theorem below_setCells {B b : Nat} {w : World} (hb : B ≤ b) : ∀ (vs : List Value) (o : Nat) (W : World), Below B w W → Below B w (W.setCells b o vs)
 | [], _, _, h => h
 | v :: vs, o, W, h => below_setCells hb vs (o + 1) _ (Below.setCell h (by simpa using hb) v)
/-- n points in block g: integers, not frozen. -/
def PtRow (W : World) (g m : Nat) : Prop := ∀ j, j < m → (∃ x : Int, W.cell? ⟨g, j, none⟩ = some (.int .i64 x)) ∧ W.frozen? ⟨g, j, none⟩ = false
theorem PtRow.drewN {W : World} {g m : Nat} (h : PtRow W g m) (q : Nat) : PtRow (W.drewN q) g m := fun j hj => by
 obtain ⟨⟨x, h1⟩, h2⟩ := h j hj
 exact ⟨⟨x, by simpa using h1⟩, by simpa using h2⟩
theorem PtRow.later {W W' : World} {g m : Nat} (h : PtRow W g m) (hb : Below W.heap.size W W') : PtRow W' g m := fun j hj => by
 obtain ⟨⟨x, h1⟩, h2⟩ := h j hj
 exact ⟨⟨x, cell_later hb h1⟩, frozen_later hb h1 h2⟩
theorem PtRow.set {W : World} {g m o : Nat} {x : Int} (h : PtRow W g m) : PtRow (W.setCell ⟨g, o, none⟩ (.int .i64 x)) g m := fun j hj => by
 obtain ⟨⟨y, h1⟩, h2⟩ := h j hj
 refine ⟨?_, by simpa using h2⟩
 by_cases e : o = j
 ·subst e; exact ⟨x, cell_same h1⟩
 ·exact ⟨y, cell_off h1 (.inr e)⟩
theorem ptRow_own {W : World} {B : Nat} {L : List (Int × Int)} {so : Option Addr} (h : OwnL W B L so) (h0 : 0 < L.length) : ∃ g, so = some ⟨g, 0, none⟩ ∧ B ≤ g ∧ g < W.heap.size ∧ PtRow W g (L.length * 2) ∧ RowAt W (some ⟨g, 0, none⟩) L.length 2 (v2 (LX L) (LY L)) := by
 obtain ⟨hr, ⟨_, h1⟩ | ⟨g, rfl, h2, h3, h4⟩⟩ := h
 ·omega
 ·refine ⟨g, rfl, h2, h3, fun j hj => ⟨?_, (h4 j hj).2⟩, hr⟩
  have := row_own hr (i := j / 2) (j := j % 2) (by omega) (by omega)
  rw [show j / 2 * 2 + j % 2 = j by omega] at this
  rcases (by omega : j % 2 = 0 ∨ j % 2 = 1) with e | e <;> rw [e] at this
  ·exact ⟨_, by simpa [v2] using this⟩
  ·exact ⟨_, by simpa [v2] using this⟩
section
variable {P : Program} {t e : TypeId} {w : World}
theorem run_clear2 (ty : TypeId) (ht : P.underlying t = some (.slice e)) (hv : ∀ w, (zeroValue e).run P w = .ok (.agg #[.int .i64 0, .int .i64 0]) w) (g o n c : Nat) (hn : 0 < n) (h : ∀ j, j < n * 2 → (∃ x : Int, w.cell? ⟨g, o + j, none⟩ = some (.int .i64 x)) ∧ w.frozen? ⟨g, o + j, none⟩ = false) :
 (Builtin.clear_ #[t] ty #[.slice (some ⟨g, o, none⟩) n c]).run P w = .ok (.tuple #[]) (w.setCells g o (List.replicate (n * 2) (.int .i64 0))) := by
 have hzc : (Builtin.zeroCells (Value.agg #[.int .i64 0, .int .i64 0]).cells n).toList = List.replicate (n * 2) (.int .i64 0) := by
  simp only [Builtin.zeroCells, Value.cells]
  apply List.ext_getElem
  ·simp
  ·intro i h1 h2
   have hi : i % 2 = 0 ∨ i % 2 = 1 := by omega
   rcases hi with hi | hi <;> simp [hi]
 have hst := run_storeCells_cells (P := P) g o (List.replicate (n * 2) (.int .i64 0)) 0 w (fun j hj => by
  obtain ⟨⟨x, h1⟩, _⟩ := h j (by simpa using hj)
  rw [Nat.add_zero, h1]; rfl) (fun j hj => by rw [Nat.add_zero]; exact (h j (by simpa using hj)).2) (by intro v hv'; rw [List.eq_of_mem_replicate hv']; rfl)
 simp only [Nat.add_zero] at hst
 obtain ⟨m, rfl⟩ : ∃ m, n = m + 1 := ⟨n - 1, by omega⟩
 simp [Builtin.clear_, run_underlying ht, hv, hzc, hst]
end
theorem cmp_pt (a b c d : Int) (W : World) : (binOp .eql 26 (.agg #[.int .i64 a, .int .i64 b]) (.agg #[.int .i64 c, .int .i64 d])).run Tryz.prog W = .ok (.bool (a == c && b == d)) W := by
 rcases b2 (a == c) with h1 | h1 <;> rcases b2 (b == d) with h2 | h2 <;> simp [run_eql_struct, run_equalIn_agg, go_sem, *]
theorem cmp_ptn (a b c d : Int) (W : World) : (binOp .neq 26 (.agg #[.int .i64 a, .int .i64 b]) (.agg #[.int .i64 c, .int .i64 d])).run Tryz.prog W = .ok (.bool (!(a == c && b == d))) W := by
 rcases b2 (a == c) with h1 | h1 <;> rcases b2 (b == d) with h2 | h2 <;> simp [run_neq_struct, run_equalIn_agg, go_sem, *]
/-- The result is as long as the row just where no two behind one another are alike. -/
def CmpQ (L : List (Int × Int)) (r : Nat) : Prop := r = L.length ↔ apart (LX L) (LY L) (L.length - 1) = true
set_option maxRecDepth 100000 in
set_option maxHeartbeats 4000000 in
theorem slices_Compact (so : Option Addr) (cap B : Nat) (L : List (Int × Int)) (w : World) (h : OwnL w B L so) (h2 : 2 ≤ L.length) (hn : L.length ≤ 100) (hcp : L.length ≤ cap) :
 Calls Tryz.prog 83 #[.slice so L.length cap] w fun e w' => ∃ so' r cp, e = .returned (.slice so' r cp) ∧ CmpQ L r ∧ Below B w w' := by
 obtain ⟨g, rfl, hB, hg, hp, hr⟩ := ptRow_own h (by omega)
 obtain ⟨m, hm⟩ : ∃ m, m = L.length := ⟨_, rfl⟩
 rw [← hm] at h2 hn hp hr hcp
 have HP := hide hp
 have HR := hide hr
 clear h hp hr
 have HQ := hide (show (∀ r, r < m → apart (LX L) (LY L) (m - 1) = false → CmpQ L r) ∧ (apart (LX L) (LY L) (m - 1) = true → CmpQ L m) from ⟨fun r hr ha => by
  unfold CmpQ
  rw [← hm, ha]
  exact ⟨fun k => by omega, fun k => by cases k⟩, fun ha => by
  unfold CmpQ
  rw [← hm, ha]
  exact ⟨fun _ => rfl, fun _ => rfl⟩⟩)
 rw [← hm]
 have Hm := hide hm
 clear hm
 have h2' : ¬ ((m : Int) < 2) := by omega
 have hcmp := cmp_pt
 have hcmpn := cmp_ptn
 go_enter Tryz.func83, Tryz.ntmps83
 go_wp2
 go_loopw [3] (fun i wr => ∃ k : Nat, 1 ≤ k ∧ k ≤ m ∧ i = .int .i64 k ∧ Hid (apart (LX L) (LY L) (k - 1) = true) ∧ Below w.heap.size w wr) (fun i _ => m - (intOf i).toNat)
 case atStart => exact ⟨1, Nat.le_refl _, by omega, rfl, hide rfl, bwz⟩
 case round =>
  obtain ⟨k, hk1, hk, rfl, HA, hbl⟩ := hrel
  have zr := hbl.size
  have zg : g < wr.heap.size := by omega
  by_cases hlt : k < m
  ·have hi0 : (0 : Int) ≤ (k : Int) := by omega
   have hi1 : (k : Int) < (m : Int) := by omega
   have hi2 : (0 : Int) ≤ ((k - 1 : Nat) : Int) := by omega
   have hi3 : ((k - 1 : Nat) : Int) < (m : Int) := by omega
   have HWr := hide (show IntKind.i64.wrap ((k : Int) - 1) = ((k - 1 : Nat) : Int) by rw [show (k : Int) - 1 = ((k - 1 : Nat) : Int) by omega]; exact IntWalk.i64_in _ (by omega))
   obtain ⟨c0, c1⟩ := (RowAt.later hbl HR.out).on2 k hlt
   obtain ⟨d0, d1⟩ := (RowAt.later hbl HR.out).on2 (k - 1) (by omega)
   simp only [Nat.zero_add] at c0 c1 d0 d1
   have Hbl := hide hbl
   obtain ⟨x, hx⟩ : ∃ x, x = LX L k := ⟨_, rfl⟩
   obtain ⟨y, hy⟩ : ∃ y, y = LY L k := ⟨_, rfl⟩
   obtain ⟨u, hu⟩ : ∃ u, u = LX L (k - 1) := ⟨_, rfl⟩
   obtain ⟨v, hv⟩ : ∃ v, v = LY L (k - 1) := ⟨_, rfl⟩
   rw [← hx] at c0
   rw [← hy] at c1
   rw [← hu] at d0
   rw [← hv] at d1
   have HS := hide (show (LX L (k - 1) == LX L (k - 1 + 1) && LY L (k - 1) == LY L (k - 1 + 1)) = (x == u && y == v) by
    rw [show k - 1 + 1 = k by omega, hx, hy, hu, hv, Bool.eq_iff_iff]
    simp only [Bool.and_eq_true, beq_iff_eq]
    constructor <;> (rintro ⟨p, q⟩; exact ⟨p.symm, q.symm⟩))
   clear hx hy hu hv hbl
   obtain ⟨b, hb⟩ : ∃ b, b = (x == u && y == v) := ⟨_, rfl⟩
   have hb' : (x == u && y == v) = b := hb.symm
   rw [← hb] at HS
   clear hb
   go_upto_region 6 with fail
   have hwr := HWr.out
   refine wp_region_held_drew (S := fun W => Below wr.heap.size wr W) (by kernel_rfl) (Below.drew (Below.refl _ _)) (fun hHeld => ?_)
   refine tkN 0 (some 16) rfl ?_; simp only [pz]
   refine tkN 1 (some 17) rfl ?_; simp only [pz]
   refine tkN 2 (some 18) rfl ?_; simp only [pz]
   refine tkL 3 (some 19) rfl ?_; simp only [pz]
   refine tkN 4 (some 20) rfl ?_; simp only [pz]
   refine tkN 5 (some 21) rfl ?_; simp only [pz]
   refine tkN 6 (some 22) rfl ?_; simp only [pz]
   refine tkN 7 (some 23) rfl ?_; simp only [pz]
   refine tkL 8 (some 24) rfl ?_; simp only [pz]
   refine tkN 9 (some 25) rfl ?_; simp only [pz]
   refine wpAnyH_done (by kernel_rfl) ?_ _; (try simp only [pz])
   clear hwr
   obtain ⟨wP, hwP⟩ : ∃ x : World, x = wr.drew := ⟨_, rfl⟩
   rw [← hwP] at hHeld ⊢
   have HBP := hide (bstep Hbl.out hHeld)
   have zgP : g < wP.heap.size := by have := hHeld.size; omega
   clear hwP hHeld c0 c1 d0 d1 hb'
   cases b
   ·have Hn := hide (show apart (LX L) (LY L) (k + 1 - 1) = true by
     rw [Nat.add_sub_cancel]
     have := apart_s HA.out HS.out
     rwa [show k - 1 + 1 = k by omega] at this)
    go_wp2
    go_roundw
    case rel => exact ⟨k + 1, by omega, by omega, by go_num, Hn, HBP.out⟩
    case measure => simp [intOf]; omega
   ·have Hf := hide (apart_f (n := m - 1) (i := k - 1) (by omega) HS.out)
    have HPP := hide (HP.out.later HBP.out)
    have hk' : (k : Int) ≤ (m : Int) := by omega
    have hc' : (m : Int) ≤ (cap : Int) := by omega
    go_wp2
    go_loopw [3, 5] (fun i3 i5 wr => ∃ kk k2 : Nat, k ≤ kk ∧ kk + 1 ≤ k + k2 ∧ 1 ≤ k2 ∧ k + k2 ≤ m ∧ i3 = .int .i64 kk ∧ i5 = .int .i64 k2 ∧ Hid (PtRow wr g (m * 2)) ∧ Below B w wr ∧ g < wr.heap.size) (fun _ i _ => m - (intOf i).toNat)
    case atStart => exact ⟨k, 1, Nat.le_refl _, Nat.le_refl _, Nat.le_refl _, by omega, rfl, rfl, HPP, HBP.out.mono (by omega), zgP⟩
    case round =>
     obtain ⟨kk, k2, q1, q2, q3, q4, rfl, rfl, HP2, hbl, zg2⟩ := hrel
     by_cases hlt2 : k + k2 < m
     ·have hj0 : (0 : Int) ≤ (k2 : Int) := by omega
      have hj1 : (k2 : Int) < ((m - k : Nat) : Int) := by omega
      have hj2 : (0 : Int) ≤ ((k2 - 1 : Nat) : Int) := by omega
      have hj3 : ((k2 - 1 : Nat) : Int) < ((m - k : Nat) : Int) := by omega
      have hj4 : (0 : Int) ≤ (kk : Int) := by omega
      have hj5 : (kk : Int) < (m : Int) := by omega
      have HWr2 := hide (show IntKind.i64.wrap ((k2 : Int) - 1) = ((k2 - 1 : Nat) : Int) by rw [show (k2 : Int) - 1 = ((k2 - 1 : Nat) : Int) by omega]; exact IntWalk.i64_in _ (by omega))
      obtain ⟨⟨x0, a0⟩, _⟩ := HP2.out (k * 2 + k2 * 2) (by omega)
      obtain ⟨⟨x1, a1⟩, _⟩ := HP2.out (k * 2 + k2 * 2 + 1) (by omega)
      obtain ⟨⟨y0, b0⟩, _⟩ := HP2.out (k * 2 + (k2 - 1) * 2) (by omega)
      obtain ⟨⟨y1, b1⟩, _⟩ := HP2.out (k * 2 + (k2 - 1) * 2 + 1) (by omega)
      obtain ⟨b, hb⟩ : ∃ b, b = (x0 == y0 && x1 == y1) := ⟨_, rfl⟩
      have hb' : (x0 == y0 && x1 == y1) = b := hb.symm
      clear hb
      have Hbl := hide hbl
      have szr : w.heap.size ≤ wr.heap.size ∨ True := .inr trivial
      go_upto_region 11 with fail
      have hwr := HWr2.out
      refine wp_region_held_drew (S := fun W => Below wr.heap.size wr W) (by kernel_rfl) (Below.drew (Below.refl _ _)) (fun hHeld => ?_)
      refine tkN 0 (some 35) rfl ?_; simp only [pz]
      refine tkN 1 (some 36) rfl ?_; simp only [pz]
      refine tkN 2 (some 37) rfl ?_; simp only [pz]
      refine tkL 3 (some 38) rfl ?_; simp only [pz]
      refine tkN 4 (some 39) rfl ?_; simp only [pz]
      refine tkN 5 (some 40) rfl ?_; simp only [pz]
      refine tkN 6 (some 41) rfl ?_; simp only [pz]
      refine tkN 7 (some 42) rfl ?_; simp only [pz]
      refine tkL 8 (some 43) rfl ?_; simp only [pz]
      refine tkN 9 (some 44) rfl ?_; simp only [pz]
      refine wpAnyH_done (by kernel_rfl) ?_ _; (try simp only [pz])
      clear hwr
      obtain ⟨wQ, hwQ⟩ : ∃ x : World, x = wr.drew := ⟨_, rfl⟩
      rw [← hwQ] at hHeld ⊢
      have HPQ := hide (HP2.out.later hHeld)
      have HBQ := hide (show Below B w wQ by rw [hwQ]; exact Below.drew Hbl.out)
      have zgQ : g < wQ.heap.size := by have := hHeld.size; omega
      have u0 := cell_later hHeld a0
      have u1 := cell_later hHeld a1
      clear hwQ hHeld a0 a1 b0 b1 hb'
      cases b
      ·obtain ⟨⟨o0, r0⟩, f0⟩ := HPQ.out (kk * 2) (by omega)
       obtain ⟨⟨o1, r1⟩, f1⟩ := HPQ.out (kk * 2 + 1) (by omega)
       go_wp2
       go_roundw
       case rel => exact ⟨kk + 1, k2 + 1, by omega, by omega, by omega, by omega, by go_num, by go_num, hide (PtRow.set (PtRow.set HPQ.out)), Below.setCell (Below.setCell HBQ.out (by dsimp only; omega) _) (by dsimp only; omega) _, by simpa using zgQ⟩
       case measure => simp [intOf]; omega
      ·go_wp2
       go_roundw
       case rel => exact ⟨kk, k2 + 1, by omega, by omega, by omega, by omega, rfl, by go_num, HPQ, HBQ.out, zgQ⟩
       case measure => simp [intOf]; omega
     ·have hj1 : ¬ (k2 : Int) < ((m - k : Nat) : Int) := by omega
      have hj6 : (0 : Int) ≤ (kk : Int) := by omega
      have hj7 : (kk : Int) ≤ (m : Int) := by omega
      have hj8 : (kk : Int) ≤ (cap : Int) := by omega
      have hcl := fun ty => run_clear2 (P := Tryz.prog) (t := 72) (e := 26) (w := wr) ty Tryz.underlying72 Tryz.zeroValue26 g (kk * 2) (m - kk) (cap - kk) (by omega) (fun j hj => HP2.out (kk * 2 + j) (by omega))
      have hq := hide (HQ.out.1 kk (by omega) Hf.out)
      go_wp2
      go_ret
      refine ⟨_, kk, ⟨_, rfl⟩, ?_, ?_⟩
      ·exact hq.out
      ·exact below_setCells hB _ _ _ hbl
  ·obtain rfl : k = m := by omega
   have hq := HQ.out.2 HA.out
   go_wp2
   go_ret
   exact ⟨_, _, _, rfl, hq, hbl.mono (by omega)⟩
end Go.Proofs.YthlnpcneicmblaaGreatDoor
