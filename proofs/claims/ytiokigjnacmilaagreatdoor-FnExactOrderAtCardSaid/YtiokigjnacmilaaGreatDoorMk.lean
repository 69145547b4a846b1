/- Walks: marks on tracks and on lists of manoeuvres; these lists compared. -/
import Derived.Test.YtiokigjnacmilaaGreatDoorMp
import Derived.Test.YtiokigjnacmilaaGreatDoorBs
import Derived.Test.YtiokigjnacmilaaGreatDoorA
import Derived.Maps.AppendAt
import Derived.Deep.DeepCutAuto
import Derived.Test.YtiokigjnacmilaaGreatDoorCo
import Derived.Laws.IdiomStrings
import Derived.Test.YtiokigjnacmilaaGreatDoorKp
namespace Go.Proofs.YtiokigjnacmilaaGreatDoor
open Go.RowKit

theorem grown_set {w W : World} {g j : Nat} {x : Value} (h : w.grownBy W (some g)) : w.grownBy (W.setCell ⟨g, j, none⟩ x) (some g) :=
  h.trans ⟨rfl, rfl, rfl, by simp [World.setCell], fun k _ hk => Below.heap_setCell _ _ _ k (fun e => hk (by rw [e]))⟩
theorem grown_row {w W : World} {g n c : Nat} {V : Nat → Nat → Value} {so : Option Addr} (hg : w.grownBy W (some g)) (h : ∀ b o, so = some ⟨b, o, none⟩ → b ≠ g) (r : RowAt w so n c V) : RowAt W so n c V := fun i hi => by
  obtain ⟨b, o, e, k⟩ := r i hi
  exact ⟨b, o, e, fun j hj => hg.cell (k j hj) (by simpa using h b o e)⟩
set_option maxHeartbeats 1000000 in
theorem laws_markFixS (g n cap : Nat) (w : World) (hm : Mine w g (n * 3)) (hn : n ≤ 1048576) :
    Calls Tryz.prog 37 #[.slice (some ⟨g, 0, none⟩) n cap, .int .i64 1] w fun e w' => e = .returned (.int .i64 (1 + 3 * (n : Int))) ∧ w.grownBy w' (some g) := by
  go_enter Tryz.func37, Tryz.ntmps37
  go_wp2
  go_loopw [1, 5] (fun kk i wr => ∃ k : Nat, k ≤ n ∧ i = .int .i64 k ∧ kk = .int .i64 (1 + 3 * (k : Int)) ∧ Mine wr g (n * 3) ∧ w.grownBy wr (some g)) (fun _ i _ => n - (intOf i).toNat)
  case atStart => exact ⟨0, Nat.zero_le _, rfl, rfl, hm, World.grownBy.refl _ _⟩
  case round =>
    obtain ⟨k, hk, rfl, rfl, hmine, hgr⟩ := hrel
    by_cases hlt : k < n
    · obtain ⟨x0, m0, f0⟩ := hmine.cells (k * 3) (by omega)
      obtain ⟨x1, m1, f1⟩ := hmine.cells (k * 3 + 1) (by omega)
      obtain ⟨x2, m2, f2⟩ := hmine.cells (k * 3 + 2) (by omega)
      have Hmine := hide hmine
      clear hmine
      go_wp2
      go_roundw
      case rel => exact ⟨k + 1, by omega, by go_num, by go_num, Hmine.out.set.set.set, grown_set (grown_set (grown_set hgr))⟩
      case measure => simp [intOf]; omega
    · obtain rfl : k = n := by omega
      go_wp2
      go_ret
      exact ⟨rfl, hgr⟩
end Go.Proofs.YtiokigjnacmilaaGreatDoor
/- Walks: marks on courses and, from any number on, on tracks. -/
namespace Go.Proofs.YtiokigjnacmilaaGreatDoor
open Go.RowKit
theorem gr_below {w W : World} {g : Nat} (hb : Below w.heap.size w W) : w.grownBy W (some g) := ⟨hb.os, hb.tape, hb.output, hb.size, fun k hk _ => hb.block k hk⟩
set_option maxRecDepth 100000 in
set_option maxHeartbeats 2000000 in
theorem laws_markText (k : Int) (w : World) (h0 : 0 ≤ k) (h1 : k ≤ 4000000000000000000) :
    Calls Tryz.prog 66 #[.int .i64 k] w fun e w' => ∃ s : ByteArray, e = .returned (.string s) ∧ Below w.heap.size w w' := by
  by_cases hk : k ≤ 0
  · go_enter Tryz.func66, Tryz.ntmps66
    go_wp2
    go_ret
    exact ⟨_, rfl, bwz⟩
  · go_enter Tryz.func66, Tryz.ntmps66
    go_wp2
    go_loopw [0, 3] (fun a s wr => ∃ (x : Int) (t : ByteArray), 0 ≤ x ∧ x ≤ 4000000000000000000 ∧ a = .int .i64 x ∧ s = .string t ∧ (t.size : Int) + x ≤ 4000000000000000000 ∧ Below w.heap.size w wr) (fun a _ _ => (intOf a).toNat)
    case atStart => exact ⟨k, ⟨#[]⟩, h0, h1, rfl, rfl, by show ((0 : Nat) : Int) + k ≤ _; omega, Below.refl _ _⟩
    case round =>
      obtain ⟨x, t, hx0, hx1, rfl, rfl, hts, hbl⟩ := hrel
      have hsz := hbl.size
      have hts2 : (t.size : Int) ≤ 4000000000000000000 := by omega
      by_cases hx : 0 < x
      · have r0 : 0 ≤ x % 10 := by omega
        have r1 : x % 10 < 10 := by omega
        have hcv : ∀ (W : World) (b cap : Nat), W.cell? ⟨b, 0, none⟩ = some (.int .u8 (48 + x % 10)) → (convert 132 9 (.slice (some ⟨b, 0, none⟩) 1 cap)).run Tryz.prog W = .ok (.string ⟨#[UInt8.ofNat (48 + x % 10).toNat]⟩) W := fun W b cap hc =>
          run_convert_bytes_back W 132 9 5 ⟨b, 0, none⟩ cap [UInt8.ofNat (48 + x % 10).toNat] Tryz.underlying132 Tryz.underlying5 Tryz.underlying9 (fun j hj => by
            obtain rfl : j = 0 := by simpa using hj
            have e : (((UInt8.ofNat (48 + x % 10).toNat).toNat : Nat) : Int) = 48 + x % 10 := by rw [UInt8.toNat_ofNat', Nat.mod_eq_of_lt (by show _ < 256; omega)]; omega
            show W.cell? ((⟨b, 0, none⟩ : Addr).add 0) = some (.int .u8 (((UInt8.ofNat (48 + x % 10).toNat).toNat : Nat) : Int))
            rw [e]; exact hc)
        have f1 : IntKind.u8.wrap (48 + x % 10) = 48 + x % 10 := by rw [IntKind.wrap_u8]; omega
        go_wp2
        go_roundw
        case rel => exact ⟨x / 10, _, by omega, by omega, rfl, rfl, by rw [ByteArray.size_append]; show (((1 : Nat) + t.size : Nat) : Int) + x / 10 ≤ _; omega, Below.alloc hbl hsz _⟩
        case measure => simp [intOf]; omega
      · go_wp2
        go_ret
        first | exact ⟨_, rfl, hbl⟩ | exact ⟨⟨_, rfl⟩, hbl⟩
set_option maxRecDepth 100000 in
set_option maxHeartbeats 2000000 in
theorem laws_markMarkS (g n cap : Nat) (w : World) (hm : Mine w g (n * 5)) (hgl : g < w.heap.size) (hn : n ≤ 1048576) :
    Calls Tryz.prog 36 #[.slice (some ⟨g, 0, none⟩) n cap, .int .i64 1] w fun e w' => e = .returned (.int .i64 (1 + 5 * (n : Int))) ∧ w.grownBy w' (some g) := by
  go_enter Tryz.func36, Tryz.ntmps36
  go_wp2
  go_loopw [1, 5] (fun kk i wr => ∃ k : Nat, k ≤ n ∧ i = .int .i64 k ∧ kk = .int .i64 (1 + 5 * (k : Int)) ∧ Mine wr g (n * 5) ∧ w.grownBy wr (some g)) (fun _ i _ => n - (intOf i).toNat)
  case atStart => exact ⟨0, Nat.zero_le _, rfl, rfl, hm, World.grownBy.refl _ _⟩
  case round =>
    obtain ⟨k, hk, rfl, rfl, hmine, hgr⟩ := hrel
    have hgw : g < wr.heap.size := Nat.lt_of_lt_of_le hgl hgr.size
    by_cases hlt : k < n
    · have hi1 : (0 : Int) ≤ (k : Int) := by omega
      have hi2 : (k : Int) < (n : Int) := by omega
      have Hmine := hide hmine
      have Hgr := hide hgr
      clear hmine hgr hm
      go_wp2_with (go_at_call 66; (with_reducible refine (laws_markText (1 + 5 * (k : Int)) _ (by omega) (by omega)).mono ?_); rintro e wT ⟨s9, rfl, hb⟩; have HmT := hide (Mine.later hb Hmine.out); have HgT := hide (Hgr.out.trans (gr_below hb)); obtain ⟨x0, m0, f0⟩ := HmT.out.cells (k * 5) (by omega); obtain ⟨x1, m1, f1⟩ := HmT.out.cells (k * 5 + 1) (by omega); obtain ⟨x2, m2, f2⟩ := HmT.out.cells (k * 5 + 2) (by omega); obtain ⟨x3, m3, f3⟩ := HmT.out.cells (k * 5 + 3) (by omega); obtain ⟨x4, m4, f4⟩ := HmT.out.cells (k * 5 + 4) (by omega); clear hb)
      go_roundw
      case rel => exact ⟨k + 1, by omega, by go_num, by go_num, HmT.out.set.set.set.set.set, grown_set (grown_set (grown_set (grown_set (grown_set HgT.out))))⟩
      case measure => simp [intOf]; omega
    · obtain rfl : k = n := by omega
      go_wp2
      go_ret
      exact ⟨rfl, hgr⟩
theorem laws_markCourse (ax ay bx bY cx cy dx dy : Int) (g n cap : Nat) (w : World) (hm : Mine w g (n * 5)) (hgl : g < w.heap.size) (hn : n ≤ 1048576) :
    Calls Tryz.prog 13 #[.agg #[.int .i64 ax, .int .i64 ay, .int .i64 bx, .int .i64 bY, .int .i64 cx, .int .i64 cy, .int .i64 dx, .int .i64 dy, .slice (some ⟨g, 0, none⟩) n cap], .int .i64 1] w fun e w' => e = .returned (.int .i64 (1 + 5 * (n : Int))) ∧ w.grownBy w' (some g) := by
  go_enter Tryz.func13, Tryz.ntmps13
  go_wp2_with (go_at_call 36; (with_reducible refine (laws_markMarkS _ _ _ _ (Mine.later bwz hm) (by simp; omega) hn).mono ?_); rintro e w9 ⟨rfl, hgr⟩)
  go_ret
  exact ⟨rfl, (World.grownBy_alloc _ _ _).trans hgr⟩
end Go.Proofs.YtiokigjnacmilaaGreatDoor
/- Walks: rows of integers, and rows of such rows, compared, marked, held. -/
namespace Go.Proofs.YtiokigjnacmilaaGreatDoor
open Go.RowKit

/-- A row of integers by a function. -/
def v1 (V : Nat → Int) (i _j : Nat) : Value := .int .i64 (V i)
theorem RowAt.v1 {w : World} {so : Option Addr} {L : List Int} (h : RowAt w so L.length 1 (vI L)) : RowAt w so L.length 1 (v1 fun i => L[i]?.getD 0) := h
theorem mine_grown {w W : World} {h m g : Nat} (k : Mine w h m) (hg : w.grownBy W (some g)) (hn : h < w.heap.size) (hne : ¬ h = g) : Mine W h m := fun j hj => by
  obtain ⟨⟨v, e⟩, f⟩ := k j hj
  exact ⟨⟨v, (gcell hg h j hn hne).trans e⟩, (gfroz hg h j hn hne).trans f⟩
set_option maxRecDepth 100000 in
set_option maxHeartbeats 1000000 in
theorem laws_eqInt64S (so1 so2 : Option Addr) (n cap1 cap2 : Nat) (V : Nat → Int) (w : World) (h1 : RowAt w so1 n 1 (v1 V)) (h2 : RowAt w so2 n 1 (v1 V)) (hn : n ≤ 1048576) :
    Calls Tryz.prog 10 #[.slice so1 n cap1, .slice so2 n cap2] w fun e w' => e = .returned (.bool true) ∧ Below w.heap.size w w' := by
  go_enter Tryz.func10, Tryz.ntmps10
  go_wp2
  go_loopw [5] (fun i wr => ∃ k : Nat, k ≤ n ∧ i = .int .i64 k ∧ Below w.heap.size w wr) (fun i _ => n - (intOf i).toNat)
  case atStart => exact ⟨0, Nat.zero_le _, rfl, bwz⟩
  case round =>
    obtain ⟨k, hk, rfl, hbl⟩ := hrel
    have hsz := hbl.size
    by_cases hlt : k < n
    · obtain ⟨b, o, rfl, hbs, c0⟩ := (RowAt.later hbl h1).at1 k hlt
      obtain ⟨b2, o2, rfl, hbs2, d0⟩ := (RowAt.later hbl h2).at1 k hlt
      simp only [Go.Proofs.YtiokigjnacmilaaGreatDoor.v1] at c0 d0
      have hi1 : (0 : Int) ≤ (k : Int) := by omega
      have hi2 : (k : Int) < (n : Int) := by omega
      go_upto_region 6 with fail
      refine wp_region_held_drew (S := (fun W => W.cell? ⟨b, o + k, none⟩ = some (.int .i64 (V k)) ∧ W.cell? ⟨b2, o2 + k, none⟩ = some (.int .i64 (V k)) ∧ Below w.heap.size w W ∧ w.heap.size + 0 ≤ W.heap.size)) (by kernel_rfl) ?_ (fun hHeld => ?_)
      · exact ⟨(by go_simp; done), (by go_simp; done), bwz, (by first | (simp; done) | (simp; omega) | omega)⟩
      refine tkD 0 (some 17) rfl ?_; (try simp only [pz])
      refine tkD 1 (some 18) rfl ?_; (try simp only [pz])
      refine tkD 2 (some 19) rfl ?_; (try simp only [pz])
      refine tkD 3 (some 20) rfl ?_; (try simp only [pz])
      refine tkD 4 (some 21) rfl ?_; (try simp only [pz])
      refine tkD 5 (some 22) rfl ?_; (try simp only [pz])
      refine tkD 6 (some 23) rfl ?_; (try simp only [pz])
      refine tkD 7 (some 24) rfl ?_; (try simp only [pz])
      refine tkD 8 (some 25) rfl ?_; (try simp only [pz])
      refine wpAnyH_done (by kernel_rfl) ?_ _; (try simp only [pz])
      obtain ⟨k1, k2, kB, kz⟩ := hHeld
      go_wp2
      (go_roundw; (case rel => exact ⟨k + 1, by omega, by go_num, kB⟩); (case measure => simp [intOf]; omega))
    · go_wp2
      go_ret
      exact ⟨rfl, hbl⟩
theorem laws_markInt64S (g n cap c : Nat) (w : World) (hm : Mine w g n) (hn : n ≤ 1048576) (hc : c ≤ 1048576) :
    Calls Tryz.prog 15 #[.slice (some ⟨g, 0, none⟩) n cap, .int .i64 c] w fun e w' => e = .returned (.int .i64 ((c + n : Nat) : Int)) ∧ w.grownBy w' (some g) ∧ Mine w' g n ∧ ∀ q, q < n → w'.cell? ⟨g, q, none⟩ = some (.int .i64 ((c + q : Nat) : Int)) := by
  go_enter Tryz.func15, Tryz.ntmps15
  go_wp2
  go_loopw [1, 5] (fun kk i wr => ∃ k : Nat, k ≤ n ∧ i = .int .i64 k ∧ kk = .int .i64 ((c + k : Nat) : Int) ∧ Mine wr g n ∧ w.grownBy wr (some g) ∧ Hid (∀ q, q < k → wr.cell? ⟨g, q, none⟩ = some (.int .i64 ((c + q : Nat) : Int)))) (fun _ i _ => n - (intOf i).toNat)
  case atStart => exact ⟨0, Nat.zero_le _, rfl, rfl, hm, World.grownBy.refl _ _, hide fun q hq => absurd hq (Nat.not_lt_zero _)⟩
  case round =>
    obtain ⟨k, hk, rfl, rfl, hmine, hgr, HQ⟩ := hrel
    by_cases hlt : k < n
    · obtain ⟨x0, m0, f0⟩ := hmine.cells k (by omega)
      have Hmine := hide hmine
      have Hgr := hide hgr
      have R := hide (show ∀ q, q < k + 1 → (wr.setCell ⟨g, k, none⟩ (.int .i64 ((c + k : Nat) : Int))).cell? ⟨g, q, none⟩ = some (.int .i64 ((c + q : Nat) : Int)) from fun q hq => by
        by_cases e : q = k
        · subst e; exact World.cell?_setCell_same _ _ _ m0
        · exact (World.cell?_setCell_other _ _ _ _ (fun k => e (by injection k with _ k; exact k.symm))).trans (HQ.out q (by omega)))
      clear hmine hgr HQ
      go_wp2
      go_roundw
      case rel => exact ⟨k + 1, by omega, by go_num, by go_num, Hmine.out.set, grown_set Hgr.out, R⟩
      case measure => simp [intOf]; omega
    · obtain rfl : k = n := by omega
      go_wp2
      go_ret
      exact ⟨rfl, hgr, hmine, HQ.out⟩
theorem laws_heldInt64S (so : Option Addr) (n cap c : Nat) (w : World) (h : RowAt w so n 1 (v1 fun q => ((c + q : Nat) : Int))) (hn : n ≤ 1048576) (hc : c ≤ 1048576) :
    Calls Tryz.prog 16 #[.slice so n cap, .int .i64 c] w fun e w' => e = .returned (.int .i64 ((c + n : Nat) : Int)) ∧ Below w.heap.size w w' := by
  go_enter Tryz.func16, Tryz.ntmps16
  go_wp2
  go_loopw [1, 5] (fun kk i wr => ∃ k : Nat, k ≤ n ∧ i = .int .i64 k ∧ kk = .int .i64 ((c + k : Nat) : Int) ∧ Below w.heap.size w wr) (fun _ i _ => n - (intOf i).toNat)
  case atStart => exact ⟨0, Nat.zero_le _, rfl, rfl, bwz⟩
  case round =>
    obtain ⟨k, hk, rfl, rfl, hbl⟩ := hrel
    by_cases hlt : k < n
    · obtain ⟨b, o, rfl, hbs, c0⟩ := (RowAt.later hbl h).at1 k hlt
      simp only [v1] at c0
      go_wp2
      go_roundw
      case rel => exact ⟨k + 1, by omega, by go_num, by go_num, bwz⟩
      case measure => simp [intOf]; omega
    · obtain rfl : k = n := by omega
      go_wp2
      go_ret
      exact ⟨rfl, hbl⟩

end Go.Proofs.YtiokigjnacmilaaGreatDoor
/- Rows of integers in memory of the call's own: read, kept, marked. -/
namespace Go.Proofs.YtiokigjnacmilaaGreatDoor
open Go.RowKit

/-- A list of integers in memory of the call's own, from block B on. -/
def OwZ (w : World) (B : Nat) (so : Option Addr) (L : List Int) : Prop :=
  so = none ∧ L.length = 0 ∨ ∃ g, so = some ⟨g, 0, none⟩ ∧ B ≤ g ∧ g < w.heap.size ∧ ∀ j, j < L.length → w.cell? ⟨g, j, none⟩ = some (.int .i64 (L[j]?.getD 0)) ∧ w.frozen? ⟨g, j, none⟩ = false
theorem OwZ.of {w : World} {B cp : Nat} {e : TypeId} {so : Option Addr} {L : List Int} (h : w.ownsRow B e 1 (.slice so L.length cp) L.length (L.map (Value.int .i64))) : OwZ w B so L := by
  have hlt := h.lt
  rcases hso : so with _ | a
  · subst hso
    rcases h.2 with ⟨_, h0⟩ | ⟨g, cap, cur, hv, _⟩
    · exact .inl ⟨rfl, h0⟩
    · cases hv
  · subst hso
    rcases h.2 with ⟨hv, _⟩ | ⟨g, cap, cur, hv, _⟩
    · cases hv
    · injection hv with e1 e2 e3
      injection e1 with e1
      subst e1
      have hg := h.lt g rfl
      refine .inr ⟨g, rfl, hg.1, hg.2, fun j hj => ⟨?_, ?_⟩⟩
      · have := h.cells (g := g) rfl j (.int .i64 (L[j]?.getD 0)) (by rw [List.getElem?_map, List.getElem?_eq_getElem hj]; rfl)
        rwa [Addr.add_lit, Nat.zero_add] at this
      · subst e3; exact h.frozenAt j
theorem OwZ.read {w : World} {B : Nat} {so : Option Addr} {L : List Int} (h : OwZ w B so L) : RowAt w so L.length 1 (v1 fun i => L[i]?.getD 0) := by
  rcases h with ⟨_, h0⟩ | ⟨g, rfl, _, _, h4⟩
  · exact fun i hi => absurd hi (by omega)
  · exact fun i hi => ⟨g, 0, rfl, fun j hj => by
      obtain rfl : j = 0 := by omega
      rw [Nat.zero_add, Nat.mul_one, Nat.add_zero]; exact (h4 i hi).1⟩
theorem OwZ.later {w W : World} {B : Nat} {so : Option Addr} {L : List Int} (h : OwZ w B so L) (hb : Below w.heap.size w W) : OwZ W B so L := by
  rcases h with h | ⟨g, h1, h2, h3, h4⟩
  · exact .inl h
  · exact .inr ⟨g, h1, h2, Nat.lt_of_lt_of_le h3 hb.size, fun j hj => ⟨cell_later hb (h4 j hj).1, frozen_later hb (h4 j hj).1 (h4 j hj).2⟩⟩
theorem OwZ.grown {w W : World} {B g : Nat} {so : Option Addr} {L : List Int} (h : OwZ w B so L) (hg : w.grownBy W (some g)) (hl : g < B) : OwZ W B so L := by
  rcases h with h | ⟨g', h1, h2, h3, h4⟩
  · exact .inl h
  · exact .inr ⟨g', h1, h2, Nat.lt_of_lt_of_le h3 hg.size, fun j hj => ⟨(gcell hg g' j h3 (by omega)).trans (h4 j hj).1, (gfroz hg g' j h3 (by omega)).trans (h4 j hj).2⟩⟩
theorem OwZ.mono {w : World} {B B' : Nat} {so : Option Addr} {L : List Int} (h : OwZ w B so L) (hB : B' ≤ B) : OwZ w B' so L := by
  rcases h with h | ⟨g, h1, h2, h3, h4⟩
  · exact .inl h
  · exact .inr ⟨g, h1, by omega, h3, h4⟩
theorem OwZ.mark {w : World} {B : Nat} {so : Option Addr} {L : List Int} (h : OwZ w B so L) : ∃ g, (L.length = 0 ∨ so = some ⟨g, 0, none⟩) ∧ B ≤ g ∧ Mine w g L.length := by
  rcases h with ⟨_, h0⟩ | ⟨g, h1, h2, h3, h4⟩
  · exact ⟨B, .inl h0, Nat.le_refl _, fun j hj => absurd hj (by omega)⟩
  · exact ⟨g, .inr h1, h2, fun j hj => ⟨⟨_, (h4 j hj).1⟩, (h4 j hj).2⟩⟩
theorem laws_markInt64S_o (so : Option Addr) (g n cap c : Nat) (w : World) (hs : n = 0 ∨ so = some ⟨g, 0, none⟩) (hm : Mine w g n) (hn : n ≤ 1048576) (hc : c ≤ 1048576) :
    Calls Tryz.prog 15 #[.slice so n cap, .int .i64 c] w fun e w' => e = .returned (.int .i64 ((c + n : Nat) : Int)) ∧ w.grownBy w' (some g) ∧ RowAt w' so n 1 (v1 fun q => ((c + q : Nat) : Int)) := by
  rcases hs with rfl | rfl
  · go_enter Tryz.func15, Tryz.ntmps15
    go_wp2
    go_loopw [1, 5] (fun kk i wr => i = .int .i64 0 ∧ kk = .int .i64 (c : Int) ∧ w.grownBy wr (some g)) (fun _ _ _ => 0)
    case atStart => exact ⟨rfl, rfl, World.grownBy.refl _ _⟩
    case round =>
      obtain ⟨rfl, rfl, hgr⟩ := hrel
      go_wp2
      go_ret
      exact ⟨rfl, hgr, fun i hi => absurd hi (Nat.not_lt_zero _)⟩
  · refine (laws_markInt64S g n cap c w hm hn hc).mono fun e w' h => ⟨h.1, h.2.1, fun i hi => ⟨g, 0, rfl, fun j hj => ?_⟩⟩
    obtain rfl : j = 0 := by omega
    rw [Nat.zero_add, Nat.mul_one, Nat.add_zero]; exact h.2.2.2 i hi
theorem laws_markInt64S_1 (so : Option Addr) (g n cap : Nat) (w : World) (hs : n = 0 ∨ so = some ⟨g, 0, none⟩) (hm : Mine w g n) (hn : n ≤ 1048576) :
    Calls Tryz.prog 15 #[.slice so n cap, .int .i64 1] w fun e w' => e = .returned (.int .i64 ((1 + n : Nat) : Int)) ∧ w.grownBy w' (some g) ∧ RowAt w' so n 1 (v1 fun q => ((1 + q : Nat) : Int)) := laws_markInt64S_o so g n cap 1 w hs hm hn (by decide)
theorem laws_heldInt64S_1 (so : Option Addr) (n cap : Nat) (w : World) (h : RowAt w so n 1 (v1 fun q => ((1 + q : Nat) : Int))) (hn : n ≤ 1048576) :
    Calls Tryz.prog 16 #[.slice so n cap, .int .i64 1] w fun e w' => e = .returned (.int .i64 ((1 + n : Nat) : Int)) ∧ Below w.heap.size w w' := laws_heldInt64S so n cap 1 w h hn (by decide)
end Go.Proofs.YtiokigjnacmilaaGreatDoor
