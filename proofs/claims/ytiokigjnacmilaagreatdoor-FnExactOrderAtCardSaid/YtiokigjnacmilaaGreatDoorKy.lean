/- Plain: a table of integers that is gathered row by row; what a table returns. -/
import Derived.Test.YtiokigjnacmilaaGreatDoorKp
import Derived.Deep.AppendLies
import Derived.Test.YtiokigjnacmilaaGreatDoorTm
import Derived.Test.YtiokigjnacmilaaGreatDoorMk
import Derived.Test.YtiokigjnacmilaaGreatDoorIv
import Derived.Test.YtiokigjnacmilaaGreatDoorCd
namespace Go.Proofs.YtiokigjnacmilaaGreatDoor
open Go.RowKit

/-- The slices of a table's rows. -/
def TvS (G C : Nat → Nat) (R : Nat → List Int) (q : Nat) : List Value := (List.range q).map fun j => .slice (some ⟨G j, 0, none⟩) (R j).length (C j)
theorem TvS_len (G C : Nat → Nat) (R : Nat → List Int) (q : Nat) : (TvS G C R q).length = q := by simp [TvS]
theorem TvS_more {G C G' C' : Nat → Nat} {R : Nat → List Int} {q : Nat} (h : ∀ j, j < q → G' j = G j ∧ C' j = C j) : TvS G' C' R (q + 1) = TvS G C R q ++ [.slice (some ⟨G' q, 0, none⟩) (R q).length (C' q)] := by
  unfold TvS
  rw [List.range_succ, List.map_append]
  refine congrArg (· ++ _) (List.map_congr_left fun j hj => ?_)
  obtain ⟨h1, h2⟩ := h j (List.mem_range.1 hj)
  rw [h1, h2]
/-- A table that has been gathered row by row. -/
def To (w : World) (B : Nat) (e : TypeId) (v : Value) (q : Nat) (R : Nat → List Int) : Prop :=
  ∃ G C : Nat → Nat, w.ownsRow B e 1 v q (TvS G C R q) ∧ ∀ j, j < q → v.ownBlock ≠ some (G j) ∧ G j < w.heap.size ∧ ∀ m, m < (R j).length → w.cell? ⟨G j, m, none⟩ = some (.int .i64 ((R j)[m]?.getD 0))
theorem To.later {w W : World} {B : Nat} {e : TypeId} {v : Value} {q : Nat} {R : Nat → List Int} (h : To w B e v q R) (hb : Below w.heap.size w W) : To W B e v q R := by
  obtain ⟨G, C, h1, h2⟩ := h
  exact ⟨G, C, own_later hb h1, fun j hj => ⟨(h2 j hj).1, Nat.lt_of_lt_of_le (h2 j hj).2.1 hb.size, fun m hm => cell_later hb ((h2 j hj).2.2 m hm)⟩⟩
theorem To.nil {w : World} {B b : Nat} {e : TypeId} {R : Nat → List Int} (hb : b = w.heap.size) (hB : B ≤ b) : To (w.alloc (.cells #[] e)) B e (.slice (some ⟨b, 0, none⟩) 0 0) 0 R := by
  subst hb
  exact ⟨fun _ => 0, fun _ => 0, World.ownsRow_made (base := B) (e := e) (size := 1) w #[] 0 hB (by decide) rfl, fun j hj => absurd hj (Nat.not_lt_zero _)⟩
/-- One row more has been appended. -/
theorem To.app {w W W' : World} {B : Nat} {e : TypeId} {v : Value} {q g cap g' cap' : Nat} {R : Nat → List Int} (h : ∃ G C : Nat → Nat, w.ownsRow B e 1 v q (TvS G C R q) ∧ (∀ j, j < q → v.ownBlock ≠ some (G j) ∧ G j < w.heap.size ∧ ∀ m, m < (R j).length → w.cell? ⟨G j, m, none⟩ = some (.int .i64 ((R j)[m]?.getD 0))) ∧
      W'.ownsRow B e 1 (.slice (some ⟨g', 0, none⟩) (q + 1) cap') (q + 1) (TvS G C R q ++ [.slice (some ⟨g, 0, none⟩) (R q).length cap]))
    (hW : Below w.heap.size w W) (hg : v.ownBlock ≠ some g) (hgl : g < w.heap.size) (hgc : ∀ m, m < (R q).length → w.cell? ⟨g, m, none⟩ = some (.int .i64 ((R q)[m]?.getD 0))) (hgr : W.grownBy W' v.ownBlock) (hat : v.ownBlock = some g' ∨ g' = W.heap.size) : To W' B e (.slice (some ⟨g', 0, none⟩) (q + 1) cap') (q + 1) R := by
  obtain ⟨G, C, h1, h2, h3⟩ := h
  have hz := hW.size
  have key : ∀ b, b < w.heap.size → v.ownBlock ≠ some b → (some g' : Option Nat) ≠ some b := fun b hb hv k => by
    injection k with k
    rcases hat with hat | hat
    · exact hv (by rw [hat, k])
    · omega
  have cells : ∀ b m x, b < w.heap.size → v.ownBlock ≠ some b → w.cell? ⟨b, m, none⟩ = some x → W'.cell? ⟨b, m, none⟩ = some x := fun b m x hb hv hc =>
    (World.cell?_of_block (hgr.block b (by omega) (fun k => hv k.symm))).trans (cell_later hW hc)
  refine ⟨fun j => if j = q then g else G j, fun j => if j = q then cap else C j, ?_, fun j hj => ?_⟩
  · rw [TvS_more (G := G) (C := C) (fun j hj => by have : ¬ j = q := by omega
                                                   simp only [this, ↓reduceIte, and_self])]
    simpa using h3
  · by_cases e1 : j = q
    · subst e1
      simp only [↓reduceIte]
      exact ⟨key g hgl hg, by have := hgr.size; omega, fun m hm => cells g m _ hgl hg (hgc m hm)⟩
    · simp only [e1, ↓reduceIte]
      obtain ⟨a1, a2, a3⟩ := h2 j (by omega)
      exact ⟨key _ a2 a1, by have := hgr.size; omega, fun m hm => cells _ m _ a2 a1 (a3 m hm)⟩
theorem To.read {w : World} {B : Nat} {e : TypeId} {v : Value} {q : Nat} {R : Nat → List Int} (h : To w B e v q R) : ∃ so cap, v = .slice so q cap ∧ RdT w so q R := by
  obtain ⟨G, C, h1, h2⟩ := h
  have hc := fun g (hg : v.ownBlock = some g) => World.ownsRow.cells h1 hg
  obtain ⟨_, ⟨rfl, h0⟩ | ⟨g, cap, cur, rfl, hB, hg, hn, _, hsz, htk⟩⟩ := h1
  · subst h0; exact ⟨none, 0, rfl, RdT.zero _ _ _⟩
  · refine ⟨_, _, rfl, fun j => some ⟨G j, 0, none⟩, C, fun i hi => ⟨g, 0, rfl, fun j hj => ?_⟩, fun i hi m hm => ⟨G i, 0, rfl, fun j hj => ?_⟩⟩
    · obtain rfl : j = 0 := by omega
      have := hc g rfl i (.slice (some ⟨G i, 0, none⟩) (R i).length (C i)) (by simp [TvS, hi])
      rw [Addr.add_lit, Nat.zero_add] at this
      rw [Nat.zero_add, Nat.mul_one, Nat.add_zero]; exact this
    · obtain rfl : j = 0 := by omega
      rw [Nat.zero_add, Nat.mul_one, Nat.add_zero]; exact (h2 i hi).2.2 m hm
/-- What the reference's table returns. -/
def RetS (w : World) (m : Nat) (R : Nat → List Int) (c : Int) (e : Ending) (w' : World) : Prop :=
  ∃ so cp, e = .returned (.tuple #[.slice so m cp, .int .i64 c]) ∧ RdT w' so m R ∧ Below w.heap.size w w'
/-- What the program's table returns. -/
def RetT (w : World) (m : Nat) (R : Nat → List Int) (c : Int) (e : Ending) (w' : World) : Prop :=
  ∃ so cp, e = .returned (.tuple #[.slice so m cp, .int .i64 c]) ∧ OwT w' w.heap.size so m R ∧ Below w.heap.size w w'
end Go.Proofs.YtiokigjnacmilaaGreatDoor
/- Walks: lists of tracks in memory of the call's own: copied, marked; what a drawn region of a law has gathered: a course, a list of tracks, a table, a row. -/
namespace Go.Proofs.YtiokigjnacmilaaGreatDoor
open Go.RowKit

/-- The tracks' rows lie in blocks of their own, each but once. -/
def TrM (w0 w : World) (g m : Nat) (G nn : Nat → Nat) : Prop :=
  (∀ i, i < m → w.cell? ⟨g, i, none⟩ = some (.slice (some ⟨G i, 0, none⟩) (nn i) (nn i)) ∧ Mine w (G i) (nn i * 3) ∧ G i ≠ g ∧ w0.heap.size ≤ G i ∧ G i < w.heap.size) ∧ (∀ i j, i < m → j < m → i ≠ j → G i ≠ G j) ∧ w0.heap.size ≤ g ∧ g < w.heap.size
theorem TrM.later {w0 w W : World} {g m : Nat} {G nn : Nat → Nat} (hb : Below w.heap.size w W) (h : TrM w0 w g m G nn) : TrM w0 W g m G nn := by
  obtain ⟨h1, h2, h3, h4⟩ := h
  refine ⟨fun i hi => ?_, h2, h3, Nat.lt_of_lt_of_le h4 hb.size⟩
  obtain ⟨a, b, c, d, e⟩ := h1 i hi
  exact ⟨cell_later hb a, Mine.later hb b, c, d, Nat.lt_of_lt_of_le e hb.size⟩
theorem TrM.grown {w0 w W : World} {g m g9 : Nat} {G nn : Nat → Nat} (hg : w.grownBy W (some g9)) (h9 : g9 < w0.heap.size) (h : TrM w0 w g m G nn) : TrM w0 W g m G nn := by
  obtain ⟨h1, h2, h3, h4⟩ := h
  refine ⟨fun i hi => ?_, h2, h3, Nat.lt_of_lt_of_le h4 hg.size⟩
  obtain ⟨a, b, c, d, e⟩ := h1 i hi
  exact ⟨(gcell hg _ _ h4 (by omega)).trans a, mine_grown b hg e (by omega), c, d, Nat.lt_of_lt_of_le e hg.size⟩
set_option maxRecDepth 100000 in
set_option maxHeartbeats 4000000 in
theorem laws_toTrackS_m (so : Option Addr) (m cap : Nat) (A : Nat → Option Addr) (nn C : Nat → Nat) (T U V : Nat → Nat → Int) (w : World) (h : Trs w so m A nn C T U V) (hm : m ≤ 1048576) (hn : ∀ i, i < m → nn i ≤ 1048576) :
    Calls Tryz.prog 8 #[.slice so m cap] w fun e w' => ∃ g, ∃ G : Nat → Nat, e = .returned (.slice (some ⟨g, 0, none⟩) m m) ∧ Trs w' (some ⟨g, 0, none⟩) m (fun i => some ⟨G i, 0, none⟩) nn nn T U V ∧ TrM w w' g m G nn ∧ Below w.heap.size w w' := by
  obtain ⟨i0, hi, hz0, hz1, hz2⟩ := info_parts infoTrack
  have hmk := fun W => run_make_rowN (P := Tryz.prog) 42 60 i0 _ Tryz.underlying42 hi hz0 m (by rw [hz2]; omega) (by omega) W
  have hsz : (madeCells (Value.agg #[.slice none 0 0]).cells (m * i0.size)).size = m * 1 := by rw [size_madeCells, hz1]
  have Hs := hide hsz
  have Hh := hide h
  have Hn := hide hn
  clear hsz hi hz0 hz1 hz2 h hn
  go_enter Tryz.func8, Tryz.ntmps8
  go_wp2
  go_loopw [4] (fun i wr => ∃ k : Nat, ∃ G : Nat → Nat, k ≤ m ∧ i = .int .i64 k ∧ Hid (∀ j, j < k → w.heap.size + 1 ≤ G j ∧ G j < wr.heap.size ∧ wr.cell? ⟨w.heap.size, j, none⟩ = some (.slice (some ⟨G j, 0, none⟩) (nn j) (nn j)) ∧ RowAt wr (some ⟨G j, 0, none⟩) (nn j) 3 (v3 (T j) (U j) (V j)) ∧ Mine wr (G j) (nn j * 3)) ∧ Hid (∀ i j, i < k → j < k → i ≠ j → G i ≠ G j) ∧ Mine wr w.heap.size (m * 1) ∧ w.heap.size < wr.heap.size ∧ Below w.heap.size w wr) (fun i _ => m - (intOf i).toNat)
  case atStart => exact ⟨0, fun _ => 0, Nat.zero_le _, rfl, hide (fun j hj => absurd hj (Nat.not_lt_zero _)), hide (fun i j hi => absurd hi (Nat.not_lt_zero _)), mine_make Hs.out, by simp, bwz⟩
  case round =>
    obtain ⟨k, G, hk, rfl, HG, HD, hmine, hlt9, hbl⟩ := hrel
    clear hmk
    by_cases hlt : k < m
    · obtain ⟨b, o, rfl, hbs, c0⟩ := (Trs.later hbl Hh.out).at k hlt
      have hk2 := Hh.out.2 k hlt
      have Hmine := hide hmine
      have Hk := hide (RowAt.later hbl hk2)
      have Hbl := hide hbl
      have hnk := Hn.out k hlt
      clear hmine hk2
      have hj1 : (0 : Int) ≤ (k : Int) := by omega
      have hj2 : (k : Int) < (m : Int) := by omega
      go_wp2_with (go_at_call 26; (with_reducible refine (laws_toTrack _ _ _ (T k) (U k) (V k) _ Hk.out hnk).mono ?_); rintro e w9 ⟨gk, rfl, hrow, hmn, hge, hgl, hb⟩; (have Hrow := hide hrow); (have Hmn := hide hmn); (have hm9 := Mine.later hb Hmine.out); obtain ⟨x0, m0, f0⟩ := hm9.cells k (by omega); (have Hm9 := hide hm9); (have hsz := hb.size); clear hrow hm9 hmn)
      go_roundw
      case rel =>
        refine ⟨k + 1, fun j => if j = k then gk else G j, by omega, by go_num, hide fun j hj => ?_, hide fun i j hi hj hne => ?_, Hm9.out.set, by simp; omega, bwz⟩
        · by_cases e1 : j = k
          · subst e1
            simp only [↓reduceIte]
            exact ⟨by omega, by simpa using hgl, cell_same m0, row_set Hrow.out (by show w.heap.size ≠ gk; omega), Hmn.out.set⟩
          · obtain ⟨q1, q2, q3, q4, q5⟩ := HG.out j (by omega)
            simp only [e1, ↓reduceIte]
            exact ⟨q1, by simp; omega, cell_off (cell_later hb q3) (.inr (by show k ≠ j; omega)), row_set (RowAt.later hb q4) (by show w.heap.size ≠ G j; omega), (Mine.later hb q5).set⟩
        · by_cases e1 : i = k
          · have e2 : ¬ j = k := by omega
            simp only [e1, e2, ↓reduceIte]
            have := (HG.out j (by omega)).2.1; omega
          · by_cases e2 : j = k
            · simp only [e1, e2, ↓reduceIte]
              have := (HG.out i (by omega)).2.1; omega
            · simp only [e1, e2, ↓reduceIte]
              exact HD.out i j (by omega) (by omega) hne
      case measure => simp [intOf]; omega
    · obtain rfl : k = m := by omega
      go_wp2
      go_ret
      exact ⟨w.heap.size, G, rfl, ⟨fun i hi => ⟨w.heap.size, 0, rfl, fun j hj => by obtain rfl : j = 0 := (by omega); rw [Nat.zero_add, Nat.mul_one, Nat.add_zero]; exact (HG.out i hi).2.2.1⟩, fun i hi => (HG.out i hi).2.2.2.1⟩, ⟨fun i hi => ⟨(HG.out i hi).2.2.1, (HG.out i hi).2.2.2.2, by have := (HG.out i hi).1; omega, by have := (HG.out i hi).1; omega, (HG.out i hi).2.1⟩, HD.out, Nat.le_refl _, hlt9⟩, hbl⟩
set_option maxHeartbeats 1000000 in
theorem laws_markFixS_far (g n cap : Nat) (q : Int) (w : World) (hq0 : 0 ≤ q) (hq1 : q ≤ 1000000000000000) (hm : Mine w g (n * 3)) (hn : n ≤ 1048576) :
    Calls Tryz.prog 37 #[.slice (some ⟨g, 0, none⟩) n cap, .int .i64 q] w fun e w' => e = .returned (.int .i64 (q + 3 * (n : Int))) ∧ w.grownBy w' (some g) := by
  go_enter Tryz.func37, Tryz.ntmps37
  go_wp2
  go_loopw [1, 5] (fun kk i wr => ∃ k : Nat, k ≤ n ∧ i = .int .i64 k ∧ kk = .int .i64 (q + 3 * (k : Int)) ∧ Mine wr g (n * 3) ∧ w.grownBy wr (some g)) (fun _ i _ => n - (intOf i).toNat)
  case atStart => exact ⟨0, Nat.zero_le _, rfl, by simp, hm, World.grownBy.refl _ _⟩
  case round =>
    obtain ⟨k, hk, rfl, rfl, hmine, hgr⟩ := hrel
    by_cases hlt : k < n
    · obtain ⟨x0, m0, f0⟩ := hmine.cells (k * 3) (by omega)
      obtain ⟨x1, m1, f1⟩ := hmine.cells (k * 3 + 1) (by omega)
      obtain ⟨x2, m2, f2⟩ := hmine.cells (k * 3 + 2) (by omega)
      have Hmine := hide hmine
      clear hmine
      go_wp2
      go_roundw
      case rel => exact ⟨k + 1, by omega, by go_num, by go_num, Hmine.out.set.set.set, grown_set (grown_set (grown_set hgr))⟩
      case measure => simp [intOf]; omega
    · obtain rfl : k = n := by omega
      go_wp2
      go_ret
      exact ⟨rfl, hgr⟩
set_option maxHeartbeats 4000000 in
theorem laws_markTrackS (w0 : World) (g m cap : Nat) (G nn : Nat → Nat) (q : Int) (w : World) (I : World → Prop) (hq0 : 0 ≤ q) (hq1 : q ≤ 1000000000) (hc : TrM w0 w g m G nn) (hm : m ≤ 1048576) (hn : ∀ i, i < m → nn i ≤ 1048576) (hI : ∀ i W W', i < m → w.heap.size ≤ W.heap.size → W.grownBy W' (some (G i)) → I W → I W') (h0 : I w) :
    Calls Tryz.prog 14 #[.slice (some ⟨g, 0, none⟩) m cap, .int .i64 q] w fun e w' => (∃ x : Int, 0 ≤ x ∧ e = .returned (.int .i64 x)) ∧ I w' := by
  obtain ⟨hc, hd, _, hgl⟩ := hc
  have Hd := hide hd
  have Hc := hide hc
  have Hn := hide hn
  have HI := hide hI
  have H0 := hide h0
  clear hc hd hn hI h0
  go_enter Tryz.func14, Tryz.ntmps14
  go_wp2
  go_loopw [1, 5] (fun kk i wr => ∃ (k : Nat) (x : Int), k ≤ m ∧ i = .int .i64 k ∧ kk = .int .i64 x ∧ 0 ≤ x ∧ x ≤ q + 3145728 * (k : Int) ∧ Hid (∀ j, j < m → wr.cell? ⟨g, j, none⟩ = some (.slice (some ⟨G j, 0, none⟩) (nn j) (nn j)) ∧ (k ≤ j → Mine wr (G j) (nn j * 3)) ∧ G j < wr.heap.size) ∧ g < wr.heap.size ∧ w.heap.size ≤ wr.heap.size ∧ Hid (I wr)) (fun _ i _ => m - (intOf i).toNat)
  case atStart => exact ⟨0, q, Nat.zero_le _, rfl, rfl, hq0, by omega, hide (fun j hj => ⟨(Hc.out j hj).1, fun _ => (Hc.out j hj).2.1, (Hc.out j hj).2.2.2.2⟩), hgl, Nat.le_refl _, H0⟩
  case round =>
    obtain ⟨k, x, hk, rfl, rfl, x0, x1, HR, hgr, hsz, HIr⟩ := hrel
    by_cases hlt : k < m
    · obtain ⟨c0, cm, cl⟩ := HR.out k hlt
      have cm := hide (cm (Nat.le_refl _))
      have hnk := Hn.out k hlt
      have hgk := (Hc.out k hlt).2.2.1
      have hj1 : (0 : Int) ≤ (k : Int) := by omega
      have hj2 : (k : Int) < (m : Int) := by omega
      go_wp2_with (go_at_call 37; (with_reducible refine (laws_markFixS_far (G k) (nn k) _ x _ x0 (by omega) cm.out hnk).mono ?_); rintro e w9 ⟨rfl, hg9⟩; have Hg9 := hide hg9; clear hg9)
      have hs9 := Hg9.out.size
      go_roundw
      case rel =>
        refine ⟨k + 1, x + 3 * (nn k : Int), by omega, by go_num, rfl, by omega, by omega, hide (fun j hj => ?_), by omega, by omega, hide (HI.out k _ _ hlt hsz Hg9.out HIr.out)⟩
        obtain ⟨d0, dm, dl⟩ := HR.out j hj
        exact ⟨(gcell Hg9.out _ _ hgr (fun e => hgk e.symm)).trans d0, fun hkj => mine_grown (dm (by omega)) Hg9.out dl (Hd.out j k hj hlt (by omega)), by omega⟩
      case measure => simp [intOf]; omega
    · go_wp2
      go_ret
      exact ⟨⟨x, x0, rfl⟩, HIr.out⟩
/-! What a drawn region of a law has gathered. -/
def FCo (ax ay bx bY cx cy dx dy : Int) (n : Nat) (N : Nat → ByteArray) (X Y S Z : Nat → Int) (v : Value) (W : World) : Prop := ∃ g : Nat, v = .agg #[.int .i64 ax, .int .i64 ay, .int .i64 bx, .int .i64 bY, .int .i64 cx, .int .i64 cy, .int .i64 dx, .int .i64 dy, .slice (some ⟨g, 0, none⟩) n n] ∧ RowAt W (some ⟨g, 0, none⟩) n 5 (v5 N X Y S Z)
theorem FCo.later {ax ay bx bY cx cy dx dy : Int} {n : Nat} {N : Nat → ByteArray} {X Y S Z : Nat → Int} {v : Value} {W W' : World} (hb : Below W.heap.size W W') (h : FCo ax ay bx bY cx cy dx dy n N X Y S Z v W) : FCo ax ay bx bY cx cy dx dy n N X Y S Z v W' := by
  obtain ⟨g, e, h1⟩ := h
  exact ⟨g, e, RowAt.later hb h1⟩
def FTs (m : Nat) (nn : Nat → Nat) (T U V : Nat → Nat → Int) (v : Value) (W : World) : Prop := ∃ g : Nat, ∃ G : Nat → Nat, v = .slice (some ⟨g, 0, none⟩) m m ∧ Trs W (some ⟨g, 0, none⟩) m (fun i => some ⟨G i, 0, none⟩) nn nn T U V
theorem FTs.later {m : Nat} {nn : Nat → Nat} {T U V : Nat → Nat → Int} {v : Value} {W W' : World} (hb : Below W.heap.size W W') (h : FTs m nn T U V v W) : FTs m nn T U V v W' := by
  obtain ⟨g, G, e, h1⟩ := h
  exact ⟨g, G, e, Trs.later hb h1⟩
def FRs (m : Nat) (R : Nat → List Int) (cd : Int) (v : Value) (W : World) : Prop := ∃ (so : Option Addr) (cp : Nat), v = .tuple #[.slice so m cp, .int .i64 cd] ∧ RdT W so m R
theorem FRs.later {m : Nat} {R : Nat → List Int} {cd : Int} {v : Value} {W W' : World} (hb : Below W.heap.size W W') (h : FRs m R cd v W) : FRs m R cd v W' := by
  obtain ⟨so, cp, e, h1⟩ := h
  exact ⟨so, cp, e, h1.later hb⟩
def FRl (m : Nat) (R : Nat → List Int) (v : Value) (W : World) : Prop := ∃ (so : Option Addr) (cp : Nat), v = .slice so m cp ∧ RdT W so m R
theorem FRl.later {m : Nat} {R : Nat → List Int} {v : Value} {W W' : World} (hb : Below W.heap.size W W') (h : FRl m R v W) : FRl m R v W' := by
  obtain ⟨so, cp, e, h1⟩ := h
  exact ⟨so, cp, e, h1.later hb⟩
def FIs (L : List Int) (cd : Int) (v : Value) (W : World) : Prop := ∃ (so : Option Addr) (cp : Nat), v = .tuple #[.slice so L.length cp, .int .i64 cd] ∧ RowAt W so L.length 1 (v1 fun i => L[i]?.getD 0)
theorem FIs.later {L : List Int} {cd : Int} {v : Value} {W W' : World} (hb : Below W.heap.size W W') (h : FIs L cd v W) : FIs L cd v W' := by
  obtain ⟨so, cp, e, h1⟩ := h
  exact ⟨so, cp, e, RowAt.later hb h1⟩
def FIl (L : List Int) (v : Value) (W : World) : Prop := ∃ (so : Option Addr) (cp : Nat), v = .slice so L.length cp ∧ RowAt W so L.length 1 (v1 fun i => L[i]?.getD 0)
theorem FIl.later {L : List Int} {v : Value} {W W' : World} (hb : Below W.heap.size W W') (h : FIl L v W) : FIl L v W' := by
  obtain ⟨so, cp, e, h1⟩ := h
  exact ⟨so, cp, e, RowAt.later hb h1⟩
end Go.Proofs.YtiokigjnacmilaaGreatDoor
