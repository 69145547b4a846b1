/- Lists of tracks that came in: opened, copied, compared, measured; whether each is a track. -/
import Derived.Test.YtiokigjnacmilaaGreatDoorCd
import Derived.Test.YtiokigjnacmilaaGreatDoorTb
import Derived.Test.YtiokigjnacmilaaGreatDoorTs
import Derived.Test.YtiokigjnacmilaaGreatDoorLaw
import Derived.Test.YtiokigjnacmilaaGreatDoorBs
import Derived.BigQuiet
namespace Go.Proofs.YtiokigjnacmilaaGreatDoor
open Go.ChangeShapes Go.WideShapes Go.ChangeAt Go.RowKit Go.Deep

/-- A list of m tracks: track i has nn i fixes, in the row at A i. -/
def Trs (w : World) (so : Option Addr) (m : Nat) (A : Nat → Option Addr) (nn C : Nat → Nat) (T U V : Nat → Nat → Int) : Prop :=
  RowAt w so m 1 (fun i _ => .slice (A i) (nn i) (C i)) ∧ ∀ i, i < m → RowAt w (A i) (nn i) 3 (v3 (T i) (U i) (V i))
theorem Trs.later {w W : World} {so : Option Addr} {m : Nat} {A : Nat → Option Addr} {nn C : Nat → Nat} {T U V : Nat → Nat → Int} (hb : Below w.heap.size w W) (h : Trs w so m A nn C T U V) : Trs W so m A nn C T U V :=
  ⟨RowAt.later hb h.1, fun i hi => RowAt.later hb (h.2 i hi)⟩
theorem Trs.at {w : World} {so : Option Addr} {m : Nat} {A : Nat → Option Addr} {nn C : Nat → Nat} {T U V : Nat → Nat → Int} (h : Trs w so m A nn C T U V) (i : Nat) (hi : i < m) : ∃ b o, so = some ⟨b, o, none⟩ ∧ b < w.heap.size ∧ w.cell? ⟨b, o + i, none⟩ = some (.slice (A i) (nn i) (C i)) := by
  obtain ⟨b, o, e, k⟩ := h.1 i hi
  have k0 := k 0 (by omega)
  rw [Nat.mul_one, Nat.add_zero] at k0
  exact ⟨b, o, e, World.block_lt_of_cell? _ _ k0, k0⟩
/-- The copy of a list of tracks. -/
def CopTs (w : World) (m : Nat) (nn : Nat → Nat) (T U V : Nat → Nat → Int) (e : Ending) (w' : World) : Prop :=
  ∃ g, ∃ G : Nat → Nat, e = .returned (.slice (some ⟨g, 0, none⟩) m m) ∧ Trs w' (some ⟨g, 0, none⟩) m (fun i => some ⟨G i, 0, none⟩) nn nn T U V ∧ Below w.heap.size w w'
/-- The first m of the tracks are tracks. -/
def allTr (nn : Nat → Nat) (T U V : Nat → Nat → Int) : Nat → Bool
  | 0 => true
  | k + 1 => allTr nn T U V k && isTr (nn k) (T k) (U k) (V k)
theorem allTr_no {nn : Nat → Nat} {T U V : Nat → Nat → Int} {k m : Nat} (hk : k < m) (h : isTr (nn k) (T k) (U k) (V k) = false) : allTr nn T U V m = false := by
  induction m with
  | zero => omega
  | succ m ih =>
    rcases Nat.lt_or_ge k m with h1 | h1
    · rw [allTr, ih h1]; rfl
    · obtain rfl : k = m := by omega
      rw [allTr, h, Bool.and_false]
theorem allTr_at {nn : Nat → Nat} {T U V : Nat → Nat → Int} {k m : Nat} (hk : k < m) (h : allTr nn T U V m = true) : isTr (nn k) (T k) (U k) (V k) = true := by
  rcases b2 (isTr (nn k) (T k) (U k) (V k)) with h1 | h1
  · rw [allTr_no hk h1] at h; exact absurd h (by decide)
  · exact h1
section
variable {w : World}
theorem rowT_of {so : Option Addr} {len : Nat} (h : ∀ i, i < len → ∃ b o cs', so = some ⟨b, o, none⟩ ∧ (∃ (a : Option Addr) (n c : Nat) (T X Y : Nat → Int), cs' = [Value.slice a n c] ∧ n ≤ maxLen ∧ RowAt w a n 3 (v3 T X Y)) ∧ ∀ j, j < 1 → w.cell? ⟨b, o + i * 1 + j, none⟩ = cs'[j]?) :
    ∃ (A : Nat → Option Addr) (nn C : Nat → Nat) (T U V : Nat → Nat → Int), Trs w so len A nn C T U V ∧ ∀ i, nn i ≤ maxLen := by
  have h' : ∀ i : Nat, ∃ q : (Option Addr × Nat × Nat) × ((Nat → Int) × (Nat → Int) × (Nat → Int)), q.1.2.1 ≤ maxLen ∧ (i < len → (∃ b o, so = some ⟨b, o, none⟩ ∧ ∀ j, j < 1 → w.cell? ⟨b, o + i * 1 + j, none⟩ = [Value.slice q.1.1 q.1.2.1 q.1.2.2][j]?) ∧ RowAt w q.1.1 q.1.2.1 3 (v3 q.2.1 q.2.2.1 q.2.2.2)) := fun i => by
    by_cases hi : i < len
    · obtain ⟨b, o, _, e, ⟨a, n, c, T, X, Y, rfl, hn, hr⟩, k⟩ := h i hi
      exact ⟨((a, n, c), (T, X, Y)), hn, fun _ => ⟨⟨b, o, e, k⟩, hr⟩⟩
    · exact ⟨((none, 0, 0), (fun _ => 0, fun _ => 0, fun _ => 0)), Nat.zero_le _, fun k => absurd k hi⟩
  obtain ⟨q, hq⟩ := Classical.axiomOfChoice h'
  refine ⟨fun i => (q i).1.1, fun i => (q i).1.2.1, fun i => (q i).1.2.2, fun i => (q i).2.1, fun i => (q i).2.2.1, fun i => (q i).2.2.2, ⟨fun i hi => ?_, fun i hi => ((hq i).2 hi).2⟩, fun i => (hq i).1⟩
  obtain ⟨⟨b, o, e, k⟩, _⟩ := (hq i).2 hi
  refine ⟨b, o, e, fun j hj => (k j hj).trans ?_⟩
  obtain rfl : j = 0 := by omega
  rfl
end
set_option maxRecDepth 100000 in
theorem op_tracks {H : Type} {enc : TypeId × Value → H} {w : World} {base : Nat} {spare : Nat → Bool} {held : Bool} {r : Reach} {b0 : Nat} {v : Value} {d : DataW H} {p : List MemPlace}
    (hv : Value.okWide Tryz.prog w r b0 29 v) (h : DataW.Trod enc Tryz.prog w base spare held 29 v d p) :
    ∃ so m cp A nn C T U V, v = .slice so m cp ∧ m ≤ maxLen ∧ Trs w so m A nn C T U V ∧ ∀ i, nn i ≤ maxLen := by
  obtain ⟨a, len, cap, rfl⟩ := okWide_slice Tryz.underlying29 hv
  obtain ⟨n, h⟩ := h
  obtain ⟨so, ln, cp, e, hl, hr⟩ := open_row (Q := fun cs => ∃ (a : Option Addr) (n c : Nat) (T X Y : Nat → Int), cs = [Value.slice a n c] ∧ n ≤ maxLen ∧ RowAt w a n 3 (v3 T X Y)) Tryz.underlying29 Tryz.cTrack (by decide) (fun {n cs x} k => by
    obtain ⟨xs, m, _, _, hl, hxl, hf⟩ := DataW.trod_struct Tryz.underlying55 k
    rw [Tryz.cTrack] at hl
    match cs, hl with
    | [c0], _ =>
      have g0 := hf 0 _ rfl
      change DataW.trod enc Tryz.prog w base spare held m 53 (List.take (Tryz.prog.cellsOf 53) (List.drop 0 [c0])) = xs[0]? at g0
      rw [Tryz.cFixS, List.getElem?_eq_getElem (by simp [hxl])] at g0
      obtain ⟨so, ln, cp, e, hl, hr⟩ := open_row (Q := fun cs => ∃ x y z : Int, cs = [.int .i64 x, .int .i64 y, .int .i64 z]) Tryz.underlying53 Tryz.cFix (by decide) (fun k =>
        rd_three Tryz.underlying2 Tryz.underlying125 Tryz.cFix Tryz.cInt ⟨rfl, rfl⟩ ⟨rfl, rfl⟩ ⟨rfl, rfl⟩ k) g0
      simp at e
      subst e
      obtain ⟨T, X, Y, R⟩ := row3_of hr
      exact ⟨_, _, _, T, X, Y, rfl, hl, R⟩) h
  simp [Value.cells] at e
  obtain ⟨rfl, rfl, rfl⟩ := e
  obtain ⟨A, nn, C, T, U, V, R, R2⟩ := rowT_of hr
  exact ⟨_, _, _, A, nn, C, T, U, V, rfl, hl, R, R2⟩
theorem infoTrack : (Tryz.prog.info? 60).map (fun i => (i.zero, i.size, i.bytes)) = some (some (.agg #[.slice none 0 0]), 1, 24) := by kernel_rfl
set_option maxRecDepth 100000 in
set_option maxHeartbeats 4000000 in
theorem laws_toTrackS (so : Option Addr) (m cap : Nat) (A : Nat → Option Addr) (nn C : Nat → Nat) (T U V : Nat → Nat → Int) (w : World) (h : Trs w so m A nn C T U V) (hm : m ≤ 1048576) (hn : ∀ i, i < m → nn i ≤ 1048576) :
    Calls Tryz.prog 8 #[.slice so m cap] w (CopTs w m nn T U V) := by
  obtain ⟨i0, hi, hz0, hz1, hz2⟩ := info_parts infoTrack
  have hmk := fun W => run_make_rowN (P := Tryz.prog) 42 60 i0 _ Tryz.underlying42 hi hz0 m (by rw [hz2]; omega) (by omega) W
  have hsz : (madeCells (Value.agg #[.slice none 0 0]).cells (m * i0.size)).size = m * 1 := by rw [size_madeCells, hz1]
  have Hs := hide hsz
  have Hh := hide h
  have Hn := hide hn
  clear hsz hi hz0 hz1 hz2 h hn
  go_enter Tryz.func8, Tryz.ntmps8
  go_wp2
  go_loopw [4] (fun i wr => ∃ k : Nat, ∃ G : Nat → Nat, k ≤ m ∧ i = .int .i64 k ∧ Hid (∀ j, j < k → G j ≠ w.heap.size ∧ G j < wr.heap.size ∧ wr.cell? ⟨w.heap.size, j, none⟩ = some (.slice (some ⟨G j, 0, none⟩) (nn j) (nn j)) ∧ RowAt wr (some ⟨G j, 0, none⟩) (nn j) 3 (v3 (T j) (U j) (V j))) ∧ Mine wr w.heap.size (m * 1) ∧ w.heap.size < wr.heap.size ∧ Below w.heap.size w wr) (fun i _ => m - (intOf i).toNat)
  case atStart => exact ⟨0, fun _ => 0, Nat.zero_le _, rfl, hide (fun j hj => absurd hj (Nat.not_lt_zero _)), mine_make Hs.out, by simp, bwz⟩
  case round =>
    obtain ⟨k, G, hk, rfl, HG, hmine, hlt9, hbl⟩ := hrel
    clear hmk
    by_cases hlt : k < m
    · obtain ⟨b, o, rfl, hbs, c0⟩ := (Trs.later hbl Hh.out).at k hlt
      have hk2 := Hh.out.2 k hlt
      have Hmine := hide hmine
      have Hk := hide (RowAt.later hbl hk2)
      have Hbl := hide hbl
      have hnk := Hn.out k hlt
      clear hmine hk2
      have hj1 : (0 : Int) ≤ (k : Int) := by omega
      have hj2 : (k : Int) < (m : Int) := by omega
      go_wp2_with (go_at_call 26; (with_reducible refine (laws_toTrack _ _ _ (T k) (U k) (V k) _ Hk.out hnk).mono ?_); rintro e w9 ⟨gk, rfl, hrow, _, hge, hgl, hb⟩; (have Hrow := hide hrow); (have hm9 := Mine.later hb Hmine.out); obtain ⟨x0, m0, f0⟩ := hm9.cells k (by omega); (have Hm9 := hide hm9); (have hsz := hb.size); clear hrow hm9)
      go_roundw
      case rel =>
        refine ⟨k + 1, fun j => if j = k then gk else G j, by omega, by go_num, hide fun j hj => ?_, Hm9.out.set, by simp; omega, bwz⟩
        by_cases e1 : j = k
        · subst e1
          simp only [↓reduceIte]
          exact ⟨by omega, by simpa using hgl, cell_same m0, row_set Hrow.out (by show w.heap.size ≠ gk; omega)⟩
        · obtain ⟨q1, q2, q3, q4⟩ := HG.out j (by omega)
          simp only [e1, ↓reduceIte]
          exact ⟨q1, by simp; omega, cell_off (cell_later hb q3) (.inr (by show k ≠ j; omega)), row_set (RowAt.later hb q4) (by show w.heap.size ≠ G j; omega)⟩
      case measure => simp [intOf]; omega
    · obtain rfl : k = m := by omega
      go_wp2
      go_ret
      exact ⟨w.heap.size, G, rfl, ⟨fun i hi => ⟨w.heap.size, 0, rfl, fun j hj => by obtain rfl : j = 0 := (by omega); rw [Nat.zero_add, Nat.mul_one, Nat.add_zero]; exact (HG.out i hi).2.2.1⟩, fun i hi => (HG.out i hi).2.2.2⟩, hbl⟩
set_option maxRecDepth 100000 in
set_option maxHeartbeats 4000000 in
theorem laws_szTrackS (so : Option Addr) (m cap : Nat) (A : Nat → Option Addr) (nn C : Nat → Nat) (T U V : Nat → Nat → Int) (left : Int) (w : World) (h : Trs w so m A nn C T U V) (hm : m ≤ 9223372036854775807) (hn : ∀ i, nn i ≤ 9223372036854775807) (h0 : 0 ≤ left) (h1 : left ≤ 1048576) :
    Calls Tryz.prog 5 #[.slice so m cap, .int .i64 left] w fun e w' => (∃ x : Int, e = .returned (.int .i64 x) ∧ (x = -1 ∨ (0 ≤ x ∧ x ≤ 1048576 ∧ m ≤ 1048576 ∧ ∀ i, i < m → nn i ≤ 1048576))) ∧ Below w.heap.size w w' := by
  have we : IntKind.i64.wrap (left - (m : Int)) = left - (m : Int) := IntWalk.i64_in _ (by omega)
  have Hh := hide h
  have Hn := hide hn
  clear h hn
  by_cases hg : (m : Int) ≤ left
  case neg =>
    have hn1 : left - (m : Int) < 0 := by omega
    go_enter Tryz.func5, Tryz.ntmps5
    go_wp2
    go_ret
    exact ⟨⟨-1, rfl, .inl rfl⟩, bwz⟩
  have hn1 : ¬ (left - (m : Int) < 0) := by omega
  have hm2 : m ≤ 1048576 := by omega
  go_enter Tryz.func5, Tryz.ntmps5
  go_wp2
  go_loopw [1, 5] (fun l i wr => ∃ (k : Nat) (q : Int), k ≤ m ∧ l = .int .i64 q ∧ i = .int .i64 k ∧ 0 ≤ q ∧ q ≤ 1048576 ∧ Hid (∀ j, j < k → nn j ≤ 1048576) ∧ Below w.heap.size w wr) (fun _ i _ => m - (intOf i).toNat)
  case atStart => exact ⟨0, left - (m : Int), Nat.zero_le _, rfl, rfl, by omega, by omega, hide (fun j hj => absurd hj (Nat.not_lt_zero _)), bwz⟩
  case round =>
    obtain ⟨k, q, hk, rfl, rfl, hq0, hq1, HN, hbl⟩ := hrel
    clear we hn1
    by_cases hlt : k < m
    · obtain ⟨b, o, rfl, hbs, c0⟩ := (Trs.later hbl Hh.out).at k hlt
      have hj1 : (0 : Int) ≤ (k : Int) := by omega
      have hj2 : (k : Int) < (m : Int) := by omega
      have hnk := Hn.out k
      have zr := hbl.size
      by_cases hq : (nn k : Int) ≤ q
      · have hq2 : ¬ (q - (nn k : Int) < 0) := by omega
        go_wp2_with (go_at_call 18; (with_reducible refine (laws_szTrack_yes _ _ _ _ _ hq hq1).mono ?_); rintro e w9 ⟨rfl, hb⟩; obtain ⟨hc, hf⟩ := bcell hb; have hz := hb.size; have zzb : b < w9.heap.size := (by first | omega | (simp at hz; omega)))
        go_roundw
        case rel => exact ⟨k + 1, q - (nn k : Int), by omega, rfl, by go_num, by omega, by omega, hide (fun j hj => by rcases Nat.lt_or_ge j k with h9 | h9; exact HN.out j h9; (obtain rfl : j = k := by omega); omega), bwz⟩
        case measure => simp [intOf]; omega
      · go_wp2_with (go_at_call 18; (with_reducible refine (laws_szTrack_no _ _ _ _ _ (by omega) hq0 (by omega)).mono ?_); rintro e w9 ⟨rfl, hb⟩; obtain ⟨hc, hf⟩ := bcell hb; have hz := hb.size; have zzb : b < w9.heap.size := (by first | omega | (simp at hz; omega)))
        go_ret
        exact ⟨⟨-1, rfl, .inl rfl⟩, bwz⟩
    · obtain rfl : k = m := by omega
      go_wp2
      go_ret
      exact ⟨⟨q, rfl, .inr ⟨hq0, hq1, hm2, HN.out⟩⟩, hbl⟩
set_option maxRecDepth 100000 in
set_option maxHeartbeats 4000000 in
theorem laws_eqTrackS (so1 so2 : Option Addr) (m cp1 cp2 : Nat) (A1 A2 : Nat → Option Addr) (nn C1 C2 : Nat → Nat) (T U V : Nat → Nat → Int) (w : World) (h1 : Trs w so1 m A1 nn C1 T U V) (h2 : Trs w so2 m A2 nn C2 T U V) (hm : m ≤ 1048576) (hn : ∀ i, i < m → nn i ≤ 1048576) :
    Calls Tryz.prog 12 #[.slice so1 m cp1, .slice so2 m cp2] w fun e w' => e = .returned (.bool true) ∧ Below w.heap.size w w' := by
  have H1 := hide h1
  have H2 := hide h2
  have Hn := hide hn
  clear h1 h2 hn
  go_enter Tryz.func12, Tryz.ntmps12
  go_wp2
  go_loopw [5] (fun i wr => ∃ k : Nat, k ≤ m ∧ i = .int .i64 k ∧ Below w.heap.size w wr) (fun i _ => m - (intOf i).toNat)
  case atStart => exact ⟨0, Nat.zero_le _, rfl, bwz⟩
  case round =>
    obtain ⟨k, hk, rfl, hbl⟩ := hrel
    by_cases hlt : k < m
    · obtain ⟨b, o, rfl, hbs, c0⟩ := (Trs.later hbl H1.out).at k hlt
      obtain ⟨b2', o2, rfl, hbs2, d0⟩ := (Trs.later hbl H2.out).at k hlt
      have Hk1 := hide (RowAt.later hbl (H1.out.2 k hlt))
      have Hk2 := hide (RowAt.later hbl (H2.out.2 k hlt))
      have hnk := Hn.out k hlt
      have hj1 : (0 : Int) ≤ (k : Int) := by omega
      have hj2 : (k : Int) < (m : Int) := by omega
      obtain ⟨wQ, rfl⟩ : ∃ W : World, W = wr := ⟨_, rfl⟩
      go_upto_region 6 with fail
      refine wp_region_held_drew (S := fun W => Below wQ.heap.size wQ W) (by kernel_rfl) (Below.drew (Below.refl _ _)) (fun hHeld => ?_)
      refine tkN 0 (some 17) rfl ?_; (try simp only [pz])
      refine tkN 1 (some 18) rfl ?_; (try simp only [pz])
      refine tkN 2 (some 19) rfl ?_; (try simp only [pz])
      refine tkL 3 (some 20) rfl ?_; (try simp only [pz])
      refine tkN 4 (some 21) rfl ?_; (try simp only [pz])
      refine tkN 5 (some 22) rfl ?_; (try simp only [pz])
      refine tkN 6 (some 23) rfl ?_; (try simp only [pz])
      refine tkL 7 (some 24) rfl ?_; (try simp only [pz])
      refine wpAnyH_ready (rs := [8]) (by kernel_rfl) (by simp) ?_; refine (AllReadyH.cons (o := ⟨some 25, _, _, _, _, _⟩) rfl (fun K hK => ?_) AllReadyH.nil)
      go_simp; (go_at_call 35; (with_reducible refine (laws_eqTrack _ _ _ _ _ (T k) (U k) (V k) _ (RowAt.later (show Below wQ.heap.size wQ _ from hHeld) Hk1.out) (RowAt.later (show Below wQ.heap.size wQ _ from hHeld) Hk2.out) hnk).mono ?_); rintro e w9 ⟨rfl, hb⟩; obtain ⟨hc, hf⟩ := bcell hb)
      all_goals (try go_wp2_with fail)
      refine hK.out _ _ ?_ (fun hH2 => ?_)
      · first | exact bstep hHeld hb | exact hHeld.trans hb | exact hHeld
      clear hK K hHeld; (have hHeld := hH2); clear hH2; (try simp only [pz])
      refine tkN 9 (some 26) rfl ?_; (try simp only [pz])
      refine wpAnyH_done (by kernel_rfl) ?_ _; (try simp only [pz])
      have hbQ := bstep hbl hHeld
      go_wp2
      go_roundw
      case rel => exact ⟨k + 1, by omega, by go_num, hbQ⟩
      case measure => simp [intOf]; omega
    · go_wp2
      go_ret
      exact ⟨rfl, hbl⟩
end Go.Proofs.YtiokigjnacmilaaGreatDoor
