/- Walks: the table of boats that keep clear, of the reference. -/
import Derived.Test.YtnmnibpcklcmgaaKc
import Derived.Deep.AppendLies
namespace Go.Proofs.Ytnmnibpcklcmgaa
open Go.RowKit

/-- The slices of a table's rows. -/
def TvS (G C : Nat → Nat) (R : Nat → List Int) (q : Nat) : List Value := (List.range q).map fun j => .slice (some ⟨G j, 0, none⟩) (R j).length (C j)
theorem TvS_len (G C : Nat → Nat) (R : Nat → List Int) (q : Nat) : (TvS G C R q).length = q := by simp [TvS]
theorem TvS_more {G C G' C' : Nat → Nat} {R : Nat → List Int} {q : Nat} (h : ∀ j, j < q → G' j = G j ∧ C' j = C j) : TvS G' C' R (q + 1) = TvS G C R q ++ [.slice (some ⟨G' q, 0, none⟩) (R q).length (C' q)] := by
  unfold TvS
  rw [List.range_succ, List.map_append]
  refine congrArg (· ++ _) (List.map_congr_left fun j hj => ?_)
  obtain ⟨h1, h2⟩ := h j (List.mem_range.1 hj)
  rw [h1, h2]
/-- A table that has been gathered row by row. -/
def To (w : World) (B : Nat) (e : TypeId) (v : Value) (q : Nat) (R : Nat → List Int) : Prop :=
  ∃ G C : Nat → Nat, w.ownsRow B e 1 v q (TvS G C R q) ∧ ∀ j, j < q → v.ownBlock ≠ some (G j) ∧ G j < w.heap.size ∧ ∀ m, m < (R j).length → w.cell? ⟨G j, m, none⟩ = some (.int .i64 ((R j)[m]?.getD 0))
theorem To.later {w W : World} {B : Nat} {e : TypeId} {v : Value} {q : Nat} {R : Nat → List Int} (h : To w B e v q R) (hb : Below w.heap.size w W) : To W B e v q R := by
  obtain ⟨G, C, h1, h2⟩ := h
  exact ⟨G, C, own_later hb h1, fun j hj => ⟨(h2 j hj).1, Nat.lt_of_lt_of_le (h2 j hj).2.1 hb.size, fun m hm => cell_later hb ((h2 j hj).2.2 m hm)⟩⟩
theorem To.nil {w : World} {B b : Nat} {e : TypeId} {R : Nat → List Int} (hb : b = w.heap.size) (hB : B ≤ b) : To (w.alloc (.cells #[] e)) B e (.slice (some ⟨b, 0, none⟩) 0 0) 0 R := by
  subst hb
  exact ⟨fun _ => 0, fun _ => 0, World.ownsRow_made (base := B) (e := e) (size := 1) w #[] 0 hB (by decide) rfl, fun j hj => absurd hj (Nat.not_lt_zero _)⟩
/-- One row more has been appended. -/
theorem To.app {w W W' : World} {B : Nat} {e : TypeId} {v : Value} {q g cap g' cap' : Nat} {R : Nat → List Int} (h : ∃ G C : Nat → Nat, w.ownsRow B e 1 v q (TvS G C R q) ∧ (∀ j, j < q → v.ownBlock ≠ some (G j) ∧ G j < w.heap.size ∧ ∀ m, m < (R j).length → w.cell? ⟨G j, m, none⟩ = some (.int .i64 ((R j)[m]?.getD 0))) ∧
      W'.ownsRow B e 1 (.slice (some ⟨g', 0, none⟩) (q + 1) cap') (q + 1) (TvS G C R q ++ [.slice (some ⟨g, 0, none⟩) (R q).length cap]))
    (hW : Below w.heap.size w W) (hg : v.ownBlock ≠ some g) (hgl : g < w.heap.size) (hgc : ∀ m, m < (R q).length → w.cell? ⟨g, m, none⟩ = some (.int .i64 ((R q)[m]?.getD 0))) (hgr : W.grownBy W' v.ownBlock) (hat : v.ownBlock = some g' ∨ g' = W.heap.size) : To W' B e (.slice (some ⟨g', 0, none⟩) (q + 1) cap') (q + 1) R := by
  obtain ⟨G, C, h1, h2, h3⟩ := h
  have hz := hW.size
  have key : ∀ b, b < w.heap.size → v.ownBlock ≠ some b → (some g' : Option Nat) ≠ some b := fun b hb hv k => by
    injection k with k
    rcases hat with hat | hat
    · exact hv (by rw [hat, k])
    · omega
  have cells : ∀ b m x, b < w.heap.size → v.ownBlock ≠ some b → w.cell? ⟨b, m, none⟩ = some x → W'.cell? ⟨b, m, none⟩ = some x := fun b m x hb hv hc =>
    (World.cell?_of_block (hgr.block b (by omega) (fun k => hv k.symm))).trans (cell_later hW hc)
  refine ⟨fun j => if j = q then g else G j, fun j => if j = q then cap else C j, ?_, fun j hj => ?_⟩
  · rw [TvS_more (G := G) (C := C) (fun j hj => by have : ¬ j = q := by omega
                                                   simp only [this, ↓reduceIte, and_self])]
    simpa using h3
  · by_cases e1 : j = q
    · subst e1
      simp only [↓reduceIte]
      exact ⟨key g hgl hg, by have := hgr.size; omega, fun m hm => cells g m _ hgl hg (hgc m hm)⟩
    · simp only [e1, ↓reduceIte]
      obtain ⟨a1, a2, a3⟩ := h2 j (by omega)
      exact ⟨key _ a2 a1, by have := hgr.size; omega, fun m hm => cells _ m _ a2 a1 (a3 m hm)⟩
theorem To.read {w : World} {B : Nat} {e : TypeId} {v : Value} {q : Nat} {R : Nat → List Int} (h : To w B e v q R) : ∃ so cap, v = .slice so q cap ∧ RdT w so q R := by
  obtain ⟨G, C, h1, h2⟩ := h
  have hc := fun g (hg : v.ownBlock = some g) => World.ownsRow.cells h1 hg
  obtain ⟨_, ⟨rfl, h0⟩ | ⟨g, cap, cur, rfl, hB, hg, hn, _, hsz, htk⟩⟩ := h1
  · subst h0; exact ⟨none, 0, rfl, RdT.zero _ _ _⟩
  · refine ⟨_, _, rfl, fun j => some ⟨G j, 0, none⟩, C, fun i hi => ⟨g, 0, rfl, fun j hj => ?_⟩, fun i hi m hm => ⟨G i, 0, rfl, fun j hj => ?_⟩⟩
    · obtain rfl : j = 0 := by omega
      have := hc g rfl i (.slice (some ⟨G i, 0, none⟩) (R i).length (C i)) (by simp [TvS, hi])
      rw [Addr.add_lit, Nat.zero_add] at this
      rw [Nat.zero_add, Nat.mul_one, Nat.add_zero]; exact this
    · obtain rfl : j = 0 := by omega
      rw [Nat.zero_add, Nat.mul_one, Nat.add_zero]; exact (h2 i hi).2.2 m hm
/-- What the reference's table returns. -/
def RetS (w : World) (m : Nat) (R : Nat → List Int) (c : Int) (e : Ending) (w' : World) : Prop :=
  ∃ so cp, e = .returned (.tuple #[.slice so m cp, .int .i64 c]) ∧ RdT w' so m R ∧ Below w.heap.size w w'
set_option maxRecDepth 100000 in
set_option maxHeartbeats 8000000 in
theorem spec_KeepClearTable (wx wy : Int) (so : Option Addr) (n cap : Nat) (X Y H K L : Nat → Int) (U : Nat → Bool) (w : World) (h : RowAt w so n 6 (v6 X Y H K L U)) (hn : n ≤ 1048576) :
    Calls Try.prog 23 #[.agg #[.int .i64 wx, .int .i64 wy], .slice so n cap] w (RetS w (kcN wx wy X Y H K L n) (fun j => kcL (kq wx wy X Y H K L U) j n) (kcC wx wy X Y H K L n)) := by
  by_cases h16 : 16 < n
  · have Hr := hide (show decide (n ≤ 16) = false from decide_eq_false (by omega))
    have Ho := hide (show kcN wx wy X Y H K L n = 0 by unfold kcN; rw [Hr.out]; rfl)
    have Hd := hide (show kcC wx wy X Y H K L n = 3 by unfold kcC; rw [Hr.out]; rfl)
    rw [Ho.out, Hd.out]
    go_enter Try.func23, Try.ntmps23
    go_wp2
    go_ret2
    exact ⟨_, _, rfl, RdT.zero _ _ _, (by repeat (first | with_reducible exact Below.refl _ _ | with_reducible assumption | with_reducible refine Below.drew ?_ | with_reducible refine below_drewN ?_ _ | with_reducible refine Below.setCell ?_ (by first | exact Nat.le_refl _ | (simp; done) | (simp; omega) | (dsimp only; omega)) _ | with_reducible refine Below.alloc ?_ (by first | exact Nat.le_refl _ | (simp; done) | (simp; omega) | (simp at *; omega)) _ | with_reducible refine bstep ?_ (by assumption)))⟩
  have Hr := hide (show decide (n ≤ 16) = true from decide_eq_true (by omega))
  rcases b2 (isWd wx wy) with g1 | g1
  · have Ho := hide (show kcN wx wy X Y H K L n = 0 by unfold kcN; rw [Hr.out, g1]; rfl)
    have Hd := hide (show kcC wx wy X Y H K L n = 1 by unfold kcC; rw [Hr.out, g1]; rfl)
    rw [Ho.out, Hd.out]
    go_enter Try.func23, Try.ntmps23
    go_wp2_with (go_at_call 32; (with_reducible refine (spec_IsWind _ _ _).mono ?_); rintro e w9 ⟨rfl, hb⟩; obtain ⟨hc, hf⟩ := bcell hb; have hz := hb.size; have z0 : w.heap.size < w9.heap.size := (by first | omega | (simp at hz; omega)); have z1 : w.heap.size + 1 < w9.heap.size := (by first | omega | (simp at hz; omega)))
    go_ret2
    exact ⟨_, _, rfl, RdT.zero _ _ _, (by repeat (first | with_reducible exact Below.refl _ _ | with_reducible assumption | with_reducible refine Below.drew ?_ | with_reducible refine below_drewN ?_ _ | with_reducible refine Below.setCell ?_ (by first | exact Nat.le_refl _ | (simp; done) | (simp; omega) | (dsimp only; omega)) _ | with_reducible refine Below.alloc ?_ (by first | exact Nat.le_refl _ | (simp; done) | (simp; omega) | (simp at *; omega)) _ | with_reducible refine bstep ?_ (by assumption)))⟩
  obtain ⟨i0, hi, hz0, hz1, hz2⟩ := info_parts infoRow
  have Hi0 := hide hi
  have Hz0 := hide (And.intro hz0 (And.intro hz1 hz2))
  clear hi hz0 hz1 hz2
  obtain ⟨i1, hi, hz0, hz1, hz2⟩ := info_parts infoInt
  have Hi := hide hi
  have Hz := hide (And.intro hz0 (And.intro hz1 hz2))
  clear hi hz0 hz1 hz2
  go_enter Try.func23, Try.ntmps23
  go_wp2_with (go_at_call 32; (with_reducible refine (spec_IsWind _ _ _).mono ?_); rintro e w9 ⟨rfl, hb⟩; obtain ⟨hc, hf⟩ := bcell hb; have hz := hb.size; have z0 : w.heap.size < w9.heap.size := (by first | omega | (simp at hz; omega)); have z1 : w.heap.size + 1 < w9.heap.size := (by first | omega | (simp at hz; omega)))
  obtain ⟨wS, rfl⟩ : ∃ wS : World, wS = w9 := ⟨_, rfl⟩
  have d0 : wS.cell? ⟨w.heap.size, 0, none⟩ = some (.int .i64 wx) := by go_simp
  have d1 : wS.cell? ⟨w.heap.size, 1, none⟩ = some (.int .i64 wy) := by go_simp
  have hHb := hide (show Below w.heap.size w wS from (by repeat (first | with_reducible exact Below.refl _ _ | with_reducible assumption | with_reducible refine Below.drew ?_ | with_reducible refine below_drewN ?_ _ | with_reducible refine Below.setCell ?_ (by first | exact Nat.le_refl _ | (simp; done) | (simp; omega) | (dsimp only; omega)) _ | with_reducible refine Below.alloc ?_ (by first | exact Nat.le_refl _ | (simp; done) | (simp; omega) | (simp at *; omega)) _ | with_reducible refine bstep ?_ (by assumption))))
  have hTo := hide (show To wS (w.heap.size + 1) 68 (.slice (some ⟨w.heap.size + 1, 0, none⟩) 0 0) 0 (fun j => kcL (kq wx wy X Y H K L U) j n) from To.later (To.nil (w := w.alloc (.cells #[.int .i64 wx, .int .i64 wy] 25)) (by simp) (Nat.le_refl _)) hb)
  clear hb hc hf
  go_wp2
  go_loopw [7] (fun i wr => ∃ k : Nat, k ≤ n ∧ i = .int .i64 k ∧ Hid (husOk X Y H K L k = true) ∧ Below wS.heap.size wS wr) (fun i _ => n - (intOf i).toNat)
  case atStart => exact ⟨0, Nat.zero_le _, rfl, hide rfl, Below.refl _ _⟩
  case round =>
    obtain ⟨k, hk, rfl, Hk, hbl⟩ := hrel
    have zr := hbl.size
    have HB2 := hide (bstep hHb.out hbl)
    have c0 := cell_later hbl d0
    have c1 := cell_later hbl d1
    have zr0 : w.heap.size < wr.heap.size := by omega
    have zr1 : w.heap.size + 1 < wr.heap.size := by omega
    clear d0 d1
    by_cases hlt : k < n
    · obtain ⟨b, o, rfl, hbs, e0, e1, e2, e3, e4, e5⟩ := (RowAt.later HB2.out h).at6 k hlt
      have hi1 : (0 : Int) ≤ (k : Int) := by omega
      have hi2 : (k : Int) < (n : Int) := by omega
      rcases b2 (isHu (X k) (Y k) (H k) (K k) (L k)) with g2 | g2
      · have Ho := hide (show kcN wx wy X Y H K L n = 0 by unfold kcN; rw [Hr.out, g1, husOk_f hlt g2]; rfl)
        have Hd := hide (show kcC wx wy X Y H K L n = 1 by unfold kcC; rw [Hr.out, g1, husOk_f hlt g2]; rfl)
        go_wp2_with (go_at_call 54; (with_reducible refine (spec_IsHull _ _ _ _ _ _).mono ?_); rintro e w9 ⟨rfl, hb⟩; obtain ⟨hc, hf⟩ := bcell hb; have hz := hb.size; have z0 : w.heap.size < w9.heap.size := (by first | omega | (simp at hz; omega)); have z1 : w.heap.size + 1 < w9.heap.size := (by first | omega | (simp at hz; omega)); have zzb : b < w9.heap.size := (by first | omega | (simp at hz; omega)))
        go_ret2
        rw [Ho.out, Hd.out]
        exact ⟨_, _, rfl, RdT.zero _ _ _, HB2.out.trans (hb.mono (by omega))⟩
      · go_wp2_with (go_at_call 54; (with_reducible refine (spec_IsHull _ _ _ _ _ _).mono ?_); rintro e w9 ⟨rfl, hb⟩; obtain ⟨hc, hf⟩ := bcell hb; have hz := hb.size; have z0 : w.heap.size < w9.heap.size := (by first | omega | (simp at hz; omega)); have z1 : w.heap.size + 1 < w9.heap.size := (by first | omega | (simp at hz; omega)); have zzb : b < w9.heap.size := (by first | omega | (simp at hz; omega)))
        go_roundw
        case rel => exact ⟨k + 1, by omega, by go_num, hide (husOk_s Hk.out g2), (by repeat (first | with_reducible exact Below.refl _ _ | with_reducible assumption | with_reducible refine Below.drew ?_ | with_reducible refine below_drewN ?_ _ | with_reducible refine Below.setCell ?_ (by first | exact Nat.le_refl _ | (simp; done) | (simp; omega) | (dsimp only; omega)) _ | with_reducible refine Below.alloc ?_ (by first | exact Nat.le_refl _ | (simp; done) | (simp; omega) | (simp at *; omega)) _ | with_reducible refine bstep ?_ (by assumption)))⟩
        case measure => simp [intOf]; omega
    · obtain rfl : k = n := by omega
      have Hn := hide (show kcN wx wy X Y H K L k = k by unfold kcN; rw [Hr.out, g1, Hk.out]; rfl)
      have Hd := hide (show kcC wx wy X Y H K L k = 0 by unfold kcC; rw [Hr.out, g1, Hk.out]; rfl)
      have Hu := hide (husOk_t Hk.out)
      have HT0 := hide (hTo.out.later hbl)
      obtain ⟨wQ, rfl⟩ : ∃ x : World, x = wr := ⟨_, rfl⟩
      have HBQ := HB2.out
      go_wp2
      go_loopw [6, 8] (fun v i wr => ∃ q : Nat, q ≤ k ∧ i = .int .i64 q ∧ Hid (To wr (w.heap.size + 1) 68 v q fun j => kcL (kq wx wy X Y H K L U) j k) ∧ wr.cell? ⟨w.heap.size, 0, none⟩ = some (.int .i64 wx) ∧ wr.cell? ⟨w.heap.size, 1, none⟩ = some (.int .i64 wy) ∧ Below w.heap.size w wr ∧ wQ.heap.size ≤ wr.heap.size) (fun _ i _ => k - (intOf i).toNat)
      case atStart => exact ⟨0, Nat.zero_le _, rfl, HT0, c0, c1, HBQ, Nat.le_refl _⟩
      case round =>
        clear c0 c1 HBQ HT0 hTo
        obtain ⟨q, hq, rfl, HT, c0, c1, hbq, hsz⟩ := hrel
        obtain ⟨wo, rfl⟩ : ∃ x : World, x = wr := ⟨_, rfl⟩
        have zo0 : w.heap.size < wo.heap.size := by omega
        have zo1 : w.heap.size + 1 < wo.heap.size := by omega
        by_cases hlt : q < k
        · have Hbq := hide hbq
          have hO0 := hide (show (wo.alloc (.cells #[] 2)).ownsRow wo.heap.size 2 1 (.slice (some ⟨wo.heap.size, 0, none⟩) 0 0) 0 ((kcL (kq wx wy X Y H K L U) q 0).map (Value.int .i64)) from World.ownsRow_made (base := wo.heap.size) (e := 2) (size := 1) wo #[] 0 (by omega) (by decide) rfl)
          go_wp2
          go_loopw [9, 10] (fun v i wr => ∃ m g9 cp9 : Nat, m ≤ k ∧ i = .int .i64 m ∧ v = .slice (some ⟨g9, 0, none⟩) (kcL (kq wx wy X Y H K L U) q m).length cp9 ∧ Hid (wr.ownsRow wo.heap.size 2 1 (.slice (some ⟨g9, 0, none⟩) (kcL (kq wx wy X Y H K L U) q m).length cp9) (kcL (kq wx wy X Y H K L U) q m).length ((kcL (kq wx wy X Y H K L U) q m).map (Value.int .i64))) ∧ Below wo.heap.size wo wr) (fun _ i _ => k - (intOf i).toNat)
          case atStart => exact ⟨0, wo.heap.size, 0, Nat.zero_le _, rfl, rfl, hO0, Below.alloc (Below.refl _ _) (Nat.le_refl _) _⟩
          case round =>
            clear hO0
            obtain ⟨m, g9, cp9, hm, rfl, rfl, HO, hbm⟩ := hrel
            have zm := hbm.size
            have b0 := cell_later hbm c0
            have b1 := cell_later hbm c1
            have HB3 := hide (bstep Hbq.out hbm)
            have zr0 : w.heap.size < wr.heap.size := by omega
            have zr1 : w.heap.size + 1 < wr.heap.size := by omega
            by_cases hlt2 : m < k
            · obtain ⟨b, o, rfl, hbs, e0, e1, e2, e3, e4, e5⟩ := (RowAt.later HB3.out h).at6 q hlt
              obtain ⟨f0, f1, f2, f3, f4, f5⟩ := (RowAt.later HB3.out h).on6 m hlt2
              have hi1 : (0 : Int) ≤ (q : Int) := by omega
              have hi2 : (q : Int) < (k : Int) := by omega
              have hi3 : (0 : Int) ≤ (m : Int) := by omega
              have hi4 : (m : Int) < (k : Int) := by omega
              by_cases hmq : m = q
              · have Hn' := hide (kcL_no (q := kq wx wy X Y H K L U) (i := q) (m := m) (.inl hmq))
                have hmi : ((m : Int) != (q : Int)) = false := by rw [show (m : Int) = (q : Int) by omega]; exact bne_self_eq_false _
                go_upto_region 18 with fail
                refine wp_region_held_drew (S := fun W => Below wr.heap.size wr W) (by kernel_rfl) (Below.drew (Below.refl _ _)) (fun hHeld => ?_)
                refine wpAnyH_take (i := 0) (oi := ⟨some 47, _, _, _, _, _⟩) (v := ?_) rfl (by kernel_rfl) (by kernel_rfl) (by kernel_rfl) (fun _ _ _ h => h) (Or.inl ⟨by kernel_rfl, ?_⟩) (by assumption) ?_; rotate_left; focus (intro W0 hSw; go_simp; (try with_reducible rfl)); (try simp only [Act.put, List.setIfInBounds_toArray, List.set_cons_zero, List.set_cons_succ])
                refine wpAnyH_take (i := 1) (oi := ⟨some 48, _, _, _, _, _⟩) (v := ?_) rfl (by kernel_rfl) (by kernel_rfl) (by kernel_rfl) (fun _ _ _ h => h) (Or.inl ⟨by kernel_rfl, ?_⟩) (by assumption) ?_; rotate_left; focus (intro W0 hSw; go_simp; (try with_reducible rfl)); (try simp only [Act.put, List.setIfInBounds_toArray, List.set_cons_zero, List.set_cons_succ])
                refine wpAnyH_take (i := 2) (oi := ⟨some 49, _, _, _, _, _⟩) (v := ?_) rfl (by kernel_rfl) (by kernel_rfl) (by kernel_rfl) (fun _ _ _ h => h) (Or.inl ⟨by kernel_rfl, ?_⟩) (by assumption) ?_; rotate_left; focus (intro W0 hSw; go_simp; (try with_reducible rfl)); (try simp only [Act.put, List.setIfInBounds_toArray, List.set_cons_zero, List.set_cons_succ])
                refine wpAnyH_take (i := 3) (oi := ⟨some 50, _, _, _, _, _⟩) (v := ?_) rfl (by kernel_rfl) (by kernel_rfl) (by kernel_rfl) (fun _ _ _ h => h) (Or.inl ⟨by kernel_rfl, ?_⟩) (by assumption) ?_; rotate_left; focus (intro W0 hSw; go_simp; (try with_reducible rfl)); (try simp only [Act.put, List.setIfInBounds_toArray, List.set_cons_zero, List.set_cons_succ])
                refine wpAnyH_take (i := 4) (oi := ⟨some 51, _, _, _, _, _⟩) (v := undef) rfl (by kernel_rfl) (by kernel_rfl) (by kernel_rfl) (fun _ _ _ h => h) (Or.inr ⟨by kernel_rfl, rfl⟩) (by assumption) ?_; (try simp only [Act.put, List.setIfInBounds_toArray, List.set_cons_zero, List.set_cons_succ])
                refine wpAnyH_take (i := 5) (oi := ⟨some 52, _, _, _, _, _⟩) (v := undef) rfl (by kernel_rfl) (by kernel_rfl) (by kernel_rfl) (fun _ _ _ h => h) (Or.inr ⟨by kernel_rfl, rfl⟩) (by assumption) ?_; (try simp only [Act.put, List.setIfInBounds_toArray, List.set_cons_zero, List.set_cons_succ])
                refine wpAnyH_take (i := 6) (oi := ⟨some 53, _, _, _, _, _⟩) (v := undef) rfl (by kernel_rfl) (by kernel_rfl) (by kernel_rfl) (fun _ _ _ h => h) (Or.inr ⟨by kernel_rfl, rfl⟩) (by assumption) ?_; (try simp only [Act.put, List.setIfInBounds_toArray, List.set_cons_zero, List.set_cons_succ])
                refine wpAnyH_take (i := 7) (oi := ⟨some 54, _, _, _, _, _⟩) (v := undef) rfl (by kernel_rfl) (by kernel_rfl) (by kernel_rfl) (fun _ _ _ h => h) (Or.inr ⟨by kernel_rfl, rfl⟩) (by assumption) ?_; (try simp only [Act.put, List.setIfInBounds_toArray, List.set_cons_zero, List.set_cons_succ])
                refine wpAnyH_take (i := 8) (oi := ⟨some 55, _, _, _, _, _⟩) (v := undef) rfl (by kernel_rfl) (by kernel_rfl) (by kernel_rfl) (fun _ _ _ h => h) (Or.inr ⟨by kernel_rfl, rfl⟩) (by assumption) ?_; (try simp only [Act.put, List.setIfInBounds_toArray, List.set_cons_zero, List.set_cons_succ])
                refine wpAnyH_take (i := 9) (oi := ⟨some 56, _, _, _, _, _⟩) (v := undef) rfl (by kernel_rfl) (by kernel_rfl) (by kernel_rfl) (fun _ _ _ h => h) (Or.inr ⟨by kernel_rfl, rfl⟩) (by assumption) ?_; (try simp only [Act.put, List.setIfInBounds_toArray, List.set_cons_zero, List.set_cons_succ])
                refine wpAnyH_take (i := 10) (oi := ⟨some 57, _, _, _, _, _⟩) (v := undef) rfl (by kernel_rfl) (by kernel_rfl) (by kernel_rfl) (fun _ _ _ h => h) (Or.inr ⟨by kernel_rfl, rfl⟩) (by assumption) ?_; (try simp only [Act.put, List.setIfInBounds_toArray, List.set_cons_zero, List.set_cons_succ])
                refine wpAnyH_take (i := 11) (oi := ⟨some 58, _, _, _, _, _⟩) (v := undef) rfl (by kernel_rfl) (by kernel_rfl) (by kernel_rfl) (fun _ _ _ h => h) (Or.inr ⟨by kernel_rfl, rfl⟩) (by assumption) ?_; (try simp only [Act.put, List.setIfInBounds_toArray, List.set_cons_zero, List.set_cons_succ])
                refine wpAnyH_take (i := 12) (oi := ⟨some 59, _, _, _, _, _⟩) (v := undef) rfl (by kernel_rfl) (by kernel_rfl) (by kernel_rfl) (fun _ _ _ h => h) (Or.inr ⟨by kernel_rfl, rfl⟩) (by assumption) ?_; (try simp only [Act.put, List.setIfInBounds_toArray, List.set_cons_zero, List.set_cons_succ])
                refine wpAnyH_take (i := 13) (oi := ⟨some 60, _, _, _, _, _⟩) (v := undef) rfl (by kernel_rfl) (by kernel_rfl) (by kernel_rfl) (fun _ _ _ h => h) (Or.inr ⟨by kernel_rfl, rfl⟩) (by assumption) ?_; (try simp only [Act.put, List.setIfInBounds_toArray, List.set_cons_zero, List.set_cons_succ])
                refine wpAnyH_take (i := 14) (oi := ⟨some 61, _, _, _, _, _⟩) (v := undef) rfl (by kernel_rfl) (by kernel_rfl) (by kernel_rfl) (fun _ _ _ h => h) (Or.inr ⟨by kernel_rfl, rfl⟩) (by assumption) ?_; (try simp only [Act.put, List.setIfInBounds_toArray, List.set_cons_zero, List.set_cons_succ])
                refine wpAnyH_take (i := 15) (oi := ⟨some 62, _, _, _, _, _⟩) (v := undef) rfl (by kernel_rfl) (by kernel_rfl) (by kernel_rfl) (fun _ _ _ h => h) (Or.inr ⟨by kernel_rfl, rfl⟩) (by assumption) ?_; (try simp only [Act.put, List.setIfInBounds_toArray, List.set_cons_zero, List.set_cons_succ])
                refine wpAnyH_take (i := 16) (oi := ⟨some 63, _, _, _, _, _⟩) (v := ?_) rfl (by kernel_rfl) (by kernel_rfl) (by kernel_rfl) (fun _ _ _ h => h) (Or.inl ⟨by kernel_rfl, ?_⟩) (by assumption) ?_; rotate_left; focus (intro W0 hSw; go_simp; (try with_reducible rfl)); (try simp only [Act.put, List.setIfInBounds_toArray, List.set_cons_zero, List.set_cons_succ])
                refine wpAnyH_done (by kernel_rfl) ?_ _; (try simp only [Act.put, List.setIfInBounds_toArray, List.set_cons_zero, List.set_cons_succ])
                go_wp2
                go_roundw
                case rel => exact ⟨m + 1, g9, cp9, by omega, by go_num, by rw [Hn'.out], by rw [Hn'.out]; exact HO, (by repeat (first | with_reducible exact Below.refl _ _ | with_reducible assumption | with_reducible refine Below.drew ?_ | with_reducible refine below_drewN ?_ _ | with_reducible refine Below.setCell ?_ (by first | exact Nat.le_refl _ | (simp; done) | (simp; omega) | (dsimp only; omega)) _ | with_reducible refine Below.alloc ?_ (by first | exact Nat.le_refl _ | (simp; done) | (simp; omega) | (simp at *; omega)) _ | with_reducible refine bstep ?_ (by assumption)))⟩
                case measure => simp [intOf]; omega
              · have hmi : ((m : Int) != (q : Int)) = true := bne_iff_ne.2 (by omega)
                have K8 := hide (fun W => spec_l10Rule wx wy (X q) (Y q) (H q) (K q) (L q) (U q) (X m) (Y m) (H m) (K m) (L m) (U m) g1 (Hu.out q hlt) (Hu.out m hlt2) W)
                obtain ⟨r1, hr1⟩ : ∃ x : Int, x = (rulI wx wy (X q) (Y q) (H q) (K q) (L q) (U q) (X m) (Y m) (H m) (K m) (L m) (U m)).1 := ⟨_, rfl⟩
                obtain ⟨r2, hr2⟩ : ∃ x : Int, x = (rulI wx wy (X q) (Y q) (H q) (K q) (L q) (U q) (X m) (Y m) (H m) (K m) (L m) (U m)).2 := ⟨_, rfl⟩
                rw [← hr1, ← hr2] at K8
                have hkq : kq wx wy X Y H K L U q m = (r1 == 1) := by unfold kq; rw [← hr1]
                have hfd := fun (W : World) (x : Int) => (show (Instr.field 47 (.agg #[.int .i64 x, .int .i64 r2]) 0).run Try.prog W = .ok (.int .i64 x) W by kernel_rfl)
                have hl9 := kcL_len (kq wx wy X Y H K L U) q m
                clear hr1 hr2
                obtain ⟨Lq, hLq⟩ : ∃ x, x = kcL (kq wx wy X Y H K L U) q m := ⟨_, rfl⟩
                by_cases h1 : r1 = 1
                · have Hn' := hide (kcL_yes (q := kq wx wy X Y H K L U) (i := q) (m := m) hmq (by rw [hkq, h1]; rfl))
                  subst h1
                  rw [← hLq] at HO hl9 Hn' ⊢
                  clear hkq hLq
                  go_upto_region 18 with fail
                  refine wp_region_held_drew (S := fun W => Below wr.heap.size wr W) (by kernel_rfl) (Below.drew (Below.refl _ _)) (fun hHeld => ?_)
                  refine wpAnyH_take (i := 0) (oi := ⟨some 47, _, _, _, _, _⟩) (v := ?_) rfl (by kernel_rfl) (by kernel_rfl) (by kernel_rfl) (fun _ _ _ h => h) (Or.inl ⟨by kernel_rfl, ?_⟩) (by assumption) ?_; rotate_left; focus (intro W0 hSw; go_simp; (try with_reducible rfl)); (try simp only [Act.put, List.setIfInBounds_toArray, List.set_cons_zero, List.set_cons_succ])
                  refine wpAnyH_take (i := 1) (oi := ⟨some 48, _, _, _, _, _⟩) (v := ?_) rfl (by kernel_rfl) (by kernel_rfl) (by kernel_rfl) (fun _ _ _ h => h) (Or.inl ⟨by kernel_rfl, ?_⟩) (by assumption) ?_; rotate_left; focus (intro W0 hSw; go_simp; (try with_reducible rfl)); (try simp only [Act.put, List.setIfInBounds_toArray, List.set_cons_zero, List.set_cons_succ])
                  refine wpAnyH_take (i := 2) (oi := ⟨some 49, _, _, _, _, _⟩) (v := ?_) rfl (by kernel_rfl) (by kernel_rfl) (by kernel_rfl) (fun _ _ _ h => h) (Or.inl ⟨by kernel_rfl, ?_⟩) (by assumption) ?_; rotate_left; focus (intro W0 hSw; go_simp; (try with_reducible rfl)); (try simp only [Act.put, List.setIfInBounds_toArray, List.set_cons_zero, List.set_cons_succ])
                  refine wpAnyH_take (i := 3) (oi := ⟨some 50, _, _, _, _, _⟩) (v := ?_) rfl (by kernel_rfl) (by kernel_rfl) (by kernel_rfl) (fun _ _ _ h => h) (Or.inl ⟨by kernel_rfl, ?_⟩) (by assumption) ?_; rotate_left; focus (intro W0 hSw; go_simp; (try with_reducible rfl)); (try simp only [Act.put, List.setIfInBounds_toArray, List.set_cons_zero, List.set_cons_succ])
                  refine wpAnyH_take (i := 4) (oi := ⟨some 51, _, _, _, _, _⟩) (v := ?_) rfl (by kernel_rfl) (by kernel_rfl) (by kernel_rfl) (fun _ _ _ h => h) (Or.inl ⟨by kernel_rfl, ?_⟩) (by assumption) ?_; rotate_left; focus (intro W0 hSw; have hcS := (bcell hSw).1; go_simp; (try with_reducible rfl)); (try simp only [Act.put, List.setIfInBounds_toArray, List.set_cons_zero, List.set_cons_succ])
                  refine wpAnyH_take (i := 5) (oi := ⟨some 52, _, _, _, _, _⟩) (v := ?_) rfl (by kernel_rfl) (by kernel_rfl) (by kernel_rfl) (fun _ _ _ h => h) (Or.inl ⟨by kernel_rfl, ?_⟩) (by assumption) ?_; rotate_left; focus (intro W0 hSw; go_simp; (try with_reducible rfl)); (try simp only [Act.put, List.setIfInBounds_toArray, List.set_cons_zero, List.set_cons_succ])
                  refine wpAnyH_take (i := 6) (oi := ⟨some 53, _, _, _, _, _⟩) (v := ?_) rfl (by kernel_rfl) (by kernel_rfl) (by kernel_rfl) (fun _ _ _ h => h) (Or.inl ⟨by kernel_rfl, ?_⟩) (by assumption) ?_; rotate_left; focus (intro W0 hSw; go_simp; (try with_reducible rfl)); (try simp only [Act.put, List.setIfInBounds_toArray, List.set_cons_zero, List.set_cons_succ])
                  refine wpAnyH_take (i := 7) (oi := ⟨some 54, _, _, _, _, _⟩) (v := ?_) rfl (by kernel_rfl) (by kernel_rfl) (by kernel_rfl) (fun _ _ _ h => h) (Or.inl ⟨by kernel_rfl, ?_⟩) (by assumption) ?_; rotate_left; focus (intro W0 hSw; go_simp; (try with_reducible rfl)); (try simp only [Act.put, List.setIfInBounds_toArray, List.set_cons_zero, List.set_cons_succ])
                  refine wpAnyH_take (i := 8) (oi := ⟨some 55, _, _, _, _, _⟩) (v := ?_) rfl (by kernel_rfl) (by kernel_rfl) (by kernel_rfl) (fun _ _ _ h => h) (Or.inl ⟨by kernel_rfl, ?_⟩) (by assumption) ?_; rotate_left; focus (intro W0 hSw; have hcS := (bcell hSw).1; go_simp; (try with_reducible rfl)); (try simp only [Act.put, List.setIfInBounds_toArray, List.set_cons_zero, List.set_cons_succ])
                  refine wpAnyH_take (i := 9) (oi := ⟨some 56, _, _, _, _, _⟩) (v := ?_) rfl (by kernel_rfl) (by kernel_rfl) (by kernel_rfl) (fun _ _ _ h => h) (Or.inl ⟨by kernel_rfl, ?_⟩) (by assumption) ?_; rotate_left; focus (intro W0 hSw; go_simp; (try with_reducible rfl)); (try simp only [Act.put, List.setIfInBounds_toArray, List.set_cons_zero, List.set_cons_succ])
                  refine wpAnyH_take (i := 10) (oi := ⟨some 57, _, _, _, _, _⟩) (v := ?_) rfl (by kernel_rfl) (by kernel_rfl) (by kernel_rfl) (fun _ _ _ h => h) (Or.inl ⟨by kernel_rfl, ?_⟩) (by assumption) ?_; rotate_left; focus (intro W0 hSw; go_simp; (try with_reducible rfl)); (try simp only [Act.put, List.setIfInBounds_toArray, List.set_cons_zero, List.set_cons_succ])
                  refine wpAnyH_take (i := 11) (oi := ⟨some 58, _, _, _, _, _⟩) (v := ?_) rfl (by kernel_rfl) (by kernel_rfl) (by kernel_rfl) (fun _ _ _ h => h) (Or.inl ⟨by kernel_rfl, ?_⟩) (by assumption) ?_; rotate_left; focus (intro W0 hSw; go_simp; (try with_reducible rfl)); (try simp only [Act.put, List.setIfInBounds_toArray, List.set_cons_zero, List.set_cons_succ])
                  refine wpAnyH_take (i := 12) (oi := ⟨some 59, _, _, _, _, _⟩) (v := ?_) rfl (by kernel_rfl) (by kernel_rfl) (by kernel_rfl) (fun _ _ _ h => h) (Or.inl ⟨by kernel_rfl, ?_⟩) (by assumption) ?_; rotate_left; focus (intro W0 hSw; have hcS := (bcell hSw).1; go_simp; (try with_reducible rfl)); (try simp only [Act.put, List.setIfInBounds_toArray, List.set_cons_zero, List.set_cons_succ])
                  refine wpAnyH_ready (rs := [13]) (by kernel_rfl) (by simp) ?_; refine (AllReadyH.cons (o := ⟨some 60, _, _, _, _, _⟩) rfl (fun K hK => ?_) AllReadyH.nil)
                  go_simp; (go_at_call 48; (with_reducible refine (K8.out _).mono ?_); rintro e w9 ⟨rfl, hb⟩; have hzz := hb.size)
                  all_goals (try go_wp2_with fail)
                  refine hK.out _ _ ?_ (fun hH2 => ?_)
                  · first | exact bstep hHeld hb | exact hHeld
                  clear hK K hHeld; (have hHeld := hH2); clear hH2; (try simp only [Act.put, List.setIfInBounds_toArray, List.set_cons_zero, List.set_cons_succ])
                  refine wpAnyH_take (i := 14) (oi := ⟨some 61, _, _, _, _, _⟩) (v := ?_) rfl (by kernel_rfl) (by kernel_rfl) (by kernel_rfl) (fun _ _ _ h => h) (Or.inl ⟨by kernel_rfl, ?_⟩) (by assumption) ?_; rotate_left; focus (intro W0 hSw; go_simp; (try with_reducible rfl)); (try simp only [Act.put, List.setIfInBounds_toArray, List.set_cons_zero, List.set_cons_succ])
                  refine wpAnyH_take (i := 15) (oi := ⟨some 62, _, _, _, _, _⟩) (v := ?_) rfl (by kernel_rfl) (by kernel_rfl) (by kernel_rfl) (fun _ _ _ h => h) (Or.inl ⟨by kernel_rfl, ?_⟩) (by assumption) ?_; rotate_left; focus (intro W0 hSw; go_simp; (try with_reducible rfl)); (try simp only [Act.put, List.setIfInBounds_toArray, List.set_cons_zero, List.set_cons_succ])
                  refine wpAnyH_take (i := 16) (oi := ⟨some 63, _, _, _, _, _⟩) (v := ?_) rfl (by kernel_rfl) (by kernel_rfl) (by kernel_rfl) (fun _ _ _ h => h) (Or.inl ⟨by kernel_rfl, ?_⟩) (by assumption) ?_; rotate_left; focus (intro W0 hSw; go_simp; (try with_reducible rfl)); (try simp only [Act.put, List.setIfInBounds_toArray, List.set_cons_zero, List.set_cons_succ])
                  refine wpAnyH_done (by kernel_rfl) ?_ _; (try simp only [Act.put, List.setIfInBounds_toArray, List.set_cons_zero, List.set_cons_succ])
                  obtain ⟨wC, rfl⟩ : ∃ x : World, x = w9 := ⟨_, rfl⟩
                  have hO9 := own_later hHeld HO.out
                  have zC := hHeld.size
                  go_wp2_with (at_builtin; refine wpList_append_lies _ rfl _ _ 68 rfl wo.heap.size 2 i1 _ 1 8 Try.underlying68 Hi.out Hz.out.1 Hz.out.2.1 Hz.out.2.2 rfl (by decide) _ _ _ rfl (hO9.alloc _) ⟨wC.heap.size, 0, none⟩ 1 1 [.int .i64 m] rfl rfl new1 (one1 _) (by decide) (by unfold maxLen; omega) (by omega) (by simp; omega) (wC.heap.size + 1) (by simp) ?_)
                  intro g' cap' wA hown' hgr hat hlt'
                  have hbA := below_grown hO9 (by omega) hgr
                  go_wp2
                  go_roundw
                  case rel => exact ⟨m + 1, g', cap', by omega, by go_num, by rw [Hn'.out, List.length_append, List.length_singleton], by rw [Hn'.out, List.length_append, List.length_singleton, List.map_append]; exact hown', (bstep hbm hHeld).trans hbA⟩
                  case measure => simp [intOf]; omega
                · have h1b : (r1 == 1) = false := beq_eq_false_iff_ne.2 h1
                  have Hn' := hide (kcL_no (q := kq wx wy X Y H K L U) (i := q) (m := m) (.inr (by rw [hkq, h1b])))
                  rw [← hLq] at HO hl9 Hn' ⊢
                  clear hkq hLq
                  go_upto_region 18 with fail
                  refine wp_region_held_drew (S := fun W => Below wr.heap.size wr W) (by kernel_rfl) (Below.drew (Below.refl _ _)) (fun hHeld => ?_)
                  refine wpAnyH_take (i := 0) (oi := ⟨some 47, _, _, _, _, _⟩) (v := ?_) rfl (by kernel_rfl) (by kernel_rfl) (by kernel_rfl) (fun _ _ _ h => h) (Or.inl ⟨by kernel_rfl, ?_⟩) (by assumption) ?_; rotate_left; focus (intro W0 hSw; go_simp; (try with_reducible rfl)); (try simp only [Act.put, List.setIfInBounds_toArray, List.set_cons_zero, List.set_cons_succ])
                  refine wpAnyH_take (i := 1) (oi := ⟨some 48, _, _, _, _, _⟩) (v := ?_) rfl (by kernel_rfl) (by kernel_rfl) (by kernel_rfl) (fun _ _ _ h => h) (Or.inl ⟨by kernel_rfl, ?_⟩) (by assumption) ?_; rotate_left; focus (intro W0 hSw; go_simp; (try with_reducible rfl)); (try simp only [Act.put, List.setIfInBounds_toArray, List.set_cons_zero, List.set_cons_succ])
                  refine wpAnyH_take (i := 2) (oi := ⟨some 49, _, _, _, _, _⟩) (v := ?_) rfl (by kernel_rfl) (by kernel_rfl) (by kernel_rfl) (fun _ _ _ h => h) (Or.inl ⟨by kernel_rfl, ?_⟩) (by assumption) ?_; rotate_left; focus (intro W0 hSw; go_simp; (try with_reducible rfl)); (try simp only [Act.put, List.setIfInBounds_toArray, List.set_cons_zero, List.set_cons_succ])
                  refine wpAnyH_take (i := 3) (oi := ⟨some 50, _, _, _, _, _⟩) (v := ?_) rfl (by kernel_rfl) (by kernel_rfl) (by kernel_rfl) (fun _ _ _ h => h) (Or.inl ⟨by kernel_rfl, ?_⟩) (by assumption) ?_; rotate_left; focus (intro W0 hSw; go_simp; (try with_reducible rfl)); (try simp only [Act.put, List.setIfInBounds_toArray, List.set_cons_zero, List.set_cons_succ])
                  refine wpAnyH_take (i := 4) (oi := ⟨some 51, _, _, _, _, _⟩) (v := ?_) rfl (by kernel_rfl) (by kernel_rfl) (by kernel_rfl) (fun _ _ _ h => h) (Or.inl ⟨by kernel_rfl, ?_⟩) (by assumption) ?_; rotate_left; focus (intro W0 hSw; have hcS := (bcell hSw).1; go_simp; (try with_reducible rfl)); (try simp only [Act.put, List.setIfInBounds_toArray, List.set_cons_zero, List.set_cons_succ])
                  refine wpAnyH_take (i := 5) (oi := ⟨some 52, _, _, _, _, _⟩) (v := ?_) rfl (by kernel_rfl) (by kernel_rfl) (by kernel_rfl) (fun _ _ _ h => h) (Or.inl ⟨by kernel_rfl, ?_⟩) (by assumption) ?_; rotate_left; focus (intro W0 hSw; go_simp; (try with_reducible rfl)); (try simp only [Act.put, List.setIfInBounds_toArray, List.set_cons_zero, List.set_cons_succ])
                  refine wpAnyH_take (i := 6) (oi := ⟨some 53, _, _, _, _, _⟩) (v := ?_) rfl (by kernel_rfl) (by kernel_rfl) (by kernel_rfl) (fun _ _ _ h => h) (Or.inl ⟨by kernel_rfl, ?_⟩) (by assumption) ?_; rotate_left; focus (intro W0 hSw; go_simp; (try with_reducible rfl)); (try simp only [Act.put, List.setIfInBounds_toArray, List.set_cons_zero, List.set_cons_succ])
                  refine wpAnyH_take (i := 7) (oi := ⟨some 54, _, _, _, _, _⟩) (v := ?_) rfl (by kernel_rfl) (by kernel_rfl) (by kernel_rfl) (fun _ _ _ h => h) (Or.inl ⟨by kernel_rfl, ?_⟩) (by assumption) ?_; rotate_left; focus (intro W0 hSw; go_simp; (try with_reducible rfl)); (try simp only [Act.put, List.setIfInBounds_toArray, List.set_cons_zero, List.set_cons_succ])
                  refine wpAnyH_take (i := 8) (oi := ⟨some 55, _, _, _, _, _⟩) (v := ?_) rfl (by kernel_rfl) (by kernel_rfl) (by kernel_rfl) (fun _ _ _ h => h) (Or.inl ⟨by kernel_rfl, ?_⟩) (by assumption) ?_; rotate_left; focus (intro W0 hSw; have hcS := (bcell hSw).1; go_simp; (try with_reducible rfl)); (try simp only [Act.put, List.setIfInBounds_toArray, List.set_cons_zero, List.set_cons_succ])
                  refine wpAnyH_take (i := 9) (oi := ⟨some 56, _, _, _, _, _⟩) (v := ?_) rfl (by kernel_rfl) (by kernel_rfl) (by kernel_rfl) (fun _ _ _ h => h) (Or.inl ⟨by kernel_rfl, ?_⟩) (by assumption) ?_; rotate_left; focus (intro W0 hSw; go_simp; (try with_reducible rfl)); (try simp only [Act.put, List.setIfInBounds_toArray, List.set_cons_zero, List.set_cons_succ])
                  refine wpAnyH_take (i := 10) (oi := ⟨some 57, _, _, _, _, _⟩) (v := ?_) rfl (by kernel_rfl) (by kernel_rfl) (by kernel_rfl) (fun _ _ _ h => h) (Or.inl ⟨by kernel_rfl, ?_⟩) (by assumption) ?_; rotate_left; focus (intro W0 hSw; go_simp; (try with_reducible rfl)); (try simp only [Act.put, List.setIfInBounds_toArray, List.set_cons_zero, List.set_cons_succ])
                  refine wpAnyH_take (i := 11) (oi := ⟨some 58, _, _, _, _, _⟩) (v := ?_) rfl (by kernel_rfl) (by kernel_rfl) (by kernel_rfl) (fun _ _ _ h => h) (Or.inl ⟨by kernel_rfl, ?_⟩) (by assumption) ?_; rotate_left; focus (intro W0 hSw; go_simp; (try with_reducible rfl)); (try simp only [Act.put, List.setIfInBounds_toArray, List.set_cons_zero, List.set_cons_succ])
                  refine wpAnyH_take (i := 12) (oi := ⟨some 59, _, _, _, _, _⟩) (v := ?_) rfl (by kernel_rfl) (by kernel_rfl) (by kernel_rfl) (fun _ _ _ h => h) (Or.inl ⟨by kernel_rfl, ?_⟩) (by assumption) ?_; rotate_left; focus (intro W0 hSw; have hcS := (bcell hSw).1; go_simp; (try with_reducible rfl)); (try simp only [Act.put, List.setIfInBounds_toArray, List.set_cons_zero, List.set_cons_succ])
                  refine wpAnyH_ready (rs := [13]) (by kernel_rfl) (by simp) ?_; refine (AllReadyH.cons (o := ⟨some 60, _, _, _, _, _⟩) rfl (fun K hK => ?_) AllReadyH.nil)
                  go_simp; (go_at_call 48; (with_reducible refine (K8.out _).mono ?_); rintro e w9 ⟨rfl, hb⟩; have hzz := hb.size)
                  all_goals (try go_wp2_with fail)
                  refine hK.out _ _ ?_ (fun hH2 => ?_)
                  · first | exact bstep hHeld hb | exact hHeld
                  clear hK K hHeld; (have hHeld := hH2); clear hH2; (try simp only [Act.put, List.setIfInBounds_toArray, List.set_cons_zero, List.set_cons_succ])
                  refine wpAnyH_take (i := 14) (oi := ⟨some 61, _, _, _, _, _⟩) (v := ?_) rfl (by kernel_rfl) (by kernel_rfl) (by kernel_rfl) (fun _ _ _ h => h) (Or.inl ⟨by kernel_rfl, ?_⟩) (by assumption) ?_; rotate_left; focus (intro W0 hSw; go_simp; (try with_reducible rfl)); (try simp only [Act.put, List.setIfInBounds_toArray, List.set_cons_zero, List.set_cons_succ])
                  refine wpAnyH_take (i := 15) (oi := ⟨some 62, _, _, _, _, _⟩) (v := ?_) rfl (by kernel_rfl) (by kernel_rfl) (by kernel_rfl) (fun _ _ _ h => h) (Or.inl ⟨by kernel_rfl, ?_⟩) (by assumption) ?_; rotate_left; focus (intro W0 hSw; go_simp; (try with_reducible rfl)); (try simp only [Act.put, List.setIfInBounds_toArray, List.set_cons_zero, List.set_cons_succ])
                  refine wpAnyH_take (i := 16) (oi := ⟨some 63, _, _, _, _, _⟩) (v := ?_) rfl (by kernel_rfl) (by kernel_rfl) (by kernel_rfl) (fun _ _ _ h => h) (Or.inl ⟨by kernel_rfl, ?_⟩) (by assumption) ?_; rotate_left; focus (intro W0 hSw; go_simp; (try with_reducible rfl)); (try simp only [Act.put, List.setIfInBounds_toArray, List.set_cons_zero, List.set_cons_succ])
                  refine wpAnyH_done (by kernel_rfl) ?_ _; (try simp only [Act.put, List.setIfInBounds_toArray, List.set_cons_zero, List.set_cons_succ])
                  obtain ⟨wC, rfl⟩ : ∃ x : World, x = w9 := ⟨_, rfl⟩
                  have hO9 := own_later hHeld HO.out
                  go_wp2
                  go_roundw
                  case rel => exact ⟨m + 1, g9, cp9, by omega, by go_num, by rw [Hn'.out], by rw [Hn'.out]; exact hO9, bstep hbm hHeld⟩
                  case measure => simp [intOf]; omega
            · obtain rfl : m = k := by omega
              obtain ⟨_, _, hOo, _⟩ := HT.out
              have hgo := fun b (hb : Value.ownBlock _ = some b) => (hOo.lt b hb).2
              obtain ⟨G, C, hOut, hA⟩ := HT.out.later hbm
              have hl9 := kcL_len (kq wx wy X Y H K L U) q m
              have hg9 := HO.out.lt g9 rfl
              have hgc : ∀ j, j < (kcL (kq wx wy X Y H K L U) q m).length → wr.cell? ⟨g9, j, none⟩ = some (.int .i64 ((kcL (kq wx wy X Y H K L U) q m)[j]?.getD 0)) := fun j hj => by
                have := HO.out.cells (g := g9) rfl j (.int .i64 ((kcL (kq wx wy X Y H K L U) q m)[j]?.getD 0)) (by rw [List.getElem?_map, List.getElem?_eq_getElem hj]; rfl)
                rwa [Addr.add_lit, Nat.zero_add] at this
              have Hgc := hide hgc
              have HOu := hide hOut
              clear hgc hOo hOut
              go_wp2_with (at_builtin; refine wpList_append_lies _ rfl _ _ 63 rfl (w.heap.size + 1) 68 i0 _ 1 24 Try.underlying63 Hi0.out Hz0.out.1 Hz0.out.2.1 Hz0.out.2.2 rfl (by decide) _ q _ rfl (HOu.out.alloc _) ⟨wr.heap.size, 0, none⟩ 1 1 [.slice (some ⟨g9, 0, none⟩) (kcL (kq wx wy X Y H K L U) q m).length cp9] rfl rfl new1 (fun u hu => by simp only [List.mem_singleton] at hu; subst hu; rfl) (by decide) (by unfold maxLen; omega) (by omega) (by simp; omega) (wr.heap.size + 1) (by simp) ?_)
              intro g' cap' wA hown' hgr hat hlt'
              have hbA := below_grown HOu.out (by omega) hgr
              have hTA := hide (To.app (R := fun j => kcL (kq wx wy X Y H K L U) j m) ⟨G, C, HOu.out, hA, hown'⟩ (Below.alloc (Below.refl _ _) (Nat.le_refl _) (.cells #[.slice (some ⟨g9, 0, none⟩) (kcL (kq wx wy X Y H K L U) q m).length cp9] 68)) (fun k => by have := hgo _ k; omega) hg9.2 Hgc.out hgr (by rw [World.size_alloc]; exact hat))
              have s0 := cell_below hbA (by omega) b0
              have s1 := cell_below hbA (by omega) b1
              have hBA := HB3.out.trans (hbA.mono (by omega))
              have zA := hbA.size
              clear hown' hgr hat hA
              go_wp2
              go_roundw
              case rel => exact ⟨q + 1, by omega, by go_num, hTA, s0, s1, hBA, by omega⟩
              case measure => simp [intOf]; omega
        · obtain rfl : q = k := by omega
          obtain ⟨so9, cp9, rfl, hrd⟩ := HT.out.read
          go_wp2
          go_ret2
          rw [Hn.out, Hd.out]
          exact ⟨_, _, rfl, hrd, hbq⟩
end Go.Proofs.Ytnmnibpcklcmgaa
