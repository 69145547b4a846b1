/- Walks: the table of boats that keep clear, of the program. -/
import Derived.Test.YtnmnibpcklcmgaaKp
import Derived.Test.YtnmnibpcklcmgaaM
import Derived.Deep.DeepCutAuto
namespace Go.Proofs.Ytnmnibpcklcmgaa
open Go.RowKit

/-- A boat: five numbers, and whether it turns. -/
def v6 (X Y H K L : Nat → Int) (U : Nat → Bool) (i j : Nat) : Value := if j = 5 then .bool (U i) else .int .i64 (if j = 0 then X i else if j = 1 then Y i else if j = 2 then H i else if j = 3 then K i else L i)
theorem RowAt.at6 {w : World} {so : Option Addr} {n : Nat} {X Y H K L : Nat → Int} {U : Nat → Bool} (h : RowAt w so n 6 (v6 X Y H K L U)) (i : Nat) (hi : i < n) :
    ∃ b o, so = some ⟨b, o, none⟩ ∧ b < w.heap.size ∧ w.cell? ⟨b, o + i * 6, none⟩ = some (.int .i64 (X i)) ∧ w.cell? ⟨b, o + i * 6 + 1, none⟩ = some (.int .i64 (Y i)) ∧ w.cell? ⟨b, o + i * 6 + 2, none⟩ = some (.int .i64 (H i)) ∧ w.cell? ⟨b, o + i * 6 + 3, none⟩ = some (.int .i64 (K i)) ∧ w.cell? ⟨b, o + i * 6 + 4, none⟩ = some (.int .i64 (L i)) ∧ w.cell? ⟨b, o + i * 6 + 5, none⟩ = some (.bool (U i)) := by
  obtain ⟨b, o, e, k⟩ := h i hi
  have k0 := k 0 (by omega)
  have k1 := k 1 (by omega)
  have k2 := k 2 (by omega)
  have k3 := k 3 (by omega)
  have k4 := k 4 (by omega)
  have k5 := k 5 (by omega)
  exact ⟨b, o, e, World.block_lt_of_cell? _ _ k0, by simpa [v6] using k0, by simpa [v6] using k1, by simpa [v6] using k2, by simpa [v6] using k3, by simpa [v6] using k4, by simpa [v6] using k5⟩
theorem RowAt.on6 {w : World} {b o n : Nat} {X Y H K L : Nat → Int} {U : Nat → Bool} (h : RowAt w (some ⟨b, o, none⟩) n 6 (v6 X Y H K L U)) (i : Nat) (hi : i < n) :
    w.cell? ⟨b, o + i * 6, none⟩ = some (.int .i64 (X i)) ∧ w.cell? ⟨b, o + i * 6 + 1, none⟩ = some (.int .i64 (Y i)) ∧ w.cell? ⟨b, o + i * 6 + 2, none⟩ = some (.int .i64 (H i)) ∧ w.cell? ⟨b, o + i * 6 + 3, none⟩ = some (.int .i64 (K i)) ∧ w.cell? ⟨b, o + i * 6 + 4, none⟩ = some (.int .i64 (L i)) ∧ w.cell? ⟨b, o + i * 6 + 5, none⟩ = some (.bool (U i)) := by
  obtain ⟨b', o', e, _, k⟩ := h.at6 i hi
  simp only [Option.some.injEq, Addr.mk.injEq, and_true] at e
  obtain ⟨rfl, rfl⟩ := e
  exact k
/-- The first k hulls are hulls. -/
def husOk (X Y H K L : Nat → Int) : Nat → Bool
  | 0 => true
  | k + 1 => husOk X Y H K L k && isHu (X k) (Y k) (H k) (K k) (L k)
theorem husOk_t {X Y H K L : Nat → Int} {n : Nat} (h : husOk X Y H K L n = true) : ∀ i, i < n → isHu (X i) (Y i) (H i) (K i) (L i) = true := by
  induction n with
  | zero => intro i hi; omega
  | succ n ih =>
    intro i hi
    simp only [husOk, Bool.and_eq_true] at h
    by_cases e : i = n
    · subst e; exact h.2
    · exact ih h.1 i (by omega)
theorem husOk_f {X Y H K L : Nat → Int} {n i : Nat} (h : i < n) (hi : isHu (X i) (Y i) (H i) (K i) (L i) = false) : husOk X Y H K L n = false := by
  rcases b2 (husOk X Y H K L n) with k | k
  · exact k
  · exact absurd (husOk_t k i h) (by rw [hi]; decide)
theorem husOk_s {X Y H K L : Nat → Int} {k : Nat} (h : husOk X Y H K L k = true) (h2 : isHu (X k) (Y k) (H k) (K k) (L k) = true) : husOk X Y H K L (k + 1) = true := by unfold husOk; rw [h, h2]; rfl
/-- Boat i keeps clear of boat m. -/
def kq (wx wy : Int) (X Y H K L : Nat → Int) (U : Nat → Bool) (i m : Nat) : Bool := (rulI wx wy (X i) (Y i) (H i) (K i) (L i) (U i) (X m) (Y m) (H m) (K m) (L m) (U m)).1 == 1
/-- How many rows the table has; the code. -/
def kcN (wx wy : Int) (X Y H K L : Nat → Int) (n : Nat) : Nat := if decide (n ≤ 16) && isWd wx wy && husOk X Y H K L n then n else 0
def kcC (wx wy : Int) (X Y H K L : Nat → Int) (n : Nat) : Int := sel (decide (n ≤ 16)) (sel (isWd wx wy) (sel (husOk X Y H K L n) 0 1) 1) 3
/-- What the program's table returns. -/
def RetT (w : World) (m : Nat) (R : Nat → List Int) (c : Int) (e : Ending) (w' : World) : Prop :=
  ∃ so cp, e = .returned (.tuple #[.slice so m cp, .int .i64 c]) ∧ OwT w' w.heap.size so m R ∧ Below w.heap.size w w'
theorem infoRow : (Try.prog.info? 68).map (fun i => (i.zero, i.size, i.bytes)) = some (some (.slice none 0 0), 1, 24) := by kernel_rfl
theorem infoInt : (Try.prog.info? 2).map (fun i => (i.zero, i.size, i.bytes)) = some (some (.int .i64 0), 1, 8) := by kernel_rfl
set_option maxRecDepth 100000 in
set_option maxHeartbeats 8000000 in
theorem impl_KeepClearTable (wx wy : Int) (so : Option Addr) (n cap : Nat) (X Y H K L : Nat → Int) (U : Nat → Bool) (w : World) (h : RowAt w so n 6 (v6 X Y H K L U)) (hn : n ≤ 1048576) :
    Calls Try.prog 22 #[.agg #[.int .i64 wx, .int .i64 wy], .slice so n cap] w (RetT w (kcN wx wy X Y H K L n) (fun j => kcL (kq wx wy X Y H K L U) j n) (kcC wx wy X Y H K L n)) := by
  by_cases h16 : 16 < n
  · have Hr := hide (show decide (n ≤ 16) = false from decide_eq_false (by omega))
    have Ho := hide (show kcN wx wy X Y H K L n = 0 by unfold kcN; rw [Hr.out]; rfl)
    have Hd := hide (show kcC wx wy X Y H K L n = 3 by unfold kcC; rw [Hr.out]; rfl)
    rw [Ho.out, Hd.out]
    go_enter Try.func22, Try.ntmps22
    go_wp2
    go_ret2
    exact ⟨none, 0, rfl, .inl rfl, (by repeat (first | with_reducible exact Below.refl _ _ | with_reducible assumption | with_reducible refine Below.drew ?_ | with_reducible refine below_drewN ?_ _ | with_reducible refine Below.setCell ?_ (by first | exact Nat.le_refl _ | (simp; done) | (simp; omega) | (dsimp only; omega)) _ | with_reducible refine Below.alloc ?_ (by first | exact Nat.le_refl _ | (simp; done) | (simp; omega) | (simp at *; omega)) _ | with_reducible refine bstep ?_ (by assumption)))⟩
  have Hr := hide (show decide (n ≤ 16) = true from decide_eq_true (by omega))
  rcases b2 (isWd wx wy) with g1 | g1
  · have Ho := hide (show kcN wx wy X Y H K L n = 0 by unfold kcN; rw [Hr.out, g1]; rfl)
    have Hd := hide (show kcC wx wy X Y H K L n = 1 by unfold kcC; rw [Hr.out, g1]; rfl)
    rw [Ho.out, Hd.out]
    go_enter Try.func22, Try.ntmps22
    go_wp2_with (go_at_call 29; (with_reducible refine (impl_IsWind _ _ _).mono ?_); rintro e w9 ⟨rfl, hb⟩; obtain ⟨hc, hf⟩ := bcell hb; have hz := hb.size; have z0 : w.heap.size < w9.heap.size := (by first | omega | (simp at hz; omega)))
    go_ret2
    exact ⟨none, 0, rfl, .inl rfl, (by repeat (first | with_reducible exact Below.refl _ _ | with_reducible assumption | with_reducible refine Below.drew ?_ | with_reducible refine below_drewN ?_ _ | with_reducible refine Below.setCell ?_ (by first | exact Nat.le_refl _ | (simp; done) | (simp; omega) | (dsimp only; omega)) _ | with_reducible refine Below.alloc ?_ (by first | exact Nat.le_refl _ | (simp; done) | (simp; omega) | (simp at *; omega)) _ | with_reducible refine bstep ?_ (by assumption)))⟩
  obtain ⟨i0, hi, hz0, hz1, hz2⟩ := info_parts infoRow
  have hmk := fun W => run_make_rowN (P := Try.prog) 63 68 i0 _ Try.underlying63 hi hz0 n (by rw [hz2]; omega) (by omega) W
  have hsz : (madeCells (Value.slice none 0 0).cells (n * i0.size)).size = n := by rw [size_madeCells, hz1]; simp [Value.cells]
  have Hs := hide hsz
  clear hsz hi hz0 hz1 hz2
  obtain ⟨i1, hi, hz0, hz1, hz2⟩ := info_parts infoInt
  have Hi := hide hi
  have Hz := hide (And.intro hz0 (And.intro hz1 hz2))
  clear hi hz0 hz1 hz2
  go_enter Try.func22, Try.ntmps22
  go_wp2_with (go_at_call 29; (with_reducible refine (impl_IsWind _ _ _).mono ?_); rintro e w9 ⟨rfl, hb⟩; obtain ⟨hc, hf⟩ := bcell hb; have hz := hb.size; have z0 : w.heap.size < w9.heap.size := (by first | omega | (simp at hz; omega)))
  obtain ⟨wS, rfl⟩ : ∃ wS : World, wS = w9 := ⟨_, rfl⟩
  have HbS := hide hb
  have d0 : wS.cell? ⟨w.heap.size, 0, none⟩ = some (.int .i64 wx) := by go_simp
  have d1 : wS.cell? ⟨w.heap.size, 1, none⟩ = some (.int .i64 wy) := by go_simp
  have hHb := hide (show Below w.heap.size w wS from (by repeat (first | with_reducible exact Below.refl _ _ | with_reducible assumption | with_reducible refine Below.drew ?_ | with_reducible refine below_drewN ?_ _ | with_reducible refine Below.setCell ?_ (by first | exact Nat.le_refl _ | (simp; done) | (simp; omega) | (dsimp only; omega)) _ | with_reducible refine Below.alloc ?_ (by first | exact Nat.le_refl _ | (simp; done) | (simp; omega) | (simp at *; omega)) _ | with_reducible refine bstep ?_ (by assumption))))
  clear hb hc hf hmk
  go_loopw [24] (fun i wr => ∃ k : Nat, k ≤ n ∧ i = .int .i64 k ∧ Hid (husOk X Y H K L k = true) ∧ Hid (Tb wr 2 wS.heap.size k wS.heap.size fun _ => []) ∧ Hid (Mine wr wS.heap.size n) ∧ wr.cell? ⟨w.heap.size, 0, none⟩ = some (.int .i64 wx) ∧ wr.cell? ⟨w.heap.size, 1, none⟩ = some (.int .i64 wy) ∧ Below w.heap.size w wr ∧ wS.heap.size + 1 ≤ wr.heap.size) (fun i _ => n - (intOf i).toNat)
  case atStart => exact ⟨0, Nat.zero_le _, rfl, hide rfl, hide (Tb.zero _ _ _ _ _), hide (mine_make Hs.out), by go_simp, by go_simp, Below.alloc hHb.out (by omega) _, by simp⟩
  case round =>
    obtain ⟨k, hk, rfl, Hk, HT, HM, c0, c1, hbl, hsz⟩ := hrel
    clear d0 d1
    by_cases hlt : k < n
    · obtain ⟨b, o, rfl, hbs, e0, e1, e2, e3, e4, e5⟩ := (RowAt.later hbl h).at6 k hlt
      have hi1 : (0 : Int) ≤ (k : Int) := by omega
      have hi2 : (k : Int) < (n : Int) := by omega
      rcases b2 (isHu (X k) (Y k) (H k) (K k) (L k)) with g2 | g2
      · have Ho := hide (show kcN wx wy X Y H K L n = 0 by unfold kcN; rw [Hr.out, g1, husOk_f hlt g2]; rfl)
        have Hd := hide (show kcC wx wy X Y H K L n = 1 by unfold kcC; rw [Hr.out, g1, husOk_f hlt g2]; rfl)
        go_wp2_with (go_at_call 55; (with_reducible refine (impl_IsHull _ _ _ _ _ _).mono ?_); rintro e w9 ⟨rfl, hb⟩; obtain ⟨hc, hf⟩ := bcell hb; have hz := hb.size; have z0 : w.heap.size < w9.heap.size := (by first | omega | (simp at hz; omega)); have zzb : b < w9.heap.size := (by first | omega | (simp at hz; omega)))
        go_ret2
        rw [Ho.out, Hd.out]
        exact ⟨none, 0, rfl, .inl rfl, (by repeat (first | with_reducible exact Below.refl _ _ | with_reducible assumption | with_reducible refine Below.drew ?_ | with_reducible refine below_drewN ?_ _ | with_reducible refine Below.setCell ?_ (by first | exact Nat.le_refl _ | (simp; done) | (simp; omega) | (dsimp only; omega)) _ | with_reducible refine Below.alloc ?_ (by first | exact Nat.le_refl _ | (simp; done) | (simp; omega) | (simp at *; omega)) _ | with_reducible refine bstep ?_ (by assumption)))⟩
      · have zS : w.heap.size < wS.heap.size := z0
        have zr : wS.heap.size < wr.heap.size := by omega
        have zrw : w.heap.size < wr.heap.size := by omega
        have zrs : w.heap.size < wr.heap.size + 1 := by omega
        obtain ⟨⟨x9, m9⟩, f9⟩ := HM.out k hlt
        go_wp2_with ((go_at_call 55; (with_reducible refine (impl_IsHull _ _ _ _ _ _).mono ?_); rintro e w9 ⟨rfl, hb⟩; obtain ⟨hc, hf⟩ := bcell hb; have hz := hb.size; have z0 : w.heap.size < w9.heap.size := (by first | omega | (simp at hz; omega)); have zzb : b < w9.heap.size := (by first | omega | (simp at hz; omega)); have zzwS.heap.size : wS.heap.size < w9.heap.size := (by first | omega | (simp at hz; omega))); have HTb := hide (Tb.later (HT.out.later (Below.alloc (Below.refl _ _) (Nat.le_refl _) _)) hb); have HMb := hide (Mine.later hb (Mine.later (Below.alloc (Below.refl _ _) (Nat.le_refl _) _) HM.out)))
        go_roundw
        case rel =>
          refine ⟨k + 1, by omega, by go_num, hide (husOk_s Hk.out g2), hide (HTb.out.lay HMb.out hlt (by omega) (by omega) rfl), hide HMb.out.lay, by go_simp, by go_simp, (by repeat (first | with_reducible exact Below.refl _ _ | with_reducible assumption | with_reducible refine Below.drew ?_ | with_reducible refine below_drewN ?_ _ | with_reducible refine Below.setCell ?_ (by first | exact Nat.le_refl _ | (simp; done) | (simp; omega) | (dsimp only; omega)) _ | with_reducible refine Below.alloc ?_ (by first | exact Nat.le_refl _ | (simp; done) | (simp; omega) | (simp at *; omega)) _ | with_reducible refine bstep ?_ (by assumption))), by simp; omega⟩
        case measure => simp [intOf]; omega
    · obtain rfl : k = n := by omega
      have Hn := hide (show kcN wx wy X Y H K L k = k by unfold kcN; rw [Hr.out, g1, Hk.out]; rfl)
      have Hd := hide (show kcC wx wy X Y H K L k = 0 by unfold kcC; rw [Hr.out, g1, Hk.out]; rfl)
      have Hu := hide (husOk_t Hk.out)
      have HT0 := hide (HT.out.congr (R' := fun j => if j < 0 then kcL (kq wx wy X Y H K L U) j k else []) fun j hj => by rw [if_neg (Nat.not_lt_zero _)])
      have zS : w.heap.size < wS.heap.size := z0
      clear z0 HT
      obtain ⟨wT, hwT⟩ : ∃ wT : World, wT = wr := ⟨_, rfl⟩
      rw [← hwT] at HT0 HM c0 c1 hbl hsz ⊢
      clear hwT Hk
      go_wp2
      go_loopw [40] (fun i wr => ∃ q : Nat, q ≤ k ∧ i = .int .i64 q ∧ Hid (Tb wr 2 wS.heap.size k wS.heap.size fun j => if j < q then kcL (kq wx wy X Y H K L U) j k else []) ∧ Hid (Mine wr wS.heap.size k) ∧ wr.cell? ⟨w.heap.size, 0, none⟩ = some (.int .i64 wx) ∧ wr.cell? ⟨w.heap.size, 1, none⟩ = some (.int .i64 wy) ∧ Below w.heap.size w wr ∧ wS.heap.size + 1 ≤ wr.heap.size) (fun i _ => k - (intOf i).toNat)
      case atStart => exact ⟨0, Nat.zero_le _, rfl, HT0, HM, c0, c1, hbl, hsz⟩
      case round =>
        clear c0 c1 hbl hsz HT0 HM
        obtain ⟨q, hq, rfl, HT, HM, c0, c1, hbl, hsz⟩ := hrel
        obtain ⟨wo, rfl⟩ : ∃ x : World, x = wr := ⟨_, rfl⟩
        by_cases hlt : q < k
        · obtain ⟨b, o, rfl, hbs, e0, e1, e2, e3, e4, e5⟩ := (RowAt.later hbl h).at6 q hlt
          have hi1 : (0 : Int) ≤ (q : Int) := by omega
          have hi2 : (q : Int) < (k : Int) := by omega
          have zr : wS.heap.size < wo.heap.size := by omega
          have zr0 : w.heap.size < wo.heap.size := by omega
          have HT2 := hide ((HT.out.new.later (Below.alloc (Below.refl _ _) (Nat.le_refl _) (.cells #[.int .i64 (X q), .int .i64 (Y q), .int .i64 (H q), .int .i64 (K q), .int .i64 (L q), .bool (U q)] 54))).congr (R' := fun j => if j < q then kcL (kq wx wy X Y H K L U) j k else if j = q then kcL (kq wx wy X Y H K L U) q 0 else []) fun j hj => by
            by_cases k1 : j < q
            · rw [if_pos k1, if_pos k1]
            · rw [if_neg k1, if_neg k1]; split <;> rfl)
          have HM2 := hide (Mine.later (Below.alloc (Below.refl _ _) (Nat.le_refl _) (.cells #[.int .i64 (X q), .int .i64 (Y q), .int .i64 (H q), .int .i64 (K q), .int .i64 (L q), .bool (U q)] 54)) HM.out)
          have Hbl := hide hbl
          have Hwr := hide (And.intro zr zr0)
          clear HT HM
          go_wp2
          go_loopw [47] (fun i wr => ∃ m : Nat, m ≤ k ∧ i = .int .i64 m ∧ Hid (Tb wr 2 wS.heap.size k wo.heap.size fun j => if j < q then kcL (kq wx wy X Y H K L U) j k else if j = q then kcL (kq wx wy X Y H K L U) q m else []) ∧ Hid (Mine wr wS.heap.size k) ∧ wr.cell? ⟨w.heap.size, 0, none⟩ = some (.int .i64 wx) ∧ wr.cell? ⟨w.heap.size, 1, none⟩ = some (.int .i64 wy) ∧ wr.cell? ⟨wo.heap.size, 0, none⟩ = some (.int .i64 (X q)) ∧ wr.cell? ⟨wo.heap.size, 1, none⟩ = some (.int .i64 (Y q)) ∧ wr.cell? ⟨wo.heap.size, 2, none⟩ = some (.int .i64 (H q)) ∧ wr.cell? ⟨wo.heap.size, 3, none⟩ = some (.int .i64 (K q)) ∧ wr.cell? ⟨wo.heap.size, 4, none⟩ = some (.int .i64 (L q)) ∧ wr.cell? ⟨wo.heap.size, 5, none⟩ = some (.bool (U q)) ∧ Below w.heap.size w wr ∧ wo.heap.size + 1 ≤ wr.heap.size) (fun i _ => k - (intOf i).toNat)
          case atStart => exact ⟨0, Nat.zero_le _, rfl, HT2, HM2, by go_simp, by go_simp, by go_simp, by go_simp, by go_simp, by go_simp, by go_simp, by go_simp, (by repeat (first | with_reducible exact Below.refl _ _ | with_reducible assumption | with_reducible refine Below.drew ?_ | with_reducible refine below_drewN ?_ _ | with_reducible refine Below.setCell ?_ (by first | exact Nat.le_refl _ | (simp; done) | (simp; omega) | (dsimp only; omega)) _ | with_reducible refine Below.alloc ?_ (by first | exact Nat.le_refl _ | (simp; done) | (simp; omega) | (simp at *; omega)) _ | with_reducible refine bstep ?_ (by assumption))), by simp⟩
          case round =>
            clear c0 c1 e0 e1 e2 e3 e4 e5 hbl HT2 HM2
            obtain ⟨m, hm, rfl, HT, HM, c0, c1, a0, a1, a2, a3, a4, a5, hbl, hsz⟩ := hrel
            by_cases hlt2 : m < k
            · obtain ⟨e0, e1, e2, e3, e4, e5⟩ := (RowAt.later hbl h).on6 m hlt2
              have hi3 : (0 : Int) ≤ (m : Int) := by omega
              have hi4 : (m : Int) < (k : Int) := by omega
              have zi : wo.heap.size < wr.heap.size := by omega
              have ziw : w.heap.size < wr.heap.size := by have := Hwr.out.2; omega
              have zis : wS.heap.size < wr.heap.size := by have := Hwr.out.1; omega
              by_cases hmq : m = q
              · have Hn := hide (kcL_no (q := kq wx wy X Y H K L U) (i := q) (m := m) (.inl hmq))
                subst hmq
                go_wp2
                go_roundw
                case rel => exact ⟨m + 1, by omega, by go_num, hide ((HT.out.later (by repeat (first | with_reducible exact Below.refl _ _ | with_reducible assumption | with_reducible refine Below.drew ?_ | with_reducible refine below_drewN ?_ _ | with_reducible refine Below.setCell ?_ (by first | exact Nat.le_refl _ | (simp; done) | (simp; omega) | (dsimp only; omega)) _ | with_reducible refine Below.alloc ?_ (by first | exact Nat.le_refl _ | (simp; done) | (simp; omega) | (simp at *; omega)) _ | with_reducible refine bstep ?_ (by assumption)))).congr fun j hj => by
                    by_cases k1 : j < m
                    · rw [if_pos k1, if_pos k1]
                    · rw [if_neg k1, if_neg k1, Hn.out]), hide (Mine.later (by repeat (first | with_reducible exact Below.refl _ _ | with_reducible assumption | with_reducible refine Below.drew ?_ | with_reducible refine below_drewN ?_ _ | with_reducible refine Below.setCell ?_ (by first | exact Nat.le_refl _ | (simp; done) | (simp; omega) | (dsimp only; omega)) _ | with_reducible refine Below.alloc ?_ (by first | exact Nat.le_refl _ | (simp; done) | (simp; omega) | (simp at *; omega)) _ | with_reducible refine bstep ?_ (by assumption))) HM.out), by go_simp, by go_simp, by go_simp, by go_simp, by go_simp, by go_simp, by go_simp, by go_simp, (by repeat (first | with_reducible exact Below.refl _ _ | with_reducible assumption | with_reducible refine Below.drew ?_ | with_reducible refine below_drewN ?_ _ | with_reducible refine Below.setCell ?_ (by first | exact Nat.le_refl _ | (simp; done) | (simp; omega) | (dsimp only; omega)) _ | with_reducible refine Below.alloc ?_ (by first | exact Nat.le_refl _ | (simp; done) | (simp; omega) | (simp at *; omega)) _ | with_reducible refine bstep ?_ (by assumption))), by simp; omega⟩
                case measure => simp [intOf]; omega
              · have hne : ¬ (q : Int) = (m : Int) := by omega
                have K8 := hide (fun W => impl_rule wx wy (X q) (Y q) (H q) (K q) (L q) (U q) (X m) (Y m) (H m) (K m) (L m) (U m) g1 (Hu.out q hlt) (Hu.out m hlt2) W)
                obtain ⟨r1, hr1⟩ : ∃ x : Int, x = (rulI wx wy (X q) (Y q) (H q) (K q) (L q) (U q) (X m) (Y m) (H m) (K m) (L m) (U m)).1 := ⟨_, rfl⟩
                obtain ⟨r2, hr2⟩ : ∃ x : Int, x = (rulI wx wy (X q) (Y q) (H q) (K q) (L q) (U q) (X m) (Y m) (H m) (K m) (L m) (U m)).2 := ⟨_, rfl⟩
                rw [← hr1, ← hr2] at K8
                have hkq : kq wx wy X Y H K L U q m = (r1 == 1) := by unfold kq; rw [← hr1]
                clear hr1 hr2
                have hfd := fun (W : World) (x : Int) => (show (Instr.field 47 (.agg #[.int .i64 x, .int .i64 r2]) 0).run Try.prog W = .ok (.int .i64 x) W by kernel_rfl)
                by_cases h1 : r1 = 1
                · have Hn := hide (kcL_yes (q := kq wx wy X Y H K L U) (i := q) (m := m) hmq (by rw [hkq, h1]; rfl))
                  subst h1
                  clear hkq
                  have hl9 := kcL_len (kq wx wy X Y H K L U) q m
                  go_upto_region 20 with (go_at_call 46; (with_reducible refine (K8.out _).mono ?_); rintro e w9 ⟨rfl, hb⟩; obtain ⟨hc, hf⟩ := bcell hb; have hz := hb.size; have z0 : w.heap.size < w9.heap.size := (by first | omega | (simp at hz; omega)); have zzwo.heap.size : wo.heap.size < w9.heap.size := (by first | omega | (simp at hz; omega)); have zzwS.heap.size : wS.heap.size < w9.heap.size := (by first | omega | (simp at hz; omega)))
                  obtain ⟨w8, rfl⟩ : ∃ x : World, x = w9 := ⟨_, rfl⟩
                  have hb8 : Below wr.heap.size wr w8 := (by repeat (first | with_reducible exact Below.refl _ _ | with_reducible assumption | with_reducible refine Below.drew ?_ | with_reducible refine below_drewN ?_ _ | with_reducible refine Below.setCell ?_ (by first | exact Nat.le_refl _ | (simp; done) | (simp; omega) | (dsimp only; omega)) _ | with_reducible refine Below.alloc ?_ (by first | exact Nat.le_refl _ | (simp; done) | (simp; omega) | (simp at *; omega)) _ | with_reducible refine bstep ?_ (by assumption)))
                  have hz8 := hb8.size
                  have HTb := hide (HT.out.later hb8)
                  have HMb := hide (Mine.later hb8 HM.out)
                  obtain ⟨R, hR⟩ : ∃ R : Nat → List Int, R = fun j => if j < q then kcL (kq wx wy X Y H K L U) j k else if j = q then kcL (kq wx wy X Y H K L U) q m else [] := ⟨_, rfl⟩
                  rw [← hR] at HTb
                  have hRq : R q = kcL (kq wx wy X Y H K L U) q m := by rw [hR]; simp only [Nat.lt_irrefl, ↓reduceIte]
                  obtain ⟨g, cap9, hcell, hown, hbg, hgl, hgd⟩ := HTb.out.at (i := q) hlt
                  rw [hRq] at hcell hown
                  have HR := hide hR
                  clear hR
                  have f0 := cell_later hb8 c0
                  have f1 := cell_later hb8 c1
                  have p0 := cell_later hb8 a0
                  have p1 := cell_later hb8 a1
                  have p2 := cell_later hb8 a2
                  have p3 := cell_later hb8 a3
                  have p4 := cell_later hb8 a4
                  have p5 := cell_later hb8 a5
                  have HB8 := hide (bstep hbl hb8)
                  clear c0 c1 a0 a1 a2 a3 a4 a5 e0 e1 e2 e3 e4 e5 hc hf hb hbl HT HM K8
                  obtain ⟨⟨x9, m9⟩, f9⟩ := HMb.out q hlt
                  have M9 := hide m9
                  clear m9
                  have Hown := hide hown
                  clear hown
                  go_wp2_with (at_builtin; refine wpList_append_where rfl _ _ 68 rfl (wS.heap.size + 1) 2 i1 _ 1 8 Try.underlying68 Hi.out Hz.out.1 Hz.out.2.1 Hz.out.2.2 rfl (by decide) _ _ _ _ rfl (Hown.out.alloc _) ⟨w8.heap.size, 0, none⟩ 1 1 [.int .i64 m] rfl rfl new1 (one1 _) (by unfold maxLen; omega) (by omega) (by simp; omega) ?_)
                  intro g' cap' wA hown' hgr hwh
                  have hcA := gcell hgr
                  have hfA := gfroz hgr
                  have hzA := hgr.size
                  simp only [World.size_alloc] at hcA hfA hzA
                  have hcA2 : ∀ b o, b < w8.heap.size → b ≠ g → wA.cell? ⟨b, o, none⟩ = w8.cell? ⟨b, o, none⟩ := fun b o h1 h2 => (hcA b o (by omega) h2).trans (World.cell?_alloc_past _ _ _ h1)
                  have hfA2 : ∀ b o, b < w8.heap.size → b ≠ g → wA.frozen? ⟨b, o, none⟩ = w8.frozen? ⟨b, o, none⟩ := fun b o h1 h2 => (hfA b o (by omega) h2).trans (World.frozen?_alloc_past _ _ _ h1)
                  have q0 : wA.cell? ⟨wS.heap.size, q, none⟩ = some x9 := (hcA2 _ _ (by omega) (by omega)).trans M9.out
                  have q1 : wA.frozen? ⟨wS.heap.size, q, none⟩ = false := (hfA2 _ _ (by omega) (by omega)).trans f9
                  have HTA := Tb.app (x := (m : Int)) (HTb.out.later (Below.alloc (Below.refl _ _) (Nat.le_refl _) (.cells #[.int .i64 m] 2))) hlt (by simp; omega) (by simp; omega) (by rw [hRq]; exact (World.cell?_alloc_past _ _ _ (by omega)).trans hcell) (by rw [hRq]; exact hown') hgr (by rw [World.size_alloc]; exact hwh)
                  rw [hRq] at HTA
                  have HTB := hide (HTA.congr (R' := fun j => if j < q then kcL (kq wx wy X Y H K L U) j k else if j = q then kcL (kq wx wy X Y H K L U) q (m + 1) else []) fun j hj => by
                    by_cases k2 : j = q
                    · subst k2; simp only [Nat.lt_irrefl, ↓reduceIte, Hn.out]
                    · simp only [k2, ↓reduceIte, HR.out])
                  have HMA := hide (show Mine (wA.setCell ⟨wS.heap.size, q, none⟩ (.slice (some ⟨g', 0, none⟩) ((kcL (kq wx wy X Y H K L U) q m).length + 1) cap')) wS.heap.size k from Mine.set fun j hj => by
                    obtain ⟨⟨x, hx⟩, hf⟩ := HMb.out j hj
                    exact ⟨⟨x, (hcA2 _ _ (by omega) (by omega)).trans hx⟩, (hfA2 _ _ (by omega) (by omega)).trans hf⟩)
                  have s0 := (hcA2 _ _ (by omega) (by omega)).trans f0
                  have s1 := (hcA2 _ _ (by omega) (by omega)).trans f1
                  have t0 := (hcA2 _ _ (by omega) hgd.symm).trans p0
                  have t1 := (hcA2 _ _ (by omega) hgd.symm).trans p1
                  have t2 := (hcA2 _ _ (by omega) hgd.symm).trans p2
                  have t3 := (hcA2 _ _ (by omega) hgd.symm).trans p3
                  have t4 := (hcA2 _ _ (by omega) hgd.symm).trans p4
                  have t5 := (hcA2 _ _ (by omega) hgd.symm).trans p5
                  have HBA := hide (show Below w.heap.size w wA from HB8.out.trans ((below_grown Hown.out (by omega) hgr).mono (by omega)))
                  have hsA : w8.heap.size + 1 ≤ wA.heap.size := hzA
                  clear hcA hfA hcA2 hfA2 HTA HTb HMb HB8 hown' hgr f0 f1 p0 p1 p2 p3 p4 p5 hRq HR Hown hcell
                  go_wp2
                  go_roundw
                  case rel => exact ⟨m + 1, by omega, by go_num, HTB, HMA, by go_simp, by go_simp, by go_simp, by go_simp, by go_simp, by go_simp, by go_simp, by go_simp, Below.setCell HBA.out (by dsimp only; omega) _, by simp; omega⟩
                  case measure => simp [intOf]; omega
                · have h1b : (r1 == 1) = false := beq_eq_false_iff_ne.2 h1
                  have Hn := hide (kcL_no (q := kq wx wy X Y H K L U) (i := q) (m := m) (.inr (by rw [hkq, h1b])))
                  clear hkq
                  go_wp2_with (go_at_call 46; (with_reducible refine (K8.out _).mono ?_); rintro e w9 ⟨rfl, hb⟩; obtain ⟨hc, hf⟩ := bcell hb; have hz := hb.size; have z0 : w.heap.size < w9.heap.size := (by first | omega | (simp at hz; omega)); have zzwo.heap.size : wo.heap.size < w9.heap.size := (by first | omega | (simp at hz; omega)); have zzwS.heap.size : wS.heap.size < w9.heap.size := (by first | omega | (simp at hz; omega)))
                  have hb8 : Below wr.heap.size wr w9 := (by repeat (first | with_reducible exact Below.refl _ _ | with_reducible assumption | with_reducible refine Below.drew ?_ | with_reducible refine below_drewN ?_ _ | with_reducible refine Below.setCell ?_ (by first | exact Nat.le_refl _ | (simp; done) | (simp; omega) | (dsimp only; omega)) _ | with_reducible refine Below.alloc ?_ (by first | exact Nat.le_refl _ | (simp; done) | (simp; omega) | (simp at *; omega)) _ | with_reducible refine bstep ?_ (by assumption)))
                  have hz8 := hb8.size
                  go_roundw
                  case rel => exact ⟨m + 1, by omega, by go_num, hide ((HT.out.later hb8).congr fun j hj => by
                      by_cases k1 : j < q
                      · rw [if_pos k1, if_pos k1]
                      · rw [if_neg k1, if_neg k1, Hn.out]), hide (Mine.later hb8 HM.out), cell_later hb8 c0, cell_later hb8 c1, cell_later hb8 a0, cell_later hb8 a1, cell_later hb8 a2, cell_later hb8 a3, cell_later hb8 a4, cell_later hb8 a5, bstep hbl hb8, by omega⟩
                  case measure => simp [intOf]; omega
            · obtain rfl : m = k := by omega
              go_wp2
              go_roundw
              case rel => exact ⟨q + 1, by omega, by go_num, hide (HT.out.old.congr fun j hj => by
                  by_cases k1 : j < q
                  · rw [if_pos k1, if_pos (by omega)]
                  · rw [if_neg k1]
                    by_cases k2 : j = q
                    · subst k2; rw [if_pos rfl, if_pos (by omega)]
                    · rw [if_neg k2, if_neg (by omega)]), HM, c0, c1, hbl, by omega⟩
              case measure => simp [intOf]; omega
        · obtain rfl : q = k := by omega
          go_wp2
          go_ret2
          rw [Hn.out, Hd.out]
          exact ⟨_, _, rfl, (HT.out.congr fun j hj => by rw [if_pos hj]).own (by omega) (by omega), hbl⟩
end Go.Proofs.Ytnmnibpcklcmgaa
