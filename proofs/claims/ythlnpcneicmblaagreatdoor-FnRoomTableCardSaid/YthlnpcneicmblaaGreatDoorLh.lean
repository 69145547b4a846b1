/- Walks: rows of integers compared; is an integer in a row? -/
import Derived.Test.YthlnpcneicmblaaGreatDoorKp
import Derived.Test.YthlnpcneicmblaaGreatDoorLaw
import Derived.Deep.AppendLies
import Derived.Deep.DeepCutAuto
import Derived.Test.YthlnpcneicmblaaGreatDoorRb
namespace Go.Proofs.YthlnpcneicmblaaGreatDoor
open Go.RowKit
/-- A row of integers by a function. -/
def v1k (V : Nat → Int) (i _j : Nat) : Value := .int .i64 (V i)
theorem RowAt.v1k {w : World} {so : Option Addr} {L : List Int} (h : RowAt w so L.length 1 (vI L)) : RowAt w so L.length 1 (v1k fun i => L[i]?.getD 0) := h
set_option maxRecDepth 100000 in
set_option maxHeartbeats 1000000 in
theorem laws_likeInts (so1 so2 : Option Addr) (n cap1 cap2 : Nat) (V : Nat → Int) (w : World) (h1 : RowAt w so1 n 1 (v1k V)) (h2 : RowAt w so2 n 1 (v1k V)) (hn : n ≤ 1048576) :
 Calls Tryz.prog 22 #[.slice so1 n cap1, .slice so2 n cap2] w fun e w' => e = .returned (.bool true) ∧ Below w.heap.size w w' := by
 go_enter Tryz.func22, Tryz.ntmps22
 go_wp2
 go_loopw [5] (fun i wr => ∃ k : Nat, k ≤ n ∧ i = .int .i64 k ∧ Below w.heap.size w wr) (fun i _ => n - (intOf i).toNat)
 case atStart => exact ⟨0, Nat.zero_le _, rfl, bwz⟩
 case round =>
  obtain ⟨k, hk, rfl, hbl⟩ := hrel
  have hsz := hbl.size
  by_cases hlt : k < n
  ·obtain ⟨b, o, rfl, hbs, c0⟩ := (RowAt.later hbl h1).at1 k hlt
   obtain ⟨b2, o2, rfl, hbs2, d0⟩ := (RowAt.later hbl h2).at1 k hlt
   simp only [Go.Proofs.YthlnpcneicmblaaGreatDoor.v1k] at c0 d0
   have hi1 : (0 : Int) ≤ (k : Int) := by omega
   have hi2 : (k : Int) < (n : Int) := by omega
   go_upto_region 6 with fail
   refine wp_region_held_drew (S := (fun W => W.cell? ⟨b, o + k, none⟩ = some (.int .i64 (V k)) ∧ W.cell? ⟨b2, o2 + k, none⟩ = some (.int .i64 (V k)) ∧ Below w.heap.size w W ∧ w.heap.size + 0 ≤ W.heap.size)) (by kernel_rfl) ?_ (fun hHeld => ?_)
   ·exact ⟨(by go_simp; done), (by go_simp; done), bwz, (by first | (simp; done) | (simp; omega) | omega)⟩
   refine tkD 0 (some 17) rfl ?_; simp only [pz]
   refine tkD 1 (some 18) rfl ?_; simp only [pz]
   refine tkD 2 (some 19) rfl ?_; simp only [pz]
   refine tkD 3 (some 20) rfl ?_; simp only [pz]
   refine tkD 4 (some 21) rfl ?_; simp only [pz]
   refine tkD 5 (some 22) rfl ?_; simp only [pz]
   refine tkD 6 (some 23) rfl ?_; simp only [pz]
   refine tkD 7 (some 24) rfl ?_; simp only [pz]
   refine tkD 8 (some 25) rfl ?_; simp only [pz]
   refine wpAnyH_done (by kernel_rfl) ?_ _; (try simp only [pz])
   obtain ⟨k1, k2, kB, kz⟩ := hHeld
   go_wp2
   (go_roundw; (case rel => exact ⟨k + 1, by omega, by go_num, kB⟩); (case measure => simp [intOf]; omega))
  ·go_wp2
   go_ret
   exact ⟨rfl, hbl⟩
set_option maxRecDepth 100000 in
set_option maxHeartbeats 1000000 in
theorem laws_likeRows (so1 so2 : Option Addr) (n cap1 cap2 : Nat) (R : Nat → List Int) (w : World) (h1 : RdT w so1 n R) (h2 : RdT w so2 n R) (hn : n ≤ 1048576) (hR : ∀ j, j < n → (R j).length ≤ 1048576) :
 Calls Tryz.prog 8 #[.slice so1 n cap1, .slice so2 n cap2] w fun e w' => e = .returned (.bool true) ∧ Below w.heap.size w w' := by
 obtain ⟨A1, C1, r1, q1⟩ := h1
 obtain ⟨A2, C2, r2, q2⟩ := h2
 have Q1 := hide q1
 have Q2 := hide q2
 clear q1 q2
 go_enter Tryz.func8, Tryz.ntmps8
 go_wp2
 go_loopw [5] (fun i wr => ∃ k : Nat, k ≤ n ∧ i = .int .i64 k ∧ Below w.heap.size w wr) (fun i _ => n - (intOf i).toNat)
 case atStart => exact ⟨0, Nat.zero_le _, rfl, bwz⟩
 case round =>
  obtain ⟨k, hk, rfl, hbl⟩ := hrel
  have hsz := hbl.size
  by_cases hlt : k < n
  ·obtain ⟨b, o, rfl, hbs, c0⟩ := (RowAt.later hbl r1).at1 k hlt
   obtain ⟨b2, o2, rfl, hbs2, d0⟩ := (RowAt.later hbl r2).at1 k hlt
   simp only [vS] at c0 d0
   have hi1 : (0 : Int) ≤ (k : Int) := by omega
   have hi2 : (k : Int) < (n : Int) := by omega
   have HK := hide (fun W hb => laws_likeInts (A1 k) (A2 k) (R k).length (C1 k) (C2 k) _ W (RowAt.v1k (RowAt.later (w := w) hb (Q1.out k hlt))) (RowAt.v1k (RowAt.later (w := w) hb (Q2.out k hlt))) (hR k hlt))
   go_upto_region 6 with fail
   refine wp_region_held_drew (S := (fun W => W.cell? ⟨b, o + k, none⟩ = some ((Value.slice (A1 k) (R k).length (C1 k))) ∧ W.cell? ⟨b2, o2 + k, none⟩ = some ((Value.slice (A2 k) (R k).length (C2 k))) ∧ Below w.heap.size w W ∧ w.heap.size + 0 ≤ W.heap.size)) (by kernel_rfl) ?_ (fun hHeld => ?_)
   ·exact ⟨(by go_simp; done), (by go_simp; done), bwz, (by first | (simp; done) | (simp; omega) | omega)⟩
   refine tkD 0 (some 17) rfl ?_; simp only [pz]
   refine tkD 1 (some 18) rfl ?_; simp only [pz]
   refine tkD 2 (some 19) rfl ?_; simp only [pz]
   refine tkD 3 (some 20) rfl ?_; simp only [pz]
   refine tkD 4 (some 21) rfl ?_; simp only [pz]
   refine tkD 5 (some 22) rfl ?_; simp only [pz]
   refine tkD 6 (some 23) rfl ?_; simp only [pz]
   refine tkD 7 (some 24) rfl ?_; simp only [pz]
   refine rd1 8 (some 25) rfl (fun K hK => ?_)
   go_simp; (go_at_call 22; (with_reducible refine (HK.out _ bwz).mono ?_); rintro e w9 ⟨rfl, hb⟩; have hzz := hb.size)
   all_goals (try go_wp2_with fail)
   refine hK.out _ _ ?_ (fun hH2 => ?_)
   ·(try dsimp only); first | (obtain ⟨k1, k2, kB, kz⟩ := hHeld; exact ⟨cell_later hb k1, cell_later hb k2, bstep kB hb, bsize kz hb⟩) | (obtain ⟨k1, k2, kB, kz⟩ := hHeld; exact ⟨k1, k2, kB, kz⟩)
   clear hK K hHeld; (have hHeld := hH2); clear hH2; (try simp only [pz])
   refine tkD 9 (some 26) rfl ?_; simp only [pz]
   refine wpAnyH_done (by kernel_rfl) ?_ _; (try simp only [pz])
   obtain ⟨k1, k2, kB, kz⟩ := hHeld
   go_wp2
   (go_roundw; (case rel => exact ⟨k + 1, by omega, by go_num, kB⟩); (case measure => simp [intOf]; omega))
  ·go_wp2
   go_ret
   exact ⟨rfl, hbl⟩
/-- Is x among the first k of a list? -/
def hasK (L : List Int) (x : Int) : Nat → Bool
 | 0 => false
 | k + 1 => hasK L x k || L[k]?.getD 0 == x
theorem hasK_mem (L : List Int) (x : Int) : ∀ k, k ≤ L.length → (hasK L x k = true ↔ ∃ j, j < k ∧ L[j]? = some x) := by
 intro k
 induction k with
 | zero => intro _; simp [hasK]
 | succ k ih =>
  intro hk
  have e : L[k]? = some (L[k]'(by omega)) := List.getElem?_eq_getElem (by omega)
  rw [hasK, Bool.or_eq_true, ih (by omega), e, Option.getD_some, beq_iff_eq]
  constructor
  ·rintro (⟨j, h1, h2⟩ | h)
   ·exact ⟨j, by omega, h2⟩
   ·exact ⟨k, by omega, by rw [e, h]⟩
  ·rintro ⟨j, h1, h2⟩
   by_cases ej : j = k
   ·subst ej; rw [e] at h2; exact .inr (Option.some.inj h2)
   ·exact .inl ⟨j, by omega, h2⟩
theorem hasK_is (L : List Int) (x : Int) : hasK L x L.length = decide (x ∈ L) := by
 rw [Bool.eq_iff_iff, hasK_mem L x _ (Nat.le_refl _), decide_eq_true_iff, List.mem_iff_getElem?]
 constructor
 ·rintro ⟨j, _, h⟩; exact ⟨j, h⟩
 ·rintro ⟨j, h⟩
  refine ⟨j, ?_, h⟩
  rcases Nat.lt_or_ge j L.length with k | k
  ·exact k
  ·rw [List.getElem?_eq_none k] at h; cases h
theorem hasK_in {L : List Int} {x : Int} {k : Nat} (hk : k < L.length) (h : L[k]?.getD 0 = x) : hasK L x L.length = true := by
 rw [hasK_is, decide_eq_true_iff, ← h, List.getElem?_eq_getElem hk]
 exact List.getElem_mem hk
set_option maxHeartbeats 1000000 in
theorem laws_hasInt (so : Option Addr) (cap : Nat) (L : List Int) (x : Int) (w : World) (h : RowAt w so L.length 1 (vI L)) (hn : L.length ≤ 1048576) :
 Calls Tryz.prog 10 #[.slice so L.length cap, .int .i64 x] w fun e w' => e = .returned (.bool (decide (x ∈ L))) ∧ Below w.heap.size w w' := by
 obtain ⟨b9, hb9⟩ : ∃ b, b = decide (x ∈ L) := ⟨_, rfl⟩
 have HY := hide (fun (k : Nat) (hk : k < L.length) (e : L[k]?.getD 0 = x) => (show b9 = true by rw [hb9, ← hasK_is]; exact hasK_in hk e))
 have HZ := hide (fun (e : hasK L x L.length = false) => (show b9 = false by rw [hb9, ← hasK_is]; exact e))
 rw [← hb9]
 clear hb9
 go_enter Tryz.func10, Tryz.ntmps10
 go_wp2
 go_loopw [5] (fun i wr => ∃ k : Nat, k ≤ L.length ∧ i = .int .i64 k ∧ Hid (hasK L x k = false) ∧ Below w.heap.size w wr) (fun i _ => L.length - (intOf i).toNat)
 case atStart => exact ⟨0, Nat.zero_le _, rfl, hide rfl, bwz⟩
 case round =>
  obtain ⟨k, hk, rfl, HK, hbl⟩ := hrel
  by_cases hlt : k < L.length
  ·obtain ⟨b, o, rfl, hbs, c0⟩ := (RowAt.later hbl h).at1 k hlt
   simp only [vI] at c0
   have HY2 := hide (HY.out k hlt)
   have HK2 := hide (show L[k]?.getD 0 ≠ x → hasK L x (k + 1) = false from fun hne => by rw [hasK, HK.out, Bool.false_or]; exact beq_eq_false_iff_ne.2 hne)
   obtain ⟨y, hy⟩ : ∃ y, y = L[k]?.getD 0 := ⟨_, rfl⟩
   rw [← hy] at HY2 HK2 c0
   have Hy := hide hy
   clear hy
   by_cases e : y = x
   ·have hb := HY2.out e
    subst e
    subst hb
    go_wp2
    go_ret
    exact ⟨rfl, hbl⟩
   ·have e1 : (y == x) = false := beq_eq_false_iff_ne.2 e
    go_wp2
    go_roundw
    case rel => exact ⟨k + 1, by omega, by go_num, hide (HK2.out e), bwz⟩
    case measure => simp [intOf]; omega
  ·obtain rfl : k = L.length := by omega
   have hb := HZ.out HK.out
   subst hb
   go_wp2
   go_ret
   exact ⟨rfl, hbl⟩
end Go.Proofs.YthlnpcneicmblaaGreatDoor
namespace Go.Proofs.YthlnpcneicmblaaGreatDoor
theorem ovl_swap (bx bY hx hy l cx cy ix iy m : Int) : (ovlH bx bY hx hy l cx cy ix iy m = 0 ∧ ovlH cx cy ix iy m bx bY hx hy l = 0) ∨ (ovlH bx bY hx hy l cx cy ix iy m = 1 ∧ ovlH cx cy ix iy m bx bY hx hy l = 2) ∨ (ovlH bx bY hx hy l cx cy ix iy m = 2 ∧ ovlH cx cy ix iy m bx bY hx hy l = 1) ∨ (ovlH bx bY hx hy l cx cy ix iy m = 3 ∧ ovlH cx cy ix iy m bx bY hx hy l = 3) := by
 unfold ovlH
 generalize clr hx hy l (ahd bx bY hx hy cx cy) = p
 generalize clr ix iy m (ahd cx cy ix iy bx bY) = q
 cases p <;> cases q <;> simp [ovl, sel]
theorem ins_swap (mx my ax ay bx bY : Int) : (insI mx my ax ay bx bY = 0 ∧ insI mx my bx bY ax ay = 0) ∨ (insI mx my ax ay bx bY = 1 ∧ insI mx my bx bY ax ay = 2) ∨ (insI mx my ax ay bx bY = 2 ∧ insI mx my bx bY ax ay = 1) := by
 unfold insI
 (repeat' split) <;> first | omega | simp
theorem bne_swap (a b : Int) : (a != b) = (b != a) := by
 by_cases h : a = b
 ·rw [h]
 ·rw [bne_iff_ne.2 h, bne_iff_ne.2 (Ne.symm h)]
theorem rm_swap (wx wy mx my bx bY hx hy l cx cy ix iy m : Int) : (rmI wx wy mx my bx bY hx hy l cx cy ix iy m = (0, 1) ∧ rmI wx wy mx my cx cy ix iy m bx bY hx hy l = (0, 1)) ∨ (rmI wx wy mx my bx bY hx hy l cx cy ix iy m = (0, 4) ∧ rmI wx wy mx my cx cy ix iy m bx bY hx hy l = (0, 4)) ∨ (rmI wx wy mx my bx bY hx hy l cx cy ix iy m = (2, 3) ∧ rmI wx wy mx my cx cy ix iy m bx bY hx hy l = (1, 3)) ∨ (rmI wx wy mx my bx bY hx hy l cx cy ix iy m = (1, 3) ∧ rmI wx wy mx my cx cy ix iy m bx bY hx hy l = (2, 3)) ∨ (rmI wx wy mx my bx bY hx hy l cx cy ix iy m = (1, 2) ∧ rmI wx wy mx my cx cy ix iy m bx bY hx hy l = (2, 2)) ∨ (rmI wx wy mx my bx bY hx hy l cx cy ix iy m = (2, 2) ∧ rmI wx wy mx my cx cy ix iy m bx bY hx hy l = (1, 2)) := by
 have e : (sailI wx wy ix iy == 1 && sailI wx wy hx hy == 1 && tackI wx wy ix iy != tackI wx wy hx hy && tackI wx wy ix iy != 0 && tackI wx wy hx hy != 0) = (sailI wx wy hx hy == 1 && sailI wx wy ix iy == 1 && tackI wx wy hx hy != tackI wx wy ix iy && tackI wx wy hx hy != 0 && tackI wx wy ix iy != 0) := by
  rw [bne_swap (tackI wx wy ix iy) (tackI wx wy hx hy)]
  generalize (sailI wx wy ix iy == 1) = p1
  generalize (sailI wx wy hx hy == 1) = p2
  generalize (tackI wx wy hx hy != tackI wx wy ix iy) = p3
  generalize (tackI wx wy ix iy != 0) = p4
  generalize (tackI wx wy hx hy != 0) = p5
  cases p1 <;> cases p2 <;> cases p3 <;> cases p4 <;> cases p5 <;> rfl
 unfold rmI
 rw [e]
 rcases b2 (sailI wx wy hx hy == 1 && sailI wx wy ix iy == 1 && tackI wx wy hx hy != tackI wx wy ix iy && tackI wx wy hx hy != 0 && tackI wx wy ix iy != 0) with g | g
 ·rw [g]
  rcases ovl_swap bx bY hx hy l cx cy ix iy m with ⟨o1, o2⟩ | ⟨o1, o2⟩ | ⟨o1, o2⟩ | ⟨o1, o2⟩
  ·rw [o1, o2]
   rcases ins_swap mx my bx bY cx cy with ⟨i1, i2⟩ | ⟨i1, i2⟩ | ⟨i1, i2⟩ <;> rw [i1, i2] <;> simp
  ·rw [o1, o2]; simp
  ·rw [o1, o2]; simp
  ·rw [o1, o2]; simp
 ·rw [g]; simp
/-- The room of two tracks does not depend on their order. -/
theorem rtI_swap (c d : Int) : (rtI c d < 0 ∧ rtI d c < 0) ∨ rtI c d = rtI d c := by
 unfold rtI
 (repeat' split) <;> omega
theorem rmA_swap (wx wy x y z : Int) (n : Nat) (T U V : Nat → Int) (n3 : Nat) (T3 U3 V3 : Nat → Int) (len : Int) :
 ((rmA wx wy x y z n T U V n3 T3 U3 V3 len).1 = 0 ∧ (rmA wx wy x y z n3 T3 U3 V3 n T U V len).1 = 0) ∨ ((rmA wx wy x y z n T U V n3 T3 U3 V3 len).1 = 1 ∧ (rmA wx wy x y z n3 T3 U3 V3 n T U V len).1 = 2) ∨ ((rmA wx wy x y z n T U V n3 T3 U3 V3 len).1 = 2 ∧ (rmA wx wy x y z n3 T3 U3 V3 n T U V len).1 = 1) := by
 rcases rtI_swap (cmI x y z n T U V) (cmI x y z n3 T3 U3 V3) with ⟨h1, h2⟩ | h
 ·rw [rmA_neg rfl h1, rmA_neg rfl h2]
  exact .inl ⟨rfl, rfl⟩
 ·by_cases h0 : rtI (cmI x y z n T U V) (cmI x y z n3 T3 U3 V3) < 0
  ·rw [rmA_neg rfl h0, rmA_neg h.symm h0]
   exact .inl ⟨rfl, rfl⟩
  ·by_cases hc : huC n T U V (rtI (cmI x y z n T U V) (cmI x y z n3 T3 U3 V3)) len = 0 ∧ huC n3 T3 U3 V3 (rtI (cmI x y z n T U V) (cmI x y z n3 T3 U3 V3)) len = 0
   ·rw [rmA_ok rfl h0 hc, rmA_ok h.symm h0 hc.symm]
    unfold rmH
    generalize rtI (cmI x y z n T U V) (cmI x y z n3 T3 U3 V3) = t
    rcases rm_swap wx wy x y (posX n T U t) (posX n T V t) (wayX n T U t) (wayX n T V t) len (posX n3 T3 U3 t) (posX n3 T3 V3 t) (wayX n3 T3 U3 t) (wayX n3 T3 V3 t) len with ⟨e1, e2⟩ | ⟨e1, e2⟩ | ⟨e1, e2⟩ | ⟨e1, e2⟩ | ⟨e1, e2⟩ | ⟨e1, e2⟩ <;> rw [e1, e2]
    ·exact .inl ⟨rfl, rfl⟩
    ·exact .inl ⟨rfl, rfl⟩
    ·exact .inr (.inr ⟨rfl, rfl⟩)
    ·exact .inr (.inl ⟨rfl, rfl⟩)
    ·exact .inr (.inl ⟨rfl, rfl⟩)
    ·exact .inr (.inr ⟨rfl, rfl⟩)
   ·rw [rmA_no rfl h0 hc, rmA_no h.symm h0 (fun k => hc k.symm)]
    exact .inl ⟨rfl, rfl⟩
/-- Who is told so. -/
theorem kcL_mem {q : Nat → Nat → Bool} {i : Nat} (x : Int) : ∀ m, x ∈ kcL q i m ↔ ∃ j : Nat, x = (j : Int) ∧ j < m ∧ j ≠ i ∧ q i j = true := fun m => by
 induction m with
 | zero => simp [kcL]
 | succ m ih =>
  by_cases h : (!(m == i) && q i m) = true
  ·rw [kcL, if_pos h, List.mem_append, ih, List.mem_singleton]
   have h1 : m ≠ i ∧ q i m = true := by simpa using h
   constructor
   ·rintro (⟨j, e, a, b⟩ | e)
    ·exact ⟨j, e, by omega, b⟩
    ·exact ⟨m, e, by omega, h1⟩
   ·rintro ⟨j, e, a, b⟩
    rcases Nat.lt_or_ge j m with h2 | h2
    ·exact .inl ⟨j, e, h2, b⟩
    ·obtain rfl : j = m := by omega
     exact .inr e
  ·rw [kcL, if_neg h, ih]
   constructor
   ·rintro ⟨j, e, a, b⟩
    exact ⟨j, e, by omega, b⟩
   ·rintro ⟨j, e, a, b⟩
    rcases Nat.lt_or_ge j m with h2 | h2
    ·exact ⟨j, e, h2, b⟩
    ·obtain rfl : j = m := by omega
     exact absurd (by simpa using b) h
theorem rbQ_not {wx wy x y z : Int} {nn : Nat → Nat} {T U V : Nat → Nat → Int} {len : Int} {i j : Nat} (h : rbQ wx wy x y z nn T U V len i j = true) : rbQ wx wy x y z nn T U V len j i = false := by
 unfold rbQ at h ⊢
 rw [beq_iff_eq] at h
 rw [beq_eq_false_iff_ne]
 rcases rmA_swap wx wy x y z (nn i) (T i) (U i) (V i) (nn j) (T j) (U j) (V j) len with ⟨a, b⟩ | ⟨a, b⟩ | ⟨a, b⟩ <;> omega
end Go.Proofs.YthlnpcneicmblaaGreatDoor
