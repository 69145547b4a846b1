/- Walks: a time on a track and a span are drawn. -/
import Derived.Test.YthlnpcneicmblaaGreatDoorDb
import Derived.Test.YthlnpcneicmblaaGreatDoorIv
namespace Go.Proofs.YthlnpcneicmblaaGreatDoor
open Go.RowKit

def IntC (w : World) (g : Nat) (e : Ending) (w' : World) : Prop := (∃ x : Int, e = .returned (.int .i64 x)) ∧ w.grownBy w' (some g) ∧ Src w' g
def FAt (b n : Nat) (v : Value) : Prop := ∃ x : Nat, v = .pointer (some ⟨b, x * 3, none⟩) ∧ x < n
theorem own_at {w W : World} {b n g : Nat} {L : List Int} (h : ∀ j, j < n * 3 → w.cell? ⟨b, j, none⟩ = some (.int .i64 (L[j]?.getD 0)) ∧ w.frozen? ⟨b, j, none⟩ = false) (hg : w.grownBy W (some g)) (hb : b < w.heap.size) (hn : b ≠ g) {x : Nat} (hx : x < n) :
 ∃ a1 a2 a3 : Int, W.cell? ⟨b, x * 3, none⟩ = some (.int .i64 a1) ∧ W.cell? ⟨b, x * 3 + 1, none⟩ = some (.int .i64 a2) ∧ W.cell? ⟨b, x * 3 + 2, none⟩ = some (.int .i64 a3) :=
 ⟨_, _, _, (gcell hg b _ hb hn).trans (h (x * 3) (by omega)).1, (gcell hg b _ hb hn).trans (h (x * 3 + 1) (by omega)).1, (gcell hg b _ hb hn).trans (h (x * 3 + 2) (by omega)).1⟩
end Go.Proofs.YthlnpcneicmblaaGreatDoor
/- The invariant rule for drawn regions, where what comes last waits for some of the operations by way of others. -/
namespace Go.Proofs.YthlnpcneicmblaaGreatDoor

section
variable {P : Program} {ops : Array Oper} {Q : Exit → Act → World → Prop} {S : World → Prop}
def chkInv3 (ops : Array Oper) (l0 : Array Bool) (hs ps : List Nat) : Bool :=
 l0.size == ops.size && ((hs ++ ps).all fun h => h < l0.size && (depsOf ops h).all fun k => k < h && (l0.getD k false || (hs ++ ps).contains k)) &&
 ((List.range ops.size).all fun i => l0.getD i true || (hs ++ ps).contains i || ((depsOf ops i).any fun g => g < l0.size && (l0.getD g true == false) && !((hs ++ ps).contains g)) || hs.all fun h => (depsOf ops i).contains h || hs.any fun g => (depsOf ops i).contains g && (depsOf ops g).contains h) && (hs ++ ps).all fun h => l0.getD h true == false
theorem wpAnyH_inv3_go {l0 : Array Bool} {a0 : Act} {fuel : Nat} (hs ps ds : List Nat) (J : (Nat → Value) → (Nat → Prop) → World → Prop) (hn : (hs ++ ps).Nodup) (hc : chkInv3 ops l0 hs ps = true) (hsel : Region.noSelect ops = true) (hQ : ∀ (d : Nat) v c a w, Q (.panic c) (Act.put a (some d) v) w → Q (.panic c) a w)
 (hS : ∀ u L W, J u L W → S W) (hstep : StepsH P ops Q J a0 ds hs) (hpure : PuresH P ops S J a0 ds ps)
 (hdone : ∀ u L W, J u L W → (∀ j, L j ↔ (setAll l0 (hs ++ ps)).getD j false = true) → wpAnyH P .any ops Q S fuel (setAll l0 (hs ++ ps)) (puts a0 u ds) W) :
 ∀ (m : Nat) (l : Array Bool) (u : Nat → Value) (W : World), m = left l (hs ++ ps) → l.size = l0.size → (∀ j, l0.getD j false = true → l.getD j false = true) → (∀ j, l.getD j false = true → l0.getD j false = true ∨ j ∈ hs ++ ps) → (∀ j ∈ hs ++ ps, l.getD j false = true → ∀ k ∈ depsOf ops j, l.getD k false = true) →
  J u (fun j => l.getD j false = true) W → wpAnyH P .any ops Q S (fuel + m) l (puts a0 u ds) W := by
 simp only [chkInv3, Bool.and_eq_true, List.all_eq_true, beq_iff_eq, decide_eq_true_eq, List.mem_range, Bool.or_eq_true] at hc
 obtain ⟨⟨⟨hsz, hc1⟩, hc2⟩, hc3⟩ := hc
 have gd : ∀ (l : Array Bool) (j : Nat), j < l.size → l.getD j true = l.getD j false := fun l j h => by simp [h]
 intro m
 induction m with
 | zero =>
  intro l u W hm hls h1 h2 hcl hJ
  have hall : ∀ h ∈ hs ++ ps, l.getD h false = true := fun h hh => by
   have := List.length_eq_zero_iff.1 hm.symm
   have h4 : ¬ (l.getD h true == false) = true := fun k => by
    have h5 : h ∈ (hs ++ ps).filter (open1 l) := List.mem_filter.2 ⟨hh, k⟩
    rw [this] at h5
    cases h5
   rw [gd l h (by rw [hls]; exact (hc1 h hh).1)] at h4
   cases h5 : l.getD h false with
   | true => rfl
   | false => rw [h5] at h4; exact absurd rfl h4
  have hl : l = setAll l0 (hs ++ ps) := by
   apply Array.ext (by rw [setAll_size, hls])
   intro i hi1 hi2
   have e1 : l[i] = l.getD i false := by simp [hi1]
   have e2 : (setAll l0 (hs ++ ps))[i] = (setAll l0 (hs ++ ps)).getD i false := by simp [hi2]
   rw [e1, e2, setAll_getD]
   by_cases k : i ∈ hs ++ ps ∧ i < l0.size
   ·rw [if_pos k, hall i k.1]
   ·rw [if_neg k]
    cases h5 : l0.getD i false with
    | true => exact h1 i h5
    | false =>
     cases h6 : l.getD i false with
     | false => rfl
     | true =>
      rcases h2 i h6 with k1 | k1
      ·rw [h5] at k1; cases k1
      ·exact absurd ⟨k1, by rw [← hls]; exact hi1⟩ k
  subst hl
  exact hdone u _ W hJ fun j => Iff.rfl
 | succ m ih =>
  intro l u W hm hls h1 h2 hcl hJ
  have go : ∀ (i : Nat) (d : Nat) (v : Value) (W' : World), i ∈ hs ++ ps → l.getD i true = false → (∀ k ∈ depsOf ops i, l.getD k false = true) → d ∈ ds → J (upd u d v) (fun j => j = i ∨ l.getD j false = true) W' → wpAnyH P .any ops Q S (fuel + m) (l.setIfInBounds i true) ((puts a0 u ds).put (some d) v) W' := fun i d v W' hih hun hdi hmem hJ' => by
   have hil : i < l.size := by have := (hc1 i hih).1; omega
   rw [puts_put a0 u d v ds hmem]
   have hL : (fun j => j = i ∨ l.getD j false = true) = fun j => (l.setIfInBounds i true).getD j false = true := by
    funext j
    apply propext
    by_cases hij : i = j
    ·subst hij
     simp [hil]
    ·rw [getD_set_ne false hij]
     constructor
     ·rintro (k | k)
      ·exact absurd k.symm hij
      ·exact k
     ·exact .inr
   rw [hL] at hJ'
   refine ih (l.setIfInBounds i true) (upd u d v) W' ?_ (by rw [Array.size_setIfInBounds, hls]) (fun j hj => getD_set_true (h1 j hj)) (fun j hj => ?_) (fun j hj hjl k hk => getD_set_true (by
    by_cases hij : i = j
    ·subst hij; exact hdi k hk
    ·rw [getD_set_ne false hij] at hjl; exact hcl j hj hjl k hk)) hJ'
   · -- one less is left
    have key : ∀ (hs : List Nat), hs.Nodup → i ∈ hs → left l hs = left (l.setIfInBounds i true) hs + 1 := by
     intro hs
     induction hs with
     | nil => intro _ hmem; cases hmem
     | cons x xs ihx =>
      intro hnd hmem
      have hnd' := List.nodup_cons.1 hnd
      by_cases hx : i = x
      ·subst hx
       have hsame : ∀ y ∈ xs, open1 (l.setIfInBounds i true) y = open1 l y := fun y hy => by
        unfold open1
        rw [getD_set_ne true (show i ≠ y from fun k => hnd'.1 (by rw [k]; exact hy))]
       have hli : i < l.size := by omega
       unfold left
       rw [List.filter_cons_of_pos (by unfold open1; rw [hun]; rfl), List.filter_cons_of_neg (by unfold open1; simp [hli]), List.filter_congr hsame]
       simp
      ·have hmx : i ∈ xs := by
        rcases List.mem_cons.1 hmem with k | k
        ·exact absurd k hx
        ·exact k
       have := ihx hnd'.2 hmx
       have e1 : open1 (l.setIfInBounds i true) x = open1 l x := by unfold open1; rw [getD_set_ne true hx]
       unfold left at this ⊢
       by_cases hb : open1 l x = true
       ·rw [List.filter_cons_of_pos hb, List.filter_cons_of_pos (by rw [e1]; exact hb)]
        simp only [List.length_cons]; omega
       ·rw [List.filter_cons_of_neg hb, List.filter_cons_of_neg (by rw [e1]; exact hb)]
        exact this
    have := key (hs ++ ps) hn hih
    omega
   ·by_cases hij : i = j
    ·subst hij; exact .inr hih
    ·rw [getD_set_ne false hij] at hj; exact h2 j hj
  by_cases hp : ∃ p ∈ ps, l.getD p false = false ∧ ∀ k ∈ depsOf ops p, l.getD k false = true
  ·obtain ⟨p, hpp, hpf, hpd⟩ := hp
   have hpa : p ∈ hs ++ ps := List.mem_append_right _ hpp
   obtain ⟨o, d, ho, hd, hmem, hpo, hst⟩ := hpure p hpp
   have hun : l.getD p true = false := by rw [gd l p (by have := (hc1 p hpa).1; omega)]; exact hpf
   obtain ⟨v, hy, hJ'⟩ := hst u (fun j => l.getD j false = true) W (by simp [hpf]) (fun k hk => hpd k (by simpa using hk)) hJ
   have hput : (puts a0 u ds).put o.dst v = (puts a0 u ds).put (some d) v := by rw [hd]
   refine wpAnyH_first ho (fun j oj cs b hj => Region.noSelect_spec hsel j oj cs b hj) (fun c a w h => hQ d v c a w (hd ▸ h)) (fuel + m) l (puts a0 u ds) W (fun j oj hj hne hlj hno => pureOk_spec ho hpo j oj hj hne (by
    cases hc : (depsOf ops p).contains j with
    | false => rfl
    | true =>
     have h1 := hpd j (by simpa using hc)
     simp only [Array.getD_eq_getD_getElem?] at h1 hlj
     cases h2 : l[j]? with
     | none => rw [h2] at hlj; cases hlj
     | some b => rw [h2] at h1 hlj; simp at h1 hlj; rw [h1] at hlj; cases hlj) hno) (mem_ready.2 ⟨hun, o, ho, fun e he hb => hpd _ ((deps_mem ho).2 ⟨e, he, hb, rfl⟩)⟩) hy (hS _ _ _ hJ) ?_
   rw [hput]
   exact go p d v W hpa hun hpd hmem hJ'
  -- one of them has not come up: the least
  have hex : ∃ h ∈ hs ++ ps, l.getD h false = false := by
   cases hf : (hs ++ ps).filter (open1 l) with
   | nil => rw [left, hf] at hm; cases hm
   | cons h t =>
    have := List.mem_filter.1 (show h ∈ (hs ++ ps).filter (open1 l) by rw [hf]; exact List.mem_cons_self)
    refine ⟨h, this.1, ?_⟩
    rw [← gd l h (by rw [hls]; exact (hc1 h this.1).1)]
    exact eq_of_beq this.2
  have hrd : ∀ n, ∀ h ∈ hs ++ ps, h < n → l.getD h false = false → ∃ i ∈ hs, l.getD i false = false ∧ ∀ k ∈ depsOf ops i, l.getD k false = true := by
   intro n
   induction n with
   | zero => intro h _ hlt; exact absurd hlt (Nat.not_lt_zero _)
   | succ n ihn =>
    intro h hh hlt hf
    by_cases hd : ∃ k ∈ depsOf ops h, l.getD k false = false
    ·obtain ⟨k, hk, hkf⟩ := hd
     obtain ⟨k1, k2⟩ := (hc1 h hh).2 k hk
     have hk3 : k ∈ hs ++ ps := by
      rcases k2 with k2 | k2
      ·rw [h1 k k2] at hkf; cases hkf
      ·simpa using k2
     exact ihn k hk3 (by omega) hkf
    ·have hall : ∀ k ∈ depsOf ops h, l.getD k false = true := fun k hk => by
      cases h5 : l.getD k false with
      | true => rfl
      | false => exact absurd ⟨k, hk, h5⟩ hd
     rcases List.mem_append.1 hh with hh | hh
     ·exact ⟨h, hh, hf, hall⟩
     ·exact absurd ⟨h, hh, hf, hall⟩ hp
  obtain ⟨h, hh, hf⟩ := hex
  obtain ⟨r, hr, hrf, hrd⟩ := hrd (h + 1) h hh (Nat.lt_succ_self h) hf
  have hrr : r ∈ Region.ready .any ops l := by
   obtain ⟨o, d, ho, _⟩ := hstep r hr
   exact mem_ready.2 ⟨by rw [gd l r (by rw [hls]; exact (hc1 r (List.mem_append_left _ hr)).1)]; exact hrf, o, ho, fun e he hb => hrd _ ((deps_mem ho).2 ⟨e, he, hb, rfl⟩)⟩
  refine ⟨fun h0 => (by rw [h0] at hrr; cases hrr), fun i hi => ?_⟩
  obtain ⟨hun, o', ho', hall⟩ := mem_ready.1 hi
  have hil : i < ops.size := (Array.getElem?_eq_some_iff.1 ho').1
  have hun' : l.getD i false = false := by rw [← gd l i (by omega)]; exact hun
  have hia : i ∈ hs ++ ps := by
   rcases hc2 i hil with ((k | k) | k) | k
   ·rw [gd l0 i (by omega)] at k
    rw [h1 i k] at hun'; cases hun'
   ·simpa using k
   ·obtain ⟨q, hq, hq2⟩ := List.any_eq_true.1 k
    simp only [Bool.and_eq_true, decide_eq_true_eq, beq_iff_eq, Bool.not_eq_true'] at hq2
    obtain ⟨e, he, hb, rfl⟩ := (deps_mem ho').1 hq
    have hl := hall e he hb
    rcases h2 _ hl with k2 | k2
    ·have := hq2.1.2
     have e3 : l0.getD e.on true = l0.getD e.on false := gd l0 e.on hq2.1.1
     rw [e3, k2] at this; cases this
    ·have := hq2.2
     rw [show (hs ++ ps).contains e.on = true by simpa using k2] at this; cases this
   ·rcases k r hr with k | k
    ·obtain ⟨e, he, hb, rfl⟩ := (deps_mem ho').1 (by simpa using k)
     rw [hall e he hb] at hrf; cases hrf
    ·obtain ⟨q, hq, hq2⟩ := List.any_eq_true.1 k
     simp only [Bool.and_eq_true] at hq2
     obtain ⟨e, he, hb, rfl⟩ := (deps_mem ho').1 (by simpa using hq2.1)
     rw [hcl _ (List.mem_append_left _ hq) (hall e he hb) r (by simpa using hq2.2)] at hrf; cases hrf
  have hih : i ∈ hs := by
   rcases List.mem_append.1 hia with k | k
   ·exact k
   ·exact absurd ⟨i, k, hun', fun q hq => by obtain ⟨e, he, hb, rfl⟩ := (deps_mem ho').1 hq; exact hall e he hb⟩ hp
  obtain ⟨o, d, ho, hd, hmem, hst⟩ := hstep i hih
  have hoo : o = o' := by rw [ho] at ho'; exact Option.some.inj ho'
  subst hoo
  refine wpOp_step ho fun K' hK => ?_
  rw [hd]
  refine hst u (fun j => l.getD j false = true) W (by simp [hun']) (fun k hk => ?_) hJ K' (fun v W' hJ' => hK _ _ ?_)
  ·obtain ⟨e, he, hb, rfl⟩ := (deps_mem ho).1 (by simpa using hk)
   exact hall e he hb
  ·exact ⟨hS _ _ _ hJ', go i d v W' hia hun (fun q hq => by obtain ⟨e, he, hb, rfl⟩ := (deps_mem ho).1 hq; exact hall e he hb) hmem hJ'⟩
theorem wpAnyH_inv3 {l0 : Array Bool} {a0 : Act} {w : World} {fuel : Nat} (hs ps ds : List Nat) (J : (Nat → Value) → (Nat → Prop) → World → Prop) (hn : (hs ++ ps).Nodup) (hc : chkInv3 ops l0 hs ps = true) (hsel : Region.noSelect ops = true) (hQ : ∀ (d : Nat) v c a w, Q (.panic c) (Act.put a (some d) v) w → Q (.panic c) a w)
 (hS : ∀ u L W, J u L W → S W) (h0 : ∀ u L, (∀ j ∈ hs ++ ps, ¬ L j) → J u L w) (hstep : StepsH P ops Q J a0 ds hs) (hpure : PuresH P ops S J a0 ds ps)
 (hdone : ∀ u L W, J u L W → (∀ j, (setAll l0 (hs ++ ps)).getD j false = true → L j) → wpAnyH P .any ops Q S fuel (setAll l0 (hs ++ ps)) (puts a0 u ds) W) :
 wpAnyH P .any ops Q S (fuel + (hs ++ ps).length) l0 a0 w := by
 have hc' := hc
 simp only [chkInv3, Bool.and_eq_true, List.all_eq_true, beq_iff_eq, decide_eq_true_eq, List.mem_range, Bool.or_eq_true] at hc'
 obtain ⟨⟨⟨hsz, hc1⟩, hc2⟩, hc3⟩ := hc'
 have hm : (hs ++ ps).length = left l0 (hs ++ ps) := by
  unfold left
  rw [List.filter_eq_self.2 fun h hh => by unfold open1; rw [hc3 h hh]; rfl]
 have := wpAnyH_inv3_go (P := P) (Q := Q) (S := S) hs ps ds J hn hc hsel hQ hS hstep hpure (fun u L W hJ hL => hdone u L W hJ fun j hj => (hL j).2 hj) (hs ++ ps).length l0 (fun d => a0.tmps.getD d undef) w hm rfl (fun j h => h) (fun j h => .inl h) (fun j hj hl => by
  have h3 := hc3 j hj
  have hlt := (hc1 j hj).1
  have : l0.getD j true = l0.getD j false := by simp [hlt]
  rw [this, hl] at h3; cases h3)
  (h0 _ _ fun j hj hL => by
   have h3 := hc3 j hj
   have hlt := (hc1 j hj).1
   have : l0.getD j true = l0.getD j false := by simp [hlt]
   rw [this, hL] at h3; cases h3)
 rwa [puts_self] at this
end
end Go.Proofs.YthlnpcneicmblaaGreatDoor
