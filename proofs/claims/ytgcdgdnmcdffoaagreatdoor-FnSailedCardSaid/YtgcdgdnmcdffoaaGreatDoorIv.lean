/- An invariant for a region that draws its order: each operation is walked once, whatever has come up ahead of it. -/
import Derived.Deep.RegionHeld
import Derived.Test.YtgcdgdnmcdffoaaGreatDoorBs
namespace Go.Proofs.YtgcdgdnmcdffoaaGreatDoor

section
variable {P : Program} {ops : Array Oper} {Q : Exit → Act → World → Prop} {S : World → Prop}

/-- An act whose temporaries 'ds' are filled anew. -/
def puts (a : Act) (u : Nat → Value) : List Nat → Act
 | [] => a
 | d :: ds => (puts a u ds).put (some d) (u d)
def upd (u : Nat → Value) (d : Nat) (v : Value) : Nat → Value := fun k => if k = d then v else u k
theorem upd_same (u : Nat → Value) (d : Nat) (v : Value) : upd u d v d = v := if_pos rfl
theorem upd_ne (u : Nat → Value) {d k : Nat} (v : Value) (h : k ≠ d) : upd u d v k = u k := if_neg h
theorem unz {A C : Prop} (f : C) (h : C → A := by intro f k; rw [upd_ne _ _ (by decide)]; exact f (k.resolve_left (by decide))) : A := h f
theorem put_put (a : Act) (d : Nat) (v u : Value) : (a.put (some d) v).put (some d) u = a.put (some d) u := by
 simp only [Act.put]
 congr 1
 apply Array.ext_getElem?
 intro i
 by_cases h : d = i
 ·subst h; simp [Array.getElem?_setIfInBounds]
 ·simp [Array.getElem?_setIfInBounds_ne h]
theorem puts_out (a : Act) (u : Nat → Value) (d : Nat) (v : Value) (ds : List Nat) (h : d ∉ ds) : puts a (upd u d v) ds = puts a u ds := by
 induction ds with
 | nil => rfl
 | cons e ds ih =>
  have h1 : e ≠ d := fun k => h (by rw [k]; exact List.mem_cons_self)
  have h2 : d ∉ ds := fun k => h (List.mem_cons_of_mem _ k)
  rw [puts, puts, ih h2, upd_ne u v h1]
theorem puts_put (a : Act) (u : Nat → Value) (d : Nat) (v : Value) (ds : List Nat) (h : d ∈ ds) : (puts a u ds).put (some d) v = puts a (upd u d v) ds := by
 induction ds with
 | nil => cases h
 | cons e ds ih =>
  rw [puts, puts]
  by_cases he : e = d
  ·subst he
   rw [put_put, upd_same]
   by_cases hd : e ∈ ds
   ·rw [← ih hd, put_put]
   ·rw [puts_out a u e v ds hd]
  ·have hd : d ∈ ds := by
    rcases List.mem_cons.1 h with k | k
    ·exact absurd k.symm he
    ·exact k
   rw [upd_ne u v he, Act.put_comm _ _ _ (fun x hx k => by injection hx with hx; injection k with k; exact he (hx.trans k.symm)), ih hd]
theorem put_self (a : Act) (d : Nat) : a.put (some d) (a.tmps.getD d undef) = a := by
 cases a with
 | mk t f =>
  simp only [Act.put]
  congr 1
  apply Array.ext_getElem?
  intro i
  by_cases h : d = i
  ·subst h
   by_cases k : d < t.size
   ·simp [k]
   ·simp [k]
  ·simp [Array.getElem?_setIfInBounds_ne h]
theorem puts_self (a : Act) (ds : List Nat) : puts a (fun d => a.tmps.getD d undef) ds = a := by
 induction ds with
 | nil => rfl
 | cons e ds ih => rw [puts, ih, put_self]

def depsOf (ops : Array Oper) (i : Nat) : List Nat := match ops[i]? with
 | some o => (o.after.toList.filter (Region.binds .any)).map (·.on)
 | none => []
def setAll (l : Array Bool) : List Nat → Array Bool
 | [] => l
 | h :: hs => setAll (l.setIfInBounds h true) hs
/-- What is asked of the region: the operations 'hs' wait for what has come up, or for others of 'hs' ahead of them; whoever is none of them waits for all of them. -/
def chkInv (ops : Array Oper) (l0 : Array Bool) (hs : List Nat) : Bool :=
 l0.size == ops.size && (hs.all fun h => h < l0.size && (depsOf ops h).all fun k => k < h && (l0.getD k false || hs.contains k)) &&
 ((List.range ops.size).all fun i => l0.getD i true || hs.contains i || hs.all fun h => (depsOf ops i).contains h) && hs.all fun h => l0.getD h true == false
/-- Each operation of 'hs', from whatever act and world the invariant allows, leads on to such. -/
def StepsH (P : Program) (ops : Array Oper) (Q : Exit → Act → World → Prop) (J : (Nat → Value) → (Nat → Prop) → World → Prop) (a0 : Act) (ds hs : List Nat) : Prop :=
 ∀ i ∈ hs, ∃ o d, ops[i]? = some o ∧ o.dst = some d ∧ d ∈ ds ∧ ∀ u L W, ¬ L i → (∀ k, (depsOf ops i).contains k = true → L k) → J u L W →
  ∀ K' : Act → World → Prop, Shut (∀ v W', J (upd u d v) (fun j => j = i ∨ L j) W' → K' ((puts a0 u ds).put (some d) v) W') →
   if Region.wanted o (yielded ops (puts a0 u ds).tmps) = true then Oper.wp P o (puts a0 u ds) W K' Q else K' ((puts a0 u ds).put (some d) undef) W
theorem StepsH.nil {J : (Nat → Value) → (Nat → Prop) → World → Prop} {a0 : Act} {ds : List Nat} : StepsH P ops Q J a0 ds [] := fun _ h => by cases h
theorem StepsH.cons {J : (Nat → Value) → (Nat → Prop) → World → Prop} {a0 : Act} {ds : List Nat} {i : Nat} {hs : List Nat} {o : Oper} {d : Nat} (ho : ops[i]? = some o) (hd : o.dst = some d) (hm : ds.contains d = true)
 (h : ∀ u L W, ¬ L i → (∀ k, (depsOf ops i).contains k = true → L k) → J u L W →
  ∀ K' : Act → World → Prop, Shut (∀ v W', J (upd u d v) (fun j => j = i ∨ L j) W' → K' ((puts a0 u ds).put (some d) v) W') →
   if Region.wanted o (yielded ops (puts a0 u ds).tmps) = true then Oper.wp P o (puts a0 u ds) W K' Q else K' ((puts a0 u ds).put (some d) undef) W)
 (hs' : StepsH P ops Q J a0 ds hs) : StepsH P ops Q J a0 ds (i :: hs) := fun j hj => by
 rcases List.mem_cons.1 hj with rfl | hj
 ·exact ⟨o, d, ho, hd, by simpa using hm, h⟩
 ·exact hs' j hj
theorem sc1 {J : (Nat → Value) → (Nat → Prop) → World → Prop} {a0 : Act} {ds : List Nat} {i : Nat} {hs : List Nat} (d : Nat) {op : Op} {t : TypeId} {p : String} {af : Array Edge} {g : Option (Nat × Bool)}
 (h : ∀ u L W, ¬ L i → (∀ k, (depsOf ops i).contains k = true → L k) → J u L W →
  ∀ K' : Act → World → Prop, Shut (∀ v W', J (upd u d v) (fun j => j = i ∨ L j) W' → K' ((puts a0 u ds).put (some d) v) W') →
   if Region.wanted ⟨some d, op, t, p, af, g⟩ (yielded ops (puts a0 u ds).tmps) = true then Oper.wp P ⟨some d, op, t, p, af, g⟩ (puts a0 u ds) W K' Q else K' ((puts a0 u ds).put (some d) undef) W)
 (hs' : StepsH P ops Q J a0 ds hs) (ho : ops[i]? = some ⟨some d, op, t, p, af, g⟩ := by rfl) (hm : ds.contains d = true := by kernel_rfl) : StepsH P ops Q J a0 ds (i :: hs) :=
 StepsH.cons ho rfl hm h hs'
theorem setAll_getD (l : Array Bool) (hs : List Nat) (j : Nat) (b : Bool) : (setAll l hs).getD j b = if j ∈ hs ∧ j < l.size then true else l.getD j b := by
 induction hs generalizing l with
 | nil => simp [setAll]
 | cons h hs ih =>
  rw [setAll, ih]
  simp only [Array.size_setIfInBounds, List.mem_cons]
  by_cases h1 : j ∈ hs ∧ j < l.size
  ·rw [if_pos h1, if_pos ⟨.inr h1.1, h1.2⟩]
  ·rw [if_neg h1]
   by_cases h2 : h = j
   ·subst h2
    by_cases h3 : h < l.size
    ·rw [if_pos ⟨.inl rfl, h3⟩]; simp [h3]
    ·rw [if_neg (fun k => h3 k.2)]; simp [h3]
   ·rw [getD_set_ne b h2]
    rw [if_neg (fun k => by rcases k with ⟨k | k, k2⟩; exact h2 k.symm; exact h1 ⟨k, k2⟩)]
theorem setAll_size (l : Array Bool) (hs : List Nat) : (setAll l hs).size = l.size := by
 induction hs generalizing l with
 | nil => rfl
 | cons h hs ih => rw [setAll, ih, Array.size_setIfInBounds]
theorem deps_mem {i : Nat} {o : Oper} (ho : ops[i]? = some o) {k : Nat} : k ∈ depsOf ops i ↔ ∃ e ∈ o.after, Region.binds .any e = true ∧ e.on = k := by
 simp only [depsOf, ho, List.mem_map, List.mem_filter, Array.mem_toList_iff]
 constructor
 ·rintro ⟨e, ⟨h1, h2⟩, h3⟩; exact ⟨e, h1, h2, h3⟩
 ·rintro ⟨e, h1, h2, h3⟩; exact ⟨e, ⟨h1, h2⟩, h3⟩
/-- How many of 'hs' have not come up. -/
def open1 (l : Array Bool) (h : Nat) : Bool := l.getD h true == false
def left (l : Array Bool) (hs : List Nat) : Nat := (hs.filter (open1 l)).length
theorem wpAnyH_inv_go {l0 : Array Bool} {a0 : Act} {fuel : Nat} (hs ds : List Nat) (J : (Nat → Value) → (Nat → Prop) → World → Prop) (hn : hs.Nodup) (hc : chkInv ops l0 hs = true)
 (hS : ∀ u L W, J u L W → S W) (hstep : StepsH P ops Q J a0 ds hs)
 (hdone : ∀ u L W, J u L W → (∀ j, L j ↔ (setAll l0 hs).getD j false = true) → wpAnyH P .any ops Q S fuel (setAll l0 hs) (puts a0 u ds) W) :
 ∀ (m : Nat) (l : Array Bool) (u : Nat → Value) (W : World), m = left l hs → l.size = l0.size → (∀ j, l0.getD j false = true → l.getD j false = true) → (∀ j, l.getD j false = true → l0.getD j false = true ∨ j ∈ hs) →
  J u (fun j => l.getD j false = true) W → wpAnyH P .any ops Q S (fuel + m) l (puts a0 u ds) W := by
 simp only [chkInv, Bool.and_eq_true, List.all_eq_true, beq_iff_eq, decide_eq_true_eq, List.mem_range, Bool.or_eq_true] at hc
 obtain ⟨⟨⟨hsz, hc1⟩, hc2⟩, hc3⟩ := hc
 have gd : ∀ (l : Array Bool) (j : Nat), j < l.size → l.getD j true = l.getD j false := fun l j h => by simp [h]
 intro m
 induction m with
 | zero =>
  intro l u W hm hls h1 h2 hJ
  have hall : ∀ h ∈ hs, l.getD h false = true := fun h hh => by
   have := List.length_eq_zero_iff.1 hm.symm
   have h4 : ¬ (l.getD h true == false) = true := fun k => by
    have h5 : h ∈ hs.filter (open1 l) := List.mem_filter.2 ⟨hh, k⟩
    rw [this] at h5
    cases h5
   rw [gd l h (by rw [hls]; exact (hc1 h hh).1)] at h4
   cases h5 : l.getD h false with
   | true => rfl
   | false => rw [h5] at h4; exact absurd rfl h4
  have hl : l = setAll l0 hs := by
   apply Array.ext (by rw [setAll_size, hls])
   intro i hi1 hi2
   have e1 : l[i] = l.getD i false := by simp [hi1]
   have e2 : (setAll l0 hs)[i] = (setAll l0 hs).getD i false := by simp [hi2]
   rw [e1, e2, setAll_getD]
   by_cases k : i ∈ hs ∧ i < l0.size
   ·rw [if_pos k, hall i k.1]
   ·rw [if_neg k]
    cases h5 : l0.getD i false with
    | true => exact h1 i h5
    | false =>
     cases h6 : l.getD i false with
     | false => rfl
     | true =>
      rcases h2 i h6 with k1 | k1
      ·rw [h5] at k1; cases k1
      ·exact absurd ⟨k1, by rw [← hls]; exact hi1⟩ k
  subst hl
  exact hdone u _ W hJ fun j => Iff.rfl
 | succ m ih =>
  intro l u W hm hls h1 h2 hJ
  -- one of them has not come up: the least
  have hex : ∃ h ∈ hs, l.getD h false = false := by
   cases hf : hs.filter (open1 l) with
   | nil => rw [left, hf] at hm; cases hm
   | cons h t =>
    have := List.mem_filter.1 (show h ∈ hs.filter (open1 l) by rw [hf]; exact List.mem_cons_self)
    refine ⟨h, this.1, ?_⟩
    rw [← gd l h (by rw [hls]; exact (hc1 h this.1).1)]
    exact eq_of_beq this.2
  have hrd : ∀ n, ∀ h ∈ hs, h < n → l.getD h false = false → ∃ i, i ∈ Region.ready .any ops l := by
   intro n
   induction n with
   | zero => intro h _ hlt; exact absurd hlt (Nat.not_lt_zero _)
   | succ n ihn =>
    intro h hh hlt hf
    by_cases hd : ∃ k ∈ depsOf ops h, l.getD k false = false
    ·obtain ⟨k, hk, hkf⟩ := hd
     obtain ⟨k1, k2⟩ := (hc1 h hh).2 k hk
     have hk3 : k ∈ hs := by
      rcases k2 with k2 | k2
      ·rw [h1 k k2] at hkf; cases hkf
      ·simpa using k2
     exact ihn k hk3 (by omega) hkf
    ·obtain ⟨o, d, ho, _⟩ := hstep h hh
     refine ⟨h, mem_ready.2 ⟨by rw [gd l h (by rw [hls]; exact (hc1 h hh).1)]; exact hf, o, ho, fun e he hb => ?_⟩⟩
     cases h5 : l.getD e.on false with
     | true => rfl
     | false => exact absurd ⟨e.on, (deps_mem ho).2 ⟨e, he, hb, rfl⟩, h5⟩ hd
  obtain ⟨h, hh, hf⟩ := hex
  obtain ⟨r, hr⟩ := hrd (h + 1) h hh (Nat.lt_succ_self h) hf
  refine ⟨fun h0 => (by rw [h0] at hr; cases hr), fun i hi => ?_⟩
  obtain ⟨hun, o', ho', hall⟩ := mem_ready.1 hi
  have hil : i < ops.size := (Array.getElem?_eq_some_iff.1 ho').1
  have hun' : l.getD i false = false := by rw [← gd l i (by omega)]; exact hun
  have hih : i ∈ hs := by
   rcases hc2 i hil with (k | k) | k
   ·rw [gd l0 i (by omega)] at k
    rw [h1 i k] at hun'; cases hun'
   ·simpa using k
   ·have := k h hh
    obtain ⟨e, he, hb, rfl⟩ := (deps_mem ho').1 (by simpa using this)
    rw [hall e he hb] at hf; cases hf
  obtain ⟨o, d, ho, hd, hmem, hst⟩ := hstep i hih
  have hoo : o = o' := by rw [ho] at ho'; exact Option.some.inj ho'
  subst hoo
  refine wpOp_step ho fun K' hK => ?_
  rw [hd]
  refine hst u (fun j => l.getD j false = true) W (by simp [hun']) (fun k hk => ?_) hJ K' (fun v W' hJ' => hK _ _ ?_)
  ·obtain ⟨e, he, hb, rfl⟩ := (deps_mem ho).1 (by simpa using hk)
   exact hall e he hb
  ·refine ⟨hS _ _ _ hJ', ?_⟩
   rw [puts_put a0 u d v ds hmem]
   have hL : (fun j => j = i ∨ l.getD j false = true) = fun j => (l.setIfInBounds i true).getD j false = true := by
    funext j
    apply propext
    by_cases hij : i = j
    ·subst hij
     have : i < l.size := by omega
     simp [this]
    ·rw [getD_set_ne false hij]
     constructor
     ·rintro (k | k)
      ·exact absurd k.symm hij
      ·exact k
     ·exact .inr
   rw [hL] at hJ'
   refine ih (l.setIfInBounds i true) (upd u d v) W' ?_ (by rw [Array.size_setIfInBounds, hls]) (fun j hj => getD_set_true (h1 j hj)) (fun j hj => ?_) hJ'
   · -- one less is left
    have key : ∀ (hs : List Nat), hs.Nodup → i ∈ hs → left l hs = left (l.setIfInBounds i true) hs + 1 := by
     intro hs
     induction hs with
     | nil => intro _ hmem; cases hmem
     | cons x xs ihx =>
      intro hnd hmem
      have hnd' := List.nodup_cons.1 hnd
      by_cases hx : i = x
      ·subst hx
       have hsame : ∀ y ∈ xs, open1 (l.setIfInBounds i true) y = open1 l y := fun y hy => by
        unfold open1
        rw [getD_set_ne true (show i ≠ y from fun k => hnd'.1 (by rw [k]; exact hy))]
       have hli : i < l.size := by omega
       unfold left
       rw [List.filter_cons_of_pos (by unfold open1; rw [hun]; rfl), List.filter_cons_of_neg (by unfold open1; simp [hli]), List.filter_congr hsame]
       simp
      ·have hmx : i ∈ xs := by
        rcases List.mem_cons.1 hmem with k | k
        ·exact absurd k hx
        ·exact k
       have := ihx hnd'.2 hmx
       have e1 : open1 (l.setIfInBounds i true) x = open1 l x := by unfold open1; rw [getD_set_ne true hx]
       unfold left at this ⊢
       by_cases hb : open1 l x = true
       ·rw [List.filter_cons_of_pos hb, List.filter_cons_of_pos (by rw [e1]; exact hb)]
        simp only [List.length_cons]; omega
       ·rw [List.filter_cons_of_neg hb, List.filter_cons_of_neg (by rw [e1]; exact hb)]
        exact this
    have := key hs hn hih
    omega
   ·by_cases hij : i = j
    ·subst hij; exact .inr hih
    ·rw [getD_set_ne false hij] at hj; exact h2 j hj
theorem wpAnyH_inv {l0 : Array Bool} {a0 : Act} {w : World} {fuel : Nat} (hs ds : List Nat) (J : (Nat → Value) → (Nat → Prop) → World → Prop) (hn : hs.Nodup) (hc : chkInv ops l0 hs = true)
 (hS : ∀ u L W, J u L W → S W) (h0 : ∀ u L, (∀ j ∈ hs, ¬ L j) → J u L w) (hstep : StepsH P ops Q J a0 ds hs)
 (hdone : ∀ u L W, J u L W → (∀ j, (setAll l0 hs).getD j false = true → L j) → wpAnyH P .any ops Q S fuel (setAll l0 hs) (puts a0 u ds) W) :
 wpAnyH P .any ops Q S (fuel + hs.length) l0 a0 w := by
 have hc' := hc
 simp only [chkInv, Bool.and_eq_true, List.all_eq_true, beq_iff_eq, decide_eq_true_eq, List.mem_range, Bool.or_eq_true] at hc'
 obtain ⟨⟨⟨hsz, hc1⟩, hc2⟩, hc3⟩ := hc'
 have hm : hs.length = left l0 hs := by
  unfold left
  rw [List.filter_eq_self.2 fun h hh => by unfold open1; rw [hc3 h hh]; rfl]
 have := wpAnyH_inv_go (P := P) (Q := Q) (S := S) hs ds J hn hc hS hstep (fun u L W hJ hL => hdone u L W hJ fun j hj => (hL j).2 hj) hs.length l0 (fun d => a0.tmps.getD d undef) w hm rfl (fun j h => h) (fun j h => .inl h)
  (h0 _ _ fun j hj hL => by
   have h3 := hc3 j hj
   have hlt := (hc1 j hj).1
   have : l0.getD j true = l0.getD j false := by simp [hlt]
   rw [this, hL] at h3; cases h3)
 rwa [puts_self] at this
end
end Go.Proofs.YtgcdgdnmcdffoaaGreatDoor
/- The invariant of a drawn region that writes to no elder block: what it has gathered. -/
namespace Go.Proofs.YtgcdgdnmcdffoaaGreatDoor
open Go.RowKit

def FBoxB (w : World) (k : Nat) (v : Value) (W : World) : Prop := ∃ b, v = .pointer (some ⟨b, 0, none⟩) ∧ w.heap.size ≤ b ∧ b < W.heap.size ∧ ∀ j, j < k → (∃ z, W.cell? ⟨b, j, none⟩ = some z) ∧ W.frozen? ⟨b, j, none⟩ = false
theorem FBoxB.later {k : Nat} {w : World} {v : Value} {W W' : World} (hb : Below W.heap.size W W') (h : FBoxB w k v W) : FBoxB w k v W' := by
 obtain ⟨b, e, h2, h3, h4⟩ := h
 refine ⟨b, e, h2, Nat.lt_of_lt_of_le h3 hb.size, fun j hj => ?_⟩
 obtain ⟨⟨z, hz⟩, hf⟩ := h4 j hj
 exact ⟨⟨z, ((bcell hb).1 b j h3).trans hz⟩, ((bcell hb).2 b j h3).trans hf⟩
theorem FBoxB.new {k : Nat} {w W : World} (hw : w.heap.size ≤ W.heap.size) (c : Array Value) (t : TypeId) (hc : c.size = k) : FBoxB w k (.pointer (some ⟨W.heap.size, 0, none⟩)) (W.alloc (.cells c t)) :=
 ⟨W.heap.size, rfl, hw, by simp, fun j hj => ⟨⟨c[j]'(by omega), by rw [World.cell?_alloc_new]; exact Array.getElem?_eq_getElem (by omega)⟩, by rw [World.frozen?_alloc_new]⟩⟩
theorem FBoxB.ne_new {k : Nat} {w W : World} {v : Value} (h : FBoxB w k v W) : Value.pointer (some ⟨W.heap.size, 0, none⟩) ≠ v := by
 obtain ⟨b, e, _, h3, _⟩ := h
 rw [e]
 intro k
 have k2 := Option.some.inj (Value.pointer.inj k)
 have k3 := congrArg Addr.block k2
 simp only at k3
 omega
theorem Shut.go4 {K' : Act → World → Prop} {Jp : Value → World → Prop} {X : Value → Act} {W W' : World} {a' : Act} {v : Value} (hK : Shut (∀ v W', Jp v W' → K' (X v) W')) (e : X v = a')
 (hb : Below W.heap.size W W') (h : Below W.heap.size W W' → Jp v W') : K' a' W' := e ▸ hK.out v W' (h hb)
theorem bez {A : Prop} (h : A := by first | with_reducible assumption | with_reducible exact Below.refl _ _ | exact Below.alloc (Below.refl _ _) (Nat.le_refl _) _) : A := h
theorem cell_same_ex {w : World} {p : Addr} {x : Value} (h : ∃ v, w.cell? p = some v) : (w.setCell p x).cell? p = some x := by
 obtain ⟨v, h⟩ := h
 exact cell_same h
theorem cell_off_ex {w : World} {p a : Addr} {x : Value} (h : ∃ v, w.cell? a = some v) (n : p.block ≠ a.block ∨ p.off ≠ a.off) : ∃ v, (w.setCell p x).cell? a = some v := by
 obtain ⟨v, h⟩ := h
 exact ⟨v, cell_off h n⟩
theorem ctz {w : World} {p : Addr} {v : Value} (h : w.cell? p = some v := by (repeat with_reducible refine cell_off ?_ (by first | (right; dsimp only; omega) | (left; dsimp only; omega) | (left; simp; omega))); with_reducible refine cell_same_ex ?_; (repeat with_reducible refine cell_off_ex ?_ (by first | (right; dsimp only; omega) | (left; dsimp only; omega) | (left; simp; omega))); exact ⟨_, by assumption⟩) : w.cell? p = some v := h
end Go.Proofs.YtgcdgdnmcdffoaaGreatDoor
/- The invariant rule for drawn regions, with operations that may be taken first. -/
namespace Go.Proofs.YtgcdgdnmcdffoaaGreatDoor

section
variable {P : Program} {ops : Array Oper} {Q : Exit → Act → World → Prop} {S : World → Prop}

/-- Whoever does not wait for operation p is apart from it. -/
def pureOk (ops : Array Oper) (p : Nat) : Bool := match ops[p]? with
 | none => false
 | some o => (List.range ops.size).all fun j => j == p || (depsOf ops p).contains j || match ops[j]? with
  | some oj => oj.after.any (fun e => Region.binds .any e && e.on == p) || o.apart ops oj
  | none => true
theorem pureOk_spec {p : Nat} {o : Oper} (ho : ops[p]? = some o) (h : pureOk ops p = true) (j : Nat) (oj : Oper) (hj : ops[j]? = some oj) (hne : j ≠ p) (hnd : (depsOf ops p).contains j = false) (hno : ∀ e ∈ oj.after, Region.binds .any e = true → e.on ≠ p) : o.apart ops oj = true := by
 simp only [pureOk, ho, List.all_eq_true, List.mem_range] at h
 have h1 := h j (Array.getElem?_eq_some_iff.1 hj).1
 rw [hnd] at h1
 simp only [hj, Bool.or_eq_true, beq_iff_eq, hne, false_or, Bool.false_eq_true] at h1
 rcases h1 with h1 | h1
 ·obtain ⟨e, he, hb⟩ := Array.any_eq_true'.1 h1
  simp only [Bool.and_eq_true, beq_iff_eq] at hb
  exact absurd hb.2 (hno e he hb.1)
 ·exact h1
def chkInv2 (ops : Array Oper) (l0 : Array Bool) (hs ps : List Nat) : Bool :=
 l0.size == ops.size && ((hs ++ ps).all fun h => h < l0.size && (depsOf ops h).all fun k => k < h && (l0.getD k false || (hs ++ ps).contains k)) &&
 ((List.range ops.size).all fun i => l0.getD i true || (hs ++ ps).contains i || hs.all fun h => (depsOf ops i).contains h) && (hs ++ ps).all fun h => l0.getD h true == false
/-- Each of 'ps' yields its value, and the invariant holds behind it. -/
def PuresH (P : Program) (ops : Array Oper) (S : World → Prop) (J : (Nat → Value) → (Nat → Prop) → World → Prop) (a0 : Act) (ds ps : List Nat) : Prop :=
 ∀ i ∈ ps, ∃ o d, ops[i]? = some o ∧ o.dst = some d ∧ d ∈ ds ∧ pureOk ops i = true ∧ ∀ u L W, ¬ L i → (∀ k, (depsOf ops i).contains k = true → L k) → J u L W →
  ∃ v, YieldsIf P ops S o v (puts a0 u ds) ∧ J (upd u d v) (fun j => j = i ∨ L j) W
theorem PuresH.nil {J : (Nat → Value) → (Nat → Prop) → World → Prop} {a0 : Act} {ds : List Nat} : PuresH P ops S J a0 ds [] := fun _ h => by cases h
theorem PuresH.cons {J : (Nat → Value) → (Nat → Prop) → World → Prop} {a0 : Act} {ds : List Nat} {i : Nat} {ps : List Nat} {o : Oper} {d : Nat} (ho : ops[i]? = some o) (hd : o.dst = some d) (hm : ds.contains d = true) (hp : pureOk ops i = true)
 (h : ∀ u L W, ¬ L i → (∀ k, (depsOf ops i).contains k = true → L k) → J u L W → ∃ v, YieldsIf P ops S o v (puts a0 u ds) ∧ J (upd u d v) (fun j => j = i ∨ L j) W)
 (hs' : PuresH P ops S J a0 ds ps) : PuresH P ops S J a0 ds (i :: ps) := fun j hj => by
 rcases List.mem_cons.1 hj with rfl | hj
 ·exact ⟨o, d, ho, hd, by simpa using hm, hp, h⟩
 ·exact hs' j hj
theorem wpAnyH_inv2_go {l0 : Array Bool} {a0 : Act} {fuel : Nat} (hs ps ds : List Nat) (J : (Nat → Value) → (Nat → Prop) → World → Prop) (hn : (hs ++ ps).Nodup) (hc : chkInv2 ops l0 hs ps = true) (hsel : Region.noSelect ops = true) (hQ : ∀ (d : Nat) v c a w, Q (.panic c) (Act.put a (some d) v) w → Q (.panic c) a w)
 (hS : ∀ u L W, J u L W → S W) (hstep : StepsH P ops Q J a0 ds hs) (hpure : PuresH P ops S J a0 ds ps)
 (hdone : ∀ u L W, J u L W → (∀ j, L j ↔ (setAll l0 (hs ++ ps)).getD j false = true) → wpAnyH P .any ops Q S fuel (setAll l0 (hs ++ ps)) (puts a0 u ds) W) :
 ∀ (m : Nat) (l : Array Bool) (u : Nat → Value) (W : World), m = left l (hs ++ ps) → l.size = l0.size → (∀ j, l0.getD j false = true → l.getD j false = true) → (∀ j, l.getD j false = true → l0.getD j false = true ∨ j ∈ hs ++ ps) →
  J u (fun j => l.getD j false = true) W → wpAnyH P .any ops Q S (fuel + m) l (puts a0 u ds) W := by
 simp only [chkInv2, Bool.and_eq_true, List.all_eq_true, beq_iff_eq, decide_eq_true_eq, List.mem_range, Bool.or_eq_true] at hc
 obtain ⟨⟨⟨hsz, hc1⟩, hc2⟩, hc3⟩ := hc
 have gd : ∀ (l : Array Bool) (j : Nat), j < l.size → l.getD j true = l.getD j false := fun l j h => by simp [h]
 intro m
 induction m with
 | zero =>
  intro l u W hm hls h1 h2 hJ
  have hall : ∀ h ∈ hs ++ ps, l.getD h false = true := fun h hh => by
   have := List.length_eq_zero_iff.1 hm.symm
   have h4 : ¬ (l.getD h true == false) = true := fun k => by
    have h5 : h ∈ (hs ++ ps).filter (open1 l) := List.mem_filter.2 ⟨hh, k⟩
    rw [this] at h5
    cases h5
   rw [gd l h (by rw [hls]; exact (hc1 h hh).1)] at h4
   cases h5 : l.getD h false with
   | true => rfl
   | false => rw [h5] at h4; exact absurd rfl h4
  have hl : l = setAll l0 (hs ++ ps) := by
   apply Array.ext (by rw [setAll_size, hls])
   intro i hi1 hi2
   have e1 : l[i] = l.getD i false := by simp [hi1]
   have e2 : (setAll l0 (hs ++ ps))[i] = (setAll l0 (hs ++ ps)).getD i false := by simp [hi2]
   rw [e1, e2, setAll_getD]
   by_cases k : i ∈ hs ++ ps ∧ i < l0.size
   ·rw [if_pos k, hall i k.1]
   ·rw [if_neg k]
    cases h5 : l0.getD i false with
    | true => exact h1 i h5
    | false =>
     cases h6 : l.getD i false with
     | false => rfl
     | true =>
      rcases h2 i h6 with k1 | k1
      ·rw [h5] at k1; cases k1
      ·exact absurd ⟨k1, by rw [← hls]; exact hi1⟩ k
  subst hl
  exact hdone u _ W hJ fun j => Iff.rfl
 | succ m ih =>
  intro l u W hm hls h1 h2 hJ
  have go : ∀ (i : Nat) (d : Nat) (v : Value) (W' : World), i ∈ hs ++ ps → l.getD i true = false → d ∈ ds → J (upd u d v) (fun j => j = i ∨ l.getD j false = true) W' → wpAnyH P .any ops Q S (fuel + m) (l.setIfInBounds i true) ((puts a0 u ds).put (some d) v) W' := fun i d v W' hih hun hmem hJ' => by
   have hil : i < l.size := by have := (hc1 i hih).1; omega
   rw [puts_put a0 u d v ds hmem]
   have hL : (fun j => j = i ∨ l.getD j false = true) = fun j => (l.setIfInBounds i true).getD j false = true := by
    funext j
    apply propext
    by_cases hij : i = j
    ·subst hij
     simp [hil]
    ·rw [getD_set_ne false hij]
     constructor
     ·rintro (k | k)
      ·exact absurd k.symm hij
      ·exact k
     ·exact .inr
   rw [hL] at hJ'
   refine ih (l.setIfInBounds i true) (upd u d v) W' ?_ (by rw [Array.size_setIfInBounds, hls]) (fun j hj => getD_set_true (h1 j hj)) (fun j hj => ?_) hJ'
   · -- one less is left
    have key : ∀ (hs : List Nat), hs.Nodup → i ∈ hs → left l hs = left (l.setIfInBounds i true) hs + 1 := by
     intro hs
     induction hs with
     | nil => intro _ hmem; cases hmem
     | cons x xs ihx =>
      intro hnd hmem
      have hnd' := List.nodup_cons.1 hnd
      by_cases hx : i = x
      ·subst hx
       have hsame : ∀ y ∈ xs, open1 (l.setIfInBounds i true) y = open1 l y := fun y hy => by
        unfold open1
        rw [getD_set_ne true (show i ≠ y from fun k => hnd'.1 (by rw [k]; exact hy))]
       have hli : i < l.size := by omega
       unfold left
       rw [List.filter_cons_of_pos (by unfold open1; rw [hun]; rfl), List.filter_cons_of_neg (by unfold open1; simp [hli]), List.filter_congr hsame]
       simp
      ·have hmx : i ∈ xs := by
        rcases List.mem_cons.1 hmem with k | k
        ·exact absurd k hx
        ·exact k
       have := ihx hnd'.2 hmx
       have e1 : open1 (l.setIfInBounds i true) x = open1 l x := by unfold open1; rw [getD_set_ne true hx]
       unfold left at this ⊢
       by_cases hb : open1 l x = true
       ·rw [List.filter_cons_of_pos hb, List.filter_cons_of_pos (by rw [e1]; exact hb)]
        simp only [List.length_cons]; omega
       ·rw [List.filter_cons_of_neg hb, List.filter_cons_of_neg (by rw [e1]; exact hb)]
        exact this
    have := key (hs ++ ps) hn hih
    omega
   ·by_cases hij : i = j
    ·subst hij; exact .inr hih
    ·rw [getD_set_ne false hij] at hj; exact h2 j hj
  by_cases hp : ∃ p ∈ ps, l.getD p false = false ∧ ∀ k ∈ depsOf ops p, l.getD k false = true
  ·obtain ⟨p, hpp, hpf, hpd⟩ := hp
   have hpa : p ∈ hs ++ ps := List.mem_append_right _ hpp
   obtain ⟨o, d, ho, hd, hmem, hpo, hst⟩ := hpure p hpp
   have hun : l.getD p true = false := by rw [gd l p (by have := (hc1 p hpa).1; omega)]; exact hpf
   obtain ⟨v, hy, hJ'⟩ := hst u (fun j => l.getD j false = true) W (by simp [hpf]) (fun k hk => hpd k (by simpa using hk)) hJ
   have hput : (puts a0 u ds).put o.dst v = (puts a0 u ds).put (some d) v := by rw [hd]
   refine wpAnyH_first ho (fun j oj cs b hj => Region.noSelect_spec hsel j oj cs b hj) (fun c a w h => hQ d v c a w (hd ▸ h)) (fuel + m) l (puts a0 u ds) W (fun j oj hj hne hlj hno => pureOk_spec ho hpo j oj hj hne (by
    cases hc : (depsOf ops p).contains j with
    | false => rfl
    | true =>
     have h1 := hpd j (by simpa using hc)
     simp only [Array.getD_eq_getD_getElem?] at h1 hlj
     cases h2 : l[j]? with
     | none => rw [h2] at hlj; cases hlj
     | some b => rw [h2] at h1 hlj; simp at h1 hlj; rw [h1] at hlj; cases hlj) hno) (mem_ready.2 ⟨hun, o, ho, fun e he hb => hpd _ ((deps_mem ho).2 ⟨e, he, hb, rfl⟩)⟩) hy (hS _ _ _ hJ) ?_
   rw [hput]
   exact go p d v W hpa hun hmem hJ'
  -- one of them has not come up: the least
  have hex : ∃ h ∈ hs ++ ps, l.getD h false = false := by
   cases hf : (hs ++ ps).filter (open1 l) with
   | nil => rw [left, hf] at hm; cases hm
   | cons h t =>
    have := List.mem_filter.1 (show h ∈ (hs ++ ps).filter (open1 l) by rw [hf]; exact List.mem_cons_self)
    refine ⟨h, this.1, ?_⟩
    rw [← gd l h (by rw [hls]; exact (hc1 h this.1).1)]
    exact eq_of_beq this.2
  have hrd : ∀ n, ∀ h ∈ hs ++ ps, h < n → l.getD h false = false → ∃ i ∈ hs, l.getD i false = false ∧ ∀ k ∈ depsOf ops i, l.getD k false = true := by
   intro n
   induction n with
   | zero => intro h _ hlt; exact absurd hlt (Nat.not_lt_zero _)
   | succ n ihn =>
    intro h hh hlt hf
    by_cases hd : ∃ k ∈ depsOf ops h, l.getD k false = false
    ·obtain ⟨k, hk, hkf⟩ := hd
     obtain ⟨k1, k2⟩ := (hc1 h hh).2 k hk
     have hk3 : k ∈ hs ++ ps := by
      rcases k2 with k2 | k2
      ·rw [h1 k k2] at hkf; cases hkf
      ·simpa using k2
     exact ihn k hk3 (by omega) hkf
    ·have hall : ∀ k ∈ depsOf ops h, l.getD k false = true := fun k hk => by
      cases h5 : l.getD k false with
      | true => rfl
      | false => exact absurd ⟨k, hk, h5⟩ hd
     rcases List.mem_append.1 hh with hh | hh
     ·exact ⟨h, hh, hf, hall⟩
     ·exact absurd ⟨h, hh, hf, hall⟩ hp
  obtain ⟨h, hh, hf⟩ := hex
  obtain ⟨r, hr, hrf, hrd⟩ := hrd (h + 1) h hh (Nat.lt_succ_self h) hf
  have hrr : r ∈ Region.ready .any ops l := by
   obtain ⟨o, d, ho, _⟩ := hstep r hr
   exact mem_ready.2 ⟨by rw [gd l r (by rw [hls]; exact (hc1 r (List.mem_append_left _ hr)).1)]; exact hrf, o, ho, fun e he hb => hrd _ ((deps_mem ho).2 ⟨e, he, hb, rfl⟩)⟩
  refine ⟨fun h0 => (by rw [h0] at hrr; cases hrr), fun i hi => ?_⟩
  obtain ⟨hun, o', ho', hall⟩ := mem_ready.1 hi
  have hil : i < ops.size := (Array.getElem?_eq_some_iff.1 ho').1
  have hun' : l.getD i false = false := by rw [← gd l i (by omega)]; exact hun
  have hia : i ∈ hs ++ ps := by
   rcases hc2 i hil with (k | k) | k
   ·rw [gd l0 i (by omega)] at k
    rw [h1 i k] at hun'; cases hun'
   ·simpa using k
   ·have := k r hr
    obtain ⟨e, he, hb, rfl⟩ := (deps_mem ho').1 (by simpa using this)
    rw [hall e he hb] at hrf; cases hrf
  have hih : i ∈ hs := by
   rcases List.mem_append.1 hia with k | k
   ·exact k
   ·exact absurd ⟨i, k, hun', fun q hq => by obtain ⟨e, he, hb, rfl⟩ := (deps_mem ho').1 hq; exact hall e he hb⟩ hp
  obtain ⟨o, d, ho, hd, hmem, hst⟩ := hstep i hih
  have hoo : o = o' := by rw [ho] at ho'; exact Option.some.inj ho'
  subst hoo
  refine wpOp_step ho fun K' hK => ?_
  rw [hd]
  refine hst u (fun j => l.getD j false = true) W (by simp [hun']) (fun k hk => ?_) hJ K' (fun v W' hJ' => hK _ _ ?_)
  ·obtain ⟨e, he, hb, rfl⟩ := (deps_mem ho).1 (by simpa using hk)
   exact hall e he hb
  ·exact ⟨hS _ _ _ hJ', go i d v W' hia hun hmem hJ'⟩
theorem wpAnyH_inv2 {l0 : Array Bool} {a0 : Act} {w : World} {fuel : Nat} (hs ps ds : List Nat) (J : (Nat → Value) → (Nat → Prop) → World → Prop) (hn : (hs ++ ps).Nodup) (hc : chkInv2 ops l0 hs ps = true) (hsel : Region.noSelect ops = true) (hQ : ∀ (d : Nat) v c a w, Q (.panic c) (Act.put a (some d) v) w → Q (.panic c) a w)
 (hS : ∀ u L W, J u L W → S W) (h0 : ∀ u L, (∀ j ∈ hs ++ ps, ¬ L j) → J u L w) (hstep : StepsH P ops Q J a0 ds hs) (hpure : PuresH P ops S J a0 ds ps)
 (hdone : ∀ u L W, J u L W → (∀ j, (setAll l0 (hs ++ ps)).getD j false = true → L j) → wpAnyH P .any ops Q S fuel (setAll l0 (hs ++ ps)) (puts a0 u ds) W) :
 wpAnyH P .any ops Q S (fuel + (hs ++ ps).length) l0 a0 w := by
 have hc' := hc
 simp only [chkInv2, Bool.and_eq_true, List.all_eq_true, beq_iff_eq, decide_eq_true_eq, List.mem_range, Bool.or_eq_true] at hc'
 obtain ⟨⟨⟨hsz, hc1⟩, hc2⟩, hc3⟩ := hc'
 have hm : (hs ++ ps).length = left l0 (hs ++ ps) := by
  unfold left
  rw [List.filter_eq_self.2 fun h hh => by unfold open1; rw [hc3 h hh]; rfl]
 have := wpAnyH_inv2_go (P := P) (Q := Q) (S := S) hs ps ds J hn hc hsel hQ hS hstep hpure (fun u L W hJ hL => hdone u L W hJ fun j hj => (hL j).2 hj) (hs ++ ps).length l0 (fun d => a0.tmps.getD d undef) w hm rfl (fun j h => h) (fun j h => .inl h)
  (h0 _ _ fun j hj hL => by
   have h3 := hc3 j hj
   have hlt := (hc1 j hj).1
   have : l0.getD j true = l0.getD j false := by simp [hlt]
   rw [this, hL] at h3; cases h3)
 rwa [puts_self] at this
end
end Go.Proofs.YtgcdgdnmcdffoaaGreatDoor
