/- Walks: the names of marks: strings.Trim at the cutset of names' signs. -/
import Derived.Test.YtgcdgdnmcdffoaaGreatDoorCo
import Derived.Lib.Strings
import Derived.Laws.Strings3
import Derived.Laws.ResultCell
import Derived.Deep.LoopGhost
import Derived.Deep.WholeRow
import Derived.Test.YtgcdgdnmcdffoaaGreatDoorA
namespace Go.Proofs.YtgcdgdnmcdffoaaGreatDoor
open Go.RowKit

theorem nm_beq (a b : ByteArray) : (a.toList == b.toList) = decide (a = b) := by
 rw [ByteArray.toList_eq, ByteArray.toList_eq, Bool.eq_iff_iff]
 simp only [beq_iff_eq, decide_eq_true_eq]
 exact ⟨fun h => ByteArray.ext (Array.toList_inj.1 h), fun h => by rw [h]⟩
theorem nm_emp (a : ByteArray) : a.toList.isEmpty = decide (a.size = 0) := by
 rw [ByteArray.toList_eq, Bool.eq_iff_iff, List.isEmpty_iff, decide_eq_true_eq, ← List.length_eq_zero_iff, Array.length_toList]
 exact Iff.rfl
theorem size_mk' (l : List UInt8) : (⟨l.toArray⟩ : ByteArray).size = l.length := by rw [Lib.size_eq]
theorem extract_mk' (l : List UInt8) (a b : Nat) : (⟨l.toArray⟩ : ByteArray).extract a b = ⟨((l.drop a).take (b - a)).toArray⟩ := by rw [Lib.extract_eq]
/-- Nothing is left just where all are signs of names; as many signs as before. -/
def TrimQ (s t : ByteArray) : Prop := t.size = 0 ↔ chsOk s s.size = true
def TrimR (s t : ByteArray) : Prop := chsOk t t.size = true ↔ chsOk s s.size = true
def sizeOfS : Value → Nat
 | .string s => s.size
 | _ => 0
theorem chs_drop {s : ByteArray} {k : Nat} (h : ∀ j, j < k → chOk (byt s j) = true) (h2 : k < s.size → chOk (byt s k) = false) (hk : k ≤ s.size) : s.size - k = 0 ↔ chsOk s s.size = true := by
 constructor
 ·intro e
  exact chsOk_of fun i hi => h i (by omega)
 ·intro e
  rcases Nat.lt_or_ge k s.size with c | c
  ·have := chsOk_t e k c
   rw [h2 c] at this; cases this
  ·omega
theorem as_contains (b x : Nat) (v : Bool) (w : World) (hx : x < 256) (hc : w.cell? ⟨b, x, none⟩ = some (.bool v)) :
 Calls Tryz.prog 210 #[.pointer (some ⟨b, 0, none⟩), .int .u8 x] w fun e w' => e = .returned (.bool v) ∧ w = w' := by
 have hx256 : (x : Int) < 256 := by omega
 go_enter Tryz.func210, Tryz.ntmps210
 go_wp2
 go_ret
 exact ⟨rfl, rfl⟩
set_option maxRecDepth 100000 in
set_option maxHeartbeats 2000000 in
theorem trimLeft_set (s : ByteArray) (b : Nat) (w : World) (hset : ∀ x, x < 256 → w.cell? ⟨b, x, none⟩ = some (.bool (chOk x))) :
 Calls Tryz.prog 204 #[.string s, .pointer (some ⟨b, 0, none⟩)] w fun e w' => ∃ t : ByteArray, e = .returned (.string t) ∧ TrimQ s t ∧ w = w' := by
 have HS := hide hset
 clear hset
 go_enter Tryz.func204, Tryz.ntmps204
 go_wp2
 go_loop [0] (fun v => ∃ (k : Nat) (t : ByteArray), k ≤ s.size ∧ v = .string t ∧ Hid (t = ⟨(s.data.toList.drop k).toArray⟩) ∧ Hid (∀ j, j < k → chOk (byt s j) = true)) (fun v => sizeOfS v)
 case atStart => exact ⟨0, s, Nat.zero_le _, rfl, hide (by simp), hide fun j hj => absurd hj (Nat.not_lt_zero _)⟩
 case round =>
  obtain ⟨k, t, hk, rfl, HT, HC⟩ := hrel
  have hts : t.size = s.size - k := by rw [HT.out, size_mk', List.length_drop, ← Lib.size_eq]
  have hx1 := hide (show t.extract 1 t.size = ⟨(s.data.toList.drop (k + 1)).toArray⟩ by
   rw [hts, HT.out, extract_mk', List.drop_drop, List.take_of_length_le (by simp; omega)])
  by_cases h0 : 0 < t.size
  ·have hbk := hide (show (t[0]'h0).toNat = byt s k by
    unfold byt
    have e : s.data.toList[k]? = some (t[0]'h0) := by
     have e1 : t.data.toList[0]? = some (t[0]'h0) := by
      rw [Array.getElem?_toList]; exact Array.getElem?_eq_getElem (xs := t.data) h0
     have e2 : t.data.toList[0]? = s.data.toList[k]? := by rw [HT.out]; simp [List.getElem?_drop]
     rw [← e2]; exact e1
    rw [e]; rfl)
   have hcx := HS.out (t[0]'h0).toNat (UInt8.toNat_lt _)
   obtain ⟨t1, ht1⟩ : ∃ t1 : ByteArray, t1 = t.extract 1 t.size := ⟨_, rfl⟩
   rcases b2 (chOk (t[0]'h0).toNat) with c | c <;> rw [c] at hcx
   ·have Hc := hide c
    clear c ht1
    go_wp2_with (go_at_call 210; (with_reducible refine (as_contains _ _ _ _ (UInt8.toNat_lt _) hcx).mono ?_); rintro e w9 ⟨rfl, rfl⟩)
    go_ret
    refine ⟨t, rfl, ?_, rfl⟩
    unfold TrimQ
    rw [hts]
    exact chs_drop HC.out (fun _ => by rw [← hbk.out]; exact Hc.out) hk
   ·have Hc := hide c
    clear c
    have Ht1 := hide ht1
    have e1 : t.extract 1 (s.size - k) = t1 := by rw [ht1, hts]
    have z1 : t1.size = s.size - (k + 1) := by rw [ht1, hx1.out, size_mk', List.length_drop, ← Lib.size_eq]
    clear ht1
    go_wp2_with (go_at_call 210; (with_reducible refine (as_contains _ _ _ _ (UInt8.toNat_lt _) hcx).mono ?_); rintro e w9 ⟨rfl, rfl⟩)
    refine ⟨⟨k + 1, t1, by omega, rfl, hide (by rw [Ht1.out, hx1.out]), hide fun j hj => ?_⟩, ?_⟩
    ·by_cases e : j = k
     ·subst e; rw [← hbk.out]; exact Hc.out
     ·exact HC.out j (by omega)
    ·simp only [sizeOfS]; omega
  ·go_wp2
   go_ret
   refine ⟨t, rfl, ?_, rfl⟩
   unfold TrimQ
   rw [hts]
   exact chs_drop HC.out (fun c => absurd c (by omega)) hk
set_option maxRecDepth 100000 in
set_option maxHeartbeats 2000000 in
/-- What is left when the signs of names are cut off at the end: nothing, or a text whose last sign is none. -/
theorem trimRight_set (s : ByteArray) (b : Nat) (w : World) (hs : s.size ≤ 8) (hset : ∀ x, x < 256 → w.cell? ⟨b, x, none⟩ = some (.bool (chOk x))) :
 Calls Tryz.prog 205 #[.string s, .pointer (some ⟨b, 0, none⟩)] w fun e w' => ∃ t : ByteArray, e = .returned (.string t) ∧ TrimR s t ∧ w = w' := by
 have HS := hide hset
 clear hset
 go_enter Tryz.func205, Tryz.ntmps205
 go_wp2
 go_loop [0] (fun v => ∃ (k : Nat) (t : ByteArray), k ≤ s.size ∧ v = .string t ∧ t.size = k ∧ Hid (t = ⟨(s.data.toList.take k).toArray⟩) ∧ Hid (∀ j, k ≤ j → j < s.size → chOk (byt s j) = true)) (fun v => sizeOfS v)
 case atStart => exact ⟨s.size, s, Nat.le_refl _, rfl, rfl, hide (by rw [List.take_of_length_le (by rw [← Lib.size_eq]; exact Nat.le_refl _)]), hide fun j h1 h2 => absurd h1 (by omega)⟩
 case round =>
  obtain ⟨k, t, hk, rfl, hts, HT, HC⟩ := hrel
  have hbt := hide (show ∀ j, j < k → byt t j = byt s j from fun j hj => by
   unfold byt
   rw [HT.out]
   simp [hj])
  have hout := hide (show (0 < k → chOk (byt s (k - 1)) = false) → TrimR s t from fun hlast => by
   unfold TrimR
   constructor
   ·intro e
    by_cases hk0 : k = 0
    ·exact chsOk_of fun i hi => HC.out i (by omega) hi
    ·have := chsOk_t e (k - 1) (by omega)
     rw [hbt.out _ (by omega), hlast (by omega)] at this; cases this
   ·intro e
    exact chsOk_of fun i hi => by rw [hbt.out i (by omega)]; exact chsOk_t e i (by omega))
  have hx1 := hide (show t.extract 0 (k - 1) = ⟨(s.data.toList.take (k - 1)).toArray⟩ by
   rw [HT.out, extract_mk', List.drop_zero, List.take_take]
   congr 3
   omega)
  by_cases h0 : 0 < k
  ·have h1 : k - 1 < t.size := by omega
   have hwr : IntKind.i64.wrap ((k : Int) - 1) = ((k - 1 : Nat) : Int) := by rw [show (k : Int) - 1 = ((k - 1 : Nat) : Int) by omega]; exact IntWalk.i64_in _ (by omega)
   have hi0 : (0 : Int) ≤ ((k - 1 : Nat) : Int) := by omega
   have hi1 : ((k - 1 : Nat) : Int) < (k : Int) := by omega
   have hbk := hide (show (t[k - 1]'h1).toNat = byt s (k - 1) by rw [← hbt.out (k - 1) (by omega), byt_at h1])
   have hcx := HS.out (t[k - 1]'h1).toNat (UInt8.toNat_lt _)
   obtain ⟨t1, ht1⟩ : ∃ t1 : ByteArray, t1 = t.extract 0 (k - 1) := ⟨_, rfl⟩
   rcases b2 (chOk (t[k - 1]'h1).toNat) with c | c <;> rw [c] at hcx
   ·have Hc := hide c
    clear c ht1
    go_wp2_with (go_at_call 210; (with_reducible refine (as_contains _ _ _ _ (UInt8.toNat_lt _) hcx).mono ?_); rintro e w9 ⟨rfl, rfl⟩)
    go_ret
    exact ⟨t, rfl, hout.out fun _ => by rw [← hbk.out]; exact Hc.out, rfl⟩
   ·have Hc := hide c
    clear c
    have Ht1 := hide ht1
    have e1 : t.extract 0 (k - 1) = t1 := ht1.symm
    have z1 : t1.size = k - 1 := by rw [ht1, hx1.out, size_mk', List.length_take, ← Lib.size_eq]; omega
    clear ht1
    go_wp2_with (go_at_call 210; (with_reducible refine (as_contains _ _ _ _ (UInt8.toNat_lt _) hcx).mono ?_); rintro e w9 ⟨rfl, rfl⟩)
    refine ⟨⟨k - 1, t1, by omega, rfl, z1, hide (by rw [Ht1.out, hx1.out]), hide fun j h2 h3 => ?_⟩, ?_⟩
    ·by_cases e : j = k - 1
     ·subst e; rw [← hbk.out]; exact Hc.out
     ·exact HC.out j (by omega) h3
    ·simp only [sizeOfS]; omega
  ·obtain rfl : k = 0 := by omega
   go_wp2
   go_ret
   exact ⟨t, rfl, hout.out fun c => absurd c (Nat.lt_irrefl _), rfl⟩
end Go.Proofs.YtgcdgdnmcdffoaaGreatDoor
/- Walks: the set of the signs of names; names; marks. -/
namespace Go.Proofs.YtgcdgdnmcdffoaaGreatDoor
open Go.RowKit

/-- 256 bools: which bytes are among the first k of s. -/
def setC (s : ByteArray) (k : Nat) : Array Value := (Array.range 256).map fun x => .bool ((List.range k).any fun i => byt s i == x)
theorem setC_size (s : ByteArray) (k : Nat) : (setC s k).size = 256 := by simp [setC]
theorem setC_zero (s : ByteArray) : setC s 0 = Array.replicate 256 (.bool false) := by
 apply Array.ext
 ·simp [setC]
 ·intro i h1 h2
  simp [setC]
theorem setC_at (s : ByteArray) (k : Nat) {x : Nat} (hx : x < 256) : (setC s k)[x]? = some (.bool ((List.range k).any fun i => byt s i == x)) := by simp [setC, hx]
theorem setC_succ (s : ByteArray) (k : Nat) : setC s (k + 1) = (setC s k).setIfInBounds (byt s k) (.bool true) := by
 apply Array.ext
 ·simp [setC]
 ·intro j h1 h2
  have hj : j < 256 := by simpa [setC] using h1
  rw [Array.getElem_setIfInBounds (by rw [setC_size]; exact hj)]
  by_cases e : byt s k = j
  ·simp [setC, List.range_succ, e]
  ·simp [setC, List.range_succ, e]
theorem setC_one (s : ByteArray) (k : Nat) : (setC s k).all (·.oneCell') = true := by
 rw [Array.all_eq_true_iff_forall_mem]
 intro v hv
 simp only [setC, Array.mem_map] at hv
 obtain ⟨_, _, rfl⟩ := hv
 rfl
/-- The signs of names. -/
def cutC : ByteArray := ⟨#[97, 98, 99, 100, 101, 102, 103, 104, 105, 106, 107, 108, 109, 110, 111, 112, 113, 114, 115, 116, 117, 118, 119, 120, 121, 122, 48, 49, 50, 51, 52, 53, 54, 55, 56, 57]⟩
theorem cutC_size : cutC.size = 36 := by kernel_rfl
theorem cutC_all : ((List.range 256).all fun x => ((List.range 36).any fun i => byt cutC i == x) == chOk x) = true := by kernel_rfl
theorem cutC_is {x : Nat} (hx : x < 256) : (List.range 36).any (fun i => byt cutC i == x) = chOk x := by
 have := List.all_eq_true.1 cutC_all x (List.mem_range.2 hx)
 simpa using this
theorem cutC_low : ((List.range 36).all fun i => decide (byt cutC i < 128)) = true := by kernel_rfl
section
variable {P : Program} {o : Oper} {a : Act} {next : Act → World → Prop} {Q : Exit → Act → World → Prop} {w w' : World}
theorem wp_load_of {t : TypeId} {x : Operand} {v : Value} (ho : o.op = .load t x) (h : (Instr.loadAt t (a.eval x)).run P w = .ok v w) (hn : next (a.put o.dst v) w) : Oper.wp P o a w next Q := by
 unfold Oper.wp execOp
 simp only [ho, Sem.run_bind, h, Result.andThen_ok, Sem.run_pure]
 exact hn
theorem wp_store_of {t : TypeId} {x y : Operand} (ho : o.op = .store t x y) (h : (Instr.storeAt t (a.eval x) (a.eval y)).run P w = .ok () w') (hn : next (a.put o.dst undef) w') : Oper.wp P o a w next Q := by
 unfold Oper.wp execOp
 simp only [ho, Sem.run_bind, h, Result.andThen_ok, Sem.run_pure]
 exact hn
end
theorem infoSet : (Tryz.prog.info? 215).map (·.size) = some 256 := by kernel_rfl
theorem zeroSet : Tryz.zeroCells215 = Array.replicate 256 (.bool false) := by kernel_rfl
set_option maxRecDepth 100000 in
set_option maxHeartbeats 4000000 in
theorem makeSet (s : ByteArray) (w : World) (hs : s.size ≤ 100) (ha : ∀ i, i < s.size → byt s i < 128) :
 Calls Tryz.prog 203 #[.string s] w fun e w' => e = .returned (.tuple #[.agg (setC s s.size), .bool true]) ∧ w' = w.alloc (.cells (setC s s.size) 215) := by
 have HA := hide ha
 clear ha
 have hi116 := infoSet
 go_enter Tryz.func203, Tryz.ntmps203
 go_wp2
 rw [zeroSet, ← setC_zero s]
 go_loopg [4] s.size (fun g s4 wx => ∃ i : Nat, i + g = s.size ∧ s4 = .int .i64 i ∧ wx = w.alloc (.cells (setC s i) 215))
 case atStart => exact ⟨0, by omega, rfl, rfl⟩
 case round =>
  obtain ⟨i, hig, rfl, rfl⟩ := hrel
  cases gk with
  | zero =>
   obtain rfl : i = s.size := by omega
   have hiz : ¬ ((s.size : Int) < (s.size : Int)) := by omega
   have hsz := setC_size s s.size
   have hld := run_loadVar_new (P := Tryz.prog) w 215 (setC s s.size) 256 4 Tryz.underlying215 (by rw [hsz]; exact hi116)
   go_wp2
   refine wp_load_of (t := 215) (x := .tmp 2) rfl (run_loadAt_new (P := Tryz.prog) w 215 (setC s s.size) 256 4 Tryz.underlying215 (by rw [hsz]; exact hi116)) ?_
   go_wp2
   rw [run_storeCells_new (P := Tryz.prog) w 215 (setC s s.size) (setC s s.size) (by rw [hsz]; exact hi116) rfl (setC_one _ _)]
   simp only [Result.andThen]
   rw [Oper.upon_skip]
   go_wp2
   (try simp only [Exit.inBlock, Exit.then])
   refine bodyPost_ret (v := .tuple #[.agg (setC s s.size), .bool true]) ?_ rfl ⟨rfl, rfl⟩
   rw [results_cell_tmp rfl]
   simp [asAddr, Result.andThen, hld]
  | succ g =>
   have hi : i < s.size := by omega
   have hiz : (i : Int) < (s.size : Int) := by omega
   have hi0 : (0 : Int) ≤ (i : Int) := by omega
   have hx := byt_at hi
   have hx128 := HA.out i hi
   have hb : ¬ ((128 : Int) ≤ ((s[i]'hi).toNat : Int)) := by omega
   have hx256 : ((s[i]'hi).toNat : Int) < 256 := by omega
   have hcell := setC_at s i (x := (s[i]'hi).toNat) (by omega)
   have Hx := hide hx
   clear hx
   go_wp2
   go_roundg g
   case measure => omega
   case rel => exact ⟨i + 1, by omega, by go_num, by rw [setC_succ, Hx.out]⟩
end Go.Proofs.YtgcdgdnmcdffoaaGreatDoor
/- Walks: the mark with a name. -/
namespace Go.Proofs.YtgcdgdnmcdffoaaGreatDoor
open Go.RowKit
theorem RowAt.take {w : World} {so : Option Addr} {n m c : Nat} {V : Nat → Nat → Value} (h : RowAt w so n c V) (hm : m ≤ n) : RowAt w so m c V := fun i hi => h i (by omega)
theorem nm_lit (s nm : ByteArray) (x y sd zn : Int) (B : Nat) (w : World) (hB : w.cell? ⟨B, 0, none⟩ = some (.string s)) :
 Calls Tryz.prog 179 #[.agg #[.string nm, .int .i64 x, .int .i64 y, .int .i64 sd, .int .i64 zn], .pointer (some ⟨B, 0, none⟩)] w fun e w' => e = .returned (.bool (decide (nm = s))) ∧ Below w.heap.size w w' := by
 have hBl := World.block_lt_of_cell? _ _ hB
 simp only at hBl
 obtain ⟨b, hb⟩ : ∃ b, b = decide (nm = s) := ⟨_, rfl⟩
 have hE : (nm.toList == s.toList) = b := by rw [nm_beq, hb]
 rw [← hb]
 clear hb
 go_enter Tryz.func179, Tryz.ntmps179
 go_wp2
 all_goals (go_ret; exact ⟨rfl, bwz⟩)
set_option maxRecDepth 100000 in
set_option maxHeartbeats 2000000 in
theorem slices_IndexFunc (so : Option Addr) (n cap : Nat) (N : Nat → ByteArray) (X Y S Z : Nat → Int) (s : ByteArray) (B : Nat) (w : World) (h : RowAt w so n 5 (v5 N X Y S Z)) (hB : w.cell? ⟨B, 0, none⟩ = some (.string s)) (hn : n ≤ 1048576) :
 Calls Tryz.prog 178 #[.slice so n cap, .func (.func 179) #[] #[.pointer (some ⟨B, 0, none⟩)]] w fun e w' => e = .returned (.int .i64 (nameAt N s n)) ∧ Below w.heap.size w w' := by
 have eg := enters_of Tryz.func179 (by kernel_rfl) rfl
 go_enter Tryz.func178, Tryz.ntmps178
 go_wp2
 go_loopw [8] (fun i wr => ∃ k : Nat, k ≤ n ∧ i = .int .i64 k ∧ Hid (fresh N s k = true) ∧ Below w.heap.size w wr) (fun i _ => n - (intOf i).toNat)
 case atStart => exact ⟨0, Nat.zero_le _, rfl, hide rfl, bwz⟩
 case round =>
  obtain ⟨k, hk, rfl, HK, hbl⟩ := hrel
  by_cases hlt : k < n
  ·obtain ⟨b, o, rfl, hbs, c0, c1, c2, c3, c4⟩ := (RowAt.later hbl h).at5 k hlt
   have hi0 : (0 : Int) ≤ (k : Int) := by omega
   have hi1 : (k : Int) < (n : Int) := by omega
   have hBc := hide (cell_later hbl hB)
   by_cases e : N k = s
   ·have Hr := hide (nameAt_hit hlt e HK.out)
    have He := hide (decide_eq_true e)
    clear e
    go_wp2_with fail
    (with_reducible refine (nm_lit s _ _ _ _ _ B _ hBc.out).mono ?_); rintro e w9 ⟨rfl, hb⟩
    rw [He.out]
    go_wp2
    go_ret
    exact ⟨by rw [Hr.out]; rfl, bstep hbl hb⟩
   ·have He := hide (decide_eq_false e)
    have Hf := hide (show fresh N s (k + 1) = true by rw [fresh, HK.out, He.out]; rfl)
    clear e
    go_wp2_with fail
    (with_reducible refine (nm_lit s _ _ _ _ _ B _ hBc.out).mono ?_); rintro e w9 ⟨rfl, hb⟩
    rw [He.out]
    go_wp2
    go_roundw
    case rel => exact ⟨k + 1, by omega, by go_num, Hf, bstep hbl hb⟩
    case measure => simp [intOf]; omega
  ·obtain rfl : k = n := by omega
   have Hr := hide (nameAt_miss HK.out)
   go_wp2
   go_ret
   exact ⟨by rw [Hr.out]; rfl, hbl⟩
theorem impl_markNamed (so : Option Addr) (n cap : Nat) (N : Nat → ByteArray) (X Y S Z : Nat → Int) (s : ByteArray) (w : World) (h : RowAt w so n 5 (v5 N X Y S Z)) (hn : n ≤ 1048576) :
 Calls Tryz.prog 155 #[.slice so n cap, .string s] w fun e w' => e = .returned (.int .i64 (nameAt N s n)) ∧ Below w.heap.size w w' := by
 go_enter Tryz.func155, Tryz.ntmps155
 go_wp2_with fail
 (with_reducible refine (slices_IndexFunc so n cap N X Y S Z s w.heap.size _ (RowAt.later bwz h) (by go_simp) hn).mono ?_); rintro e w9 ⟨rfl, hb⟩
 go_wp2
 go_ret
 exact ⟨rfl, bwz⟩
set_option maxRecDepth 100000 in
set_option maxHeartbeats 2000000 in
theorem spec_l04Named (ax ay bx bY cx cy dx dy : Int) (so : Option Addr) (n cap : Nat) (N : Nat → ByteArray) (X Y S Z : Nat → Int) (s : ByteArray) (w : World) (h : RowAt w so n 5 (v5 N X Y S Z)) (hn : n ≤ 1048576) :
 Calls Tryz.prog 105 #[.agg #[.int .i64 ax, .int .i64 ay, .int .i64 bx, .int .i64 bY, .int .i64 cx, .int .i64 cy, .int .i64 dx, .int .i64 dy, .slice so n cap], .string s] w fun e w' => e = .returned (.int .i64 (nameAt N s n)) ∧ Below w.heap.size w w' := by
 go_enter Tryz.func105, Tryz.ntmps105
 go_wp2
 go_loopw [5] (fun i wr => ∃ k : Nat, k ≤ n ∧ i = .int .i64 k ∧ Hid (fresh N s k = true) ∧ wr.cell? ⟨w.heap.size, 8, none⟩ = some (.slice so n cap) ∧ Below w.heap.size w wr) (fun i _ => n - (intOf i).toNat)
 case atStart => exact ⟨0, Nat.zero_le _, rfl, hide rfl, by go_simp, bwz⟩
 case round =>
  obtain ⟨k, hk, rfl, HK, q8, hbl⟩ := hrel
  by_cases hlt : k < n
  ·obtain ⟨b, o, rfl, hbs, c0, _, _, _, _⟩ := (RowAt.later hbl h).at5 k hlt
   have hi0 : (0 : Int) ≤ (k : Int) := by omega
   have hi1 : (k : Int) < (n : Int) := by omega
   by_cases e : N k = s
   ·have Hr := hide (nameAt_hit hlt e HK.out)
    have hE : ((N k).toList == s.toList) = true := by rw [nm_beq, decide_eq_true e]
    clear e
    go_wp2
    go_ret
    exact ⟨by rw [Hr.out]; rfl, hbl⟩
   ·have hE : ((N k).toList == s.toList) = false := by rw [nm_beq, decide_eq_false e]
    have Hf := hide (show fresh N s (k + 1) = true by rw [fresh, HK.out, decide_eq_false e]; rfl)
    clear e
    go_wp2
    go_roundw
    case rel => exact ⟨k + 1, by omega, by go_num, Hf, q8, hbl⟩
    case measure => simp [intOf]; omega
  ·obtain rfl : k = n := by omega
   have Hr := hide (nameAt_miss HK.out)
   go_wp2
   go_ret
   exact ⟨by rw [Hr.out]; rfl, hbl⟩
end Go.Proofs.YtgcdgdnmcdffoaaGreatDoor
