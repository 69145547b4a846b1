/- Walks: the set of the signs of names; names; marks. -/
import Derived.Test.YtlllfklehbjneaaDoorCs
import Derived.Test.YtlllfklehbjneaaDoorA
namespace Go.Proofs.YtlllfklehbjneaaDoor
open Go.RowKit

/-- 256 bools: which bytes are among the first k of s. -/
def setC (s : ByteArray) (k : Nat) : Array Value := (Array.range 256).map fun x => .bool ((List.range k).any fun i => byt s i == x)
theorem setC_size (s : ByteArray) (k : Nat) : (setC s k).size = 256 := by simp [setC]
theorem setC_zero (s : ByteArray) : setC s 0 = Array.replicate 256 (.bool false) := by
  apply Array.ext
  · simp [setC]
  · intro i h1 h2
    simp [setC]
theorem setC_at (s : ByteArray) (k : Nat) {x : Nat} (hx : x < 256) : (setC s k)[x]? = some (.bool ((List.range k).any fun i => byt s i == x)) := by simp [setC, hx]
theorem setC_succ (s : ByteArray) (k : Nat) : setC s (k + 1) = (setC s k).setIfInBounds (byt s k) (.bool true) := by
  apply Array.ext
  · simp [setC]
  · intro j h1 h2
    have hj : j < 256 := by simpa [setC] using h1
    rw [Array.getElem_setIfInBounds (by rw [setC_size]; exact hj)]
    by_cases e : byt s k = j
    · simp [setC, List.range_succ, e]
    · simp [setC, List.range_succ, e]
theorem setC_one (s : ByteArray) (k : Nat) : (setC s k).all (·.oneCell') = true := by
  rw [Array.all_eq_true_iff_forall_mem]
  intro v hv
  simp only [setC, Array.mem_map] at hv
  obtain ⟨_, _, rfl⟩ := hv
  rfl
/-- The signs of names. -/
def cutC : ByteArray := ⟨#[97, 98, 99, 100, 101, 102, 103, 104, 105, 106, 107, 108, 109, 110, 111, 112, 113, 114, 115, 116, 117, 118, 119, 120, 121, 122, 48, 49, 50, 51, 52, 53, 54, 55, 56, 57]⟩
theorem cutC_size : cutC.size = 36 := by kernel_rfl
theorem cutC_all : ((List.range 256).all fun x => ((List.range 36).any fun i => byt cutC i == x) == chOk x) = true := by kernel_rfl
theorem cutC_is {x : Nat} (hx : x < 256) : (List.range 36).any (fun i => byt cutC i == x) = chOk x := by
  have := List.all_eq_true.1 cutC_all x (List.mem_range.2 hx)
  simpa using this
theorem cutC_low : ((List.range 36).all fun i => decide (byt cutC i < 128)) = true := by kernel_rfl
section
variable {P : Program} {o : Oper} {a : Act} {next : Act → World → Prop} {Q : Exit → Act → World → Prop} {w w' : World}
theorem wp_load_of {t : TypeId} {x : Operand} {v : Value} (ho : o.op = .load t x) (h : (Instr.loadAt t (a.eval x)).run P w = .ok v w) (hn : next (a.put o.dst v) w) : Oper.wp P o a w next Q := by
  unfold Oper.wp execOp
  simp only [ho, Sem.run_bind, h, Result.andThen_ok, Sem.run_pure]
  exact hn
theorem wp_store_of {t : TypeId} {x y : Operand} (ho : o.op = .store t x y) (h : (Instr.storeAt t (a.eval x) (a.eval y)).run P w = .ok () w') (hn : next (a.put o.dst undef) w') : Oper.wp P o a w next Q := by
  unfold Oper.wp execOp
  simp only [ho, Sem.run_bind, h, Result.andThen_ok, Sem.run_pure]
  exact hn
end
theorem infoSet : (Tryd.prog.info? 157).map (·.size) = some 256 := by kernel_rfl
theorem zeroSet : Tryd.zeroCells157 = Array.replicate 256 (.bool false) := by kernel_rfl
set_option maxRecDepth 100000 in
set_option maxHeartbeats 4000000 in
theorem makeSet (s : ByteArray) (w : World) (hs : s.size ≤ 100) (ha : ∀ i, i < s.size → byt s i < 128) :
    Calls Tryd.prog 131 #[.string s] w fun e w' => e = .returned (.tuple #[.agg (setC s s.size), .bool true]) ∧ w' = w.alloc (.cells (setC s s.size) 157) := by
  have HA := hide ha
  clear ha
  have hi116 := infoSet
  go_enter Tryd.func131, Tryd.ntmps131
  go_wp2
  rw [zeroSet, ← setC_zero s]
  go_loopg [4] s.size (fun g s4 wx => ∃ i : Nat, i + g = s.size ∧ s4 = .int .i64 i ∧ wx = w.alloc (.cells (setC s i) 157))
  case atStart => exact ⟨0, by omega, rfl, rfl⟩
  case round =>
    obtain ⟨i, hig, rfl, rfl⟩ := hrel
    cases gk with
    | zero =>
      obtain rfl : i = s.size := by omega
      have hiz : ¬ ((s.size : Int) < (s.size : Int)) := by omega
      have hsz := setC_size s s.size
      have hld := run_loadVar_new (P := Tryd.prog) w 157 (setC s s.size) 256 4 Tryd.underlying157 (by rw [hsz]; exact hi116)
      go_wp2
      refine wp_load_of (t := 157) (x := .tmp 2) rfl (run_loadAt_new (P := Tryd.prog) w 157 (setC s s.size) 256 4 Tryd.underlying157 (by rw [hsz]; exact hi116)) ?_
      go_wp2
      rw [run_storeCells_new (P := Tryd.prog) w 157 (setC s s.size) (setC s s.size) (by rw [hsz]; exact hi116) rfl (setC_one _ _)]
      simp only [Result.andThen]
      rw [Oper.upon_skip]
      go_wp2
      (try simp only [Exit.inBlock, Exit.then])
      refine bodyPost_ret (v := .tuple #[.agg (setC s s.size), .bool true]) ?_ rfl ⟨rfl, rfl⟩
      rw [results_cell_tmp rfl]
      simp [asAddr, Result.andThen, hld]
    | succ g =>
      have hi : i < s.size := by omega
      have hiz : (i : Int) < (s.size : Int) := by omega
      have hi0 : (0 : Int) ≤ (i : Int) := by omega
      have hx := byt_at hi
      have hx128 := HA.out i hi
      have hb : ¬ ((128 : Int) ≤ ((s[i]'hi).toNat : Int)) := by omega
      have hx256 : ((s[i]'hi).toNat : Int) < 256 := by omega
      have hcell := setC_at s i (x := (s[i]'hi).toNat) (by omega)
      have Hx := hide hx
      clear hx
      go_wp2
      go_roundg g
      case measure => omega
      case rel => exact ⟨i + 1, by omega, by go_num, by rw [setC_succ, Hx.out]⟩
end Go.Proofs.YtlllfklehbjneaaDoor
