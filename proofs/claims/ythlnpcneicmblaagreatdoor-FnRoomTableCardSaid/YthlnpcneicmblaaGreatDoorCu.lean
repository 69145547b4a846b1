/- Walks: a text is a name; a mark is one; a line is one. -/
import Derived.Test.YthlnpcneicmblaaGreatDoorCs
import Derived.Test.YthlnpcneicmblaaGreatDoorI
namespace Go.Proofs.YthlnpcneicmblaaGreatDoor
open Go.RowKit
set_option maxRecDepth 100000 in
set_option maxHeartbeats 4000000 in
theorem trim_names (s cs : ByteArray) (hcs : cs = cutC) (h1 : 1 ≤ s.size) (h8 : s.size ≤ 8) (w : World) :
 Calls Tryz.prog 118 #[.string s, .string cs] w fun e w' => ∃ t : ByteArray, e = .returned (.string t) ∧ TrimQ s t ∧ Below w.heap.size w w' := by
 have hz : cs.size = 36 := by rw [hcs, cutC_size]
 have hemp : cs.toList.isEmpty = false := by rw [nm_emp, hz]; rfl
 have hemps : s.toList.isEmpty = false := by rw [nm_emp]; exact decide_eq_false (by omega)
 obtain ⟨A, hA⟩ : ∃ A, A = setC cs cs.size := ⟨_, rfl⟩
 have HAt := hide (show ∀ x, x < 256 → A[x]? = some (.bool (chOk x)) from fun x hx => by rw [hA, setC_at cs _ hx, hz, hcs, cutC_is hx])
 have HA1 := hide (show A.all (·.oneCell') = true by rw [hA]; exact setC_one _ _)
 have HAs := hide (show A.size = 256 by rw [hA]; exact setC_size _ _)
 have KM := hide (fun W => (show Calls Tryz.prog 126 #[.string cs] W fun e w' => e = .returned (.tuple #[.agg A, .bool true]) ∧ w' = W.alloc (.cells A 145) by
  rw [hA]
  exact makeSet cs W (by omega) fun i hi => by
   have := List.all_eq_true.1 cutC_low i (List.mem_range.2 (by omega))
   rw [hcs]; simpa using this))
 clear hcs hA
 go_enter Tryz.func118, Tryz.ntmps118
 go_wp2_with fail
 (with_reducible refine (KM.out _).mono ?_); rintro e w1 ⟨rfl, hw1⟩
 have HB1 := hide (show Below w.heap.size w w1 by rw [hw1]; exact Below.alloc (Below.refl _ _) (Nat.le_refl _) _)
 have z1 : w.heap.size < w1.heap.size := by rw [hw1]; simp
 clear hw1 KM
 have hsc := run_storeCells_new (P := Tryz.prog) w1 145 Tryz.zeroCells145 A (by rw [HAs.out]; exact infoSet) (by rw [HAs.out, zeroSet, Array.size_replicate]) HA1.out
 have HC := hide (show ∀ x, x < 256 → (w1.alloc (.cells A 145)).cell? ⟨w1.heap.size, x, none⟩ = some (.bool (chOk x)) from fun x hx => by rw [World.cell?_alloc_new]; exact HAt.out x hx)
 have HB2 := hide (show Below w.heap.size w (w1.alloc (.cells A 145)) from Below.alloc HB1.out (Nat.le_of_lt z1) _)
 go_wp2_with fail
 clear hsc
 (with_reducible refine (trimRight_set s w1.heap.size _ h8 HC.out).mono ?_); rintro e w3 ⟨t, rfl, hq, rfl⟩
 have Hq := hide hq
 clear hq
 go_wp2_with fail
 (with_reducible refine (trimLeft_set t w1.heap.size _ HC.out).mono ?_); rintro e w4 ⟨t2, rfl, hq2, rfl⟩
 have Hq2 := hide hq2
 clear hq2
 go_wp2
 go_ret
 exact ⟨t2, rfl, Hq2.out.trans Hq.out, HB2.out⟩
set_option maxRecDepth 100000 in
set_option maxHeartbeats 4000000 in
theorem impl_isMarkName (s : ByteArray) (w : World) :
 Calls Tryz.prog 105 #[.string s] w fun e w' => e = .returned (.bool (nmOk s)) ∧ Below w.heap.size w w' := by
 by_cases a1 : s.size < 1
 ·have Hn := hide (show nmOk s = false by unfold nmOk inB; rw [decide_eq_false (by omega)]; rfl)
  have c1 : (s.size : Int) < 1 := by omega
  rw [Hn.out]
  go_enter Tryz.func105, Tryz.ntmps105
  go_wp2
  go_ret
  exact ⟨rfl, bwz⟩
 by_cases a2 : 8 < s.size
 ·have Hn := hide (show nmOk s = false by unfold nmOk inB; rw [decide_eq_false (by omega)]; rfl)
  have c1 : ¬ (s.size : Int) < 1 := by omega
  have c2 : (8 : Int) < (s.size : Int) := by omega
  rw [Hn.out]
  go_enter Tryz.func105, Tryz.ntmps105
  go_wp2
  go_ret
  exact ⟨rfl, bwz⟩
 have h0 : 0 < s.size := by omega
 have c1 : ¬ (s.size : Int) < 1 := by omega
 have c2 : ¬ (8 : Int) < (s.size : Int) := by omega
 have Hb := hide (byt_at h0)
 by_cases a3 : byt s 0 < 97
 ·have Hn := hide (show nmOk s = false by unfold nmOk; rw [decide_eq_false (p := 97 ≤ byt s 0) (by omega), Bool.and_false]; rfl)
  have c3 : ((s[0]'h0).toNat : Int) < 97 := by rw [← Hb.out]; omega
  rw [Hn.out]
  go_enter Tryz.func105, Tryz.ntmps105
  go_wp2
  go_ret
  exact ⟨rfl, bwz⟩
 obtain ⟨b, hb9⟩ : ∃ b, b = chsOk s s.size := ⟨_, rfl⟩
 have Hn := hide (show nmOk s = b by unfold nmOk inB; rw [decide_eq_true (p := 97 ≤ byt s 0) (by omega), decide_eq_true (by omega), hb9]; rfl)
 have c3 : ¬ ((s[0]'h0).toNat : Int) < 97 := by rw [← Hb.out]; omega
 have HB := hide hb9
 clear hb9
 rw [Hn.out]
 go_enter Tryz.func105, Tryz.ntmps105
 go_wp2_with fail
 (with_reducible refine (trim_names s _ (by kernel_rfl) (by omega) (by omega) _).mono ?_); rintro e w9 ⟨t, rfl, hq, hb⟩
 have hE : t.toList.isEmpty = b := by
  rw [nm_emp, HB.out, Bool.eq_iff_iff, decide_eq_true_iff]
  exact hq
 clear hq
 cases b
 ·go_wp2
  go_ret
  exact ⟨rfl, hb⟩
 ·go_wp2
  go_ret
  exact ⟨rfl, hb⟩
set_option maxRecDepth 100000 in
set_option maxHeartbeats 4000000 in
theorem spec_l04Name (s : ByteArray) (w : World) :
 Calls Tryz.prog 54 #[.string s] w fun e w' => e = .returned (.bool (nmOk s)) ∧ w = w' := by
 by_cases a1 : s.size < 1
 ·have Hn := hide (show nmOk s = false by unfold nmOk inB; rw [decide_eq_false (by omega)]; rfl)
  have c1 : (s.size : Int) < 1 := by omega
  rw [Hn.out]
  go_enter Tryz.func54, Tryz.ntmps54
  go_wp2
  go_ret
  exact ⟨rfl, rfl⟩
 by_cases a2 : 8 < s.size
 ·have Hn := hide (show nmOk s = false by unfold nmOk inB; rw [decide_eq_false (by omega)]; rfl)
  have c1 : ¬ (s.size : Int) < 1 := by omega
  have c2 : (8 : Int) < (s.size : Int) := by omega
  rw [Hn.out]
  go_enter Tryz.func54, Tryz.ntmps54
  go_wp2
  go_ret
  exact ⟨rfl, rfl⟩
 have h0 : 0 < s.size := by omega
 have c1 : ¬ (s.size : Int) < 1 := by omega
 have c2 : ¬ (8 : Int) < (s.size : Int) := by omega
 have Hb := hide (byt_at h0)
 by_cases a3 : byt s 0 < 97
 ·have Hn := hide (show nmOk s = false by unfold nmOk; rw [decide_eq_false (p := 97 ≤ byt s 0) (by omega), Bool.and_false]; rfl)
  have c3 : ((s[0]'h0).toNat : Int) < 97 := by rw [← Hb.out]; omega
  rw [Hn.out]
  go_enter Tryz.func54, Tryz.ntmps54
  go_wp2
  go_ret
  exact ⟨rfl, rfl⟩
 have c3 : ¬ ((s[0]'h0).toNat : Int) < 97 := by rw [← Hb.out]; omega
 by_cases a4 : 122 < byt s 0
 ·have Hn := hide (show nmOk s = false by unfold nmOk; rw [chsOk_f h0 (by unfold chOk; rw [decide_eq_false (p := byt s 0 ≤ 122) (by omega), decide_eq_false (p := byt s 0 ≤ 57) (by omega)]; simp), Bool.and_false])
  have c4 : (122 : Int) < ((s[0]'h0).toNat : Int) := by rw [← Hb.out]; omega
  rw [Hn.out]
  go_enter Tryz.func54, Tryz.ntmps54
  go_wp2
  go_ret
  exact ⟨rfl, rfl⟩
 have c4 : ¬ (122 : Int) < ((s[0]'h0).toNat : Int) := by rw [← Hb.out]; omega
 obtain ⟨b, hb9⟩ : ∃ b, b = chsOk s s.size := ⟨_, rfl⟩
 have Hn := hide (show nmOk s = b by unfold nmOk inB; rw [decide_eq_true (p := 97 ≤ byt s 0) (by omega), decide_eq_true (by omega), hb9]; rfl)
 have HB := hide hb9
 clear hb9
 rw [Hn.out]
 go_enter Tryz.func54, Tryz.ntmps54
 go_wp2
 go_loop [3] (fun i => ∃ k : Nat, k ≤ s.size ∧ i = .int .i64 k ∧ Hid (chsOk s k = true)) (fun i => s.size - (intOf i).toNat)
 case atStart => exact ⟨0, Nat.zero_le _, rfl, hide rfl⟩
 case round =>
  obtain ⟨k, hk, rfl, HK⟩ := hrel
  by_cases hlt : k < s.size
  ·have hi1 : (k : Int) < (s.size : Int) := by omega
   have hi0 : (0 : Int) ≤ (k : Int) := by omega
   have Hx := hide (byt_at hlt)
   obtain ⟨x, hx⟩ : ∃ x, x = (s[k]'hlt).toNat := ⟨_, rfl⟩
   have Hy := hide (show chOk (byt s k) = chOk x by rw [Hx.out, hx])
   have hx' : (s[k]'hlt).toNat = x := hx.symm
   clear hx
   by_cases d1 : x < 97
   ·have e1 : (x : Int) < 97 := by omega
    by_cases d2 : x < 48
    ·have e2 : (x : Int) < 48 := by omega
     have Hf := hide (show b = false by rw [HB.out]; exact chsOk_f hlt (by rw [Hy.out]; unfold chOk; rw [decide_eq_false (p := 97 ≤ x) (by omega), decide_eq_false (p := 48 ≤ x) (by omega)]; rfl))
     have hf := Hf.out
     subst hf
     go_wp2
     go_ret
     exact ⟨rfl, rfl⟩
    ·have e2 : ¬ (x : Int) < 48 := by omega
     by_cases d3 : 57 < x
     ·have e3 : (57 : Int) < (x : Int) := by omega
      have Hf := hide (show b = false by rw [HB.out]; exact chsOk_f hlt (by rw [Hy.out]; unfold chOk; rw [decide_eq_false (p := 97 ≤ x) (by omega), decide_eq_false (p := x ≤ 57) (by omega)]; simp))
      have hf := Hf.out
      subst hf
      go_wp2
      go_ret
      exact ⟨rfl, rfl⟩
     ·have e3 : ¬ (57 : Int) < (x : Int) := by omega
      have Ht := hide (show chsOk s (k + 1) = true by rw [chsOk, HK.out, Hy.out]; unfold chOk; rw [decide_eq_true (p := 48 ≤ x) (by omega), decide_eq_true (p := x ≤ 57) (by omega)]; simp)
      go_wp2
      refine ⟨⟨k + 1, by omega, by go_num, Ht⟩, ?_⟩
      simp [intOf]; omega
   ·have e1 : ¬ (x : Int) < 97 := by omega
    by_cases d2 : 122 < x
    ·have e2 : (122 : Int) < (x : Int) := by omega
     have e3 : ¬ (x : Int) < 48 := by omega
     have e4 : (57 : Int) < (x : Int) := by omega
     have Hf := hide (show b = false by rw [HB.out]; exact chsOk_f hlt (by rw [Hy.out]; unfold chOk; rw [decide_eq_false (p := x ≤ 122) (by omega), decide_eq_false (p := x ≤ 57) (by omega)]; simp))
     have hf := Hf.out
     subst hf
     go_wp2
     go_ret
     exact ⟨rfl, rfl⟩
    ·have e2 : ¬ (122 : Int) < (x : Int) := by omega
     have Ht := hide (show chsOk s (k + 1) = true by rw [chsOk, HK.out, Hy.out]; unfold chOk; rw [decide_eq_true (p := 97 ≤ x) (by omega), decide_eq_true (p := x ≤ 122) (by omega)]; rfl)
     go_wp2
     refine ⟨⟨k + 1, by omega, by go_num, Ht⟩, ?_⟩
     simp [intOf]; omega
  ·obtain rfl : k = s.size := by omega
   have Hf := hide (show b = true by rw [HB.out]; exact HK.out)
   have hf := Hf.out
   subst hf
   go_wp2
   go_ret
   exact ⟨rfl, rfl⟩
set_option maxHeartbeats 2000000 in
theorem impl_isMark (s : ByteArray) (x y sd zn : Int) (w : World) :
 Calls Tryz.prog 80 #[.agg #[.string s, .int .i64 x, .int .i64 y, .int .i64 sd, .int .i64 zn]] w fun e w' => e = .returned (.bool (isMk s x y sd zn)) ∧ Below w.heap.size w w' := by
 go_enter Tryz.func80, Tryz.ntmps80
 go_wp2_with (first | (go_at_call 105; (with_reducible refine (impl_isMarkName _ _).mono ?_); rintro e w9 ⟨rfl, hb⟩; obtain ⟨hc, hf⟩ := bcell hb; have hz := hb.size; have z0 : w.heap.size < w9.heap.size := (by first | omega | (simp at hz; omega))) | (go_at_call 77; (with_reducible refine (impl_IsPoint _ _ _).mono ?_); rintro e w9 ⟨rfl, hb⟩; obtain ⟨hc, hf⟩ := bcell hb; have hz := hb.size; have z0 : w.heap.size < w9.heap.size := (by first | omega | (simp at hz; omega))) | (go_at_call 41; (with_reducible refine (impl_within _ _ _ _).mono ?_); rintro e w9 ⟨rfl, rfl⟩))
 all_goals (go_ret; exact ⟨by simp_all [isMk], bwz⟩)
set_option maxHeartbeats 2000000 in
theorem spec_l04Mark (s : ByteArray) (x y sd zn : Int) (w : World) :
 Calls Tryz.prog 27 #[.agg #[.string s, .int .i64 x, .int .i64 y, .int .i64 sd, .int .i64 zn]] w fun e w' => e = .returned (.bool (isMk s x y sd zn)) ∧ Below w.heap.size w w' := by
 go_enter Tryz.func27, Tryz.ntmps27
 go_wp2_with (first | (go_at_call 54; (with_reducible refine (spec_l04Name _ _).mono ?_); rintro e w9 ⟨rfl, rfl⟩) | (go_at_call 37; (with_reducible refine (spec_IsPoint _ _ _).mono ?_); rintro e w9 ⟨rfl, hb⟩; obtain ⟨hc, hf⟩ := bcell hb; have hz := hb.size; have z0 : w.heap.size < w9.heap.size := (by first | omega | (simp at hz; omega))) | (go_at_call 46; (with_reducible refine (spec_l01In _ _ _ _).mono ?_); rintro e w9 ⟨rfl, rfl⟩))
 all_goals (go_ret; exact ⟨by simp_all [isMk], bwz⟩)
theorem impl_IsLine (ax ay bx bY : Int) (w : World) :
 Calls Tryz.prog 79 #[.agg #[.int .i64 ax, .int .i64 ay, .int .i64 bx, .int .i64 bY]] w fun e w' => e = .returned (.bool (isSg ax ay bx bY)) ∧ Below w.heap.size w w' := by
 go_enter Tryz.func79, Tryz.ntmps79
 go_wp2_with (go_at_call 104; (with_reducible refine (impl_IsSegment _ _ _ _ _).mono ?_); rintro e w9 ⟨rfl, hb⟩; obtain ⟨hc, hf⟩ := bcell hb; have hz := hb.size; have z0 : w.heap.size < w9.heap.size := (by first | omega | (simp at hz; omega)))
 go_ret
 exact ⟨rfl, bwz⟩
theorem spec_IsLine (ax ay bx bY : Int) (w : World) :
 Calls Tryz.prog 26 #[.agg #[.int .i64 ax, .int .i64 ay, .int .i64 bx, .int .i64 bY]] w fun e w' => e = .returned (.bool (isSg ax ay bx bY)) ∧ Below w.heap.size w w' := by
 go_enter Tryz.func26, Tryz.ntmps26
 go_wp2_with (go_at_call 37; (with_reducible refine (spec_IsPoint _ _ _).mono ?_); rintro e w9 ⟨rfl, hb⟩; obtain ⟨hc, hf⟩ := bcell hb; have hz := hb.size; have z0 : w.heap.size < w9.heap.size := (by first | omega | (simp at hz; omega)))
 all_goals (go_ret; exact ⟨by simp_all [isSg], bwz⟩)
end Go.Proofs.YthlnpcneicmblaaGreatDoor
