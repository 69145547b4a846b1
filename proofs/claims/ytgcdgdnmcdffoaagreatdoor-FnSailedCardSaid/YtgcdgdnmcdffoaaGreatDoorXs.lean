/- Walks: TimesSailed of both. -/
import Derived.Test.YtgcdgdnmcdffoaaGreatDoorXt
import Derived.Test.YtgcdgdnmcdffoaaGreatDoorTb
import Derived.Test.YtgcdgdnmcdffoaaGreatDoorTs
import Derived.Test.YtgcdgdnmcdffoaaGreatDoorCy
import Derived.Test.YtgcdgdnmcdffoaaGreatDoorCz
namespace Go.Proofs.YtgcdgdnmcdffoaaGreatDoor
open Go.RowKit

/-- The code of a course and a track. -/
def tsC (co tr ls : Bool) : Int := if co && tr then (if ls then 0 else 2) else 1
/-- The times at which the lines of a course are crossed. -/
def tsL (co tr : Bool) (A B C D : Nat → Int) (n2 : Nat) (T U V : Nat → Int) (n : Nat) : List Int := if tsC co tr (lnsOk A B C D (n + 1)) = 0 then (tmS A B C D T U V n2 (n + 2)).1 else []
theorem tsL_no {co tr : Bool} {A B C D : Nat → Int} {n2 : Nat} {T U V : Nat → Int} {n : Nat} (h : ¬ tsC co tr (lnsOk A B C D (n + 1)) = 0) : tsL co tr A B C D n2 T U V n = [] := by unfold tsL; rw [if_neg h]
theorem tsL_ok {A B C D : Nat → Int} {n2 : Nat} {T U V : Nat → Int} {n : Nat} (h : lnsOk A B C D (n + 1) = true) : tsL true true A B C D n2 T U V n = (tmS A B C D T U V n2 (n + 2)).1 := by unfold tsL; rw [h]; rfl
theorem tsC_tr (co ls : Bool) : tsC co false ls = 1 := by cases co <;> rfl
theorem tsC_co (tr ls : Bool) : tsC false tr ls = 1 := rfl
theorem tsC_z {co tr ls : Bool} (h : tsC co tr ls = 0) : co = true ∧ tr = true ∧ ls = true := by cases co <;> cases tr <;> cases ls <;> first | exact ⟨rfl, rfl, rfl⟩ | exact absurd h (by decide)
/-- The far line of a course is a line. -/
theorem ln_last (ax ay bx bY cx cy dx dy : Int) (_ : Option Addr) (n _ : Nat) (_ : Nat → ByteArray) (X Y S Z : Nat → Int) (g2 : isSg cx cy dx dy = true) : isSg (lnA ax ay bx bY cx cy dx dy n X Y S Z (n + 1)) (lnB ax ay bx bY cx cy dx dy n X Y S Z (n + 1)) (lnC ax ay bx bY cx cy dx dy n X Y S Z (n + 1)) (lnD ax ay bx bY cx cy dx dy n X Y S Z (n + 1)) = true := by
 unfold lnA lnB lnC lnD
 simp only [if_neg (Nat.succ_ne_zero n), if_neg (show ¬ n + 1 ≤ n by omega)]
 exact g2
set_option maxRecDepth 100000 in
set_option maxHeartbeats 8000000 in
theorem impl_sailed (ax ay bx bY cx cy dx dy : Int) (so : Option Addr) (n cap : Nat) (N : Nat → ByteArray) (X Y S Z : Nat → Int) (so2 : Option Addr) (n2 cap2 : Nat) (T U V : Nat → Int) (w : World) (h : RowAt w so n 5 (v5 N X Y S Z)) (hn : n ≤ 1048576) (hcap : n ≤ cap) (h2 : RowAt w so2 n2 3 (v3 T U V)) (hn2 : n2 ≤ 1048576) :
 Calls Tryz.prog 68 #[.agg #[.int .i64 ax, .int .i64 ay, .int .i64 bx, .int .i64 bY, .int .i64 cx, .int .i64 cy, .int .i64 dx, .int .i64 dy, .slice so n cap], .agg #[.slice so2 n2 cap2]] w (RetG w (tsL (isCo ax ay bx bY cx cy dx dy n N X Y S Z) (isTr n2 T U V) (lnA ax ay bx bY cx cy dx dy n X Y S Z) (lnB ax ay bx bY cx cy dx dy n X Y S Z) (lnC ax ay bx bY cx cy dx dy n X Y S Z) (lnD ax ay bx bY cx cy dx dy n X Y S Z) n2 T U V n) (tsC (isCo ax ay bx bY cx cy dx dy n N X Y S Z) (isTr n2 T U V) (lnsOk (lnA ax ay bx bY cx cy dx dy n X Y S Z) (lnB ax ay bx bY cx cy dx dy n X Y S Z) (lnC ax ay bx bY cx cy dx dy n X Y S Z) (lnD ax ay bx bY cx cy dx dy n X Y S Z) (n + 1)))) := by
 have KT := fun W (hb : Below w.heap.size w W) => impl_IsTrack so2 n2 cap2 T U V W (RowAt.later hb h2) hn2
 rcases b2 (isTr n2 T U V) with htr | htr
 ·rw [tsL_no (by rw [htr, tsC_tr]; decide)]
  have ec : tsC (isCo ax ay bx bY cx cy dx dy n N X Y S Z) (isTr n2 T U V) (lnsOk (lnA ax ay bx bY cx cy dx dy n X Y S Z) (lnB ax ay bx bY cx cy dx dy n X Y S Z) (lnC ax ay bx bY cx cy dx dy n X Y S Z) (lnD ax ay bx bY cx cy dx dy n X Y S Z) (n + 1)) = 1 := by rw [htr, tsC_tr]
  rw [ec]
  have KT2 := hide (htr ▸ KT)
  clear KT ec h h2 htr
  go_enter Tryz.func68, Tryz.ntmps68
  go_wp2_with (go_at_call 76; (with_reducible refine (KT2.out _ bwz).mono ?_); rintro e w9 ⟨rfl, hb⟩; obtain ⟨hc, hf⟩ := bcell hb; have hz := hb.size; have z0 : w.heap.size < w9.heap.size := (by first | omega | (simp at hz; omega)); have z1 : w.heap.size + 1 < w9.heap.size := (by first | omega | (simp at hz; omega)))
  go_ret2
  exact ⟨none, 0, rfl, own_nil, bwz⟩
 have KT2 := hide (htr ▸ KT)
 rw [htr]
 rcases b2 (isCo ax ay bx bY cx cy dx dy n N X Y S Z) with hco | hco
 ·have KC := hide (fun W (hb : Below w.heap.size w W) => impl_courseLines_c ax ay bx bY cx cy dx dy so n cap N X Y S Z W (RowAt.later hb h) hn hcap hco)
  rw [tsL_no (by rw [hco, tsC_co]; decide)]
  have ec : tsC (isCo ax ay bx bY cx cy dx dy n N X Y S Z) true (lnsOk (lnA ax ay bx bY cx cy dx dy n X Y S Z) (lnB ax ay bx bY cx cy dx dy n X Y S Z) (lnC ax ay bx bY cx cy dx dy n X Y S Z) (lnD ax ay bx bY cx cy dx dy n X Y S Z) (n + 1)) = 1 := by rw [hco]; rfl
  rw [ec]
  clear KT ec h h2 hco htr
  go_enter Tryz.func68, Tryz.ntmps68
  go_wp2_with (first | (go_at_call 76; (with_reducible refine (KT2.out _ bwz).mono ?_); rintro e w9 ⟨rfl, hb⟩; obtain ⟨hc, hf⟩ := bcell hb; have hz := hb.size; have z0 : w.heap.size < w9.heap.size := (by first | omega | (simp at hz; omega)); have z1 : w.heap.size + 1 < w9.heap.size := (by first | omega | (simp at hz; omega))) | (go_at_call 77; (with_reducible refine (KC.out _ bwz).mono ?_); rintro e w9 ⟨rfl, hb⟩; obtain ⟨hc, hf⟩ := bcell hb; have hz := hb.size; have z0 : w.heap.size < w9.heap.size := (by first | omega | (simp at hz; omega)); have z1 : w.heap.size + 1 < w9.heap.size := (by first | omega | (simp at hz; omega))))
  go_ret2
  exact ⟨none, 0, rfl, own_nil, bwz⟩
 have KC := fun W (hb : Below w.heap.size w W) => impl_courseLines ax ay bx bY cx cy dx dy so n cap N X Y S Z W (RowAt.later hb h) hcap hco
 have g2 := (isCo_t hco).2.1
 have hn8 := (isCo_t hco).2.2.2.1
 have hf := ln_last ax ay bx bY cx cy dx dy so n cap N X Y S Z g2
 rw [hco]
 rcases b2 (lnsOk (lnA ax ay bx bY cx cy dx dy n X Y S Z) (lnB ax ay bx bY cx cy dx dy n X Y S Z) (lnC ax ay bx bY cx cy dx dy n X Y S Z) (lnD ax ay bx bY cx cy dx dy n X Y S Z) (n + 1)) with hl | hl
 ·rw [tsL_no (by rw [hl]; decide)]
  have ec : tsC true true (lnsOk (lnA ax ay bx bY cx cy dx dy n X Y S Z) (lnB ax ay bx bY cx cy dx dy n X Y S Z) (lnC ax ay bx bY cx cy dx dy n X Y S Z) (lnD ax ay bx bY cx cy dx dy n X Y S Z) (n + 1)) = 2 := by rw [hl]; rfl
  rw [ec]
  have KC2 := hide (fun W (hb : Below w.heap.size w W) => (KC W hb).mono fun e w' q => show e = .returned (.tuple #[.slice none 0 0, .int .i64 2]) ∧ Below W.heap.size W w' from by
   obtain ⟨⟨q0, _⟩ | ⟨_, he⟩, hb'⟩ := q
   ·rw [hl] at q0; exact absurd q0 (by decide)
   ·exact ⟨he, hb'⟩)
  clear KT KC ec h h2 hco htr hl hf g2
  go_enter Tryz.func68, Tryz.ntmps68
  go_wp2_with (first | (go_at_call 76; (with_reducible refine (KT2.out _ bwz).mono ?_); rintro e w9 ⟨rfl, hb⟩; obtain ⟨hc, hf⟩ := bcell hb; have hz := hb.size; have z0 : w.heap.size < w9.heap.size := (by first | omega | (simp at hz; omega)); have z1 : w.heap.size + 1 < w9.heap.size := (by first | omega | (simp at hz; omega))) | (go_at_call 77; (with_reducible refine (KC2.out _ bwz).mono ?_); rintro e w9 ⟨rfl, hb⟩; obtain ⟨hc, hf⟩ := bcell hb; have hz := hb.size; have z0 : w.heap.size < w9.heap.size := (by first | omega | (simp at hz; omega)); have z1 : w.heap.size + 1 < w9.heap.size := (by first | omega | (simp at hz; omega))))
  go_ret2
  exact ⟨none, 0, rfl, own_nil, bwz⟩
 ·rw [tsL_ok hl, show tsC true true (lnsOk (lnA ax ay bx bY cx cy dx dy n X Y S Z) (lnB ax ay bx bY cx cy dx dy n X Y S Z) (lnC ax ay bx bY cx cy dx dy n X Y S Z) (lnD ax ay bx bY cx cy dx dy n X Y S Z) (n + 1)) = 0 by rw [hl]; rfl]
  obtain ⟨hn2a, _, _⟩ := isTr_t htr
  obtain ⟨b2, o2, rfl, hb2, _, _, _⟩ := h2.at3 0 (by omega)
  have KC2 := hide (fun W (hb : Below w.heap.size w W) => (KC W hb).mono fun e w' q => show (∃ g cp, e = .returned (.tuple #[.slice (some ⟨g, 0, none⟩) (n + 2) cp, .int .i64 0]) ∧ RowAt w' (some ⟨g, 0, none⟩) (n + 2) 4 (v4 (lnA ax ay bx bY cx cy dx dy n X Y S Z) (lnB ax ay bx bY cx cy dx dy n X Y S Z) (lnC ax ay bx bY cx cy dx dy n X Y S Z) (lnD ax ay bx bY cx cy dx dy n X Y S Z))) ∧ Below W.heap.size W w' from by
   obtain ⟨⟨_, g, cp, he, ho⟩ | ⟨q0, _⟩, hb'⟩ := q
   ·exact ⟨⟨g, cp, he, own_lines ho⟩, hb'⟩
   ·rw [hl] at q0; exact absurd q0 (by decide))
  have hs : ∀ i, i < n + 2 → isSg (lnA ax ay bx bY cx cy dx dy n X Y S Z i) (lnB ax ay bx bY cx cy dx dy n X Y S Z i) (lnC ax ay bx bY cx cy dx dy n X Y S Z i) (lnD ax ay bx bY cx cy dx dy n X Y S Z i) = true := fun i hi => by
   rcases Nat.lt_or_ge i (n + 1) with q | q
   ·exact lnsOk_t hl i q
   ·obtain rfl : i = n + 1 := by omega
    exact hf
  have KA := hide (fun W (gl cpl : Nat) (hb : Below w.heap.size w W) (hr : RowAt W (some ⟨gl, 0, none⟩) (n + 2) 4 (v4 (lnA ax ay bx bY cx cy dx dy n X Y S Z) (lnB ax ay bx bY cx cy dx dy n X Y S Z) (lnC ax ay bx bY cx cy dx dy n X Y S Z) (lnD ax ay bx bY cx cy dx dy n X Y S Z))) => impl_timesAcross (lnA ax ay bx bY cx cy dx dy n X Y S Z) (lnB ax ay bx bY cx cy dx dy n X Y S Z) (lnC ax ay bx bY cx cy dx dy n X Y S Z) (lnD ax ay bx bY cx cy dx dy n X Y S Z) gl (n + 2) cpl b2 o2 n2 cap2 T U V W hr (by omega) (RowAt.later hb h2) htr hs)
  clear KT KC hs hf hl hco htr h h2 g2
  generalize lnA ax ay bx bY cx cy dx dy n X Y S Z = A at *
  generalize lnB ax ay bx bY cx cy dx dy n X Y S Z = B at *
  generalize lnC ax ay bx bY cx cy dx dy n X Y S Z = C at *
  generalize lnD ax ay bx bY cx cy dx dy n X Y S Z = D at *
  generalize (tmS A B C D T U V n2 (n + 2)).1 = R9 at *
  obtain ⟨m, hm⟩ : ∃ m : Nat, m = n + 2 := ⟨_, rfl⟩
  rw [← hm] at KC2 KA
  clear hm
  go_enter Tryz.func68, Tryz.ntmps68
  go_wp2_with (go_at_call 76; (with_reducible refine (KT2.out _ bwz).mono ?_); rintro e w9 ⟨rfl, hb⟩; obtain ⟨hc, hf⟩ := bcell hb; have hz := hb.size; have z0 : w.heap.size < w9.heap.size := (by first | omega | (simp at hz; omega)); have z1 : w.heap.size + 1 < w9.heap.size := (by first | omega | (simp at hz; omega)))
  have hB9 := hide (show Below w.heap.size w w9 from bwz)
  have t0 : w9.cell? ⟨w.heap.size + 1, 0, none⟩ = some (.slice (some ⟨b2, o2, none⟩) n2 cap2) := by go_simp
  go_wp2_with fail; (with_reducible refine (KC2.out _ hB9.out).mono ?_); rintro e wC ⟨⟨gl, cpl, rfl, hr⟩, hbC⟩
  have Hr := hide hr
  have t1 := cell_later hbC t0
  have HBC := hide (bstep hB9.out hbC)
  have zC := hbC.size
  have zC1 : w.heap.size + 1 < wC.heap.size := World.block_lt_of_cell? _ _ t1
  clear hb hc hf hr hbC t0 hB9 KC2
  go_wp2_with fail; (with_reducible refine (KA.out _ _ _ HBC.out Hr.out).mono ?_); rintro e wD ⟨g9, cp9, rfl, hown, hbD⟩
  have Hown := hide hown
  clear hown
  go_wp2
  go_ret2
  exact ⟨_, _, rfl, Hown.out.mono (by omega), bstep HBC.out hbD⟩
set_option maxRecDepth 100000 in
set_option maxHeartbeats 8000000 in
theorem spec_l06Code (ax ay bx bY cx cy dx dy : Int) (so : Option Addr) (n cap : Nat) (N : Nat → ByteArray) (X Y S Z : Nat → Int) (so2 : Option Addr) (n2 cap2 : Nat) (T U V : Nat → Int) (w : World) (h : RowAt w so n 5 (v5 N X Y S Z)) (hn : n ≤ 1048576) (h2 : RowAt w so2 n2 3 (v3 T U V)) (hn2 : n2 ≤ 1048576) :
 Calls Tryz.prog 70 #[.agg #[.int .i64 ax, .int .i64 ay, .int .i64 bx, .int .i64 bY, .int .i64 cx, .int .i64 cy, .int .i64 dx, .int .i64 dy, .slice so n cap], .agg #[.slice so2 n2 cap2]] w fun e w' => e = .returned (.int .i64 (tsC (isCo ax ay bx bY cx cy dx dy n N X Y S Z) (isTr n2 T U V) (lnsOk (lnA ax ay bx bY cx cy dx dy n X Y S Z) (lnB ax ay bx bY cx cy dx dy n X Y S Z) (lnC ax ay bx bY cx cy dx dy n X Y S Z) (lnD ax ay bx bY cx cy dx dy n X Y S Z) (n + 1)))) ∧ Below w.heap.size w w' := by
 have KT := hide (fun W (hb : Below w.heap.size w W) => spec_IsTrack so2 n2 cap2 T U V W (RowAt.later hb h2) hn2)
 have KI := hide (fun W (hb : Below w.heap.size w W) => spec_IsCourse ax ay bx bY cx cy dx dy so n cap N X Y S Z W (RowAt.later hb h) hn)
 rcases b2 (isCo ax ay bx bY cx cy dx dy n N X Y S Z) with hco | hco
 ·rw [hco, tsC_co]
  have KI2 := hide (hco ▸ KI.out)
  clear KI KT h h2 hco
  go_enter Tryz.func70, Tryz.ntmps70
  go_wp2_with (go_at_call 60; (with_reducible refine (KI2.out _ bwz).mono ?_); rintro e w9 ⟨rfl, hb⟩; obtain ⟨hc, hf⟩ := bcell hb; have hz := hb.size; have z0 : w.heap.size < w9.heap.size := (by first | omega | (simp at hz; omega)); have z1 : w.heap.size + 1 < w9.heap.size := (by first | omega | (simp at hz; omega)))
  go_ret
  exact ⟨rfl, bwz⟩
 rcases b2 (isTr n2 T U V) with htr | htr
 ·rw [htr, tsC_tr]
  have KI2 := hide (hco ▸ KI.out)
  have KT2 := hide (htr ▸ KT.out)
  clear KI KT h h2 hco htr
  go_enter Tryz.func70, Tryz.ntmps70
  go_wp2_with (first | (go_at_call 60; (with_reducible refine (KI2.out _ bwz).mono ?_); rintro e w9 ⟨rfl, hb⟩; obtain ⟨hc, hf⟩ := bcell hb; have hz := hb.size; have z0 : w.heap.size < w9.heap.size := (by first | omega | (simp at hz; omega)); have z1 : w.heap.size + 1 < w9.heap.size := (by first | omega | (simp at hz; omega))) | (go_at_call 81; (with_reducible refine (KT2.out _ bwz).mono ?_); rintro e w9 ⟨rfl, hb⟩; obtain ⟨hc, hf⟩ := bcell hb; have hz := hb.size; have z0 : w.heap.size < w9.heap.size := (by first | omega | (simp at hz; omega)); have z1 : w.heap.size + 1 < w9.heap.size := (by first | omega | (simp at hz; omega))))
  go_ret
  exact ⟨rfl, bwz⟩
 have KI2 := hide (hco ▸ KI.out)
 have KT2 := hide (htr ▸ KT.out)
 have KC := fun W (hb : Below w.heap.size w W) => spec_l06Lines ax ay bx bY cx cy dx dy so n cap N X Y S Z W (RowAt.later hb h) hco
 rw [hco, htr]
 rcases b2 (lnsOk (lnA ax ay bx bY cx cy dx dy n X Y S Z) (lnB ax ay bx bY cx cy dx dy n X Y S Z) (lnC ax ay bx bY cx cy dx dy n X Y S Z) (lnD ax ay bx bY cx cy dx dy n X Y S Z) (n + 1)) with hl | hl
 ·rw [hl]
  have KC2 := hide (fun W (hb : Below w.heap.size w W) => (KC W hb).mono fun e w' q => show e = .returned (.tuple #[.slice none 0 0, .bool false]) ∧ Below W.heap.size W w' from by
   obtain ⟨⟨q0, _⟩ | ⟨_, he⟩, hb'⟩ := q
   ·rw [hl] at q0; exact absurd q0 (by decide)
   ·exact ⟨he, hb'⟩)
  clear KI KT KC h h2 hco htr hl
  go_enter Tryz.func70, Tryz.ntmps70
  go_wp2_with (first | (go_at_call 60; (with_reducible refine (KI2.out _ bwz).mono ?_); rintro e w9 ⟨rfl, hb⟩; obtain ⟨hc, hf⟩ := bcell hb; have hz := hb.size; have z0 : w.heap.size < w9.heap.size := (by first | omega | (simp at hz; omega)); have z1 : w.heap.size + 1 < w9.heap.size := (by first | omega | (simp at hz; omega))) | (go_at_call 81; (with_reducible refine (KT2.out _ bwz).mono ?_); rintro e w9 ⟨rfl, hb⟩; obtain ⟨hc, hf⟩ := bcell hb; have hz := hb.size; have z0 : w.heap.size < w9.heap.size := (by first | omega | (simp at hz; omega)); have z1 : w.heap.size + 1 < w9.heap.size := (by first | omega | (simp at hz; omega))) | (go_at_call 82; (with_reducible refine (KC2.out _ bwz).mono ?_); rintro e w9 ⟨rfl, hb⟩; obtain ⟨hc, hf⟩ := bcell hb; have hz := hb.size; have z0 : w.heap.size < w9.heap.size := (by first | omega | (simp at hz; omega)); have z1 : w.heap.size + 1 < w9.heap.size := (by first | omega | (simp at hz; omega))))
  go_ret
  exact ⟨rfl, bwz⟩
 ·rw [hl]
  have KC2 := hide (fun W (hb : Below w.heap.size w W) => (KC W hb).mono fun e w' q => show (∃ g cp, e = .returned (.tuple #[.slice (some ⟨g, 0, none⟩) (n + 2) cp, .bool true])) ∧ Below W.heap.size W w' from by
   obtain ⟨⟨_, g, cp, he, ho⟩ | ⟨q0, _⟩, hb'⟩ := q
   ·exact ⟨⟨g, cp, he⟩, hb'⟩
   ·rw [hl] at q0; exact absurd q0 (by decide))
  obtain ⟨m, hm⟩ : ∃ m : Nat, m = n + 2 := ⟨_, rfl⟩
  rw [← hm] at KC2
  clear KI KT KC h h2 hco htr hl hm
  go_enter Tryz.func70, Tryz.ntmps70
  go_wp2_with (first | (go_at_call 60; (with_reducible refine (KI2.out _ bwz).mono ?_); rintro e w9 ⟨rfl, hb⟩; obtain ⟨hc, hf⟩ := bcell hb; have hz := hb.size; have z0 : w.heap.size < w9.heap.size := (by first | omega | (simp at hz; omega)); have z1 : w.heap.size + 1 < w9.heap.size := (by first | omega | (simp at hz; omega))) | (go_at_call 81; (with_reducible refine (KT2.out _ bwz).mono ?_); rintro e w9 ⟨rfl, hb⟩; obtain ⟨hc, hf⟩ := bcell hb; have hz := hb.size; have z0 : w.heap.size < w9.heap.size := (by first | omega | (simp at hz; omega)); have z1 : w.heap.size + 1 < w9.heap.size := (by first | omega | (simp at hz; omega))))
  go_wp2_with fail; (with_reducible refine (KC2.out _ bwz).mono ?_); rintro e wC ⟨⟨gl, cpl, rfl⟩, hbC⟩
  go_wp2
  go_ret
  exact ⟨rfl, bstep bwz hbC⟩
theorem impl_TimesSailed (ax ay bx bY cx cy dx dy : Int) (so : Option Addr) (n cap : Nat) (N : Nat → ByteArray) (X Y S Z : Nat → Int) (so2 : Option Addr) (n2 cap2 : Nat) (T U V : Nat → Int) (w : World) (h : RowAt w so n 5 (v5 N X Y S Z)) (hn : n ≤ 1048576) (hcap : n ≤ cap) (h2 : RowAt w so2 n2 3 (v3 T U V)) (hn2 : n2 ≤ 1048576) :
 Calls Tryz.prog 30 #[.agg #[.int .i64 ax, .int .i64 ay, .int .i64 bx, .int .i64 bY, .int .i64 cx, .int .i64 cy, .int .i64 dx, .int .i64 dy, .slice so n cap], .agg #[.slice so2 n2 cap2]] w (RetG w (tsL (isCo ax ay bx bY cx cy dx dy n N X Y S Z) (isTr n2 T U V) (lnA ax ay bx bY cx cy dx dy n X Y S Z) (lnB ax ay bx bY cx cy dx dy n X Y S Z) (lnC ax ay bx bY cx cy dx dy n X Y S Z) (lnD ax ay bx bY cx cy dx dy n X Y S Z) n2 T U V n) (tsC (isCo ax ay bx bY cx cy dx dy n N X Y S Z) (isTr n2 T U V) (lnsOk (lnA ax ay bx bY cx cy dx dy n X Y S Z) (lnB ax ay bx bY cx cy dx dy n X Y S Z) (lnC ax ay bx bY cx cy dx dy n X Y S Z) (lnD ax ay bx bY cx cy dx dy n X Y S Z) (n + 1)))) := by
 have KC := hide (fun W (hb : Below w.heap.size w W) => impl_sailed ax ay bx bY cx cy dx dy so n cap N X Y S Z so2 n2 cap2 T U V W (RowAt.later hb h) hn hcap (RowAt.later hb h2) hn2)
 generalize (tsL (isCo ax ay bx bY cx cy dx dy n N X Y S Z) (isTr n2 T U V) (lnA ax ay bx bY cx cy dx dy n X Y S Z) (lnB ax ay bx bY cx cy dx dy n X Y S Z) (lnC ax ay bx bY cx cy dx dy n X Y S Z) (lnD ax ay bx bY cx cy dx dy n X Y S Z) n2 T U V n) = R9 at *
 generalize (tsC (isCo ax ay bx bY cx cy dx dy n N X Y S Z) (isTr n2 T U V) (lnsOk (lnA ax ay bx bY cx cy dx dy n X Y S Z) (lnB ax ay bx bY cx cy dx dy n X Y S Z) (lnC ax ay bx bY cx cy dx dy n X Y S Z) (lnD ax ay bx bY cx cy dx dy n X Y S Z) (n + 1))) = c9 at *
 clear h h2
 go_enter Tryz.func30, Tryz.ntmps30
 go_wp2_with fail; (with_reducible refine (KC.out _ bwz).mono ?_); rintro e wD ⟨so9, cp9, rfl, hown, hbD⟩
 have Hown := hide hown
 clear hown
 go_wp2
 go_ret2
 exact ⟨_, _, rfl, Hown.out.mono (by simp only [size_al]; omega), bstep bwz hbD⟩
end Go.Proofs.YtgcdgdnmcdffoaaGreatDoor
