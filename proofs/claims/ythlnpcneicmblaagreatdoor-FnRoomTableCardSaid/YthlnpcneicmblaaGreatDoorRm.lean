/- Walks: the room between two tracks; the code for a wind, a course, its mark, tracks and a length; RoomAt of both. -/
import Derived.Test.YthlnpcneicmblaaGreatDoorZc
import Derived.Test.YthlnpcneicmblaaGreatDoorO
import Derived.Test.YthlnpcneicmblaaGreatDoorTg
import Derived.Test.YthlnpcneicmblaaGreatDoorTgs
import Derived.Test.YthlnpcneicmblaaGreatDoorBp
import Derived.Test.YthlnpcneicmblaaGreatDoorTm
namespace Go.Proofs.YthlnpcneicmblaaGreatDoor
open Go.RowKit

/-- The room of two hulls that lie where two tracks are at a time. -/
def rmH (wx wy x y : Int) (n : Nat) (T U V : Nat → Int) (n3 : Nat) (T3 U3 V3 : Nat → Int) (t len : Int) : Int × Int :=
 rmI wx wy x y (posX n T U t) (posX n T V t) (wayX n T U t) (wayX n T V t) len (posX n3 T3 U3 t) (posX n3 T3 V3 t) (wayX n3 T3 U3 t) (wayX n3 T3 V3 t) len
/-- The room between two tracks at a mark. -/
def rmA (wx wy x y z : Int) (n : Nat) (T U V : Nat → Int) (n3 : Nat) (T3 U3 V3 : Nat → Int) (len : Int) : Int × Int :=
 if rtI (cmI x y z n T U V) (cmI x y z n3 T3 U3 V3) < 0 then (0, 0)
 else if huC n T U V (rtI (cmI x y z n T U V) (cmI x y z n3 T3 U3 V3)) len = 0 ∧ huC n3 T3 U3 V3 (rtI (cmI x y z n T U V) (cmI x y z n3 T3 U3 V3)) len = 0 then
  rmH wx wy x y n T U V n3 T3 U3 V3 (rtI (cmI x y z n T U V) (cmI x y z n3 T3 U3 V3)) len
 else (0, 0)
theorem rmA_neg {wx wy x y z : Int} {n : Nat} {T U V : Nat → Int} {n3 : Nat} {T3 U3 V3 : Nat → Int} {len t : Int} (ht : rtI (cmI x y z n T U V) (cmI x y z n3 T3 U3 V3) = t) (h : t < 0) : rmA wx wy x y z n T U V n3 T3 U3 V3 len = (0, 0) := by unfold rmA; rw [ht, if_pos h]
theorem rmA_no {wx wy x y z : Int} {n : Nat} {T U V : Nat → Int} {n3 : Nat} {T3 U3 V3 : Nat → Int} {len t : Int} (ht : rtI (cmI x y z n T U V) (cmI x y z n3 T3 U3 V3) = t) (h : ¬ t < 0) (hc : ¬ (huC n T U V t len = 0 ∧ huC n3 T3 U3 V3 t len = 0)) : rmA wx wy x y z n T U V n3 T3 U3 V3 len = (0, 0) := by unfold rmA; rw [ht, if_neg h, if_neg hc]
theorem rmA_ok {wx wy x y z : Int} {n : Nat} {T U V : Nat → Int} {n3 : Nat} {T3 U3 V3 : Nat → Int} {len t : Int} (ht : rtI (cmI x y z n T U V) (cmI x y z n3 T3 U3 V3) = t) (h : ¬ t < 0) (hc : huC n T U V t len = 0 ∧ huC n3 T3 U3 V3 t len = 0) : rmA wx wy x y z n T U V n3 T3 U3 V3 len = rmH wx wy x y n T U V n3 T3 U3 V3 t len := by unfold rmA; rw [ht, if_neg h, if_pos hc]
/-- The code of a wind, a course, tracks, a mark and a length. -/
def rmC5 (wd co tr : Bool) (n : Nat) (k len : Int) : Int := if wd && co && tr then (if zoC co tr n k = 0 then sel (inB len 1 1000) 0 2 else zoC co tr n k) else 1
theorem rmC5_no {wd co tr : Bool} {n : Nat} {k len : Int} (h : (wd && co && tr) = false) : rmC5 wd co tr n k len = 1 := by unfold rmC5; rw [h]; rfl
theorem rmC5_z {n : Nat} {k len : Int} (z : ¬ zoC true true n k = 0) : rmC5 true true true n k len = zoC true true n k := by unfold rmC5; rw [if_pos (by rfl), if_neg z]
theorem rmC5_ok {n : Nat} {k len : Int} (z : zoC true true n k = 0) : rmC5 true true true n k len = sel (inB len 1 1000) 0 2 := by unfold rmC5; rw [if_pos (by rfl), if_pos z]
theorem sel_t (x y : Int) : sel true x y = x := rfl
theorem sel_f (x y : Int) : sel false x y = y := rfl
theorem impl_HullAt_g (so : Option Addr) (n cap : Nat) (T X Y : Nat → Int) (t len : Int) (w : World) (h : RowAt w so n 3 (v3 T X Y)) (hn : n ≤ 1048576) : Calls Tryz.prog 43 #[.agg #[.slice so n cap], .int .i64 t, .int .i64 len] w fun e w' => ∃ a b c d l : Int, e = .returned (.tuple #[.agg #[.int .i64 a, .int .i64 b, .int .i64 c, .int .i64 d, .int .i64 l], .int .i64 (huC n T X Y t len)]) ∧ Below w.heap.size w w' :=
 (impl_HullAt so n cap T X Y t len w h hn).mono fun _ _ k => ⟨_, _, _, _, _, k.1, k.2⟩
theorem impl_HullAt_ok (so : Option Addr) (n cap : Nat) (T X Y : Nat → Int) (t len : Int) (w : World) (h : RowAt w so n 3 (v3 T X Y)) (hn : n ≤ 1048576) (ho : huOk n T X Y t len = true) (hc : huC n T X Y t len = 0) : Calls Tryz.prog 43 #[.agg #[.slice so n cap], .int .i64 t, .int .i64 len] w fun e w' => e = .returned (.tuple #[.agg #[.int .i64 (posX n T X t), .int .i64 (posX n T Y t), .int .i64 (wayX n T X t), .int .i64 (wayX n T Y t), .int .i64 len], .int .i64 0]) ∧ Below w.heap.size w w' := by
 have K := impl_HullAt so n cap T X Y t len w h hn
 rw [ho, hc] at K
 simp only [sel_t] at K
 exact K
set_option maxRecDepth 100000 in
set_option maxHeartbeats 8000000 in
theorem impl_roomAt (wx wy : Int) (nm : ByteArray) (x y sd z : Int) (b o n cap : Nat) (T U V : Nat → Int) (b3 o3 n3 cap3 : Nat) (T3 U3 V3 : Nat → Int) (len : Int) (w : World) (hw : isWd wx wy = true) (h : RowAt w (some ⟨b, o, none⟩) n 3 (v3 T U V)) (hv : isTr n T U V = true) (h3 : RowAt w (some ⟨b3, o3, none⟩) n3 3 (v3 T3 U3 V3)) (hv3 : isTr n3 T3 U3 V3 = true) (hp : isPt x y = true) (hz1 : 1 ≤ z) (hz2 : z ≤ 5000) :
 Calls Tryz.prog 19 #[.agg #[.int .i64 wx, .int .i64 wy], .agg #[.string nm, .int .i64 x, .int .i64 y, .int .i64 sd, .int .i64 z], .agg #[.slice (some ⟨b, o, none⟩) n cap], .agg #[.slice (some ⟨b3, o3, none⟩) n3 cap3], .int .i64 len] w fun e w' => e = .returned (.agg #[.int .i64 (rmA wx wy x y z n T U V n3 T3 U3 V3 len).1, .int .i64 (rmA wx wy x y z n T U V n3 T3 U3 V3 len).2]) ∧ Below w.heap.size w w' := by
 obtain ⟨_, hn40, _⟩ := isTr_t hv
 obtain ⟨_, hn41, _⟩ := isTr_t hv3
 have KT := fun W (hb : Below w.heap.size w W) => impl_roomTime nm x y sd z b o n cap T U V b3 o3 n3 cap3 T3 U3 V3 W (RowAt.later hb h) hv (RowAt.later hb h3) hv3 hp hz1 hz2
 obtain ⟨t, ht⟩ : ∃ t, t = rtI (cmI x y z n T U V) (cmI x y z n3 T3 U3 V3) := ⟨_, rfl⟩
 rw [← ht] at KT
 have KT := hide KT
 by_cases hneg : t < 0
 ·have hr := hide (rmA_neg (wx := wx) (wy := wy) (len := len) ht.symm hneg)
  rw [hr.out]
  clear h hv h3 hv3 hp hz1 hz2 ht
  go_enter Tryz.func19, Tryz.ntmps19
  go_wp2_with fail; (with_reducible refine (KT.out _ bwz).mono ?_); rintro e wa ⟨rfl, hbwa⟩; obtain ⟨hcwa, hfwa⟩ := bcell hbwa; have hzwa := hbwa.size; have zzwa0 : w.heap.size < wa.heap.size := (by first | omega | (simp at hzwa; omega)); have zzwa1 : w.heap.size + 1 < wa.heap.size := (by first | omega | (simp at hzwa; omega)); have zzwa2 : w.heap.size + 1 + 1 < wa.heap.size := (by first | omega | (simp at hzwa; omega)); have zzwa3 : w.heap.size + 1 + 1 + 1 < wa.heap.size := (by first | omega | (simp at hzwa; omega)); have zzwa4 : w.heap.size + 1 + 1 + 1 + 1 < wa.heap.size := (by first | omega | (simp at hzwa; omega))
  go_wp2
  simp [bodyPost, results, Tryz.results19, go_sem, *]
  all_goals exact bwz
 rcases huC_cases n T U V t len with ⟨c1, _⟩ | ⟨c1, o1⟩
 ·have hr := hide (rmA_no (wx := wx) (wy := wy) ht.symm hneg (fun q => c1 q.1))
  rw [hr.out]
  have K1 := fun W (hb : Below w.heap.size w W) => impl_HullAt_g (some ⟨b, o, none⟩) n cap T U V t len W (RowAt.later hb h) (by omega)
  have K2 := fun W (hb : Below w.heap.size w W) => impl_HullAt_g (some ⟨b3, o3, none⟩) n3 cap3 T3 U3 V3 t len W (RowAt.later hb h3) (by omega)
  generalize huC n T U V t len = d1 at *
  generalize huC n3 T3 U3 V3 t len = d2 at *
  have e1 : (d1 != 0) = true := bne_iff_ne.2 c1
  have K1 := hide K1
  have K2 := hide K2
  clear h hv h3 hv3 hp hz1 hz2 ht hr hw c1
  go_enter Tryz.func19, Tryz.ntmps19
  go_wp2_with fail; (with_reducible refine (KT.out _ bwz).mono ?_); rintro e wa ⟨rfl, hbwa⟩; obtain ⟨hcwa, hfwa⟩ := bcell hbwa; have hzwa := hbwa.size; have zzwa0 : w.heap.size < wa.heap.size := (by first | omega | (simp at hzwa; omega)); have zzwa1 : w.heap.size + 1 < wa.heap.size := (by first | omega | (simp at hzwa; omega)); have zzwa2 : w.heap.size + 1 + 1 < wa.heap.size := (by first | omega | (simp at hzwa; omega)); have zzwa3 : w.heap.size + 1 + 1 + 1 < wa.heap.size := (by first | omega | (simp at hzwa; omega)); have zzwa4 : w.heap.size + 1 + 1 + 1 + 1 < wa.heap.size := (by first | omega | (simp at hzwa; omega))
  go_wp2_with fail; (with_reducible refine (K1.out _ bwz).mono ?_); rintro e wb ⟨a1, a2, a3, a4, a5, rfl, hbwb⟩; obtain ⟨hcwb, hfwb⟩ := bcell hbwb; have hzwb := hbwb.size; have zzwb0 : w.heap.size < wb.heap.size := (by first | omega | (simp at hzwb; omega)); have zzwb1 : w.heap.size + 1 < wb.heap.size := (by first | omega | (simp at hzwb; omega)); have zzwb2 : w.heap.size + 1 + 1 < wb.heap.size := (by first | omega | (simp at hzwb; omega)); have zzwb3 : w.heap.size + 1 + 1 + 1 < wb.heap.size := (by first | omega | (simp at hzwb; omega)); have zzwb4 : w.heap.size + 1 + 1 + 1 + 1 < wb.heap.size := (by first | omega | (simp at hzwb; omega))
  go_wp2_with fail; (with_reducible refine (K2.out _ bwz).mono ?_); rintro e wd ⟨g1, g2, g3, g4, g5, rfl, hbwd⟩; obtain ⟨hcwd, hfwd⟩ := bcell hbwd; have hzwd := hbwd.size; have zzwd0 : w.heap.size < wd.heap.size := (by first | omega | (simp at hzwd; omega)); have zzwd1 : w.heap.size + 1 < wd.heap.size := (by first | omega | (simp at hzwd; omega)); have zzwd2 : w.heap.size + 1 + 1 < wd.heap.size := (by first | omega | (simp at hzwd; omega)); have zzwd3 : w.heap.size + 1 + 1 + 1 < wd.heap.size := (by first | omega | (simp at hzwd; omega)); have zzwd4 : w.heap.size + 1 + 1 + 1 + 1 < wd.heap.size := (by first | omega | (simp at hzwd; omega)); have zzwd5 : wb.heap.size < wd.heap.size := (by first | omega | (simp at hzwd; omega))
  go_wp2
  simp [bodyPost, results, Tryz.results19, go_sem, *]
  all_goals exact bwz
 rcases huC_cases n3 T3 U3 V3 t len with ⟨c2, _⟩ | ⟨c2, o2⟩
 ·have hr := hide (rmA_no (wx := wx) (wy := wy) ht.symm hneg (fun q => c2 q.2))
  rw [hr.out]
  have K1 := fun W (hb : Below w.heap.size w W) => impl_HullAt_ok (some ⟨b, o, none⟩) n cap T U V t len W (RowAt.later hb h) (by omega) o1 c1
  have K2 := fun W (hb : Below w.heap.size w W) => impl_HullAt_g (some ⟨b3, o3, none⟩) n3 cap3 T3 U3 V3 t len W (RowAt.later hb h3) (by omega)
  generalize huC n3 T3 U3 V3 t len = d2 at *
  have e1 : (d2 != 0) = true := bne_iff_ne.2 c2
  have K1 := hide K1
  have K2 := hide K2
  clear h hv h3 hv3 hp hz1 hz2 ht hr hw c1 c2 o1
  go_enter Tryz.func19, Tryz.ntmps19
  go_wp2_with fail; (with_reducible refine (KT.out _ bwz).mono ?_); rintro e wa ⟨rfl, hbwa⟩; obtain ⟨hcwa, hfwa⟩ := bcell hbwa; have hzwa := hbwa.size; have zzwa0 : w.heap.size < wa.heap.size := (by first | omega | (simp at hzwa; omega)); have zzwa1 : w.heap.size + 1 < wa.heap.size := (by first | omega | (simp at hzwa; omega)); have zzwa2 : w.heap.size + 1 + 1 < wa.heap.size := (by first | omega | (simp at hzwa; omega)); have zzwa3 : w.heap.size + 1 + 1 + 1 < wa.heap.size := (by first | omega | (simp at hzwa; omega)); have zzwa4 : w.heap.size + 1 + 1 + 1 + 1 < wa.heap.size := (by first | omega | (simp at hzwa; omega))
  go_wp2_with fail; (with_reducible refine (K1.out _ bwz).mono ?_); rintro e wb ⟨rfl, hbwb⟩; obtain ⟨hcwb, hfwb⟩ := bcell hbwb; have hzwb := hbwb.size; have zzwb0 : w.heap.size < wb.heap.size := (by first | omega | (simp at hzwb; omega)); have zzwb1 : w.heap.size + 1 < wb.heap.size := (by first | omega | (simp at hzwb; omega)); have zzwb2 : w.heap.size + 1 + 1 < wb.heap.size := (by first | omega | (simp at hzwb; omega)); have zzwb3 : w.heap.size + 1 + 1 + 1 < wb.heap.size := (by first | omega | (simp at hzwb; omega)); have zzwb4 : w.heap.size + 1 + 1 + 1 + 1 < wb.heap.size := (by first | omega | (simp at hzwb; omega))
  go_wp2_with fail; (with_reducible refine (K2.out _ bwz).mono ?_); rintro e wd ⟨g1, g2, g3, g4, g5, rfl, hbwd⟩; obtain ⟨hcwd, hfwd⟩ := bcell hbwd; have hzwd := hbwd.size; have zzwd0 : w.heap.size < wd.heap.size := (by first | omega | (simp at hzwd; omega)); have zzwd1 : w.heap.size + 1 < wd.heap.size := (by first | omega | (simp at hzwd; omega)); have zzwd2 : w.heap.size + 1 + 1 < wd.heap.size := (by first | omega | (simp at hzwd; omega)); have zzwd3 : w.heap.size + 1 + 1 + 1 < wd.heap.size := (by first | omega | (simp at hzwd; omega)); have zzwd4 : w.heap.size + 1 + 1 + 1 + 1 < wd.heap.size := (by first | omega | (simp at hzwd; omega)); have zzwd5 : wb.heap.size < wd.heap.size := (by first | omega | (simp at hzwd; omega))
  go_wp2
  simp [bodyPost, results, Tryz.results19, go_sem, *]
  all_goals exact bwz
 ·have hr := hide (rmA_ok (wx := wx) (wy := wy) ht.symm hneg ⟨c1, c2⟩)
  rw [hr.out]
  have K1 := fun W (hb : Below w.heap.size w W) => impl_HullAt_ok (some ⟨b, o, none⟩) n cap T U V t len W (RowAt.later hb h) (by omega) o1 c1
  have K2 := fun W (hb : Below w.heap.size w W) => impl_HullAt_ok (some ⟨b3, o3, none⟩) n3 cap3 T3 U3 V3 t len W (RowAt.later hb h3) (by omega) o2 c2
  have KB := hide (fun W => impl_roomBetween wx wy nm x y sd z (posX n T U t) (posX n T V t) (wayX n T U t) (wayX n T V t) len (posX n3 T3 U3 t) (posX n3 T3 V3 t) (wayX n3 T3 U3 t) (wayX n3 T3 V3 t) len hw hp (hu_hull o1) (hu_hull o2) W)
  unfold rmH
  generalize posX n T U t = q0 at *
  generalize posX n T V t = q1 at *
  generalize wayX n T U t = q2 at *
  generalize wayX n T V t = q3 at *
  generalize posX n3 T3 U3 t = q4 at *
  generalize posX n3 T3 V3 t = q5 at *
  generalize wayX n3 T3 U3 t = q6 at *
  generalize wayX n3 T3 V3 t = q7 at *
  obtain ⟨R9, hR9⟩ : ∃ R, R = rmI wx wy x y q0 q1 q2 q3 len q4 q5 q6 q7 len := ⟨_, rfl⟩
  rw [← hR9] at KB ⊢
  clear hR9
  have K1 := hide K1
  have K2 := hide K2
  clear h hv h3 hv3 hp hz1 hz2 ht hr hw c1 c2 o1 o2
  go_enter Tryz.func19, Tryz.ntmps19
  go_wp2_with fail; (with_reducible refine (KT.out _ bwz).mono ?_); rintro e wa ⟨rfl, hbwa⟩; obtain ⟨hcwa, hfwa⟩ := bcell hbwa; have hzwa := hbwa.size; have zzwa0 : w.heap.size < wa.heap.size := (by first | omega | (simp at hzwa; omega)); have zzwa1 : w.heap.size + 1 < wa.heap.size := (by first | omega | (simp at hzwa; omega)); have zzwa2 : w.heap.size + 1 + 1 < wa.heap.size := (by first | omega | (simp at hzwa; omega)); have zzwa3 : w.heap.size + 1 + 1 + 1 < wa.heap.size := (by first | omega | (simp at hzwa; omega)); have zzwa4 : w.heap.size + 1 + 1 + 1 + 1 < wa.heap.size := (by first | omega | (simp at hzwa; omega))
  go_wp2_with fail; (with_reducible refine (K1.out _ bwz).mono ?_); rintro e wb ⟨rfl, hbwb⟩; obtain ⟨hcwb, hfwb⟩ := bcell hbwb; have hzwb := hbwb.size; have zzwb0 : w.heap.size < wb.heap.size := (by first | omega | (simp at hzwb; omega)); have zzwb1 : w.heap.size + 1 < wb.heap.size := (by first | omega | (simp at hzwb; omega)); have zzwb2 : w.heap.size + 1 + 1 < wb.heap.size := (by first | omega | (simp at hzwb; omega)); have zzwb3 : w.heap.size + 1 + 1 + 1 < wb.heap.size := (by first | omega | (simp at hzwb; omega)); have zzwb4 : w.heap.size + 1 + 1 + 1 + 1 < wb.heap.size := (by first | omega | (simp at hzwb; omega))
  go_wp2_with fail; (with_reducible refine (K2.out _ bwz).mono ?_); rintro e wd ⟨rfl, hbwd⟩; obtain ⟨hcwd, hfwd⟩ := bcell hbwd; have hzwd := hbwd.size; have zzwd0 : w.heap.size < wd.heap.size := (by first | omega | (simp at hzwd; omega)); have zzwd1 : w.heap.size + 1 < wd.heap.size := (by first | omega | (simp at hzwd; omega)); have zzwd2 : w.heap.size + 1 + 1 < wd.heap.size := (by first | omega | (simp at hzwd; omega)); have zzwd3 : w.heap.size + 1 + 1 + 1 < wd.heap.size := (by first | omega | (simp at hzwd; omega)); have zzwd4 : w.heap.size + 1 + 1 + 1 + 1 < wd.heap.size := (by first | omega | (simp at hzwd; omega)); have zzwd5 : wb.heap.size < wd.heap.size := (by first | omega | (simp at hzwd; omega))
  go_wp2_with fail; (with_reducible refine (KB.out _).mono ?_); rintro e we ⟨rfl, hbwe⟩; obtain ⟨hcwe, hfwe⟩ := bcell hbwe; have hzwe := hbwe.size; have zzwe0 : w.heap.size < we.heap.size := (by first | omega | (simp at hzwe; omega)); have zzwe1 : w.heap.size + 1 < we.heap.size := (by first | omega | (simp at hzwe; omega)); have zzwe2 : w.heap.size + 1 + 1 < we.heap.size := (by first | omega | (simp at hzwe; omega)); have zzwe3 : w.heap.size + 1 + 1 + 1 < we.heap.size := (by first | omega | (simp at hzwe; omega)); have zzwe4 : w.heap.size + 1 + 1 + 1 + 1 < we.heap.size := (by first | omega | (simp at hzwe; omega)); have zzwe5 : wb.heap.size < we.heap.size := (by first | omega | (simp at hzwe; omega)); have zzwe6 : wd.heap.size < we.heap.size := (by first | omega | (simp at hzwe; omega))
  go_wp2
  simp [bodyPost, results, Tryz.results19, go_sem, *]
  all_goals exact bwz
theorem spec_HullAt_g (so : Option Addr) (n cap : Nat) (T X Y : Nat → Int) (t len : Int) (w : World) (h : RowAt w so n 3 (v3 T X Y)) (hn : n ≤ 1048576) : Calls Tryz.prog 48 #[.agg #[.slice so n cap], .int .i64 t, .int .i64 len] w fun e w' => ∃ a b c d l : Int, e = .returned (.tuple #[.agg #[.int .i64 a, .int .i64 b, .int .i64 c, .int .i64 d, .int .i64 l], .int .i64 (huC n T X Y t len)]) ∧ Below w.heap.size w w' :=
 (spec_HullAt so n cap T X Y t len w h hn).mono fun _ _ k => ⟨_, _, _, _, _, k.1, k.2⟩
theorem spec_HullAt_ok (so : Option Addr) (n cap : Nat) (T X Y : Nat → Int) (t len : Int) (w : World) (h : RowAt w so n 3 (v3 T X Y)) (hn : n ≤ 1048576) (ho : huOk n T X Y t len = true) (hc : huC n T X Y t len = 0) : Calls Tryz.prog 48 #[.agg #[.slice so n cap], .int .i64 t, .int .i64 len] w fun e w' => e = .returned (.tuple #[.agg #[.int .i64 (posX n T X t), .int .i64 (posX n T Y t), .int .i64 (wayX n T X t), .int .i64 (wayX n T Y t), .int .i64 len], .int .i64 0]) ∧ Below w.heap.size w w' := by
 have K := spec_HullAt so n cap T X Y t len w h hn
 rw [ho, hc] at K
 simp only [sel_t] at K
 exact K
set_option maxRecDepth 100000 in
set_option maxHeartbeats 8000000 in
theorem spec_l11At (wx wy : Int) (nm : ByteArray) (x y sd z : Int) (b o n cap : Nat) (T U V : Nat → Int) (b3 o3 n3 cap3 : Nat) (T3 U3 V3 : Nat → Int) (len : Int) (w : World) (hw : isWd wx wy = true) (h : RowAt w (some ⟨b, o, none⟩) n 3 (v3 T U V)) (hv : isTr n T U V = true) (h3 : RowAt w (some ⟨b3, o3, none⟩) n3 3 (v3 T3 U3 V3)) (hv3 : isTr n3 T3 U3 V3 = true) (hp : isPt x y = true) (hz1 : 1 ≤ z) (hz2 : z ≤ 5000) :
 Calls Tryz.prog 21 #[.agg #[.int .i64 wx, .int .i64 wy], .agg #[.string nm, .int .i64 x, .int .i64 y, .int .i64 sd, .int .i64 z], .agg #[.slice (some ⟨b, o, none⟩) n cap], .agg #[.slice (some ⟨b3, o3, none⟩) n3 cap3], .int .i64 len] w fun e w' => e = .returned (.agg #[.int .i64 (rmA wx wy x y z n T U V n3 T3 U3 V3 len).1, .int .i64 (rmA wx wy x y z n T U V n3 T3 U3 V3 len).2]) ∧ Below w.heap.size w w' := by
 obtain ⟨_, hn40, _⟩ := isTr_t hv
 obtain ⟨_, hn41, _⟩ := isTr_t hv3
 have KT := fun W (hb : Below w.heap.size w W) => spec_l11Time nm x y sd z b o n cap T U V b3 o3 n3 cap3 T3 U3 V3 W (RowAt.later hb h) hv (RowAt.later hb h3) hv3 hp hz1 hz2
 obtain ⟨t, ht⟩ : ∃ t, t = rtI (cmI x y z n T U V) (cmI x y z n3 T3 U3 V3) := ⟨_, rfl⟩
 rw [← ht] at KT
 have KT := hide KT
 by_cases hneg : t < 0
 ·have hr := hide (rmA_neg (wx := wx) (wy := wy) (len := len) ht.symm hneg)
  rw [hr.out]
  clear h hv h3 hv3 hp hz1 hz2 ht
  go_enter Tryz.func21, Tryz.ntmps21
  go_wp2_with fail; (with_reducible refine (KT.out _ bwz).mono ?_); rintro e wa ⟨rfl, hbwa⟩; obtain ⟨hcwa, hfwa⟩ := bcell hbwa; have hzwa := hbwa.size; have zzwa0 : w.heap.size < wa.heap.size := (by first | omega | (simp at hzwa; omega)); have zzwa1 : w.heap.size + 1 < wa.heap.size := (by first | omega | (simp at hzwa; omega)); have zzwa2 : w.heap.size + 1 + 1 < wa.heap.size := (by first | omega | (simp at hzwa; omega)); have zzwa3 : w.heap.size + 1 + 1 + 1 < wa.heap.size := (by first | omega | (simp at hzwa; omega)); have zzwa4 : w.heap.size + 1 + 1 + 1 + 1 < wa.heap.size := (by first | omega | (simp at hzwa; omega))
  go_wp2
  simp [bodyPost, results, Tryz.results21, go_sem, *]
  all_goals exact bwz
 rcases huC_cases n T U V t len with ⟨c1, _⟩ | ⟨c1, o1⟩
 ·have hr := hide (rmA_no (wx := wx) (wy := wy) ht.symm hneg (fun q => c1 q.1))
  rw [hr.out]
  have K1 := fun W (hb : Below w.heap.size w W) => spec_HullAt_g (some ⟨b, o, none⟩) n cap T U V t len W (RowAt.later hb h) (by omega)
  have K2 := fun W (hb : Below w.heap.size w W) => spec_HullAt_g (some ⟨b3, o3, none⟩) n3 cap3 T3 U3 V3 t len W (RowAt.later hb h3) (by omega)
  generalize huC n T U V t len = d1 at *
  generalize huC n3 T3 U3 V3 t len = d2 at *
  have e1 : (d1 != 0) = true := bne_iff_ne.2 c1
  have K1 := hide K1
  have K2 := hide K2
  clear h hv h3 hv3 hp hz1 hz2 ht hr hw c1
  go_enter Tryz.func21, Tryz.ntmps21
  go_wp2_with fail; (with_reducible refine (KT.out _ bwz).mono ?_); rintro e wa ⟨rfl, hbwa⟩; obtain ⟨hcwa, hfwa⟩ := bcell hbwa; have hzwa := hbwa.size; have zzwa0 : w.heap.size < wa.heap.size := (by first | omega | (simp at hzwa; omega)); have zzwa1 : w.heap.size + 1 < wa.heap.size := (by first | omega | (simp at hzwa; omega)); have zzwa2 : w.heap.size + 1 + 1 < wa.heap.size := (by first | omega | (simp at hzwa; omega)); have zzwa3 : w.heap.size + 1 + 1 + 1 < wa.heap.size := (by first | omega | (simp at hzwa; omega)); have zzwa4 : w.heap.size + 1 + 1 + 1 + 1 < wa.heap.size := (by first | omega | (simp at hzwa; omega))
  go_wp2_with fail; (with_reducible refine (K1.out _ bwz).mono ?_); rintro e wb ⟨a1, a2, a3, a4, a5, rfl, hbwb⟩; obtain ⟨hcwb, hfwb⟩ := bcell hbwb; have hzwb := hbwb.size; have zzwb0 : w.heap.size < wb.heap.size := (by first | omega | (simp at hzwb; omega)); have zzwb1 : w.heap.size + 1 < wb.heap.size := (by first | omega | (simp at hzwb; omega)); have zzwb2 : w.heap.size + 1 + 1 < wb.heap.size := (by first | omega | (simp at hzwb; omega)); have zzwb3 : w.heap.size + 1 + 1 + 1 < wb.heap.size := (by first | omega | (simp at hzwb; omega)); have zzwb4 : w.heap.size + 1 + 1 + 1 + 1 < wb.heap.size := (by first | omega | (simp at hzwb; omega))
  go_wp2_with fail; (with_reducible refine (K2.out _ bwz).mono ?_); rintro e wd ⟨g1, g2, g3, g4, g5, rfl, hbwd⟩; obtain ⟨hcwd, hfwd⟩ := bcell hbwd; have hzwd := hbwd.size; have zzwd0 : w.heap.size < wd.heap.size := (by first | omega | (simp at hzwd; omega)); have zzwd1 : w.heap.size + 1 < wd.heap.size := (by first | omega | (simp at hzwd; omega)); have zzwd2 : w.heap.size + 1 + 1 < wd.heap.size := (by first | omega | (simp at hzwd; omega)); have zzwd3 : w.heap.size + 1 + 1 + 1 < wd.heap.size := (by first | omega | (simp at hzwd; omega)); have zzwd4 : w.heap.size + 1 + 1 + 1 + 1 < wd.heap.size := (by first | omega | (simp at hzwd; omega)); have zzwd5 : wb.heap.size < wd.heap.size := (by first | omega | (simp at hzwd; omega))
  go_wp2
  simp [bodyPost, results, Tryz.results21, go_sem, *]
  all_goals exact bwz
 rcases huC_cases n3 T3 U3 V3 t len with ⟨c2, _⟩ | ⟨c2, o2⟩
 ·have hr := hide (rmA_no (wx := wx) (wy := wy) ht.symm hneg (fun q => c2 q.2))
  rw [hr.out]
  have K1 := fun W (hb : Below w.heap.size w W) => spec_HullAt_ok (some ⟨b, o, none⟩) n cap T U V t len W (RowAt.later hb h) (by omega) o1 c1
  have K2 := fun W (hb : Below w.heap.size w W) => spec_HullAt_g (some ⟨b3, o3, none⟩) n3 cap3 T3 U3 V3 t len W (RowAt.later hb h3) (by omega)
  generalize huC n3 T3 U3 V3 t len = d2 at *
  have e1 : (d2 != 0) = true := bne_iff_ne.2 c2
  have K1 := hide K1
  have K2 := hide K2
  clear h hv h3 hv3 hp hz1 hz2 ht hr hw c1 c2 o1
  go_enter Tryz.func21, Tryz.ntmps21
  go_wp2_with fail; (with_reducible refine (KT.out _ bwz).mono ?_); rintro e wa ⟨rfl, hbwa⟩; obtain ⟨hcwa, hfwa⟩ := bcell hbwa; have hzwa := hbwa.size; have zzwa0 : w.heap.size < wa.heap.size := (by first | omega | (simp at hzwa; omega)); have zzwa1 : w.heap.size + 1 < wa.heap.size := (by first | omega | (simp at hzwa; omega)); have zzwa2 : w.heap.size + 1 + 1 < wa.heap.size := (by first | omega | (simp at hzwa; omega)); have zzwa3 : w.heap.size + 1 + 1 + 1 < wa.heap.size := (by first | omega | (simp at hzwa; omega)); have zzwa4 : w.heap.size + 1 + 1 + 1 + 1 < wa.heap.size := (by first | omega | (simp at hzwa; omega))
  go_wp2_with fail; (with_reducible refine (K1.out _ bwz).mono ?_); rintro e wb ⟨rfl, hbwb⟩; obtain ⟨hcwb, hfwb⟩ := bcell hbwb; have hzwb := hbwb.size; have zzwb0 : w.heap.size < wb.heap.size := (by first | omega | (simp at hzwb; omega)); have zzwb1 : w.heap.size + 1 < wb.heap.size := (by first | omega | (simp at hzwb; omega)); have zzwb2 : w.heap.size + 1 + 1 < wb.heap.size := (by first | omega | (simp at hzwb; omega)); have zzwb3 : w.heap.size + 1 + 1 + 1 < wb.heap.size := (by first | omega | (simp at hzwb; omega)); have zzwb4 : w.heap.size + 1 + 1 + 1 + 1 < wb.heap.size := (by first | omega | (simp at hzwb; omega))
  go_wp2_with fail; (with_reducible refine (K2.out _ bwz).mono ?_); rintro e wd ⟨g1, g2, g3, g4, g5, rfl, hbwd⟩; obtain ⟨hcwd, hfwd⟩ := bcell hbwd; have hzwd := hbwd.size; have zzwd0 : w.heap.size < wd.heap.size := (by first | omega | (simp at hzwd; omega)); have zzwd1 : w.heap.size + 1 < wd.heap.size := (by first | omega | (simp at hzwd; omega)); have zzwd2 : w.heap.size + 1 + 1 < wd.heap.size := (by first | omega | (simp at hzwd; omega)); have zzwd3 : w.heap.size + 1 + 1 + 1 < wd.heap.size := (by first | omega | (simp at hzwd; omega)); have zzwd4 : w.heap.size + 1 + 1 + 1 + 1 < wd.heap.size := (by first | omega | (simp at hzwd; omega)); have zzwd5 : wb.heap.size < wd.heap.size := (by first | omega | (simp at hzwd; omega))
  go_wp2
  simp [bodyPost, results, Tryz.results21, go_sem, *]
  all_goals exact bwz
 ·have hr := hide (rmA_ok (wx := wx) (wy := wy) ht.symm hneg ⟨c1, c2⟩)
  rw [hr.out]
  have K1 := fun W (hb : Below w.heap.size w W) => spec_HullAt_ok (some ⟨b, o, none⟩) n cap T U V t len W (RowAt.later hb h) (by omega) o1 c1
  have K2 := fun W (hb : Below w.heap.size w W) => spec_HullAt_ok (some ⟨b3, o3, none⟩) n3 cap3 T3 U3 V3 t len W (RowAt.later hb h3) (by omega) o2 c2
  have KB := hide (fun W => spec_l11Room wx wy nm x y sd z (posX n T U t) (posX n T V t) (wayX n T U t) (wayX n T V t) len (posX n3 T3 U3 t) (posX n3 T3 V3 t) (wayX n3 T3 U3 t) (wayX n3 T3 V3 t) len hw hp (hu_hull o1) (hu_hull o2) W)
  unfold rmH
  generalize posX n T U t = q0 at *
  generalize posX n T V t = q1 at *
  generalize wayX n T U t = q2 at *
  generalize wayX n T V t = q3 at *
  generalize posX n3 T3 U3 t = q4 at *
  generalize posX n3 T3 V3 t = q5 at *
  generalize wayX n3 T3 U3 t = q6 at *
  generalize wayX n3 T3 V3 t = q7 at *
  obtain ⟨R9, hR9⟩ : ∃ R, R = rmI wx wy x y q0 q1 q2 q3 len q4 q5 q6 q7 len := ⟨_, rfl⟩
  rw [← hR9] at KB ⊢
  clear hR9
  have K1 := hide K1
  have K2 := hide K2
  clear h hv h3 hv3 hp hz1 hz2 ht hr hw c1 c2 o1 o2
  go_enter Tryz.func21, Tryz.ntmps21
  go_wp2_with fail; (with_reducible refine (KT.out _ bwz).mono ?_); rintro e wa ⟨rfl, hbwa⟩; obtain ⟨hcwa, hfwa⟩ := bcell hbwa; have hzwa := hbwa.size; have zzwa0 : w.heap.size < wa.heap.size := (by first | omega | (simp at hzwa; omega)); have zzwa1 : w.heap.size + 1 < wa.heap.size := (by first | omega | (simp at hzwa; omega)); have zzwa2 : w.heap.size + 1 + 1 < wa.heap.size := (by first | omega | (simp at hzwa; omega)); have zzwa3 : w.heap.size + 1 + 1 + 1 < wa.heap.size := (by first | omega | (simp at hzwa; omega)); have zzwa4 : w.heap.size + 1 + 1 + 1 + 1 < wa.heap.size := (by first | omega | (simp at hzwa; omega))
  go_wp2_with fail; (with_reducible refine (K1.out _ bwz).mono ?_); rintro e wb ⟨rfl, hbwb⟩; obtain ⟨hcwb, hfwb⟩ := bcell hbwb; have hzwb := hbwb.size; have zzwb0 : w.heap.size < wb.heap.size := (by first | omega | (simp at hzwb; omega)); have zzwb1 : w.heap.size + 1 < wb.heap.size := (by first | omega | (simp at hzwb; omega)); have zzwb2 : w.heap.size + 1 + 1 < wb.heap.size := (by first | omega | (simp at hzwb; omega)); have zzwb3 : w.heap.size + 1 + 1 + 1 < wb.heap.size := (by first | omega | (simp at hzwb; omega)); have zzwb4 : w.heap.size + 1 + 1 + 1 + 1 < wb.heap.size := (by first | omega | (simp at hzwb; omega))
  go_wp2_with fail; (with_reducible refine (K2.out _ bwz).mono ?_); rintro e wd ⟨rfl, hbwd⟩; obtain ⟨hcwd, hfwd⟩ := bcell hbwd; have hzwd := hbwd.size; have zzwd0 : w.heap.size < wd.heap.size := (by first | omega | (simp at hzwd; omega)); have zzwd1 : w.heap.size + 1 < wd.heap.size := (by first | omega | (simp at hzwd; omega)); have zzwd2 : w.heap.size + 1 + 1 < wd.heap.size := (by first | omega | (simp at hzwd; omega)); have zzwd3 : w.heap.size + 1 + 1 + 1 < wd.heap.size := (by first | omega | (simp at hzwd; omega)); have zzwd4 : w.heap.size + 1 + 1 + 1 + 1 < wd.heap.size := (by first | omega | (simp at hzwd; omega)); have zzwd5 : wb.heap.size < wd.heap.size := (by first | omega | (simp at hzwd; omega))
  go_wp2_with fail; (with_reducible refine (KB.out _).mono ?_); rintro e we ⟨rfl, hbwe⟩; obtain ⟨hcwe, hfwe⟩ := bcell hbwe; have hzwe := hbwe.size; have zzwe0 : w.heap.size < we.heap.size := (by first | omega | (simp at hzwe; omega)); have zzwe1 : w.heap.size + 1 < we.heap.size := (by first | omega | (simp at hzwe; omega)); have zzwe2 : w.heap.size + 1 + 1 < we.heap.size := (by first | omega | (simp at hzwe; omega)); have zzwe3 : w.heap.size + 1 + 1 + 1 < we.heap.size := (by first | omega | (simp at hzwe; omega)); have zzwe4 : w.heap.size + 1 + 1 + 1 + 1 < we.heap.size := (by first | omega | (simp at hzwe; omega)); have zzwe5 : wb.heap.size < we.heap.size := (by first | omega | (simp at hzwe; omega)); have zzwe6 : wd.heap.size < we.heap.size := (by first | omega | (simp at hzwe; omega))
  go_wp2
  simp [bodyPost, results, Tryz.results21, go_sem, *]
  all_goals exact bwz
set_option maxRecDepth 100000 in
set_option maxHeartbeats 8000000 in
theorem impl_roomCode (wx wy : Int) (ax ay bx bY cx cy dx dy : Int) (so : Option Addr) (n cap : Nat) (N : Nat → ByteArray) (X Y S Z : Nat → Int) (k : Int) (so2 : Option Addr) (m cap2 : Nat) (A : Nat → Option Addr) (nn C : Nat → Nat) (T U V : Nat → Nat → Int) (len : Int) (w : World) (h : RowAt w so n 5 (v5 N X Y S Z)) (hn : n ≤ 1048576) (hcap : n ≤ cap) (h2 : Trs w so2 m A nn C T U V) (hm : m ≤ 1048576) (hnn : ∀ i, i < m → nn i ≤ 1048576) :
 Calls Tryz.prog 18 #[.agg #[.int .i64 wx, .int .i64 wy], .agg #[.int .i64 ax, .int .i64 ay, .int .i64 bx, .int .i64 bY, .int .i64 cx, .int .i64 cy, .int .i64 dx, .int .i64 dy, .slice so n cap], .int .i64 k, .slice so2 m cap2, .int .i64 len] w fun e w' => e = .returned (.int .i64 (rmC5 (isWd wx wy) (isCo ax ay bx bY cx cy dx dy n N X Y S Z) (allTr nn T U V m) n k len)) ∧ Below w.heap.size w w' := by
 have KW := hide (fun W => impl_IsWind wx wy W)
 have KA := hide (fun W (hb : Below w.heap.size w W) => impl_areTracks so2 m cap2 A nn C T U V W (Trs.later hb h2) hm hnn)
 have KM := hide (fun W (hb : Below w.heap.size w W) => impl_markCode ax ay bx bY cx cy dx dy so n cap N X Y S Z k W (RowAt.later hb h) hn hcap)
 generalize allTr nn T U V m = al at *
 generalize isWd wx wy = wd at *
 generalize (isCo ax ay bx bY cx cy dx dy n N X Y S Z) = co at *
 clear h h2 hnn
 rcases wd with _ | _
 ·rw [rmC5_no (by rfl)]
  go_enter Tryz.func18, Tryz.ntmps18
  go_wp2_with (go_at_call 38; (with_reducible refine (KW.out _).mono ?_); rintro e w9 ⟨rfl, hb⟩; obtain ⟨hc, hf⟩ := bcell hb; have hz := hb.size; have z0 : w.heap.size < w9.heap.size := (by first | omega | (simp at hz; omega)); have z1 : w.heap.size + 1 < w9.heap.size := (by first | omega | (simp at hz; omega)))
  go_ret
  exact ⟨rfl, bwz⟩
 rcases al with _ | _
 ·rw [rmC5_no (by cases co <;> rfl)]
  go_enter Tryz.func18, Tryz.ntmps18
  go_wp2_with (first | (go_at_call 38; (with_reducible refine (KW.out _).mono ?_); rintro e w9 ⟨rfl, hb⟩; obtain ⟨hc, hf⟩ := bcell hb; have hz := hb.size; have z0 : w.heap.size < w9.heap.size := (by first | omega | (simp at hz; omega)); have z1 : w.heap.size + 1 < w9.heap.size := (by first | omega | (simp at hz; omega))) | (go_at_call 39; (with_reducible refine (KA.out _ bwz).mono ?_); rintro e w9 ⟨rfl, hb⟩; obtain ⟨hc, hf⟩ := bcell hb; have hz := hb.size; have z0 : w.heap.size < w9.heap.size := (by first | omega | (simp at hz; omega)); have z1 : w.heap.size + 1 < w9.heap.size := (by first | omega | (simp at hz; omega))))
  go_ret
  exact ⟨rfl, bwz⟩
 have em : mkC co n k = zoC co true n k := by unfold zoC mkC; rw [Bool.and_true]
 rw [em] at KM
 clear em
 rcases co with _ | _
 ·rw [rmC5_no (by rfl)]
  rw [show zoC false true n k = 1 from rfl] at KM
  go_enter Tryz.func18, Tryz.ntmps18
  go_wp2_with (first | (go_at_call 38; (with_reducible refine (KW.out _).mono ?_); rintro e w9 ⟨rfl, hb⟩; obtain ⟨hc, hf⟩ := bcell hb; have hz := hb.size; have z0 : w.heap.size < w9.heap.size := (by first | omega | (simp at hz; omega)); have z1 : w.heap.size + 1 < w9.heap.size := (by first | omega | (simp at hz; omega))) | (go_at_call 39; (with_reducible refine (KA.out _ bwz).mono ?_); rintro e w9 ⟨rfl, hb⟩; obtain ⟨hc, hf⟩ := bcell hb; have hz := hb.size; have z0 : w.heap.size < w9.heap.size := (by first | omega | (simp at hz; omega)); have z1 : w.heap.size + 1 < w9.heap.size := (by first | omega | (simp at hz; omega))) | (go_at_call 40; (with_reducible refine (KM.out _ bwz).mono ?_); rintro e w9 ⟨rfl, hb⟩; obtain ⟨hc, hf⟩ := bcell hb; have hz := hb.size; have z0 : w.heap.size < w9.heap.size := (by first | omega | (simp at hz; omega)); have z1 : w.heap.size + 1 < w9.heap.size := (by first | omega | (simp at hz; omega))))
  go_ret
  exact ⟨rfl, bwz⟩
 by_cases z : zoC true true n k = 0
 ·rw [rmC5_ok z]
  rw [z] at KM
  rcases b2 (inB len 1 1000) with g | g
  ·rw [g, sel_f]
   go_enter Tryz.func18, Tryz.ntmps18
   go_wp2_with (first | (go_at_call 38; (with_reducible refine (KW.out _).mono ?_); rintro e w9 ⟨rfl, hb⟩; obtain ⟨hc, hf⟩ := bcell hb; have hz := hb.size; have z0 : w.heap.size < w9.heap.size := (by first | omega | (simp at hz; omega)); have z1 : w.heap.size + 1 < w9.heap.size := (by first | omega | (simp at hz; omega))) | (go_at_call 39; (with_reducible refine (KA.out _ bwz).mono ?_); rintro e w9 ⟨rfl, hb⟩; obtain ⟨hc, hf⟩ := bcell hb; have hz := hb.size; have z0 : w.heap.size < w9.heap.size := (by first | omega | (simp at hz; omega)); have z1 : w.heap.size + 1 < w9.heap.size := (by first | omega | (simp at hz; omega))) | (go_at_call 40; (with_reducible refine (KM.out _ bwz).mono ?_); rintro e w9 ⟨rfl, hb⟩; obtain ⟨hc, hf⟩ := bcell hb; have hz := hb.size; have z0 : w.heap.size < w9.heap.size := (by first | omega | (simp at hz; omega)); have z1 : w.heap.size + 1 < w9.heap.size := (by first | omega | (simp at hz; omega))) | (go_at_call 41; (with_reducible refine (impl_within _ _ _ _).mono ?_); rintro e w9 ⟨rfl, rfl⟩))
   go_ret
   exact ⟨rfl, bwz⟩
  ·rw [g, sel_t]
   go_enter Tryz.func18, Tryz.ntmps18
   go_wp2_with (first | (go_at_call 38; (with_reducible refine (KW.out _).mono ?_); rintro e w9 ⟨rfl, hb⟩; obtain ⟨hc, hf⟩ := bcell hb; have hz := hb.size; have z0 : w.heap.size < w9.heap.size := (by first | omega | (simp at hz; omega)); have z1 : w.heap.size + 1 < w9.heap.size := (by first | omega | (simp at hz; omega))) | (go_at_call 39; (with_reducible refine (KA.out _ bwz).mono ?_); rintro e w9 ⟨rfl, hb⟩; obtain ⟨hc, hf⟩ := bcell hb; have hz := hb.size; have z0 : w.heap.size < w9.heap.size := (by first | omega | (simp at hz; omega)); have z1 : w.heap.size + 1 < w9.heap.size := (by first | omega | (simp at hz; omega))) | (go_at_call 40; (with_reducible refine (KM.out _ bwz).mono ?_); rintro e w9 ⟨rfl, hb⟩; obtain ⟨hc, hf⟩ := bcell hb; have hz := hb.size; have z0 : w.heap.size < w9.heap.size := (by first | omega | (simp at hz; omega)); have z1 : w.heap.size + 1 < w9.heap.size := (by first | omega | (simp at hz; omega))) | (go_at_call 41; (with_reducible refine (impl_within _ _ _ _).mono ?_); rintro e w9 ⟨rfl, rfl⟩))
   go_ret
   exact ⟨rfl, bwz⟩
 ·rw [rmC5_z z]
  generalize zoC true true n k = c0 at *
  have hcb : (c0 != 0) = true := bne_iff_ne.2 z
  go_enter Tryz.func18, Tryz.ntmps18
  go_wp2_with (first | (go_at_call 38; (with_reducible refine (KW.out _).mono ?_); rintro e w9 ⟨rfl, hb⟩; obtain ⟨hc, hf⟩ := bcell hb; have hz := hb.size; have z0 : w.heap.size < w9.heap.size := (by first | omega | (simp at hz; omega)); have z1 : w.heap.size + 1 < w9.heap.size := (by first | omega | (simp at hz; omega))) | (go_at_call 39; (with_reducible refine (KA.out _ bwz).mono ?_); rintro e w9 ⟨rfl, hb⟩; obtain ⟨hc, hf⟩ := bcell hb; have hz := hb.size; have z0 : w.heap.size < w9.heap.size := (by first | omega | (simp at hz; omega)); have z1 : w.heap.size + 1 < w9.heap.size := (by first | omega | (simp at hz; omega))) | (go_at_call 40; (with_reducible refine (KM.out _ bwz).mono ?_); rintro e w9 ⟨rfl, hb⟩; obtain ⟨hc, hf⟩ := bcell hb; have hz := hb.size; have z0 : w.heap.size < w9.heap.size := (by first | omega | (simp at hz; omega)); have z1 : w.heap.size + 1 < w9.heap.size := (by first | omega | (simp at hz; omega))))
  go_ret
  exact ⟨rfl, bwz⟩
set_option maxRecDepth 100000 in
set_option maxHeartbeats 8000000 in
theorem spec_l11Code (wx wy : Int) (ax ay bx bY cx cy dx dy : Int) (so : Option Addr) (n cap : Nat) (N : Nat → ByteArray) (X Y S Z : Nat → Int) (k : Int) (so2 : Option Addr) (m cap2 : Nat) (A : Nat → Option Addr) (nn C : Nat → Nat) (T U V : Nat → Nat → Int) (len : Int) (w : World) (h : RowAt w so n 5 (v5 N X Y S Z)) (hn : n ≤ 1048576) (h2 : Trs w so2 m A nn C T U V) (hm : m ≤ 1048576) (hnn : ∀ i, i < m → nn i ≤ 1048576) :
 Calls Tryz.prog 20 #[.agg #[.int .i64 wx, .int .i64 wy], .agg #[.int .i64 ax, .int .i64 ay, .int .i64 bx, .int .i64 bY, .int .i64 cx, .int .i64 cy, .int .i64 dx, .int .i64 dy, .slice so n cap], .int .i64 k, .slice so2 m cap2, .int .i64 len] w fun e w' => e = .returned (.int .i64 (rmC5 (isWd wx wy) (isCo ax ay bx bY cx cy dx dy n N X Y S Z) (allTr nn T U V m) n k len)) ∧ Below w.heap.size w w' := by
 have KW := hide (fun W => spec_IsWind wx wy W)
 have KI := hide (fun W (hb : Below w.heap.size w W) => spec_IsCourse ax ay bx bY cx cy dx dy so n cap N X Y S Z W (RowAt.later hb h) hn)
 have KT := hide (fun (i : Nat) (hi : i < m) W (hb : Below w.heap.size w W) => spec_IsTrack (A i) (nn i) (C i) (T i) (U i) (V i) W (RowAt.later hb (h2.2 i hi)) (hnn i hi))
 have H2 := hide h2
 have we := hide (show IntKind.i64.wrap ((n : Int) - 1) = (n : Int) - 1 from IntWalk.i64_in _ (by omega))
 generalize isWd wx wy = wd at *
 generalize (isCo ax ay bx bY cx cy dx dy n N X Y S Z) = co at *
 clear h h2 hnn
 rcases wd with _ | _
 ·rw [rmC5_no (by rfl)]
  go_enter Tryz.func20, Tryz.ntmps20
  go_wp2_with (go_at_call 45; (with_reducible refine (KW.out _).mono ?_); rintro e w9 ⟨rfl, hb⟩; obtain ⟨hc, hf⟩ := bcell hb; have hz := hb.size; have z0 : w.heap.size < w9.heap.size := (by first | omega | (simp at hz; omega)); have z1 : w.heap.size + 1 < w9.heap.size := (by first | omega | (simp at hz; omega)))
  go_ret
  exact ⟨rfl, bwz⟩
 rcases co with _ | _
 ·rw [rmC5_no (by rfl)]
  go_enter Tryz.func20, Tryz.ntmps20
  go_wp2_with (first | (go_at_call 45; (with_reducible refine (KW.out _).mono ?_); rintro e w9 ⟨rfl, hb⟩; obtain ⟨hc, hf⟩ := bcell hb; have hz := hb.size; have z0 : w.heap.size < w9.heap.size := (by first | omega | (simp at hz; omega)); have z1 : w.heap.size + 1 < w9.heap.size := (by first | omega | (simp at hz; omega))) | (go_at_call 15; (with_reducible refine (KI.out _ bwz).mono ?_); rintro e w9 ⟨rfl, hb⟩; obtain ⟨hc, hf⟩ := bcell hb; have hz := hb.size; have z0 : w.heap.size < w9.heap.size := (by first | omega | (simp at hz; omega)); have z1 : w.heap.size + 1 < w9.heap.size := (by first | omega | (simp at hz; omega))))
  go_ret
  exact ⟨rfl, bwz⟩
 obtain ⟨R9, hR9⟩ : ∃ R, R = rmC5 true true (allTr nn T U V m) n k len := ⟨_, rfl⟩
 rw [← hR9]
 have HR := hide hR9
 clear hR9
 go_enter Tryz.func20, Tryz.ntmps20
 go_wp2_with (first | (go_at_call 45; (with_reducible refine (KW.out _).mono ?_); rintro e w9 ⟨rfl, hb⟩; obtain ⟨hc, hf⟩ := bcell hb; have hz := hb.size; have z0 : w.heap.size < w9.heap.size := (by first | omega | (simp at hz; omega)); have z1 : w.heap.size + 1 < w9.heap.size := (by first | omega | (simp at hz; omega))) | (go_at_call 15; (with_reducible refine (KI.out _ bwz).mono ?_); rintro e w9 ⟨rfl, hb⟩; obtain ⟨hc, hf⟩ := bcell hb; have hz := hb.size; have z0 : w.heap.size < w9.heap.size := (by first | omega | (simp at hz; omega)); have z1 : w.heap.size + 1 < w9.heap.size := (by first | omega | (simp at hz; omega))))
 have t8 : w9.cell? ⟨w.heap.size + 1, 8, none⟩ = some (.slice so n cap) := by go_simp
 have hB9 : Below w.heap.size w w9 := bwz
 clear hb hc hf hz
 go_loopw [11] (fun s1 wr => ∃ i : Nat, i ≤ m ∧ s1 = .int .i64 i ∧ Hid (allTr nn T U V i = true) ∧ wr.cell? ⟨w.heap.size + 1, 8, none⟩ = some (.slice so n cap) ∧ Below w.heap.size w wr) (fun i _ => m - (intOf i).toNat)
 case atStart => exact ⟨0, Nat.zero_le _, rfl, hide rfl, t8, hB9⟩
 case round =>
  clear t8 hB9
  obtain ⟨i, hi, rfl, HA, t8, hbl⟩ := hrel
  have zr0 : w.heap.size + 1 < wr.heap.size := World.block_lt_of_cell? _ _ t8
  have zr := hbl.size
  by_cases hlt : i < m
  ·obtain ⟨bT, oT, rfl, hbT, cT⟩ := (Trs.later hbl H2.out).at i hlt
   have hj1 : (0 : Int) ≤ (i : Int) := by omega
   have hj2 : (i : Int) < (m : Int) := by omega
   have KTi := KT.out i hlt
   rcases b2 (isTr (nn i) (T i) (U i) (V i)) with ht | ht
   ·have KT2 := hide (ht ▸ KTi)
    have e9 := hide (show R9 = 1 by rw [HR.out, allTr_no hlt ht]; rfl)
    clear KTi ht HR
    go_wp2_with (go_at_call 25; (with_reducible refine (KT2.out _ hbl).mono ?_); rintro e w9 ⟨rfl, hb⟩)
    go_ret
    exact ⟨by rw [e9.out]; rfl, bwz⟩
   ·have KT2 := hide (ht ▸ KTi)
    have Hf := hide (show allTr nn T U V (i + 1) = true by rw [allTr, HA.out, ht]; rfl)
    clear KTi ht HA
    go_wp2_with (go_at_call 25; (with_reducible refine (KT2.out _ hbl).mono ?_); rintro e w9 ⟨rfl, hb⟩)
    have t8' := cell_later hb t8
    have hbl' := bstep hbl hb
    clear t8 cT hbl hb
    go_roundw
    case rel => exact ⟨i + 1, by omega, by go_num, Hf, t8', hbl'⟩
    case measure => simp [intOf]; omega
  ·obtain rfl : i = m := by omega
   have hal := HA.out
   have f1 := we.out
   rcases b2 (inB k 0 ((n : Int) - 1)) with g2 | g2
   ·have z1 : zoC true true n k = 4 := by unfold zoC; rw [g2]; rfl
    have e9 := hide (show R9 = 4 by rw [HR.out, hal, rmC5_z (by rw [z1]; decide), z1])
    clear z1 hal HA HR
    go_wp2_with (go_at_call 46; (with_reducible refine (spec_l01In _ _ _ _).mono ?_); rintro e w9 ⟨rfl, rfl⟩)
    go_ret
    exact ⟨by rw [e9.out]; rfl, hbl⟩
   ·have z1 : zoC true true n k = 0 := by unfold zoC; rw [g2]; rfl
    have e8 : R9 = sel (inB len 1 1000) 0 2 := by rw [HR.out, hal, rmC5_ok z1]
    rcases b2 (inB len 1 1000) with g | g
    ·rw [g, sel_f] at e8
     have e9 := hide e8
     clear z1 hal HA HR e8
     go_wp2_with (go_at_call 46; (with_reducible refine (spec_l01In _ _ _ _).mono ?_); rintro e w9 ⟨rfl, rfl⟩)
     go_ret
     exact ⟨by rw [e9.out]; rfl, hbl⟩
    ·rw [g, sel_t] at e8
     have e9 := hide e8
     clear z1 hal HA HR e8
     go_wp2_with (go_at_call 46; (with_reducible refine (spec_l01In _ _ _ _).mono ?_); rintro e w9 ⟨rfl, rfl⟩)
     go_ret
     exact ⟨by rw [e9.out]; rfl, hbl⟩
/-- Two tracks as a list. -/
def two {α : Type} (a b : α) (i : Nat) : α := if i = 0 then a else b
theorem trs_two {w W : World} {g n2 n3 c2 c3 : Nat} {a2 a3 : Option Addr} {T U V T3 U3 V3 : Nat → Int} (h0 : W.cell? ⟨g, 0, none⟩ = some (.slice a2 n2 c2)) (h1 : W.cell? ⟨g, 1, none⟩ = some (.slice a3 n3 c3)) (r2 : RowAt w a2 n2 3 (v3 T U V)) (r3 : RowAt w a3 n3 3 (v3 T3 U3 V3)) (hb : Below w.heap.size w W) :
 Trs W (some ⟨g, 0, none⟩) 2 (two a2 a3) (two n2 n3) (two c2 c3) (two T T3) (two U U3) (two V V3) := by
 refine ⟨fun i hi => ⟨g, 0, rfl, fun j hj => ?_⟩, fun i hi => ?_⟩
 ·obtain rfl : j = 0 := by omega
  rcases (by omega : i = 0 ∨ i = 1) with rfl | rfl
  ·exact h0
  ·exact h1
 ·rcases (by omega : i = 0 ∨ i = 1) with rfl | rfl
  ·exact RowAt.later hb r2
  ·exact RowAt.later hb r3
theorem allTr_two (n2 n3 : Nat) (T U V T3 U3 V3 : Nat → Int) : allTr (two n2 n3) (two T T3) (two U U3) (two V V3) 2 = (isTr n2 T U V && isTr n3 T3 U3 V3) := by
 show ((true && isTr n2 T U V) && isTr n3 T3 U3 V3) = _
 rw [Bool.true_and]
theorem zoC_of {wd co tr : Bool} {n : Nat} {k len : Int} (h : rmC5 wd co tr n k len = 0) : wd = true ∧ co = true ∧ tr = true ∧ zoC co tr n k = 0 ∧ inB len 1 1000 = true := by
 rcases wd with _ | _
 ·rw [rmC5_no (by rfl)] at h; exact absurd h (by decide)
 rcases co with _ | _
 ·rw [rmC5_no (by rfl)] at h; exact absurd h (by decide)
 rcases tr with _ | _
 ·rw [rmC5_no (by rfl)] at h; exact absurd h (by decide)
 by_cases z : zoC true true n k = 0
 ·rw [rmC5_ok z] at h
  rcases b2 (inB len 1 1000) with g | g
  ·rw [g] at h; exact absurd h (by decide)
  ·exact ⟨rfl, rfl, rfl, z, g⟩
 ·rw [rmC5_z z] at h; exact absurd h z
/-- What RoomAt answers. -/
def raV (c : Int) (wx wy : Int) (n2 : Nat) (T U V : Nat → Int) (n3 : Nat) (T3 U3 V3 : Nat → Int) (X Y Z : Nat → Int) (k len : Int) : Int × Int := if c = 0 then rmA wx wy (X k.toNat) (Y k.toNat) (Z k.toNat) n2 T U V n3 T3 U3 V3 len else (0, 0)
set_option maxRecDepth 100000 in
set_option maxHeartbeats 8000000 in
theorem impl_RoomAt (wx wy : Int) (ax ay bx bY cx cy dx dy : Int) (so : Option Addr) (n cap : Nat) (N : Nat → ByteArray) (X Y S Z : Nat → Int) (k : Int) (so2 : Option Addr) (n2 cap2 : Nat) (T U V : Nat → Int) (so3 : Option Addr) (n3 cap3 : Nat) (T3 U3 V3 : Nat → Int) (len : Int) (w : World) (h : RowAt w so n 5 (v5 N X Y S Z)) (hn : n ≤ 1048576) (hcap : n ≤ cap) (h2 : RowAt w so2 n2 3 (v3 T U V)) (hn2 : n2 ≤ 1048576) (h3 : RowAt w so3 n3 3 (v3 T3 U3 V3)) (hn3 : n3 ≤ 1048576) :
 Calls Tryz.prog 9 #[.agg #[.int .i64 wx, .int .i64 wy], .agg #[.int .i64 ax, .int .i64 ay, .int .i64 bx, .int .i64 bY, .int .i64 cx, .int .i64 cy, .int .i64 dx, .int .i64 dy, .slice so n cap], .int .i64 k, .agg #[.slice so2 n2 cap2], .agg #[.slice so3 n3 cap3], .int .i64 len] w fun e w' => e = .returned (.tuple #[.agg #[.int .i64 (raV (rmC5 (isWd wx wy) (isCo ax ay bx bY cx cy dx dy n N X Y S Z) (isTr n2 T U V && isTr n3 T3 U3 V3) n k len) wx wy n2 T U V n3 T3 U3 V3 X Y Z k len).1, .int .i64 (raV (rmC5 (isWd wx wy) (isCo ax ay bx bY cx cy dx dy n N X Y S Z) (isTr n2 T U V && isTr n3 T3 U3 V3) n k len) wx wy n2 T U V n3 T3 U3 V3 X Y Z k len).2], .int .i64 (rmC5 (isWd wx wy) (isCo ax ay bx bY cx cy dx dy n N X Y S Z) (isTr n2 T U V && isTr n3 T3 U3 V3) n k len)]) ∧ Below w.heap.size w w' := by
 have KC := fun W (g : Nat) (h0 : W.cell? ⟨g, 0, none⟩ = some (.slice so2 n2 cap2)) (h1 : W.cell? ⟨g, 1, none⟩ = some (.slice so3 n3 cap3)) (hb : Below w.heap.size w W) => impl_roomCode wx wy ax ay bx bY cx cy dx dy so n cap N X Y S Z k (some ⟨g, 0, none⟩) 2 2 _ _ _ _ _ _ len W (RowAt.later hb h) hn hcap (trs_two h0 h1 h2 h3 hb) (by decide) (fun i hi => by unfold two; split; exact hn2; exact hn3)
 rw [allTr_two] at KC
 obtain ⟨cd, hcd⟩ : ∃ c, c = (rmC5 (isWd wx wy) (isCo ax ay bx bY cx cy dx dy n N X Y S Z) (isTr n2 T U V && isTr n3 T3 U3 V3) n k len) := ⟨_, rfl⟩
 rw [← hcd] at KC ⊢
 have KC := hide KC
 unfold raV
 by_cases hz : cd = 0
 ·obtain ⟨hw, hco, htr, z, hlen⟩ := zoC_of (hcd.symm.trans hz)
  rw [if_pos hz]
  rw [hz] at KC ⊢
  rw [Bool.and_eq_true] at htr
  obtain ⟨hv, hv3⟩ := htr
  obtain ⟨_, _, hk0, hk1⟩ := zo_tt z
  obtain ⟨hn2a, _, _⟩ := isTr_t hv
  obtain ⟨hn3a, _, _⟩ := isTr_t hv3
  obtain ⟨b2, o2, rfl, hb2, _, _, _⟩ := h2.at3 0 (by omega)
  obtain ⟨b3, o3, rfl, hb3, _, _, _⟩ := h3.at3 0 (by omega)
  obtain ⟨K, rfl⟩ := Int.eq_ofNat_of_zero_le hk0
  have hKn : K < n := by omega
  obtain ⟨_, hpt, _, hz1, hz2⟩ := isMk_t ((isCo_t hco).2.2.2.2 K hKn)
  obtain ⟨b, o, rfl, hbs, e0, e1, e2, e3, e4⟩ := h.at5 K hKn
  have hi0 : (0 : Int) ≤ (K : Int) := by omega
  have hi1 : (K : Int) < (n : Int) := by omega
  rw [Int.toNat_natCast]
  have KR := hide (fun W (hb : Below w.heap.size w W) => impl_roomAt wx wy (N K) (X K) (Y K) (S K) (Z K) b2 o2 n2 cap2 T U V b3 o3 n3 cap3 T3 U3 V3 len W hw (RowAt.later hb h2) hv (RowAt.later hb h3) hv3 hpt hz1 hz2)
  obtain ⟨R9, hR9⟩ : ∃ R, R = rmA wx wy (X K) (Y K) (Z K) n2 T U V n3 T3 U3 V3 len := ⟨_, rfl⟩
  rw [← hR9] at KR ⊢
  obtain ⟨r1, r2⟩ := R9
  dsimp only at KR ⊢
  clear h h2 h3 hR9 hco hw hv hv3 hpt hz1 hz2 hcd hz z hlen hk1
  go_enter Tryz.func9, Tryz.ntmps9
  go_upto_region 1 with fail
  obtain ⟨wT, hT⟩ : ∃ W, W = ((((w.alloc (.cells #[.int .i64 wx, .int .i64 wy] 25)).alloc (.cells #[.int .i64 ax, .int .i64 ay, .int .i64 bx, .int .i64 bY, .int .i64 cx, .int .i64 cy, .int .i64 dx, .int .i64 dy, .slice (some ⟨b, o, none⟩) n cap] 31)).alloc (.cells #[.slice (some ⟨b2, o2, none⟩) n2 cap2] 45)).alloc (.cells #[.slice (some ⟨b3, o3, none⟩) n3 cap3] 45)) := ⟨_, rfl⟩
  have t0 : wT.cell? ⟨w.heap.size, 0, none⟩ = some (.int .i64 wx) := by rw [hT]; go_simp
  have t1 : wT.cell? ⟨w.heap.size, 1, none⟩ = some (.int .i64 wy) := by rw [hT]; go_simp
  have t8 : wT.cell? ⟨w.heap.size + 1, 8, none⟩ = some (.slice (some ⟨b, o, none⟩) n cap) := by rw [hT]; go_simp
  have t2 : wT.cell? ⟨w.heap.size + 1 + 1, 0, none⟩ = some (.slice (some ⟨b2, o2, none⟩) n2 cap2) := by rw [hT]; go_simp
  have t3 : wT.cell? ⟨w.heap.size + 1 + 1 + 1, 0, none⟩ = some (.slice (some ⟨b3, o3, none⟩) n3 cap3) := by rw [hT]; go_simp
  have tc0 : wT.cell? ⟨w.heap.size + 1, 0, none⟩ = some (.int .i64 ax) := by rw [hT]; go_simp
  have tc1 : wT.cell? ⟨w.heap.size + 1, 1, none⟩ = some (.int .i64 ay) := by rw [hT]; go_simp
  have tc2 : wT.cell? ⟨w.heap.size + 1, 2, none⟩ = some (.int .i64 bx) := by rw [hT]; go_simp
  have tc3 : wT.cell? ⟨w.heap.size + 1, 3, none⟩ = some (.int .i64 bY) := by rw [hT]; go_simp
  have tc4 : wT.cell? ⟨w.heap.size + 1, 4, none⟩ = some (.int .i64 cx) := by rw [hT]; go_simp
  have tc5 : wT.cell? ⟨w.heap.size + 1, 5, none⟩ = some (.int .i64 cy) := by rw [hT]; go_simp
  have tc6 : wT.cell? ⟨w.heap.size + 1, 6, none⟩ = some (.int .i64 dx) := by rw [hT]; go_simp
  have tc7 : wT.cell? ⟨w.heap.size + 1, 7, none⟩ = some (.int .i64 dy) := by rw [hT]; go_simp
  have HBT := hide (show Below w.heap.size w wT by rw [hT]; exact bwz)
  have g0 := cell_later HBT.out e0
  have g1 := cell_later HBT.out e1
  have g2 := cell_later HBT.out e2
  have g3 := cell_later HBT.out e3
  have g4 := cell_later HBT.out e4
  have sT : wT.heap.size = w.heap.size + 1 + 1 + 1 + 1 := by rw [hT]; simp
  have zT0 : w.heap.size < wT.heap.size := by omega
  have zT1 : w.heap.size + 1 < wT.heap.size := by omega
  have zT2 : w.heap.size + 1 + 1 < wT.heap.size := by omega
  have zT3 : w.heap.size + 1 + 1 + 1 < wT.heap.size := by omega
  have zTb : b < wT.heap.size := by have := HBT.out.size; omega
  rw [← hT, ← sT]
  clear hT sT e0 e1 e2 e3 e4
  obtain ⟨wU, hU⟩ : ∃ W, W = wT.alloc (.cells #[.int .i64 0, .int .i64 0] 40) := ⟨_, rfl⟩
  have HM := hide (show Mine wU wT.heap.size 2 by rw [hU]; exact mine_make rfl)
  have HTU := hide (show Below wT.heap.size wT wU by rw [hU]; exact bwz)
  have hcU := (bcell HTU.out).1
  have hTU := HTU.out
  have sU : wT.heap.size < wU.heap.size := by rw [hU]; simp
  rw [← hU]
  clear hU
  go_upto_region 4 with (go_at_call 18; (with_reducible refine (KC.out _ _ (by go_simp) (by go_simp) (bstep HBT.out bwz)).mono ?_); rintro e wB ⟨rfl, hb⟩)
  have hBU := hide (show Below wU.heap.size wU wB from bwz)
  have HMB := hide (Mine.later hBU.out HM.out)
  have HTB := hide (HTU.out.trans (hBU.out.mono (by omega)))
  have hcB := (bcell HTB.out).1
  clear hb hcU HM
  refine wp_region_held_drew (S := fun W => Below wT.heap.size wT W ∧ Mine W (wT.heap.size) 2) (by kernel_rfl) ⟨Below.drew (HTB.out), Mine.later (Below.drew (Below.refl _ _)) (HMB.out)⟩ (fun hHeld => ?_)
  refine wpAnyH_take (i := 0) (oi := ⟨some 27, _, _, _, _, _⟩) (v := ?_) rfl (by kernel_rfl) (by kernel_rfl) (by kernel_rfl) (by intro _ _ _ h; exact h) (Or.inl ⟨by kernel_rfl, ?_⟩) (by assumption) ?_; rotate_left; focus (intro W0 hSw; have hcS := (bcell hSw.1).1; go_simp; (try with_reducible rfl))
  refine tkN 1 (some 28) rfl ?_
  refine wpAnyH_take (i := 2) (oi := ⟨some 29, _, _, _, _, _⟩) (v := ?_) rfl (by kernel_rfl) (by kernel_rfl) (by kernel_rfl) (by intro _ _ _ h; exact h) (Or.inl ⟨by kernel_rfl, ?_⟩) (by assumption) ?_; rotate_left; focus (intro W0 hSw; have hcS := (bcell hSw.1).1; go_simp; (try with_reducible rfl))
  refine tkN 3 (some 30) rfl ?_
  refine tkN 4 (some 31) rfl ?_
  refine wpAnyH_take (i := 5) (oi := ⟨some 32, _, _, _, _, _⟩) (v := ?_) rfl (by kernel_rfl) (by kernel_rfl) (by kernel_rfl) (by intro _ _ _ h; exact h) (Or.inl ⟨by kernel_rfl, ?_⟩) (by assumption) ?_; rotate_left; focus (intro W0 hSw; have hcS := (bcell hSw.1).1; go_simp; (try with_reducible rfl))
  refine wpAnyH_take (i := 6) (oi := ⟨some 33, _, _, _, _, _⟩) (v := ?_) rfl (by kernel_rfl) (by kernel_rfl) (by kernel_rfl) (by intro _ _ _ h; exact h) (Or.inl ⟨by kernel_rfl, ?_⟩) (by assumption) ?_; rotate_left; focus (intro W0 hSw; have hcS := (bcell hSw.1).1; go_simp; (try with_reducible rfl))
  refine wpAnyH_take (i := 7) (oi := ⟨some 34, _, _, _, _, _⟩) (v := ?_) rfl (by kernel_rfl) (by kernel_rfl) (by kernel_rfl) (by intro _ _ _ h; exact h) (Or.inl ⟨by kernel_rfl, ?_⟩) (by assumption) ?_; rotate_left; focus (intro W0 hSw; have hcS := (bcell hSw.1).1; go_simp; (try with_reducible rfl))
  refine tkN 8 (some 35) rfl ?_
  refine rd1 9 (some 36) rfl (fun K hK => ?_)
  go_simp; (go_at_call 19; (with_reducible refine (KR.out _ (HBT.out.trans (hHeld.1.mono (by omega)))).mono ?_); rintro e w9 ⟨rfl, hb⟩)
  all_goals (try go_wp2_with fail)
  refine hK.out _ _ ?_ (fun hH2 => ?_)
  ·first | exact ⟨bstep hHeld.1 hb, Mine.later hb hHeld.2⟩ | exact hHeld
  clear hK K hHeld; (have hHeld := hH2); clear hH2; (try simp only [pz])
  refine rd1 10 none rfl (fun K hK => ?_)
  obtain ⟨⟨mx0, mc0⟩, mf0⟩ := hHeld.2 0 (by decide); obtain ⟨⟨mx1, mc1⟩, mf1⟩ := hHeld.2 1 (by decide); go_simp
  all_goals (try go_wp2_with fail)
  refine hK.out _ _ ?_ (fun hH2 => ?_)
  ·have hHg := hHeld.1; exact ⟨bwz, (by (repeat with_reducible refine Mine.set ?_); exact hHeld.2)⟩
  clear hK K hHeld; (have hHeld := hH2); clear hH2; (try simp only [pz])
  refine tkN 11 (some 13) rfl ?_
  refine wpAnyH_done (by kernel_rfl) ?_ _; (try simp only [pz])
  go_wp2
  simp [bodyPost, results, Tryz.results9, go_sem, *]
  all_goals exact HBT.out.trans (hHeld.1.mono (by omega))
 ·rw [if_neg hz]
  have hcb : (cd != 0) = true := bne_iff_ne.2 hz
  clear h h2 h3 hcd
  go_enter Tryz.func9, Tryz.ntmps9
  go_wp2_with (go_at_call 18; (with_reducible refine (KC.out _ _ (by go_simp) (by go_simp) bwz).mono ?_); rintro e w9 ⟨rfl, hb⟩; obtain ⟨hc, hf⟩ := bcell hb; have hzq := hb.size; have z0 : w.heap.size < w9.heap.size := (by first | omega | (simp at hzq; omega)); have z1 : w.heap.size + 1 < w9.heap.size := (by first | omega | (simp at hzq; omega)); have z2 : w.heap.size + 1 + 1 < w9.heap.size := (by first | omega | (simp at hzq; omega)); have z3 : w.heap.size + 1 + 1 + 1 < w9.heap.size := (by first | omega | (simp at hzq; omega)); have z4 : w.heap.size + 1 + 1 + 1 + 1 < w9.heap.size := (by first | omega | (simp at hzq; omega)))
  simp [bodyPost, results, Tryz.results9, go_sem, *]
  all_goals exact bwz
end Go.Proofs.YthlnpcneicmblaaGreatDoor
