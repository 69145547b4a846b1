/- Walks: the hull at a time. -/
import Derived.Test.YthlnpcneicmblaaGreatDoorBp
import Derived.Test.YthlnpcneicmblaaGreatDoorTe
import Derived.Test.YthlnpcneicmblaaGreatDoorTd
import Derived.Deep.DeepCutAuto
namespace Go.Proofs.YthlnpcneicmblaaGreatDoor
open Go.RowKit

set_option maxRecDepth 100000 in
set_option maxHeartbeats 16000000 in
theorem impl_HullAt (so : Option Addr) (n cap : Nat) (T X Y : Nat → Int) (t len : Int) (w : World) (h : RowAt w so n 3 (v3 T X Y)) (hn : n ≤ 1048576) :
 Calls Tryz.prog 43 #[.agg #[.slice so n cap], .int .i64 t, .int .i64 len] w fun e w' => e = .returned (.tuple #[.agg #[.int .i64 (sel (huOk n T X Y t len) (posX n T X t) 0), .int .i64 (sel (huOk n T X Y t len) (posX n T Y t) 0), .int .i64 (sel (huOk n T X Y t len) (wayX n T X t) 0), .int .i64 (sel (huOk n T X Y t len) (wayX n T Y t) 0), .int .i64 (sel (huOk n T X Y t len) (len) 0)], .int .i64 (huC n T X Y t len)]) ∧ Below w.heap.size w w' := by
 rcases b5 (isTr n T X Y) (inB len 1 1000) (inB t (T 0) (T (n - 1))) (wayX n T X t == 0 && wayX n T Y t == 0) with g1 | ⟨g1, g2⟩ | ⟨g1, g2, g3⟩ | ⟨g1, g2, g3, g4⟩ | ⟨g1, g2, g3, g4⟩
 ·have Ho := hide (show huOk n T X Y t len = false by simp [huOk, g1])
  have Hd := hide (show huC n T X Y t len = 1 by simp [huC, sel, g1])
  go_enter Tryz.func43, Tryz.ntmps43
  go_wp2_with (first | (go_at_call 57; (with_reducible refine (impl_IsTrack _ _ _ T X Y _ (RowAt.later bwz h) hn).mono ?_); rintro e w9 ⟨rfl, hb⟩; obtain ⟨hc, hf⟩ := bcell hb; have hz := hb.size; have z0 : w.heap.size < w9.heap.size := (by first | omega | (simp at hz; omega)); have z1 : w.heap.size + 1 < w9.heap.size := (by first | omega | (simp at hz; omega))) | (go_at_call 41; (with_reducible refine (impl_within _ _ _ _).mono ?_); rintro e w9 ⟨rfl, rfl⟩))
  simp [bodyPost, results, Tryz.results43, go_sem, *]
  first | (simp [sel, Ho.out, Hd.out]; done) | exact ⟨by simp [sel, Ho.out, Hd.out], bwz⟩
 ·have Ho := hide (show huOk n T X Y t len = false by simp [huOk, g1, g2])
  have Hd := hide (show huC n T X Y t len = 2 by simp [huC, sel, g1, g2])
  go_enter Tryz.func43, Tryz.ntmps43
  go_wp2_with (first | (go_at_call 57; (with_reducible refine (impl_IsTrack _ _ _ T X Y _ (RowAt.later bwz h) hn).mono ?_); rintro e w9 ⟨rfl, hb⟩; obtain ⟨hc, hf⟩ := bcell hb; have hz := hb.size; have z0 : w.heap.size < w9.heap.size := (by first | omega | (simp at hz; omega)); have z1 : w.heap.size + 1 < w9.heap.size := (by first | omega | (simp at hz; omega))) | (go_at_call 41; (with_reducible refine (impl_within _ _ _ _).mono ?_); rintro e w9 ⟨rfl, rfl⟩))
  simp [bodyPost, results, Tryz.results43, go_sem, *]
  first | (simp [sel, Ho.out, Hd.out]; done) | exact ⟨by simp [sel, Ho.out, Hd.out], bwz⟩
 ·have Ho := hide (show huOk n T X Y t len = false by simp [huOk, g1, g2, g3])
  have Hd := hide (show huC n T X Y t len = 2 by simp [huC, sel, g1, g2, g3])
  have Hc := hide (show sel (isTr n T X Y) (sel (inB t (T 0) (T (n - 1))) (sel (wayX n T X t == 0 && wayX n T Y t == 0) 5 0) 2) 1 = 2 by simp only [sel, g1, g3]; rfl)
  have Hx := hide (show sel (isTr n T X Y && inB t (T 0) (T (n - 1)) && !(wayX n T X t == 0 && wayX n T Y t == 0)) (wayX n T X t) 0 = 0 by simp only [sel, g1, g3]; rfl)
  have Hy := hide (show sel (isTr n T X Y && inB t (T 0) (T (n - 1)) && !(wayX n T X t == 0 && wayX n T Y t == 0)) (wayX n T Y t) 0 = 0 by simp only [sel, g1, g3]; rfl)
  go_enter Tryz.func43, Tryz.ntmps43
  go_wp2_with (first | (go_at_call 57; (with_reducible refine (impl_IsTrack _ _ _ T X Y _ (RowAt.later bwz h) hn).mono ?_); rintro e w9 ⟨rfl, hb⟩; obtain ⟨hc, hf⟩ := bcell hb; have hz := hb.size; have z0 : w.heap.size < w9.heap.size := (by first | omega | (simp at hz; omega)); have z1 : w.heap.size + 1 < w9.heap.size := (by first | omega | (simp at hz; omega))) | (go_at_call 41; (with_reducible refine (impl_within _ _ _ _).mono ?_); rintro e w9 ⟨rfl, rfl⟩) | (go_at_call 60; (with_reducible refine (impl_HeadingAt _ _ _ T X Y _ _ (RowAt.later bwz h) hn).mono ?_); rintro e w9 ⟨rfl, hb⟩; rw [Hc.out, Hx.out, Hy.out]; obtain ⟨hc, hf⟩ := bcell hb; have hz := hb.size; (try simp at hz); have z0 : w.heap.size < w9.heap.size := (by omega); have z1 : w.heap.size + 1 < w9.heap.size := (by omega)))
  simp [bodyPost, results, Tryz.results43, go_sem, *]
  first | (simp [sel, Ho.out, Hd.out]; done) | exact ⟨by simp [sel, Ho.out, Hd.out], bwz⟩
 ·have Ho := hide (show huOk n T X Y t len = true by simp [huOk, g1, g2, g3, g4])
  have Hd := hide (show huC n T X Y t len = 0 by simp [huC, sel, g1, g2, g3, g4])
  obtain ⟨b, o, rfl⟩ := row_some h g1
  have Hc := hide (show sel (isTr n T X Y) (sel (inB t (T 0) (T (n - 1))) (sel (wayX n T X t == 0 && wayX n T Y t == 0) 5 0) 2) 1 = 0 by simp only [sel, g1, g3, g4]; rfl)
  have Hx := hide (show sel (isTr n T X Y && inB t (T 0) (T (n - 1)) && !(wayX n T X t == 0 && wayX n T Y t == 0)) (wayX n T X t) 0 = wayX n T X t by simp only [sel, g1, g3, g4]; rfl)
  have Hy := hide (show sel (isTr n T X Y && inB t (T 0) (T (n - 1)) && !(wayX n T X t == 0 && wayX n T Y t == 0)) (wayX n T Y t) 0 = wayX n T Y t by simp only [sel, g1, g3, g4]; rfl)
  go_enter Tryz.func43, Tryz.ntmps43
  go_upto_region 8 with (first | (go_at_call 57; (with_reducible refine (impl_IsTrack _ _ _ T X Y _ (RowAt.later bwz h) hn).mono ?_); rintro e w9 ⟨rfl, hb⟩; obtain ⟨hc, hf⟩ := bcell hb; have hz := hb.size; have z0 : w.heap.size < w9.heap.size := (by first | omega | (simp at hz; omega)); have z1 : w.heap.size + 1 < w9.heap.size := (by first | omega | (simp at hz; omega))) | (go_at_call 41; (with_reducible refine (impl_within _ _ _ _).mono ?_); rintro e w9 ⟨rfl, rfl⟩) | (go_at_call 60; (with_reducible refine (impl_HeadingAt _ _ _ T X Y _ _ (RowAt.later bwz h) hn).mono ?_); rintro e w9 ⟨rfl, hb⟩; rw [Hc.out, Hx.out, Hy.out]; obtain ⟨hc, hf⟩ := bcell hb; have hz := hb.size; (try simp at hz); have z0 : w.heap.size < w9.heap.size := (by omega); have z1 : w.heap.size + 1 < w9.heap.size := (by omega)))
  obtain ⟨wB, rfl⟩ : ∃ wB : World, wB = w9 := ⟨_, rfl⟩
  refine wp_region_held_drew (S := (fun W => W.cell? ⟨w.heap.size, 0, none⟩ = some ((.slice (some ⟨b, o, none⟩) n cap)) ∧ W.cell? ⟨wB.heap.size, 0, none⟩ = some (.int .i64 (wayX n T X t)) ∧ W.cell? ⟨wB.heap.size, 1, none⟩ = some (.int .i64 (wayX n T Y t)) ∧ Below w.heap.size w W ∧ w.heap.size + 2 ≤ W.heap.size)) (by kernel_rfl) ?_ (fun hHeld => ?_)
  ·exact ⟨(by go_simp; done), (by go_simp; done), (by go_simp; done), bwz, (by first | (simp; done) | (simp; omega) | omega)⟩
  refine tkD 0 (some 28) rfl ?_; simp only [pz]
  refine tkD 1 (some 29) rfl ?_; simp only [pz]
  refine tkD 3 (some 31) rfl ?_; simp only [pz]
  refine tkD 4 (some 32) rfl ?_; simp only [pz]
  refine rd1 2 (some 30) rfl (fun K hK => ?_)
  go_simp; (go_at_call 61; (with_reducible refine (impl_positionAt _ _ _ _ T X Y _ _ (RowAt.later bwz h) g1 g3).mono ?_); rintro e w9 ⟨rfl, hb⟩; have hzz := hb.size; (try simp at hzz); have hn0 : ¬ w9.heap.size = w.heap.size := (by omega); have hm0 : ¬ w.heap.size = w9.heap.size := (by omega); have hn1 : ¬ w9.heap.size = w.heap.size + 1 := (by omega); have hm1 : ¬ w.heap.size + 1 = w9.heap.size := (by omega); have z0 : w.heap.size < w9.heap.size := (by omega); have z1 : w.heap.size + 1 < w9.heap.size := (by omega); obtain ⟨hc, hf⟩ := bcell hb)
  all_goals (try go_wp2_with fail)
  refine hK.out _ _ ?_ (fun hH2 => ?_)
  ·(try dsimp only); first | (obtain ⟨k1, k2, k3, kB, kz⟩ := hHeld; exact ⟨cell_later hb k1, cell_later hb k2, cell_later hb k3, bstep kB hb, bsize kz hb⟩) | (obtain ⟨k1, k2, k3, kB, kz⟩ := hHeld; exact ⟨k1, k2, k3, kB, kz⟩)
  clear hK K hHeld; (have hHeld := hH2); clear hH2; (try simp only [pz])
  refine tkD 5 (some 33) rfl ?_; simp only [pz]
  refine rd1 6 none rfl (fun K hK => ?_)
  go_simp
  all_goals (try go_wp2_with fail)
  refine hK.out _ _ ?_ (fun hH2 => ?_)
  ·(try dsimp only); first | (obtain ⟨k1, k2, k3, kB, kz⟩ := hHeld; (have kz2 := kz); (try simp at kz2); exact ⟨crk k1, crk k2, crk k3, (by with_reducible refine below_realloc kB ?_; omega), (by first | (simp; done) | (simp at kz ⊢; omega) | omega)⟩) | (obtain ⟨k1, k2, k3, kB, kz⟩ := hHeld; exact ⟨csk k1, csk k2, csk k3, bwz, (by first | (simp; done) | (simp at kz ⊢; omega) | omega)⟩)
  clear hK K hHeld; (have hHeld := hH2); clear hH2; (try simp only [pz])
  refine tkD 7 (some 7) rfl ?_; simp only [pz]
  refine wpAnyH_done (by kernel_rfl) ?_ _; (try simp only [pz])
  obtain ⟨k1, k2, k3, kB, kz⟩ := hHeld
  go_wp2
  simp [bodyPost, results, Tryz.results43, go_sem, *]
  first | (simp [sel, Ho.out, Hd.out]; done) | exact ⟨by simp [sel, Ho.out, Hd.out], bwz⟩
 ·have Ho := hide (show huOk n T X Y t len = false by simp [huOk, g1, g2, g3, g4])
  have Hd := hide (show huC n T X Y t len = 5 by simp [huC, sel, g1, g2, g3, g4])
  have Hc := hide (show sel (isTr n T X Y) (sel (inB t (T 0) (T (n - 1))) (sel (wayX n T X t == 0 && wayX n T Y t == 0) 5 0) 2) 1 = 5 by simp only [sel, g1, g3, g4]; rfl)
  have Hx := hide (show sel (isTr n T X Y && inB t (T 0) (T (n - 1)) && !(wayX n T X t == 0 && wayX n T Y t == 0)) (wayX n T X t) 0 = 0 by simp only [sel, g1, g3, g4]; rfl)
  have Hy := hide (show sel (isTr n T X Y && inB t (T 0) (T (n - 1)) && !(wayX n T X t == 0 && wayX n T Y t == 0)) (wayX n T Y t) 0 = 0 by simp only [sel, g1, g3, g4]; rfl)
  go_enter Tryz.func43, Tryz.ntmps43
  go_wp2_with (first | (go_at_call 57; (with_reducible refine (impl_IsTrack _ _ _ T X Y _ (RowAt.later bwz h) hn).mono ?_); rintro e w9 ⟨rfl, hb⟩; obtain ⟨hc, hf⟩ := bcell hb; have hz := hb.size; have z0 : w.heap.size < w9.heap.size := (by first | omega | (simp at hz; omega)); have z1 : w.heap.size + 1 < w9.heap.size := (by first | omega | (simp at hz; omega))) | (go_at_call 41; (with_reducible refine (impl_within _ _ _ _).mono ?_); rintro e w9 ⟨rfl, rfl⟩) | (go_at_call 60; (with_reducible refine (impl_HeadingAt _ _ _ T X Y _ _ (RowAt.later bwz h) hn).mono ?_); rintro e w9 ⟨rfl, hb⟩; rw [Hc.out, Hx.out, Hy.out]; obtain ⟨hc, hf⟩ := bcell hb; have hz := hb.size; (try simp at hz); have z0 : w.heap.size < w9.heap.size := (by omega); have z1 : w.heap.size + 1 < w9.heap.size := (by omega)))
  simp [bodyPost, results, Tryz.results43, go_sem, *]
  first | (simp [sel, Ho.out, Hd.out]; done) | exact ⟨by simp [sel, Ho.out, Hd.out], bwz⟩
end Go.Proofs.YthlnpcneicmblaaGreatDoor
