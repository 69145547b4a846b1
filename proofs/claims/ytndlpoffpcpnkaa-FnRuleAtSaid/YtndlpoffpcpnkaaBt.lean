/- Walks: the boat at a time, of both. -/
import Derived.Test.YtndlpoffpcpnkaaBp
import Derived.Test.YtndlpoffpcpnkaaTg
import Derived.Test.YtndlpoffpcpnkaaTgs
import Derived.Test.YtndlpoffpcpnkaaTu
import Derived.Test.YtndlpoffpcpnkaaTv
namespace Go.Proofs.Ytndlpoffpcpnkaa
open Go.RowKit

set_option maxRecDepth 100000 in
set_option maxHeartbeats 4000000 in
theorem impl_BoatAt (wx wy : Int) (so : Option Addr) (n cap : Nat) (T X Y : Nat → Int) (t len sp : Int) (w : World) (h : RowAt w so n 3 (v3 T X Y)) (hn : n ≤ 1048576) :
    Calls Try.prog 8 #[.agg #[.int .i64 wx, .int .i64 wy], .agg #[.slice so n cap], .int .i64 t, .int .i64 len, .int .i64 sp] w fun e w' => e = .returned (.tuple #[.agg #[.int .i64 (sel (boOk wx wy n T X Y t len sp) (posX n T X t) 0), .int .i64 (sel (boOk wx wy n T X Y t len sp) (posX n T Y t) 0), .int .i64 (sel (boOk wx wy n T X Y t len sp) (wayX n T X t) 0), .int .i64 (sel (boOk wx wy n T X Y t len sp) (wayX n T Y t) 0), .int .i64 (sel (boOk wx wy n T X Y t len sp) len 0), .bool (boB wx wy n T X Y t len sp)], .int .i64 (boC wx wy n T X Y t len sp)]) ∧ Below w.heap.size w w' := by
  rcases bo_cases wx wy n T X Y t len sp with ⟨k1, ho, hcc⟩ | ⟨k1, k2, ho, hcc⟩ | ⟨k1, k2, ho, hcc⟩
  · have Hb := hide (show boB wx wy n T X Y t len sp = false by simp [boB, selB, ho])
    obtain ⟨c, hc⟩ : ∃ c, tuC wx wy n T X Y t sp = c := ⟨_, rfl⟩
    rw [hc] at k1 hcc
    have Ht := hide hc
    have Hc := hide hcc
    have Ho := hide ho
    have k3 : (c == 0) = false := beq_eq_false_iff_ne.2 k1
    clear hc hcc ho
    go_enter Try.func8, Try.ntmps8
    go_wp2_with (go_at_call 20; (with_reducible refine (impl_TurningAt wx wy so n cap T X Y t sp _ (RowAt.later bwz h) hn).mono ?_); rintro e w9 ⟨rfl, hb⟩; rw [Ht.out]; obtain ⟨hc, hf⟩ := bcell hb; have hz := hb.size; (try simp at hz); have z0 : w.heap.size < w9.heap.size := (by first | omega | (simp at hz; omega)); have z1 : w.heap.size + 1 < w9.heap.size := (by first | omega | (simp at hz; omega)); have z2 : w.heap.size + 1 + 1 < w9.heap.size := (by first | omega | (simp at hz; omega)))
    simp [bodyPost, results, Try.results8, go_sem, *]
    first | (simp [sel, Ho.out, Hc.out, Hb.out]; done) | exact ⟨by simp [sel, Ho.out, Hc.out, Hb.out], bwz⟩
  · have Hb := hide (show boB wx wy n T X Y t len sp = false by simp [boB, selB, ho])
    obtain ⟨c, hc⟩ : ∃ c, huC n T X Y t len = c := ⟨_, rfl⟩
    rw [hc] at k2 hcc
    have Ht := hide k1
    have Hd := hide hc
    have Hc := hide hcc
    have Ho := hide ho
    have k3 : (c == 0) = false := beq_eq_false_iff_ne.2 k2
    clear hc hcc ho k1
    go_enter Try.func8, Try.ntmps8
    go_wp2_with (first | (go_at_call 20; (with_reducible refine (impl_TurningAt wx wy so n cap T X Y t sp _ (RowAt.later bwz h) hn).mono ?_); rintro e w9 ⟨rfl, hb⟩; rw [Ht.out]; obtain ⟨hc, hf⟩ := bcell hb; have hz := hb.size; (try simp at hz); have z0 : w.heap.size < w9.heap.size := (by first | omega | (simp at hz; omega)); have z1 : w.heap.size + 1 < w9.heap.size := (by first | omega | (simp at hz; omega)); have z2 : w.heap.size + 1 + 1 < w9.heap.size := (by first | omega | (simp at hz; omega))) | (go_at_call 21; (with_reducible refine (impl_HullAt so n cap T X Y t len _ (RowAt.later bwz h) hn).mono ?_); rintro e w9 ⟨rfl, hb⟩; rw [Hd.out]; obtain ⟨hc, hf⟩ := bcell hb; have hz := hb.size; (try simp at hz); have z0 : w.heap.size < w9.heap.size := (by first | omega | (simp at hz; omega)); have z1 : w.heap.size + 1 < w9.heap.size := (by first | omega | (simp at hz; omega)); have z2 : w.heap.size + 1 + 1 < w9.heap.size := (by first | omega | (simp at hz; omega))))
    simp [bodyPost, results, Try.results8, go_sem, *]
    first | (simp [sel, Ho.out, Hc.out, Hb.out]; done) | exact ⟨by simp [sel, Ho.out, Hc.out, Hb.out], bwz⟩
  · have Hb := hide (show boB wx wy n T X Y t len sp = tuB wx wy n T X Y t sp by simp [boB, selB, ho])
    have Hk := hide (show huOk n T X Y t len = true from by
      rcases huC_cases n T X Y t len with k | k
      · exact absurd k2 k.1
      · exact k.2)
    have Ht := hide k1
    have Hd := hide k2
    have Hc := hide hcc
    have Ho := hide ho
    clear k1 k2 hcc ho
    go_enter Try.func8, Try.ntmps8
    go_wp2_with (first | (go_at_call 20; (with_reducible refine (impl_TurningAt wx wy so n cap T X Y t sp _ (RowAt.later bwz h) hn).mono ?_); rintro e w9 ⟨rfl, hb⟩; rw [Ht.out]; obtain ⟨hc, hf⟩ := bcell hb; have hz := hb.size; (try simp at hz); have z0 : w.heap.size < w9.heap.size := (by first | omega | (simp at hz; omega)); have z1 : w.heap.size + 1 < w9.heap.size := (by first | omega | (simp at hz; omega)); have z2 : w.heap.size + 1 + 1 < w9.heap.size := (by first | omega | (simp at hz; omega))) | (go_at_call 21; (with_reducible refine (impl_HullAt so n cap T X Y t len _ (RowAt.later bwz h) hn).mono ?_); rintro e w9 ⟨rfl, hb⟩; rw [Hd.out]; obtain ⟨hc, hf⟩ := bcell hb; have hz := hb.size; (try simp at hz); have z0 : w.heap.size < w9.heap.size := (by first | omega | (simp at hz; omega)); have z1 : w.heap.size + 1 < w9.heap.size := (by first | omega | (simp at hz; omega)); have z2 : w.heap.size + 1 + 1 < w9.heap.size := (by first | omega | (simp at hz; omega))))
    simp [bodyPost, results, Try.results8, go_sem, *]
    first | (simp [sel, Ho.out, Hc.out, Hb.out, Hk.out]; done) | exact ⟨by simp [sel, Ho.out, Hc.out, Hb.out, Hk.out], bwz⟩
theorem impl_BoatAt_ok (wx wy : Int) (so : Option Addr) (n cap : Nat) (T X Y : Nat → Int) (t len sp : Int) (w : World) (h : RowAt w so n 3 (v3 T X Y)) (hn : n ≤ 1048576) (hk : boOk wx wy n T X Y t len sp = true) (hc : boC wx wy n T X Y t len sp = 0) :
    Calls Try.prog 8 #[.agg #[.int .i64 wx, .int .i64 wy], .agg #[.slice so n cap], .int .i64 t, .int .i64 len, .int .i64 sp] w fun e w' => e = .returned (.tuple #[.agg #[.int .i64 (posX n T X t), .int .i64 (posX n T Y t), .int .i64 (wayX n T X t), .int .i64 (wayX n T Y t), .int .i64 len, .bool (boB wx wy n T X Y t len sp)], .int .i64 0]) ∧ Below w.heap.size w w' :=
  (impl_BoatAt wx wy so n cap T X Y t len sp w h hn).mono fun e w' ⟨h1, h2⟩ => ⟨by rw [h1, hk, hc]; simp [sel], h2⟩
theorem impl_BoatAt_no (wx wy : Int) (so : Option Addr) (n cap : Nat) (T X Y : Nat → Int) (t len sp : Int) (w : World) (h : RowAt w so n 3 (v3 T X Y)) (hn : n ≤ 1048576) (hk : boOk wx wy n T X Y t len sp = false) (c : Int) (hc : boC wx wy n T X Y t len sp = c) :
    Calls Try.prog 8 #[.agg #[.int .i64 wx, .int .i64 wy], .agg #[.slice so n cap], .int .i64 t, .int .i64 len, .int .i64 sp] w fun e w' => e = .returned (.tuple #[.agg #[.int .i64 0, .int .i64 0, .int .i64 0, .int .i64 0, .int .i64 0, .bool false], .int .i64 c]) ∧ Below w.heap.size w w' :=
  (impl_BoatAt wx wy so n cap T X Y t len sp w h hn).mono fun e w' ⟨h1, h2⟩ => ⟨by rw [h1, hk, hc, boB, hk]; simp [sel, selB], h2⟩
set_option maxRecDepth 100000 in
set_option maxHeartbeats 4000000 in
theorem spec_BoatAt (wx wy : Int) (so : Option Addr) (n cap : Nat) (T X Y : Nat → Int) (t len sp : Int) (w : World) (h : RowAt w so n 3 (v3 T X Y)) (hn : n ≤ 1048576) :
    Calls Try.prog 18 #[.agg #[.int .i64 wx, .int .i64 wy], .agg #[.slice so n cap], .int .i64 t, .int .i64 len, .int .i64 sp] w fun e w' => e = .returned (.tuple #[.agg #[.int .i64 (sel (boOk wx wy n T X Y t len sp) (posX n T X t) 0), .int .i64 (sel (boOk wx wy n T X Y t len sp) (posX n T Y t) 0), .int .i64 (sel (boOk wx wy n T X Y t len sp) (wayX n T X t) 0), .int .i64 (sel (boOk wx wy n T X Y t len sp) (wayX n T Y t) 0), .int .i64 (sel (boOk wx wy n T X Y t len sp) len 0), .bool (boB wx wy n T X Y t len sp)], .int .i64 (boC wx wy n T X Y t len sp)]) ∧ Below w.heap.size w w' := by
  rcases bo_cases wx wy n T X Y t len sp with ⟨k1, ho, hcc⟩ | ⟨k1, k2, ho, hcc⟩ | ⟨k1, k2, ho, hcc⟩
  · have Hb := hide (show boB wx wy n T X Y t len sp = false by simp [boB, selB, ho])
    obtain ⟨c, hc⟩ : ∃ c, tuC wx wy n T X Y t sp = c := ⟨_, rfl⟩
    rw [hc] at k1 hcc
    have Ht := hide hc
    have Hc := hide hcc
    have Ho := hide ho
    have k3 : (c == 0) = false := beq_eq_false_iff_ne.2 k1
    clear hc hcc ho
    go_enter Try.func18, Try.ntmps18
    go_wp2_with (go_at_call 31; (with_reducible refine (spec_TurningAt wx wy so n cap T X Y t sp _ (RowAt.later bwz h) hn).mono ?_); rintro e w9 ⟨rfl, hb⟩; rw [Ht.out]; obtain ⟨hc, hf⟩ := bcell hb; have hz := hb.size; (try simp at hz); have z0 : w.heap.size < w9.heap.size := (by first | omega | (simp at hz; omega)); have z1 : w.heap.size + 1 < w9.heap.size := (by first | omega | (simp at hz; omega)); have z2 : w.heap.size + 1 + 1 < w9.heap.size := (by first | omega | (simp at hz; omega)))
    simp [bodyPost, results, Try.results18, go_sem, *]
    first | (simp [sel, Ho.out, Hc.out, Hb.out]; done) | exact ⟨by simp [sel, Ho.out, Hc.out, Hb.out], bwz⟩
  · have Hb := hide (show boB wx wy n T X Y t len sp = false by simp [boB, selB, ho])
    obtain ⟨c, hc⟩ : ∃ c, huC n T X Y t len = c := ⟨_, rfl⟩
    rw [hc] at k2 hcc
    have Ht := hide k1
    have Hd := hide hc
    have Hc := hide hcc
    have Ho := hide ho
    have k3 : (c == 0) = false := beq_eq_false_iff_ne.2 k2
    clear hc hcc ho k1
    go_enter Try.func18, Try.ntmps18
    go_wp2_with (first | (go_at_call 31; (with_reducible refine (spec_TurningAt wx wy so n cap T X Y t sp _ (RowAt.later bwz h) hn).mono ?_); rintro e w9 ⟨rfl, hb⟩; rw [Ht.out]; obtain ⟨hc, hf⟩ := bcell hb; have hz := hb.size; (try simp at hz); have z0 : w.heap.size < w9.heap.size := (by first | omega | (simp at hz; omega)); have z1 : w.heap.size + 1 < w9.heap.size := (by first | omega | (simp at hz; omega)); have z2 : w.heap.size + 1 + 1 < w9.heap.size := (by first | omega | (simp at hz; omega))) | (go_at_call 32; (with_reducible refine (spec_HullAt so n cap T X Y t len _ (RowAt.later bwz h) hn).mono ?_); rintro e w9 ⟨rfl, hb⟩; rw [Hd.out]; obtain ⟨hc, hf⟩ := bcell hb; have hz := hb.size; (try simp at hz); have z0 : w.heap.size < w9.heap.size := (by first | omega | (simp at hz; omega)); have z1 : w.heap.size + 1 < w9.heap.size := (by first | omega | (simp at hz; omega)); have z2 : w.heap.size + 1 + 1 < w9.heap.size := (by first | omega | (simp at hz; omega))))
    simp [bodyPost, results, Try.results18, go_sem, *]
    first | (simp [sel, Ho.out, Hc.out, Hb.out]; done) | exact ⟨by simp [sel, Ho.out, Hc.out, Hb.out], bwz⟩
  · have Hb := hide (show boB wx wy n T X Y t len sp = tuB wx wy n T X Y t sp by simp [boB, selB, ho])
    have Hk := hide (show huOk n T X Y t len = true from by
      rcases huC_cases n T X Y t len with k | k
      · exact absurd k2 k.1
      · exact k.2)
    have Ht := hide k1
    have Hd := hide k2
    have Hc := hide hcc
    have Ho := hide ho
    clear k1 k2 hcc ho
    go_enter Try.func18, Try.ntmps18
    go_wp2_with (first | (go_at_call 31; (with_reducible refine (spec_TurningAt wx wy so n cap T X Y t sp _ (RowAt.later bwz h) hn).mono ?_); rintro e w9 ⟨rfl, hb⟩; rw [Ht.out]; obtain ⟨hc, hf⟩ := bcell hb; have hz := hb.size; (try simp at hz); have z0 : w.heap.size < w9.heap.size := (by first | omega | (simp at hz; omega)); have z1 : w.heap.size + 1 < w9.heap.size := (by first | omega | (simp at hz; omega)); have z2 : w.heap.size + 1 + 1 < w9.heap.size := (by first | omega | (simp at hz; omega))) | (go_at_call 32; (with_reducible refine (spec_HullAt so n cap T X Y t len _ (RowAt.later bwz h) hn).mono ?_); rintro e w9 ⟨rfl, hb⟩; rw [Hd.out]; obtain ⟨hc, hf⟩ := bcell hb; have hz := hb.size; (try simp at hz); have z0 : w.heap.size < w9.heap.size := (by first | omega | (simp at hz; omega)); have z1 : w.heap.size + 1 < w9.heap.size := (by first | omega | (simp at hz; omega)); have z2 : w.heap.size + 1 + 1 < w9.heap.size := (by first | omega | (simp at hz; omega))))
    simp [bodyPost, results, Try.results18, go_sem, *]
    first | (simp [sel, Ho.out, Hc.out, Hb.out, Hk.out]; done) | exact ⟨by simp [sel, Ho.out, Hc.out, Hb.out, Hk.out], bwz⟩
theorem spec_BoatAt_ok (wx wy : Int) (so : Option Addr) (n cap : Nat) (T X Y : Nat → Int) (t len sp : Int) (w : World) (h : RowAt w so n 3 (v3 T X Y)) (hn : n ≤ 1048576) (hk : boOk wx wy n T X Y t len sp = true) (hc : boC wx wy n T X Y t len sp = 0) :
    Calls Try.prog 18 #[.agg #[.int .i64 wx, .int .i64 wy], .agg #[.slice so n cap], .int .i64 t, .int .i64 len, .int .i64 sp] w fun e w' => e = .returned (.tuple #[.agg #[.int .i64 (posX n T X t), .int .i64 (posX n T Y t), .int .i64 (wayX n T X t), .int .i64 (wayX n T Y t), .int .i64 len, .bool (boB wx wy n T X Y t len sp)], .int .i64 0]) ∧ Below w.heap.size w w' :=
  (spec_BoatAt wx wy so n cap T X Y t len sp w h hn).mono fun e w' ⟨h1, h2⟩ => ⟨by rw [h1, hk, hc]; simp [sel], h2⟩
theorem spec_BoatAt_no (wx wy : Int) (so : Option Addr) (n cap : Nat) (T X Y : Nat → Int) (t len sp : Int) (w : World) (h : RowAt w so n 3 (v3 T X Y)) (hn : n ≤ 1048576) (hk : boOk wx wy n T X Y t len sp = false) (c : Int) (hc : boC wx wy n T X Y t len sp = c) :
    Calls Try.prog 18 #[.agg #[.int .i64 wx, .int .i64 wy], .agg #[.slice so n cap], .int .i64 t, .int .i64 len, .int .i64 sp] w fun e w' => e = .returned (.tuple #[.agg #[.int .i64 0, .int .i64 0, .int .i64 0, .int .i64 0, .int .i64 0, .bool false], .int .i64 c]) ∧ Below w.heap.size w w' :=
  (spec_BoatAt wx wy so n cap T X Y t len sp w h hn).mono fun e w' ⟨h1, h2⟩ => ⟨by rw [h1, hk, hc, boB, hk]; simp [sel, selB], h2⟩
end Go.Proofs.Ytndlpoffpcpnkaa
