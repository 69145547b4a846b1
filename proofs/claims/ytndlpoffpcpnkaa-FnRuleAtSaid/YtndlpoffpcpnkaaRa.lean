/- Walks: the ruling at a time, of both. -/
import Derived.Test.YtndlpoffpcpnkaaBt
import Derived.Test.YtndlpoffpcpnkaaM
namespace Go.Proofs.Ytndlpoffpcpnkaa
open Go.RowKit

theorem bo_two (wx wy : Int) (n : Nat) (T X Y : Nat → Int) (t len sp : Int) : (boOk wx wy n T X Y t len sp = false ∧ ¬ boC wx wy n T X Y t len sp = 0) ∨ (boOk wx wy n T X Y t len sp = true ∧ boC wx wy n T X Y t len sp = 0) := by
  rcases bo_cases wx wy n T X Y t len sp with ⟨k1, ho, hc⟩ | ⟨k1, k2, ho, hc⟩ | ⟨k1, k2, ho, hc⟩
  · left; exact ⟨ho, by rw [hc]; exact k1⟩
  · left; exact ⟨ho, by rw [hc]; exact k2⟩
  · right; exact ⟨ho, hc⟩
def ruOk (wx wy : Int) (n : Nat) (T X Y : Nat → Int) (n2 : Nat) (U V Z : Nat → Int) (t len sp : Int) : Bool := boOk wx wy n T X Y t len sp && boOk wx wy n2 U V Z t len sp
def ruC (wx wy : Int) (n : Nat) (T X Y : Nat → Int) (n2 : Nat) (U V Z : Nat → Int) (t len sp : Int) : Int := if boOk wx wy n T X Y t len sp then boC wx wy n2 U V Z t len sp else boC wx wy n T X Y t len sp
def ruI (wx wy : Int) (n : Nat) (T X Y : Nat → Int) (n2 : Nat) (U V Z : Nat → Int) (t len sp : Int) : Int × Int :=
  rulI wx wy (posX n T X t) (posX n T Y t) (wayX n T X t) (wayX n T Y t) len (boB wx wy n T X Y t len sp) (posX n2 U V t) (posX n2 U Z t) (wayX n2 U V t) (wayX n2 U Z t) len (boB wx wy n2 U V Z t len sp)
set_option maxRecDepth 100000 in
set_option maxHeartbeats 4000000 in
theorem impl_RuleAt (wx wy : Int) (so : Option Addr) (n cap : Nat) (T X Y : Nat → Int) (so2 : Option Addr) (n2 cap2 : Nat) (U V Z : Nat → Int) (t len sp : Int) (w : World) (h : RowAt w so n 3 (v3 T X Y)) (hn : n ≤ 1048576) (h2 : RowAt w so2 n2 3 (v3 U V Z)) (hn2 : n2 ≤ 1048576) :
    Calls Try.prog 6 #[.agg #[.int .i64 wx, .int .i64 wy], .agg #[.slice so n cap], .agg #[.slice so2 n2 cap2], .int .i64 t, .int .i64 len, .int .i64 sp] w fun e w' => e = .returned (.tuple #[.agg #[.int .i64 (sel (ruOk wx wy n T X Y n2 U V Z t len sp) (ruI wx wy n T X Y n2 U V Z t len sp).1 0), .int .i64 (sel (ruOk wx wy n T X Y n2 U V Z t len sp) (ruI wx wy n T X Y n2 U V Z t len sp).2 0)], .int .i64 (ruC wx wy n T X Y n2 U V Z t len sp)]) ∧ Below w.heap.size w w' := by
  rcases bo_two wx wy n T X Y t len sp with ⟨k1, c1⟩ | ⟨k1, c1⟩
  · obtain ⟨c, hc⟩ : ∃ c, boC wx wy n T X Y t len sp = c := ⟨_, rfl⟩
    have Ho := hide (show ruOk wx wy n T X Y n2 U V Z t len sp = false by simp [ruOk, k1])
    have Hc := hide (show ruC wx wy n T X Y n2 U V Z t len sp = c by rw [ruC, k1]; exact hc)
    have HA := hide (fun W hb => impl_BoatAt_no wx wy so n cap T X Y t len sp W (RowAt.later hb h) hn k1 c hc)
    rw [hc] at c1
    have k3 : (c == 0) = false := beq_eq_false_iff_ne.2 c1
    clear hc k1 h h2
    go_enter Try.func6, Try.ntmps6
    go_wp2_with (go_at_call 8; (with_reducible refine (HA.out _ bwz).mono ?_); rintro e w9 ⟨rfl, hb⟩; obtain ⟨hc, hf⟩ := bcell hb; have hz := hb.size; (try simp at hz); (try have zq := Nat.lt_of_succ_le hz); have z0 : w.heap.size < w9.heap.size := (by first | omega | (simp at hz; omega)); have z1 : w.heap.size + 1 < w9.heap.size := (by first | omega | (simp at hz; omega)); have z2 : w.heap.size + 1 + 1 < w9.heap.size := (by first | omega | (simp at hz; omega)); have z3 : w.heap.size + 1 + 1 + 1 < w9.heap.size := (by first | omega | (simp at hz; omega)))
    simp [bodyPost, results, Try.results6, go_sem, *]
    first | (simp [sel, Ho.out, Hc.out]; done) | exact ⟨by simp [sel, Ho.out, Hc.out], bwz⟩
  have HA := hide (fun W hb => impl_BoatAt_ok wx wy so n cap T X Y t len sp W (RowAt.later hb h) hn k1 c1)
  rcases bo_two wx wy n2 U V Z t len sp with ⟨k2, c2⟩ | ⟨k2, c2⟩
  · obtain ⟨c, hc⟩ : ∃ c, boC wx wy n2 U V Z t len sp = c := ⟨_, rfl⟩
    have Ho := hide (show ruOk wx wy n T X Y n2 U V Z t len sp = false by simp [ruOk, k2])
    have Hc := hide (show ruC wx wy n T X Y n2 U V Z t len sp = c by rw [ruC, k1]; exact hc)
    have HB := hide (fun W hb => impl_BoatAt_no wx wy so2 n2 cap2 U V Z t len sp W (RowAt.later hb h2) hn2 k2 c hc)
    rw [hc] at c2
    have k3 : (c == 0) = false := beq_eq_false_iff_ne.2 c2
    clear hc k1 k2 h h2 c1
    go_enter Try.func6, Try.ntmps6
    go_wp2_with (first | (go_at_call 8; (with_reducible refine (HA.out _ bwz).mono ?_); rintro e w9 ⟨rfl, hb⟩; obtain ⟨hc, hf⟩ := bcell hb; have hz := hb.size; (try simp at hz); (try have zq := Nat.lt_of_succ_le hz); have z0 : w.heap.size < w9.heap.size := (by first | omega | (simp at hz; omega)); have z1 : w.heap.size + 1 < w9.heap.size := (by first | omega | (simp at hz; omega)); have z2 : w.heap.size + 1 + 1 < w9.heap.size := (by first | omega | (simp at hz; omega)); have z3 : w.heap.size + 1 + 1 + 1 < w9.heap.size := (by first | omega | (simp at hz; omega))) | (go_at_call 8; (with_reducible refine (HB.out _ bwz).mono ?_); rintro e w9 ⟨rfl, hb⟩; obtain ⟨hc, hf⟩ := bcell hb; have hz := hb.size; (try simp at hz); (try have zq := Nat.lt_of_succ_le hz); have z0 : w.heap.size < w9.heap.size := (by first | omega | (simp at hz; omega)); have z1 : w.heap.size + 1 < w9.heap.size := (by first | omega | (simp at hz; omega)); have z2 : w.heap.size + 1 + 1 < w9.heap.size := (by first | omega | (simp at hz; omega)); have z3 : w.heap.size + 1 + 1 + 1 < w9.heap.size := (by first | omega | (simp at hz; omega))))
    simp [bodyPost, results, Try.results6, go_sem, *]
    first | (simp [sel, Ho.out, Hc.out]; done) | exact ⟨by simp [sel, Ho.out, Hc.out], bwz⟩
  · have Ho := hide (show ruOk wx wy n T X Y n2 U V Z t len sp = true by simp [ruOk, k1, k2])
    have Hc := hide (show ruC wx wy n T X Y n2 U V Z t len sp = 0 by rw [ruC, k1]; exact c2)
    have HB := hide (fun W hb => impl_BoatAt_ok wx wy so2 n2 cap2 U V Z t len sp W (RowAt.later hb h2) hn2 k2 c2)
    have HR := hide (fun W => impl_rule wx wy _ _ _ _ _ (boB wx wy n T X Y t len sp) _ _ _ _ _ (boB wx wy n2 U V Z t len sp) (bo_hull k1).1 (bo_hull k1).2 (bo_hull k2).2 W)
    have Hi := hide (show ruI wx wy n T X Y n2 U V Z t len sp = rulI wx wy (posX n T X t) (posX n T Y t) (wayX n T X t) (wayX n T Y t) len (boB wx wy n T X Y t len sp) (posX n2 U V t) (posX n2 U Z t) (wayX n2 U V t) (wayX n2 U Z t) len (boB wx wy n2 U V Z t len sp) from rfl)
    clear k1 k2 h h2 c1 c2
    go_enter Try.func6, Try.ntmps6
    go_wp2_with (first | (go_at_call 8; (with_reducible refine (HA.out _ bwz).mono ?_); rintro e w9 ⟨rfl, hb⟩; obtain ⟨hc, hf⟩ := bcell hb; have hz := hb.size; (try simp at hz); (try have zq := Nat.lt_of_succ_le hz); have z0 : w.heap.size < w9.heap.size := (by first | omega | (simp at hz; omega)); have z1 : w.heap.size + 1 < w9.heap.size := (by first | omega | (simp at hz; omega)); have z2 : w.heap.size + 1 + 1 < w9.heap.size := (by first | omega | (simp at hz; omega)); have z3 : w.heap.size + 1 + 1 + 1 < w9.heap.size := (by first | omega | (simp at hz; omega))) | (go_at_call 8; (with_reducible refine (HB.out _ bwz).mono ?_); rintro e w9 ⟨rfl, hb⟩; obtain ⟨hc, hf⟩ := bcell hb; have hz := hb.size; (try simp at hz); (try have zq := Nat.lt_of_succ_le hz); have z0 : w.heap.size < w9.heap.size := (by first | omega | (simp at hz; omega)); have z1 : w.heap.size + 1 < w9.heap.size := (by first | omega | (simp at hz; omega)); have z2 : w.heap.size + 1 + 1 < w9.heap.size := (by first | omega | (simp at hz; omega)); have z3 : w.heap.size + 1 + 1 + 1 < w9.heap.size := (by first | omega | (simp at hz; omega))) | (go_at_call 17; (with_reducible refine (HR.out _).mono ?_); rintro e w9 ⟨rfl, hb⟩; obtain ⟨hc, hf⟩ := bcell hb; have hz := hb.size; (try simp at hz); have z0 : w.heap.size < w9.heap.size := (by first | omega | (simp at hz; omega)); have z1 : w.heap.size + 1 < w9.heap.size := (by first | omega | (simp at hz; omega)); have z2 : w.heap.size + 1 + 1 < w9.heap.size := (by first | omega | (simp at hz; omega)); have z3 : w.heap.size + 1 + 1 + 1 < w9.heap.size := (by first | omega | (simp at hz; omega))))
    simp [bodyPost, results, Try.results6, go_sem, *]
    first | (simp [sel, Ho.out, Hc.out, Hi.out]; done) | exact ⟨by simp [sel, Ho.out, Hc.out, Hi.out], bwz⟩
set_option maxRecDepth 100000 in
set_option maxHeartbeats 4000000 in
theorem spec_RuleAt (wx wy : Int) (so : Option Addr) (n cap : Nat) (T X Y : Nat → Int) (so2 : Option Addr) (n2 cap2 : Nat) (U V Z : Nat → Int) (t len sp : Int) (w : World) (h : RowAt w so n 3 (v3 T X Y)) (hn : n ≤ 1048576) (h2 : RowAt w so2 n2 3 (v3 U V Z)) (hn2 : n2 ≤ 1048576) :
    Calls Try.prog 7 #[.agg #[.int .i64 wx, .int .i64 wy], .agg #[.slice so n cap], .agg #[.slice so2 n2 cap2], .int .i64 t, .int .i64 len, .int .i64 sp] w fun e w' => e = .returned (.tuple #[.agg #[.int .i64 (sel (ruOk wx wy n T X Y n2 U V Z t len sp) (ruI wx wy n T X Y n2 U V Z t len sp).1 0), .int .i64 (sel (ruOk wx wy n T X Y n2 U V Z t len sp) (ruI wx wy n T X Y n2 U V Z t len sp).2 0)], .int .i64 (ruC wx wy n T X Y n2 U V Z t len sp)]) ∧ Below w.heap.size w w' := by
  rcases bo_two wx wy n T X Y t len sp with ⟨k1, c1⟩ | ⟨k1, c1⟩
  · obtain ⟨c, hc⟩ : ∃ c, boC wx wy n T X Y t len sp = c := ⟨_, rfl⟩
    have Ho := hide (show ruOk wx wy n T X Y n2 U V Z t len sp = false by simp [ruOk, k1])
    have Hc := hide (show ruC wx wy n T X Y n2 U V Z t len sp = c by rw [ruC, k1]; exact hc)
    have HA := hide (fun W hb => spec_BoatAt_no wx wy so n cap T X Y t len sp W (RowAt.later hb h) hn k1 c hc)
    rw [hc] at c1
    have k3 : (c == 0) = false := beq_eq_false_iff_ne.2 c1
    clear hc k1 h h2
    go_enter Try.func7, Try.ntmps7
    go_wp2_with (go_at_call 18; (with_reducible refine (HA.out _ bwz).mono ?_); rintro e w9 ⟨rfl, hb⟩; obtain ⟨hc, hf⟩ := bcell hb; have hz := hb.size; (try simp at hz); (try have zq := Nat.lt_of_succ_le hz); have z0 : w.heap.size < w9.heap.size := (by first | omega | (simp at hz; omega)); have z1 : w.heap.size + 1 < w9.heap.size := (by first | omega | (simp at hz; omega)); have z2 : w.heap.size + 1 + 1 < w9.heap.size := (by first | omega | (simp at hz; omega)); have z3 : w.heap.size + 1 + 1 + 1 < w9.heap.size := (by first | omega | (simp at hz; omega)))
    simp [bodyPost, results, Try.results7, go_sem, *]
    first | (simp [sel, Ho.out, Hc.out]; done) | exact ⟨by simp [sel, Ho.out, Hc.out], bwz⟩
  have HA := hide (fun W hb => spec_BoatAt_ok wx wy so n cap T X Y t len sp W (RowAt.later hb h) hn k1 c1)
  rcases bo_two wx wy n2 U V Z t len sp with ⟨k2, c2⟩ | ⟨k2, c2⟩
  · obtain ⟨c, hc⟩ : ∃ c, boC wx wy n2 U V Z t len sp = c := ⟨_, rfl⟩
    have Ho := hide (show ruOk wx wy n T X Y n2 U V Z t len sp = false by simp [ruOk, k2])
    have Hc := hide (show ruC wx wy n T X Y n2 U V Z t len sp = c by rw [ruC, k1]; exact hc)
    have HB := hide (fun W hb => spec_BoatAt_no wx wy so2 n2 cap2 U V Z t len sp W (RowAt.later hb h2) hn2 k2 c hc)
    rw [hc] at c2
    have k3 : (c == 0) = false := beq_eq_false_iff_ne.2 c2
    clear hc k1 k2 h h2 c1
    go_enter Try.func7, Try.ntmps7
    go_wp2_with (first | (go_at_call 18; (with_reducible refine (HA.out _ bwz).mono ?_); rintro e w9 ⟨rfl, hb⟩; obtain ⟨hc, hf⟩ := bcell hb; have hz := hb.size; (try simp at hz); (try have zq := Nat.lt_of_succ_le hz); have z0 : w.heap.size < w9.heap.size := (by first | omega | (simp at hz; omega)); have z1 : w.heap.size + 1 < w9.heap.size := (by first | omega | (simp at hz; omega)); have z2 : w.heap.size + 1 + 1 < w9.heap.size := (by first | omega | (simp at hz; omega)); have z3 : w.heap.size + 1 + 1 + 1 < w9.heap.size := (by first | omega | (simp at hz; omega))) | (go_at_call 18; (with_reducible refine (HB.out _ bwz).mono ?_); rintro e w9 ⟨rfl, hb⟩; obtain ⟨hc, hf⟩ := bcell hb; have hz := hb.size; (try simp at hz); (try have zq := Nat.lt_of_succ_le hz); have z0 : w.heap.size < w9.heap.size := (by first | omega | (simp at hz; omega)); have z1 : w.heap.size + 1 < w9.heap.size := (by first | omega | (simp at hz; omega)); have z2 : w.heap.size + 1 + 1 < w9.heap.size := (by first | omega | (simp at hz; omega)); have z3 : w.heap.size + 1 + 1 + 1 < w9.heap.size := (by first | omega | (simp at hz; omega))))
    simp [bodyPost, results, Try.results7, go_sem, *]
    first | (simp [sel, Ho.out, Hc.out]; done) | exact ⟨by simp [sel, Ho.out, Hc.out], bwz⟩
  · have Ho := hide (show ruOk wx wy n T X Y n2 U V Z t len sp = true by simp [ruOk, k1, k2])
    have Hc := hide (show ruC wx wy n T X Y n2 U V Z t len sp = 0 by rw [ruC, k1]; exact c2)
    have HB := hide (fun W hb => spec_BoatAt_ok wx wy so2 n2 cap2 U V Z t len sp W (RowAt.later hb h2) hn2 k2 c2)
    have HR := hide (fun W => spec_l10Rule wx wy _ _ _ _ _ (boB wx wy n T X Y t len sp) _ _ _ _ _ (boB wx wy n2 U V Z t len sp) (bo_hull k1).1 (bo_hull k1).2 (bo_hull k2).2 W)
    have Hi := hide (show ruI wx wy n T X Y n2 U V Z t len sp = rulI wx wy (posX n T X t) (posX n T Y t) (wayX n T X t) (wayX n T Y t) len (boB wx wy n T X Y t len sp) (posX n2 U V t) (posX n2 U Z t) (wayX n2 U V t) (wayX n2 U Z t) len (boB wx wy n2 U V Z t len sp) from rfl)
    clear k1 k2 h h2 c1 c2
    go_enter Try.func7, Try.ntmps7
    go_wp2_with (first | (go_at_call 18; (with_reducible refine (HA.out _ bwz).mono ?_); rintro e w9 ⟨rfl, hb⟩; obtain ⟨hc, hf⟩ := bcell hb; have hz := hb.size; (try simp at hz); (try have zq := Nat.lt_of_succ_le hz); have z0 : w.heap.size < w9.heap.size := (by first | omega | (simp at hz; omega)); have z1 : w.heap.size + 1 < w9.heap.size := (by first | omega | (simp at hz; omega)); have z2 : w.heap.size + 1 + 1 < w9.heap.size := (by first | omega | (simp at hz; omega)); have z3 : w.heap.size + 1 + 1 + 1 < w9.heap.size := (by first | omega | (simp at hz; omega))) | (go_at_call 18; (with_reducible refine (HB.out _ bwz).mono ?_); rintro e w9 ⟨rfl, hb⟩; obtain ⟨hc, hf⟩ := bcell hb; have hz := hb.size; (try simp at hz); (try have zq := Nat.lt_of_succ_le hz); have z0 : w.heap.size < w9.heap.size := (by first | omega | (simp at hz; omega)); have z1 : w.heap.size + 1 < w9.heap.size := (by first | omega | (simp at hz; omega)); have z2 : w.heap.size + 1 + 1 < w9.heap.size := (by first | omega | (simp at hz; omega)); have z3 : w.heap.size + 1 + 1 + 1 < w9.heap.size := (by first | omega | (simp at hz; omega))) | (go_at_call 19; (with_reducible refine (HR.out _).mono ?_); rintro e w9 ⟨rfl, hb⟩; obtain ⟨hc, hf⟩ := bcell hb; have hz := hb.size; (try simp at hz); have z0 : w.heap.size < w9.heap.size := (by first | omega | (simp at hz; omega)); have z1 : w.heap.size + 1 < w9.heap.size := (by first | omega | (simp at hz; omega)); have z2 : w.heap.size + 1 + 1 < w9.heap.size := (by first | omega | (simp at hz; omega)); have z3 : w.heap.size + 1 + 1 + 1 < w9.heap.size := (by first | omega | (simp at hz; omega))))
    simp [bodyPost, results, Try.results7, go_sem, *]
    first | (simp [sel, Ho.out, Hc.out, Hi.out]; done) | exact ⟨by simp [sel, Ho.out, Hc.out, Hi.out], bwz⟩
end Go.Proofs.Ytndlpoffpcpnkaa
