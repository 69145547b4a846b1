/- Walks: the manoeuvres of a track, the program's. -/
import Derived.Test.YtndlpoffpcpnkaaBs
import Derived.Test.YtndlpoffpcpnkaaTc
import Derived.Test.YtndlpoffpcpnkaaH
import Derived.Test.YtndlpoffpcpnkaaD
import Derived.Test.YtndlpoffpcpnkaaC
import Derived.Test.YtndlpoffpcpnkaaMk
import Derived.Deep.DeepCutAuto
import Derived.Test.YtndlpoffpcpnkaaIv
namespace Go.Proofs.Ytndlpoffpcpnkaa
open Go.RowKit

theorem leg_wd {wx wy : Int} {n l : Nat} {T X Y : Nat → Int} (hw : isWd wx wy = true) (hv : isTr n T X Y = true) (hl : l + 1 < n) :
    Bd ((X (l + 1) - X l) * wx) ∧ Bd ((X (l + 1) - X l) * wy) ∧ Bd ((Y (l + 1) - Y l) * wx) ∧ Bd ((Y (l + 1) - Y l) * wy) := by
  obtain ⟨a1, a2, a3, a4, _⟩ := isWd_t hw
  obtain ⟨_, _, _, p0, p1⟩ := isTr_leg hv hl
  obtain ⟨x1, x2, x3, x4⟩ := isPt_t p0
  obtain ⟨y1, y2, y3, y4⟩ := isPt_t p1
  exact ⟨bd_mul 2000000 1000 2000000000 (by omega) (by omega) a1 a2 (by decide) (by decide), bd_mul 2000000 1000 2000000000 (by omega) (by omega) a3 a4 (by decide) (by decide), bd_mul 2000000 1000 2000000000 (by omega) (by omega) a1 a2 (by decide) (by decide), bd_mul 2000000 1000 2000000000 (by omega) (by omega) a3 a4 (by decide) (by decide)⟩
theorem tackI_zero (wx wy : Int) : tackI wx wy 0 0 = 0 := by simp [tackI]
theorem leg_hd {wx wy : Int} {n l : Nat} {T X Y : Nat → Int} (hv : isTr n T X Y = true) (hl : l + 1 < n) (ht : (tackI wx wy (X (l + 1) - X l) (Y (l + 1) - Y l) == 0) = false) : isHd (X (l + 1) - X l) (Y (l + 1) - Y l) = true := by
  obtain ⟨_, _, _, p0, p1⟩ := isTr_leg hv hl
  obtain ⟨x1, x2, x3, x4⟩ := isPt_t p0
  obtain ⟨y1, y2, y3, y4⟩ := isPt_t p1
  by_cases h : X (l + 1) - X l = 0 ∧ Y (l + 1) - Y l = 0
  · rw [h.1, h.2, tackI_zero] at ht; exact absurd ht (by decide)
  · simp [isHd, inB]; omega
theorem al_bd {wx wy x y : Int} (hw : isWd wx wy = true) (hh : isHd x y = true) :
    (-9000000000000000000 ≤ x * wx + y * wy ∧ x * wx + y * wy ≤ 9000000000000000000) ∧ (-4000000000 ≤ (x * wx + y * wy) / rt (x * x + y * y) ∧ (x * wx + y * wy) / rt (x * x + y * y) ≤ 4000000000) := by
  obtain ⟨a1, a2, a3, a4, _⟩ := isWd_t hw
  obtain ⟨b1, b2, b3, b4, _⟩ := isHd_t hh
  have h1 := mul_bd' 2000000 1000 2000000000 b1 b2 a1 a2 (by decide)
  have h2 := mul_bd' 2000000 1000 2000000000 b3 b4 a3 a4 (by decide)
  exact ⟨⟨by omega, by omega⟩, ediv_bd (rt_hd hh).1 (by omega) (by omega) (by omega)⟩
theorem mn_cases (wx wy : Int) (X Y : Nat → Int) (k q : Nat) (hq : q = k + 1) (x y u v : Int) (h1 : X (k + 1) - X k = x) (h2 : Y (k + 1) - Y k = y) (h3 : X (q + 1) - X q = u) (h4 : Y (q + 1) - Y q = v) :
    ((tackI wx wy x y == 0) = true ∧ Hid (isMn wx wy X Y k = false)) ∨ ((tackI wx wy x y == 0) = false ∧ (tackI wx wy u v == 0) = true ∧ Hid (isMn wx wy X Y k = false)) ∨
    ((tackI wx wy x y == 0) = false ∧ (tackI wx wy u v == 0) = false ∧ (tackI wx wy x y == tackI wx wy u v) = true ∧ Hid (isMn wx wy X Y k = false)) ∨
    ((tackI wx wy x y == 0) = false ∧ (tackI wx wy u v == 0) = false ∧ (tackI wx wy x y == tackI wx wy u v) = false ∧ Hid (isMn wx wy X Y k = true)) := by
  subst hq h1 h2 h3 h4
  have e : isMn wx wy X Y k = (!(tackI wx wy (X (k + 1) - X k) (Y (k + 1) - Y k) == 0) && !(tackI wx wy (X (k + 1 + 1) - X (k + 1)) (Y (k + 1 + 1) - Y (k + 1)) == 0) && !(tackI wx wy (X (k + 1) - X k) (Y (k + 1) - Y k) == tackI wx wy (X (k + 1 + 1) - X (k + 1)) (Y (k + 1 + 1) - Y (k + 1)))) := rfl
  rw [e]
  generalize tackI wx wy (X (k + 1) - X k) (Y (k + 1) - Y k) = s
  generalize tackI wx wy (X (k + 1 + 1) - X (k + 1)) (Y (k + 1 + 1) - Y (k + 1)) = t
  rcases b2 (s == 0) with g1 | g1 <;> rcases b2 (t == 0) with g2 | g2 <;> rcases b2 (s == t) with g3 | g3 <;> rw [g1, g2, g3] <;> simp [Hid]
theorem kn_is (wx wy : Int) (X Y : Nat → Int) (k q : Nat) (hq : q = k + 1) (x y u v : Int) (h1 : X (k + 1) - X k = x) (h2 : Y (k + 1) - Y k = y) (h3 : X (q + 1) - X q = u) (h4 : Y (q + 1) - Y q = v) :
    knd wx wy X Y k = if (x * wx + y * wy) / rt (x * x + y * y) + (u * wx + v * wy) / rt (u * u + v * v) < 0 then 1 else 2 := by
  subst hq h1 h2 h3 h4
  rfl
theorem own_app {w : World} {B : Nat} {e : TypeId} {v : Value} {wx wy : Int} {X Y : Nat → Int} {k q : Nat} {c : Int} (hq : q = k + 1) (hm : isMn wx wy X Y k = true) (hc : knd wx wy X Y k = c)
    (h : w.ownsRow B e 2 v ((mans wx wy X Y k).length + 1) (mcells (mans wx wy X Y k) ++ [.int .i64 q, .int .i64 c])) : w.ownsRow B e 2 v (mans wx wy X Y (k + 1)).length (mcells (mans wx wy X Y (k + 1))) := by
  subst hq hc
  rw [mans_yes hm, mcells_app, List.length_append]
  exact h
theorem infoMan : (Try.prog.info? 87).map (fun i => (i.zero, i.size, i.bytes)) = some (some (.agg #[.int .i64 0, .int .i64 0]), 2, 16) := by kernel_rfl
set_option maxRecDepth 100000 in
set_option maxHeartbeats 4000000 in
theorem impl_manoeuvresOf (wx wy : Int) (b o n cap : Nat) (T X Y : Nat → Int) (w : World) (h : RowAt w (some ⟨b, o, none⟩) n 3 (v3 T X Y)) (hw : isWd wx wy = true) (hv : isTr n T X Y = true) :
    Calls Try.prog 63 #[.agg #[.int .i64 wx, .int .i64 wy], .agg #[.slice (some ⟨b, o, none⟩) n cap]] w fun e w' => ∃ so cp, e = .returned (.slice so (mans wx wy X Y (n - 2)).length cp) ∧ OwnL w' w.heap.size (mans wx wy X Y (n - 2)) so ∧ Below w.heap.size w w' := by
  obtain ⟨i0, hi, hz0, hz1, hz2⟩ := info_parts infoMan
  have Hi := hide hi
  have Hz := hide (And.intro hz0 (And.intro hz1 hz2))
  clear hi hz0 hz1 hz2
  obtain ⟨hn2, hn40, _⟩ := isTr_t hv
  go_enter Try.func63, Try.ntmps63
  go_wp2
  go_loopw [5, 6] (fun v i wr => ∃ k q : Nat, k + 2 ≤ n ∧ q ≤ k + 1 ∧ k + 1 ≤ q ∧ i = .int .i64 q ∧ Hid (wr.ownsRow (w.heap.size + 2) 87 2 v (mans wx wy X Y k).length (mcells (mans wx wy X Y k))) ∧ wr.cell? ⟨w.heap.size, 0, none⟩ = some (.int .i64 wx) ∧ wr.cell? ⟨w.heap.size, 1, none⟩ = some (.int .i64 wy) ∧ wr.cell? ⟨w.heap.size + 1, 0, none⟩ = some (.slice (some ⟨b, o, none⟩) n cap) ∧ Below w.heap.size w wr ∧ w.heap.size + 2 ≤ wr.heap.size) (fun _ i _ => n - (intOf i).toNat)
  case atStart =>
    refine ⟨0, 1, by omega, by omega, by omega, rfl, hide ?_, by go_simp, by go_simp, by go_simp, bwz, by simp⟩
    have hm := World.ownsRow_made (base := w.heap.size + 2) (e := 87) (size := 2) ((w.alloc (Obj.cells #[Value.int IntKind.i64 wx, Value.int IntKind.i64 wy] 25)).alloc (Obj.cells #[Value.slice (some ⟨b, o, none⟩) n cap] 28)) #[] 0 (by simp) (by decide) rfl
    simp only [size_al] at hm
    exact hm
  case round =>
    obtain ⟨k, q, hk, hq1, hq2, rfl, Hown, e0, e1, e2, hbl, hsz⟩ := hrel
    by_cases hlt : q + 1 < n
    · have Hq := hide (show q = k + 1 by omega)
      have hj1 : (0 : Int) ≤ (k : Int) := by omega
      have we : IntKind.i64.wrap ((q : Int) - 1) = (k : Int) := by rw [show (q : Int) - 1 = (k : Int) by omega]; exact IntWalk.i64_in _ (by omega)
      have zr0 : w.heap.size < wr.heap.size := by omega
      have zr1 : w.heap.size + 1 < wr.heap.size := by omega
      have hr := hide (RowAt.later hbl h)
      obtain ⟨b1, b2, b3, b4⟩ := leg_wd hw hv (show k + 1 < n by omega)
      obtain ⟨c1, c2, c3, c4⟩ := leg_wd hw hv (show q + 1 < n by omega)
      have hh1 := fun e => leg_hd (wx := wx) (wy := wy) hv (show k + 1 < n by omega) e
      have hh2 := fun e => leg_hd (wx := wx) (wy := wy) hv (show q + 1 < n by omega) e
      have Kk := hide (fun W hb => impl_wayOf b o n cap k T X Y W (RowAt.later hb hr.out) hv (by omega))
      have Kq := hide (fun W hb => impl_wayOf b o n cap q T X Y W (RowAt.later hb hr.out) hv (by omega))
      have Hc := hide (mn_cases wx wy X Y k q Hq.out _ _ _ _ rfl rfl rfl rfl)
      have Hn := hide (kn_is wx wy X Y k q Hq.out _ _ _ _ rfl rfl rfl rfl)
      generalize X (k + 1) - X k = x at *
      generalize Y (k + 1) - Y k = y at *
      generalize X (q + 1) - X q = u at *
      generalize Y (q + 1) - Y q = v9 at *
      have Hh := hide (And.intro hh1 hh2)
      clear hh1 hh2
      go_upto_region 5 with fail
      go_cut [7, 8] (fun s7 s8 W => ∃ g h : Nat, s7 = .pointer (some ⟨g, 0, none⟩) ∧ s8 = .pointer (some ⟨h, 0, none⟩) ∧ W.cell? ⟨g, 0, none⟩ = some (.int .i64 x) ∧ W.cell? ⟨g, 1, none⟩ = some (.int .i64 y) ∧ W.cell? ⟨h, 0, none⟩ = some (.int .i64 u) ∧ W.cell? ⟨h, 1, none⟩ = some (.int .i64 v9) ∧ Below wr.heap.size wr W)
      case first =>
        (try simp only [show decide ((q : Int) < (n : Int) - 1) = true from decide_eq_true (by omega)])
        refine wp_region_held_drew (S := fun W => Below wr.heap.size wr W) (by kernel_rfl) (Below.drew (by first | with_reducible exact Below.refl _ _ | with_reducible exact below_drewN (Below.refl _ _) _)) (fun hHeld => ?_)
        refine tkL 0 (some 21) rfl ?_; (try simp only [pz])
        refine tkN 1 (some 22) rfl ?_; (try simp only [pz])
        refine tkN 2 (some 23) rfl ?_; (try simp only [pz])
        refine tkL 4 (some 25) rfl ?_; (try simp only [pz])
        refine tkN 5 (some 26) rfl ?_; (try simp only [pz])
        refine wpAnyH_inv2 (fuel := 2) [3, 6, 7, 8] [] [24, 27, 7, 8] (fun uT L W => Below wr.heap.size wr W ∧ (L 3 → (uT 24) = (.agg #[.int .i64 x, .int .i64 y])) ∧ (L 6 → (uT 27) = (.agg #[.int .i64 u, .int .i64 v9])) ∧ (L 7 → FBoxB wr 2 (uT 7) W) ∧ (L 8 → FBoxB wr 2 (uT 8) W) ∧ (L 7 → L 8 → uT 7 ≠ uT 8) ∧ True) (by decide) (by kernel_rfl) (by kernel_rfl) (by intro _ _ _ _ _ h; exact h) (fun uT L W hJ => hJ.1) (fun uT L hL => ⟨hHeld, fun k => absurd k (hL 3 (by decide)), fun k => absurd k (hL 6 (by decide)), fun k => absurd k (hL 7 (by decide)), fun k => absurd k (hL 8 (by decide)), fun k _ => absurd k (hL 7 (by decide)), trivial⟩) ?_ ?_ ?_
        · refine StepsH.cons (d := 24) (o := ⟨some 24, _, _, _, _, _⟩) rfl rfl (by kernel_rfl) ?_ ?_
          rotate_left
          refine StepsH.cons (d := 27) (o := ⟨some 27, _, _, _, _, _⟩) rfl rfl (by kernel_rfl) ?_ ?_
          rotate_left
          refine StepsH.cons (d := 7) (o := ⟨some 7, _, _, _, _, _⟩) rfl rfl (by kernel_rfl) ?_ ?_
          rotate_left
          refine StepsH.cons (d := 8) (o := ⟨some 8, _, _, _, _, _⟩) rfl rfl (by kernel_rfl) ?_ ?_
          rotate_left
          exact StepsH.nil
          · intro uT L W hn hd hJ
            obtain ⟨hk, f24, f27, f7, f8, n7_8, _⟩ := hJ
            intro K hK
            simp only [puts, pz]
            go_simp; (first | (go_at_call 64; (with_reducible refine (Kk.out _ bwz).mono ?_); rintro e w9 ⟨rfl, hb⟩; have hzz := hb.size; (try simp at hzz); obtain ⟨hc, hf⟩ := bcell hb) | (go_at_call 64; (with_reducible refine (Kq.out _ bwz).mono ?_); rintro e w9 ⟨rfl, hb⟩; have hzz := hb.size; (try simp at hzz); obtain ⟨hc, hf⟩ := bcell hb))
            all_goals (try go_wp2_with fail)
            all_goals
              apply Shut.go4 (W := W) hK
              · simp only [puts, pz]; rfl
              · first | with_reducible assumption | with_reducible exact Below.refl _ _ | exact Below.alloc (Below.refl _ _) (Nat.le_refl _) _
              · intro hb; exact ⟨bstep hk hb, fun _ => upd_same _ _ _, fun k => by rw [upd_ne uT _ (by decide)]; exact (f27 (k.resolve_left (by decide))), fun k => by rw [upd_ne uT _ (by decide)]; exact FBoxB.later hb (f7 (k.resolve_left (by decide))), fun k => by rw [upd_ne uT _ (by decide)]; exact FBoxB.later hb (f8 (k.resolve_left (by decide))), fun k k2 => by rw [upd_ne uT _ (by decide), upd_ne uT _ (by decide)]; exact n7_8 (k.resolve_left (by decide)) (k2.resolve_left (by decide)), trivial⟩
          · intro uT L W hn hd hJ
            obtain ⟨hk, f24, f27, f7, f8, n7_8, _⟩ := hJ
            intro K hK
            simp only [puts, pz]
            go_simp; (first | (go_at_call 64; (with_reducible refine (Kk.out _ bwz).mono ?_); rintro e w9 ⟨rfl, hb⟩; have hzz := hb.size; (try simp at hzz); obtain ⟨hc, hf⟩ := bcell hb) | (go_at_call 64; (with_reducible refine (Kq.out _ bwz).mono ?_); rintro e w9 ⟨rfl, hb⟩; have hzz := hb.size; (try simp at hzz); obtain ⟨hc, hf⟩ := bcell hb))
            all_goals (try go_wp2_with fail)
            all_goals
              apply Shut.go4 (W := W) hK
              · simp only [puts, pz]; rfl
              · first | with_reducible assumption | with_reducible exact Below.refl _ _ | exact Below.alloc (Below.refl _ _) (Nat.le_refl _) _
              · intro hb; exact ⟨bstep hk hb, fun k => by rw [upd_ne uT _ (by decide)]; exact (f24 (k.resolve_left (by decide))), fun _ => upd_same _ _ _, fun k => by rw [upd_ne uT _ (by decide)]; exact FBoxB.later hb (f7 (k.resolve_left (by decide))), fun k => by rw [upd_ne uT _ (by decide)]; exact FBoxB.later hb (f8 (k.resolve_left (by decide))), fun k k2 => by rw [upd_ne uT _ (by decide), upd_ne uT _ (by decide)]; exact n7_8 (k.resolve_left (by decide)) (k2.resolve_left (by decide)), trivial⟩
          · intro uT L W hn hd hJ
            obtain ⟨hk, f24, f27, f7, f8, n7_8, _⟩ := hJ
            intro K hK
            simp only [puts, pz]
            go_simp
            all_goals (try go_wp2_with fail)
            all_goals
              apply Shut.go4 (W := W) hK
              · simp only [puts, pz]; rfl
              · first | with_reducible assumption | with_reducible exact Below.refl _ _ | exact Below.alloc (Below.refl _ _) (Nat.le_refl _) _
              · intro hb; exact ⟨bstep hk hb, fun k => by rw [upd_ne uT _ (by decide)]; exact (f24 (k.resolve_left (by decide))), fun k => by rw [upd_ne uT _ (by decide)]; exact (f27 (k.resolve_left (by decide))), fun _ => by rw [upd_same]; exact FBoxB.new (Below.size hk) _ _ (by rfl), fun k => by rw [upd_ne uT _ (by decide)]; exact FBoxB.later hb (f8 (k.resolve_left (by decide))), fun _ k => by rw [upd_same, upd_ne uT _ (by decide)]; exact FBoxB.ne_new (f8 (k.resolve_left (by decide))), trivial⟩
          · intro uT L W hn hd hJ
            obtain ⟨hk, f24, f27, f7, f8, n7_8, _⟩ := hJ
            intro K hK
            simp only [puts, pz]
            go_simp
            all_goals (try go_wp2_with fail)
            all_goals
              apply Shut.go4 (W := W) hK
              · simp only [puts, pz]; rfl
              · first | with_reducible assumption | with_reducible exact Below.refl _ _ | exact Below.alloc (Below.refl _ _) (Nat.le_refl _) _
              · intro hb; exact ⟨bstep hk hb, fun k => by rw [upd_ne uT _ (by decide)]; exact (f24 (k.resolve_left (by decide))), fun k => by rw [upd_ne uT _ (by decide)]; exact (f27 (k.resolve_left (by decide))), fun k => by rw [upd_ne uT _ (by decide)]; exact FBoxB.later hb (f7 (k.resolve_left (by decide))), fun _ => by rw [upd_same]; exact FBoxB.new (Below.size hk) _ _ (by rfl), fun k _ => by rw [upd_same, upd_ne uT _ (by decide)]; exact (FBoxB.ne_new (f7 (k.resolve_left (by decide)))).symm, trivial⟩
        · exact PuresH.nil
        · intro uT L W hJ hL
          obtain ⟨hk, f24, f27, f7, f8, n7_8, _⟩ := hJ
          obtain e24 := f24 (hL 3 (by kernel_rfl))
          obtain e27 := f27 (hL 6 (by kernel_rfl))
          obtain ⟨b7, e7, bb7, lb7, cb7⟩ := f7 (hL 7 (by kernel_rfl))
          obtain ⟨b8, e8, bb8, lb8, cb8⟩ := f8 (hL 8 (by kernel_rfl))
          have hne := n7_8 (hL 7 (by kernel_rfl)) (hL 8 (by kernel_rfl)); rw [e7, e8] at hne; simp at hne; have hne2 := Ne.symm hne
          clear hHeld; have hcW := (bcell hk).1; have hfW := (bcell hk).2; have lW := Below.size hk; have hHeld := hk
          clear f24
          clear f27
          clear f7
          clear f8
          clear n7_8
          simp only [puts, pz, setAll, Array.replicate, e24, e27, e7, e8]
          obtain ⟨⟨y7_0, cy7_0⟩, fy7_0⟩ := cb7 0 (by decide)
          obtain ⟨⟨y7_1, cy7_1⟩, fy7_1⟩ := cb7 1 (by decide)
          obtain ⟨⟨y8_0, cy8_0⟩, fy8_0⟩ := cb8 0 (by decide)
          obtain ⟨⟨y8_1, cy8_1⟩, fy8_1⟩ := cb8 1 (by decide)
          refine wpAnyH_ready (rs := [9]) (by kernel_rfl) (by simp) ?_; refine (AllReadyH.cons (o := ⟨none, _, _, _, _, _⟩) rfl (fun K hK => ?_) AllReadyH.nil)
          go_simp
          all_goals (try go_wp2_with fail)
          refine hK.out _ _ ?_ (fun hH2 => ?_)
          · exact bwz
          clear hK K hHeld; (have hHeld := hH2); clear hH2; (try simp only [Act.put])
          refine wpAnyH_ready (rs := [10]) (by kernel_rfl) (by simp) ?_; refine (AllReadyH.cons (o := ⟨none, _, _, _, _, _⟩) rfl (fun K hK => ?_) AllReadyH.nil)
          go_simp
          all_goals (try go_wp2_with fail)
          refine hK.out _ _ ?_ (fun hH2 => ?_)
          · exact bwz
          clear hK K hHeld; (have hHeld := hH2); clear hH2; (try simp only [Act.put])
          refine wpAnyH_done (by kernel_rfl) ?_ _; (try simp only [pz])
          go_wp2_with fail
          go_meet
          exact ⟨_, _, rfl, rfl, ctz, ctz, ctz, ctz, hHeld⟩
      case rest =>
        obtain ⟨g, h', rfl, rfl, q1, q2, q3, q4, rB⟩ := hcut
        have kg := World.block_lt_of_cell? _ _ q1
        have kh := World.block_lt_of_cell? _ _ q3
        simp only at kg kh
        have kz0 : w.heap.size < wc.heap.size := by have := rB.size; omega
        have kz1 : w.heap.size + 1 < wc.heap.size := by have := rB.size; omega
        have f0 := cell_later rB e0
        have f1 := cell_later rB e1
        have f2 := cell_later rB e2
        have Hown2 := hide (own_later rB Hown.out)
        have HB := hide (bstep hbl rB)
        clear e0 e1 e2 hbl rB Hown
        go_upto_region 6 with fail
        refine wp_region_held_drew (S := fun W => Below wc.heap.size wc W) (by kernel_rfl) (Below.drew (Below.refl _ _)) (fun hHeld => ?_)
        refine tkL 0 (some 28) rfl ?_; (try simp only [pz])
        refine tkL 1 (some 29) rfl ?_; (try simp only [pz])
        refine tkL 3 (some 31) rfl ?_; (try simp only [pz])
        refine tkL 4 (some 32) rfl ?_; (try simp only [pz])
        refine wpAnyH_ready (rs := [2]) (by kernel_rfl) (by simp) ?_; refine (AllReadyH.cons (o := ⟨some 30, _, _, _, _, _⟩) rfl (fun K hK => ?_) AllReadyH.nil)
        go_simp; (first | (go_at_call 28; (with_reducible refine (impl_tackOf wx wy x y b2 b3 _).mono ?_); rintro e w9 ⟨rfl, hb⟩; have hzz := hb.size; (try simp at hzz); obtain ⟨hc, hf⟩ := bcell hb) | (go_at_call 28; (with_reducible refine (impl_tackOf wx wy u v9 c2 c3 _).mono ?_); rintro e w9 ⟨rfl, hb⟩; have hzz := hb.size; (try simp at hzz); obtain ⟨hc, hf⟩ := bcell hb))
        all_goals (try go_wp2_with fail)
        refine hK.out _ _ ?_ (fun hH2 => ?_)
        · first | exact bstep hHeld hb | exact hHeld.trans hb | exact hHeld
        clear hK K hHeld; (have hHeld := hH2); clear hH2; (try simp only [pz])
        refine wpAnyH_ready (rs := [5]) (by kernel_rfl) (by simp) ?_; refine (AllReadyH.cons (o := ⟨some 33, _, _, _, _, _⟩) rfl (fun K hK => ?_) AllReadyH.nil)
        go_simp; (first | (go_at_call 28; (with_reducible refine (impl_tackOf wx wy x y b2 b3 _).mono ?_); rintro e w9 ⟨rfl, hb⟩; have hzz := hb.size; (try simp at hzz); obtain ⟨hc, hf⟩ := bcell hb) | (go_at_call 28; (with_reducible refine (impl_tackOf wx wy u v9 c2 c3 _).mono ?_); rintro e w9 ⟨rfl, hb⟩; have hzz := hb.size; (try simp at hzz); obtain ⟨hc, hf⟩ := bcell hb))
        all_goals (try go_wp2_with fail)
        refine hK.out _ _ ?_ (fun hH2 => ?_)
        · first | exact bstep hHeld hb | exact hHeld.trans hb | exact hHeld
        clear hK K hHeld; (have hHeld := hH2); clear hH2; (try simp only [pz])
        refine tkN 6 (some 9) rfl ?_; (try simp only [pz])
        refine tkN 7 (some 10) rfl ?_; (try simp only [pz])
        refine wpAnyH_done (by kernel_rfl) ?_ _; (try simp only [pz])
        obtain ⟨wE, rfl⟩ : ∃ W : World, W = w9 := ⟨_, rfl⟩
        have HB2 := hide (bstep HB.out hHeld)
        have Hown3 := hide (own_later hHeld Hown2.out)
        have g0 := cell_later hHeld f0
        have g1 := cell_later hHeld f1
        have g2 := cell_later hHeld f2
        have r1 := cell_later hHeld q1
        have r2 := cell_later hHeld q2
        have r3 := cell_later hHeld q3
        have r4 := cell_later hHeld q4
        have ks := hHeld.size
        have kg2 : g < wE.heap.size := by omega
        have kh2 : h' < wE.heap.size := by omega
        have ke0 : w.heap.size < wE.heap.size := by omega
        have ke1 : w.heap.size + 1 < wE.heap.size := by omega
        clear hHeld hb hc hf hzz f0 f1 f2 q1 q2 q3 q4 kg kh kz0 kz1 ks
        rcases Hc.out with ⟨t1, Hm⟩ | ⟨t1, t2, Hm⟩ | ⟨t1, t2, t3, Hm⟩ | ⟨t1, t2, t3, Hm⟩
        iterate 3
          · go_wp2
            go_roundw
            case rel => exact ⟨k + 1, q + 1, by omega, by omega, by omega, by go_num, hide (by rw [mans_no Hm.out]; exact Hown3.out), g0, g1, g2, HB2.out, by omega⟩
            case measure => simp [intOf]; omega
        · have hd1 := Hh.out.1 t1
          have hd2 := Hh.out.2 t2
          obtain ⟨p1, p2, p3, p4, p5⟩ := hd_sq hd1
          obtain ⟨o1, o2, o3, o4, o5⟩ := hd_sq hd2
          obtain ⟨⟨m1, m2⟩, m3, m4⟩ := al_bd hw hd1
          obtain ⟨⟨n1, n2⟩, n3, n4⟩ := al_bd hw hd2
          have p6 := (rt_hd hd1).1
          have o6 := (rt_hd hd2).1
          clear hd1 hd2
          have we4 : IntKind.i64.wrap ((x * wx + y * wy) / rt (x * x + y * y) + (u * wx + v9 * wy) / rt (u * u + v9 * v9)) = (x * wx + y * wy) / rt (x * x + y * y) + (u * wx + v9 * wy) / rt (u * u + v9 * v9) := IntWalk.i64_in _ (by omega)
          go_upto_region 9 with fail
          refine wp_region_held_drew (S := fun W => Below wE.heap.size wE W) (by kernel_rfl) (Below.drew (Below.refl _ _)) (fun hHeld => ?_)
          refine tkL 0 (some 45) rfl ?_; (try simp only [pz])
          refine tkL 1 (some 46) rfl ?_; (try simp only [pz])
          refine tkL 3 (some 48) rfl ?_; (try simp only [pz])
          refine tkL 6 (some 51) rfl ?_; (try simp only [pz])
          refine tkL 7 (some 52) rfl ?_; (try simp only [pz])
          refine tkL 9 (some 54) rfl ?_; (try simp only [pz])
          refine wpAnyH_ready (rs := [2]) (by kernel_rfl) (by simp) ?_; refine (AllReadyH.cons (o := ⟨some 47, _, _, _, _, _⟩) rfl (fun K hK => ?_) AllReadyH.nil)
          go_simp; (first | (go_at_call 47; (with_reducible refine (impl_scalar wx wy x y b1 b4 _).mono ?_); rintro e w9 ⟨rfl, hb⟩; have hzz := hb.size; (try simp at hzz); obtain ⟨hc, hf⟩ := bcell hb) | (go_at_call 47; (with_reducible refine (impl_scalar wx wy u v9 c1 c4 _).mono ?_); rintro e w9 ⟨rfl, hb⟩; have hzz := hb.size; (try simp at hzz); obtain ⟨hc, hf⟩ := bcell hb) | (go_at_call 80; (with_reducible refine (impl_lengthOf x y p1 (by omega) p3 (by omega) _).mono ?_); rintro e w9 ⟨rfl, hb⟩; have hzz := hb.size; (try simp at hzz); obtain ⟨hc, hf⟩ := bcell hb) | (go_at_call 80; (with_reducible refine (impl_lengthOf u v9 o1 (by omega) o3 (by omega) _).mono ?_); rintro e w9 ⟨rfl, hb⟩; have hzz := hb.size; (try simp at hzz); obtain ⟨hc, hf⟩ := bcell hb) | (go_at_call 44; (with_reducible refine (impl_floorDiv _ _ m1 m2 p6 _).mono ?_); rintro e w9 ⟨rfl, rfl⟩) | (go_at_call 44; (with_reducible refine (impl_floorDiv _ _ n1 n2 o6 _).mono ?_); rintro e w9 ⟨rfl, rfl⟩))
          all_goals (try go_wp2_with fail)
          refine hK.out _ _ ?_ (fun hH2 => ?_)
          · first | exact bstep hHeld hb | exact hHeld.trans hb | exact hHeld
          clear hK K hHeld; (have hHeld := hH2); clear hH2; (try simp only [pz])
          refine wpAnyH_ready (rs := [4]) (by kernel_rfl) (by simp) ?_; refine (AllReadyH.cons (o := ⟨some 49, _, _, _, _, _⟩) rfl (fun K hK => ?_) AllReadyH.nil)
          go_simp; (first | (go_at_call 47; (with_reducible refine (impl_scalar wx wy x y b1 b4 _).mono ?_); rintro e w9 ⟨rfl, hb⟩; have hzz := hb.size; (try simp at hzz); obtain ⟨hc, hf⟩ := bcell hb) | (go_at_call 47; (with_reducible refine (impl_scalar wx wy u v9 c1 c4 _).mono ?_); rintro e w9 ⟨rfl, hb⟩; have hzz := hb.size; (try simp at hzz); obtain ⟨hc, hf⟩ := bcell hb) | (go_at_call 80; (with_reducible refine (impl_lengthOf x y p1 (by omega) p3 (by omega) _).mono ?_); rintro e w9 ⟨rfl, hb⟩; have hzz := hb.size; (try simp at hzz); obtain ⟨hc, hf⟩ := bcell hb) | (go_at_call 80; (with_reducible refine (impl_lengthOf u v9 o1 (by omega) o3 (by omega) _).mono ?_); rintro e w9 ⟨rfl, hb⟩; have hzz := hb.size; (try simp at hzz); obtain ⟨hc, hf⟩ := bcell hb) | (go_at_call 44; (with_reducible refine (impl_floorDiv _ _ m1 m2 p6 _).mono ?_); rintro e w9 ⟨rfl, rfl⟩) | (go_at_call 44; (with_reducible refine (impl_floorDiv _ _ n1 n2 o6 _).mono ?_); rintro e w9 ⟨rfl, rfl⟩))
          all_goals (try go_wp2_with fail)
          refine hK.out _ _ ?_ (fun hH2 => ?_)
          · first | exact bstep hHeld hb | exact hHeld.trans hb | exact hHeld
          clear hK K hHeld; (have hHeld := hH2); clear hH2; (try simp only [pz])
          refine wpAnyH_ready (rs := [5]) (by kernel_rfl) (by simp) ?_; refine (AllReadyH.cons (o := ⟨some 50, _, _, _, _, _⟩) rfl (fun K hK => ?_) AllReadyH.nil)
          go_simp; (first | (go_at_call 47; (with_reducible refine (impl_scalar wx wy x y b1 b4 _).mono ?_); rintro e w9 ⟨rfl, hb⟩; have hzz := hb.size; (try simp at hzz); obtain ⟨hc, hf⟩ := bcell hb) | (go_at_call 47; (with_reducible refine (impl_scalar wx wy u v9 c1 c4 _).mono ?_); rintro e w9 ⟨rfl, hb⟩; have hzz := hb.size; (try simp at hzz); obtain ⟨hc, hf⟩ := bcell hb) | (go_at_call 80; (with_reducible refine (impl_lengthOf x y p1 (by omega) p3 (by omega) _).mono ?_); rintro e w9 ⟨rfl, hb⟩; have hzz := hb.size; (try simp at hzz); obtain ⟨hc, hf⟩ := bcell hb) | (go_at_call 80; (with_reducible refine (impl_lengthOf u v9 o1 (by omega) o3 (by omega) _).mono ?_); rintro e w9 ⟨rfl, hb⟩; have hzz := hb.size; (try simp at hzz); obtain ⟨hc, hf⟩ := bcell hb) | (go_at_call 44; (with_reducible refine (impl_floorDiv _ _ m1 m2 p6 _).mono ?_); rintro e w9 ⟨rfl, rfl⟩) | (go_at_call 44; (with_reducible refine (impl_floorDiv _ _ n1 n2 o6 _).mono ?_); rintro e w9 ⟨rfl, rfl⟩))
          all_goals (try go_wp2_with fail)
          refine hK.out _ _ ?_ (fun hH2 => ?_)
          · first | exact bstep hHeld hb | exact hHeld.trans hb | exact hHeld
          clear hK K hHeld; (have hHeld := hH2); clear hH2; (try simp only [pz])
          refine wpAnyH_ready (rs := [8]) (by kernel_rfl) (by simp) ?_; refine (AllReadyH.cons (o := ⟨some 53, _, _, _, _, _⟩) rfl (fun K hK => ?_) AllReadyH.nil)
          go_simp; (first | (go_at_call 47; (with_reducible refine (impl_scalar wx wy x y b1 b4 _).mono ?_); rintro e w9 ⟨rfl, hb⟩; have hzz := hb.size; (try simp at hzz); obtain ⟨hc, hf⟩ := bcell hb) | (go_at_call 47; (with_reducible refine (impl_scalar wx wy u v9 c1 c4 _).mono ?_); rintro e w9 ⟨rfl, hb⟩; have hzz := hb.size; (try simp at hzz); obtain ⟨hc, hf⟩ := bcell hb) | (go_at_call 80; (with_reducible refine (impl_lengthOf x y p1 (by omega) p3 (by omega) _).mono ?_); rintro e w9 ⟨rfl, hb⟩; have hzz := hb.size; (try simp at hzz); obtain ⟨hc, hf⟩ := bcell hb) | (go_at_call 80; (with_reducible refine (impl_lengthOf u v9 o1 (by omega) o3 (by omega) _).mono ?_); rintro e w9 ⟨rfl, hb⟩; have hzz := hb.size; (try simp at hzz); obtain ⟨hc, hf⟩ := bcell hb) | (go_at_call 44; (with_reducible refine (impl_floorDiv _ _ m1 m2 p6 _).mono ?_); rintro e w9 ⟨rfl, rfl⟩) | (go_at_call 44; (with_reducible refine (impl_floorDiv _ _ n1 n2 o6 _).mono ?_); rintro e w9 ⟨rfl, rfl⟩))
          all_goals (try go_wp2_with fail)
          refine hK.out _ _ ?_ (fun hH2 => ?_)
          · first | exact bstep hHeld hb | exact hHeld.trans hb | exact hHeld
          clear hK K hHeld; (have hHeld := hH2); clear hH2; (try simp only [pz])
          refine wpAnyH_ready (rs := [10]) (by kernel_rfl) (by simp) ?_; refine (AllReadyH.cons (o := ⟨some 55, _, _, _, _, _⟩) rfl (fun K hK => ?_) AllReadyH.nil)
          go_simp; (first | (go_at_call 47; (with_reducible refine (impl_scalar wx wy x y b1 b4 _).mono ?_); rintro e w9 ⟨rfl, hb⟩; have hzz := hb.size; (try simp at hzz); obtain ⟨hc, hf⟩ := bcell hb) | (go_at_call 47; (with_reducible refine (impl_scalar wx wy u v9 c1 c4 _).mono ?_); rintro e w9 ⟨rfl, hb⟩; have hzz := hb.size; (try simp at hzz); obtain ⟨hc, hf⟩ := bcell hb) | (go_at_call 80; (with_reducible refine (impl_lengthOf x y p1 (by omega) p3 (by omega) _).mono ?_); rintro e w9 ⟨rfl, hb⟩; have hzz := hb.size; (try simp at hzz); obtain ⟨hc, hf⟩ := bcell hb) | (go_at_call 80; (with_reducible refine (impl_lengthOf u v9 o1 (by omega) o3 (by omega) _).mono ?_); rintro e w9 ⟨rfl, hb⟩; have hzz := hb.size; (try simp at hzz); obtain ⟨hc, hf⟩ := bcell hb) | (go_at_call 44; (with_reducible refine (impl_floorDiv _ _ m1 m2 p6 _).mono ?_); rintro e w9 ⟨rfl, rfl⟩) | (go_at_call 44; (with_reducible refine (impl_floorDiv _ _ n1 n2 o6 _).mono ?_); rintro e w9 ⟨rfl, rfl⟩))
          all_goals (try go_wp2_with fail)
          refine hK.out _ _ ?_ (fun hH2 => ?_)
          · first | exact bstep hHeld hb | exact hHeld.trans hb | exact hHeld
          clear hK K hHeld; (have hHeld := hH2); clear hH2; (try simp only [pz])
          refine wpAnyH_ready (rs := [11]) (by kernel_rfl) (by simp) ?_; refine (AllReadyH.cons (o := ⟨some 56, _, _, _, _, _⟩) rfl (fun K hK => ?_) AllReadyH.nil)
          go_simp; (first | (go_at_call 47; (with_reducible refine (impl_scalar wx wy x y b1 b4 _).mono ?_); rintro e w9 ⟨rfl, hb⟩; have hzz := hb.size; (try simp at hzz); obtain ⟨hc, hf⟩ := bcell hb) | (go_at_call 47; (with_reducible refine (impl_scalar wx wy u v9 c1 c4 _).mono ?_); rintro e w9 ⟨rfl, hb⟩; have hzz := hb.size; (try simp at hzz); obtain ⟨hc, hf⟩ := bcell hb) | (go_at_call 80; (with_reducible refine (impl_lengthOf x y p1 (by omega) p3 (by omega) _).mono ?_); rintro e w9 ⟨rfl, hb⟩; have hzz := hb.size; (try simp at hzz); obtain ⟨hc, hf⟩ := bcell hb) | (go_at_call 80; (with_reducible refine (impl_lengthOf u v9 o1 (by omega) o3 (by omega) _).mono ?_); rintro e w9 ⟨rfl, hb⟩; have hzz := hb.size; (try simp at hzz); obtain ⟨hc, hf⟩ := bcell hb) | (go_at_call 44; (with_reducible refine (impl_floorDiv _ _ m1 m2 p6 _).mono ?_); rintro e w9 ⟨rfl, rfl⟩) | (go_at_call 44; (with_reducible refine (impl_floorDiv _ _ n1 n2 o6 _).mono ?_); rintro e w9 ⟨rfl, rfl⟩))
          all_goals (try go_wp2_with fail)
          refine hK.out _ _ ?_ (fun hH2 => ?_)
          · first | exact bstep hHeld hb | exact hHeld.trans hb | exact hHeld
          clear hK K hHeld; (have hHeld := hH2); clear hH2; (try simp only [pz])
          refine tkN 12 (some 57) rfl ?_; (try simp only [pz])
          refine tkN 13 (some 58) rfl ?_; (try simp only [pz])
          refine wpAnyH_done (by kernel_rfl) ?_ _; (try simp only [pz])
          obtain ⟨wF, rfl⟩ : ∃ W : World, W = w9 := ⟨_, rfl⟩
          have HB3 := hide (bstep HB2.out hHeld)
          have Hown4 := hide (own_later hHeld Hown3.out)
          have j0 := hide (cell_later hHeld g0)
          have j1 := hide (cell_later hHeld g1)
          have j2 := hide (cell_later hHeld g2)
          have ks := hHeld.size
          have ke : w.heap.size + 2 ≤ wF.heap.size := by omega
          have hlen := mans_le wx wy X Y k
          clear hHeld hb hc hf hzz g0 g1 g2 r1 r2 r3 r4 we4
          by_cases gk : (x * wx + y * wy) / rt (x * x + y * y) + (u * wx + v9 * wy) / rt (u * u + v9 * v9) < 0
          · have Hk := hide (Hn.out.trans (if_pos gk))
            go_wp2_with (at_builtin; refine wpList_append_own _ rfl _ _ 84 rfl (w.heap.size + 2) 87 i0 _ 2 16 Try.underlying84 Hi.out Hz.out.1 Hz.out.2.1 Hz.out.2.2 rfl (by decide) _ _ _ rfl (Hown4.out.alloc _) ⟨wF.heap.size, 0, none⟩ 1 1 [.int .i64 q, .int .i64 1] rfl rfl new2 (one2 _ _) (by unfold maxLen; omega) (by omega) (by simp; omega) ?_)
            intro v' w1 hown' hgrow _
            have hgB := below_grown Hown4.out ke hgrow
            have hs1 := hgB.size
            have Hown5 := hide (own_app Hq.out Hm.out Hk.out hown')
            clear hgrow hown'
            go_wp2
            go_roundw
            case rel => exact ⟨k + 1, q + 1, by omega, by omega, by omega, by go_num, Hown5, cell_below hgB (by omega) j0.out, cell_below hgB (by omega) j1.out, cell_below hgB (by omega) j2.out, HB3.out.trans (hgB.mono (by omega)), by omega⟩
            case measure => simp [intOf]; omega
          · have Hk := hide (Hn.out.trans (if_neg gk))
            go_wp2_with (at_builtin; refine wpList_append_own _ rfl _ _ 84 rfl (w.heap.size + 2) 87 i0 _ 2 16 Try.underlying84 Hi.out Hz.out.1 Hz.out.2.1 Hz.out.2.2 rfl (by decide) _ _ _ rfl (Hown4.out.alloc _) ⟨wF.heap.size, 0, none⟩ 1 1 [.int .i64 q, .int .i64 2] rfl rfl new2 (one2 _ _) (by unfold maxLen; omega) (by omega) (by simp; omega) ?_)
            intro v' w1 hown' hgrow _
            have hgB := below_grown Hown4.out ke hgrow
            have hs1 := hgB.size
            have Hown5 := hide (own_app Hq.out Hm.out Hk.out hown')
            clear hgrow hown'
            go_wp2
            go_roundw
            case rel => exact ⟨k + 1, q + 1, by omega, by omega, by omega, by go_num, Hown5, cell_below hgB (by omega) j0.out, cell_below hgB (by omega) j1.out, cell_below hgB (by omega) j2.out, HB3.out.trans (hgB.mono (by omega)), by omega⟩
            case measure => simp [intOf]; omega
    · obtain rfl : k = n - 2 := by omega
      obtain ⟨so, cp, rfl, ho⟩ := own_of_row Hown.out
      have Ho := hide (ho.mono (show w.heap.size ≤ w.heap.size + 2 by omega))
      clear ho Hown
      go_wp2
      go_ret
      exact ⟨so, cp, rfl, Ho.out, hbl⟩
end Go.Proofs.Ytndlpoffpcpnkaa
