/- Walks: the legs of a track that touch a mark's zone. -/
import Derived.Test.YtklbbopdmnopgaaGreatDoorTb0
import Derived.Test.YtklbbopdmnopgaaGreatDoorCz
import Derived.Test.YtklbbopdmnopgaaGreatDoorI
import Derived.Test.YtklbbopdmnopgaaGreatDoorKp
import Derived.Test.YtklbbopdmnopgaaGreatDoorIv
import Derived.Deep.DeepCutAuto
import Derived.Deep.AppendLies
import Derived.Deep.Onto
namespace Go.Proofs.YtklbbopdmnopgaaGreatDoor
open Go.RowKit

/-- Leg l touches the zone. -/
def touI (x y z : Int) (U V : Nat → Int) (l : Nat) : Bool := wdB (U l) (V l) (U (l + 1)) (V (l + 1)) x y z
theorem touI_eq {x y z : Int} {U V : Nat → Int} {l : Nat} (h : (U l == U (l + 1) && V l == V (l + 1)) = true) : touI x y z U V l = decide (sq (U l) (V l) x y ≤ z * z) := by
 simp only [Bool.and_eq_true, beq_iff_eq] at h
 unfold touI wdB farI
 rw [← h.1, ← h.2, Int.sub_self, Int.sub_self, Int.mul_zero, Int.mul_zero, if_pos (by decide)]
theorem isSg_of {a b c d : Int} (h1 : isPt a b = true) (h2 : isPt c d = true) (h3 : (a == c && b == d) = false) : isSg a b c d = true := by unfold isSg; rw [h1, h2, h3]; rfl
/-- The legs below k that touch the zone. -/
def lgsZ (x y z : Int) (U V : Nat → Int) : Nat → List Int
 | 0 => []
 | k + 1 => if touI x y z U V k = true then lgsZ x y z U V k ++ [(k : Int)] else lgsZ x y z U V k
theorem lgsZ_yes {x y z : Int} {U V : Nat → Int} {k : Nat} (h : touI x y z U V k = true) : lgsZ x y z U V (k + 1) = lgsZ x y z U V k ++ [(k : Int)] := by rw [lgsZ, if_pos h]
theorem lgsZ_no {x y z : Int} {U V : Nat → Int} {k : Nat} (h : touI x y z U V k = false) : lgsZ x y z U V (k + 1) = lgsZ x y z U V k := by rw [lgsZ, if_neg (by rw [h]; decide)]
theorem lgsZ_len (x y z : Int) (U V : Nat → Int) (k : Nat) : (lgsZ x y z U V k).length ≤ k := by
 induction k with
 | zero => exact Nat.le_refl _
 | succ k ih =>
  unfold lgsZ
  split
  ·rw [List.length_append, List.length_singleton]; omega
  ·omega
theorem lgsZ_mem (x y z : Int) (U V : Nat → Int) (k : Nat) : ∀ p ∈ lgsZ x y z U V k, ∃ j : Nat, p = (j : Int) ∧ j < k := by
 induction k with
 | zero => intro p hp; exact absurd hp (by simp [lgsZ])
 | succ k ih =>
  intro p hp
  unfold lgsZ at hp
  split at hp
  ·rcases List.mem_append.1 hp with h | h
   ·obtain ⟨j, h1, h2⟩ := ih p h; exact ⟨j, h1, by omega⟩
   ·rw [List.mem_singleton] at h; exact ⟨k, h, by omega⟩
  ·obtain ⟨j, h1, h2⟩ := ih p hp; exact ⟨j, h1, by omega⟩
theorem lgsZ_at {x y z : Int} {U V : Nat → Int} {k i : Nat} (h : i < (lgsZ x y z U V k).length) : ∃ j : Nat, (lgsZ x y z U V k)[i]?.getD 0 = (j : Int) ∧ j < k := by
 rw [List.getElem?_eq_getElem h]
 exact lgsZ_mem x y z U V k _ (List.getElem_mem h)
theorem infoI64 : (Tryz.prog.info? 2).map (fun i => (i.zero, i.size, i.bytes)) = some (some (.int .i64 0), 1, 8) := by kernel_rfl
set_option maxRecDepth 100000 in
set_option maxHeartbeats 2000000 in
theorem impl_legSegment (b o n cap l : Nat) (T X Y : Nat → Int) (w : World) (h : RowAt w (some ⟨b, o, none⟩) n 3 (v3 T X Y)) (hn : n ≤ 40) (hl : l + 1 < n) :
 Calls Tryz.prog 48 #[.agg #[.slice (some ⟨b, o, none⟩) n cap], .int .i64 l] w fun e w' => e = .returned (.agg #[.int .i64 (X l), .int .i64 (Y l), .int .i64 (X (l + 1)), .int .i64 (Y (l + 1))]) ∧ Below w.heap.size w w' := by
 have hbs := World.block_lt_of_cell? _ _ (h.on3 0 (by omega)).1
 simp only at hbs
 obtain ⟨c0, c1, c2⟩ := h.on3 l (by omega)
 obtain ⟨d0, d1, d2⟩ := h.on3 (l + 1) hl
 clear h
 have hj1 : (0 : Int) ≤ (l : Int) := by omega
 have hj2 : (l : Int) < (n : Int) := by omega
 have hj3 : (l : Int) + 1 < (n : Int) := by omega
 have hj4 : (0 : Int) ≤ (l : Int) + 1 := by omega
 have we : IntKind.i64.wrap ((l : Int) + 1) = (l : Int) + 1 := IntWalk.i64_in _ (by omega)
 have nbb0 : ¬ b = w.heap.size := (by omega); have ncb0 : ¬ w.heap.size = b := (by omega); have ndb0 : b < w.heap.size := (by omega); have nbb1 : ¬ b = w.heap.size + 1 := (by omega); have ncb1 : ¬ w.heap.size + 1 = b := (by omega); have ndb1 : b < w.heap.size + 1 := (by omega); have nbb2 : ¬ b = w.heap.size + 1 + 1 := (by omega); have ncb2 : ¬ w.heap.size + 1 + 1 = b := (by omega); have ndb2 : b < w.heap.size + 1 + 1 := (by omega); have nbb3 : ¬ b = w.heap.size + 1 + 1 + 1 := (by omega); have ncb3 : ¬ w.heap.size + 1 + 1 + 1 = b := (by omega); have ndb3 : b < w.heap.size + 1 + 1 + 1 := (by omega); have nbb4 : ¬ b = w.heap.size + 1 + 1 + 1 + 1 := (by omega); have ncb4 : ¬ w.heap.size + 1 + 1 + 1 + 1 = b := (by omega); have ndb4 : b < w.heap.size + 1 + 1 + 1 + 1 := (by omega)
 go_enter Tryz.func48, Tryz.ntmps48
 go_upto_region 1 with fail
 obtain ⟨wT, hT⟩ : ∃ W, W = w.alloc (.cells #[.slice (some ⟨b, o, none⟩) n cap] 33) := ⟨_, rfl⟩
 have m5 : wT.cell? ⟨w.heap.size, 0, none⟩ = some (.slice (some ⟨b, o, none⟩) n cap) := by rw [hT]; go_simp
 have x1 : wT.cell? ⟨b, o + l * 3, none⟩ = some (.int .i64 (T l)) := by rw [hT]; go_simp
 have x2 : wT.cell? ⟨b, o + l * 3 + 1, none⟩ = some (.int .i64 (X l)) := by rw [hT]; go_simp
 have x3 : wT.cell? ⟨b, o + l * 3 + 2, none⟩ = some (.int .i64 (Y l)) := by rw [hT]; go_simp
 have x4 : wT.cell? ⟨b, o + (l + 1) * 3, none⟩ = some (.int .i64 (T (l + 1))) := by rw [hT]; go_simp
 have x5 : wT.cell? ⟨b, o + (l + 1) * 3 + 1, none⟩ = some (.int .i64 (X (l + 1))) := by rw [hT]; go_simp
 have x6 : wT.cell? ⟨b, o + (l + 1) * 3 + 2, none⟩ = some (.int .i64 (Y (l + 1))) := by rw [hT]; go_simp
 have HBT := hide (show Below w.heap.size w wT by rw [hT]; exact bwz)
 have zT : w.heap.size < wT.heap.size := by rw [hT]; simp
 have zTb : b < wT.heap.size := by omega
 have hTs : w.heap.size + 1 = wT.heap.size := by rw [hT]; simp
 rw [← hT, hTs]
 clear hT hTs c0 c1 c2 d0 d1 d2
 refine wp_region_held_drew (S := fun W => Below wT.heap.size wT W) (by kernel_rfl) (Below.drew (Below.alloc (Below.refl _ _) (Nat.le_refl _) _)) (fun hHeld => ?_)
 refine tkN 0 (some 5) rfl ?_; simp only [pz]
 refine tkL 1 (some 6) rfl ?_; simp only [pz]
 refine tkN 2 (some 7) rfl ?_; simp only [pz]
 refine tkN 3 (some 8) rfl ?_; simp only [pz]
 refine tkL 4 (some 9) rfl ?_; simp only [pz]
 refine tkN 6 (some 11) rfl ?_; simp only [pz]
 refine tkL 7 (some 12) rfl ?_; simp only [pz]
 refine tkN 8 (some 13) rfl ?_; simp only [pz]
 refine tkN 9 (some 14) rfl ?_; simp only [pz]
 refine tkN 10 (some 15) rfl ?_; simp only [pz]
 refine tkL 11 (some 16) rfl ?_; simp only [pz]
 refine rd1 5 (some 10) rfl (fun K hK => ?_)
 go_simp; ((go_at_call 60; (with_reducible refine (impl_pointOf _ _ _ _).mono ?_); rintro e w9 ⟨rfl, hb⟩; have hzz := hb.size; (try simp at hzz); have hn0 : ¬ w9.heap.size = wT.heap.size := (by omega); have hm0 : ¬ wT.heap.size = w9.heap.size := (by omega); have z0 : wT.heap.size < w9.heap.size := (by omega); have hxb : ¬ w9.heap.size = b := (by omega); have hyb : ¬ b = w9.heap.size := (by omega); obtain ⟨hc, hf⟩ := bcell hb))
 all_goals (try go_wp2_with fail)
 refine hK.out _ _ ?_ (fun hH2 => ?_)
 ·exact hhz
 clear hK K hHeld; (have hHeld := hH2); clear hH2; (try simp only [pz])
 refine rd1 12 (some 17) rfl (fun K hK => ?_)
 go_simp; ((go_at_call 60; (with_reducible refine (impl_pointOf _ _ _ _).mono ?_); rintro e w9 ⟨rfl, hb⟩; have hzz := hb.size; (try simp at hzz); have hn0 : ¬ w9.heap.size = wT.heap.size := (by omega); have hm0 : ¬ wT.heap.size = w9.heap.size := (by omega); have z0 : wT.heap.size < w9.heap.size := (by omega); have hxb : ¬ w9.heap.size = b := (by omega); have hyb : ¬ b = w9.heap.size := (by omega); obtain ⟨hc, hf⟩ := bcell hb))
 all_goals (try go_wp2_with fail)
 refine hK.out _ _ ?_ (fun hH2 => ?_)
 ·exact hhz
 clear hK K hHeld; (have hHeld := hH2); clear hH2; (try simp only [pz])
 refine tkN 13 (some 18) rfl ?_; simp only [pz]
 refine rd1 14 none rfl (fun K hK => ?_)
 go_simp
 all_goals (try go_wp2_with fail)
 refine hK.out _ _ ?_ (fun hH2 => ?_)
 ·exact bwz
 clear hK K hHeld; (have hHeld := hH2); clear hH2; (try simp only [pz])
 refine wpAnyH_done (by kernel_rfl) ?_ _; (try simp only [pz])
 clear we
 go_wp2
 simp [bodyPost, results, Tryz.results48, go_sem, *]
 all_goals exact HBT.out.trans (hHeld.mono (by omega))
theorem own_nil {w : World} {B : Nat} {e : TypeId} : w.ownsRow B e 1 (.slice none 0 0) 0 [] := ⟨rfl, .inl ⟨rfl, rfl⟩⟩
/-- What LegsInZone returns. -/
def RetG (w : World) (L : List Int) (c : Int) (e : Ending) (w' : World) : Prop :=
 ∃ so cp, e = .returned (.tuple #[.slice so L.length cp, .int .i64 c]) ∧ w'.ownsRow w.heap.size 2 1 (.slice so L.length cp) L.length (L.map (Value.int .i64)) ∧ Below w.heap.size w w'
end Go.Proofs.YtklbbopdmnopgaaGreatDoor
