/- Walks: quotients of great products; the crossings of a track and a line, of the program. -/
import Derived.Test.YtjaplglnccmjiaaDoorXv
import Derived.Test.YtjaplglnccmjiaaDoorZl
namespace Go.Proofs.YtjaplglnccmjiaaDoor
open Go.RowKit

theorem new5 {W : World} {e : TypeId} {x y z u' v : Value} : ∀ (j : Nat) (u : Value), [x, y, z, u', v][j]? = some u → (W.alloc (.cells #[x, y, z, u', v] e)).cell? ((⟨W.heap.size, 0, none⟩ : Addr).add j) = some u := fun j u hj => by
  match j, hj with
  | 0, hj => simp at hj; subst hj; simp [Addr.add]
  | 1, hj => simp at hj; subst hj; simp [Addr.add]
  | 2, hj => simp at hj; subst hj; simp [Addr.add]
  | 3, hj => simp at hj; subst hj; simp [Addr.add]
  | 4, hj => simp at hj; subst hj; simp [Addr.add]
theorem one5 (x y z u' v : Int) : ∀ u ∈ [Value.int .i64 x, Value.int .i64 y, Value.int .i64 z, Value.int .i64 u', Value.int .i64 v], u.oneCell' = true := fun u hu => by
  simp at hu; rcases hu with rfl | rfl | rfl | rfl | rfl <;> rfl
/-- What is known of a crossing. -/
theorem cx_facts {ax ay bx bY : Int} {n k : Nat} {T U V : Nat → Int} (hl : isSg ax ay bx bY = true) (hv : isTr n T U V = true) (hk : k + 1 < n) (hw : ¬ wyL ax ay bx bY U V k = 0) :
    0 ≤ cxN ax ay bx bY U V k ∧ cxN ax ay bx bY U V k ≤ cxD ax ay bx bY U V k ∧ 1 ≤ cxD ax ay bx bY U V k ∧ cxD ax ay bx bY U V k ≤ 16000000000000 := by
  obtain ⟨_, _, _, p0, p1⟩ := isTr_leg hv hk
  obtain ⟨c0, c1, c2, c3⟩ := cp_pre hl p0 p1
  obtain ⟨f1, f2, f3, f4⟩ := cp_facts (way_den hw)
  refine ⟨f1, f2, f3, Int.le_trans f4 ?_⟩
  unfold absI; split <;> split <;> omega
theorem cxT_bd {ax ay bx bY : Int} {n k : Nat} {T U V : Nat → Int} (hl : isSg ax ay bx bY = true) (hv : isTr n T U V = true) (hk : k + 1 < n) (hw : ¬ wyL ax ay bx bY U V k = 0) : 0 ≤ cxT ax ay bx bY T U V k ∧ cxT ax ay bx bY T U V k ≤ 1000000000 := by
  obtain ⟨t0, t1, t2, _, _⟩ := isTr_leg hv hk
  obtain ⟨f1, f2, f3, f4⟩ := cx_facts hl hv hk hw
  obtain ⟨g1, g2, g3, g4⟩ := gone_bd (show 0 ≤ T (k + 1) - T k by omega) f1 f2 f3
  unfold cxT; omega
end Go.Proofs.YtjaplglnccmjiaaDoor
/- Walks: the exact time of a crossing, the crossings of a track and a line, of the reference. -/
namespace Go.Proofs.YtjaplglnccmjiaaDoor
open Go.RowKit

theorem own_ne {w : World} {B : Nat} {e : TypeId} {size : Nat} {g cp m : Nat} {x : Value} {n : Nat} {xs : List Value} {b j : Nat} (h : w.ownsRow B e size (.slice (some ⟨g, 0, none⟩) m cp) n xs) (hb : g ≠ b) : (w.setCell ⟨b, j, none⟩ x).ownsRow B e size (.slice (some ⟨g, 0, none⟩) m cp) n xs :=
  h.kept (gr_set (g := b) ⟨rfl, rfl, rfl, Nat.le_refl _, fun _ _ _ => rfl⟩) (.inr (by
    show some g ≠ some b
    simp; omega))
theorem new5b {W : World} {b : Nat} {e : TypeId} {x y z u' v : Value} (hb : b = W.heap.size) : ∀ (j : Nat) (u : Value), [x, y, z, u', v][j]? = some u → (W.alloc (.cells #[x, y, z, u', v] e)).cell? ((⟨b, 0, none⟩ : Addr).add j) = some u := by subst hb; exact new5
end Go.Proofs.YtjaplglnccmjiaaDoor
