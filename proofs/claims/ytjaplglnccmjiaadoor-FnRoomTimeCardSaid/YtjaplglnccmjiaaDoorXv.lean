/- Walks: the way across a line (the reference), the place of a crossing, a quotient in steps of 1000; of both. -/
import Derived.Test.YtjaplglnccmjiaaDoorXw
namespace Go.Proofs.YtjaplglnccmjiaaDoor
open Go.RowKit

/-- What is known where a line is crossed. -/
theorem cp_pre {ax ay bx bY px py qx qy : Int} (hl : isSg ax ay bx bY = true) (hp : isPt px py = true) (hq : isPt qx qy = true) :
    -8000000000000 ≤ crs ax ay bx bY px py ∧ crs ax ay bx bY px py ≤ 8000000000000 ∧ -8000000000000 ≤ crs ax ay bx bY qx qy ∧ crs ax ay bx bY qx qy ≤ 8000000000000 := by
  obtain ⟨ha, hb, _⟩ := isSg_t hl
  obtain ⟨_, _, c0, c1⟩ := pt_bd3 ha hb hp
  obtain ⟨_, _, c2, c3⟩ := pt_bd3 ha hb hq
  omega
theorem way_ne {ax ay bx bY px py qx qy : Int} (h : ¬ wayI ax ay bx bY px py qx qy = 0) : (px == qx && py == qy) = false := by
  rcases b2 (px == qx && py == qy) with k | k
  · exact k
  · simp only [Bool.and_eq_true, beq_iff_eq] at k
    exfalso
    rcases wayI_cases ax ay bx bY px py qx qy with h1 | ⟨_, h1, h2⟩ | ⟨_, h1, h2⟩
    · exact h h1
    · rw [k.1, k.2] at h1; omega
    · rw [k.1, k.2] at h1; omega
theorem way_sg {ax ay bx bY px py qx qy : Int} (h : ¬ wayI ax ay bx bY px py qx qy = 0) (hp : isPt px py = true) (hq : isPt qx qy = true) : isSg px py qx qy = true := by unfold isSg; rw [hp, hq, way_ne h]; rfl
theorem way_den {ax ay bx bY px py qx qy : Int} (h : ¬ wayI ax ay bx bY px py qx qy = 0) : 1 ≤ absI (crs ax ay bx bY px py) + absI (crs ax ay bx bY qx qy) := by
  unfold absI
  rcases wayI_cases ax ay bx bY px py qx qy with h1 | ⟨_, h1, h2⟩ | ⟨_, h1, h2⟩
  · exact absurd h1 h
  · split <;> split <;> omega
  · split <;> split <;> omega
theorem dv_step {q r d m n p c : Int} (hm : 0 < m) (hq : m * q + r = p * d) (hn : n = 1000 * p + c) : m * (1000 * q + (r * 1000 + c * d) / m) + (r * 1000 + c * d) % m = n * d := by
  have e := Int.emod_add_mul_ediv (r * 1000 + c * d) m
  generalize (r * 1000 + c * d) / m = x at *
  generalize (r * 1000 + c * d) % m = y at *
  subst hn
  grind
end Go.Proofs.YtjaplglnccmjiaaDoor
