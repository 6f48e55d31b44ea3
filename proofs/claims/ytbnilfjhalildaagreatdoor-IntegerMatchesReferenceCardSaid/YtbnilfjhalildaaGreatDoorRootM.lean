/- Greatest common divisors and square roots (no program). -/
import Derived.Test.YtbnilfjhalildaaGreatDoorDivM
namespace Go.Proofs.YtbnilfjhalildaaGreatDoor
open Go.RowKit

/-- The greatest k up to a bound whose square is at most n. -/
def rootTo (n : Nat) : Nat → Nat
  | 0 => 0
  | k + 1 => if (k + 1) * (k + 1) ≤ n then k + 1 else rootTo n k
/-- The square root, rounded down. -/
def root (n : Nat) : Nat := rootTo n n

theorem rootTo_sq (n : Nat) : ∀ k, rootTo n k * rootTo n k ≤ n
  | 0 => Nat.zero_le _
  | k + 1 => by
    unfold rootTo
    split
    · assumption
    · exact rootTo_sq n k
theorem rootTo_max (n : Nat) : ∀ k j, j ≤ k → j * j ≤ n → j ≤ rootTo n k
  | 0, j, h, _ => by have : j = 0 := by omega
                     subst this; exact Nat.zero_le _
  | k + 1, j, h, hj => by
    unfold rootTo
    split
    · exact h
    · rename_i hk
      refine rootTo_max n k j ?_ hj
      rcases Nat.lt_or_ge j (k + 1) with h1 | h1
      · omega
      · have : j = k + 1 := by omega
        subst this; exact absurd hj hk
theorem le_sq (j : Nat) : j ≤ j * j := by
  cases j with
  | zero => simp
  | succ j => exact Nat.le_mul_of_pos_left _ (by omega)
theorem root_sq (n : Nat) : root n * root n ≤ n := rootTo_sq n n
theorem root_max {n j : Nat} (h : j * j ≤ n) : j ≤ root n := rootTo_max n n j (Nat.le_trans (le_sq j) h) h
theorem root_lt {n j : Nat} (h : n < j * j) : root n < j := by
  rcases Nat.lt_or_ge (root n) j with h1 | h1
  · exact h1
  · have := Nat.mul_le_mul h1 h1
    have := root_sq n
    omega
theorem root_next (n : Nat) : n < (root n + 1) * (root n + 1) := by
  rcases Nat.lt_or_ge n ((root n + 1) * (root n + 1)) with h | h
  · exact h
  · have := root_max h
    omega
theorem root_unique {n r : Nat} (h1 : r * r ≤ n) (h2 : n < (r + 1) * (r + 1)) : root n = r := by
  have := root_max h1
  have := root_lt h2
  omega
theorem root_square (r : Nat) : root (r * r) = r := root_unique (Nat.le_refl _) (by rw [Nat.add_mul, Nat.mul_add]; omega)
theorem root_zero : root 0 = 0 := rfl

/-- Newton's step never falls below the root. -/
theorem newton_ge {n r : Nat} (hr : 0 < r) : root n ≤ (r + n / r) / 2 := by
  have hs := root_sq n
  generalize root n = s at *
  -- s * s ≤ n, so that 2 s ≤ r + n / r
  have h1 : 2 * s ≤ r + n / r := by
    rcases Nat.le_total s r with h | h
    · -- r = s + d
      obtain ⟨d, rfl⟩ := Nat.exists_eq_add_of_le h
      rcases Nat.le_total d s with hd | hd
      · have h2 : (s - d) * (s + d) ≤ n := by
          obtain ⟨e, rfl⟩ := Nat.exists_eq_add_of_le hd
          rw [Nat.add_sub_cancel_left]
          have e1 : e * (d + e + d) + d * d = (d + e) * (d + e) := by
            simp only [Nat.mul_add, Nat.add_mul]
            have := Nat.mul_comm e d
            omega
          omega
        have := (Nat.le_div_iff_mul_le hr).2 h2
        omega
      · exact Nat.le_trans (by omega : 2 * s ≤ s + d) (Nat.le_add_right _ _)
    · -- s = r + d
      obtain ⟨d, rfl⟩ := Nat.exists_eq_add_of_le h
      have h2 : (r + 2 * d) * r ≤ n := by
        have e1 : (r + d) * (r + d) = (r + 2 * d) * r + d * d := by
          simp only [Nat.mul_add, Nat.add_mul, Nat.mul_assoc]
          have := Nat.mul_comm r d
          have h3 : 2 * (d * r) = 2 * (r * d) := by rw [Nat.mul_comm d r]
          omega
        omega
      have := (Nat.le_div_iff_mul_le hr).2 h2
      omega
  omega
/-- Where Newton's step falls no more, the root is reached. -/
theorem newton_stop {n r : Nat} (hr : 0 < r) (h : root n ≤ r) (hs : r ≤ (r + n / r) / 2) : root n = r := by
  have h1 : r ≤ n / r := by omega
  have h2 := (Nat.le_div_iff_mul_le hr).1 h1
  have := root_max h2
  omega

/-- The greatest common divisor of two integers, as an integer. -/
def gcdZ (x y : Int) : Int := (Int.gcd x y : Int)
theorem gcdZ_abs (x y : Int) : gcdZ x.natAbs y.natAbs = gcdZ x y := by unfold gcdZ; simp [Int.gcd]
theorem gcdZ_step {m n : Int} (hm : 0 ≤ m) (hn : 0 < n) : gcdZ n (m % n) = gcdZ m n := by
  obtain ⟨a, rfl⟩ := Int.eq_ofNat_of_zero_le hm
  obtain ⟨b, rfl⟩ := Int.eq_ofNat_of_zero_le (Int.le_of_lt hn)
  unfold gcdZ
  have e : ((a : Int) % (b : Int)) = ((a % b : Nat) : Int) := by simp
  rw [e]
  simp only [Int.gcd_natCast_natCast]
  rw [Nat.gcd_comm b, ← Nat.gcd_rec, Nat.gcd_comm]
theorem gcdZ_zero {m : Int} (hm : 0 ≤ m) : gcdZ m 0 = m := by
  unfold gcdZ; rw [Int.gcd_zero]; omega
theorem gcdZ_nonneg (x y : Int) : 0 ≤ gcdZ x y := Int.natCast_nonneg _
theorem gcdZ_small {x y : Int} (hx : Small x) (hy : Small y) : Small (gcdZ x y) := by
  have h0 := gcdZ_nonneg x y
  have hB : (0 : Int) < Big := by unfold Big; decide
  have h1 : gcdZ x y ≤ max x.natAbs y.natAbs := by
    unfold gcdZ
    by_cases h : x = 0
    · subst h; rw [Int.zero_gcd]; omega
    · have := Int.gcd_le_natAbs_left (b := y) h
      omega
  unfold Small at *
  omega
end Go.Proofs.YtbnilfjhalildaaGreatDoor
