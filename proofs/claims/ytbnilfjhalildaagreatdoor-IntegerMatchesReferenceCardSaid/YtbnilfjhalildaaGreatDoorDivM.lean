/- The quotient and the remainder of signed integers (no program). -/
import Derived.Test.YtbnilfjhalildaaGreatDoorMul
namespace Go.Proofs.YtbnilfjhalildaaGreatDoor
open Go.RowKit

theorem div_pos_parts (x m : Int) (hm : 0 < m) : sgn (decide (x < 0)) (if x < 0 ∧ 0 < (x.natAbs : Int) % m then (x.natAbs : Int) / m + 1 else (x.natAbs : Int) / m) = x / m ∧
    (if x < 0 ∧ 0 < (x.natAbs : Int) % m then m - (x.natAbs : Int) % m else (x.natAbs : Int) % m) = x % m := by
  have hd := Int.emod_add_mul_ediv (x.natAbs : Int) m
  have h0 := Int.emod_nonneg (x.natAbs : Int) (by omega : m ≠ 0)
  have h1 := Int.emod_lt_of_pos (x.natAbs : Int) hm
  generalize hq : (x.natAbs : Int) / m = q at *
  generalize hr : (x.natAbs : Int) % m = r at *
  have key : ∀ Q R : Int, R + m * Q = x → 0 ≤ R → R < m → Q = x / m ∧ R = x % m := fun Q R e0 e1 e2 => by
    have := (Int.ediv_emod_unique hm).2 ⟨e0, e1, e2⟩
    exact ⟨this.1.symm, this.2.symm⟩
  by_cases hx : x < 0
  · by_cases hr0 : 0 < r
    · rw [if_pos ⟨hx, hr0⟩, if_pos ⟨hx, hr0⟩]
      refine key _ _ ?_ (by omega) (by omega)
      have e : sgn (decide (x < 0)) (q + 1) = -(q + 1) := by simp [sgn, hx]
      rw [e, Int.mul_neg, Int.mul_add]
      omega
    · rw [if_neg (fun h => hr0 h.2), if_neg (fun h => hr0 h.2)]
      refine key _ _ ?_ h0 h1
      have e : sgn (decide (x < 0)) q = -q := by simp [sgn, hx]
      rw [e, Int.mul_neg]
      omega
  · rw [if_neg (fun h => hx h.1), if_neg (fun h => hx h.1)]
    refine key _ _ ?_ h0 h1
    have e : sgn (decide (x < 0)) q = q := by simp [sgn, hx]
    rw [e]
    omega

/-- The quotient and the remainder, as Div makes them, are those of Lean. -/
theorem div_parts (x y : Int) (hy : y ≠ 0) : sgn (decide (x < 0) != decide (y < 0)) (if x < 0 ∧ 0 < (x.natAbs : Int) % y.natAbs then (x.natAbs : Int) / y.natAbs + 1 else (x.natAbs : Int) / y.natAbs) = x / y ∧
    (if x < 0 ∧ 0 < (x.natAbs : Int) % y.natAbs then (y.natAbs : Int) - (x.natAbs : Int) % y.natAbs else (x.natAbs : Int) % y.natAbs) = x % y := by
  obtain ⟨h1, h2⟩ := div_pos_parts x y.natAbs (by omega)
  by_cases hn : y < 0
  · have e : (y.natAbs : Int) = -y := by omega
    rw [e] at h1 h2 ⊢
    refine ⟨?_, h2.trans (Int.emod_neg x y)⟩
    have hd : x / y = -(x / -y) := by rw [Int.ediv_neg, Int.neg_neg]
    rw [hd, ← h1]
    unfold sgn
    cases decide (x < 0) <;> simp [hn]
  · have e : (y.natAbs : Int) = y := by omega
    rw [e] at h1 h2 ⊢
    refine ⟨?_, h2⟩
    rw [← h1]
    unfold sgn
    cases decide (x < 0) <;> simp [hn]

/-- A quotient is not greater than the dividend. -/
theorem div_small {x y : Int} (hx : Small x) : Small (x / y) ∧ (y ≠ 0 → Small y → Small (x % y)) := by
  have hB : (0 : Int) < Big := by unfold Big; decide
  refine ⟨?_, fun h0 hy => ?_⟩
  · have := Int.natAbs_ediv_le_natAbs x y
    unfold Small at *; omega
  · have h1 := Int.emod_nonneg x h0
    have h2 := Int.emod_lt x h0
    unfold Small at *; omega
end Go.Proofs.YtbnilfjhalildaaGreatDoor
