/- Facts for the tests of the laws. -/
import Derived.Test.YtbnilfjhalildaaGreatDoorSane
namespace Go.Proofs.YtbnilfjhalildaaGreatDoor
open Go.RowKit

theorem toList_I {a : ByteArray} {x : Int} (ha : a = I x) : a.toList = Lib.itoa x := by rw [ByteArray.toList_eq, ha]; rfl
theorem itoa_inj {x y : Int} (h : Lib.itoa x = Lib.itoa y) : x = y := I_inj (by unfold I; rw [h])
/-- Two texts of different integers, in the walk's form. -/
theorem str_ne {a b : ByteArray} {x y : Int} (ha : a = I x) (hb : b = I y) (h : x ≠ y) : (a.toList == b.toList) = false := by
  rw [toList_I ha, toList_I hb]
  exact beq_eq_false_iff_ne.2 (fun e => h (itoa_inj e))
theorem str_ne_zero {a : ByteArray} {x : Int} (ha : a = I x) (h : x ≠ 0) : (a.toList == [48]) = false := by
  rw [toList_I ha]
  have e : Lib.itoa 0 = [48] := itoa_zero false
  rw [← e]
  exact beq_eq_false_iff_ne.2 (fun e => h (itoa_inj e))
theorem cmp_ge {x y : Int} (h : y ≤ x) : ∃ c, c = Lib.compareInt x y ∧ 0 ≤ c ∧ c ≤ 1 := by
  rcases Int.lt_or_le y x with h1 | h1
  · exact ⟨1, (compareInt_gt h1).symm, by decide, by decide⟩
  · have : x = y := by omega
    exact ⟨0, by rw [this]; exact (compareInt_eq y).symm, by decide, by decide⟩
theorem cmp_le {x y : Int} (h : x ≤ y) : ∃ c, c = Lib.compareInt x y ∧ c ≤ 0 ∧ -1 ≤ c := by
  rcases Int.lt_or_le x y with h1 | h1
  · exact ⟨-1, (compareInt_lt h1).symm, by decide, by decide⟩
  · have : x = y := by omega
    exact ⟨0, by rw [this]; exact (compareInt_eq y).symm, by decide, by decide⟩
theorem div_sum (x y : Int) : x / y * y + x % y = x := by
  have := Int.emod_add_mul_ediv x y
  rw [Int.mul_comm] at this
  omega
end Go.Proofs.YtbnilfjhalildaaGreatDoor
