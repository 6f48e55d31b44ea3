/- Lists of decimal digits as texts (no program). -/
import Derived.Test.YtbnilfjhalildaaGreatDoorTxtM
import Derived.Lib.UnsafeStr
namespace Go.Proofs.YtbnilfjhalildaaGreatDoor
open Go.RowKit

/-- The byte of a digit. -/
def dig8 (x : Int) : UInt8 := UInt8.ofNat (48 + x.toNat)
theorem dig8_nat {x : Int} (h0 : 0 ≤ x) (h1 : x < 10) : ((dig8 x).toNat : Int) = 48 + x := by
  unfold dig8; rw [ofNat_toNat (by omega)]; omega
/-- The text of digits, the lowest one first. -/
def digits8 (xs : List Int) : List UInt8 := xs.reverse.map dig8
theorem digits8_cons (x : Int) (xs : List Int) : digits8 (x :: xs) = digits8 xs ++ [dig8 x] := by simp [digits8]
theorem digits8_len (xs : List Int) : (digits8 xs).length = xs.length := by simp [digits8]
theorem digits8_isD {xs : List Int} (h : Dig 10 xs) : ∀ b ∈ digits8 xs, isD b = true := by
  intro b hb
  obtain ⟨x, hx, rfl⟩ := List.mem_map.1 hb
  have h1 := h x (List.mem_reverse.1 hx)
  have := dig8_nat h1.1 h1.2
  rw [isD_iff]; omega
theorem digits8_num {xs : List Int} (h : Dig 10 xs) : (dnum (digits8 xs) : Int) = val 10 xs := by
  induction xs with
  | nil => rfl
  | cons x xs ih =>
    have h1 := h.cons
    have h2 := dig8_nat h1.1.1 h1.1.2
    rw [digits8_cons, dnum_snoc, val]
    have := ih h1.2
    omega
theorem digits8_all {xs : List Int} {n : Int} (h : Num 10 xs n) (h0 : xs ≠ []) : digits8 xs = Lib.decDigits n.toNat ∧ 0 < n := by
  have hn0 : ¬ n = 0 := fun e => h0 ((h.zero_iff (by decide)).2 e)
  have hn := h.nonneg (by decide)
  have e : dnum (digits8 xs) = n.toNat := by have := digits8_num h.dig; rw [h.val] at this; omega
  refine ⟨?_, by omega⟩
  rw [← e]
  refine (decDigits_dnum _ (digits8_isD h.dig) (fun e => h0 (by have := congrArg List.length e; rw [digits8_len] at this; exact List.eq_nil_of_length_eq_zero (by simpa using this))) ?_).symm
  intro b hb
  obtain ⟨k, hk⟩ : ∃ k, xs.length = k + 1 := by
    cases xs with
    | nil => exact absurd rfl h0
    | cons x r => exact ⟨r.length, rfl⟩
  have ht := h.top k hk
  have hg := h.dig.gi (by decide) k
  have hb' : b = dig8 (gi xs k) := by
    rw [List.head?_eq_getElem?] at hb
    unfold digits8 at hb
    rw [List.getElem?_map, List.getElem?_reverse (by omega), hk, Nat.add_sub_cancel, Nat.sub_zero] at hb
    rw [gi_lt (by omega)]
    rw [List.getElem?_eq_getElem (by omega)] at hb
    simpa using hb.symm
  subst hb'
  have := dig8_nat hg.1 hg.2
  omega
/-- The text of a number with a sign. -/
theorem itoa_digits {xs : List Int} {n : Int} (h : Num 10 xs n) (h0 : xs ≠ []) (neg : Bool) : Lib.itoa (sgn neg n) = (if neg then [45] else []) ++ digits8 xs := by
  obtain ⟨e, hp⟩ := digits8_all h h0
  rw [e]
  cases neg
  · rw [show sgn false n = n from rfl, itoa_nonneg (by omega)]; rfl
  · rw [show sgn true n = -n from rfl, itoa_neg (by omega)]
    rw [show (-n).natAbs = n.toNat by omega]; rfl
theorem itoa_zero (neg : Bool) : Lib.itoa (sgn neg 0) = [48] := by
  have : sgn neg 0 = 0 := by cases neg <;> rfl
  rw [this, itoa_nonneg (by decide)]
  exact decDigits_small (by decide)
theorem drop_digits {xs : List Int} {k : Nat} (h : k < xs.length) : digits8 (xs.drop k) = digits8 (xs.drop (k + 1)) ++ [dig8 (gi xs k)] := by
  rw [drop_gi h, digits8_cons]
theorem byteCells_snoc (l : List UInt8) (b : UInt8) : Lib.byteCells (l ++ [b]) = Lib.byteCells l ++ [.int .u8 b.toNat] := by simp [Lib.byteCells]
theorem byteCells_len (l : List UInt8) : (Lib.byteCells l).length = l.length := by simp [Lib.byteCells]
end Go.Proofs.YtbnilfjhalildaaGreatDoor
