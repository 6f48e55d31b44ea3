/- Numbers as texts: the digits of groups of four (no program). -/
import Derived.Test.YtbnilfjhalildaaGreatDoorDec
import Derived.Test.YtbnilfjhalildaaGreatDoorMath
import Derived.Test.YtbnilfjhalildaaGreatDoorBack
import Derived.Lib.Repeat
namespace Go.Proofs.YtbnilfjhalildaaGreatDoor
open Go.RowKit

/-- A group that is not the highest. -/
def pad (d : Nat) : List UInt8 := List.replicate (4 - (Lib.decDigits d).length) 48 ++ Lib.decDigits d
theorem decDigits_len4 {d : Nat} (h : d < 10000) : 1 ≤ (Lib.decDigits d).length ∧ (Lib.decDigits d).length ≤ 4 :=
  ⟨by have := (decDigits_spec d).2.2.1; cases hd : Lib.decDigits d with
    | nil => exact absurd hd this
    | cons => simp, decDigits_len (k := 4) (by omega) (by decide)⟩
theorem pad_len {d : Nat} (h : d < 10000) : (pad d).length = 4 := by
  have := decDigits_len4 h
  unfold pad; rw [List.length_append, List.length_replicate]; omega
theorem dnum_zeros (k : Nat) (l : List UInt8) : dnum (List.replicate k 48 ++ l) = dnum l := by
  induction k with
  | zero => rfl
  | succ k ih =>
    rw [List.replicate_succ, List.cons_append]
    have : dnum (48 :: (List.replicate k 48 ++ l)) = dnF ((0 : Nat) * 10 + ((48 : UInt8).toNat - 48)) (List.replicate k 48 ++ l) := rfl
    rw [this]; exact ih
theorem decDigits_step {m d : Nat} (hm : 0 < m) (hd : d < 10000) : Lib.decDigits (m * 10000 + d) = Lib.decDigits m ++ pad d := by
  have sm := decDigits_spec m
  have sd := decDigits_spec d
  have hD : ∀ b ∈ Lib.decDigits m ++ pad d, isD b = true := by
    intro b hb
    rcases List.mem_append.1 hb with hb | hb
    · exact sm.2.1 b hb
    · unfold pad at hb
      rcases List.mem_append.1 hb with hb | hb
      · rw [(List.mem_replicate.1 hb).2]; decide
      · exact sd.2.1 b hb
  have hv : dnum (Lib.decDigits m ++ pad d) = m * 10000 + d := by
    rw [dnum_append, pad_len hd, sm.1]
    unfold pad
    rw [dnum_zeros, sd.1]
  rw [← hv]
  exact decDigits_dnum _ hD (by intro e; exact sm.2.2.1 (List.append_eq_nil_iff.1 e).1) (by rw [head_append _ sm.2.2.1]; exact sm.2.2.2 (by omega))

/-- The digits that group number i adds. -/
def chunk (xs : List Int) (i : Nat) : List UInt8 := if i + 1 < xs.length then pad (gi xs i).toNat else Lib.decDigits (gi xs i).toNat
def chunks (xs : List Int) (pre : List (Fin xs.length)) : List UInt8 := pre.flatMap (fun x => chunk xs x.1)
theorem chunks_snoc (xs : List Int) (pre : List (Fin xs.length)) (x : Fin xs.length) : chunks xs (pre ++ [x]) = chunks xs pre ++ chunk xs x.1 := by simp [chunks]
theorem gi_nat {xs : List Int} (h : Dig 10000 xs) (i : Nat) : (gi xs i).toNat < 10000 ∧ ((gi xs i).toNat : Int) = gi xs i := by
  have := h.gi (by decide) i
  omega
theorem chunk_len {xs : List Int} (h : Dig 10000 xs) (i : Nat) : (chunk xs i).length ≤ 4 := by
  have := gi_nat h i
  unfold chunk
  split
  · rw [pad_len this.1]; omega
  · exact (decDigits_len4 this.1).2
theorem chunks_len {xs : List Int} (h : Dig 10000 xs) (pre : List (Fin xs.length)) : (chunks xs pre).length ≤ 4 * pre.length := by
  induction pre with
  | nil => simp [chunks]
  | cons x pre ih =>
    have := chunk_len h x.1
    have e : chunks xs (x :: pre) = chunk xs x.1 ++ chunks xs pre := by simp [chunks]
    rw [e, List.length_append, List.length_cons]; omega
theorem drop_gi {xs : List Int} {i : Nat} (h : i < xs.length) : xs.drop i = gi xs i :: xs.drop (i + 1) := by
  rw [gi_lt h]; exact List.drop_eq_getElem_cons h
theorem Dig.drop {b : Int} {xs : List Int} (h : Dig b xs) (k : Nat) : Dig b (xs.drop k) := fun x hx => h x (List.mem_of_mem_drop hx)
theorem chunks_downs {xs : List Int} (h : Dig 10000 xs) (ht : Top xs) : ∀ k, k + 1 ≤ xs.length →
    0 < val 10000 (xs.drop (xs.length - (k + 1))) ∧ chunks xs (downs xs.length (k + 1)) = Lib.decDigits (val 10000 (xs.drop (xs.length - (k + 1)))).toNat
  | 0, hk => by
    have e : xs.length - (0 + 1) = xs.length - 1 := by omega
    have hg := gi_nat h (xs.length - 1)
    have h0 := ht (xs.length - 1) (by omega)
    have hv : val 10000 (xs.drop (xs.length - (0 + 1))) = gi xs (xs.length - 1) := by
      rw [e, drop_gi (by omega), List.drop_eq_nil_of_le (by omega)]; simp [val]
    have hd : chunks xs (downs xs.length (0 + 1)) = chunk xs (xs.length - 1) := by rw [downs_succ (by omega)]; simp [chunks, downs]
    rw [hv, hd]
    refine ⟨by omega, ?_⟩
    unfold chunk; rw [if_neg (by omega)]
  | k + 1, hk => by
    obtain ⟨ih1, ih2⟩ := chunks_downs h ht k (by omega)
    have hg := gi_nat h (xs.length - 1 - (k + 1))
    have e : xs.length - (k + 1 + 1) = xs.length - 1 - (k + 1) := by omega
    have e2 : xs.length - 1 - (k + 1) + 1 = xs.length - (k + 1) := by omega
    have hv : val 10000 (xs.drop (xs.length - (k + 1 + 1))) = gi xs (xs.length - 1 - (k + 1)) + 10000 * val 10000 (xs.drop (xs.length - (k + 1))) := by
      rw [e, drop_gi (by omega), e2]; rfl
    rw [downs_succ (by omega), chunks_snoc, ih2]
    refine ⟨by rw [hv]; omega, ?_⟩
    show _ ++ chunk xs (xs.length - 1 - (k + 1)) = _
    unfold chunk; rw [if_pos (by omega), ← decDigits_step (by omega) hg.1, hv]
    congr 1
    omega
theorem chunks_all {xs : List Int} {n : Int} (h : Num 10000 xs n) (h0 : xs.length ≠ 0) : chunks xs (downs xs.length xs.length) = Lib.decDigits n.toNat ∧ 0 < n := by
  obtain ⟨k, hk⟩ : ∃ k, xs.length = k + 1 := ⟨xs.length - 1, by omega⟩
  have hc := chunks_downs h.dig h.top k (by omega)
  have e : xs.length - (k + 1) = 0 := by omega
  rw [e, List.drop_zero, h.val, ← hk] at hc
  exact ⟨hc.2, hc.1⟩
theorem repeat_zero (k : Nat) : Lib.repeatL [48] k = List.replicate k 48 := by
  induction k with
  | zero => rfl
  | succ k ih => rw [List.replicate_succ, ← ih]; rfl

/-- Whether an integer has at most 200 digits. -/
def Small (z : Int) : Prop := -Big < z ∧ z < Big
instance (z : Int) : Decidable (Small z) := inferInstanceAs (Decidable (_ ∧ _))
/-- The text and the error that stand for an integer. -/
def txt (z : Int) : List UInt8 := if Small z then Lib.itoa z else []
def erz (z : Int) : Int := if Small z then 0 else 30
/-- A sign and an absolute value. -/
def sgn (b : Bool) (n : Int) : Int := if b then -n else n
theorem small_iff {b : Bool} {n : Int} (h : 0 ≤ n) : Small (sgn b n) ↔ n < Big := by
  have hB : (0 : Int) < Big := by unfold Big; decide
  unfold Small sgn
  cases b
  · simp; omega
  · simp; omega
theorem digits_big {n : Int} (h : 0 < n) : 200 < (Lib.decDigits n.toNat).length ↔ ¬ n < Big := by
  constructor
  · intro hl hb
    have : n.toNat < 10 ^ 200 := by unfold Big at hb; omega
    have := decDigits_len this (by decide)
    omega
  · intro hb
    have : 10 ^ 200 ≤ n.toNat := by unfold Big at hb; omega
    exact decDigits_len_ge this
end Go.Proofs.YtbnilfjhalildaaGreatDoor
