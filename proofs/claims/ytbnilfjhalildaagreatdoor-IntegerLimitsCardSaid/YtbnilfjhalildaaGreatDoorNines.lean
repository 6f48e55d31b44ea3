/- nines, pick; texts of nines and of powers. -/
import Derived.Test.YtbnilfjhalildaaGreatDoorTextL
namespace Go.Proofs.YtbnilfjhalildaaGreatDoor
open Go.RowKit
attribute [local go_sem] Oper.semAt_some

/-- Some nines. -/
def N9 (n : Nat) : ByteArray := ⟨(List.replicate n (57 : UInt8)).toArray⟩
theorem N9_succ (n : Nat) : N9 n ++ ⟨#[57]⟩ = N9 (n + 1) := by
  unfold N9
  apply ByteArray.ext
  apply Array.ext'
  simp [List.replicate_succ']
theorem N9_size (n : Nat) : (N9 n).size = n := by simp [N9, ByteArray.size]
theorem nine_isD (n : Nat) : ∀ b ∈ List.replicate n (57 : UInt8), isD b = true := fun b hb => by
  have := (List.mem_replicate.1 hb).2
  subst this; decide
theorem nine_dnum (n : Nat) : dnum (List.replicate n (57 : UInt8)) + 1 = 10 ^ n := by
  induction n with
  | zero => rfl
  | succ n ih => rw [List.replicate_succ', dnum_snoc, Nat.pow_succ, ← ih]; show dnum _ * 10 + 9 + 1 = _; omega
/-- A row of digits that begins with no zero is the text of its number. -/
theorem digits_I (l : List UInt8) (h : ∀ b ∈ l, isD b = true) (h0 : l ≠ []) (hh : ∀ b, l.head? = some b → b.toNat ≠ 48) : (⟨l.toArray⟩ : ByteArray) = I (dnum l : Int) := by
  unfold I
  rw [itoa_nonneg (Int.natCast_nonneg _), Int.toNat_natCast, decDigits_dnum l h h0 hh]
theorem N9_I {n : Nat} (h : 0 < n) : N9 n = I (10 ^ n - 1) := by
  have h1 := digits_I (List.replicate n (57 : UInt8)) (nine_isD n) (by intro e; have := congrArg List.length e; simp at this; omega) (fun b hb => by
    rw [List.head?_replicate, if_neg (by omega)] at hb
    cases hb; decide)
  have h2 := nine_dnum n
  have e : ((dnum (List.replicate n (57 : UInt8)) : Nat) : Int) = 10 ^ n - 1 := by
    rw [show ((10 : Int) ^ n) = ((10 ^ n : Nat) : Int) by simp, ← h2]; omega
  rw [e] at h1
  exact h1
theorem one_nines (n : Nat) : (⟨#[49]⟩ : ByteArray) ++ N9 n = I (2 * 10 ^ n - 1) := by
  have h1 := digits_I (49 :: List.replicate n (57 : UInt8)) (fun b hb => by
    rcases List.mem_cons.1 hb with rfl | hb
    · decide
    · exact nine_isD n b hb) (by simp) (fun b hb => by simp at hb; subst hb; decide)
  have h2 := nine_dnum n
  have h3 : dnum (49 :: List.replicate n (57 : UInt8)) = 10 ^ n + dnum (List.replicate n (57 : UInt8)) := by
    rw [show (49 :: List.replicate n (57 : UInt8)) = [49] ++ List.replicate n (57 : UInt8) from rfl, dnum_append, List.length_replicate]
    show 1 * _ + _ = _
    omega
  have e : ((dnum (49 :: List.replicate n (57 : UInt8)) : Nat) : Int) = 2 * 10 ^ n - 1 := by
    rw [show ((10 : Int) ^ n) = ((10 ^ n : Nat) : Int) by simp]; omega
  rw [e] at h1
  rw [← h1]
  apply ByteArray.ext
  simp [N9]
theorem minus_I {z : Int} (h : 0 < z) : (⟨#[45]⟩ : ByteArray) ++ I z = I (-z) := by
  unfold I
  rw [itoa_nonneg (by omega), itoa_neg (by omega), show (-z).natAbs = z.toNat by omega]
  apply ByteArray.ext
  simp

set_option maxRecDepth 100000 in
set_option maxHeartbeats 1000000 in
theorem nines_any (n : Nat) (hn : n ≤ 1000) (w : World) : Calls Tryz.prog 22 #[.int .i64 n] w fun e w' => e = .returned (.string (N9 n)) ∧ w = w' := by
  go_enter Tryz.func22, Tryz.ntmps22
  go_wp2
  go_loop [3, 4] (fun o i => ∃ k : Nat, k ≤ n ∧ i = .int .i64 k ∧ o = .string (N9 k)) (fun _ i => n - (intOf i).toNat)
  case atStart => exact ⟨0, Nat.zero_le _, rfl, rfl⟩
  case round =>
    obtain ⟨k, hk, rfl, rfl⟩ := hrel
    have HS := Lib.hid (N9_succ k)
    have hsz : (N9 k).size ≤ 1000 := by rw [N9_size]; omega
    by_cases hlt : k < n
    · go_wp2
      go_round
      case rel => exact ⟨k + 1, by omega, by go_num, by rw [HS.out]⟩
      case measure => simp [intOf]; omega
    · obtain rfl : k = n := by omega
      go_wp2
      go_ret
      exact ⟨rfl, rfl⟩

set_option maxRecDepth 100000 in
set_option maxHeartbeats 1000000 in
theorem pick_any (c : Int) (h0 : -9223372036854775808 ≤ c) (h1 : c ≤ 9223372036854775807) (w : World) : Calls Tryz.prog 23 #[.int .i64 c, .int .i64 200] w fun e w' => (∃ k : Nat, k < 200 ∧ e = .returned (.int .i64 k)) ∧ w = w' := by
  by_cases hc : c < 0
  · obtain ⟨k, hk, hk2⟩ : ∃ k : Nat, Hid (-(c + 1).tmod 200 = (k : Int)) ∧ k < 200 := by
      have e : -((c + 1).tmod 200) = -(c + 1) % 200 := by rw [← Int.neg_tmod, Int.tmod_eq_emod_of_nonneg (by omega)]
      exact ⟨(-(c + 1) % 200).toNat, (show -((c + 1).tmod 200) = _ by rw [e]; omega), by omega⟩
    have hp : 0 ≤ -(c + 1) := by omega
    go_enter Tryz.func23, Tryz.ntmps23
    go_wp2
    go_ret
    exact ⟨⟨k, hk2, ret_int hk.out⟩, rfl⟩
  · obtain ⟨k, hk, hk2⟩ : ∃ k : Nat, Hid (c % 200 = (k : Int)) ∧ k < 200 := ⟨(c % 200).toNat, by show _ = _; omega, by omega⟩
    have hp : 0 ≤ c := by omega
    go_enter Tryz.func23, Tryz.ntmps23
    go_wp2
    go_ret
    exact ⟨⟨k, hk2, ret_int hk.out⟩, rfl⟩
end Go.Proofs.YtbnilfjhalildaaGreatDoor
