/- IntegerText: the walk. -/
import Derived.Test.YtbnilfjhalildaaGreatDoorTests
namespace Go.Proofs.YtbnilfjhalildaaGreatDoor
open Go.RowKit
attribute [local go_sem] Oper.semAt_some

theorem itoa_len {z : Int} {k : Nat} (h : Bd k z) (hk : 1 ≤ k) : (Lib.itoa z).length ≤ k + 1 := by
  have h1 := decDigits_len (Bd.nat.1 h) hk
  by_cases hz : z < 0
  · rw [itoa_neg hz]; simp; exact h1
  · rw [itoa_nonneg (by omega), show z.toNat = z.natAbs by omega]; omega
theorem I_size {z : Int} {k : Nat} (h : Bd k z) (hk : 1 ≤ k) : (I z).size ≤ k + 1 := itoa_len h hk
set_option maxRecDepth 100000 in
set_option maxHeartbeats 16000000 in
theorem text_law (n : Int) (s : ByteArray) (hn0 : -9223372036854775808 ≤ n) (hn1 : n ≤ 9223372036854775807) (hs : s.size ≤ 9223372036854775807) (w : World) (hE : EnvT w) :
    Calls Tryz.prog 11 #[.int .i64 n, .string s] w (Rets w (.bool true)) := by
  obtain ⟨k, hk, hk1, hk2⟩ : ∃ k : Nat, min (s.size : Int) 30 = (k : Int) ∧ k ≤ s.size ∧ k ≤ 30 := ⟨min s.size 30, by omega, by omega, by omega⟩
  have hF : Fits n := ⟨hn0, hn1⟩
  have Bn : Bd 20 n := by unfold Bd; omega
  have Hl : (I n).size ≤ 21 := I_size Bn (by decide)
  have hts : (s.extract 0 k).size ≤ 1000000 := by simp; omega
  obtain ⟨sn, Hn⟩ : ∃ s : ByteArray, Hid (s = I n) := ⟨_, rfl⟩
  rw [← Hn.out] at Hl
  have hB0 := Below.refl w.heap.size w
  have hT0 := hE
  go_enter Tryz.func11, Tryz.ntmps11
  go_wp2_with fail
  refine (sane_any _ hT0.env).mono ?_
  rintro e w1 ⟨rfl, hb⟩
  have hB1 := kb_call hb hB0 (Nat.le_refl _)
  have hT1 := hE.below hB1 (Nat.le_refl _)
  clear hb hB0 hT0
  go_wp2_with fail
  refine (fromInt_is n hF _ hT1.env).mono ?_
  rintro e w2 ⟨rfl, hb⟩
  rw [← Hn.out]
  have hB2 := kb_call hb hB1 (Nat.le_refl _)
  have hT2 := hE.below hB2 (Nat.le_refl _)
  clear hb hB1 hT1
  generalize s.extract 0 k = t at *
  go_wp2_with fail
  refine (toInt_is Hn.out (Bn.small (by decide)) hF (by omega) _ hT2).mono ?_
  rintro e w3 ⟨rfl, hb⟩
  have hB3 := kb_call hb hB2 (Nat.le_refl _)
  have hT3 := hE.below hB3 (Nat.le_refl _)
  clear hb hB2 hT2
  by_cases hok : okS t = true ∧ Fits (zS t)
  · obtain ⟨h1, h2⟩ := I_zS hok.1
    have hT : toT t = .tuple #[.int .i64 (zS t), .int .i64 0] := by unfold toT; rw [if_pos hok]
    have hF2 := hok.2
    clear hok
    generalize zS t = z at *
    have Ht := Lib.hid h1
    clear h1
    go_wp2_with fail
    refine (Rets.of (toInt_any t hts _ hT3) hT).mono ?_
    rintro e w4 ⟨rfl, hb⟩
    clear hT
    have hB4 := kb_call hb hB3 (Nat.le_refl _)
    have hT4 := hE.below hB4 (Nat.le_refl _)
    clear hb hB3 hT3
    go_wp2_with fail
    refine (valid_is Hn.out (Bn.small (by decide)) _).mono ?_
    rintro e w5 ⟨rfl, hb⟩
    have hB5 := kb_call hb hB4 (Nat.le_refl _)
    have hT5 := hE.below hB5 (Nat.le_refl _)
    clear hb hB4 hT4
    go_wp2_with fail
    refine (valid_is Ht.out h2 _).mono ?_
    rintro e w6 ⟨rfl, hb⟩
    have hB6 := kb_call hb hB5 (Nat.le_refl _)
    have hT6 := hE.below hB6 (Nat.le_refl _)
    clear hb hB5 hT5
    go_wp2_with fail
    refine (fromInt_is z hF2 _ hT6.env).mono ?_
    rintro e w7 ⟨rfl, hb⟩
    rw [← Ht.out]
    have hB7 := kb_call hb hB6 (Nat.le_refl _)
    have hT7 := hE.below hB7 (Nat.le_refl _)
    clear hb hB6 hT6
    go_wp2
    go_ret
    exact ⟨rfl, hB7⟩
  · have hT : toT t = .tuple #[.int .i64 0, .int .i64 30] := by unfold toT; rw [if_neg hok]
    clear hok
    go_wp2_with fail
    refine (Rets.of (toInt_any t hts _ hT3) hT).mono ?_
    rintro e w4 ⟨rfl, hb⟩
    clear hT
    have hB4 := kb_call hb hB3 (Nat.le_refl _)
    have hT4 := hE.below hB4 (Nat.le_refl _)
    clear hb hB3 hT3
    go_wp2_with fail
    refine (valid_is Hn.out (Bn.small (by decide)) _).mono ?_
    rintro e w5 ⟨rfl, hb⟩
    have hB5 := kb_call hb hB4 (Nat.le_refl _)
    have hT5 := hE.below hB5 (Nat.le_refl _)
    clear hb hB4 hT4
    go_wp2
    go_ret
    exact ⟨rfl, hB5⟩
end Go.Proofs.YtbnilfjhalildaaGreatDoor
