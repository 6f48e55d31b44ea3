/- IntegerRoot: the walk. -/
import Derived.Test.YtbnilfjhalildaaGreatDoorTests
namespace Go.Proofs.YtbnilfjhalildaaGreatDoor
open Go.RowKit
attribute [local go_sem] Oper.semAt_some

theorem sq_nonneg (x : Int) : 0 ≤ x * x := by
  rcases Int.lt_or_le x 0 with h | h
  · exact Int.le_of_lt (Int.mul_pos_of_neg_of_neg h h)
  · exact Int.mul_nonneg h h
theorem root_sq_pos {x : Int} (h : 0 ≤ x) : x = ((root (x * x).toNat : Nat) : Int) := by
  obtain ⟨n, rfl⟩ := Int.eq_ofNat_of_zero_le h
  rw [show ((n : Int) * (n : Int)) = ((n * n : Nat) : Int) by simp, Int.toNat_natCast, root_square]
theorem root_sq_neg {x : Int} (h : x ≤ 0) : -x = ((root (x * x).toNat : Nat) : Int) := by
  have := root_sq_pos (x := -x) (by omega)
  rwa [Int.neg_mul_neg] at this
theorem root_int {x : Int} (h : 0 ≤ x) : 0 ≤ ((root x.toNat : Nat) : Int) ∧ ((root x.toNat : Nat) : Int) * ((root x.toNat : Nat) : Int) ≤ x ∧ x < (((root x.toNat : Nat) : Int) + 1) * (((root x.toNat : Nat) : Int) + 1) := by
  obtain ⟨n, rfl⟩ := Int.eq_ofNat_of_zero_le h
  rw [Int.toNat_natCast]
  have h1 := root_sq n
  have h2 := root_next n
  generalize root n = r at *
  have e1 : ((r : Int) * (r : Int)) = ((r * r : Nat) : Int) := by simp
  have e2 : (((r : Int) + 1) * ((r : Int) + 1)) = (((r + 1) * (r + 1) : Nat) : Int) := by simp
  rw [e1, e2]
  omega
theorem root_bd {x R : Int} {k : Nat} (hx : Bd k x) (h : 0 ≤ R ∧ R * R ≤ x ∧ x < (R + 1) * (R + 1)) : Bd k R := by
  have h1 : R ≤ R * R := by
    obtain ⟨n, rfl⟩ := Int.eq_ofNat_of_zero_le h.1
    have := le_sq n
    rw [show ((n : Int) * (n : Int)) = ((n * n : Nat) : Int) by simp]
    omega
  unfold Bd at *; omega
set_option maxRecDepth 100000 in
set_option maxHeartbeats 16000000 in
theorem root_law (a : ByteArray) (ha : a.size ≤ 9223372036854775807) (w : World) (hE : EnvT w) :
    Calls Tryz.prog 6 #[.string a] w (Rets w (.bool true)) := by
  have Hi1 := Lib.hid (lit_I [49] (1) (by decide +kernel) (by decide +kernel))
  have Bi1 : Bd 20 (1) := by unfold Bd; decide
  have Hi0 := Lib.hid (lit_I [48] (0) (by decide +kernel) (by decide +kernel))
  have Bi0 : Bd 20 (0) := by unfold Bd; decide
  have hB0 := Below.refl w.heap.size w
  have hT0 := hE
  go_enter Tryz.func6, Tryz.ntmps6
  go_wp2_with fail
  refine (sane_any _ hT0.env).mono ?_
  rintro e w1 ⟨rfl, hb⟩
  have hB1 := kb_call hb hB0 (Nat.le_refl _)
  have hT1 := hE.below hB1 (Nat.le_refl _)
  clear hb hB0 hT0
  go_wp2_with fail
  refine (made_is a ha 80 (by decide) _).mono ?_
  rintro e w2 ⟨x, rfl, Bx, hb⟩
  obtain ⟨sx, Hx⟩ : ∃ s : ByteArray, Hid (s = I x) := ⟨_, rfl⟩
  rw [← Hx.out]
  have hB2 := kb_call hb hB1 (Nat.le_refl _)
  have hT2 := hE.below hB2 (Nat.le_refl _)
  clear hb hB1 hT1
  rcases Int.lt_or_le x 0 with hx | hx
  · have HX := Lib.hid hx
    clear hx
    go_wp2_with fail
    refine (root_no Hx.out (Bx.small (by decide)) _ hT2.env HX.out).mono ?_
    rintro e w3 ⟨rfl, hb⟩
    have hB3 := kb_call hb hB2 (Nat.le_refl _)
    have hT3 := hE.below hB3 (Nat.le_refl _)
    clear hb hB2 hT2
    obtain ⟨ssq, Hsq⟩ : ∃ s : ByteArray, Hid (s = I (x * x)) := ⟨_, rfl⟩
    have Bsq : Bd 160 (x * x) := Bx.mul Bx
    go_wp2_with fail
    refine (mul_is Hx.out Hx.out (Bx.small (by decide)) (Bx.small (by decide)) _ hT3.env (x * x) _ (rfl) Hsq.out (Bsq.small (by decide))).mono ?_
    rintro e w4 ⟨rfl, hb⟩
    have hB4 := kb_call hb hB3 (Nat.le_refl _)
    have hT4 := hE.below hB4 (Nat.le_refl _)
    clear hb hB3 hT3
    obtain ⟨sm, Hm⟩ : ∃ s : ByteArray, Hid (s = I (-x)) := ⟨_, rfl⟩
    have Bm : Bd 80 (-x) := Bx.neg
    have hne := str_ne Hm.out Hx.out (by have := HX.out; omega)
    go_wp2_with fail
    refine (root_is Hsq.out (Bsq.small (by decide)) _ hT4.env _ _ (sq_nonneg x) (root_sq_neg (Int.le_of_lt HX.out)) Hm.out (Bm.small (by decide))).mono ?_
    rintro e w5 ⟨rfl, hb⟩
    have hB5 := kb_call hb hB4 (Nat.le_refl _)
    have hT5 := hE.below hB5 (Nat.le_refl _)
    clear hb hB4 hT4
    go_wp2_with fail
    refine (add_is Hm.out Hx.out (Bm.small (by decide)) (Bx.small (by decide)) _ hT5.env (0) _ (by omega) Hi0.out (Bi0.small (by decide))).mono ?_
    rintro e w6 ⟨rfl, hb⟩
    have hB6 := kb_call hb hB5 (Nat.le_refl _)
    have hT6 := hE.below hB6 (Nat.le_refl _)
    clear hb hB5 hT5
    go_wp2_with fail
    refine (cmp_is Hx.out Hi0.out (Bx.small (by decide)) (Bi0.small (by decide)) _ _ ((compareInt_lt HX.out).symm)).mono ?_
    rintro e w7 ⟨rfl, hb⟩
    have hB7 := kb_call hb hB6 (Nat.le_refl _)
    have hT7 := hE.below hB7 (Nat.le_refl _)
    clear hb hB6 hT6
    go_wp2
    go_ret
    exact ⟨rfl, hB7⟩
  · have HX := Lib.hid hx
    obtain ⟨c1, hc1, hc1', _⟩ := cmp_ge hx
    have Hc1 := Lib.hid hc1
    clear hx hc1
    have Hr := Lib.hid (root_int HX.out)
    obtain ⟨R, HR⟩ : ∃ R : Int, Hid (R = ((root x.toNat : Nat) : Int)) := ⟨_, rfl⟩
    rw [← HR.out] at Hr
    obtain ⟨sr, Hsr⟩ : ∃ s : ByteArray, Hid (s = I R) := ⟨_, rfl⟩
    have Br : Bd 80 R := root_bd Bx Hr.out
    have Hr' := Hr
    clear Hr
    have Hr := Hsr
    go_wp2_with fail
    refine (root_is Hx.out (Bx.small (by decide)) _ hT2.env _ _ HX.out HR.out Hr.out (Br.small (by decide))).mono ?_
    rintro e w3 ⟨rfl, hb⟩
    have hB3 := kb_call hb hB2 (Nat.le_refl _)
    have hT3 := hE.below hB3 (Nat.le_refl _)
    clear hb hB2 hT2
    obtain ⟨ssq, Hsq⟩ : ∃ s : ByteArray, Hid (s = I (x * x)) := ⟨_, rfl⟩
    have Bsq : Bd 160 (x * x) := Bx.mul Bx
    go_wp2_with fail
    refine (mul_is Hx.out Hx.out (Bx.small (by decide)) (Bx.small (by decide)) _ hT3.env (x * x) _ (rfl) Hsq.out (Bsq.small (by decide))).mono ?_
    rintro e w4 ⟨rfl, hb⟩
    have hB4 := kb_call hb hB3 (Nat.le_refl _)
    have hT4 := hE.below hB4 (Nat.le_refl _)
    clear hb hB3 hT3
    go_wp2_with fail
    refine (root_is Hsq.out (Bsq.small (by decide)) _ hT4.env _ _ (sq_nonneg x) (root_sq_pos HX.out) Hx.out (Bx.small (by decide))).mono ?_
    rintro e w5 ⟨rfl, hb⟩
    have hB5 := kb_call hb hB4 (Nat.le_refl _)
    have hT5 := hE.below hB5 (Nat.le_refl _)
    clear hb hB4 hT4
    obtain ⟨sback, Hback⟩ : ∃ s : ByteArray, Hid (s = I (x + x)) := ⟨_, rfl⟩
    have Bback : Bd 81 (x + x) := Bd.add (k := 80) Bx Bx
    go_wp2_with fail
    refine (add_is Hx.out Hx.out (Bx.small (by decide)) (Bx.small (by decide)) _ hT5.env (x + x) _ (rfl) Hback.out (Bback.small (by decide))).mono ?_
    rintro e w6 ⟨rfl, hb⟩
    have hB6 := kb_call hb hB5 (Nat.le_refl _)
    have hT6 := hE.below hB6 (Nat.le_refl _)
    clear hb hB5 hT5
    go_wp2_with fail
    refine (cmp_is Hx.out Hi0.out (Bx.small (by decide)) (Bi0.small (by decide)) _ c1 (Hc1.out)).mono ?_
    rintro e w7 ⟨rfl, hb⟩
    have hB7 := kb_call hb hB6 (Nat.le_refl _)
    have hT7 := hE.below hB7 (Nat.le_refl _)
    clear hb hB6 hT6
    obtain ⟨slow, Hlow⟩ : ∃ s : ByteArray, Hid (s = I (R * R)) := ⟨_, rfl⟩
    have Blow : Bd 160 (R * R) := Br.mul Br
    go_wp2_with fail
    refine (mul_is Hr.out Hr.out (Br.small (by decide)) (Br.small (by decide)) _ hT7.env (R * R) _ (rfl) Hlow.out (Blow.small (by decide))).mono ?_
    rintro e w8 ⟨rfl, hb⟩
    have hB8 := kb_call hb hB7 (Nat.le_refl _)
    have hT8 := hE.below hB8 (Nat.le_refl _)
    clear hb hB7 hT7
    obtain ⟨snext, Hnext⟩ : ∃ s : ByteArray, Hid (s = I (R + (1))) := ⟨_, rfl⟩
    have Bnext : Bd 81 (R + (1)) := Bd.add (k := 80) Br (Bi1.mono (by decide))
    go_wp2_with fail
    refine (add_is Hr.out Hi1.out (Br.small (by decide)) (Bi1.small (by decide)) _ hT8.env (R + (1)) _ (rfl) Hnext.out (Bnext.small (by decide))).mono ?_
    rintro e w9 ⟨rfl, hb⟩
    have hB9 := kb_call hb hB8 (Nat.le_refl _)
    have hT9 := hE.below hB9 (Nat.le_refl _)
    clear hb hB8 hT8
    obtain ⟨shigh, Hhigh⟩ : ∃ s : ByteArray, Hid (s = I ((R + (1)) * (R + (1)))) := ⟨_, rfl⟩
    have Bhigh : Bd 162 ((R + (1)) * (R + (1))) := Bnext.mul Bnext
    go_wp2_with fail
    refine (mul_is Hnext.out Hnext.out (Bnext.small (by decide)) (Bnext.small (by decide)) _ hT9.env ((R + (1)) * (R + (1))) _ (rfl) Hhigh.out (Bhigh.small (by decide))).mono ?_
    rintro e w10 ⟨rfl, hb⟩
    have hB10 := kb_call hb hB9 (Nat.le_refl _)
    have hT10 := hE.below hB10 (Nat.le_refl _)
    clear hb hB9 hT9
    obtain ⟨c2, hc2, hc2', _⟩ := cmp_le Hr'.out.2.1
    have Hc2 := Lib.hid hc2
    clear hc2
    go_wp2_with fail
    refine (cmp_is Hlow.out Hx.out (Blow.small (by decide)) (Bx.small (by decide)) _ c2 (Hc2.out)).mono ?_
    rintro e w11 ⟨rfl, hb⟩
    have hB11 := kb_call hb hB10 (Nat.le_refl _)
    have hT11 := hE.below hB11 (Nat.le_refl _)
    clear hb hB10 hT10
    go_wp2_with fail
    refine (cmp_is Hhigh.out Hx.out (Bhigh.small (by decide)) (Bx.small (by decide)) _ _ ((compareInt_gt Hr'.out.2.2).symm)).mono ?_
    rintro e w12 ⟨rfl, hb⟩
    have hB12 := kb_call hb hB11 (Nat.le_refl _)
    have hT12 := hE.below hB12 (Nat.le_refl _)
    clear hb hB11 hT11
    go_wp2
    go_ret
    exact ⟨rfl, hB12⟩
end Go.Proofs.YtbnilfjhalildaaGreatDoor
