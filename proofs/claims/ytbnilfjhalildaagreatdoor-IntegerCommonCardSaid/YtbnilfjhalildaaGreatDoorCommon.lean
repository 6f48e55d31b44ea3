/- IntegerCommon: the walk. -/
import Derived.Test.YtbnilfjhalildaaGreatDoorTests
namespace Go.Proofs.YtbnilfjhalildaaGreatDoor
open Go.RowKit
attribute [local go_sem] Oper.semAt_some

theorem gcdZ_comm (x y : Int) : gcdZ x y = gcdZ y x := by unfold gcdZ; rw [Int.gcd_comm]
theorem gcdZ_pos {x y : Int} (h : x ≠ 0 ∨ y ≠ 0) : 0 < gcdZ x y := by
  have h0 := gcdZ_nonneg x y
  have h1 : ¬ gcdZ x y = 0 := fun e => by
    have : Int.gcd x y = 0 := by unfold gcdZ at e; omega
    have := Int.gcd_eq_zero_iff.1 this
    omega
  omega
theorem gcdZ_dvd (x y : Int) : gcdZ x y ∣ x ∧ gcdZ x y ∣ y := ⟨Int.gcd_dvd_left .., Int.gcd_dvd_right ..⟩
theorem gcdZ_mul (x y z : Int) : gcdZ (x * z) (y * z) = gcdZ x y * z.natAbs := by
  unfold gcdZ; rw [Int.gcd_mul_right]; simp
/-- What is left of two numbers has no common divisor; a common factor comes out. -/
theorem gcdZ_parts {x y : Int} (h : x ≠ 0 ∨ y ≠ 0) : x % gcdZ x y = 0 ∧ y % gcdZ x y = 0 ∧ gcdZ (x / gcdZ x y) (y / gcdZ x y) = 1 ∧ 0 < gcdZ x y ∧
    ∀ z, (z < 0 → gcdZ (x * z) (y * z) = 0 - gcdZ x y * z) ∧ (0 ≤ z → gcdZ (x * z) (y * z) = gcdZ x y * z) := by
  have hp := gcdZ_pos h
  obtain ⟨h1, h2⟩ := gcdZ_dvd x y
  refine ⟨Int.emod_eq_zero_of_dvd h1, Int.emod_eq_zero_of_dvd h2, ?_, hp, fun z => ⟨fun hz => ?_, fun hz => ?_⟩⟩
  · have e1 := Int.ediv_mul_cancel h1
    have e2 := Int.ediv_mul_cancel h2
    have e3 := gcdZ_mul (x / gcdZ x y) (y / gcdZ x y) (gcdZ x y)
    rw [e1, e2, show ((gcdZ x y).natAbs : Int) = gcdZ x y by omega] at e3
    have e4 : 1 * gcdZ x y = gcdZ (x / gcdZ x y) (y / gcdZ x y) * gcdZ x y := by rw [Int.one_mul]; exact e3
    exact (Int.eq_of_mul_eq_mul_right (by omega) e4).symm
  · rw [gcdZ_mul, show (z.natAbs : Int) = -z by omega, Int.mul_neg]; omega
  · rw [gcdZ_mul, show (z.natAbs : Int) = z by omega]
theorem neg_lt {p z : Int} (hp : 0 < p) (hz : z < 0) : p * z < 0 := Int.mul_neg_of_pos_of_neg hp hz
theorem pos_ge {p z : Int} (hp : 0 < p) (hz : 0 ≤ z) : 0 ≤ p * z := Int.mul_nonneg (Int.le_of_lt hp) hz
set_option maxRecDepth 100000 in
set_option maxHeartbeats 16000000 in
theorem common_law (a b c : ByteArray) (ha : a.size ≤ 9223372036854775807) (hb : b.size ≤ 9223372036854775807) (hc : c.size ≤ 9223372036854775807) (w : World) (hE : EnvT w) :
    Calls Tryz.prog 5 #[.string a, .string b, .string c] w (Rets w (.bool true)) := by
  have Hi1 := Lib.hid (lit_I [49] (1) (by decide +kernel) (by decide +kernel))
  have Bi1 : Bd 20 (1) := by unfold Bd; decide
  have Hi0 := Lib.hid (lit_I [48] (0) (by decide +kernel) (by decide +kernel))
  have Bi0 : Bd 20 (0) := by unfold Bd; decide
  have hB0 := Below.refl w.heap.size w
  have hT0 := hE
  go_enter Tryz.func5, Tryz.ntmps5
  go_wp2_with fail
  refine (sane_any _ hT0.env).mono ?_
  rintro e w1 ⟨rfl, hb⟩
  have hB1 := kb_call hb hB0 (Nat.le_refl _)
  have hT1 := hE.below hB1 (Nat.le_refl _)
  clear hb hB0 hT0
  go_wp2_with fail
  refine (made_is a ha 40 (by decide) _).mono ?_
  rintro e w2 ⟨x, rfl, Bx, hb⟩
  obtain ⟨sx, Hx⟩ : ∃ s : ByteArray, Hid (s = I x) := ⟨_, rfl⟩
  rw [← Hx.out]
  have hB2 := kb_call hb hB1 (Nat.le_refl _)
  have hT2 := hE.below hB2 (Nat.le_refl _)
  clear hb hB1 hT1
  go_wp2_with fail
  refine (made_is b hb 40 (by decide) _).mono ?_
  rintro e w3 ⟨y, rfl, By, hb⟩
  obtain ⟨sy, Hy⟩ : ∃ s : ByteArray, Hid (s = I y) := ⟨_, rfl⟩
  rw [← Hy.out]
  have hB3 := kb_call hb hB2 (Nat.le_refl _)
  have hT3 := hE.below hB3 (Nat.le_refl _)
  clear hb hB2 hT2
  go_wp2_with fail
  refine (made_is c hc 40 (by decide) _).mono ?_
  rintro e w4 ⟨z, rfl, Bz, hb⟩
  obtain ⟨sz, Hz⟩ : ∃ s : ByteArray, Hid (s = I z) := ⟨_, rfl⟩
  rw [← Hz.out]
  have hB4 := kb_call hb hB3 (Nat.le_refl _)
  have hT4 := hE.below hB4 (Nat.le_refl _)
  clear hb hB3 hT3
  by_cases hx0 : x = 0
  · have e : sx = ⟨#[48]⟩ := Hx.out.trans (by rw [hx0]; exact Hi0.out.symm)
    subst e hx0
    by_cases hy0 : y = 0
    · have e : sy = ⟨#[48]⟩ := Hy.out.trans (by rw [hy0]; exact Hi0.out.symm)
      subst e hy0
      go_wp2_with fail
      refine (gcd_is Hi0.out Hi0.out (Bi0.small (by decide)) (Bi0.small (by decide)) _ hT4.env 0 _ (by decide) Hi0.out).mono ?_
      rintro e w5 ⟨rfl, hb⟩
      have hB5 := kb_call hb hB4 (Nat.le_refl _)
      have hT5 := hE.below hB5 (Nat.le_refl _)
      clear hb hB4 hT4
      go_wp2_with fail
      refine (gcd_is Hi0.out Hi0.out (Bi0.small (by decide)) (Bi0.small (by decide)) _ hT5.env 0 _ (by decide) Hi0.out).mono ?_
      rintro e w6 ⟨rfl, hb⟩
      have hB6 := kb_call hb hB5 (Nat.le_refl _)
      have hT6 := hE.below hB6 (Nat.le_refl _)
      clear hb hB5 hT5
      go_wp2_with fail
      refine (cmp_is Hi0.out Hi0.out (Bi0.small (by decide)) (Bi0.small (by decide)) _ 0 (by decide)).mono ?_
      rintro e w7 ⟨rfl, hb⟩
      have hB7 := kb_call hb hB6 (Nat.le_refl _)
      have hT7 := hE.below hB7 (Nat.le_refl _)
      clear hb hB6 hT6
      go_wp2
      go_ret
      exact ⟨rfl, hB7⟩
    · have hy1 := str_ne_zero Hy.out hy0
      obtain ⟨x, ex⟩ : ∃ x : Int, x = 0 := ⟨0, rfl⟩
      have hne : x ≠ 0 ∨ y ≠ 0 := .inr hy0
      rw [← ex] at Hx Bx
      clear hy0 ex
      have hG := gcdZ_pos hne
      have hG0 : gcdZ x y ≠ 0 := by omega
      have HG := Lib.hid hG0
      have Hd := Lib.hid (gcdZ_parts hne)
      have Hc := Lib.hid (compareInt_gt hG)
      clear hG hG0 hne
      obtain ⟨sg, Hg⟩ : ∃ s : ByteArray, Hid (s = I (gcdZ x y)) := ⟨_, rfl⟩
      have Bg : Bd 40 (gcdZ x y) := Bx.gcd By
      go_wp2_with fail
      refine (gcd_is Hx.out Hy.out (Bx.small (by decide)) (By.small (by decide)) _ hT4.env _ _ rfl Hg.out).mono ?_
      rintro e w5 ⟨rfl, hb⟩
      have hB5 := kb_call hb hB4 (Nat.le_refl _)
      have hT5 := hE.below hB5 (Nat.le_refl _)
      clear hb hB4 hT4
      go_wp2_with fail
      refine (gcd_is Hy.out Hx.out (By.small (by decide)) (Bx.small (by decide)) _ hT5.env _ _ (gcdZ_comm _ _) Hg.out).mono ?_
      rintro e w6 ⟨rfl, hb⟩
      have hB6 := kb_call hb hB5 (Nat.le_refl _)
      have hT6 := hE.below hB6 (Nat.le_refl _)
      clear hb hB5 hT5
      go_wp2_with fail
      refine (cmp_is Hg.out Hi0.out (Bg.small (by decide)) (Bi0.small (by decide)) _ _ (Hc.out.symm)).mono ?_
      rintro e w7 ⟨rfl, hb⟩
      have hB7 := kb_call hb hB6 (Nat.le_refl _)
      have hT7 := hE.below hB7 (Nat.le_refl _)
      clear hb hB6 hT6
      obtain ⟨sp, Hp⟩ : ∃ s : ByteArray, Hid (s = I (x / gcdZ x y)) := ⟨_, rfl⟩
      have Bp : Bd 40 (x / gcdZ x y) := Bx.ediv
      obtain ⟨sq, Hq⟩ : ∃ s : ByteArray, Hid (s = I (y / gcdZ x y)) := ⟨_, rfl⟩
      have Bq : Bd 40 (y / gcdZ x y) := By.ediv
      go_wp2_with fail
      refine (div_is Hx.out Hg.out (Bx.small (by decide)) (Bg.small (by decide)) _ hT7.env _ 0 _ _ HG.out rfl Hd.out.1.symm Hp.out Hi0.out).mono ?_
      rintro e w8 ⟨rfl, hb⟩
      have hB8 := kb_call hb hB7 (Nat.le_refl _)
      have hT8 := hE.below hB8 (Nat.le_refl _)
      clear hb hB7 hT7
      go_wp2_with fail
      refine (div_is Hy.out Hg.out (By.small (by decide)) (Bg.small (by decide)) _ hT8.env _ 0 _ _ HG.out rfl Hd.out.2.1.symm Hq.out Hi0.out).mono ?_
      rintro e w9 ⟨rfl, hb⟩
      have hB9 := kb_call hb hB8 (Nat.le_refl _)
      have hT9 := hE.below hB9 (Nat.le_refl _)
      clear hb hB8 hT8
      go_wp2_with fail
      refine (gcd_is Hp.out Hq.out (Bp.small (by decide)) (Bq.small (by decide)) _ hT9.env 1 _ Hd.out.2.2.1.symm Hi1.out).mono ?_
      rintro e w10 ⟨rfl, hb⟩
      have hB10 := kb_call hb hB9 (Nat.le_refl _)
      have hT10 := hE.below hB10 (Nat.le_refl _)
      clear hb hB9 hT9
      obtain ⟨sxz, Hxz⟩ : ∃ s : ByteArray, Hid (s = I (x * z)) := ⟨_, rfl⟩
      have Bxz : Bd 80 (x * z) := Bx.mul Bz
      go_wp2_with fail
      refine (mul_is Hx.out Hz.out (Bx.small (by decide)) (Bz.small (by decide)) _ hT10.env (x * z) _ (rfl) Hxz.out (Bxz.small (by decide))).mono ?_
      rintro e w11 ⟨rfl, hb⟩
      have hB11 := kb_call hb hB10 (Nat.le_refl _)
      have hT11 := hE.below hB11 (Nat.le_refl _)
      clear hb hB10 hT10
      obtain ⟨syz, Hyz⟩ : ∃ s : ByteArray, Hid (s = I (y * z)) := ⟨_, rfl⟩
      have Byz : Bd 80 (y * z) := By.mul Bz
      go_wp2_with fail
      refine (mul_is Hy.out Hz.out (By.small (by decide)) (Bz.small (by decide)) _ hT11.env (y * z) _ (rfl) Hyz.out (Byz.small (by decide))).mono ?_
      rintro e w12 ⟨rfl, hb⟩
      have hB12 := kb_call hb hB11 (Nat.le_refl _)
      have hT12 := hE.below hB12 (Nat.le_refl _)
      clear hb hB11 hT11
      obtain ⟨sall, Hall⟩ : ∃ s : ByteArray, Hid (s = I (gcdZ (x * z) (y * z))) := ⟨_, rfl⟩
      have Ball : Bd 80 (gcdZ (x * z) (y * z)) := Bd.gcd (k := 80) Bxz Byz
      go_wp2_with fail
      refine (gcd_is Hxz.out Hyz.out (Bxz.small (by decide)) (Byz.small (by decide)) _ hT12.env (gcdZ (x * z) (y * z)) _ (rfl) Hall.out).mono ?_
      rintro e w13 ⟨rfl, hb⟩
      have hB13 := kb_call hb hB12 (Nat.le_refl _)
      have hT13 := hE.below hB13 (Nat.le_refl _)
      clear hb hB12 hT12
      rcases Int.lt_or_le z 0 with hz | hz
      · have HZ := Lib.hid (neg_lt (Hd.out.2.2.2.1) hz)
        have He := Lib.hid ((Hd.out.2.2.2.2 z).1 hz)
        clear hz
        obtain ⟨sgz, Hgz⟩ : ∃ s : ByteArray, Hid (s = I ((gcdZ x y) * z)) := ⟨_, rfl⟩
        have Bgz : Bd 80 ((gcdZ x y) * z) := Bg.mul Bz
        go_wp2_with fail
        refine (mul_is Hg.out Hz.out (Bg.small (by decide)) (Bz.small (by decide)) _ hT13.env ((gcdZ x y) * z) _ (rfl) Hgz.out (Bgz.small (by decide))).mono ?_
        rintro e w14 ⟨rfl, hb⟩
        have hB14 := kb_call hb hB13 (Nat.le_refl _)
        have hT14 := hE.below hB14 (Nat.le_refl _)
        clear hb hB13 hT13
        go_wp2_with fail
        refine (cmp_is Hgz.out Hi0.out (Bgz.small (by decide)) (Bi0.small (by decide)) _ _ ((compareInt_lt HZ.out).symm)).mono ?_
        rintro e w15 ⟨rfl, hb⟩
        have hB15 := kb_call hb hB14 (Nat.le_refl _)
        have hT15 := hE.below hB15 (Nat.le_refl _)
        clear hb hB14 hT14
        go_wp2_with fail
        refine (sub_is Hi0.out Hgz.out (Bi0.small (by decide)) (Bgz.small (by decide)) _ hT15.env (gcdZ (x * z) (y * z)) _ (He.out) Hall.out (Ball.small (by decide))).mono ?_
        rintro e w16 ⟨rfl, hb⟩
        have hB16 := kb_call hb hB15 (Nat.le_refl _)
        have hT16 := hE.below hB16 (Nat.le_refl _)
        clear hb hB15 hT15
        go_wp2
        go_ret
        exact ⟨rfl, hB16⟩
      · obtain ⟨c1, hc1, hc1', _⟩ := cmp_ge (pos_ge (Hd.out.2.2.2.1) hz)
        have He := Lib.hid ((Hd.out.2.2.2.2 z).2 hz)
        have Hc1 := Lib.hid hc1
        clear hz hc1
        rw [← He.out] at Hc1
        go_wp2_with fail
        refine (mul_is Hg.out Hz.out (Bg.small (by decide)) (Bz.small (by decide)) _ hT13.env (gcdZ (x * z) (y * z)) _ (He.out) Hall.out (Ball.small (by decide))).mono ?_
        rintro e w14 ⟨rfl, hb⟩
        have hB14 := kb_call hb hB13 (Nat.le_refl _)
        have hT14 := hE.below hB14 (Nat.le_refl _)
        clear hb hB13 hT13
        go_wp2_with fail
        refine (cmp_is Hall.out Hi0.out (Ball.small (by decide)) (Bi0.small (by decide)) _ c1 (Hc1.out)).mono ?_
        rintro e w15 ⟨rfl, hb⟩
        have hB15 := kb_call hb hB14 (Nat.le_refl _)
        have hT15 := hE.below hB15 (Nat.le_refl _)
        clear hb hB14 hT14
        go_wp2
        go_ret
        exact ⟨rfl, hB15⟩
  · have hx1 := str_ne_zero Hx.out hx0
    have hne : x ≠ 0 ∨ y ≠ 0 := .inl hx0
    clear hx0
    have hG := gcdZ_pos hne
    have hG0 : gcdZ x y ≠ 0 := by omega
    have HG := Lib.hid hG0
    have Hd := Lib.hid (gcdZ_parts hne)
    have Hc := Lib.hid (compareInt_gt hG)
    clear hG hG0 hne
    obtain ⟨sg, Hg⟩ : ∃ s : ByteArray, Hid (s = I (gcdZ x y)) := ⟨_, rfl⟩
    have Bg : Bd 40 (gcdZ x y) := Bx.gcd By
    go_wp2_with fail
    refine (gcd_is Hx.out Hy.out (Bx.small (by decide)) (By.small (by decide)) _ hT4.env _ _ rfl Hg.out).mono ?_
    rintro e w5 ⟨rfl, hb⟩
    have hB5 := kb_call hb hB4 (Nat.le_refl _)
    have hT5 := hE.below hB5 (Nat.le_refl _)
    clear hb hB4 hT4
    go_wp2_with fail
    refine (gcd_is Hy.out Hx.out (By.small (by decide)) (Bx.small (by decide)) _ hT5.env _ _ (gcdZ_comm _ _) Hg.out).mono ?_
    rintro e w6 ⟨rfl, hb⟩
    have hB6 := kb_call hb hB5 (Nat.le_refl _)
    have hT6 := hE.below hB6 (Nat.le_refl _)
    clear hb hB5 hT5
    go_wp2_with fail
    refine (cmp_is Hg.out Hi0.out (Bg.small (by decide)) (Bi0.small (by decide)) _ _ (Hc.out.symm)).mono ?_
    rintro e w7 ⟨rfl, hb⟩
    have hB7 := kb_call hb hB6 (Nat.le_refl _)
    have hT7 := hE.below hB7 (Nat.le_refl _)
    clear hb hB6 hT6
    obtain ⟨sp, Hp⟩ : ∃ s : ByteArray, Hid (s = I (x / gcdZ x y)) := ⟨_, rfl⟩
    have Bp : Bd 40 (x / gcdZ x y) := Bx.ediv
    obtain ⟨sq, Hq⟩ : ∃ s : ByteArray, Hid (s = I (y / gcdZ x y)) := ⟨_, rfl⟩
    have Bq : Bd 40 (y / gcdZ x y) := By.ediv
    go_wp2_with fail
    refine (div_is Hx.out Hg.out (Bx.small (by decide)) (Bg.small (by decide)) _ hT7.env _ 0 _ _ HG.out rfl Hd.out.1.symm Hp.out Hi0.out).mono ?_
    rintro e w8 ⟨rfl, hb⟩
    have hB8 := kb_call hb hB7 (Nat.le_refl _)
    have hT8 := hE.below hB8 (Nat.le_refl _)
    clear hb hB7 hT7
    go_wp2_with fail
    refine (div_is Hy.out Hg.out (By.small (by decide)) (Bg.small (by decide)) _ hT8.env _ 0 _ _ HG.out rfl Hd.out.2.1.symm Hq.out Hi0.out).mono ?_
    rintro e w9 ⟨rfl, hb⟩
    have hB9 := kb_call hb hB8 (Nat.le_refl _)
    have hT9 := hE.below hB9 (Nat.le_refl _)
    clear hb hB8 hT8
    go_wp2_with fail
    refine (gcd_is Hp.out Hq.out (Bp.small (by decide)) (Bq.small (by decide)) _ hT9.env 1 _ Hd.out.2.2.1.symm Hi1.out).mono ?_
    rintro e w10 ⟨rfl, hb⟩
    have hB10 := kb_call hb hB9 (Nat.le_refl _)
    have hT10 := hE.below hB10 (Nat.le_refl _)
    clear hb hB9 hT9
    obtain ⟨sxz, Hxz⟩ : ∃ s : ByteArray, Hid (s = I (x * z)) := ⟨_, rfl⟩
    have Bxz : Bd 80 (x * z) := Bx.mul Bz
    go_wp2_with fail
    refine (mul_is Hx.out Hz.out (Bx.small (by decide)) (Bz.small (by decide)) _ hT10.env (x * z) _ (rfl) Hxz.out (Bxz.small (by decide))).mono ?_
    rintro e w11 ⟨rfl, hb⟩
    have hB11 := kb_call hb hB10 (Nat.le_refl _)
    have hT11 := hE.below hB11 (Nat.le_refl _)
    clear hb hB10 hT10
    obtain ⟨syz, Hyz⟩ : ∃ s : ByteArray, Hid (s = I (y * z)) := ⟨_, rfl⟩
    have Byz : Bd 80 (y * z) := By.mul Bz
    go_wp2_with fail
    refine (mul_is Hy.out Hz.out (By.small (by decide)) (Bz.small (by decide)) _ hT11.env (y * z) _ (rfl) Hyz.out (Byz.small (by decide))).mono ?_
    rintro e w12 ⟨rfl, hb⟩
    have hB12 := kb_call hb hB11 (Nat.le_refl _)
    have hT12 := hE.below hB12 (Nat.le_refl _)
    clear hb hB11 hT11
    obtain ⟨sall, Hall⟩ : ∃ s : ByteArray, Hid (s = I (gcdZ (x * z) (y * z))) := ⟨_, rfl⟩
    have Ball : Bd 80 (gcdZ (x * z) (y * z)) := Bd.gcd (k := 80) Bxz Byz
    go_wp2_with fail
    refine (gcd_is Hxz.out Hyz.out (Bxz.small (by decide)) (Byz.small (by decide)) _ hT12.env (gcdZ (x * z) (y * z)) _ (rfl) Hall.out).mono ?_
    rintro e w13 ⟨rfl, hb⟩
    have hB13 := kb_call hb hB12 (Nat.le_refl _)
    have hT13 := hE.below hB13 (Nat.le_refl _)
    clear hb hB12 hT12
    rcases Int.lt_or_le z 0 with hz | hz
    · have HZ := Lib.hid (neg_lt (Hd.out.2.2.2.1) hz)
      have He := Lib.hid ((Hd.out.2.2.2.2 z).1 hz)
      clear hz
      obtain ⟨sgz, Hgz⟩ : ∃ s : ByteArray, Hid (s = I ((gcdZ x y) * z)) := ⟨_, rfl⟩
      have Bgz : Bd 80 ((gcdZ x y) * z) := Bg.mul Bz
      go_wp2_with fail
      refine (mul_is Hg.out Hz.out (Bg.small (by decide)) (Bz.small (by decide)) _ hT13.env ((gcdZ x y) * z) _ (rfl) Hgz.out (Bgz.small (by decide))).mono ?_
      rintro e w14 ⟨rfl, hb⟩
      have hB14 := kb_call hb hB13 (Nat.le_refl _)
      have hT14 := hE.below hB14 (Nat.le_refl _)
      clear hb hB13 hT13
      go_wp2_with fail
      refine (cmp_is Hgz.out Hi0.out (Bgz.small (by decide)) (Bi0.small (by decide)) _ _ ((compareInt_lt HZ.out).symm)).mono ?_
      rintro e w15 ⟨rfl, hb⟩
      have hB15 := kb_call hb hB14 (Nat.le_refl _)
      have hT15 := hE.below hB15 (Nat.le_refl _)
      clear hb hB14 hT14
      go_wp2_with fail
      refine (sub_is Hi0.out Hgz.out (Bi0.small (by decide)) (Bgz.small (by decide)) _ hT15.env (gcdZ (x * z) (y * z)) _ (He.out) Hall.out (Ball.small (by decide))).mono ?_
      rintro e w16 ⟨rfl, hb⟩
      have hB16 := kb_call hb hB15 (Nat.le_refl _)
      have hT16 := hE.below hB16 (Nat.le_refl _)
      clear hb hB15 hT15
      go_wp2
      go_ret
      exact ⟨rfl, hB16⟩
    · obtain ⟨c1, hc1, hc1', _⟩ := cmp_ge (pos_ge (Hd.out.2.2.2.1) hz)
      have He := Lib.hid ((Hd.out.2.2.2.2 z).2 hz)
      have Hc1 := Lib.hid hc1
      clear hz hc1
      rw [← He.out] at Hc1
      go_wp2_with fail
      refine (mul_is Hg.out Hz.out (Bg.small (by decide)) (Bz.small (by decide)) _ hT13.env (gcdZ (x * z) (y * z)) _ (He.out) Hall.out (Ball.small (by decide))).mono ?_
      rintro e w14 ⟨rfl, hb⟩
      have hB14 := kb_call hb hB13 (Nat.le_refl _)
      have hT14 := hE.below hB14 (Nat.le_refl _)
      clear hb hB13 hT13
      go_wp2_with fail
      refine (cmp_is Hall.out Hi0.out (Ball.small (by decide)) (Bi0.small (by decide)) _ c1 (Hc1.out)).mono ?_
      rintro e w15 ⟨rfl, hb⟩
      have hB15 := kb_call hb hB14 (Nat.le_refl _)
      have hT15 := hE.below hB15 (Nat.le_refl _)
      clear hb hB14 hT14
      go_wp2
      go_ret
      exact ⟨rfl, hB15⟩
end Go.Proofs.YtbnilfjhalildaaGreatDoor
