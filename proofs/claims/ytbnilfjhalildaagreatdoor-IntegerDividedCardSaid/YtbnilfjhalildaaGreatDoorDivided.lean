/- IntegerDivided: the walk. -/
import Derived.Test.YtbnilfjhalildaaGreatDoorTests
namespace Go.Proofs.YtbnilfjhalildaaGreatDoor
open Go.RowKit
attribute [local go_sem] Oper.semAt_some

set_option maxRecDepth 100000 in
set_option maxHeartbeats 16000000 in
theorem divided_law (a b : ByteArray) (ha : a.size ≤ 9223372036854775807) (hb' : b.size ≤ 9223372036854775807) (w : World) (hE : EnvT w) :
    Calls Tryz.prog 4 #[.string a, .string b] w (Rets w (.bool true)) := by
  have Hi1 := Lib.hid (lit_I [49] (1) (by decide +kernel) (by decide +kernel))
  have Bi1 : Bd 20 (1) := by unfold Bd; decide
  have Hi0 := Lib.hid (lit_I [48] (0) (by decide +kernel) (by decide +kernel))
  have Bi0 : Bd 20 (0) := by unfold Bd; decide
  have hB0 := Below.refl w.heap.size w
  have hT0 := hE
  go_enter Tryz.func4, Tryz.ntmps4
  go_wp2_with fail
  refine (sane_any _ hT0.env).mono ?_
  rintro e w1 ⟨rfl, hb⟩
  have hB1 := kb_call hb hB0 (Nat.le_refl _)
  have hT1 := hE.below hB1 (Nat.le_refl _)
  clear hb hB0 hT0
  go_wp2_with fail
  refine (made_is a ha 90 (by decide) _).mono ?_
  rintro e w2 ⟨x, rfl, Bx, hb⟩
  obtain ⟨sx, Hx⟩ : ∃ s : ByteArray, Hid (s = I x) := ⟨_, rfl⟩
  rw [← Hx.out]
  have hB2 := kb_call hb hB1 (Nat.le_refl _)
  have hT2 := hE.below hB2 (Nat.le_refl _)
  clear hb hB1 hT1
  go_wp2_with fail
  refine (made_is b hb' 60 (by decide) _).mono ?_
  rintro e w3 ⟨y, rfl, By, hb⟩
  have hB3 := kb_call hb hB2 (Nat.le_refl _)
  have hT3 := hE.below hB3 (Nat.le_refl _)
  clear hb hB2 hT2
  by_cases h0 : y = 0
  · subst h0
    rw [← Hi0.out]
    go_wp2_with fail
    refine (div_no Hx.out Hi0.out (Bx.small (by decide)) (By.small (by decide)) _ hT3.env rfl).mono ?_
    rintro e w4 ⟨rfl, hb⟩
    have hB4 := kb_call hb hB3 (Nat.le_refl _)
    have hT4 := hE.below hB4 (Nat.le_refl _)
    clear hb hB3 hT3
    go_wp2
    go_ret
    exact ⟨rfl, hB4⟩
  · rcases Int.lt_or_gt_of_ne h0 with hs | hs
    · obtain ⟨sy, Hy⟩ : ∃ s : ByteArray, Hid (s = I y) := ⟨_, rfl⟩
      rw [← Hy.out]
      have hy0 := str_ne_zero Hy.out h0
      have hr0 := Int.emod_nonneg x h0
      have hr1 := Int.emod_lt x h0
      obtain ⟨c1, hc1, hc1', _⟩ := cmp_ge hr0
      have Hc1 := Lib.hid hc1
      clear hc1
      have hlt : x % y < 0 - y := by omega
      have Hcl := Lib.hid (compareInt_lt hlt)
      have H0 := Lib.hid h0
      have Hs := Lib.hid hs
      clear hr0 hr1 hlt h0 hs
      obtain ⟨sq, Hq⟩ : ∃ s : ByteArray, Hid (s = I (x / y)) := ⟨_, rfl⟩
      have Bq : Bd 90 (x / y) := Bx.ediv
      obtain ⟨sr, Hr⟩ : ∃ s : ByteArray, Hid (s = I (x % y)) := ⟨_, rfl⟩
      have Br : Bd 60 (x % y) := By.emod H0.out
      go_wp2_with fail
      refine (div_is Hx.out Hy.out (Bx.small (by decide)) (By.small (by decide)) _ hT3.env _ _ _ _ H0.out rfl rfl Hq.out Hr.out).mono ?_
      rintro e w4 ⟨rfl, hb⟩
      have hB4 := kb_call hb hB3 (Nat.le_refl _)
      have hT4 := hE.below hB4 (Nat.le_refl _)
      clear hb hB3 hT3
      obtain ⟨sp, Hp⟩ : ∃ s : ByteArray, Hid (s = I ((x / y) * y)) := ⟨_, rfl⟩
      have Bp : Bd 150 ((x / y) * y) := Bq.mul By
      go_wp2_with fail
      refine (mul_is Hq.out Hy.out (Bq.small (by decide)) (By.small (by decide)) _ hT4.env ((x / y) * y) _ (rfl) Hp.out (Bp.small (by decide))).mono ?_
      rintro e w5 ⟨rfl, hb⟩
      have hB5 := kb_call hb hB4 (Nat.le_refl _)
      have hT5 := hE.below hB5 (Nat.le_refl _)
      clear hb hB4 hT4
      go_wp2_with fail
      refine (add_is Hp.out Hr.out (Bp.small (by decide)) (Br.small (by decide)) _ hT5.env x _ ((div_sum x y).symm) Hx.out (Bx.small (by decide))).mono ?_
      rintro e w6 ⟨rfl, hb⟩
      have hB6 := kb_call hb hB5 (Nat.le_refl _)
      have hT6 := hE.below hB6 (Nat.le_refl _)
      clear hb hB5 hT5
      go_wp2_with fail
      refine (mul_is Hy.out Hi1.out (By.small (by decide)) (Bi1.small (by decide)) _ hT6.env y _ ((Int.mul_one _).symm) Hy.out (By.small (by decide))).mono ?_
      rintro e w7 ⟨rfl, hb⟩
      have hB7 := kb_call hb hB6 (Nat.le_refl _)
      have hT7 := hE.below hB7 (Nat.le_refl _)
      clear hb hB6 hT6
      go_wp2_with fail
      refine (cmp_is Hy.out Hi0.out (By.small (by decide)) (Bi0.small (by decide)) _ _ ((compareInt_lt Hs.out).symm)).mono ?_
      rintro e w8 ⟨rfl, hb⟩
      have hB8 := kb_call hb hB7 (Nat.le_refl _)
      have hT8 := hE.below hB8 (Nat.le_refl _)
      clear hb hB7 hT7
      obtain ⟨sm, Hm⟩ : ∃ s : ByteArray, Hid (s = I ((0) - y)) := ⟨_, rfl⟩
      have Bm : Bd 61 ((0) - y) := Bd.sub (k := 60) (Bi0.mono (by decide)) By
      go_wp2_with fail
      refine (sub_is Hi0.out Hy.out (Bi0.small (by decide)) (By.small (by decide)) _ hT8.env ((0) - y) _ (rfl) Hm.out (Bm.small (by decide))).mono ?_
      rintro e w9 ⟨rfl, hb⟩
      have hB9 := kb_call hb hB8 (Nat.le_refl _)
      have hT9 := hE.below hB9 (Nat.le_refl _)
      clear hb hB8 hT8
      obtain ⟨sxy, Hxy⟩ : ∃ s : ByteArray, Hid (s = I (x * y)) := ⟨_, rfl⟩
      have Bxy : Bd 150 (x * y) := Bx.mul By
      go_wp2_with fail
      refine (mul_is Hx.out Hy.out (Bx.small (by decide)) (By.small (by decide)) _ hT9.env (x * y) _ (rfl) Hxy.out (Bxy.small (by decide))).mono ?_
      rintro e w10 ⟨rfl, hb⟩
      have hB10 := kb_call hb hB9 (Nat.le_refl _)
      have hT10 := hE.below hB10 (Nat.le_refl _)
      clear hb hB9 hT9
      go_wp2_with fail
      refine (div_is Hxy.out Hy.out (Bxy.small (by decide)) (By.small (by decide)) _ hT10.env x 0 _ _ H0.out (Int.mul_ediv_cancel x H0.out).symm (Int.mul_emod_left x y).symm Hx.out Hi0.out).mono ?_
      rintro e w11 ⟨rfl, hb⟩
      have hB11 := kb_call hb hB10 (Nat.le_refl _)
      have hT11 := hE.below hB11 (Nat.le_refl _)
      clear hb hB10 hT10
      go_wp2_with fail
      refine (cmp_is Hr.out Hi0.out (Br.small (by decide)) (Bi0.small (by decide)) _ c1 (Hc1.out)).mono ?_
      rintro e w12 ⟨rfl, hb⟩
      have hB12 := kb_call hb hB11 (Nat.le_refl _)
      have hT12 := hE.below hB12 (Nat.le_refl _)
      clear hb hB11 hT11
      go_wp2_with fail
      refine (cmp_is Hr.out Hm.out (Br.small (by decide)) (Bm.small (by decide)) _ _ (Hcl.out.symm)).mono ?_
      rintro e w13 ⟨rfl, hb⟩
      have hB13 := kb_call hb hB12 (Nat.le_refl _)
      have hT13 := hE.below hB13 (Nat.le_refl _)
      clear hb hB12 hT12
      go_wp2_with fail
      refine (valid_is Hr.out (Br.small (by decide)) _).mono ?_
      rintro e w14 ⟨rfl, hb⟩
      have hB14 := kb_call hb hB13 (Nat.le_refl _)
      have hT14 := hE.below hB14 (Nat.le_refl _)
      clear hb hB13 hT13
      go_wp2
      go_ret
      exact ⟨rfl, hB14⟩
    · obtain ⟨sy, Hy⟩ : ∃ s : ByteArray, Hid (s = I y) := ⟨_, rfl⟩
      rw [← Hy.out]
      have hy0 := str_ne_zero Hy.out h0
      have hr0 := Int.emod_nonneg x h0
      have hr1 := Int.emod_lt x h0
      obtain ⟨c1, hc1, hc1', _⟩ := cmp_ge hr0
      have Hc1 := Lib.hid hc1
      clear hc1
      have hlt : x % y < y := by omega
      have Hcl := Lib.hid (compareInt_lt hlt)
      have H0 := Lib.hid h0
      have Hs := Lib.hid hs
      clear hr0 hr1 hlt h0 hs
      obtain ⟨sq, Hq⟩ : ∃ s : ByteArray, Hid (s = I (x / y)) := ⟨_, rfl⟩
      have Bq : Bd 90 (x / y) := Bx.ediv
      obtain ⟨sr, Hr⟩ : ∃ s : ByteArray, Hid (s = I (x % y)) := ⟨_, rfl⟩
      have Br : Bd 60 (x % y) := By.emod H0.out
      go_wp2_with fail
      refine (div_is Hx.out Hy.out (Bx.small (by decide)) (By.small (by decide)) _ hT3.env _ _ _ _ H0.out rfl rfl Hq.out Hr.out).mono ?_
      rintro e w4 ⟨rfl, hb⟩
      have hB4 := kb_call hb hB3 (Nat.le_refl _)
      have hT4 := hE.below hB4 (Nat.le_refl _)
      clear hb hB3 hT3
      obtain ⟨sp, Hp⟩ : ∃ s : ByteArray, Hid (s = I ((x / y) * y)) := ⟨_, rfl⟩
      have Bp : Bd 150 ((x / y) * y) := Bq.mul By
      go_wp2_with fail
      refine (mul_is Hq.out Hy.out (Bq.small (by decide)) (By.small (by decide)) _ hT4.env ((x / y) * y) _ (rfl) Hp.out (Bp.small (by decide))).mono ?_
      rintro e w5 ⟨rfl, hb⟩
      have hB5 := kb_call hb hB4 (Nat.le_refl _)
      have hT5 := hE.below hB5 (Nat.le_refl _)
      clear hb hB4 hT4
      go_wp2_with fail
      refine (add_is Hp.out Hr.out (Bp.small (by decide)) (Br.small (by decide)) _ hT5.env x _ ((div_sum x y).symm) Hx.out (Bx.small (by decide))).mono ?_
      rintro e w6 ⟨rfl, hb⟩
      have hB6 := kb_call hb hB5 (Nat.le_refl _)
      have hT6 := hE.below hB6 (Nat.le_refl _)
      clear hb hB5 hT5
      go_wp2_with fail
      refine (mul_is Hy.out Hi1.out (By.small (by decide)) (Bi1.small (by decide)) _ hT6.env y _ ((Int.mul_one _).symm) Hy.out (By.small (by decide))).mono ?_
      rintro e w7 ⟨rfl, hb⟩
      have hB7 := kb_call hb hB6 (Nat.le_refl _)
      have hT7 := hE.below hB7 (Nat.le_refl _)
      clear hb hB6 hT6
      go_wp2_with fail
      refine (cmp_is Hy.out Hi0.out (By.small (by decide)) (Bi0.small (by decide)) _ _ ((compareInt_gt Hs.out).symm)).mono ?_
      rintro e w8 ⟨rfl, hb⟩
      have hB8 := kb_call hb hB7 (Nat.le_refl _)
      have hT8 := hE.below hB8 (Nat.le_refl _)
      clear hb hB7 hT7
      obtain ⟨sxy, Hxy⟩ : ∃ s : ByteArray, Hid (s = I (x * y)) := ⟨_, rfl⟩
      have Bxy : Bd 150 (x * y) := Bx.mul By
      go_wp2_with fail
      refine (mul_is Hx.out Hy.out (Bx.small (by decide)) (By.small (by decide)) _ hT8.env (x * y) _ (rfl) Hxy.out (Bxy.small (by decide))).mono ?_
      rintro e w9 ⟨rfl, hb⟩
      have hB9 := kb_call hb hB8 (Nat.le_refl _)
      have hT9 := hE.below hB9 (Nat.le_refl _)
      clear hb hB8 hT8
      go_wp2_with fail
      refine (div_is Hxy.out Hy.out (Bxy.small (by decide)) (By.small (by decide)) _ hT9.env x 0 _ _ H0.out (Int.mul_ediv_cancel x H0.out).symm (Int.mul_emod_left x y).symm Hx.out Hi0.out).mono ?_
      rintro e w10 ⟨rfl, hb⟩
      have hB10 := kb_call hb hB9 (Nat.le_refl _)
      have hT10 := hE.below hB10 (Nat.le_refl _)
      clear hb hB9 hT9
      go_wp2_with fail
      refine (cmp_is Hr.out Hi0.out (Br.small (by decide)) (Bi0.small (by decide)) _ c1 (Hc1.out)).mono ?_
      rintro e w11 ⟨rfl, hb⟩
      have hB11 := kb_call hb hB10 (Nat.le_refl _)
      have hT11 := hE.below hB11 (Nat.le_refl _)
      clear hb hB10 hT10
      go_wp2_with fail
      refine (cmp_is Hr.out Hy.out (Br.small (by decide)) (By.small (by decide)) _ _ (Hcl.out.symm)).mono ?_
      rintro e w12 ⟨rfl, hb⟩
      have hB12 := kb_call hb hB11 (Nat.le_refl _)
      have hT12 := hE.below hB12 (Nat.le_refl _)
      clear hb hB11 hT11
      go_wp2_with fail
      refine (valid_is Hr.out (Br.small (by decide)) _).mono ?_
      rintro e w13 ⟨rfl, hb⟩
      have hB13 := kb_call hb hB12 (Nat.le_refl _)
      have hT13 := hE.below hB13 (Nat.le_refl _)
      clear hb hB12 hT12
      go_wp2
      go_ret
      exact ⟨rfl, hB13⟩
end Go.Proofs.YtbnilfjhalildaaGreatDoor
