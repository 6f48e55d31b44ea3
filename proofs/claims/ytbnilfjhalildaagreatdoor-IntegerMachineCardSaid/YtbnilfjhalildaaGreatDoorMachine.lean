/- IntegerMachine: the walk. -/
import Derived.Test.YtbnilfjhalildaaGreatDoorTextL
namespace Go.Proofs.YtbnilfjhalildaaGreatDoor
open Go.RowKit
attribute [local go_sem] Oper.semAt_some

theorem fits_bd {z : Int} (h : Fits z) : Bd 20 z := by unfold Fits at h; unfold Bd; omega
theorem mul_bounds {x y : Int} (hx0 : -2147483648 ≤ x) (hx1 : x ≤ 2147483647) (hy0 : -2147483648 ≤ y) (hy1 : y ≤ 2147483647) : -4611686018427387904 ≤ x * y ∧ x * y ≤ 4611686018427387904 := by
  have h := Nat.mul_le_mul (show x.natAbs ≤ 2147483648 by omega) (show y.natAbs ≤ 2147483648 by omega)
  rw [← Int.natAbs_mul] at h
  omega
/-- How Go's quotient and remainder lead to those that leave no negative remainder. -/
def DivCase (x y : Int) : Prop :=
  (x / y = x.tdiv y ∧ x % y = x.tmod y ∧ 0 ≤ x.tmod y ∧ x.tmod y ≤ 2147483648 ∧ -2147483648 ≤ x.tdiv y ∧ x.tdiv y ≤ 2147483648) ∨
  (x / y = x.tdiv y - 1 ∧ x % y = x.tmod y + y ∧ x.tmod y < 0 ∧ 0 ≤ x.tmod y + y ∧ 0 < y ∧ -2147483648 ≤ x.tmod y ∧ -2147483648 ≤ x.tdiv y ∧ x.tdiv y ≤ 2147483648) ∨
  (x / y = x.tdiv y + 1 ∧ x % y = x.tmod y - y ∧ x.tmod y < 0 ∧ y < 0 ∧ -2147483648 ≤ x.tmod y ∧ -2147483648 ≤ x.tdiv y ∧ x.tdiv y ≤ 2147483648)
theorem divCase {x y : Int} (hx0 : -2147483648 ≤ x) (hx1 : x ≤ 2147483647) (hy0 : -2147483648 ≤ y) (hy1 : y ≤ 2147483647) (h0 : y ≠ 0) : DivCase x y := by
  have e : y * x.tdiv y + x.tmod y = x := Int.mul_tdiv_add_tmod x y
  have hl : (x.tmod y).natAbs < y.natAbs := by rw [Int.natAbs_tmod]; exact Nat.mod_lt _ (by omega)
  have hq : (x.tdiv y).natAbs ≤ x.natAbs := by rw [Int.natAbs_tdiv]; exact Nat.div_le_self _ _
  have hu : ∀ Q R : Int, R + y * Q = x → 0 ≤ R → R < y.natAbs → x / y = Q ∧ x % y = R := fun Q R e1 e2 e3 => by
    rcases Int.lt_or_gt_of_ne h0 with hn | hp
    · have h1 := (Int.ediv_emod_unique (a := x) (b := -y) (r := R) (q := -Q) (by omega)).2 ⟨by rw [Int.neg_mul_neg]; exact e1, e2, by omega⟩
      rw [Int.ediv_neg, Int.emod_neg] at h1
      exact ⟨by omega, h1.2⟩
    · exact (Int.ediv_emod_unique hp).2 ⟨e1, e2, by omega⟩
  unfold DivCase
  generalize x.tdiv y = T at *
  generalize x.tmod y = M at *
  by_cases hM : 0 ≤ M
  · have := hu T M (by omega) hM (by omega)
    exact .inl ⟨this.1, this.2, hM, by omega, by omega, by omega⟩
  · rcases Int.lt_or_gt_of_ne h0 with hn | hp
    · have := hu (T + 1) (M - y) (by rw [Int.mul_add]; omega) (by omega) (by omega)
      exact .inr (.inr ⟨this.1, this.2, by omega, hn, by omega, by omega, by omega⟩)
    · have := hu (T - 1) (M + y) (by rw [Int.mul_sub]; omega) (by omega) (by omega)
      exact .inr (.inl ⟨this.1, this.2, by omega, by omega, hp, by omega, by omega, by omega⟩)
set_option maxRecDepth 100000 in
set_option maxHeartbeats 16000000 in
theorem machine_lt (x y : Int) (hx0 : -2147483648 ≤ x) (hx1 : x ≤ 2147483647) (hy0 : -2147483648 ≤ y) (hy1 : y ≤ 2147483647) (hxy : x < y) (hy : y = 0 ∨ y ≠ 0 ∧ DivCase x y) (w : World) (hE : EnvT w) :
    Calls Tryz.prog 10 #[.int .i32 x, .int .i32 y] w (Rets w (.bool true)) := by
  have Fx : Fits x := ⟨by omega, by omega⟩
  have Fy : Fits y := ⟨by omega, by omega⟩
  have Fa : Fits (x + y) := ⟨by omega, by omega⟩
  have Fs : Fits (x - y) := ⟨by omega, by omega⟩
  obtain ⟨hm0, hm1⟩ := mul_bounds hx0 hx1 hy0 hy1
  have Fm : Fits (x * y) := ⟨by omega, by omega⟩
  have Bx : Bd 20 x := fits_bd Fx
  have By : Bd 20 y := fits_bd Fy
  have Hl : (I x).size ≤ 21 := I_size Bx (by decide)
  obtain ⟨sx, Hx⟩ : ∃ s : ByteArray, Hid (s = I x) := ⟨_, rfl⟩
  obtain ⟨sy, Hy⟩ : ∃ s : ByteArray, Hid (s = I y) := ⟨_, rfl⟩
  rw [← Hx.out] at Hl
  have HX := Lib.hid hxy
  have hB0 := Below.refl w.heap.size w
  have hT0 := hE
  go_enter Tryz.func10, Tryz.ntmps10
  go_wp2_with fail
  refine (sane_any _ hT0.env).mono ?_
  rintro e w1 ⟨rfl, hb⟩
  have hB1 := kb_call hb hB0 (Nat.le_refl _)
  have hT1 := hE.below hB1 (Nat.le_refl _)
  clear hb hB0 hT0
  go_wp2_with fail
  refine (fromInt_is x Fx _ hT1.env).mono ?_
  rintro e w2 ⟨rfl, hb⟩
  rw [← Hx.out]
  have hB2 := kb_call hb hB1 (Nat.le_refl _)
  have hT2 := hE.below hB2 (Nat.le_refl _)
  clear hb hB1 hT1
  go_wp2_with fail
  refine (fromInt_is y Fy _ hT2.env).mono ?_
  rintro e w3 ⟨rfl, hb⟩
  rw [← Hy.out]
  have hB3 := kb_call hb hB2 (Nat.le_refl _)
  have hT3 := hE.below hB3 (Nat.le_refl _)
  clear hb hB2 hT2
  go_wp2_with fail
  refine (toInt_is Hx.out (Bx.small (by decide)) Fx (by omega) _ hT3).mono ?_
  rintro e w4 ⟨rfl, hb⟩
  have hB4 := kb_call hb hB3 (Nat.le_refl _)
  have hT4 := hE.below hB4 (Nat.le_refl _)
  clear hb hB3 hT3
  obtain ⟨sa, Ha⟩ : ∃ s : ByteArray, Hid (s = I (x + y)) := ⟨_, rfl⟩
  have Ba : Bd 21 (x + y) := Bd.add (k := 20) Bx By
  go_wp2_with fail
  refine (add_is Hx.out Hy.out (Bx.small (by decide)) (By.small (by decide)) _ hT4.env (x + y) _ (rfl) Ha.out (Ba.small (by decide))).mono ?_
  rintro e w5 ⟨rfl, hb⟩
  have hB5 := kb_call hb hB4 (Nat.le_refl _)
  have hT5 := hE.below hB5 (Nat.le_refl _)
  clear hb hB4 hT4
  obtain ⟨ss, Hs⟩ : ∃ s : ByteArray, Hid (s = I (x - y)) := ⟨_, rfl⟩
  have Bs : Bd 21 (x - y) := Bd.sub (k := 20) Bx By
  go_wp2_with fail
  refine (sub_is Hx.out Hy.out (Bx.small (by decide)) (By.small (by decide)) _ hT5.env (x - y) _ (rfl) Hs.out (Bs.small (by decide))).mono ?_
  rintro e w6 ⟨rfl, hb⟩
  have hB6 := kb_call hb hB5 (Nat.le_refl _)
  have hT6 := hE.below hB6 (Nat.le_refl _)
  clear hb hB5 hT5
  obtain ⟨sm, Hm⟩ : ∃ s : ByteArray, Hid (s = I (x * y)) := ⟨_, rfl⟩
  have Bm : Bd 40 (x * y) := Bx.mul By
  go_wp2_with fail
  refine (mul_is Hx.out Hy.out (Bx.small (by decide)) (By.small (by decide)) _ hT6.env (x * y) _ (rfl) Hm.out (Bm.small (by decide))).mono ?_
  rintro e w7 ⟨rfl, hb⟩
  have hB7 := kb_call hb hB6 (Nat.le_refl _)
  have hT7 := hE.below hB7 (Nat.le_refl _)
  clear hb hB6 hT6
  go_wp2_with fail
  refine (fromInt_is (x + y) Fa _ hT7.env).mono ?_
  rintro e w8 ⟨rfl, hb⟩
  rw [← Ha.out]
  have hB8 := kb_call hb hB7 (Nat.le_refl _)
  have hT8 := hE.below hB8 (Nat.le_refl _)
  clear hb hB7 hT7
  go_wp2_with fail
  refine (fromInt_is (x - y) Fs _ hT8.env).mono ?_
  rintro e w9 ⟨rfl, hb⟩
  rw [← Hs.out]
  have hB9 := kb_call hb hB8 (Nat.le_refl _)
  have hT9 := hE.below hB9 (Nat.le_refl _)
  clear hb hB8 hT8
  go_wp2_with fail
  refine (fromInt_is (x * y) Fm _ hT9.env).mono ?_
  rintro e w10 ⟨rfl, hb⟩
  rw [← Hm.out]
  have hB10 := kb_call hb hB9 (Nat.le_refl _)
  have hT10 := hE.below hB10 (Nat.le_refl _)
  clear hb hB9 hT9
  go_wp2_with fail
  refine (cmp_is Hx.out Hy.out (Bx.small (by decide)) (By.small (by decide)) _ (-1) ((compareInt_lt HX.out).symm)).mono ?_
  rintro e w11 ⟨rfl, hb⟩
  have hB11 := kb_call hb hB10 (Nat.le_refl _)
  have hT11 := hE.below hB11 (Nat.le_refl _)
  clear hb hB10 hT10
  rcases hy with hy | hy
  · have Hy0 := Lib.hid hy
    have hyb : (y == 0) = true := by simp [hy]
    clear hy
    go_wp2_with fail
    refine (div_no Hx.out Hy.out (Bx.small (by decide)) (By.small (by decide)) _ hT11.env Hy0.out).mono ?_
    rintro e w12 ⟨rfl, hb⟩
    have hB12 := kb_call hb hB11 (Nat.le_refl _)
    have hT12 := hE.below hB12 (Nat.le_refl _)
    clear hb hB11 hT11
    go_wp2
    go_ret
    exact ⟨rfl, hB12⟩
  · obtain ⟨hy, hcase⟩ := hy
    have Hy0 := Lib.hid hy
    have hyb : (y == 0) = false := by simp [hy]
    clear hy
    obtain ⟨sq, Hq⟩ : ∃ s : ByteArray, Hid (s = I (x / y)) := ⟨_, rfl⟩
    obtain ⟨sr, Hr⟩ : ∃ s : ByteArray, Hid (s = I (x % y)) := ⟨_, rfl⟩
    go_wp2_with fail
    refine (div_is Hx.out Hy.out (Bx.small (by decide)) (By.small (by decide)) _ hT11.env _ _ _ _ Hy0.out rfl rfl Hq.out Hr.out).mono ?_
    rintro e w12 ⟨rfl, hb⟩
    have hB12 := kb_call hb hB11 (Nat.le_refl _)
    have hT12 := hE.below hB12 (Nat.le_refl _)
    clear hb hB11 hT11
    rcases hcase with ⟨h1, h2, h3, h4, h5, h6⟩ | ⟨h1, h2, h3, h4, h5, h6, h7, h8⟩ | ⟨h1, h2, h3, h4, h5, h6, h7⟩
    · have E1 := Lib.hid (congrArg I h1)
      have E2 := Lib.hid (congrArg I h2)
      have F1 : Fits (x.tdiv y) := ⟨by omega, by omega⟩
      have F2 : Fits (x.tmod y) := ⟨by omega, by omega⟩
      clear h1 h2
      go_wp2_with fail
      refine (fromInt_is (x.tdiv y) F1 _ hT12.env).mono ?_
      rintro e w13 ⟨rfl, hb⟩
      rw [← E1.out, ← Hq.out]
      have hB13 := kb_call hb hB12 (Nat.le_refl _)
      have hT13 := hE.below hB13 (Nat.le_refl _)
      clear hb hB12 hT12
      go_wp2_with fail
      refine (fromInt_is (x.tmod y) F2 _ hT13.env).mono ?_
      rintro e w14 ⟨rfl, hb⟩
      rw [← E2.out, ← Hr.out]
      have hB14 := kb_call hb hB13 (Nat.le_refl _)
      have hT14 := hE.below hB14 (Nat.le_refl _)
      clear hb hB13 hT13
      go_wp2
      go_ret
      exact ⟨rfl, hB14⟩
    · have E1 := Lib.hid (congrArg I h1)
      have E2 := Lib.hid (congrArg I h2)
      have F1 : Fits (x.tdiv y - 1) := ⟨by omega, by omega⟩
      have F2 : Fits (x.tmod y + y) := ⟨by omega, by omega⟩
      clear h1 h2
      go_wp2_with fail
      refine (fromInt_is (x.tdiv y - 1) F1 _ hT12.env).mono ?_
      rintro e w13 ⟨rfl, hb⟩
      rw [← E1.out, ← Hq.out]
      have hB13 := kb_call hb hB12 (Nat.le_refl _)
      have hT13 := hE.below hB13 (Nat.le_refl _)
      clear hb hB12 hT12
      go_wp2_with fail
      refine (fromInt_is (x.tmod y + y) F2 _ hT13.env).mono ?_
      rintro e w14 ⟨rfl, hb⟩
      rw [← E2.out, ← Hr.out]
      have hB14 := kb_call hb hB13 (Nat.le_refl _)
      have hT14 := hE.below hB14 (Nat.le_refl _)
      clear hb hB13 hT13
      go_wp2
      go_ret
      exact ⟨rfl, hB14⟩
    · have E1 := Lib.hid (congrArg I h1)
      have E2 := Lib.hid (congrArg I h2)
      have F1 : Fits (x.tdiv y + 1) := ⟨by omega, by omega⟩
      have F2 : Fits (x.tmod y - y) := ⟨by omega, by omega⟩
      clear h1 h2
      go_wp2_with fail
      refine (fromInt_is (x.tdiv y + 1) F1 _ hT12.env).mono ?_
      rintro e w13 ⟨rfl, hb⟩
      rw [← E1.out, ← Hq.out]
      have hB13 := kb_call hb hB12 (Nat.le_refl _)
      have hT13 := hE.below hB13 (Nat.le_refl _)
      clear hb hB12 hT12
      go_wp2_with fail
      refine (fromInt_is (x.tmod y - y) F2 _ hT13.env).mono ?_
      rintro e w14 ⟨rfl, hb⟩
      rw [← E2.out, ← Hr.out]
      have hB14 := kb_call hb hB13 (Nat.le_refl _)
      have hT14 := hE.below hB14 (Nat.le_refl _)
      clear hb hB13 hT13
      go_wp2
      go_ret
      exact ⟨rfl, hB14⟩
set_option maxRecDepth 100000 in
set_option maxHeartbeats 16000000 in
theorem machine_eq (x y : Int) (hx0 : -2147483648 ≤ x) (hx1 : x ≤ 2147483647) (hy0 : -2147483648 ≤ y) (hy1 : y ≤ 2147483647) (hxy : x = y) (hy : y = 0 ∨ y ≠ 0 ∧ DivCase x y) (w : World) (hE : EnvT w) :
    Calls Tryz.prog 10 #[.int .i32 x, .int .i32 y] w (Rets w (.bool true)) := by
  have Fx : Fits x := ⟨by omega, by omega⟩
  have Fy : Fits y := ⟨by omega, by omega⟩
  have Fa : Fits (x + y) := ⟨by omega, by omega⟩
  have Fs : Fits (x - y) := ⟨by omega, by omega⟩
  obtain ⟨hm0, hm1⟩ := mul_bounds hx0 hx1 hy0 hy1
  have Fm : Fits (x * y) := ⟨by omega, by omega⟩
  have Bx : Bd 20 x := fits_bd Fx
  have By : Bd 20 y := fits_bd Fy
  have Hl : (I x).size ≤ 21 := I_size Bx (by decide)
  obtain ⟨sx, Hx⟩ : ∃ s : ByteArray, Hid (s = I x) := ⟨_, rfl⟩
  obtain ⟨sy, Hy⟩ : ∃ s : ByteArray, Hid (s = I y) := ⟨_, rfl⟩
  rw [← Hx.out] at Hl
  have HX := Lib.hid hxy
  have hle1 : x ≤ y := by omega
  have hle2 : y ≤ x := by omega
  clear hxy
  have hB0 := Below.refl w.heap.size w
  have hT0 := hE
  go_enter Tryz.func10, Tryz.ntmps10
  go_wp2_with fail
  refine (sane_any _ hT0.env).mono ?_
  rintro e w1 ⟨rfl, hb⟩
  have hB1 := kb_call hb hB0 (Nat.le_refl _)
  have hT1 := hE.below hB1 (Nat.le_refl _)
  clear hb hB0 hT0
  go_wp2_with fail
  refine (fromInt_is x Fx _ hT1.env).mono ?_
  rintro e w2 ⟨rfl, hb⟩
  rw [← Hx.out]
  have hB2 := kb_call hb hB1 (Nat.le_refl _)
  have hT2 := hE.below hB2 (Nat.le_refl _)
  clear hb hB1 hT1
  go_wp2_with fail
  refine (fromInt_is y Fy _ hT2.env).mono ?_
  rintro e w3 ⟨rfl, hb⟩
  rw [← Hy.out]
  have hB3 := kb_call hb hB2 (Nat.le_refl _)
  have hT3 := hE.below hB3 (Nat.le_refl _)
  clear hb hB2 hT2
  go_wp2_with fail
  refine (toInt_is Hx.out (Bx.small (by decide)) Fx (by omega) _ hT3).mono ?_
  rintro e w4 ⟨rfl, hb⟩
  have hB4 := kb_call hb hB3 (Nat.le_refl _)
  have hT4 := hE.below hB4 (Nat.le_refl _)
  clear hb hB3 hT3
  obtain ⟨sa, Ha⟩ : ∃ s : ByteArray, Hid (s = I (x + y)) := ⟨_, rfl⟩
  have Ba : Bd 21 (x + y) := Bd.add (k := 20) Bx By
  go_wp2_with fail
  refine (add_is Hx.out Hy.out (Bx.small (by decide)) (By.small (by decide)) _ hT4.env (x + y) _ (rfl) Ha.out (Ba.small (by decide))).mono ?_
  rintro e w5 ⟨rfl, hb⟩
  have hB5 := kb_call hb hB4 (Nat.le_refl _)
  have hT5 := hE.below hB5 (Nat.le_refl _)
  clear hb hB4 hT4
  obtain ⟨ss, Hs⟩ : ∃ s : ByteArray, Hid (s = I (x - y)) := ⟨_, rfl⟩
  have Bs : Bd 21 (x - y) := Bd.sub (k := 20) Bx By
  go_wp2_with fail
  refine (sub_is Hx.out Hy.out (Bx.small (by decide)) (By.small (by decide)) _ hT5.env (x - y) _ (rfl) Hs.out (Bs.small (by decide))).mono ?_
  rintro e w6 ⟨rfl, hb⟩
  have hB6 := kb_call hb hB5 (Nat.le_refl _)
  have hT6 := hE.below hB6 (Nat.le_refl _)
  clear hb hB5 hT5
  obtain ⟨sm, Hm⟩ : ∃ s : ByteArray, Hid (s = I (x * y)) := ⟨_, rfl⟩
  have Bm : Bd 40 (x * y) := Bx.mul By
  go_wp2_with fail
  refine (mul_is Hx.out Hy.out (Bx.small (by decide)) (By.small (by decide)) _ hT6.env (x * y) _ (rfl) Hm.out (Bm.small (by decide))).mono ?_
  rintro e w7 ⟨rfl, hb⟩
  have hB7 := kb_call hb hB6 (Nat.le_refl _)
  have hT7 := hE.below hB7 (Nat.le_refl _)
  clear hb hB6 hT6
  go_wp2_with fail
  refine (fromInt_is (x + y) Fa _ hT7.env).mono ?_
  rintro e w8 ⟨rfl, hb⟩
  rw [← Ha.out]
  have hB8 := kb_call hb hB7 (Nat.le_refl _)
  have hT8 := hE.below hB8 (Nat.le_refl _)
  clear hb hB7 hT7
  go_wp2_with fail
  refine (fromInt_is (x - y) Fs _ hT8.env).mono ?_
  rintro e w9 ⟨rfl, hb⟩
  rw [← Hs.out]
  have hB9 := kb_call hb hB8 (Nat.le_refl _)
  have hT9 := hE.below hB9 (Nat.le_refl _)
  clear hb hB8 hT8
  go_wp2_with fail
  refine (fromInt_is (x * y) Fm _ hT9.env).mono ?_
  rintro e w10 ⟨rfl, hb⟩
  rw [← Hm.out]
  have hB10 := kb_call hb hB9 (Nat.le_refl _)
  have hT10 := hE.below hB10 (Nat.le_refl _)
  clear hb hB9 hT9
  go_wp2_with fail
  refine (cmp_is Hx.out Hy.out (Bx.small (by decide)) (By.small (by decide)) _ 0 (by rw [HX.out]; exact (compareInt_eq _).symm)).mono ?_
  rintro e w11 ⟨rfl, hb⟩
  have hB11 := kb_call hb hB10 (Nat.le_refl _)
  have hT11 := hE.below hB11 (Nat.le_refl _)
  clear hb hB10 hT10
  rcases hy with hy | hy
  · have Hy0 := Lib.hid hy
    have hyb : (y == 0) = true := by simp [hy]
    clear hy
    go_wp2_with fail
    refine (div_no Hx.out Hy.out (Bx.small (by decide)) (By.small (by decide)) _ hT11.env Hy0.out).mono ?_
    rintro e w12 ⟨rfl, hb⟩
    have hB12 := kb_call hb hB11 (Nat.le_refl _)
    have hT12 := hE.below hB12 (Nat.le_refl _)
    clear hb hB11 hT11
    go_wp2
    go_ret
    exact ⟨rfl, hB12⟩
  · obtain ⟨hy, hcase⟩ := hy
    have Hy0 := Lib.hid hy
    have hyb : (y == 0) = false := by simp [hy]
    clear hy
    obtain ⟨sq, Hq⟩ : ∃ s : ByteArray, Hid (s = I (x / y)) := ⟨_, rfl⟩
    obtain ⟨sr, Hr⟩ : ∃ s : ByteArray, Hid (s = I (x % y)) := ⟨_, rfl⟩
    go_wp2_with fail
    refine (div_is Hx.out Hy.out (Bx.small (by decide)) (By.small (by decide)) _ hT11.env _ _ _ _ Hy0.out rfl rfl Hq.out Hr.out).mono ?_
    rintro e w12 ⟨rfl, hb⟩
    have hB12 := kb_call hb hB11 (Nat.le_refl _)
    have hT12 := hE.below hB12 (Nat.le_refl _)
    clear hb hB11 hT11
    rcases hcase with ⟨h1, h2, h3, h4, h5, h6⟩ | ⟨h1, h2, h3, h4, h5, h6, h7, h8⟩ | ⟨h1, h2, h3, h4, h5, h6, h7⟩
    · have E1 := Lib.hid (congrArg I h1)
      have E2 := Lib.hid (congrArg I h2)
      have F1 : Fits (x.tdiv y) := ⟨by omega, by omega⟩
      have F2 : Fits (x.tmod y) := ⟨by omega, by omega⟩
      clear h1 h2
      go_wp2_with fail
      refine (fromInt_is (x.tdiv y) F1 _ hT12.env).mono ?_
      rintro e w13 ⟨rfl, hb⟩
      rw [← E1.out, ← Hq.out]
      have hB13 := kb_call hb hB12 (Nat.le_refl _)
      have hT13 := hE.below hB13 (Nat.le_refl _)
      clear hb hB12 hT12
      go_wp2_with fail
      refine (fromInt_is (x.tmod y) F2 _ hT13.env).mono ?_
      rintro e w14 ⟨rfl, hb⟩
      rw [← E2.out, ← Hr.out]
      have hB14 := kb_call hb hB13 (Nat.le_refl _)
      have hT14 := hE.below hB14 (Nat.le_refl _)
      clear hb hB13 hT13
      go_wp2
      go_ret
      exact ⟨rfl, hB14⟩
    · exact absurd (Int.tmod_nonneg y (show 0 ≤ x by have := HX.out; omega)) (by omega)
    · have E1 := Lib.hid (congrArg I h1)
      have E2 := Lib.hid (congrArg I h2)
      have F1 : Fits (x.tdiv y + 1) := ⟨by omega, by omega⟩
      have F2 : Fits (x.tmod y - y) := ⟨by omega, by omega⟩
      clear h1 h2
      go_wp2_with fail
      refine (fromInt_is (x.tdiv y + 1) F1 _ hT12.env).mono ?_
      rintro e w13 ⟨rfl, hb⟩
      rw [← E1.out, ← Hq.out]
      have hB13 := kb_call hb hB12 (Nat.le_refl _)
      have hT13 := hE.below hB13 (Nat.le_refl _)
      clear hb hB12 hT12
      go_wp2_with fail
      refine (fromInt_is (x.tmod y - y) F2 _ hT13.env).mono ?_
      rintro e w14 ⟨rfl, hb⟩
      rw [← E2.out, ← Hr.out]
      have hB14 := kb_call hb hB13 (Nat.le_refl _)
      have hT14 := hE.below hB14 (Nat.le_refl _)
      clear hb hB13 hT13
      go_wp2
      go_ret
      exact ⟨rfl, hB14⟩
set_option maxRecDepth 100000 in
set_option maxHeartbeats 16000000 in
theorem machine_gt (x y : Int) (hx0 : -2147483648 ≤ x) (hx1 : x ≤ 2147483647) (hy0 : -2147483648 ≤ y) (hy1 : y ≤ 2147483647) (hxy : y < x) (hy : y = 0 ∨ y ≠ 0 ∧ DivCase x y) (w : World) (hE : EnvT w) :
    Calls Tryz.prog 10 #[.int .i32 x, .int .i32 y] w (Rets w (.bool true)) := by
  have Fx : Fits x := ⟨by omega, by omega⟩
  have Fy : Fits y := ⟨by omega, by omega⟩
  have Fa : Fits (x + y) := ⟨by omega, by omega⟩
  have Fs : Fits (x - y) := ⟨by omega, by omega⟩
  obtain ⟨hm0, hm1⟩ := mul_bounds hx0 hx1 hy0 hy1
  have Fm : Fits (x * y) := ⟨by omega, by omega⟩
  have Bx : Bd 20 x := fits_bd Fx
  have By : Bd 20 y := fits_bd Fy
  have Hl : (I x).size ≤ 21 := I_size Bx (by decide)
  obtain ⟨sx, Hx⟩ : ∃ s : ByteArray, Hid (s = I x) := ⟨_, rfl⟩
  obtain ⟨sy, Hy⟩ : ∃ s : ByteArray, Hid (s = I y) := ⟨_, rfl⟩
  rw [← Hx.out] at Hl
  have HX := Lib.hid hxy
  have hB0 := Below.refl w.heap.size w
  have hT0 := hE
  go_enter Tryz.func10, Tryz.ntmps10
  go_wp2_with fail
  refine (sane_any _ hT0.env).mono ?_
  rintro e w1 ⟨rfl, hb⟩
  have hB1 := kb_call hb hB0 (Nat.le_refl _)
  have hT1 := hE.below hB1 (Nat.le_refl _)
  clear hb hB0 hT0
  go_wp2_with fail
  refine (fromInt_is x Fx _ hT1.env).mono ?_
  rintro e w2 ⟨rfl, hb⟩
  rw [← Hx.out]
  have hB2 := kb_call hb hB1 (Nat.le_refl _)
  have hT2 := hE.below hB2 (Nat.le_refl _)
  clear hb hB1 hT1
  go_wp2_with fail
  refine (fromInt_is y Fy _ hT2.env).mono ?_
  rintro e w3 ⟨rfl, hb⟩
  rw [← Hy.out]
  have hB3 := kb_call hb hB2 (Nat.le_refl _)
  have hT3 := hE.below hB3 (Nat.le_refl _)
  clear hb hB2 hT2
  go_wp2_with fail
  refine (toInt_is Hx.out (Bx.small (by decide)) Fx (by omega) _ hT3).mono ?_
  rintro e w4 ⟨rfl, hb⟩
  have hB4 := kb_call hb hB3 (Nat.le_refl _)
  have hT4 := hE.below hB4 (Nat.le_refl _)
  clear hb hB3 hT3
  obtain ⟨sa, Ha⟩ : ∃ s : ByteArray, Hid (s = I (x + y)) := ⟨_, rfl⟩
  have Ba : Bd 21 (x + y) := Bd.add (k := 20) Bx By
  go_wp2_with fail
  refine (add_is Hx.out Hy.out (Bx.small (by decide)) (By.small (by decide)) _ hT4.env (x + y) _ (rfl) Ha.out (Ba.small (by decide))).mono ?_
  rintro e w5 ⟨rfl, hb⟩
  have hB5 := kb_call hb hB4 (Nat.le_refl _)
  have hT5 := hE.below hB5 (Nat.le_refl _)
  clear hb hB4 hT4
  obtain ⟨ss, Hs⟩ : ∃ s : ByteArray, Hid (s = I (x - y)) := ⟨_, rfl⟩
  have Bs : Bd 21 (x - y) := Bd.sub (k := 20) Bx By
  go_wp2_with fail
  refine (sub_is Hx.out Hy.out (Bx.small (by decide)) (By.small (by decide)) _ hT5.env (x - y) _ (rfl) Hs.out (Bs.small (by decide))).mono ?_
  rintro e w6 ⟨rfl, hb⟩
  have hB6 := kb_call hb hB5 (Nat.le_refl _)
  have hT6 := hE.below hB6 (Nat.le_refl _)
  clear hb hB5 hT5
  obtain ⟨sm, Hm⟩ : ∃ s : ByteArray, Hid (s = I (x * y)) := ⟨_, rfl⟩
  have Bm : Bd 40 (x * y) := Bx.mul By
  go_wp2_with fail
  refine (mul_is Hx.out Hy.out (Bx.small (by decide)) (By.small (by decide)) _ hT6.env (x * y) _ (rfl) Hm.out (Bm.small (by decide))).mono ?_
  rintro e w7 ⟨rfl, hb⟩
  have hB7 := kb_call hb hB6 (Nat.le_refl _)
  have hT7 := hE.below hB7 (Nat.le_refl _)
  clear hb hB6 hT6
  go_wp2_with fail
  refine (fromInt_is (x + y) Fa _ hT7.env).mono ?_
  rintro e w8 ⟨rfl, hb⟩
  rw [← Ha.out]
  have hB8 := kb_call hb hB7 (Nat.le_refl _)
  have hT8 := hE.below hB8 (Nat.le_refl _)
  clear hb hB7 hT7
  go_wp2_with fail
  refine (fromInt_is (x - y) Fs _ hT8.env).mono ?_
  rintro e w9 ⟨rfl, hb⟩
  rw [← Hs.out]
  have hB9 := kb_call hb hB8 (Nat.le_refl _)
  have hT9 := hE.below hB9 (Nat.le_refl _)
  clear hb hB8 hT8
  go_wp2_with fail
  refine (fromInt_is (x * y) Fm _ hT9.env).mono ?_
  rintro e w10 ⟨rfl, hb⟩
  rw [← Hm.out]
  have hB10 := kb_call hb hB9 (Nat.le_refl _)
  have hT10 := hE.below hB10 (Nat.le_refl _)
  clear hb hB9 hT9
  go_wp2_with fail
  refine (cmp_is Hx.out Hy.out (Bx.small (by decide)) (By.small (by decide)) _ 1 ((compareInt_gt HX.out).symm)).mono ?_
  rintro e w11 ⟨rfl, hb⟩
  have hB11 := kb_call hb hB10 (Nat.le_refl _)
  have hT11 := hE.below hB11 (Nat.le_refl _)
  clear hb hB10 hT10
  rcases hy with hy | hy
  · have Hy0 := Lib.hid hy
    have hyb : (y == 0) = true := by simp [hy]
    clear hy
    go_wp2_with fail
    refine (div_no Hx.out Hy.out (Bx.small (by decide)) (By.small (by decide)) _ hT11.env Hy0.out).mono ?_
    rintro e w12 ⟨rfl, hb⟩
    have hB12 := kb_call hb hB11 (Nat.le_refl _)
    have hT12 := hE.below hB12 (Nat.le_refl _)
    clear hb hB11 hT11
    go_wp2
    go_ret
    exact ⟨rfl, hB12⟩
  · obtain ⟨hy, hcase⟩ := hy
    have Hy0 := Lib.hid hy
    have hyb : (y == 0) = false := by simp [hy]
    clear hy
    obtain ⟨sq, Hq⟩ : ∃ s : ByteArray, Hid (s = I (x / y)) := ⟨_, rfl⟩
    obtain ⟨sr, Hr⟩ : ∃ s : ByteArray, Hid (s = I (x % y)) := ⟨_, rfl⟩
    go_wp2_with fail
    refine (div_is Hx.out Hy.out (Bx.small (by decide)) (By.small (by decide)) _ hT11.env _ _ _ _ Hy0.out rfl rfl Hq.out Hr.out).mono ?_
    rintro e w12 ⟨rfl, hb⟩
    have hB12 := kb_call hb hB11 (Nat.le_refl _)
    have hT12 := hE.below hB12 (Nat.le_refl _)
    clear hb hB11 hT11
    rcases hcase with ⟨h1, h2, h3, h4, h5, h6⟩ | ⟨h1, h2, h3, h4, h5, h6, h7, h8⟩ | ⟨h1, h2, h3, h4, h5, h6, h7⟩
    · have E1 := Lib.hid (congrArg I h1)
      have E2 := Lib.hid (congrArg I h2)
      have F1 : Fits (x.tdiv y) := ⟨by omega, by omega⟩
      have F2 : Fits (x.tmod y) := ⟨by omega, by omega⟩
      clear h1 h2
      go_wp2_with fail
      refine (fromInt_is (x.tdiv y) F1 _ hT12.env).mono ?_
      rintro e w13 ⟨rfl, hb⟩
      rw [← E1.out, ← Hq.out]
      have hB13 := kb_call hb hB12 (Nat.le_refl _)
      have hT13 := hE.below hB13 (Nat.le_refl _)
      clear hb hB12 hT12
      go_wp2_with fail
      refine (fromInt_is (x.tmod y) F2 _ hT13.env).mono ?_
      rintro e w14 ⟨rfl, hb⟩
      rw [← E2.out, ← Hr.out]
      have hB14 := kb_call hb hB13 (Nat.le_refl _)
      have hT14 := hE.below hB14 (Nat.le_refl _)
      clear hb hB13 hT13
      go_wp2
      go_ret
      exact ⟨rfl, hB14⟩
    · exact absurd (Int.tmod_nonneg y (show 0 ≤ x by have := HX.out; omega)) (by omega)
    · have E1 := Lib.hid (congrArg I h1)
      have E2 := Lib.hid (congrArg I h2)
      have F1 : Fits (x.tdiv y + 1) := ⟨by omega, by omega⟩
      have F2 : Fits (x.tmod y - y) := ⟨by omega, by omega⟩
      clear h1 h2
      go_wp2_with fail
      refine (fromInt_is (x.tdiv y + 1) F1 _ hT12.env).mono ?_
      rintro e w13 ⟨rfl, hb⟩
      rw [← E1.out, ← Hq.out]
      have hB13 := kb_call hb hB12 (Nat.le_refl _)
      have hT13 := hE.below hB13 (Nat.le_refl _)
      clear hb hB12 hT12
      go_wp2_with fail
      refine (fromInt_is (x.tmod y - y) F2 _ hT13.env).mono ?_
      rintro e w14 ⟨rfl, hb⟩
      rw [← E2.out, ← Hr.out]
      have hB14 := kb_call hb hB13 (Nat.le_refl _)
      have hT14 := hE.below hB14 (Nat.le_refl _)
      clear hb hB13 hT13
      go_wp2
      go_ret
      exact ⟨rfl, hB14⟩
/-- IntegerMachine. -/
theorem machine_law (x y : Int) (hx0 : -2147483648 ≤ x) (hx1 : x ≤ 2147483647) (hy0 : -2147483648 ≤ y) (hy1 : y ≤ 2147483647) (w : World) (hE : EnvT w) :
    Calls Tryz.prog 10 #[.int .i32 x, .int .i32 y] w (Rets w (.bool true)) := by
  have hc : y = 0 ∨ y ≠ 0 ∧ DivCase x y := by
    by_cases h : y = 0
    · exact .inl h
    · exact .inr ⟨h, divCase hx0 hx1 hy0 hy1 h⟩
  rcases Int.lt_trichotomy x y with h | h | h
  · exact machine_lt x y hx0 hx1 hy0 hy1 h hc w hE
  · exact machine_eq x y hx0 hx1 hy0 hy1 h hc w hE
  · exact machine_gt x y hx0 hx1 hy0 hy1 h hc w hE
end Go.Proofs.YtbnilfjhalildaaGreatDoor
