/- IntegerRing: the walk. -/
import Derived.Test.YtbnilfjhalildaaGreatDoorSane
namespace Go.Proofs.YtbnilfjhalildaaGreatDoor
open Go.RowKit
attribute [local go_sem] Oper.semAt_some

set_option maxRecDepth 100000 in
set_option maxHeartbeats 16000000 in
theorem ring_law (a b c : ByteArray) (ha : a.size ≤ 9223372036854775807) (hb : b.size ≤ 9223372036854775807) (hc : c.size ≤ 9223372036854775807) (w : World) (hE : EnvT w) :
    Calls Tryz.prog 3 #[.string a, .string b, .string c] w (Rets w (.bool true)) := by
  have Hi1 := Lib.hid (lit_I [49] (1) (by decide +kernel) (by decide +kernel))
  have Bi1 : Bd 20 (1) := by unfold Bd; decide
  have Hi0 := Lib.hid (lit_I [48] (0) (by decide +kernel) (by decide +kernel))
  have Bi0 : Bd 20 (0) := by unfold Bd; decide
  have hB0 := Below.refl w.heap.size w
  have hT0 := hE
  go_enter Tryz.func3, Tryz.ntmps3
  go_wp2_with fail
  refine (sane_any _ hT0.env).mono ?_
  rintro e w1 ⟨rfl, hb⟩
  have hB1 := kb_call hb hB0 (Nat.le_refl _)
  have hT1 := hE.below hB1 (Nat.le_refl _)
  clear hb hB0 hT0
  go_wp2_with fail
  refine (made_is a ha 60 (by decide) _).mono ?_
  rintro e w2 ⟨x, rfl, Bx, hb⟩
  obtain ⟨sx, Hx⟩ : ∃ s : ByteArray, Hid (s = I x) := ⟨_, rfl⟩
  rw [← Hx.out]
  have hB2 := kb_call hb hB1 (Nat.le_refl _)
  have hT2 := hE.below hB2 (Nat.le_refl _)
  clear hb hB1 hT1
  go_wp2_with fail
  refine (made_is b hb 60 (by decide) _).mono ?_
  rintro e w3 ⟨y, rfl, By, hb⟩
  obtain ⟨sy, Hy⟩ : ∃ s : ByteArray, Hid (s = I y) := ⟨_, rfl⟩
  rw [← Hy.out]
  have hB3 := kb_call hb hB2 (Nat.le_refl _)
  have hT3 := hE.below hB3 (Nat.le_refl _)
  clear hb hB2 hT2
  go_wp2_with fail
  refine (made_is c hc 60 (by decide) _).mono ?_
  rintro e w4 ⟨z, rfl, Bz, hb⟩
  obtain ⟨sz, Hz⟩ : ∃ s : ByteArray, Hid (s = I z) := ⟨_, rfl⟩
  rw [← Hz.out]
  have hB4 := kb_call hb hB3 (Nat.le_refl _)
  have hT4 := hE.below hB4 (Nat.le_refl _)
  clear hb hB3 hT3
  obtain ⟨sxy, Hxy⟩ : ∃ s : ByteArray, Hid (s = I (x + y)) := ⟨_, rfl⟩
  have Bxy : Bd 61 (x + y) := Bd.add (k := 60) Bx By
  go_wp2_with fail
  refine (add_is Hx.out Hy.out (Bx.small (by decide)) (By.small (by decide)) _ hT4.env (x + y) _ (rfl) Hxy.out (Bxy.small (by decide))).mono ?_
  rintro e w5 ⟨rfl, hb⟩
  have hB5 := kb_call hb hB4 (Nat.le_refl _)
  have hT5 := hE.below hB5 (Nat.le_refl _)
  clear hb hB4 hT4
  go_wp2_with fail
  refine (add_is Hy.out Hx.out (By.small (by decide)) (Bx.small (by decide)) _ hT5.env (x + y) _ (Int.add_comm _ _) Hxy.out (Bxy.small (by decide))).mono ?_
  rintro e w6 ⟨rfl, hb⟩
  have hB6 := kb_call hb hB5 (Nat.le_refl _)
  have hT6 := hE.below hB6 (Nat.le_refl _)
  clear hb hB5 hT5
  obtain ⟨sxyz, Hxyz⟩ : ∃ s : ByteArray, Hid (s = I ((x + y) + z)) := ⟨_, rfl⟩
  have Bxyz : Bd 62 ((x + y) + z) := Bd.add (k := 61) Bxy (Bz.mono (by decide))
  go_wp2_with fail
  refine (add_is Hxy.out Hz.out (Bxy.small (by decide)) (Bz.small (by decide)) _ hT6.env ((x + y) + z) _ (rfl) Hxyz.out (Bxyz.small (by decide))).mono ?_
  rintro e w7 ⟨rfl, hb⟩
  have hB7 := kb_call hb hB6 (Nat.le_refl _)
  have hT7 := hE.below hB7 (Nat.le_refl _)
  clear hb hB6 hT6
  obtain ⟨syz, Hyz⟩ : ∃ s : ByteArray, Hid (s = I (y + z)) := ⟨_, rfl⟩
  have Byz : Bd 61 (y + z) := Bd.add (k := 60) By Bz
  go_wp2_with fail
  refine (add_is Hy.out Hz.out (By.small (by decide)) (Bz.small (by decide)) _ hT7.env (y + z) _ (rfl) Hyz.out (Byz.small (by decide))).mono ?_
  rintro e w8 ⟨rfl, hb⟩
  have hB8 := kb_call hb hB7 (Nat.le_refl _)
  have hT8 := hE.below hB8 (Nat.le_refl _)
  clear hb hB7 hT7
  go_wp2_with fail
  refine (add_is Hx.out Hyz.out (Bx.small (by decide)) (Byz.small (by decide)) _ hT8.env ((x + y) + z) _ (Int.add_assoc _ _ _) Hxyz.out (Bxyz.small (by decide))).mono ?_
  rintro e w9 ⟨rfl, hb⟩
  have hB9 := kb_call hb hB8 (Nat.le_refl _)
  have hT9 := hE.below hB9 (Nat.le_refl _)
  clear hb hB8 hT8
  obtain ⟨sp, Hp⟩ : ∃ s : ByteArray, Hid (s = I (x * y)) := ⟨_, rfl⟩
  have Bp : Bd 120 (x * y) := Bx.mul By
  go_wp2_with fail
  refine (mul_is Hx.out Hy.out (Bx.small (by decide)) (By.small (by decide)) _ hT9.env (x * y) _ (rfl) Hp.out (Bp.small (by decide))).mono ?_
  rintro e w10 ⟨rfl, hb⟩
  have hB10 := kb_call hb hB9 (Nat.le_refl _)
  have hT10 := hE.below hB10 (Nat.le_refl _)
  clear hb hB9 hT9
  go_wp2_with fail
  refine (mul_is Hy.out Hx.out (By.small (by decide)) (Bx.small (by decide)) _ hT10.env (x * y) _ (Int.mul_comm _ _) Hp.out (Bp.small (by decide))).mono ?_
  rintro e w11 ⟨rfl, hb⟩
  have hB11 := kb_call hb hB10 (Nat.le_refl _)
  have hT11 := hE.below hB11 (Nat.le_refl _)
  clear hb hB10 hT10
  obtain ⟨spz, Hpz⟩ : ∃ s : ByteArray, Hid (s = I ((x * y) * z)) := ⟨_, rfl⟩
  have Bpz : Bd 180 ((x * y) * z) := Bp.mul Bz
  go_wp2_with fail
  refine (mul_is Hp.out Hz.out (Bp.small (by decide)) (Bz.small (by decide)) _ hT11.env ((x * y) * z) _ (rfl) Hpz.out (Bpz.small (by decide))).mono ?_
  rintro e w12 ⟨rfl, hb⟩
  have hB12 := kb_call hb hB11 (Nat.le_refl _)
  have hT12 := hE.below hB12 (Nat.le_refl _)
  clear hb hB11 hT11
  obtain ⟨sr, Hr⟩ : ∃ s : ByteArray, Hid (s = I (y * z)) := ⟨_, rfl⟩
  have Br : Bd 120 (y * z) := By.mul Bz
  go_wp2_with fail
  refine (mul_is Hy.out Hz.out (By.small (by decide)) (Bz.small (by decide)) _ hT12.env (y * z) _ (rfl) Hr.out (Br.small (by decide))).mono ?_
  rintro e w13 ⟨rfl, hb⟩
  have hB13 := kb_call hb hB12 (Nat.le_refl _)
  have hT13 := hE.below hB13 (Nat.le_refl _)
  clear hb hB12 hT12
  go_wp2_with fail
  refine (mul_is Hx.out Hr.out (Bx.small (by decide)) (Br.small (by decide)) _ hT13.env ((x * y) * z) _ (Int.mul_assoc _ _ _) Hpz.out (Bpz.small (by decide))).mono ?_
  rintro e w14 ⟨rfl, hb⟩
  have hB14 := kb_call hb hB13 (Nat.le_refl _)
  have hT14 := hE.below hB14 (Nat.le_refl _)
  clear hb hB13 hT13
  obtain ⟨sl, Hl⟩ : ∃ s : ByteArray, Hid (s = I ((x + y) * z)) := ⟨_, rfl⟩
  have Bl : Bd 121 ((x + y) * z) := Bxy.mul Bz
  go_wp2_with fail
  refine (mul_is Hxy.out Hz.out (Bxy.small (by decide)) (Bz.small (by decide)) _ hT14.env ((x + y) * z) _ (rfl) Hl.out (Bl.small (by decide))).mono ?_
  rintro e w15 ⟨rfl, hb⟩
  have hB15 := kb_call hb hB14 (Nat.le_refl _)
  have hT15 := hE.below hB15 (Nat.le_refl _)
  clear hb hB14 hT14
  obtain ⟨sxz, Hxz⟩ : ∃ s : ByteArray, Hid (s = I (x * z)) := ⟨_, rfl⟩
  have Bxz : Bd 120 (x * z) := Bx.mul Bz
  go_wp2_with fail
  refine (mul_is Hx.out Hz.out (Bx.small (by decide)) (Bz.small (by decide)) _ hT15.env (x * z) _ (rfl) Hxz.out (Bxz.small (by decide))).mono ?_
  rintro e w16 ⟨rfl, hb⟩
  have hB16 := kb_call hb hB15 (Nat.le_refl _)
  have hT16 := hE.below hB16 (Nat.le_refl _)
  clear hb hB15 hT15
  go_wp2_with fail
  refine (add_is Hxz.out Hr.out (Bxz.small (by decide)) (Br.small (by decide)) _ hT16.env ((x + y) * z) _ (Int.add_mul _ _ _) Hl.out (Bl.small (by decide))).mono ?_
  rintro e w17 ⟨rfl, hb⟩
  have hB17 := kb_call hb hB16 (Nat.le_refl _)
  have hT17 := hE.below hB17 (Nat.le_refl _)
  clear hb hB16 hT16
  obtain ⟨sd, Hd⟩ : ∃ s : ByteArray, Hid (s = I (x - y)) := ⟨_, rfl⟩
  have Bd : Bd 61 (x - y) := Bd.sub (k := 60) Bx By
  go_wp2_with fail
  refine (sub_is Hx.out Hy.out (Bx.small (by decide)) (By.small (by decide)) _ hT17.env (x - y) _ (rfl) Hd.out (Bd.small (by decide))).mono ?_
  rintro e w18 ⟨rfl, hb⟩
  have hB18 := kb_call hb hB17 (Nat.le_refl _)
  have hT18 := hE.below hB18 (Nat.le_refl _)
  clear hb hB17 hT17
  go_wp2_with fail
  refine (add_is Hd.out Hy.out (Bd.small (by decide)) (By.small (by decide)) _ hT18.env x _ (by omega) Hx.out (Bx.small (by decide))).mono ?_
  rintro e w19 ⟨rfl, hb⟩
  have hB19 := kb_call hb hB18 (Nat.le_refl _)
  have hT19 := hE.below hB19 (Nat.le_refl _)
  clear hb hB18 hT18
  go_wp2_with fail
  refine (mul_is Hx.out Hi1.out (Bx.small (by decide)) (Bi1.small (by decide)) _ hT19.env x _ ((Int.mul_one _).symm) Hx.out (Bx.small (by decide))).mono ?_
  rintro e w20 ⟨rfl, hb⟩
  have hB20 := kb_call hb hB19 (Nat.le_refl _)
  have hT20 := hE.below hB20 (Nat.le_refl _)
  clear hb hB19 hT19
  go_wp2_with fail
  refine (mul_is Hx.out Hi0.out (Bx.small (by decide)) (Bi0.small (by decide)) _ hT20.env (0) _ ((Int.mul_zero _).symm) Hi0.out (Bi0.small (by decide))).mono ?_
  rintro e w21 ⟨rfl, hb⟩
  have hB21 := kb_call hb hB20 (Nat.le_refl _)
  have hT21 := hE.below hB21 (Nat.le_refl _)
  clear hb hB20 hT20
  go_wp2
  go_ret
  exact ⟨rfl, hB21⟩
end Go.Proofs.YtbnilfjhalildaaGreatDoor
