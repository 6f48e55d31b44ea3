/- IntegerOrder: the walk. -/
import Derived.Test.YtbnilfjhalildaaGreatDoorTests
namespace Go.Proofs.YtbnilfjhalildaaGreatDoor
open Go.RowKit
attribute [local go_sem] Oper.semAt_some

set_option maxRecDepth 100000 in
set_option maxHeartbeats 16000000 in
theorem order_law (a b c : ByteArray) (ha : a.size ≤ 9223372036854775807) (hb : b.size ≤ 9223372036854775807) (hc : c.size ≤ 9223372036854775807) (w : World) (hE : EnvT w) :
    Calls Tryz.prog 7 #[.string a, .string b, .string c] w (Rets w (.bool true)) := by
  have Hi0 := Lib.hid (lit_I [48] (0) (by decide +kernel) (by decide +kernel))
  have Bi0 : Bd 20 (0) := by unfold Bd; decide
  have hB0 := Below.refl w.heap.size w
  have hT0 := hE
  go_enter Tryz.func7, Tryz.ntmps7
  go_wp2_with fail
  refine (sane_any _ hT0.env).mono ?_
  rintro e w1 ⟨rfl, hb⟩
  have hB1 := kb_call hb hB0 (Nat.le_refl _)
  have hT1 := hE.below hB1 (Nat.le_refl _)
  clear hb hB0 hT0
  go_wp2_with fail
  refine (made_is a ha 60 (by decide) _).mono ?_
  rintro e w2 ⟨x, rfl, Bx, hb⟩
  obtain ⟨sx, Hx⟩ : ∃ s : ByteArray, Hid (s = I x) := ⟨_, rfl⟩
  rw [← Hx.out]
  have hB2 := kb_call hb hB1 (Nat.le_refl _)
  have hT2 := hE.below hB2 (Nat.le_refl _)
  clear hb hB1 hT1
  go_wp2_with fail
  refine (made_is b hb 60 (by decide) _).mono ?_
  rintro e w3 ⟨y, rfl, By, hb⟩
  obtain ⟨sy, Hy⟩ : ∃ s : ByteArray, Hid (s = I y) := ⟨_, rfl⟩
  rw [← Hy.out]
  have hB3 := kb_call hb hB2 (Nat.le_refl _)
  have hT3 := hE.below hB3 (Nat.le_refl _)
  clear hb hB2 hT2
  go_wp2_with fail
  refine (made_is c hc 60 (by decide) _).mono ?_
  rintro e w4 ⟨z, rfl, Bz, hb⟩
  obtain ⟨sz, Hz⟩ : ∃ s : ByteArray, Hid (s = I z) := ⟨_, rfl⟩
  rw [← Hz.out]
  have hB4 := kb_call hb hB3 (Nat.le_refl _)
  have hT4 := hE.below hB4 (Nat.le_refl _)
  clear hb hB3 hT3
  rcases Int.lt_trichotomy x y with hx | hx | hx
  · have HX := Lib.hid hx
    have hne := str_ne Hx.out Hy.out (by omega)
    clear hx
    go_wp2_with fail
    refine (cmp_is Hx.out Hy.out (Bx.small (by decide)) (By.small (by decide)) _ _ ((compareInt_lt HX.out).symm)).mono ?_
    rintro e w5 ⟨rfl, hb⟩
    have hB5 := kb_call hb hB4 (Nat.le_refl _)
    have hT5 := hE.below hB5 (Nat.le_refl _)
    clear hb hB4 hT4
    obtain ⟨sdd, Hdd⟩ : ∃ s : ByteArray, Hid (s = I (x - y)) := ⟨_, rfl⟩
    have Bdd : Bd 61 (x - y) := Bd.sub (k := 60) Bx By
    go_wp2_with fail
    refine (sub_is Hx.out Hy.out (Bx.small (by decide)) (By.small (by decide)) _ hT5.env (x - y) _ (rfl) Hdd.out (Bdd.small (by decide))).mono ?_
    rintro e w6 ⟨rfl, hb⟩
    have hB6 := kb_call hb hB5 (Nat.le_refl _)
    have hT6 := hE.below hB6 (Nat.le_refl _)
    clear hb hB5 hT5
    obtain ⟨sxz, Hxz⟩ : ∃ s : ByteArray, Hid (s = I (x + z)) := ⟨_, rfl⟩
    have Bxz : Bd 61 (x + z) := Bd.add (k := 60) Bx Bz
    go_wp2_with fail
    refine (add_is Hx.out Hz.out (Bx.small (by decide)) (Bz.small (by decide)) _ hT6.env (x + z) _ (rfl) Hxz.out (Bxz.small (by decide))).mono ?_
    rintro e w7 ⟨rfl, hb⟩
    have hB7 := kb_call hb hB6 (Nat.le_refl _)
    have hT7 := hE.below hB7 (Nat.le_refl _)
    clear hb hB6 hT6
    obtain ⟨syz, Hyz⟩ : ∃ s : ByteArray, Hid (s = I (y + z)) := ⟨_, rfl⟩
    have Byz : Bd 61 (y + z) := Bd.add (k := 60) By Bz
    go_wp2_with fail
    refine (add_is Hy.out Hz.out (By.small (by decide)) (Bz.small (by decide)) _ hT7.env (y + z) _ (rfl) Hyz.out (Byz.small (by decide))).mono ?_
    rintro e w8 ⟨rfl, hb⟩
    have hB8 := kb_call hb hB7 (Nat.le_refl _)
    have hT8 := hE.below hB8 (Nat.le_refl _)
    clear hb hB7 hT7
    go_wp2_with fail
    refine (cmp_is Hy.out Hx.out (By.small (by decide)) (Bx.small (by decide)) _ _ ((compareInt_gt HX.out).symm)).mono ?_
    rintro e w9 ⟨rfl, hb⟩
    have hB9 := kb_call hb hB8 (Nat.le_refl _)
    have hT9 := hE.below hB9 (Nat.le_refl _)
    clear hb hB8 hT8
    go_wp2_with fail
    refine (cmp_is Hdd.out Hi0.out (Bdd.small (by decide)) (Bi0.small (by decide)) _ _ ((compareInt_lt (show x - y < 0 by have := HX.out; omega)).symm)).mono ?_
    rintro e w10 ⟨rfl, hb⟩
    have hB10 := kb_call hb hB9 (Nat.le_refl _)
    have hT10 := hE.below hB10 (Nat.le_refl _)
    clear hb hB9 hT9
    go_wp2_with fail
    refine (cmp_is Hxz.out Hyz.out (Bxz.small (by decide)) (Byz.small (by decide)) _ _ ((compareInt_lt (show x + z < y + z by have := HX.out; omega)).symm)).mono ?_
    rintro e w11 ⟨rfl, hb⟩
    have hB11 := kb_call hb hB10 (Nat.le_refl _)
    have hT11 := hE.below hB11 (Nat.le_refl _)
    clear hb hB10 hT10
    rcases Int.lt_or_le z y with hz | hz
    · have HZ := Lib.hid hz
      clear hz
      go_wp2_with fail
      refine (cmp_is Hy.out Hz.out (By.small (by decide)) (Bz.small (by decide)) _ _ ((compareInt_gt HZ.out).symm)).mono ?_
      rintro e w12 ⟨rfl, hb⟩
      have hB12 := kb_call hb hB11 (Nat.le_refl _)
      have hT12 := hE.below hB12 (Nat.le_refl _)
      clear hb hB11 hT11
      go_wp2
      go_ret
      exact ⟨rfl, hB12⟩
    · obtain ⟨c2, hc2, hc2', _⟩ := cmp_le hz
      have Hc2 := Lib.hid hc2
      have HZ := Lib.hid hz
      clear hc2 hz
      go_wp2_with fail
      refine (cmp_is Hy.out Hz.out (By.small (by decide)) (Bz.small (by decide)) _ c2 (Hc2.out)).mono ?_
      rintro e w12 ⟨rfl, hb⟩
      have hB12 := kb_call hb hB11 (Nat.le_refl _)
      have hT12 := hE.below hB12 (Nat.le_refl _)
      clear hb hB11 hT11
      go_wp2_with fail
      refine (cmp_is Hx.out Hz.out (Bx.small (by decide)) (Bz.small (by decide)) _ _ ((compareInt_lt (show x < z by have := HX.out; have := HZ.out; omega)).symm)).mono ?_
      rintro e w13 ⟨rfl, hb⟩
      have hB13 := kb_call hb hB12 (Nat.le_refl _)
      have hT13 := hE.below hB13 (Nat.le_refl _)
      clear hb hB12 hT12
      go_wp2
      go_ret
      exact ⟨rfl, hB13⟩
  · have e : sy = sx := Hy.out.trans (by rw [← hx]; exact Hx.out.symm)
    subst e hx
    go_wp2_with fail
    refine (cmp_is Hx.out Hx.out (Bx.small (by decide)) (Bx.small (by decide)) _ _ ((compareInt_eq _).symm)).mono ?_
    rintro e w5 ⟨rfl, hb⟩
    have hB5 := kb_call hb hB4 (Nat.le_refl _)
    have hT5 := hE.below hB5 (Nat.le_refl _)
    clear hb hB4 hT4
    obtain ⟨sdd, Hdd⟩ : ∃ s : ByteArray, Hid (s = I (x - x)) := ⟨_, rfl⟩
    have Bdd : Bd 61 (x - x) := Bd.sub (k := 60) Bx Bx
    go_wp2_with fail
    refine (sub_is Hx.out Hx.out (Bx.small (by decide)) (Bx.small (by decide)) _ hT5.env (x - x) _ (rfl) Hdd.out (Bdd.small (by decide))).mono ?_
    rintro e w6 ⟨rfl, hb⟩
    have hB6 := kb_call hb hB5 (Nat.le_refl _)
    have hT6 := hE.below hB6 (Nat.le_refl _)
    clear hb hB5 hT5
    obtain ⟨sxz, Hxz⟩ : ∃ s : ByteArray, Hid (s = I (x + z)) := ⟨_, rfl⟩
    have Bxz : Bd 61 (x + z) := Bd.add (k := 60) Bx Bz
    go_wp2_with fail
    refine (add_is Hx.out Hz.out (Bx.small (by decide)) (Bz.small (by decide)) _ hT6.env (x + z) _ (rfl) Hxz.out (Bxz.small (by decide))).mono ?_
    rintro e w7 ⟨rfl, hb⟩
    have hB7 := kb_call hb hB6 (Nat.le_refl _)
    have hT7 := hE.below hB7 (Nat.le_refl _)
    clear hb hB6 hT6
    obtain ⟨syz, Hyz⟩ : ∃ s : ByteArray, Hid (s = I (x + z)) := ⟨_, rfl⟩
    have Byz : Bd 61 (x + z) := Bd.add (k := 60) Bx Bz
    go_wp2_with fail
    refine (add_is Hx.out Hz.out (Bx.small (by decide)) (Bz.small (by decide)) _ hT7.env (x + z) _ (rfl) Hyz.out (Byz.small (by decide))).mono ?_
    rintro e w8 ⟨rfl, hb⟩
    have hB8 := kb_call hb hB7 (Nat.le_refl _)
    have hT8 := hE.below hB8 (Nat.le_refl _)
    clear hb hB7 hT7
    go_wp2_with fail
    refine (cmp_is Hx.out Hx.out (Bx.small (by decide)) (Bx.small (by decide)) _ _ ((compareInt_eq _).symm)).mono ?_
    rintro e w9 ⟨rfl, hb⟩
    have hB9 := kb_call hb hB8 (Nat.le_refl _)
    have hT9 := hE.below hB9 (Nat.le_refl _)
    clear hb hB8 hT8
    go_wp2_with fail
    refine (cmp_is Hdd.out Hi0.out (Bdd.small (by decide)) (Bi0.small (by decide)) _ _ (by rw [Int.sub_self])).mono ?_
    rintro e w10 ⟨rfl, hb⟩
    have hB10 := kb_call hb hB9 (Nat.le_refl _)
    have hT10 := hE.below hB10 (Nat.le_refl _)
    clear hb hB9 hT9
    go_wp2_with fail
    refine (cmp_is Hxz.out Hyz.out (Bxz.small (by decide)) (Byz.small (by decide)) _ _ ((compareInt_eq _).symm)).mono ?_
    rintro e w11 ⟨rfl, hb⟩
    have hB11 := kb_call hb hB10 (Nat.le_refl _)
    have hT11 := hE.below hB11 (Nat.le_refl _)
    clear hb hB10 hT10
    rcases Int.lt_or_le z x with hz | hz
    · have HZ := Lib.hid hz
      clear hz
      go_wp2_with fail
      refine (cmp_is Hx.out Hz.out (Bx.small (by decide)) (Bz.small (by decide)) _ _ ((compareInt_gt HZ.out).symm)).mono ?_
      rintro e w12 ⟨rfl, hb⟩
      have hB12 := kb_call hb hB11 (Nat.le_refl _)
      have hT12 := hE.below hB12 (Nat.le_refl _)
      clear hb hB11 hT11
      go_wp2
      go_ret
      exact ⟨rfl, hB12⟩
    · obtain ⟨c2, hc2, hc2', _⟩ := cmp_le hz
      have Hc2 := Lib.hid hc2
      have HZ := Lib.hid hz
      clear hc2 hz
      go_wp2_with fail
      refine (cmp_is Hx.out Hz.out (Bx.small (by decide)) (Bz.small (by decide)) _ c2 (Hc2.out)).mono ?_
      rintro e w12 ⟨rfl, hb⟩
      have hB12 := kb_call hb hB11 (Nat.le_refl _)
      have hT12 := hE.below hB12 (Nat.le_refl _)
      clear hb hB11 hT11
      go_wp2_with fail
      refine (cmp_is Hx.out Hz.out (Bx.small (by decide)) (Bz.small (by decide)) _ c2 (Hc2.out)).mono ?_
      rintro e w13 ⟨rfl, hb⟩
      have hB13 := kb_call hb hB12 (Nat.le_refl _)
      have hT13 := hE.below hB13 (Nat.le_refl _)
      clear hb hB12 hT12
      go_wp2
      go_ret
      exact ⟨rfl, hB13⟩
  · have HX := Lib.hid hx
    have hne := str_ne Hx.out Hy.out (by omega)
    clear hx
    go_wp2_with fail
    refine (cmp_is Hx.out Hy.out (Bx.small (by decide)) (By.small (by decide)) _ _ ((compareInt_gt HX.out).symm)).mono ?_
    rintro e w5 ⟨rfl, hb⟩
    have hB5 := kb_call hb hB4 (Nat.le_refl _)
    have hT5 := hE.below hB5 (Nat.le_refl _)
    clear hb hB4 hT4
    obtain ⟨sdd, Hdd⟩ : ∃ s : ByteArray, Hid (s = I (x - y)) := ⟨_, rfl⟩
    have Bdd : Bd 61 (x - y) := Bd.sub (k := 60) Bx By
    go_wp2_with fail
    refine (sub_is Hx.out Hy.out (Bx.small (by decide)) (By.small (by decide)) _ hT5.env (x - y) _ (rfl) Hdd.out (Bdd.small (by decide))).mono ?_
    rintro e w6 ⟨rfl, hb⟩
    have hB6 := kb_call hb hB5 (Nat.le_refl _)
    have hT6 := hE.below hB6 (Nat.le_refl _)
    clear hb hB5 hT5
    obtain ⟨sxz, Hxz⟩ : ∃ s : ByteArray, Hid (s = I (x + z)) := ⟨_, rfl⟩
    have Bxz : Bd 61 (x + z) := Bd.add (k := 60) Bx Bz
    go_wp2_with fail
    refine (add_is Hx.out Hz.out (Bx.small (by decide)) (Bz.small (by decide)) _ hT6.env (x + z) _ (rfl) Hxz.out (Bxz.small (by decide))).mono ?_
    rintro e w7 ⟨rfl, hb⟩
    have hB7 := kb_call hb hB6 (Nat.le_refl _)
    have hT7 := hE.below hB7 (Nat.le_refl _)
    clear hb hB6 hT6
    obtain ⟨syz, Hyz⟩ : ∃ s : ByteArray, Hid (s = I (y + z)) := ⟨_, rfl⟩
    have Byz : Bd 61 (y + z) := Bd.add (k := 60) By Bz
    go_wp2_with fail
    refine (add_is Hy.out Hz.out (By.small (by decide)) (Bz.small (by decide)) _ hT7.env (y + z) _ (rfl) Hyz.out (Byz.small (by decide))).mono ?_
    rintro e w8 ⟨rfl, hb⟩
    have hB8 := kb_call hb hB7 (Nat.le_refl _)
    have hT8 := hE.below hB8 (Nat.le_refl _)
    clear hb hB7 hT7
    go_wp2_with fail
    refine (cmp_is Hy.out Hx.out (By.small (by decide)) (Bx.small (by decide)) _ _ ((compareInt_lt HX.out).symm)).mono ?_
    rintro e w9 ⟨rfl, hb⟩
    have hB9 := kb_call hb hB8 (Nat.le_refl _)
    have hT9 := hE.below hB9 (Nat.le_refl _)
    clear hb hB8 hT8
    go_wp2_with fail
    refine (cmp_is Hdd.out Hi0.out (Bdd.small (by decide)) (Bi0.small (by decide)) _ _ ((compareInt_gt (show 0 < x - y by have := HX.out; omega)).symm)).mono ?_
    rintro e w10 ⟨rfl, hb⟩
    have hB10 := kb_call hb hB9 (Nat.le_refl _)
    have hT10 := hE.below hB10 (Nat.le_refl _)
    clear hb hB9 hT9
    go_wp2_with fail
    refine (cmp_is Hxz.out Hyz.out (Bxz.small (by decide)) (Byz.small (by decide)) _ _ ((compareInt_gt (show y + z < x + z by have := HX.out; omega)).symm)).mono ?_
    rintro e w11 ⟨rfl, hb⟩
    have hB11 := kb_call hb hB10 (Nat.le_refl _)
    have hT11 := hE.below hB11 (Nat.le_refl _)
    clear hb hB10 hT10
    go_wp2
    go_ret
    exact ⟨rfl, hB11⟩
end Go.Proofs.YtbnilfjhalildaaGreatDoor
