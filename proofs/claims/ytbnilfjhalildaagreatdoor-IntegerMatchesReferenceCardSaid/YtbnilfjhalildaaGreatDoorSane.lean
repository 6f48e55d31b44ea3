/- sane: the fixed examples. -/
import Derived.Test.YtbnilfjhalildaaGreatDoorInts
namespace Go.Proofs.YtbnilfjhalildaaGreatDoor
open Go.RowKit
attribute [local go_sem] Oper.semAt_some

theorem small_dec {z : Int} (h : z.natAbs < 10 ^ 20) : Small z := (Bd.nat (k := 20).2 h).small (by decide)

set_option maxRecDepth 100000 in
set_option maxHeartbeats 8000000 in
theorem sane_any (w : World) (hE : Env w) : Calls Tryz.prog 12 #[] w (Rets w (.bool true)) := by
  have i999 := Lib.hid (lit_I [57, 57, 57] 999 (by decide +kernel) (by decide +kernel))
  have i1 := Lib.hid (lit_I [49] 1 (by decide +kernel) (by decide +kernel))
  have i1000 := Lib.hid (lit_I [49, 48, 48, 48] 1000 (by decide +kernel) (by decide +kernel))
  have n999 := Lib.hid (lit_I [45, 57, 57, 57] (-999) (by decide +kernel) (by decide +kernel))
  have n12 := Lib.hid (lit_I [45, 49, 50] (-12) (by decide +kernel) (by decide +kernel))
  have i12 := Lib.hid (lit_I [49, 50] 12 (by decide +kernel) (by decide +kernel))
  have n144 := Lib.hid (lit_I [45, 49, 52, 52] (-144) (by decide +kernel) (by decide +kernel))
  have n7 := Lib.hid (lit_I [45, 55] (-7) (by decide +kernel) (by decide +kernel))
  have i2 := Lib.hid (lit_I [50] 2 (by decide +kernel) (by decide +kernel))
  have n2 := Lib.hid (lit_I [45, 50] (-2) (by decide +kernel) (by decide +kernel))
  have n4 := Lib.hid (lit_I [45, 52] (-4) (by decide +kernel) (by decide +kernel))
  have i4 := Lib.hid (lit_I [52] 4 (by decide +kernel) (by decide +kernel))
  have n18 := Lib.hid (lit_I [45, 49, 56] (-18) (by decide +kernel) (by decide +kernel))
  have i6 := Lib.hid (lit_I [54] 6 (by decide +kernel) (by decide +kernel))
  have i99 := Lib.hid (lit_I [57, 57] 99 (by decide +kernel) (by decide +kernel))
  have i9 := Lib.hid (lit_I [57] 9 (by decide +kernel) (by decide +kernel))
  have n1 := Lib.hid (lit_I [45, 49] (-1) (by decide +kernel) (by decide +kernel))
  have n8 := Lib.hid (lit_I [45, 56] (-8) (by decide +kernel) (by decide +kernel))
  go_enter Tryz.func12, Tryz.ntmps12
  go_wp2_with fail
  refine (add_is i999.out i1.out (small_dec (by decide)) (small_dec (by decide)) _ hE 1000 _ (by decide) i1000.out (small_dec (by decide))).mono ?_
  rintro e w1 ⟨rfl, hb⟩
  have hB1 := kb_call hb (Below.refl _ w) (Nat.le_refl _)
  have hE1 := hE.below hB1 (Nat.le_refl _)
  clear hb
  go_wp2_with fail
  refine (sub_is i1.out i1000.out (small_dec (by decide)) (small_dec (by decide)) _ hE1 (-999) _ (by decide) n999.out (small_dec (by decide))).mono ?_
  rintro e w2 ⟨rfl, hb⟩
  have hB2 := kb_call hb hB1 (Nat.le_refl _)
  have hE2 := hE.below hB2 (Nat.le_refl _)
  clear hb hB1 hE1
  go_wp2_with fail
  refine (mul_is n12.out i12.out (small_dec (by decide)) (small_dec (by decide)) _ hE2 (-144) _ (by decide) n144.out (small_dec (by decide))).mono ?_
  rintro e w3 ⟨rfl, hb⟩
  have hB3 := kb_call hb hB2 (Nat.le_refl _)
  have hE3 := hE.below hB3 (Nat.le_refl _)
  clear hb hB2 hE2
  go_wp2_with fail
  refine (div_is n7.out i2.out (small_dec (by decide)) (small_dec (by decide)) _ hE3 (-4) 1 _ _ (by decide) (by decide) (by decide) n4.out i1.out).mono ?_
  rintro e w4 ⟨rfl, hb⟩
  have hB4 := kb_call hb hB3 (Nat.le_refl _)
  have hE4 := hE.below hB4 (Nat.le_refl _)
  clear hb hB3 hE3
  go_wp2_with fail
  refine (div_is n7.out n2.out (small_dec (by decide)) (small_dec (by decide)) _ hE4 4 1 _ _ (by decide) (by decide) (by decide) i4.out i1.out).mono ?_
  rintro e w5 ⟨rfl, hb⟩
  have hB5 := kb_call hb hB4 (Nat.le_refl _)
  have hE5 := hE.below hB5 (Nat.le_refl _)
  clear hb hB4 hE4
  go_wp2_with fail
  refine (gcd_is i12.out n18.out (small_dec (by decide)) (small_dec (by decide)) _ hE5 6 _ (by decide) i6.out).mono ?_
  rintro e w6 ⟨rfl, hb⟩
  have hB6 := kb_call hb hB5 (Nat.le_refl _)
  have hE6 := hE.below hB6 (Nat.le_refl _)
  clear hb hB5 hE5
  go_wp2_with fail
  refine (root_is i99.out (small_dec (by decide)) _ hE6 9 _ (by decide) (by decide) i9.out (small_dec (by decide))).mono ?_
  rintro e w7 ⟨rfl, hb⟩
  have hB7 := kb_call hb hB6 (Nat.le_refl _)
  have hE7 := hE.below hB7 (Nat.le_refl _)
  clear hb hB6 hE6
  go_wp2_with fail
  refine (root_no n1.out (small_dec (by decide)) _ hE7 (by decide)).mono ?_
  rintro e w8 ⟨rfl, hb⟩
  have hB8 := kb_call hb hB7 (Nat.le_refl _)
  have hE8 := hE.below hB8 (Nat.le_refl _)
  clear hb hB7 hE7
  go_wp2_with fail
  refine (Rets.of (add_any _ _ _ hE8) (show resT _ _ = .tuple #[.string ⟨#[]⟩, .int .i64 30] by rw [show okS ⟨#[48, 48, 55]⟩ = false by decide +kernel]; rfl)).mono ?_
  rintro e w9 ⟨rfl, hb⟩
  have hB9 := kb_call hb hB8 (Nat.le_refl _)
  clear hb hB8 hE8
  go_wp2_with fail
  refine (valid_is n7.out (small_dec (by decide)) _).mono ?_
  rintro e wa ⟨rfl, hb⟩
  have hBa := kb_call hb hB9 (Nat.le_refl _)
  clear hb hB9
  go_wp2_with fail
  refine (valid_no _ (by decide +kernel) _).mono ?_
  rintro e wb ⟨rfl, hb⟩
  have hBb := kb_call hb hBa (Nat.le_refl _)
  clear hb hBa
  go_wp2_with fail
  refine (valid_no _ (by decide +kernel) _).mono ?_
  rintro e wc ⟨rfl, hb⟩
  have hBc := kb_call hb hBb (Nat.le_refl _)
  clear hb hBb
  go_wp2_with fail
  refine (cmp_is n8.out n7.out (small_dec (by decide)) (small_dec (by decide)) _ (-1) (by decide)).mono ?_
  rintro e wd ⟨rfl, hb⟩
  have hBd := kb_call hb hBc (Nat.le_refl _)
  go_wp2
  go_ret
  exact ⟨rfl, hBd⟩
end Go.Proofs.YtbnilfjhalildaaGreatDoor
