/- The reference: sum, Add, Sub, Compare. -/
import Derived.Test.YtbnilfjhalildaaGreatDoorRefD
namespace Go.Proofs.YtbnilfjhalildaaGreatDoor
open Go.RowKit
attribute [local go_sem] Oper.semAt_some
instance (z : Int) : Decidable (Small z) := by unfold Small; infer_instance

theorem cmpL10 {xs ys : List Int} {a b : Int} (hx : Num 10 xs a) (hy : Num 10 ys b) : cmpL xs ys = Lib.compareInt a b := by
  unfold cmpL
  by_cases hl : xs.length = ys.length
  · rw [if_pos hl, cmpTop_val 10 (by decide) hx.dig hy.dig _ (Nat.le_refl _) (by omega), List.take_length, hl, List.take_length, hx.val, hy.val]
  · rw [if_neg hl]
    by_cases c : xs.length < ys.length
    · rw [compareInt_lt (by omega), compareInt_lt (hx.len_lt (by decide) hy c)]
    · rw [compareInt_gt (by omega), compareInt_gt (hy.len_lt (by decide) hx (by omega))]
theorem res_small {z : Int} (h : Small z) : resT true z = .tuple #[.string ⟨(Lib.itoa z).toArray⟩, .int .i64 0] := by unfold resT txt erz; rw [if_pos rfl, if_pos h, if_pos h]
theorem res_big {z : Int} (h : ¬ Small z) : resT true z = .tuple #[.string ⟨#[]⟩, .int .i64 30] := by unfold resT txt erz; rw [if_pos rfl, if_neg h, if_neg h]
theorem res_no (x y : Int) : resT false x = resT false y := rfl
theorem cmp_sign {a b : Int} : (0 ≤ Lib.compareInt a b ↔ b ≤ a) := by
  rcases Int.lt_trichotomy a b with h | h | h
  · rw [compareInt_lt h]; omega
  · rw [h, compareInt_eq]; omega
  · rw [compareInt_gt h]; omega
set_option maxRecDepth 100000 in
set_option maxHeartbeats 4000000 in
theorem rsum_any (s t : Bool) (v u : Value) (xs ys : List Int) (m n : Int) (w : World) (hv : Sl w v xs) (hu : Sl w u ys) (hx : Num 10 xs m) (hy : Num 10 ys n) (hlx : xs.length ≤ 1000) (hly : ys.length ≤ 1000) :
    Calls Tryz.prog 49 #[.bool s, v, .bool t, u] w (Gives w fun r _ => r = resT true (sgn s m + sgn t n)) := by
  have hm0 := hx.nonneg (by decide)
  have hn0 := hy.nonneg (by decide)
  have lz : ∀ zs k, Num 10 zs k → k ≤ m + n → zs.length ≤ 10000 := fun zs k hz hk => hz.length_le (by decide) (Int.lt_of_le_of_lt hk (by
    have h1 := hx.lt (by decide)
    have h2 := hy.lt (by decide)
    have h3 := pow_mono (b := 10) (by decide) hlx
    have h4 := pow_mono (b := 10) (by decide) hly
    have h5 : (10 : Int) ^ 1001 = 10 ^ 1000 * 10 := Int.pow_succ ..
    have h6 := pow_mono (b := 10) (by decide) (show 1001 ≤ 10000 by decide)
    generalize (10 : Int) ^ 1000 = P at *
    generalize (10 : Int) ^ 1001 = Q at *
    generalize (10 : Int) ^ 10000 = R at *
    omega))
  have LZ := Lib.hid lz
  clear lz
  by_cases hst : s = t
  · subst hst
    have HE := Lib.hid (show sgn s m + sgn s n = sgn s (m + n) by cases s <;> simp [sgn] <;> omega)
    have hsb : (s == s) = true := by simp
    go_enter Tryz.func49, Tryz.ntmps49
    go_wp2_with fail
    refine (rplus_any _ _ xs ys m n _ hv hu hx hy (by omega) (by omega)).mono ?_
    rintro e w1 ⟨⟨r, rfl, zs, hz, hnz⟩, hb⟩
    have hl := LZ.out zs _ hnz (by omega)
    go_wp2_with fail
    refine (checked_any s _ zs _ _ hz hnz (by omega)).mono ?_
    rintro e w2 ⟨⟨r, rfl, rfl⟩, hb2⟩
    obtain ⟨z, hzz⟩ : ∃ z, Hid (sgn s (m + n) = z) := ⟨_, Lib.hid rfl⟩
    rw [hzz.out]
    cases hs : decide (Small z) with
    | true =>
      rw [res_small (of_decide_eq_true hs)]
      go_wp2
      go_ret2
      exact ⟨⟨_, rfl, by rw [HE.out, hzz.out]; exact (res_small (of_decide_eq_true hs)).symm⟩, kb_call hb2 hb (Nat.le_refl _)⟩
    | false =>
      rw [res_big (of_decide_eq_false hs)]
      go_wp2
      go_ret2
      exact ⟨⟨_, rfl, by rw [HE.out, hzz.out]; exact (res_big (of_decide_eq_false hs)).symm⟩, kb_call hb2 hb (Nat.le_refl _)⟩
  · have hsb : (s == t) = false := by simp [hst]
    have hst2 : t = !s := by cases s <;> cases t <;> simp_all
    clear hst
    by_cases hle : n ≤ m
    · have HE := Lib.hid (show sgn s m + sgn t n = sgn s (m - n) by rw [hst2]; cases s <;> simp [sgn] <;> omega)
      have hc := cmp_sign.2 hle
      have HC := Lib.hid (cmpL10 hx hy)
      clear hst2
      go_enter Tryz.func49, Tryz.ntmps49
      go_wp2_with fail
      refine (order_any _ _ xs ys _ hv hu).mono ?_
      rintro e w1 ⟨rfl, hb0⟩
      rw [HC.out]
      generalize Lib.compareInt m n = c at *
      have hv1 := hv.below hb0
      have hu1 := hu.below hb0
      go_wp2_with fail
      refine (rminus_any _ _ xs ys m n _ hv1 hu1 hx hy hle (by omega)).mono ?_
      rintro e w2 ⟨⟨r, rfl, zs, hz, hnz⟩, hb⟩
      have hl := LZ.out zs _ hnz (by omega)
      go_wp2_with fail
      refine (checked_any s _ zs _ _ hz hnz (by omega)).mono ?_
      rintro e w3 ⟨⟨r, rfl, rfl⟩, hb2⟩
      obtain ⟨z, hzz⟩ : ∃ z, Hid (sgn s (m - n) = z) := ⟨_, Lib.hid rfl⟩
      rw [hzz.out]
      cases hs : decide (Small z) with
      | true =>
        rw [res_small (of_decide_eq_true hs)]
        go_wp2
        go_ret2
        exact ⟨⟨_, rfl, by rw [HE.out, hzz.out]; exact (res_small (of_decide_eq_true hs)).symm⟩, kb_call hb2 (kb_call hb hb0 (Nat.le_refl _)) (Nat.le_refl _)⟩
      | false =>
        rw [res_big (of_decide_eq_false hs)]
        go_wp2
        go_ret2
        exact ⟨⟨_, rfl, by rw [HE.out, hzz.out]; exact (res_big (of_decide_eq_false hs)).symm⟩, kb_call hb2 (kb_call hb hb0 (Nat.le_refl _)) (Nat.le_refl _)⟩
    · have hle2 : m ≤ n := by omega
      have HE := Lib.hid (show sgn s m + sgn t n = sgn t (n - m) by rw [hst2]; cases s <;> simp [sgn] <;> omega)
      have HC := Lib.hid ((cmpL10 hx hy).trans (compareInt_lt (by omega)))
      clear hst2 hle
      go_enter Tryz.func49, Tryz.ntmps49
      go_wp2_with fail
      refine (order_any _ _ xs ys _ hv hu).mono ?_
      rintro e w1 ⟨rfl, hb0⟩
      rw [HC.out]
      have hv1 := hv.below hb0
      have hu1 := hu.below hb0
      go_wp2_with fail
      refine (rminus_any _ _ ys xs n m _ hu1 hv1 hy hx hle2 (by omega)).mono ?_
      rintro e w2 ⟨⟨r, rfl, zs, hz, hnz⟩, hb⟩
      have hl := LZ.out zs _ hnz (by omega)
      go_wp2_with fail
      refine (checked_any t _ zs _ _ hz hnz (by omega)).mono ?_
      rintro e w3 ⟨⟨r, rfl, rfl⟩, hb2⟩
      obtain ⟨z, hzz⟩ : ∃ z, Hid (sgn t (n - m) = z) := ⟨_, Lib.hid rfl⟩
      rw [hzz.out]
      cases hs : decide (Small z) with
      | true =>
        rw [res_small (of_decide_eq_true hs)]
        go_wp2
        go_ret2
        exact ⟨⟨_, rfl, by rw [HE.out, hzz.out]; exact (res_small (of_decide_eq_true hs)).symm⟩, kb_call hb2 (kb_call hb hb0 (Nat.le_refl _)) (Nat.le_refl _)⟩
      | false =>
        rw [res_big (of_decide_eq_false hs)]
        go_wp2
        go_ret2
        exact ⟨⟨_, rfl, by rw [HE.out, hzz.out]; exact (res_big (of_decide_eq_false hs)).symm⟩, kb_call hb2 (kb_call hb hb0 (Nat.le_refl _)) (Nat.le_refl _)⟩

theorem len10 {xs : List Int} {z : Int} (h : Num 10 xs z.natAbs) (hz : Small z) : xs.length ≤ 200 := h.length_le (by decide) (by unfold Small Big at hz; omega)
set_option maxRecDepth 100000 in
set_option maxHeartbeats 4000000 in
theorem radd_ok (a b : ByteArray) (ha : okS a = true) (hb : okS b = true) (hsa : a.size ≤ 9223372036854775807) (hsb : b.size ≤ 9223372036854775807) (w : World) :
    Calls Tryz.prog 25 #[.string a, .string b] w (Gives w fun r _ => r = resT true (zS a + zS b)) := by
  have V1 := fun W => rvalid_any a hsa W
  have V2 := fun W => rvalid_any b hsb W
  have D1 := fun W => rdigits_any a ha W
  have D2 := fun W => rdigits_any b hb W
  have Sa := z_bound ha
  have Sb := z_bound hb
  rw [ha] at V1
  rw [hb] at V2
  go_enter Tryz.func25, Tryz.ntmps25
  go_wp2_with fail
  refine (V1 _).mono ?_
  rintro e w1 ⟨rfl, hb1⟩
  go_wp2_with fail
  refine (V2 _).mono ?_
  rintro e w2 ⟨rfl, hb2⟩
  have hB2 := kb_call hb2 hb1 (Nat.le_refl _)
  go_wp2_with fail
  refine (D1 _).mono ?_
  rintro e w3 ⟨⟨r, rfl, v, xs, rfl, hx, hnx⟩, hb3⟩
  have hB3 := kb_call hb3 hB2 (Nat.le_refl _)
  have lx := len10 hnx Sa
  go_wp2_with fail
  refine (D2 _).mono ?_
  rintro e w4 ⟨⟨r, rfl, u, ys, rfl, hy, hny⟩, hb4⟩
  have hB4 := kb_call hb4 hB3 (Nat.le_refl _)
  have ly := len10 hny Sb
  have hx4 := hx.below hb4
  go_wp2_with fail
  refine (rsum_any (decide (zS a < 0)) (decide (zS b < 0)) _ _ xs ys _ _ _ hx4 hy hnx hny (by omega) (by omega)).mono ?_
  rw [sgn_abs, sgn_abs]
  rintro e w5 ⟨⟨r, rfl, rfl⟩, hb5⟩
  obtain ⟨z, hzz⟩ : ∃ z, Hid (zS a + zS b = z) := ⟨_, Lib.hid rfl⟩
  rw [hzz.out]
  cases hs : decide (Small z) with
  | true =>
    rw [res_small (of_decide_eq_true hs)]
    go_wp2
    go_ret2
    exact ⟨⟨_, rfl, by rw [hzz.out]; exact (res_small (of_decide_eq_true hs)).symm⟩, kb_call hb5 hB4 (Nat.le_refl _)⟩
  | false =>
    rw [res_big (of_decide_eq_false hs)]
    go_wp2
    go_ret2
    exact ⟨⟨_, rfl, by rw [hzz.out]; exact (res_big (of_decide_eq_false hs)).symm⟩, kb_call hb5 hB4 (Nat.le_refl _)⟩
set_option maxRecDepth 100000 in
set_option maxHeartbeats 4000000 in
theorem radd_bad (a b : ByteArray) (h : okS a = false ∨ okS b = false) (hsa : a.size ≤ 9223372036854775807) (hsb : b.size ≤ 9223372036854775807) (w : World) :
    Calls Tryz.prog 25 #[.string a, .string b] w (Gives w fun r _ => r = resT false 0) := by
  have V1 := fun W => rvalid_any a hsa W
  have V2 := fun W => rvalid_any b hsb W
  cases ha : okS a with
  | false =>
    rw [ha] at V1
    go_enter Tryz.func25, Tryz.ntmps25
    go_wp2_with fail
    refine (V1 _).mono ?_
    rintro e w1 ⟨rfl, hb1⟩
    go_wp2
    go_ret2
    exact ⟨⟨_, rfl, rfl⟩, hb1⟩
  | true =>
    have hb : okS b = false := by rcases h with h | h; rw [ha] at h; cases h; exact h
    rw [ha] at V1
    rw [hb] at V2
    go_enter Tryz.func25, Tryz.ntmps25
    go_wp2_with fail
    refine (V1 _).mono ?_
    rintro e w1 ⟨rfl, hb1⟩
    go_wp2_with fail
    refine (V2 _).mono ?_
    rintro e w2 ⟨rfl, hb2⟩
    go_wp2
    go_ret2
    exact ⟨⟨_, rfl, rfl⟩, (kb_call hb2 hb1 (Nat.le_refl _))⟩
/-- putlogref03.Add. -/
theorem radd_any (a b : ByteArray) (hsa : a.size ≤ 9223372036854775807) (hsb : b.size ≤ 9223372036854775807) (w : World) :
    Calls Tryz.prog 25 #[.string a, .string b] w (Gives w fun r _ => r = resT (okS a && okS b) (zS a + zS b)) := by
  by_cases h : okS a = true ∧ okS b = true
  · rw [h.1, h.2]; exact radd_ok a b h.1 h.2 hsa hsb w
  · rw [(and_false_of h).1, res_no _ 0]; exact radd_bad a b (and_false_of h).2 hsa hsb w

set_option maxRecDepth 100000 in
set_option maxHeartbeats 4000000 in
theorem rsub_ok (a b : ByteArray) (ha : okS a = true) (hb : okS b = true) (hsa : a.size ≤ 9223372036854775807) (hsb : b.size ≤ 9223372036854775807) (w : World) :
    Calls Tryz.prog 26 #[.string a, .string b] w (Gives w fun r _ => r = resT true (zS a - zS b)) := by
  have V1 := fun W => rvalid_any a hsa W
  have V2 := fun W => rvalid_any b hsb W
  have D1 := fun W => rdigits_any a ha W
  have D2 := fun W => rdigits_any b hb W
  have Sa := z_bound ha
  have Sb := z_bound hb
  rw [ha] at V1
  rw [hb] at V2
  go_enter Tryz.func26, Tryz.ntmps26
  go_wp2_with fail
  refine (V1 _).mono ?_
  rintro e w1 ⟨rfl, hb1⟩
  go_wp2_with fail
  refine (V2 _).mono ?_
  rintro e w2 ⟨rfl, hb2⟩
  have hB2 := kb_call hb2 hb1 (Nat.le_refl _)
  go_wp2_with fail
  refine (D1 _).mono ?_
  rintro e w3 ⟨⟨r, rfl, v, xs, rfl, hx, hnx⟩, hb3⟩
  have hB3 := kb_call hb3 hB2 (Nat.le_refl _)
  have lx := len10 hnx Sa
  go_wp2_with fail
  refine (D2 _).mono ?_
  rintro e w4 ⟨⟨r, rfl, u, ys, rfl, hy, hny⟩, hb4⟩
  have hB4 := kb_call hb4 hB3 (Nat.le_refl _)
  have ly := len10 hny Sb
  have hx4 := hx.below hb4
  go_wp2_with fail
  refine (rsum_any (decide (zS a < 0)) (!decide (zS b < 0)) _ _ xs ys _ _ _ hx4 hy hnx hny (by omega) (by omega)).mono ?_
  rw [sgn_abs, sgn_not, ← Int.sub_eq_add_neg]
  rintro e w5 ⟨⟨r, rfl, rfl⟩, hb5⟩
  obtain ⟨z, hzz⟩ : ∃ z, Hid (zS a - zS b = z) := ⟨_, Lib.hid rfl⟩
  rw [hzz.out]
  cases hs : decide (Small z) with
  | true =>
    rw [res_small (of_decide_eq_true hs)]
    go_wp2
    go_ret2
    exact ⟨⟨_, rfl, by rw [hzz.out]; exact (res_small (of_decide_eq_true hs)).symm⟩, kb_call hb5 hB4 (Nat.le_refl _)⟩
  | false =>
    rw [res_big (of_decide_eq_false hs)]
    go_wp2
    go_ret2
    exact ⟨⟨_, rfl, by rw [hzz.out]; exact (res_big (of_decide_eq_false hs)).symm⟩, kb_call hb5 hB4 (Nat.le_refl _)⟩
set_option maxRecDepth 100000 in
set_option maxHeartbeats 4000000 in
theorem rsub_bad (a b : ByteArray) (h : okS a = false ∨ okS b = false) (hsa : a.size ≤ 9223372036854775807) (hsb : b.size ≤ 9223372036854775807) (w : World) :
    Calls Tryz.prog 26 #[.string a, .string b] w (Gives w fun r _ => r = resT false 0) := by
  have V1 := fun W => rvalid_any a hsa W
  have V2 := fun W => rvalid_any b hsb W
  cases ha : okS a with
  | false =>
    rw [ha] at V1
    go_enter Tryz.func26, Tryz.ntmps26
    go_wp2_with fail
    refine (V1 _).mono ?_
    rintro e w1 ⟨rfl, hb1⟩
    go_wp2
    go_ret2
    exact ⟨⟨_, rfl, rfl⟩, hb1⟩
  | true =>
    have hb : okS b = false := by rcases h with h | h; rw [ha] at h; cases h; exact h
    rw [ha] at V1
    rw [hb] at V2
    go_enter Tryz.func26, Tryz.ntmps26
    go_wp2_with fail
    refine (V1 _).mono ?_
    rintro e w1 ⟨rfl, hb1⟩
    go_wp2_with fail
    refine (V2 _).mono ?_
    rintro e w2 ⟨rfl, hb2⟩
    go_wp2
    go_ret2
    exact ⟨⟨_, rfl, rfl⟩, (kb_call hb2 hb1 (Nat.le_refl _))⟩
/-- putlogref03.Sub. -/
theorem rsub_any (a b : ByteArray) (hsa : a.size ≤ 9223372036854775807) (hsb : b.size ≤ 9223372036854775807) (w : World) :
    Calls Tryz.prog 26 #[.string a, .string b] w (Gives w fun r _ => r = resT (okS a && okS b) (zS a - zS b)) := by
  by_cases h : okS a = true ∧ okS b = true
  · rw [h.1, h.2]; exact rsub_ok a b h.1 h.2 hsa hsb w
  · rw [(and_false_of h).1, res_no _ 0]; exact rsub_bad a b (and_false_of h).2 hsa hsb w

set_option maxRecDepth 100000 in
set_option maxHeartbeats 4000000 in
theorem rcmp_ok (a b : ByteArray) (ha : okS a = true) (hb : okS b = true) (hsa : a.size ≤ 9223372036854775807) (hsb : b.size ≤ 9223372036854775807) (w : World) :
    Calls Tryz.prog 34 #[.string a, .string b] w fun e w' => e = .returned (.int .i64 (Lib.compareInt (zS a) (zS b))) ∧ Below w.heap.size w w' := by
  have V1 := fun W => rvalid_any a hsa W
  have V2 := fun W => rvalid_any b hsb W
  have D1 := fun W => rdigits_any a ha W
  have D2 := fun W => rdigits_any b hb W
  rw [ha] at V1
  rw [hb] at V2
  go_enter Tryz.func34, Tryz.ntmps34
  go_wp2_with fail
  refine (V1 _).mono ?_
  rintro e w1 ⟨rfl, hb1⟩
  go_wp2_with fail
  refine (V2 _).mono ?_
  rintro e w2 ⟨rfl, hb2⟩
  have hB2 := kb_call hb2 hb1 (Nat.le_refl _)
  go_wp2_with fail
  refine (D1 _).mono ?_
  rintro e w3 ⟨⟨r, rfl, v, xs, rfl, hx, hnx⟩, hb3⟩
  have hB3 := kb_call hb3 hB2 (Nat.le_refl _)
  go_wp2_with fail
  refine (D2 _).mono ?_
  rintro e w4 ⟨⟨r, rfl, u, ys, rfl, hy, hny⟩, hb4⟩
  have hB4 := kb_call hb4 hB3 (Nat.le_refl _)
  have hx4 := hx.below hb4
  clear hb1 hb2 hb3 hb4 hB2 hB3 hx
  by_cases na : zS a < 0
  · have da : decide (zS a < 0) = true := by simp [na]
    rw [da]
    by_cases nb : zS b < 0
    · have db : decide (zS b < 0) = true := by simp [nb]
      have hc := Lib.hid ((cmpL10 hny hnx).trans (cmp_neg na nb))
      rw [db]
      clear na nb da db hnx hny
      go_wp2_with fail
      refine (order_any _ _ ys xs _ hy hx4).mono ?_
      rintro e w5 ⟨rfl, hb5⟩
      rw [hc.out]
      go_wp2
      go_ret
      exact ⟨rfl, kb_call hb5 hB4 (Nat.le_refl _)⟩
    · have db : decide (zS b < 0) = false := by simp [nb]
      have hc := Lib.hid (compareInt_lt (a := zS a) (b := zS b) (by omega))
      rw [db]
      clear na nb da db hnx hny
      go_wp2
      go_ret
      exact ⟨ret_int hc.out.symm, hB4⟩
  · have da : decide (zS a < 0) = false := by simp [na]
    rw [da]
    by_cases nb : zS b < 0
    · have db : decide (zS b < 0) = true := by simp [nb]
      have hc := Lib.hid (compareInt_gt (a := zS a) (b := zS b) (by omega))
      rw [db]
      clear na nb da db hnx hny
      go_wp2
      go_ret
      exact ⟨ret_int hc.out.symm, hB4⟩
    · have db : decide (zS b < 0) = false := by simp [nb]
      have hc := Lib.hid ((cmpL10 hnx hny).trans (cmp_pos na nb))
      rw [db]
      clear na nb da db hnx hny
      go_wp2_with fail
      refine (order_any _ _ xs ys _ hx4 hy).mono ?_
      rintro e w5 ⟨rfl, hb5⟩
      rw [hc.out]
      go_wp2
      go_ret
      exact ⟨rfl, kb_call hb5 hB4 (Nat.le_refl _)⟩
set_option maxRecDepth 100000 in
set_option maxHeartbeats 4000000 in
theorem rcmp_bad (a b : ByteArray) (h : okS a = false ∨ okS b = false) (hsa : a.size ≤ 9223372036854775807) (hsb : b.size ≤ 9223372036854775807) (w : World) :
    Calls Tryz.prog 34 #[.string a, .string b] w (fun e w' => e = .returned (.int .i64 0) ∧ Below w.heap.size w w') := by
  have V1 := fun W => rvalid_any a hsa W
  have V2 := fun W => rvalid_any b hsb W
  cases ha : okS a with
  | false =>
    rw [ha] at V1
    go_enter Tryz.func34, Tryz.ntmps34
    go_wp2_with fail
    refine (V1 _).mono ?_
    rintro e w1 ⟨rfl, hb1⟩
    go_wp2
    go_ret
    exact ⟨rfl, hb1⟩
  | true =>
    have hb : okS b = false := by rcases h with h | h; rw [ha] at h; cases h; exact h
    rw [ha] at V1
    rw [hb] at V2
    go_enter Tryz.func34, Tryz.ntmps34
    go_wp2_with fail
    refine (V1 _).mono ?_
    rintro e w1 ⟨rfl, hb1⟩
    go_wp2_with fail
    refine (V2 _).mono ?_
    rintro e w2 ⟨rfl, hb2⟩
    go_wp2
    go_ret
    exact ⟨rfl, (kb_call hb2 hb1 (Nat.le_refl _))⟩
/-- putlogref03.Compare. -/
theorem rcmp_any (a b : ByteArray) (hsa : a.size ≤ 9223372036854775807) (hsb : b.size ≤ 9223372036854775807) (w : World) :
    Calls Tryz.prog 34 #[.string a, .string b] w fun e w' => e = .returned (.int .i64 (cmpS a b)) ∧ Below w.heap.size w w' := by
  unfold cmpS
  by_cases h : okS a = true ∧ okS b = true
  · rw [h.1, h.2]; exact rcmp_ok a b h.1 h.2 hsa hsb w
  · rw [(and_false_of h).1]; exact rcmp_bad a b (and_false_of h).2 hsa hsb w
end Go.Proofs.YtbnilfjhalildaaGreatDoor
