/- The reference: Mul, Div, Gcd. -/
import Derived.Test.YtbnilfjhalildaaGreatDoorRefG
import Derived.Test.YtbnilfjhalildaaGreatDoorDiv
import Derived.Test.YtbnilfjhalildaaGreatDoorGcd
namespace Go.Proofs.YtbnilfjhalildaaGreatDoor
open Go.RowKit
attribute [local go_sem] Oper.semAt_some

theorem pow_castR (k : Nat) : ((10 : Int) ^ k) = ((10 ^ k : Nat) : Int) := by simp
theorem okS_zeros {b : ByteArray} (h : okS b = true) : (zS b = 0 → b = ⟨#[48]⟩) ∧ (zS b ≠ 0 → (b.toList == [48]) = false) := by
  have h5 := (itoa_of_valid (show validB b.data.toList = true from h)).1
  constructor
  · intro hz
    have h6 : ival b.data.toList = 0 := hz
    rw [h6, show Lib.itoa (0 : Int) = [48] from itoa_zero false] at h5
    exact ByteArray.ext (Array.ext' h5)
  · intro hz
    rw [ByteArray.toList_eq]
    refine beq_eq_false_iff_ne.2 (fun e => hz ?_)
    show ival _ = 0
    rw [e]; decide +kernel

set_option maxRecDepth 100000 in
set_option maxHeartbeats 8000000 in
theorem rmul_ok (a b : ByteArray) (ha : okS a = true) (hb : okS b = true) (hsa : a.size ≤ 9223372036854775807) (hsb : b.size ≤ 9223372036854775807) (w : World) :
    Calls Tryz.prog 27 #[.string a, .string b] w (Gives w fun r _ => r = resT true (zS a * zS b)) := by
  have V1 := fun W => rvalid_any a hsa W
  have V2 := fun W => rvalid_any b hsb W
  have D1 := fun W => rdigits_any a ha W
  have D2 := fun W => rdigits_any b hb W
  have Sa := z_bound ha
  have Sb := z_bound hb
  rw [ha] at V1
  rw [hb] at V2
  go_enter Tryz.func27, Tryz.ntmps27
  go_wp2_with fail
  refine (V1 _).mono ?_
  rintro e w1 ⟨rfl, hb1⟩
  go_wp2_with fail
  refine (V2 _).mono ?_
  rintro e w2 ⟨rfl, hb2⟩
  have hB2 := kb_call hb2 hb1 (Nat.le_refl _)
  go_wp2_with fail
  refine (D1 _).mono ?_
  rintro e w3 ⟨⟨r, rfl, v, xs, rfl, hx, hnx⟩, hb3⟩
  have hB3 := kb_call hb3 hB2 (Nat.le_refl _)
  have lx := len10 hnx Sa
  go_wp2_with fail
  refine (D2 _).mono ?_
  rintro e w4 ⟨⟨r, rfl, u, ys, rfl, hy, hny⟩, hb4⟩
  have hB4 := kb_call hb4 hB3 (Nat.le_refl _)
  have ly := len10 hny Sb
  have hx4 := hx.below hb4
  clear hb1 hb2 hb3 hb4 hB2 hB3 hx
  go_wp2_with fail
  refine (rtimes_any _ _ xs ys _ _ _ hx4 hy hnx hny (by omega) (by omega)).mono ?_
  rintro e w5 ⟨⟨r, rfl, zs, hz, hnz⟩, hb5⟩
  have hB5 := kb_call hb5 hB4 (Nat.le_refl _)
  have lz : zs.length ≤ 1000 := by
    have h1 := Nat.mul_lt_mul'' (show (zS a).natAbs < 10 ^ 200 by have := abs_big Sa; rw [show Big = ((10 ^ 200 : Nat) : Int) from pow_castR 200] at this; omega) (show (zS b).natAbs < 10 ^ 200 by have := abs_big Sb; rw [show Big = ((10 ^ 200 : Nat) : Int) from pow_castR 200] at this; omega)
    have h2 := hnz.length_le (by decide) (m := 200 + 200) (by
      rw [← Nat.pow_add] at h1
      rw [pow_castR (200 + 200)]
      have e : ((zS a).natAbs : Int) * ((zS b).natAbs : Int) = (((zS a).natAbs * (zS b).natAbs : Nat) : Int) := by simp
      rw [e]
      exact Int.ofNat_lt.2 h1)
    omega
  have hm := sgn_mul (zS a) (zS b)
  generalize decide (zS a < 0) = s at *
  generalize decide (zS b < 0) = t at *
  have HM := Lib.hid (show sgn (!s == t) ((zS a).natAbs * (zS b).natAbs) = zS a * zS b from hm)
  clear hm
  go_wp2_with fail
  refine (checked_any (!s == t) _ zs _ _ hz hnz (by omega)).mono ?_
  rintro e w6 ⟨⟨r, rfl, rfl⟩, hb6⟩
  rw [HM.out]
  obtain ⟨z, hzz⟩ : ∃ z, Hid (zS a * zS b = z) := ⟨_, Lib.hid rfl⟩
  rw [hzz.out]
  cases hs : decide (Small z) with
  | true =>
    rw [res_small (of_decide_eq_true hs)]
    go_wp2
    go_ret2
    exact ⟨⟨_, rfl, by rw [hzz.out]; exact (res_small (of_decide_eq_true hs)).symm⟩, kb_call hb6 hB5 (Nat.le_refl _)⟩
  | false =>
    rw [res_big (of_decide_eq_false hs)]
    go_wp2
    go_ret2
    exact ⟨⟨_, rfl, by rw [hzz.out]; exact (res_big (of_decide_eq_false hs)).symm⟩, kb_call hb6 hB5 (Nat.le_refl _)⟩
set_option maxRecDepth 100000 in
set_option maxHeartbeats 4000000 in
theorem rmul_bad (a b : ByteArray) (h : okS a = false ∨ okS b = false) (hsa : a.size ≤ 9223372036854775807) (hsb : b.size ≤ 9223372036854775807) (w : World) :
    Calls Tryz.prog 27 #[.string a, .string b] w (Gives w fun r _ => r = resT false 0) := by
  have V1 := fun W => rvalid_any a hsa W
  have V2 := fun W => rvalid_any b hsb W
  cases ha : okS a with
  | false =>
    rw [ha] at V1
    go_enter Tryz.func27, Tryz.ntmps27
    go_wp2_with fail
    refine (V1 _).mono ?_
    rintro e w1 ⟨rfl, hb1⟩
    go_wp2
    go_ret2
    exact ⟨⟨_, rfl, rfl⟩, hb1⟩
  | true =>
    have hb : okS b = false := by rcases h with h | h; rw [ha] at h; cases h; exact h
    rw [ha] at V1
    rw [hb] at V2
    go_enter Tryz.func27, Tryz.ntmps27
    go_wp2_with fail
    refine (V1 _).mono ?_
    rintro e w1 ⟨rfl, hb1⟩
    go_wp2_with fail
    refine (V2 _).mono ?_
    rintro e w2 ⟨rfl, hb2⟩
    go_wp2
    go_ret2
    exact ⟨⟨_, rfl, rfl⟩, (kb_call hb2 hb1 (Nat.le_refl _))⟩
/-- putlogref03.Mul. -/
theorem rmul_any (a b : ByteArray) (hsa : a.size ≤ 9223372036854775807) (hsb : b.size ≤ 9223372036854775807) (w : World) :
    Calls Tryz.prog 27 #[.string a, .string b] w (Gives w fun r _ => r = resT (okS a && okS b) (zS a * zS b)) := by
  by_cases h : okS a = true ∧ okS b = true
  · rw [h.1, h.2]; exact rmul_ok a b h.1 h.2 hsa hsb w
  · rw [(and_false_of h).1, res_no _ 0]; exact rmul_bad a b (and_false_of h).2 hsa hsb w

set_option maxRecDepth 100000 in
set_option maxHeartbeats 8000000 in
theorem rgcd_ok (a b : ByteArray) (ha : okS a = true) (hb : okS b = true) (hsa : a.size ≤ 9223372036854775807) (hsb : b.size ≤ 9223372036854775807) (w : World) :
    Calls Tryz.prog 29 #[.string a, .string b] w (Gives w fun r _ => r = resT true (gcdZ (zS a) (zS b))) := by
  have V1 := fun W => rvalid_any a hsa W
  have V2 := fun W => rvalid_any b hsb W
  have D1 := fun W => rdigits_any a ha W
  have D2 := fun W => rdigits_any b hb W
  have Sa := z_bound ha
  have Sb := z_bound hb
  rw [ha] at V1
  rw [hb] at V2
  have G0 := Lib.hid (gcdZ_abs (zS a) (zS b))
  go_enter Tryz.func29, Tryz.ntmps29
  go_wp2_with fail
  refine (V1 _).mono ?_
  rintro e w1 ⟨rfl, hb1⟩
  go_wp2_with fail
  refine (V2 _).mono ?_
  rintro e w2 ⟨rfl, hb2⟩
  have hB2 := kb_call hb2 hb1 (Nat.le_refl _)
  go_wp2_with fail
  refine (D1 _).mono ?_
  rintro e w3 ⟨⟨r, rfl, v, xs, rfl, hx, hnx⟩, hb3⟩
  have hB3 := kb_call hb3 hB2 (Nat.le_refl _)
  have lx := len10 hnx Sa
  go_wp2_with fail
  refine (D2 _).mono ?_
  rintro e w4 ⟨⟨r, rfl, u, ys, rfl, hy, hny⟩, hb4⟩
  have hB4 := kb_call hb4 hB3 (Nat.le_refl _)
  have ly := len10 hny Sb
  have hx4 := hx.below hb4
  clear hb1 hb2 hb3 hb4 hB2 hB3 hx
  have Bx := abs_big Sa
  have By := abs_big Sb
  obtain ⟨a1, c1, rfl⟩ := hx4.shape
  obtain ⟨a2, c2, rfl⟩ := hy.shape
  generalize decide (zS a < 0) = s at *
  generalize decide (zS b < 0) = t at *
  go_wp2
  go_loopw [7, 9] (fun k l wr => ∃ a3 c3 a4 c4 ks ls m n, k = .slice a3 ks.length c3 ∧ l = .slice a4 ls.length c4 ∧ Sl wr (.slice a3 ks.length c3) ks ∧ Sl wr (.slice a4 ls.length c4) ls ∧ Num 10 ks m ∧ Num 10 ls n ∧ m < Big ∧ n < Big ∧
      Hid (gcdZ m n = gcdZ (zS a) (zS b)) ∧ Below w.heap.size w wr)
    (fun _ l wr => (val 10 (rdSl wr l)).toNat)
  case atStart => exact ⟨_, _, _, _, _, _, _, _, rfl, rfl, hx4, hy, hnx, hny, Bx, By, G0.out, hB4⟩
  case round =>
    clear hx4 hy hnx hny Bx By hB4 G0 Sa Sb lx ly
    obtain ⟨a3, c3, a4, c4, ks, ls, m, n, rfl, rfl, hk, hl, hnk, hnl, Bm, Bn, hG, hW⟩ := hrel
    have lk : ks.length ≤ 200 := hnk.length_le (by decide) Bm
    have ll : ls.length ≤ 200 := hnl.length_le (by decide) Bn
    by_cases h0 : 0 < ls.length
    · have hn0 : 0 < n := by
        have := hnl.nonneg (by decide)
        have h1 : ¬ n = 0 := fun e => by have := (hnl.zero_iff (by decide)).2 e; rw [this] at h0; simp at h0
        omega
      have hm0 := hnk.nonneg (by decide)
      have hrd := Lib.hid hl.rd
      go_wp2_with fail
      refine (divided_any _ _ ks ls n _ hk hl hnk.dig hnl hn0 (by omega) (by omega)).mono ?_
      rintro e w2 ⟨⟨r, rfl, r1, r2, qs, rs, rfl, hq, hnq, hr, hnr⟩, hb2⟩
      rw [hnk.val] at hnq hnr
      obtain ⟨a5, c5, rfl⟩ := hq.shape
      obtain ⟨a6, c6, rfl⟩ := hr.shape
      have hlt := Int.emod_lt_of_pos m hn0
      have hmod := Int.emod_nonneg m (by omega : n ≠ 0)
      have hl2 := hl.below hb2
      have hrd2 := Lib.hid hr.rd
      have hW2 := kb_call hb2 hW (Nat.le_refl _)
      go_wp2
      go_roundw
      case rel => exact ⟨_, _, _, _, ls, rs, n, m % n, rfl, rfl, hl2, hr, hnl, hnr, Bn, by omega, (gcdZ_step hm0 hn0).trans hG.out, hW2⟩
      case measure =>
        show (val 10 (rdSl _ _)).toNat < (val 10 (rdSl _ _)).toNat
        rw [hrd.out, hrd2.out, hnl.val, hnr.val]
        omega
    · have e0 : ls = [] := List.eq_nil_of_length_eq_zero (by omega)
      have en := (hnl.zero_iff (by decide)).1 e0
      subst e0 en
      have hm0 := hnk.nonneg (by decide)
      have hf : sgn false m = gcdZ (zS a) (zS b) := by rw [← hG.out, gcdZ_zero hm0]; rfl
      have HF := Lib.hid hf
      have hsm : Small (gcdZ (zS a) (zS b)) := by rw [← hf]; unfold Small sgn; simp; omega
      have HS := Lib.hid (res_small hsm)
      clear hf hG hsm
      go_wp2_with fail
      refine (checked_any false _ ks m _ hk hnk (by omega)).mono ?_
      rintro e w2 ⟨⟨r, rfl, rfl⟩, hb2⟩
      rw [HF.out, HS.out]
      go_wp2
      go_ret2
      exact ⟨⟨_, rfl, HS.out.symm⟩, kb_call hb2 hW (Nat.le_refl _)⟩
set_option maxRecDepth 100000 in
set_option maxHeartbeats 4000000 in
theorem rgcd_bad (a b : ByteArray) (h : okS a = false ∨ okS b = false) (hsa : a.size ≤ 9223372036854775807) (hsb : b.size ≤ 9223372036854775807) (w : World) :
    Calls Tryz.prog 29 #[.string a, .string b] w (Gives w fun r _ => r = resT false 0) := by
  have V1 := fun W => rvalid_any a hsa W
  have V2 := fun W => rvalid_any b hsb W
  cases ha : okS a with
  | false =>
    rw [ha] at V1
    go_enter Tryz.func29, Tryz.ntmps29
    go_wp2_with fail
    refine (V1 _).mono ?_
    rintro e w1 ⟨rfl, hb1⟩
    go_wp2
    go_ret2
    exact ⟨⟨_, rfl, rfl⟩, hb1⟩
  | true =>
    have hb : okS b = false := by rcases h with h | h; rw [ha] at h; cases h; exact h
    rw [ha] at V1
    rw [hb] at V2
    go_enter Tryz.func29, Tryz.ntmps29
    go_wp2_with fail
    refine (V1 _).mono ?_
    rintro e w1 ⟨rfl, hb1⟩
    go_wp2_with fail
    refine (V2 _).mono ?_
    rintro e w2 ⟨rfl, hb2⟩
    go_wp2
    go_ret2
    exact ⟨⟨_, rfl, rfl⟩, (kb_call hb2 hb1 (Nat.le_refl _))⟩
/-- putlogref03.Gcd. -/
theorem rgcd_any (a b : ByteArray) (hsa : a.size ≤ 9223372036854775807) (hsb : b.size ≤ 9223372036854775807) (w : World) :
    Calls Tryz.prog 29 #[.string a, .string b] w (Gives w fun r _ => r = resT (okS a && okS b) (gcdZ (zS a) (zS b))) := by
  by_cases h : okS a = true ∧ okS b = true
  · rw [h.1, h.2]; exact rgcd_ok a b h.1 h.2 hsa hsb w
  · rw [(and_false_of h).1, res_no _ 0]; exact rgcd_bad a b (and_false_of h).2 hsa hsb w

theorem num_one10 : Num 10 [1] 1 := by
  refine ⟨fun x hx => ?_, fun j hj => ?_, rfl⟩
  · simp at hx; subst hx; omega
  · have e : j = 0 := by simp at hj; omega
    subst e; decide
set_option maxRecDepth 100000 in
set_option maxHeartbeats 8000000 in
theorem rdiv_plain (a b : ByteArray) (ha : okS a = true) (hb : okS b = true) (hsa : a.size ≤ 9223372036854775807) (hsb : b.size ≤ 9223372036854775807) (h0 : zS b ≠ 0) (hneg : ¬ (zS a < 0 ∧ 0 < ((zS a).natAbs : Int) % (zS b).natAbs)) (w : World) :
    Calls Tryz.prog 28 #[.string a, .string b] w (Gives w fun r _ => r = divT true (zS a) (zS b)) := by
  have V1 := fun W => rvalid_any a hsa W
  have V2 := fun W => rvalid_any b hsb W
  have D1 := fun W => rdigits_any a ha W
  have D2 := fun W => rdigits_any b hb W
  have Sa := z_bound ha
  have Sb := z_bound hb
  rw [ha] at V1
  rw [hb] at V2
  have hp := div_parts (zS a) (zS b) h0
  have hsm := div_small (x := zS a) (y := zS b) Sa
  rw [if_neg hneg, if_neg hneg] at hp
  have hne := (okS_zeros hb).2 h0
  have hm : (0 : Int) < (zS b).natAbs := by omega
  have HN := Lib.hid hneg
  have HP := Lib.hid hp
  have HS := Lib.hid (res_small hsm.1)
  have HD := Lib.hid (show divT true (zS a) (zS b) = .tuple #[.string ⟨(Lib.itoa (zS a / zS b)).toArray⟩, .string ⟨(Lib.itoa (zS a % zS b)).toArray⟩, .int .i64 0] by unfold divT; rw [if_pos]; simpa using h0)
  clear hneg hp hsm h0
  go_enter Tryz.func28, Tryz.ntmps28
  go_wp2_with fail
  refine (V1 _).mono ?_
  rintro e w1 ⟨rfl, hb1⟩
  go_wp2_with fail
  refine (V2 _).mono ?_
  rintro e w2 ⟨rfl, hb2⟩
  have hB2 := kb_call hb2 hb1 (Nat.le_refl _)
  go_wp2_with fail
  refine (D1 _).mono ?_
  rintro e w3 ⟨⟨r, rfl, v, xs, rfl, hx, hnx⟩, hb3⟩
  have hB3 := kb_call hb3 hB2 (Nat.le_refl _)
  have lx := len10 hnx Sa
  go_wp2_with fail
  refine (D2 _).mono ?_
  rintro e w4 ⟨⟨r, rfl, u, ys, rfl, hy, hny⟩, hb4⟩
  have hB4 := kb_call hb4 hB3 (Nat.le_refl _)
  have ly := len10 hny Sb
  have hx4 := hx.below hb4
  clear hb1 hb2 hb3 hb4 hB2 hB3 hx
  go_wp2_with fail
  refine (divided_any _ _ xs ys _ _ hx4 hy hnx.dig hny hm (by omega) (by omega)).mono ?_
  rintro e w5 ⟨⟨r, rfl, r1, r2, qs, rs, rfl, hq, hnq, hr, hnr⟩, hb5⟩
  rw [hnx.val] at hnq hnr
  have hB5 := kb_call hb5 hB4 (Nat.le_refl _)
  have lq := hnq.len_le (by decide) hnx (Int.ediv_le_self _ (by omega))
  have lr := hnr.len_le (by decide) hny (Int.le_of_lt (Int.emod_lt_of_pos _ hm))
  obtain ⟨a5, c5, rfl⟩ := hr.shape
  have hcond : decide (zS a < 0) = true → ¬ (0 : Int) < (rs.length : Int) := by
    intro hst hl
    have hxn : zS a < 0 := of_decide_eq_true hst
    have : ¬ ((zS a).natAbs : Int) % (zS b).natAbs = 0 := fun e => by
      have := (hnr.zero_iff (by decide)).2 e
      rw [this] at hl; simp at hl
    exact HN.out ⟨hxn, by have := hnr.nonneg (by decide); omega⟩
  have hP1 := HP.out.1
  have hP2 := HP.out.2
  generalize ((zS a).natAbs : Int) / (zS b).natAbs = Q at *
  generalize ((zS a).natAbs : Int) % (zS b).natAbs = R at *
  generalize decide (zS b < 0) = t at *
  generalize decide (zS a < 0) = s at *
  have HP1 := Lib.hid hP1
  have HP2 := Lib.hid hP2
  clear hP1 hP2 HN HP
  cases s
  all_goals
    try have hc2 := hcond rfl
    clear hcond
    go_wp2_with fail
    refine (checked_any _ _ qs _ _ hq hnq (by omega)).mono ?_
    rintro e w8 ⟨⟨r, rfl, rfl⟩, hb8⟩
    have hr8 := hr.below hb8
    first | rw [show sgn t Q = zS a / zS b by rw [← HP1.out]; cases t <;> rfl, HS.out] | rw [show sgn (!t) Q = zS a / zS b by rw [← HP1.out]; cases t <;> rfl, HS.out]
    go_wp2_with fail
    refine (rtext_any false _ rs _ _ hr8 hnr (by omega)).mono ?_
    rintro e w9 ⟨rfl, hb9⟩
    rw [show sgn false R = zS a % zS b from HP2.out]
    go_wp2
    refine bodyPost_ret (v := .tuple #[.string ⟨(Lib.itoa (zS a / zS b)).toArray⟩, .string ⟨(Lib.itoa (zS a % zS b)).toArray⟩, .int .i64 0]) (by simp [results, Tryz.results28, go_sem]) rfl ?_
    exact ⟨⟨_, rfl, HD.out.symm⟩, kb_call hb9 (kb_call hb8 hB5 (Nat.le_refl _)) (Nat.le_refl _)⟩

set_option maxRecDepth 100000 in
set_option maxHeartbeats 8000000 in
theorem rdiv_round (a b : ByteArray) (ha : okS a = true) (hb : okS b = true) (hsa : a.size ≤ 9223372036854775807) (hsb : b.size ≤ 9223372036854775807) (h0 : zS b ≠ 0) (hneg : zS a < 0 ∧ 0 < ((zS a).natAbs : Int) % (zS b).natAbs) (w : World) :
    Calls Tryz.prog 28 #[.string a, .string b] w (Gives w fun r _ => r = divT true (zS a) (zS b)) := by
  have V1 := fun W => rvalid_any a hsa W
  have V2 := fun W => rvalid_any b hsb W
  have D1 := fun W => rdigits_any a ha W
  have D2 := fun W => rdigits_any b hb W
  have Sa := z_bound ha
  have Sb := z_bound hb
  rw [ha] at V1
  rw [hb] at V2
  have hp := div_parts (zS a) (zS b) h0
  have hsm := div_small (x := zS a) (y := zS b) Sa
  rw [if_pos hneg, if_pos hneg] at hp
  have hne := (okS_zeros hb).2 h0
  have hm : (0 : Int) < (zS b).natAbs := by omega
  have HN := Lib.hid hneg
  have HP := Lib.hid hp
  have HS := Lib.hid (res_small hsm.1)
  have HD := Lib.hid (show divT true (zS a) (zS b) = .tuple #[.string ⟨(Lib.itoa (zS a / zS b)).toArray⟩, .string ⟨(Lib.itoa (zS a % zS b)).toArray⟩, .int .i64 0] by unfold divT; rw [if_pos]; simpa using h0)
  clear hneg hp hsm h0
  go_enter Tryz.func28, Tryz.ntmps28
  go_wp2_with fail
  refine (V1 _).mono ?_
  rintro e w1 ⟨rfl, hb1⟩
  go_wp2_with fail
  refine (V2 _).mono ?_
  rintro e w2 ⟨rfl, hb2⟩
  have hB2 := kb_call hb2 hb1 (Nat.le_refl _)
  go_wp2_with fail
  refine (D1 _).mono ?_
  rintro e w3 ⟨⟨r, rfl, v, xs, rfl, hx, hnx⟩, hb3⟩
  have hB3 := kb_call hb3 hB2 (Nat.le_refl _)
  have lx := len10 hnx Sa
  go_wp2_with fail
  refine (D2 _).mono ?_
  rintro e w4 ⟨⟨r, rfl, u, ys, rfl, hy, hny⟩, hb4⟩
  have hB4 := kb_call hb4 hB3 (Nat.le_refl _)
  have ly := len10 hny Sb
  have hx4 := hx.below hb4
  clear hb1 hb2 hb3 hb4 hB2 hB3 hx
  go_wp2_with fail
  refine (divided_any _ _ xs ys _ _ hx4 hy hnx.dig hny hm (by omega) (by omega)).mono ?_
  rintro e w5 ⟨⟨r, rfl, r1, r2, qs, rs, rfl, hq, hnq, hr, hnr⟩, hb5⟩
  rw [hnx.val] at hnq hnr
  have hB5 := kb_call hb5 hB4 (Nat.le_refl _)
  have lq := hnq.len_le (by decide) hnx (Int.ediv_le_self _ (by omega))
  have lr := hnr.len_le (by decide) hny (Int.le_of_lt (Int.emod_lt_of_pos _ hm))
  obtain ⟨a5, c5, rfl⟩ := hr.shape
  have hsb : decide (zS a < 0) = true := decide_eq_true HN.out.1
  rw [hsb]
  have hrl : (0 : Int) < (rs.length : Int) := by
    have : rs ≠ [] := fun e => by
      have := (hnr.zero_iff (by decide)).1 e
      have := HN.out.2
      omega
    have := List.length_pos_iff.2 this
    omega
  have hle : ((zS a).natAbs : Int) % (zS b).natAbs ≤ (zS b).natAbs := Int.le_of_lt (Int.emod_lt_of_pos _ hm)
  have hy5 := hy.below hb5
  have hP1 : sgn (true != decide (zS b < 0)) (((zS a).natAbs : Int) / (zS b).natAbs + 1) = zS a / zS b := by rw [← hsb]; exact HP.out.1
  have hP2 := HP.out.2
  generalize ((zS a).natAbs : Int) / (zS b).natAbs = Q at *
  generalize ((zS a).natAbs : Int) % (zS b).natAbs = R at *
  generalize decide (zS b < 0) = t at *
  have HP1 := Lib.hid (show sgn (!t) (Q + 1) = zS a / zS b by rw [← hP1]; cases t <;> rfl)
  have HP2 := Lib.hid hP2
  clear hP1 hP2 hsb HN
  go_wp2_with fail
  have hba : Below w5.heap.size w5 (w5.alloc (.cells #[.int .i64 1] 3)) := (Below.refl _ _).alloc (Nat.le_refl _) _
  refine (rplus_any _ _ qs [1] Q 1 _ (hq.below hba) (Sl.of_own (own_lit w5 1)) hnq num_one10 (by omega) (by decide)).mono ?_
  rintro e w6 ⟨⟨r, rfl, zs, hz, hnz⟩, hb6⟩
  have hB6 := kb_call hb6 (kb_call hba hB5 (Nat.le_refl _)) (Nat.le_refl _)
  have hr6 := (hr.below hba).below hb6
  have hy6 := (hy5.below hba).below hb6
  obtain ⟨a6, c6, rfl⟩ := hz.shape
  have lz : zs.length ≤ 201 := hnz.length_le (by decide) (by
    have h1 := hnq.lt (by decide)
    have h2 := pow_mono (b := 10) (by decide) (show qs.length ≤ 200 by omega)
    have h3 : (10 : Int) ^ 201 = 10 ^ 200 * 10 := Int.pow_succ ..
    have h4 : (0 : Int) < 10 ^ 200 := Int.pow_pos (by decide)
    generalize (10 : Int) ^ 200 = P at *
    generalize (10 : Int) ^ 201 = P' at *
    omega)
  go_wp2_with fail
  refine (rminus_any _ _ ys rs _ R _ hy6 hr6 hny hnr hle (by omega)).mono ?_
  rintro e w7 ⟨⟨r, rfl, ws, hw7, hnw⟩, hb7⟩
  have hB7 := kb_call hb7 hB6 (Nat.le_refl _)
  have hz7 := hz.below hb7
  have lw := hnw.len_le (by decide) hny (by have := hnr.nonneg (by decide); omega)
  go_wp2_with fail
  refine (checked_any (!t) _ zs _ _ hz7 hnz (by omega)).mono ?_
  rintro e w8 ⟨⟨r, rfl, rfl⟩, hb8⟩
  have hw8 := hw7.below hb8
  rw [HP1.out, HS.out]
  go_wp2_with fail
  refine (rtext_any false _ ws _ _ hw8 hnw (by omega)).mono ?_
  rintro e w9 ⟨rfl, hb9⟩
  rw [show sgn false (((zS b).natAbs : Int) - R) = zS a % zS b from HP2.out]
  go_wp2
  refine bodyPost_ret (v := .tuple #[.string ⟨(Lib.itoa (zS a / zS b)).toArray⟩, .string ⟨(Lib.itoa (zS a % zS b)).toArray⟩, .int .i64 0]) (by simp [results, Tryz.results28, go_sem]) rfl ?_
  exact ⟨⟨_, rfl, HD.out.symm⟩, kb_call hb9 (kb_call hb8 hB7 (Nat.le_refl _)) (Nat.le_refl _)⟩

set_option maxRecDepth 100000 in
set_option maxHeartbeats 8000000 in
theorem rdiv_zero (a b : ByteArray) (ha : okS a = true) (hb : okS b = true) (hsa : a.size ≤ 9223372036854775807) (hsb : b.size ≤ 9223372036854775807) (h0 : zS b = 0) (w : World) :
    Calls Tryz.prog 28 #[.string a, .string b] w (Gives w fun r _ => r = divT true (zS a) (zS b)) := by
  have V1 := fun W => rvalid_any a hsa W
  have V2 := fun W => rvalid_any b hsb W
  rw [ha] at V1
  rw [hb] at V2
  have hE := Lib.hid (show divT true (zS a) (zS b) = .tuple #[.string ⟨#[]⟩, .string ⟨#[]⟩, .int .i64 30] by rw [h0]; simp [divT])
  have e := (okS_zeros hb).1 h0
  subst e
  clear h0
  go_enter Tryz.func28, Tryz.ntmps28
  go_wp2_with fail
  refine (V1 _).mono ?_
  rintro e w1 ⟨rfl, hb1⟩
  go_wp2_with fail
  refine (V2 _).mono ?_
  rintro e w2 ⟨rfl, hb2⟩
  go_wp2
  refine bodyPost_ret (v := .tuple #[.string ⟨#[]⟩, .string ⟨#[]⟩, .int .i64 30]) (by simp [results, Tryz.results28, go_sem]) rfl ?_
  exact ⟨⟨_, rfl, hE.out.symm⟩, kb_call hb2 hb1 (Nat.le_refl _)⟩
set_option maxRecDepth 100000 in
set_option maxHeartbeats 4000000 in
theorem rdiv_bad (a b : ByteArray) (h : okS a = false ∨ okS b = false) (hsa : a.size ≤ 9223372036854775807) (hsb : b.size ≤ 9223372036854775807) (w : World) :
    Calls Tryz.prog 28 #[.string a, .string b] w (Gives w fun r _ => r = divT false 0 0) := by
  have V1 := fun W => rvalid_any a hsa W
  have V2 := fun W => rvalid_any b hsb W
  cases ha : okS a with
  | false =>
    rw [ha] at V1
    go_enter Tryz.func28, Tryz.ntmps28
    go_wp2_with fail
    refine (V1 _).mono ?_
    rintro e w1 ⟨rfl, hb1⟩
    go_wp2
    refine bodyPost_ret (v := .tuple #[.string ⟨#[]⟩, .string ⟨#[]⟩, .int .i64 30]) (by simp [results, Tryz.results28, go_sem]) rfl ?_
    exact ⟨⟨_, rfl, rfl⟩, hb1⟩
  | true =>
    have hb : okS b = false := by rcases h with h | h; rw [ha] at h; cases h; exact h
    rw [ha] at V1
    rw [hb] at V2
    go_enter Tryz.func28, Tryz.ntmps28
    go_wp2_with fail
    refine (V1 _).mono ?_
    rintro e w1 ⟨rfl, hb1⟩
    go_wp2_with fail
    refine (V2 _).mono ?_
    rintro e w2 ⟨rfl, hb2⟩
    go_wp2
    refine bodyPost_ret (v := .tuple #[.string ⟨#[]⟩, .string ⟨#[]⟩, .int .i64 30]) (by simp [results, Tryz.results28, go_sem]) rfl ?_
    exact ⟨⟨_, rfl, rfl⟩, (kb_call hb2 hb1 (Nat.le_refl _))⟩
/-- putlogref03.Div. -/
theorem rdiv_any (a b : ByteArray) (hsa : a.size ≤ 9223372036854775807) (hsb : b.size ≤ 9223372036854775807) (w : World) :
    Calls Tryz.prog 28 #[.string a, .string b] w (Gives w fun r _ => r = divT (okS a && okS b) (zS a) (zS b)) := by
  by_cases h : okS a = true ∧ okS b = true
  · rw [h.1, h.2]
    by_cases h0 : zS b = 0
    · exact rdiv_zero a b h.1 h.2 hsa hsb h0 w
    · by_cases hneg : zS a < 0 ∧ 0 < ((zS a).natAbs : Int) % (zS b).natAbs
      · exact rdiv_round a b h.1 h.2 hsa hsb h0 hneg w
      · exact rdiv_plain a b h.1 h.2 hsa hsb h0 hneg w
  · rw [(and_false_of h).1]
    exact (rdiv_bad a b (and_false_of h).2 hsa hsb w).mono fun _ _ h => h
end Go.Proofs.YtbnilfjhalildaaGreatDoor
