/- IntegerLimits: the walk. -/
import Derived.Test.YtbnilfjhalildaaGreatDoorNines
namespace Go.Proofs.YtbnilfjhalildaaGreatDoor
open Go.RowKit
attribute [local go_sem] Oper.semAt_some

theorem nines_at (z : Int) (n : Nat) (h : z = n) (hn : n ≤ 1000) (w : World) : Calls Tryz.prog 22 #[.int .i64 z] w fun e w' => e = .returned (.string (N9 n)) ∧ w = w' := by
  subst h; exact nines_any n hn w
theorem big_ge : 1000000 ≤ Big := by unfold Big; decide
theorem most_I : N9 200 = I (Big - 1) := N9_I (by decide)
theorem most_pos : 0 < Big - 1 := by have := big_ge; omega
theorem most_small : Small (Big - 1) := by have := big_ge; unfold Small; omega
theorem most_neg_small : Small (-(Big - 1)) := by have := big_ge; unfold Small; omega
theorem most_add {x : Int} (h : Bd 5 x) (hx : x ≤ 0) : Small (Big - 1 + x) := by have := big_ge; unfold Bd at h; unfold Small; omega
theorem most_sub {x : Int} (h : Bd 5 x) (hx : x ≤ 0) : Small (-(Big - 1) - x) := by have := big_ge; unfold Bd at h; unfold Small; omega
theorem most_add_no {x : Int} (hx : 0 < x) : ¬ Small (Big - 1 + x) := by unfold Small; omega
theorem most_sub_no {x : Int} (hx : 0 < x) : ¬ Small (-(Big - 1) - x) := by unfold Small; omega
theorem pow_cast (k : Nat) : ((10 : Int) ^ k) = ((10 ^ k : Nat) : Int) := by simp
theorem big_cast : Big = ((10 ^ 200 : Nat) : Int) := pow_cast 200
theorem pow_le_big {k : Nat} (h : k < 200) : 10 * 10 ^ k ≤ 10 ^ 200 := by
  rw [Nat.mul_comm, ← Nat.pow_succ]; exact Nat.pow_le_pow_right (by decide) (by omega)
theorem pow_small {k : Nat} (h : k < 200) : Small (10 ^ k) := by
  have h1 := pow_le_big h
  have h2 : 0 < 10 ^ k := Nat.pow_pos (by decide)
  unfold Small; rw [pow_cast, big_cast]
  generalize 10 ^ 200 = B at *
  omega
theorem nines_small {k : Nat} (h : k < 200) : Small (10 ^ k - 1) := by
  have h1 := pow_le_big h
  have h2 : 0 < 10 ^ k := Nat.pow_pos (by decide)
  unfold Small; rw [pow_cast, big_cast]
  generalize 10 ^ 200 = B at *
  omega
theorem two_small {k : Nat} (h : k < 200) : Small (2 * 10 ^ k - 1) := by
  have h1 := pow_le_big h
  have h2 : 0 < 10 ^ k := Nat.pow_pos (by decide)
  unfold Small; rw [pow_cast, big_cast]
  generalize 10 ^ 200 = B at *
  omega
theorem prod_cast (m n : Nat) : (10 : Int) ^ m * (2 * 10 ^ n - 1) = ((10 ^ m * (2 * 10 ^ n - 1) : Nat) : Int) := by
  have h2 : 0 < 10 ^ n := Nat.pow_pos (by decide)
  rw [pow_cast, pow_cast, show (2 * ((10 ^ n : Nat) : Int) - 1) = ((2 * 10 ^ n - 1 : Nat) : Int) by omega]
  simp
theorem prod_bounds (m n : Nat) : 10 ^ (m + n) ≤ 10 ^ m * (2 * 10 ^ n - 1) ∧ 10 ^ m * (2 * 10 ^ n - 1) < 2 * 10 ^ (m + n) := by
  have h1 : 0 < 10 ^ m := Nat.pow_pos (by decide)
  have h2 : 0 < 10 ^ n := Nat.pow_pos (by decide)
  rw [Nat.pow_add]
  refine ⟨Nat.mul_le_mul_left _ (by omega), ?_⟩
  rw [Nat.mul_left_comm]
  exact Nat.mul_lt_mul_of_pos_left (by omega) h1
theorem prod_small {m n : Nat} (h : m + n < 200) : Small (10 ^ m * (2 * 10 ^ n - 1)) := by
  obtain ⟨h1, h2⟩ := prod_bounds m n
  have h3 := pow_le_big h
  unfold Small; rw [prod_cast, big_cast]
  generalize 10 ^ 200 = B at *
  generalize 10 ^ m * (2 * 10 ^ n - 1) = P at *
  generalize 10 ^ (m + n) = Q at *
  omega
theorem prod_big {m n : Nat} (h : 200 ≤ m + n) : ¬ Small (10 ^ m * (2 * 10 ^ n - 1)) := by
  obtain ⟨h1, h2⟩ := prod_bounds m n
  have h3 : 10 ^ 200 ≤ 10 ^ (m + n) := Nat.pow_le_pow_right (by decide) h
  unfold Small; rw [prod_cast, big_cast]
  generalize 10 ^ 200 = B at *
  generalize 10 ^ m * (2 * 10 ^ n - 1) = P at *
  generalize 10 ^ (m + n) = Q at *
  omega
theorem I_len (z : Int) : (I z).size = (Lib.itoa z).length := rfl
theorem prod_len (m n : Nat) : (I (10 ^ m * (2 * 10 ^ n - 1))).size = m + n + 1 := by
  obtain ⟨h1, h2⟩ := prod_bounds m n
  have h3 : 2 * 10 ^ (m + n) ≤ 10 ^ (m + n + 1) := by rw [Nat.pow_succ]; omega
  rw [prod_cast]
  have h4 := decDigits_len (k := m + n + 1) (Nat.lt_of_lt_of_le h2 h3) (by omega)
  have h5 := decDigits_len_ge h1
  rw [I_len, itoa_nonneg (Int.natCast_nonneg _), Int.toNat_natCast]
  omega
set_option maxRecDepth 100000 in
set_option maxHeartbeats 16000000 in
theorem limits_law (a : ByteArray) (m n : Int) (ha : a.size ≤ 9223372036854775807) (hm0 : -9223372036854775808 ≤ m) (hm1 : m ≤ 9223372036854775807) (hn0 : -9223372036854775808 ≤ n) (hn1 : n ≤ 9223372036854775807) (w : World) (hE : EnvT w) :
    Calls Tryz.prog 8 #[.string a, .int .i64 m, .int .i64 n] w (Rets w (.bool true)) := by
  have Hi1 := Lib.hid (lit_I [49] (1) (by decide +kernel) (by decide +kernel))
  have Bi1 : Bd 20 (1) := by unfold Bd; decide
  have Hi0 := Lib.hid (lit_I [48] (0) (by decide +kernel) (by decide +kernel))
  have Bi0 : Bd 20 (0) := by unfold Bd; decide
  obtain ⟨sM, HM⟩ : ∃ s : ByteArray, Hid (s = N9 200) := ⟨_, rfl⟩
  have HMI := Lib.hid (HM.out.trans most_I)
  have HN := Lib.hid ((congrArg (fun s : ByteArray => (⟨#[45]⟩ : ByteArray) ++ s) HMI.out).trans (minus_I most_pos))
  have H201 := Lib.hid (show okS (sM ++ ⟨#[57]⟩) = false by rw [HM.out, N9_succ]; decide +kernel)
  have hszM : sM.size ≤ 1000 := by rw [HM.out, N9_size]; omega
  have hB0 := Below.refl w.heap.size w
  have hT0 := hE
  go_enter Tryz.func8, Tryz.ntmps8
  go_wp2_with fail
  refine (sane_any _ hT0.env).mono ?_
  rintro e w1 ⟨rfl, hb⟩
  have hB1 := kb_call hb hB0 (Nat.le_refl _)
  have hT1 := hE.below hB1 (Nat.le_refl _)
  clear hb hB0 hT0
  go_wp2_with fail
  refine (made_is a ha 5 (by decide) _).mono ?_
  rintro e w2 ⟨x, rfl, Bx, hb⟩
  obtain ⟨sx, Hx⟩ : ∃ s : ByteArray, Hid (s = I x) := ⟨_, rfl⟩
  rw [← Hx.out]
  have hB2 := kb_call hb hB1 (Nat.le_refl _)
  have hT2 := hE.below hB2 (Nat.le_refl _)
  clear hb hB1 hT1
  go_wp2_with fail
  refine (nines_at 200 200 rfl (by decide) _).mono ?_
  rintro e w' ⟨rfl, rfl⟩
  rw [← HM.out]
  rcases Int.lt_or_le 0 x with hx | hx
  · have HX := Lib.hid hx
    clear hx
    go_wp2_with fail
    refine (add_no HMI.out Hx.out most_small (Bx.small (by decide)) _ hT2.env (most_add_no HX.out)).mono ?_
    rintro e w3 ⟨rfl, hb⟩
    have hB3 := kb_call hb hB2 (Nat.le_refl _)
    have hT3 := hE.below hB3 (Nat.le_refl _)
    clear hb hB2 hT2
    go_wp2_with fail
    refine (sub_no HN.out Hx.out most_neg_small (Bx.small (by decide)) _ hT3.env (most_sub_no HX.out)).mono ?_
    rintro e w4 ⟨rfl, hb⟩
    have hB4 := kb_call hb hB3 (Nat.le_refl _)
    have hT4 := hE.below hB4 (Nat.le_refl _)
    clear hb hB3 hT3
    go_wp2_with fail
    refine (pick_any m hm0 hm1 _).mono ?_
    rintro e w' ⟨⟨km, hkm, rfl⟩, rfl⟩
    go_wp2_with fail
    refine (pick_any n hn0 hn1 _).mono ?_
    rintro e w' ⟨⟨kn, hkn, rfl⟩, rfl⟩
    have hszk : (N9 kn).size ≤ 1000 := by rw [N9_size]; omega
    go_wp2_with fail
    refine (nines_at km km rfl (by omega) _).mono ?_
    rintro e w' ⟨rfl, rfl⟩
    by_cases hz : km = 0
    · subst hz
      have hs : 0 + kn < 200 := by omega
      have hsi : decide ((kn : Int) < 200) = true := decide_eq_true (by omega)
      obtain ⟨sp, Hp⟩ : ∃ s : ByteArray, Hid (s = I (10 ^ 0 * (2 * 10 ^ kn - 1))) := ⟨_, Lib.hid rfl⟩
      have hsz : sp.size = 0 + kn + 1 := by rw [Hp.out]; exact prod_len 0 kn
      have hsz' : ((0 + kn + 1 : Nat) : Int) = (kn : Int) + 1 := by omega
      go_wp2_with fail
      refine (Rets.of (add_any _ _ _ hT4.env) (show resT _ _ = .tuple #[.string ⟨#[]⟩, .int .i64 30] by rw [show okS (N9 0) = false by decide +kernel]; rfl)).mono ?_
      rintro e w5 ⟨rfl, hb⟩
      have hB5 := kb_call hb hB4 (Nat.le_refl _)
      have hT5 := hE.below hB5 (Nat.le_refl _)
      clear hb hB4 hT4
      go_wp2_with fail
      refine (add_is Hi0.out Hi1.out (Bi0.small (by decide)) (Bi1.small (by decide)) _ hT5.env 1 _ (by decide) Hi1.out (Bi1.small (by decide))).mono ?_
      rintro e w6 ⟨rfl, hb⟩
      have hB6 := kb_call hb hB5 (Nat.le_refl _)
      have hT6 := hE.below hB6 (Nat.le_refl _)
      clear hb hB5 hT5
      go_wp2_with fail
      refine (nines_at kn kn rfl (by omega) _).mono ?_
      rintro e w' ⟨rfl, rfl⟩
      go_wp2_with fail
      refine (mul_is Hi1.out (one_nines kn) (Bi1.small (by decide)) (two_small hkn) _ hT6.env _ _ (by rw [Int.pow_zero]) Hp.out (prod_small hs)).mono ?_
      rintro e w7 ⟨rfl, hb⟩
      have hB7 := kb_call hb hB6 (Nat.le_refl _)
      have hT7 := hE.below hB7 (Nat.le_refl _)
      clear hb hB6 hT6
      go_wp2_with fail
      refine (cmp_is Hx.out Hi0.out (Bx.small (by decide)) (Bi0.small (by decide)) _ _ ((compareInt_gt HX.out).symm)).mono ?_
      rintro e w8 ⟨rfl, hb⟩
      have hB8 := kb_call hb hB7 (Nat.le_refl _)
      have hT8 := hE.below hB8 (Nat.le_refl _)
      clear hb hB7 hT7
      go_wp2_with fail
      refine (valid_no _ H201.out _).mono ?_
      rintro e w9 ⟨rfl, hb⟩
      have hB9 := kb_call hb hB8 (Nat.le_refl _)
      have hT9 := hE.below hB9 (Nat.le_refl _)
      clear hb hB8 hT8
      go_wp2_with fail
      refine (valid_is HN.out most_neg_small _).mono ?_
      rintro e w10 ⟨rfl, hb⟩
      have hB10 := kb_call hb hB9 (Nat.le_refl _)
      have hT10 := hE.below hB10 (Nat.le_refl _)
      clear hb hB9 hT9
      go_wp2
      go_ret
      exact ⟨rfl, hB10⟩
    · have hz1 : ((km : Int) == 0) = false := by simp; omega
      obtain ⟨so, Ho⟩ : ∃ s : ByteArray, Hid (s = I (10 ^ km)) := ⟨_, Lib.hid rfl⟩
      go_wp2_with fail
      refine (add_is (N9_I (by omega : 0 < km)) Hi1.out (nines_small hkm) (Bi1.small (by decide)) _ hT4.env _ _ (by omega) Ho.out (pow_small hkm)).mono ?_
      rintro e w5 ⟨rfl, hb⟩
      have hB5 := kb_call hb hB4 (Nat.le_refl _)
      have hT5 := hE.below hB5 (Nat.le_refl _)
      clear hb hB4 hT4
      go_wp2_with fail
      refine (nines_at kn kn rfl (by omega) _).mono ?_
      rintro e w' ⟨rfl, rfl⟩
      by_cases hs : km + kn < 200
      · obtain ⟨sp, Hp⟩ : ∃ s : ByteArray, Hid (s = I (10 ^ km * (2 * 10 ^ kn - 1))) := ⟨_, Lib.hid rfl⟩
        have hsz : (sp.size : Int) = (km : Int) + (kn : Int) + 1 := by have := prod_len km kn; rw [← Hp.out] at this; omega
        have hsi : decide ((km : Int) + (kn : Int) < 200) = true := decide_eq_true (by omega)
        go_wp2_with fail
        refine (mul_is Ho.out (one_nines kn) (pow_small hkm) (two_small hkn) _ hT5.env _ _ rfl Hp.out (prod_small hs)).mono ?_
        rintro e w6 ⟨rfl, hb⟩
        have hB6 := kb_call hb hB5 (Nat.le_refl _)
        have hT6 := hE.below hB6 (Nat.le_refl _)
        clear hb hB5 hT5
        go_wp2_with fail
        refine (cmp_is Hx.out Hi0.out (Bx.small (by decide)) (Bi0.small (by decide)) _ _ ((compareInt_gt HX.out).symm)).mono ?_
        rintro e w7 ⟨rfl, hb⟩
        have hB7 := kb_call hb hB6 (Nat.le_refl _)
        have hT7 := hE.below hB7 (Nat.le_refl _)
        clear hb hB6 hT6
        go_wp2_with fail
        refine (valid_no _ H201.out _).mono ?_
        rintro e w8 ⟨rfl, hb⟩
        have hB8 := kb_call hb hB7 (Nat.le_refl _)
        have hT8 := hE.below hB8 (Nat.le_refl _)
        clear hb hB7 hT7
        go_wp2_with fail
        refine (valid_is HN.out most_neg_small _).mono ?_
        rintro e w9 ⟨rfl, hb⟩
        have hB9 := kb_call hb hB8 (Nat.le_refl _)
        have hT9 := hE.below hB9 (Nat.le_refl _)
        clear hb hB8 hT8
        go_wp2
        go_ret
        exact ⟨rfl, hB9⟩
      · have hs : 200 ≤ km + kn := by omega
        have hsi : decide ((km : Int) + (kn : Int) < 200) = false := decide_eq_false (by omega)
        go_wp2_with fail
        refine (mul_no Ho.out (one_nines kn) (pow_small hkm) (two_small hkn) _ hT5.env (prod_big hs)).mono ?_
        rintro e w6 ⟨rfl, hb⟩
        have hB6 := kb_call hb hB5 (Nat.le_refl _)
        have hT6 := hE.below hB6 (Nat.le_refl _)
        clear hb hB5 hT5
        go_wp2_with fail
        refine (cmp_is Hx.out Hi0.out (Bx.small (by decide)) (Bi0.small (by decide)) _ _ ((compareInt_gt HX.out).symm)).mono ?_
        rintro e w7 ⟨rfl, hb⟩
        have hB7 := kb_call hb hB6 (Nat.le_refl _)
        have hT7 := hE.below hB7 (Nat.le_refl _)
        clear hb hB6 hT6
        go_wp2_with fail
        refine (valid_no _ H201.out _).mono ?_
        rintro e w8 ⟨rfl, hb⟩
        have hB8 := kb_call hb hB7 (Nat.le_refl _)
        have hT8 := hE.below hB8 (Nat.le_refl _)
        clear hb hB7 hT7
        go_wp2_with fail
        refine (valid_is HN.out most_neg_small _).mono ?_
        rintro e w9 ⟨rfl, hb⟩
        have hB9 := kb_call hb hB8 (Nat.le_refl _)
        have hT9 := hE.below hB9 (Nat.le_refl _)
        clear hb hB8 hT8
        go_wp2
        go_ret
        exact ⟨rfl, hB9⟩
  · have HX := Lib.hid hx
    clear hx
    obtain ⟨c1, hc1, hc1', _⟩ := cmp_le HX.out
    have Hc1 := Lib.hid hc1
    clear hc1
    obtain ⟨sa, Ha⟩ : ∃ s : ByteArray, Hid (s = I (Big - 1 + x)) := ⟨_, rfl⟩
    obtain ⟨sd, Hd⟩ : ∃ s : ByteArray, Hid (s = I (-(Big - 1) - x)) := ⟨_, rfl⟩
    go_wp2_with fail
    refine (add_is HMI.out Hx.out most_small (Bx.small (by decide)) _ hT2.env _ _ rfl Ha.out (most_add Bx HX.out)).mono ?_
    rintro e w3 ⟨rfl, hb⟩
    have hB3 := kb_call hb hB2 (Nat.le_refl _)
    have hT3 := hE.below hB3 (Nat.le_refl _)
    clear hb hB2 hT2
    go_wp2_with fail
    refine (sub_is HN.out Hx.out most_neg_small (Bx.small (by decide)) _ hT3.env _ _ rfl Hd.out (most_sub Bx HX.out)).mono ?_
    rintro e w4 ⟨rfl, hb⟩
    have hB4 := kb_call hb hB3 (Nat.le_refl _)
    have hT4 := hE.below hB4 (Nat.le_refl _)
    clear hb hB3 hT3
    go_wp2_with fail
    refine (pick_any m hm0 hm1 _).mono ?_
    rintro e w' ⟨⟨km, hkm, rfl⟩, rfl⟩
    go_wp2_with fail
    refine (pick_any n hn0 hn1 _).mono ?_
    rintro e w' ⟨⟨kn, hkn, rfl⟩, rfl⟩
    have hszk : (N9 kn).size ≤ 1000 := by rw [N9_size]; omega
    go_wp2_with fail
    refine (nines_at km km rfl (by omega) _).mono ?_
    rintro e w' ⟨rfl, rfl⟩
    by_cases hz : km = 0
    · subst hz
      have hs : 0 + kn < 200 := by omega
      have hsi : decide ((kn : Int) < 200) = true := decide_eq_true (by omega)
      obtain ⟨sp, Hp⟩ : ∃ s : ByteArray, Hid (s = I (10 ^ 0 * (2 * 10 ^ kn - 1))) := ⟨_, Lib.hid rfl⟩
      have hsz : sp.size = 0 + kn + 1 := by rw [Hp.out]; exact prod_len 0 kn
      have hsz' : ((0 + kn + 1 : Nat) : Int) = (kn : Int) + 1 := by omega
      go_wp2_with fail
      refine (Rets.of (add_any _ _ _ hT4.env) (show resT _ _ = .tuple #[.string ⟨#[]⟩, .int .i64 30] by rw [show okS (N9 0) = false by decide +kernel]; rfl)).mono ?_
      rintro e w5 ⟨rfl, hb⟩
      have hB5 := kb_call hb hB4 (Nat.le_refl _)
      have hT5 := hE.below hB5 (Nat.le_refl _)
      clear hb hB4 hT4
      go_wp2_with fail
      refine (add_is Hi0.out Hi1.out (Bi0.small (by decide)) (Bi1.small (by decide)) _ hT5.env 1 _ (by decide) Hi1.out (Bi1.small (by decide))).mono ?_
      rintro e w6 ⟨rfl, hb⟩
      have hB6 := kb_call hb hB5 (Nat.le_refl _)
      have hT6 := hE.below hB6 (Nat.le_refl _)
      clear hb hB5 hT5
      go_wp2_with fail
      refine (nines_at kn kn rfl (by omega) _).mono ?_
      rintro e w' ⟨rfl, rfl⟩
      go_wp2_with fail
      refine (mul_is Hi1.out (one_nines kn) (Bi1.small (by decide)) (two_small hkn) _ hT6.env _ _ (by rw [Int.pow_zero]) Hp.out (prod_small hs)).mono ?_
      rintro e w7 ⟨rfl, hb⟩
      have hB7 := kb_call hb hB6 (Nat.le_refl _)
      have hT7 := hE.below hB7 (Nat.le_refl _)
      clear hb hB6 hT6
      go_wp2_with fail
      refine (cmp_is Hx.out Hi0.out (Bx.small (by decide)) (Bi0.small (by decide)) _ c1 (Hc1.out)).mono ?_
      rintro e w8 ⟨rfl, hb⟩
      have hB8 := kb_call hb hB7 (Nat.le_refl _)
      have hT8 := hE.below hB8 (Nat.le_refl _)
      clear hb hB7 hT7
      go_wp2_with fail
      refine (valid_no _ H201.out _).mono ?_
      rintro e w9 ⟨rfl, hb⟩
      have hB9 := kb_call hb hB8 (Nat.le_refl _)
      have hT9 := hE.below hB9 (Nat.le_refl _)
      clear hb hB8 hT8
      go_wp2_with fail
      refine (valid_is HN.out most_neg_small _).mono ?_
      rintro e w10 ⟨rfl, hb⟩
      have hB10 := kb_call hb hB9 (Nat.le_refl _)
      have hT10 := hE.below hB10 (Nat.le_refl _)
      clear hb hB9 hT9
      go_wp2
      go_ret
      exact ⟨rfl, hB10⟩
    · have hz1 : ((km : Int) == 0) = false := by simp; omega
      obtain ⟨so, Ho⟩ : ∃ s : ByteArray, Hid (s = I (10 ^ km)) := ⟨_, Lib.hid rfl⟩
      go_wp2_with fail
      refine (add_is (N9_I (by omega : 0 < km)) Hi1.out (nines_small hkm) (Bi1.small (by decide)) _ hT4.env _ _ (by omega) Ho.out (pow_small hkm)).mono ?_
      rintro e w5 ⟨rfl, hb⟩
      have hB5 := kb_call hb hB4 (Nat.le_refl _)
      have hT5 := hE.below hB5 (Nat.le_refl _)
      clear hb hB4 hT4
      go_wp2_with fail
      refine (nines_at kn kn rfl (by omega) _).mono ?_
      rintro e w' ⟨rfl, rfl⟩
      by_cases hs : km + kn < 200
      · obtain ⟨sp, Hp⟩ : ∃ s : ByteArray, Hid (s = I (10 ^ km * (2 * 10 ^ kn - 1))) := ⟨_, Lib.hid rfl⟩
        have hsz : (sp.size : Int) = (km : Int) + (kn : Int) + 1 := by have := prod_len km kn; rw [← Hp.out] at this; omega
        have hsi : decide ((km : Int) + (kn : Int) < 200) = true := decide_eq_true (by omega)
        go_wp2_with fail
        refine (mul_is Ho.out (one_nines kn) (pow_small hkm) (two_small hkn) _ hT5.env _ _ rfl Hp.out (prod_small hs)).mono ?_
        rintro e w6 ⟨rfl, hb⟩
        have hB6 := kb_call hb hB5 (Nat.le_refl _)
        have hT6 := hE.below hB6 (Nat.le_refl _)
        clear hb hB5 hT5
        go_wp2_with fail
        refine (cmp_is Hx.out Hi0.out (Bx.small (by decide)) (Bi0.small (by decide)) _ c1 (Hc1.out)).mono ?_
        rintro e w7 ⟨rfl, hb⟩
        have hB7 := kb_call hb hB6 (Nat.le_refl _)
        have hT7 := hE.below hB7 (Nat.le_refl _)
        clear hb hB6 hT6
        go_wp2_with fail
        refine (valid_no _ H201.out _).mono ?_
        rintro e w8 ⟨rfl, hb⟩
        have hB8 := kb_call hb hB7 (Nat.le_refl _)
        have hT8 := hE.below hB8 (Nat.le_refl _)
        clear hb hB7 hT7
        go_wp2_with fail
        refine (valid_is HN.out most_neg_small _).mono ?_
        rintro e w9 ⟨rfl, hb⟩
        have hB9 := kb_call hb hB8 (Nat.le_refl _)
        have hT9 := hE.below hB9 (Nat.le_refl _)
        clear hb hB8 hT8
        go_wp2
        go_ret
        exact ⟨rfl, hB9⟩
      · have hs : 200 ≤ km + kn := by omega
        have hsi : decide ((km : Int) + (kn : Int) < 200) = false := decide_eq_false (by omega)
        go_wp2_with fail
        refine (mul_no Ho.out (one_nines kn) (pow_small hkm) (two_small hkn) _ hT5.env (prod_big hs)).mono ?_
        rintro e w6 ⟨rfl, hb⟩
        have hB6 := kb_call hb hB5 (Nat.le_refl _)
        have hT6 := hE.below hB6 (Nat.le_refl _)
        clear hb hB5 hT5
        go_wp2_with fail
        refine (cmp_is Hx.out Hi0.out (Bx.small (by decide)) (Bi0.small (by decide)) _ c1 (Hc1.out)).mono ?_
        rintro e w7 ⟨rfl, hb⟩
        have hB7 := kb_call hb hB6 (Nat.le_refl _)
        have hT7 := hE.below hB7 (Nat.le_refl _)
        clear hb hB6 hT6
        go_wp2_with fail
        refine (valid_no _ H201.out _).mono ?_
        rintro e w8 ⟨rfl, hb⟩
        have hB8 := kb_call hb hB7 (Nat.le_refl _)
        have hT8 := hE.below hB8 (Nat.le_refl _)
        clear hb hB7 hT7
        go_wp2_with fail
        refine (valid_is HN.out most_neg_small _).mono ?_
        rintro e w9 ⟨rfl, hb⟩
        have hB9 := kb_call hb hB8 (Nat.le_refl _)
        have hT9 := hE.below hB9 (Nat.le_refl _)
        clear hb hB8 hT8
        go_wp2
        go_ret
        exact ⟨rfl, hB9⟩
end Go.Proofs.YtbnilfjhalildaaGreatDoor
