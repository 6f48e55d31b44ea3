/- RationalMachine: the walk. -/
import Derived.Test.YtkmlcnkhijpndaaGreatDoorIsQ
import Derived.Deep.QuietTactic
import Derived.BigQuiet
namespace Go.Proofs.YtkmlcnkhijpndaaGreatDoor
open Go.RowKit
attribute [local go_sem] Oper.semAt_some

theorem mul_bound {a b A B : Int} (h : -A ≤ a ∧ a ≤ A) (g : -B ≤ b ∧ b ≤ B) : -(A * B) ≤ a * b ∧ a * b ≤ A * B := by
  have hA : 0 ≤ A := by omega
  have hB : 0 ≤ B := by omega
  have h1 : a.natAbs ≤ A.natAbs := by omega
  have h2 : b.natAbs ≤ B.natAbs := by omega
  have h3 := Nat.mul_le_mul h1 h2
  rw [← Int.natAbs_mul, ← Int.natAbs_mul] at h3
  have h4 : 0 ≤ A * B := Int.mul_nonneg hA hB
  omega
theorem mach_bounds {n m d c : Int} (hn : -30000 ≤ n ∧ n ≤ 30000) (hm : -30000 ≤ m ∧ m ≤ 30000) (hd : 1 ≤ d ∧ d ≤ 30000) (hc : 1 ≤ c ∧ c ≤ 30000) :
    -900000000 ≤ n * c ∧ n * c ≤ 900000000 ∧ -900000000 ≤ m * d ∧ m * d ≤ 900000000 ∧ 1 ≤ d * c ∧ d * c ≤ 900000000 ∧ -900000000 ≤ n * m ∧ n * m ≤ 900000000 ∧ -900000000 ≤ d * m ∧ d * m ≤ 900000000 := by
  have h1 := mul_bound hn (show -30000 ≤ c ∧ c ≤ 30000 by omega)
  have h2 := mul_bound hm (show -30000 ≤ d ∧ d ≤ 30000 by omega)
  have h3 := mul_bound (show -30000 ≤ d ∧ d ≤ 30000 by omega) (show -30000 ≤ c ∧ c ≤ 30000 by omega)
  have h4 := mul_bound hn hm
  have h5 := mul_bound (show -30000 ≤ d ∧ d ≤ 30000 by omega) hm
  have h6 := Int.mul_pos (show 0 < d by omega) (show 0 < c by omega)
  omega
/-- A fraction, as the law wants it: cross products with a numerator and a denominator. -/
structure Cross (R : Rat) (x y : Int) : Prop where
  small : Small R.num ∧ Small (R.den : Int)
  fit : Fits R.num ∧ Fits (R.den : Int)
  pos : 1 ≤ (R.den : Int)
  l : -9000000000000000000 ≤ R.num * y ∧ R.num * y ≤ 9000000000000000000
  r : -9000000000000000000 ≤ x * R.den ∧ x * R.den ≤ 9000000000000000000
  cross : R.num * y = x * R.den
structure Res (o : Option Rat) (R : Rat) (x y : Int) : Prop where
  eq : o = some R
  ok : OkO (some R)
  cr : Cross R x y
theorem num_le {x y B : Int} (h0 : 0 < y) (h : -B ≤ x ∧ x ≤ B) : -B ≤ (Rat.divInt x y).num ∧ (Rat.divInt x y).num ≤ B := by
  have e := (divInt_parts (x := x) h0).1
  have h1 := Int.natAbs_ediv_le_natAbs x (gcdZ x y)
  rw [e]; omega
theorem den_le {x y B : Int} (h0 : 0 < y) (h : y ≤ B) : 1 ≤ ((Rat.divInt x y).den : Int) ∧ ((Rat.divInt x y).den : Int) ≤ B := by
  have e := (divInt_parts (x := x) h0).2
  have h1 := Int.natAbs_ediv_le_natAbs y (gcdZ x y)
  have h2 := rat_den_pos (Rat.divInt x y)
  rw [e] at h2 ⊢; omega
theorem divInt_cross (x : Int) {y : Int} (h0 : 0 < y) : (Rat.divInt x y).num * y = x * ((Rat.divInt x y).den : Int) := by
  obtain ⟨e1, e2⟩ := divInt_parts (x := x) h0
  obtain ⟨a, ha⟩ := gcdZ_dvd_left x y
  obtain ⟨b, hb⟩ := gcdZ_dvd_right x y
  have hg := gcdZ_pos (x := x) h0
  rw [e1, e2]
  generalize gcdZ x y = g at *
  rw [ha, hb, Int.mul_ediv_cancel_left _ (by omega), Int.mul_ediv_cancel_left _ (by omega), Int.mul_left_comm, Int.mul_assoc]
theorem cross_of {x y : Int} (h0 : 0 < y) (hx : -1800000000 ≤ x ∧ x ≤ 1800000000) (hy : y ≤ 900000000) : Cross (Rat.divInt x y) x y := by
  have h1 := num_le h0 hx
  have h2 := den_le (x := x) h0 hy
  have h3 := mul_bound h1 (show -900000000 ≤ y ∧ y ≤ 900000000 by omega)
  have h4 := mul_bound hx (show -900000000 ≤ ((Rat.divInt x y).den : Int) ∧ ((Rat.divInt x y).den : Int) ≤ 900000000 by omega)
  have f1 : Fits (Rat.divInt x y).num := by unfold Fits; omega
  have f2 : Fits ((Rat.divInt x y).den : Int) := by unfold Fits; omega
  exact ⟨⟨fits_small f1, fits_small f2⟩, ⟨f1, f2⟩, h2.1, by omega, by omega, divInt_cross x h0⟩
theorem Cross.neg {R : Rat} {x y : Int} (h : Cross R (-x) (-y)) : Cross R x y := by
  have h1 := h.l; have h2 := h.r; have h3 := h.cross
  rw [Int.mul_neg] at h1 h3
  rw [Int.neg_mul] at h2 h3
  exact ⟨h.small, h.fit, h.pos, by omega, by omega, by omega⟩
theorem divInt_le2 {a b c d : Int} (hb : 0 < b) (hd : 0 < d) : Rat.divInt a b ≤ Rat.divInt c d ↔ a * d ≤ c * b := by
  have h1 := divInt_cross a hb
  have h2 := divInt_cross c hd
  have p1 := rat_den_pos (Rat.divInt a b)
  have p2 := rat_den_pos (Rat.divInt c d)
  rw [Rat.le_iff]
  generalize (Rat.divInt a b).num = A at *
  generalize ((Rat.divInt a b).den : Int) = D at *
  generalize (Rat.divInt c d).num = C at *
  generalize ((Rat.divInt c d).den : Int) = E at *
  have e1 : A * E * (b * d) = a * d * (D * E) := by grind
  have e2 : C * D * (b * d) = c * b * (D * E) := by grind
  have q1 := Int.mul_pos hb hd
  have q2 := Int.mul_pos p1 p2
  constructor
  · intro h
    have := Int.mul_le_mul_of_nonneg_right h (Int.le_of_lt q1)
    rw [e1, e2] at this
    exact Int.le_of_mul_le_mul_right this q2
  · intro h
    have := Int.mul_le_mul_of_nonneg_right h (Int.le_of_lt q2)
    rw [← e1, ← e2] at this
    exact Int.le_of_mul_le_mul_right this q1
theorem of_pos {n d : Int} (hd : 0 < d) : oOf n d = some (Rat.divInt n d) := by
  unfold oOf oIf; rw [if_pos (by simp; omega)]
theorem mach_xy {n m d c : Int} (hn : -30000 ≤ n ∧ n ≤ 30000) (hm : -30000 ≤ m ∧ m ≤ 30000) (hd : 1 ≤ d ∧ d ≤ 30000) (hc : 1 ≤ c ∧ c ≤ 30000) :
    ∃ X Y : Rat, oOf n d = some X ∧ oOf m c = some Y ∧ BQ 5 X ∧ BQ 5 Y ∧ oCmp (some X) (some Y) = Lib.compareInt (n * c) (m * d) := by
  refine ⟨_, _, of_pos (by omega), of_pos (by omega), bq_divInt (by unfold Bd; omega) (by unfold Bd; omega) (by omega), bq_divInt (by unfold Bd; omega) (by unfold Bd; omega) (by omega), ?_⟩
  show cmpQ _ _ = _
  have h1 := divInt_le2 (a := n) (c := m) (show 0 < d by omega) (show 0 < c by omega)
  have h2 := divInt_le2 (a := m) (c := n) (show 0 < c by omega) (show 0 < d by omega)
  rcases cmpQ_cases (Rat.divInt n d) (Rat.divInt m c) with ⟨h, e⟩ | ⟨h, e⟩ | ⟨h, e⟩
  · rw [e, compareInt_lt]
    exact Int.not_le.1 (fun h' => Rat.not_le.2 h (h2.2 h'))
  · have e1 := h1.1 (by rw [h]; exact Rat.le_refl); have e2 := h2.1 (by rw [h]; exact Rat.le_refl)
    rw [e, show n * c = m * d by omega, compareInt_eq]
  · rw [e, compareInt_gt]
    exact Int.not_le.1 (fun h' => Rat.not_le.2 h (h1.2 h'))
theorem bq_add {k : Nat} {a b : Rat} (h : BQ k a) (g : BQ k b) (hk : k + k + 1 ≤ 200) : oAdd (some a) (some b) = some (a + b) := by
  rw [oAdd_some]; unfold oIf fAdd
  rw [decide_eq_true ((h.1.mul g.2).small (by omega)), decide_eq_true ((g.1.mul h.2).small (by omega)), decide_eq_true (((h.1.mul g.2).add (g.1.mul h.2)).small (by omega)), decide_eq_true ((h.2.mul g.2).small (by omega))]; rfl
theorem bq_sub {k : Nat} {a b : Rat} (h : BQ k a) (g : BQ k b) (hk : k + k + 1 ≤ 200) : oSub (some a) (some b) = some (a - b) := by
  rw [oSub_some]; unfold oIf fSub
  rw [decide_eq_true ((h.1.mul g.2).small (by omega)), decide_eq_true ((g.1.mul h.2).small (by omega)), decide_eq_true (((h.1.mul g.2).sub (g.1.mul h.2)).small (by omega)), decide_eq_true ((h.2.mul g.2).small (by omega))]; rfl
theorem bq_mul {k : Nat} {a b : Rat} (h : BQ k a) (g : BQ k b) (hk : k + k ≤ 200) : oMul (some a) (some b) = some (a * b) := by
  rw [oMul_some]; unfold oIf fMul
  rw [decide_eq_true ((h.1.mul g.1).small (by omega)), decide_eq_true ((h.2.mul g.2).small (by omega))]; rfl
theorem bq_div {k : Nat} {a b : Rat} (h : BQ k a) (g : BQ k b) (hk : k + k ≤ 200) (hb : b ≠ 0) : oDiv (some a) (some b) = some (a / b) := by
  rw [oDiv_some]; unfold oIf fDiv
  rw [decide_eq_true ((h.1.mul g.2).small (by omega)), decide_eq_true ((h.2.mul g.1).small (by omega)), decide_eq_true hb]; rfl
theorem mach_facts {n m d c : Int} {X Y : Rat} (hn : -30000 ≤ n ∧ n ≤ 30000) (hm : -30000 ≤ m ∧ m ≤ 30000) (hd : 1 ≤ d ∧ d ≤ 30000) (hc : 1 ≤ c ∧ c ≤ 30000) (hX : oOf n d = some X) (hY : oOf m c = some Y) (bX : BQ 5 X) (bY : BQ 5 Y) :
    ∃ R0 R1 R2 : Rat, Res (oAdd (some X) (some Y)) R0 (n * c + m * d) (d * c) ∧ Res (oSub (some X) (some Y)) R1 (n * c - m * d) (d * c) ∧ Res (oMul (some X) (some Y)) R2 (n * m) (d * c) ∧
      (((m == 0) = true ∧ oDiv (some X) (some Y) = none) ∨ ((m == 0) = false ∧ ∃ R3, Res (oDiv (some X) (some Y)) R3 (n * c) (d * m))) := by
  obtain ⟨m1, m2, m3, m4, m5, m6, m7, m8, m9, m10⟩ := mach_bounds hn hm hd hc
  have eX : X = Rat.divInt n d := (Option.some.inj ((of_pos (by omega)).symm.trans hX)).symm
  have eY : Y = Rat.divInt m c := (Option.some.inj ((of_pos (by omega)).symm.trans hY)).symm
  have hd0 : d ≠ 0 := by omega
  have hc0 : c ≠ 0 := by omega
  have c0 := cross_of (x := n * c + m * d) (y := d * c) (by omega) (by omega) (by omega)
  have c1 := cross_of (x := n * c - m * d) (y := d * c) (by omega) (by omega) (by omega)
  have c2 := cross_of (x := n * m) (y := d * c) (by omega) (by omega) (by omega)
  have e0 : X + Y = Rat.divInt (n * c + m * d) (d * c) := by rw [eX, eY, Rat.divInt_add_divInt _ _ hd0 hc0]
  have e1 : X - Y = Rat.divInt (n * c - m * d) (d * c) := by rw [eX, eY, Rat.divInt_sub_divInt _ _ hd0 hc0]
  have e2 : X * Y = Rat.divInt (n * m) (d * c) := by rw [eX, eY, Rat.divInt_mul_divInt]
  refine ⟨_, _, _, ⟨(bq_add bX bY (by decide)).trans (by rw [e0]), OkO.some c0.small, c0⟩, ⟨(bq_sub bX bY (by decide)).trans (by rw [e1]), OkO.some c1.small, c1⟩, ⟨(bq_mul bX bY (by decide)).trans (by rw [e2]), OkO.some c2.small, c2⟩, ?_⟩
  by_cases h0 : m = 0
  · left
    refine ⟨by simpa using h0, ?_⟩
    have hY0 : Y = 0 := by rw [eY, h0, Rat.zero_divInt]
    rw [oDiv_some]; unfold oIf fDiv
    rw [decide_eq_false (show ¬ (Y ≠ 0) from fun h => h hY0), Bool.and_false]; rfl
  · right
    refine ⟨by simpa using h0, ?_⟩
    have hY0 : Y ≠ 0 := by
      intro h
      rw [eY] at h
      have := divInt_cross m (show 0 < c by omega)
      rw [h] at this
      simp at this
      omega
    have e3 : X / Y = Rat.divInt (n * c) (d * m) := by
      have h1 : Rat.divInt m c ≠ 0 := by rw [← eY]; exact hY0
      rw [eX, eY, Rat.div_def, Rat.inv_divInt, Rat.divInt_mul_divInt]
    rcases Int.lt_or_gt_of_ne h0 with h1 | h1
    · have p : 0 < -(d * m) := by
        have := Int.mul_pos (show 0 < d by omega) (show 0 < -m by omega)
        rw [Int.mul_neg] at this; exact this
      have c3 := cross_of (x := -(n * c)) (y := -(d * m)) p (by omega) (by omega)
      rw [← divInt_neg_neg] at e3
      exact ⟨_, (bq_div bX bY (by decide) hY0).trans (by rw [e3]), OkO.some c3.small, c3.neg⟩
    · have p := Int.mul_pos (show 0 < d by omega) h1
      have c3 := cross_of (x := n * c) (y := d * m) p (by omega) (by omega)
      exact ⟨_, (bq_div bX bY (by decide) hY0).trans (by rw [e3]), OkO.some c3.small, c3⟩
theorem rto_is {s : ByteArray} {z : Int} (hs : s = I z) (hz : Small z) (hF : Fits z) (W : World) : Calls Tryz.prog 43 #[.string s] W (Rets W (.tuple #[.int .i64 z, .int .i64 0])) := by
  refine Rets.of (rto_any s (by rw [hs]; exact I_len' hz) W) ?_
  unfold toT
  rw [hs, zS_I, if_pos ⟨okS_I hz, hF⟩]
theorem mach_round {R : Rat} {tn td : ByteArray} {x y : Int} (I1 : Is (some R) tn td) (cr : Cross R x y) : ∃ nu de : Int, Hid (∀ W, Calls Tryz.prog 43 #[.string tn] W (Rets W (.tuple #[.int .i64 nu, .int .i64 0]))) ∧
    Hid (∀ W, Calls Tryz.prog 43 #[.string td] W (Rets W (.tuple #[.int .i64 de, .int .i64 0]))) ∧ decide (de < 1) = false ∧ IntKind.i64.wrap (nu * y) = nu * y ∧ IntKind.i64.wrap (x * de) = nu * y := by
  have h1 := cr.l; have h2 := cr.r; have h3 := cr.pos
  refine ⟨_, _, fun W => rto_is I1.num.1 cr.small.1 cr.fit.1 W, fun W => rto_is I1.num.2 cr.small.2 cr.fit.2 W, by simp; omega, IntWalk.i64_in _ (by omega), ?_⟩
  rw [cr.cross]; exact IntWalk.i64_in _ (by omega)
theorem sign_cases {a b c : Int} (h : c = Lib.compareInt a b) : (a < b ∧ c = -1) ∨ (a ≤ b ∧ b ≤ a ∧ c = 0) ∨ (b < a ∧ c = 1) := by
  rcases Int.lt_trichotomy a b with h1 | h1 | h1
  · exact .inl ⟨h1, by rw [h]; exact compareInt_lt h1⟩
  · subst h1; exact .inr (.inl ⟨Int.le_refl _, Int.le_refl _, by rw [h]; exact compareInt_eq _⟩)
  · exact .inr (.inr ⟨h1, by rw [h]; exact compareInt_gt h1⟩)

set_option maxRecDepth 100000 in
set_option maxHeartbeats 16000000 in
theorem machq_law (n0 d0 m0 c0 : Int) (Fn0 : Fits n0) (Fd0 : Fits d0) (Fm0 : Fits m0) (Fc0 : Fits c0) (w : World) (hE : EnvQ w) :
    Calls Tryz.prog 7 #[.int .i64 n0, .int .i64 d0, .int .i64 m0, .int .i64 c0] w (Rets w (.bool true)) := by
  have an0 := pkv_nonneg (c := n0) (m := 60001) (by decide)
  have bn0 := pkv_lt (c := n0) (m := 60001) (by decide)
  have Pn0 := Lib.hid (fun W => pick4_any n0 60001 Fn0 (by decide) (by decide) W)
  generalize pkv n0 60001 = pn0 at *
  have ad0 := pkv_nonneg (c := d0) (m := 30000) (by decide)
  have bd0 := pkv_lt (c := d0) (m := 30000) (by decide)
  have Pd0 := Lib.hid (fun W => pick4_any d0 30000 Fd0 (by decide) (by decide) W)
  generalize pkv d0 30000 = pd0 at *
  have am0 := pkv_nonneg (c := m0) (m := 60001) (by decide)
  have bm0 := pkv_lt (c := m0) (m := 60001) (by decide)
  have Pm0 := Lib.hid (fun W => pick4_any m0 60001 Fm0 (by decide) (by decide) W)
  generalize pkv m0 60001 = pm0 at *
  have ac0 := pkv_nonneg (c := c0) (m := 30000) (by decide)
  have bc0 := pkv_lt (c := c0) (m := 30000) (by decide)
  have Pc0 := Lib.hid (fun W => pick4_any c0 30000 Fc0 (by decide) (by decide) W)
  generalize pkv c0 30000 = pc0 at *
  have hS := BL.start w
  have hO := Asc.nil w
  go_enter Tryz.func7, Tryz.ntmps7
  go_wp2_with fail
  refine Calls.mono (saneQ_any _ (hS.envQ hE)) ?_
  rintro e w1 ⟨rfl, hb⟩
  replace hS := hS.call hb
  clear hb
  go_wp2_with fail
  refine Calls.mono (Pn0.out _) ?_
  rintro e w' ⟨rfl, rfl⟩
  go_wp2_with fail
  refine Calls.mono (Pm0.out _) ?_
  rintro e w' ⟨rfl, rfl⟩
  go_wp2_with fail
  refine Calls.mono (Pd0.out _) ?_
  rintro e w' ⟨rfl, rfl⟩
  go_wp2_with fail
  refine Calls.mono (Pc0.out _) ?_
  rintro e w' ⟨rfl, rfl⟩
  go_upto_region 6 with fail
  obtain ⟨n, hn⟩ : ∃ z : Int, z = pn0 - 30000 := ⟨_, rfl⟩
  rw [← hn]
  obtain ⟨m, hm⟩ : ∃ z : Int, z = pm0 - 30000 := ⟨_, rfl⟩
  rw [← hm]
  obtain ⟨d, hd⟩ : ∃ z : Int, z = 1 + pd0 := ⟨_, rfl⟩
  rw [← hd]
  obtain ⟨c, hc⟩ : ∃ z : Int, z = 1 + pc0 := ⟨_, rfl⟩
  rw [← hc]
  have bn : -30000 ≤ n ∧ n ≤ 30000 := by omega
  have bm : -30000 ≤ m ∧ m ≤ 30000 := by omega
  have bd : 1 ≤ d ∧ d ≤ 30000 := by omega
  have bc : 1 ≤ c ∧ c ≤ 30000 := by omega
  clear hn hm hd hc an0 bn0 ad0 bd0 am0 bm0 ac0 bc0
  obtain ⟨X, Y, hX, hY, bX, bY, hcmp⟩ := mach_xy bn bm bd bc
  obtain ⟨R0, R1, R2, f0, f1, f2, f3⟩ := mach_facts bn bm bd bc hX hY bX bY
  obtain ⟨xn, xd, Ix⟩ := is_mk (bX.ok (by decide))
  obtain ⟨yn, yd, Iy⟩ := is_mk (bY.ok (by decide))
  have Ex : IsE (oOf n d) xn xd 0 := by rw [hX]; exact ⟨Ix, rfl⟩
  have Ey : IsE (oOf m c) yn yd 0 := by rw [hY]; exact ⟨Iy, rfl⟩
  have mb := mach_bounds bn bm bd bc
  obtain ⟨m1, m2, m3, m4, m5, m6, m7, m8, m9, m10⟩ := mb
  obtain ⟨t0n, t0d, I0⟩ := is_mk f0.ok
  have E0 : IsE (oAdd (some X) (some Y)) t0n t0d 0 := by rw [f0.eq]; exact ⟨I0, rfl⟩
  obtain ⟨t1n, t1d, I1⟩ := is_mk f1.ok
  have E1 : IsE (oSub (some X) (some Y)) t1n t1d 0 := by rw [f1.eq]; exact ⟨I1, rfl⟩
  obtain ⟨t2n, t2d, I2⟩ := is_mk f2.ok
  have E2 : IsE (oMul (some X) (some Y)) t2n t2d 0 := by rw [f2.eq]; exact ⟨I2, rfl⟩
  obtain ⟨t3n, t3d, e3, E3⟩ := isE_mk (o := oDiv (some X) (some Y)) OkO.div
  obtain ⟨cc, hcc⟩ : ∃ z : Int, Hid (z = oCmp (some X) (some Y)) := ⟨_, rfl⟩
  have hcp := Lib.hid (hcc.out.trans hcmp)
  have VX := Lib.hid (fun W hE => cmp_v Ix W hE Iy cc hcc.out)
  replace hX := Lib.hid hX
  replace hY := Lib.hid hY
  clear hcmp
  have bdF : Fits d := by unfold Fits; omega
  have bcF : Fits c := by unfold Fits; omega
  have bnF : Fits n := by unfold Fits; omega
  have bmF : Fits m := by unfold Fits; omega
  go_wp2_with fail
  refine Calls.mono (of_v bnF bdF Ex _ (hS.envQ hE).env) ?_
  rintro e w2 ⟨rfl, hb⟩
  replace hS := hS.call hb
  clear hb
  replace hO := hO.add hS #[.string xn, .string xd] 23
  replace hS := hS.add' #[.string xn, .string xd] 23
  obtain ⟨W0, hW0, hS, hz0⟩ := hS
  obtain ⟨W, hW⟩ : ∃ W, W = (w2.alloc (.cells #[.string xn, .string xd] 23)) := ⟨_, rfl⟩
  replace hS : BL w [(w2.heap.size, #[.string xn, .string xd], 23)] W := by rw [hW, ← hW0]; exact hS
  clear hz0 hW0
  go_wp2_with fail
  rw [← hW]
  clear hW
  refine Calls.mono (of_v bmF bcF Ey _ (hS.envQ hE).env) ?_
  rintro e w3 ⟨rfl, hb⟩
  replace hS := hS.call hb
  clear hb
  replace hO := hO.add hS #[.string yn, .string yd] 23
  replace hS := hS.add' #[.string yn, .string yd] 23
  obtain ⟨W0, hW0, hS, hz0⟩ := hS
  obtain ⟨W, hW⟩ : ∃ W, W = (w3.alloc (.cells #[.string yn, .string yd] 23)) := ⟨_, rfl⟩
  replace hS : BL w [(w3.heap.size, #[.string yn, .string yd], 23), (w2.heap.size, #[.string xn, .string xd], 23)] W := by rw [hW, ← hW0]; exact hS
  clear hz0 hW0
  go_upto_region 8 with fail
  rw [← hW]
  clear hW
  obtain ⟨c_x_0, c_x_1⟩ := hS.c2 (w2.heap.size) _ _ _ (.tail _ (.head _))
  obtain ⟨c_y_0, c_y_1⟩ := hS.c2 (w3.heap.size) _ _ _ (.head _)
  go_wp2_with fail
  refine Calls.mono (four_v Ix _ (hS.envQ hE).env Iy E0 E1 E2 E3) ?_
  rintro e w4 ⟨rfl, hb⟩
  clear c_x_0 c_x_1 c_y_0 c_y_1
  replace hS := hS.call hb
  clear hb
  replace hO := hO.add hS #[.string t0n, .string t0d, .string t1n, .string t1d, .string t2n, .string t2d, .string t3n, .string t3d] 49
  replace hS := hS.add' #[.string t0n, .string t0d, .string t1n, .string t1d, .string t2n, .string t2d, .string t3n, .string t3d] 49
  obtain ⟨W0, hW0, hS, hz0⟩ := hS
  replace hO := hO.add hS #[.int .i64 0, .int .i64 0, .int .i64 0, .int .i64 e3] 50
  replace hS := hS.add' #[.int .i64 0, .int .i64 0, .int .i64 0, .int .i64 e3] 50
  obtain ⟨W1, hW1, hS, hz1⟩ := hS
  rw [hz0] at hS hO
  obtain ⟨W, hW⟩ : ∃ W, W = ((w4.alloc (.cells #[.string t0n, .string t0d, .string t1n, .string t1d, .string t2n, .string t2d, .string t3n, .string t3d] 49)).alloc (.cells #[.int .i64 0, .int .i64 0, .int .i64 0, .int .i64 e3] 50)) := ⟨_, rfl⟩
  replace hS : BL w [(w4.heap.size + 1, #[.int .i64 0, .int .i64 0, .int .i64 0, .int .i64 e3], 50), (w4.heap.size, #[.string t0n, .string t0d, .string t1n, .string t1d, .string t2n, .string t2d, .string t3n, .string t3d], 49), (w3.heap.size, #[.string yn, .string yd], 23), (w2.heap.size, #[.string xn, .string xd], 23)] W := by rw [hW, ← hW0, ← hW1]; exact hS
  clear hz0 hz1 hW1 hW0
  go_upto_region 9 with fail
  rw [← hW]
  clear hW
  replace hO := hO.add hS #[.int .i64 (n * c + m * d), .int .i64 (d * c), .int .i64 (n * c - m * d), .int .i64 (d * c), .int .i64 (n * m), .int .i64 (d * c), .int .i64 (n * c), .int .i64 (d * m)] 57
  replace hS := hS.add' #[.int .i64 (n * c + m * d), .int .i64 (d * c), .int .i64 (n * c - m * d), .int .i64 (d * c), .int .i64 (n * m), .int .i64 (d * c), .int .i64 (n * c), .int .i64 (d * m)] 57
  obtain ⟨W1, hW1, hS, hz1⟩ := hS
  go_wp2_with fail
  rw [← hW1]
  clear hW1 hz1
  go_loopw [17] (fun i wr => (i = .int .i64 0 ∨ i = .int .i64 1 ∨ i = .int .i64 2 ∨ i = .int .i64 3 ∨ i = .int .i64 4) ∧ BL w [(W.heap.size, #[.int .i64 (n * c + m * d), .int .i64 (d * c), .int .i64 (n * c - m * d), .int .i64 (d * c), .int .i64 (n * m), .int .i64 (d * c), .int .i64 (n * c), .int .i64 (d * m)], 57), (w4.heap.size + 1, #[.int .i64 0, .int .i64 0, .int .i64 0, .int .i64 e3], 50), (w4.heap.size, #[.string t0n, .string t0d, .string t1n, .string t1d, .string t2n, .string t2d, .string t3n, .string t3d], 49), (w3.heap.size, #[.string yn, .string yd], 23), (w2.heap.size, #[.string xn, .string xd], 23)] wr) (fun i _ => 4 - (intOf i).toNat)
  case atStart => exact ⟨.inl rfl, hS⟩
  case round =>
    clear hS
    obtain ⟨hi, hS⟩ := hrel
    rcases hi with rfl | rfl | rfl | rfl | rfl
    · as_aux_lemma =>
      obtain ⟨nu, de, TN, TD, g0, g1, g2⟩ := mach_round I0 f0.cr
      have VV := Lib.hid (fun W hE => valid_v I0 W hE true rfl)
      obtain ⟨c_r_0, c_r_1, c_r_2, c_r_3, c_r_4, c_r_5, c_r_6, c_r_7⟩ := hS.c8 (w4.heap.size) _ _ _ _ _ _ _ _ _ (.tail _ (.tail _ (.head _)))
      obtain ⟨c_e_0, c_e_1, c_e_2, c_e_3⟩ := hS.c4 (w4.heap.size + 1) _ _ _ _ _ (.tail _ (.head _))
      obtain ⟨c_w_0, c_w_1, c_w_2, c_w_3, c_w_4, c_w_5, c_w_6, c_w_7⟩ := hS.c8 (W.heap.size) _ _ _ _ _ _ _ _ _ (.head _)
      go_wp2_with fail
      refine Calls.mono (TN.out _) ?_
      rintro e w1' ⟨rfl, hb⟩
      replace hS := hS.call hb
      clear hb c_r_0 c_r_1 c_r_2 c_r_3 c_r_4 c_r_5 c_r_6 c_r_7 c_e_0 c_e_1 c_e_2 c_e_3 c_w_0 c_w_1 c_w_2 c_w_3 c_w_4 c_w_5 c_w_6 c_w_7
      obtain ⟨c_r_0, c_r_1, c_r_2, c_r_3, c_r_4, c_r_5, c_r_6, c_r_7⟩ := hS.c8 (w4.heap.size) _ _ _ _ _ _ _ _ _ (.tail _ (.tail _ (.head _)))
      obtain ⟨c_e_0, c_e_1, c_e_2, c_e_3⟩ := hS.c4 (w4.heap.size + 1) _ _ _ _ _ (.tail _ (.head _))
      obtain ⟨c_w_0, c_w_1, c_w_2, c_w_3, c_w_4, c_w_5, c_w_6, c_w_7⟩ := hS.c8 (W.heap.size) _ _ _ _ _ _ _ _ _ (.head _)
      go_wp2_with fail
      refine Calls.mono (TD.out _) ?_
      rintro e w2' ⟨rfl, hb⟩
      replace hS := hS.call hb
      clear hb c_r_0 c_r_1 c_r_2 c_r_3 c_r_4 c_r_5 c_r_6 c_r_7 c_e_0 c_e_1 c_e_2 c_e_3 c_w_0 c_w_1 c_w_2 c_w_3 c_w_4 c_w_5 c_w_6 c_w_7
      go_upto_region 18 with fail
      have hC0 : ∀ W', BL w [(W.heap.size, #[.int .i64 (n * c + m * d), .int .i64 (d * c), .int .i64 (n * c - m * d), .int .i64 (d * c), .int .i64 (n * m), .int .i64 (d * c), .int .i64 (n * c), .int .i64 (d * m)], 57), (w4.heap.size + 1, #[.int .i64 0, .int .i64 0, .int .i64 0, .int .i64 e3], 50), (w4.heap.size, #[.string t0n, .string t0d, .string t1n, .string t1d, .string t2n, .string t2d, .string t3n, .string t3d], 49), (w3.heap.size, #[.string yn, .string yd], 23), (w2.heap.size, #[.string xn, .string xd], 23)] W' → (W'.cell? ⟨w4.heap.size, 0, none⟩ = some (.string t0n) ∧ W'.cell? ⟨w4.heap.size, 1, none⟩ = some (.string t0d) ∧ W'.cell? ⟨w4.heap.size + 1, 0, none⟩ = some (.int .i64 0) ∧ W'.cell? ⟨W.heap.size, 0, none⟩ = some (.int .i64 (n * c + m * d)) ∧ W'.cell? ⟨W.heap.size, 1, none⟩ = some (.int .i64 (d * c))) := fun W' h => ⟨(h.cell (w4.heap.size) _ _ (.tail _ (.tail _ (.head _))) 0), (h.cell (w4.heap.size) _ _ (.tail _ (.tail _ (.head _))) 1), (h.cell (w4.heap.size + 1) _ _ (.tail _ (.head _)) 0), (h.cell (W.heap.size) _ _ (.head _) 0), (h.cell (W.heap.size) _ _ (.head _) 1)⟩
      have hC := Lib.hid hC0
      clear hC0
      obtain ⟨x0', x1', x2', x3', x4'⟩ := hC.out _ hS
      replace hS := hS.drew
      go_region_held3 (fun w' => w'.cell? ⟨w4.heap.size, 0, none⟩ = some (.string t0n) ∧ w'.cell? ⟨w4.heap.size, 1, none⟩ = some (.string t0d) ∧ w'.cell? ⟨w4.heap.size + 1, 0, none⟩ = some (.int .i64 0) ∧ w'.cell? ⟨W.heap.size, 0, none⟩ = some (.int .i64 (n * c + m * d)) ∧ w'.cell? ⟨W.heap.size, 1, none⟩ = some (.int .i64 (d * c)))
        (first | with_reducible exact hC.out _ hS | go_keep)
        (first | (go_at_call 17; (with_reducible refine Calls.mono (VV.out _ (hS.envQ hE).env) ?_); rintro e w' ⟨rfl, hb⟩; have hS := hS.call hb; clear hb))
      go_wp2_with fail
      first | exact ⟨⟨.inr (.inl rfl), hS⟩, by simp [intOf]⟩ | (go_roundw; exact ⟨.inr (.inl rfl), hS⟩)
    · as_aux_lemma =>
      obtain ⟨nu, de, TN, TD, g0, g1, g2⟩ := mach_round I1 f1.cr
      have VV := Lib.hid (fun W hE => valid_v I1 W hE true rfl)
      obtain ⟨c_r_0, c_r_1, c_r_2, c_r_3, c_r_4, c_r_5, c_r_6, c_r_7⟩ := hS.c8 (w4.heap.size) _ _ _ _ _ _ _ _ _ (.tail _ (.tail _ (.head _)))
      obtain ⟨c_e_0, c_e_1, c_e_2, c_e_3⟩ := hS.c4 (w4.heap.size + 1) _ _ _ _ _ (.tail _ (.head _))
      obtain ⟨c_w_0, c_w_1, c_w_2, c_w_3, c_w_4, c_w_5, c_w_6, c_w_7⟩ := hS.c8 (W.heap.size) _ _ _ _ _ _ _ _ _ (.head _)
      go_wp2_with fail
      refine Calls.mono (TN.out _) ?_
      rintro e w1' ⟨rfl, hb⟩
      replace hS := hS.call hb
      clear hb c_r_0 c_r_1 c_r_2 c_r_3 c_r_4 c_r_5 c_r_6 c_r_7 c_e_0 c_e_1 c_e_2 c_e_3 c_w_0 c_w_1 c_w_2 c_w_3 c_w_4 c_w_5 c_w_6 c_w_7
      obtain ⟨c_r_0, c_r_1, c_r_2, c_r_3, c_r_4, c_r_5, c_r_6, c_r_7⟩ := hS.c8 (w4.heap.size) _ _ _ _ _ _ _ _ _ (.tail _ (.tail _ (.head _)))
      obtain ⟨c_e_0, c_e_1, c_e_2, c_e_3⟩ := hS.c4 (w4.heap.size + 1) _ _ _ _ _ (.tail _ (.head _))
      obtain ⟨c_w_0, c_w_1, c_w_2, c_w_3, c_w_4, c_w_5, c_w_6, c_w_7⟩ := hS.c8 (W.heap.size) _ _ _ _ _ _ _ _ _ (.head _)
      go_wp2_with fail
      refine Calls.mono (TD.out _) ?_
      rintro e w2' ⟨rfl, hb⟩
      replace hS := hS.call hb
      clear hb c_r_0 c_r_1 c_r_2 c_r_3 c_r_4 c_r_5 c_r_6 c_r_7 c_e_0 c_e_1 c_e_2 c_e_3 c_w_0 c_w_1 c_w_2 c_w_3 c_w_4 c_w_5 c_w_6 c_w_7
      go_upto_region 18 with fail
      have hC0 : ∀ W', BL w [(W.heap.size, #[.int .i64 (n * c + m * d), .int .i64 (d * c), .int .i64 (n * c - m * d), .int .i64 (d * c), .int .i64 (n * m), .int .i64 (d * c), .int .i64 (n * c), .int .i64 (d * m)], 57), (w4.heap.size + 1, #[.int .i64 0, .int .i64 0, .int .i64 0, .int .i64 e3], 50), (w4.heap.size, #[.string t0n, .string t0d, .string t1n, .string t1d, .string t2n, .string t2d, .string t3n, .string t3d], 49), (w3.heap.size, #[.string yn, .string yd], 23), (w2.heap.size, #[.string xn, .string xd], 23)] W' → (W'.cell? ⟨w4.heap.size, 2, none⟩ = some (.string t1n) ∧ W'.cell? ⟨w4.heap.size, 3, none⟩ = some (.string t1d) ∧ W'.cell? ⟨w4.heap.size + 1, 1, none⟩ = some (.int .i64 0) ∧ W'.cell? ⟨W.heap.size, 2, none⟩ = some (.int .i64 (n * c - m * d)) ∧ W'.cell? ⟨W.heap.size, 3, none⟩ = some (.int .i64 (d * c))) := fun W' h => ⟨(h.cell (w4.heap.size) _ _ (.tail _ (.tail _ (.head _))) 2), (h.cell (w4.heap.size) _ _ (.tail _ (.tail _ (.head _))) 3), (h.cell (w4.heap.size + 1) _ _ (.tail _ (.head _)) 1), (h.cell (W.heap.size) _ _ (.head _) 2), (h.cell (W.heap.size) _ _ (.head _) 3)⟩
      have hC := Lib.hid hC0
      clear hC0
      obtain ⟨x0', x1', x2', x3', x4'⟩ := hC.out _ hS
      replace hS := hS.drew
      go_region_held3 (fun w' => w'.cell? ⟨w4.heap.size, 2, none⟩ = some (.string t1n) ∧ w'.cell? ⟨w4.heap.size, 3, none⟩ = some (.string t1d) ∧ w'.cell? ⟨w4.heap.size + 1, 1, none⟩ = some (.int .i64 0) ∧ w'.cell? ⟨W.heap.size, 2, none⟩ = some (.int .i64 (n * c - m * d)) ∧ w'.cell? ⟨W.heap.size, 3, none⟩ = some (.int .i64 (d * c)))
        (first | with_reducible exact hC.out _ hS | go_keep)
        (first | (go_at_call 17; (with_reducible refine Calls.mono (VV.out _ (hS.envQ hE).env) ?_); rintro e w' ⟨rfl, hb⟩; have hS := hS.call hb; clear hb))
      go_wp2_with fail
      first | exact ⟨⟨.inr (.inr (.inl rfl)), hS⟩, by simp [intOf]⟩ | (go_roundw; exact ⟨.inr (.inr (.inl rfl)), hS⟩)
    · as_aux_lemma =>
      obtain ⟨nu, de, TN, TD, g0, g1, g2⟩ := mach_round I2 f2.cr
      have VV := Lib.hid (fun W hE => valid_v I2 W hE true rfl)
      obtain ⟨c_r_0, c_r_1, c_r_2, c_r_3, c_r_4, c_r_5, c_r_6, c_r_7⟩ := hS.c8 (w4.heap.size) _ _ _ _ _ _ _ _ _ (.tail _ (.tail _ (.head _)))
      obtain ⟨c_e_0, c_e_1, c_e_2, c_e_3⟩ := hS.c4 (w4.heap.size + 1) _ _ _ _ _ (.tail _ (.head _))
      obtain ⟨c_w_0, c_w_1, c_w_2, c_w_3, c_w_4, c_w_5, c_w_6, c_w_7⟩ := hS.c8 (W.heap.size) _ _ _ _ _ _ _ _ _ (.head _)
      go_wp2_with fail
      refine Calls.mono (TN.out _) ?_
      rintro e w1' ⟨rfl, hb⟩
      replace hS := hS.call hb
      clear hb c_r_0 c_r_1 c_r_2 c_r_3 c_r_4 c_r_5 c_r_6 c_r_7 c_e_0 c_e_1 c_e_2 c_e_3 c_w_0 c_w_1 c_w_2 c_w_3 c_w_4 c_w_5 c_w_6 c_w_7
      obtain ⟨c_r_0, c_r_1, c_r_2, c_r_3, c_r_4, c_r_5, c_r_6, c_r_7⟩ := hS.c8 (w4.heap.size) _ _ _ _ _ _ _ _ _ (.tail _ (.tail _ (.head _)))
      obtain ⟨c_e_0, c_e_1, c_e_2, c_e_3⟩ := hS.c4 (w4.heap.size + 1) _ _ _ _ _ (.tail _ (.head _))
      obtain ⟨c_w_0, c_w_1, c_w_2, c_w_3, c_w_4, c_w_5, c_w_6, c_w_7⟩ := hS.c8 (W.heap.size) _ _ _ _ _ _ _ _ _ (.head _)
      go_wp2_with fail
      refine Calls.mono (TD.out _) ?_
      rintro e w2' ⟨rfl, hb⟩
      replace hS := hS.call hb
      clear hb c_r_0 c_r_1 c_r_2 c_r_3 c_r_4 c_r_5 c_r_6 c_r_7 c_e_0 c_e_1 c_e_2 c_e_3 c_w_0 c_w_1 c_w_2 c_w_3 c_w_4 c_w_5 c_w_6 c_w_7
      go_upto_region 18 with fail
      have hC0 : ∀ W', BL w [(W.heap.size, #[.int .i64 (n * c + m * d), .int .i64 (d * c), .int .i64 (n * c - m * d), .int .i64 (d * c), .int .i64 (n * m), .int .i64 (d * c), .int .i64 (n * c), .int .i64 (d * m)], 57), (w4.heap.size + 1, #[.int .i64 0, .int .i64 0, .int .i64 0, .int .i64 e3], 50), (w4.heap.size, #[.string t0n, .string t0d, .string t1n, .string t1d, .string t2n, .string t2d, .string t3n, .string t3d], 49), (w3.heap.size, #[.string yn, .string yd], 23), (w2.heap.size, #[.string xn, .string xd], 23)] W' → (W'.cell? ⟨w4.heap.size, 4, none⟩ = some (.string t2n) ∧ W'.cell? ⟨w4.heap.size, 5, none⟩ = some (.string t2d) ∧ W'.cell? ⟨w4.heap.size + 1, 2, none⟩ = some (.int .i64 0) ∧ W'.cell? ⟨W.heap.size, 4, none⟩ = some (.int .i64 (n * m)) ∧ W'.cell? ⟨W.heap.size, 5, none⟩ = some (.int .i64 (d * c))) := fun W' h => ⟨(h.cell (w4.heap.size) _ _ (.tail _ (.tail _ (.head _))) 4), (h.cell (w4.heap.size) _ _ (.tail _ (.tail _ (.head _))) 5), (h.cell (w4.heap.size + 1) _ _ (.tail _ (.head _)) 2), (h.cell (W.heap.size) _ _ (.head _) 4), (h.cell (W.heap.size) _ _ (.head _) 5)⟩
      have hC := Lib.hid hC0
      clear hC0
      obtain ⟨x0', x1', x2', x3', x4'⟩ := hC.out _ hS
      replace hS := hS.drew
      go_region_held3 (fun w' => w'.cell? ⟨w4.heap.size, 4, none⟩ = some (.string t2n) ∧ w'.cell? ⟨w4.heap.size, 5, none⟩ = some (.string t2d) ∧ w'.cell? ⟨w4.heap.size + 1, 2, none⟩ = some (.int .i64 0) ∧ w'.cell? ⟨W.heap.size, 4, none⟩ = some (.int .i64 (n * m)) ∧ w'.cell? ⟨W.heap.size, 5, none⟩ = some (.int .i64 (d * c)))
        (first | with_reducible exact hC.out _ hS | go_keep)
        (first | (go_at_call 17; (with_reducible refine Calls.mono (VV.out _ (hS.envQ hE).env) ?_); rintro e w' ⟨rfl, hb⟩; have hS := hS.call hb; clear hb))
      go_wp2_with fail
      first | exact ⟨⟨.inr (.inr (.inr (.inl rfl))), hS⟩, by simp [intOf]⟩ | (go_roundw; exact ⟨.inr (.inr (.inr (.inl rfl))), hS⟩)
    · as_aux_lemma =>
      rcases f3 with ⟨hz, h0⟩ | ⟨hz, R3, f3⟩
      · rw [h0] at E3
        obtain ⟨rfl, rfl, rfl⟩ := E3.no
        obtain ⟨c_r_0, c_r_1, c_r_2, c_r_3, c_r_4, c_r_5, c_r_6, c_r_7⟩ := hS.c8 (w4.heap.size) _ _ _ _ _ _ _ _ _ (.tail _ (.tail _ (.head _)))
        obtain ⟨c_e_0, c_e_1, c_e_2, c_e_3⟩ := hS.c4 (w4.heap.size + 1) _ _ _ _ _ (.tail _ (.head _))
        obtain ⟨c_w_0, c_w_1, c_w_2, c_w_3, c_w_4, c_w_5, c_w_6, c_w_7⟩ := hS.c8 (W.heap.size) _ _ _ _ _ _ _ _ _ (.head _)
        go_wp2_with fail
        exact ⟨⟨.inr (.inr (.inr (.inr rfl))), hS⟩, by simp [intOf]⟩
      · rw [f3.eq] at E3
        obtain rfl := E3.val
        obtain ⟨nu, de, TN, TD, g0, g1, g2⟩ := mach_round E3.is f3.cr
        have VV := Lib.hid (fun W hE => valid_v E3.is W hE true rfl)
        obtain ⟨c_r_0, c_r_1, c_r_2, c_r_3, c_r_4, c_r_5, c_r_6, c_r_7⟩ := hS.c8 (w4.heap.size) _ _ _ _ _ _ _ _ _ (.tail _ (.tail _ (.head _)))
        obtain ⟨c_e_0, c_e_1, c_e_2, c_e_3⟩ := hS.c4 (w4.heap.size + 1) _ _ _ _ _ (.tail _ (.head _))
        obtain ⟨c_w_0, c_w_1, c_w_2, c_w_3, c_w_4, c_w_5, c_w_6, c_w_7⟩ := hS.c8 (W.heap.size) _ _ _ _ _ _ _ _ _ (.head _)
        go_wp2_with fail
        refine Calls.mono (TN.out _) ?_
        rintro e w1' ⟨rfl, hb⟩
        replace hS := hS.call hb
        clear hb c_r_0 c_r_1 c_r_2 c_r_3 c_r_4 c_r_5 c_r_6 c_r_7 c_e_0 c_e_1 c_e_2 c_e_3 c_w_0 c_w_1 c_w_2 c_w_3 c_w_4 c_w_5 c_w_6 c_w_7
        obtain ⟨c_r_0, c_r_1, c_r_2, c_r_3, c_r_4, c_r_5, c_r_6, c_r_7⟩ := hS.c8 (w4.heap.size) _ _ _ _ _ _ _ _ _ (.tail _ (.tail _ (.head _)))
        obtain ⟨c_e_0, c_e_1, c_e_2, c_e_3⟩ := hS.c4 (w4.heap.size + 1) _ _ _ _ _ (.tail _ (.head _))
        obtain ⟨c_w_0, c_w_1, c_w_2, c_w_3, c_w_4, c_w_5, c_w_6, c_w_7⟩ := hS.c8 (W.heap.size) _ _ _ _ _ _ _ _ _ (.head _)
        go_wp2_with fail
        refine Calls.mono (TD.out _) ?_
        rintro e w2' ⟨rfl, hb⟩
        replace hS := hS.call hb
        clear hb c_r_0 c_r_1 c_r_2 c_r_3 c_r_4 c_r_5 c_r_6 c_r_7 c_e_0 c_e_1 c_e_2 c_e_3 c_w_0 c_w_1 c_w_2 c_w_3 c_w_4 c_w_5 c_w_6 c_w_7
        go_upto_region 18 with fail
        have hC0 : ∀ W', BL w [(W.heap.size, #[.int .i64 (n * c + m * d), .int .i64 (d * c), .int .i64 (n * c - m * d), .int .i64 (d * c), .int .i64 (n * m), .int .i64 (d * c), .int .i64 (n * c), .int .i64 (d * m)], 57), (w4.heap.size + 1, #[.int .i64 0, .int .i64 0, .int .i64 0, .int .i64 0], 50), (w4.heap.size, #[.string t0n, .string t0d, .string t1n, .string t1d, .string t2n, .string t2d, .string t3n, .string t3d], 49), (w3.heap.size, #[.string yn, .string yd], 23), (w2.heap.size, #[.string xn, .string xd], 23)] W' → (W'.cell? ⟨w4.heap.size, 6, none⟩ = some (.string t3n) ∧ W'.cell? ⟨w4.heap.size, 7, none⟩ = some (.string t3d) ∧ W'.cell? ⟨w4.heap.size + 1, 3, none⟩ = some (.int .i64 0) ∧ W'.cell? ⟨W.heap.size, 6, none⟩ = some (.int .i64 (n * c)) ∧ W'.cell? ⟨W.heap.size, 7, none⟩ = some (.int .i64 (d * m))) := fun W' h => ⟨(h.cell (w4.heap.size) _ _ (.tail _ (.tail _ (.head _))) 6), (h.cell (w4.heap.size) _ _ (.tail _ (.tail _ (.head _))) 7), (h.cell (w4.heap.size + 1) _ _ (.tail _ (.head _)) 3), (h.cell (W.heap.size) _ _ (.head _) 6), (h.cell (W.heap.size) _ _ (.head _) 7)⟩
        have hC := Lib.hid hC0
        clear hC0
        obtain ⟨x0', x1', x2', x3', x4'⟩ := hC.out _ hS
        replace hS := hS.drew
        go_region_held3 (fun w' => w'.cell? ⟨w4.heap.size, 6, none⟩ = some (.string t3n) ∧ w'.cell? ⟨w4.heap.size, 7, none⟩ = some (.string t3d) ∧ w'.cell? ⟨w4.heap.size + 1, 3, none⟩ = some (.int .i64 0) ∧ w'.cell? ⟨W.heap.size, 6, none⟩ = some (.int .i64 (n * c)) ∧ w'.cell? ⟨W.heap.size, 7, none⟩ = some (.int .i64 (d * m)))
          (first | with_reducible exact hC.out _ hS | go_keep)
          (first | (go_at_call 17; (with_reducible refine Calls.mono (VV.out _ (hS.envQ hE).env) ?_); rintro e w' ⟨rfl, hb⟩; have hS := hS.call hb; clear hb))
        go_wp2_with fail
        first | exact ⟨⟨.inr (.inr (.inr (.inr rfl))), hS⟩, by simp [intOf]⟩ | (go_roundw; exact ⟨.inr (.inr (.inr (.inr rfl))), hS⟩)
    · as_aux_lemma =>
      obtain ⟨c_x_0, c_x_1⟩ := hS.c2 (w2.heap.size) _ _ _ (.tail _ (.tail _ (.tail _ (.tail _ (.head _)))))
      obtain ⟨c_y_0, c_y_1⟩ := hS.c2 (w3.heap.size) _ _ _ (.tail _ (.tail _ (.tail _ (.head _))))
      rcases sign_cases hcp.out with ⟨h1, rfl⟩ | ⟨h1, h2, rfl⟩ | ⟨h1, rfl⟩
      all_goals
        go_wp2_with fail
        refine Calls.mono (VX.out _ (hS.envQ hE).env) ?_
        rintro e w' ⟨rfl, hb⟩
        replace hS := hS.call hb
        clear hb
        go_wp2
        go_ret
        exact ⟨rfl, hS.below⟩
end Go.Proofs.YtkmlcnkhijpndaaGreatDoor
