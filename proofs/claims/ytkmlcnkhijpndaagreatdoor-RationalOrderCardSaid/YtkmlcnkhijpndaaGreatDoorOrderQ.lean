/- RationalOrder: the walk. -/
import Derived.Test.YtkmlcnkhijpndaaGreatDoorIsQ
import Derived.Deep.QuietTactic
import Derived.BigQuiet
namespace Go.Proofs.YtkmlcnkhijpndaaGreatDoor
open Go.RowKit
attribute [local go_sem] Oper.semAt_some

theorem cmpQ_swap (x y : Rat) : cmpQ y x = -cmpQ x y := by
  rcases cmpQ_cases x y with ⟨h, e⟩ | ⟨h, e⟩ | ⟨h, e⟩
  · rw [e, cmpQ_gt h]; rfl
  · rw [e, h, cmpQ_eq]; rfl
  · rw [e, cmpQ_lt h]
theorem cmpQ_of {x y u v : Rat} (h1 : x < y → u < v) (h2 : y < x → v < u) (h3 : x = y → u = v) : cmpQ u v = cmpQ x y := by
  rcases cmpQ_cases x y with ⟨h, e⟩ | ⟨h, e⟩ | ⟨h, e⟩
  · rw [e, cmpQ_lt (h1 h)]
  · rw [e, h3 h, cmpQ_eq]
  · rw [e, cmpQ_gt (h2 h)]
theorem zero_div1 : Rat.divInt 0 1 = 0 := Rat.zero_divInt 1
theorem cmpQ_sub (x y : Rat) : cmpQ (x - y) (Rat.divInt 0 1) = cmpQ x y := by
  rw [zero_div1]; exact cmpQ_of (fun h => by grind) (fun h => by grind) (fun h => by grind)
theorem cmpQ_add (x y t : Rat) : cmpQ (x + t) (y + t) = cmpQ x y := cmpQ_of (fun h => by grind) (fun h => by grind) (fun h => by grind)
theorem cmpQ_mul (x y t : Rat) : cmpQ (x * t) (y * t) = cmpQ x y * cmpQ t (Rat.divInt 0 1) := by
  rw [zero_div1]
  rcases cmpQ_cases t 0 with ⟨h, e⟩ | ⟨h, e⟩ | ⟨h, e⟩
  · rw [e, show cmpQ x y * -1 = cmpQ y x by rw [cmpQ_swap]; omega]
    have key : ∀ u v : Rat, u < v → v * t < u * t := fun u v huv => by
      have h1 := Rat.mul_pos (show 0 < v - u by grind) (show 0 < -t by grind)
      grind
    exact cmpQ_of (fun hh => key _ _ hh) (fun hh => key _ _ hh) (fun hh => by rw [hh])
  · rw [h, Rat.mul_zero, Rat.mul_zero, cmpQ_eq, Int.mul_zero]
  · rw [e, Int.mul_one]
    have key : ∀ u v : Rat, u < v → u * t < v * t := fun u v huv => by
      have h1 := Rat.mul_pos (show 0 < v - u by grind) h
      grind
    exact cmpQ_of (fun hh => key _ _ hh) (fun hh => key _ _ hh) (fun hh => by rw [hh])
theorem Zero : Is (some (Rat.divInt 0 1)) ⟨#[48]⟩ ⟨#[49]⟩ := ⟨zero_texts.1, zero_texts.2, OkO.some (by decide +kernel)⟩
theorem oIf_val {c : Bool} {r s : Rat} (h : oIf c r = some s) : s = r := by
  unfold oIf at h; split at h
  · exact (Option.some.inj h).symm
  · cases h
theorem oAdd_val {x y r : Rat} (h : oAdd (some x) (some y) = some r) : r = x + y := oIf_val h
theorem oSub_val {x y r : Rat} (h : oSub (some x) (some y) = some r) : r = x - y := oIf_val h
theorem oMul_val {x y r : Rat} (h : oMul (some x) (some y) = some r) : r = x * y := oIf_val h
theorem oDiv_val {x y r : Rat} (h : oDiv (some x) (some y) = some r) : r = x / y := oIf_val h
theorem order_cases {a b c : Rat} {an ad bn bd : ByteArray} {ab bc ac : Int} (Ia : Is (some a) an ad) (Ib : Is (some b) bn bd) (hab : ab = cmpQ a b) (hbc : bc = cmpQ b c) (hac : ac = cmpQ a c) :
    (ab = 1 ∧ ((an.toList == bn.toList) = false ∨ bn = an ∧ (ad.toList == bd.toList) = false)) ∨ ((ab = 0 ∧ bn = an ∧ bd = ad ∨ ab = -1 ∧ ((an.toList == bn.toList) = false ∨ bn = an ∧ (ad.toList == bd.toList) = false)) ∧ (bc = 1 ∨ (bc = 0 ∧ (ac = 0 ∨ ac = -1)) ∨ (bc = -1 ∧ ac = -1))) := by
  subst hab hbc hac
  rcases cmpQ_cases a b with ⟨h, e⟩ | ⟨h, e⟩ | ⟨h, e⟩
  · refine .inr ⟨.inr ⟨e, Ia.ne Ib (fun e => by subst e; exact Rat.lt_irrefl h)⟩, ?_⟩
    rcases cmpQ_cases b c with ⟨k, f⟩ | ⟨k, f⟩ | ⟨k, f⟩
    · exact .inr (.inr ⟨f, cmpQ_lt (by grind)⟩)
    · exact .inr (.inl ⟨f, .inr (cmpQ_lt (by grind))⟩)
    · exact .inl f
  · subst h
    refine .inr ⟨.inl ⟨e, Ia.eq Ib⟩, ?_⟩
    rcases cmpQ_cases a c with ⟨k, f⟩ | ⟨k, f⟩ | ⟨k, f⟩
    · exact .inr (.inr ⟨f, f⟩)
    · exact .inr (.inl ⟨f, .inl f⟩)
    · exact .inl f
  · exact .inl ⟨e, Ia.ne Ib (fun e => by subst e; exact Rat.lt_irrefl h)⟩
theorem mul_cases {a b : Rat} {ab : Int} (hab : ab = cmpQ a b) (t : Rat) : ∃ m ct : Int, m = cmpQ (a * t) (b * t) ∧ ct = cmpQ t (Rat.divInt 0 1) ∧
    ((ab = 0 ∧ m = 0 ∧ -1 ≤ ct ∧ ct ≤ 1) ∨ (ab = 1 ∧ m = ct ∧ -1 ≤ ct ∧ ct ≤ 1) ∨ (ab = -1 ∧ (ct = -1 ∧ m = 1 ∨ ct = 0 ∧ m = 0 ∨ ct = 1 ∧ m = -1))) := by
  refine ⟨_, _, rfl, rfl, ?_⟩
  rw [cmpQ_mul]
  have h1 : ab = 0 ∨ ab = 1 ∨ ab = -1 := by rw [hab]; rcases cmpQ_cases a b with ⟨_, e⟩ | ⟨_, e⟩ | ⟨_, e⟩ <;> rw [e] <;> simp
  have h2 : cmpQ t (Rat.divInt 0 1) = -1 ∨ cmpQ t (Rat.divInt 0 1) = 0 ∨ cmpQ t (Rat.divInt 0 1) = 1 := by rcases cmpQ_cases t (Rat.divInt 0 1) with ⟨_, e⟩ | ⟨_, e⟩ | ⟨_, e⟩ <;> rw [e] <;> simp
  generalize cmpQ t (Rat.divInt 0 1) = ct at *
  rw [← hab]
  rcases h1 with rfl | rfl | rfl
  · exact .inl ⟨rfl, by omega, by omega, by omega⟩
  · exact .inr (.inl ⟨rfl, by omega, by omega, by omega⟩)
  · refine .inr (.inr ⟨rfl, ?_⟩)
    rcases h2 with rfl | rfl | rfl <;> simp
set_option maxRecDepth 100000 in
set_option maxHeartbeats 16000000 in
theorem order_law (x0 x1 x2 x3 y0 y1 y2 y3 z0 z1 z2 z3 t0 t1 : Int) (Fx0 : Fits x0) (Fx1 : Fits x1) (Fx2 : Fits x2) (Fx3 : Fits x3) (Fy0 : Fits y0) (Fy1 : Fits y1) (Fy2 : Fits y2) (Fy3 : Fits y3) (Fz0 : Fits z0) (Fz1 : Fits z1) (Fz2 : Fits z2) (Fz3 : Fits z3) (Ft0 : Fits t0) (Ft1 : Fits t1) (w : World) (hE : EnvQ w) :
    Calls Tryz.prog 9 #[.agg #[.int .i64 x0, .int .i64 x1, .int .i64 x2, .int .i64 x3], .agg #[.int .i64 y0, .int .i64 y1, .int .i64 y2, .int .i64 y3], .agg #[.int .i64 z0, .int .i64 z1, .int .i64 z2, .int .i64 z3], .agg #[.int .i64 t0, .int .i64 t1]] w (Rets w (.bool true)) := by
  have Sv0 := BL.start w
  obtain ⟨V1, ev1, Sv1, zv1⟩ := Sv0.add' #[.int .i64 x0, .int .i64 x1, .int .i64 x2, .int .i64 x3] 24
  obtain ⟨V2, ev2, Sv2, zv2⟩ := Sv1.add' #[.int .i64 y0, .int .i64 y1, .int .i64 y2, .int .i64 y3] 24
  obtain ⟨V3, ev3, Sv3, zv3⟩ := Sv2.add' #[.int .i64 z0, .int .i64 z1, .int .i64 z2, .int .i64 z3] 24
  obtain ⟨V4, ev4, Sv4, zv4⟩ := Sv3.add' #[.int .i64 t0, .int .i64 t1] 47
  rw [zv1] at Sv2
  rw [zv2, zv1] at Sv3
  rw [zv3, zv2, zv1] at Sv4
  have hV : V4 = ((((w.alloc (.cells #[.int .i64 x0, .int .i64 x1, .int .i64 x2, .int .i64 x3] 24)).alloc (.cells #[.int .i64 y0, .int .i64 y1, .int .i64 y2, .int .i64 y3] 24)).alloc (.cells #[.int .i64 z0, .int .i64 z1, .int .i64 z2, .int .i64 z3] 24)).alloc (.cells #[.int .i64 t0, .int .i64 t1] 47)) := by rw [ev4, ev3, ev2, ev1]
  have hS : BL w [(w.heap.size + 1 + 1 + 1, #[.int .i64 t0, .int .i64 t1], 47), (w.heap.size + 1 + 1, #[.int .i64 z0, .int .i64 z1, .int .i64 z2, .int .i64 z3], 24), (w.heap.size + 1, #[.int .i64 y0, .int .i64 y1, .int .i64 y2, .int .i64 y3], 24), (w.heap.size, #[.int .i64 x0, .int .i64 x1, .int .i64 x2, .int .i64 x3], 24)] V4 := Sv4
  have hO : Asc w [(w.heap.size + 1 + 1 + 1, #[.int .i64 t0, .int .i64 t1], 47), (w.heap.size + 1 + 1, #[.int .i64 z0, .int .i64 z1, .int .i64 z2, .int .i64 z3], 24), (w.heap.size + 1, #[.int .i64 y0, .int .i64 y1, .int .i64 y2, .int .i64 y3], 24), (w.heap.size, #[.int .i64 x0, .int .i64 x1, .int .i64 x2, .int .i64 x3], 24)] := ⟨by simp; omega, by simp; omega⟩
  clear ev1 ev2 ev3 ev4 zv1 zv2 zv3 zv4 Sv0 Sv1 Sv2 Sv3 Sv4
  go_enter Tryz.func9, Tryz.ntmps9
  go_wp2_with fail
  rw [← hV]
  clear hV
  refine Calls.mono (saneQ_any _ (hS.envQ hE)) ?_
  rintro e w1 ⟨rfl, hb⟩
  replace hS := hS.call hb
  clear hb
  obtain ⟨c_X_0, c_X_1, c_X_2, c_X_3⟩ := hS.c4 (w.heap.size) _ _ _ _ _ (.tail _ (.tail _ (.tail _ (.head _))))
  go_wp2_with fail
  refine Calls.mono (long_v x0 x1 x2 x3 Fx0 Fx1 Fx2 Fx3 _) ?_
  rintro e w2 ⟨a, an, ad, rfl, Ia, Ba, hb⟩
  clear c_X_0 c_X_1 c_X_2 c_X_3
  replace hS := hS.call hb
  clear hb
  replace hO := hO.add hS #[.string an, .string ad] 23
  replace hS := hS.add' #[.string an, .string ad] 23
  obtain ⟨W0, hW0, hS, hz0⟩ := hS
  obtain ⟨W, hW⟩ : ∃ W, W = (w2.alloc (.cells #[.string an, .string ad] 23)) := ⟨_, rfl⟩
  replace hS : BL w [(w2.heap.size, #[.string an, .string ad], 23), (w.heap.size + 1 + 1 + 1, #[.int .i64 t0, .int .i64 t1], 47), (w.heap.size + 1 + 1, #[.int .i64 z0, .int .i64 z1, .int .i64 z2, .int .i64 z3], 24), (w.heap.size + 1, #[.int .i64 y0, .int .i64 y1, .int .i64 y2, .int .i64 y3], 24), (w.heap.size, #[.int .i64 x0, .int .i64 x1, .int .i64 x2, .int .i64 x3], 24)] W := by rw [hW, ← hW0]; exact hS
  clear hz0 hW0
  go_upto_region 3 with fail
  rw [← hW]
  clear hW
  obtain ⟨c_Y_0, c_Y_1, c_Y_2, c_Y_3⟩ := hS.c4 (w.heap.size + 1) _ _ _ _ _ (.tail _ (.tail _ (.tail _ (.head _))))
  go_wp2_with fail
  refine Calls.mono (long_v y0 y1 y2 y3 Fy0 Fy1 Fy2 Fy3 _) ?_
  rintro e w3 ⟨b, bn, bd, rfl, Ib, Bb, hb⟩
  clear c_Y_0 c_Y_1 c_Y_2 c_Y_3
  replace hS := hS.call hb
  clear hb
  replace hO := hO.add hS #[.string bn, .string bd] 23
  replace hS := hS.add' #[.string bn, .string bd] 23
  obtain ⟨W0, hW0, hS, hz0⟩ := hS
  obtain ⟨W, hW⟩ : ∃ W, W = (w3.alloc (.cells #[.string bn, .string bd] 23)) := ⟨_, rfl⟩
  replace hS : BL w [(w3.heap.size, #[.string bn, .string bd], 23), (w2.heap.size, #[.string an, .string ad], 23), (w.heap.size + 1 + 1 + 1, #[.int .i64 t0, .int .i64 t1], 47), (w.heap.size + 1 + 1, #[.int .i64 z0, .int .i64 z1, .int .i64 z2, .int .i64 z3], 24), (w.heap.size + 1, #[.int .i64 y0, .int .i64 y1, .int .i64 y2, .int .i64 y3], 24), (w.heap.size, #[.int .i64 x0, .int .i64 x1, .int .i64 x2, .int .i64 x3], 24)] W := by rw [hW, ← hW0]; exact hS
  clear hz0 hW0
  go_upto_region 4 with fail
  rw [← hW]
  clear hW
  obtain ⟨c_Z_0, c_Z_1, c_Z_2, c_Z_3⟩ := hS.c4 (w.heap.size + 1 + 1) _ _ _ _ _ (.tail _ (.tail _ (.tail _ (.head _))))
  go_wp2_with fail
  refine Calls.mono (long_v z0 z1 z2 z3 Fz0 Fz1 Fz2 Fz3 _) ?_
  rintro e w4 ⟨c, cn, cd, rfl, Ic, Bc, hb⟩
  clear c_Z_0 c_Z_1 c_Z_2 c_Z_3
  replace hS := hS.call hb
  clear hb
  replace hO := hO.add hS #[.string cn, .string cd] 23
  replace hS := hS.add' #[.string cn, .string cd] 23
  obtain ⟨W0, hW0, hS, hz0⟩ := hS
  obtain ⟨W, hW⟩ : ∃ W, W = (w4.alloc (.cells #[.string cn, .string cd] 23)) := ⟨_, rfl⟩
  replace hS : BL w [(w4.heap.size, #[.string cn, .string cd], 23), (w3.heap.size, #[.string bn, .string bd], 23), (w2.heap.size, #[.string an, .string ad], 23), (w.heap.size + 1 + 1 + 1, #[.int .i64 t0, .int .i64 t1], 47), (w.heap.size + 1 + 1, #[.int .i64 z0, .int .i64 z1, .int .i64 z2, .int .i64 z3], 24), (w.heap.size + 1, #[.int .i64 y0, .int .i64 y1, .int .i64 y2, .int .i64 y3], 24), (w.heap.size, #[.int .i64 x0, .int .i64 x1, .int .i64 x2, .int .i64 x3], 24)] W := by rw [hW, ← hW0]; exact hS
  clear hz0 hW0
  go_upto_region 5 with fail
  rw [← hW]
  clear hW
  obtain ⟨c_T_0, c_T_1⟩ := hS.c2 (w.heap.size + 1 + 1 + 1) _ _ _ (.tail _ (.tail _ (.tail _ (.head _))))
  go_wp2_with fail
  refine Calls.mono (small_v t0 t1 Ft0 Ft1 _) ?_
  rintro e w5 ⟨t, tn, td, rfl, It, Bt, hb⟩
  clear c_T_0 c_T_1
  replace hS := hS.call hb
  clear hb
  replace hO := hO.add hS #[.string tn, .string td] 23
  replace hS := hS.add' #[.string tn, .string td] 23
  obtain ⟨W0, hW0, hS, hz0⟩ := hS
  obtain ⟨W, hW⟩ : ∃ W, W = (w5.alloc (.cells #[.string tn, .string td] 23)) := ⟨_, rfl⟩
  replace hS : BL w [(w5.heap.size, #[.string tn, .string td], 23), (w4.heap.size, #[.string cn, .string cd], 23), (w3.heap.size, #[.string bn, .string bd], 23), (w2.heap.size, #[.string an, .string ad], 23), (w.heap.size + 1 + 1 + 1, #[.int .i64 t0, .int .i64 t1], 47), (w.heap.size + 1 + 1, #[.int .i64 z0, .int .i64 z1, .int .i64 z2, .int .i64 z3], 24), (w.heap.size + 1, #[.int .i64 y0, .int .i64 y1, .int .i64 y2, .int .i64 y3], 24), (w.heap.size, #[.int .i64 x0, .int .i64 x1, .int .i64 x2, .int .i64 x3], 24)] W := by rw [hW, ← hW0]; exact hS
  clear hz0 hW0
  obtain ⟨ab, hab⟩ : ∃ c : Int, Hid (c = cmpQ a b) := ⟨_, rfl⟩
  obtain ⟨bc, hbc⟩ : ∃ z : Int, Hid (z = cmpQ b c) := ⟨_, rfl⟩
  obtain ⟨ac, hac⟩ : ∃ z : Int, Hid (z = cmpQ a c) := ⟨_, rfl⟩
  go_upto_region 6 with fail
  rw [← hW]
  clear hW
  obtain ⟨c_a_0, c_a_1⟩ := hS.c2 (w2.heap.size) _ _ _ (.tail _ (.tail _ (.tail _ (.head _))))
  obtain ⟨c_b_0, c_b_1⟩ := hS.c2 (w3.heap.size) _ _ _ (.tail _ (.tail _ (.head _)))
  go_wp2_with fail
  refine Calls.mono (cmp_v Ia _ (hS.envQ hE).env Ib ab hab.out) ?_
  rintro e w6 ⟨rfl, hb⟩
  clear c_a_0 c_a_1 c_b_0 c_b_1
  replace hS := hS.call hb
  clear hb
  obtain ⟨c_b_0, c_b_1⟩ := hS.c2 (w3.heap.size) _ _ _ (.tail _ (.tail _ (.head _)))
  obtain ⟨c_c_0, c_c_1⟩ := hS.c2 (w4.heap.size) _ _ _ (.tail _ (.head _))
  go_wp2_with fail
  refine Calls.mono (cmp_v Ib _ (hS.envQ hE).env Ic bc hbc.out) ?_
  rintro e w7 ⟨rfl, hb⟩
  clear c_b_0 c_b_1 c_c_0 c_c_1
  replace hS := hS.call hb
  clear hb
  obtain ⟨c_a_0, c_a_1⟩ := hS.c2 (w2.heap.size) _ _ _ (.tail _ (.tail _ (.tail _ (.head _))))
  obtain ⟨c_c_0, c_c_1⟩ := hS.c2 (w4.heap.size) _ _ _ (.tail _ (.head _))
  go_wp2_with fail
  refine Calls.mono (cmp_v Ia _ (hS.envQ hE).env Ic ac hac.out) ?_
  rintro e w8 ⟨rfl, hb⟩
  clear c_a_0 c_a_1 c_c_0 c_c_1
  replace hS := hS.call hb
  clear hb
  obtain ⟨c_a_0, c_a_1⟩ := hS.c2 (w2.heap.size) _ _ _ (.tail _ (.tail _ (.tail _ (.head _))))
  obtain ⟨c_b_0, c_b_1⟩ := hS.c2 (w3.heap.size) _ _ _ (.tail _ (.tail _ (.head _)))
  go_upto_region 9 with fail
  go_cut [92] (fun s wx => s = .bool false ∧ BL w [(w5.heap.size, #[.string tn, .string td], 23), (w4.heap.size, #[.string cn, .string cd], 23), (w3.heap.size, #[.string bn, .string bd], 23), (w2.heap.size, #[.string an, .string ad], 23), (w.heap.size + 1 + 1 + 1, #[.int .i64 t0, .int .i64 t1], 47), (w.heap.size + 1 + 1, #[.int .i64 z0, .int .i64 z1, .int .i64 z2, .int .i64 z3], 24), (w.heap.size + 1, #[.int .i64 y0, .int .i64 y1, .int .i64 y2, .int .i64 y3], 24), (w.heap.size, #[.int .i64 x0, .int .i64 x1, .int .i64 x2, .int .i64 x3], 24)] wx)
  case first => as_aux_lemma =>
    have Cba := Lib.hid (fun W hE => cmp_v Ib W hE Ia (-ab) (by rw [hab.out]; exact (cmpQ_swap a b).symm))
    have Caa := Lib.hid (fun W hE => cmp_v Ia W hE Ia 0 (by show 0 = cmpQ a a; rw [cmpQ_eq]))
    have hD := Lib.hid (order_cases Ia Ib hab.out hbc.out hac.out)
    rcases hD.out with ⟨rfl, g⟩ | ⟨⟨rfl, rfl, rfl⟩ | ⟨rfl, g⟩, rfl | ⟨rfl, rfl | rfl⟩ | ⟨rfl, rfl⟩⟩
    all_goals (try (rcases g with g | ⟨rfl, g⟩))
    all_goals
      go_wp2_with fail
      refine Calls.mono (Cba.out _ (hS.envQ hE).env) ?_
      rintro e w' ⟨rfl, hb⟩
      clear c_a_0 c_a_1 c_b_0 c_b_1
      replace hS := hS.call hb
      clear hb
      obtain ⟨c_a_0, c_a_1⟩ := hS.c2 (w2.heap.size) _ _ _ (.tail _ (.tail _ (.tail _ (.head _))))
      obtain ⟨c_b_0, c_b_1⟩ := hS.c2 (w3.heap.size) _ _ _ (.tail _ (.tail _ (.head _)))
      go_wp2_with fail
      refine Calls.mono (Caa.out _ (hS.envQ hE).env) ?_
      rintro e w' ⟨rfl, hb⟩
      replace hS := hS.call hb
      clear hb
      go_wp2_with fail
      go_meet
      exact ⟨rfl, hS⟩
  case rest =>
    clear hS c_a_0 c_a_1 c_b_0 c_b_1
    obtain ⟨rfl, hS⟩ := hcut
    obtain ⟨dn, dd, de, Id⟩ := isE_mk (o := oSub (some a) (some b)) OkO.sub
    obtain ⟨c_a_0, c_a_1⟩ := hS.c2 (w2.heap.size) _ _ _ (.tail _ (.tail _ (.tail _ (.head _))))
    obtain ⟨c_b_0, c_b_1⟩ := hS.c2 (w3.heap.size) _ _ _ (.tail _ (.tail _ (.head _)))
    go_wp2_with fail
    refine Calls.mono (sub_v Ia _ (hS.envQ hE).env Ib Id) ?_
    rintro e w9 ⟨rfl, hb⟩
    clear c_a_0 c_a_1 c_b_0 c_b_1
    replace hS := hS.call hb
    clear hb
    replace hO := hO.add hS #[.string dn, .string dd] 23
    replace hS := hS.add' #[.string dn, .string dd] 23
    obtain ⟨W0, hW0, hS, hz0⟩ := hS
    obtain ⟨W, hW⟩ : ∃ W, W = (w9.alloc (.cells #[.string dn, .string dd] 23)) := ⟨_, rfl⟩
    replace hS : BL w [(w9.heap.size, #[.string dn, .string dd], 23), (w5.heap.size, #[.string tn, .string td], 23), (w4.heap.size, #[.string cn, .string cd], 23), (w3.heap.size, #[.string bn, .string bd], 23), (w2.heap.size, #[.string an, .string ad], 23), (w.heap.size + 1 + 1 + 1, #[.int .i64 t0, .int .i64 t1], 47), (w.heap.size + 1 + 1, #[.int .i64 z0, .int .i64 z1, .int .i64 z2, .int .i64 z3], 24), (w.heap.size + 1, #[.int .i64 y0, .int .i64 y1, .int .i64 y2, .int .i64 y3], 24), (w.heap.size, #[.int .i64 x0, .int .i64 x1, .int .i64 x2, .int .i64 x3], 24)] W := by rw [hW, ← hW0]; exact hS
    clear hz0 hW0
    go_upto_region 12 with fail
    rw [← hW]
    clear hW
    go_cut [107] (fun s wx => s = .bool false ∧ BL w [(w9.heap.size, #[.string dn, .string dd], 23), (w5.heap.size, #[.string tn, .string td], 23), (w4.heap.size, #[.string cn, .string cd], 23), (w3.heap.size, #[.string bn, .string bd], 23), (w2.heap.size, #[.string an, .string ad], 23), (w.heap.size + 1 + 1 + 1, #[.int .i64 t0, .int .i64 t1], 47), (w.heap.size + 1 + 1, #[.int .i64 z0, .int .i64 z1, .int .i64 z2, .int .i64 z3], 24), (w.heap.size + 1, #[.int .i64 y0, .int .i64 y1, .int .i64 y2, .int .i64 y3], 24), (w.heap.size, #[.int .i64 x0, .int .i64 x1, .int .i64 x2, .int .i64 x3], 24)] wx)
    case first => as_aux_lemma =>
      rcases Id.err with ⟨rfl, r, hr⟩ | ⟨rfl, _⟩
      · obtain rfl := oSub_val hr
        rw [hr] at Id
        have Cd := Lib.hid (fun W hE => cmp_v Id.is W hE Zero ab (by rw [hab.out]; exact (cmpQ_sub a b).symm))
        have hC0 : ∀ W', BL w [(w9.heap.size, #[.string dn, .string dd], 23), (w5.heap.size, #[.string tn, .string td], 23), (w4.heap.size, #[.string cn, .string cd], 23), (w3.heap.size, #[.string bn, .string bd], 23), (w2.heap.size, #[.string an, .string ad], 23), (w.heap.size + 1 + 1 + 1, #[.int .i64 t0, .int .i64 t1], 47), (w.heap.size + 1 + 1, #[.int .i64 z0, .int .i64 z1, .int .i64 z2, .int .i64 z3], 24), (w.heap.size + 1, #[.int .i64 y0, .int .i64 y1, .int .i64 y2, .int .i64 y3], 24), (w.heap.size, #[.int .i64 x0, .int .i64 x1, .int .i64 x2, .int .i64 x3], 24)] W' → (W'.cell? ⟨w9.heap.size, 0, none⟩ = some (.string dn) ∧ W'.cell? ⟨w9.heap.size, 1, none⟩ = some (.string dd)) := fun W' h => ⟨(h.cell (w9.heap.size) _ _ (.head _) 0), (h.cell (w9.heap.size) _ _ (.head _) 1)⟩
        have hC := Lib.hid hC0
        clear hC0
        clear hr
        obtain ⟨x0', x1'⟩ := hC.out _ hS
        replace hS := hS.drew
        go_region_held3 (fun w' => w'.cell? ⟨w9.heap.size, 0, none⟩ = some (.string dn) ∧ w'.cell? ⟨w9.heap.size, 1, none⟩ = some (.string dd))
          (first | with_reducible exact hC.out _ hS | go_keep)
          (first | (go_at_call 24; (with_reducible refine Calls.mono (is_any _ _ _) ?_); rintro e w' ⟨rfl, hb⟩; replace hS := hS.call hb; clear hb) | (go_at_call 23; (with_reducible refine Calls.mono (Cd.out _ (hS.envQ hE).env) ?_); rintro e w' ⟨rfl, hb⟩; replace hS := hS.call hb; clear hb))
        go_wp2_with fail
        go_meet
        exact ⟨rfl, hS⟩
      · go_quiet (fail)
        go_wp2_with fail
        go_meet
        exact ⟨rfl, hS.drewN _⟩
    case rest =>
      clear hS
      obtain ⟨rfl, hS⟩ := hcut
      obtain ⟨pn, pd, pe, Ip⟩ := isE_mk (o := oAdd (some a) (some t)) OkO.add
      obtain ⟨qn, qd, qe, Iq⟩ := isE_mk (o := oAdd (some b) (some t)) OkO.add
      obtain ⟨c_a_0, c_a_1⟩ := hS.c2 (w2.heap.size) _ _ _ (.tail _ (.tail _ (.tail _ (.tail _ (.head _)))))
      obtain ⟨c_t_0, c_t_1⟩ := hS.c2 (w5.heap.size) _ _ _ (.tail _ (.head _))
      go_wp2_with fail
      refine Calls.mono (add_v Ia _ (hS.envQ hE).env It Ip) ?_
      rintro e w10 ⟨rfl, hb⟩
      clear c_a_0 c_a_1 c_t_0 c_t_1
      replace hS := hS.call hb
      clear hb
      replace hO := hO.add hS #[.string pn, .string pd] 23
      replace hS := hS.add' #[.string pn, .string pd] 23
      obtain ⟨W0, hW0, hS, hz0⟩ := hS
      obtain ⟨W, hW⟩ : ∃ W, W = (w10.alloc (.cells #[.string pn, .string pd] 23)) := ⟨_, rfl⟩
      replace hS : BL w [(w10.heap.size, #[.string pn, .string pd], 23), (w9.heap.size, #[.string dn, .string dd], 23), (w5.heap.size, #[.string tn, .string td], 23), (w4.heap.size, #[.string cn, .string cd], 23), (w3.heap.size, #[.string bn, .string bd], 23), (w2.heap.size, #[.string an, .string ad], 23), (w.heap.size + 1 + 1 + 1, #[.int .i64 t0, .int .i64 t1], 47), (w.heap.size + 1 + 1, #[.int .i64 z0, .int .i64 z1, .int .i64 z2, .int .i64 z3], 24), (w.heap.size + 1, #[.int .i64 y0, .int .i64 y1, .int .i64 y2, .int .i64 y3], 24), (w.heap.size, #[.int .i64 x0, .int .i64 x1, .int .i64 x2, .int .i64 x3], 24)] W := by rw [hW, ← hW0]; exact hS
      clear hz0 hW0
      go_upto_region 15 with fail
      rw [← hW]
      clear hW
      obtain ⟨c_b_0, c_b_1⟩ := hS.c2 (w3.heap.size) _ _ _ (.tail _ (.tail _ (.tail _ (.tail _ (.head _)))))
      obtain ⟨c_t_0, c_t_1⟩ := hS.c2 (w5.heap.size) _ _ _ (.tail _ (.tail _ (.head _)))
      go_wp2_with fail
      refine Calls.mono (add_v Ib _ (hS.envQ hE).env It Iq) ?_
      rintro e w11 ⟨rfl, hb⟩
      clear c_b_0 c_b_1 c_t_0 c_t_1
      replace hS := hS.call hb
      clear hb
      replace hO := hO.add hS #[.string qn, .string qd] 23
      replace hS := hS.add' #[.string qn, .string qd] 23
      obtain ⟨W0, hW0, hS, hz0⟩ := hS
      obtain ⟨W, hW⟩ : ∃ W, W = (w11.alloc (.cells #[.string qn, .string qd] 23)) := ⟨_, rfl⟩
      replace hS : BL w [(w11.heap.size, #[.string qn, .string qd], 23), (w10.heap.size, #[.string pn, .string pd], 23), (w9.heap.size, #[.string dn, .string dd], 23), (w5.heap.size, #[.string tn, .string td], 23), (w4.heap.size, #[.string cn, .string cd], 23), (w3.heap.size, #[.string bn, .string bd], 23), (w2.heap.size, #[.string an, .string ad], 23), (w.heap.size + 1 + 1 + 1, #[.int .i64 t0, .int .i64 t1], 47), (w.heap.size + 1 + 1, #[.int .i64 z0, .int .i64 z1, .int .i64 z2, .int .i64 z3], 24), (w.heap.size + 1, #[.int .i64 y0, .int .i64 y1, .int .i64 y2, .int .i64 y3], 24), (w.heap.size, #[.int .i64 x0, .int .i64 x1, .int .i64 x2, .int .i64 x3], 24)] W := by rw [hW, ← hW0]; exact hS
      clear hz0 hW0
      go_upto_region 16 with fail
      rw [← hW]
      clear hW
      go_cut [132] (fun s wx => s = .bool false ∧ BL w [(w11.heap.size, #[.string qn, .string qd], 23), (w10.heap.size, #[.string pn, .string pd], 23), (w9.heap.size, #[.string dn, .string dd], 23), (w5.heap.size, #[.string tn, .string td], 23), (w4.heap.size, #[.string cn, .string cd], 23), (w3.heap.size, #[.string bn, .string bd], 23), (w2.heap.size, #[.string an, .string ad], 23), (w.heap.size + 1 + 1 + 1, #[.int .i64 t0, .int .i64 t1], 47), (w.heap.size + 1 + 1, #[.int .i64 z0, .int .i64 z1, .int .i64 z2, .int .i64 z3], 24), (w.heap.size + 1, #[.int .i64 y0, .int .i64 y1, .int .i64 y2, .int .i64 y3], 24), (w.heap.size, #[.int .i64 x0, .int .i64 x1, .int .i64 x2, .int .i64 x3], 24)] wx)
      case first => as_aux_lemma =>
        rcases Ip.err with ⟨rfl, r, hr⟩ | ⟨rfl, _⟩
        · rcases Iq.err with ⟨rfl, s, hs⟩ | ⟨rfl, _⟩
          · obtain rfl := oAdd_val hr
            obtain rfl := oAdd_val hs
            rw [hr] at Ip
            rw [hs] at Iq
            have Cd := Lib.hid (fun W hE => cmp_v Ip.is W hE Iq.is ab (by rw [hab.out]; exact (cmpQ_add a b t).symm))
            clear hr hs
            obtain ⟨c_p_0, c_p_1⟩ := hS.c2 (w10.heap.size) _ _ _ (.tail _ (.head _))
            obtain ⟨c_q_0, c_q_1⟩ := hS.c2 (w11.heap.size) _ _ _ (.head _)
            go_wp2_with fail
            refine Calls.mono (Cd.out _ (hS.envQ hE).env) ?_
            rintro e w' ⟨rfl, hb⟩
            replace hS := hS.call hb
            clear hb
            go_wp2_with fail
            go_meet
            exact ⟨rfl, hS⟩
          · go_wp2_with fail
            go_meet
            exact ⟨rfl, hS⟩
        · go_wp2_with fail
          go_meet
          exact ⟨rfl, hS⟩
      case rest =>
        clear hS
        obtain ⟨rfl, hS⟩ := hcut
        obtain ⟨mn, md, me, Im⟩ := isE_mk (o := oMul (some a) (some t)) OkO.mul
        obtain ⟨kn, kd, ke, Ik⟩ := isE_mk (o := oMul (some b) (some t)) OkO.mul
        obtain ⟨c_a_0, c_a_1⟩ := hS.c2 (w2.heap.size) _ _ _ (.tail _ (.tail _ (.tail _ (.tail _ (.tail _ (.tail _ (.head _)))))))
        obtain ⟨c_t_0, c_t_1⟩ := hS.c2 (w5.heap.size) _ _ _ (.tail _ (.tail _ (.tail _ (.head _))))
        go_wp2_with fail
        refine Calls.mono (mul_v Ia _ (hS.envQ hE).env It Im) ?_
        rintro e w12 ⟨rfl, hb⟩
        clear c_a_0 c_a_1 c_t_0 c_t_1
        replace hS := hS.call hb
        clear hb
        obtain ⟨c_p_0, c_p_1⟩ := hS.c2 (w10.heap.size) _ _ _ (.tail _ (.head _))
        have f0 := hS.frozen (w10.heap.size) _ _ (.tail _ (.head _)) 0
        have f1 := hS.frozen (w10.heap.size) _ _ (.tail _ (.head _)) 1
        go_upto_region 19 with fail
        obtain ⟨W, hW⟩ : ∃ W, W = (w12.setCell ⟨w10.heap.size, 0, none⟩ (.string mn)).setCell ⟨w10.heap.size, 1, none⟩ (.string md) := ⟨_, rfl⟩
        replace hS : BL w [(w11.heap.size, #[.string qn, .string qd], 23), (w10.heap.size, #[.string mn, .string md], 23), (w9.heap.size, #[.string dn, .string dd], 23), (w5.heap.size, #[.string tn, .string td], 23), (w4.heap.size, #[.string cn, .string cd], 23), (w3.heap.size, #[.string bn, .string bd], 23), (w2.heap.size, #[.string an, .string ad], 23), (w.heap.size + 1 + 1 + 1, #[.int .i64 t0, .int .i64 t1], 47), (w.heap.size + 1 + 1, #[.int .i64 z0, .int .i64 z1, .int .i64 z2, .int .i64 z3], 24), (w.heap.size + 1, #[.int .i64 y0, .int .i64 y1, .int .i64 y2, .int .i64 y3], 24), (w.heap.size, #[.int .i64 x0, .int .i64 x1, .int .i64 x2, .int .i64 x3], 24)] W := by rw [hW]; exact BL.put (A := [(w11.heap.size, #[.string qn, .string qd], 23)]) (C := [(w9.heap.size, #[.string dn, .string dd], 23), (w5.heap.size, #[.string tn, .string td], 23), (w4.heap.size, #[.string cn, .string cd], 23), (w3.heap.size, #[.string bn, .string bd], 23), (w2.heap.size, #[.string an, .string ad], 23), (w.heap.size + 1 + 1 + 1, #[.int .i64 t0, .int .i64 t1], 47), (w.heap.size + 1 + 1, #[.int .i64 z0, .int .i64 z1, .int .i64 z2, .int .i64 z3], 24), (w.heap.size + 1, #[.int .i64 y0, .int .i64 y1, .int .i64 y2, .int .i64 y3], 24), (w.heap.size, #[.int .i64 x0, .int .i64 x1, .int .i64 x2, .int .i64 x3], 24)]) hO hS _ _
        replace hO : Asc w [(w11.heap.size, #[.string qn, .string qd], 23), (w10.heap.size, #[.string mn, .string md], 23), (w9.heap.size, #[.string dn, .string dd], 23), (w5.heap.size, #[.string tn, .string td], 23), (w4.heap.size, #[.string cn, .string cd], 23), (w3.heap.size, #[.string bn, .string bd], 23), (w2.heap.size, #[.string an, .string ad], 23), (w.heap.size + 1 + 1 + 1, #[.int .i64 t0, .int .i64 t1], 47), (w.heap.size + 1 + 1, #[.int .i64 z0, .int .i64 z1, .int .i64 z2, .int .i64 z3], 24), (w.heap.size + 1, #[.int .i64 y0, .int .i64 y1, .int .i64 y2, .int .i64 y3], 24), (w.heap.size, #[.int .i64 x0, .int .i64 x1, .int .i64 x2, .int .i64 x3], 24)] := Asc.put (A := [(w11.heap.size, #[.string qn, .string qd], 23)]) (C := [(w9.heap.size, #[.string dn, .string dd], 23), (w5.heap.size, #[.string tn, .string td], 23), (w4.heap.size, #[.string cn, .string cd], 23), (w3.heap.size, #[.string bn, .string bd], 23), (w2.heap.size, #[.string an, .string ad], 23), (w.heap.size + 1 + 1 + 1, #[.int .i64 t0, .int .i64 t1], 47), (w.heap.size + 1 + 1, #[.int .i64 z0, .int .i64 z1, .int .i64 z2, .int .i64 z3], 24), (w.heap.size + 1, #[.int .i64 y0, .int .i64 y1, .int .i64 y2, .int .i64 y3], 24), (w.heap.size, #[.int .i64 x0, .int .i64 x1, .int .i64 x2, .int .i64 x3], 24)]) hO
        rw [← hW]
        clear hW f0 f1 c_p_0 c_p_1
        obtain ⟨c_b_0, c_b_1⟩ := hS.c2 (w3.heap.size) _ _ _ (.tail _ (.tail _ (.tail _ (.tail _ (.tail _ (.head _))))))
        obtain ⟨c_t_0, c_t_1⟩ := hS.c2 (w5.heap.size) _ _ _ (.tail _ (.tail _ (.tail _ (.head _))))
        go_wp2_with fail
        refine Calls.mono (mul_v Ib _ (hS.envQ hE).env It Ik) ?_
        rintro e w13 ⟨rfl, hb⟩
        clear c_b_0 c_b_1 c_t_0 c_t_1
        replace hS := hS.call hb
        clear hb
        obtain ⟨c_q_0, c_q_1⟩ := hS.c2 (w11.heap.size) _ _ _ (.head _)
        have f0 := hS.frozen (w11.heap.size) _ _ (.head _) 0
        have f1 := hS.frozen (w11.heap.size) _ _ (.head _) 1
        go_upto_region 20 with fail
        obtain ⟨W, hW⟩ : ∃ W, W = (w13.setCell ⟨w11.heap.size, 0, none⟩ (.string kn)).setCell ⟨w11.heap.size, 1, none⟩ (.string kd) := ⟨_, rfl⟩
        replace hS : BL w [(w11.heap.size, #[.string kn, .string kd], 23), (w10.heap.size, #[.string mn, .string md], 23), (w9.heap.size, #[.string dn, .string dd], 23), (w5.heap.size, #[.string tn, .string td], 23), (w4.heap.size, #[.string cn, .string cd], 23), (w3.heap.size, #[.string bn, .string bd], 23), (w2.heap.size, #[.string an, .string ad], 23), (w.heap.size + 1 + 1 + 1, #[.int .i64 t0, .int .i64 t1], 47), (w.heap.size + 1 + 1, #[.int .i64 z0, .int .i64 z1, .int .i64 z2, .int .i64 z3], 24), (w.heap.size + 1, #[.int .i64 y0, .int .i64 y1, .int .i64 y2, .int .i64 y3], 24), (w.heap.size, #[.int .i64 x0, .int .i64 x1, .int .i64 x2, .int .i64 x3], 24)] W := by rw [hW]; exact BL.put (A := []) (C := [(w10.heap.size, #[.string mn, .string md], 23), (w9.heap.size, #[.string dn, .string dd], 23), (w5.heap.size, #[.string tn, .string td], 23), (w4.heap.size, #[.string cn, .string cd], 23), (w3.heap.size, #[.string bn, .string bd], 23), (w2.heap.size, #[.string an, .string ad], 23), (w.heap.size + 1 + 1 + 1, #[.int .i64 t0, .int .i64 t1], 47), (w.heap.size + 1 + 1, #[.int .i64 z0, .int .i64 z1, .int .i64 z2, .int .i64 z3], 24), (w.heap.size + 1, #[.int .i64 y0, .int .i64 y1, .int .i64 y2, .int .i64 y3], 24), (w.heap.size, #[.int .i64 x0, .int .i64 x1, .int .i64 x2, .int .i64 x3], 24)]) hO hS _ _
        replace hO : Asc w [(w11.heap.size, #[.string kn, .string kd], 23), (w10.heap.size, #[.string mn, .string md], 23), (w9.heap.size, #[.string dn, .string dd], 23), (w5.heap.size, #[.string tn, .string td], 23), (w4.heap.size, #[.string cn, .string cd], 23), (w3.heap.size, #[.string bn, .string bd], 23), (w2.heap.size, #[.string an, .string ad], 23), (w.heap.size + 1 + 1 + 1, #[.int .i64 t0, .int .i64 t1], 47), (w.heap.size + 1 + 1, #[.int .i64 z0, .int .i64 z1, .int .i64 z2, .int .i64 z3], 24), (w.heap.size + 1, #[.int .i64 y0, .int .i64 y1, .int .i64 y2, .int .i64 y3], 24), (w.heap.size, #[.int .i64 x0, .int .i64 x1, .int .i64 x2, .int .i64 x3], 24)] := Asc.put (A := []) (C := [(w10.heap.size, #[.string mn, .string md], 23), (w9.heap.size, #[.string dn, .string dd], 23), (w5.heap.size, #[.string tn, .string td], 23), (w4.heap.size, #[.string cn, .string cd], 23), (w3.heap.size, #[.string bn, .string bd], 23), (w2.heap.size, #[.string an, .string ad], 23), (w.heap.size + 1 + 1 + 1, #[.int .i64 t0, .int .i64 t1], 47), (w.heap.size + 1 + 1, #[.int .i64 z0, .int .i64 z1, .int .i64 z2, .int .i64 z3], 24), (w.heap.size + 1, #[.int .i64 y0, .int .i64 y1, .int .i64 y2, .int .i64 y3], 24), (w.heap.size, #[.int .i64 x0, .int .i64 x1, .int .i64 x2, .int .i64 x3], 24)]) hO
        rw [← hW]
        clear hW f0 f1 c_q_0 c_q_1
        go_cut [8] (fun s wx => s = .bool true ∧ BL w [(w11.heap.size, #[.string kn, .string kd], 23), (w10.heap.size, #[.string mn, .string md], 23), (w9.heap.size, #[.string dn, .string dd], 23), (w5.heap.size, #[.string tn, .string td], 23), (w4.heap.size, #[.string cn, .string cd], 23), (w3.heap.size, #[.string bn, .string bd], 23), (w2.heap.size, #[.string an, .string ad], 23), (w.heap.size + 1 + 1 + 1, #[.int .i64 t0, .int .i64 t1], 47), (w.heap.size + 1 + 1, #[.int .i64 z0, .int .i64 z1, .int .i64 z2, .int .i64 z3], 24), (w.heap.size + 1, #[.int .i64 y0, .int .i64 y1, .int .i64 y2, .int .i64 y3], 24), (w.heap.size, #[.int .i64 x0, .int .i64 x1, .int .i64 x2, .int .i64 x3], 24)] wx)
        case first => as_aux_lemma =>
          rcases Im.err with ⟨rfl, r, hr⟩ | ⟨rfl, _⟩
          · rcases Ik.err with ⟨rfl, s, hs⟩ | ⟨rfl, _⟩
            · obtain rfl := oMul_val hr
              obtain rfl := oMul_val hs
              rw [hr] at Im
              rw [hs] at Ik
              clear hr hs
              obtain ⟨m, ct, hm, hct, hV⟩ := mul_cases hab.out t
              have Cm := Lib.hid (fun W hE => cmp_v Im.is W hE Ik.is m hm)
              have Ct := Lib.hid (fun W hE => cmp_v It W hE Zero ct hct)
              clear hm hct
              have hC0 : ∀ W', BL w [(w11.heap.size, #[.string kn, .string kd], 23), (w10.heap.size, #[.string mn, .string md], 23), (w9.heap.size, #[.string dn, .string dd], 23), (w5.heap.size, #[.string tn, .string td], 23), (w4.heap.size, #[.string cn, .string cd], 23), (w3.heap.size, #[.string bn, .string bd], 23), (w2.heap.size, #[.string an, .string ad], 23), (w.heap.size + 1 + 1 + 1, #[.int .i64 t0, .int .i64 t1], 47), (w.heap.size + 1 + 1, #[.int .i64 z0, .int .i64 z1, .int .i64 z2, .int .i64 z3], 24), (w.heap.size + 1, #[.int .i64 y0, .int .i64 y1, .int .i64 y2, .int .i64 y3], 24), (w.heap.size, #[.int .i64 x0, .int .i64 x1, .int .i64 x2, .int .i64 x3], 24)] W' → (W'.cell? ⟨w10.heap.size, 0, none⟩ = some (.string mn) ∧ W'.cell? ⟨w10.heap.size, 1, none⟩ = some (.string md) ∧ W'.cell? ⟨w11.heap.size, 0, none⟩ = some (.string kn) ∧ W'.cell? ⟨w11.heap.size, 1, none⟩ = some (.string kd) ∧ W'.cell? ⟨w5.heap.size, 0, none⟩ = some (.string tn) ∧ W'.cell? ⟨w5.heap.size, 1, none⟩ = some (.string td)) := fun W' h => ⟨(h.cell (w10.heap.size) _ _ (.tail _ (.head _)) 0), (h.cell (w10.heap.size) _ _ (.tail _ (.head _)) 1), (h.cell (w11.heap.size) _ _ (.head _) 0), (h.cell (w11.heap.size) _ _ (.head _) 1), (h.cell (w5.heap.size) _ _ (.tail _ (.tail _ (.tail _ (.head _)))) 0), (h.cell (w5.heap.size) _ _ (.tail _ (.tail _ (.tail _ (.head _)))) 1)⟩
              have hC := Lib.hid hC0
              clear hC0
              rcases hV with ⟨rfl, rfl, h1, h2⟩ | ⟨rfl, rfl, h1, h2⟩ | ⟨rfl, ⟨rfl, rfl⟩ | ⟨rfl, rfl⟩ | ⟨rfl, rfl⟩⟩
              all_goals
                obtain ⟨x0', x1', x2', x3', x4', x5'⟩ := hC.out _ hS
                replace hS := hS.drew
                go_region_held3 (fun w' => w'.cell? ⟨w10.heap.size, 0, none⟩ = some (.string mn) ∧ w'.cell? ⟨w10.heap.size, 1, none⟩ = some (.string md) ∧ w'.cell? ⟨w11.heap.size, 0, none⟩ = some (.string kn) ∧ w'.cell? ⟨w11.heap.size, 1, none⟩ = some (.string kd) ∧ w'.cell? ⟨w5.heap.size, 0, none⟩ = some (.string tn) ∧ w'.cell? ⟨w5.heap.size, 1, none⟩ = some (.string td))
                  (first | with_reducible exact hC.out _ hS | go_keep)
                  (first | (go_at_call 24; (with_reducible refine Calls.mono (is_any _ _ _) ?_); rintro e w' ⟨rfl, hb⟩; replace hS := hS.call hb; clear hb) | (go_at_call 23; (with_reducible refine Calls.mono (Ct.out _ (hS.envQ hE).env) ?_); rintro e w' ⟨rfl, hb⟩; replace hS := hS.call hb; clear hb) | (go_at_call 23; (with_reducible refine Calls.mono (Cm.out _ (hS.envQ hE).env) ?_); rintro e w' ⟨rfl, hb⟩; replace hS := hS.call hb; clear hb))
                all_goals (go_wp2_with fail; go_meet; first | exact ⟨rfl, hS⟩ | exact ⟨by rw [IntWalk.i64_in m (by omega)]; simp, hS⟩)
            · go_quiet (fail)
              go_wp2_with fail
              go_meet
              exact ⟨rfl, hS.drewN _⟩
          · go_quiet (fail)
            go_wp2_with fail
            go_meet
            exact ⟨rfl, hS.drewN _⟩
        case rest =>
          clear hS
          obtain ⟨rfl, hS⟩ := hcut
          go_wp2
          go_ret
          exact ⟨rfl, hS.below⟩
end Go.Proofs.YtkmlcnkhijpndaaGreatDoor
