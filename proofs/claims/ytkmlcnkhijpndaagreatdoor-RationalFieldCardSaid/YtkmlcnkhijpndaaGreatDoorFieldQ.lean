/- RationalField: the walk. -/
import Derived.Test.YtkmlcnkhijpndaaGreatDoorIsQ
import Derived.Deep.QuietTactic
import Derived.BigQuiet
namespace Go.Proofs.YtkmlcnkhijpndaaGreatDoor
open Go.RowKit
attribute [local go_sem] Oper.semAt_some

theorem fAdd_comm (x y : Rat) : fAdd x y = fAdd y x := by
  unfold fAdd
  rw [Int.add_comm (x.num * y.den), Int.mul_comm (x.den : Int) (y.den : Int)]
  generalize decide (Small (x.num * y.den)) = p
  generalize decide (Small (y.num * x.den)) = r
  cases p <;> cases r <;> rfl
theorem oAdd_comm (x y : Rat) : oAdd (some x) (some y) = oAdd (some y) (some x) := by
  rw [oAdd_some, oAdd_some, fAdd_comm, Rat.add_comm]
theorem oMul_comm (x y : Rat) : oMul (some x) (some y) = oMul (some y) (some x) := by
  rw [oMul_some, oMul_some, Rat.mul_comm]
  unfold fMul
  rw [Int.mul_comm x.num, Int.mul_comm (x.den : Int)]
def FieldB (l : Bool) (a b : Rat) : Prop := l = false → BQ 3 a ∧ BQ 3 b
theorem FieldB.small {a b : Rat} (h : BQ 3 a) (k : BQ 3 b) : FieldB false a b := fun _ => ⟨h, k⟩
theorem FieldB.long {a b : Rat} (_ : BQ 100 a) (_ : BQ 100 b) : FieldB true a b := fun h => by cases h
theorem bq_add {k : Nat} {a b : Rat} (h : BQ k a) (g : BQ k b) (hk : k + k + 1 ≤ 200) : oAdd (some a) (some b) = some (a + b) := by
  rw [oAdd_some]; unfold oIf fAdd
  rw [decide_eq_true ((h.1.mul g.2).small (by omega)), decide_eq_true ((g.1.mul h.2).small (by omega)), decide_eq_true (((h.1.mul g.2).add (g.1.mul h.2)).small (by omega)), decide_eq_true ((h.2.mul g.2).small (by omega))]; rfl
theorem bq_mul {k : Nat} {a b : Rat} (h : BQ k a) (g : BQ k b) (hk : k + k ≤ 200) : oMul (some a) (some b) = some (a * b) := by
  rw [oMul_some]; unfold oIf fMul
  rw [decide_eq_true ((h.1.mul g.1).small (by omega)), decide_eq_true ((h.2.mul g.2).small (by omega))]; rfl
theorem FieldB.ok {a b : Rat} {n d m c : ByteArray} {e f : Int} (h : FieldB false a b) (I : IsE (oAdd (some a) (some b)) n d e) (K : IsE (oMul (some a) (some b)) m c f) : e = 0 ∧ f = 0 := by
  obtain ⟨h1, h2⟩ := h rfl
  rw [bq_add h1 h2 (by decide)] at I
  rw [bq_mul h1 h2 (by decide)] at K
  exact ⟨I.2, K.2⟩
theorem Is.val_eq {o : Option Rat} {n d : ByteArray} {r : Rat} (h : Is o n d) (e : o = some r) : Is (some r) n d := by rw [← e]; exact h
theorem oIf_val {c : Bool} {r s : Rat} (h : oIf c r = some s) : s = r := by
  unfold oIf at h; split at h
  · exact (Option.some.inj h).symm
  · cases h
theorem add_assoc_o {a b c r0 r1 r2 r3 : Rat} (h0 : oAdd (some a) (some b) = some r0) (h1 : oAdd (some b) (some c) = some r1) (h2 : oAdd (oAdd (some a) (some b)) (some c) = some r2) (h3 : oAdd (some a) (oAdd (some b) (some c)) = some r3) : r2 = r3 := by
  rw [h0] at h2; rw [h1] at h3
  have := oIf_val h0; have := oIf_val h1; have := oIf_val h2; have := oIf_val h3
  grind
theorem mul_assoc_o {a b c r0 r1 r2 r3 : Rat} (h0 : oMul (some a) (some b) = some r0) (h1 : oMul (some b) (some c) = some r1) (h2 : oMul (some a) (oMul (some b) (some c)) = some r2) (h3 : oMul (oMul (some a) (some b)) (some c) = some r3) : r2 = r3 := by
  rw [h1] at h2; rw [h0] at h3
  have := oIf_val h0; have := oIf_val h1; have := oIf_val h2; have := oIf_val h3
  grind
theorem distr_o {a b c r0 r1 r2 r3 r4 : Rat} (h0 : oAdd (some a) (some b) = some r0) (h1 : oMul (some a) (some c) = some r1) (h2 : oMul (some b) (some c) = some r2) (h3 : oAdd (oMul (some a) (some c)) (oMul (some b) (some c)) = some r3) (h4 : oMul (oAdd (some a) (some b)) (some c) = some r4) : r3 = r4 := by
  rw [h1, h2] at h3; rw [h0] at h4
  have := oIf_val h0; have := oIf_val h1; have := oIf_val h2; have := oIf_val h3; have := oIf_val h4
  grind
theorem back_cases {a b : Rat} {n d m c an ad : ByteArray} {e f : Int} (I : IsE (oAdd (some a) (some b)) n d e) (K : IsE (oSub (oAdd (some a) (some b)) (some b)) m c f) (Ia : Is (some a) an ad) : (e = 40) ∨ (e = 0 ∧ f = 40) ∨ (e = 0 ∧ f = 0 ∧ m = an ∧ c = ad) := by
  rcases I.err with ⟨h1, r, h2⟩ | ⟨h1, _⟩
  · rcases K.err with ⟨k1, s, k2⟩ | ⟨k1, _⟩
    · refine .inr (.inr ⟨h1, k1, ?_⟩)
      have k3 := k2
      rw [h2] at k3
      have e1 := oIf_val h2; have e2 := oIf_val k3
      have e3 : s = a := by grind
      subst e3
      exact Ia.eq (K.is.val_eq k2)
    · exact .inr (.inl ⟨h1, k1⟩)
  · exact .inl h1
theorem again_cases {a b : Rat} {n d m c an ad : ByteArray} {e f : Int} (I : IsE (oDiv (some a) (some b)) n d e) (K : IsE (oMul (oDiv (some a) (some b)) (some b)) m c f) (Ia : Is (some a) an ad) : (e = 40) ∨ (e = 0 ∧ f = 40) ∨ (e = 0 ∧ f = 0 ∧ m = an ∧ c = ad) := by
  rcases I.err with ⟨h1, r, h2⟩ | ⟨h1, _⟩
  · rcases K.err with ⟨k1, s, k2⟩ | ⟨k1, _⟩
    · refine .inr (.inr ⟨h1, k1, ?_⟩)
      have k3 := k2
      rw [h2] at k3
      have e1 := oIf_val h2; have e2 := oIf_val k3
      have hb : b ≠ 0 := by
        intro hb
        rw [oDiv_some] at h2
        unfold oIf fDiv at h2
        rw [decide_eq_false (show ¬ (b ≠ 0) from fun h => h hb), Bool.and_false] at h2
        cases h2
      have e3 : s = a := by
        have : a / b * b = a := by rw [Rat.div_def, Rat.mul_assoc, Rat.inv_mul_cancel _ hb, Rat.mul_one]
        grind
      subst e3
      exact Ia.eq (K.is.val_eq k2)
    · exact .inr (.inl ⟨h1, k1⟩)
  · exact .inl h1

set_option maxRecDepth 100000 in
set_option maxHeartbeats 16000000 in
theorem field_law (x0 x1 x2 x3 y0 y1 y2 y3 z0 z1 : Int) (l : Bool) (Fx0 : Fits x0) (Fx1 : Fits x1) (Fx2 : Fits x2) (Fx3 : Fits x3) (Fy0 : Fits y0) (Fy1 : Fits y1) (Fy2 : Fits y2) (Fy3 : Fits y3) (Fz0 : Fits z0) (Fz1 : Fits z1) (w : World) (hE : EnvQ w) :
    Calls Tryz.prog 8 #[.agg #[.int .i64 x0, .int .i64 x1, .int .i64 x2, .int .i64 x3], .agg #[.int .i64 y0, .int .i64 y1, .int .i64 y2, .int .i64 y3], .agg #[.int .i64 z0, .int .i64 z1], .bool l] w (Rets w (.bool true)) := by
  have Sv0 := BL.start w
  obtain ⟨V1, ev1, Sv1, zv1⟩ := Sv0.add' #[.int .i64 x0, .int .i64 x1, .int .i64 x2, .int .i64 x3] 24
  obtain ⟨V2, ev2, Sv2, zv2⟩ := Sv1.add' #[.int .i64 y0, .int .i64 y1, .int .i64 y2, .int .i64 y3] 24
  obtain ⟨V3, ev3, Sv3, zv3⟩ := Sv2.add' #[.int .i64 z0, .int .i64 z1] 47
  rw [zv1] at Sv2
  rw [zv2, zv1] at Sv3
  have hV : V3 = (((w.alloc (.cells #[.int .i64 x0, .int .i64 x1, .int .i64 x2, .int .i64 x3] 24)).alloc (.cells #[.int .i64 y0, .int .i64 y1, .int .i64 y2, .int .i64 y3] 24)).alloc (.cells #[.int .i64 z0, .int .i64 z1] 47)) := by rw [ev3, ev2, ev1]
  have hS : BL w [(w.heap.size + 1 + 1, #[.int .i64 z0, .int .i64 z1], 47), (w.heap.size + 1, #[.int .i64 y0, .int .i64 y1, .int .i64 y2, .int .i64 y3], 24), (w.heap.size, #[.int .i64 x0, .int .i64 x1, .int .i64 x2, .int .i64 x3], 24)] V3 := Sv3
  have hO : Asc w [(w.heap.size + 1 + 1, #[.int .i64 z0, .int .i64 z1], 47), (w.heap.size + 1, #[.int .i64 y0, .int .i64 y1, .int .i64 y2, .int .i64 y3], 24), (w.heap.size, #[.int .i64 x0, .int .i64 x1, .int .i64 x2, .int .i64 x3], 24)] := ⟨by simp; omega, by simp; omega⟩
  clear ev1 ev2 ev3 zv1 zv2 zv3 Sv0 Sv1 Sv2 Sv3
  go_enter Tryz.func8, Tryz.ntmps8
  go_wp2_with fail
  rw [← hV]
  clear hV
  refine Calls.mono (saneQ_any _ (hS.envQ hE)) ?_
  rintro e w1 ⟨rfl, hb⟩
  replace hS := hS.call hb
  clear hb
  obtain ⟨c_X_0, c_X_1, c_X_2, c_X_3⟩ := hS.c4 (w.heap.size) _ _ _ _ _ (.tail _ (.tail _ (.head _)))
  go_wp2_with fail
  refine Calls.mono (small_v x0 x1 Fx0 Fx1 _) ?_
  rintro e w2 ⟨a, an, ad, rfl, Ia, Ba, hb⟩
  clear c_X_0 c_X_1 c_X_2 c_X_3
  replace hS := hS.call hb
  clear hb
  replace hO := hO.add hS #[.string an, .string ad] 23
  replace hS := hS.add' #[.string an, .string ad] 23
  obtain ⟨W0, hW0, hS, hz0⟩ := hS
  obtain ⟨W, hW⟩ : ∃ W, W = (w2.alloc (.cells #[.string an, .string ad] 23)) := ⟨_, rfl⟩
  replace hS : BL w [(w2.heap.size, #[.string an, .string ad], 23), (w.heap.size + 1 + 1, #[.int .i64 z0, .int .i64 z1], 47), (w.heap.size + 1, #[.int .i64 y0, .int .i64 y1, .int .i64 y2, .int .i64 y3], 24), (w.heap.size, #[.int .i64 x0, .int .i64 x1, .int .i64 x2, .int .i64 x3], 24)] W := by rw [hW, ← hW0]; exact hS
  clear hz0 hW0
  go_upto_region 3 with fail
  rw [← hW]
  clear hW
  obtain ⟨c_Y_0, c_Y_1, c_Y_2, c_Y_3⟩ := hS.c4 (w.heap.size + 1) _ _ _ _ _ (.tail _ (.tail _ (.head _)))
  go_wp2_with fail
  refine Calls.mono (small_v y0 y1 Fy0 Fy1 _) ?_
  rintro e w3 ⟨b, bn, bd, rfl, Ib, Bb, hb⟩
  clear c_Y_0 c_Y_1 c_Y_2 c_Y_3
  replace hS := hS.call hb
  clear hb
  replace hO := hO.add hS #[.string bn, .string bd] 23
  replace hS := hS.add' #[.string bn, .string bd] 23
  obtain ⟨W0, hW0, hS, hz0⟩ := hS
  obtain ⟨W, hW⟩ : ∃ W, W = (w3.alloc (.cells #[.string bn, .string bd] 23)) := ⟨_, rfl⟩
  replace hS : BL w [(w3.heap.size, #[.string bn, .string bd], 23), (w2.heap.size, #[.string an, .string ad], 23), (w.heap.size + 1 + 1, #[.int .i64 z0, .int .i64 z1], 47), (w.heap.size + 1, #[.int .i64 y0, .int .i64 y1, .int .i64 y2, .int .i64 y3], 24), (w.heap.size, #[.int .i64 x0, .int .i64 x1, .int .i64 x2, .int .i64 x3], 24)] W := by rw [hW, ← hW0]; exact hS
  clear hz0 hW0
  go_upto_region 4 with fail
  rw [← hW]
  clear hW
  obtain ⟨c_Z_0, c_Z_1⟩ := hS.c2 (w.heap.size + 1 + 1) _ _ _ (.tail _ (.tail _ (.head _)))
  go_wp2_with fail
  refine Calls.mono (small_v z0 z1 Fz0 Fz1 _) ?_
  rintro e w4 ⟨c, cn, cd, rfl, Ic, Bc, hb⟩
  clear c_Z_0 c_Z_1
  replace hS := hS.call hb
  clear hb
  replace hO := hO.add hS #[.string cn, .string cd] 23
  replace hS := hS.add' #[.string cn, .string cd] 23
  obtain ⟨W0, hW0, hS, hz0⟩ := hS
  obtain ⟨W, hW⟩ : ∃ W, W = (w4.alloc (.cells #[.string cn, .string cd] 23)) := ⟨_, rfl⟩
  replace hS : BL w [(w4.heap.size, #[.string cn, .string cd], 23), (w3.heap.size, #[.string bn, .string bd], 23), (w2.heap.size, #[.string an, .string ad], 23), (w.heap.size + 1 + 1, #[.int .i64 z0, .int .i64 z1], 47), (w.heap.size + 1, #[.int .i64 y0, .int .i64 y1, .int .i64 y2, .int .i64 y3], 24), (w.heap.size, #[.int .i64 x0, .int .i64 x1, .int .i64 x2, .int .i64 x3], 24)] W := by rw [hW, ← hW0]; exact hS
  clear hz0 hW0
  go_upto_if 52 with (fail)
  rw [← hW]
  clear hW
  go_cut [] (fun wx => ∃ a' an' ad' b' bn' bd', Is (some a') an' ad' ∧ Is (some b') bn' bd' ∧ FieldB l a' b' ∧ BL w [(w4.heap.size, #[.string cn, .string cd], 23), (w3.heap.size, #[.string bn', .string bd'], 23), (w2.heap.size, #[.string an', .string ad'], 23), (w.heap.size + 1 + 1, #[.int .i64 z0, .int .i64 z1], 47), (w.heap.size + 1, #[.int .i64 y0, .int .i64 y1, .int .i64 y2, .int .i64 y3], 24), (w.heap.size, #[.int .i64 x0, .int .i64 x1, .int .i64 x2, .int .i64 x3], 24)] wx)
  case first => as_aux_lemma =>
    cases l
    · go_wp2_with fail
      go_meet
      exact ⟨a, an, ad, b, bn, bd, Ia, Ib, FieldB.small Ba Bb, hS⟩
    · skip
      obtain ⟨c_X_0, c_X_1, c_X_2, c_X_3⟩ := hS.c4 (w.heap.size) _ _ _ _ _ (.tail _ (.tail _ (.tail _ (.tail _ (.tail _ (.head _))))))
      go_wp2_with fail
      refine Calls.mono (long_v x0 x1 x2 x3 Fx0 Fx1 Fx2 Fx3 _) ?_
      rintro e w5 ⟨a2, a2n, a2d, rfl, Ia2, Ba2, hb⟩
      clear c_X_0 c_X_1 c_X_2 c_X_3
      replace hS := hS.call hb
      clear hb
      obtain ⟨c_a_0, c_a_1⟩ := hS.c2 (w2.heap.size) _ _ _ (.tail _ (.tail _ (.head _)))
      have f0 := hS.frozen (w2.heap.size) _ _ (.tail _ (.tail _ (.head _))) 0
      have f1 := hS.frozen (w2.heap.size) _ _ (.tail _ (.tail _ (.head _))) 1
      go_upto_region 7 with fail
      obtain ⟨W, hW⟩ : ∃ W, W = (w5.setCell ⟨w2.heap.size, 0, none⟩ (.string a2n)).setCell ⟨w2.heap.size, 1, none⟩ (.string a2d) := ⟨_, rfl⟩
      replace hS : BL w [(w4.heap.size, #[.string cn, .string cd], 23), (w3.heap.size, #[.string bn, .string bd], 23), (w2.heap.size, #[.string a2n, .string a2d], 23), (w.heap.size + 1 + 1, #[.int .i64 z0, .int .i64 z1], 47), (w.heap.size + 1, #[.int .i64 y0, .int .i64 y1, .int .i64 y2, .int .i64 y3], 24), (w.heap.size, #[.int .i64 x0, .int .i64 x1, .int .i64 x2, .int .i64 x3], 24)] W := by rw [hW]; exact BL.put (A := [(w4.heap.size, #[.string cn, .string cd], 23), (w3.heap.size, #[.string bn, .string bd], 23)]) (C := [(w.heap.size + 1 + 1, #[.int .i64 z0, .int .i64 z1], 47), (w.heap.size + 1, #[.int .i64 y0, .int .i64 y1, .int .i64 y2, .int .i64 y3], 24), (w.heap.size, #[.int .i64 x0, .int .i64 x1, .int .i64 x2, .int .i64 x3], 24)]) hO hS _ _
      replace hO : Asc w [(w4.heap.size, #[.string cn, .string cd], 23), (w3.heap.size, #[.string bn, .string bd], 23), (w2.heap.size, #[.string a2n, .string a2d], 23), (w.heap.size + 1 + 1, #[.int .i64 z0, .int .i64 z1], 47), (w.heap.size + 1, #[.int .i64 y0, .int .i64 y1, .int .i64 y2, .int .i64 y3], 24), (w.heap.size, #[.int .i64 x0, .int .i64 x1, .int .i64 x2, .int .i64 x3], 24)] := Asc.put (A := [(w4.heap.size, #[.string cn, .string cd], 23), (w3.heap.size, #[.string bn, .string bd], 23)]) (C := [(w.heap.size + 1 + 1, #[.int .i64 z0, .int .i64 z1], 47), (w.heap.size + 1, #[.int .i64 y0, .int .i64 y1, .int .i64 y2, .int .i64 y3], 24), (w.heap.size, #[.int .i64 x0, .int .i64 x1, .int .i64 x2, .int .i64 x3], 24)]) hO
      rw [← hW]
      clear hW f0 f1 c_a_0 c_a_1
      obtain ⟨c_Y_0, c_Y_1, c_Y_2, c_Y_3⟩ := hS.c4 (w.heap.size + 1) _ _ _ _ _ (.tail _ (.tail _ (.tail _ (.tail _ (.head _)))))
      go_wp2_with fail
      refine Calls.mono (long_v y0 y1 y2 y3 Fy0 Fy1 Fy2 Fy3 _) ?_
      rintro e w6 ⟨b2, b2n, b2d, rfl, Ib2, Bb2, hb⟩
      clear c_Y_0 c_Y_1 c_Y_2 c_Y_3
      replace hS := hS.call hb
      clear hb
      obtain ⟨c_b_0, c_b_1⟩ := hS.c2 (w3.heap.size) _ _ _ (.tail _ (.head _))
      have f0 := hS.frozen (w3.heap.size) _ _ (.tail _ (.head _)) 0
      have f1 := hS.frozen (w3.heap.size) _ _ (.tail _ (.head _)) 1
      go_wp2_with fail
      obtain ⟨W, hW⟩ : ∃ W, W = (w6.setCell ⟨w3.heap.size, 0, none⟩ (.string b2n)).setCell ⟨w3.heap.size, 1, none⟩ (.string b2d) := ⟨_, rfl⟩
      replace hS : BL w [(w4.heap.size, #[.string cn, .string cd], 23), (w3.heap.size, #[.string b2n, .string b2d], 23), (w2.heap.size, #[.string a2n, .string a2d], 23), (w.heap.size + 1 + 1, #[.int .i64 z0, .int .i64 z1], 47), (w.heap.size + 1, #[.int .i64 y0, .int .i64 y1, .int .i64 y2, .int .i64 y3], 24), (w.heap.size, #[.int .i64 x0, .int .i64 x1, .int .i64 x2, .int .i64 x3], 24)] W := by rw [hW]; exact BL.put (A := [(w4.heap.size, #[.string cn, .string cd], 23)]) (C := [(w2.heap.size, #[.string a2n, .string a2d], 23), (w.heap.size + 1 + 1, #[.int .i64 z0, .int .i64 z1], 47), (w.heap.size + 1, #[.int .i64 y0, .int .i64 y1, .int .i64 y2, .int .i64 y3], 24), (w.heap.size, #[.int .i64 x0, .int .i64 x1, .int .i64 x2, .int .i64 x3], 24)]) hO hS _ _
      replace hO : Asc w [(w4.heap.size, #[.string cn, .string cd], 23), (w3.heap.size, #[.string b2n, .string b2d], 23), (w2.heap.size, #[.string a2n, .string a2d], 23), (w.heap.size + 1 + 1, #[.int .i64 z0, .int .i64 z1], 47), (w.heap.size + 1, #[.int .i64 y0, .int .i64 y1, .int .i64 y2, .int .i64 y3], 24), (w.heap.size, #[.int .i64 x0, .int .i64 x1, .int .i64 x2, .int .i64 x3], 24)] := Asc.put (A := [(w4.heap.size, #[.string cn, .string cd], 23)]) (C := [(w2.heap.size, #[.string a2n, .string a2d], 23), (w.heap.size + 1 + 1, #[.int .i64 z0, .int .i64 z1], 47), (w.heap.size + 1, #[.int .i64 y0, .int .i64 y1, .int .i64 y2, .int .i64 y3], 24), (w.heap.size, #[.int .i64 x0, .int .i64 x1, .int .i64 x2, .int .i64 x3], 24)]) hO
      go_meet
      exact ⟨a2, a2n, a2d, b2, b2n, b2d, Ia2, Ib2, FieldB.long Ba2 Bb2, hW ▸ hS⟩
  case rest =>
    clear hS Ia Ib Ba Bb
    obtain ⟨a, an', ad', b, bn', bd', Ia, Ib, hB, hS⟩ := hcut
    replace hO : Asc w [(w4.heap.size, #[.string cn, .string cd], 23), (w3.heap.size, #[.string bn', .string bd'], 23), (w2.heap.size, #[.string an', .string ad'], 23), (w.heap.size + 1 + 1, #[.int .i64 z0, .int .i64 z1], 47), (w.heap.size + 1, #[.int .i64 y0, .int .i64 y1, .int .i64 y2, .int .i64 y3], 24), (w.heap.size, #[.int .i64 x0, .int .i64 x1, .int .i64 x2, .int .i64 x3], 24)] := by
      have h1 : Asc w [(w4.heap.size, #[.string cn, .string cd], 23), (w3.heap.size, #[.string bn, .string bd], 23), (w2.heap.size, #[.string an', .string ad'], 23), (w.heap.size + 1 + 1, #[.int .i64 z0, .int .i64 z1], 47), (w.heap.size + 1, #[.int .i64 y0, .int .i64 y1, .int .i64 y2, .int .i64 y3], 24), (w.heap.size, #[.int .i64 x0, .int .i64 x1, .int .i64 x2, .int .i64 x3], 24)] := Asc.put (A := [(w4.heap.size, #[.string cn, .string cd], 23), (w3.heap.size, #[.string bn, .string bd], 23)]) (C := [(w.heap.size + 1 + 1, #[.int .i64 z0, .int .i64 z1], 47), (w.heap.size + 1, #[.int .i64 y0, .int .i64 y1, .int .i64 y2, .int .i64 y3], 24), (w.heap.size, #[.int .i64 x0, .int .i64 x1, .int .i64 x2, .int .i64 x3], 24)]) hO
      exact Asc.put (A := [(w4.heap.size, #[.string cn, .string cd], 23)]) (C := [(w2.heap.size, #[.string an', .string ad'], 23), (w.heap.size + 1 + 1, #[.int .i64 z0, .int .i64 z1], 47), (w.heap.size + 1, #[.int .i64 y0, .int .i64 y1, .int .i64 y2, .int .i64 y3], 24), (w.heap.size, #[.int .i64 x0, .int .i64 x1, .int .i64 x2, .int .i64 x3], 24)]) h1
    obtain ⟨np0, dp0, ep0, Ip0⟩ := isE_mk (o := oAdd (some a) (some b)) OkO.add
    obtain ⟨np1, dp1, ep1, Ip1⟩ := isE_mk (o := oSub (some a) (some b)) OkO.sub
    obtain ⟨np2, dp2, ep2, Ip2⟩ := isE_mk (o := oMul (some a) (some b)) OkO.mul
    obtain ⟨np3, dp3, ep3, Ip3⟩ := isE_mk (o := oDiv (some a) (some b)) OkO.div
    obtain ⟨c_a_0, c_a_1⟩ := hS.c2 (w2.heap.size) _ _ _ (.tail _ (.tail _ (.head _)))
    obtain ⟨c_b_0, c_b_1⟩ := hS.c2 (w3.heap.size) _ _ _ (.tail _ (.head _))
    go_wp2_with fail
    refine Calls.mono (four_v Ia _ (hS.envQ hE).env Ib Ip0 Ip1 Ip2 Ip3) ?_
    rintro e w7 ⟨rfl, hb⟩
    clear c_a_0 c_a_1 c_b_0 c_b_1
    replace hS := hS.call hb
    clear hb
    replace hO := hO.add hS #[.string np0, .string dp0, .string np1, .string dp1, .string np2, .string dp2, .string np3, .string dp3] 49
    replace hS := hS.add' #[.string np0, .string dp0, .string np1, .string dp1, .string np2, .string dp2, .string np3, .string dp3] 49
    obtain ⟨W0, hW0, hS, hz0⟩ := hS
    replace hO := hO.add hS #[.int .i64 ep0, .int .i64 ep1, .int .i64 ep2, .int .i64 ep3] 50
    replace hS := hS.add' #[.int .i64 ep0, .int .i64 ep1, .int .i64 ep2, .int .i64 ep3] 50
    obtain ⟨W1, hW1, hS, hz1⟩ := hS
    rw [hz0] at hS hO
    obtain ⟨W, hW⟩ : ∃ W, W = ((w7.alloc (.cells #[.string np0, .string dp0, .string np1, .string dp1, .string np2, .string dp2, .string np3, .string dp3] 49)).alloc (.cells #[.int .i64 ep0, .int .i64 ep1, .int .i64 ep2, .int .i64 ep3] 50)) := ⟨_, rfl⟩
    replace hS : BL w [(w7.heap.size + 1, #[.int .i64 ep0, .int .i64 ep1, .int .i64 ep2, .int .i64 ep3], 50), (w7.heap.size, #[.string np0, .string dp0, .string np1, .string dp1, .string np2, .string dp2, .string np3, .string dp3], 49), (w4.heap.size, #[.string cn, .string cd], 23), (w3.heap.size, #[.string bn', .string bd'], 23), (w2.heap.size, #[.string an', .string ad'], 23), (w.heap.size + 1 + 1, #[.int .i64 z0, .int .i64 z1], 47), (w.heap.size + 1, #[.int .i64 y0, .int .i64 y1, .int .i64 y2, .int .i64 y3], 24), (w.heap.size, #[.int .i64 x0, .int .i64 x1, .int .i64 x2, .int .i64 x3], 24)] W := by rw [hW, ← hW0, ← hW1]; exact hS
    clear hz0 hz1 hW1 hW0
    have Isum : IsE (oAdd (some b) (some a)) np0 dp0 ep0 := by rw [oAdd_comm]; exact Ip0
    have Iprd : IsE (oMul (some b) (some a)) np2 dp2 ep2 := by rw [oMul_comm]; exact Ip2
    obtain ⟨ns1, ds1, es1, Is1⟩ := isE_mk (o := oSub (some b) (some a)) OkO.sub
    obtain ⟨ns3, ds3, es3, Is3⟩ := isE_mk (o := oDiv (some b) (some a)) OkO.div
    go_upto_region 9 with fail
    rw [← hW]
    clear hW
    obtain ⟨c_a_0, c_a_1⟩ := hS.c2 (w2.heap.size) _ _ _ (.tail _ (.tail _ (.tail _ (.tail _ (.head _)))))
    obtain ⟨c_b_0, c_b_1⟩ := hS.c2 (w3.heap.size) _ _ _ (.tail _ (.tail _ (.tail _ (.head _))))
    go_wp2_with fail
    refine Calls.mono (four_v Ib _ (hS.envQ hE).env Ia Isum Is1 Iprd Is3) ?_
    rintro e w8 ⟨rfl, hb⟩
    clear c_a_0 c_a_1 c_b_0 c_b_1
    replace hS := hS.call hb
    clear hb
    replace hO := hO.add hS #[.string np0, .string dp0, .string ns1, .string ds1, .string np2, .string dp2, .string ns3, .string ds3] 49
    replace hS := hS.add' #[.string np0, .string dp0, .string ns1, .string ds1, .string np2, .string dp2, .string ns3, .string ds3] 49
    obtain ⟨W0, hW0, hS, hz0⟩ := hS
    replace hO := hO.add hS #[.int .i64 ep0, .int .i64 es1, .int .i64 ep2, .int .i64 es3] 50
    replace hS := hS.add' #[.int .i64 ep0, .int .i64 es1, .int .i64 ep2, .int .i64 es3] 50
    obtain ⟨W1, hW1, hS, hz1⟩ := hS
    rw [hz0] at hS hO
    obtain ⟨W, hW⟩ : ∃ W, W = ((w8.alloc (.cells #[.string np0, .string dp0, .string ns1, .string ds1, .string np2, .string dp2, .string ns3, .string ds3] 49)).alloc (.cells #[.int .i64 ep0, .int .i64 es1, .int .i64 ep2, .int .i64 es3] 50)) := ⟨_, rfl⟩
    replace hS : BL w [(w8.heap.size + 1, #[.int .i64 ep0, .int .i64 es1, .int .i64 ep2, .int .i64 es3], 50), (w8.heap.size, #[.string np0, .string dp0, .string ns1, .string ds1, .string np2, .string dp2, .string ns3, .string ds3], 49), (w7.heap.size + 1, #[.int .i64 ep0, .int .i64 ep1, .int .i64 ep2, .int .i64 ep3], 50), (w7.heap.size, #[.string np0, .string dp0, .string np1, .string dp1, .string np2, .string dp2, .string np3, .string dp3], 49), (w4.heap.size, #[.string cn, .string cd], 23), (w3.heap.size, #[.string bn', .string bd'], 23), (w2.heap.size, #[.string an', .string ad'], 23), (w.heap.size + 1 + 1, #[.int .i64 z0, .int .i64 z1], 47), (w.heap.size + 1, #[.int .i64 y0, .int .i64 y1, .int .i64 y2, .int .i64 y3], 24), (w.heap.size, #[.int .i64 x0, .int .i64 x1, .int .i64 x2, .int .i64 x3], 24)] W := by rw [hW, ← hW0, ← hW1]; exact hS
    clear hz0 hz1 hW1 hW0
    clear Isum Iprd
    go_upto_region 10 with fail
    rw [← hW]
    clear hW
    go_cut [108] (fun s wx => s = .bool false ∧ BL w [(w8.heap.size + 1, #[.int .i64 ep0, .int .i64 es1, .int .i64 ep2, .int .i64 es3], 50), (w8.heap.size, #[.string np0, .string dp0, .string ns1, .string ds1, .string np2, .string dp2, .string ns3, .string ds3], 49), (w7.heap.size + 1, #[.int .i64 ep0, .int .i64 ep1, .int .i64 ep2, .int .i64 ep3], 50), (w7.heap.size, #[.string np0, .string dp0, .string np1, .string dp1, .string np2, .string dp2, .string np3, .string dp3], 49), (w4.heap.size, #[.string cn, .string cd], 23), (w3.heap.size, #[.string bn', .string bd'], 23), (w2.heap.size, #[.string an', .string ad'], 23), (w.heap.size + 1 + 1, #[.int .i64 z0, .int .i64 z1], 47), (w.heap.size + 1, #[.int .i64 y0, .int .i64 y1, .int .i64 y2, .int .i64 y3], 24), (w.heap.size, #[.int .i64 x0, .int .i64 x1, .int .i64 x2, .int .i64 x3], 24)] wx)
    case first => as_aux_lemma =>
      obtain ⟨c_rp_0, c_rp_1, c_rp_2, c_rp_3, c_rp_4, c_rp_5, c_rp_6, c_rp_7⟩ := hS.c8 (w7.heap.size) _ _ _ _ _ _ _ _ _ (.tail _ (.tail _ (.tail _ (.head _))))
      obtain ⟨c_rs_0, c_rs_1, c_rs_2, c_rs_3, c_rs_4, c_rs_5, c_rs_6, c_rs_7⟩ := hS.c8 (w8.heap.size) _ _ _ _ _ _ _ _ _ (.tail _ (.head _))
      obtain ⟨c_ep_0, c_ep_1, c_ep_2, c_ep_3⟩ := hS.c4 (w7.heap.size + 1) _ _ _ _ _ (.tail _ (.tail _ (.head _)))
      obtain ⟨c_es_0, c_es_1, c_es_2, c_es_3⟩ := hS.c4 (w8.heap.size + 1) _ _ _ _ _ (.head _)
      cases l
      · obtain ⟨rfl, rfl⟩ := hB.ok Ip0 Ip2
        go_wp2_with fail
        go_meet
        exact ⟨rfl, hS⟩
      · go_wp2_with fail
        go_meet
        exact ⟨rfl, hS⟩
    case rest =>
      clear hS
      obtain ⟨rfl, hS⟩ := hcut
      clear Is1 Is3 hB
      obtain ⟨nt0, dt0, et0, It0⟩ := isE_mk (o := oAdd (some b) (some c)) OkO.add
      obtain ⟨nt1, dt1, et1, It1⟩ := isE_mk (o := oSub (some b) (some c)) OkO.sub
      obtain ⟨nt2, dt2, et2, It2⟩ := isE_mk (o := oMul (some b) (some c)) OkO.mul
      obtain ⟨nt3, dt3, et3, It3⟩ := isE_mk (o := oDiv (some b) (some c)) OkO.div
      obtain ⟨c_b_0, c_b_1⟩ := hS.c2 (w3.heap.size) _ _ _ (.tail _ (.tail _ (.tail _ (.tail _ (.tail _ (.head _))))))
      obtain ⟨c_c_0, c_c_1⟩ := hS.c2 (w4.heap.size) _ _ _ (.tail _ (.tail _ (.tail _ (.tail _ (.head _)))))
      go_wp2_with fail
      refine Calls.mono (four_v Ib _ (hS.envQ hE).env Ic It0 It1 It2 It3) ?_
      rintro e w9 ⟨rfl, hb⟩
      clear c_b_0 c_b_1 c_c_0 c_c_1
      replace hS := hS.call hb
      clear hb
      replace hO := hO.add hS #[.string nt0, .string dt0, .string nt1, .string dt1, .string nt2, .string dt2, .string nt3, .string dt3] 49
      replace hS := hS.add' #[.string nt0, .string dt0, .string nt1, .string dt1, .string nt2, .string dt2, .string nt3, .string dt3] 49
      obtain ⟨W0, hW0, hS, hz0⟩ := hS
      replace hO := hO.add hS #[.int .i64 et0, .int .i64 et1, .int .i64 et2, .int .i64 et3] 50
      replace hS := hS.add' #[.int .i64 et0, .int .i64 et1, .int .i64 et2, .int .i64 et3] 50
      obtain ⟨W1, hW1, hS, hz1⟩ := hS
      rw [hz0] at hS hO
      obtain ⟨W, hW⟩ : ∃ W, W = ((w9.alloc (.cells #[.string nt0, .string dt0, .string nt1, .string dt1, .string nt2, .string dt2, .string nt3, .string dt3] 49)).alloc (.cells #[.int .i64 et0, .int .i64 et1, .int .i64 et2, .int .i64 et3] 50)) := ⟨_, rfl⟩
      replace hS : BL w [(w9.heap.size + 1, #[.int .i64 et0, .int .i64 et1, .int .i64 et2, .int .i64 et3], 50), (w9.heap.size, #[.string nt0, .string dt0, .string nt1, .string dt1, .string nt2, .string dt2, .string nt3, .string dt3], 49), (w8.heap.size + 1, #[.int .i64 ep0, .int .i64 es1, .int .i64 ep2, .int .i64 es3], 50), (w8.heap.size, #[.string np0, .string dp0, .string ns1, .string ds1, .string np2, .string dp2, .string ns3, .string ds3], 49), (w7.heap.size + 1, #[.int .i64 ep0, .int .i64 ep1, .int .i64 ep2, .int .i64 ep3], 50), (w7.heap.size, #[.string np0, .string dp0, .string np1, .string dp1, .string np2, .string dp2, .string np3, .string dp3], 49), (w4.heap.size, #[.string cn, .string cd], 23), (w3.heap.size, #[.string bn', .string bd'], 23), (w2.heap.size, #[.string an', .string ad'], 23), (w.heap.size + 1 + 1, #[.int .i64 z0, .int .i64 z1], 47), (w.heap.size + 1, #[.int .i64 y0, .int .i64 y1, .int .i64 y2, .int .i64 y3], 24), (w.heap.size, #[.int .i64 x0, .int .i64 x1, .int .i64 x2, .int .i64 x3], 24)] W := by rw [hW, ← hW0, ← hW1]; exact hS
      clear hz0 hz1 hW1 hW0
      obtain ⟨nu0, du0, eu0, Iu0⟩ := isE_mk (o := oAdd (oAdd (some a) (some b)) (some c)) OkO.add
      obtain ⟨nu1, du1, eu1, Iu1⟩ := isE_mk (o := oSub (oAdd (some a) (some b)) (some c)) OkO.sub
      obtain ⟨nu2, du2, eu2, Iu2⟩ := isE_mk (o := oMul (oAdd (some a) (some b)) (some c)) OkO.mul
      obtain ⟨nu3, du3, eu3, Iu3⟩ := isE_mk (o := oDiv (oAdd (some a) (some b)) (some c)) OkO.div
      go_upto_region 13 with fail
      rw [← hW]
      clear hW
      obtain ⟨c_rp_0, c_rp_1, c_rp_2, c_rp_3, c_rp_4, c_rp_5, c_rp_6, c_rp_7⟩ := hS.c8 (w7.heap.size) _ _ _ _ _ _ _ _ _ (.tail _ (.tail _ (.tail _ (.tail _ (.tail _ (.head _))))))
      obtain ⟨c_c_0, c_c_1⟩ := hS.c2 (w4.heap.size) _ _ _ (.tail _ (.tail _ (.tail _ (.tail _ (.tail _ (.tail _ (.head _)))))))
      go_wp2_with fail
      refine Calls.mono (four_v Ip0.is _ (hS.envQ hE).env Ic Iu0 Iu1 Iu2 Iu3) ?_
      rintro e w10 ⟨rfl, hb⟩
      clear c_rp_0 c_rp_1 c_rp_2 c_rp_3 c_rp_4 c_rp_5 c_rp_6 c_rp_7 c_c_0 c_c_1
      replace hS := hS.call hb
      clear hb
      replace hO := hO.add hS #[.string nu0, .string du0, .string nu1, .string du1, .string nu2, .string du2, .string nu3, .string du3] 49
      replace hS := hS.add' #[.string nu0, .string du0, .string nu1, .string du1, .string nu2, .string du2, .string nu3, .string du3] 49
      obtain ⟨W0, hW0, hS, hz0⟩ := hS
      replace hO := hO.add hS #[.int .i64 eu0, .int .i64 eu1, .int .i64 eu2, .int .i64 eu3] 50
      replace hS := hS.add' #[.int .i64 eu0, .int .i64 eu1, .int .i64 eu2, .int .i64 eu3] 50
      obtain ⟨W1, hW1, hS, hz1⟩ := hS
      rw [hz0] at hS hO
      obtain ⟨W, hW⟩ : ∃ W, W = ((w10.alloc (.cells #[.string nu0, .string du0, .string nu1, .string du1, .string nu2, .string du2, .string nu3, .string du3] 49)).alloc (.cells #[.int .i64 eu0, .int .i64 eu1, .int .i64 eu2, .int .i64 eu3] 50)) := ⟨_, rfl⟩
      replace hS : BL w [(w10.heap.size + 1, #[.int .i64 eu0, .int .i64 eu1, .int .i64 eu2, .int .i64 eu3], 50), (w10.heap.size, #[.string nu0, .string du0, .string nu1, .string du1, .string nu2, .string du2, .string nu3, .string du3], 49), (w9.heap.size + 1, #[.int .i64 et0, .int .i64 et1, .int .i64 et2, .int .i64 et3], 50), (w9.heap.size, #[.string nt0, .string dt0, .string nt1, .string dt1, .string nt2, .string dt2, .string nt3, .string dt3], 49), (w8.heap.size + 1, #[.int .i64 ep0, .int .i64 es1, .int .i64 ep2, .int .i64 es3], 50), (w8.heap.size, #[.string np0, .string dp0, .string ns1, .string ds1, .string np2, .string dp2, .string ns3, .string ds3], 49), (w7.heap.size + 1, #[.int .i64 ep0, .int .i64 ep1, .int .i64 ep2, .int .i64 ep3], 50), (w7.heap.size, #[.string np0, .string dp0, .string np1, .string dp1, .string np2, .string dp2, .string np3, .string dp3], 49), (w4.heap.size, #[.string cn, .string cd], 23), (w3.heap.size, #[.string bn', .string bd'], 23), (w2.heap.size, #[.string an', .string ad'], 23), (w.heap.size + 1 + 1, #[.int .i64 z0, .int .i64 z1], 47), (w.heap.size + 1, #[.int .i64 y0, .int .i64 y1, .int .i64 y2, .int .i64 y3], 24), (w.heap.size, #[.int .i64 x0, .int .i64 x1, .int .i64 x2, .int .i64 x3], 24)] W := by rw [hW, ← hW0, ← hW1]; exact hS
      clear hz0 hz1 hW1 hW0
      obtain ⟨n1, d1, e1, I1⟩ := isE_mk (o := oAdd (some a) (oAdd (some b) (some c))) OkO.add
      go_upto_region 14 with fail
      rw [← hW]
      clear hW
      obtain ⟨c_a_0, c_a_1⟩ := hS.c2 (w2.heap.size) _ _ _ (.tail _ (.tail _ (.tail _ (.tail _ (.tail _ (.tail _ (.tail _ (.tail _ (.tail _ (.tail _ (.head _)))))))))))
      obtain ⟨c_rt_0, c_rt_1, c_rt_2, c_rt_3, c_rt_4, c_rt_5, c_rt_6, c_rt_7⟩ := hS.c8 (w9.heap.size) _ _ _ _ _ _ _ _ _ (.tail _ (.tail _ (.tail _ (.head _))))
      go_wp2_with fail
      refine Calls.mono (add_v Ia _ (hS.envQ hE).env It0.is I1) ?_
      rintro e w11 ⟨rfl, hb⟩
      clear c_a_0 c_a_1 c_rt_0 c_rt_1 c_rt_2 c_rt_3 c_rt_4 c_rt_5 c_rt_6 c_rt_7
      replace hS := hS.call hb
      clear hb
      replace hO := hO.add hS #[.string n1, .string d1] 23
      replace hS := hS.add' #[.string n1, .string d1] 23
      obtain ⟨W0, hW0, hS, hz0⟩ := hS
      obtain ⟨W, hW⟩ : ∃ W, W = (w11.alloc (.cells #[.string n1, .string d1] 23)) := ⟨_, rfl⟩
      replace hS : BL w [(w11.heap.size, #[.string n1, .string d1], 23), (w10.heap.size + 1, #[.int .i64 eu0, .int .i64 eu1, .int .i64 eu2, .int .i64 eu3], 50), (w10.heap.size, #[.string nu0, .string du0, .string nu1, .string du1, .string nu2, .string du2, .string nu3, .string du3], 49), (w9.heap.size + 1, #[.int .i64 et0, .int .i64 et1, .int .i64 et2, .int .i64 et3], 50), (w9.heap.size, #[.string nt0, .string dt0, .string nt1, .string dt1, .string nt2, .string dt2, .string nt3, .string dt3], 49), (w8.heap.size + 1, #[.int .i64 ep0, .int .i64 es1, .int .i64 ep2, .int .i64 es3], 50), (w8.heap.size, #[.string np0, .string dp0, .string ns1, .string ds1, .string np2, .string dp2, .string ns3, .string ds3], 49), (w7.heap.size + 1, #[.int .i64 ep0, .int .i64 ep1, .int .i64 ep2, .int .i64 ep3], 50), (w7.heap.size, #[.string np0, .string dp0, .string np1, .string dp1, .string np2, .string dp2, .string np3, .string dp3], 49), (w4.heap.size, #[.string cn, .string cd], 23), (w3.heap.size, #[.string bn', .string bd'], 23), (w2.heap.size, #[.string an', .string ad'], 23), (w.heap.size + 1 + 1, #[.int .i64 z0, .int .i64 z1], 47), (w.heap.size + 1, #[.int .i64 y0, .int .i64 y1, .int .i64 y2, .int .i64 y3], 24), (w.heap.size, #[.int .i64 x0, .int .i64 x1, .int .i64 x2, .int .i64 x3], 24)] W := by rw [hW, ← hW0]; exact hS
      clear hz0 hW0
      go_upto_region 15 with fail
      rw [← hW]
      clear hW
      go_cut [151] (fun s wx => s = .bool false ∧ BL w [(w11.heap.size, #[.string n1, .string d1], 23), (w10.heap.size + 1, #[.int .i64 eu0, .int .i64 eu1, .int .i64 eu2, .int .i64 eu3], 50), (w10.heap.size, #[.string nu0, .string du0, .string nu1, .string du1, .string nu2, .string du2, .string nu3, .string du3], 49), (w9.heap.size + 1, #[.int .i64 et0, .int .i64 et1, .int .i64 et2, .int .i64 et3], 50), (w9.heap.size, #[.string nt0, .string dt0, .string nt1, .string dt1, .string nt2, .string dt2, .string nt3, .string dt3], 49), (w8.heap.size + 1, #[.int .i64 ep0, .int .i64 es1, .int .i64 ep2, .int .i64 es3], 50), (w8.heap.size, #[.string np0, .string dp0, .string ns1, .string ds1, .string np2, .string dp2, .string ns3, .string ds3], 49), (w7.heap.size + 1, #[.int .i64 ep0, .int .i64 ep1, .int .i64 ep2, .int .i64 ep3], 50), (w7.heap.size, #[.string np0, .string dp0, .string np1, .string dp1, .string np2, .string dp2, .string np3, .string dp3], 49), (w4.heap.size, #[.string cn, .string cd], 23), (w3.heap.size, #[.string bn', .string bd'], 23), (w2.heap.size, #[.string an', .string ad'], 23), (w.heap.size + 1 + 1, #[.int .i64 z0, .int .i64 z1], 47), (w.heap.size + 1, #[.int .i64 y0, .int .i64 y1, .int .i64 y2, .int .i64 y3], 24), (w.heap.size, #[.int .i64 x0, .int .i64 x1, .int .i64 x2, .int .i64 x3], 24)] wx)
      case first => as_aux_lemma =>
        obtain ⟨c_ep_0, c_ep_1, c_ep_2, c_ep_3⟩ := hS.c4 (w7.heap.size + 1) _ _ _ _ _ (.tail _ (.tail _ (.tail _ (.tail _ (.tail _ (.tail _ (.tail _ (.head _))))))))
        obtain ⟨c_et_0, c_et_1, c_et_2, c_et_3⟩ := hS.c4 (w9.heap.size + 1) _ _ _ _ _ (.tail _ (.tail _ (.tail _ (.head _))))
        obtain ⟨c_eu_0, c_eu_1, c_eu_2, c_eu_3⟩ := hS.c4 (w10.heap.size + 1) _ _ _ _ _ (.tail _ (.head _))
        obtain ⟨c_ru_0, c_ru_1, c_ru_2, c_ru_3, c_ru_4, c_ru_5, c_ru_6, c_ru_7⟩ := hS.c8 (w10.heap.size) _ _ _ _ _ _ _ _ _ (.tail _ (.tail _ (.head _)))
        obtain ⟨c_one_0, c_one_1⟩ := hS.c2 (w11.heap.size) _ _ _ (.head _)
        rcases Ip0.err with ⟨rfl, r0, h0⟩ | ⟨rfl, _⟩
        · skip
          rcases It0.err with ⟨rfl, r1, h1⟩ | ⟨rfl, _⟩
          · skip
            rcases Iu0.err with ⟨rfl, r2, h2⟩ | ⟨rfl, _⟩
            · skip
              rcases I1.err with ⟨rfl, r3, h3⟩ | ⟨rfl, _⟩
              · skip
                obtain rfl := add_assoc_o h0 h1 h2 h3
                obtain ⟨rfl, rfl⟩ := (Iu0.is.val_eq h2).eq (I1.is.val_eq h3)
                go_wp2_with fail
                go_meet
                exact ⟨rfl, hS⟩
              · skip
                go_wp2_with fail
                go_meet
                exact ⟨rfl, hS⟩
            · skip
              go_wp2_with fail
              go_meet
              exact ⟨rfl, hS⟩
          · skip
            go_wp2_with fail
            go_meet
            exact ⟨rfl, hS⟩
        · skip
          go_wp2_with fail
          go_meet
          exact ⟨rfl, hS⟩
      case rest =>
        clear hS
        obtain ⟨rfl, hS⟩ := hcut
        obtain ⟨n2, d2, e2, I2⟩ := isE_mk (o := oMul (some a) (oMul (some b) (some c))) OkO.mul
        obtain ⟨n3, d3, e3, I3⟩ := isE_mk (o := oMul (oMul (some a) (some b)) (some c)) OkO.mul
        obtain ⟨c_a_0, c_a_1⟩ := hS.c2 (w2.heap.size) _ _ _ (.tail _ (.tail _ (.tail _ (.tail _ (.tail _ (.tail _ (.tail _ (.tail _ (.tail _ (.tail _ (.tail _ (.head _))))))))))))
        obtain ⟨c_rt_0, c_rt_1, c_rt_2, c_rt_3, c_rt_4, c_rt_5, c_rt_6, c_rt_7⟩ := hS.c8 (w9.heap.size) _ _ _ _ _ _ _ _ _ (.tail _ (.tail _ (.tail _ (.tail _ (.head _)))))
        go_wp2_with fail
        refine Calls.mono (mul_v Ia _ (hS.envQ hE).env It2.is I2) ?_
        rintro e w12 ⟨rfl, hb⟩
        clear c_a_0 c_a_1 c_rt_0 c_rt_1 c_rt_2 c_rt_3 c_rt_4 c_rt_5 c_rt_6 c_rt_7
        replace hS := hS.call hb
        clear hb
        replace hO := hO.add hS #[.string n2, .string d2] 23
        replace hS := hS.add' #[.string n2, .string d2] 23
        obtain ⟨W0, hW0, hS, hz0⟩ := hS
        obtain ⟨W, hW⟩ : ∃ W, W = (w12.alloc (.cells #[.string n2, .string d2] 23)) := ⟨_, rfl⟩
        replace hS : BL w [(w12.heap.size, #[.string n2, .string d2], 23), (w11.heap.size, #[.string n1, .string d1], 23), (w10.heap.size + 1, #[.int .i64 eu0, .int .i64 eu1, .int .i64 eu2, .int .i64 eu3], 50), (w10.heap.size, #[.string nu0, .string du0, .string nu1, .string du1, .string nu2, .string du2, .string nu3, .string du3], 49), (w9.heap.size + 1, #[.int .i64 et0, .int .i64 et1, .int .i64 et2, .int .i64 et3], 50), (w9.heap.size, #[.string nt0, .string dt0, .string nt1, .string dt1, .string nt2, .string dt2, .string nt3, .string dt3], 49), (w8.heap.size + 1, #[.int .i64 ep0, .int .i64 es1, .int .i64 ep2, .int .i64 es3], 50), (w8.heap.size, #[.string np0, .string dp0, .string ns1, .string ds1, .string np2, .string dp2, .string ns3, .string ds3], 49), (w7.heap.size + 1, #[.int .i64 ep0, .int .i64 ep1, .int .i64 ep2, .int .i64 ep3], 50), (w7.heap.size, #[.string np0, .string dp0, .string np1, .string dp1, .string np2, .string dp2, .string np3, .string dp3], 49), (w4.heap.size, #[.string cn, .string cd], 23), (w3.heap.size, #[.string bn', .string bd'], 23), (w2.heap.size, #[.string an', .string ad'], 23), (w.heap.size + 1 + 1, #[.int .i64 z0, .int .i64 z1], 47), (w.heap.size + 1, #[.int .i64 y0, .int .i64 y1, .int .i64 y2, .int .i64 y3], 24), (w.heap.size, #[.int .i64 x0, .int .i64 x1, .int .i64 x2, .int .i64 x3], 24)] W := by rw [hW, ← hW0]; exact hS
        clear hz0 hW0
        go_upto_region 18 with fail
        rw [← hW]
        clear hW
        obtain ⟨c_rp_0, c_rp_1, c_rp_2, c_rp_3, c_rp_4, c_rp_5, c_rp_6, c_rp_7⟩ := hS.c8 (w7.heap.size) _ _ _ _ _ _ _ _ _ (.tail _ (.tail _ (.tail _ (.tail _ (.tail _ (.tail _ (.tail _ (.tail _ (.tail _ (.head _))))))))))
        obtain ⟨c_c_0, c_c_1⟩ := hS.c2 (w4.heap.size) _ _ _ (.tail _ (.tail _ (.tail _ (.tail _ (.tail _ (.tail _ (.tail _ (.tail _ (.tail _ (.tail _ (.head _)))))))))))
        go_wp2_with fail
        refine Calls.mono (mul_v Ip2.is _ (hS.envQ hE).env Ic I3) ?_
        rintro e w13 ⟨rfl, hb⟩
        clear c_rp_0 c_rp_1 c_rp_2 c_rp_3 c_rp_4 c_rp_5 c_rp_6 c_rp_7 c_c_0 c_c_1
        replace hS := hS.call hb
        clear hb
        replace hO := hO.add hS #[.string n3, .string d3] 23
        replace hS := hS.add' #[.string n3, .string d3] 23
        obtain ⟨W0, hW0, hS, hz0⟩ := hS
        obtain ⟨W, hW⟩ : ∃ W, W = (w13.alloc (.cells #[.string n3, .string d3] 23)) := ⟨_, rfl⟩
        replace hS : BL w [(w13.heap.size, #[.string n3, .string d3], 23), (w12.heap.size, #[.string n2, .string d2], 23), (w11.heap.size, #[.string n1, .string d1], 23), (w10.heap.size + 1, #[.int .i64 eu0, .int .i64 eu1, .int .i64 eu2, .int .i64 eu3], 50), (w10.heap.size, #[.string nu0, .string du0, .string nu1, .string du1, .string nu2, .string du2, .string nu3, .string du3], 49), (w9.heap.size + 1, #[.int .i64 et0, .int .i64 et1, .int .i64 et2, .int .i64 et3], 50), (w9.heap.size, #[.string nt0, .string dt0, .string nt1, .string dt1, .string nt2, .string dt2, .string nt3, .string dt3], 49), (w8.heap.size + 1, #[.int .i64 ep0, .int .i64 es1, .int .i64 ep2, .int .i64 es3], 50), (w8.heap.size, #[.string np0, .string dp0, .string ns1, .string ds1, .string np2, .string dp2, .string ns3, .string ds3], 49), (w7.heap.size + 1, #[.int .i64 ep0, .int .i64 ep1, .int .i64 ep2, .int .i64 ep3], 50), (w7.heap.size, #[.string np0, .string dp0, .string np1, .string dp1, .string np2, .string dp2, .string np3, .string dp3], 49), (w4.heap.size, #[.string cn, .string cd], 23), (w3.heap.size, #[.string bn', .string bd'], 23), (w2.heap.size, #[.string an', .string ad'], 23), (w.heap.size + 1 + 1, #[.int .i64 z0, .int .i64 z1], 47), (w.heap.size + 1, #[.int .i64 y0, .int .i64 y1, .int .i64 y2, .int .i64 y3], 24), (w.heap.size, #[.int .i64 x0, .int .i64 x1, .int .i64 x2, .int .i64 x3], 24)] W := by rw [hW, ← hW0]; exact hS
        clear hz0 hW0
        go_upto_region 19 with fail
        rw [← hW]
        clear hW
        go_cut [186] (fun s wx => s = .bool false ∧ BL w [(w13.heap.size, #[.string n3, .string d3], 23), (w12.heap.size, #[.string n2, .string d2], 23), (w11.heap.size, #[.string n1, .string d1], 23), (w10.heap.size + 1, #[.int .i64 eu0, .int .i64 eu1, .int .i64 eu2, .int .i64 eu3], 50), (w10.heap.size, #[.string nu0, .string du0, .string nu1, .string du1, .string nu2, .string du2, .string nu3, .string du3], 49), (w9.heap.size + 1, #[.int .i64 et0, .int .i64 et1, .int .i64 et2, .int .i64 et3], 50), (w9.heap.size, #[.string nt0, .string dt0, .string nt1, .string dt1, .string nt2, .string dt2, .string nt3, .string dt3], 49), (w8.heap.size + 1, #[.int .i64 ep0, .int .i64 es1, .int .i64 ep2, .int .i64 es3], 50), (w8.heap.size, #[.string np0, .string dp0, .string ns1, .string ds1, .string np2, .string dp2, .string ns3, .string ds3], 49), (w7.heap.size + 1, #[.int .i64 ep0, .int .i64 ep1, .int .i64 ep2, .int .i64 ep3], 50), (w7.heap.size, #[.string np0, .string dp0, .string np1, .string dp1, .string np2, .string dp2, .string np3, .string dp3], 49), (w4.heap.size, #[.string cn, .string cd], 23), (w3.heap.size, #[.string bn', .string bd'], 23), (w2.heap.size, #[.string an', .string ad'], 23), (w.heap.size + 1 + 1, #[.int .i64 z0, .int .i64 z1], 47), (w.heap.size + 1, #[.int .i64 y0, .int .i64 y1, .int .i64 y2, .int .i64 y3], 24), (w.heap.size, #[.int .i64 x0, .int .i64 x1, .int .i64 x2, .int .i64 x3], 24)] wx)
        case first => as_aux_lemma =>
          obtain ⟨c_ep_0, c_ep_1, c_ep_2, c_ep_3⟩ := hS.c4 (w7.heap.size + 1) _ _ _ _ _ (.tail _ (.tail _ (.tail _ (.tail _ (.tail _ (.tail _ (.tail _ (.tail _ (.tail _ (.head _))))))))))
          obtain ⟨c_et_0, c_et_1, c_et_2, c_et_3⟩ := hS.c4 (w9.heap.size + 1) _ _ _ _ _ (.tail _ (.tail _ (.tail _ (.tail _ (.tail _ (.head _))))))
          obtain ⟨c_two_0, c_two_1⟩ := hS.c2 (w12.heap.size) _ _ _ (.tail _ (.head _))
          obtain ⟨c_left_0, c_left_1⟩ := hS.c2 (w13.heap.size) _ _ _ (.head _)
          rcases Ip2.err with ⟨rfl, r0, h0⟩ | ⟨rfl, _⟩
          · skip
            rcases It2.err with ⟨rfl, r1, h1⟩ | ⟨rfl, _⟩
            · skip
              rcases I2.err with ⟨rfl, r2, h2⟩ | ⟨rfl, _⟩
              · skip
                rcases I3.err with ⟨rfl, r3, h3⟩ | ⟨rfl, _⟩
                · skip
                  obtain rfl := mul_assoc_o h0 h1 h2 h3
                  obtain ⟨rfl, rfl⟩ := (I2.is.val_eq h2).eq (I3.is.val_eq h3)
                  go_wp2_with fail
                  go_meet
                  exact ⟨rfl, hS⟩
                · skip
                  go_wp2_with fail
                  go_meet
                  exact ⟨rfl, hS⟩
              · skip
                go_wp2_with fail
                go_meet
                exact ⟨rfl, hS⟩
            · skip
              go_wp2_with fail
              go_meet
              exact ⟨rfl, hS⟩
          · skip
            go_wp2_with fail
            go_meet
            exact ⟨rfl, hS⟩
        case rest =>
          clear hS
          obtain ⟨rfl, hS⟩ := hcut
          obtain ⟨n4, d4, e4, I4⟩ := isE_mk (o := oMul (some a) (some c)) OkO.mul
          obtain ⟨n5, d5, e5, I5⟩ := isE_mk (o := oAdd (oMul (some a) (some c)) (oMul (some b) (some c))) OkO.add
          obtain ⟨n6, d6, e6, I6⟩ := isE_mk (o := oMul (oAdd (some a) (some b)) (some c)) OkO.mul
          obtain ⟨c_a_0, c_a_1⟩ := hS.c2 (w2.heap.size) _ _ _ (.tail _ (.tail _ (.tail _ (.tail _ (.tail _ (.tail _ (.tail _ (.tail _ (.tail _ (.tail _ (.tail _ (.tail _ (.tail _ (.head _))))))))))))))
          obtain ⟨c_c_0, c_c_1⟩ := hS.c2 (w4.heap.size) _ _ _ (.tail _ (.tail _ (.tail _ (.tail _ (.tail _ (.tail _ (.tail _ (.tail _ (.tail _ (.tail _ (.tail _ (.head _))))))))))))
          go_wp2_with fail
          refine Calls.mono (mul_v Ia _ (hS.envQ hE).env Ic I4) ?_
          rintro e w14 ⟨rfl, hb⟩
          clear c_a_0 c_a_1 c_c_0 c_c_1
          replace hS := hS.call hb
          clear hb
          replace hO := hO.add hS #[.string n4, .string d4] 23
          replace hS := hS.add' #[.string n4, .string d4] 23
          obtain ⟨W0, hW0, hS, hz0⟩ := hS
          obtain ⟨W, hW⟩ : ∃ W, W = (w14.alloc (.cells #[.string n4, .string d4] 23)) := ⟨_, rfl⟩
          replace hS : BL w [(w14.heap.size, #[.string n4, .string d4], 23), (w13.heap.size, #[.string n3, .string d3], 23), (w12.heap.size, #[.string n2, .string d2], 23), (w11.heap.size, #[.string n1, .string d1], 23), (w10.heap.size + 1, #[.int .i64 eu0, .int .i64 eu1, .int .i64 eu2, .int .i64 eu3], 50), (w10.heap.size, #[.string nu0, .string du0, .string nu1, .string du1, .string nu2, .string du2, .string nu3, .string du3], 49), (w9.heap.size + 1, #[.int .i64 et0, .int .i64 et1, .int .i64 et2, .int .i64 et3], 50), (w9.heap.size, #[.string nt0, .string dt0, .string nt1, .string dt1, .string nt2, .string dt2, .string nt3, .string dt3], 49), (w8.heap.size + 1, #[.int .i64 ep0, .int .i64 es1, .int .i64 ep2, .int .i64 es3], 50), (w8.heap.size, #[.string np0, .string dp0, .string ns1, .string ds1, .string np2, .string dp2, .string ns3, .string ds3], 49), (w7.heap.size + 1, #[.int .i64 ep0, .int .i64 ep1, .int .i64 ep2, .int .i64 ep3], 50), (w7.heap.size, #[.string np0, .string dp0, .string np1, .string dp1, .string np2, .string dp2, .string np3, .string dp3], 49), (w4.heap.size, #[.string cn, .string cd], 23), (w3.heap.size, #[.string bn', .string bd'], 23), (w2.heap.size, #[.string an', .string ad'], 23), (w.heap.size + 1 + 1, #[.int .i64 z0, .int .i64 z1], 47), (w.heap.size + 1, #[.int .i64 y0, .int .i64 y1, .int .i64 y2, .int .i64 y3], 24), (w.heap.size, #[.int .i64 x0, .int .i64 x1, .int .i64 x2, .int .i64 x3], 24)] W := by rw [hW, ← hW0]; exact hS
          clear hz0 hW0
          go_upto_region 22 with fail
          rw [← hW]
          clear hW
          obtain ⟨c_ac_0, c_ac_1⟩ := hS.c2 (w14.heap.size) _ _ _ (.head _)
          obtain ⟨c_rt_0, c_rt_1, c_rt_2, c_rt_3, c_rt_4, c_rt_5, c_rt_6, c_rt_7⟩ := hS.c8 (w9.heap.size) _ _ _ _ _ _ _ _ _ (.tail _ (.tail _ (.tail _ (.tail _ (.tail _ (.tail _ (.tail _ (.head _))))))))
          go_wp2_with fail
          refine Calls.mono (add_v I4.is _ (hS.envQ hE).env It2.is I5) ?_
          rintro e w15 ⟨rfl, hb⟩
          clear c_ac_0 c_ac_1 c_rt_0 c_rt_1 c_rt_2 c_rt_3 c_rt_4 c_rt_5 c_rt_6 c_rt_7
          replace hS := hS.call hb
          clear hb
          replace hO := hO.add hS #[.string n5, .string d5] 23
          replace hS := hS.add' #[.string n5, .string d5] 23
          obtain ⟨W0, hW0, hS, hz0⟩ := hS
          obtain ⟨W, hW⟩ : ∃ W, W = (w15.alloc (.cells #[.string n5, .string d5] 23)) := ⟨_, rfl⟩
          replace hS : BL w [(w15.heap.size, #[.string n5, .string d5], 23), (w14.heap.size, #[.string n4, .string d4], 23), (w13.heap.size, #[.string n3, .string d3], 23), (w12.heap.size, #[.string n2, .string d2], 23), (w11.heap.size, #[.string n1, .string d1], 23), (w10.heap.size + 1, #[.int .i64 eu0, .int .i64 eu1, .int .i64 eu2, .int .i64 eu3], 50), (w10.heap.size, #[.string nu0, .string du0, .string nu1, .string du1, .string nu2, .string du2, .string nu3, .string du3], 49), (w9.heap.size + 1, #[.int .i64 et0, .int .i64 et1, .int .i64 et2, .int .i64 et3], 50), (w9.heap.size, #[.string nt0, .string dt0, .string nt1, .string dt1, .string nt2, .string dt2, .string nt3, .string dt3], 49), (w8.heap.size + 1, #[.int .i64 ep0, .int .i64 es1, .int .i64 ep2, .int .i64 es3], 50), (w8.heap.size, #[.string np0, .string dp0, .string ns1, .string ds1, .string np2, .string dp2, .string ns3, .string ds3], 49), (w7.heap.size + 1, #[.int .i64 ep0, .int .i64 ep1, .int .i64 ep2, .int .i64 ep3], 50), (w7.heap.size, #[.string np0, .string dp0, .string np1, .string dp1, .string np2, .string dp2, .string np3, .string dp3], 49), (w4.heap.size, #[.string cn, .string cd], 23), (w3.heap.size, #[.string bn', .string bd'], 23), (w2.heap.size, #[.string an', .string ad'], 23), (w.heap.size + 1 + 1, #[.int .i64 z0, .int .i64 z1], 47), (w.heap.size + 1, #[.int .i64 y0, .int .i64 y1, .int .i64 y2, .int .i64 y3], 24), (w.heap.size, #[.int .i64 x0, .int .i64 x1, .int .i64 x2, .int .i64 x3], 24)] W := by rw [hW, ← hW0]; exact hS
          clear hz0 hW0
          go_upto_region 23 with fail
          rw [← hW]
          clear hW
          obtain ⟨c_rp_0, c_rp_1, c_rp_2, c_rp_3, c_rp_4, c_rp_5, c_rp_6, c_rp_7⟩ := hS.c8 (w7.heap.size) _ _ _ _ _ _ _ _ _ (.tail _ (.tail _ (.tail _ (.tail _ (.tail _ (.tail _ (.tail _ (.tail _ (.tail _ (.tail _ (.tail _ (.tail _ (.head _)))))))))))))
          obtain ⟨c_c_0, c_c_1⟩ := hS.c2 (w4.heap.size) _ _ _ (.tail _ (.tail _ (.tail _ (.tail _ (.tail _ (.tail _ (.tail _ (.tail _ (.tail _ (.tail _ (.tail _ (.tail _ (.tail _ (.head _))))))))))))))
          go_wp2_with fail
          refine Calls.mono (mul_v Ip0.is _ (hS.envQ hE).env Ic I6) ?_
          rintro e w16 ⟨rfl, hb⟩
          clear c_rp_0 c_rp_1 c_rp_2 c_rp_3 c_rp_4 c_rp_5 c_rp_6 c_rp_7 c_c_0 c_c_1
          replace hS := hS.call hb
          clear hb
          replace hO := hO.add hS #[.string n6, .string d6] 23
          replace hS := hS.add' #[.string n6, .string d6] 23
          obtain ⟨W0, hW0, hS, hz0⟩ := hS
          obtain ⟨W, hW⟩ : ∃ W, W = (w16.alloc (.cells #[.string n6, .string d6] 23)) := ⟨_, rfl⟩
          replace hS : BL w [(w16.heap.size, #[.string n6, .string d6], 23), (w15.heap.size, #[.string n5, .string d5], 23), (w14.heap.size, #[.string n4, .string d4], 23), (w13.heap.size, #[.string n3, .string d3], 23), (w12.heap.size, #[.string n2, .string d2], 23), (w11.heap.size, #[.string n1, .string d1], 23), (w10.heap.size + 1, #[.int .i64 eu0, .int .i64 eu1, .int .i64 eu2, .int .i64 eu3], 50), (w10.heap.size, #[.string nu0, .string du0, .string nu1, .string du1, .string nu2, .string du2, .string nu3, .string du3], 49), (w9.heap.size + 1, #[.int .i64 et0, .int .i64 et1, .int .i64 et2, .int .i64 et3], 50), (w9.heap.size, #[.string nt0, .string dt0, .string nt1, .string dt1, .string nt2, .string dt2, .string nt3, .string dt3], 49), (w8.heap.size + 1, #[.int .i64 ep0, .int .i64 es1, .int .i64 ep2, .int .i64 es3], 50), (w8.heap.size, #[.string np0, .string dp0, .string ns1, .string ds1, .string np2, .string dp2, .string ns3, .string ds3], 49), (w7.heap.size + 1, #[.int .i64 ep0, .int .i64 ep1, .int .i64 ep2, .int .i64 ep3], 50), (w7.heap.size, #[.string np0, .string dp0, .string np1, .string dp1, .string np2, .string dp2, .string np3, .string dp3], 49), (w4.heap.size, #[.string cn, .string cd], 23), (w3.heap.size, #[.string bn', .string bd'], 23), (w2.heap.size, #[.string an', .string ad'], 23), (w.heap.size + 1 + 1, #[.int .i64 z0, .int .i64 z1], 47), (w.heap.size + 1, #[.int .i64 y0, .int .i64 y1, .int .i64 y2, .int .i64 y3], 24), (w.heap.size, #[.int .i64 x0, .int .i64 x1, .int .i64 x2, .int .i64 x3], 24)] W := by rw [hW, ← hW0]; exact hS
          clear hz0 hW0
          go_upto_region 24 with fail
          rw [← hW]
          clear hW
          go_cut [231] (fun s wx => s = .bool false ∧ BL w [(w16.heap.size, #[.string n6, .string d6], 23), (w15.heap.size, #[.string n5, .string d5], 23), (w14.heap.size, #[.string n4, .string d4], 23), (w13.heap.size, #[.string n3, .string d3], 23), (w12.heap.size, #[.string n2, .string d2], 23), (w11.heap.size, #[.string n1, .string d1], 23), (w10.heap.size + 1, #[.int .i64 eu0, .int .i64 eu1, .int .i64 eu2, .int .i64 eu3], 50), (w10.heap.size, #[.string nu0, .string du0, .string nu1, .string du1, .string nu2, .string du2, .string nu3, .string du3], 49), (w9.heap.size + 1, #[.int .i64 et0, .int .i64 et1, .int .i64 et2, .int .i64 et3], 50), (w9.heap.size, #[.string nt0, .string dt0, .string nt1, .string dt1, .string nt2, .string dt2, .string nt3, .string dt3], 49), (w8.heap.size + 1, #[.int .i64 ep0, .int .i64 es1, .int .i64 ep2, .int .i64 es3], 50), (w8.heap.size, #[.string np0, .string dp0, .string ns1, .string ds1, .string np2, .string dp2, .string ns3, .string ds3], 49), (w7.heap.size + 1, #[.int .i64 ep0, .int .i64 ep1, .int .i64 ep2, .int .i64 ep3], 50), (w7.heap.size, #[.string np0, .string dp0, .string np1, .string dp1, .string np2, .string dp2, .string np3, .string dp3], 49), (w4.heap.size, #[.string cn, .string cd], 23), (w3.heap.size, #[.string bn', .string bd'], 23), (w2.heap.size, #[.string an', .string ad'], 23), (w.heap.size + 1 + 1, #[.int .i64 z0, .int .i64 z1], 47), (w.heap.size + 1, #[.int .i64 y0, .int .i64 y1, .int .i64 y2, .int .i64 y3], 24), (w.heap.size, #[.int .i64 x0, .int .i64 x1, .int .i64 x2, .int .i64 x3], 24)] wx)
          case first => as_aux_lemma =>
            obtain ⟨c_ep_0, c_ep_1, c_ep_2, c_ep_3⟩ := hS.c4 (w7.heap.size + 1) _ _ _ _ _ (.tail _ (.tail _ (.tail _ (.tail _ (.tail _ (.tail _ (.tail _ (.tail _ (.tail _ (.tail _ (.tail _ (.tail _ (.head _)))))))))))))
            obtain ⟨c_et_0, c_et_1, c_et_2, c_et_3⟩ := hS.c4 (w9.heap.size + 1) _ _ _ _ _ (.tail _ (.tail _ (.tail _ (.tail _ (.tail _ (.tail _ (.tail _ (.tail _ (.head _)))))))))
            obtain ⟨c_sum_0, c_sum_1⟩ := hS.c2 (w15.heap.size) _ _ _ (.tail _ (.head _))
            obtain ⟨c_whole_0, c_whole_1⟩ := hS.c2 (w16.heap.size) _ _ _ (.head _)
            rcases Ip0.err with ⟨rfl, r0, h0⟩ | ⟨rfl, _⟩
            · skip
              rcases I4.err with ⟨rfl, r1, h1⟩ | ⟨rfl, _⟩
              · skip
                rcases It2.err with ⟨rfl, r2, h2⟩ | ⟨rfl, _⟩
                · skip
                  rcases I5.err with ⟨rfl, r3, h3⟩ | ⟨rfl, _⟩
                  · skip
                    rcases I6.err with ⟨rfl, r4, h4⟩ | ⟨rfl, _⟩
                    · skip
                      obtain rfl := distr_o h0 h1 h2 h3 h4
                      obtain ⟨rfl, rfl⟩ := (I5.is.val_eq h3).eq (I6.is.val_eq h4)
                      go_wp2_with fail
                      go_meet
                      exact ⟨rfl, hS⟩
                    · skip
                      go_wp2_with fail
                      go_meet
                      exact ⟨rfl, hS⟩
                  · skip
                    go_wp2_with fail
                    go_meet
                    exact ⟨rfl, hS⟩
                · skip
                  go_wp2_with fail
                  go_meet
                  exact ⟨rfl, hS⟩
              · skip
                go_wp2_with fail
                go_meet
                exact ⟨rfl, hS⟩
            · skip
              go_wp2_with fail
              go_meet
              exact ⟨rfl, hS⟩
          case rest =>
            clear hS
            obtain ⟨rfl, hS⟩ := hcut
            obtain ⟨n7, d7, e7, I7⟩ := isE_mk (o := oSub (oAdd (some a) (some b)) (some b)) OkO.sub
            obtain ⟨n8, d8, e8, I8⟩ := isE_mk (o := oMul (oDiv (some a) (some b)) (some b)) OkO.mul
            obtain ⟨c_rp_0, c_rp_1, c_rp_2, c_rp_3, c_rp_4, c_rp_5, c_rp_6, c_rp_7⟩ := hS.c8 (w7.heap.size) _ _ _ _ _ _ _ _ _ (.tail _ (.tail _ (.tail _ (.tail _ (.tail _ (.tail _ (.tail _ (.tail _ (.tail _ (.tail _ (.tail _ (.tail _ (.tail _ (.head _))))))))))))))
            obtain ⟨c_b_0, c_b_1⟩ := hS.c2 (w3.heap.size) _ _ _ (.tail _ (.tail _ (.tail _ (.tail _ (.tail _ (.tail _ (.tail _ (.tail _ (.tail _ (.tail _ (.tail _ (.tail _ (.tail _ (.tail _ (.tail _ (.head _))))))))))))))))
            go_wp2_with fail
            refine Calls.mono (sub_v Ip0.is _ (hS.envQ hE).env Ib I7) ?_
            rintro e w17 ⟨rfl, hb⟩
            clear c_rp_0 c_rp_1 c_rp_2 c_rp_3 c_rp_4 c_rp_5 c_rp_6 c_rp_7 c_b_0 c_b_1
            replace hS := hS.call hb
            clear hb
            replace hO := hO.add hS #[.string n7, .string d7] 23
            replace hS := hS.add' #[.string n7, .string d7] 23
            obtain ⟨W0, hW0, hS, hz0⟩ := hS
            obtain ⟨W, hW⟩ : ∃ W, W = (w17.alloc (.cells #[.string n7, .string d7] 23)) := ⟨_, rfl⟩
            replace hS : BL w [(w17.heap.size, #[.string n7, .string d7], 23), (w16.heap.size, #[.string n6, .string d6], 23), (w15.heap.size, #[.string n5, .string d5], 23), (w14.heap.size, #[.string n4, .string d4], 23), (w13.heap.size, #[.string n3, .string d3], 23), (w12.heap.size, #[.string n2, .string d2], 23), (w11.heap.size, #[.string n1, .string d1], 23), (w10.heap.size + 1, #[.int .i64 eu0, .int .i64 eu1, .int .i64 eu2, .int .i64 eu3], 50), (w10.heap.size, #[.string nu0, .string du0, .string nu1, .string du1, .string nu2, .string du2, .string nu3, .string du3], 49), (w9.heap.size + 1, #[.int .i64 et0, .int .i64 et1, .int .i64 et2, .int .i64 et3], 50), (w9.heap.size, #[.string nt0, .string dt0, .string nt1, .string dt1, .string nt2, .string dt2, .string nt3, .string dt3], 49), (w8.heap.size + 1, #[.int .i64 ep0, .int .i64 es1, .int .i64 ep2, .int .i64 es3], 50), (w8.heap.size, #[.string np0, .string dp0, .string ns1, .string ds1, .string np2, .string dp2, .string ns3, .string ds3], 49), (w7.heap.size + 1, #[.int .i64 ep0, .int .i64 ep1, .int .i64 ep2, .int .i64 ep3], 50), (w7.heap.size, #[.string np0, .string dp0, .string np1, .string dp1, .string np2, .string dp2, .string np3, .string dp3], 49), (w4.heap.size, #[.string cn, .string cd], 23), (w3.heap.size, #[.string bn', .string bd'], 23), (w2.heap.size, #[.string an', .string ad'], 23), (w.heap.size + 1 + 1, #[.int .i64 z0, .int .i64 z1], 47), (w.heap.size + 1, #[.int .i64 y0, .int .i64 y1, .int .i64 y2, .int .i64 y3], 24), (w.heap.size, #[.int .i64 x0, .int .i64 x1, .int .i64 x2, .int .i64 x3], 24)] W := by rw [hW, ← hW0]; exact hS
            clear hz0 hW0
            go_upto_region 27 with fail
            rw [← hW]
            clear hW
            obtain ⟨c_rp_0, c_rp_1, c_rp_2, c_rp_3, c_rp_4, c_rp_5, c_rp_6, c_rp_7⟩ := hS.c8 (w7.heap.size) _ _ _ _ _ _ _ _ _ (.tail _ (.tail _ (.tail _ (.tail _ (.tail _ (.tail _ (.tail _ (.tail _ (.tail _ (.tail _ (.tail _ (.tail _ (.tail _ (.tail _ (.head _)))))))))))))))
            obtain ⟨c_b_0, c_b_1⟩ := hS.c2 (w3.heap.size) _ _ _ (.tail _ (.tail _ (.tail _ (.tail _ (.tail _ (.tail _ (.tail _ (.tail _ (.tail _ (.tail _ (.tail _ (.tail _ (.tail _ (.tail _ (.tail _ (.tail _ (.head _)))))))))))))))))
            go_wp2_with fail
            refine Calls.mono (mul_v Ip3.is _ (hS.envQ hE).env Ib I8) ?_
            rintro e w18 ⟨rfl, hb⟩
            clear c_rp_0 c_rp_1 c_rp_2 c_rp_3 c_rp_4 c_rp_5 c_rp_6 c_rp_7 c_b_0 c_b_1
            replace hS := hS.call hb
            clear hb
            replace hO := hO.add hS #[.string n8, .string d8] 23
            replace hS := hS.add' #[.string n8, .string d8] 23
            obtain ⟨W0, hW0, hS, hz0⟩ := hS
            obtain ⟨W, hW⟩ : ∃ W, W = (w18.alloc (.cells #[.string n8, .string d8] 23)) := ⟨_, rfl⟩
            replace hS : BL w [(w18.heap.size, #[.string n8, .string d8], 23), (w17.heap.size, #[.string n7, .string d7], 23), (w16.heap.size, #[.string n6, .string d6], 23), (w15.heap.size, #[.string n5, .string d5], 23), (w14.heap.size, #[.string n4, .string d4], 23), (w13.heap.size, #[.string n3, .string d3], 23), (w12.heap.size, #[.string n2, .string d2], 23), (w11.heap.size, #[.string n1, .string d1], 23), (w10.heap.size + 1, #[.int .i64 eu0, .int .i64 eu1, .int .i64 eu2, .int .i64 eu3], 50), (w10.heap.size, #[.string nu0, .string du0, .string nu1, .string du1, .string nu2, .string du2, .string nu3, .string du3], 49), (w9.heap.size + 1, #[.int .i64 et0, .int .i64 et1, .int .i64 et2, .int .i64 et3], 50), (w9.heap.size, #[.string nt0, .string dt0, .string nt1, .string dt1, .string nt2, .string dt2, .string nt3, .string dt3], 49), (w8.heap.size + 1, #[.int .i64 ep0, .int .i64 es1, .int .i64 ep2, .int .i64 es3], 50), (w8.heap.size, #[.string np0, .string dp0, .string ns1, .string ds1, .string np2, .string dp2, .string ns3, .string ds3], 49), (w7.heap.size + 1, #[.int .i64 ep0, .int .i64 ep1, .int .i64 ep2, .int .i64 ep3], 50), (w7.heap.size, #[.string np0, .string dp0, .string np1, .string dp1, .string np2, .string dp2, .string np3, .string dp3], 49), (w4.heap.size, #[.string cn, .string cd], 23), (w3.heap.size, #[.string bn', .string bd'], 23), (w2.heap.size, #[.string an', .string ad'], 23), (w.heap.size + 1 + 1, #[.int .i64 z0, .int .i64 z1], 47), (w.heap.size + 1, #[.int .i64 y0, .int .i64 y1, .int .i64 y2, .int .i64 y3], 24), (w.heap.size, #[.int .i64 x0, .int .i64 x1, .int .i64 x2, .int .i64 x3], 24)] W := by rw [hW, ← hW0]; exact hS
            clear hz0 hW0
            go_upto_region 28 with fail
            rw [← hW]
            clear hW
            go_cut [8] (fun s wx => s = .bool true ∧ BL w [(w18.heap.size, #[.string n8, .string d8], 23), (w17.heap.size, #[.string n7, .string d7], 23), (w16.heap.size, #[.string n6, .string d6], 23), (w15.heap.size, #[.string n5, .string d5], 23), (w14.heap.size, #[.string n4, .string d4], 23), (w13.heap.size, #[.string n3, .string d3], 23), (w12.heap.size, #[.string n2, .string d2], 23), (w11.heap.size, #[.string n1, .string d1], 23), (w10.heap.size + 1, #[.int .i64 eu0, .int .i64 eu1, .int .i64 eu2, .int .i64 eu3], 50), (w10.heap.size, #[.string nu0, .string du0, .string nu1, .string du1, .string nu2, .string du2, .string nu3, .string du3], 49), (w9.heap.size + 1, #[.int .i64 et0, .int .i64 et1, .int .i64 et2, .int .i64 et3], 50), (w9.heap.size, #[.string nt0, .string dt0, .string nt1, .string dt1, .string nt2, .string dt2, .string nt3, .string dt3], 49), (w8.heap.size + 1, #[.int .i64 ep0, .int .i64 es1, .int .i64 ep2, .int .i64 es3], 50), (w8.heap.size, #[.string np0, .string dp0, .string ns1, .string ds1, .string np2, .string dp2, .string ns3, .string ds3], 49), (w7.heap.size + 1, #[.int .i64 ep0, .int .i64 ep1, .int .i64 ep2, .int .i64 ep3], 50), (w7.heap.size, #[.string np0, .string dp0, .string np1, .string dp1, .string np2, .string dp2, .string np3, .string dp3], 49), (w4.heap.size, #[.string cn, .string cd], 23), (w3.heap.size, #[.string bn', .string bd'], 23), (w2.heap.size, #[.string an', .string ad'], 23), (w.heap.size + 1 + 1, #[.int .i64 z0, .int .i64 z1], 47), (w.heap.size + 1, #[.int .i64 y0, .int .i64 y1, .int .i64 y2, .int .i64 y3], 24), (w.heap.size, #[.int .i64 x0, .int .i64 x1, .int .i64 x2, .int .i64 x3], 24)] wx)
            case first => as_aux_lemma =>
              obtain ⟨c_ep_0, c_ep_1, c_ep_2, c_ep_3⟩ := hS.c4 (w7.heap.size + 1) _ _ _ _ _ (.tail _ (.tail _ (.tail _ (.tail _ (.tail _ (.tail _ (.tail _ (.tail _ (.tail _ (.tail _ (.tail _ (.tail _ (.tail _ (.tail _ (.head _)))))))))))))))
              obtain ⟨c_back_0, c_back_1⟩ := hS.c2 (w17.heap.size) _ _ _ (.tail _ (.head _))
              obtain ⟨c_again_0, c_again_1⟩ := hS.c2 (w18.heap.size) _ _ _ (.head _)
              obtain ⟨c_a_0, c_a_1⟩ := hS.c2 (w2.heap.size) _ _ _ (.tail _ (.tail _ (.tail _ (.tail _ (.tail _ (.tail _ (.tail _ (.tail _ (.tail _ (.tail _ (.tail _ (.tail _ (.tail _ (.tail _ (.tail _ (.tail _ (.tail _ (.tail _ (.head _)))))))))))))))))))
              have hA : (ep0 = 40) ∨ (ep0 = 0 ∧ e7 = 40) ∨ (ep0 = 0 ∧ e7 = 0 ∧ n7 = an' ∧ d7 = ad') := back_cases Ip0 I7 Ia
              have hD : (ep3 = 40) ∨ (ep3 = 0 ∧ e8 = 40) ∨ (ep3 = 0 ∧ e8 = 0 ∧ n8 = an' ∧ d8 = ad') := again_cases Ip3 I8 Ia
              rcases hA with rfl | ⟨rfl, rfl⟩ | ⟨rfl, rfl, rfl, rfl⟩ <;> rcases hD with rfl | ⟨rfl, rfl⟩ | ⟨rfl, rfl, rfl, rfl⟩
              all_goals (go_wp2_with fail; go_meet; exact ⟨rfl, hS⟩)
            case rest =>
              clear hS
              obtain ⟨rfl, hS⟩ := hcut
              go_wp2
              go_ret
              exact ⟨rfl, hS.below⟩
end Go.Proofs.YtkmlcnkhijpndaaGreatDoor
