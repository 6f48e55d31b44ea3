/- The reference for fractions: Compare, Down, Up. -/
import Derived.Test.YtebokdboodgkpaaGreatDoorRefY
import Derived.Test.YtebokdboodgkpaaGreatDoorPkI
namespace Go.Proofs.YtebokdboodgkpaaGreatDoor
open Go.RowKit
attribute [local go_sem] Oper.semAt_some

theorem str_zero {a : ByteArray} {x : Int} (ha : a = I x) : (a.toList == [48]) = decide (x = 0) := by
  by_cases h : x = 0
  · rw [decide_eq_true h, ha, h]; decide +kernel
  · rw [decide_eq_false h]; exact str_ne_zero ha h
def valDen (v : Value) : Nat := match v with
  | .string s => (zS s).toNat
  | _ => 0
/-- Where the comparison stands: what is left to compare, and the sign. -/
structure CJt (tgt sg x1 y1 x2 y2 : Int) (a1 b1 a2 b2 : ByteArray) : Prop where
  t1 : a1 = I x1
  u1 : b1 = I y1
  t2 : a2 = I x2
  u2 : b2 = I y2
  s1 : Small x1
  v1 : Small y1
  s2 : Small x2
  v2 : Small y2
  p1 : 0 < y1
  p2 : 0 < y2
  sgn : sg = 1 ∨ sg = -1
  val : sg * Lib.compareInt (x1 * y2) (x2 * y1) = tgt
theorem small_mod {x y : Int} (hy : Small y) (h0 : 0 < y) : Small (x % y) := by
  have h1 := Int.emod_nonneg x (show y ≠ 0 by omega)
  have h2 := Int.emod_lt_of_pos x h0
  unfold Small at *; omega
section
variable {tgt sg x1 y1 x2 y2 : Int} {a1 b1 a2 b2 : ByteArray} (h : CJt tgt sg x1 y1 x2 y2 a1 b1 a2 b2)
include h
theorem CJt.mul (z : Int) (hz : z = -1 ∨ z = 0 ∨ z = 1) : wrap64 (sg * z) = sg * z := by
  refine IntWalk.wrap64_in _ ?_
  rcases h.sgn with e | e <;> rcases hz with f | f | f <;> rw [e, f] <;> decide
theorem CJt.one : wrap64 sg = sg := by
  refine IntWalk.wrap64_in _ ?_
  rcases h.sgn with e | e <;> rw [e] <;> decide
theorem CJt.neg64 : wrap64 (-sg) = -sg := by
  refine IntWalk.wrap64_in _ ?_
  rcases h.sgn with e | e <;> rw [e] <;> decide
theorem CJt.neg : IntKind.i64.wrap (-sg) = -sg := by
  refine IntWalk.i64_in _ ?_
  rcases h.sgn with e | e <;> rw [e] <;> decide
theorem CJt.quo (hne : x1 / y1 ≠ x2 / y2) : sg * Lib.compareInt (x1 / y1) (x2 / y2) = tgt := by
  rw [← cmp_quo h.p1 h.p2 hne]; exact h.val
theorem CJt.rest (he : x1 / y1 = x2 / y2) (h0 : x1 % y1 = 0 ∨ x2 % y2 = 0) : sg * Lib.compareInt (if x1 % y1 = 0 then 0 else 1) (if x2 % y2 = 0 then 0 else 1) = tgt := by
  have hv := h.val
  rw [cmp_rest he] at hv
  rw [← hv]
  congr 1
  have r1 := Int.emod_nonneg x1 (show y1 ≠ 0 by have := h.p1; omega)
  have r2 := Int.emod_nonneg x2 (show y2 ≠ 0 by have := h.p2; omega)
  by_cases c1 : x1 % y1 = 0 <;> by_cases c2 : x2 % y2 = 0
  · rw [if_pos c1, if_pos c2, c1, c2, Int.zero_mul, Int.zero_mul]
  · rw [if_pos c1, if_neg c2, c1, Int.zero_mul, compareInt_lt (by decide), compareInt_lt (Int.mul_pos (by omega) h.p1)]
  · rw [if_neg c1, if_pos c2, c2, Int.zero_mul, compareInt_gt (by decide), compareInt_gt (Int.mul_pos (by omega) h.p2)]
  · rcases h0 with h0 | h0 <;> contradiction
theorem CJt.next {r s : ByteArray} (hr : r = I (x1 % y1)) (hs : s = I (x2 % y2)) (he : x1 / y1 = x2 / y2) (c1 : x1 % y1 ≠ 0) (c2 : x2 % y2 ≠ 0) : CJt tgt (-sg) y1 (x1 % y1) y2 (x2 % y2) b1 r b2 s := by
  have r1 := Int.emod_nonneg x1 (show y1 ≠ 0 by have := h.p1; omega)
  have r2 := Int.emod_nonneg x2 (show y2 ≠ 0 by have := h.p2; omega)
  refine ⟨h.u1, hr, h.u2, hs, h.v1, small_mod h.v1 h.p1, h.v2, small_mod h.v2 h.p2, by omega, by omega, by rcases h.sgn with e | e <;> rw [e] <;> decide, ?_⟩
  have hv := h.val
  rw [cmp_rest he] at hv
  rw [← hv, cmp_swap (y2 * (x1 % y1)) (y1 * (x2 % y2)), Int.mul_comm y2, Int.mul_comm y1, Int.neg_mul_neg]
theorem CJt.less : valDen (.string b1) = y1.toNat := by
  show (zS b1).toNat = _
  rw [h.u1, zS_I]
end

set_option maxRecDepth 100000 in
set_option maxHeartbeats 16000000 in
theorem qrzero_any (s : ByteArray) (w : World) : Calls Tryz.prog 70 #[.string s] w fun e w' => e = .returned (.string (if s.toList == [48] then s else ⟨#[49]⟩)) ∧ w = w' := by
  cases h : s.toList == [48] with
  | true =>
    go_enter Tryz.func70, Tryz.ntmps70
    go_wp2
    go_ret
    exact ⟨rfl, rfl⟩
  | false =>
    go_enter Tryz.func70, Tryz.ntmps70
    go_wp2
    go_ret
    exact ⟨rfl, rfl⟩

set_option maxRecDepth 100000 in
set_option maxHeartbeats 16000000 in
theorem qrcmp_ok (n1 d1 n2 d2 : ByteArray) (h1 : n1.size ≤ 9223372036854775807) (h2 : d1.size ≤ 9223372036854775807) (h3 : n2.size ≤ 9223372036854775807) (h4 : d2.size ≤ 9223372036854775807) (w : World) (k1 : rOk n1 d1 = true) (k2 : rOk n2 d2 = true) :
    Calls Tryz.prog 47 #[.agg #[.string n1, .string d1], .agg #[.string n2, .string d2]] w (Rets w (.int .i64 (Lib.compareInt (zS n1 * zS d2) (zS n2 * zS d1)))) := by
  have VA := fun W => qrvalid_any n1 d1 h1 h2 W
  have VB := fun W => qrvalid_any n2 d2 h3 h4 W
  rw [k1] at VA
  rw [k2] at VB
  replace VA := Lib.hid VA
  replace VB := Lib.hid VB
  obtain ⟨o1, o2, o3, o4⟩ := rOk_parts k1
  obtain ⟨o5, o6, o7, o8⟩ := rOk_parts k2
  obtain ⟨tgt, htgt⟩ : ∃ t, Lib.compareInt (zS n1 * zS d2) (zS n2 * zS d1) = t := ⟨_, rfl⟩
  have HJ := Lib.hid (CJt.mk (txtS o1) (txtS o2) (txtS o5) (txtS o6) (smallS o1) (smallS o2) (smallS o5) (smallS o6) o3 o7 (.inl rfl) (by rw [Int.one_mul]; exact htgt) : CJt tgt 1 (zS n1) (zS d1) (zS n2) (zS d2) n1 d1 n2 d2)
  rw [htgt]
  clear o1 o2 o3 o4 o5 o6 o7 o8 h1 h2 h3 h4 k1 k2 htgt
  generalize zS n1 = z1 at *
  generalize zS d1 = z2 at *
  generalize zS n2 = z3 at *
  generalize zS d2 = z4 at *
  have Sv0 := BL.start w
  obtain ⟨V1, ev1, Sv1, zv1⟩ := Sv0.add' #[.string n1, .string d1] 27
  obtain ⟨V2, ev2, Sv2, zv2⟩ := Sv1.add' #[.string n2, .string d2] 27
  rw [zv1] at Sv2
  have hV : V2 = ((w.alloc (.cells #[.string n1, .string d1] 27)).alloc (.cells #[.string n2, .string d2] 27)) := by rw [ev2, ev1]
  have hS : BL w [(w.heap.size + 1, #[.string n2, .string d2], 27), (w.heap.size, #[.string n1, .string d1], 27)] V2 := Sv2
  clear ev1 ev2 zv1 zv2 Sv0 Sv1 Sv2
  go_enter Tryz.func47, Tryz.ntmps47
  go_upto_region 1 with fail
  rw [← hV]
  clear hV
  obtain ⟨c_a_0, c_a_1⟩ := hS.c2 (w.heap.size) _ _ _ (.tail _ (.head _))
  go_wp2_with fail
  refine Calls.mono (VA.out _) ?_
  rintro e w1 ⟨rfl, hb⟩
  clear c_a_0 c_a_1
  replace hS := hS.call hb
  clear hb
  obtain ⟨c_b_0, c_b_1⟩ := hS.c2 (w.heap.size + 1) _ _ _ (.head _)
  go_wp2_with fail
  refine Calls.mono (VB.out _) ?_
  rintro e w2 ⟨rfl, hb⟩
  clear c_b_0 c_b_1
  replace hS := hS.call hb
  clear hb
  obtain ⟨c_a_0, c_a_1⟩ := hS.c2 (w.heap.size) _ _ _ (.tail _ (.head _))
  obtain ⟨c_b_0, c_b_1⟩ := hS.c2 (w.heap.size + 1) _ _ _ (.head _)
  have hB := hS.below
  clear hS
  go_wp2_with fail
  go_loopw [7, 8, 9, 10, 11] (fun s n d m c wr => ∃ (sg x1 y1 x2 y2 : Int) (a1 b1 a2 b2 : ByteArray), s = .int .i64 sg ∧ n = .string a1 ∧ d = .string b1 ∧ m = .string a2 ∧ c = .string b2 ∧ Hid (CJt tgt sg x1 y1 x2 y2 a1 b1 a2 b2) ∧ Below w.heap.size w wr) (fun _ _ d _ _ _ => valDen d)
  case atStart => exact ⟨1, z1, z2, z3, z4, n1, d1, n2, d2, rfl, rfl, rfl, rfl, rfl, HJ, hB⟩
  case round =>
    obtain ⟨sg, x1, y1, x2, y2, a1, b1, a2, b2, rfl, rfl, rfl, rfl, rfl, H, hB⟩ := hrel
    have hm := H.out.less
    have D1 := fun W => rdiv_is H.out.t1 H.out.u1 H.out.s1 H.out.v1 W (by have := H.out.p1; omega)
    have D2 := fun W => rdiv_is H.out.t2 H.out.u2 H.out.s2 H.out.v2 W (by have := H.out.p2; omega)
    obtain ⟨q1, hq1⟩ : ∃ s : ByteArray, Hid (s = I (x1 / y1)) := ⟨_, rfl⟩
    obtain ⟨r1, hr1⟩ : ∃ s : ByteArray, Hid (s = I (x1 % y1)) := ⟨_, rfl⟩
    obtain ⟨q2, hq2⟩ : ∃ s : ByteArray, Hid (s = I (x2 / y2)) := ⟨_, rfl⟩
    obtain ⟨r2, hr2⟩ : ∃ s : ByteArray, Hid (s = I (x2 % y2)) := ⟨_, rfl⟩
    rw [← hq1.out, ← hr1.out] at D1
    rw [← hq2.out, ← hr2.out] at D2
    have CM := fun W => rcmp_is hq1.out hq2.out (small_quo H.out.s1) (small_quo H.out.s2) W
    have e1 := str_zero hr1.out
    have e2 := str_zero hr2.out
    replace D1 := Lib.hid D1
    replace D2 := Lib.hid D2
    clear VA VB HJ
    by_cases hne : x1 / y1 = x2 / y2
    · have HX := Lib.hid hne
      rw [hne, compareInt_eq] at CM
      replace CM := Lib.hid CM
      clear hne
      by_cases c1 : x1 % y1 = 0
      · rw [decide_eq_true c1] at e1
        by_cases c2 : x2 % y2 = 0
        · rw [decide_eq_true c2] at e2
          have HV := H.out.rest HX.out (.inl c1)
          rw [if_pos c1, if_pos c2] at HV
          rw [show Lib.compareInt 0 0 = 0 by decide] at HV
          have w1 := Lib.hid H.out.one
          rw [Int.mul_zero] at HV
          replace HV := Lib.hid HV
          have CZ := Lib.hid (fun W => rcmp_is (a := ⟨#[48]⟩) (b := ⟨#[48]⟩) (x := 0) (y := 0) (by decide +kernel) (by decide +kernel) (by decide) (by decide) W)
          rw [show Lib.compareInt 0 0 = 0 by decide] at CZ
          have Z1 := fun W => qrzero_any r1 W
          have Z2 := fun W => qrzero_any r2 W
          rw [e1] at Z1
          rw [e2] at Z2
          have ez1 : r1 = ⟨#[48]⟩ := hr1.out.trans (by rw [c1]; decide +kernel)
          rw [if_pos rfl] at Z1
          have ez2 : r2 = ⟨#[48]⟩ := hr2.out.trans (by rw [c2]; decide +kernel)
          rw [if_pos rfl] at Z2
          clear c1 c2 hr1 hr2
          subst ez1
          subst ez2
          replace Z1 := Lib.hid Z1
          replace Z2 := Lib.hid Z2
          go_wp2_with fail
          refine Calls.mono (D1.out _) ?_
          rintro e w' ⟨rfl, hb⟩
          replace hB := hB.trans (hb.mono hB.size)
          clear hb
          go_wp2_with fail
          refine Calls.mono (D2.out _) ?_
          rintro e w' ⟨rfl, hb⟩
          replace hB := hB.trans (hb.mono hB.size)
          clear hb
          go_wp2_with fail
          refine Calls.mono (CM.out _) ?_
          rintro e w' ⟨rfl, hb⟩
          replace hB := hB.trans (hb.mono hB.size)
          clear hb
          go_wp2_with fail
          refine Calls.mono (Z1.out _) ?_
          rintro e w' ⟨rfl, rfl⟩
          go_wp2_with fail
          refine Calls.mono (Z2.out _) ?_
          rintro e w' ⟨rfl, rfl⟩
          go_wp2_with fail
          refine Calls.mono (CZ.out _) ?_
          rintro e w' ⟨rfl, hb⟩
          replace hB := hB.trans (hb.mono hB.size)
          clear hb
          go_wp2
          go_ret
          exact ⟨congrArg (fun z => Ending.returned (Value.int .i64 z)) HV.out, hB⟩
        · rw [decide_eq_false c2] at e2
          have HV := H.out.rest HX.out (.inl c1)
          rw [if_pos c1, if_neg c2] at HV
          rw [show Lib.compareInt 0 1 = -1 by decide] at HV
          have w1 := Lib.hid H.out.neg64
          rw [Int.mul_neg, Int.mul_one] at HV
          replace HV := Lib.hid (w1.out.trans HV)
          have CZ := Lib.hid (fun W => rcmp_is (a := ⟨#[48]⟩) (b := ⟨#[49]⟩) (x := 0) (y := 1) (by decide +kernel) (by decide +kernel) (by decide) (by decide) W)
          rw [show Lib.compareInt 0 1 = -1 by decide] at CZ
          have Z1 := fun W => qrzero_any r1 W
          have Z2 := fun W => qrzero_any r2 W
          rw [e1] at Z1
          rw [e2] at Z2
          have ez1 : r1 = ⟨#[48]⟩ := hr1.out.trans (by rw [c1]; decide +kernel)
          rw [if_pos rfl] at Z1
          rw [if_neg (by decide)] at Z2
          clear c1 c2 hr1 hr2
          subst ez1
          replace Z1 := Lib.hid Z1
          replace Z2 := Lib.hid Z2
          go_wp2_with fail
          refine Calls.mono (D1.out _) ?_
          rintro e w' ⟨rfl, hb⟩
          replace hB := hB.trans (hb.mono hB.size)
          clear hb
          go_wp2_with fail
          refine Calls.mono (D2.out _) ?_
          rintro e w' ⟨rfl, hb⟩
          replace hB := hB.trans (hb.mono hB.size)
          clear hb
          go_wp2_with fail
          refine Calls.mono (CM.out _) ?_
          rintro e w' ⟨rfl, hb⟩
          replace hB := hB.trans (hb.mono hB.size)
          clear hb
          go_wp2_with fail
          refine Calls.mono (Z1.out _) ?_
          rintro e w' ⟨rfl, rfl⟩
          go_wp2_with fail
          refine Calls.mono (Z2.out _) ?_
          rintro e w' ⟨rfl, rfl⟩
          go_wp2_with fail
          refine Calls.mono (CZ.out _) ?_
          rintro e w' ⟨rfl, hb⟩
          replace hB := hB.trans (hb.mono hB.size)
          clear hb
          go_wp2
          go_ret
          exact ⟨congrArg (fun z => Ending.returned (Value.int .i64 z)) HV.out, hB⟩
      · rw [decide_eq_false c1] at e1
        by_cases c2 : x2 % y2 = 0
        · rw [decide_eq_true c2] at e2
          have HV := H.out.rest HX.out (.inr c2)
          rw [if_neg c1, if_pos c2] at HV
          rw [show Lib.compareInt 1 0 = 1 by decide] at HV
          have w1 := Lib.hid H.out.one
          rw [Int.mul_one] at HV
          replace HV := Lib.hid (w1.out.trans HV)
          have CZ := Lib.hid (fun W => rcmp_is (a := ⟨#[49]⟩) (b := ⟨#[48]⟩) (x := 1) (y := 0) (by decide +kernel) (by decide +kernel) (by decide) (by decide) W)
          rw [show Lib.compareInt 1 0 = 1 by decide] at CZ
          have Z1 := fun W => qrzero_any r1 W
          have Z2 := fun W => qrzero_any r2 W
          rw [e1] at Z1
          rw [e2] at Z2
          rw [if_neg (by decide)] at Z1
          have ez2 : r2 = ⟨#[48]⟩ := hr2.out.trans (by rw [c2]; decide +kernel)
          rw [if_pos rfl] at Z2
          clear c1 c2 hr1 hr2
          subst ez2
          replace Z1 := Lib.hid Z1
          replace Z2 := Lib.hid Z2
          go_wp2_with fail
          refine Calls.mono (D1.out _) ?_
          rintro e w' ⟨rfl, hb⟩
          replace hB := hB.trans (hb.mono hB.size)
          clear hb
          go_wp2_with fail
          refine Calls.mono (D2.out _) ?_
          rintro e w' ⟨rfl, hb⟩
          replace hB := hB.trans (hb.mono hB.size)
          clear hb
          go_wp2_with fail
          refine Calls.mono (CM.out _) ?_
          rintro e w' ⟨rfl, hb⟩
          replace hB := hB.trans (hb.mono hB.size)
          clear hb
          go_wp2_with fail
          refine Calls.mono (Z1.out _) ?_
          rintro e w' ⟨rfl, rfl⟩
          go_wp2_with fail
          refine Calls.mono (Z2.out _) ?_
          rintro e w' ⟨rfl, rfl⟩
          go_wp2_with fail
          refine Calls.mono (CZ.out _) ?_
          rintro e w' ⟨rfl, hb⟩
          replace hB := hB.trans (hb.mono hB.size)
          clear hb
          go_wp2
          go_ret
          exact ⟨congrArg (fun z => Ending.returned (Value.int .i64 z)) HV.out, hB⟩
        · rw [decide_eq_false c2] at e2
          have HN := Lib.hid (H.out.next hr1.out hr2.out HX.out c1 c2)
          have w1 := H.out.neg
          have hless : (x1 % y1).toNat < y1.toNat := by have h1 := Int.emod_lt_of_pos x1 H.out.p1; have h2 := H.out.p1; omega
          have hm2 := HN.out.less
          clear c1 c2
          go_wp2_with fail
          refine Calls.mono (D1.out _) ?_
          rintro e w' ⟨rfl, hb⟩
          replace hB := hB.trans (hb.mono hB.size)
          clear hb
          go_wp2_with fail
          refine Calls.mono (D2.out _) ?_
          rintro e w' ⟨rfl, hb⟩
          replace hB := hB.trans (hb.mono hB.size)
          clear hb
          go_wp2_with fail
          refine Calls.mono (CM.out _) ?_
          rintro e w' ⟨rfl, hb⟩
          replace hB := hB.trans (hb.mono hB.size)
          clear hb
          go_wp2_with fail
          go_roundw
          case rel => exact ⟨-sg, _, _, _, _, _, _, _, _, rfl, rfl, rfl, rfl, rfl, HN, hB⟩
          case measure => rw [hm, hm2]; exact hless
    · have HV := Lib.hid (H.out.quo hne)
      have hk : (Lib.compareInt (x1 / y1) (x2 / y2) == 0) = false := by
        rw [beq_eq_false_iff_ne]
        intro e
        exact hne (cmp_zero_iff.1 e)
      have w1 := H.out.mul (Lib.compareInt (x1 / y1) (x2 / y2)) (by rcases cmp_vals (x1 / y1) (x2 / y2) with e | e | e <;> rw [e] <;> decide)
      replace w1 := Lib.hid (w1.trans HV.out)
      generalize Lib.compareInt (x1 / y1) (x2 / y2) = k at *
      replace CM := Lib.hid CM
      clear hne e1 e2
      go_wp2_with fail
      refine Calls.mono (D1.out _) ?_
      rintro e w' ⟨rfl, hb⟩
      replace hB := hB.trans (hb.mono hB.size)
      clear hb
      go_wp2_with fail
      refine Calls.mono (D2.out _) ?_
      rintro e w' ⟨rfl, hb⟩
      replace hB := hB.trans (hb.mono hB.size)
      clear hb
      go_wp2_with fail
      refine Calls.mono (CM.out _) ?_
      rintro e w' ⟨rfl, hb⟩
      replace hB := hB.trans (hb.mono hB.size)
      clear hb
      go_wp2
      go_ret
      exact ⟨congrArg (fun z => Ending.returned (Value.int .i64 z)) w1.out, hB⟩

set_option maxRecDepth 100000 in
set_option maxHeartbeats 16000000 in
theorem qrcmp_bad (n1 d1 n2 d2 : ByteArray) (h1 : n1.size ≤ 9223372036854775807) (h2 : d1.size ≤ 9223372036854775807) (h3 : n2.size ≤ 9223372036854775807) (h4 : d2.size ≤ 9223372036854775807) (w : World) (hk : (rOk n1 d1 && rOk n2 d2) = false) :
    Calls Tryz.prog 47 #[.agg #[.string n1, .string d1], .agg #[.string n2, .string d2]] w (Rets w (.int .i64 0)) := by
  have VA := fun W => qrvalid_any n1 d1 h1 h2 W
  have VB := fun W => qrvalid_any n2 d2 h3 h4 W
  generalize rOk n1 d1 = k1 at *
  generalize rOk n2 d2 = k2 at *
  clear h1 h2 h3 h4
  replace VA := Lib.hid VA
  replace VB := Lib.hid VB
  have hor : k1 = false ∨ k1 = true ∧ k2 = false := by revert hk; cases k1 <;> cases k2 <;> decide
  clear hk
  rcases hor with rfl | ⟨rfl, rfl⟩
  all_goals
    have Sv0 := BL.start w
    obtain ⟨V1, ev1, Sv1, zv1⟩ := Sv0.add' #[.string n1, .string d1] 27
    obtain ⟨V2, ev2, Sv2, zv2⟩ := Sv1.add' #[.string n2, .string d2] 27
    rw [zv1] at Sv2
    have hV : V2 = ((w.alloc (.cells #[.string n1, .string d1] 27)).alloc (.cells #[.string n2, .string d2] 27)) := by rw [ev2, ev1]
    have hS : BL w [(w.heap.size + 1, #[.string n2, .string d2], 27), (w.heap.size, #[.string n1, .string d1], 27)] V2 := Sv2
    clear ev1 ev2 zv1 zv2 Sv0 Sv1 Sv2
    go_enter Tryz.func47, Tryz.ntmps47
    go_upto_region 1 with fail
    rw [← hV]
    clear hV
    obtain ⟨c_a_0, c_a_1⟩ := hS.c2 (w.heap.size) _ _ _ (.tail _ (.head _))
    go_wp2_with fail
    refine Calls.mono (VA.out _) ?_
    rintro e w1 ⟨rfl, hb⟩
    clear c_a_0 c_a_1
    replace hS := hS.call hb
    clear hb
    obtain ⟨c_b_0, c_b_1⟩ := hS.c2 (w.heap.size + 1) _ _ _ (.head _)
    go_wp2_with fail
    refine Calls.mono (VB.out _) ?_
    rintro e w2 ⟨rfl, hb⟩
    clear c_b_0 c_b_1
    replace hS := hS.call hb
    clear hb
    go_wp2
    go_ret
    exact ⟨rfl, hS.below⟩

/-- putlogref04.Compare. -/
theorem qrcmp_any (n1 d1 n2 d2 : ByteArray) (h1 : n1.size ≤ 9223372036854775807) (h2 : d1.size ≤ 9223372036854775807) (h3 : n2.size ≤ 9223372036854775807) (h4 : d2.size ≤ 9223372036854775807) (w : World) :
    Calls Tryz.prog 47 #[.agg #[.string n1, .string d1], .agg #[.string n2, .string d2]] w (Rets w (.int .i64 (if rOk n1 d1 && rOk n2 d2 then Lib.compareInt (zS n1 * zS d2) (zS n2 * zS d1) else 0))) := by
  cases hb : (rOk n1 d1 && rOk n2 d2) with
  | false => rw [if_neg (by decide)]; exact qrcmp_bad n1 d1 n2 d2 h1 h2 h3 h4 w hb
  | true =>
    rw [if_pos rfl]
    have h : rOk n1 d1 = true ∧ rOk n2 d2 = true := by simpa using hb
    exact qrcmp_ok n1 d1 n2 d2 h1 h2 h3 h4 w h.1 h.2

end Go.Proofs.YtebokdboodgkpaaGreatDoor
