/- Sub, Compare, Valid, FromInt. -/
import Derived.Test.YtbnilfjhalildaaGreatDoorAdd
namespace Go.Proofs.YtbnilfjhalildaaGreatDoor
open Go.RowKit
attribute [local go_sem] Oper.semAt_some

theorem and_false_of {p q : Bool} (h : ¬ (p = true ∧ q = true)) : (p && q) = false ∧ (p = false ∨ q = false) := by cases p <;> cases q <;> simp_all
theorem sgn_not (z : Int) : sgn (!decide (z < 0)) z.natAbs = -z := by
  unfold sgn
  by_cases h : z < 0
  · simp [h]; omega
  · simp [h]; omega

set_option maxRecDepth 100000 in
set_option maxHeartbeats 2000000 in
theorem sub_ok (a b : ByteArray) (w : World) (hE : Env w) (ha : okS a = true) (hb : okS b = true) :
    Calls Tryz.prog 16 #[.string a, .string b] w (Gives w fun r _ => r = resT true (zS a - zS b)) := by
  have Ba := z_bound ha
  have Bb := z_bound hb
  have Pk := fun W => both_ok a b W ha hb
  go_enter Tryz.func16, Tryz.ntmps16
  go_wp2_with fail
  refine (Pk _).mono ?_
  rintro e W1 ⟨⟨r, rfl, v, u, rfl, ⟨x, xs, rfl, hx, hnx⟩, ⟨y, ys, rfl, hy, hny⟩⟩, hb1⟩
  have lx := len_of_big hnx (abs_big Ba)
  have ly := len_of_big hny (abs_big Bb)
  obtain ⟨a1, c1, rfl⟩ := hx.shape
  obtain ⟨a2, c2, rfl⟩ := hy.shape
  go_wp2_with fail
  have hb2 := below_two W1 (.cells #[.bool (decide (zS a < 0)), .slice a1 xs.length c1] 50) (.cells #[.bool (!decide (zS b < 0)), .slice a2 ys.length c2] 50)
  refine (sgn_plus_any _ _ _ _ xs ys _ _ _ (hx.below hb2) (hy.below hb2) hnx hny (by omega) (by omega)).mono ?_
  rintro e W2 ⟨⟨r, rfl, neg, u, zs, n, rfl, hz, hnz, hsum⟩, hb3⟩
  rw [sgn_abs, sgn_not, ← Int.sub_eq_add_neg] at hsum
  have lz := sgn_len hsum hnz 51 (by unfold Big at Ba Bb; omega)
  have hbw : Below w.heap.size w W2 := kb_call hb3 (kb_call hb2 hb1 (Nat.le_refl _)) (Nat.le_refl _)
  have hE2 := hE.below hbw (Nat.le_refl _)
  go_wp2_with fail
  refine (text_any neg _ zs n W2 hE2 hz hnz (by omega)).mono ?_
  rintro e W3 ⟨rfl, hb4⟩
  go_wp2
  go_ret2
  exact ⟨⟨_, rfl, by rw [hsum]; rfl⟩, kb_call hb4 hbw (Nat.le_refl _)⟩

set_option maxRecDepth 100000 in
set_option maxHeartbeats 2000000 in
theorem sub_bad (a b : ByteArray) (w : World) (h : okS a = false ∨ okS b = false) :
    Calls Tryz.prog 16 #[.string a, .string b] w (Gives w fun r _ => r = resT false 0) := by
  have Pk := fun W => both_bad a b W h
  go_enter Tryz.func16, Tryz.ntmps16
  go_wp2_with fail
  refine (Pk _).mono ?_
  rintro e W1 ⟨⟨r, rfl, rfl⟩, hb1⟩
  go_wp2
  go_ret2
  exact ⟨⟨_, rfl, rfl⟩, kb_call (below_two W1 _ _) hb1 (Nat.le_refl _)⟩

/-- integer.Sub. -/
theorem sub_any (a b : ByteArray) (w : World) (hE : Env w) :
    Calls Tryz.prog 16 #[.string a, .string b] w (Gives w fun r _ => r = resT (okS a && okS b) (zS a - zS b)) := by
  by_cases h : okS a = true ∧ okS b = true
  · rw [h.1, h.2]; exact sub_ok a b w hE h.1 h.2
  · rw [(and_false_of h).1]; exact sub_bad a b w (and_false_of h).2
theorem cmp_neg {a b : Int} (ha : a < 0) (hb : b < 0) : Lib.compareInt b.natAbs a.natAbs = Lib.compareInt a b := by
  rcases Int.lt_trichotomy a b with h | rfl | h
  · rw [compareInt_lt h, compareInt_lt (by omega)]
  · rw [compareInt_eq, compareInt_eq]
  · rw [compareInt_gt h, compareInt_gt (by omega)]
theorem cmp_pos {a b : Int} (ha : ¬ a < 0) (hb : ¬ b < 0) : Lib.compareInt a.natAbs b.natAbs = Lib.compareInt a b := by
  rw [show (a.natAbs : Int) = a by omega, show (b.natAbs : Int) = b by omega]

set_option maxRecDepth 100000 in
set_option maxHeartbeats 4000000 in
theorem Compare_ok (a b : ByteArray) (w : World) (ha : okS a = true) (hb : okS b = true) :
    Calls Tryz.prog 18 #[.string a, .string b] w fun e w' => e = .returned (.int .i64 (Lib.compareInt (zS a) (zS b))) ∧ Below w.heap.size w w' := by
  have Pk := fun W => both_ok a b W ha hb
  go_enter Tryz.func18, Tryz.ntmps18
  go_wp2_with fail
  refine (Pk _).mono ?_
  rintro e W1 ⟨⟨r, rfl, v, u, rfl, ⟨x, xs, rfl, hx, hnx⟩, ⟨y, ys, rfl, hy, hny⟩⟩, hb1⟩
  obtain ⟨a1, c1, rfl⟩ := hx.shape
  obtain ⟨a2, c2, rfl⟩ := hy.shape
  by_cases na : zS a < 0
  · have da : decide (zS a < 0) = true := by simp [na]
    rw [da]
    by_cases nb : zS b < 0
    · have db : decide (zS b < 0) = true := by simp [nb]
      have hc := Lib.hid (cmp_neg na nb)
      rw [db]
      clear na nb
      go_wp2_with fail
      have hb2 := below_two W1 (.cells #[.bool true, .slice a1 xs.length c1] 50) (.cells #[.bool true, .slice a2 ys.length c2] 50)
      refine (compare_any _ _ ys xs _ (hy.below hb2) (hx.below hb2)).mono ?_
      rintro e W2 ⟨rfl, hb3⟩
      go_wp2
      go_ret
      exact ⟨ret_int ((cmpL_num hny hnx).trans hc.out), kb_call hb3 (kb_call hb2 hb1 (Nat.le_refl _)) (Nat.le_refl _)⟩
    · have db : decide (zS b < 0) = false := by simp [nb]
      have hc := Lib.hid (compareInt_lt (a := zS a) (b := zS b) (by omega))
      rw [db]
      clear na nb
      go_wp2
      go_ret
      exact ⟨ret_int hc.out.symm, kb_call (below_two W1 _ _) hb1 (Nat.le_refl _)⟩
  · have da : decide (zS a < 0) = false := by simp [na]
    rw [da]
    by_cases nb : zS b < 0
    · have db : decide (zS b < 0) = true := by simp [nb]
      have hc := Lib.hid (compareInt_gt (a := zS a) (b := zS b) (by omega))
      rw [db]
      clear na nb
      go_wp2
      go_ret
      exact ⟨ret_int hc.out.symm, kb_call (below_two W1 _ _) hb1 (Nat.le_refl _)⟩
    · have db : decide (zS b < 0) = false := by simp [nb]
      have hc := Lib.hid (cmp_pos na nb)
      rw [db]
      clear na nb
      go_wp2_with fail
      have hb2 := below_two W1 (.cells #[.bool false, .slice a1 xs.length c1] 50) (.cells #[.bool false, .slice a2 ys.length c2] 50)
      refine (compare_any _ _ xs ys _ (hx.below hb2) (hy.below hb2)).mono ?_
      rintro e W2 ⟨rfl, hb3⟩
      go_wp2
      go_ret
      exact ⟨ret_int ((cmpL_num hnx hny).trans hc.out), kb_call hb3 (kb_call hb2 hb1 (Nat.le_refl _)) (Nat.le_refl _)⟩

set_option maxRecDepth 100000 in
set_option maxHeartbeats 2000000 in
theorem Compare_bad (a b : ByteArray) (w : World) (h : okS a = false ∨ okS b = false) :
    Calls Tryz.prog 18 #[.string a, .string b] w fun e w' => e = .returned (.int .i64 0) ∧ Below w.heap.size w w' := by
  have Pk := fun W => both_bad a b W h
  go_enter Tryz.func18, Tryz.ntmps18
  go_wp2_with fail
  refine (Pk _).mono ?_
  rintro e W1 ⟨⟨r, rfl, rfl⟩, hb1⟩
  go_wp2
  go_ret
  exact ⟨rfl, kb_call (below_two W1 _ _) hb1 (Nat.le_refl _)⟩

/-- The order of two strings: that of the integers, 0 where one is none. -/
def cmpS (a b : ByteArray) : Int := if okS a && okS b then Lib.compareInt (zS a) (zS b) else 0
/-- integer.Compare. -/
theorem Compare_any (a b : ByteArray) (w : World) :
    Calls Tryz.prog 18 #[.string a, .string b] w fun e w' => e = .returned (.int .i64 (cmpS a b)) ∧ Below w.heap.size w w' := by
  unfold cmpS
  by_cases h : okS a = true ∧ okS b = true
  · rw [h.1, h.2]; exact Compare_ok a b w h.1 h.2
  · rw [(and_false_of h).1]; exact Compare_bad a b w (and_false_of h).2

set_option maxRecDepth 100000 in
theorem Valid_any (s : ByteArray) (w : World) : Calls Tryz.prog 19 #[.string s] w fun e w' => e = .returned (.bool (okS s)) ∧ Below w.heap.size w w' := by
  go_enter Tryz.func19, Tryz.ntmps19
  go_wp2_with fail
  refine (isV s _).mono ?_
  rintro e W1 ⟨rfl, hb1⟩
  go_wp2
  go_ret
  exact ⟨rfl, hb1⟩
set_option maxRecDepth 100000 in
theorem FromInt_any (n : Int) (h0 : -9223372036854775808 ≤ n) (h1 : n ≤ 9223372036854775807) (w : World) (hE : Env w) :
    Calls Tryz.prog 35 #[.int .i64 n] w fun e w' => e = .returned (.string ⟨(Lib.itoa n).toArray⟩) ∧ Below w.heap.size w w' := by
  go_enter Tryz.func35, Tryz.ntmps35
  go_wp2_with fail
  refine (Tryz.strconv_Itoa n h0 h1 _ hE.tab).mono ?_
  rintro e W1 ⟨rfl, k, os, rfl⟩
  go_wp2
  go_ret
  exact ⟨rfl, Lib.below_grow _ w (Nat.le_refl _) k os⟩
end Go.Proofs.YtbnilfjhalildaaGreatDoor
