/- Add, Sub. -/
import Derived.Test.YtbnilfjhalildaaGreatDoorBoth
import Derived.Test.YtbnilfjhalildaaGreatDoorText
namespace Go.Proofs.YtbnilfjhalildaaGreatDoor
open Go.RowKit
attribute [local go_sem] Oper.semAt_some

/-- What a function of package integer returns for the integer z, or for what is no integer. -/
def resT (ok : Bool) (z : Int) : Value := if ok then .tuple #[.string ⟨(txt z).toArray⟩, .int .i64 (erz z)] else .tuple #[.string ⟨#[]⟩, .int .i64 30]

theorem z_bound {s : ByteArray} (h : okS s = true) : -Big < zS s ∧ zS s < Big := (itoa_of_valid h).2
theorem len_of_big {xs : List Int} {n : Int} (h : Num 10000 xs n) (hn : n < Big) : xs.length ≤ 50 := h.length_le (by decide) (by unfold Big at hn; exact Int.lt_of_lt_of_le hn (by decide))
theorem sgn_abs (z : Int) : sgn (decide (z < 0)) z.natAbs = z := by
  unfold sgn
  by_cases h : z < 0
  · simp [h]; omega
  · simp [h]; omega
theorem abs_big {z : Int} (h : -Big < z ∧ z < Big) : (z.natAbs : Int) < Big := by omega

theorem below_two (W : World) (o p : Obj) : Below W.heap.size W ((W.alloc o).alloc p) := ((Below.refl _ _).alloc (Nat.le_refl _) _).alloc (by simp) _
theorem sgn_len {neg : Bool} {n z : Int} {zs : List Int} (h : z = sgn neg n) (hn : Num 10000 zs n) (k : Nat) (hz : -(10000 ^ k) < z ∧ z < 10000 ^ k) : zs.length ≤ k :=
  hn.length_le (by decide) (by cases neg <;> simp [sgn] at h <;> omega)

set_option maxRecDepth 100000 in
set_option maxHeartbeats 2000000 in
theorem add_ok (a b : ByteArray) (w : World) (hE : Env w) (ha : okS a = true) (hb : okS b = true) :
    Calls Tryz.prog 14 #[.string a, .string b] w (Gives w fun r _ => r = resT true (zS a + zS b)) := by
  have Ba := z_bound ha
  have Bb := z_bound hb
  have Pk := fun W => both_ok a b W ha hb
  go_enter Tryz.func14, Tryz.ntmps14
  go_wp2_with fail
  refine (Pk _).mono ?_
  rintro e W1 ⟨⟨r, rfl, v, u, rfl, ⟨x, xs, rfl, hx, hnx⟩, ⟨y, ys, rfl, hy, hny⟩⟩, hb1⟩
  have lx := len_of_big hnx (abs_big Ba)
  have ly := len_of_big hny (abs_big Bb)
  obtain ⟨a1, c1, rfl⟩ := hx.shape
  obtain ⟨a2, c2, rfl⟩ := hy.shape
  go_wp2_with fail
  have hb2 := below_two W1 (.cells #[.bool (decide (zS a < 0)), .slice a1 xs.length c1] 50) (.cells #[.bool (decide (zS b < 0)), .slice a2 ys.length c2] 50)
  refine (sgn_plus_any _ _ _ _ xs ys _ _ _ (hx.below hb2) (hy.below hb2) hnx hny (by omega) (by omega)).mono ?_
  rintro e W2 ⟨⟨r, rfl, neg, u, zs, n, rfl, hz, hnz, hsum⟩, hb3⟩
  rw [sgn_abs, sgn_abs] at hsum
  have lz := sgn_len hsum hnz 51 (by unfold Big at Ba Bb; omega)
  have hbw : Below w.heap.size w W2 := kb_call hb3 (kb_call hb2 hb1 (Nat.le_refl _)) (Nat.le_refl _)
  have hE2 := hE.below hbw (Nat.le_refl _)
  go_wp2_with fail
  refine (text_any neg _ zs n W2 hE2 hz hnz (by omega)).mono ?_
  rintro e W3 ⟨rfl, hb4⟩
  go_wp2
  go_ret2
  exact ⟨⟨_, rfl, by rw [hsum]; rfl⟩, kb_call hb4 hbw (Nat.le_refl _)⟩
set_option maxRecDepth 100000 in
set_option maxHeartbeats 2000000 in
theorem add_bad (a b : ByteArray) (w : World) (h : okS a = false ∨ okS b = false) :
    Calls Tryz.prog 14 #[.string a, .string b] w (Gives w fun r _ => r = resT false 0) := by
  have Pk := fun W => both_bad a b W h
  go_enter Tryz.func14, Tryz.ntmps14
  go_wp2_with fail
  refine (Pk _).mono ?_
  rintro e W1 ⟨⟨r, rfl, rfl⟩, hb1⟩
  go_wp2
  go_ret2
  exact ⟨⟨_, rfl, rfl⟩, kb_call (below_two W1 _ _) hb1 (Nat.le_refl _)⟩

/-- integer.Add. -/
theorem add_any (a b : ByteArray) (w : World) (hE : Env w) :
    Calls Tryz.prog 14 #[.string a, .string b] w (Gives w fun r _ => r = resT (okS a && okS b) (zS a + zS b)) := by
  by_cases h : okS a = true ∧ okS b = true
  · rw [h.1, h.2]; exact add_ok a b w hE h.1 h.2
  · have hf : (okS a && okS b) = false := by
      rw [← Bool.not_eq_true, Bool.and_eq_true]; exact h
    rw [hf]
    refine add_bad a b w ?_
    cases ha : okS a
    · exact .inl rfl
    · cases hb : okS b
      · exact .inr rfl
      · exact absurd ⟨ha, hb⟩ h
end Go.Proofs.YtbnilfjhalildaaGreatDoor
