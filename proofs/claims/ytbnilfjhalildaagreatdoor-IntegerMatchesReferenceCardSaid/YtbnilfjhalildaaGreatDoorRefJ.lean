/- The reference: Root of whatever text, FromInt, ToInt. -/
import Derived.Test.YtbnilfjhalildaaGreatDoorRefI
import Derived.Test.YtbnilfjhalildaaGreatDoorToInt
import Derived.Test.YtbnilfjhalildaaGreatDoorInts
import Derived.Laws.Small
namespace Go.Proofs.YtbnilfjhalildaaGreatDoor
open Go.RowKit
attribute [local go_sem] Oper.semAt_some

set_option maxRecDepth 100000 in
set_option maxHeartbeats 4000000 in
theorem rroot_neg (a : ByteArray) (ha : okS a = true) (h0 : zS a < 0) (hsa : a.size ≤ 9223372036854775807) (w : World) :
    Calls Tryz.prog 30 #[.string a] w (Gives w fun r _ => r = resT false 0) := by
  have V1 := fun W => rvalid_any a hsa W
  rw [ha] at V1
  have hp := okS_pos ha
  have hm : (((a[0]).toNat : Int) == 45) = true := by
    have h1 := okS_minus ha hp
    rw [decide_eq_true h0] at h1
    rw [of_decide_eq_true h1]; rfl
  have hpi : (0 : Int) < (a.size : Int) := by omega
  clear h0
  go_enter Tryz.func30, Tryz.ntmps30
  go_wp2_with fail
  refine (V1 _).mono ?_
  rintro e w1 ⟨rfl, hb1⟩
  go_wp2
  go_ret2
  exact ⟨⟨_, rfl, rfl⟩, hb1⟩

set_option maxRecDepth 100000 in
set_option maxHeartbeats 4000000 in
theorem rroot_bad (a : ByteArray) (ha : okS a = false) (hsa : a.size ≤ 9223372036854775807) (w : World) :
    Calls Tryz.prog 30 #[.string a] w (Gives w fun r _ => r = resT false 0) := by
  have V1 := fun W => rvalid_any a hsa W
  rw [ha] at V1
  go_enter Tryz.func30, Tryz.ntmps30
  go_wp2_with fail
  refine (V1 _).mono ?_
  rintro e w1 ⟨rfl, hb1⟩
  go_wp2
  go_ret2
  exact ⟨⟨_, rfl, rfl⟩, hb1⟩

/-- putlogref03.Root. -/
theorem rroot_any (a : ByteArray) (hsa : a.size ≤ 9223372036854775807) (w : World) :
    Calls Tryz.prog 30 #[.string a] w (Gives w fun r _ => r = rootT (okS a) (zS a)) := by
  unfold rootT
  cases h : okS a
  · rw [Bool.false_and, resT_false _ 0]; exact rroot_bad a h hsa w
  · by_cases h0 : zS a < 0
    · rw [show decide (zS a < 0) = true by simp [h0], show (true && !true) = false from rfl, resT_false _ 0]; exact rroot_neg a h h0 hsa w
    · rw [show decide (zS a < 0) = false by simp [h0]]; exact rroot_ok a h (by omega) hsa w

/-- The digits of a number that were taken, and what is left of it. -/
def FT (zs : List Int) (M N : Int) : Prop := Dig 10 zs ∧ val 10 zs + M * 10 ^ zs.length = N ∧ (M = 0 → Top zs)
theorem FT.start (N : Int) : FT [] N N := ⟨Dig.nil 10, by simp [val], fun _ k hk => by simp at hk⟩
theorem FT.next {zs : List Int} {M N : Int} (h : FT zs M N) (h0 : 0 < M) : FT (zs ++ [M % 10]) (M / 10) N := by
  obtain ⟨h1, h2, h3⟩ := h
  refine ⟨h1.snoc (by omega) (by omega), ?_, fun e => (top_snoc (by omega)).out⟩
  rw [val_snoc, List.length_append, List.length_singleton, Int.pow_succ, ← h2]
  have e : M = M % 10 + 10 * (M / 10) := by omega
  have e2 : M * 10 ^ zs.length = M % 10 * 10 ^ zs.length + 10 * (M / 10) * 10 ^ zs.length := by rw [← Int.add_mul, ← e]
  have e3 : M / 10 * (10 ^ zs.length * 10) = 10 * (M / 10) * 10 ^ zs.length := by
    rw [Int.mul_comm (10 ^ zs.length) 10, ← Int.mul_assoc, Int.mul_comm (M / 10) 10]
  omega
theorem FT.len {zs : List Int} {M N : Int} (h : FT zs M N) (h0 : 0 < M) (hN : N < 10 ^ 20) : zs.length < 20 := by
  obtain ⟨h1, h2, _⟩ := h
  have h3 := (val_bounds (by decide) h1).1
  have h4 := Int.mul_le_mul_of_nonneg_right (show (1 : Int) ≤ M by omega) (Int.le_of_lt (pow_pos' (b := 10) (by decide) zs.length))
  exact pow_lt (b := 10) (by decide) (by omega)
theorem FT.num {zs : List Int} {N : Int} (h : FT zs 0 N) : Num 10 zs N := ⟨h.1, h.2.2 rfl, by have := h.2.1; omega⟩

theorem tdiv_eq_neg {x k : Int} (h : x < 0) : x.tdiv k = -((-x) / k) := by
  rw [Go.tdiv_eq_if, if_neg (by omega)]
theorem tmod_eq_neg {x k : Int} (h : x < 0) : x.tmod k = -((-x) % k) := by
  rw [Go.tmod_eq_if, if_neg (by omega)]
set_option maxRecDepth 100000 in
set_option maxHeartbeats 8000000 in
theorem rfrom_pos (n : Int) (h0 : 0 ≤ n) (h1 : n ≤ 9223372036854775807) (w : World) :
    Calls Tryz.prog 24 #[.int .i64 n] w (Gives w fun r _ => r = .string (I n)) := by
  have HS := Lib.hid (show sgn (decide (n < 0)) n = n by rw [decide_eq_false (by omega)]; rfl)
  go_enter Tryz.func24, Tryz.ntmps24
  go_wp2
  go_loopw [3, 4] (fun o m wr => ∃ (M : Int) (zs : List Int), m = .int .i64 M ∧ 0 ≤ M ∧ M ≤ 9223372036854775807 ∧ Hid (FT zs M n) ∧ zs.length ≤ 20 ∧ wr.ownsRow w.heap.size 3 1 o zs.length (zs.map (Value.int .i64)) ∧ Below w.heap.size w wr)
    (fun _ m _ => (intOf m).toNat)
  case atStart => exact ⟨n, [], rfl, h0, h1, FT.start n, by simp, World.ownsRow_nil _ _ _ _, Below.refl _ _⟩
  case round =>
    obtain ⟨M, zs, rfl, hM0, hM1, hF, hlen, hown, hB⟩ := hrel
    by_cases hz : M = 0
    · subst hz
      have hsl := Sl.of_own hown
      have hnum := hF.out.num
      clear hown
      go_wp2_with fail
      refine (rtext_any _ _ zs _ _ hsl hnum (by omega)).mono ?_
      rintro e w2 ⟨rfl, hb2⟩
      go_wp2
      go_ret
      exact ⟨⟨_, rfl, congrArg (fun z => Value.string ⟨(Lib.itoa z).toArray⟩) HS.out⟩, kb_call hb2 hB (Nat.le_refl _)⟩
    · have hMp : 0 < M := by omega
      have hl20 := hF.out.len hMp (by omega)
      have HF := Lib.hid (hF.out.next hMp)
      clear hlen
      go_wp2_with (at_builtin; refine wp_app_int (M % 10) 44 Tryz.underlying44 rfl _ _ rfl rfl rfl hown (by omega) hB.size ?_; intro g cp w2 hown2 hg2 hb2)
      go_roundw
      case rel => exact ⟨M / 10, zs ++ [M % 10], rfl, by omega, by omega, HF.out, (by rw [List.length_append]; simp; omega), (by rw [List.length_append]; exact hown2), hB.trans hb2⟩
      case measure => simp [intOf]; omega
set_option maxRecDepth 100000 in
set_option maxHeartbeats 8000000 in
theorem rfrom_neg (n : Int) (h0 : n < 0) (h1 : -9223372036854775808 ≤ n) (w : World) :
    Calls Tryz.prog 24 #[.int .i64 n] w (Gives w fun r _ => r = .string (I n)) := by
  have HS := Lib.hid (show sgn true (-n) = n by show -(-n) = n; omega)
  go_enter Tryz.func24, Tryz.ntmps24
  go_wp2
  go_loopw [3, 4] (fun o m wr => ∃ (M : Int) (zs : List Int), m = .int .i64 M ∧ M ≤ 0 ∧ -9223372036854775808 ≤ M ∧ Hid (FT zs (-M) (-n)) ∧ zs.length ≤ 20 ∧ wr.ownsRow w.heap.size 3 1 o zs.length (zs.map (Value.int .i64)) ∧ Below w.heap.size w wr)
    (fun _ m _ => (-intOf m).toNat)
  case atStart => exact ⟨n, [], rfl, by omega, h1, FT.start (-n), by simp, World.ownsRow_nil _ _ _ _, Below.refl _ _⟩
  case round =>
    obtain ⟨M, zs, rfl, hM0, hM1, hF, hlen, hown, hB⟩ := hrel
    by_cases hz : M = 0
    · subst hz
      have hsl := Sl.of_own hown
      have hnum := hF.out.num
      clear hown
      go_wp2_with fail
      refine (rtext_any _ _ zs _ _ hsl hnum (by omega)).mono ?_
      rintro e w2 ⟨rfl, hb2⟩
      go_wp2
      go_ret
      exact ⟨⟨_, rfl, congrArg (fun z => Value.string ⟨(Lib.itoa z).toArray⟩) HS.out⟩, kb_call hb2 hB (Nat.le_refl _)⟩
    · have hMp : 0 < -M := by omega
      have hl20 := hF.out.len hMp (by omega)
      have HF := Lib.hid (hF.out.next hMp)
      have q1 : M.tdiv 10 = -((-M) / 10) := by rw [tdiv_eq_neg (by omega)]
      have q2 : M.tmod 10 = -((-M) % 10) := by rw [tmod_eq_neg (by omega)]
      have Q1 := Lib.hid q1
      have Q2 := Lib.hid q2
      have d0 : -9 ≤ M.tmod 10 := by omega
      have d1 : M.tmod 10 ≤ 0 := by omega
      clear hlen q1 q2
      by_cases hd : M.tmod 10 < 0
      · go_wp2_with (at_builtin; refine wp_app_int (-(M.tmod 10)) 44 Tryz.underlying44 rfl _ _ rfl rfl rfl hown (by omega) hB.size ?_; intro g cp w2 hown2 hg2 hb2)
        go_roundw
        case rel => exact ⟨M.tdiv 10, zs ++ [-(M.tmod 10)], rfl, by have := Q1.out; omega, by have := Q1.out; omega, (show FT _ _ _ by rw [Q1.out, Q2.out, Int.neg_neg, Int.neg_neg]; exact HF.out), (by rw [List.length_append]; simp; omega), (by rw [List.length_append]; exact hown2), hB.trans hb2⟩
        case measure => have := Q1.out; simp [intOf]; omega
      · have hd0 : M.tmod 10 = 0 := by omega
        have HD0 := Lib.hid hd0
        clear hd0
        go_wp2_with (at_builtin; refine wp_app_int (M.tmod 10) 44 Tryz.underlying44 rfl _ _ rfl rfl rfl hown (by omega) hB.size ?_; intro g cp w2 hown2 hg2 hb2)
        go_roundw
        case rel => exact ⟨M.tdiv 10, zs ++ [M.tmod 10], rfl, by have := Q1.out; omega, by have := Q1.out; omega, (show FT _ _ _ by
          have e : M.tmod 10 = -M % 10 := by have := Q2.out; have := HD0.out; omega
          rw [Q1.out, e, Int.neg_neg]; exact HF.out), (by rw [List.length_append]; simp; omega), (by rw [List.length_append]; exact hown2), hB.trans hb2⟩
        case measure => have := Q1.out; simp [intOf]; omega

/-- putlogref03.FromInt. -/
theorem rfrom_any (n : Int) (h0 : -9223372036854775808 ≤ n) (h1 : n ≤ 9223372036854775807) (w : World) :
    Calls Tryz.prog 24 #[.int .i64 n] w (Gives w fun r _ => r = .string (I n)) := by
  by_cases h : n < 0
  · exact rfrom_neg n h h0 w
  · exact rfrom_pos n (by omega) h1 w
end Go.Proofs.YtbnilfjhalildaaGreatDoor
