/- The reference's Made: an integer that a string determines. -/
import Derived.Test.YtbnilfjhalildaaGreatDoorRefA
namespace Go.Proofs.YtbnilfjhalildaaGreatDoor
open Go.RowKit
attribute [local go_sem] Oper.semAt_some

theorem pow_num_lt {xs : List Int} {n : Int} (h : Num 10 xs n) {k : Nat} (hk : xs.length ≤ k) : n < 10 ^ k :=
  Int.lt_of_lt_of_le (h.lt (by decide)) (pow_mono (by decide) hk)
theorem sgn_bound {n : Int} {B : Int} (h0 : 0 ≤ n) (h1 : n < B) (b : Bool) : -B < sgn b n ∧ sgn b n < B := by
  cases b <;> simp [sgn] <;> omega

theorem rtrim_nil (w : World) : Calls Tryz.prog 37 #[.slice none 0 0] w fun e w' => e = .returned (.slice none 0 0) ∧ w' = w := by
  go_enter Tryz.func37, Tryz.ntmps37
  go_wp2
  go_loop [0] (fun s => s = .slice none 0 0) (fun _ => 0)
  case atStart => rfl
  case round =>
    obtain rfl := hrel
    go_wp2
    go_ret
    exact ⟨rfl, rfl⟩
set_option maxRecDepth 100000 in
theorem rtext_nil (w : World) : Calls Tryz.prog 36 #[.bool false, .slice none 0 0] w fun e w' => e = .returned (.tuple #[.string ⟨#[48]⟩, .bool true]) ∧ w' = w := by
  go_enter Tryz.func36, Tryz.ntmps36
  go_wp2
  go_ret2
  exact ⟨rfl, rfl⟩

set_option maxRecDepth 100000 in
set_option maxHeartbeats 4000000 in
theorem made_empty (most : Nat) (w : World) :
    Calls Tryz.prog 13 #[.string ⟨#[]⟩, .int .i64 most] w (Gives w fun r _ => ∃ z : Int, r = .string ⟨(Lib.itoa z).toArray⟩ ∧ -(10 ^ most) < z ∧ z < 10 ^ most) := by
  have hp : (0 : Int) < 10 ^ most := Int.pow_pos (by decide)
  have hP : ∀ b, -(10 ^ most : Int) < sgn b 0 ∧ sgn b 0 < (10 ^ most : Int) := fun b => by cases b <;> simp [sgn] <;> omega
  have HP := Lib.hid hP
  clear hp hP
  go_enter Tryz.func13, Tryz.ntmps13
  go_wp2
  go_loop [5, 6] (fun v i => v = .slice none 0 0 ∧ i = .int .i64 0) (fun _ _ => 0)
  case atStart => exact ⟨rfl, rfl⟩
  case round =>
    obtain ⟨rfl, rfl⟩ := hrel
    go_wp2_with fail
    go_quiet ((first | (go_at_call 37; exact Calls.quiet_of_same (rtrim_nil _)) | (go_at_call 36; exact Calls.quiet_of_same (rtext_nil _))))
    go_wp2
    go_ret
    exact ⟨⟨_, rfl, 0, (by rw [show Lib.itoa (0 : Int) = [48] from itoa_zero false]; rfl), HP.out false⟩, below_drewN _ _⟩

set_option maxRecDepth 100000 in
set_option maxHeartbeats 4000000 in
theorem made_pos (s : ByteArray) (hs0 : ¬ s.size = 0) (hs : s.size ≤ 9223372036854775807) (most : Nat) (hm : most ≤ 200) (w : World) :
    Calls Tryz.prog 13 #[.string s, .int .i64 most] w (Gives w fun r _ => ∃ z : Int, r = .string ⟨(Lib.itoa z).toArray⟩ ∧ -(10 ^ most) < z ∧ z < 10 ^ most) := by
  have hs0 := Lib.hid hs0
  go_enter Tryz.func13, Tryz.ntmps13
  go_wp2
  go_loopw [5, 6] (fun v i wr => ∃ (k : Nat) (ds : List Int), i = .int .i64 k ∧ k ≤ s.size ∧ k ≤ most ∧ ds.length = k ∧ Dig 10 ds ∧ wr.ownsRow w.heap.size 3 1 v ds.length (ds.map (Value.int .i64)) ∧ Below w.heap.size w wr)
    (fun _ i _ => s.size - (intOf i).toNat)
  case atStart => exact ⟨0, [], rfl, by omega, by omega, rfl, Dig.nil _, World.ownsRow_nil _ _ _ _, Below.refl _ _⟩
  case round =>
    obtain ⟨k, ds, rfl, hk, hkm, hlen, hdig, hown, hB⟩ := hrel
    by_cases h1 : k < s.size ∧ k < most
    · obtain ⟨h1, h2⟩ := h1
      have h1' : decide ((k : Int) < (s.size : Int)) = true := by simp; omega
      have h2' : decide ((k : Int) < (most : Int)) = true := by simp; omega
      have hb := UInt8.toNat_lt (s[k])
      have hb2 : ((s[k]).toNat : Int) < 256 := by omega
      have hd0 : (0 : Int) ≤ ((s[k]).toNat : Int) % 10 := by omega
      have hd1 : ((s[k]).toNat : Int) % 10 < 10 := by omega
      have Hlen := Lib.hid hlen
      clear hlen
      go_wp2_with (at_builtin; refine wp_app_int (((s[k]).toNat : Int) % 10) 44 Tryz.underlying44 rfl _ _ rfl rfl rfl hown (by have := Hlen.out; omega) hB.size ?_; intro g cp w2 hown2 hg2 hb2)
      go_roundw
      case rel => exact ⟨k + 1, ds ++ [((s[k]).toNat : Int) % 10], by go_num, by omega, by omega, (by rw [List.length_append, Hlen.out]; rfl), hdig.snoc hd0 hd1, (by rw [List.length_append]; exact hown2), hB.trans hb2⟩
      case measure => simp [intOf]; omega
    · have hsl : Sl wr.drew u5 ds := (Sl.of_own hown).below (below_drewN wr 1)
      have hdr : Below w.heap.size w wr.drew := ⟨hB.os, hB.tape, hB.output, hB.size, hB.block⟩
      have hnt := Num.trim hdig
      have htl := trim_len ds
      have hP := Lib.hid (fun b => sgn_bound (hnt.nonneg (by decide)) (pow_num_lt hnt (k := most) (by omega)) b)
      have hlt : (trim ds).length ≤ 1000000 := by omega
      have hguard : s.size ≤ k ∨ k < s.size ∧ most ≤ k := by omega
      clear h1 htl hlen
      rcases hguard with hg | ⟨hg, hg2⟩
      all_goals
        by_cases hz : s.size = 0
        · exact absurd hz hs0.out
        · have hz1 : decide ((0 : Int) < (s.size : Int)) = true := decide_eq_true (by omega)
          have hz3 : decide (0 < s.size) = true := decide_eq_true (by omega)
          have hz2 : 0 < s.size := by omega
          clear hz
          generalize hbv : decide ((128 : Int) ≤ ((s[0]).toNat : Int)) = bv
          go_wp2_with fail
          go_region_held3 (fun _ => True) (trivial)
            (first | (go_at_call 37; refine (rtrim_any _ ds _ hsl).mono ?_; rintro e w' ⟨⟨v', rfl, hz, _⟩, rfl⟩) | (go_at_call 36; refine (rtext_any _ _ (trim ds) _ _ hz hnt hlt).mono ?_; rintro e w2 ⟨rfl, hb2⟩))
          all_goals
            go_wp2
            go_ret
            exact ⟨⟨_, rfl, _, rfl, hP.out _⟩, hdr.trans (hb2.mono hB.size)⟩
/-- putlogref03.Made. -/
theorem made_any (s : ByteArray) (hs : s.size ≤ 9223372036854775807) (most : Nat) (hm : most ≤ 200) (w : World) :
    Calls Tryz.prog 13 #[.string s, .int .i64 most] w (Gives w fun r _ => ∃ z : Int, r = .string ⟨(Lib.itoa z).toArray⟩ ∧ -(10 ^ most) < z ∧ z < 10 ^ most) := by
  by_cases h : s.size = 0
  · have e : s = ⟨#[]⟩ := ByteArray.ext (Array.eq_empty_of_size_eq_zero h)
    subst e
    exact made_empty most w
  · exact made_pos s h hs most hm w
end Go.Proofs.YtbnilfjhalildaaGreatDoor
