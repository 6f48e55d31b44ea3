/- The reference: ToInt. -/
import Derived.Test.YtbnilfjhalildaaGreatDoorRefJ
import Derived.Test.YtbnilfjhalildaaGreatDoorTests
namespace Go.Proofs.YtbnilfjhalildaaGreatDoor
open Go.RowKit
attribute [local go_sem] Oper.semAt_some

theorem dnum_take_le (l : List UInt8) (k : Nat) : dnum (l.take k) ≤ dnum l := by
  have h := dnum_append (l.take k) (l.drop k)
  rw [List.take_append_drop] at h
  have h2 := Nat.le_mul_of_pos_right (dnum (l.take k)) (Nat.pow_pos (n := (l.drop k).length) (by decide : 0 < 10))
  omega
/-- One byte more of a text's digits. -/
theorem dnum_next {l : List UInt8} {k : Nat} (h : k < l.length) (hd : 48 ≤ (l[k]).toNat) : (dnum (l.take (k + 1)) : Int) = 10 * (dnum (l.take k) : Int) + ((l[k].toNat : Int) - 48) := by
  rw [List.take_succ_eq_append_getElem h, dnum_snoc]
  omega

def minS : ByteArray := ⟨#[45, 57, 50, 50, 51, 51, 55, 50, 48, 51, 54, 56, 53, 52, 55, 55, 53, 56, 48, 56]⟩
def maxS : ByteArray := ⟨#[57, 50, 50, 51, 51, 55, 50, 48, 51, 54, 56, 53, 52, 55, 55, 53, 56, 48, 55]⟩
theorem minS_ok : okS minS = true ∧ zS minS = -9223372036854775808 := by decide +kernel
theorem maxS_ok : okS maxS = true ∧ zS maxS = 9223372036854775807 := by decide +kernel
theorem cmp_min (s : ByteArray) (h : okS s = true) : cmpS s minS = Lib.compareInt (zS s) (-9223372036854775808) := by
  unfold cmpS; rw [minS_ok.1, minS_ok.2, h]; rfl
theorem cmp_max (s : ByteArray) (h : okS s = true) : cmpS s maxS = Lib.compareInt (zS s) 9223372036854775807 := by
  unfold cmpS; rw [maxS_ok.1, maxS_ok.2, h]; rfl

set_option maxRecDepth 100000 in
set_option maxHeartbeats 4000000 in
theorem rto_bad (s : ByteArray) (h : okS s = false) (hs : s.size ≤ 9223372036854775807) (w : World) :
    Calls Tryz.prog 32 #[.string s] w (Gives w fun r _ => r = .tuple #[.int .i64 0, .int .i64 30]) := by
  have V1 := fun W => rvalid_any s hs W
  rw [h] at V1
  go_enter Tryz.func32, Tryz.ntmps32
  go_wp2_with fail
  refine (V1 _).mono ?_
  rintro e w1 ⟨rfl, hb1⟩
  go_wp2
  go_ret2
  exact ⟨⟨_, rfl, rfl⟩, hb1⟩

set_option maxRecDepth 100000 in
set_option maxHeartbeats 4000000 in
theorem rto_low (s : ByteArray) (h : okS s = true) (hz : zS s < -9223372036854775808) (hs : s.size ≤ 9223372036854775807) (w : World) :
    Calls Tryz.prog 32 #[.string s] w (Gives w fun r _ => r = .tuple #[.int .i64 0, .int .i64 30]) := by
  have V1 := fun W => rvalid_any s hs W
  have C1 := fun W => rcmp_any s minS hs (by decide) W
  rw [h] at V1
  rw [cmp_min s h, compareInt_lt hz] at C1
  clear hz
  go_enter Tryz.func32, Tryz.ntmps32
  go_wp2_with fail
  refine (V1 _).mono ?_
  rintro e w1 ⟨rfl, hb1⟩
  go_wp2_with fail
  refine (C1 _).mono ?_
  rintro e w2 ⟨rfl, hb2⟩
  go_wp2
  go_ret2
  exact ⟨⟨_, rfl, rfl⟩, kb_call hb2 hb1 (Nat.le_refl _)⟩

set_option maxRecDepth 100000 in
set_option maxHeartbeats 4000000 in
theorem rto_high (s : ByteArray) (h : okS s = true) (hz : 9223372036854775807 < zS s) (hs : s.size ≤ 9223372036854775807) (w : World) :
    Calls Tryz.prog 32 #[.string s] w (Gives w fun r _ => r = .tuple #[.int .i64 0, .int .i64 30]) := by
  have V1 := fun W => rvalid_any s hs W
  have C1 := fun W => rcmp_any s minS hs (by decide) W
  have C2 := fun W => rcmp_any s maxS hs (by decide) W
  rw [h] at V1
  rw [cmp_min s h, compareInt_gt (by omega)] at C1
  rw [cmp_max s h, compareInt_gt hz] at C2
  clear hz
  go_enter Tryz.func32, Tryz.ntmps32
  go_wp2_with fail
  refine (V1 _).mono ?_
  rintro e w1 ⟨rfl, hb1⟩
  go_wp2_with fail
  refine (C1 _).mono ?_
  rintro e w2 ⟨rfl, hb2⟩
  go_wp2_with fail
  refine (C2 _).mono ?_
  rintro e w3 ⟨rfl, hb3⟩
  go_wp2
  go_ret2
  exact ⟨⟨_, rfl, rfl⟩, kb_call hb3 (kb_call hb2 hb1 (Nat.le_refl _)) (Nat.le_refl _)⟩
set_option maxRecDepth 100000 in
set_option maxHeartbeats 8000000 in
theorem rto_pos (s : ByteArray) (h : okS s = true) (hF : Fits (zS s)) (hs : s.size ≤ 9223372036854775807) (hp : 0 < s.size) (hm0 : ¬ s[0] = 45) (w : World) :
    Calls Tryz.prog 32 #[.string s] w (Gives w fun r _ => r = .tuple #[.int .i64 (zS s), .int .i64 0]) := by
  have V1 := fun W => rvalid_any s hs W
  have C1 := fun W => rcmp_any s minS hs (by decide) W
  have C2 := fun W => rcmp_any s maxS hs (by decide) W
  rw [h] at V1
  rw [cmp_min s h] at C1
  rw [cmp_max s h] at C2
  obtain ⟨c1, e1, k1, _⟩ := cmp_ge hF.1
  obtain ⟨c2, e2, k2, _⟩ := cmp_le hF.2
  rw [← e1] at C1
  rw [← e2] at C2
  clear e1 e2
  have hv : validB s.data.toList = true := h
  obtain ⟨h1, h2, h3, h4⟩ := valid_parts hv
  have eb : body s.data.toList = s.data.toList := by
    cases hl : s.data.toList with
    | nil => rfl
    | cons c r => exact body_plain r (first_ne hp hm0 c r hl)
  rw [eb] at h1 h2 h3 h4
  have hneg : ¬ zS s < 0 := by
    have hl : decide (s.data.toList.length < s.data.toList.length) = false := decide_eq_false (by omega)
    rw [hl] at h3
    exact of_decide_eq_false h3.symm
  have HZ := Lib.hid (show (dnum s.data.toList : Int) = zS s by show _ = ival _; have : ¬ ival s.data.toList < 0 := hneg; omega)
  have HA := Lib.hid h1
  have hzF := hF.2
  have hm : (((s[0]).toNat : Int) == 45) = false := byte_eq_no hm0
  have hpi : (0 : Int) < (s.size : Int) := by omega
  rw [data_len] at h2
  clear h1 h3 h4 eb hv hm0 hneg hF
  go_enter Tryz.func32, Tryz.ntmps32
  go_wp2_with fail
  refine (V1 _).mono ?_
  rintro e w1 ⟨rfl, hb1⟩
  go_wp2_with fail
  refine (C1 _).mono ?_
  rintro e w2 ⟨rfl, hb2⟩
  go_wp2_with fail
  refine (C2 _).mono ?_
  rintro e w3 ⟨rfl, hb3⟩
  have hB3 := kb_call hb3 (kb_call hb2 hb1 (Nat.le_refl _)) (Nat.le_refl _)
  clear hb1 hb2 hb3
  go_wp2
  go_loop [4, 5] (fun n i => ∃ (k : Nat) (m : Int), n = .int .i64 m ∧ i = .int .i64 k ∧ k ≤ s.size ∧ Hid (m = (dnum (s.data.toList.take k) : Int)) ∧ 0 ≤ m ∧ m ≤ 9223372036854775807) (fun _ i => s.size - (intOf i).toNat)
  case atStart => exact ⟨0, 0, rfl, rfl, by omega, rfl, by decide, by decide⟩
  case round =>
    obtain ⟨k, m, rfl, rfl, hk, hm2, hm0, hm1⟩ := hrel
    by_cases hlt : k < s.size
    · have hidx : (k : Int) < (s.size : Int) := by omega
      have hkl : k < s.data.toList.length := by rw [data_len]; exact hlt
      have hd := isD_iff.1 (HA.out s[k] (by rw [← data_get s k hlt]; exact List.getElem_mem _))
      have l1 : (48 : Int) ≤ ((s[k]).toNat : Int) := by omega
      have l2 : ((s[k]).toNat : Int) ≤ 57 := by omega
      have hnx := dnum_next hkl (by rw [data_get s k hlt]; exact hd.1)
      rw [data_get s k hlt, ← hm2.out] at hnx
      have hle : (dnum (s.data.toList.take (k + 1)) : Int) ≤ 9223372036854775807 := by
        have := dnum_take_le s.data.toList (k + 1)
        have := HZ.out
        omega
      rw [hnx] at hle
      have HN := Lib.hid hnx
      have hmk : (((s[k]).toNat : Int) == 45) = false := by rw [beq_eq_false_iff_ne]; omega
      have l3 : 0 ≤ 10 * m + (((s[k]).toNat : Int) - 48) := by omega
      clear hd hnx
      go_wp2
      go_round
      case rel => exact ⟨k + 1, _, rfl, by go_num, by omega, HN.out.symm, l3, hle⟩
      case measure => simp [intOf]; omega
    · have hks : s.size ≤ k := by omega
      have HE := Lib.hid (show m = zS s by rw [← HZ.out, hm2.out, List.take_of_length_le (by rw [data_len]; exact hks)])
      go_wp2
      go_ret2
      exact ⟨⟨_, rfl, congrArg (fun z => Value.tuple #[.int .i64 z, .int .i64 0]) HE.out⟩, hB3⟩

set_option maxRecDepth 100000 in
set_option maxHeartbeats 8000000 in
theorem rto_neg (s : ByteArray) (h : okS s = true) (hF : Fits (zS s)) (hs : s.size ≤ 9223372036854775807) (hp : 0 < s.size) (hm0 : s[0] = 45) (w : World) :
    Calls Tryz.prog 32 #[.string s] w (Gives w fun r _ => r = .tuple #[.int .i64 (zS s), .int .i64 0]) := by
  have V1 := fun W => rvalid_any s hs W
  have C1 := fun W => rcmp_any s minS hs (by decide) W
  have C2 := fun W => rcmp_any s maxS hs (by decide) W
  rw [h] at V1
  rw [cmp_min s h] at C1
  rw [cmp_max s h] at C2
  obtain ⟨c1, e1, k1, _⟩ := cmp_ge hF.1
  obtain ⟨c2, e2, k2, _⟩ := cmp_le hF.2
  rw [← e1] at C1
  rw [← e2] at C2
  clear e1 e2
  have hv : validB s.data.toList = true := h
  obtain ⟨h1, h2, h3, h4⟩ := valid_parts hv
  obtain ⟨t, ht⟩ : ∃ t, s.data.toList = 45 :: t := ⟨_, first_eq hp hm0⟩
  have eb : body s.data.toList = t := by rw [ht, body_minus]
  rw [eb] at h1 h2 h3 h4
  have hneg : zS s < 0 := by
    have hl : decide (t.length < s.data.toList.length) = true := decide_eq_true (by rw [ht]; simp)
    rw [hl] at h3
    exact of_decide_eq_true h3.symm
  have HZ := Lib.hid (show -(dnum t : Int) = zS s by show _ = ival _; have : ival s.data.toList < 0 := hneg; omega)
  have HA := Lib.hid h1
  have HT := Lib.hid ht
  have hzF := hF.1
  have hm : (((s[0]).toNat : Int) == 45) = true := by rw [hm0]; rfl
  have hpi : (0 : Int) < (s.size : Int) := by omega
  have hsz : s.size = t.length + 1 := by rw [← data_len, ht]; rfl
  clear h1 h3 h4 eb hv hm0 hneg hF ht
  go_enter Tryz.func32, Tryz.ntmps32
  go_wp2_with fail
  refine (V1 _).mono ?_
  rintro e w1 ⟨rfl, hb1⟩
  go_wp2_with fail
  refine (C1 _).mono ?_
  rintro e w2 ⟨rfl, hb2⟩
  go_wp2_with fail
  refine (C2 _).mono ?_
  rintro e w3 ⟨rfl, hb3⟩
  have hB3 := kb_call hb3 (kb_call hb2 hb1 (Nat.le_refl _)) (Nat.le_refl _)
  clear hb1 hb2 hb3
  go_wp2
  go_loop [4, 5] (fun n i => ∃ (k : Nat) (m : Int), n = .int .i64 m ∧ i = .int .i64 k ∧ k ≤ s.size ∧ Hid (m = -(dnum (t.take (k - 1)) : Int)) ∧ m ≤ 0 ∧ -9223372036854775808 ≤ m) (fun _ i => s.size - (intOf i).toNat)
  case atStart => exact ⟨0, 0, rfl, rfl, by omega, rfl, by decide, by decide⟩
  case round =>
    obtain ⟨k, m, rfl, rfl, hk, hm2, hm0, hm1⟩ := hrel
    by_cases hlt : k < s.size
    · have hidx : (k : Int) < (s.size : Int) := by omega
      cases k with
      | zero =>
        obtain rfl : m = 0 := hm2.out
        go_wp2
        go_round
        case rel => exact ⟨1, 0, rfl, by go_num, by omega, rfl, by decide, by decide⟩
        case measure => simp [intOf]; omega
      | succ j =>
        have hjl : j < t.length := by omega
        have hget : t[j] = s[j + 1] := by
          rw [← data_get s (j + 1) hlt]
          simp [HT.out]
        have hd := isD_iff.1 (HA.out t[j] (List.getElem_mem _))
        have hnx := dnum_next hjl hd.1
        rw [hget] at hd hnx
        have l1 : (48 : Int) ≤ ((s[j + 1]).toNat : Int) := by omega
        have l2 : ((s[j + 1]).toNat : Int) ≤ 57 := by omega
        have hm3 : m = -(dnum (t.take j) : Int) := hm2.out
        have hle : -9223372036854775808 ≤ -(dnum (t.take (j + 1)) : Int) := by
          have := dnum_take_le t (j + 1)
          have := HZ.out
          omega
        rw [hnx] at hle
        have hle2 : -9223372036854775808 ≤ 10 * m + -(((s[j + 1]).toNat : Int) - 48) := by omega
        have HN := Lib.hid (show 10 * m + -(((s[j + 1]).toNat : Int) - 48) = -(dnum (t.take (j + 1)) : Int) by omega)
        have hmk : (((s[j + 1]).toNat : Int) == 45) = false := by rw [beq_eq_false_iff_ne]; omega
        have l3 : 10 * m + -(((s[j + 1]).toNat : Int) - 48) ≤ 0 := by omega
        clear hd hnx hm3 hle hget
        go_wp2
        go_round
        case rel => exact ⟨j + 1 + 1, _, rfl, by go_num, by omega, HN.out, l3, hle2⟩
        case measure => simp [intOf]; omega
    · have hks : s.size ≤ k := by omega
      have HE := Lib.hid (show m = zS s by rw [← HZ.out, hm2.out, List.take_of_length_le (by omega)])
      go_wp2
      go_ret2
      exact ⟨⟨_, rfl, congrArg (fun z => Value.tuple #[.int .i64 z, .int .i64 0]) HE.out⟩, hB3⟩

/-- putlogref03.ToInt. -/
theorem rto_any (s : ByteArray) (hs : s.size ≤ 9223372036854775807) (w : World) :
    Calls Tryz.prog 32 #[.string s] w (Gives w fun r _ => r = toT s) := by
  unfold toT
  cases h : okS s with
  | false => rw [if_neg (fun e => by cases e.1)]; exact rto_bad s h hs w
  | true =>
    by_cases hF : Fits (zS s)
    · rw [if_pos ⟨rfl, hF⟩]
      by_cases hm : s[0]'(okS_pos h) = 45
      · exact rto_neg s h hF hs (okS_pos h) hm w
      · exact rto_pos s h hF hs (okS_pos h) hm w
    · rw [if_neg (fun e => hF e.2)]
      by_cases h1 : zS s < -9223372036854775808
      · exact rto_low s h h1 hs w
      · exact rto_high s h (by unfold Fits at hF; omega) hs w
end Go.Proofs.YtbnilfjhalildaaGreatDoor
