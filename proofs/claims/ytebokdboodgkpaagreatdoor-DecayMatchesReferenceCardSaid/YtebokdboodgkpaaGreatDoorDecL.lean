/- putloglaw26, putlogref26: small functions. -/
import Derived.Test.YtebokdboodgkpaaGreatDoorDecJ
import Derived.Test.YtebokdboodgkpaaGreatDoorPkJ

import Derived.Deep.RegionHeld3
import Derived.Deep.DeepCutAuto
import Derived.Deep.QuietTactic
import Derived.BigQuiet
import Derived.RegionTactic
import Derived.BigRegion
namespace Go.Proofs.YtebokdboodgkpaaGreatDoor
open Go.RowKit
open DecM (Dt gd okD inDay Ln)
attribute [local go_sem] Oper.semAt_some


set_option maxRecDepth 100000 in
set_option maxHeartbeats 1000000 in
theorem pickL_any (c m : Int) (hc : Fits c) (h0 : 0 < m) (h1 : m ≤ 9223372036854775807) (w : World) : Calls Tryz.prog 20 #[.int .i64 c, .int .i64 m] w fun e w' => e = .returned (.int .i64 (pkv c m)) ∧ w = w' := by
  obtain ⟨hc0, hc1⟩ := hc
  have hmz : (m == 0) = false := by rw [beq_eq_false_iff_ne]; omega
  by_cases hc : c < 0
  · have hp : 0 ≤ -(c + 1) := by omega
    have e := Lib.hid (show -(c + 1) % m = pkv c m by unfold pkv; rw [if_pos hc])
    have e2 := Lib.hid (show -((c + 1).tmod m) = -(c + 1) % m by rw [← Int.neg_tmod, Int.tmod_eq_emod_of_nonneg hp])
    go_enter Tryz.func20, Tryz.ntmps20
    go_wp2
    go_ret
    first | exact ⟨ret_int e.out, rfl⟩ | exact ⟨ret_int (e2.out.trans e.out), rfl⟩
  · have hp : 0 ≤ c := by omega
    have e := Lib.hid (show c % m = pkv c m by unfold pkv; rw [if_neg hc])
    go_enter Tryz.func20, Tryz.ntmps20
    go_wp2
    go_ret
    exact ⟨ret_int e.out, rfl⟩
theorem pickL_any_b (c m : Int) (hc : Fits c) (h0 : 0 < m) (h1 : m ≤ 9223372036854775807) (w : World) : Calls Tryz.prog 20 #[.int .i64 c, .int .i64 m] w (Rets w (.int .i64 (pkv c m))) :=
  (pickL_any c m hc h0 h1 w).mono fun _ _ h => ⟨h.1, by rw [← h.2]; exact Below.refl _ _⟩

set_option maxRecDepth 100000 in
set_option maxHeartbeats 1000000 in
theorem pickR_any (c m : Int) (hc : Fits c) (h0 : 0 < m) (h1 : m ≤ 9223372036854775807) (w : World) : Calls Tryz.prog 30 #[.int .i64 c, .int .i64 m] w fun e w' => e = .returned (.int .i64 (pkv c m)) ∧ w = w' := by
  obtain ⟨hc0, hc1⟩ := hc
  have hmz : (m == 0) = false := by rw [beq_eq_false_iff_ne]; omega
  by_cases hc : c < 0
  · have hp : 0 ≤ -(c + 1) := by omega
    have e := Lib.hid (show -(c + 1) % m = pkv c m by unfold pkv; rw [if_pos hc])
    have e2 := Lib.hid (show -((c + 1).tmod m) = -(c + 1) % m by rw [← Int.neg_tmod, Int.tmod_eq_emod_of_nonneg hp])
    go_enter Tryz.func30, Tryz.ntmps30
    go_wp2
    go_ret
    first | exact ⟨ret_int e.out, rfl⟩ | exact ⟨ret_int (e2.out.trans e.out), rfl⟩
  · have hp : 0 ≤ c := by omega
    have e := Lib.hid (show c % m = pkv c m by unfold pkv; rw [if_neg hc])
    go_enter Tryz.func30, Tryz.ntmps30
    go_wp2
    go_ret
    exact ⟨ret_int e.out, rfl⟩
theorem pickR_any_b (c m : Int) (hc : Fits c) (h0 : 0 < m) (h1 : m ≤ 9223372036854775807) (w : World) : Calls Tryz.prog 30 #[.int .i64 c, .int .i64 m] w (Rets w (.int .i64 (pkv c m))) :=
  (pickR_any c m hc h0 h1 w).mono fun _ _ h => ⟨h.1, by rw [← h.2]; exact Below.refl _ _⟩

set_option maxRecDepth 100000 in
set_option maxHeartbeats 1000000 in
theorem day_any (t : Int) (ht : Fits t) (w : World) : Calls Tryz.prog 16 #[.int .i64 t] w (Rets w (.int .i64 (pkv t 5001))) := by
  have P := Lib.hid (pickL_any_b t 5001 ht (by decide) (by decide) w)
  generalize pkv t 5001 = p at *
  go_enter Tryz.func16, Tryz.ntmps16
  go_wp2_with fail
  refine Calls.mono P.out ?_
  rintro e w' ⟨rfl, hb⟩
  go_wp2
  go_ret
  exact ⟨rfl, hb⟩
theorem pkv_day (t : Int) : 0 ≤ pkv t 5001 ∧ pkv t 5001 ≤ 5000 := by
  have h1 := pkv_nonneg (c := t) (m := 5001) (by decide)
  have h2 := pkv_lt (c := t) (m := 5001) (by decide)
  omega

set_option maxRecDepth 100000 in
set_option maxHeartbeats 16000000 in
theorem of_any (n d : Int) (hn : Fits n) (hd : Fits d) (w : World) : Calls Tryz.prog 23 #[.int .i64 n, .int .i64 d] w (Rets w (.agg #[.string (tN (oOf n d)), .string (tD (oOf n d))])) := by
  have OF := fun W => qrof_o n d hn hd W
  unfold oV at OF
  generalize tN (oOf n d) = s at *
  generalize tD (oOf n d) = t at *
  generalize eO (oOf n d) = er at *
  replace OF := Lib.hid OF
  clear hn hd
  have S0 := BL.start w
  obtain ⟨V1, ev1, S1, zv1⟩ := S0.add' #[.string ⟨#[]⟩, .string ⟨#[]⟩] 27
  have hV : V1 = (w.alloc (.cells #[.string ⟨#[]⟩, .string ⟨#[]⟩] 27)) := by rw [ev1]
  have hS : BL w [(w.heap.size, #[.string ⟨#[]⟩, .string ⟨#[]⟩], 27)] V1 := S1
  clear ev1 zv1 S0 S1
  go_enter Tryz.func23, Tryz.ntmps23
  go_wp2_with fail
  rw [← hV]
  clear hV
  refine Calls.mono (OF.out _) ?_
  rintro e w1 ⟨rfl, hb⟩
  replace hS := hS.call hb
  clear hb
  replace hS := hS.add' #[.string s, .string t] 27
  obtain ⟨W0, hW0, hS, hz0⟩ := hS
  obtain ⟨W, hW⟩ : ∃ W, W = (w1.alloc (.cells #[.string s, .string t] 27)) := ⟨_, rfl⟩
  replace hS : BL w [(w1.heap.size, #[.string s, .string t], 27), (w.heap.size, #[.string ⟨#[]⟩, .string ⟨#[]⟩], 27)] W := by rw [hW, ← hW0]; exact hS
  clear hz0 hW0
  go_upto_region 2 with fail
  rw [← hW]
  clear hW
  obtain ⟨c_x_0, c_x_1⟩ := hS.c2 (w1.heap.size) _ _ _ (.head _)
  obtain ⟨k0, k1, q0, q1, y0, y1, hfin⟩ := res_after (hS.blks _ (.tail _ (.head _))) s t
  have hfin := Lib.hid (hfin w hS.below (by omega))
  clear hS
  go_wp2
  exact bodyPost_ret (v := .agg #[.string s, .string t]) (by simp [results, Tryz.results23, go_sem, y0, y1]) rfl ⟨rfl, hfin.out⟩

theorem floor_math (a : Int) (ha : -9000000000000000000 ≤ a ∧ a ≤ 9000000000000000000) : (if a.tmod 7 < 0 then a.tdiv 7 - 1 else a.tdiv 7) = a / 7 := by
  by_cases h0 : 0 ≤ a
  · rw [Int.tmod_eq_emod_of_nonneg h0, Int.tdiv_eq_ediv_of_nonneg h0, if_neg (by have := Int.emod_nonneg a (show (7 : Int) ≠ 0 by decide); omega)]
  · obtain ⟨b, rfl⟩ : ∃ b : Int, a = -b := ⟨-a, by omega⟩
    have hb : 0 ≤ b := by omega
    rw [Int.neg_tmod, Int.neg_tdiv, Int.tmod_eq_emod_of_nonneg hb, Int.tdiv_eq_ediv_of_nonneg hb]
    split <;> omega
set_option maxRecDepth 100000 in
set_option maxHeartbeats 2000000 in
theorem floor_any (a : Int) (ha : -9000000000000000000 ≤ a ∧ a ≤ 9000000000000000000) (w : World) : Calls Tryz.prog 31 #[.int .i64 a, .int .i64 7] w (Rets w (.int .i64 (a / 7))) := by
  have hm := floor_math a ha
  have w1 : IntKind.i64.wrap (a.tdiv 7) = a.tdiv 7 := IntWalk.i64_in _ (by have := Int.natAbs_tdiv_le_natAbs a 7; omega)
  have hd : -9000000000000000000 ≤ a.tdiv 7 ∧ a.tdiv 7 ≤ 9000000000000000000 := by have := Int.natAbs_tdiv_le_natAbs a 7; omega
  by_cases hc : a.tmod 7 < 0
  · rw [if_pos hc] at hm
    have hm := Lib.hid hm
    have w2 : IntKind.i64.wrap (a.tdiv 7 - 1) = a.tdiv 7 - 1 := IntWalk.i64_in _ (by omega)
    go_enter Tryz.func31, Tryz.ntmps31
    go_wp2
    go_ret
    first | exact ⟨rfl, Below.refl _ _⟩ | exact ⟨ret_int hm.out, Below.refl _ _⟩
  · rw [if_neg hc] at hm
    have hm := Lib.hid hm
    go_enter Tryz.func31, Tryz.ntmps31
    go_wp2
    go_ret
    first | exact ⟨rfl, Below.refl _ _⟩ | exact ⟨ret_int hm.out, Below.refl _ _⟩
theorem gi_ext {xs ys : List Int} (h : xs.length = ys.length) (k : ∀ j, j < xs.length → gi xs j = gi ys j) : xs = ys := by
  refine List.ext_getElem h fun j h1 h2 => ?_
  have := k j h1
  rw [gi_lt h1, gi_lt h2] at this; exact this
set_option maxRecDepth 100000 in
set_option maxHeartbeats 4000000 in
/-- putlogref26.Ints. -/
theorem ints_any (v u : Value) (xs ys : List Int) (w : World) (hv : Sl w v xs) (hu : Sl w u ys) (hsm : xs.length ≤ 1000000) : Calls Tryz.prog 15 #[v, u] w (Rets w (.bool (decide (xs = ys)))) := by
  have hl2 := hu.len_le
  unfold maxLen at hl2
  by_cases hl : xs.length = ys.length
  · by_cases h0 : xs.length = 0
    · have e : decide (xs = ys) = true := decide_eq_true (gi_ext hl (fun j hj => by omega))
      rw [e]
      obtain ⟨a1, c1, rfl⟩ := hv.shape
      obtain ⟨a2, c2, rfl⟩ := hu.shape
      rw [← hl, h0]
      clear hv hu e hl2 hsm
      go_enter Tryz.func15, Tryz.ntmps15
      go_wp2_with fail
      go_loopw [5] (fun i wr => i = .int .i64 0 ∧ wr = w) (fun _ _ => 0)
      case atStart => exact ⟨rfl, rfl⟩
      case round =>
        obtain ⟨rfl, rfl⟩ := hrel
        go_wp2
        go_ret
        exact ⟨rfl, Below.refl _ _⟩
    · rcases hv with ⟨_, rfl⟩ | ⟨b, off, cap, rfl, h1, h2, h3, h4⟩
      · exact absurd rfl h0
      · rcases hu with ⟨_, rfl⟩ | ⟨b', off', cap', rfl, g1, g2, g3, g4⟩
        · exact absurd hl h0
        · rw [← hl]
          go_enter Tryz.func15, Tryz.ntmps15
          go_wp2_with fail
          go_loopw [5] (fun i wr => ∃ k : Nat, i = .int .i64 k ∧ k ≤ xs.length ∧ Hid (∀ j, j < k → gi xs j = gi ys j) ∧ Below w.heap.size w wr) (fun i _ => xs.length - (intOf i).toNat)
          case atStart => exact ⟨0, rfl, by omega, (fun j hj => by omega), Below.refl _ _⟩
          case round =>
            obtain ⟨k, rfl, hk, hq, hB⟩ := hrel
            by_cases hkl : k < xs.length
            · have x0 := (hB.cell (p := ⟨b, off + k, none⟩) h3).trans (h4 k hkl)
              have y0 := (hB.cell (p := ⟨b', off' + k, none⟩) g3).trans (g4 k (by omega))
              by_cases he : gi xs k = gi ys k
              · have hq' := Lib.hid (show ∀ j, j < k + 1 → gi xs j = gi ys j from fun j hj => by
                  rcases Nat.lt_or_ge j k with h | h
                  · exact hq.out j h
                  · rw [show j = k by omega]; exact he)
                have hne : (gi xs k != gi ys k) = false := by simp [he]
                clear he hq
                go_upto_region 6 with fail
                go_quiet (fail)
                go_wp2_with fail
                go_roundw
                case rel => exact ⟨k + 1, by go_num, by omega, hq', hB.trans ((below_drewN wr _).mono hB.size)⟩
                case measure => simp [intOf]; omega
              · have hf := Lib.hid (show decide (xs = ys) = false from decide_eq_false (fun e => he (by rw [e])))
                have hne : (gi xs k != gi ys k) = true := by simp [he]
                clear he
                go_upto_region 6 with fail
                go_quiet (fail)
                go_wp2
                go_ret
                exact ⟨ret_bool hf.out.symm, hB.trans ((below_drewN wr _).mono hB.size)⟩
            · have ht := Lib.hid (show decide (xs = ys) = true from decide_eq_true (gi_ext hl (fun j hj => hq.out j (by omega))))
              go_wp2
              go_ret
              exact ⟨ret_bool ht.out.symm, hB⟩
  · have e : decide (xs = ys) = false := decide_eq_false (fun e => hl (by rw [e]))
    rw [e]
    obtain ⟨a1, c1, rfl⟩ := hv.shape
    obtain ⟨a2, c2, rfl⟩ := hu.shape
    have hne : ((xs.length : Int) != (ys.length : Int)) = true := by simp; omega
    clear hv hu e
    go_enter Tryz.func15, Tryz.ntmps15
    go_wp2
    go_ret
    exact ⟨rfl, Below.refl _ _⟩

end Go.Proofs.YtebokdboodgkpaaGreatDoor
