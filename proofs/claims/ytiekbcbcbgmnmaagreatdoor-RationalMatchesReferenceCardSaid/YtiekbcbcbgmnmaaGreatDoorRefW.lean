/- The reference for fractions: Down, Up. -/
import Derived.Test.YtiekbcbcbgmnmaaGreatDoorRefZ
namespace Go.Proofs.YtiekbcbcbgmnmaaGreatDoor
open Go.RowKit
attribute [local go_sem] Oper.semAt_some

theorem lit_one : (⟨#[49]⟩ : ByteArray) = I 1 := lit_I [49] 1 (by decide +kernel) (by decide +kernel)
theorem rmul_big {x y : Int} {a b : ByteArray} (ha : a = I x) (hb : b = I y) (hx : Small x) (hy : Small y) (hs : ¬ Small (x * y)) : ∃ s : ByteArray, ∀ W : World, Calls Tryz.prog 37 #[.string a, .string b] W (Rets W (.tuple #[.string s, .int .i64 30])) := by
  refine ⟨⟨#[]⟩, fun W => Rets.of (rmul_any a b (by rw [ha]; exact I_len' hx) (by rw [hb]; exact I_len' hy) W) ?_⟩
  · rw [ha, hb, okS_I hx, okS_I hy, zS_I, zS_I]; exact resT_big hs
theorem rmulw_is {x y : Int} {a b : ByteArray} (ha : a = I x) (hb : b = I y) (hx : Small x) (hy : Small y) (hs : Small (x * y)) (W : World) : Calls Tryz.prog 37 #[.string a, .string b] W (Rets W (.tuple #[.string (I (x * y)), .int .i64 0])) := by
  refine Rets.of (rmul_any a b (by rw [ha]; exact I_len' hx) (by rw [hb]; exact I_len' hy) W) ?_
  rw [ha, hb, okS_I hx, okS_I hy, zS_I, zS_I]; exact resT_small hs
theorem one_after {W : World} {R : Nat} (h : Blk W R #[.string ⟨#[]⟩, .string ⟨#[]⟩] 23) (a b : ByteArray) :
    W.cell? ⟨R, 0, none⟩ = some (.string ⟨#[]⟩) ∧ W.cell? ⟨R, 1, none⟩ = some (.string ⟨#[]⟩) ∧ W.frozen? ⟨R, 0, none⟩ = false ∧ W.frozen? ⟨R, 1, none⟩ = false ∧
      ((W.setCell ⟨R, 0, none⟩ (.string a)).setCell ⟨R, 1, none⟩ (.string b)).cell? ⟨R, 0, none⟩ = some (.string a) ∧
      ((W.setCell ⟨R, 0, none⟩ (.string a)).setCell ⟨R, 1, none⟩ (.string b)).cell? ⟨R, 1, none⟩ = some (.string b) ∧
      (∀ w : World, Below w.heap.size w W → w.heap.size ≤ R → Below w.heap.size w ((W.setCell ⟨R, 0, none⟩ (.string a)).setCell ⟨R, 1, none⟩ (.string b))) := by
  have h2 := (h.set 0 (.string a)).set 1 (.string b)
  refine ⟨h.cell 0, h.cell 1, h.frozen 0, h.frozen 1, h2.cell 0, h2.cell 1, fun w hb hR => ?_⟩
  have ho := ((Only.refl [R] W).setCell (p := ⟨R, 0, none⟩) (by simp) (.string a)).setCell (p := ⟨R, 1, none⟩) (by simp) (.string b)
  exact hb.trans (ho.toBelow hb.size (fun k hk => by simp at hk; subst hk; exact hR))
theorem rep_snoc (k : Nat) : (⟨(49 :: List.replicate k 48).toArray⟩ : ByteArray) ++ ⟨#[48]⟩ = ⟨(49 :: List.replicate (k + 1) 48).toArray⟩ := by
  refine ByteArray.ext ?_
  rw [ByteArray.data_append]
  show (49 :: List.replicate k 48).toArray ++ #[48] = (49 :: List.replicate (k + 1) 48).toArray
  rw [List.replicate_succ' (n := k)]
  simp
theorem rep_size (k : Nat) : (⟨(49 :: List.replicate k 48).toArray⟩ : ByteArray).size = k + 1 := by
  show (49 :: List.replicate k (48 : UInt8)).toArray.size = _
  simp

set_option maxRecDepth 100000 in
set_option maxHeartbeats 16000000 in
theorem qrpower_any (k : Nat) (hk : k ≤ 30) (w : World) : Calls Tryz.prog 77 #[.int .i64 k] w (Rets w (.string (I (10 ^ k)))) := by
  rw [← pow_text k]
  go_enter Tryz.func77, Tryz.ntmps77
  go_wp2_with fail
  go_loopw [3, 4] (fun s i wr => ∃ j : Nat, i = .int .i64 j ∧ j ≤ k ∧ s = .string ⟨(49 :: List.replicate j 48).toArray⟩ ∧ wr = w) (fun _ i _ => k - (intOf i).toNat)
  case atStart => exact ⟨0, rfl, by omega, rfl, rfl⟩
  case round =>
    obtain ⟨j, rfl, hj, rfl, rfl⟩ := hrel
    by_cases hjk : j < k
    · have hs := rep_snoc j
      have hz := rep_size j
      have hz2 : (⟨#[48]⟩ : ByteArray).size = 1 := rfl
      generalize (⟨(49 :: List.replicate j 48).toArray⟩ : ByteArray) = s at *
      have hb : s.size ≤ 31 := by omega
      have hb2 : s.size + 1 ≤ 4611686018427387904 := by omega
      go_wp2_with fail
      go_roundw
      case rel => exact ⟨j + 1, by go_num, by omega, by rw [← hs]; exact ⟨rfl, trivial⟩⟩
      case measure => simp [intOf]; omega
    · have : j = k := by omega
      subst this
      go_wp2
      go_ret
      exact ⟨rfl, Below.refl _ _⟩

set_option maxRecDepth 100000 in
set_option maxHeartbeats 16000000 in
theorem qrgrid_no (n d : ByteArray) (hn : n.size ≤ 9223372036854775807) (hd : d.size ≤ 9223372036854775807) (k : Int) (w : World) (h : (decide (0 ≤ k ∧ k ≤ 30) && rOk n d && decide (Small (zS n * 10 ^ k.toNat))) = false) :
    Calls Tryz.prog 44 #[.agg #[.string n, .string d], .int .i64 k] w (Rets w (.tuple #[.string ⟨#[]⟩, .string ⟨#[]⟩, .string ⟨#[]⟩, .bool false])) := by
  have VA := fun W => qrvalid_any n d hn hd W
  cases hr : rOk n d with
  | false =>
    rw [hr] at VA
    replace VA := Lib.hid VA
    clear h hr
    have Sv0 := BL.start w
    obtain ⟨V1, ev1, Sv1, zv1⟩ := Sv0.add' #[.string n, .string d] 23
    have hV : V1 = (w.alloc (.cells #[.string n, .string d] 23)) := by rw [ev1]
    have hS : BL w [(w.heap.size, #[.string n, .string d], 23)] V1 := Sv1
    clear ev1 zv1 Sv0 Sv1
    go_enter Tryz.func44, Tryz.ntmps44
    go_upto_region 1 with fail
    rw [← hV]
    clear hV
    obtain ⟨c_a_0, c_a_1⟩ := hS.c2 (w.heap.size) _ _ _ (.head _)
    go_wp2_with fail
    refine Calls.mono (VA.out _) ?_
    rintro e w1 ⟨rfl, hb⟩
    clear c_a_0 c_a_1
    replace hS := hS.call hb
    clear hb
    go_wp2
    exact bodyPost_ret (res4 rfl _ _ _) rfl ⟨rfl, hS.below⟩

  | true =>
    obtain ⟨o1, o2, o3, o4⟩ := rOk_parts hr
    rw [hr] at VA
    replace VA := Lib.hid VA
    rw [hr, Bool.and_true] at h
    by_cases h0 : k < 0
    · clear h
      have Sv0 := BL.start w
      obtain ⟨V1, ev1, Sv1, zv1⟩ := Sv0.add' #[.string n, .string d] 23
      have hV : V1 = (w.alloc (.cells #[.string n, .string d] 23)) := by rw [ev1]
      have hS : BL w [(w.heap.size, #[.string n, .string d], 23)] V1 := Sv1
      clear ev1 zv1 Sv0 Sv1
      go_enter Tryz.func44, Tryz.ntmps44
      go_upto_region 1 with fail
      rw [← hV]
      clear hV
      obtain ⟨c_a_0, c_a_1⟩ := hS.c2 (w.heap.size) _ _ _ (.head _)
      go_wp2_with fail
      refine Calls.mono (VA.out _) ?_
      rintro e w1 ⟨rfl, hb⟩
      clear c_a_0 c_a_1
      replace hS := hS.call hb
      clear hb
      go_wp2
      exact bodyPost_ret (res4 rfl _ _ _) rfl ⟨rfl, hS.below⟩

    by_cases h1 : 30 < k
    · clear h
      have Sv0 := BL.start w
      obtain ⟨V1, ev1, Sv1, zv1⟩ := Sv0.add' #[.string n, .string d] 23
      have hV : V1 = (w.alloc (.cells #[.string n, .string d] 23)) := by rw [ev1]
      have hS : BL w [(w.heap.size, #[.string n, .string d], 23)] V1 := Sv1
      clear ev1 zv1 Sv0 Sv1
      go_enter Tryz.func44, Tryz.ntmps44
      go_upto_region 1 with fail
      rw [← hV]
      clear hV
      obtain ⟨c_a_0, c_a_1⟩ := hS.c2 (w.heap.size) _ _ _ (.head _)
      go_wp2_with fail
      refine Calls.mono (VA.out _) ?_
      rintro e w1 ⟨rfl, hb⟩
      clear c_a_0 c_a_1
      replace hS := hS.call hb
      clear hb
      go_wp2
      exact bodyPost_ret (res4 rfl _ _ _) rfl ⟨rfl, hS.below⟩

    obtain ⟨j, rfl⟩ := Int.eq_ofNat_of_zero_le (show 0 ≤ k by omega)
    rw [decide_eq_true (show (0 : Int) ≤ (j : Int) ∧ (j : Int) ≤ 30 by omega), Bool.true_and, Int.toNat_natCast] at h
    have hs : ¬ Small (zS n * 10 ^ j) := of_decide_eq_false h
    have PW := Lib.hid (fun W => qrpower_any j (by omega) W)
    have M := rmul_big (txtS o1) (rfl : I (10 ^ j) = I (10 ^ j)) (smallS o1) (small_pow (k := j) (by omega)) hs
    generalize I (10 ^ j) = tj at *
    obtain ⟨ms, M⟩ := M
    replace M := Lib.hid M
    clear h hs
    have Sv0 := BL.start w
    obtain ⟨V1, ev1, Sv1, zv1⟩ := Sv0.add' #[.string n, .string d] 23
    have hV : V1 = (w.alloc (.cells #[.string n, .string d] 23)) := by rw [ev1]
    have hS : BL w [(w.heap.size, #[.string n, .string d], 23)] V1 := Sv1
    clear ev1 zv1 Sv0 Sv1
    go_enter Tryz.func44, Tryz.ntmps44
    go_upto_region 1 with fail
    rw [← hV]
    clear hV
    obtain ⟨c_a_0, c_a_1⟩ := hS.c2 (w.heap.size) _ _ _ (.head _)
    go_wp2_with fail
    refine Calls.mono (VA.out _) ?_
    rintro e w1 ⟨rfl, hb⟩
    clear c_a_0 c_a_1
    replace hS := hS.call hb
    clear hb
    go_wp2_with fail
    refine Calls.mono (PW.out _) ?_
    rintro e w2 ⟨rfl, hb⟩
    replace hS := hS.call hb
    clear hb
    obtain ⟨c_a_0, c_a_1⟩ := hS.c2 (w.heap.size) _ _ _ (.head _)
    go_wp2_with fail
    refine Calls.mono (M.out _) ?_
    rintro e w3 ⟨rfl, hb⟩
    clear c_a_0 c_a_1
    replace hS := hS.call hb
    clear hb
    go_wp2
    exact bodyPost_ret (res4 rfl _ _ _) rfl ⟨rfl, hS.below⟩

set_option maxRecDepth 100000 in
set_option maxHeartbeats 16000000 in
theorem qrgrid_ok (n d : ByteArray) (hn : n.size ≤ 9223372036854775807) (hd : d.size ≤ 9223372036854775807) (k : Nat) (hk : k ≤ 30) (w : World) (hr : rOk n d = true) (hs : Small (zS n * 10 ^ k)) :
    Calls Tryz.prog 44 #[.agg #[.string n, .string d], .int .i64 k] w (Rets w (.tuple #[.string (I (zS n * 10 ^ k / zS d)), .string (I (zS n * 10 ^ k % zS d)), .string (I (10 ^ k)), .bool true])) := by
  have VA := fun W => qrvalid_any n d hn hd W
  obtain ⟨o1, o2, o3, o4⟩ := rOk_parts hr
  rw [hr] at VA
  replace VA := Lib.hid VA
  have PW := Lib.hid (fun W => qrpower_any k hk W)
  have M := Lib.hid (fun W => rmulw_is (txtS o1) (rfl : I (10 ^ k) = I (10 ^ k)) (smallS o1) (small_pow (k := k) (by omega)) hs W)
  have D := Lib.hid (fun W => rdiv_is (rfl : I (zS n * 10 ^ k) = I (zS n * 10 ^ k)) (txtS o2) hs (smallS o2) W (by omega))
  generalize zS n * 10 ^ k = x at *
  generalize I (10 ^ k) = tj at *
  generalize I (x / zS d) = qs at *
  generalize I (x % zS d) = rs at *
  generalize I x = xs at *
  clear hs
  have Sv0 := BL.start w
  obtain ⟨V1, ev1, Sv1, zv1⟩ := Sv0.add' #[.string n, .string d] 23
  have hV : V1 = (w.alloc (.cells #[.string n, .string d] 23)) := by rw [ev1]
  have hS : BL w [(w.heap.size, #[.string n, .string d], 23)] V1 := Sv1
  clear ev1 zv1 Sv0 Sv1
  go_enter Tryz.func44, Tryz.ntmps44
  go_upto_region 1 with fail
  rw [← hV]
  clear hV
  obtain ⟨c_a_0, c_a_1⟩ := hS.c2 (w.heap.size) _ _ _ (.head _)
  go_wp2_with fail
  refine Calls.mono (VA.out _) ?_
  rintro e w1 ⟨rfl, hb⟩
  clear c_a_0 c_a_1
  replace hS := hS.call hb
  clear hb
  go_wp2_with fail
  refine Calls.mono (PW.out _) ?_
  rintro e w2 ⟨rfl, hb⟩
  replace hS := hS.call hb
  clear hb
  obtain ⟨c_a_0, c_a_1⟩ := hS.c2 (w.heap.size) _ _ _ (.head _)
  go_wp2_with fail
  refine Calls.mono (M.out _) ?_
  rintro e w3 ⟨rfl, hb⟩
  clear c_a_0 c_a_1
  replace hS := hS.call hb
  clear hb
  obtain ⟨c_a_0, c_a_1⟩ := hS.c2 (w.heap.size) _ _ _ (.head _)
  go_wp2_with fail
  refine Calls.mono (D.out _) ?_
  rintro e w4 ⟨rfl, hb⟩
  clear c_a_0 c_a_1
  replace hS := hS.call hb
  clear hb
  go_wp2
  exact bodyPost_ret (res4 rfl _ _ _) rfl ⟨rfl, hS.below⟩

set_option maxRecDepth 100000 in
set_option maxHeartbeats 16000000 in
/-- putlogref04.Down. -/
theorem qrDown_any (n d : ByteArray) (hn : n.size ≤ 9223372036854775807) (hd : d.size ≤ 9223372036854775807) (k : Int) (w : World) :
    Calls Tryz.prog 17 #[.agg #[.string n, .string d], .int .i64 k] w
      (Rets w (qT (decide (0 ≤ k ∧ k ≤ 30) && rOk n d && decide (Small (zS n * 10 ^ k.toNat))) (Rat.divInt (grd false (zS n * 10 ^ k.toNat) (zS d)) (10 ^ k.toNat)))) := by
  cases h : (decide (0 ≤ k ∧ k ≤ 30) && rOk n d && decide (Small (zS n * 10 ^ k.toNat))) with
  | false =>
    rw [qT_bad]
    have G := Lib.hid (fun W => qrgrid_no n d hn hd k W h)
    clear h hn hd
    have Sv0 := BL.start w
    obtain ⟨V1, ev1, Sv1, zv1⟩ := Sv0.add' #[.string n, .string d] 23
    obtain ⟨V2, ev2, Sv2, zv2⟩ := Sv1.add' #[.string ⟨#[]⟩, .string ⟨#[]⟩] 23
    rw [zv1] at Sv2
    have hV : V2 = ((w.alloc (.cells #[.string n, .string d] 23)).alloc (.cells #[.string ⟨#[]⟩, .string ⟨#[]⟩] 23)) := by rw [ev2, ev1]
    have hS : BL w [(w.heap.size + 1, #[.string ⟨#[]⟩, .string ⟨#[]⟩], 23), (w.heap.size, #[.string n, .string d], 23)] V2 := Sv2
    clear ev1 ev2 zv1 zv2 Sv0 Sv1 Sv2
    go_enter Tryz.func17, Tryz.ntmps17
    go_upto_region 1 with fail
    rw [← hV]
    clear hV
    obtain ⟨c_a_0, c_a_1⟩ := hS.c2 (w.heap.size) _ _ _ (.tail _ (.head _))
    go_wp2_with fail
    refine Calls.mono (G.out _) ?_
    rintro e w1 ⟨rfl, hb⟩
    clear c_a_0 c_a_1
    replace hS := hS.call hb
    clear hb
    have hR := hS.blks _ (.head _)
    obtain ⟨k0, k1, q0, q1, y0, y1, hfin⟩ := one_after hR ⟨#[]⟩ ⟨#[]⟩
    have hfin := Lib.hid (hfin w hS.below (by omega))
    clear hS hR
    go_wp2
    exact bodyPost_ret (v := .tuple #[.agg #[.string ⟨#[]⟩, .string ⟨#[]⟩], .int .i64 40]) (by simp [results, Tryz.results17, go_sem, y0, y1]) rfl ⟨rfl, hfin.out⟩

  | true =>
    rw [Bool.and_eq_true, Bool.and_eq_true, decide_eq_true_iff, decide_eq_true_iff] at h
    obtain ⟨⟨h1, h2⟩, h3⟩ := h
    obtain ⟨j, rfl⟩ := Int.eq_ofNat_of_zero_le h1.1
    rw [Int.toNat_natCast] at h3 ⊢
    obtain ⟨o1, o2, o3, o4⟩ := rOk_parts h2
    have G := fun W => qrgrid_ok n d hn hd j (by omega) W h2 h3
    have sp := small_pow (k := j) (by omega)
    have np : (10 : Int) ^ j ≠ 0 := by have := Int.pow_pos (n := 10) (m := j) (by decide); omega
    have MK := fun W => mk_text (rfl : I (zS n * 10 ^ j / zS d) = I (zS n * 10 ^ j / zS d)) (rfl : I (10 ^ j) = I (10 ^ j)) (small_quo h3) sp W
    rw [decide_eq_true np] at MK
    rw [show grd false (zS n * 10 ^ j) (zS d) = zS n * 10 ^ j / zS d from rfl]
    rw [qT_true] at MK ⊢
    generalize Rat.divInt (zS n * 10 ^ j / zS d) (10 ^ j) = v at *
    generalize I (zS n * 10 ^ j / zS d) = qs at *
    generalize I (zS n * 10 ^ j % zS d) = rs at *
    generalize I (10 ^ j) = tj at *
    generalize numS v = vn at *
    generalize denS v = vd at *
    replace G := Lib.hid G
    replace MK := Lib.hid MK
    clear h1 h2 h3 o1 o2 o3 o4 sp np hn hd
    have Sv0 := BL.start w
    obtain ⟨V1, ev1, Sv1, zv1⟩ := Sv0.add' #[.string n, .string d] 23
    obtain ⟨V2, ev2, Sv2, zv2⟩ := Sv1.add' #[.string ⟨#[]⟩, .string ⟨#[]⟩] 23
    rw [zv1] at Sv2
    have hV : V2 = ((w.alloc (.cells #[.string n, .string d] 23)).alloc (.cells #[.string ⟨#[]⟩, .string ⟨#[]⟩] 23)) := by rw [ev2, ev1]
    have hS : BL w [(w.heap.size + 1, #[.string ⟨#[]⟩, .string ⟨#[]⟩], 23), (w.heap.size, #[.string n, .string d], 23)] V2 := Sv2
    clear ev1 ev2 zv1 zv2 Sv0 Sv1 Sv2
    go_enter Tryz.func17, Tryz.ntmps17
    go_upto_region 1 with fail
    rw [← hV]
    clear hV
    obtain ⟨c_a_0, c_a_1⟩ := hS.c2 (w.heap.size) _ _ _ (.tail _ (.head _))
    go_wp2_with fail
    refine Calls.mono (G.out _) ?_
    rintro e w1 ⟨rfl, hb⟩
    clear c_a_0 c_a_1
    replace hS := hS.call hb
    clear hb
    go_wp2_with fail
    refine Calls.mono (MK.out _) ?_
    rintro e w2 ⟨rfl, hb⟩
    replace hS := hS.call hb
    clear hb
    have hR := hS.blks _ (.head _)
    obtain ⟨k0, k1, q0, q1, y0, y1, hfin⟩ := one_after hR vn vd
    have hfin := Lib.hid (hfin w hS.below (by omega))
    clear hS hR
    go_wp2
    exact bodyPost_ret (v := .tuple #[.agg #[.string vn, .string vd], .int .i64 0]) (by simp [results, Tryz.results17, go_sem, y0, y1]) rfl ⟨rfl, hfin.out⟩

set_option maxRecDepth 100000 in
set_option maxHeartbeats 16000000 in
/-- putlogref04.Up. -/
theorem qrUp_any (n d : ByteArray) (hn : n.size ≤ 9223372036854775807) (hd : d.size ≤ 9223372036854775807) (k : Int) (w : World) :
    Calls Tryz.prog 19 #[.agg #[.string n, .string d], .int .i64 k] w
      (Rets w (qT (decide (0 ≤ k ∧ k ≤ 30) && rOk n d && decide (Small (zS n * 10 ^ k.toNat))) (Rat.divInt (grd true (zS n * 10 ^ k.toNat) (zS d)) (10 ^ k.toNat)))) := by
  cases h : (decide (0 ≤ k ∧ k ≤ 30) && rOk n d && decide (Small (zS n * 10 ^ k.toNat))) with
  | false =>
    rw [qT_bad]
    have G := Lib.hid (fun W => qrgrid_no n d hn hd k W h)
    clear h hn hd
    have Sv0 := BL.start w
    obtain ⟨V1, ev1, Sv1, zv1⟩ := Sv0.add' #[.string n, .string d] 23
    obtain ⟨V2, ev2, Sv2, zv2⟩ := Sv1.add' #[.string ⟨#[]⟩, .string ⟨#[]⟩] 23
    rw [zv1] at Sv2
    have hV : V2 = ((w.alloc (.cells #[.string n, .string d] 23)).alloc (.cells #[.string ⟨#[]⟩, .string ⟨#[]⟩] 23)) := by rw [ev2, ev1]
    have hS : BL w [(w.heap.size + 1, #[.string ⟨#[]⟩, .string ⟨#[]⟩], 23), (w.heap.size, #[.string n, .string d], 23)] V2 := Sv2
    clear ev1 ev2 zv1 zv2 Sv0 Sv1 Sv2
    go_enter Tryz.func19, Tryz.ntmps19
    go_upto_region 1 with fail
    rw [← hV]
    clear hV
    obtain ⟨c_a_0, c_a_1⟩ := hS.c2 (w.heap.size) _ _ _ (.tail _ (.head _))
    go_wp2_with fail
    refine Calls.mono (G.out _) ?_
    rintro e w1 ⟨rfl, hb⟩
    clear c_a_0 c_a_1
    replace hS := hS.call hb
    clear hb
    have hR := hS.blks _ (.head _)
    obtain ⟨k0, k1, q0, q1, y0, y1, hfin⟩ := one_after hR ⟨#[]⟩ ⟨#[]⟩
    have hfin := Lib.hid (hfin w hS.below (by omega))
    clear hS hR
    go_wp2
    exact bodyPost_ret (v := .tuple #[.agg #[.string ⟨#[]⟩, .string ⟨#[]⟩], .int .i64 40]) (by simp [results, Tryz.results19, go_sem, y0, y1]) rfl ⟨rfl, hfin.out⟩

  | true =>
    rw [Bool.and_eq_true, Bool.and_eq_true, decide_eq_true_iff, decide_eq_true_iff] at h
    obtain ⟨⟨h1, h2⟩, h3⟩ := h
    obtain ⟨j, rfl⟩ := Int.eq_ofNat_of_zero_le h1.1
    rw [Int.toNat_natCast] at h3 ⊢
    obtain ⟨o1, o2, o3, o4⟩ := rOk_parts h2
    have G := fun W => qrgrid_ok n d hn hd j (by omega) W h2 h3
    have sp := small_pow (k := j) (by omega)
    have np : (10 : Int) ^ j ≠ 0 := by have := Int.pow_pos (n := 10) (m := j) (by decide); omega
    by_cases hz : zS n * 10 ^ j % zS d = 0
    · have e : grd true (zS n * 10 ^ j) (zS d) = zS n * 10 ^ j / zS d := by unfold grd; rw [decide_eq_false (by simpa using hz)]; rfl
      have MK := fun W => mk_text (rfl : I (zS n * 10 ^ j / zS d) = I (zS n * 10 ^ j / zS d)) (rfl : I (10 ^ j) = I (10 ^ j)) (small_quo h3) sp W
      have ez := str_zero (rfl : I (zS n * 10 ^ j % zS d) = I (zS n * 10 ^ j % zS d))
      rw [decide_eq_true hz] at ez
      rw [decide_eq_true np] at MK
      rw [e]
      rw [qT_true] at MK ⊢
      generalize Rat.divInt (zS n * 10 ^ j / zS d) (10 ^ j) = v at *
      generalize I (zS n * 10 ^ j / zS d) = qs at *
      generalize I (zS n * 10 ^ j % zS d) = rs at *
      generalize I (10 ^ j) = tj at *
      generalize numS v = vn at *
      generalize denS v = vd at *
      replace G := Lib.hid G
      replace MK := Lib.hid MK
      clear h1 h2 h3 o1 o2 o3 o4 sp np hn hd e hz
      have Sv0 := BL.start w
      obtain ⟨V1, ev1, Sv1, zv1⟩ := Sv0.add' #[.string n, .string d] 23
      obtain ⟨V2, ev2, Sv2, zv2⟩ := Sv1.add' #[.string ⟨#[]⟩, .string ⟨#[]⟩] 23
      rw [zv1] at Sv2
      have hV : V2 = ((w.alloc (.cells #[.string n, .string d] 23)).alloc (.cells #[.string ⟨#[]⟩, .string ⟨#[]⟩] 23)) := by rw [ev2, ev1]
      have hS : BL w [(w.heap.size + 1, #[.string ⟨#[]⟩, .string ⟨#[]⟩], 23), (w.heap.size, #[.string n, .string d], 23)] V2 := Sv2
      clear ev1 ev2 zv1 zv2 Sv0 Sv1 Sv2
      go_enter Tryz.func19, Tryz.ntmps19
      go_upto_region 1 with fail
      rw [← hV]
      clear hV
      obtain ⟨c_a_0, c_a_1⟩ := hS.c2 (w.heap.size) _ _ _ (.tail _ (.head _))
      go_wp2_with fail
      refine Calls.mono (G.out _) ?_
      rintro e w1 ⟨rfl, hb⟩
      clear c_a_0 c_a_1
      replace hS := hS.call hb
      clear hb
      go_wp2_with fail
      refine Calls.mono (MK.out _) ?_
      rintro e w2 ⟨rfl, hb⟩
      replace hS := hS.call hb
      clear hb
      have hR := hS.blks _ (.head _)
      obtain ⟨k0, k1, q0, q1, y0, y1, hfin⟩ := one_after hR vn vd
      have hfin := Lib.hid (hfin w hS.below (by omega))
      clear hS hR
      go_wp2
      exact bodyPost_ret (v := .tuple #[.agg #[.string vn, .string vd], .int .i64 0]) (by simp [results, Tryz.results19, go_sem, y0, y1]) rfl ⟨rfl, hfin.out⟩

    · have e : grd true (zS n * 10 ^ j) (zS d) = zS n * 10 ^ j / zS d + 1 := by unfold grd; rw [decide_eq_true (by simpa using hz)]; rfl
      have sn := quo_next h3 o3 hz
      have AD := fun W => radd_is (rfl : I (zS n * 10 ^ j / zS d) = I (zS n * 10 ^ j / zS d)) lit_one (small_quo h3) one_small W sn
      have MK := fun W => mk_text (rfl : I (zS n * 10 ^ j / zS d + 1) = I (zS n * 10 ^ j / zS d + 1)) (rfl : I (10 ^ j) = I (10 ^ j)) sn sp W
      have ez := str_zero (rfl : I (zS n * 10 ^ j % zS d) = I (zS n * 10 ^ j % zS d))
      rw [decide_eq_false hz] at ez
      rw [decide_eq_true np] at MK
      rw [e]
      rw [qT_true] at MK ⊢
      generalize Rat.divInt (zS n * 10 ^ j / zS d + 1) (10 ^ j) = v at *
      generalize I (zS n * 10 ^ j / zS d + 1) = qn at *
      generalize I (zS n * 10 ^ j / zS d) = qs at *
      generalize I (zS n * 10 ^ j % zS d) = rs at *
      generalize I (10 ^ j) = tj at *
      generalize numS v = vn at *
      generalize denS v = vd at *
      replace G := Lib.hid G
      replace MK := Lib.hid MK
      replace AD := Lib.hid AD
      clear h1 h2 h3 o1 o2 o3 o4 sp np hn hd e hz sn
      have Sv0 := BL.start w
      obtain ⟨V1, ev1, Sv1, zv1⟩ := Sv0.add' #[.string n, .string d] 23
      obtain ⟨V2, ev2, Sv2, zv2⟩ := Sv1.add' #[.string ⟨#[]⟩, .string ⟨#[]⟩] 23
      rw [zv1] at Sv2
      have hV : V2 = ((w.alloc (.cells #[.string n, .string d] 23)).alloc (.cells #[.string ⟨#[]⟩, .string ⟨#[]⟩] 23)) := by rw [ev2, ev1]
      have hS : BL w [(w.heap.size + 1, #[.string ⟨#[]⟩, .string ⟨#[]⟩], 23), (w.heap.size, #[.string n, .string d], 23)] V2 := Sv2
      clear ev1 ev2 zv1 zv2 Sv0 Sv1 Sv2
      go_enter Tryz.func19, Tryz.ntmps19
      go_upto_region 1 with fail
      rw [← hV]
      clear hV
      obtain ⟨c_a_0, c_a_1⟩ := hS.c2 (w.heap.size) _ _ _ (.tail _ (.head _))
      go_wp2_with fail
      refine Calls.mono (G.out _) ?_
      rintro e w1 ⟨rfl, hb⟩
      clear c_a_0 c_a_1
      replace hS := hS.call hb
      clear hb
      go_wp2_with fail
      refine Calls.mono (AD.out _) ?_
      rintro e w2 ⟨rfl, hb⟩
      replace hS := hS.call hb
      clear hb
      go_wp2_with fail
      refine Calls.mono (MK.out _) ?_
      rintro e w3 ⟨rfl, hb⟩
      replace hS := hS.call hb
      clear hb
      have hR := hS.blks _ (.head _)
      obtain ⟨k0, k1, q0, q1, y0, y1, hfin⟩ := one_after hR vn vd
      have hfin := Lib.hid (hfin w hS.below (by omega))
      clear hS hR
      go_wp2
      exact bodyPost_ret (v := .tuple #[.agg #[.string vn, .string vd], .int .i64 0]) (by simp [results, Tryz.results19, go_sem, y0, y1]) rfl ⟨rfl, hfin.out⟩

end Go.Proofs.YtiekbcbcbgmnmaaGreatDoor
