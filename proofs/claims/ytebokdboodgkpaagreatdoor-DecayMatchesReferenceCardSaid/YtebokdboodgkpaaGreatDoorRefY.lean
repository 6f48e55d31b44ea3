/- The reference for fractions: Add, Sub, Mul, Div, Compare, Down, Up. -/
import Derived.Test.YtebokdboodgkpaaGreatDoorRefX
import Derived.Test.YtebokdboodgkpaaGreatDoorPkI
namespace Go.Proofs.YtebokdboodgkpaaGreatDoor
open Go.RowKit
attribute [local go_sem] Oper.semAt_some


theorem and7 : ∀ a b c d e f g : Bool, (a && b && c && d && e && f && g) = (a && b && c && d && f && e && g) := by decide
theorem qT_bad (r : Rat) : qT false r = .tuple #[.agg #[.string ⟨#[]⟩, .string ⟨#[]⟩], .int .i64 40] := rfl
theorem cr_parts {n1 d1 n2 d2 : ByteArray} (h : crB n1 d1 n2 d2 = true) : rOk n1 d1 = true ∧ rOk n2 d2 = true ∧ Small (zS n1 * zS d2) ∧ Small (zS n2 * zS d1) ∧ Small (zS d1 * zS d2) := by
  unfold crB at h
  simp at h
  exact ⟨h.1.1.1.1, h.1.1.1.2, h.1.1.2, h.1.2, h.2⟩
theorem radd_is {x y : Int} {a b : ByteArray} (ha : a = I x) (hb : b = I y) (hx : Small x) (hy : Small y) (W : World) (hs : Small (x + y)) : Calls Tryz.prog 83 #[.string a, .string b] W (Rets W (.tuple #[.string (I (x + y)), .int .i64 0])) := by
  refine Rets.of (radd_any a b (by rw [ha]; exact I_len' hx) (by rw [hb]; exact I_len' hy) W) ?_
  rw [ha, hb, okS_I hx, okS_I hy, zS_I, zS_I]; exact resT_small hs
theorem radd_big {x y : Int} {a b : ByteArray} (ha : a = I x) (hb : b = I y) (hx : Small x) (hy : Small y) (hs : ¬ Small (x + y)) : ∃ s : ByteArray, ∀ W : World, Calls Tryz.prog 83 #[.string a, .string b] W (Rets W (.tuple #[.string s, .int .i64 30])) := by
  have h := fun W => radd_any a b (by rw [ha]; exact I_len' hx) (by rw [hb]; exact I_len' hy) W
  subst ha hb
  rw [okS_I hx, okS_I hy, zS_I, zS_I] at h
  exact ⟨_, fun W => Rets.of (h W) (resT_big hs)⟩
theorem rsub_big {x y : Int} {a b : ByteArray} (ha : a = I x) (hb : b = I y) (hx : Small x) (hy : Small y) (hs : ¬ Small (x - y)) : ∃ s : ByteArray, ∀ W : World, Calls Tryz.prog 84 #[.string a, .string b] W (Rets W (.tuple #[.string s, .int .i64 30])) := by
  have h := fun W => rsub_any a b (by rw [ha]; exact I_len' hx) (by rw [hb]; exact I_len' hy) W
  subst ha hb
  rw [okS_I hx, okS_I hy, zS_I, zS_I] at h
  exact ⟨_, fun W => Rets.of (h W) (resT_big hs)⟩
theorem mk_text {x y : Int} {a b : ByteArray} (ha : a = I x) (hb : b = I y) (hx : Small x) (hy : Small y) (W : World) : Calls Tryz.prog 57 #[.string a, .string b] W (Rets W (qT (decide (y ≠ 0)) (Rat.divInt x y))) := by
  have M := qrmake_any a b (by rw [ha]; exact I_len' hx) (by rw [hb]; exact I_len' hy) W
  rw [ha, hb, okS_I hx, okS_I hy, zS_I, zS_I, Bool.true_and, Bool.true_and] at M
  rw [ha, hb]; exact M


set_option maxRecDepth 100000 in
set_option maxHeartbeats 16000000 in
/-- putlogref04.Add. -/
theorem qrAdd_any (n1 d1 n2 d2 : ByteArray) (h1 : n1.size ≤ 9223372036854775807) (h2 : d1.size ≤ 9223372036854775807) (h3 : n2.size ≤ 9223372036854775807) (h4 : d2.size ≤ 9223372036854775807) (w : World) :
    Calls Tryz.prog 56 #[.agg #[.string n1, .string d1], .agg #[.string n2, .string d2]] w (Rets w (qT (rOk n1 d1 && rOk n2 d2 && decide (Small (zS n1 * zS d2)) && decide (Small (zS n2 * zS d1)) && decide (Small (zS n1 * zS d2 + zS n2 * zS d1)) && decide (Small (zS d1 * zS d2)) && decide (zS d1 * zS d2 ≠ 0)) (Rat.divInt (zS n1 * zS d2 + zS n2 * zS d1) (zS d1 * zS d2)))) := by

  have CR := Lib.hid (fun W => qrcross_any n1 d1 n2 d2 h1 h2 h3 h4 W)
  clear h1 h2 h3 h4
  rw [show (rOk n1 d1 && rOk n2 d2 && decide (Small (zS n1 * zS d2)) && decide (Small (zS n2 * zS d1)) && decide (Small (zS n1 * zS d2 + zS n2 * zS d1)) && decide (Small (zS d1 * zS d2)) && decide (zS d1 * zS d2 ≠ 0)) = (crB n1 d1 n2 d2 && decide (Small (zS n1 * zS d2 + zS n2 * zS d1)) && decide (zS d1 * zS d2 ≠ 0)) from and7 _ _ _ _ _ _ _]
  have Sv0 := BL.start w
  obtain ⟨V1, ev1, Sv1, zv1⟩ := Sv0.add' #[.string n1, .string d1] 27
  obtain ⟨V2, ev2, Sv2, zv2⟩ := Sv1.add' #[.string n2, .string d2] 27
  obtain ⟨V3, ev3, Sv3, zv3⟩ := Sv2.add' #[.string ⟨#[]⟩, .string ⟨#[]⟩] 27
  rw [zv1] at Sv2
  rw [zv2, zv1] at Sv3
  have hV : V3 = (((w.alloc (.cells #[.string n1, .string d1] 27)).alloc (.cells #[.string n2, .string d2] 27)).alloc (.cells #[.string ⟨#[]⟩, .string ⟨#[]⟩] 27)) := by rw [ev3, ev2, ev1]
  have hS : BL w [(w.heap.size + 1 + 1, #[.string ⟨#[]⟩, .string ⟨#[]⟩], 27), (w.heap.size + 1, #[.string n2, .string d2], 27), (w.heap.size, #[.string n1, .string d1], 27)] V3 := Sv3
  clear ev1 ev2 ev3 zv1 zv2 zv3 Sv0 Sv1 Sv2 Sv3
  cases hc : crB n1 d1 n2 d2 with
  | false =>
    rw [Bool.false_and, Bool.false_and, qT_bad]
    replace hc := Lib.hid hc
    go_enter Tryz.func56, Tryz.ntmps56
    go_upto_region 1 with fail
    rw [← hV]
    clear hV
    obtain ⟨c_a_0, c_a_1⟩ := hS.c2 (w.heap.size) _ _ _ (.tail _ (.tail _ (.head _)))
    obtain ⟨c_b_0, c_b_1⟩ := hS.c2 (w.heap.size + 1) _ _ _ (.tail _ (.head _))
    go_wp2_with fail
    refine Calls.mono (CR.out _) ?_
    rintro e w1 ⟨X, Y, D, k, rfl, hk, -, hb⟩
    replace hk := hk.trans hc.out
    subst hk
    clear c_a_0 c_a_1 c_b_0 c_b_1
    replace hS := hS.call hb
    clear hb CR
    obtain ⟨k0, k1, q0, q1, y0, y1, hfin⟩ := res_after (hS.blks _ (.head _)) ⟨#[]⟩ ⟨#[]⟩
    have hfin := Lib.hid (hfin w hS.below (by omega))
    clear hS 
    go_wp2
    exact bodyPost_ret (v := .tuple #[.agg #[.string ⟨#[]⟩, .string ⟨#[]⟩], .int .i64 40]) (by simp [results, Tryz.results56, go_sem, y0, y1]) rfl ⟨rfl, hfin.out⟩
  | true =>
    obtain ⟨_, _, sx, sy, sd⟩ := cr_parts hc
    replace hc := Lib.hid hc
    rw [Bool.true_and]
    by_cases hs : Small (zS n1 * zS d2 + zS n2 * zS d1)
    · rw [decide_eq_true hs, Bool.true_and]
      obtain ⟨S, hSx⟩ : ∃ S : ByteArray, Hid (S = I (zS n1 * zS d2 + zS n2 * zS d1)) := ⟨_, rfl⟩
      have AD := Lib.hid (fun (X Y : ByteArray) (hX : X = I (zS n1 * zS d2)) (hY : Y = I (zS n2 * zS d1)) W => (show Calls Tryz.prog 83 #[.string X, .string Y] W (Rets W (.tuple #[.string S, .int .i64 0])) from by rw [hSx.out]; exact radd_is hX hY sx sy W hs))
      obtain ⟨s, t, er, hq⟩ := qT_shape (decide (zS d1 * zS d2 ≠ 0)) (Rat.divInt (zS n1 * zS d2 + zS n2 * zS d1) (zS d1 * zS d2))
      have MK := Lib.hid (fun (D : ByteArray) (hD : D = I (zS d1 * zS d2)) W => (show Calls Tryz.prog 57 #[.string S, .string D] W (Rets W (.tuple #[.agg #[.string s, .string t], .int .i64 er])) from by rw [← hq]; exact mk_text hSx.out hD hs sd W))
      rw [hq]
      clear hq
      clear hs sx sy sd
      go_enter Tryz.func56, Tryz.ntmps56
      go_upto_region 1 with fail
      rw [← hV]
      clear hV
      obtain ⟨c_a_0, c_a_1⟩ := hS.c2 (w.heap.size) _ _ _ (.tail _ (.tail _ (.head _)))
      obtain ⟨c_b_0, c_b_1⟩ := hS.c2 (w.heap.size + 1) _ _ _ (.tail _ (.head _))
      go_wp2_with fail
      refine Calls.mono (CR.out _) ?_
      rintro e w1 ⟨X, Y, D, k, rfl, hk, hT, hb⟩
      replace hk := hk.trans hc.out
      subst hk
      clear c_a_0 c_a_1 c_b_0 c_b_1
      obtain ⟨hX, hY, hD⟩ := hT rfl
      replace AD := Lib.hid (fun W => AD.out X Y hX hY W)
      replace MK := Lib.hid (fun W => MK.out D hD W)
      replace hS := hS.call hb
      clear hb CR hT hX hY hD
      go_wp2_with fail
      refine Calls.mono (AD.out _) ?_
      rintro e w2 ⟨rfl, hb⟩
      replace hS := hS.call hb
      clear hb AD
      go_wp2_with fail
      refine Calls.mono (MK.out _) ?_
      rintro e w3 ⟨rfl, hb⟩
      replace hS := hS.call hb
      clear hb MK
      obtain ⟨k0, k1, q0, q1, y0, y1, hfin⟩ := res_after (hS.blks _ (.head _)) s t
      have hfin := Lib.hid (hfin w hS.below (by omega))
      clear hS 
      go_wp2
      exact bodyPost_ret (v := .tuple #[.agg #[.string s, .string t], .int .i64 er]) (by simp [results, Tryz.results56, go_sem, y0, y1]) rfl ⟨rfl, hfin.out⟩
    · rw [decide_eq_false hs, Bool.false_and, qT_bad]
      have AD := Lib.hid (fun (X Y : ByteArray) (hX : X = I (zS n1 * zS d2)) (hY : Y = I (zS n2 * zS d1)) => radd_big hX hY sx sy hs)
      clear hs sx sy sd
      go_enter Tryz.func56, Tryz.ntmps56
      go_upto_region 1 with fail
      rw [← hV]
      clear hV
      obtain ⟨c_a_0, c_a_1⟩ := hS.c2 (w.heap.size) _ _ _ (.tail _ (.tail _ (.head _)))
      obtain ⟨c_b_0, c_b_1⟩ := hS.c2 (w.heap.size + 1) _ _ _ (.tail _ (.head _))
      go_wp2_with fail
      refine Calls.mono (CR.out _) ?_
      rintro e w1 ⟨X, Y, D, k, rfl, hk, hT, hb⟩
      replace hk := hk.trans hc.out
      subst hk
      clear c_a_0 c_a_1 c_b_0 c_b_1
      obtain ⟨hX, hY, hD⟩ := hT rfl
      obtain ⟨s, AD⟩ := AD.out X Y hX hY
      replace AD := Lib.hid AD
      replace hS := hS.call hb
      clear hb CR hT hX hY hD
      go_wp2_with fail
      refine Calls.mono (AD.out _) ?_
      rintro e w2 ⟨rfl, hb⟩
      replace hS := hS.call hb
      clear hb AD
      obtain ⟨k0, k1, q0, q1, y0, y1, hfin⟩ := res_after (hS.blks _ (.head _)) ⟨#[]⟩ ⟨#[]⟩
      have hfin := Lib.hid (hfin w hS.below (by omega))
      clear hS 
      go_wp2
      exact bodyPost_ret (v := .tuple #[.agg #[.string ⟨#[]⟩, .string ⟨#[]⟩], .int .i64 40]) (by simp [results, Tryz.results56, go_sem, y0, y1]) rfl ⟨rfl, hfin.out⟩

set_option maxRecDepth 100000 in
set_option maxHeartbeats 16000000 in
/-- putlogref04.Mul. -/
theorem qrMul_any (n1 d1 n2 d2 : ByteArray) (h1 : n1.size ≤ 9223372036854775807) (h2 : d1.size ≤ 9223372036854775807) (h3 : n2.size ≤ 9223372036854775807) (h4 : d2.size ≤ 9223372036854775807) (w : World) :
    Calls Tryz.prog 55 #[.agg #[.string n1, .string d1], .agg #[.string n2, .string d2]] w (Rets w (qT (rOk n1 d1 && rOk n2 d2 && decide (Small (zS n1 * zS n2)) && decide (Small (zS d1 * zS d2)) && decide ((zS d1 * zS d2) ≠ 0)) (Rat.divInt (zS n1 * zS n2) (zS d1 * zS d2)))) := by

  have VA := Lib.hid (fun W => qrvalid_any n1 d1 h1 h2 W)
  have VB := Lib.hid (fun W => qrvalid_any n2 d2 h3 h4 W)
  clear h1 h2 h3 h4
  have Sv0 := BL.start w
  obtain ⟨V1, ev1, Sv1, zv1⟩ := Sv0.add' #[.string n1, .string d1] 27
  obtain ⟨V2, ev2, Sv2, zv2⟩ := Sv1.add' #[.string n2, .string d2] 27
  obtain ⟨V3, ev3, Sv3, zv3⟩ := Sv2.add' #[.string ⟨#[]⟩, .string ⟨#[]⟩] 27
  rw [zv1] at Sv2
  rw [zv2, zv1] at Sv3
  have hV : V3 = (((w.alloc (.cells #[.string n1, .string d1] 27)).alloc (.cells #[.string n2, .string d2] 27)).alloc (.cells #[.string ⟨#[]⟩, .string ⟨#[]⟩] 27)) := by rw [ev3, ev2, ev1]
  have hS : BL w [(w.heap.size + 1 + 1, #[.string ⟨#[]⟩, .string ⟨#[]⟩], 27), (w.heap.size + 1, #[.string n2, .string d2], 27), (w.heap.size, #[.string n1, .string d1], 27)] V3 := Sv3
  clear ev1 ev2 ev3 zv1 zv2 zv3 Sv0 Sv1 Sv2 Sv3
  by_cases hok : rOk n1 d1 = true ∧ rOk n2 d2 = true
  · obtain ⟨c1, c2⟩ := hok
    obtain ⟨o1, o2, _, _⟩ := rOk_parts c1
    obtain ⟨o3, o4, _, _⟩ := rOk_parts c2
    obtain ⟨X, ex, MX, hx⟩ := mul_text o1 o3
    obtain ⟨D, ed, MD, hd⟩ := mul_text o2 o4
    replace MX := Lib.hid MX
    replace MD := Lib.hid MD
    rw [c1] at VA
    rw [c2] at VB
    rw [c1, c2, Bool.true_and, Bool.true_and]
    clear c1 c2 o1 o2 o3 o4
    rcases hx with ⟨sx, rfl, tx⟩ | ⟨sx, rfl⟩ <;> rcases hd with ⟨sd, rfl, td⟩ | ⟨sd, rfl⟩
    · rw [decide_eq_true sx, decide_eq_true sd, Bool.true_and, Bool.true_and]
      obtain ⟨s, t, er, hq⟩ := qT_shape (decide ((zS d1 * zS d2) ≠ 0)) (Rat.divInt (zS n1 * zS n2) (zS d1 * zS d2))
      have MK := Lib.hid (fun W => (show Calls Tryz.prog 57 #[.string X, .string D] W (Rets W (.tuple #[.agg #[.string s, .string t], .int .i64 er])) from by rw [← hq]; exact mk_text tx td sx sd W))
      rw [hq]
      clear hq tx td
      clear sx sd
      go_enter Tryz.func55, Tryz.ntmps55
      go_upto_region 1 with fail
      rw [← hV]
      clear hV
      obtain ⟨c_a_0, c_a_1⟩ := hS.c2 (w.heap.size) _ _ _ (.tail _ (.tail _ (.head _)))
      go_wp2_with fail
      refine Calls.mono (VA.out _) ?_
      rintro e w1 ⟨rfl, hb⟩
      clear c_a_0 c_a_1
      replace hS := hS.call hb
      clear hb VA
      obtain ⟨c_b_0, c_b_1⟩ := hS.c2 (w.heap.size + 1) _ _ _ (.tail _ (.head _))
      go_wp2_with fail
      refine Calls.mono (VB.out _) ?_
      rintro e w2 ⟨rfl, hb⟩
      clear c_b_0 c_b_1
      replace hS := hS.call hb
      clear hb VB
      obtain ⟨c_a_0, c_a_1⟩ := hS.c2 (w.heap.size) _ _ _ (.tail _ (.tail _ (.head _)))
      obtain ⟨c_b_0, c_b_1⟩ := hS.c2 (w.heap.size + 1) _ _ _ (.tail _ (.head _))
      go_wp2_with fail
      refine Calls.mono (MX.out _) ?_
      rintro e w3 ⟨rfl, hb⟩
      clear c_a_0 c_a_1 c_b_0 c_b_1
      replace hS := hS.call hb
      clear hb MX
      obtain ⟨c_a_0, c_a_1⟩ := hS.c2 (w.heap.size) _ _ _ (.tail _ (.tail _ (.head _)))
      obtain ⟨c_b_0, c_b_1⟩ := hS.c2 (w.heap.size + 1) _ _ _ (.tail _ (.head _))
      go_wp2_with fail
      refine Calls.mono (MD.out _) ?_
      rintro e w4 ⟨rfl, hb⟩
      clear c_a_0 c_a_1 c_b_0 c_b_1
      replace hS := hS.call hb
      clear hb MD
      go_wp2_with fail
      refine Calls.mono (MK.out _) ?_
      rintro e w5 ⟨rfl, hb⟩
      replace hS := hS.call hb
      clear hb MK
      obtain ⟨k0, k1, q0, q1, y0, y1, hfin⟩ := res_after (hS.blks _ (.head _)) s t
      have hfin := Lib.hid (hfin w hS.below (by omega))
      clear hS 
      go_wp2
      exact bodyPost_ret (v := .tuple #[.agg #[.string s, .string t], .int .i64 er]) (by simp [results, Tryz.results55, go_sem, y0, y1]) rfl ⟨rfl, hfin.out⟩
    · rw [decide_eq_false sd, Bool.and_false, Bool.false_and, qT_bad]
      clear tx
      clear sx sd
      go_enter Tryz.func55, Tryz.ntmps55
      go_upto_region 1 with fail
      rw [← hV]
      clear hV
      obtain ⟨c_a_0, c_a_1⟩ := hS.c2 (w.heap.size) _ _ _ (.tail _ (.tail _ (.head _)))
      go_wp2_with fail
      refine Calls.mono (VA.out _) ?_
      rintro e w1 ⟨rfl, hb⟩
      clear c_a_0 c_a_1
      replace hS := hS.call hb
      clear hb VA
      obtain ⟨c_b_0, c_b_1⟩ := hS.c2 (w.heap.size + 1) _ _ _ (.tail _ (.head _))
      go_wp2_with fail
      refine Calls.mono (VB.out _) ?_
      rintro e w2 ⟨rfl, hb⟩
      clear c_b_0 c_b_1
      replace hS := hS.call hb
      clear hb VB
      obtain ⟨c_a_0, c_a_1⟩ := hS.c2 (w.heap.size) _ _ _ (.tail _ (.tail _ (.head _)))
      obtain ⟨c_b_0, c_b_1⟩ := hS.c2 (w.heap.size + 1) _ _ _ (.tail _ (.head _))
      go_wp2_with fail
      refine Calls.mono (MX.out _) ?_
      rintro e w3 ⟨rfl, hb⟩
      clear c_a_0 c_a_1 c_b_0 c_b_1
      replace hS := hS.call hb
      clear hb MX
      obtain ⟨c_a_0, c_a_1⟩ := hS.c2 (w.heap.size) _ _ _ (.tail _ (.tail _ (.head _)))
      obtain ⟨c_b_0, c_b_1⟩ := hS.c2 (w.heap.size + 1) _ _ _ (.tail _ (.head _))
      go_wp2_with fail
      refine Calls.mono (MD.out _) ?_
      rintro e w4 ⟨rfl, hb⟩
      clear c_a_0 c_a_1 c_b_0 c_b_1
      replace hS := hS.call hb
      clear hb MD
      obtain ⟨k0, k1, q0, q1, y0, y1, hfin⟩ := res_after (hS.blks _ (.head _)) ⟨#[]⟩ ⟨#[]⟩
      have hfin := Lib.hid (hfin w hS.below (by omega))
      clear hS 
      go_wp2
      exact bodyPost_ret (v := .tuple #[.agg #[.string ⟨#[]⟩, .string ⟨#[]⟩], .int .i64 40]) (by simp [results, Tryz.results55, go_sem, y0, y1]) rfl ⟨rfl, hfin.out⟩
    · rw [decide_eq_false sx, Bool.false_and, Bool.false_and, qT_bad]
      clear td
      clear sx sd
      go_enter Tryz.func55, Tryz.ntmps55
      go_upto_region 1 with fail
      rw [← hV]
      clear hV
      obtain ⟨c_a_0, c_a_1⟩ := hS.c2 (w.heap.size) _ _ _ (.tail _ (.tail _ (.head _)))
      go_wp2_with fail
      refine Calls.mono (VA.out _) ?_
      rintro e w1 ⟨rfl, hb⟩
      clear c_a_0 c_a_1
      replace hS := hS.call hb
      clear hb VA
      obtain ⟨c_b_0, c_b_1⟩ := hS.c2 (w.heap.size + 1) _ _ _ (.tail _ (.head _))
      go_wp2_with fail
      refine Calls.mono (VB.out _) ?_
      rintro e w2 ⟨rfl, hb⟩
      clear c_b_0 c_b_1
      replace hS := hS.call hb
      clear hb VB
      obtain ⟨c_a_0, c_a_1⟩ := hS.c2 (w.heap.size) _ _ _ (.tail _ (.tail _ (.head _)))
      obtain ⟨c_b_0, c_b_1⟩ := hS.c2 (w.heap.size + 1) _ _ _ (.tail _ (.head _))
      go_wp2_with fail
      refine Calls.mono (MX.out _) ?_
      rintro e w3 ⟨rfl, hb⟩
      clear c_a_0 c_a_1 c_b_0 c_b_1
      replace hS := hS.call hb
      clear hb MX
      obtain ⟨c_a_0, c_a_1⟩ := hS.c2 (w.heap.size) _ _ _ (.tail _ (.tail _ (.head _)))
      obtain ⟨c_b_0, c_b_1⟩ := hS.c2 (w.heap.size + 1) _ _ _ (.tail _ (.head _))
      go_wp2_with fail
      refine Calls.mono (MD.out _) ?_
      rintro e w4 ⟨rfl, hb⟩
      clear c_a_0 c_a_1 c_b_0 c_b_1
      replace hS := hS.call hb
      clear hb MD
      obtain ⟨k0, k1, q0, q1, y0, y1, hfin⟩ := res_after (hS.blks _ (.head _)) ⟨#[]⟩ ⟨#[]⟩
      have hfin := Lib.hid (hfin w hS.below (by omega))
      clear hS 
      go_wp2
      exact bodyPost_ret (v := .tuple #[.agg #[.string ⟨#[]⟩, .string ⟨#[]⟩], .int .i64 40]) (by simp [results, Tryz.results55, go_sem, y0, y1]) rfl ⟨rfl, hfin.out⟩
    · rw [decide_eq_false sx, Bool.false_and, Bool.false_and, qT_bad]
      clear sx sd
      go_enter Tryz.func55, Tryz.ntmps55
      go_upto_region 1 with fail
      rw [← hV]
      clear hV
      obtain ⟨c_a_0, c_a_1⟩ := hS.c2 (w.heap.size) _ _ _ (.tail _ (.tail _ (.head _)))
      go_wp2_with fail
      refine Calls.mono (VA.out _) ?_
      rintro e w1 ⟨rfl, hb⟩
      clear c_a_0 c_a_1
      replace hS := hS.call hb
      clear hb VA
      obtain ⟨c_b_0, c_b_1⟩ := hS.c2 (w.heap.size + 1) _ _ _ (.tail _ (.head _))
      go_wp2_with fail
      refine Calls.mono (VB.out _) ?_
      rintro e w2 ⟨rfl, hb⟩
      clear c_b_0 c_b_1
      replace hS := hS.call hb
      clear hb VB
      obtain ⟨c_a_0, c_a_1⟩ := hS.c2 (w.heap.size) _ _ _ (.tail _ (.tail _ (.head _)))
      obtain ⟨c_b_0, c_b_1⟩ := hS.c2 (w.heap.size + 1) _ _ _ (.tail _ (.head _))
      go_wp2_with fail
      refine Calls.mono (MX.out _) ?_
      rintro e w3 ⟨rfl, hb⟩
      clear c_a_0 c_a_1 c_b_0 c_b_1
      replace hS := hS.call hb
      clear hb MX
      obtain ⟨c_a_0, c_a_1⟩ := hS.c2 (w.heap.size) _ _ _ (.tail _ (.tail _ (.head _)))
      obtain ⟨c_b_0, c_b_1⟩ := hS.c2 (w.heap.size + 1) _ _ _ (.tail _ (.head _))
      go_wp2_with fail
      refine Calls.mono (MD.out _) ?_
      rintro e w4 ⟨rfl, hb⟩
      clear c_a_0 c_a_1 c_b_0 c_b_1
      replace hS := hS.call hb
      clear hb MD
      obtain ⟨k0, k1, q0, q1, y0, y1, hfin⟩ := res_after (hS.blks _ (.head _)) ⟨#[]⟩ ⟨#[]⟩
      have hfin := Lib.hid (hfin w hS.below (by omega))
      clear hS 
      go_wp2
      exact bodyPost_ret (v := .tuple #[.agg #[.string ⟨#[]⟩, .string ⟨#[]⟩], .int .i64 40]) (by simp [results, Tryz.results55, go_sem, y0, y1]) rfl ⟨rfl, hfin.out⟩
  · obtain ⟨e0, hor⟩ := and_false_of hok
    rw [e0, Bool.false_and, Bool.false_and, Bool.false_and, qT_bad]
    clear e0 hok
    generalize rOk n1 d1 = c1 at *
    generalize rOk n2 d2 = c2 at *
    cases c1 <;> cases c2
    · clear hor
      go_enter Tryz.func55, Tryz.ntmps55
      go_upto_region 1 with fail
      rw [← hV]
      clear hV
      obtain ⟨c_a_0, c_a_1⟩ := hS.c2 (w.heap.size) _ _ _ (.tail _ (.tail _ (.head _)))
      go_wp2_with fail
      refine Calls.mono (VA.out _) ?_
      rintro e w1 ⟨rfl, hb⟩
      clear c_a_0 c_a_1
      replace hS := hS.call hb
      clear hb VA
      obtain ⟨c_b_0, c_b_1⟩ := hS.c2 (w.heap.size + 1) _ _ _ (.tail _ (.head _))
      go_wp2_with fail
      refine Calls.mono (VB.out _) ?_
      rintro e w2 ⟨rfl, hb⟩
      clear c_b_0 c_b_1
      replace hS := hS.call hb
      clear hb VB
      obtain ⟨k0, k1, q0, q1, y0, y1, hfin⟩ := res_after (hS.blks _ (.head _)) ⟨#[]⟩ ⟨#[]⟩
      have hfin := Lib.hid (hfin w hS.below (by omega))
      clear hS 
      go_wp2
      exact bodyPost_ret (v := .tuple #[.agg #[.string ⟨#[]⟩, .string ⟨#[]⟩], .int .i64 40]) (by simp [results, Tryz.results55, go_sem, y0, y1]) rfl ⟨rfl, hfin.out⟩
    · clear hor
      go_enter Tryz.func55, Tryz.ntmps55
      go_upto_region 1 with fail
      rw [← hV]
      clear hV
      obtain ⟨c_a_0, c_a_1⟩ := hS.c2 (w.heap.size) _ _ _ (.tail _ (.tail _ (.head _)))
      go_wp2_with fail
      refine Calls.mono (VA.out _) ?_
      rintro e w1 ⟨rfl, hb⟩
      clear c_a_0 c_a_1
      replace hS := hS.call hb
      clear hb VA
      obtain ⟨c_b_0, c_b_1⟩ := hS.c2 (w.heap.size + 1) _ _ _ (.tail _ (.head _))
      go_wp2_with fail
      refine Calls.mono (VB.out _) ?_
      rintro e w2 ⟨rfl, hb⟩
      clear c_b_0 c_b_1
      replace hS := hS.call hb
      clear hb VB
      obtain ⟨k0, k1, q0, q1, y0, y1, hfin⟩ := res_after (hS.blks _ (.head _)) ⟨#[]⟩ ⟨#[]⟩
      have hfin := Lib.hid (hfin w hS.below (by omega))
      clear hS 
      go_wp2
      exact bodyPost_ret (v := .tuple #[.agg #[.string ⟨#[]⟩, .string ⟨#[]⟩], .int .i64 40]) (by simp [results, Tryz.results55, go_sem, y0, y1]) rfl ⟨rfl, hfin.out⟩
    · clear hor
      go_enter Tryz.func55, Tryz.ntmps55
      go_upto_region 1 with fail
      rw [← hV]
      clear hV
      obtain ⟨c_a_0, c_a_1⟩ := hS.c2 (w.heap.size) _ _ _ (.tail _ (.tail _ (.head _)))
      go_wp2_with fail
      refine Calls.mono (VA.out _) ?_
      rintro e w1 ⟨rfl, hb⟩
      clear c_a_0 c_a_1
      replace hS := hS.call hb
      clear hb VA
      obtain ⟨c_b_0, c_b_1⟩ := hS.c2 (w.heap.size + 1) _ _ _ (.tail _ (.head _))
      go_wp2_with fail
      refine Calls.mono (VB.out _) ?_
      rintro e w2 ⟨rfl, hb⟩
      clear c_b_0 c_b_1
      replace hS := hS.call hb
      clear hb VB
      obtain ⟨k0, k1, q0, q1, y0, y1, hfin⟩ := res_after (hS.blks _ (.head _)) ⟨#[]⟩ ⟨#[]⟩
      have hfin := Lib.hid (hfin w hS.below (by omega))
      clear hS 
      go_wp2
      exact bodyPost_ret (v := .tuple #[.agg #[.string ⟨#[]⟩, .string ⟨#[]⟩], .int .i64 40]) (by simp [results, Tryz.results55, go_sem, y0, y1]) rfl ⟨rfl, hfin.out⟩
    · simp at hor

end Go.Proofs.YtebokdboodgkpaaGreatDoor
