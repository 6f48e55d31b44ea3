/- package decay: Fits, extreme. -/
import Derived.Test.YtebokdboodgkpaaGreatDoorDecG
import Derived.Deep.RegionHeld3
import Derived.Deep.QuietTactic
import Derived.BigQuiet
namespace Go.Proofs.YtebokdboodgkpaaGreatDoor
open Go.RowKit
open DecM (Dt gd okD inDay Ln fitting bst ext sg)
attribute [local go_sem] Oper.semAt_some


theorem BL.c3 {w W : World} {L : BLs} (h : BL w L W) (B : Nat) (a b c : Value) (t : TypeId) (hm : (B, #[a, b, c], t) ∈ L) : W.cell? ⟨B, 0, none⟩ = some a ∧ W.cell? ⟨B, 1, none⟩ = some b ∧ W.cell? ⟨B, 2, none⟩ = some c := ⟨h.cell B _ t hm 0, h.cell B _ t hm 1, h.cell B _ t hm 2⟩
/-- Whether a datum lies off a model. -/
def offM (a b : Option Rat) (d : Dt) : Bool := match valO a b d.t with
  | none => true
  | some v => decide (v < (d.lo : Rat)) || decide ((d.hi : Rat) < v)
def fitO (l : List Dt) (a b : Option Rat) : Bool := okD l && a.isSome && b.isSome && !l.any (offM a b)
theorem cmpQ_neg (x y : Rat) : decide (cmpQ x y < 0) = decide (x < y) := by
  rcases cmpQ_cases x y with ⟨h, e⟩ | ⟨h, e⟩ | ⟨h, e⟩
  · rw [e]; simp [h]
  · rw [e]; subst h; simp [Rat.lt_irrefl]
  · rw [e]; simp; exact Rat.not_lt.2 (Rat.le_of_lt h)
theorem cmpQ_pos (x y : Rat) : decide (cmpQ x y > 0) = decide (y < x) := by
  rcases cmpQ_cases x y with ⟨h, e⟩ | ⟨h, e⟩ | ⟨h, e⟩
  · rw [e]; simp; exact Rat.not_lt.2 (Rat.le_of_lt h)
  · rw [e]; subst h; simp [Rat.lt_irrefl]
  · rw [e]; simp [h]
theorem ok_int {z : Int} (h : Fits z) : OkO (some (z : Rat)) := OkO.some (show SmallQ (z : Rat) from ⟨fits_small h, one_small⟩)

set_option maxRecDepth 100000 in
set_option maxHeartbeats 16000000 in
theorem dfits1_any (n1 d1 n2 d2 : ByteArray) (d : Dt) (Ba Bb : Nat) (h0 : Fits d.t) (h1 : Fits d.lo) (h2 : Fits d.hi) (w : World) (hE : Env w) (k1 : Blk w Ba #[.string n1, .string d1] 27) (k2 : Blk w Bb #[.string n2, .string d2] 27) :
    Calls Tryz.prog 51 #[.agg #[.int .i64 d.t, .int .i64 d.lo, .int .i64 d.hi], .pointer (some ⟨Ba, 0, none⟩), .pointer (some ⟨Bb, 0, none⟩)] w (Rets w (.bool (offM (oq n1 d1) (oq n2 d2) d))) := by
  have VL := fun W (hE : Env W) => value_any n1 d1 n2 d2 d.t h0 W hE
  unfold dV at VL
  have OL := fun W (hE : Env W) => qof_o d.lo 1 h1 (by decide) W hE
  rw [oOf_one] at OL
  unfold oV at OL
  have OH := fun W (hE : Env W) => qof_o d.hi 1 h2 (by decide) W hE
  rw [oOf_one] at OH
  unfold oV at OH
  have hvo : OkO (valO (oq n1 d1) (oq n2 d2) d.t) := OkO.val
  have CL := fun W (hE : Env W) => qcmp_o hvo (ok_int h1) W hE
  have CH := fun W (hE : Env W) => qcmp_o hvo (ok_int h2) W hE
  unfold offM
  clear hvo h0 h1 h2
  generalize valO (oq n1 d1) (oq n2 d2) d.t = ov at *
  generalize tN (some (d.lo : Rat)) = ln at *
  generalize tD (some (d.lo : Rat)) = ld at *
  generalize eO (some (d.lo : Rat)) = le at *
  generalize tN (some (d.hi : Rat)) = hn at *
  generalize tD (some (d.hi : Rat)) = hd at *
  generalize eO (some (d.hi : Rat)) = he at *
  have S0 : BL w [(Bb, #[.string n2, .string d2], 27), (Ba, #[.string n1, .string d1], 27)] w := ⟨Below.refl _ _, fun p hp => by rcases List.mem_cons.1 hp with rfl | hp; exact k2; rcases List.mem_cons.1 hp with rfl | hp; exact k1; cases hp⟩
  obtain ⟨V1, ev1, S1, zv1⟩ := S0.add' #[.int .i64 d.t, .int .i64 d.lo, .int .i64 d.hi] 58
  have hV : V1 = (w.alloc (.cells #[.int .i64 d.t, .int .i64 d.lo, .int .i64 d.hi] 58)) := by rw [ev1]
  have hS : BL w [(w.heap.size, #[.int .i64 d.t, .int .i64 d.lo, .int .i64 d.hi], 58), (Bb, #[.string n2, .string d2], 27), (Ba, #[.string n1, .string d1], 27)] V1 := S1
  clear ev1 zv1 S0 S1
  clear k1 k2
  replace OL := Lib.hid OL
  replace OH := Lib.hid OH
  cases ov with
  | none =>
    clear CL CH
    replace VL : ∀ W, Env W → Calls Tryz.prog 26 #[.agg #[.string n1, .string d1], .agg #[.string n2, .string d2], .int .i64 d.t] W (Rets W (.tuple #[.agg #[.string ⟨#[]⟩, .string ⟨#[]⟩], .int .i64 260])) := VL
    replace VL := Lib.hid VL
    go_enter Tryz.func51, Tryz.ntmps51
    go_upto_region 1 with fail
    rw [← hV]
    clear hV
    obtain ⟨c_a_0, c_a_1⟩ := hS.c2 (Ba) _ _ _ (.tail _ (.tail _ (.head _)))
    obtain ⟨c_b_0, c_b_1⟩ := hS.c2 (Bb) _ _ _ (.tail _ (.head _))
    obtain ⟨c_d_0, c_d_1, c_d_2⟩ := hS.c3 (w.heap.size) _ _ _ _ (.head _)
    go_wp2_with fail
    refine Calls.mono (VL.out _ (hS.env hE)) ?_
    rintro e w1 ⟨rfl, hb⟩
    clear c_a_0 c_a_1 c_b_0 c_b_1 c_d_0 c_d_1 c_d_2
    replace hS := hS.call hb
    clear hb
    replace hS := hS.add' #[.string ⟨#[]⟩, .string ⟨#[]⟩] 27
    obtain ⟨W0, hW0, hS, hz0⟩ := hS
    obtain ⟨W, hW⟩ : ∃ W, W = (w1.alloc (.cells #[.string ⟨#[]⟩, .string ⟨#[]⟩] 27)) := ⟨_, rfl⟩
    replace hS : BL w [(w1.heap.size, #[.string ⟨#[]⟩, .string ⟨#[]⟩], 27), (w.heap.size, #[.int .i64 d.t, .int .i64 d.lo, .int .i64 d.hi], 58), (Bb, #[.string n2, .string d2], 27), (Ba, #[.string n1, .string d1], 27)] W := by rw [hW, ← hW0]; exact hS
    clear hz0 hW0
    go_upto_region 2 with fail
    rw [← hW]
    clear hW
    obtain ⟨c_d_0, c_d_1, c_d_2⟩ := hS.c3 (w.heap.size) _ _ _ _ (.tail _ (.head _))
    go_wp2_with fail
    refine Calls.mono (OL.out _ (hS.env hE)) ?_
    rintro e w2 ⟨rfl, hb⟩
    clear c_d_0 c_d_1 c_d_2
    replace hS := hS.call hb
    clear hb
    replace hS := hS.add' #[.string ln, .string ld] 27
    obtain ⟨W0, hW0, hS, hz0⟩ := hS
    obtain ⟨W, hW⟩ : ∃ W, W = (w2.alloc (.cells #[.string ln, .string ld] 27)) := ⟨_, rfl⟩
    replace hS : BL w [(w2.heap.size, #[.string ln, .string ld], 27), (w1.heap.size, #[.string ⟨#[]⟩, .string ⟨#[]⟩], 27), (w.heap.size, #[.int .i64 d.t, .int .i64 d.lo, .int .i64 d.hi], 58), (Bb, #[.string n2, .string d2], 27), (Ba, #[.string n1, .string d1], 27)] W := by rw [hW, ← hW0]; exact hS
    clear hz0 hW0
    go_upto_region 3 with fail
    rw [← hW]
    clear hW
    obtain ⟨c_d_0, c_d_1, c_d_2⟩ := hS.c3 (w.heap.size) _ _ _ _ (.tail _ (.tail _ (.head _)))
    go_wp2_with fail
    refine Calls.mono (OH.out _ (hS.env hE)) ?_
    rintro e w3 ⟨rfl, hb⟩
    clear c_d_0 c_d_1 c_d_2
    replace hS := hS.call hb
    clear hb
    replace hS := hS.add' #[.string hn, .string hd] 27
    obtain ⟨W0, hW0, hS, hz0⟩ := hS
    obtain ⟨W, hW⟩ : ∃ W, W = (w3.alloc (.cells #[.string hn, .string hd] 27)) := ⟨_, rfl⟩
    replace hS : BL w [(w3.heap.size, #[.string hn, .string hd], 27), (w2.heap.size, #[.string ln, .string ld], 27), (w1.heap.size, #[.string ⟨#[]⟩, .string ⟨#[]⟩], 27), (w.heap.size, #[.int .i64 d.t, .int .i64 d.lo, .int .i64 d.hi], 58), (Bb, #[.string n2, .string d2], 27), (Ba, #[.string n1, .string d1], 27)] W := by rw [hW, ← hW0]; exact hS
    clear hz0 hW0
    go_upto_region 4 with fail
    rw [← hW]
    clear hW
    go_wp2
    go_ret
    exact ⟨rfl, hS.below⟩
  | some v =>
    show Calls _ _ _ _ (Rets w (.bool (decide (v < (d.lo : Rat)) || decide ((d.hi : Rat) < v))))
    rw [← cmpQ_neg, ← cmpQ_pos]
    replace CL : ∀ W, Env W → Calls Tryz.prog 46 #[.agg #[.string (tN (some v)), .string (tD (some v))], .agg #[.string ln, .string ld]] W (Rets W (.int .i64 (cmpQ v (d.lo : Rat)))) := CL
    replace CH : ∀ W, Env W → Calls Tryz.prog 46 #[.agg #[.string (tN (some v)), .string (tD (some v))], .agg #[.string hn, .string hd]] W (Rets W (.int .i64 (cmpQ v (d.hi : Rat)))) := CH
    replace VL : ∀ W, Env W → Calls Tryz.prog 26 #[.agg #[.string n1, .string d1], .agg #[.string n2, .string d2], .int .i64 d.t] W (Rets W (.tuple #[.agg #[.string (tN (some v)), .string (tD (some v))], .int .i64 0])) := VL
    generalize tN (some v) = vn at *
    generalize tD (some v) = vd at *
    generalize cmpQ v (d.lo : Rat) = cl at *
    generalize cmpQ v (d.hi : Rat) = ch at *
    replace CL := Lib.hid CL
    replace CH := Lib.hid CH
    replace VL := Lib.hid VL
    by_cases c1 : cl < 0
    · rw [decide_eq_true c1, Bool.true_or]
      go_enter Tryz.func51, Tryz.ntmps51
      go_upto_region 1 with fail
      rw [← hV]
      clear hV
      obtain ⟨c_a_0, c_a_1⟩ := hS.c2 (Ba) _ _ _ (.tail _ (.tail _ (.head _)))
      obtain ⟨c_b_0, c_b_1⟩ := hS.c2 (Bb) _ _ _ (.tail _ (.head _))
      obtain ⟨c_d_0, c_d_1, c_d_2⟩ := hS.c3 (w.heap.size) _ _ _ _ (.head _)
      go_wp2_with fail
      refine Calls.mono (VL.out _ (hS.env hE)) ?_
      rintro e w1 ⟨rfl, hb⟩
      clear c_a_0 c_a_1 c_b_0 c_b_1 c_d_0 c_d_1 c_d_2
      replace hS := hS.call hb
      clear hb
      replace hS := hS.add' #[.string vn, .string vd] 27
      obtain ⟨W0, hW0, hS, hz0⟩ := hS
      obtain ⟨W, hW⟩ : ∃ W, W = (w1.alloc (.cells #[.string vn, .string vd] 27)) := ⟨_, rfl⟩
      replace hS : BL w [(w1.heap.size, #[.string vn, .string vd], 27), (w.heap.size, #[.int .i64 d.t, .int .i64 d.lo, .int .i64 d.hi], 58), (Bb, #[.string n2, .string d2], 27), (Ba, #[.string n1, .string d1], 27)] W := by rw [hW, ← hW0]; exact hS
      clear hz0 hW0
      go_upto_region 2 with fail
      rw [← hW]
      clear hW
      obtain ⟨c_d_0, c_d_1, c_d_2⟩ := hS.c3 (w.heap.size) _ _ _ _ (.tail _ (.head _))
      go_wp2_with fail
      refine Calls.mono (OL.out _ (hS.env hE)) ?_
      rintro e w2 ⟨rfl, hb⟩
      clear c_d_0 c_d_1 c_d_2
      replace hS := hS.call hb
      clear hb
      replace hS := hS.add' #[.string ln, .string ld] 27
      obtain ⟨W0, hW0, hS, hz0⟩ := hS
      obtain ⟨W, hW⟩ : ∃ W, W = (w2.alloc (.cells #[.string ln, .string ld] 27)) := ⟨_, rfl⟩
      replace hS : BL w [(w2.heap.size, #[.string ln, .string ld], 27), (w1.heap.size, #[.string vn, .string vd], 27), (w.heap.size, #[.int .i64 d.t, .int .i64 d.lo, .int .i64 d.hi], 58), (Bb, #[.string n2, .string d2], 27), (Ba, #[.string n1, .string d1], 27)] W := by rw [hW, ← hW0]; exact hS
      clear hz0 hW0
      go_upto_region 3 with fail
      rw [← hW]
      clear hW
      obtain ⟨c_d_0, c_d_1, c_d_2⟩ := hS.c3 (w.heap.size) _ _ _ _ (.tail _ (.tail _ (.head _)))
      go_wp2_with fail
      refine Calls.mono (OH.out _ (hS.env hE)) ?_
      rintro e w3 ⟨rfl, hb⟩
      clear c_d_0 c_d_1 c_d_2
      replace hS := hS.call hb
      clear hb
      replace hS := hS.add' #[.string hn, .string hd] 27
      obtain ⟨W0, hW0, hS, hz0⟩ := hS
      obtain ⟨W, hW⟩ : ∃ W, W = (w3.alloc (.cells #[.string hn, .string hd] 27)) := ⟨_, rfl⟩
      replace hS : BL w [(w3.heap.size, #[.string hn, .string hd], 27), (w2.heap.size, #[.string ln, .string ld], 27), (w1.heap.size, #[.string vn, .string vd], 27), (w.heap.size, #[.int .i64 d.t, .int .i64 d.lo, .int .i64 d.hi], 58), (Bb, #[.string n2, .string d2], 27), (Ba, #[.string n1, .string d1], 27)] W := by rw [hW, ← hW0]; exact hS
      clear hz0 hW0
      go_upto_region 4 with fail
      rw [← hW]
      clear hW
      obtain ⟨c_v_0, c_v_1⟩ := hS.c2 (w1.heap.size) _ _ _ (.tail _ (.tail _ (.head _)))
      obtain ⟨c_lo_0, c_lo_1⟩ := hS.c2 (w2.heap.size) _ _ _ (.tail _ (.head _))
      go_wp2_with fail
      refine Calls.mono (CL.out _ (hS.env hE)) ?_
      rintro e w4 ⟨rfl, hb⟩
      clear c_v_0 c_v_1 c_lo_0 c_lo_1
      replace hS := hS.call hb
      clear hb
      go_wp2
      go_ret
      exact ⟨rfl, hS.below⟩
    · rw [decide_eq_false c1, Bool.false_or]
      go_enter Tryz.func51, Tryz.ntmps51
      go_upto_region 1 with fail
      rw [← hV]
      clear hV
      obtain ⟨c_a_0, c_a_1⟩ := hS.c2 (Ba) _ _ _ (.tail _ (.tail _ (.head _)))
      obtain ⟨c_b_0, c_b_1⟩ := hS.c2 (Bb) _ _ _ (.tail _ (.head _))
      obtain ⟨c_d_0, c_d_1, c_d_2⟩ := hS.c3 (w.heap.size) _ _ _ _ (.head _)
      go_wp2_with fail
      refine Calls.mono (VL.out _ (hS.env hE)) ?_
      rintro e w1 ⟨rfl, hb⟩
      clear c_a_0 c_a_1 c_b_0 c_b_1 c_d_0 c_d_1 c_d_2
      replace hS := hS.call hb
      clear hb
      replace hS := hS.add' #[.string vn, .string vd] 27
      obtain ⟨W0, hW0, hS, hz0⟩ := hS
      obtain ⟨W, hW⟩ : ∃ W, W = (w1.alloc (.cells #[.string vn, .string vd] 27)) := ⟨_, rfl⟩
      replace hS : BL w [(w1.heap.size, #[.string vn, .string vd], 27), (w.heap.size, #[.int .i64 d.t, .int .i64 d.lo, .int .i64 d.hi], 58), (Bb, #[.string n2, .string d2], 27), (Ba, #[.string n1, .string d1], 27)] W := by rw [hW, ← hW0]; exact hS
      clear hz0 hW0
      go_upto_region 2 with fail
      rw [← hW]
      clear hW
      obtain ⟨c_d_0, c_d_1, c_d_2⟩ := hS.c3 (w.heap.size) _ _ _ _ (.tail _ (.head _))
      go_wp2_with fail
      refine Calls.mono (OL.out _ (hS.env hE)) ?_
      rintro e w2 ⟨rfl, hb⟩
      clear c_d_0 c_d_1 c_d_2
      replace hS := hS.call hb
      clear hb
      replace hS := hS.add' #[.string ln, .string ld] 27
      obtain ⟨W0, hW0, hS, hz0⟩ := hS
      obtain ⟨W, hW⟩ : ∃ W, W = (w2.alloc (.cells #[.string ln, .string ld] 27)) := ⟨_, rfl⟩
      replace hS : BL w [(w2.heap.size, #[.string ln, .string ld], 27), (w1.heap.size, #[.string vn, .string vd], 27), (w.heap.size, #[.int .i64 d.t, .int .i64 d.lo, .int .i64 d.hi], 58), (Bb, #[.string n2, .string d2], 27), (Ba, #[.string n1, .string d1], 27)] W := by rw [hW, ← hW0]; exact hS
      clear hz0 hW0
      go_upto_region 3 with fail
      rw [← hW]
      clear hW
      obtain ⟨c_d_0, c_d_1, c_d_2⟩ := hS.c3 (w.heap.size) _ _ _ _ (.tail _ (.tail _ (.head _)))
      go_wp2_with fail
      refine Calls.mono (OH.out _ (hS.env hE)) ?_
      rintro e w3 ⟨rfl, hb⟩
      clear c_d_0 c_d_1 c_d_2
      replace hS := hS.call hb
      clear hb
      replace hS := hS.add' #[.string hn, .string hd] 27
      obtain ⟨W0, hW0, hS, hz0⟩ := hS
      obtain ⟨W, hW⟩ : ∃ W, W = (w3.alloc (.cells #[.string hn, .string hd] 27)) := ⟨_, rfl⟩
      replace hS : BL w [(w3.heap.size, #[.string hn, .string hd], 27), (w2.heap.size, #[.string ln, .string ld], 27), (w1.heap.size, #[.string vn, .string vd], 27), (w.heap.size, #[.int .i64 d.t, .int .i64 d.lo, .int .i64 d.hi], 58), (Bb, #[.string n2, .string d2], 27), (Ba, #[.string n1, .string d1], 27)] W := by rw [hW, ← hW0]; exact hS
      clear hz0 hW0
      go_upto_region 4 with fail
      rw [← hW]
      clear hW
      obtain ⟨c_v_0, c_v_1⟩ := hS.c2 (w1.heap.size) _ _ _ (.tail _ (.tail _ (.head _)))
      obtain ⟨c_lo_0, c_lo_1⟩ := hS.c2 (w2.heap.size) _ _ _ (.tail _ (.head _))
      go_wp2_with fail
      refine Calls.mono (CL.out _ (hS.env hE)) ?_
      rintro e w4 ⟨rfl, hb⟩
      clear c_v_0 c_v_1 c_lo_0 c_lo_1
      replace hS := hS.call hb
      clear hb
      obtain ⟨c_v_0, c_v_1⟩ := hS.c2 (w1.heap.size) _ _ _ (.tail _ (.tail _ (.head _)))
      obtain ⟨c_hi_0, c_hi_1⟩ := hS.c2 (w3.heap.size) _ _ _ (.head _)
      go_wp2_with fail
      refine Calls.mono (CH.out _ (hS.env hE)) ?_
      rintro e w5 ⟨rfl, hb⟩
      clear c_v_0 c_v_1 c_hi_0 c_hi_1
      replace hS := hS.call hb
      clear hb
      go_wp2
      go_ret
      exact ⟨ret_bool (by rw [decide_eq_false (show ¬ cl < 0 by omega), Bool.false_or]), hS.below⟩

set_option maxRecDepth 100000 in
set_option maxHeartbeats 16000000 in
/-- decay.Fits. -/
theorem dfits_any (v : Value) (l : List Dt) (n1 d1 n2 d2 : ByteArray) (hf : ∀ d ∈ l, Fits d.t ∧ Fits d.lo ∧ Fits d.hi) (w : World) (hE : Env w) (h : SlD w v l) :
    Calls Tryz.prog 24 #[v, .agg #[.string n1, .string d1], .agg #[.string n2, .string d2]] w (Rets w (.bool (fitO l (oq n1 d1) (oq n2 d2)))) := by
  have VD := fun W (h : SlD W v l) => dvalid_any v l W h
  have VA := fun W (hE : Env W) => qvalid_any n1 d1 W hE
  have VB := fun W (hE : Env W) => qvalid_any n2 d2 W hE
  have CF := fun W (hW : SlD W v l) (hE : Env W) Ba Bb (k1 : Blk W Ba #[.string n1, .string d1] 27) (k2 : Blk W Bb #[.string n2, .string d2] 27) => containsD_any v l 51 #[.pointer (some ⟨Ba, 0, none⟩), .pointer (some ⟨Bb, 0, none⟩)] (offM (oq n1 d1) (oq n2 d2)) W hW (Go.Proofs.enters_of Tryz.func51 (by kernel_rfl) rfl) (fun W' d hd hb => dfits1_any n1 d1 n2 d2 d Ba Bb (hf d hd).1 (hf d hd).2.1 (hf d hd).2.2 W' (hE.below hb (Nat.le_refl _)) (k1.below hb) (k2.below hb))
  unfold fitO
  rw [oq_some, oq_some]
  generalize l.any (offM (oq n1 d1) (oq n2 d2)) = an at *
  generalize rOk n1 d1 = b1 at *
  generalize rOk n2 d2 = b2 at *
  generalize okD l = b0 at *
  have HL := Lib.hid h
  obtain ⟨ag, cap, rfl⟩ := h.shape
  clear h hf
  have Sv0 := BL.start w
  obtain ⟨V1, ev1, Sv1, zv1⟩ := Sv0.add' #[.string n1, .string d1] 27
  obtain ⟨V2, ev2, Sv2, zv2⟩ := Sv1.add' #[.string n2, .string d2] 27
  rw [zv1] at Sv2
  have hV : V2 = ((w.alloc (.cells #[.string n1, .string d1] 27)).alloc (.cells #[.string n2, .string d2] 27)) := by rw [ev2, ev1]
  have hS : BL w [(w.heap.size + 1, #[.string n2, .string d2], 27), (w.heap.size, #[.string n1, .string d1], 27)] V2 := Sv2
  clear ev1 ev2 zv1 zv2 Sv0 Sv1 Sv2
  replace VD := Lib.hid VD
  replace VA := Lib.hid VA
  replace VB := Lib.hid VB
  replace CF := Lib.hid CF
  cases b0 with
  | false =>
    rw [Bool.false_and, Bool.false_and, Bool.false_and]
    go_enter Tryz.func24, Tryz.ntmps24
    go_wp2_with fail
    rw [← hV]
    clear hV
    refine Calls.mono (VD.out _ (HL.out.below hS.below)) ?_
    rintro e w1 ⟨rfl, hb⟩
    replace hS := hS.call hb
    clear hb
    go_wp2
    go_ret
    exact ⟨rfl, hS.below⟩
  | true =>
    cases b1 with
    | false =>
      rw [Bool.and_false, Bool.false_and, Bool.false_and]
      go_enter Tryz.func24, Tryz.ntmps24
      go_wp2_with fail
      rw [← hV]
      clear hV
      refine Calls.mono (VD.out _ (HL.out.below hS.below)) ?_
      rintro e w1 ⟨rfl, hb⟩
      replace hS := hS.call hb
      clear hb
      obtain ⟨c_a_0, c_a_1⟩ := hS.c2 (w.heap.size) _ _ _ (.tail _ (.head _))
      go_wp2_with fail
      refine Calls.mono (VA.out _ (hS.env hE)) ?_
      rintro e w2 ⟨rfl, hb⟩
      clear c_a_0 c_a_1
      replace hS := hS.call hb
      clear hb
      go_wp2
      go_ret
      exact ⟨rfl, hS.below⟩
    | true =>
      cases b2 with
      | false =>
        rw [Bool.and_false, Bool.false_and]
        go_enter Tryz.func24, Tryz.ntmps24
        go_wp2_with fail
        rw [← hV]
        clear hV
        refine Calls.mono (VD.out _ (HL.out.below hS.below)) ?_
        rintro e w1 ⟨rfl, hb⟩
        replace hS := hS.call hb
        clear hb
        obtain ⟨c_a_0, c_a_1⟩ := hS.c2 (w.heap.size) _ _ _ (.tail _ (.head _))
        go_wp2_with fail
        refine Calls.mono (VA.out _ (hS.env hE)) ?_
        rintro e w2 ⟨rfl, hb⟩
        clear c_a_0 c_a_1
        replace hS := hS.call hb
        clear hb
        obtain ⟨c_b_0, c_b_1⟩ := hS.c2 (w.heap.size + 1) _ _ _ (.head _)
        go_wp2_with fail
        refine Calls.mono (VB.out _ (hS.env hE)) ?_
        rintro e w3 ⟨rfl, hb⟩
        clear c_b_0 c_b_1
        replace hS := hS.call hb
        clear hb
        go_wp2
        go_ret
        exact ⟨rfl, hS.below⟩
      | true =>
        rw [Bool.true_and, Bool.true_and, Bool.true_and]
        go_enter Tryz.func24, Tryz.ntmps24
        go_wp2_with fail
        rw [← hV]
        clear hV
        refine Calls.mono (VD.out _ (HL.out.below hS.below)) ?_
        rintro e w1 ⟨rfl, hb⟩
        replace hS := hS.call hb
        clear hb
        obtain ⟨c_a_0, c_a_1⟩ := hS.c2 (w.heap.size) _ _ _ (.tail _ (.head _))
        go_wp2_with fail
        refine Calls.mono (VA.out _ (hS.env hE)) ?_
        rintro e w2 ⟨rfl, hb⟩
        clear c_a_0 c_a_1
        replace hS := hS.call hb
        clear hb
        obtain ⟨c_b_0, c_b_1⟩ := hS.c2 (w.heap.size + 1) _ _ _ (.head _)
        go_wp2_with fail
        refine Calls.mono (VB.out _ (hS.env hE)) ?_
        rintro e w3 ⟨rfl, hb⟩
        clear c_b_0 c_b_1
        replace hS := hS.call hb
        clear hb
        go_wp2_with fail
        refine Calls.mono (CF.out _ (HL.out.below hS.below) (hS.env hE) _ _ (hS.blks _ (.tail _ (.head _))) (hS.blks _ (.head _))) ?_
        rintro e w9 ⟨rfl, hb⟩
        replace hS := hS.call hb
        clear hb
        go_wp2
        go_ret
        exact ⟨rfl, hS.below⟩

end Go.Proofs.YtebokdboodgkpaaGreatDoor
