/- package decay: extreme, Forecast, Line, Rates, Reaches. -/
import Derived.Test.YtebokdboodgkpaaGreatDoorDecH
import Derived.Deep.RegionHeld3
import Derived.Deep.DeepCutAuto
import Derived.Deep.QuietTactic
import Derived.BigQuiet
import Derived.RegionTactic
import Derived.BigRegion
namespace Go.Proofs.YtebokdboodgkpaaGreatDoor
open Go.RowKit
open DecM (Dt gd okD inDay Ln fitting bst ext top bot sg fcst rts rch)
attribute [local go_sem] Oper.semAt_some


theorem BL.pushB {w W : World} {L : BLs} (h : BL w L W) {g : Nat} {cs : Array Value} {t : TypeId} (hb : Blk W g cs t) : BL w ((g, cs, t) :: L) W :=
  ⟨h.below, fun p hp => by
    rcases List.mem_cons.1 hp with rfl | hp
    · exact hb
    · exact h.blks p hp⟩
/-- A line's block, behind a store. -/
theorem line_after {W : World} {R : Nat} {x0 x1 x2 x3 : Value} (hR : Blk W R #[x0, x1, x2, x3] 63) (a b c d : Value) :
    W.cell? ⟨R, 0, none⟩ = some x0 ∧ W.cell? ⟨R, 1, none⟩ = some x1 ∧ W.cell? ⟨R, 2, none⟩ = some x2 ∧ W.cell? ⟨R, 3, none⟩ = some x3 ∧ W.frozen? ⟨R, 0, none⟩ = false ∧ W.frozen? ⟨R, 1, none⟩ = false ∧ W.frozen? ⟨R, 2, none⟩ = false ∧ W.frozen? ⟨R, 3, none⟩ = false ∧
      ((((W.setCell ⟨R, 0, none⟩ a).setCell ⟨R, 1, none⟩ b).setCell ⟨R, 2, none⟩ c).setCell ⟨R, 3, none⟩ d).cell? ⟨R, 0, none⟩ = some a ∧ ((((W.setCell ⟨R, 0, none⟩ a).setCell ⟨R, 1, none⟩ b).setCell ⟨R, 2, none⟩ c).setCell ⟨R, 3, none⟩ d).cell? ⟨R, 1, none⟩ = some b ∧
      ((((W.setCell ⟨R, 0, none⟩ a).setCell ⟨R, 1, none⟩ b).setCell ⟨R, 2, none⟩ c).setCell ⟨R, 3, none⟩ d).cell? ⟨R, 2, none⟩ = some c ∧ ((((W.setCell ⟨R, 0, none⟩ a).setCell ⟨R, 1, none⟩ b).setCell ⟨R, 2, none⟩ c).setCell ⟨R, 3, none⟩ d).cell? ⟨R, 3, none⟩ = some d ∧
      (∀ V, Below V.heap.size V W → V.heap.size ≤ R → Below V.heap.size V ((((W.setCell ⟨R, 0, none⟩ a).setCell ⟨R, 1, none⟩ b).setCell ⟨R, 2, none⟩ c).setCell ⟨R, 3, none⟩ d)) := by
  have m := (((hR.set 0 a).set 1 b).set 2 c).set 3 d
  exact ⟨hR.cell 0, hR.cell 1, hR.cell 2, hR.cell 3, hR.frozen 0, hR.frozen 1, hR.frozen 2, hR.frozen 3, m.cell 0, m.cell 1, m.cell 2, m.cell 3,
    fun V hb hV => (((hb.setCell (p := ⟨R, 0, none⟩) hV _).setCell (p := ⟨R, 1, none⟩) hV _).setCell (p := ⟨R, 2, none⟩) hV _).setCell (p := ⟨R, 3, none⟩) hV _⟩
/-- The best line on a day, with the error. -/
def exO (l : List Dt) (t : Int) (hi : Bool) : Option Ln := if okD l && inDay t then ext l t hi else none
def eL (o : Option Ln) : Int := match o with
  | some _ => 0
  | none => 260
def xV (o : Option Ln) : Value := .tuple #[.agg (oC o), .int .i64 (eL o)]
theorem exO_ok {l : List Dt} {t : Int} {hi : Bool} {y : Ln} (h : exO l t hi = some y) : LnOk y ∧ y.t < y.u := by
  unfold exO at h
  split at h
  · rename_i hc
    rw [Bool.and_eq_true] at hc
    have hm := (DecM.bst_some (DecM.fitting_lt (DecM.okD_good hc.1)) h).1
    exact ⟨lnOk_fit hc.1 hm, DecM.fitting_lt (DecM.okD_good hc.1) y hm⟩
  · cases h

set_option maxRecDepth 100000 in
set_option maxHeartbeats 16000000 in
/-- decay.extreme. -/
theorem extreme_any (v : Value) (l : List Dt) (t : Int) (hi : Bool) (w : World) (h : SlD w v l) :
    Calls Tryz.prog 44 #[v, .int .i64 t, .bool hi] w (Rets w (xV (exO l t hi))) := by
  have VD := fun W (h : SlD W v l) => dvalid_any v l W h
  have IN := fun W => isIn_b t 0 800000 W
  rw [inDay_b] at IN
  have BE := fun (hok : okD l = true) (hd : inDay t = true) W (hW : SlD W v l) Bh Bt (k1 : Blk W Bh #[.bool hi] 4) (k2 : Blk W Bt #[.int .i64 t] 3) => best_any v l (fun x => sg hi * x.on t) 63 #[.pointer (some ⟨Bh, 0, none⟩), .pointer (some ⟨Bt, 0, none⟩)] hok W hW (meas_extr t hi Bh Bt (DecM.inDay_iff.1 hd) W k1 k2)
  have hxo := fun y => exO_ok (l := l) (t := t) (hi := hi) (y := y)
  unfold exO at hxo ⊢
  replace BE : ∀ (hok : okD l = true) (hd : inDay t = true) W (hW : SlD W v l) Bh Bt (k1 : Blk W Bh #[.bool hi] 4) (k2 : Blk W Bt #[.int .i64 t] 3), Calls Tryz.prog 35 #[v, .func (.func 63) #[] #[.pointer (some ⟨Bh, 0, none⟩), .pointer (some ⟨Bt, 0, none⟩)]] W (Rets W (.agg (oC (ext l t hi)))) := BE
  generalize ext l t hi = ox at *
  generalize okD l = b0 at *
  generalize inDay t = b1 at *
  have HL := Lib.hid h
  obtain ⟨ag, cap, rfl⟩ := h.shape
  clear h
  have S0 := BL.start w
  obtain ⟨V1, ev1, S1, zv1⟩ := S0.add' #[.int .i64 t] 3
  obtain ⟨V2, ev2, S2, zv2⟩ := S1.add' #[.bool hi] 4
  rw [zv1] at S2 zv2
  obtain ⟨V3, ev3, S3, zv3⟩ := S2.add' #[.int .i64 0, .int .i64 0, .int .i64 0, .int .i64 0] 63
  rw [zv2] at S3 zv3
  have hV : V3 = (((w.alloc (.cells #[.int .i64 t] 3)).alloc (.cells #[.bool hi] 4)).alloc (.cells #[.int .i64 0, .int .i64 0, .int .i64 0, .int .i64 0] 63)) := by rw [ev3, ev2, ev1]
  have hS : BL w [(w.heap.size + 1 + 1, #[.int .i64 0, .int .i64 0, .int .i64 0, .int .i64 0], 63), (w.heap.size + 1, #[.bool hi], 4), (w.heap.size, #[.int .i64 t], 3)] V3 := S3
  clear ev1 ev2 ev3 zv1 zv2 zv3 S0 S1 S2 S3
  replace VD := Lib.hid VD
  replace IN := Lib.hid IN
  cases b0 with
  | false =>
    clear BE hxo
    show Calls _ _ _ _ (Rets w (.tuple #[.agg #[.int .i64 0, .int .i64 0, .int .i64 0, .int .i64 0], .int .i64 260]))
    go_enter Tryz.func44, Tryz.ntmps44
    go_wp2_with fail
    rw [← hV]
    clear hV
    refine Calls.mono (VD.out _ (HL.out.below hS.below)) ?_
    rintro e w1 ⟨rfl, hb⟩
    replace hS := hS.call hb
    clear hb
    obtain ⟨k0, k1, k2, k3, q0, q1, q2, q3, y0, y1, y2, y3, hfin⟩ := line_after (hS.blks _ (.head _)) (.int .i64 0) (.int .i64 0) (.int .i64 0) (.int .i64 0)
    have hfin := Lib.hid (hfin w hS.below (by omega))
    clear hS
    go_wp2
    exact bodyPost_ret (v := .tuple #[.agg #[.int .i64 0, .int .i64 0, .int .i64 0, .int .i64 0], .int .i64 260]) (by simp [results, Tryz.results44, go_sem, y0, y1, y2, y3]) rfl ⟨rfl, hfin.out⟩
  | true =>
    cases b1 with
    | false =>
      clear BE hxo
      show Calls _ _ _ _ (Rets w (.tuple #[.agg #[.int .i64 0, .int .i64 0, .int .i64 0, .int .i64 0], .int .i64 260]))
      go_enter Tryz.func44, Tryz.ntmps44
      go_wp2_with fail
      rw [← hV]
      clear hV
      refine Calls.mono (VD.out _ (HL.out.below hS.below)) ?_
      rintro e w1 ⟨rfl, hb⟩
      replace hS := hS.call hb
      clear hb
      have c_t_0 := hS.c1 (w.heap.size) _ _ (.tail _ (.tail _ (.head _)))
      go_wp2_with fail
      refine Calls.mono (IN.out _) ?_
      rintro e w2 ⟨rfl, hb⟩
      clear c_t_0
      replace hS := hS.call hb
      clear hb
      obtain ⟨k0, k1, k2, k3, q0, q1, q2, q3, y0, y1, y2, y3, hfin⟩ := line_after (hS.blks _ (.head _)) (.int .i64 0) (.int .i64 0) (.int .i64 0) (.int .i64 0)
      have hfin := Lib.hid (hfin w hS.below (by omega))
      clear hS
      go_wp2
      exact bodyPost_ret (v := .tuple #[.agg #[.int .i64 0, .int .i64 0, .int .i64 0, .int .i64 0], .int .i64 260]) (by simp [results, Tryz.results44, go_sem, y0, y1, y2, y3]) rfl ⟨rfl, hfin.out⟩
    | true =>
      replace BE := Lib.hid (BE rfl rfl)
      show Calls _ _ _ _ (Rets w (xV ox))
      cases ox with
      | none =>
        clear hxo
        show Calls _ _ _ _ (Rets w (.tuple #[.agg #[.int .i64 0, .int .i64 0, .int .i64 0, .int .i64 0], .int .i64 260]))
        unfold oC at BE
        go_enter Tryz.func44, Tryz.ntmps44
        go_wp2_with fail
        rw [← hV]
        clear hV
        refine Calls.mono (VD.out _ (HL.out.below hS.below)) ?_
        rintro e w1 ⟨rfl, hb⟩
        replace hS := hS.call hb
        clear hb
        have c_t_0 := hS.c1 (w.heap.size) _ _ (.tail _ (.tail _ (.head _)))
        go_wp2_with fail
        refine Calls.mono (IN.out _) ?_
        rintro e w2 ⟨rfl, hb⟩
        clear c_t_0
        replace hS := hS.call hb
        clear hb
        go_wp2_with fail
        refine Calls.mono (BE.out _ (HL.out.below hS.below) _ _ (hS.blks _ (.tail _ (.head _))) (hS.blks _ (.tail _ (.tail _ (.head _))))) ?_
        rintro e w3 ⟨rfl, hb⟩
        replace hS := hS.call hb
        clear hb
        replace hS := hS.add' #[.int .i64 0, .int .i64 0, .int .i64 0, .int .i64 0] 63
        obtain ⟨W0, hW0, hS, hz0⟩ := hS
        obtain ⟨W, hW⟩ : ∃ W, W = (w3.alloc (.cells #[.int .i64 0, .int .i64 0, .int .i64 0, .int .i64 0] 63)) := ⟨_, rfl⟩
        replace hS : BL w [(w3.heap.size, #[.int .i64 0, .int .i64 0, .int .i64 0, .int .i64 0], 63), (w.heap.size + 1 + 1, #[.int .i64 0, .int .i64 0, .int .i64 0, .int .i64 0], 63), (w.heap.size + 1, #[.bool hi], 4), (w.heap.size, #[.int .i64 t], 3)] W := by rw [hW, ← hW0]; exact hS
        clear hz0 hW0
        go_upto_region 4 with fail
        rw [← hW]
        clear hW
        obtain ⟨c_x_0, c_x_1, c_x_2, c_x_3⟩ := hS.c4 (w3.heap.size) _ _ _ _ _ (.head _)
        go_upto_region 5 with fail
        clear c_x_0 c_x_1 c_x_2 c_x_3
        obtain ⟨k0, k1, k2, k3, q0, q1, q2, q3, y0, y1, y2, y3, hfin⟩ := line_after (hS.blks _ (.tail _ (.head _))) (.int .i64 0) (.int .i64 0) (.int .i64 0) (.int .i64 0)
        have hfin := Lib.hid (hfin w hS.below (by omega))
        clear hS
        go_wp2
        exact bodyPost_ret (v := .tuple #[.agg #[.int .i64 0, .int .i64 0, .int .i64 0, .int .i64 0], .int .i64 260]) (by simp [results, Tryz.results44, go_sem, y0, y1, y2, y3]) rfl ⟨rfl, hfin.out⟩
      | some y =>
        obtain ⟨_, hy⟩ := hxo y rfl
        clear hxo
        show Calls _ _ _ _ (Rets w (.tuple #[.agg #[.int .i64 y.t, .int .i64 y.v, .int .i64 y.u, .int .i64 y.w], .int .i64 0]))
        unfold oC at BE
        have hz1 : (¬ y.t = 0) ∨ (y.t = 0 ∧ ¬ y.v = 0) ∨ (y.t = 0 ∧ y.v = 0 ∧ ¬ y.u = 0) := by omega
        clear hy
        rcases hz1 with h1 | ⟨h0, h1⟩ | ⟨h0, h2, h1⟩
        · have e1 : (y.t == 0) = false := by simp [h1]
          clear h1
          go_enter Tryz.func44, Tryz.ntmps44
          go_wp2_with fail
          rw [← hV]
          clear hV
          refine Calls.mono (VD.out _ (HL.out.below hS.below)) ?_
          rintro e w1 ⟨rfl, hb⟩
          replace hS := hS.call hb
          clear hb
          have c_t_0 := hS.c1 (w.heap.size) _ _ (.tail _ (.tail _ (.head _)))
          go_wp2_with fail
          refine Calls.mono (IN.out _) ?_
          rintro e w2 ⟨rfl, hb⟩
          clear c_t_0
          replace hS := hS.call hb
          clear hb
          go_wp2_with fail
          refine Calls.mono (BE.out _ (HL.out.below hS.below) _ _ (hS.blks _ (.tail _ (.head _))) (hS.blks _ (.tail _ (.tail _ (.head _))))) ?_
          rintro e w3 ⟨rfl, hb⟩
          replace hS := hS.call hb
          clear hb
          replace hS := hS.add' #[.int .i64 y.t, .int .i64 y.v, .int .i64 y.u, .int .i64 y.w] 63
          obtain ⟨W0, hW0, hS, hz0⟩ := hS
          obtain ⟨W, hW⟩ : ∃ W, W = (w3.alloc (.cells #[.int .i64 y.t, .int .i64 y.v, .int .i64 y.u, .int .i64 y.w] 63)) := ⟨_, rfl⟩
          replace hS : BL w [(w3.heap.size, #[.int .i64 y.t, .int .i64 y.v, .int .i64 y.u, .int .i64 y.w], 63), (w.heap.size + 1 + 1, #[.int .i64 0, .int .i64 0, .int .i64 0, .int .i64 0], 63), (w.heap.size + 1, #[.bool hi], 4), (w.heap.size, #[.int .i64 t], 3)] W := by rw [hW, ← hW0]; exact hS
          clear hz0 hW0
          go_upto_region 4 with fail
          rw [← hW]
          clear hW
          obtain ⟨c_x_0, c_x_1, c_x_2, c_x_3⟩ := hS.c4 (w3.heap.size) _ _ _ _ _ (.head _)
          go_upto_region 6 with fail
          obtain ⟨k0, k1, k2, k3, q0, q1, q2, q3, y0, y1, y2, y3, hfin⟩ := line_after (hS.blks _ (.tail _ (.head _))) (.int .i64 y.t) (.int .i64 y.v) (.int .i64 y.u) (.int .i64 y.w)
          have hfin := Lib.hid (hfin w hS.below (by omega))
          clear hS
          go_wp2
          exact bodyPost_ret (v := .tuple #[.agg #[.int .i64 y.t, .int .i64 y.v, .int .i64 y.u, .int .i64 y.w], .int .i64 0]) (by simp [results, Tryz.results44, go_sem, y0, y1, y2, y3]) rfl ⟨rfl, hfin.out⟩
        · have e1 : (y.t == 0) = true := by simp [h0]
          have e2 : (y.v == 0) = false := by simp [h1]
          clear h0 h1
          go_enter Tryz.func44, Tryz.ntmps44
          go_wp2_with fail
          rw [← hV]
          clear hV
          refine Calls.mono (VD.out _ (HL.out.below hS.below)) ?_
          rintro e w1 ⟨rfl, hb⟩
          replace hS := hS.call hb
          clear hb
          have c_t_0 := hS.c1 (w.heap.size) _ _ (.tail _ (.tail _ (.head _)))
          go_wp2_with fail
          refine Calls.mono (IN.out _) ?_
          rintro e w2 ⟨rfl, hb⟩
          clear c_t_0
          replace hS := hS.call hb
          clear hb
          go_wp2_with fail
          refine Calls.mono (BE.out _ (HL.out.below hS.below) _ _ (hS.blks _ (.tail _ (.head _))) (hS.blks _ (.tail _ (.tail _ (.head _))))) ?_
          rintro e w3 ⟨rfl, hb⟩
          replace hS := hS.call hb
          clear hb
          replace hS := hS.add' #[.int .i64 y.t, .int .i64 y.v, .int .i64 y.u, .int .i64 y.w] 63
          obtain ⟨W0, hW0, hS, hz0⟩ := hS
          obtain ⟨W, hW⟩ : ∃ W, W = (w3.alloc (.cells #[.int .i64 y.t, .int .i64 y.v, .int .i64 y.u, .int .i64 y.w] 63)) := ⟨_, rfl⟩
          replace hS : BL w [(w3.heap.size, #[.int .i64 y.t, .int .i64 y.v, .int .i64 y.u, .int .i64 y.w], 63), (w.heap.size + 1 + 1, #[.int .i64 0, .int .i64 0, .int .i64 0, .int .i64 0], 63), (w.heap.size + 1, #[.bool hi], 4), (w.heap.size, #[.int .i64 t], 3)] W := by rw [hW, ← hW0]; exact hS
          clear hz0 hW0
          go_upto_region 4 with fail
          rw [← hW]
          clear hW
          obtain ⟨c_x_0, c_x_1, c_x_2, c_x_3⟩ := hS.c4 (w3.heap.size) _ _ _ _ _ (.head _)
          go_upto_region 6 with fail
          obtain ⟨k0, k1, k2, k3, q0, q1, q2, q3, y0, y1, y2, y3, hfin⟩ := line_after (hS.blks _ (.tail _ (.head _))) (.int .i64 y.t) (.int .i64 y.v) (.int .i64 y.u) (.int .i64 y.w)
          have hfin := Lib.hid (hfin w hS.below (by omega))
          clear hS
          go_wp2
          exact bodyPost_ret (v := .tuple #[.agg #[.int .i64 y.t, .int .i64 y.v, .int .i64 y.u, .int .i64 y.w], .int .i64 0]) (by simp [results, Tryz.results44, go_sem, y0, y1, y2, y3]) rfl ⟨rfl, hfin.out⟩
        · have e1 : (y.t == 0) = true := by simp [h0]
          have e2 : (y.v == 0) = true := by simp [h2]
          have e3 : (y.u == 0) = false := by simp [h1]
          clear h0 h1 h2
          go_enter Tryz.func44, Tryz.ntmps44
          go_wp2_with fail
          rw [← hV]
          clear hV
          refine Calls.mono (VD.out _ (HL.out.below hS.below)) ?_
          rintro e w1 ⟨rfl, hb⟩
          replace hS := hS.call hb
          clear hb
          have c_t_0 := hS.c1 (w.heap.size) _ _ (.tail _ (.tail _ (.head _)))
          go_wp2_with fail
          refine Calls.mono (IN.out _) ?_
          rintro e w2 ⟨rfl, hb⟩
          clear c_t_0
          replace hS := hS.call hb
          clear hb
          go_wp2_with fail
          refine Calls.mono (BE.out _ (HL.out.below hS.below) _ _ (hS.blks _ (.tail _ (.head _))) (hS.blks _ (.tail _ (.tail _ (.head _))))) ?_
          rintro e w3 ⟨rfl, hb⟩
          replace hS := hS.call hb
          clear hb
          replace hS := hS.add' #[.int .i64 y.t, .int .i64 y.v, .int .i64 y.u, .int .i64 y.w] 63
          obtain ⟨W0, hW0, hS, hz0⟩ := hS
          obtain ⟨W, hW⟩ : ∃ W, W = (w3.alloc (.cells #[.int .i64 y.t, .int .i64 y.v, .int .i64 y.u, .int .i64 y.w] 63)) := ⟨_, rfl⟩
          replace hS : BL w [(w3.heap.size, #[.int .i64 y.t, .int .i64 y.v, .int .i64 y.u, .int .i64 y.w], 63), (w.heap.size + 1 + 1, #[.int .i64 0, .int .i64 0, .int .i64 0, .int .i64 0], 63), (w.heap.size + 1, #[.bool hi], 4), (w.heap.size, #[.int .i64 t], 3)] W := by rw [hW, ← hW0]; exact hS
          clear hz0 hW0
          go_upto_region 4 with fail
          rw [← hW]
          clear hW
          obtain ⟨c_x_0, c_x_1, c_x_2, c_x_3⟩ := hS.c4 (w3.heap.size) _ _ _ _ _ (.head _)
          go_upto_region 6 with fail
          obtain ⟨k0, k1, k2, k3, q0, q1, q2, q3, y0, y1, y2, y3, hfin⟩ := line_after (hS.blks _ (.tail _ (.head _))) (.int .i64 y.t) (.int .i64 y.v) (.int .i64 y.u) (.int .i64 y.w)
          have hfin := Lib.hid (hfin w hS.below (by omega))
          clear hS
          go_wp2
          exact bodyPost_ret (v := .tuple #[.agg #[.int .i64 y.t, .int .i64 y.v, .int .i64 y.u, .int .i64 y.w], .int .i64 0]) (by simp [results, Tryz.results44, go_sem, y0, y1, y2, y3]) rfl ⟨rfl, hfin.out⟩

end Go.Proofs.YtebokdboodgkpaaGreatDoor
