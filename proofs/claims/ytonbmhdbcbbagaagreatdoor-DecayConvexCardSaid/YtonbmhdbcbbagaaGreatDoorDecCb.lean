/- putloglaw26: DecayConvex, the walk. -/
import Derived.Test.YtonbmhdbcbbagaaGreatDoorDecCa
namespace Go.Proofs.YtonbmhdbcbbagaaGreatDoor
open Go.RowKit
open DecM (Dt fcst rts okD)
attribute [local go_sem] Oper.semAt_some

set_option maxRecDepth 100000 in
set_option maxHeartbeats 16000000 in
theorem convex_row (x : Nm) (s m n : Int) (w : World) (h : NmOk w x) (hs : Fits s) (hm : Fits m) (hn : Fits n) (hEQ : EnvQ w) :
    Calls Tryz.prog 5 #[.agg #[.int .i64 x.f, .int .i64 x.s, x.v, .int .i64 x.m], .int .i64 s, .int .i64 m, .int .i64 n] w (Rets w (.bool true)) := by
  have hE := hEQ.env
  have hd0 := pkv_nonneg (c := s) (m := 5001) (by decide)
  have hd1 := pkv_lt (c := s) (m := 5001) (by decide)
  have hk0 := pkv_nonneg (c := m) (m := 500) (by decide)
  have hk1 := pkv_lt (c := m) (m := 500) (by decide)
  have hj0 := pkv_nonneg (c := n) (m := 500) (by decide)
  have hj1 := pkv_lt (c := n) (m := 500) (by decide)
  have P1 := fun W => pickL_any_b m 500 hm (by decide) (by decide) W
  have P2 := fun W => pickL_any_b n 500 hn (by decide) (by decide) W
  have DY := fun W => day_any s hs W
  generalize pkv s 5001 = d at *
  generalize pkv m 500 = k at *
  generalize pkv n 500 = j at *
  obtain ⟨d1, e1⟩ : ∃ z, z = d + 1 := ⟨_, rfl⟩
  have w1 : IntKind.i64.wrap (d + 1) = d1 := by rw [e1]; exact IntWalk.i64_in _ (by omega)
  obtain ⟨md, e2⟩ : ∃ z, z = d1 + k := ⟨_, rfl⟩
  have w2 : IntKind.i64.wrap (d1 + k) = md := by rw [e2]; exact IntWalk.i64_in _ (by omega)
  obtain ⟨m1, e3⟩ : ∃ z, z = md + 1 := ⟨_, rfl⟩
  have w3 : IntKind.i64.wrap (md + 1) = m1 := by rw [e3]; exact IntWalk.i64_in _ (by omega)
  obtain ⟨ls, e4⟩ : ∃ z, z = m1 + j := ⟨_, rfl⟩
  have w4 : IntKind.i64.wrap (m1 + j) = ls := by rw [e4]; exact IntWalk.i64_in _ (by omega)
  obtain ⟨p1, e5⟩ : ∃ z, z = ls - md := ⟨_, rfl⟩
  have w5 : IntKind.i64.wrap (ls - md) = p1 := by rw [e5]; exact IntWalk.i64_in _ (by omega)
  obtain ⟨p2, e6⟩ : ∃ z, z = md - d := ⟨_, rfl⟩
  have w6 : IntKind.i64.wrap (md - d) = p2 := by rw [e6]; exact IntWalk.i64_in _ (by omega)
  have hok := x.made_ok
  have CL := convex_law hok (d := d) (md := md) (ls := ls) (by omega) (by omega) (by omega) (by omega)
  rw [← e5, ← e6] at CL
  have hp1 : 0 < p1 ∧ p1 ≤ 100000 := by omega
  have hp2 : 0 < p2 ∧ p2 ≤ 100000 := by omega
  have MD := fun W (h : NmOk W x) => made_any x W h
  have HN := Lib.hid h
  obtain ⟨ag, cap, hv⟩ := h.sl.shape
  generalize x.made = l at *
  have FA := fun v W (hE : Env W) (h : SlD W v l) => forecast_any v l d W hE h
  have FB := fun v W (hE : Env W) (h : SlD W v l) => forecast_any v l md W hE h
  have FC := fun v W (hE : Env W) (h : SlD W v l) => forecast_any v l ls W hE h
  clear h hs hm hn hd0 hd1 hk0 hk1 hj0 hj1 e1 e2 e3 e4 e5 e6 hEQ
  rw [hv] at MD ⊢
  generalize x.f = xf at *
  generalize x.s = xs at *
  generalize x.m = xm at *
  generalize x.ds.length = xl at *
  clear hv
  replace P1 := Lib.hid P1
  replace P2 := Lib.hid P2
  replace DY := Lib.hid DY
  replace MD := Lib.hid MD
  obtain ⟨n1, n2, n3, hrl⟩ | ⟨a, b, c, e, p, q, f1, f2, f3, hlo, hhi⟩ := CL
  · rw [n1] at FA; rw [n2] at FB; rw [n3] at FC
    unfold fV at FA
    replace FA := Lib.hid FA
    unfold fV at FB
    replace FB := Lib.hid FB
    unfold fV at FC
    replace FC := Lib.hid FC
    have RF := fun v W (h : SlD W v l) => refute_any v l W h
    unfold RefP at RF
    clear n1 n2 n3 hp1 hp2 hok
    generalize (refO l).isSome = rb at *
    generalize triL (refO l) = tl at *
    cases rb with
    | true =>
      clear hrl
      replace RF := Lib.hid RF
      have Sv0 := BL.start w
      obtain ⟨V1, ev1, Sv1, zv1⟩ := Sv0.add' #[.int .i64 xf, .int .i64 xs, .slice ag xl cap, .int .i64 xm] 24
      have hV : V1 = (w.alloc (.cells #[.int .i64 xf, .int .i64 xs, .slice ag xl cap, .int .i64 xm] 24)) := by rw [ev1]
      have hS : BL w [(w.heap.size, #[.int .i64 xf, .int .i64 xs, .slice ag xl cap, .int .i64 xm], 24)] V1 := Sv1
      clear ev1 zv1 Sv0 Sv1
      go_enter Tryz.func5, Tryz.ntmps5
      go_wp2_with fail
      rw [← hV]
      clear hV
      refine Calls.mono (sane_any _ (hS.env hE)) ?_
      rintro e w1 ⟨rfl, hb⟩
      replace hS := hS.call hb
      clear hb
      obtain ⟨c_x_0, c_x_1, c_x_2, c_x_3⟩ := hS.c4 (w.heap.size) _ _ _ _ _ (.head _)
      go_wp2_with fail
      refine Calls.mono (MD.out _ (HN.out.below hS.below)) ?_
      rintro e w2 ⟨v, rfl, hD, hb⟩
      clear c_x_0 c_x_1 c_x_2 c_x_3
      replace hS := hS.call hb
      clear hb
      obtain ⟨ag2, cap2, rfl⟩ := hD.shape
      go_wp2_with fail
      refine Calls.mono (DY.out _) ?_
      rintro e w3 ⟨rfl, hb⟩
      replace hS := hS.call hb
      replace hD := hD.below hb
      clear hb
      go_wp2_with fail
      refine Calls.mono (P1.out _) ?_
      rintro e w4 ⟨rfl, hb⟩
      replace hS := hS.call hb
      replace hD := hD.below hb
      clear hb
      go_wp2_with fail
      refine Calls.mono (P2.out _) ?_
      rintro e w5 ⟨rfl, hb⟩
      replace hS := hS.call hb
      replace hD := hD.below hb
      clear hb
      go_wp2_with fail
      refine Calls.mono (FA.out _ _ (hS.env hE) hD) ?_
      rintro e w6 ⟨rfl, hb⟩
      replace hS := hS.call hb
      replace hD := hD.below hb
      clear hb
      replace hS := hS.add' #[.string ⟨#[]⟩, .string ⟨#[]⟩] 27
      obtain ⟨W0, hW0, hS, hz0⟩ := hS
      replace hS := hS.add' #[.string ⟨#[]⟩, .string ⟨#[]⟩] 27
      obtain ⟨W1, hW1, hS, hz1⟩ := hS
      rw [hz0] at hS
      obtain ⟨W, hW⟩ : ∃ W, W = ((w6.alloc (.cells #[.string ⟨#[]⟩, .string ⟨#[]⟩] 27)).alloc (.cells #[.string ⟨#[]⟩, .string ⟨#[]⟩] 27)) := ⟨_, rfl⟩
      replace hS : BL w [(w6.heap.size + 1, #[.string ⟨#[]⟩, .string ⟨#[]⟩], 27), (w6.heap.size, #[.string ⟨#[]⟩, .string ⟨#[]⟩], 27), (w.heap.size, #[.int .i64 xf, .int .i64 xs, .slice ag xl cap, .int .i64 xm], 24)] W := by rw [hW, ← hW0, ← hW1]; exact hS
      replace hD : SlD W (.slice ag2 l.length cap2) l := by rw [hW]; exact (hD.new _).new _
      clear hz0 hz1 hW1 hW0
      go_wp2_with fail
      rw [← hW]
      clear hW
      refine Calls.mono (FB.out _ _ (hS.env hE) hD) ?_
      rintro e w7 ⟨rfl, hb⟩
      replace hS := hS.call hb
      replace hD := hD.below hb
      clear hb
      replace hS := hS.add' #[.string ⟨#[]⟩, .string ⟨#[]⟩] 27
      obtain ⟨W0, hW0, hS, hz0⟩ := hS
      replace hS := hS.add' #[.string ⟨#[]⟩, .string ⟨#[]⟩] 27
      obtain ⟨W1, hW1, hS, hz1⟩ := hS
      rw [hz0] at hS
      obtain ⟨W, hW⟩ : ∃ W, W = ((w7.alloc (.cells #[.string ⟨#[]⟩, .string ⟨#[]⟩] 27)).alloc (.cells #[.string ⟨#[]⟩, .string ⟨#[]⟩] 27)) := ⟨_, rfl⟩
      replace hS : BL w [(w7.heap.size + 1, #[.string ⟨#[]⟩, .string ⟨#[]⟩], 27), (w7.heap.size, #[.string ⟨#[]⟩, .string ⟨#[]⟩], 27), (w6.heap.size + 1, #[.string ⟨#[]⟩, .string ⟨#[]⟩], 27), (w6.heap.size, #[.string ⟨#[]⟩, .string ⟨#[]⟩], 27), (w.heap.size, #[.int .i64 xf, .int .i64 xs, .slice ag xl cap, .int .i64 xm], 24)] W := by rw [hW, ← hW0, ← hW1]; exact hS
      replace hD : SlD W (.slice ag2 l.length cap2) l := by rw [hW]; exact (hD.new _).new _
      clear hz0 hz1 hW1 hW0
      go_wp2_with fail
      rw [← hW]
      clear hW
      refine Calls.mono (FC.out _ _ (hS.env hE) hD) ?_
      rintro e w8 ⟨rfl, hb⟩
      replace hS := hS.call hb
      replace hD := hD.below hb
      clear hb
      replace hS := hS.add' #[.string ⟨#[]⟩, .string ⟨#[]⟩] 27
      obtain ⟨W0, hW0, hS, hz0⟩ := hS
      replace hS := hS.add' #[.string ⟨#[]⟩, .string ⟨#[]⟩] 27
      obtain ⟨W1, hW1, hS, hz1⟩ := hS
      rw [hz0] at hS
      obtain ⟨W, hW⟩ : ∃ W, W = ((w8.alloc (.cells #[.string ⟨#[]⟩, .string ⟨#[]⟩] 27)).alloc (.cells #[.string ⟨#[]⟩, .string ⟨#[]⟩] 27)) := ⟨_, rfl⟩
      replace hS : BL w [(w8.heap.size + 1, #[.string ⟨#[]⟩, .string ⟨#[]⟩], 27), (w8.heap.size, #[.string ⟨#[]⟩, .string ⟨#[]⟩], 27), (w7.heap.size + 1, #[.string ⟨#[]⟩, .string ⟨#[]⟩], 27), (w7.heap.size, #[.string ⟨#[]⟩, .string ⟨#[]⟩], 27), (w6.heap.size + 1, #[.string ⟨#[]⟩, .string ⟨#[]⟩], 27), (w6.heap.size, #[.string ⟨#[]⟩, .string ⟨#[]⟩], 27), (w.heap.size, #[.int .i64 xf, .int .i64 xs, .slice ag xl cap, .int .i64 xm], 24)] W := by rw [hW, ← hW0, ← hW1]; exact hS
      replace hD : SlD W (.slice ag2 l.length cap2) l := by rw [hW]; exact (hD.new _).new _
      clear hz0 hz1 hW1 hW0
      go_wp2_with fail
      rw [← hW]
      clear hW
      refine Calls.mono (RF.out _ _ hD) ?_
      rintro e w9 ⟨v2, rfl, hr2, hb⟩
      replace hS := hS.call hb
      replace hD := hD.below hb
      clear hb
      clear hr2
      go_wp2
      go_ret
      exact ⟨rfl, hS.below⟩
    | false =>
      have hl2 : (l.length : Int) < 2 := hrl.resolve_left (by decide)
      clear hrl
      replace RF := Lib.hid RF
      have Sv0 := BL.start w
      obtain ⟨V1, ev1, Sv1, zv1⟩ := Sv0.add' #[.int .i64 xf, .int .i64 xs, .slice ag xl cap, .int .i64 xm] 24
      have hV : V1 = (w.alloc (.cells #[.int .i64 xf, .int .i64 xs, .slice ag xl cap, .int .i64 xm] 24)) := by rw [ev1]
      have hS : BL w [(w.heap.size, #[.int .i64 xf, .int .i64 xs, .slice ag xl cap, .int .i64 xm], 24)] V1 := Sv1
      clear ev1 zv1 Sv0 Sv1
      go_enter Tryz.func5, Tryz.ntmps5
      go_wp2_with fail
      rw [← hV]
      clear hV
      refine Calls.mono (sane_any _ (hS.env hE)) ?_
      rintro e w1 ⟨rfl, hb⟩
      replace hS := hS.call hb
      clear hb
      obtain ⟨c_x_0, c_x_1, c_x_2, c_x_3⟩ := hS.c4 (w.heap.size) _ _ _ _ _ (.head _)
      go_wp2_with fail
      refine Calls.mono (MD.out _ (HN.out.below hS.below)) ?_
      rintro e w2 ⟨v, rfl, hD, hb⟩
      clear c_x_0 c_x_1 c_x_2 c_x_3
      replace hS := hS.call hb
      clear hb
      obtain ⟨ag2, cap2, rfl⟩ := hD.shape
      go_wp2_with fail
      refine Calls.mono (DY.out _) ?_
      rintro e w3 ⟨rfl, hb⟩
      replace hS := hS.call hb
      replace hD := hD.below hb
      clear hb
      go_wp2_with fail
      refine Calls.mono (P1.out _) ?_
      rintro e w4 ⟨rfl, hb⟩
      replace hS := hS.call hb
      replace hD := hD.below hb
      clear hb
      go_wp2_with fail
      refine Calls.mono (P2.out _) ?_
      rintro e w5 ⟨rfl, hb⟩
      replace hS := hS.call hb
      replace hD := hD.below hb
      clear hb
      go_wp2_with fail
      refine Calls.mono (FA.out _ _ (hS.env hE) hD) ?_
      rintro e w6 ⟨rfl, hb⟩
      replace hS := hS.call hb
      replace hD := hD.below hb
      clear hb
      replace hS := hS.add' #[.string ⟨#[]⟩, .string ⟨#[]⟩] 27
      obtain ⟨W0, hW0, hS, hz0⟩ := hS
      replace hS := hS.add' #[.string ⟨#[]⟩, .string ⟨#[]⟩] 27
      obtain ⟨W1, hW1, hS, hz1⟩ := hS
      rw [hz0] at hS
      obtain ⟨W, hW⟩ : ∃ W, W = ((w6.alloc (.cells #[.string ⟨#[]⟩, .string ⟨#[]⟩] 27)).alloc (.cells #[.string ⟨#[]⟩, .string ⟨#[]⟩] 27)) := ⟨_, rfl⟩
      replace hS : BL w [(w6.heap.size + 1, #[.string ⟨#[]⟩, .string ⟨#[]⟩], 27), (w6.heap.size, #[.string ⟨#[]⟩, .string ⟨#[]⟩], 27), (w.heap.size, #[.int .i64 xf, .int .i64 xs, .slice ag xl cap, .int .i64 xm], 24)] W := by rw [hW, ← hW0, ← hW1]; exact hS
      replace hD : SlD W (.slice ag2 l.length cap2) l := by rw [hW]; exact (hD.new _).new _
      clear hz0 hz1 hW1 hW0
      go_wp2_with fail
      rw [← hW]
      clear hW
      refine Calls.mono (FB.out _ _ (hS.env hE) hD) ?_
      rintro e w7 ⟨rfl, hb⟩
      replace hS := hS.call hb
      replace hD := hD.below hb
      clear hb
      replace hS := hS.add' #[.string ⟨#[]⟩, .string ⟨#[]⟩] 27
      obtain ⟨W0, hW0, hS, hz0⟩ := hS
      replace hS := hS.add' #[.string ⟨#[]⟩, .string ⟨#[]⟩] 27
      obtain ⟨W1, hW1, hS, hz1⟩ := hS
      rw [hz0] at hS
      obtain ⟨W, hW⟩ : ∃ W, W = ((w7.alloc (.cells #[.string ⟨#[]⟩, .string ⟨#[]⟩] 27)).alloc (.cells #[.string ⟨#[]⟩, .string ⟨#[]⟩] 27)) := ⟨_, rfl⟩
      replace hS : BL w [(w7.heap.size + 1, #[.string ⟨#[]⟩, .string ⟨#[]⟩], 27), (w7.heap.size, #[.string ⟨#[]⟩, .string ⟨#[]⟩], 27), (w6.heap.size + 1, #[.string ⟨#[]⟩, .string ⟨#[]⟩], 27), (w6.heap.size, #[.string ⟨#[]⟩, .string ⟨#[]⟩], 27), (w.heap.size, #[.int .i64 xf, .int .i64 xs, .slice ag xl cap, .int .i64 xm], 24)] W := by rw [hW, ← hW0, ← hW1]; exact hS
      replace hD : SlD W (.slice ag2 l.length cap2) l := by rw [hW]; exact (hD.new _).new _
      clear hz0 hz1 hW1 hW0
      go_wp2_with fail
      rw [← hW]
      clear hW
      refine Calls.mono (FC.out _ _ (hS.env hE) hD) ?_
      rintro e w8 ⟨rfl, hb⟩
      replace hS := hS.call hb
      replace hD := hD.below hb
      clear hb
      replace hS := hS.add' #[.string ⟨#[]⟩, .string ⟨#[]⟩] 27
      obtain ⟨W0, hW0, hS, hz0⟩ := hS
      replace hS := hS.add' #[.string ⟨#[]⟩, .string ⟨#[]⟩] 27
      obtain ⟨W1, hW1, hS, hz1⟩ := hS
      rw [hz0] at hS
      obtain ⟨W, hW⟩ : ∃ W, W = ((w8.alloc (.cells #[.string ⟨#[]⟩, .string ⟨#[]⟩] 27)).alloc (.cells #[.string ⟨#[]⟩, .string ⟨#[]⟩] 27)) := ⟨_, rfl⟩
      replace hS : BL w [(w8.heap.size + 1, #[.string ⟨#[]⟩, .string ⟨#[]⟩], 27), (w8.heap.size, #[.string ⟨#[]⟩, .string ⟨#[]⟩], 27), (w7.heap.size + 1, #[.string ⟨#[]⟩, .string ⟨#[]⟩], 27), (w7.heap.size, #[.string ⟨#[]⟩, .string ⟨#[]⟩], 27), (w6.heap.size + 1, #[.string ⟨#[]⟩, .string ⟨#[]⟩], 27), (w6.heap.size, #[.string ⟨#[]⟩, .string ⟨#[]⟩], 27), (w.heap.size, #[.int .i64 xf, .int .i64 xs, .slice ag xl cap, .int .i64 xm], 24)] W := by rw [hW, ← hW0, ← hW1]; exact hS
      replace hD : SlD W (.slice ag2 l.length cap2) l := by rw [hW]; exact (hD.new _).new _
      clear hz0 hz1 hW1 hW0
      go_wp2_with fail
      rw [← hW]
      clear hW
      refine Calls.mono (RF.out _ _ hD) ?_
      rintro e w9 ⟨v2, rfl, hr2, hb⟩
      replace hS := hS.call hb
      replace hD := hD.below hb
      clear hb
      clear hr2
      go_wp2
      go_ret
      exact ⟨rfl, hS.below⟩
  · rw [f1] at FA; rw [f2] at FB; rw [f3] at FC
    unfold fV at FA
    unfold fV at FB
    unfold fV at FC
    obtain ⟨ba, bb⟩ := fcst_bq f1
    obtain ⟨bc, be⟩ := fcst_bq f2
    obtain ⟨bp, bq⟩ := fcst_bq f3
    have WA := fun W (hE : Env W) => weighted_any ba bp hp1 hp2 W hE
    have WB := fun W (hE : Env W) => weighted_any bb bq hp1 hp2 W hE
    have C1 := fun W (hE : Env W) => cmp_c ((bq_wgt ba bp hp1 hp2).ok (by decide)) (bc.ok (by decide)) W hE
    have C2 := fun W (hE : Env W) => cmp_c (be.ok (by decide)) ((bq_wgt bb bq hp1 hp2).ok (by decide)) W hE
    have C1r := cmpQ_le.2 hlo
    have C2r := cmpQ_le.2 hhi
    clear f1 f2 f3 hlo hhi ba bb bc be bp bq hp1 hp2 hok
    dsimp only at FA FB FC
    generalize a * DecM.ratio p1 (p1 + p2) + p * DecM.ratio p2 (p1 + p2) = lo at *
    generalize b * DecM.ratio p1 (p1 + p2) + q * DecM.ratio p2 (p1 + p2) = hi at *
    generalize cmpQ lo c = c1 at *
    generalize cmpQ e hi = c2 at *
    generalize numS lo = lon at *
    generalize denS lo = lod at *
    generalize numS hi = hin at *
    generalize denS hi = hid at *
    generalize numS a = an at *
    generalize denS a = ad at *
    generalize numS b = bn at *
    generalize denS b = bd at *
    generalize numS c = cn at *
    generalize denS c = cd at *
    generalize numS e = en at *
    generalize denS e = ed at *
    generalize numS p = pn at *
    generalize denS p = pd at *
    generalize numS q = qn at *
    generalize denS q = qd at *
    replace FA := Lib.hid FA
    replace FB := Lib.hid FB
    replace FC := Lib.hid FC
    replace WA := Lib.hid WA
    replace WB := Lib.hid WB
    replace C1 := Lib.hid C1
    replace C2 := Lib.hid C2
    have Sv0 := BL.start w
    obtain ⟨V1, ev1, Sv1, zv1⟩ := Sv0.add' #[.int .i64 xf, .int .i64 xs, .slice ag xl cap, .int .i64 xm] 24
    have hV : V1 = (w.alloc (.cells #[.int .i64 xf, .int .i64 xs, .slice ag xl cap, .int .i64 xm] 24)) := by rw [ev1]
    have hS : BL w [(w.heap.size, #[.int .i64 xf, .int .i64 xs, .slice ag xl cap, .int .i64 xm], 24)] V1 := Sv1
    clear ev1 zv1 Sv0 Sv1
    go_enter Tryz.func5, Tryz.ntmps5
    go_wp2_with fail
    rw [← hV]
    clear hV
    refine Calls.mono (sane_any _ (hS.env hE)) ?_
    rintro e w1 ⟨rfl, hb⟩
    replace hS := hS.call hb
    clear hb
    obtain ⟨c_x_0, c_x_1, c_x_2, c_x_3⟩ := hS.c4 (w.heap.size) _ _ _ _ _ (.head _)
    go_wp2_with fail
    refine Calls.mono (MD.out _ (HN.out.below hS.below)) ?_
    rintro e w2 ⟨v, rfl, hD, hb⟩
    clear c_x_0 c_x_1 c_x_2 c_x_3
    replace hS := hS.call hb
    clear hb
    obtain ⟨ag2, cap2, rfl⟩ := hD.shape
    go_wp2_with fail
    refine Calls.mono (DY.out _) ?_
    rintro e w3 ⟨rfl, hb⟩
    replace hS := hS.call hb
    replace hD := hD.below hb
    clear hb
    go_wp2_with fail
    refine Calls.mono (P1.out _) ?_
    rintro e w4 ⟨rfl, hb⟩
    replace hS := hS.call hb
    replace hD := hD.below hb
    clear hb
    go_wp2_with fail
    refine Calls.mono (P2.out _) ?_
    rintro e w5 ⟨rfl, hb⟩
    replace hS := hS.call hb
    replace hD := hD.below hb
    clear hb
    go_wp2_with fail
    refine Calls.mono (FA.out _ _ (hS.env hE) hD) ?_
    rintro e w6 ⟨rfl, hb⟩
    replace hS := hS.call hb
    replace hD := hD.below hb
    clear hb
    replace hS := hS.add' #[.string an, .string ad] 27
    obtain ⟨W0, hW0, hS, hz0⟩ := hS
    replace hS := hS.add' #[.string bn, .string bd] 27
    obtain ⟨W1, hW1, hS, hz1⟩ := hS
    rw [hz0] at hS
    obtain ⟨W, hW⟩ : ∃ W, W = ((w6.alloc (.cells #[.string an, .string ad] 27)).alloc (.cells #[.string bn, .string bd] 27)) := ⟨_, rfl⟩
    replace hS : BL w [(w6.heap.size + 1, #[.string bn, .string bd], 27), (w6.heap.size, #[.string an, .string ad], 27), (w.heap.size, #[.int .i64 xf, .int .i64 xs, .slice ag xl cap, .int .i64 xm], 24)] W := by rw [hW, ← hW0, ← hW1]; exact hS
    replace hD : SlD W (.slice ag2 l.length cap2) l := by rw [hW]; exact (hD.new _).new _
    clear hz0 hz1 hW1 hW0
    go_wp2_with fail
    rw [← hW]
    clear hW
    refine Calls.mono (FB.out _ _ (hS.env hE) hD) ?_
    rintro e w7 ⟨rfl, hb⟩
    replace hS := hS.call hb
    replace hD := hD.below hb
    clear hb
    replace hS := hS.add' #[.string cn, .string cd] 27
    obtain ⟨W0, hW0, hS, hz0⟩ := hS
    replace hS := hS.add' #[.string en, .string ed] 27
    obtain ⟨W1, hW1, hS, hz1⟩ := hS
    rw [hz0] at hS
    obtain ⟨W, hW⟩ : ∃ W, W = ((w7.alloc (.cells #[.string cn, .string cd] 27)).alloc (.cells #[.string en, .string ed] 27)) := ⟨_, rfl⟩
    replace hS : BL w [(w7.heap.size + 1, #[.string en, .string ed], 27), (w7.heap.size, #[.string cn, .string cd], 27), (w6.heap.size + 1, #[.string bn, .string bd], 27), (w6.heap.size, #[.string an, .string ad], 27), (w.heap.size, #[.int .i64 xf, .int .i64 xs, .slice ag xl cap, .int .i64 xm], 24)] W := by rw [hW, ← hW0, ← hW1]; exact hS
    replace hD : SlD W (.slice ag2 l.length cap2) l := by rw [hW]; exact (hD.new _).new _
    clear hz0 hz1 hW1 hW0
    go_wp2_with fail
    rw [← hW]
    clear hW
    refine Calls.mono (FC.out _ _ (hS.env hE) hD) ?_
    rintro e w8 ⟨rfl, hb⟩
    replace hS := hS.call hb
    replace hD := hD.below hb
    clear hb
    replace hS := hS.add' #[.string pn, .string pd] 27
    obtain ⟨W0, hW0, hS, hz0⟩ := hS
    replace hS := hS.add' #[.string qn, .string qd] 27
    obtain ⟨W1, hW1, hS, hz1⟩ := hS
    rw [hz0] at hS
    obtain ⟨W, hW⟩ : ∃ W, W = ((w8.alloc (.cells #[.string pn, .string pd] 27)).alloc (.cells #[.string qn, .string qd] 27)) := ⟨_, rfl⟩
    replace hS : BL w [(w8.heap.size + 1, #[.string qn, .string qd], 27), (w8.heap.size, #[.string pn, .string pd], 27), (w7.heap.size + 1, #[.string en, .string ed], 27), (w7.heap.size, #[.string cn, .string cd], 27), (w6.heap.size + 1, #[.string bn, .string bd], 27), (w6.heap.size, #[.string an, .string ad], 27), (w.heap.size, #[.int .i64 xf, .int .i64 xs, .slice ag xl cap, .int .i64 xm], 24)] W := by rw [hW, ← hW0, ← hW1]; exact hS
    replace hD : SlD W (.slice ag2 l.length cap2) l := by rw [hW]; exact (hD.new _).new _
    clear hz0 hz1 hW1 hW0
    clear hD
    go_upto_region 13 with fail
    rw [← hW]
    clear hW
    obtain ⟨c_a_0, c_a_1⟩ := hS.c2 (w6.heap.size) _ _ _ (.tail _ (.tail _ (.tail _ (.tail _ (.tail _ (.head _))))))
    obtain ⟨c_p_0, c_p_1⟩ := hS.c2 (w8.heap.size) _ _ _ (.tail _ (.head _))
    go_wp2_with fail
    refine Calls.mono (WA.out _ (hS.env hE)) ?_
    rintro e w9 ⟨rfl, hb⟩
    clear c_a_0 c_a_1 c_p_0 c_p_1
    replace hS := hS.call hb
    clear hb
    replace hS := hS.add' #[.string lon, .string lod] 27
    obtain ⟨W0, hW0, hS, hz0⟩ := hS
    obtain ⟨W, hW⟩ : ∃ W, W = (w9.alloc (.cells #[.string lon, .string lod] 27)) := ⟨_, rfl⟩
    replace hS : BL w [(w9.heap.size, #[.string lon, .string lod], 27), (w8.heap.size + 1, #[.string qn, .string qd], 27), (w8.heap.size, #[.string pn, .string pd], 27), (w7.heap.size + 1, #[.string en, .string ed], 27), (w7.heap.size, #[.string cn, .string cd], 27), (w6.heap.size + 1, #[.string bn, .string bd], 27), (w6.heap.size, #[.string an, .string ad], 27), (w.heap.size, #[.int .i64 xf, .int .i64 xs, .slice ag xl cap, .int .i64 xm], 24)] W := by rw [hW, ← hW0]; exact hS
    clear hz0 hW0
    go_upto_region 14 with fail
    rw [← hW]
    clear hW
    obtain ⟨c_b_0, c_b_1⟩ := hS.c2 (w6.heap.size + 1) _ _ _ (.tail _ (.tail _ (.tail _ (.tail _ (.tail _ (.head _))))))
    obtain ⟨c_q_0, c_q_1⟩ := hS.c2 (w8.heap.size + 1) _ _ _ (.tail _ (.head _))
    go_wp2_with fail
    refine Calls.mono (WB.out _ (hS.env hE)) ?_
    rintro e w10 ⟨rfl, hb⟩
    clear c_b_0 c_b_1 c_q_0 c_q_1
    replace hS := hS.call hb
    clear hb
    replace hS := hS.add' #[.string hin, .string hid] 27
    obtain ⟨W0, hW0, hS, hz0⟩ := hS
    obtain ⟨W, hW⟩ : ∃ W, W = (w10.alloc (.cells #[.string hin, .string hid] 27)) := ⟨_, rfl⟩
    replace hS : BL w [(w10.heap.size, #[.string hin, .string hid], 27), (w9.heap.size, #[.string lon, .string lod], 27), (w8.heap.size + 1, #[.string qn, .string qd], 27), (w8.heap.size, #[.string pn, .string pd], 27), (w7.heap.size + 1, #[.string en, .string ed], 27), (w7.heap.size, #[.string cn, .string cd], 27), (w6.heap.size + 1, #[.string bn, .string bd], 27), (w6.heap.size, #[.string an, .string ad], 27), (w.heap.size, #[.int .i64 xf, .int .i64 xs, .slice ag xl cap, .int .i64 xm], 24)] W := by rw [hW, ← hW0]; exact hS
    clear hz0 hW0
    go_upto_region 15 with fail
    rw [← hW]
    clear hW
    obtain ⟨c_lo_0, c_lo_1⟩ := hS.c2 (w9.heap.size) _ _ _ (.tail _ (.head _))
    obtain ⟨c_c_0, c_c_1⟩ := hS.c2 (w7.heap.size) _ _ _ (.tail _ (.tail _ (.tail _ (.tail _ (.tail _ (.head _))))))
    go_wp2_with fail
    refine Calls.mono (C1.out _ (hS.env hE)) ?_
    rintro e w11 ⟨rfl, hb⟩
    clear c_lo_0 c_lo_1 c_c_0 c_c_1
    replace hS := hS.call hb
    clear hb
    obtain ⟨c_e_0, c_e_1⟩ := hS.c2 (w7.heap.size + 1) _ _ _ (.tail _ (.tail _ (.tail _ (.tail _ (.head _)))))
    obtain ⟨c_hi_0, c_hi_1⟩ := hS.c2 (w10.heap.size) _ _ _ (.head _)
    go_wp2_with fail
    refine Calls.mono (C2.out _ (hS.env hE)) ?_
    rintro e w12 ⟨rfl, hb⟩
    clear c_e_0 c_e_1 c_hi_0 c_hi_1
    replace hS := hS.call hb
    clear hb
    go_wp2
    go_ret
    exact ⟨rfl, hS.below⟩

end Go.Proofs.YtonbmhdbcbbagaaGreatDoor
