/- putlogref26: Forecast, Rates, Reaches. -/
import Derived.Test.YtebokdboodgkpaaGreatDoorRfC
import Derived.Test.YtebokdboodgkpaaGreatDoorDecMa
import Derived.Test.YtebokdboodgkpaaGreatDoorDecJ
import Derived.Deep.RegionHeld3
import Derived.Deep.DeepCutAuto
import Derived.Deep.QuietTactic
import Derived.BigQuiet
namespace Go.Proofs.YtebokdboodgkpaaGreatDoor
open Go.RowKit
open DecM (Dt gd gd_mem gd_lt okD inDay rbnd mostN ng rightD fcst rts rfc rrt rch)
attribute [local go_sem] Oper.semAt_some

theorem rbnd_bd {l : List Dt} (hok : okD l = true) (h2 : 2 ≤ l.length) (f : Dt → Dt → Int) (hf : ∀ p q, DtOk p → DtOk q → -1600000000000 ≤ f p q ∧ f p q ≤ 1600000000000) :
    (-1600000000000 ≤ (rbnd l f).1 ∧ (rbnd l f).1 ≤ 1600000000000) ∧ 0 < (rbnd l f).2 ∧ (rbnd l f).2 ≤ 800000 := by
  obtain ⟨p, hp, q, hq, h, e, _⟩ := DecM.rbnd_spec (DecM.okD_good hok) h2 f
  have dp := dtOk_of hok hp
  have dq := dtOk_of hok hq
  have := hf p q dp dq
  have := dp.t
  have := dq.t
  rw [e]
  exact ⟨by dsimp only; omega, by dsimp only; omega, by dsimp only; omega⟩
theorem neg_u {z : Int} (h : -1600000000000 ≤ z ∧ z ≤ 1600000000000) : IntKind.i64.wrap (-z) = -z := IntWalk.i64_in _ (by omega)
theorem ext0_bd {p q : Dt} (hp : DtOk p) (hq : DtOk q) : -1600000000000 ≤ q.hi - p.lo ∧ q.hi - p.lo ≤ 1600000000000 := by
  have := hp.lo; have := hq.hi; omega
/-- The texts of a bound, as the reference makes it. -/
theorem rof_ratio (n d : Int) (hn : -1600000000000 ≤ n ∧ n ≤ 1600000000000) (hd : 0 < d ∧ d ≤ 800000) (w : World) : Calls Tryz.prog 29 #[.int .i64 n, .int .i64 d] w (Rets w (.tuple #[.agg #[.string (numS (DecM.ratio n d)), .string (denS (DecM.ratio n d))], .int .i64 0])) := by
  have h := qrof_o n d (by unfold Fits; omega) (by unfold Fits; omega) w
  rw [oOf_ratio (by omega)] at h
  exact h
theorem right_len {l : List Dt} (h : rightD l = true) : okD l = true ∧ 2 ≤ l.length := by
  unfold rightD at h
  rw [Bool.and_eq_true, Bool.and_eq_true, decide_eq_true_iff] at h
  exact h.1

set_option maxRecDepth 100000 in
set_option maxHeartbeats 16000000 in
/-- putlogref26.Forecast. -/
theorem rforecast_any (v : Value) (l : List Dt) (t : Int) (w : World) (h : SlD w v l) :
    Calls Tryz.prog 18 #[v, .int .i64 t] w (Rets w (fV (fcst l t))) := by
  have RT' := Lib.hid (fun W (h : SlD W v l) => right26_any v l W h)
  have HH := Lib.hid h
  obtain ⟨ag, cap, hv⟩ := h.shape
  clear h
  cases hr : rightD l with
  | false =>
    rw [hr] at RT'
    show Calls _ _ _ _ (Rets w (fV (fcst l t)))
    rw [show fcst l t = none by rw [← DecM.rfc_eq]; unfold DecM.rfc; rw [hr]; rfl]
    show Calls _ _ _ _ (Rets w (.tuple #[.agg #[.string ⟨#[]⟩, .string ⟨#[]⟩], .agg #[.string ⟨#[]⟩, .string ⟨#[]⟩], .int .i64 260]))
    subst hv
    have Sv0 := BL.start w
    obtain ⟨V1, ev1, Sv1, zv1⟩ := Sv0.add' #[.string ⟨#[]⟩, .string ⟨#[]⟩] 27
    obtain ⟨V2, ev2, Sv2, zv2⟩ := Sv1.add' #[.string ⟨#[]⟩, .string ⟨#[]⟩] 27
    rw [zv1] at Sv2
    have hV : V2 = ((w.alloc (.cells #[.string ⟨#[]⟩, .string ⟨#[]⟩] 27)).alloc (.cells #[.string ⟨#[]⟩, .string ⟨#[]⟩] 27)) := by rw [ev2, ev1]
    have hS : BL w [(w.heap.size + 1, #[.string ⟨#[]⟩, .string ⟨#[]⟩], 27), (w.heap.size, #[.string ⟨#[]⟩, .string ⟨#[]⟩], 27)] V2 := Sv2
    clear ev1 ev2 zv1 zv2 Sv0 Sv1 Sv2
    go_enter Tryz.func18, Tryz.ntmps18
    go_wp2_with fail
    rw [← hV]
    clear hV
    refine Calls.mono (RT'.out _ (HH.out.below hS.below)) ?_
    rintro e w1 ⟨rfl, hb⟩
    replace hS := hS.call hb
    clear hb
    obtain ⟨k0, k1, k2, k3, q0, q1, q2, q3, y0, y1, y2, y3, hfin⟩ := two_after (hS.blks _ (.tail _ (.head _))) (hS.blks _ (.head _)) (by omega) ⟨#[]⟩ ⟨#[]⟩ ⟨#[]⟩ ⟨#[]⟩
    have hfin := Lib.hid (hfin w hS.below (by omega) (by omega))
    clear hS
    go_wp2
    exact bodyPost_ret (v := .tuple #[.agg #[.string ⟨#[]⟩, .string ⟨#[]⟩], .agg #[.string ⟨#[]⟩, .string ⟨#[]⟩], .int .i64 260]) (by simp [results, Tryz.results18, go_sem, y0, y1, y2, y3]) rfl ⟨rfl, hfin.out⟩
  | true =>
    rw [hr] at RT'
    have IN := fun W => in26_b t 0 800000 W
    rw [inDay_b] at IN
    cases ht : inDay t with
    | false =>
      rw [ht] at IN
      replace IN := Lib.hid IN
      rw [show fcst l t = none by rw [← DecM.rfc_eq]; unfold DecM.rfc; rw [ht, Bool.and_false]; rfl]
      show Calls _ _ _ _ (Rets w (.tuple #[.agg #[.string ⟨#[]⟩, .string ⟨#[]⟩], .agg #[.string ⟨#[]⟩, .string ⟨#[]⟩], .int .i64 260]))
      subst hv
      have Sv0 := BL.start w
      obtain ⟨V1, ev1, Sv1, zv1⟩ := Sv0.add' #[.string ⟨#[]⟩, .string ⟨#[]⟩] 27
      obtain ⟨V2, ev2, Sv2, zv2⟩ := Sv1.add' #[.string ⟨#[]⟩, .string ⟨#[]⟩] 27
      rw [zv1] at Sv2
      have hV : V2 = ((w.alloc (.cells #[.string ⟨#[]⟩, .string ⟨#[]⟩] 27)).alloc (.cells #[.string ⟨#[]⟩, .string ⟨#[]⟩] 27)) := by rw [ev2, ev1]
      have hS : BL w [(w.heap.size + 1, #[.string ⟨#[]⟩, .string ⟨#[]⟩], 27), (w.heap.size, #[.string ⟨#[]⟩, .string ⟨#[]⟩], 27)] V2 := Sv2
      clear ev1 ev2 zv1 zv2 Sv0 Sv1 Sv2
      go_enter Tryz.func18, Tryz.ntmps18
      go_wp2_with fail
      rw [← hV]
      clear hV
      refine Calls.mono (RT'.out _ (HH.out.below hS.below)) ?_
      rintro e w1 ⟨rfl, hb⟩
      replace hS := hS.call hb
      clear hb
      go_wp2_with fail
      refine Calls.mono (IN.out _) ?_
      rintro e w2 ⟨rfl, hb⟩
      replace hS := hS.call hb
      clear hb
      obtain ⟨k0, k1, k2, k3, q0, q1, q2, q3, y0, y1, y2, y3, hfin⟩ := two_after (hS.blks _ (.tail _ (.head _))) (hS.blks _ (.head _)) (by omega) ⟨#[]⟩ ⟨#[]⟩ ⟨#[]⟩ ⟨#[]⟩
      have hfin := Lib.hid (hfin w hS.below (by omega) (by omega))
      clear hS
      go_wp2
      exact bodyPost_ret (v := .tuple #[.agg #[.string ⟨#[]⟩, .string ⟨#[]⟩], .agg #[.string ⟨#[]⟩, .string ⟨#[]⟩], .int .i64 260]) (by simp [results, Tryz.results18, go_sem, y0, y1, y2, y3]) rfl ⟨rfl, hfin.out⟩
    | true =>
      rw [ht] at IN
      replace IN := Lib.hid IN
      have ht2 := DecM.inDay_iff.1 ht
      obtain ⟨hok, h2⟩ := right_len hr
      have hok2 := DecM.okD_ng hok
      have h22 : 2 ≤ (l.map ng).length := by simpa using h2
      have NG := Lib.hid (fun W (h : SlD W v l) => negative_any v l W hok h)
      have B1 := Lib.hid (fun u W (h : SlD W u (l.map ng)) => bound26_any u (l.map ng) t ht2 W hok2 h22 h)
      have B2 := Lib.hid (fun W (h : SlD W v l) => bound26_any v l t ht2 W hok h2 h)
      obtain ⟨m1, m2⟩ := rbnd_bd hok2 h22 (fun p q => mostN p q t) (fun p q hp hq => mostN_bd hp hq ht2)
      obtain ⟨m3, m4⟩ := rbnd_bd hok h2 (fun p q => mostN p q t) (fun p q hp hq => mostN_bd hp hq ht2)
      rw [show fcst l t = some (DecM.ratio (-(rbnd (l.map ng) (fun p q => mostN p q t)).1) (rbnd (l.map ng) (fun p q => mostN p q t)).2, DecM.ratio (rbnd l (fun p q => mostN p q t)).1 (rbnd l (fun p q => mostN p q t)).2) by rw [← DecM.rfc_eq]; unfold DecM.rfc; rw [hr, ht]; rfl]
      generalize (rbnd (l.map ng) (fun p q => mostN p q t)) = x at *
      generalize (rbnd l (fun p q => mostN p q t)) = y at *
      obtain ⟨n1, d1⟩ := x
      obtain ⟨n2, d2⟩ := y
      dsimp only at *
      obtain ⟨n3, e3⟩ : ∃ z, z = -n1 := ⟨_, rfl⟩
      have wn : IntKind.i64.wrap (-n1) = n3 := by rw [e3]; exact neg_u m1
      rw [← e3]
      have O1 := fun W => rof_ratio n3 d1 (by omega) m2 W
      have O2 := fun W => rof_ratio n2 d2 m3 m4 W
      clear m1 m2 m3 m4 e3 hok hok2 h2 h22 hr
      show Calls _ _ _ _ (Rets w (.tuple #[.agg #[.string (numS (DecM.ratio n3 d1)), .string (denS (DecM.ratio n3 d1))], .agg #[.string (numS (DecM.ratio n2 d2)), .string (denS (DecM.ratio n2 d2))], .int .i64 0]))
      generalize numS (DecM.ratio n3 d1) = an at *
      generalize denS (DecM.ratio n3 d1) = ad at *
      generalize numS (DecM.ratio n2 d2) = bn at *
      generalize denS (DecM.ratio n2 d2) = bd at *
      replace O1 := Lib.hid O1
      replace O2 := Lib.hid O2
      subst hv
      clear ht ht2
      have Sv0 := BL.start w
      obtain ⟨V1, ev1, Sv1, zv1⟩ := Sv0.add' #[.string ⟨#[]⟩, .string ⟨#[]⟩] 27
      obtain ⟨V2, ev2, Sv2, zv2⟩ := Sv1.add' #[.string ⟨#[]⟩, .string ⟨#[]⟩] 27
      rw [zv1] at Sv2
      have hV : V2 = ((w.alloc (.cells #[.string ⟨#[]⟩, .string ⟨#[]⟩] 27)).alloc (.cells #[.string ⟨#[]⟩, .string ⟨#[]⟩] 27)) := by rw [ev2, ev1]
      have hS : BL w [(w.heap.size + 1, #[.string ⟨#[]⟩, .string ⟨#[]⟩], 27), (w.heap.size, #[.string ⟨#[]⟩, .string ⟨#[]⟩], 27)] V2 := Sv2
      clear ev1 ev2 zv1 zv2 Sv0 Sv1 Sv2
      go_enter Tryz.func18, Tryz.ntmps18
      go_wp2_with fail
      rw [← hV]
      clear hV
      refine Calls.mono (RT'.out _ (HH.out.below hS.below)) ?_
      rintro e w1 ⟨rfl, hb⟩
      replace hS := hS.call hb
      clear hb
      go_wp2_with fail
      refine Calls.mono (IN.out _) ?_
      rintro e w2 ⟨rfl, hb⟩
      replace hS := hS.call hb
      clear hb
      go_wp2_with fail
      refine Calls.mono (NG.out _ (HH.out.below hS.below)) ?_
      rintro e w3 ⟨u, rfl, hU, hb⟩
      replace hS := hS.call hb
      clear hb
      obtain ⟨ag2, cap2, eu⟩ := hU.shape
      rw [List.length_map] at eu
      subst eu
      have HU := Lib.hid hU
      clear hU
      go_wp2_with fail
      refine Calls.mono (B1.out _ _ HU.out) ?_
      rintro e w4 ⟨rfl, hb⟩
      replace hS := hS.call hb
      clear hb
      go_wp2_with fail
      refine Calls.mono (O1.out _) ?_
      rintro e w5 ⟨rfl, hb⟩
      replace hS := hS.call hb
      clear hb
      have lo1 := hS.lts _ (.head _)
      dsimp only at lo1
      replace hS := hS.add' #[.string an, .string ad] 27
      obtain ⟨W0, hW0, hS, hz0⟩ := hS
      obtain ⟨W, hW⟩ : ∃ W, W = (w5.alloc (.cells #[.string an, .string ad] 27)) := ⟨_, rfl⟩
      replace hS : BL w [(w5.heap.size, #[.string an, .string ad], 27), (w.heap.size + 1, #[.string ⟨#[]⟩, .string ⟨#[]⟩], 27), (w.heap.size, #[.string ⟨#[]⟩, .string ⟨#[]⟩], 27)] W := by rw [hW, ← hW0]; exact hS
      clear hz0 hW0
      go_wp2_with fail
      rw [← hW]
      clear hW
      refine Calls.mono (B2.out _ (HH.out.below hS.below)) ?_
      rintro e w6 ⟨rfl, hb⟩
      replace hS := hS.call hb
      clear hb
      go_wp2_with fail
      refine Calls.mono (O2.out _) ?_
      rintro e w7 ⟨rfl, hb⟩
      replace hS := hS.call hb
      clear hb
      have lo2 := hS.lts _ (.tail _ (.head _))
      dsimp only at lo2
      replace hS := hS.add' #[.string bn, .string bd] 27
      obtain ⟨W0, hW0, hS, hz0⟩ := hS
      obtain ⟨W, hW⟩ : ∃ W, W = (w7.alloc (.cells #[.string bn, .string bd] 27)) := ⟨_, rfl⟩
      replace hS : BL w [(w7.heap.size, #[.string bn, .string bd], 27), (w5.heap.size, #[.string an, .string ad], 27), (w.heap.size + 1, #[.string ⟨#[]⟩, .string ⟨#[]⟩], 27), (w.heap.size, #[.string ⟨#[]⟩, .string ⟨#[]⟩], 27)] W := by rw [hW, ← hW0]; exact hS
      clear hz0 hW0
      go_upto_region 7 with fail
      rw [← hW]
      clear hW
      obtain ⟨c_a_0, c_a_1⟩ := hS.c2 (w5.heap.size) _ _ _ (.tail _ (.head _))
      obtain ⟨c_b_0, c_b_1⟩ := hS.c2 (w7.heap.size) _ _ _ (.head _)
      obtain ⟨k0, k1, k2, k3, q0, q1, q2, q3, y0, y1, y2, y3, hfin⟩ := two_after (hS.blks _ (.tail _ (.tail _ (.tail _ (.head _))))) (hS.blks _ (.tail _ (.tail _ (.head _)))) (by omega) an ad bn bd
      have hfin := Lib.hid (hfin w hS.below (by omega) (by omega))
      have ne000 : ¬ (w5.heap.size = w.heap.size) := by omega
      have ne001 : ¬ (w.heap.size = w5.heap.size) := by omega
      have ne010 : ¬ (w5.heap.size = w.heap.size + 1) := by omega
      have ne011 : ¬ (w.heap.size + 1 = w5.heap.size) := by omega
      have ne100 : ¬ (w7.heap.size = w.heap.size) := by omega
      have ne101 : ¬ (w.heap.size = w7.heap.size) := by omega
      have ne110 : ¬ (w7.heap.size = w.heap.size + 1) := by omega
      have ne111 : ¬ (w.heap.size + 1 = w7.heap.size) := by omega
      clear hS
      go_region
      go_wp2
      exact bodyPost_ret (v := .tuple #[.agg #[.string an, .string ad], .agg #[.string bn, .string bd], .int .i64 0]) (by simp [results, Tryz.results18, go_sem, World.cell?_drew, y0, y1, y2, y3]) rfl ⟨rfl, kb_drew hfin.out⟩

set_option maxRecDepth 100000 in
set_option maxHeartbeats 16000000 in
/-- putlogref26.Rates. -/
theorem rrates_any (v : Value) (l : List Dt) (w : World) (h : SlD w v l) :
    Calls Tryz.prog 12 #[v] w (Rets w (fV (rts l))) := by
  have RT' := Lib.hid (fun W (h : SlD W v l) => right26_any v l W h)
  have HH := Lib.hid h
  obtain ⟨ag, cap, hv⟩ := h.shape
  clear h
  cases hr : rightD l with
  | false =>
    rw [hr] at RT'
    show Calls _ _ _ _ (Rets w (fV (rts l)))
    rw [show rts l = none by rw [← DecM.rrt_eq]; unfold DecM.rrt; rw [hr]; rfl]
    show Calls _ _ _ _ (Rets w (.tuple #[.agg #[.string ⟨#[]⟩, .string ⟨#[]⟩], .agg #[.string ⟨#[]⟩, .string ⟨#[]⟩], .int .i64 260]))
    subst hv
    have Sv0 := BL.start w
    obtain ⟨V1, ev1, Sv1, zv1⟩ := Sv0.add' #[.string ⟨#[]⟩, .string ⟨#[]⟩] 27
    obtain ⟨V2, ev2, Sv2, zv2⟩ := Sv1.add' #[.string ⟨#[]⟩, .string ⟨#[]⟩] 27
    rw [zv1] at Sv2
    have hV : V2 = ((w.alloc (.cells #[.string ⟨#[]⟩, .string ⟨#[]⟩] 27)).alloc (.cells #[.string ⟨#[]⟩, .string ⟨#[]⟩] 27)) := by rw [ev2, ev1]
    have hS : BL w [(w.heap.size + 1, #[.string ⟨#[]⟩, .string ⟨#[]⟩], 27), (w.heap.size, #[.string ⟨#[]⟩, .string ⟨#[]⟩], 27)] V2 := Sv2
    clear ev1 ev2 zv1 zv2 Sv0 Sv1 Sv2
    go_enter Tryz.func12, Tryz.ntmps12
    go_wp2_with fail
    rw [← hV]
    clear hV
    refine Calls.mono (RT'.out _ (HH.out.below hS.below)) ?_
    rintro e w1 ⟨rfl, hb⟩
    replace hS := hS.call hb
    clear hb
    obtain ⟨k0, k1, k2, k3, q0, q1, q2, q3, y0, y1, y2, y3, hfin⟩ := two_after (hS.blks _ (.tail _ (.head _))) (hS.blks _ (.head _)) (by omega) ⟨#[]⟩ ⟨#[]⟩ ⟨#[]⟩ ⟨#[]⟩
    have hfin := Lib.hid (hfin w hS.below (by omega) (by omega))
    clear hS
    go_wp2
    exact bodyPost_ret (v := .tuple #[.agg #[.string ⟨#[]⟩, .string ⟨#[]⟩], .agg #[.string ⟨#[]⟩, .string ⟨#[]⟩], .int .i64 260]) (by simp [results, Tryz.results12, go_sem, y0, y1, y2, y3]) rfl ⟨rfl, hfin.out⟩
  | true =>
    rw [hr] at RT'
    obtain ⟨hok, h2⟩ := right_len hr
    have hok2 := DecM.okD_ng hok
    have h22 : 2 ≤ (l.map ng).length := by simpa using h2
    have NG := Lib.hid (fun W (h : SlD W v l) => negative_any v l W hok h)
    have B1 := Lib.hid (fun u W (h : SlD W u (l.map ng)) => rate26_any u (l.map ng) W hok2 h22 h)
    have B2 := Lib.hid (fun W (h : SlD W v l) => rate26_any v l W hok h2 h)
    obtain ⟨m1, m2⟩ := rbnd_bd hok2 h22 (fun p q => q.hi - p.lo) (fun p q hp hq => ext0_bd hp hq)
    obtain ⟨m3, m4⟩ := rbnd_bd hok h2 (fun p q => q.hi - p.lo) (fun p q hp hq => ext0_bd hp hq)
    rw [show rts l = some (DecM.ratio (-(rbnd (l.map ng) (fun p q => q.hi - p.lo)).1) (rbnd (l.map ng) (fun p q => q.hi - p.lo)).2, DecM.ratio (rbnd l (fun p q => q.hi - p.lo)).1 (rbnd l (fun p q => q.hi - p.lo)).2) by rw [← DecM.rrt_eq]; unfold DecM.rrt; rw [hr]; rfl]
    generalize (rbnd (l.map ng) (fun p q => q.hi - p.lo)) = x at *
    generalize (rbnd l (fun p q => q.hi - p.lo)) = y at *
    obtain ⟨n1, d1⟩ := x
    obtain ⟨n2, d2⟩ := y
    dsimp only at *
    obtain ⟨n3, e3⟩ : ∃ z, z = -n1 := ⟨_, rfl⟩
    have wn : IntKind.i64.wrap (-n1) = n3 := by rw [e3]; exact neg_u m1
    rw [← e3]
    have O1 := fun W => rof_ratio n3 d1 (by omega) m2 W
    have O2 := fun W => rof_ratio n2 d2 m3 m4 W
    clear m1 m2 m3 m4 e3 hok hok2 h2 h22 hr
    show Calls _ _ _ _ (Rets w (.tuple #[.agg #[.string (numS (DecM.ratio n3 d1)), .string (denS (DecM.ratio n3 d1))], .agg #[.string (numS (DecM.ratio n2 d2)), .string (denS (DecM.ratio n2 d2))], .int .i64 0]))
    generalize numS (DecM.ratio n3 d1) = an at *
    generalize denS (DecM.ratio n3 d1) = ad at *
    generalize numS (DecM.ratio n2 d2) = bn at *
    generalize denS (DecM.ratio n2 d2) = bd at *
    replace O1 := Lib.hid O1
    replace O2 := Lib.hid O2
    subst hv
    have Sv0 := BL.start w
    obtain ⟨V1, ev1, Sv1, zv1⟩ := Sv0.add' #[.string ⟨#[]⟩, .string ⟨#[]⟩] 27
    obtain ⟨V2, ev2, Sv2, zv2⟩ := Sv1.add' #[.string ⟨#[]⟩, .string ⟨#[]⟩] 27
    rw [zv1] at Sv2
    have hV : V2 = ((w.alloc (.cells #[.string ⟨#[]⟩, .string ⟨#[]⟩] 27)).alloc (.cells #[.string ⟨#[]⟩, .string ⟨#[]⟩] 27)) := by rw [ev2, ev1]
    have hS : BL w [(w.heap.size + 1, #[.string ⟨#[]⟩, .string ⟨#[]⟩], 27), (w.heap.size, #[.string ⟨#[]⟩, .string ⟨#[]⟩], 27)] V2 := Sv2
    clear ev1 ev2 zv1 zv2 Sv0 Sv1 Sv2
    go_enter Tryz.func12, Tryz.ntmps12
    go_wp2_with fail
    rw [← hV]
    clear hV
    refine Calls.mono (RT'.out _ (HH.out.below hS.below)) ?_
    rintro e w1 ⟨rfl, hb⟩
    replace hS := hS.call hb
    clear hb
    go_wp2_with fail
    refine Calls.mono (NG.out _ (HH.out.below hS.below)) ?_
    rintro e w2 ⟨u, rfl, hU, hb⟩
    replace hS := hS.call hb
    clear hb
    obtain ⟨ag2, cap2, eu⟩ := hU.shape
    rw [List.length_map] at eu
    subst eu
    have HU := Lib.hid hU
    clear hU
    go_wp2_with fail
    refine Calls.mono (B1.out _ _ HU.out) ?_
    rintro e w3 ⟨rfl, hb⟩
    replace hS := hS.call hb
    clear hb
    go_wp2_with fail
    refine Calls.mono (O1.out _) ?_
    rintro e w4 ⟨rfl, hb⟩
    replace hS := hS.call hb
    clear hb
    have lo1 := hS.lts _ (.head _)
    dsimp only at lo1
    replace hS := hS.add' #[.string an, .string ad] 27
    obtain ⟨W0, hW0, hS, hz0⟩ := hS
    obtain ⟨W, hW⟩ : ∃ W, W = (w4.alloc (.cells #[.string an, .string ad] 27)) := ⟨_, rfl⟩
    replace hS : BL w [(w4.heap.size, #[.string an, .string ad], 27), (w.heap.size + 1, #[.string ⟨#[]⟩, .string ⟨#[]⟩], 27), (w.heap.size, #[.string ⟨#[]⟩, .string ⟨#[]⟩], 27)] W := by rw [hW, ← hW0]; exact hS
    clear hz0 hW0
    go_wp2_with fail
    rw [← hW]
    clear hW
    refine Calls.mono (B2.out _ (HH.out.below hS.below)) ?_
    rintro e w5 ⟨rfl, hb⟩
    replace hS := hS.call hb
    clear hb
    go_wp2_with fail
    refine Calls.mono (O2.out _) ?_
    rintro e w6 ⟨rfl, hb⟩
    replace hS := hS.call hb
    clear hb
    have lo2 := hS.lts _ (.tail _ (.head _))
    dsimp only at lo2
    replace hS := hS.add' #[.string bn, .string bd] 27
    obtain ⟨W0, hW0, hS, hz0⟩ := hS
    obtain ⟨W, hW⟩ : ∃ W, W = (w6.alloc (.cells #[.string bn, .string bd] 27)) := ⟨_, rfl⟩
    replace hS : BL w [(w6.heap.size, #[.string bn, .string bd], 27), (w4.heap.size, #[.string an, .string ad], 27), (w.heap.size + 1, #[.string ⟨#[]⟩, .string ⟨#[]⟩], 27), (w.heap.size, #[.string ⟨#[]⟩, .string ⟨#[]⟩], 27)] W := by rw [hW, ← hW0]; exact hS
    clear hz0 hW0
    go_upto_region 7 with fail
    rw [← hW]
    clear hW
    obtain ⟨c_a_0, c_a_1⟩ := hS.c2 (w4.heap.size) _ _ _ (.tail _ (.head _))
    obtain ⟨c_b_0, c_b_1⟩ := hS.c2 (w6.heap.size) _ _ _ (.head _)
    obtain ⟨k0, k1, k2, k3, q0, q1, q2, q3, y0, y1, y2, y3, hfin⟩ := two_after (hS.blks _ (.tail _ (.tail _ (.tail _ (.head _))))) (hS.blks _ (.tail _ (.tail _ (.head _)))) (by omega) an ad bn bd
    have hfin := Lib.hid (hfin w hS.below (by omega) (by omega))
    have ne000 : ¬ (w4.heap.size = w.heap.size) := by omega
    have ne001 : ¬ (w.heap.size = w4.heap.size) := by omega
    have ne010 : ¬ (w4.heap.size = w.heap.size + 1) := by omega
    have ne011 : ¬ (w.heap.size + 1 = w4.heap.size) := by omega
    have ne100 : ¬ (w6.heap.size = w.heap.size) := by omega
    have ne101 : ¬ (w.heap.size = w6.heap.size) := by omega
    have ne110 : ¬ (w6.heap.size = w.heap.size + 1) := by omega
    have ne111 : ¬ (w.heap.size + 1 = w6.heap.size) := by omega
    clear hS
    go_region
    go_wp2
    exact bodyPost_ret (v := .tuple #[.agg #[.string an, .string ad], .agg #[.string bn, .string bd], .int .i64 0]) (by simp [results, Tryz.results12, go_sem, World.cell?_drew, y0, y1, y2, y3]) rfl ⟨rfl, kb_drew hfin.out⟩

set_option maxRecDepth 100000 in
set_option maxHeartbeats 16000000 in
/-- putlogref26.Reaches. -/
theorem rreaches_any (v : Value) (l : List Dt) (k t : Int) (hk : Fits k) (w : World) (h : SlD w v l) :
    Calls Tryz.prog 22 #[v, .int .i64 k, .int .i64 t] w (Rets w (rV (rch l k t))) := by
  have F0 := fun W (h : SlD W v l) => rforecast_any v l t W h
  have IN := fun W => in26_b k (-1000000) 1000000 W
  have OF := fun W => whole26_any k hk W
  have HH := Lib.hid h
  obtain ⟨ag, cap, hv⟩ := h.shape
  rw [rch_eq]
  clear h
  cases hf : fcst l t with
  | none =>
    rw [hf] at F0
    unfold fV at F0
    dsimp only at F0
    replace F0 := Lib.hid F0
    clear IN OF
    show Calls _ _ _ _ (Rets w (.tuple #[.int .i64 0, .int .i64 260]))
    subst hv
    have hS := BL.start w
    go_enter Tryz.func22, Tryz.ntmps22
    go_wp2_with fail
    refine Calls.mono (F0.out _ (HH.out.below hS.below)) ?_
    rintro e w1 ⟨rfl, hb⟩
    replace hS := hS.call hb
    clear hb
    replace hS := hS.add' #[.string ⟨#[]⟩, .string ⟨#[]⟩] 27
    obtain ⟨W0, hW0, hS, hz0⟩ := hS
    replace hS := hS.add' #[.string ⟨#[]⟩, .string ⟨#[]⟩] 27
    obtain ⟨W1, hW1, hS, hz1⟩ := hS
    rw [hz0] at hS
    obtain ⟨W, hW⟩ : ∃ W, W = ((w1.alloc (.cells #[.string ⟨#[]⟩, .string ⟨#[]⟩] 27)).alloc (.cells #[.string ⟨#[]⟩, .string ⟨#[]⟩] 27)) := ⟨_, rfl⟩
    replace hS : BL w [(w1.heap.size + 1, #[.string ⟨#[]⟩, .string ⟨#[]⟩], 27), (w1.heap.size, #[.string ⟨#[]⟩, .string ⟨#[]⟩], 27)] W := by rw [hW, ← hW0, ← hW1]; exact hS
    clear hz0 hz1 hW1 hW0
    go_upto_region 3 with fail
    rw [← hW]
    clear hW
    go_wp2
    refine bodyPost_ret (resT2 rfl _ _ _) rfl ?_
    exact ⟨rfl, hS.below⟩
  | some x =>
    obtain ⟨a, b⟩ := x
    rw [hf] at F0
    unfold fV at F0
    have hq := rets_bd hf
    show Calls _ _ _ _ (Rets w (rV (if decide (-1000000 ≤ k) && decide (k ≤ 1000000) then some (if 0 ≤ cmpQ a (k : Rat) then 1 else if cmpQ b (k : Rat) < 0 then -1 else 0) else none)))
    dsimp only at F0
    have CA := fun W => qrcmp_o (a := some a) (b := some (k : Rat)) (OkO.some hq.1) (ok_int hk) W
    have CB := fun W => qrcmp_o (a := some b) (b := some (k : Rat)) (OkO.some hq.2) (ok_int hk) W
    have ea : oCmp (some a) (some (k : Rat)) = cmpQ a (k : Rat) := rfl
    have eb : oCmp (some b) (some (k : Rat)) = cmpQ b (k : Rat) := rfl
    rw [ea] at CA
    rw [eb] at CB
    clear ea eb hq hf hk
    change ∀ W, Calls _ _ #[.agg #[.string (numS a), .string (denS a)], _] W _ at CA
    change ∀ W, Calls _ _ #[.agg #[.string (numS b), .string (denS b)], _] W _ at CB
    generalize cmpQ a (k : Rat) = ca at *
    generalize cmpQ b (k : Rat) = cb at *
    generalize numS a = an at *
    generalize denS a = ad at *
    generalize numS b = bn at *
    generalize denS b = bd at *
    generalize tN (some (k : Rat)) = kn at *
    generalize tD (some (k : Rat)) = kd at *
    replace F0 := Lib.hid F0
    replace OF := Lib.hid OF
    replace CA := Lib.hid CA
    replace CB := Lib.hid CB
    subst hv
    cases hin : (decide (-1000000 ≤ k) && decide (k ≤ 1000000)) with
    | false =>
      rw [hin] at IN
      replace IN := Lib.hid IN
      show Calls _ _ _ _ (Rets w (.tuple #[.int .i64 0, .int .i64 260]))
      have hS := BL.start w
      go_enter Tryz.func22, Tryz.ntmps22
      go_wp2_with fail
      refine Calls.mono (F0.out _ (HH.out.below hS.below)) ?_
      rintro e w1 ⟨rfl, hb⟩
      replace hS := hS.call hb
      clear hb
      replace hS := hS.add' #[.string an, .string ad] 27
      obtain ⟨W0, hW0, hS, hz0⟩ := hS
      replace hS := hS.add' #[.string bn, .string bd] 27
      obtain ⟨W1, hW1, hS, hz1⟩ := hS
      rw [hz0] at hS
      obtain ⟨W, hW⟩ : ∃ W, W = ((w1.alloc (.cells #[.string an, .string ad] 27)).alloc (.cells #[.string bn, .string bd] 27)) := ⟨_, rfl⟩
      replace hS : BL w [(w1.heap.size + 1, #[.string bn, .string bd], 27), (w1.heap.size, #[.string an, .string ad], 27)] W := by rw [hW, ← hW0, ← hW1]; exact hS
      clear hz0 hz1 hW1 hW0
      go_wp2_with fail
      rw [← hW]
      clear hW
      refine Calls.mono (IN.out _) ?_
      rintro e w2 ⟨rfl, hb⟩
      replace hS := hS.call hb
      clear hb
      go_wp2
      refine bodyPost_ret (resT2 rfl _ _ _) rfl ?_
      exact ⟨rfl, hS.below⟩
    | true =>
      rw [hin] at IN
      replace IN := Lib.hid IN
      clear hin
      rw [if_pos rfl]
      by_cases c1 : 0 ≤ ca
      · rw [if_pos c1]
        show Calls _ _ _ _ (Rets w (.tuple #[.int .i64 1, .int .i64 0]))
        have hS := BL.start w
        go_enter Tryz.func22, Tryz.ntmps22
        go_wp2_with fail
        refine Calls.mono (F0.out _ (HH.out.below hS.below)) ?_
        rintro e w1 ⟨rfl, hb⟩
        replace hS := hS.call hb
        clear hb
        replace hS := hS.add' #[.string an, .string ad] 27
        obtain ⟨W0, hW0, hS, hz0⟩ := hS
        replace hS := hS.add' #[.string bn, .string bd] 27
        obtain ⟨W1, hW1, hS, hz1⟩ := hS
        rw [hz0] at hS
        obtain ⟨W, hW⟩ : ∃ W, W = ((w1.alloc (.cells #[.string an, .string ad] 27)).alloc (.cells #[.string bn, .string bd] 27)) := ⟨_, rfl⟩
        replace hS : BL w [(w1.heap.size + 1, #[.string bn, .string bd], 27), (w1.heap.size, #[.string an, .string ad], 27)] W := by rw [hW, ← hW0, ← hW1]; exact hS
        clear hz0 hz1 hW1 hW0
        go_wp2_with fail
        rw [← hW]
        clear hW
        refine Calls.mono (IN.out _) ?_
        rintro e w2 ⟨rfl, hb⟩
        replace hS := hS.call hb
        clear hb
        go_upto_region 4 with fail
        have hC0 : ∀ W', BL w [(w1.heap.size + 1, #[.string bn, .string bd], 27), (w1.heap.size, #[.string an, .string ad], 27)] W' → (W'.cell? ⟨w1.heap.size, 0, none⟩ = some (.string an) ∧ W'.cell? ⟨w1.heap.size, 1, none⟩ = some (.string ad)) := fun W' h => ⟨(h.cell (w1.heap.size) _ _ (.tail _ (.head _)) 0), (h.cell (w1.heap.size) _ _ (.tail _ (.head _)) 1)⟩
        have hC := Lib.hid hC0
        clear hC0
        obtain ⟨x0', x1'⟩ := hC.out _ hS
        replace hS := hS.drew
        go_region_held3 (fun w' => w'.cell? ⟨w1.heap.size, 0, none⟩ = some (.string an) ∧ w'.cell? ⟨w1.heap.size, 1, none⟩ = some (.string ad))
          (first | with_reducible exact hC.out _ hS | go_keep)
          (first | (go_at_call 48; (with_reducible refine Calls.mono (OF.out _) ?_); rintro e w' ⟨rfl, hb⟩; replace hS := hS.call hb; clear hb) | (go_at_call 47; (with_reducible refine Calls.mono (CA.out _) ?_); rintro e w' ⟨rfl, hb⟩; replace hS := hS.call hb; clear hb))
        clear hC x0' x1'
        go_wp2
        refine bodyPost_ret (resT2 rfl _ _ _) rfl ?_
        exact ⟨rfl, hS.below⟩
      · rw [if_neg c1]
        by_cases c2 : cb < 0
        · rw [if_pos c2]
          show Calls _ _ _ _ (Rets w (.tuple #[.int .i64 (-1), .int .i64 0]))
          have hS := BL.start w
          go_enter Tryz.func22, Tryz.ntmps22
          go_wp2_with fail
          refine Calls.mono (F0.out _ (HH.out.below hS.below)) ?_
          rintro e w1 ⟨rfl, hb⟩
          replace hS := hS.call hb
          clear hb
          replace hS := hS.add' #[.string an, .string ad] 27
          obtain ⟨W0, hW0, hS, hz0⟩ := hS
          replace hS := hS.add' #[.string bn, .string bd] 27
          obtain ⟨W1, hW1, hS, hz1⟩ := hS
          rw [hz0] at hS
          obtain ⟨W, hW⟩ : ∃ W, W = ((w1.alloc (.cells #[.string an, .string ad] 27)).alloc (.cells #[.string bn, .string bd] 27)) := ⟨_, rfl⟩
          replace hS : BL w [(w1.heap.size + 1, #[.string bn, .string bd], 27), (w1.heap.size, #[.string an, .string ad], 27)] W := by rw [hW, ← hW0, ← hW1]; exact hS
          clear hz0 hz1 hW1 hW0
          go_wp2_with fail
          rw [← hW]
          clear hW
          refine Calls.mono (IN.out _) ?_
          rintro e w2 ⟨rfl, hb⟩
          replace hS := hS.call hb
          clear hb
          go_upto_region 4 with fail
          have hC0 : ∀ W', BL w [(w1.heap.size + 1, #[.string bn, .string bd], 27), (w1.heap.size, #[.string an, .string ad], 27)] W' → (W'.cell? ⟨w1.heap.size, 0, none⟩ = some (.string an) ∧ W'.cell? ⟨w1.heap.size, 1, none⟩ = some (.string ad)) := fun W' h => ⟨(h.cell (w1.heap.size) _ _ (.tail _ (.head _)) 0), (h.cell (w1.heap.size) _ _ (.tail _ (.head _)) 1)⟩
          have hC := Lib.hid hC0
          clear hC0
          obtain ⟨x0', x1'⟩ := hC.out _ hS
          replace hS := hS.drew
          go_region_held3 (fun w' => w'.cell? ⟨w1.heap.size, 0, none⟩ = some (.string an) ∧ w'.cell? ⟨w1.heap.size, 1, none⟩ = some (.string ad))
            (first | with_reducible exact hC.out _ hS | go_keep)
            (first | (go_at_call 48; (with_reducible refine Calls.mono (OF.out _) ?_); rintro e w' ⟨rfl, hb⟩; replace hS := hS.call hb; clear hb) | (go_at_call 47; (with_reducible refine Calls.mono (CA.out _) ?_); rintro e w' ⟨rfl, hb⟩; replace hS := hS.call hb; clear hb))
          clear hC x0' x1'
          go_upto_region 6 with fail
          have hC0 : ∀ W', BL w [(w1.heap.size + 1, #[.string bn, .string bd], 27), (w1.heap.size, #[.string an, .string ad], 27)] W' → (W'.cell? ⟨w1.heap.size + 1, 0, none⟩ = some (.string bn) ∧ W'.cell? ⟨w1.heap.size + 1, 1, none⟩ = some (.string bd)) := fun W' h => ⟨(h.cell (w1.heap.size + 1) _ _ (.head _) 0), (h.cell (w1.heap.size + 1) _ _ (.head _) 1)⟩
          have hC := Lib.hid hC0
          clear hC0
          obtain ⟨x0', x1'⟩ := hC.out _ hS
          replace hS := hS.drew
          go_region_held3 (fun w' => w'.cell? ⟨w1.heap.size + 1, 0, none⟩ = some (.string bn) ∧ w'.cell? ⟨w1.heap.size + 1, 1, none⟩ = some (.string bd))
            (first | with_reducible exact hC.out _ hS | go_keep)
            (first | (go_at_call 48; (with_reducible refine Calls.mono (OF.out _) ?_); rintro e w' ⟨rfl, hb⟩; replace hS := hS.call hb; clear hb) | (go_at_call 47; (with_reducible refine Calls.mono (CB.out _) ?_); rintro e w' ⟨rfl, hb⟩; replace hS := hS.call hb; clear hb))
          clear hC x0' x1'
          go_wp2
          refine bodyPost_ret (resT2 rfl _ _ _) rfl ?_
          exact ⟨rfl, hS.below⟩
        · rw [if_neg c2]
          show Calls _ _ _ _ (Rets w (.tuple #[.int .i64 0, .int .i64 0]))
          have hS := BL.start w
          go_enter Tryz.func22, Tryz.ntmps22
          go_wp2_with fail
          refine Calls.mono (F0.out _ (HH.out.below hS.below)) ?_
          rintro e w1 ⟨rfl, hb⟩
          replace hS := hS.call hb
          clear hb
          replace hS := hS.add' #[.string an, .string ad] 27
          obtain ⟨W0, hW0, hS, hz0⟩ := hS
          replace hS := hS.add' #[.string bn, .string bd] 27
          obtain ⟨W1, hW1, hS, hz1⟩ := hS
          rw [hz0] at hS
          obtain ⟨W, hW⟩ : ∃ W, W = ((w1.alloc (.cells #[.string an, .string ad] 27)).alloc (.cells #[.string bn, .string bd] 27)) := ⟨_, rfl⟩
          replace hS : BL w [(w1.heap.size + 1, #[.string bn, .string bd], 27), (w1.heap.size, #[.string an, .string ad], 27)] W := by rw [hW, ← hW0, ← hW1]; exact hS
          clear hz0 hz1 hW1 hW0
          go_wp2_with fail
          rw [← hW]
          clear hW
          refine Calls.mono (IN.out _) ?_
          rintro e w2 ⟨rfl, hb⟩
          replace hS := hS.call hb
          clear hb
          go_upto_region 4 with fail
          have hC0 : ∀ W', BL w [(w1.heap.size + 1, #[.string bn, .string bd], 27), (w1.heap.size, #[.string an, .string ad], 27)] W' → (W'.cell? ⟨w1.heap.size, 0, none⟩ = some (.string an) ∧ W'.cell? ⟨w1.heap.size, 1, none⟩ = some (.string ad)) := fun W' h => ⟨(h.cell (w1.heap.size) _ _ (.tail _ (.head _)) 0), (h.cell (w1.heap.size) _ _ (.tail _ (.head _)) 1)⟩
          have hC := Lib.hid hC0
          clear hC0
          obtain ⟨x0', x1'⟩ := hC.out _ hS
          replace hS := hS.drew
          go_region_held3 (fun w' => w'.cell? ⟨w1.heap.size, 0, none⟩ = some (.string an) ∧ w'.cell? ⟨w1.heap.size, 1, none⟩ = some (.string ad))
            (first | with_reducible exact hC.out _ hS | go_keep)
            (first | (go_at_call 48; (with_reducible refine Calls.mono (OF.out _) ?_); rintro e w' ⟨rfl, hb⟩; replace hS := hS.call hb; clear hb) | (go_at_call 47; (with_reducible refine Calls.mono (CA.out _) ?_); rintro e w' ⟨rfl, hb⟩; replace hS := hS.call hb; clear hb))
          clear hC x0' x1'
          go_upto_region 6 with fail
          have hC0 : ∀ W', BL w [(w1.heap.size + 1, #[.string bn, .string bd], 27), (w1.heap.size, #[.string an, .string ad], 27)] W' → (W'.cell? ⟨w1.heap.size + 1, 0, none⟩ = some (.string bn) ∧ W'.cell? ⟨w1.heap.size + 1, 1, none⟩ = some (.string bd)) := fun W' h => ⟨(h.cell (w1.heap.size + 1) _ _ (.head _) 0), (h.cell (w1.heap.size + 1) _ _ (.head _) 1)⟩
          have hC := Lib.hid hC0
          clear hC0
          obtain ⟨x0', x1'⟩ := hC.out _ hS
          replace hS := hS.drew
          go_region_held3 (fun w' => w'.cell? ⟨w1.heap.size + 1, 0, none⟩ = some (.string bn) ∧ w'.cell? ⟨w1.heap.size + 1, 1, none⟩ = some (.string bd))
            (first | with_reducible exact hC.out _ hS | go_keep)
            (first | (go_at_call 48; (with_reducible refine Calls.mono (OF.out _) ?_); rintro e w' ⟨rfl, hb⟩; replace hS := hS.call hb; clear hb) | (go_at_call 47; (with_reducible refine Calls.mono (CB.out _) ?_); rintro e w' ⟨rfl, hb⟩; replace hS := hS.call hb; clear hb))
          clear hC x0' x1'
          go_wp2
          refine bodyPost_ret (resT2 rfl _ _ _) rfl ?_
          exact ⟨rfl, hS.below⟩

end Go.Proofs.YtebokdboodgkpaaGreatDoor
