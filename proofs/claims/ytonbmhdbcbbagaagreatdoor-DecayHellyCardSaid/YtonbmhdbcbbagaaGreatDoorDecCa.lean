/- putloglaw26: weighted; plain facts for DecayConvex. -/
import Derived.Test.YtonbmhdbcbbagaaGreatDoorDecZ
namespace Go.Proofs.YtonbmhdbcbbagaaGreatDoor
open Go.RowKit
open DecM (Dt fcst rts okD inDay refD)
attribute [local go_sem] Oper.semAt_some

theorem convex_law {l : List Dt} (hok : okD l = true) {d md ls : Int} (h0 : 0 ≤ d) (h1 : d < md) (h2 : md < ls) (h3 : ls ≤ 800000) :
    (fcst l d = none ∧ fcst l md = none ∧ fcst l ls = none ∧ ((refO l).isSome = true ∨ (l.length : Int) < 2)) ∨
    ∃ a b c e p q, fcst l d = some (a, b) ∧ fcst l md = some (c, e) ∧ fcst l ls = some (p, q) ∧
      a * DecM.ratio (ls - md) (ls - md + (md - d)) + p * DecM.ratio (md - d) (ls - md + (md - d)) ≤ c ∧ e ≤ b * DecM.ratio (ls - md) (ls - md + (md - d)) + q * DecM.ratio (md - d) (ls - md + (md - d)) := by
  have t1 : inDay d = true := DecM.inDay_iff.2 (by omega)
  have t2 : inDay md = true := DecM.inDay_iff.2 (by omega)
  have t3 : inDay ls = true := DecM.inDay_iff.2 (by omega)
  by_cases h : DecM.Two l ∧ DecM.Feas l
  · right
    obtain ⟨a, b, f1, la, mb⟩ := DecM.fcst_ex hok t1 h.1 h.2
    obtain ⟨c, e, f2, lc, me⟩ := DecM.fcst_ex hok t2 h.1 h.2
    obtain ⟨p, q, f3, lp, mq⟩ := DecM.fcst_ex hok t3 h.1 h.2
    refine ⟨a, b, c, e, p, q, f1, f2, f3, ?_, ?_⟩
    · refine DecM.wgt_le (m := ls - md) (n := md - d) (by omega) (by omega) ?_
      have := DecM.least_convex h1 h2 la lc lp
      rw [Rat.intCast_sub, Rat.intCast_sub]
      grind
    · refine DecM.le_wgt (m := ls - md) (n := md - d) (by omega) (by omega) ?_
      have := DecM.most_convex h1 h2 mb me mq
      rw [Rat.intCast_sub, Rat.intCast_sub]
      grind
  · left
    refine ⟨(DecM.fcst_none hok t1).2 h, (DecM.fcst_none hok t2).2 h, (DecM.fcst_none hok t3).2 h, ?_⟩
    by_cases h2 : 2 ≤ l.length
    · left
      unfold refO
      rw [if_pos hok]
      cases hr : (refD l).isSome with
      | true => rfl
      | false => exact absurd ⟨(DecM.two_iff (DecM.okD_good hok)).2 h2, (DecM.refD_isSome (DecM.okD_good hok)).1 hr⟩ h
    · right; omega
theorem add_c {k : Nat} {x y : Rat} (hx : BQ k x) (hy : BQ k y) (hk : k + k + 1 ≤ 200) (W : World) (hE : Env W) :
    Calls Tryz.prog 39 #[.agg #[.string (numS x), .string (denS x)], .agg #[.string (numS y), .string (denS y)]] W (Rets W (.tuple #[.agg #[.string (numS (x + y)), .string (denS (x + y))], .int .i64 0])) := by
  have := qadd_o (hx.ok (by omega)) (hy.ok (by omega)) W hE
  rw [hx.oadd hy hk] at this
  exact this
theorem ofr_c (n d : Int) (hn : Fits n) (hd : Fits d) (h0 : d ≠ 0) (W : World) : Calls Tryz.prog 30 #[.int .i64 n, .int .i64 d] W (Rets W (.agg #[.string (numS (DecM.ratio n d)), .string (denS (DecM.ratio n d))])) := by
  have := of_any n d hn hd W
  rw [oOf_ratio h0] at this
  exact this
theorem bq_wgt {a b : Rat} {m n : Int} (ha : BQ 13 a) (hb : BQ 13 b) (hm : 0 < m ∧ m ≤ 100000) (hn : 0 < n ∧ n ≤ 100000) : BQ 53 (a * DecM.ratio m (m + n) + b * DecM.ratio n (m + n)) :=
  (ha.mul (bq_ratio (n := m) (d := m + n) (by omega) (by omega) (by omega))).add (hb.mul (bq_ratio (n := n) (d := m + n) (by omega) (by omega) (by omega)))

set_option maxRecDepth 100000 in
set_option maxHeartbeats 16000000 in
theorem weighted_any {a b : Rat} {m n : Int} (ha : BQ 13 a) (hb : BQ 13 b) (hm : 0 < m ∧ m ≤ 100000) (hn : 0 < n ∧ n ≤ 100000) (w : World) (hE : Env w) :
    Calls Tryz.prog 36 #[.agg #[.string (numS a), .string (denS a)], .int .i64 m, .agg #[.string (numS b), .string (denS b)], .int .i64 n] w
      (Rets w (.agg #[.string (numS (a * DecM.ratio m (m + n) + b * DecM.ratio n (m + n))), .string (denS (a * DecM.ratio m (m + n) + b * DecM.ratio n (m + n)))])) := by
  have bm := bq_ratio (n := m) (d := m + n) (by omega) (by omega) (by omega)
  have bn := bq_ratio (n := n) (d := m + n) (by omega) (by omega) (by omega)
  have O1 := fun W => ofr_c m (m + n) (by unfold Fits; omega) (by unfold Fits; omega) (by omega) W
  have O2 := fun W => ofr_c n (m + n) (by unfold Fits; omega) (by unfold Fits; omega) (by omega) W
  have M1 := fun W (hE : Env W) => mul_c ha bm (by decide) W hE
  have M2 := fun W (hE : Env W) => mul_c hb bn (by decide) W hE
  have A1 := fun W (hE : Env W) => add_c (ha.mul bm) (hb.mul bn) (by decide) W hE
  obtain ⟨s, hs⟩ : ∃ s, s = m + n := ⟨_, rfl⟩; have w1 : IntKind.i64.wrap (m + n) = s := by rw [hs]; exact IntWalk.i64_in _ (by omega)
  clear ha hb bm bn hm hn
  generalize DecM.ratio m (m + n) = x at *
  generalize DecM.ratio n (m + n) = y at *
  rw [← hs] at O1 O2
  clear hs
  generalize numS (a * x + b * y) = zn at *
  generalize denS (a * x + b * y) = zd at *
  generalize numS (a * x) = un at *
  generalize denS (a * x) = ud at *
  generalize numS (b * y) = vn at *
  generalize denS (b * y) = vd at *
  generalize numS a = an at *
  generalize denS a = ad at *
  generalize numS b = bn at *
  generalize denS b = bd at *
  generalize numS x = xn at *
  generalize denS x = xd at *
  generalize numS y = yn at *
  generalize denS y = yd at *
  replace O1 := Lib.hid O1
  replace O2 := Lib.hid O2
  replace M1 := Lib.hid M1
  replace M2 := Lib.hid M2
  replace A1 := Lib.hid A1
  have Sv0 := BL.start w
  obtain ⟨V1, ev1, Sv1, zv1⟩ := Sv0.add' #[.string an, .string ad] 27
  obtain ⟨V2, ev2, Sv2, zv2⟩ := Sv1.add' #[.string bn, .string bd] 27
  obtain ⟨V3, ev3, Sv3, zv3⟩ := Sv2.add' #[.string ⟨#[]⟩, .string ⟨#[]⟩] 27
  rw [zv1] at Sv2
  rw [zv2, zv1] at Sv3
  have hV : V3 = (((w.alloc (.cells #[.string an, .string ad] 27)).alloc (.cells #[.string bn, .string bd] 27)).alloc (.cells #[.string ⟨#[]⟩, .string ⟨#[]⟩] 27)) := by rw [ev3, ev2, ev1]
  have hS : BL w [(w.heap.size + 1 + 1, #[.string ⟨#[]⟩, .string ⟨#[]⟩], 27), (w.heap.size + 1, #[.string bn, .string bd], 27), (w.heap.size, #[.string an, .string ad], 27)] V3 := Sv3
  clear ev1 ev2 ev3 zv1 zv2 zv3 Sv0 Sv1 Sv2 Sv3
  go_enter Tryz.func36, Tryz.ntmps36
  go_upto_region 1 with fail
  rw [← hV]
  clear hV
  have hC0 : ∀ W', BL w [(w.heap.size + 1 + 1, #[.string ⟨#[]⟩, .string ⟨#[]⟩], 27), (w.heap.size + 1, #[.string bn, .string bd], 27), (w.heap.size, #[.string an, .string ad], 27)] W' → (W'.cell? ⟨w.heap.size, 0, none⟩ = some (.string an) ∧ W'.cell? ⟨w.heap.size, 1, none⟩ = some (.string ad)) := fun W' h => ⟨(h.cell (w.heap.size) _ _ (.tail _ (.tail _ (.head _))) 0), (h.cell (w.heap.size) _ _ (.tail _ (.tail _ (.head _))) 1)⟩
  have hC := Lib.hid hC0
  clear hC0
  have h0 := hS
  obtain ⟨x0', x1'⟩ := hC.out _ hS
  replace hS := hS.drew
  go_cut [9, 10] (fun s e wx => ∃ g : Nat, s = .pointer (some ⟨g, 0, none⟩) ∧ e = .int .i64 0 ∧ w.heap.size ≤ g ∧ (∀ p ∈ ([(w.heap.size + 1 + 1, #[.string ⟨#[]⟩, .string ⟨#[]⟩], 27), (w.heap.size + 1, #[.string bn, .string bd], 27), (w.heap.size, #[.string an, .string ad], 27)] : BLs), p.1 < g) ∧ BL w ((g, #[.string un, .string ud], 27) :: [(w.heap.size + 1 + 1, #[.string ⟨#[]⟩, .string ⟨#[]⟩], 27), (w.heap.size + 1, #[.string bn, .string bd], 27), (w.heap.size, #[.string an, .string ad], 27)]) wx)
  case first => as_aux_lemma =>
    go_region_held3 (fun w' => w'.cell? ⟨w.heap.size, 0, none⟩ = some (.string an) ∧ w'.cell? ⟨w.heap.size, 1, none⟩ = some (.string ad))
      (first | with_reducible exact hC.out _ hS | with_reducible exact hC.out _ (hS.new _) | with_reducible exact hC.out _ ((h0.new _).drew) | with_reducible exact hC.out _ (hS.setG hge hlt _ _) | go_keep)
      (first | (go_at_call 30; (with_reducible refine Calls.mono (O1.out _) ?_); rintro e w' ⟨rfl, hb⟩; (first | (replace hS := hS.call hb; first | (replace hN := hN.below hb; have n0 := (blk_two hN).1; have n1 := (blk_two hN).2; have m0 := hN.frozen 0; have m1 := hN.frozen 1) | skip) | (have hlt := hS.lts; have hge := hS.below.size; have hN := nres hb; have n0 := (blk_two hN).1; have n1 := (blk_two hN).2; have m0 := hN.frozen 0; have m1 := hN.frozen 1; replace hS := (hS.new _).call hb) | (have hlt := h0.lts; have hge := h0.below.size; have hN := nres_drew hb; have n0 := (blk_two hN).1; have n1 := (blk_two hN).2; have m0 := hN.frozen 0; have m1 := hN.frozen 1; replace hS := ((h0.new _).drew).call hb)); clear hb) | (go_at_call 41; (with_reducible refine Calls.mono (M1.out _ ?_) ?_); (first | exact hS.env hE | exact (hS.new _).env hE | exact ((h0.new _).drew).env hE); rintro e w' ⟨rfl, hb⟩; (first | (replace hS := hS.call hb; first | (replace hN := hN.below hb; have n0 := (blk_two hN).1; have n1 := (blk_two hN).2; have m0 := hN.frozen 0; have m1 := hN.frozen 1) | skip) | (have hlt := hS.lts; have hge := hS.below.size; have hN := nres hb; have n0 := (blk_two hN).1; have n1 := (blk_two hN).2; have m0 := hN.frozen 0; have m1 := hN.frozen 1; replace hS := (hS.new _).call hb) | (have hlt := h0.lts; have hge := h0.below.size; have hN := nres_drew hb; have n0 := (blk_two hN).1; have n1 := (blk_two hN).2; have m0 := hN.frozen 0; have m1 := hN.frozen 1; replace hS := ((h0.new _).drew).call hb)); clear hb))
    all_goals (go_wp2_with fail; go_meet; first | exact ⟨_, rfl, rfl, hS.below.size, hS.lts, hS.add _ _⟩ | exact ⟨_, rfl, rfl, hge, hlt, (hS.setG hge hlt _ _).pushB ((hN.set 0 (.string un)).set 1 (.string ud))⟩)
  case rest =>
    clear hS h0 hC x0' x1'
    obtain ⟨g1, rfl, rfl, g1ge, g1lt, hS⟩ := hcut
    go_upto_region 2 with fail
    have hC0 : ∀ W', BL w [(g1, #[.string un, .string ud], 27), (w.heap.size + 1 + 1, #[.string ⟨#[]⟩, .string ⟨#[]⟩], 27), (w.heap.size + 1, #[.string bn, .string bd], 27), (w.heap.size, #[.string an, .string ad], 27)] W' → (W'.cell? ⟨w.heap.size + 1, 0, none⟩ = some (.string bn) ∧ W'.cell? ⟨w.heap.size + 1, 1, none⟩ = some (.string bd)) := fun W' h => ⟨(h.cell (w.heap.size + 1) _ _ (.tail _ (.tail _ (.head _))) 0), (h.cell (w.heap.size + 1) _ _ (.tail _ (.tail _ (.head _))) 1)⟩
    have hC := Lib.hid hC0
    clear hC0
    have h0 := hS
    obtain ⟨x0', x1'⟩ := hC.out _ hS
    replace hS := hS.drew
    go_cut [11, 12] (fun s e wx => ∃ g : Nat, s = .pointer (some ⟨g, 0, none⟩) ∧ e = .int .i64 0 ∧ w.heap.size ≤ g ∧ (∀ p ∈ ([(g1, #[.string un, .string ud], 27), (w.heap.size + 1 + 1, #[.string ⟨#[]⟩, .string ⟨#[]⟩], 27), (w.heap.size + 1, #[.string bn, .string bd], 27), (w.heap.size, #[.string an, .string ad], 27)] : BLs), p.1 < g) ∧ BL w ((g, #[.string vn, .string vd], 27) :: [(g1, #[.string un, .string ud], 27), (w.heap.size + 1 + 1, #[.string ⟨#[]⟩, .string ⟨#[]⟩], 27), (w.heap.size + 1, #[.string bn, .string bd], 27), (w.heap.size, #[.string an, .string ad], 27)]) wx)
    case first => as_aux_lemma =>
      go_region_held3 (fun w' => w'.cell? ⟨w.heap.size + 1, 0, none⟩ = some (.string bn) ∧ w'.cell? ⟨w.heap.size + 1, 1, none⟩ = some (.string bd))
        (first | with_reducible exact hC.out _ hS | with_reducible exact hC.out _ (hS.new _) | with_reducible exact hC.out _ ((h0.new _).drew) | with_reducible exact hC.out _ (hS.setG hge hlt _ _) | go_keep)
        (first | (go_at_call 30; (with_reducible refine Calls.mono (O2.out _) ?_); rintro e w' ⟨rfl, hb⟩; (first | (replace hS := hS.call hb; first | (replace hN := hN.below hb; have n0 := (blk_two hN).1; have n1 := (blk_two hN).2; have m0 := hN.frozen 0; have m1 := hN.frozen 1) | skip) | (have hlt := hS.lts; have hge := hS.below.size; have hN := nres hb; have n0 := (blk_two hN).1; have n1 := (blk_two hN).2; have m0 := hN.frozen 0; have m1 := hN.frozen 1; replace hS := (hS.new _).call hb) | (have hlt := h0.lts; have hge := h0.below.size; have hN := nres_drew hb; have n0 := (blk_two hN).1; have n1 := (blk_two hN).2; have m0 := hN.frozen 0; have m1 := hN.frozen 1; replace hS := ((h0.new _).drew).call hb)); clear hb) | (go_at_call 41; (with_reducible refine Calls.mono (M2.out _ ?_) ?_); (first | exact hS.env hE | exact (hS.new _).env hE | exact ((h0.new _).drew).env hE); rintro e w' ⟨rfl, hb⟩; (first | (replace hS := hS.call hb; first | (replace hN := hN.below hb; have n0 := (blk_two hN).1; have n1 := (blk_two hN).2; have m0 := hN.frozen 0; have m1 := hN.frozen 1) | skip) | (have hlt := hS.lts; have hge := hS.below.size; have hN := nres hb; have n0 := (blk_two hN).1; have n1 := (blk_two hN).2; have m0 := hN.frozen 0; have m1 := hN.frozen 1; replace hS := (hS.new _).call hb) | (have hlt := h0.lts; have hge := h0.below.size; have hN := nres_drew hb; have n0 := (blk_two hN).1; have n1 := (blk_two hN).2; have m0 := hN.frozen 0; have m1 := hN.frozen 1; replace hS := ((h0.new _).drew).call hb)); clear hb))
      all_goals (go_wp2_with fail; go_meet; first | exact ⟨_, rfl, rfl, hS.below.size, hS.lts, hS.add _ _⟩ | exact ⟨_, rfl, rfl, hge, hlt, (hS.setG hge hlt _ _).pushB ((hN.set 0 (.string vn)).set 1 (.string vd))⟩)
    case rest =>
      clear hS h0 hC x0' x1'
      obtain ⟨g2, rfl, rfl, g2ge, g2lt, hS⟩ := hcut
      obtain ⟨c_u_0, c_u_1⟩ := hS.c2 (g1) _ _ _ (.tail _ (.head _))
      obtain ⟨c_v_0, c_v_1⟩ := hS.c2 (g2) _ _ _ (.head _)
      go_wp2_with fail
      refine Calls.mono (A1.out _ (hS.env hE)) ?_
      rintro e w1 ⟨rfl, hb⟩
      clear c_u_0 c_u_1 c_v_0 c_v_1
      replace hS := hS.call hb
      clear hb
      replace hS := hS.add' #[.string zn, .string zd] 27
      obtain ⟨W0, hW0, hS, hz0⟩ := hS
      obtain ⟨W, hW⟩ : ∃ W, W = (w1.alloc (.cells #[.string zn, .string zd] 27)) := ⟨_, rfl⟩
      replace hS : BL w [(w1.heap.size, #[.string zn, .string zd], 27), (g2, #[.string vn, .string vd], 27), (g1, #[.string un, .string ud], 27), (w.heap.size + 1 + 1, #[.string ⟨#[]⟩, .string ⟨#[]⟩], 27), (w.heap.size + 1, #[.string bn, .string bd], 27), (w.heap.size, #[.string an, .string ad], 27)] W := by rw [hW, ← hW0]; exact hS
      clear hz0 hW0
      go_upto_region 4 with fail
      rw [← hW]
      clear hW
      obtain ⟨c_z_0, c_z_1⟩ := hS.c2 (w1.heap.size) _ _ _ (.head _)
      obtain ⟨k0, k1, q0, q1, y0, y1, hfin⟩ := res_after (hS.blks _ (.tail _ (.tail _ (.tail _ (.head _))))) zn zd
      have hfin := Lib.hid (hfin w hS.below (by omega))
      clear hS
      go_wp2
      exact bodyPost_ret (v := .agg #[.string zn, .string zd]) (by simp [results, Tryz.results36, go_sem, y0, y1]) rfl ⟨rfl, hfin.out⟩

end Go.Proofs.YtonbmhdbcbbagaaGreatDoor
