/- putloglaw26: DecayMoves, plain law and walk. -/
import Derived.Test.YtonbmhdbcbbagaaGreatDoorDecCa
import Derived.Test.YtonbmhdbcbbagaaGreatDoorDecMa
namespace Go.Proofs.YtonbmhdbcbbagaaGreatDoor
open Go.RowKit
open DecM (Dt fcst rts okD mv ng gd gd_lt gd_mem)
attribute [local go_sem] Oper.semAt_some

theorem moves_law {l : List Dt} (hok : okD l = true) (hbd : ∀ p ∈ l, 0 < p.t ∧ p.t ≤ 3600 ∧ -40000 ≤ p.lo ∧ p.lo ≤ p.hi ∧ p.hi ≤ 40000) {a b s : Int} (ha : -10000 ≤ a ∧ a ≤ 10000) (hb : -50 ≤ b ∧ b ≤ 50) :
    okD (l.map (mv a b)) = true ∧ ((fcst l s = none ∧ fcst (l.map (mv a b)) s = none ∧ fcst (l.map ng) s = none) ∨
      ∃ u v, fcst l s = some (u, v) ∧ fcst (l.map (mv a b)) s = some (u + ((a + b * s : Int) : Rat), v + ((a + b * s : Int) : Rat)) ∧ fcst (l.map ng) s = some (((0 : Int) : Rat) - v, ((0 : Int) : Rat) - u)) := by
  have hm : okD (l.map (mv a b)) = true := DecM.okD_map hok fun p hp => by
    have := hbd p hp
    have h2 := mul_bd (a := b) (b := p.t) 50 3600 (by omega) (by omega)
    unfold DecM.mv
    exact ⟨rfl, by dsimp only; omega, by dsimp only; omega, by dsimp only; omega⟩
  refine ⟨hm, ?_⟩
  rw [DecM.fcst_mv hok hm, DecM.fcst_ng hok]
  cases fcst l s with
  | none => exact .inl ⟨rfl, rfl, rfl⟩
  | some x =>
    obtain ⟨u, v⟩ := x
    refine .inr ⟨u, v, rfl, rfl, ?_⟩
    have e : ∀ z : Rat, -z = ((0 : Int) : Rat) - z := fun z => by rw [Rat.intCast_zero]; grind
    show some (-v, -u) = _
    rw [e u, e v]

set_option maxRecDepth 100000 in
set_option maxHeartbeats 16000000 in
theorem moves_row (x : Nm) (first slope t : Int) (w : World) (h : NmOk w x) (hf : Fits first) (hs : Fits slope) (ht : Fits t) (hEQ : EnvQ w) :
    Calls Tryz.prog 6 #[.agg #[.int .i64 x.f, .int .i64 x.s, x.v, .int .i64 x.m], .int .i64 first, .int .i64 slope, .int .i64 t] w (Rets w (.bool true)) := by
  have hE := hEQ.env
  have g0 := pkv_nonneg (c := first) (m := 20001) (by decide)
  have g1 := pkv_lt (c := first) (m := 20001) (by decide)
  have j0 := pkv_nonneg (c := slope) (m := 101) (by decide)
  have j1 := pkv_lt (c := slope) (m := 101) (by decide)
  have k0 := pkv_nonneg (c := t) (m := 5001) (by decide)
  have k1 := pkv_lt (c := t) (m := 5001) (by decide)
  have P1 := fun W => pickL_any_b first 20001 hf (by decide) (by decide) W
  have P2 := fun W => pickL_any_b slope 101 hs (by decide) (by decide) W
  have DY := fun W => day_any t ht W
  generalize pkv first 20001 = pa at *
  generalize pkv slope 101 = pb at *
  generalize pkv t 5001 = s at *
  obtain ⟨a, e1⟩ : ∃ z, z = pa - 10000 := ⟨_, rfl⟩
  have w1 : IntKind.i64.wrap (pa - 10000) = a := by rw [e1]; exact IntWalk.i64_in _ (by omega)
  obtain ⟨b, e2⟩ : ∃ z, z = pb - 50 := ⟨_, rfl⟩
  have w2 : IntKind.i64.wrap (pb - 50) = b := by rw [e2]; exact IntWalk.i64_in _ (by omega)
  have ha : -10000 ≤ a ∧ a ≤ 10000 := by omega
  have hb' : -50 ≤ b ∧ b ≤ 50 := by omega
  have bs := mul_bd (a := b) (b := s) 50 5000 (by omega) (by omega)
  obtain ⟨bt, e3⟩ : ∃ z, z = b * s := ⟨_, rfl⟩
  have w3 : IntKind.i64.wrap (b * s) = bt := by rw [e3]; exact IntWalk.i64_in _ (by omega)
  obtain ⟨c, e4⟩ : ∃ z, z = a + bt := ⟨_, rfl⟩
  have w4 : IntKind.i64.wrap (a + bt) = c := by rw [e4]; exact IntWalk.i64_in _ (by omega)
  have hcb : -9000000000 ≤ c ∧ c ≤ 9000000000 := by omega
  have hok := x.made_ok
  have hbd := x.made_bd
  obtain ⟨hmo, ML⟩ := moves_law (s := s) hok hbd ha hb'
  rw [← e3, ← e4] at ML
  have MD := fun W (h : NmOk W x) => made_any x W h
  have HN := Lib.hid h
  obtain ⟨ag, cap, hv⟩ := h.sl.shape
  generalize x.made = l at *
  have hl16 := (DecM.okD_iff.1 hok).2.2
  have FA := fun v W (hE : Env W) (h : SlD W v l) => forecast_any v l s W hE h
  have FB := fun v W (hE : Env W) (h : SlD W v (l.map (mv a b))) => forecast_any v (l.map (mv a b)) s W hE h
  have FC := fun v W (hE : Env W) (h : SlD W v (l.map ng)) => forecast_any v (l.map ng) s W hE h
  have NG := fun v W (h : SlD W v l) => negative_any v l W hok h
  have KO := fun W => of_c c (by unfold Fits; omega) W
  have ZO := fun W => of_c 0 (by decide) W
  have bc : BQ 13 (c : Rat) := BQ.int (by omega)
  have bz : BQ 13 ((0 : Int) : Rat) := BQ.int (by decide)
  clear h hf hs ht g0 g1 j0 j1 k0 k1 e1 e2 e3 e4 hEQ bs hcb hmo hok
  rw [hv] at MD ⊢
  generalize x.f = xf at *
  generalize x.s = xs at *
  generalize x.m = xm at *
  generalize x.ds.length = xl at *
  clear hv
  replace P1 := Lib.hid P1
  replace P2 := Lib.hid P2
  replace DY := Lib.hid DY
  replace MD := Lib.hid MD
  replace NG := Lib.hid NG
  replace hbd := Lib.hid hbd
  rcases ML with ⟨n1, n2, n3⟩ | ⟨u, v, f1, f2, f3⟩
  · rw [n1] at FA; rw [n2] at FB; rw [n3] at FC
    unfold fV at FA
    replace FA := Lib.hid FA
    unfold fV at FB
    replace FB := Lib.hid FB
    unfold fV at FC
    replace FC := Lib.hid FC
    clear n1 n2 n3 KO ZO bc bz w3 w4
    have ML : True := trivial
    have Sv0 := BL.start w
    obtain ⟨V1, ev1, Sv1, zv1⟩ := Sv0.add' #[.int .i64 xf, .int .i64 xs, .slice ag xl cap, .int .i64 xm] 24
    have hV : V1 = (w.alloc (.cells #[.int .i64 xf, .int .i64 xs, .slice ag xl cap, .int .i64 xm] 24)) := by rw [ev1]
    have hS : BL w [(w.heap.size, #[.int .i64 xf, .int .i64 xs, .slice ag xl cap, .int .i64 xm], 24)] V1 := Sv1
    clear ev1 zv1 Sv0 Sv1
    go_enter Tryz.func6, Tryz.ntmps6
    go_wp2_with fail
    rw [← hV]
    clear hV
    refine Calls.mono (sane_any _ (hS.env hE)) ?_
    rintro e w1 ⟨rfl, hb⟩
    replace hS := hS.call hb
    clear hb
    obtain ⟨c_x_0, c_x_1, c_x_2, c_x_3⟩ := hS.c4 (w.heap.size) _ _ _ _ _ (.head _)
    go_wp2_with fail
    refine Calls.mono (MD.out _ (HN.out.below hS.below)) ?_
    rintro e w2 ⟨v, rfl, hD, hb⟩
    clear c_x_0 c_x_1 c_x_2 c_x_3
    replace hS := hS.call hb
    clear hb
    obtain ⟨ag2, cap2, rfl⟩ := hD.shape
    go_wp2_with fail
    refine Calls.mono (P1.out _) ?_
    rintro e w3 ⟨rfl, hb⟩
    replace hS := hS.call hb
    replace hD := hD.below hb
    clear hb
    go_wp2_with fail
    refine Calls.mono (P2.out _) ?_
    rintro e w4 ⟨rfl, hb⟩
    replace hS := hS.call hb
    replace hD := hD.below hb
    clear hb
    go_wp2_with fail
    go_loopw [12, 13, 14] (fun o i y wr => ∃ k : Nat, i = .int .i64 k ∧ k ≤ l.length ∧ wr.ownsRow w4.heap.size 59 3 o k (dfl ((l.take k).map (mv a b))) ∧ Below w4.heap.size w4 wr) (fun _ i _ _ => l.length - (intOf i).toNat)
    case atStart => exact ⟨0, rfl, by omega, ⟨rfl, .inl ⟨rfl, rfl⟩⟩, Below.refl _ _⟩
    case round =>
      obtain ⟨k, rfl, hk, hown, hB⟩ := hrel
      by_cases hkl : k < l.length
      · rcases hD with ⟨-, e⟩ | ⟨b0, off, cap3, e, g1, g2, g3, g4⟩
        · rw [e] at hkl; exact absurd hkl (by simp)
        · cases e
          unfold maxLen at g2
          have hd := hbd.out _ (gd_mem hkl)
          have e1 := take_snoc hkl (mv a b)
          have hcells := (g4 k hkl).below hB g3
          have hdc0 := fun W (hb : Below w4.heap.size w4 W) => (g4 k hkl).below hb g3
          have e2 : mv a b (gd l k) = ⟨(gd l k).t, (gd l k).lo + (a + b * (gd l k).t), (gd l k).hi + (a + b * (gd l k).t)⟩ := rfl
          rw [e2] at e1
          clear e2 g4 ML
          generalize gd l k = d at *
          have m1 := mul_bd (a := b) (b := d.t) 50 3600 (by omega) (by omega)
          obtain ⟨z1, f1⟩ : ∃ z, z = b * d.t := ⟨_, rfl⟩
          have v1 : IntKind.i64.wrap (b * d.t) = z1 := by rw [f1]; exact IntWalk.i64_in _ (by omega)
          obtain ⟨z2, f2⟩ : ∃ z, z = a + z1 := ⟨_, rfl⟩
          have v2 : IntKind.i64.wrap (a + z1) = z2 := by rw [f2]; exact IntWalk.i64_in _ (by omega)
          obtain ⟨lo, f3⟩ : ∃ z, z = d.lo + z2 := ⟨_, rfl⟩
          have v3 : IntKind.i64.wrap (d.lo + z2) = lo := by rw [f3]; exact IntWalk.i64_in _ (by omega)
          obtain ⟨hi, f4⟩ : ∃ z, z = d.hi + z2 := ⟨_, rfl⟩
          have v4 : IntKind.i64.wrap (d.hi + z2) = hi := by rw [f4]; exact IntWalk.i64_in _ (by omega)
          rw [← f1, ← f2, ← f3, ← f4] at e1
          clear f1 f2 f3 f4 m1 hd
          obtain ⟨d0, d1, d2⟩ := hcells
          have hdc := Lib.hid (show ∀ W, Below w4.heap.size w4 W → (W.cell? ⟨b0, off + k * 3, none⟩ = some (.int .i64 d.t) ∧ W.cell? ⟨b0, off + k * 3 + 1, none⟩ = some (.int .i64 d.lo) ∧ W.cell? ⟨b0, off + k * 3 + 2, none⟩ = some (.int .i64 d.hi)) from hdc0)
          clear hdc0
          go_upto_region 11 with fail
          have hown2 := own_below hown (below_drewN wr 1)
          have hB2 : Below w4.heap.size w4 wr.drew := hB.trans ((below_drewN wr 1).mono hB.size)
          go_region_held3 (fun w' => w'.cell? ⟨b0, off + k * 3, none⟩ = some (.int .i64 d.t) ∧ w'.cell? ⟨b0, off + k * 3 + 1, none⟩ = some (.int .i64 d.lo) ∧ w'.cell? ⟨b0, off + k * 3 + 2, none⟩ = some (.int .i64 d.hi))
            (first | with_reducible exact hdc.out _ (hB2.trans hb1) | with_reducible exact hdc.out _ (hB.trans hb1) | go_keep)
            (first | (refine oper_app_dt ⟨d.t, lo, hi⟩ 25 Tryz.underlying25 _ _ rfl rfl rfl hown2 (by omega) hB2.size ?_; intro g' cap2 w1 hown1 hb1) | (refine oper_app_dt ⟨d.t, lo, hi⟩ 25 Tryz.underlying25 _ _ rfl rfl rfl hown (by omega) hB.size ?_; intro g' cap2 w1 hown1 hb1))
          go_wp2_with fail
          go_roundw
          case rel => exact ⟨k + 1, by go_num, by omega, by rw [← e1]; exact hown1, hB2.trans hb1⟩
          case measure => simp [intOf]; omega
      · have hke : k = l.length := by omega
        subst hke
        rw [List.take_length] at hown
        have hM := SlD.of_own hown
        replace hS := hS.call hB
        replace hD := hD.below hB
        clear hown hB hk hkl
        generalize u12 = mo at *
        go_wp2_with fail
        refine Calls.mono (DY.out _) ?_
        rintro e w5 ⟨rfl, hb⟩
        replace hS := hS.call hb
        replace hD := hD.below hb
        replace hM := hM.below hb
        clear hb
        go_wp2_with fail
        refine Calls.mono (FA.out _ _ (hS.env hE) hD) ?_
        rintro e w6 ⟨rfl, hb⟩
        replace hS := hS.call hb
        replace hD := hD.below hb
        replace hM := hM.below hb
        clear hb
        replace hS := hS.add' #[.string ⟨#[]⟩, .string ⟨#[]⟩] 27
        obtain ⟨W0, hW0, hS, hz0⟩ := hS
        replace hS := hS.add' #[.string ⟨#[]⟩, .string ⟨#[]⟩] 27
        obtain ⟨W1, hW1, hS, hz1⟩ := hS
        rw [hz0] at hS
        obtain ⟨W, hW⟩ : ∃ W, W = ((w6.alloc (.cells #[.string ⟨#[]⟩, .string ⟨#[]⟩] 27)).alloc (.cells #[.string ⟨#[]⟩, .string ⟨#[]⟩] 27)) := ⟨_, rfl⟩
        replace hS : BL w [(w6.heap.size + 1, #[.string ⟨#[]⟩, .string ⟨#[]⟩], 27), (w6.heap.size, #[.string ⟨#[]⟩, .string ⟨#[]⟩], 27), (w.heap.size, #[.int .i64 xf, .int .i64 xs, .slice ag xl cap, .int .i64 xm], 24)] W := by rw [hW, ← hW0, ← hW1]; exact hS
        replace hD : SlD W (.slice ag2 l.length cap2) l := by rw [hW]; exact (hD.new _).new _
        replace hM : SlD W mo (l.map (mv a b)) := by rw [hW]; exact (hM.new _).new _
        clear hz0 hz1 hW1 hW0
        go_wp2_with fail
        rw [← hW]
        clear hW
        refine Calls.mono (FB.out _ _ (hS.env hE) hM) ?_
        rintro e w7 ⟨rfl, hb⟩
        replace hS := hS.call hb
        replace hD := hD.below hb
        replace hM := hM.below hb
        clear hb
        replace hS := hS.add' #[.string ⟨#[]⟩, .string ⟨#[]⟩] 27
        obtain ⟨W0, hW0, hS, hz0⟩ := hS
        replace hS := hS.add' #[.string ⟨#[]⟩, .string ⟨#[]⟩] 27
        obtain ⟨W1, hW1, hS, hz1⟩ := hS
        rw [hz0] at hS
        obtain ⟨W, hW⟩ : ∃ W, W = ((w7.alloc (.cells #[.string ⟨#[]⟩, .string ⟨#[]⟩] 27)).alloc (.cells #[.string ⟨#[]⟩, .string ⟨#[]⟩] 27)) := ⟨_, rfl⟩
        replace hS : BL w [(w7.heap.size + 1, #[.string ⟨#[]⟩, .string ⟨#[]⟩], 27), (w7.heap.size, #[.string ⟨#[]⟩, .string ⟨#[]⟩], 27), (w6.heap.size + 1, #[.string ⟨#[]⟩, .string ⟨#[]⟩], 27), (w6.heap.size, #[.string ⟨#[]⟩, .string ⟨#[]⟩], 27), (w.heap.size, #[.int .i64 xf, .int .i64 xs, .slice ag xl cap, .int .i64 xm], 24)] W := by rw [hW, ← hW0, ← hW1]; exact hS
        replace hD : SlD W (.slice ag2 l.length cap2) l := by rw [hW]; exact (hD.new _).new _
        replace hM : SlD W mo (l.map (mv a b)) := by rw [hW]; exact (hM.new _).new _
        clear hz0 hz1 hW1 hW0
        go_wp2_with fail
        rw [← hW]
        clear hW
        refine Calls.mono (NG.out _ _ hD) ?_
        rintro e w8 ⟨nv, rfl, hM, hb⟩
        replace hS := hS.call hb
        replace hD := hD.below hb
        clear hb
        go_wp2_with fail
        refine Calls.mono (FC.out _ _ (hS.env hE) hM) ?_
        rintro e w9 ⟨rfl, hb⟩
        replace hS := hS.call hb
        clear hb
        replace hS := hS.add' #[.string ⟨#[]⟩, .string ⟨#[]⟩] 27
        obtain ⟨W0, hW0, hS, hz0⟩ := hS
        replace hS := hS.add' #[.string ⟨#[]⟩, .string ⟨#[]⟩] 27
        obtain ⟨W1, hW1, hS, hz1⟩ := hS
        rw [hz0] at hS
        obtain ⟨W, hW⟩ : ∃ W, W = ((w9.alloc (.cells #[.string ⟨#[]⟩, .string ⟨#[]⟩] 27)).alloc (.cells #[.string ⟨#[]⟩, .string ⟨#[]⟩] 27)) := ⟨_, rfl⟩
        replace hS : BL w [(w9.heap.size + 1, #[.string ⟨#[]⟩, .string ⟨#[]⟩], 27), (w9.heap.size, #[.string ⟨#[]⟩, .string ⟨#[]⟩], 27), (w7.heap.size + 1, #[.string ⟨#[]⟩, .string ⟨#[]⟩], 27), (w7.heap.size, #[.string ⟨#[]⟩, .string ⟨#[]⟩], 27), (w6.heap.size + 1, #[.string ⟨#[]⟩, .string ⟨#[]⟩], 27), (w6.heap.size, #[.string ⟨#[]⟩, .string ⟨#[]⟩], 27), (w.heap.size, #[.int .i64 xf, .int .i64 xs, .slice ag xl cap, .int .i64 xm], 24)] W := by rw [hW, ← hW0, ← hW1]; exact hS
        clear hz0 hz1 hW1 hW0
        go_wp2
        rw [← hW]
        clear hW
        go_ret
        exact ⟨rfl, hS.below⟩
  · rw [f1] at FA; rw [f2] at FB; rw [f3] at FC
    unfold fV at FA
    unfold fV at FB
    unfold fV at FC
    obtain ⟨bu, bv⟩ := fcst_bq f1
    have A1 := fun W (hE : Env W) => add_c bu bc (by decide) W hE
    have A2 := fun W (hE : Env W) => add_c bv bc (by decide) W hE
    have S1 := fun W (hE : Env W) => sub_c bz bu (by decide) W hE
    have S2 := fun W (hE : Env W) => sub_c bz bv (by decide) W hE
    have ML : True := trivial
    clear f1 f2 f3 bu bv bc bz
    dsimp only at FA FB FC
    generalize numS (u + (c : Rat)) = pn at *
    generalize denS (u + (c : Rat)) = pd at *
    generalize numS (v + (c : Rat)) = qn at *
    generalize denS (v + (c : Rat)) = qd at *
    generalize numS (((0 : Int) : Rat) - v) = xn at *
    generalize denS (((0 : Int) : Rat) - v) = xd at *
    generalize numS (((0 : Int) : Rat) - u) = yn at *
    generalize denS (((0 : Int) : Rat) - u) = yd at *
    generalize numS ((0 : Int) : Rat) = zn at *
    generalize denS ((0 : Int) : Rat) = zd at *
    generalize numS (c : Rat) = kn at *
    generalize denS (c : Rat) = kd at *
    generalize numS u = un at *
    generalize denS u = ud at *
    generalize numS v = vn at *
    generalize denS v = vd at *
    replace FA := Lib.hid FA
    replace FB := Lib.hid FB
    replace FC := Lib.hid FC
    replace KO := Lib.hid KO
    replace ZO := Lib.hid ZO
    replace A1 := Lib.hid A1
    replace A2 := Lib.hid A2
    replace S1 := Lib.hid S1
    replace S2 := Lib.hid S2
    have Sv0 := BL.start w
    obtain ⟨V1, ev1, Sv1, zv1⟩ := Sv0.add' #[.int .i64 xf, .int .i64 xs, .slice ag xl cap, .int .i64 xm] 24
    have hV : V1 = (w.alloc (.cells #[.int .i64 xf, .int .i64 xs, .slice ag xl cap, .int .i64 xm] 24)) := by rw [ev1]
    have hS : BL w [(w.heap.size, #[.int .i64 xf, .int .i64 xs, .slice ag xl cap, .int .i64 xm], 24)] V1 := Sv1
    clear ev1 zv1 Sv0 Sv1
    go_enter Tryz.func6, Tryz.ntmps6
    go_wp2_with fail
    rw [← hV]
    clear hV
    refine Calls.mono (sane_any _ (hS.env hE)) ?_
    rintro e w1 ⟨rfl, hb⟩
    replace hS := hS.call hb
    clear hb
    obtain ⟨c_x_0, c_x_1, c_x_2, c_x_3⟩ := hS.c4 (w.heap.size) _ _ _ _ _ (.head _)
    go_wp2_with fail
    refine Calls.mono (MD.out _ (HN.out.below hS.below)) ?_
    rintro e w2 ⟨v, rfl, hD, hb⟩
    clear c_x_0 c_x_1 c_x_2 c_x_3
    replace hS := hS.call hb
    clear hb
    obtain ⟨ag2, cap2, rfl⟩ := hD.shape
    go_wp2_with fail
    refine Calls.mono (P1.out _) ?_
    rintro e w3 ⟨rfl, hb⟩
    replace hS := hS.call hb
    replace hD := hD.below hb
    clear hb
    go_wp2_with fail
    refine Calls.mono (P2.out _) ?_
    rintro e w4 ⟨rfl, hb⟩
    replace hS := hS.call hb
    replace hD := hD.below hb
    clear hb
    go_wp2_with fail
    go_loopw [12, 13, 14] (fun o i y wr => ∃ k : Nat, i = .int .i64 k ∧ k ≤ l.length ∧ wr.ownsRow w4.heap.size 59 3 o k (dfl ((l.take k).map (mv a b))) ∧ Below w4.heap.size w4 wr) (fun _ i _ _ => l.length - (intOf i).toNat)
    case atStart => exact ⟨0, rfl, by omega, ⟨rfl, .inl ⟨rfl, rfl⟩⟩, Below.refl _ _⟩
    case round =>
      obtain ⟨k, rfl, hk, hown, hB⟩ := hrel
      by_cases hkl : k < l.length
      · rcases hD with ⟨-, e⟩ | ⟨b0, off, cap3, e, g1, g2, g3, g4⟩
        · rw [e] at hkl; exact absurd hkl (by simp)
        · cases e
          unfold maxLen at g2
          have hd := hbd.out _ (gd_mem hkl)
          have e1 := take_snoc hkl (mv a b)
          have hcells := (g4 k hkl).below hB g3
          have hdc0 := fun W (hb : Below w4.heap.size w4 W) => (g4 k hkl).below hb g3
          have e2 : mv a b (gd l k) = ⟨(gd l k).t, (gd l k).lo + (a + b * (gd l k).t), (gd l k).hi + (a + b * (gd l k).t)⟩ := rfl
          rw [e2] at e1
          clear e2 g4 ML
          generalize gd l k = d at *
          have m1 := mul_bd (a := b) (b := d.t) 50 3600 (by omega) (by omega)
          obtain ⟨z1, f1⟩ : ∃ z, z = b * d.t := ⟨_, rfl⟩
          have v1 : IntKind.i64.wrap (b * d.t) = z1 := by rw [f1]; exact IntWalk.i64_in _ (by omega)
          obtain ⟨z2, f2⟩ : ∃ z, z = a + z1 := ⟨_, rfl⟩
          have v2 : IntKind.i64.wrap (a + z1) = z2 := by rw [f2]; exact IntWalk.i64_in _ (by omega)
          obtain ⟨lo, f3⟩ : ∃ z, z = d.lo + z2 := ⟨_, rfl⟩
          have v3 : IntKind.i64.wrap (d.lo + z2) = lo := by rw [f3]; exact IntWalk.i64_in _ (by omega)
          obtain ⟨hi, f4⟩ : ∃ z, z = d.hi + z2 := ⟨_, rfl⟩
          have v4 : IntKind.i64.wrap (d.hi + z2) = hi := by rw [f4]; exact IntWalk.i64_in _ (by omega)
          rw [← f1, ← f2, ← f3, ← f4] at e1
          clear f1 f2 f3 f4 m1 hd
          obtain ⟨d0, d1, d2⟩ := hcells
          have hdc := Lib.hid (show ∀ W, Below w4.heap.size w4 W → (W.cell? ⟨b0, off + k * 3, none⟩ = some (.int .i64 d.t) ∧ W.cell? ⟨b0, off + k * 3 + 1, none⟩ = some (.int .i64 d.lo) ∧ W.cell? ⟨b0, off + k * 3 + 2, none⟩ = some (.int .i64 d.hi)) from hdc0)
          clear hdc0
          go_upto_region 11 with fail
          have hown2 := own_below hown (below_drewN wr 1)
          have hB2 : Below w4.heap.size w4 wr.drew := hB.trans ((below_drewN wr 1).mono hB.size)
          go_region_held3 (fun w' => w'.cell? ⟨b0, off + k * 3, none⟩ = some (.int .i64 d.t) ∧ w'.cell? ⟨b0, off + k * 3 + 1, none⟩ = some (.int .i64 d.lo) ∧ w'.cell? ⟨b0, off + k * 3 + 2, none⟩ = some (.int .i64 d.hi))
            (first | with_reducible exact hdc.out _ (hB2.trans hb1) | with_reducible exact hdc.out _ (hB.trans hb1) | go_keep)
            (first | (refine oper_app_dt ⟨d.t, lo, hi⟩ 25 Tryz.underlying25 _ _ rfl rfl rfl hown2 (by omega) hB2.size ?_; intro g' cap2 w1 hown1 hb1) | (refine oper_app_dt ⟨d.t, lo, hi⟩ 25 Tryz.underlying25 _ _ rfl rfl rfl hown (by omega) hB.size ?_; intro g' cap2 w1 hown1 hb1))
          go_wp2_with fail
          go_roundw
          case rel => exact ⟨k + 1, by go_num, by omega, by rw [← e1]; exact hown1, hB2.trans hb1⟩
          case measure => simp [intOf]; omega
      · have hke : k = l.length := by omega
        subst hke
        rw [List.take_length] at hown
        have hM := SlD.of_own hown
        replace hS := hS.call hB
        replace hD := hD.below hB
        clear hown hB hk hkl
        generalize u12 = mo at *
        go_wp2_with fail
        refine Calls.mono (DY.out _) ?_
        rintro e w5 ⟨rfl, hb⟩
        replace hS := hS.call hb
        replace hD := hD.below hb
        replace hM := hM.below hb
        clear hb
        go_wp2_with fail
        refine Calls.mono (FA.out _ _ (hS.env hE) hD) ?_
        rintro e w6 ⟨rfl, hb⟩
        replace hS := hS.call hb
        replace hD := hD.below hb
        replace hM := hM.below hb
        clear hb
        replace hS := hS.add' #[.string un, .string ud] 27
        obtain ⟨W0, hW0, hS, hz0⟩ := hS
        replace hS := hS.add' #[.string vn, .string vd] 27
        obtain ⟨W1, hW1, hS, hz1⟩ := hS
        rw [hz0] at hS
        obtain ⟨W, hW⟩ : ∃ W, W = ((w6.alloc (.cells #[.string un, .string ud] 27)).alloc (.cells #[.string vn, .string vd] 27)) := ⟨_, rfl⟩
        replace hS : BL w [(w6.heap.size + 1, #[.string vn, .string vd], 27), (w6.heap.size, #[.string un, .string ud], 27), (w.heap.size, #[.int .i64 xf, .int .i64 xs, .slice ag xl cap, .int .i64 xm], 24)] W := by rw [hW, ← hW0, ← hW1]; exact hS
        replace hD : SlD W (.slice ag2 l.length cap2) l := by rw [hW]; exact (hD.new _).new _
        replace hM : SlD W mo (l.map (mv a b)) := by rw [hW]; exact (hM.new _).new _
        clear hz0 hz1 hW1 hW0
        go_wp2_with fail
        rw [← hW]
        clear hW
        refine Calls.mono (FB.out _ _ (hS.env hE) hM) ?_
        rintro e w7 ⟨rfl, hb⟩
        replace hS := hS.call hb
        replace hD := hD.below hb
        replace hM := hM.below hb
        clear hb
        replace hS := hS.add' #[.string pn, .string pd] 27
        obtain ⟨W0, hW0, hS, hz0⟩ := hS
        replace hS := hS.add' #[.string qn, .string qd] 27
        obtain ⟨W1, hW1, hS, hz1⟩ := hS
        rw [hz0] at hS
        obtain ⟨W, hW⟩ : ∃ W, W = ((w7.alloc (.cells #[.string pn, .string pd] 27)).alloc (.cells #[.string qn, .string qd] 27)) := ⟨_, rfl⟩
        replace hS : BL w [(w7.heap.size + 1, #[.string qn, .string qd], 27), (w7.heap.size, #[.string pn, .string pd], 27), (w6.heap.size + 1, #[.string vn, .string vd], 27), (w6.heap.size, #[.string un, .string ud], 27), (w.heap.size, #[.int .i64 xf, .int .i64 xs, .slice ag xl cap, .int .i64 xm], 24)] W := by rw [hW, ← hW0, ← hW1]; exact hS
        replace hD : SlD W (.slice ag2 l.length cap2) l := by rw [hW]; exact (hD.new _).new _
        replace hM : SlD W mo (l.map (mv a b)) := by rw [hW]; exact (hM.new _).new _
        clear hz0 hz1 hW1 hW0
        go_wp2_with fail
        rw [← hW]
        clear hW
        refine Calls.mono (NG.out _ _ hD) ?_
        rintro e w8 ⟨nv, rfl, hM, hb⟩
        replace hS := hS.call hb
        replace hD := hD.below hb
        clear hb
        go_wp2_with fail
        refine Calls.mono (FC.out _ _ (hS.env hE) hM) ?_
        rintro e w9 ⟨rfl, hb⟩
        replace hS := hS.call hb
        clear hb
        replace hS := hS.add' #[.string xn, .string xd] 27
        obtain ⟨W0, hW0, hS, hz0⟩ := hS
        replace hS := hS.add' #[.string yn, .string yd] 27
        obtain ⟨W1, hW1, hS, hz1⟩ := hS
        rw [hz0] at hS
        obtain ⟨W, hW⟩ : ∃ W, W = ((w9.alloc (.cells #[.string xn, .string xd] 27)).alloc (.cells #[.string yn, .string yd] 27)) := ⟨_, rfl⟩
        replace hS : BL w [(w9.heap.size + 1, #[.string yn, .string yd], 27), (w9.heap.size, #[.string xn, .string xd], 27), (w7.heap.size + 1, #[.string qn, .string qd], 27), (w7.heap.size, #[.string pn, .string pd], 27), (w6.heap.size + 1, #[.string vn, .string vd], 27), (w6.heap.size, #[.string un, .string ud], 27), (w.heap.size, #[.int .i64 xf, .int .i64 xs, .slice ag xl cap, .int .i64 xm], 24)] W := by rw [hW, ← hW0, ← hW1]; exact hS
        clear hz0 hz1 hW1 hW0
        clear hD hM
        go_wp2_with fail
        rw [← hW]
        clear hW
        refine Calls.mono (ZO.out _) ?_
        rintro e w10 ⟨rfl, hb⟩
        replace hS := hS.call hb
        clear hb
        replace hS := hS.add' #[.string zn, .string zd] 27
        obtain ⟨W0, hW0, hS, hz0⟩ := hS
        obtain ⟨W, hW⟩ : ∃ W, W = (w10.alloc (.cells #[.string zn, .string zd] 27)) := ⟨_, rfl⟩
        replace hS : BL w [(w10.heap.size, #[.string zn, .string zd], 27), (w9.heap.size + 1, #[.string yn, .string yd], 27), (w9.heap.size, #[.string xn, .string xd], 27), (w7.heap.size + 1, #[.string qn, .string qd], 27), (w7.heap.size, #[.string pn, .string pd], 27), (w6.heap.size + 1, #[.string vn, .string vd], 27), (w6.heap.size, #[.string un, .string ud], 27), (w.heap.size, #[.int .i64 xf, .int .i64 xs, .slice ag xl cap, .int .i64 xm], 24)] W := by rw [hW, ← hW0]; exact hS
        clear hz0 hW0
        go_upto_region 19 with fail
        rw [← hW]
        clear hW
        have hC0 : ∀ W', BL w [(w10.heap.size, #[.string zn, .string zd], 27), (w9.heap.size + 1, #[.string yn, .string yd], 27), (w9.heap.size, #[.string xn, .string xd], 27), (w7.heap.size + 1, #[.string qn, .string qd], 27), (w7.heap.size, #[.string pn, .string pd], 27), (w6.heap.size + 1, #[.string vn, .string vd], 27), (w6.heap.size, #[.string un, .string ud], 27), (w.heap.size, #[.int .i64 xf, .int .i64 xs, .slice ag xl cap, .int .i64 xm], 24)] W' → (W'.cell? ⟨w6.heap.size, 0, none⟩ = some (.string un) ∧ W'.cell? ⟨w6.heap.size, 1, none⟩ = some (.string ud)) := fun W' h => ⟨(h.cell (w6.heap.size) _ _ (.tail _ (.tail _ (.tail _ (.tail _ (.tail _ (.tail _ (.head _))))))) 0), (h.cell (w6.heap.size) _ _ (.tail _ (.tail _ (.tail _ (.tail _ (.tail _ (.tail _ (.head _))))))) 1)⟩
        have hC := Lib.hid hC0
        clear hC0
        have h0 := hS
        obtain ⟨x0', x1'⟩ := hC.out _ hS
        replace hS := hS.drew
        go_cut [26, 27] (fun s e wx => ∃ g : Nat, s = .pointer (some ⟨g, 0, none⟩) ∧ e = .int .i64 0 ∧ w.heap.size ≤ g ∧ (∀ p ∈ ([(w10.heap.size, #[.string zn, .string zd], 27), (w9.heap.size + 1, #[.string yn, .string yd], 27), (w9.heap.size, #[.string xn, .string xd], 27), (w7.heap.size + 1, #[.string qn, .string qd], 27), (w7.heap.size, #[.string pn, .string pd], 27), (w6.heap.size + 1, #[.string vn, .string vd], 27), (w6.heap.size, #[.string un, .string ud], 27), (w.heap.size, #[.int .i64 xf, .int .i64 xs, .slice ag xl cap, .int .i64 xm], 24)] : BLs), p.1 < g) ∧ BL w ((g, #[.string pn, .string pd], 27) :: [(w10.heap.size, #[.string zn, .string zd], 27), (w9.heap.size + 1, #[.string yn, .string yd], 27), (w9.heap.size, #[.string xn, .string xd], 27), (w7.heap.size + 1, #[.string qn, .string qd], 27), (w7.heap.size, #[.string pn, .string pd], 27), (w6.heap.size + 1, #[.string vn, .string vd], 27), (w6.heap.size, #[.string un, .string ud], 27), (w.heap.size, #[.int .i64 xf, .int .i64 xs, .slice ag xl cap, .int .i64 xm], 24)]) wx)
        case first => as_aux_lemma =>
          go_region_held3 (fun w' => w'.cell? ⟨w6.heap.size, 0, none⟩ = some (.string un) ∧ w'.cell? ⟨w6.heap.size, 1, none⟩ = some (.string ud))
            (first | with_reducible exact hC.out _ hS | with_reducible exact hC.out _ (hS.new _) | with_reducible exact hC.out _ ((h0.new _).drew) | with_reducible exact hC.out _ (hS.setG hge hlt _ _) | go_keep)
            (first | (go_at_call 30; (with_reducible refine Calls.mono (KO.out _) ?_); rintro e w' ⟨rfl, hb⟩; (first | (replace hS := hS.call hb; first | (replace hN := hN.below hb; have n0 := (blk_two hN).1; have n1 := (blk_two hN).2; have m0 := hN.frozen 0; have m1 := hN.frozen 1) | skip) | (have hlt := hS.lts; have hge := hS.below.size; have hN := nres hb; have n0 := (blk_two hN).1; have n1 := (blk_two hN).2; have m0 := hN.frozen 0; have m1 := hN.frozen 1; replace hS := (hS.new _).call hb) | (have hlt := h0.lts; have hge := h0.below.size; have hN := nres_drew hb; have n0 := (blk_two hN).1; have n1 := (blk_two hN).2; have m0 := hN.frozen 0; have m1 := hN.frozen 1; replace hS := ((h0.new _).drew).call hb)); clear hb) | (go_at_call 39; (with_reducible refine Calls.mono (A1.out _ ?_) ?_); (first | exact hS.env hE | exact (hS.new _).env hE | exact ((h0.new _).drew).env hE); rintro e w' ⟨rfl, hb⟩; (first | (replace hS := hS.call hb; first | (replace hN := hN.below hb; have n0 := (blk_two hN).1; have n1 := (blk_two hN).2; have m0 := hN.frozen 0; have m1 := hN.frozen 1) | skip) | (have hlt := hS.lts; have hge := hS.below.size; have hN := nres hb; have n0 := (blk_two hN).1; have n1 := (blk_two hN).2; have m0 := hN.frozen 0; have m1 := hN.frozen 1; replace hS := (hS.new _).call hb) | (have hlt := h0.lts; have hge := h0.below.size; have hN := nres_drew hb; have n0 := (blk_two hN).1; have n1 := (blk_two hN).2; have m0 := hN.frozen 0; have m1 := hN.frozen 1; replace hS := ((h0.new _).drew).call hb)); clear hb))
          all_goals (go_wp2_with fail; go_meet; first | exact ⟨_, rfl, rfl, hS.below.size, hS.lts, hS.add _ _⟩ | exact ⟨_, rfl, rfl, hge, hlt, (hS.setG hge hlt _ _).pushB ((hN.set 0 (.string pn)).set 1 (.string pd))⟩)
        case rest =>
          clear hS h0 hC x0' x1'
          obtain ⟨g1, rfl, rfl, g1ge, g1lt, hS⟩ := hcut
          go_upto_region 20 with fail
          have hC0 : ∀ W', BL w [(g1, #[.string pn, .string pd], 27), (w10.heap.size, #[.string zn, .string zd], 27), (w9.heap.size + 1, #[.string yn, .string yd], 27), (w9.heap.size, #[.string xn, .string xd], 27), (w7.heap.size + 1, #[.string qn, .string qd], 27), (w7.heap.size, #[.string pn, .string pd], 27), (w6.heap.size + 1, #[.string vn, .string vd], 27), (w6.heap.size, #[.string un, .string ud], 27), (w.heap.size, #[.int .i64 xf, .int .i64 xs, .slice ag xl cap, .int .i64 xm], 24)] W' → (W'.cell? ⟨w6.heap.size + 1, 0, none⟩ = some (.string vn) ∧ W'.cell? ⟨w6.heap.size + 1, 1, none⟩ = some (.string vd)) := fun W' h => ⟨(h.cell (w6.heap.size + 1) _ _ (.tail _ (.tail _ (.tail _ (.tail _ (.tail _ (.tail _ (.head _))))))) 0), (h.cell (w6.heap.size + 1) _ _ (.tail _ (.tail _ (.tail _ (.tail _ (.tail _ (.tail _ (.head _))))))) 1)⟩
          have hC := Lib.hid hC0
          clear hC0
          have h0 := hS
          obtain ⟨x0', x1'⟩ := hC.out _ hS
          replace hS := hS.drew
          go_cut [28, 29] (fun s e wx => ∃ g : Nat, s = .pointer (some ⟨g, 0, none⟩) ∧ e = .int .i64 0 ∧ w.heap.size ≤ g ∧ (∀ p ∈ ([(g1, #[.string pn, .string pd], 27), (w10.heap.size, #[.string zn, .string zd], 27), (w9.heap.size + 1, #[.string yn, .string yd], 27), (w9.heap.size, #[.string xn, .string xd], 27), (w7.heap.size + 1, #[.string qn, .string qd], 27), (w7.heap.size, #[.string pn, .string pd], 27), (w6.heap.size + 1, #[.string vn, .string vd], 27), (w6.heap.size, #[.string un, .string ud], 27), (w.heap.size, #[.int .i64 xf, .int .i64 xs, .slice ag xl cap, .int .i64 xm], 24)] : BLs), p.1 < g) ∧ BL w ((g, #[.string qn, .string qd], 27) :: [(g1, #[.string pn, .string pd], 27), (w10.heap.size, #[.string zn, .string zd], 27), (w9.heap.size + 1, #[.string yn, .string yd], 27), (w9.heap.size, #[.string xn, .string xd], 27), (w7.heap.size + 1, #[.string qn, .string qd], 27), (w7.heap.size, #[.string pn, .string pd], 27), (w6.heap.size + 1, #[.string vn, .string vd], 27), (w6.heap.size, #[.string un, .string ud], 27), (w.heap.size, #[.int .i64 xf, .int .i64 xs, .slice ag xl cap, .int .i64 xm], 24)]) wx)
          case first => as_aux_lemma =>
            go_region_held3 (fun w' => w'.cell? ⟨w6.heap.size + 1, 0, none⟩ = some (.string vn) ∧ w'.cell? ⟨w6.heap.size + 1, 1, none⟩ = some (.string vd))
              (first | with_reducible exact hC.out _ hS | with_reducible exact hC.out _ (hS.new _) | with_reducible exact hC.out _ ((h0.new _).drew) | with_reducible exact hC.out _ (hS.setG hge hlt _ _) | go_keep)
              (first | (go_at_call 30; (with_reducible refine Calls.mono (KO.out _) ?_); rintro e w' ⟨rfl, hb⟩; (first | (replace hS := hS.call hb; first | (replace hN := hN.below hb; have n0 := (blk_two hN).1; have n1 := (blk_two hN).2; have m0 := hN.frozen 0; have m1 := hN.frozen 1) | skip) | (have hlt := hS.lts; have hge := hS.below.size; have hN := nres hb; have n0 := (blk_two hN).1; have n1 := (blk_two hN).2; have m0 := hN.frozen 0; have m1 := hN.frozen 1; replace hS := (hS.new _).call hb) | (have hlt := h0.lts; have hge := h0.below.size; have hN := nres_drew hb; have n0 := (blk_two hN).1; have n1 := (blk_two hN).2; have m0 := hN.frozen 0; have m1 := hN.frozen 1; replace hS := ((h0.new _).drew).call hb)); clear hb) | (go_at_call 39; (with_reducible refine Calls.mono (A2.out _ ?_) ?_); (first | exact hS.env hE | exact (hS.new _).env hE | exact ((h0.new _).drew).env hE); rintro e w' ⟨rfl, hb⟩; (first | (replace hS := hS.call hb; first | (replace hN := hN.below hb; have n0 := (blk_two hN).1; have n1 := (blk_two hN).2; have m0 := hN.frozen 0; have m1 := hN.frozen 1) | skip) | (have hlt := hS.lts; have hge := hS.below.size; have hN := nres hb; have n0 := (blk_two hN).1; have n1 := (blk_two hN).2; have m0 := hN.frozen 0; have m1 := hN.frozen 1; replace hS := (hS.new _).call hb) | (have hlt := h0.lts; have hge := h0.below.size; have hN := nres_drew hb; have n0 := (blk_two hN).1; have n1 := (blk_two hN).2; have m0 := hN.frozen 0; have m1 := hN.frozen 1; replace hS := ((h0.new _).drew).call hb)); clear hb))
            all_goals (go_wp2_with fail; go_meet; first | exact ⟨_, rfl, rfl, hS.below.size, hS.lts, hS.add _ _⟩ | exact ⟨_, rfl, rfl, hge, hlt, (hS.setG hge hlt _ _).pushB ((hN.set 0 (.string qn)).set 1 (.string qd))⟩)
          case rest =>
            clear hS h0 hC x0' x1'
            obtain ⟨g2, rfl, rfl, g2ge, g2lt, hS⟩ := hcut
            obtain ⟨c_z_0, c_z_1⟩ := hS.c2 (w10.heap.size) _ _ _ (.tail _ (.tail _ (.head _)))
            obtain ⟨c_low_0, c_low_1⟩ := hS.c2 (w6.heap.size) _ _ _ (.tail _ (.tail _ (.tail _ (.tail _ (.tail _ (.tail _ (.tail _ (.tail _ (.head _)))))))))
            go_wp2_with fail
            refine Calls.mono (S1.out _ (hS.env hE)) ?_
            rintro e w11 ⟨rfl, hb⟩
            clear c_z_0 c_z_1 c_low_0 c_low_1
            replace hS := hS.call hb
            clear hb
            replace hS := hS.add' #[.string yn, .string yd] 27
            obtain ⟨W0, hW0, hS, hz0⟩ := hS
            obtain ⟨W, hW⟩ : ∃ W, W = (w11.alloc (.cells #[.string yn, .string yd] 27)) := ⟨_, rfl⟩
            replace hS : BL w [(w11.heap.size, #[.string yn, .string yd], 27), (g2, #[.string qn, .string qd], 27), (g1, #[.string pn, .string pd], 27), (w10.heap.size, #[.string zn, .string zd], 27), (w9.heap.size + 1, #[.string yn, .string yd], 27), (w9.heap.size, #[.string xn, .string xd], 27), (w7.heap.size + 1, #[.string qn, .string qd], 27), (w7.heap.size, #[.string pn, .string pd], 27), (w6.heap.size + 1, #[.string vn, .string vd], 27), (w6.heap.size, #[.string un, .string ud], 27), (w.heap.size, #[.int .i64 xf, .int .i64 xs, .slice ag xl cap, .int .i64 xm], 24)] W := by rw [hW, ← hW0]; exact hS
            clear hz0 hW0
            go_upto_region 22 with fail
            rw [← hW]
            clear hW
            obtain ⟨c_z_0, c_z_1⟩ := hS.c2 (w10.heap.size) _ _ _ (.tail _ (.tail _ (.tail _ (.head _))))
            obtain ⟨c_high_0, c_high_1⟩ := hS.c2 (w6.heap.size + 1) _ _ _ (.tail _ (.tail _ (.tail _ (.tail _ (.tail _ (.tail _ (.tail _ (.tail _ (.head _)))))))))
            go_wp2_with fail
            refine Calls.mono (S2.out _ (hS.env hE)) ?_
            rintro e w12 ⟨rfl, hb⟩
            clear c_z_0 c_z_1 c_high_0 c_high_1
            replace hS := hS.call hb
            clear hb
            replace hS := hS.add' #[.string xn, .string xd] 27
            obtain ⟨W0, hW0, hS, hz0⟩ := hS
            obtain ⟨W, hW⟩ : ∃ W, W = (w12.alloc (.cells #[.string xn, .string xd] 27)) := ⟨_, rfl⟩
            replace hS : BL w [(w12.heap.size, #[.string xn, .string xd], 27), (w11.heap.size, #[.string yn, .string yd], 27), (g2, #[.string qn, .string qd], 27), (g1, #[.string pn, .string pd], 27), (w10.heap.size, #[.string zn, .string zd], 27), (w9.heap.size + 1, #[.string yn, .string yd], 27), (w9.heap.size, #[.string xn, .string xd], 27), (w7.heap.size + 1, #[.string qn, .string qd], 27), (w7.heap.size, #[.string pn, .string pd], 27), (w6.heap.size + 1, #[.string vn, .string vd], 27), (w6.heap.size, #[.string un, .string ud], 27), (w.heap.size, #[.int .i64 xf, .int .i64 xs, .slice ag xl cap, .int .i64 xm], 24)] W := by rw [hW, ← hW0]; exact hS
            clear hz0 hW0
            go_upto_region 23 with fail
            rw [← hW]
            clear hW
            obtain ⟨c_p_0, c_p_1⟩ := hS.c2 (w7.heap.size) _ _ _ (.tail _ (.tail _ (.tail _ (.tail _ (.tail _ (.tail _ (.tail _ (.tail _ (.head _)))))))))
            obtain ⟨c_low2_0, c_low2_1⟩ := hS.c2 (g1) _ _ _ (.tail _ (.tail _ (.tail _ (.head _))))
            obtain ⟨c_q_0, c_q_1⟩ := hS.c2 (w7.heap.size + 1) _ _ _ (.tail _ (.tail _ (.tail _ (.tail _ (.tail _ (.tail _ (.tail _ (.head _))))))))
            obtain ⟨c_high2_0, c_high2_1⟩ := hS.c2 (g2) _ _ _ (.tail _ (.tail _ (.head _)))
            obtain ⟨c_x1_0, c_x1_1⟩ := hS.c2 (w9.heap.size) _ _ _ (.tail _ (.tail _ (.tail _ (.tail _ (.tail _ (.tail _ (.head _)))))))
            obtain ⟨c_over_0, c_over_1⟩ := hS.c2 (w12.heap.size) _ _ _ (.head _)
            obtain ⟨c_y1_0, c_y1_1⟩ := hS.c2 (w9.heap.size + 1) _ _ _ (.tail _ (.tail _ (.tail _ (.tail _ (.tail _ (.head _))))))
            obtain ⟨c_under_0, c_under_1⟩ := hS.c2 (w11.heap.size) _ _ _ (.tail _ (.head _))
            go_wp2
            go_ret
            exact ⟨rfl, hS.below⟩

end Go.Proofs.YtonbmhdbcbbagaaGreatDoor
