/- putloglaw26: DecayRates, the walk. -/
import Derived.Test.YtonbmhdbcbbagaaGreatDoorDecY
import Derived.Test.YtonbmhdbcbbagaaGreatDoorDecU
import Derived.Deep.RegionHeld3
import Derived.Deep.DeepCutAuto
import Derived.Deep.QuietTactic
import Derived.BigQuiet
namespace Go.Proofs.YtonbmhdbcbbagaaGreatDoor
open Go.RowKit
open DecM (Dt fcst rts okD)
attribute [local go_sem] Oper.semAt_some

theorem SlD.new {W : World} {v : Value} {l : List Dt} (h : SlD W v l) (o : Obj) : SlD (W.alloc o) v l := h.below ((Below.refl _ W).alloc (Nat.le_refl _) o)
theorem ok_fits {l : List Dt} (h : okD l = true) : ∀ d ∈ l, Fits d.t ∧ Fits d.lo ∧ Fits d.hi := fun d hd => by
  have := (DecM.okD_iff.1 h).2.1 d hd
  unfold Fits; omega
/-- A contract of a list of data, in every world where it lies. -/
abbrev OfD (f : FuncId) (l : List Dt) (args : Array Value) (u : Value) : Prop := ∀ v W, Env W → SlD W v l → Calls Tryz.prog f (#[v] ++ args) W (Rets W u)
/-- A contract over two fractions. -/
abbrev OfQ (f : FuncId) (n d n2 d2 : ByteArray) (u : Value) : Prop := ∀ W, Env W → Calls Tryz.prog f #[.agg #[.string n, .string d], .agg #[.string n2, .string d2]] W (Rets W u)
theorem fit_c {l : List Dt} (hok : okD l = true) {p q : Rat} (hp : OkO (some p)) (hq : OkO (some q)) (h : fitO l (some p) (some q) = true) (v : Value) (W : World) (hE : Env W) (hv : SlD W v l) :
    Calls Tryz.prog 31 #[v, .agg #[.string (numS p), .string (denS p)], .agg #[.string (numS q), .string (denS q)]] W (Rets W (.bool true)) := by
  have := dfits_any v l (tN (some p)) (tD (some p)) (tN (some q)) (tD (some q)) (ok_fits hok) W hE hv
  rw [oq_t hp, oq_t hq, h] at this
  exact this
theorem cmp_c {x y : Rat} (hx : OkO (some x)) (hy : OkO (some y)) (W : World) (hE : Env W) :
    Calls Tryz.prog 37 #[.agg #[.string (numS x), .string (denS x)], .agg #[.string (numS y), .string (denS y)]] W (Rets W (.int .i64 (cmpQ x y))) := qcmp_o hx hy W hE
theorem mul_c {k : Nat} {x y : Rat} (hx : BQ k x) (hy : BQ k y) (hk : k + k ≤ 200) (W : World) (hE : Env W) :
    Calls Tryz.prog 41 #[.agg #[.string (numS x), .string (denS x)], .agg #[.string (numS y), .string (denS y)]] W (Rets W (.tuple #[.agg #[.string (numS (x * y)), .string (denS (x * y))], .int .i64 0])) := by
  have := qmul_o (hx.ok (by omega)) (hy.ok (by omega)) W hE
  rw [hx.omul hy hk] at this
  exact this
theorem sub_c {k : Nat} {x y : Rat} (hx : BQ k x) (hy : BQ k y) (hk : k + k + 1 ≤ 200) (W : World) (hE : Env W) :
    Calls Tryz.prog 40 #[.agg #[.string (numS x), .string (denS x)], .agg #[.string (numS y), .string (denS y)]] W (Rets W (.tuple #[.agg #[.string (numS (x - y)), .string (denS (x - y))], .int .i64 0])) := by
  have := qsub_o (hx.ok (by omega)) (hy.ok (by omega)) W hE
  rw [hx.osub hy hk] at this
  exact this
theorem of_c (n : Int) (hn : Fits n) (W : World) : Calls Tryz.prog 30 #[.int .i64 n, .int .i64 1] W (Rets W (.agg #[.string (numS (n : Rat)), .string (denS (n : Rat))])) := by
  have := of_any n 1 hn (by decide) W
  rw [oOf_one] at this
  exact this
theorem hid_c (x : Nm) (w : World) (h : NmOk w x) : Calls Tryz.prog 13 #[.agg #[.int .i64 x.f, .int .i64 x.s, x.v, .int .i64 x.m]] w (Rets w (.tuple #[.agg #[.string (numS (x.first : Rat)), .string (denS (x.first : Rat))], .agg #[.string (numS ((x.slope : Rat) / 7)), .string (denS ((x.slope : Rat) / 7))]])) := by
  have := hidden_any x w h
  rw [oOf_one, oOf_ratio (by decide), show DecM.ratio x.slope 7 = (x.slope : Rat) / 7 from rfl] at this
  exact this
theorem bq_hid (x : Nm) : BQ 13 (x.first : Rat) ∧ BQ 13 ((x.slope : Rat) / 7) := by
  have h1 := x.first_bd
  have h2 := x.slope_bd
  exact ⟨BQ.int (by omega), bq_ratio (n := x.slope) (d := 7) (by omega) (by decide) (by decide)⟩

set_option maxRecDepth 100000 in
set_option maxHeartbeats 16000000 in
theorem rates_walk (x : Nm) (t n : Int) (ht : Fits t) (hn : Fits n) (w : World) (hE : Env w) (h : NmOk w x) :
    Calls Tryz.prog 7 #[.agg #[.int .i64 x.f, .int .i64 x.s, x.v, .int .i64 x.m], .int .i64 t, .int .i64 n] w (Rets w (.bool true)) := by
  have hd0 := pkv_nonneg (c := t) (m := 5001) (by decide)
  have hd1 := pkv_lt (c := t) (m := 5001) (by decide)
  have hk0 := pkv_nonneg (c := n) (m := 500) (by decide)
  have hk1 := pkv_lt (c := n) (m := 500) (by decide)
  have PK := fun W => pickL_any_b n 500 hn (by decide) (by decide) W
  have DY := fun W => day_any t ht W
  generalize pkv t 5001 = d at *
  generalize pkv n 500 = k at *
  obtain ⟨dy, hdy⟩ : ∃ dy, dy = 1 + k := ⟨_, rfl⟩
  have w1 : IntKind.i64.wrap (1 + k) = dy := by rw [hdy]; exact IntWalk.i64_in _ (by omega)
  obtain ⟨d2, hd2⟩ : ∃ d2, d2 = d + dy := ⟨_, rfl⟩
  have w2 : IntKind.i64.wrap (d + dy) = d2 := by rw [hd2]; exact IntWalk.i64_in _ (by omega)
  have hok := x.made_ok
  have RL := rates_law hok (d := d) (n := dy) (by omega) (by omega)
  rw [← hd2] at RL
  have MD := fun W (h : NmOk W x) => made_any x W h
  have HD := fun W (h : NmOk W x) => hid_c x W h
  have MS := fun W (h : NmOk W x) => misses_any x W h
  have hfit := x.made_fit
  obtain ⟨bF, bS⟩ := bq_hid x
  have bN : BQ 13 (dy : Rat) := BQ.int (by omega)
  have OF := fun W => of_c dy (by unfold Fits; omega) W
  have HN := Lib.hid h
  obtain ⟨ag, cap, hv⟩ := h.sl.shape
  generalize x.made = l at *
  generalize (x.first : Rat) = fi at *
  generalize (x.slope : Rat) / 7 = sl at *
  have RA := fun v W (hE : Env W) (h : SlD W v l) => rates_any v l W hE h
  have FA := fun v W (hE : Env W) (h : SlD W v l) => forecast_any v l d W hE h
  have FB := fun v W (hE : Env W) (h : SlD W v l) => forecast_any v l d2 W hE h
  have LI := fun v W (hE : Env W) (h : SlD W v l) => line_any v l d true W hE h
  clear h ht hn hd0 hd1 hk0 hk1
  rw [hv] at MD HD MS ⊢
  have hms : ∀ b, x.miss = b → x.miss = b := fun _ h => h
  generalize x.miss = ms at *
  generalize x.f = xf at *
  generalize x.s = xs at *
  generalize x.m = xm at *
  generalize x.ds.length = xl at *
  clear hv hms
  replace PK := Lib.hid PK
  replace DY := Lib.hid DY
  replace MD := Lib.hid MD
  obtain ⟨n1, n2, n3⟩ | ⟨r, u, a, b, c, e, p, q, F⟩ := RL
  · rw [n1] at RA; rw [n2] at FA; rw [n3] at FB
    unfold fV at RA
    replace RA := Lib.hid RA
    unfold fV at FA
    replace FA := Lib.hid FA
    unfold fV at FB
    replace FB := Lib.hid FB
    clear LI HD MS OF n1 n2 n3 hfit bF bS bN hok hdy hd2
    have Sv0 := BL.start w
    obtain ⟨V1, ev1, Sv1, zv1⟩ := Sv0.add' #[.int .i64 xf, .int .i64 xs, .slice ag xl cap, .int .i64 xm] 24
    have hV : V1 = (w.alloc (.cells #[.int .i64 xf, .int .i64 xs, .slice ag xl cap, .int .i64 xm] 24)) := by rw [ev1]
    have hS : BL w [(w.heap.size, #[.int .i64 xf, .int .i64 xs, .slice ag xl cap, .int .i64 xm], 24)] V1 := Sv1
    clear ev1 zv1 Sv0 Sv1
    go_enter Tryz.func7, Tryz.ntmps7
    go_wp2_with fail
    rw [← hV]
    clear hV
    refine Calls.mono (sane_any _ (hS.env hE)) ?_
    rintro e w1 ⟨rfl, hb⟩
    replace hS := hS.call hb
    clear hb
    obtain ⟨c_x_0, c_x_1, c_x_2, c_x_3⟩ := hS.c4 (w.heap.size) _ _ _ _ _ (.head _)
    go_wp2_with fail
    refine Calls.mono (MD.out _ (HN.out.below hS.below)) ?_
    rintro e w2 ⟨v, rfl, hD, hb⟩
    clear c_x_0 c_x_1 c_x_2 c_x_3
    replace hS := hS.call hb
    clear hb
    go_wp2_with fail
    refine Calls.mono (PK.out _) ?_
    rintro e w3 ⟨rfl, hb⟩
    replace hS := hS.call hb
    replace hD := hD.below hb
    clear hb
    go_wp2_with fail
    refine Calls.mono (RA.out _ _ (hS.env hE) hD) ?_
    rintro e w4 ⟨rfl, hb⟩
    replace hS := hS.call hb
    replace hD := hD.below hb
    clear hb
    replace hS := hS.add' #[.string ⟨#[]⟩, .string ⟨#[]⟩] 27
    obtain ⟨W0, hW0, hS, hz0⟩ := hS
    replace hS := hS.add' #[.string ⟨#[]⟩, .string ⟨#[]⟩] 27
    obtain ⟨W1, hW1, hS, hz1⟩ := hS
    rw [hz0] at hS
    obtain ⟨W, hW⟩ : ∃ W, W = ((w4.alloc (.cells #[.string ⟨#[]⟩, .string ⟨#[]⟩] 27)).alloc (.cells #[.string ⟨#[]⟩, .string ⟨#[]⟩] 27)) := ⟨_, rfl⟩
    replace hS : BL w [(w4.heap.size + 1, #[.string ⟨#[]⟩, .string ⟨#[]⟩], 27), (w4.heap.size, #[.string ⟨#[]⟩, .string ⟨#[]⟩], 27), (w.heap.size, #[.int .i64 xf, .int .i64 xs, .slice ag xl cap, .int .i64 xm], 24)] W := by rw [hW, ← hW0, ← hW1]; exact hS
    replace hD : SlD W v l := by rw [hW]; exact (hD.new _).new _
    clear hz0 hz1 hW1 hW0
    go_wp2_with fail
    rw [← hW]
    clear hW
    refine Calls.mono (DY.out _) ?_
    rintro e w5 ⟨rfl, hb⟩
    replace hS := hS.call hb
    replace hD := hD.below hb
    clear hb
    go_wp2_with fail
    refine Calls.mono (FA.out _ _ (hS.env hE) hD) ?_
    rintro e w6 ⟨rfl, hb⟩
    replace hS := hS.call hb
    replace hD := hD.below hb
    clear hb
    replace hS := hS.add' #[.string ⟨#[]⟩, .string ⟨#[]⟩] 27
    obtain ⟨W0, hW0, hS, hz0⟩ := hS
    replace hS := hS.add' #[.string ⟨#[]⟩, .string ⟨#[]⟩] 27
    obtain ⟨W1, hW1, hS, hz1⟩ := hS
    rw [hz0] at hS
    obtain ⟨W, hW⟩ : ∃ W, W = ((w6.alloc (.cells #[.string ⟨#[]⟩, .string ⟨#[]⟩] 27)).alloc (.cells #[.string ⟨#[]⟩, .string ⟨#[]⟩] 27)) := ⟨_, rfl⟩
    replace hS : BL w [(w6.heap.size + 1, #[.string ⟨#[]⟩, .string ⟨#[]⟩], 27), (w6.heap.size, #[.string ⟨#[]⟩, .string ⟨#[]⟩], 27), (w4.heap.size + 1, #[.string ⟨#[]⟩, .string ⟨#[]⟩], 27), (w4.heap.size, #[.string ⟨#[]⟩, .string ⟨#[]⟩], 27), (w.heap.size, #[.int .i64 xf, .int .i64 xs, .slice ag xl cap, .int .i64 xm], 24)] W := by rw [hW, ← hW0, ← hW1]; exact hS
    replace hD : SlD W v l := by rw [hW]; exact (hD.new _).new _
    clear hz0 hz1 hW1 hW0
    go_wp2_with fail
    rw [← hW]
    clear hW
    refine Calls.mono (DY.out _) ?_
    rintro e w7 ⟨rfl, hb⟩
    replace hS := hS.call hb
    replace hD := hD.below hb
    clear hb
    go_wp2_with fail
    refine Calls.mono (FB.out _ _ (hS.env hE) hD) ?_
    rintro e w8 ⟨rfl, hb⟩
    replace hS := hS.call hb
    replace hD := hD.below hb
    clear hb
    replace hS := hS.add' #[.string ⟨#[]⟩, .string ⟨#[]⟩] 27
    obtain ⟨W0, hW0, hS, hz0⟩ := hS
    replace hS := hS.add' #[.string ⟨#[]⟩, .string ⟨#[]⟩] 27
    obtain ⟨W1, hW1, hS, hz1⟩ := hS
    rw [hz0] at hS
    obtain ⟨W, hW⟩ : ∃ W, W = ((w8.alloc (.cells #[.string ⟨#[]⟩, .string ⟨#[]⟩] 27)).alloc (.cells #[.string ⟨#[]⟩, .string ⟨#[]⟩] 27)) := ⟨_, rfl⟩
    replace hS : BL w [(w8.heap.size + 1, #[.string ⟨#[]⟩, .string ⟨#[]⟩], 27), (w8.heap.size, #[.string ⟨#[]⟩, .string ⟨#[]⟩], 27), (w6.heap.size + 1, #[.string ⟨#[]⟩, .string ⟨#[]⟩], 27), (w6.heap.size, #[.string ⟨#[]⟩, .string ⟨#[]⟩], 27), (w4.heap.size + 1, #[.string ⟨#[]⟩, .string ⟨#[]⟩], 27), (w4.heap.size, #[.string ⟨#[]⟩, .string ⟨#[]⟩], 27), (w.heap.size, #[.int .i64 xf, .int .i64 xs, .slice ag xl cap, .int .i64 xm], 24)] W := by rw [hW, ← hW0, ← hW1]; exact hS
    replace hD : SlD W v l := by rw [hW]; exact (hD.new _).new _
    clear hz0 hz1 hW1 hW0
    go_wp2
    rw [← hW]
    clear hW
    go_ret
    exact ⟨rfl, hS.below⟩
  · rw [F.rts] at RA; rw [F.f1] at FA; have f2 := F.f2; rw [← hd2] at f2; rw [f2] at FB; clear f2; rw [F.ln] at LI
    unfold fV at RA
    unfold fV at FA
    unfold fV at FB
    unfold fV at LI
    obtain ⟨br, bu, ba, bb, bc, be, bp, bq⟩ := F.bs
    have ok : ∀ {z : Rat}, BQ 13 z → OkO (some z) := fun h => h.ok (by decide)
    have ok2 : ∀ {z : Rat}, BQ 27 z → OkO (some z) := fun h => h.ok (by decide)
    have FI := fun v W (hE : Env W) (h : SlD W v l) => fit_c hok (ok bp) (ok bq) F.fit v W hE h
    have C1 := fun W (hE : Env W) => cmp_c (ok bq) (ok br) W hE
    have C1r : ¬ cmpQ q r < 0 := by exact Int.not_lt.2 (cmpQ_ge.2 (F.low))
    have C2 := fun W (hE : Env W) => cmp_c (ok bq) (ok bu) W hE
    have C2r : ¬ cmpQ q u > 0 := by exact Int.not_lt.2 (cmpQ_le.2 (F.high))
    have C3 := fun W (hE : Env W) => cmp_c (ok bS) (ok br) W hE
    have C4 := fun W (hE : Env W) => cmp_c (ok bS) (ok bu) W hE
    have C3r : ms = false → ¬ cmpQ sl r < 0 := fun hm => Int.not_lt.2 (cmpQ_ge.2 (F.all _ _ (hfit hm)).1)
    have C4r : ms = false → ¬ cmpQ sl u > 0 := fun hm => Int.not_lt.2 (cmpQ_le.2 (F.all _ _ (hfit hm)).2)
    have M1 := fun W (hE : Env W) => mul_c br bN (by decide) W hE
    have M2 := fun W (hE : Env W) => mul_c bu bN (by decide) W hE
    have S1 := fun W (hE : Env W) => sub_c bc ba (by decide) W hE
    have S2 := fun W (hE : Env W) => sub_c be bb (by decide) W hE
    have bl := (br.mul bN).mono (k := 27) (by decide)
    have bh := (bu.mul bN).mono (k := 27) (by decide)
    have bx := bc.sub ba
    have by' := be.sub bb
    have D1 := fun W (hE : Env W) => cmp_c (ok2 bl) (ok2 bx) W hE
    have D1r : cmpQ (r * dy) (c - a) ≤ 0 := cmpQ_le.2 F.s1.1
    have D2 := fun W (hE : Env W) => cmp_c (ok2 bx) (ok2 bh) W hE
    have D2r : cmpQ (c - a) (u * dy) ≤ 0 := cmpQ_le.2 F.s1.2
    have D3 := fun W (hE : Env W) => cmp_c (ok2 bl) (ok2 by') W hE
    have D3r : cmpQ (r * dy) (e - b) ≤ 0 := cmpQ_le.2 F.s2.1
    have D4 := fun W (hE : Env W) => cmp_c (ok2 by') (ok2 bh) W hE
    have D4r : cmpQ (e - b) (u * dy) ≤ 0 := cmpQ_le.2 F.s2.2
    clear F hfit bl bh bx by' ok ok2 br bu ba bb bc be bp bq bF bS bN hok hdy hd2
    dsimp only at RA FA FB LI
    generalize cmpQ q r = c1 at *
    generalize cmpQ q u = c2 at *
    generalize cmpQ sl r = c3 at *
    generalize cmpQ sl u = c4 at *
    generalize cmpQ (r * (dy : Rat)) (c - a) = e1 at *
    generalize cmpQ (c - a) (u * (dy : Rat)) = e2 at *
    generalize cmpQ (r * (dy : Rat)) (e - b) = e3 at *
    generalize cmpQ (e - b) (u * (dy : Rat)) = e4 at *
    generalize numS (r * (dy : Rat)) = lon at *
    generalize denS (r * (dy : Rat)) = lod at *
    generalize numS (u * (dy : Rat)) = hin at *
    generalize denS (u * (dy : Rat)) = hid at *
    generalize numS (c - a) = x1n at *
    generalize denS (c - a) = x1d at *
    generalize numS (e - b) = x2n at *
    generalize denS (e - b) = x2d at *
    generalize numS (dy : Rat) = kn at *
    generalize denS (dy : Rat) = kd at *
    generalize numS r = rn at *
    generalize denS r = rd at *
    generalize numS u = un at *
    generalize denS u = ud at *
    generalize numS a = an at *
    generalize denS a = ad at *
    generalize numS b = bn at *
    generalize denS b = bd at *
    generalize numS c = cn at *
    generalize denS c = cd at *
    generalize numS e = en at *
    generalize denS e = ed at *
    generalize numS p = pn at *
    generalize denS p = pd at *
    generalize numS q = qn at *
    generalize denS q = qd at *
    generalize numS fi = fn at *
    generalize denS fi = fd at *
    generalize numS sl = sn at *
    generalize denS sl = sd at *
    replace RA := Lib.hid RA
    replace FA := Lib.hid FA
    replace FB := Lib.hid FB
    replace LI := Lib.hid LI
    replace HD := Lib.hid HD
    replace OF := Lib.hid OF
    replace FI := Lib.hid FI
    replace C1 := Lib.hid C1
    replace C2 := Lib.hid C2
    replace C3 := Lib.hid C3
    replace C4 := Lib.hid C4
    replace M1 := Lib.hid M1
    replace M2 := Lib.hid M2
    replace S1 := Lib.hid S1
    replace S2 := Lib.hid S2
    replace D1 := Lib.hid D1
    replace D2 := Lib.hid D2
    replace D3 := Lib.hid D3
    replace D4 := Lib.hid D4
    cases ms with
    | true =>
      clear C3 C4 C3r C4r
      replace MS := Lib.hid MS
      have Sv0 := BL.start w
      obtain ⟨V1, ev1, Sv1, zv1⟩ := Sv0.add' #[.int .i64 xf, .int .i64 xs, .slice ag xl cap, .int .i64 xm] 24
      have hV : V1 = (w.alloc (.cells #[.int .i64 xf, .int .i64 xs, .slice ag xl cap, .int .i64 xm] 24)) := by rw [ev1]
      have hS : BL w [(w.heap.size, #[.int .i64 xf, .int .i64 xs, .slice ag xl cap, .int .i64 xm], 24)] V1 := Sv1
      clear ev1 zv1 Sv0 Sv1
      go_enter Tryz.func7, Tryz.ntmps7
      go_wp2_with fail
      rw [← hV]
      clear hV
      refine Calls.mono (sane_any _ (hS.env hE)) ?_
      rintro e w1 ⟨rfl, hb⟩
      replace hS := hS.call hb
      clear hb
      obtain ⟨c_x_0, c_x_1, c_x_2, c_x_3⟩ := hS.c4 (w.heap.size) _ _ _ _ _ (.head _)
      go_wp2_with fail
      refine Calls.mono (MD.out _ (HN.out.below hS.below)) ?_
      rintro e w2 ⟨v, rfl, hD, hb⟩
      clear c_x_0 c_x_1 c_x_2 c_x_3
      replace hS := hS.call hb
      clear hb
      go_wp2_with fail
      refine Calls.mono (PK.out _) ?_
      rintro e w3 ⟨rfl, hb⟩
      replace hS := hS.call hb
      replace hD := hD.below hb
      clear hb
      go_wp2_with fail
      refine Calls.mono (RA.out _ _ (hS.env hE) hD) ?_
      rintro e w4 ⟨rfl, hb⟩
      replace hS := hS.call hb
      replace hD := hD.below hb
      clear hb
      replace hS := hS.add' #[.string rn, .string rd] 27
      obtain ⟨W0, hW0, hS, hz0⟩ := hS
      replace hS := hS.add' #[.string un, .string ud] 27
      obtain ⟨W1, hW1, hS, hz1⟩ := hS
      rw [hz0] at hS
      obtain ⟨W, hW⟩ : ∃ W, W = ((w4.alloc (.cells #[.string rn, .string rd] 27)).alloc (.cells #[.string un, .string ud] 27)) := ⟨_, rfl⟩
      replace hS : BL w [(w4.heap.size + 1, #[.string un, .string ud], 27), (w4.heap.size, #[.string rn, .string rd], 27), (w.heap.size, #[.int .i64 xf, .int .i64 xs, .slice ag xl cap, .int .i64 xm], 24)] W := by rw [hW, ← hW0, ← hW1]; exact hS
      replace hD : SlD W v l := by rw [hW]; exact (hD.new _).new _
      clear hz0 hz1 hW1 hW0
      go_wp2_with fail
      rw [← hW]
      clear hW
      refine Calls.mono (DY.out _) ?_
      rintro e w5 ⟨rfl, hb⟩
      replace hS := hS.call hb
      replace hD := hD.below hb
      clear hb
      go_wp2_with fail
      refine Calls.mono (FA.out _ _ (hS.env hE) hD) ?_
      rintro e w6 ⟨rfl, hb⟩
      replace hS := hS.call hb
      replace hD := hD.below hb
      clear hb
      replace hS := hS.add' #[.string an, .string ad] 27
      obtain ⟨W0, hW0, hS, hz0⟩ := hS
      replace hS := hS.add' #[.string bn, .string bd] 27
      obtain ⟨W1, hW1, hS, hz1⟩ := hS
      rw [hz0] at hS
      obtain ⟨W, hW⟩ : ∃ W, W = ((w6.alloc (.cells #[.string an, .string ad] 27)).alloc (.cells #[.string bn, .string bd] 27)) := ⟨_, rfl⟩
      replace hS : BL w [(w6.heap.size + 1, #[.string bn, .string bd], 27), (w6.heap.size, #[.string an, .string ad], 27), (w4.heap.size + 1, #[.string un, .string ud], 27), (w4.heap.size, #[.string rn, .string rd], 27), (w.heap.size, #[.int .i64 xf, .int .i64 xs, .slice ag xl cap, .int .i64 xm], 24)] W := by rw [hW, ← hW0, ← hW1]; exact hS
      replace hD : SlD W v l := by rw [hW]; exact (hD.new _).new _
      clear hz0 hz1 hW1 hW0
      go_wp2_with fail
      rw [← hW]
      clear hW
      refine Calls.mono (DY.out _) ?_
      rintro e w7 ⟨rfl, hb⟩
      replace hS := hS.call hb
      replace hD := hD.below hb
      clear hb
      go_wp2_with fail
      refine Calls.mono (FB.out _ _ (hS.env hE) hD) ?_
      rintro e w8 ⟨rfl, hb⟩
      replace hS := hS.call hb
      replace hD := hD.below hb
      clear hb
      replace hS := hS.add' #[.string cn, .string cd] 27
      obtain ⟨W0, hW0, hS, hz0⟩ := hS
      replace hS := hS.add' #[.string en, .string ed] 27
      obtain ⟨W1, hW1, hS, hz1⟩ := hS
      rw [hz0] at hS
      obtain ⟨W, hW⟩ : ∃ W, W = ((w8.alloc (.cells #[.string cn, .string cd] 27)).alloc (.cells #[.string en, .string ed] 27)) := ⟨_, rfl⟩
      replace hS : BL w [(w8.heap.size + 1, #[.string en, .string ed], 27), (w8.heap.size, #[.string cn, .string cd], 27), (w6.heap.size + 1, #[.string bn, .string bd], 27), (w6.heap.size, #[.string an, .string ad], 27), (w4.heap.size + 1, #[.string un, .string ud], 27), (w4.heap.size, #[.string rn, .string rd], 27), (w.heap.size, #[.int .i64 xf, .int .i64 xs, .slice ag xl cap, .int .i64 xm], 24)] W := by rw [hW, ← hW0, ← hW1]; exact hS
      replace hD : SlD W v l := by rw [hW]; exact (hD.new _).new _
      clear hz0 hz1 hW1 hW0
      go_wp2_with fail
      rw [← hW]
      clear hW
      refine Calls.mono (DY.out _) ?_
      rintro e w9 ⟨rfl, hb⟩
      replace hS := hS.call hb
      replace hD := hD.below hb
      clear hb
      go_wp2_with fail
      refine Calls.mono (LI.out _ _ (hS.env hE) hD) ?_
      rintro e w10 ⟨rfl, hb⟩
      replace hS := hS.call hb
      replace hD := hD.below hb
      clear hb
      replace hS := hS.add' #[.string pn, .string pd] 27
      obtain ⟨W0, hW0, hS, hz0⟩ := hS
      replace hS := hS.add' #[.string qn, .string qd] 27
      obtain ⟨W1, hW1, hS, hz1⟩ := hS
      rw [hz0] at hS
      obtain ⟨W, hW⟩ : ∃ W, W = ((w10.alloc (.cells #[.string pn, .string pd] 27)).alloc (.cells #[.string qn, .string qd] 27)) := ⟨_, rfl⟩
      replace hS : BL w [(w10.heap.size + 1, #[.string qn, .string qd], 27), (w10.heap.size, #[.string pn, .string pd], 27), (w8.heap.size + 1, #[.string en, .string ed], 27), (w8.heap.size, #[.string cn, .string cd], 27), (w6.heap.size + 1, #[.string bn, .string bd], 27), (w6.heap.size, #[.string an, .string ad], 27), (w4.heap.size + 1, #[.string un, .string ud], 27), (w4.heap.size, #[.string rn, .string rd], 27), (w.heap.size, #[.int .i64 xf, .int .i64 xs, .slice ag xl cap, .int .i64 xm], 24)] W := by rw [hW, ← hW0, ← hW1]; exact hS
      replace hD : SlD W v l := by rw [hW]; exact (hD.new _).new _
      clear hz0 hz1 hW1 hW0
      go_upto_region 11 with fail
      rw [← hW]
      clear hW
      obtain ⟨c_x_0, c_x_1, c_x_2, c_x_3⟩ := hS.c4 (w.heap.size) _ _ _ _ _ (.tail _ (.tail _ (.tail _ (.tail _ (.tail _ (.tail _ (.tail _ (.tail _ (.head _)))))))))
      go_wp2_with fail
      refine Calls.mono (HD.out _ (HN.out.below hS.below)) ?_
      rintro e w11 ⟨rfl, hb⟩
      clear c_x_0 c_x_1 c_x_2 c_x_3
      replace hS := hS.call hb
      replace hD := hD.below hb
      clear hb
      replace hS := hS.add' #[.string fn, .string fd] 27
      obtain ⟨W0, hW0, hS, hz0⟩ := hS
      replace hS := hS.add' #[.string sn, .string sd] 27
      obtain ⟨W1, hW1, hS, hz1⟩ := hS
      rw [hz0] at hS
      obtain ⟨W, hW⟩ : ∃ W, W = ((w11.alloc (.cells #[.string fn, .string fd] 27)).alloc (.cells #[.string sn, .string sd] 27)) := ⟨_, rfl⟩
      replace hS : BL w [(w11.heap.size + 1, #[.string sn, .string sd], 27), (w11.heap.size, #[.string fn, .string fd], 27), (w10.heap.size + 1, #[.string qn, .string qd], 27), (w10.heap.size, #[.string pn, .string pd], 27), (w8.heap.size + 1, #[.string en, .string ed], 27), (w8.heap.size, #[.string cn, .string cd], 27), (w6.heap.size + 1, #[.string bn, .string bd], 27), (w6.heap.size, #[.string an, .string ad], 27), (w4.heap.size + 1, #[.string un, .string ud], 27), (w4.heap.size, #[.string rn, .string rd], 27), (w.heap.size, #[.int .i64 xf, .int .i64 xs, .slice ag xl cap, .int .i64 xm], 24)] W := by rw [hW, ← hW0, ← hW1]; exact hS
      replace hD : SlD W v l := by rw [hW]; exact (hD.new _).new _
      clear hz0 hz1 hW1 hW0
      go_upto_region 12 with fail
      rw [← hW]
      clear hW
      obtain ⟨c_q_0, c_q_1⟩ := hS.c2 (w10.heap.size + 1) _ _ _ (.tail _ (.tail _ (.head _)))
      obtain ⟨c_r_0, c_r_1⟩ := hS.c2 (w4.heap.size) _ _ _ (.tail _ (.tail _ (.tail _ (.tail _ (.tail _ (.tail _ (.tail _ (.tail _ (.tail _ (.head _))))))))))
      go_wp2_with fail
      refine Calls.mono (C1.out _ (hS.env hE)) ?_
      rintro e w12 ⟨rfl, hb⟩
      clear c_q_0 c_q_1 c_r_0 c_r_1
      replace hS := hS.call hb
      replace hD := hD.below hb
      clear hb
      obtain ⟨c_q_0, c_q_1⟩ := hS.c2 (w10.heap.size + 1) _ _ _ (.tail _ (.tail _ (.head _)))
      obtain ⟨c_u_0, c_u_1⟩ := hS.c2 (w4.heap.size + 1) _ _ _ (.tail _ (.tail _ (.tail _ (.tail _ (.tail _ (.tail _ (.tail _ (.tail _ (.head _)))))))))
      go_wp2_with fail
      refine Calls.mono (C2.out _ (hS.env hE)) ?_
      rintro e w13 ⟨rfl, hb⟩
      clear c_q_0 c_q_1 c_u_0 c_u_1
      replace hS := hS.call hb
      replace hD := hD.below hb
      clear hb
      obtain ⟨c_p_0, c_p_1⟩ := hS.c2 (w10.heap.size) _ _ _ (.tail _ (.tail _ (.tail _ (.head _))))
      obtain ⟨c_q_0, c_q_1⟩ := hS.c2 (w10.heap.size + 1) _ _ _ (.tail _ (.tail _ (.head _)))
      go_wp2_with fail
      refine Calls.mono (FI.out _ _ (hS.env hE) hD) ?_
      rintro e w14 ⟨rfl, hb⟩
      clear c_p_0 c_p_1 c_q_0 c_q_1
      replace hS := hS.call hb
      replace hD := hD.below hb
      clear hb
      obtain ⟨c_x_0, c_x_1, c_x_2, c_x_3⟩ := hS.c4 (w.heap.size) _ _ _ _ _ (.tail _ (.tail _ (.tail _ (.tail _ (.tail _ (.tail _ (.tail _ (.tail _ (.tail _ (.tail _ (.head _)))))))))))
      go_wp2_with fail
      refine Calls.mono (MS.out _ (HN.out.below hS.below)) ?_
      rintro e w15 ⟨rfl, hb⟩
      clear c_x_0 c_x_1 c_x_2 c_x_3
      replace hS := hS.call hb
      replace hD := hD.below hb
      clear hb
      clear hD PK DY MD RA FA FB LI HD FI C1 C2 MS HN
      go_upto_region 16 with fail
      have hC0 : ∀ W', BL w [(w11.heap.size + 1, #[.string sn, .string sd], 27), (w11.heap.size, #[.string fn, .string fd], 27), (w10.heap.size + 1, #[.string qn, .string qd], 27), (w10.heap.size, #[.string pn, .string pd], 27), (w8.heap.size + 1, #[.string en, .string ed], 27), (w8.heap.size, #[.string cn, .string cd], 27), (w6.heap.size + 1, #[.string bn, .string bd], 27), (w6.heap.size, #[.string an, .string ad], 27), (w4.heap.size + 1, #[.string un, .string ud], 27), (w4.heap.size, #[.string rn, .string rd], 27), (w.heap.size, #[.int .i64 xf, .int .i64 xs, .slice ag xl cap, .int .i64 xm], 24)] W' → (W'.cell? ⟨w4.heap.size, 0, none⟩ = some (.string rn) ∧ W'.cell? ⟨w4.heap.size, 1, none⟩ = some (.string rd)) := fun W' h => ⟨(h.cell (w4.heap.size) _ _ (.tail _ (.tail _ (.tail _ (.tail _ (.tail _ (.tail _ (.tail _ (.tail _ (.tail _ (.head _)))))))))) 0), (h.cell (w4.heap.size) _ _ (.tail _ (.tail _ (.tail _ (.tail _ (.tail _ (.tail _ (.tail _ (.tail _ (.tail _ (.head _)))))))))) 1)⟩
      have hC := Lib.hid hC0
      clear hC0
      have h0 := hS
      obtain ⟨x0', x1'⟩ := hC.out _ hS
      replace hS := hS.drew
      go_cut [23, 24] (fun s e wx => ∃ g : Nat, s = .pointer (some ⟨g, 0, none⟩) ∧ e = .int .i64 0 ∧ w.heap.size ≤ g ∧ (∀ p ∈ ([(w11.heap.size + 1, #[.string sn, .string sd], 27), (w11.heap.size, #[.string fn, .string fd], 27), (w10.heap.size + 1, #[.string qn, .string qd], 27), (w10.heap.size, #[.string pn, .string pd], 27), (w8.heap.size + 1, #[.string en, .string ed], 27), (w8.heap.size, #[.string cn, .string cd], 27), (w6.heap.size + 1, #[.string bn, .string bd], 27), (w6.heap.size, #[.string an, .string ad], 27), (w4.heap.size + 1, #[.string un, .string ud], 27), (w4.heap.size, #[.string rn, .string rd], 27), (w.heap.size, #[.int .i64 xf, .int .i64 xs, .slice ag xl cap, .int .i64 xm], 24)] : BLs), p.1 < g) ∧ BL w ((g, #[.string lon, .string lod], 27) :: [(w11.heap.size + 1, #[.string sn, .string sd], 27), (w11.heap.size, #[.string fn, .string fd], 27), (w10.heap.size + 1, #[.string qn, .string qd], 27), (w10.heap.size, #[.string pn, .string pd], 27), (w8.heap.size + 1, #[.string en, .string ed], 27), (w8.heap.size, #[.string cn, .string cd], 27), (w6.heap.size + 1, #[.string bn, .string bd], 27), (w6.heap.size, #[.string an, .string ad], 27), (w4.heap.size + 1, #[.string un, .string ud], 27), (w4.heap.size, #[.string rn, .string rd], 27), (w.heap.size, #[.int .i64 xf, .int .i64 xs, .slice ag xl cap, .int .i64 xm], 24)]) wx)
      case first => as_aux_lemma =>
        go_region_held3 (fun w' => w'.cell? ⟨w4.heap.size, 0, none⟩ = some (.string rn) ∧ w'.cell? ⟨w4.heap.size, 1, none⟩ = some (.string rd))
          (first | with_reducible exact hC.out _ hS | with_reducible exact hC.out _ (hS.new _) | with_reducible exact hC.out _ ((h0.new _).drew) | with_reducible exact hC.out _ (hS.setG hge hlt _ _) | go_keep)
          (first | (go_at_call 30; (with_reducible refine Calls.mono (OF.out _) ?_); rintro e w' ⟨rfl, hb⟩; (first | (replace hS := hS.call hb; first | (replace hN := hN.below hb; have n0 := (blk_two hN).1; have n1 := (blk_two hN).2; have m0 := hN.frozen 0; have m1 := hN.frozen 1) | skip) | (have hlt := hS.lts; have hge := hS.below.size; have hN := nres hb; have n0 := (blk_two hN).1; have n1 := (blk_two hN).2; have m0 := hN.frozen 0; have m1 := hN.frozen 1; replace hS := (hS.new _).call hb) | (have hlt := h0.lts; have hge := h0.below.size; have hN := nres_drew hb; have n0 := (blk_two hN).1; have n1 := (blk_two hN).2; have m0 := hN.frozen 0; have m1 := hN.frozen 1; replace hS := ((h0.new _).drew).call hb)); clear hb) | (go_at_call 41; (with_reducible refine Calls.mono (M1.out _ ?_) ?_); (first | exact hS.env hE | exact (hS.new _).env hE | exact ((h0.new _).drew).env hE); rintro e w' ⟨rfl, hb⟩; (first | (replace hS := hS.call hb; first | (replace hN := hN.below hb; have n0 := (blk_two hN).1; have n1 := (blk_two hN).2; have m0 := hN.frozen 0; have m1 := hN.frozen 1) | skip) | (have hlt := hS.lts; have hge := hS.below.size; have hN := nres hb; have n0 := (blk_two hN).1; have n1 := (blk_two hN).2; have m0 := hN.frozen 0; have m1 := hN.frozen 1; replace hS := (hS.new _).call hb) | (have hlt := h0.lts; have hge := h0.below.size; have hN := nres_drew hb; have n0 := (blk_two hN).1; have n1 := (blk_two hN).2; have m0 := hN.frozen 0; have m1 := hN.frozen 1; replace hS := ((h0.new _).drew).call hb)); clear hb))
        all_goals (go_wp2_with fail; go_meet; first | exact ⟨_, rfl, rfl, hS.below.size, hS.lts, hS.add _ _⟩ | exact ⟨_, rfl, rfl, hge, hlt, (hS.setG hge hlt _ _).pushB ((hN.set 0 (.string lon)).set 1 (.string lod))⟩)
      case rest =>
        clear hS h0 hC x0' x1'
        obtain ⟨g1, rfl, rfl, g1ge, g1lt, hS⟩ := hcut
        go_upto_region 17 with fail
        have hC0 : ∀ W', BL w [(g1, #[.string lon, .string lod], 27), (w11.heap.size + 1, #[.string sn, .string sd], 27), (w11.heap.size, #[.string fn, .string fd], 27), (w10.heap.size + 1, #[.string qn, .string qd], 27), (w10.heap.size, #[.string pn, .string pd], 27), (w8.heap.size + 1, #[.string en, .string ed], 27), (w8.heap.size, #[.string cn, .string cd], 27), (w6.heap.size + 1, #[.string bn, .string bd], 27), (w6.heap.size, #[.string an, .string ad], 27), (w4.heap.size + 1, #[.string un, .string ud], 27), (w4.heap.size, #[.string rn, .string rd], 27), (w.heap.size, #[.int .i64 xf, .int .i64 xs, .slice ag xl cap, .int .i64 xm], 24)] W' → (W'.cell? ⟨w4.heap.size + 1, 0, none⟩ = some (.string un) ∧ W'.cell? ⟨w4.heap.size + 1, 1, none⟩ = some (.string ud)) := fun W' h => ⟨(h.cell (w4.heap.size + 1) _ _ (.tail _ (.tail _ (.tail _ (.tail _ (.tail _ (.tail _ (.tail _ (.tail _ (.tail _ (.head _)))))))))) 0), (h.cell (w4.heap.size + 1) _ _ (.tail _ (.tail _ (.tail _ (.tail _ (.tail _ (.tail _ (.tail _ (.tail _ (.tail _ (.head _)))))))))) 1)⟩
        have hC := Lib.hid hC0
        clear hC0
        have h0 := hS
        obtain ⟨x0', x1'⟩ := hC.out _ hS
        replace hS := hS.drew
        go_cut [25, 26] (fun s e wx => ∃ g : Nat, s = .pointer (some ⟨g, 0, none⟩) ∧ e = .int .i64 0 ∧ w.heap.size ≤ g ∧ (∀ p ∈ ([(g1, #[.string lon, .string lod], 27), (w11.heap.size + 1, #[.string sn, .string sd], 27), (w11.heap.size, #[.string fn, .string fd], 27), (w10.heap.size + 1, #[.string qn, .string qd], 27), (w10.heap.size, #[.string pn, .string pd], 27), (w8.heap.size + 1, #[.string en, .string ed], 27), (w8.heap.size, #[.string cn, .string cd], 27), (w6.heap.size + 1, #[.string bn, .string bd], 27), (w6.heap.size, #[.string an, .string ad], 27), (w4.heap.size + 1, #[.string un, .string ud], 27), (w4.heap.size, #[.string rn, .string rd], 27), (w.heap.size, #[.int .i64 xf, .int .i64 xs, .slice ag xl cap, .int .i64 xm], 24)] : BLs), p.1 < g) ∧ BL w ((g, #[.string hin, .string hid], 27) :: [(g1, #[.string lon, .string lod], 27), (w11.heap.size + 1, #[.string sn, .string sd], 27), (w11.heap.size, #[.string fn, .string fd], 27), (w10.heap.size + 1, #[.string qn, .string qd], 27), (w10.heap.size, #[.string pn, .string pd], 27), (w8.heap.size + 1, #[.string en, .string ed], 27), (w8.heap.size, #[.string cn, .string cd], 27), (w6.heap.size + 1, #[.string bn, .string bd], 27), (w6.heap.size, #[.string an, .string ad], 27), (w4.heap.size + 1, #[.string un, .string ud], 27), (w4.heap.size, #[.string rn, .string rd], 27), (w.heap.size, #[.int .i64 xf, .int .i64 xs, .slice ag xl cap, .int .i64 xm], 24)]) wx)
        case first => as_aux_lemma =>
          go_region_held3 (fun w' => w'.cell? ⟨w4.heap.size + 1, 0, none⟩ = some (.string un) ∧ w'.cell? ⟨w4.heap.size + 1, 1, none⟩ = some (.string ud))
            (first | with_reducible exact hC.out _ hS | with_reducible exact hC.out _ (hS.new _) | with_reducible exact hC.out _ ((h0.new _).drew) | with_reducible exact hC.out _ (hS.setG hge hlt _ _) | go_keep)
            (first | (go_at_call 30; (with_reducible refine Calls.mono (OF.out _) ?_); rintro e w' ⟨rfl, hb⟩; (first | (replace hS := hS.call hb; first | (replace hN := hN.below hb; have n0 := (blk_two hN).1; have n1 := (blk_two hN).2; have m0 := hN.frozen 0; have m1 := hN.frozen 1) | skip) | (have hlt := hS.lts; have hge := hS.below.size; have hN := nres hb; have n0 := (blk_two hN).1; have n1 := (blk_two hN).2; have m0 := hN.frozen 0; have m1 := hN.frozen 1; replace hS := (hS.new _).call hb) | (have hlt := h0.lts; have hge := h0.below.size; have hN := nres_drew hb; have n0 := (blk_two hN).1; have n1 := (blk_two hN).2; have m0 := hN.frozen 0; have m1 := hN.frozen 1; replace hS := ((h0.new _).drew).call hb)); clear hb) | (go_at_call 41; (with_reducible refine Calls.mono (M2.out _ ?_) ?_); (first | exact hS.env hE | exact (hS.new _).env hE | exact ((h0.new _).drew).env hE); rintro e w' ⟨rfl, hb⟩; (first | (replace hS := hS.call hb; first | (replace hN := hN.below hb; have n0 := (blk_two hN).1; have n1 := (blk_two hN).2; have m0 := hN.frozen 0; have m1 := hN.frozen 1) | skip) | (have hlt := hS.lts; have hge := hS.below.size; have hN := nres hb; have n0 := (blk_two hN).1; have n1 := (blk_two hN).2; have m0 := hN.frozen 0; have m1 := hN.frozen 1; replace hS := (hS.new _).call hb) | (have hlt := h0.lts; have hge := h0.below.size; have hN := nres_drew hb; have n0 := (blk_two hN).1; have n1 := (blk_two hN).2; have m0 := hN.frozen 0; have m1 := hN.frozen 1; replace hS := ((h0.new _).drew).call hb)); clear hb))
          all_goals (go_wp2_with fail; go_meet; first | exact ⟨_, rfl, rfl, hS.below.size, hS.lts, hS.add _ _⟩ | exact ⟨_, rfl, rfl, hge, hlt, (hS.setG hge hlt _ _).pushB ((hN.set 0 (.string hin)).set 1 (.string hid))⟩)
        case rest =>
          clear hS h0 hC x0' x1'
          obtain ⟨g2, rfl, rfl, g2ge, g2lt, hS⟩ := hcut
          obtain ⟨c_c_0, c_c_1⟩ := hS.c2 (w8.heap.size) _ _ _ (.tail _ (.tail _ (.tail _ (.tail _ (.tail _ (.tail _ (.tail _ (.head _))))))))
          obtain ⟨c_a_0, c_a_1⟩ := hS.c2 (w6.heap.size) _ _ _ (.tail _ (.tail _ (.tail _ (.tail _ (.tail _ (.tail _ (.tail _ (.tail _ (.tail _ (.head _))))))))))
          go_wp2_with fail
          refine Calls.mono (S1.out _ (hS.env hE)) ?_
          rintro e w16 ⟨rfl, hb⟩
          clear c_c_0 c_c_1 c_a_0 c_a_1
          replace hS := hS.call hb
          clear hb
          replace hS := hS.add' #[.string x1n, .string x1d] 27
          obtain ⟨W0, hW0, hS, hz0⟩ := hS
          obtain ⟨W, hW⟩ : ∃ W, W = (w16.alloc (.cells #[.string x1n, .string x1d] 27)) := ⟨_, rfl⟩
          replace hS : BL w [(w16.heap.size, #[.string x1n, .string x1d], 27), (g2, #[.string hin, .string hid], 27), (g1, #[.string lon, .string lod], 27), (w11.heap.size + 1, #[.string sn, .string sd], 27), (w11.heap.size, #[.string fn, .string fd], 27), (w10.heap.size + 1, #[.string qn, .string qd], 27), (w10.heap.size, #[.string pn, .string pd], 27), (w8.heap.size + 1, #[.string en, .string ed], 27), (w8.heap.size, #[.string cn, .string cd], 27), (w6.heap.size + 1, #[.string bn, .string bd], 27), (w6.heap.size, #[.string an, .string ad], 27), (w4.heap.size + 1, #[.string un, .string ud], 27), (w4.heap.size, #[.string rn, .string rd], 27), (w.heap.size, #[.int .i64 xf, .int .i64 xs, .slice ag xl cap, .int .i64 xm], 24)] W := by rw [hW, ← hW0]; exact hS
          clear hz0 hW0
          go_upto_region 19 with fail
          rw [← hW]
          clear hW
          obtain ⟨c_e_0, c_e_1⟩ := hS.c2 (w8.heap.size + 1) _ _ _ (.tail _ (.tail _ (.tail _ (.tail _ (.tail _ (.tail _ (.tail _ (.head _))))))))
          obtain ⟨c_b_0, c_b_1⟩ := hS.c2 (w6.heap.size + 1) _ _ _ (.tail _ (.tail _ (.tail _ (.tail _ (.tail _ (.tail _ (.tail _ (.tail _ (.tail _ (.head _))))))))))
          go_wp2_with fail
          refine Calls.mono (S2.out _ (hS.env hE)) ?_
          rintro e w17 ⟨rfl, hb⟩
          clear c_e_0 c_e_1 c_b_0 c_b_1
          replace hS := hS.call hb
          clear hb
          replace hS := hS.add' #[.string x2n, .string x2d] 27
          obtain ⟨W0, hW0, hS, hz0⟩ := hS
          obtain ⟨W, hW⟩ : ∃ W, W = (w17.alloc (.cells #[.string x2n, .string x2d] 27)) := ⟨_, rfl⟩
          replace hS : BL w [(w17.heap.size, #[.string x2n, .string x2d], 27), (w16.heap.size, #[.string x1n, .string x1d], 27), (g2, #[.string hin, .string hid], 27), (g1, #[.string lon, .string lod], 27), (w11.heap.size + 1, #[.string sn, .string sd], 27), (w11.heap.size, #[.string fn, .string fd], 27), (w10.heap.size + 1, #[.string qn, .string qd], 27), (w10.heap.size, #[.string pn, .string pd], 27), (w8.heap.size + 1, #[.string en, .string ed], 27), (w8.heap.size, #[.string cn, .string cd], 27), (w6.heap.size + 1, #[.string bn, .string bd], 27), (w6.heap.size, #[.string an, .string ad], 27), (w4.heap.size + 1, #[.string un, .string ud], 27), (w4.heap.size, #[.string rn, .string rd], 27), (w.heap.size, #[.int .i64 xf, .int .i64 xs, .slice ag xl cap, .int .i64 xm], 24)] W := by rw [hW, ← hW0]; exact hS
          clear hz0 hW0
          go_upto_region 22 with fail
          rw [← hW]
          clear hW
          obtain ⟨c_lo_0, c_lo_1⟩ := hS.c2 (g1) _ _ _ (.tail _ (.tail _ (.tail _ (.head _))))
          obtain ⟨c_x1_0, c_x1_1⟩ := hS.c2 (w16.heap.size) _ _ _ (.tail _ (.head _))
          go_wp2_with fail
          refine Calls.mono (D1.out _ (hS.env hE)) ?_
          rintro e w18 ⟨rfl, hb⟩
          clear c_lo_0 c_lo_1 c_x1_0 c_x1_1
          replace hS := hS.call hb
          clear hb
          obtain ⟨c_x1_0, c_x1_1⟩ := hS.c2 (w16.heap.size) _ _ _ (.tail _ (.head _))
          obtain ⟨c_hi_0, c_hi_1⟩ := hS.c2 (g2) _ _ _ (.tail _ (.tail _ (.head _)))
          go_wp2_with fail
          refine Calls.mono (D2.out _ (hS.env hE)) ?_
          rintro e w19 ⟨rfl, hb⟩
          clear c_x1_0 c_x1_1 c_hi_0 c_hi_1
          replace hS := hS.call hb
          clear hb
          obtain ⟨c_lo_0, c_lo_1⟩ := hS.c2 (g1) _ _ _ (.tail _ (.tail _ (.tail _ (.head _))))
          obtain ⟨c_x2_0, c_x2_1⟩ := hS.c2 (w17.heap.size) _ _ _ (.head _)
          go_wp2_with fail
          refine Calls.mono (D3.out _ (hS.env hE)) ?_
          rintro e w20 ⟨rfl, hb⟩
          clear c_lo_0 c_lo_1 c_x2_0 c_x2_1
          replace hS := hS.call hb
          clear hb
          obtain ⟨c_x2_0, c_x2_1⟩ := hS.c2 (w17.heap.size) _ _ _ (.head _)
          obtain ⟨c_hi_0, c_hi_1⟩ := hS.c2 (g2) _ _ _ (.tail _ (.tail _ (.head _)))
          go_wp2_with fail
          refine Calls.mono (D4.out _ (hS.env hE)) ?_
          rintro e w21 ⟨rfl, hb⟩
          clear c_x2_0 c_x2_1 c_hi_0 c_hi_1
          replace hS := hS.call hb
          clear hb
          go_wp2
          go_ret
          exact ⟨rfl, hS.below⟩
    | false =>
      replace C3r := C3r rfl
      replace C4r := C4r rfl
      replace MS := Lib.hid MS
      have Sv0 := BL.start w
      obtain ⟨V1, ev1, Sv1, zv1⟩ := Sv0.add' #[.int .i64 xf, .int .i64 xs, .slice ag xl cap, .int .i64 xm] 24
      have hV : V1 = (w.alloc (.cells #[.int .i64 xf, .int .i64 xs, .slice ag xl cap, .int .i64 xm] 24)) := by rw [ev1]
      have hS : BL w [(w.heap.size, #[.int .i64 xf, .int .i64 xs, .slice ag xl cap, .int .i64 xm], 24)] V1 := Sv1
      clear ev1 zv1 Sv0 Sv1
      go_enter Tryz.func7, Tryz.ntmps7
      go_wp2_with fail
      rw [← hV]
      clear hV
      refine Calls.mono (sane_any _ (hS.env hE)) ?_
      rintro e w1 ⟨rfl, hb⟩
      replace hS := hS.call hb
      clear hb
      obtain ⟨c_x_0, c_x_1, c_x_2, c_x_3⟩ := hS.c4 (w.heap.size) _ _ _ _ _ (.head _)
      go_wp2_with fail
      refine Calls.mono (MD.out _ (HN.out.below hS.below)) ?_
      rintro e w2 ⟨v, rfl, hD, hb⟩
      clear c_x_0 c_x_1 c_x_2 c_x_3
      replace hS := hS.call hb
      clear hb
      go_wp2_with fail
      refine Calls.mono (PK.out _) ?_
      rintro e w3 ⟨rfl, hb⟩
      replace hS := hS.call hb
      replace hD := hD.below hb
      clear hb
      go_wp2_with fail
      refine Calls.mono (RA.out _ _ (hS.env hE) hD) ?_
      rintro e w4 ⟨rfl, hb⟩
      replace hS := hS.call hb
      replace hD := hD.below hb
      clear hb
      replace hS := hS.add' #[.string rn, .string rd] 27
      obtain ⟨W0, hW0, hS, hz0⟩ := hS
      replace hS := hS.add' #[.string un, .string ud] 27
      obtain ⟨W1, hW1, hS, hz1⟩ := hS
      rw [hz0] at hS
      obtain ⟨W, hW⟩ : ∃ W, W = ((w4.alloc (.cells #[.string rn, .string rd] 27)).alloc (.cells #[.string un, .string ud] 27)) := ⟨_, rfl⟩
      replace hS : BL w [(w4.heap.size + 1, #[.string un, .string ud], 27), (w4.heap.size, #[.string rn, .string rd], 27), (w.heap.size, #[.int .i64 xf, .int .i64 xs, .slice ag xl cap, .int .i64 xm], 24)] W := by rw [hW, ← hW0, ← hW1]; exact hS
      replace hD : SlD W v l := by rw [hW]; exact (hD.new _).new _
      clear hz0 hz1 hW1 hW0
      go_wp2_with fail
      rw [← hW]
      clear hW
      refine Calls.mono (DY.out _) ?_
      rintro e w5 ⟨rfl, hb⟩
      replace hS := hS.call hb
      replace hD := hD.below hb
      clear hb
      go_wp2_with fail
      refine Calls.mono (FA.out _ _ (hS.env hE) hD) ?_
      rintro e w6 ⟨rfl, hb⟩
      replace hS := hS.call hb
      replace hD := hD.below hb
      clear hb
      replace hS := hS.add' #[.string an, .string ad] 27
      obtain ⟨W0, hW0, hS, hz0⟩ := hS
      replace hS := hS.add' #[.string bn, .string bd] 27
      obtain ⟨W1, hW1, hS, hz1⟩ := hS
      rw [hz0] at hS
      obtain ⟨W, hW⟩ : ∃ W, W = ((w6.alloc (.cells #[.string an, .string ad] 27)).alloc (.cells #[.string bn, .string bd] 27)) := ⟨_, rfl⟩
      replace hS : BL w [(w6.heap.size + 1, #[.string bn, .string bd], 27), (w6.heap.size, #[.string an, .string ad], 27), (w4.heap.size + 1, #[.string un, .string ud], 27), (w4.heap.size, #[.string rn, .string rd], 27), (w.heap.size, #[.int .i64 xf, .int .i64 xs, .slice ag xl cap, .int .i64 xm], 24)] W := by rw [hW, ← hW0, ← hW1]; exact hS
      replace hD : SlD W v l := by rw [hW]; exact (hD.new _).new _
      clear hz0 hz1 hW1 hW0
      go_wp2_with fail
      rw [← hW]
      clear hW
      refine Calls.mono (DY.out _) ?_
      rintro e w7 ⟨rfl, hb⟩
      replace hS := hS.call hb
      replace hD := hD.below hb
      clear hb
      go_wp2_with fail
      refine Calls.mono (FB.out _ _ (hS.env hE) hD) ?_
      rintro e w8 ⟨rfl, hb⟩
      replace hS := hS.call hb
      replace hD := hD.below hb
      clear hb
      replace hS := hS.add' #[.string cn, .string cd] 27
      obtain ⟨W0, hW0, hS, hz0⟩ := hS
      replace hS := hS.add' #[.string en, .string ed] 27
      obtain ⟨W1, hW1, hS, hz1⟩ := hS
      rw [hz0] at hS
      obtain ⟨W, hW⟩ : ∃ W, W = ((w8.alloc (.cells #[.string cn, .string cd] 27)).alloc (.cells #[.string en, .string ed] 27)) := ⟨_, rfl⟩
      replace hS : BL w [(w8.heap.size + 1, #[.string en, .string ed], 27), (w8.heap.size, #[.string cn, .string cd], 27), (w6.heap.size + 1, #[.string bn, .string bd], 27), (w6.heap.size, #[.string an, .string ad], 27), (w4.heap.size + 1, #[.string un, .string ud], 27), (w4.heap.size, #[.string rn, .string rd], 27), (w.heap.size, #[.int .i64 xf, .int .i64 xs, .slice ag xl cap, .int .i64 xm], 24)] W := by rw [hW, ← hW0, ← hW1]; exact hS
      replace hD : SlD W v l := by rw [hW]; exact (hD.new _).new _
      clear hz0 hz1 hW1 hW0
      go_wp2_with fail
      rw [← hW]
      clear hW
      refine Calls.mono (DY.out _) ?_
      rintro e w9 ⟨rfl, hb⟩
      replace hS := hS.call hb
      replace hD := hD.below hb
      clear hb
      go_wp2_with fail
      refine Calls.mono (LI.out _ _ (hS.env hE) hD) ?_
      rintro e w10 ⟨rfl, hb⟩
      replace hS := hS.call hb
      replace hD := hD.below hb
      clear hb
      replace hS := hS.add' #[.string pn, .string pd] 27
      obtain ⟨W0, hW0, hS, hz0⟩ := hS
      replace hS := hS.add' #[.string qn, .string qd] 27
      obtain ⟨W1, hW1, hS, hz1⟩ := hS
      rw [hz0] at hS
      obtain ⟨W, hW⟩ : ∃ W, W = ((w10.alloc (.cells #[.string pn, .string pd] 27)).alloc (.cells #[.string qn, .string qd] 27)) := ⟨_, rfl⟩
      replace hS : BL w [(w10.heap.size + 1, #[.string qn, .string qd], 27), (w10.heap.size, #[.string pn, .string pd], 27), (w8.heap.size + 1, #[.string en, .string ed], 27), (w8.heap.size, #[.string cn, .string cd], 27), (w6.heap.size + 1, #[.string bn, .string bd], 27), (w6.heap.size, #[.string an, .string ad], 27), (w4.heap.size + 1, #[.string un, .string ud], 27), (w4.heap.size, #[.string rn, .string rd], 27), (w.heap.size, #[.int .i64 xf, .int .i64 xs, .slice ag xl cap, .int .i64 xm], 24)] W := by rw [hW, ← hW0, ← hW1]; exact hS
      replace hD : SlD W v l := by rw [hW]; exact (hD.new _).new _
      clear hz0 hz1 hW1 hW0
      go_upto_region 11 with fail
      rw [← hW]
      clear hW
      obtain ⟨c_x_0, c_x_1, c_x_2, c_x_3⟩ := hS.c4 (w.heap.size) _ _ _ _ _ (.tail _ (.tail _ (.tail _ (.tail _ (.tail _ (.tail _ (.tail _ (.tail _ (.head _)))))))))
      go_wp2_with fail
      refine Calls.mono (HD.out _ (HN.out.below hS.below)) ?_
      rintro e w11 ⟨rfl, hb⟩
      clear c_x_0 c_x_1 c_x_2 c_x_3
      replace hS := hS.call hb
      replace hD := hD.below hb
      clear hb
      replace hS := hS.add' #[.string fn, .string fd] 27
      obtain ⟨W0, hW0, hS, hz0⟩ := hS
      replace hS := hS.add' #[.string sn, .string sd] 27
      obtain ⟨W1, hW1, hS, hz1⟩ := hS
      rw [hz0] at hS
      obtain ⟨W, hW⟩ : ∃ W, W = ((w11.alloc (.cells #[.string fn, .string fd] 27)).alloc (.cells #[.string sn, .string sd] 27)) := ⟨_, rfl⟩
      replace hS : BL w [(w11.heap.size + 1, #[.string sn, .string sd], 27), (w11.heap.size, #[.string fn, .string fd], 27), (w10.heap.size + 1, #[.string qn, .string qd], 27), (w10.heap.size, #[.string pn, .string pd], 27), (w8.heap.size + 1, #[.string en, .string ed], 27), (w8.heap.size, #[.string cn, .string cd], 27), (w6.heap.size + 1, #[.string bn, .string bd], 27), (w6.heap.size, #[.string an, .string ad], 27), (w4.heap.size + 1, #[.string un, .string ud], 27), (w4.heap.size, #[.string rn, .string rd], 27), (w.heap.size, #[.int .i64 xf, .int .i64 xs, .slice ag xl cap, .int .i64 xm], 24)] W := by rw [hW, ← hW0, ← hW1]; exact hS
      replace hD : SlD W v l := by rw [hW]; exact (hD.new _).new _
      clear hz0 hz1 hW1 hW0
      go_upto_region 12 with fail
      rw [← hW]
      clear hW
      obtain ⟨c_q_0, c_q_1⟩ := hS.c2 (w10.heap.size + 1) _ _ _ (.tail _ (.tail _ (.head _)))
      obtain ⟨c_r_0, c_r_1⟩ := hS.c2 (w4.heap.size) _ _ _ (.tail _ (.tail _ (.tail _ (.tail _ (.tail _ (.tail _ (.tail _ (.tail _ (.tail _ (.head _))))))))))
      go_wp2_with fail
      refine Calls.mono (C1.out _ (hS.env hE)) ?_
      rintro e w12 ⟨rfl, hb⟩
      clear c_q_0 c_q_1 c_r_0 c_r_1
      replace hS := hS.call hb
      replace hD := hD.below hb
      clear hb
      obtain ⟨c_q_0, c_q_1⟩ := hS.c2 (w10.heap.size + 1) _ _ _ (.tail _ (.tail _ (.head _)))
      obtain ⟨c_u_0, c_u_1⟩ := hS.c2 (w4.heap.size + 1) _ _ _ (.tail _ (.tail _ (.tail _ (.tail _ (.tail _ (.tail _ (.tail _ (.tail _ (.head _)))))))))
      go_wp2_with fail
      refine Calls.mono (C2.out _ (hS.env hE)) ?_
      rintro e w13 ⟨rfl, hb⟩
      clear c_q_0 c_q_1 c_u_0 c_u_1
      replace hS := hS.call hb
      replace hD := hD.below hb
      clear hb
      obtain ⟨c_p_0, c_p_1⟩ := hS.c2 (w10.heap.size) _ _ _ (.tail _ (.tail _ (.tail _ (.head _))))
      obtain ⟨c_q_0, c_q_1⟩ := hS.c2 (w10.heap.size + 1) _ _ _ (.tail _ (.tail _ (.head _)))
      go_wp2_with fail
      refine Calls.mono (FI.out _ _ (hS.env hE) hD) ?_
      rintro e w14 ⟨rfl, hb⟩
      clear c_p_0 c_p_1 c_q_0 c_q_1
      replace hS := hS.call hb
      replace hD := hD.below hb
      clear hb
      obtain ⟨c_x_0, c_x_1, c_x_2, c_x_3⟩ := hS.c4 (w.heap.size) _ _ _ _ _ (.tail _ (.tail _ (.tail _ (.tail _ (.tail _ (.tail _ (.tail _ (.tail _ (.tail _ (.tail _ (.head _)))))))))))
      go_wp2_with fail
      refine Calls.mono (MS.out _ (HN.out.below hS.below)) ?_
      rintro e w15 ⟨rfl, hb⟩
      clear c_x_0 c_x_1 c_x_2 c_x_3
      replace hS := hS.call hb
      replace hD := hD.below hb
      clear hb
      obtain ⟨c_sl_0, c_sl_1⟩ := hS.c2 (w11.heap.size + 1) _ _ _ (.head _)
      obtain ⟨c_r_0, c_r_1⟩ := hS.c2 (w4.heap.size) _ _ _ (.tail _ (.tail _ (.tail _ (.tail _ (.tail _ (.tail _ (.tail _ (.tail _ (.tail _ (.head _))))))))))
      go_wp2_with fail
      refine Calls.mono (C3.out _ (hS.env hE)) ?_
      rintro e w16 ⟨rfl, hb⟩
      clear c_sl_0 c_sl_1 c_r_0 c_r_1
      replace hS := hS.call hb
      replace hD := hD.below hb
      clear hb
      obtain ⟨c_sl_0, c_sl_1⟩ := hS.c2 (w11.heap.size + 1) _ _ _ (.head _)
      obtain ⟨c_u_0, c_u_1⟩ := hS.c2 (w4.heap.size + 1) _ _ _ (.tail _ (.tail _ (.tail _ (.tail _ (.tail _ (.tail _ (.tail _ (.tail _ (.head _)))))))))
      go_wp2_with fail
      refine Calls.mono (C4.out _ (hS.env hE)) ?_
      rintro e w17 ⟨rfl, hb⟩
      clear c_sl_0 c_sl_1 c_u_0 c_u_1
      replace hS := hS.call hb
      replace hD := hD.below hb
      clear hb
      clear hD PK DY MD RA FA FB LI HD FI C1 C2 MS HN C3 C4
      go_upto_region 16 with fail
      have hC0 : ∀ W', BL w [(w11.heap.size + 1, #[.string sn, .string sd], 27), (w11.heap.size, #[.string fn, .string fd], 27), (w10.heap.size + 1, #[.string qn, .string qd], 27), (w10.heap.size, #[.string pn, .string pd], 27), (w8.heap.size + 1, #[.string en, .string ed], 27), (w8.heap.size, #[.string cn, .string cd], 27), (w6.heap.size + 1, #[.string bn, .string bd], 27), (w6.heap.size, #[.string an, .string ad], 27), (w4.heap.size + 1, #[.string un, .string ud], 27), (w4.heap.size, #[.string rn, .string rd], 27), (w.heap.size, #[.int .i64 xf, .int .i64 xs, .slice ag xl cap, .int .i64 xm], 24)] W' → (W'.cell? ⟨w4.heap.size, 0, none⟩ = some (.string rn) ∧ W'.cell? ⟨w4.heap.size, 1, none⟩ = some (.string rd)) := fun W' h => ⟨(h.cell (w4.heap.size) _ _ (.tail _ (.tail _ (.tail _ (.tail _ (.tail _ (.tail _ (.tail _ (.tail _ (.tail _ (.head _)))))))))) 0), (h.cell (w4.heap.size) _ _ (.tail _ (.tail _ (.tail _ (.tail _ (.tail _ (.tail _ (.tail _ (.tail _ (.tail _ (.head _)))))))))) 1)⟩
      have hC := Lib.hid hC0
      clear hC0
      have h0 := hS
      obtain ⟨x0', x1'⟩ := hC.out _ hS
      replace hS := hS.drew
      go_cut [23, 24] (fun s e wx => ∃ g : Nat, s = .pointer (some ⟨g, 0, none⟩) ∧ e = .int .i64 0 ∧ w.heap.size ≤ g ∧ (∀ p ∈ ([(w11.heap.size + 1, #[.string sn, .string sd], 27), (w11.heap.size, #[.string fn, .string fd], 27), (w10.heap.size + 1, #[.string qn, .string qd], 27), (w10.heap.size, #[.string pn, .string pd], 27), (w8.heap.size + 1, #[.string en, .string ed], 27), (w8.heap.size, #[.string cn, .string cd], 27), (w6.heap.size + 1, #[.string bn, .string bd], 27), (w6.heap.size, #[.string an, .string ad], 27), (w4.heap.size + 1, #[.string un, .string ud], 27), (w4.heap.size, #[.string rn, .string rd], 27), (w.heap.size, #[.int .i64 xf, .int .i64 xs, .slice ag xl cap, .int .i64 xm], 24)] : BLs), p.1 < g) ∧ BL w ((g, #[.string lon, .string lod], 27) :: [(w11.heap.size + 1, #[.string sn, .string sd], 27), (w11.heap.size, #[.string fn, .string fd], 27), (w10.heap.size + 1, #[.string qn, .string qd], 27), (w10.heap.size, #[.string pn, .string pd], 27), (w8.heap.size + 1, #[.string en, .string ed], 27), (w8.heap.size, #[.string cn, .string cd], 27), (w6.heap.size + 1, #[.string bn, .string bd], 27), (w6.heap.size, #[.string an, .string ad], 27), (w4.heap.size + 1, #[.string un, .string ud], 27), (w4.heap.size, #[.string rn, .string rd], 27), (w.heap.size, #[.int .i64 xf, .int .i64 xs, .slice ag xl cap, .int .i64 xm], 24)]) wx)
      case first => as_aux_lemma =>
        go_region_held3 (fun w' => w'.cell? ⟨w4.heap.size, 0, none⟩ = some (.string rn) ∧ w'.cell? ⟨w4.heap.size, 1, none⟩ = some (.string rd))
          (first | with_reducible exact hC.out _ hS | with_reducible exact hC.out _ (hS.new _) | with_reducible exact hC.out _ ((h0.new _).drew) | with_reducible exact hC.out _ (hS.setG hge hlt _ _) | go_keep)
          (first | (go_at_call 30; (with_reducible refine Calls.mono (OF.out _) ?_); rintro e w' ⟨rfl, hb⟩; (first | (replace hS := hS.call hb; first | (replace hN := hN.below hb; have n0 := (blk_two hN).1; have n1 := (blk_two hN).2; have m0 := hN.frozen 0; have m1 := hN.frozen 1) | skip) | (have hlt := hS.lts; have hge := hS.below.size; have hN := nres hb; have n0 := (blk_two hN).1; have n1 := (blk_two hN).2; have m0 := hN.frozen 0; have m1 := hN.frozen 1; replace hS := (hS.new _).call hb) | (have hlt := h0.lts; have hge := h0.below.size; have hN := nres_drew hb; have n0 := (blk_two hN).1; have n1 := (blk_two hN).2; have m0 := hN.frozen 0; have m1 := hN.frozen 1; replace hS := ((h0.new _).drew).call hb)); clear hb) | (go_at_call 41; (with_reducible refine Calls.mono (M1.out _ ?_) ?_); (first | exact hS.env hE | exact (hS.new _).env hE | exact ((h0.new _).drew).env hE); rintro e w' ⟨rfl, hb⟩; (first | (replace hS := hS.call hb; first | (replace hN := hN.below hb; have n0 := (blk_two hN).1; have n1 := (blk_two hN).2; have m0 := hN.frozen 0; have m1 := hN.frozen 1) | skip) | (have hlt := hS.lts; have hge := hS.below.size; have hN := nres hb; have n0 := (blk_two hN).1; have n1 := (blk_two hN).2; have m0 := hN.frozen 0; have m1 := hN.frozen 1; replace hS := (hS.new _).call hb) | (have hlt := h0.lts; have hge := h0.below.size; have hN := nres_drew hb; have n0 := (blk_two hN).1; have n1 := (blk_two hN).2; have m0 := hN.frozen 0; have m1 := hN.frozen 1; replace hS := ((h0.new _).drew).call hb)); clear hb))
        all_goals (go_wp2_with fail; go_meet; first | exact ⟨_, rfl, rfl, hS.below.size, hS.lts, hS.add _ _⟩ | exact ⟨_, rfl, rfl, hge, hlt, (hS.setG hge hlt _ _).pushB ((hN.set 0 (.string lon)).set 1 (.string lod))⟩)
      case rest =>
        clear hS h0 hC x0' x1'
        obtain ⟨g1, rfl, rfl, g1ge, g1lt, hS⟩ := hcut
        go_upto_region 17 with fail
        have hC0 : ∀ W', BL w [(g1, #[.string lon, .string lod], 27), (w11.heap.size + 1, #[.string sn, .string sd], 27), (w11.heap.size, #[.string fn, .string fd], 27), (w10.heap.size + 1, #[.string qn, .string qd], 27), (w10.heap.size, #[.string pn, .string pd], 27), (w8.heap.size + 1, #[.string en, .string ed], 27), (w8.heap.size, #[.string cn, .string cd], 27), (w6.heap.size + 1, #[.string bn, .string bd], 27), (w6.heap.size, #[.string an, .string ad], 27), (w4.heap.size + 1, #[.string un, .string ud], 27), (w4.heap.size, #[.string rn, .string rd], 27), (w.heap.size, #[.int .i64 xf, .int .i64 xs, .slice ag xl cap, .int .i64 xm], 24)] W' → (W'.cell? ⟨w4.heap.size + 1, 0, none⟩ = some (.string un) ∧ W'.cell? ⟨w4.heap.size + 1, 1, none⟩ = some (.string ud)) := fun W' h => ⟨(h.cell (w4.heap.size + 1) _ _ (.tail _ (.tail _ (.tail _ (.tail _ (.tail _ (.tail _ (.tail _ (.tail _ (.tail _ (.head _)))))))))) 0), (h.cell (w4.heap.size + 1) _ _ (.tail _ (.tail _ (.tail _ (.tail _ (.tail _ (.tail _ (.tail _ (.tail _ (.tail _ (.head _)))))))))) 1)⟩
        have hC := Lib.hid hC0
        clear hC0
        have h0 := hS
        obtain ⟨x0', x1'⟩ := hC.out _ hS
        replace hS := hS.drew
        go_cut [25, 26] (fun s e wx => ∃ g : Nat, s = .pointer (some ⟨g, 0, none⟩) ∧ e = .int .i64 0 ∧ w.heap.size ≤ g ∧ (∀ p ∈ ([(g1, #[.string lon, .string lod], 27), (w11.heap.size + 1, #[.string sn, .string sd], 27), (w11.heap.size, #[.string fn, .string fd], 27), (w10.heap.size + 1, #[.string qn, .string qd], 27), (w10.heap.size, #[.string pn, .string pd], 27), (w8.heap.size + 1, #[.string en, .string ed], 27), (w8.heap.size, #[.string cn, .string cd], 27), (w6.heap.size + 1, #[.string bn, .string bd], 27), (w6.heap.size, #[.string an, .string ad], 27), (w4.heap.size + 1, #[.string un, .string ud], 27), (w4.heap.size, #[.string rn, .string rd], 27), (w.heap.size, #[.int .i64 xf, .int .i64 xs, .slice ag xl cap, .int .i64 xm], 24)] : BLs), p.1 < g) ∧ BL w ((g, #[.string hin, .string hid], 27) :: [(g1, #[.string lon, .string lod], 27), (w11.heap.size + 1, #[.string sn, .string sd], 27), (w11.heap.size, #[.string fn, .string fd], 27), (w10.heap.size + 1, #[.string qn, .string qd], 27), (w10.heap.size, #[.string pn, .string pd], 27), (w8.heap.size + 1, #[.string en, .string ed], 27), (w8.heap.size, #[.string cn, .string cd], 27), (w6.heap.size + 1, #[.string bn, .string bd], 27), (w6.heap.size, #[.string an, .string ad], 27), (w4.heap.size + 1, #[.string un, .string ud], 27), (w4.heap.size, #[.string rn, .string rd], 27), (w.heap.size, #[.int .i64 xf, .int .i64 xs, .slice ag xl cap, .int .i64 xm], 24)]) wx)
        case first => as_aux_lemma =>
          go_region_held3 (fun w' => w'.cell? ⟨w4.heap.size + 1, 0, none⟩ = some (.string un) ∧ w'.cell? ⟨w4.heap.size + 1, 1, none⟩ = some (.string ud))
            (first | with_reducible exact hC.out _ hS | with_reducible exact hC.out _ (hS.new _) | with_reducible exact hC.out _ ((h0.new _).drew) | with_reducible exact hC.out _ (hS.setG hge hlt _ _) | go_keep)
            (first | (go_at_call 30; (with_reducible refine Calls.mono (OF.out _) ?_); rintro e w' ⟨rfl, hb⟩; (first | (replace hS := hS.call hb; first | (replace hN := hN.below hb; have n0 := (blk_two hN).1; have n1 := (blk_two hN).2; have m0 := hN.frozen 0; have m1 := hN.frozen 1) | skip) | (have hlt := hS.lts; have hge := hS.below.size; have hN := nres hb; have n0 := (blk_two hN).1; have n1 := (blk_two hN).2; have m0 := hN.frozen 0; have m1 := hN.frozen 1; replace hS := (hS.new _).call hb) | (have hlt := h0.lts; have hge := h0.below.size; have hN := nres_drew hb; have n0 := (blk_two hN).1; have n1 := (blk_two hN).2; have m0 := hN.frozen 0; have m1 := hN.frozen 1; replace hS := ((h0.new _).drew).call hb)); clear hb) | (go_at_call 41; (with_reducible refine Calls.mono (M2.out _ ?_) ?_); (first | exact hS.env hE | exact (hS.new _).env hE | exact ((h0.new _).drew).env hE); rintro e w' ⟨rfl, hb⟩; (first | (replace hS := hS.call hb; first | (replace hN := hN.below hb; have n0 := (blk_two hN).1; have n1 := (blk_two hN).2; have m0 := hN.frozen 0; have m1 := hN.frozen 1) | skip) | (have hlt := hS.lts; have hge := hS.below.size; have hN := nres hb; have n0 := (blk_two hN).1; have n1 := (blk_two hN).2; have m0 := hN.frozen 0; have m1 := hN.frozen 1; replace hS := (hS.new _).call hb) | (have hlt := h0.lts; have hge := h0.below.size; have hN := nres_drew hb; have n0 := (blk_two hN).1; have n1 := (blk_two hN).2; have m0 := hN.frozen 0; have m1 := hN.frozen 1; replace hS := ((h0.new _).drew).call hb)); clear hb))
          all_goals (go_wp2_with fail; go_meet; first | exact ⟨_, rfl, rfl, hS.below.size, hS.lts, hS.add _ _⟩ | exact ⟨_, rfl, rfl, hge, hlt, (hS.setG hge hlt _ _).pushB ((hN.set 0 (.string hin)).set 1 (.string hid))⟩)
        case rest =>
          clear hS h0 hC x0' x1'
          obtain ⟨g2, rfl, rfl, g2ge, g2lt, hS⟩ := hcut
          obtain ⟨c_c_0, c_c_1⟩ := hS.c2 (w8.heap.size) _ _ _ (.tail _ (.tail _ (.tail _ (.tail _ (.tail _ (.tail _ (.tail _ (.head _))))))))
          obtain ⟨c_a_0, c_a_1⟩ := hS.c2 (w6.heap.size) _ _ _ (.tail _ (.tail _ (.tail _ (.tail _ (.tail _ (.tail _ (.tail _ (.tail _ (.tail _ (.head _))))))))))
          go_wp2_with fail
          refine Calls.mono (S1.out _ (hS.env hE)) ?_
          rintro e w18 ⟨rfl, hb⟩
          clear c_c_0 c_c_1 c_a_0 c_a_1
          replace hS := hS.call hb
          clear hb
          replace hS := hS.add' #[.string x1n, .string x1d] 27
          obtain ⟨W0, hW0, hS, hz0⟩ := hS
          obtain ⟨W, hW⟩ : ∃ W, W = (w18.alloc (.cells #[.string x1n, .string x1d] 27)) := ⟨_, rfl⟩
          replace hS : BL w [(w18.heap.size, #[.string x1n, .string x1d], 27), (g2, #[.string hin, .string hid], 27), (g1, #[.string lon, .string lod], 27), (w11.heap.size + 1, #[.string sn, .string sd], 27), (w11.heap.size, #[.string fn, .string fd], 27), (w10.heap.size + 1, #[.string qn, .string qd], 27), (w10.heap.size, #[.string pn, .string pd], 27), (w8.heap.size + 1, #[.string en, .string ed], 27), (w8.heap.size, #[.string cn, .string cd], 27), (w6.heap.size + 1, #[.string bn, .string bd], 27), (w6.heap.size, #[.string an, .string ad], 27), (w4.heap.size + 1, #[.string un, .string ud], 27), (w4.heap.size, #[.string rn, .string rd], 27), (w.heap.size, #[.int .i64 xf, .int .i64 xs, .slice ag xl cap, .int .i64 xm], 24)] W := by rw [hW, ← hW0]; exact hS
          clear hz0 hW0
          go_upto_region 19 with fail
          rw [← hW]
          clear hW
          obtain ⟨c_e_0, c_e_1⟩ := hS.c2 (w8.heap.size + 1) _ _ _ (.tail _ (.tail _ (.tail _ (.tail _ (.tail _ (.tail _ (.tail _ (.head _))))))))
          obtain ⟨c_b_0, c_b_1⟩ := hS.c2 (w6.heap.size + 1) _ _ _ (.tail _ (.tail _ (.tail _ (.tail _ (.tail _ (.tail _ (.tail _ (.tail _ (.tail _ (.head _))))))))))
          go_wp2_with fail
          refine Calls.mono (S2.out _ (hS.env hE)) ?_
          rintro e w19 ⟨rfl, hb⟩
          clear c_e_0 c_e_1 c_b_0 c_b_1
          replace hS := hS.call hb
          clear hb
          replace hS := hS.add' #[.string x2n, .string x2d] 27
          obtain ⟨W0, hW0, hS, hz0⟩ := hS
          obtain ⟨W, hW⟩ : ∃ W, W = (w19.alloc (.cells #[.string x2n, .string x2d] 27)) := ⟨_, rfl⟩
          replace hS : BL w [(w19.heap.size, #[.string x2n, .string x2d], 27), (w18.heap.size, #[.string x1n, .string x1d], 27), (g2, #[.string hin, .string hid], 27), (g1, #[.string lon, .string lod], 27), (w11.heap.size + 1, #[.string sn, .string sd], 27), (w11.heap.size, #[.string fn, .string fd], 27), (w10.heap.size + 1, #[.string qn, .string qd], 27), (w10.heap.size, #[.string pn, .string pd], 27), (w8.heap.size + 1, #[.string en, .string ed], 27), (w8.heap.size, #[.string cn, .string cd], 27), (w6.heap.size + 1, #[.string bn, .string bd], 27), (w6.heap.size, #[.string an, .string ad], 27), (w4.heap.size + 1, #[.string un, .string ud], 27), (w4.heap.size, #[.string rn, .string rd], 27), (w.heap.size, #[.int .i64 xf, .int .i64 xs, .slice ag xl cap, .int .i64 xm], 24)] W := by rw [hW, ← hW0]; exact hS
          clear hz0 hW0
          go_upto_region 22 with fail
          rw [← hW]
          clear hW
          obtain ⟨c_lo_0, c_lo_1⟩ := hS.c2 (g1) _ _ _ (.tail _ (.tail _ (.tail _ (.head _))))
          obtain ⟨c_x1_0, c_x1_1⟩ := hS.c2 (w18.heap.size) _ _ _ (.tail _ (.head _))
          go_wp2_with fail
          refine Calls.mono (D1.out _ (hS.env hE)) ?_
          rintro e w20 ⟨rfl, hb⟩
          clear c_lo_0 c_lo_1 c_x1_0 c_x1_1
          replace hS := hS.call hb
          clear hb
          obtain ⟨c_x1_0, c_x1_1⟩ := hS.c2 (w18.heap.size) _ _ _ (.tail _ (.head _))
          obtain ⟨c_hi_0, c_hi_1⟩ := hS.c2 (g2) _ _ _ (.tail _ (.tail _ (.head _)))
          go_wp2_with fail
          refine Calls.mono (D2.out _ (hS.env hE)) ?_
          rintro e w21 ⟨rfl, hb⟩
          clear c_x1_0 c_x1_1 c_hi_0 c_hi_1
          replace hS := hS.call hb
          clear hb
          obtain ⟨c_lo_0, c_lo_1⟩ := hS.c2 (g1) _ _ _ (.tail _ (.tail _ (.tail _ (.head _))))
          obtain ⟨c_x2_0, c_x2_1⟩ := hS.c2 (w19.heap.size) _ _ _ (.head _)
          go_wp2_with fail
          refine Calls.mono (D3.out _ (hS.env hE)) ?_
          rintro e w22 ⟨rfl, hb⟩
          clear c_lo_0 c_lo_1 c_x2_0 c_x2_1
          replace hS := hS.call hb
          clear hb
          obtain ⟨c_x2_0, c_x2_1⟩ := hS.c2 (w19.heap.size) _ _ _ (.head _)
          obtain ⟨c_hi_0, c_hi_1⟩ := hS.c2 (g2) _ _ _ (.tail _ (.tail _ (.head _)))
          go_wp2_with fail
          refine Calls.mono (D4.out _ (hS.env hE)) ?_
          rintro e w23 ⟨rfl, hb⟩
          clear c_x2_0 c_x2_1 c_hi_0 c_hi_1
          replace hS := hS.call hb
          clear hb
          go_wp2
          go_ret
          exact ⟨rfl, hS.below⟩

end Go.Proofs.YtonbmhdbcbbagaaGreatDoor
