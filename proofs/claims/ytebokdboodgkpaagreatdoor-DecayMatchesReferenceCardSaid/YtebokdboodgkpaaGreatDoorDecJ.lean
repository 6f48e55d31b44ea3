/- package decay: Forecast, Line, Rates, Reaches. -/
import Derived.Test.YtebokdboodgkpaaGreatDoorDecI
import Derived.Deep.RegionHeld3
import Derived.Deep.DeepCutAuto
import Derived.Deep.QuietTactic
import Derived.BigQuiet
import Derived.RegionTactic
import Derived.BigRegion
namespace Go.Proofs.YtebokdboodgkpaaGreatDoor
open Go.RowKit
open DecM (Dt gd okD inDay Ln fitting bst ext top bot sg fcst rts rch)
attribute [local go_sem] Oper.semAt_some


/-- Two result blocks, behind a store of two fractions. -/
theorem two_after {W : World} {R1 R2 : Nat} (h1 : Blk W R1 #[.string ⟨#[]⟩, .string ⟨#[]⟩] 27) (h2 : Blk W R2 #[.string ⟨#[]⟩, .string ⟨#[]⟩] 27) (hne : R1 ≠ R2) (a b c d : ByteArray) :
    W.cell? ⟨R1, 0, none⟩ = some (.string ⟨#[]⟩) ∧ W.cell? ⟨R1, 1, none⟩ = some (.string ⟨#[]⟩) ∧ W.cell? ⟨R2, 0, none⟩ = some (.string ⟨#[]⟩) ∧ W.cell? ⟨R2, 1, none⟩ = some (.string ⟨#[]⟩) ∧
      W.frozen? ⟨R1, 0, none⟩ = false ∧ W.frozen? ⟨R1, 1, none⟩ = false ∧ W.frozen? ⟨R2, 0, none⟩ = false ∧ W.frozen? ⟨R2, 1, none⟩ = false ∧
      ((((W.setCell ⟨R1, 0, none⟩ (.string a)).setCell ⟨R1, 1, none⟩ (.string b)).setCell ⟨R2, 0, none⟩ (.string c)).setCell ⟨R2, 1, none⟩ (.string d)).cell? ⟨R1, 0, none⟩ = some (.string a) ∧
      ((((W.setCell ⟨R1, 0, none⟩ (.string a)).setCell ⟨R1, 1, none⟩ (.string b)).setCell ⟨R2, 0, none⟩ (.string c)).setCell ⟨R2, 1, none⟩ (.string d)).cell? ⟨R1, 1, none⟩ = some (.string b) ∧
      ((((W.setCell ⟨R1, 0, none⟩ (.string a)).setCell ⟨R1, 1, none⟩ (.string b)).setCell ⟨R2, 0, none⟩ (.string c)).setCell ⟨R2, 1, none⟩ (.string d)).cell? ⟨R2, 0, none⟩ = some (.string c) ∧
      ((((W.setCell ⟨R1, 0, none⟩ (.string a)).setCell ⟨R1, 1, none⟩ (.string b)).setCell ⟨R2, 0, none⟩ (.string c)).setCell ⟨R2, 1, none⟩ (.string d)).cell? ⟨R2, 1, none⟩ = some (.string d) ∧
      (∀ V, Below V.heap.size V W → V.heap.size ≤ R1 → V.heap.size ≤ R2 → Below V.heap.size V ((((W.setCell ⟨R1, 0, none⟩ (.string a)).setCell ⟨R1, 1, none⟩ (.string b)).setCell ⟨R2, 0, none⟩ (.string c)).setCell ⟨R2, 1, none⟩ (.string d))) := by
  have m1 := (h1.set 0 (.string a)).set 1 (.string b)
  have o1 : Only [R1] W ((W.setCell ⟨R1, 0, none⟩ (.string a)).setCell ⟨R1, 1, none⟩ (.string b)) := ((Only.refl [R1] W).setCell (p := ⟨R1, 0, none⟩) (by simp) _).setCell (p := ⟨R1, 1, none⟩) (by simp) _
  have m2 := ((h2.only o1 (by simp; exact fun h => hne h.symm)).set 0 (.string c)).set 1 (.string d)
  have o2 : Only [R2] ((W.setCell ⟨R1, 0, none⟩ (.string a)).setCell ⟨R1, 1, none⟩ (.string b)) ((((W.setCell ⟨R1, 0, none⟩ (.string a)).setCell ⟨R1, 1, none⟩ (.string b)).setCell ⟨R2, 0, none⟩ (.string c)).setCell ⟨R2, 1, none⟩ (.string d)) := ((Only.refl [R2] _).setCell (p := ⟨R2, 0, none⟩) (by simp) _).setCell (p := ⟨R2, 1, none⟩) (by simp) _
  have m3 := m1.only o2 (by simp; exact hne)
  exact ⟨h1.cell 0, h1.cell 1, h2.cell 0, h2.cell 1, h1.frozen 0, h1.frozen 1, h2.frozen 0, h2.frozen 1, m3.cell 0, m3.cell 1, m2.cell 0, m2.cell 1,
    fun V hb hV1 hV2 => (((hb.setCell (p := ⟨R1, 0, none⟩) hV1 _).setCell (p := ⟨R1, 1, none⟩) hV1 _).setCell (p := ⟨R2, 0, none⟩) hV2 _).setCell (p := ⟨R2, 1, none⟩) hV2 _⟩
theorem cell_drew2 (W : World) (p : Addr) : W.drew.cell? p = W.cell? p := rfl
/-- Two fractions, or the error. -/
def fV (o : Option (Rat × Rat)) : Value := match o with
  | some (a, b) => .tuple #[.agg #[.string (numS a), .string (denS a)], .agg #[.string (numS b), .string (denS b)], .int .i64 0]
  | none => .tuple #[.agg #[.string ⟨#[]⟩, .string ⟨#[]⟩], .agg #[.string ⟨#[]⟩, .string ⟨#[]⟩], .int .i64 260]
theorem ex_pair {l : List Dt} {t : Int} : exO l t false = none ↔ exO l t true = none := by
  unfold exO
  cases hc : (okD l && inDay t) with
  | false => simp
  | true =>
    rw [Bool.and_eq_true] at hc
    have g := DecM.okD_good hc.1
    simp only [if_true]
    rw [DecM.ext_none g, DecM.ext_none g]
theorem fcst_ex2 (l : List Dt) (t : Int) : fcst l t = match exO l t false, exO l t true with
    | some x, some y => some (x.val t, y.val t)
    | _, _ => none := by
  unfold fcst exO
  cases okD l && inDay t <;> rfl
theorem oOf_ratio {n d : Int} (h : d ≠ 0) : oOf n d = some (DecM.ratio n d) := by
  unfold oOf oIf DecM.ratio
  rw [if_pos (by simpa using h), Rat.divInt_eq_div]
theorem fits_on {x : Ln} (h : LnOk x) {t : Int} (ht : 0 ≤ t ∧ t ≤ 800000) : Fits (x.on t) := by have := on_le h ht; unfold Fits; omega
theorem exO_day {l : List Dt} {t : Int} {hi : Bool} {y : Ln} (h : exO l t hi = some y) : 0 ≤ t ∧ t ≤ 800000 := by
  unfold exO at h
  split at h
  · rename_i hc
    rw [Bool.and_eq_true] at hc
    exact DecM.inDay_iff.1 hc.2
  · cases h

set_option maxRecDepth 100000 in
set_option maxHeartbeats 16000000 in
/-- decay.Forecast. -/
theorem forecast_any (v : Value) (l : List Dt) (t : Int) (w : World) (hE : Env w) (h : SlD w v l) :
    Calls Tryz.prog 17 #[v, .int .i64 t] w (Rets w (fV (fcst l t))) := by
  have X0 := fun W (h : SlD W v l) => extreme_any v l t false W h
  have X1 := fun W (h : SlD W v l) => extreme_any v l t true W h
  have hpair := ex_pair (l := l) (t := t)
  have ho0 := fun y => exO_ok (l := l) (t := t) (hi := false) (y := y)
  have ho1 := fun y => exO_ok (l := l) (t := t) (hi := true) (y := y)
  have hday := fun y => exO_day (l := l) (t := t) (hi := false) (y := y)
  rw [fcst_ex2]
  generalize exO l t false = o0 at *
  generalize exO l t true = o1 at *
  have HL := Lib.hid h
  obtain ⟨ag, cap, rfl⟩ := h.shape
  clear h
  have S0 := BL.start w
  obtain ⟨V1, ev1, S1, zv1⟩ := S0.add' #[.string ⟨#[]⟩, .string ⟨#[]⟩] 27
  obtain ⟨V2, ev2, S2, zv2⟩ := S1.add' #[.string ⟨#[]⟩, .string ⟨#[]⟩] 27
  rw [zv1] at S2 zv2
  have hV : V2 = ((w.alloc (.cells #[.string ⟨#[]⟩, .string ⟨#[]⟩] 27)).alloc (.cells #[.string ⟨#[]⟩, .string ⟨#[]⟩] 27)) := by rw [ev2, ev1]
  have hS : BL w [(w.heap.size + 1, #[.string ⟨#[]⟩, .string ⟨#[]⟩], 27), (w.heap.size, #[.string ⟨#[]⟩, .string ⟨#[]⟩], 27)] V2 := S2
  clear ev1 ev2 zv1 zv2 S0 S1 S2
  cases o0 with
  | none =>
    obtain rfl := hpair.1 rfl
    clear hpair ho0 ho1 hday
    show Calls _ _ _ _ (Rets w (.tuple #[.agg #[.string ⟨#[]⟩, .string ⟨#[]⟩], .agg #[.string ⟨#[]⟩, .string ⟨#[]⟩], .int .i64 260]))
    unfold xV oC at X0 X1
    replace X0 := Lib.hid X0
    replace X1 := Lib.hid X1
    go_enter Tryz.func17, Tryz.ntmps17
    go_wp2_with fail
    rw [← hV]
    clear hV
    refine Calls.mono (X0.out _ (HL.out.below hS.below)) ?_
    rintro e w1 ⟨rfl, hb⟩
    replace hS := hS.call hb
    clear hb
    replace hS := hS.add' #[.int .i64 0, .int .i64 0, .int .i64 0, .int .i64 0] 63
    obtain ⟨W0, hW0, hS, hz0⟩ := hS
    obtain ⟨W, hW⟩ : ∃ W, W = (w1.alloc (.cells #[.int .i64 0, .int .i64 0, .int .i64 0, .int .i64 0] 63)) := ⟨_, rfl⟩
    replace hS : BL w [(w1.heap.size, #[.int .i64 0, .int .i64 0, .int .i64 0, .int .i64 0], 63), (w.heap.size + 1, #[.string ⟨#[]⟩, .string ⟨#[]⟩], 27), (w.heap.size, #[.string ⟨#[]⟩, .string ⟨#[]⟩], 27)] W := by rw [hW, ← hW0]; exact hS
    clear hz0 hW0
    go_wp2_with fail
    rw [← hW]
    clear hW
    refine Calls.mono (X1.out _ (HL.out.below hS.below)) ?_
    rintro e w2 ⟨rfl, hb⟩
    replace hS := hS.call hb
    clear hb
    replace hS := hS.add' #[.int .i64 0, .int .i64 0, .int .i64 0, .int .i64 0] 63
    obtain ⟨W0, hW0, hS, hz0⟩ := hS
    obtain ⟨W, hW⟩ : ∃ W, W = (w2.alloc (.cells #[.int .i64 0, .int .i64 0, .int .i64 0, .int .i64 0] 63)) := ⟨_, rfl⟩
    replace hS : BL w [(w2.heap.size, #[.int .i64 0, .int .i64 0, .int .i64 0, .int .i64 0], 63), (w1.heap.size, #[.int .i64 0, .int .i64 0, .int .i64 0, .int .i64 0], 63), (w.heap.size + 1, #[.string ⟨#[]⟩, .string ⟨#[]⟩], 27), (w.heap.size, #[.string ⟨#[]⟩, .string ⟨#[]⟩], 27)] W := by rw [hW, ← hW0]; exact hS
    clear hz0 hW0
    go_upto_region 4 with fail
    rw [← hW]
    clear hW
    obtain ⟨k0, k1, k2, k3, q0, q1, q2, q3, y0, y1, y2, y3, hfin⟩ := two_after (hS.blks _ (.tail _ (.tail _ (.tail _ (.head _))))) (hS.blks _ (.tail _ (.tail _ (.head _)))) (by omega) ⟨#[]⟩ ⟨#[]⟩ ⟨#[]⟩ ⟨#[]⟩
    have hfin := Lib.hid (hfin w hS.below (by omega) (by omega))
    clear hS
    go_wp2
    exact bodyPost_ret (v := .tuple #[.agg #[.string ⟨#[]⟩, .string ⟨#[]⟩], .agg #[.string ⟨#[]⟩, .string ⟨#[]⟩], .int .i64 260]) (by simp [results, Tryz.results17, go_sem, y0, y1, y2, y3]) rfl ⟨rfl, hfin.out⟩
  | some x =>
    cases o1 with
    | none => exact absurd (hpair.2 rfl) (by simp)
    | some y =>
      obtain ⟨hx, hx0⟩ := ho0 x rfl
      obtain ⟨hy, hy0⟩ := ho1 y rfl
      have ht := hday x rfl
      clear hpair ho0 ho1 hday
      unfold xV oC at X0 X1
      replace X0 := Lib.hid X0
      replace X1 := Lib.hid X1
      have NX := Lib.hid (fun W => on_any x t hx ht W)
      have OX := fun W (hE : Env W) => qof_o (x.on t) (x.u - x.t) (fits_on hx ht) (by unfold Fits; have := hx.t; have := hx.u; omega) W hE
      rw [oOf_ratio (by omega)] at OX
      have wx : IntKind.i64.wrap (x.u - x.t) = x.u - x.t := IntWalk.i64_in _ (by have := hx.t; have := hx.u; omega)
      have NY := Lib.hid (fun W => on_any y t hy ht W)
      have OY := fun W (hE : Env W) => qof_o (y.on t) (y.u - y.t) (fits_on hy ht) (by unfold Fits; have := hy.t; have := hy.u; omega) W hE
      rw [oOf_ratio (by omega)] at OY
      have wy : IntKind.i64.wrap (y.u - y.t) = y.u - y.t := IntWalk.i64_in _ (by have := hy.t; have := hy.u; omega)
      unfold oV at OX OY
      show Calls _ _ _ _ (Rets w (.tuple #[.agg #[.string (tN (some (DecM.ratio (x.on t) (x.u - x.t)))), .string (tD (some (DecM.ratio (x.on t) (x.u - x.t))))], .agg #[.string (tN (some (DecM.ratio (y.on t) (y.u - y.t)))), .string (tD (some (DecM.ratio (y.on t) (y.u - y.t))))], .int .i64 0]))
      generalize tN (some (DecM.ratio (x.on t) (x.u - x.t))) = an at *
      generalize tD (some (DecM.ratio (x.on t) (x.u - x.t))) = ad at *
      generalize eO (some (DecM.ratio (x.on t) (x.u - x.t))) = ae at *
      generalize x.on t = xo at *
      generalize tN (some (DecM.ratio (y.on t) (y.u - y.t))) = bn at *
      generalize tD (some (DecM.ratio (y.on t) (y.u - y.t))) = bd at *
      generalize eO (some (DecM.ratio (y.on t) (y.u - y.t))) = be at *
      generalize y.on t = yo at *
      clear hx hy hx0 hy0 ht
      replace OX := Lib.hid OX
      replace OY := Lib.hid OY
      go_enter Tryz.func17, Tryz.ntmps17
      go_wp2_with fail
      rw [← hV]
      clear hV
      refine Calls.mono (X0.out _ (HL.out.below hS.below)) ?_
      rintro e w1 ⟨rfl, hb⟩
      replace hS := hS.call hb
      clear hb
      replace hS := hS.add' #[.int .i64 x.t, .int .i64 x.v, .int .i64 x.u, .int .i64 x.w] 63
      obtain ⟨W0, hW0, hS, hz0⟩ := hS
      obtain ⟨W, hW⟩ : ∃ W, W = (w1.alloc (.cells #[.int .i64 x.t, .int .i64 x.v, .int .i64 x.u, .int .i64 x.w] 63)) := ⟨_, rfl⟩
      replace hS : BL w [(w1.heap.size, #[.int .i64 x.t, .int .i64 x.v, .int .i64 x.u, .int .i64 x.w], 63), (w.heap.size + 1, #[.string ⟨#[]⟩, .string ⟨#[]⟩], 27), (w.heap.size, #[.string ⟨#[]⟩, .string ⟨#[]⟩], 27)] W := by rw [hW, ← hW0]; exact hS
      clear hz0 hW0
      go_wp2_with fail
      rw [← hW]
      clear hW
      refine Calls.mono (X1.out _ (HL.out.below hS.below)) ?_
      rintro e w2 ⟨rfl, hb⟩
      replace hS := hS.call hb
      clear hb
      replace hS := hS.add' #[.int .i64 y.t, .int .i64 y.v, .int .i64 y.u, .int .i64 y.w] 63
      obtain ⟨W0, hW0, hS, hz0⟩ := hS
      obtain ⟨W, hW⟩ : ∃ W, W = (w2.alloc (.cells #[.int .i64 y.t, .int .i64 y.v, .int .i64 y.u, .int .i64 y.w] 63)) := ⟨_, rfl⟩
      replace hS : BL w [(w2.heap.size, #[.int .i64 y.t, .int .i64 y.v, .int .i64 y.u, .int .i64 y.w], 63), (w1.heap.size, #[.int .i64 x.t, .int .i64 x.v, .int .i64 x.u, .int .i64 x.w], 63), (w.heap.size + 1, #[.string ⟨#[]⟩, .string ⟨#[]⟩], 27), (w.heap.size, #[.string ⟨#[]⟩, .string ⟨#[]⟩], 27)] W := by rw [hW, ← hW0]; exact hS
      clear hz0 hW0
      go_upto_region 5 with fail
      rw [← hW]
      clear hW
      have hC0 : ∀ W', BL w [(w2.heap.size, #[.int .i64 y.t, .int .i64 y.v, .int .i64 y.u, .int .i64 y.w], 63), (w1.heap.size, #[.int .i64 x.t, .int .i64 x.v, .int .i64 x.u, .int .i64 x.w], 63), (w.heap.size + 1, #[.string ⟨#[]⟩, .string ⟨#[]⟩], 27), (w.heap.size, #[.string ⟨#[]⟩, .string ⟨#[]⟩], 27)] W' → (W'.cell? ⟨w1.heap.size, 0, none⟩ = some (.int .i64 x.t) ∧ W'.cell? ⟨w1.heap.size, 1, none⟩ = some (.int .i64 x.v) ∧ W'.cell? ⟨w1.heap.size, 2, none⟩ = some (.int .i64 x.u) ∧ W'.cell? ⟨w1.heap.size, 3, none⟩ = some (.int .i64 x.w)) := fun W' h => ⟨(h.cell (w1.heap.size) _ _ (.tail _ (.head _)) 0), (h.cell (w1.heap.size) _ _ (.tail _ (.head _)) 1), (h.cell (w1.heap.size) _ _ (.tail _ (.head _)) 2), (h.cell (w1.heap.size) _ _ (.tail _ (.head _)) 3)⟩
      have hC := Lib.hid hC0
      clear hC0
      have h0 := hS
      obtain ⟨x0', x1', x2', x3'⟩ := hC.out _ hS
      replace hS := hS.drew
      go_cut [11, 12] (fun s e wx => ∃ g : Nat, s = .pointer (some ⟨g, 0, none⟩) ∧ e = .int .i64 ae ∧ w.heap.size ≤ g ∧ (∀ p ∈ ([(w2.heap.size, #[.int .i64 y.t, .int .i64 y.v, .int .i64 y.u, .int .i64 y.w], 63), (w1.heap.size, #[.int .i64 x.t, .int .i64 x.v, .int .i64 x.u, .int .i64 x.w], 63), (w.heap.size + 1, #[.string ⟨#[]⟩, .string ⟨#[]⟩], 27), (w.heap.size, #[.string ⟨#[]⟩, .string ⟨#[]⟩], 27)] : BLs), p.1 < g) ∧ BL w ((g, #[.string an, .string ad], 27) :: [(w2.heap.size, #[.int .i64 y.t, .int .i64 y.v, .int .i64 y.u, .int .i64 y.w], 63), (w1.heap.size, #[.int .i64 x.t, .int .i64 x.v, .int .i64 x.u, .int .i64 x.w], 63), (w.heap.size + 1, #[.string ⟨#[]⟩, .string ⟨#[]⟩], 27), (w.heap.size, #[.string ⟨#[]⟩, .string ⟨#[]⟩], 27)]) wx)
      case first => as_aux_lemma =>
        go_region_held3 (fun w' => w'.cell? ⟨w1.heap.size, 0, none⟩ = some (.int .i64 x.t) ∧ w'.cell? ⟨w1.heap.size, 1, none⟩ = some (.int .i64 x.v) ∧ w'.cell? ⟨w1.heap.size, 2, none⟩ = some (.int .i64 x.u) ∧ w'.cell? ⟨w1.heap.size, 3, none⟩ = some (.int .i64 x.w))
          (first | with_reducible exact hC.out _ hS | with_reducible exact hC.out _ (hS.new _) | with_reducible exact hC.out _ ((h0.new _).drew) | with_reducible exact hC.out _ (hS.setG hge hlt _ _) | go_keep)
          (first | (go_at_call 33; (with_reducible refine Calls.mono (NX.out _) ?_); rintro e w' ⟨rfl, hb⟩; (first | (replace hS := hS.call hb; first | (replace hN := hN.below hb; have n0 := (blk_two hN).1; have n1 := (blk_two hN).2; have m0 := hN.frozen 0; have m1 := hN.frozen 1) | skip) | (have hlt := hS.lts; have hge := hS.below.size; have hN := nres hb; have n0 := (blk_two hN).1; have n1 := (blk_two hN).2; have m0 := hN.frozen 0; have m1 := hN.frozen 1; replace hS := (hS.new _).call hb) | (have hlt := h0.lts; have hge := h0.below.size; have hN := nres_drew hb; have n0 := (blk_two hN).1; have n1 := (blk_two hN).2; have m0 := hN.frozen 0; have m1 := hN.frozen 1; replace hS := ((h0.new _).drew).call hb)); clear hb) | (go_at_call 38; (with_reducible refine Calls.mono (OX.out _ ?_) ?_); (first | exact hS.env hE | exact (hS.new _).env hE | exact ((h0.new _).drew).env hE); rintro e w' ⟨rfl, hb⟩; (first | (replace hS := hS.call hb; first | (replace hN := hN.below hb; have n0 := (blk_two hN).1; have n1 := (blk_two hN).2; have m0 := hN.frozen 0; have m1 := hN.frozen 1) | skip) | (have hlt := hS.lts; have hge := hS.below.size; have hN := nres hb; have n0 := (blk_two hN).1; have n1 := (blk_two hN).2; have m0 := hN.frozen 0; have m1 := hN.frozen 1; replace hS := (hS.new _).call hb) | (have hlt := h0.lts; have hge := h0.below.size; have hN := nres_drew hb; have n0 := (blk_two hN).1; have n1 := (blk_two hN).2; have m0 := hN.frozen 0; have m1 := hN.frozen 1; replace hS := ((h0.new _).drew).call hb)); clear hb))
        all_goals (go_wp2_with fail; go_meet; first | exact ⟨_, rfl, rfl, hS.below.size, hS.lts, hS.add _ _⟩ | exact ⟨_, rfl, rfl, hge, hlt, (hS.setG hge hlt _ _).pushB ((hN.set 0 (.string an)).set 1 (.string ad))⟩)
      case rest =>
        clear hS h0 hC x0' x1' x2' x3'
        obtain ⟨g1, rfl, rfl, g1ge, g1lt, hS⟩ := hcut
        go_upto_region 6 with fail
        have hC0 : ∀ W', BL w [(g1, #[.string an, .string ad], 27), (w2.heap.size, #[.int .i64 y.t, .int .i64 y.v, .int .i64 y.u, .int .i64 y.w], 63), (w1.heap.size, #[.int .i64 x.t, .int .i64 x.v, .int .i64 x.u, .int .i64 x.w], 63), (w.heap.size + 1, #[.string ⟨#[]⟩, .string ⟨#[]⟩], 27), (w.heap.size, #[.string ⟨#[]⟩, .string ⟨#[]⟩], 27)] W' → (W'.cell? ⟨w2.heap.size, 0, none⟩ = some (.int .i64 y.t) ∧ W'.cell? ⟨w2.heap.size, 1, none⟩ = some (.int .i64 y.v) ∧ W'.cell? ⟨w2.heap.size, 2, none⟩ = some (.int .i64 y.u) ∧ W'.cell? ⟨w2.heap.size, 3, none⟩ = some (.int .i64 y.w)) := fun W' h => ⟨(h.cell (w2.heap.size) _ _ (.tail _ (.head _)) 0), (h.cell (w2.heap.size) _ _ (.tail _ (.head _)) 1), (h.cell (w2.heap.size) _ _ (.tail _ (.head _)) 2), (h.cell (w2.heap.size) _ _ (.tail _ (.head _)) 3)⟩
        have hC := Lib.hid hC0
        clear hC0
        have h0 := hS
        obtain ⟨x0', x1', x2', x3'⟩ := hC.out _ hS
        replace hS := hS.drew
        go_cut [13, 14] (fun s e wx => ∃ g : Nat, s = .pointer (some ⟨g, 0, none⟩) ∧ e = .int .i64 be ∧ w.heap.size ≤ g ∧ (∀ p ∈ ([(g1, #[.string an, .string ad], 27), (w2.heap.size, #[.int .i64 y.t, .int .i64 y.v, .int .i64 y.u, .int .i64 y.w], 63), (w1.heap.size, #[.int .i64 x.t, .int .i64 x.v, .int .i64 x.u, .int .i64 x.w], 63), (w.heap.size + 1, #[.string ⟨#[]⟩, .string ⟨#[]⟩], 27), (w.heap.size, #[.string ⟨#[]⟩, .string ⟨#[]⟩], 27)] : BLs), p.1 < g) ∧ BL w ((g, #[.string bn, .string bd], 27) :: [(g1, #[.string an, .string ad], 27), (w2.heap.size, #[.int .i64 y.t, .int .i64 y.v, .int .i64 y.u, .int .i64 y.w], 63), (w1.heap.size, #[.int .i64 x.t, .int .i64 x.v, .int .i64 x.u, .int .i64 x.w], 63), (w.heap.size + 1, #[.string ⟨#[]⟩, .string ⟨#[]⟩], 27), (w.heap.size, #[.string ⟨#[]⟩, .string ⟨#[]⟩], 27)]) wx)
        case first => as_aux_lemma =>
          go_region_held3 (fun w' => w'.cell? ⟨w2.heap.size, 0, none⟩ = some (.int .i64 y.t) ∧ w'.cell? ⟨w2.heap.size, 1, none⟩ = some (.int .i64 y.v) ∧ w'.cell? ⟨w2.heap.size, 2, none⟩ = some (.int .i64 y.u) ∧ w'.cell? ⟨w2.heap.size, 3, none⟩ = some (.int .i64 y.w))
            (first | with_reducible exact hC.out _ hS | with_reducible exact hC.out _ (hS.new _) | with_reducible exact hC.out _ ((h0.new _).drew) | with_reducible exact hC.out _ (hS.setG hge hlt _ _) | go_keep)
            (first | (go_at_call 33; (with_reducible refine Calls.mono (NY.out _) ?_); rintro e w' ⟨rfl, hb⟩; (first | (replace hS := hS.call hb; first | (replace hN := hN.below hb; have n0 := (blk_two hN).1; have n1 := (blk_two hN).2; have m0 := hN.frozen 0; have m1 := hN.frozen 1) | skip) | (have hlt := hS.lts; have hge := hS.below.size; have hN := nres hb; have n0 := (blk_two hN).1; have n1 := (blk_two hN).2; have m0 := hN.frozen 0; have m1 := hN.frozen 1; replace hS := (hS.new _).call hb) | (have hlt := h0.lts; have hge := h0.below.size; have hN := nres_drew hb; have n0 := (blk_two hN).1; have n1 := (blk_two hN).2; have m0 := hN.frozen 0; have m1 := hN.frozen 1; replace hS := ((h0.new _).drew).call hb)); clear hb) | (go_at_call 38; (with_reducible refine Calls.mono (OY.out _ ?_) ?_); (first | exact hS.env hE | exact (hS.new _).env hE | exact ((h0.new _).drew).env hE); rintro e w' ⟨rfl, hb⟩; (first | (replace hS := hS.call hb; first | (replace hN := hN.below hb; have n0 := (blk_two hN).1; have n1 := (blk_two hN).2; have m0 := hN.frozen 0; have m1 := hN.frozen 1) | skip) | (have hlt := hS.lts; have hge := hS.below.size; have hN := nres hb; have n0 := (blk_two hN).1; have n1 := (blk_two hN).2; have m0 := hN.frozen 0; have m1 := hN.frozen 1; replace hS := (hS.new _).call hb) | (have hlt := h0.lts; have hge := h0.below.size; have hN := nres_drew hb; have n0 := (blk_two hN).1; have n1 := (blk_two hN).2; have m0 := hN.frozen 0; have m1 := hN.frozen 1; replace hS := ((h0.new _).drew).call hb)); clear hb))
          all_goals (go_wp2_with fail; go_meet; first | exact ⟨_, rfl, rfl, hS.below.size, hS.lts, hS.add _ _⟩ | exact ⟨_, rfl, rfl, hge, hlt, (hS.setG hge hlt _ _).pushB ((hN.set 0 (.string bn)).set 1 (.string bd))⟩)
        case rest =>
          clear hS h0 hC x0' x1' x2' x3'
          obtain ⟨g2, rfl, rfl, g2ge, g2lt, hS⟩ := hcut
          have g1ne := g1lt _ (.tail _ (.tail _ (.tail _ (.head _))))
          have g1ne2 := g1lt _ (.tail _ (.tail _ (.head _)))
          have g2ne := g2lt _ (.tail _ (.tail _ (.tail _ (.tail _ (.head _)))))
          have g2ne2 := g2lt _ (.tail _ (.tail _ (.tail _ (.head _))))
          clear g1lt g2lt
          dsimp only at g1ne g1ne2 g2ne g2ne2
          go_upto_region 7 with fail
          obtain ⟨c_a_0, c_a_1⟩ := hS.c2 (g1) _ _ _ (.tail _ (.head _))
          obtain ⟨c_b_0, c_b_1⟩ := hS.c2 (g2) _ _ _ (.head _)
          obtain ⟨k0, k1, k2, k3, q0, q1, q2, q3, y0, y1, y2, y3, hfin⟩ := two_after (hS.blks _ (.tail _ (.tail _ (.tail _ (.tail _ (.tail _ (.head _))))))) (hS.blks _ (.tail _ (.tail _ (.tail _ (.tail _ (.head _)))))) (by omega) an ad bn bd
          have hfin := Lib.hid (hfin w hS.below (by omega) (by omega))
          clear hS
          go_region
          go_wp2
          exact bodyPost_ret (v := .tuple #[.agg #[.string an, .string ad], .agg #[.string bn, .string bd], .int .i64 0]) (by simp [results, Tryz.results17, go_sem, World.cell?_drew, y0, y1, y2, y3]) rfl ⟨rfl, kb_drew hfin.out⟩

/-- The line that Line returns: its value on day 0, and its slope. -/
def lnO (l : List Dt) (t : Int) (hi : Bool) : Option (Rat × Rat) := (exO l t hi).map fun x => (x.val 0, x.slope)
theorem fits_int {z : Int} (h : -9000000 ≤ z ∧ z ≤ 9000000) : Fits z := by unfold Fits; omega
theorem sub_w {a b : Int} (h : -4000000 ≤ a ∧ a ≤ 4000000 ∧ -4000000 ≤ b ∧ b ≤ 4000000) : IntKind.i64.wrap (a - b) = a - b := IntWalk.i64_in _ (by omega)
theorem LnOk.wu {x : Ln} (h : LnOk x) : IntKind.i64.wrap (x.u - x.t) = x.u - x.t := sub_w (by have := h.t; have := h.u; omega)
theorem LnOk.ww {x : Ln} (h : LnOk x) : IntKind.i64.wrap (x.w - x.v) = x.w - x.v := sub_w (by have := h.v; have := h.w; omega)
theorem of_slope {x : Ln} (h : LnOk x) (h0 : x.t < x.u) (W : World) (hE : Env W) : Calls Tryz.prog 38 #[.int .i64 (x.w - x.v), .int .i64 (x.u - x.t)] W (Rets W (oV (some x.slope))) := by
  have := qof_o (x.w - x.v) (x.u - x.t) (fits_int (by have := h.v; have := h.w; omega)) (fits_int (by have := h.t; have := h.u; omega)) W hE
  rw [oOf_ratio (by omega)] at this; exact this
theorem of_val {x : Ln} (h : LnOk x) (h0 : x.t < x.u) {t : Int} (ht : 0 ≤ t ∧ t ≤ 800000) (W : World) (hE : Env W) : Calls Tryz.prog 38 #[.int .i64 (x.on t), .int .i64 (x.u - x.t)] W (Rets W (oV (some (x.val t)))) := by
  have := qof_o (x.on t) (x.u - x.t) (fits_on h ht) (fits_int (by have := h.t; have := h.u; omega)) W hE
  rw [oOf_ratio (by omega)] at this; exact this

set_option maxRecDepth 100000 in
set_option maxHeartbeats 16000000 in
/-- decay.Line. -/
theorem line_any (v : Value) (l : List Dt) (t : Int) (hi : Bool) (w : World) (hE : Env w) (h : SlD w v l) :
    Calls Tryz.prog 19 #[v, .int .i64 t, .bool hi] w (Rets w (fV (lnO l t hi))) := by
  have X0 := fun W (h : SlD W v l) => extreme_any v l t hi W h
  have ho0 := fun y => exO_ok (l := l) (t := t) (hi := hi) (y := y)
  unfold lnO
  generalize exO l t hi = o0 at *
  have HL := Lib.hid h
  obtain ⟨ag, cap, rfl⟩ := h.shape
  clear h
  have S0 := BL.start w
  obtain ⟨V1, ev1, S1, zv1⟩ := S0.add' #[.string ⟨#[]⟩, .string ⟨#[]⟩] 27
  obtain ⟨V2, ev2, S2, zv2⟩ := S1.add' #[.string ⟨#[]⟩, .string ⟨#[]⟩] 27
  rw [zv1] at S2 zv2
  have hV : V2 = ((w.alloc (.cells #[.string ⟨#[]⟩, .string ⟨#[]⟩] 27)).alloc (.cells #[.string ⟨#[]⟩, .string ⟨#[]⟩] 27)) := by rw [ev2, ev1]
  have hS : BL w [(w.heap.size + 1, #[.string ⟨#[]⟩, .string ⟨#[]⟩], 27), (w.heap.size, #[.string ⟨#[]⟩, .string ⟨#[]⟩], 27)] V2 := S2
  clear ev1 ev2 zv1 zv2 S0 S1 S2
  cases o0 with
  | none =>
    clear ho0
    show Calls _ _ _ _ (Rets w (.tuple #[.agg #[.string ⟨#[]⟩, .string ⟨#[]⟩], .agg #[.string ⟨#[]⟩, .string ⟨#[]⟩], .int .i64 260]))
    dsimp only [xV, oC, eL] at X0
    replace X0 := Lib.hid X0
    go_enter Tryz.func19, Tryz.ntmps19
    go_wp2_with fail
    rw [← hV]
    clear hV
    refine Calls.mono (X0.out _ (HL.out.below hS.below)) ?_
    rintro e w1 ⟨rfl, hb⟩
    replace hS := hS.call hb
    clear hb
    replace hS := hS.add' #[.int .i64 0, .int .i64 0, .int .i64 0, .int .i64 0] 63
    obtain ⟨W0, hW0, hS, hz0⟩ := hS
    obtain ⟨W, hW⟩ : ∃ W, W = (w1.alloc (.cells #[.int .i64 0, .int .i64 0, .int .i64 0, .int .i64 0] 63)) := ⟨_, rfl⟩
    replace hS : BL w [(w1.heap.size, #[.int .i64 0, .int .i64 0, .int .i64 0, .int .i64 0], 63), (w.heap.size + 1, #[.string ⟨#[]⟩, .string ⟨#[]⟩], 27), (w.heap.size, #[.string ⟨#[]⟩, .string ⟨#[]⟩], 27)] W := by rw [hW, ← hW0]; exact hS
    clear hz0 hW0
    go_upto_region 3 with fail
    rw [← hW]
    clear hW
    obtain ⟨k0, k1, k2, k3, q0, q1, q2, q3, y0, y1, y2, y3, hfin⟩ := two_after (hS.blks _ (.tail _ (.tail _ (.head _)))) (hS.blks _ (.tail _ (.head _))) (by omega) ⟨#[]⟩ ⟨#[]⟩ ⟨#[]⟩ ⟨#[]⟩
    have hfin := Lib.hid (hfin w hS.below (by omega) (by omega))
    clear hS
    go_wp2
    exact bodyPost_ret (v := .tuple #[.agg #[.string ⟨#[]⟩, .string ⟨#[]⟩], .agg #[.string ⟨#[]⟩, .string ⟨#[]⟩], .int .i64 260]) (by simp [results, Tryz.results19, go_sem, y0, y1, y2, y3]) rfl ⟨rfl, hfin.out⟩
  | some x =>
    obtain ⟨hx, hx0⟩ := ho0 x rfl
    clear ho0
    dsimp only [xV, oC, eL] at X0
    replace X0 := Lib.hid X0
    have NX := Lib.hid (fun W => on_any x 0 hx (by omega) W)
    have OX := fun W (hE : Env W) => of_val hx hx0 (t := 0) (by omega) W hE
    have OY := fun W (hE : Env W) => of_slope hx hx0 W hE
    have wu := hx.wu
    have ww := hx.ww
    unfold oV at OX OY
    show Calls _ _ _ _ (Rets w (.tuple #[.agg #[.string (tN (some (x.val 0))), .string (tD (some (x.val 0)))], .agg #[.string (tN (some x.slope)), .string (tD (some x.slope))], .int .i64 0]))
    generalize tN (some (x.val 0)) = an at *
    generalize tD (some (x.val 0)) = ad at *
    generalize eO (some (x.val 0)) = ae at *
    generalize tN (some x.slope) = bn at *
    generalize tD (some x.slope) = bd at *
    generalize eO (some x.slope) = be at *
    generalize x.on 0 = xo at *
    clear hx hx0
    replace OX := Lib.hid OX
    replace OY := Lib.hid OY
    go_enter Tryz.func19, Tryz.ntmps19
    go_wp2_with fail
    rw [← hV]
    clear hV
    refine Calls.mono (X0.out _ (HL.out.below hS.below)) ?_
    rintro e w1 ⟨rfl, hb⟩
    replace hS := hS.call hb
    clear hb
    replace hS := hS.add' #[.int .i64 x.t, .int .i64 x.v, .int .i64 x.u, .int .i64 x.w] 63
    obtain ⟨W0, hW0, hS, hz0⟩ := hS
    obtain ⟨W, hW⟩ : ∃ W, W = (w1.alloc (.cells #[.int .i64 x.t, .int .i64 x.v, .int .i64 x.u, .int .i64 x.w] 63)) := ⟨_, rfl⟩
    replace hS : BL w [(w1.heap.size, #[.int .i64 x.t, .int .i64 x.v, .int .i64 x.u, .int .i64 x.w], 63), (w.heap.size + 1, #[.string ⟨#[]⟩, .string ⟨#[]⟩], 27), (w.heap.size, #[.string ⟨#[]⟩, .string ⟨#[]⟩], 27)] W := by rw [hW, ← hW0]; exact hS
    clear hz0 hW0
    go_upto_region 4 with fail
    rw [← hW]
    clear hW
    have hC0 : ∀ W', BL w [(w1.heap.size, #[.int .i64 x.t, .int .i64 x.v, .int .i64 x.u, .int .i64 x.w], 63), (w.heap.size + 1, #[.string ⟨#[]⟩, .string ⟨#[]⟩], 27), (w.heap.size, #[.string ⟨#[]⟩, .string ⟨#[]⟩], 27)] W' → (W'.cell? ⟨w1.heap.size, 0, none⟩ = some (.int .i64 x.t) ∧ W'.cell? ⟨w1.heap.size, 1, none⟩ = some (.int .i64 x.v) ∧ W'.cell? ⟨w1.heap.size, 2, none⟩ = some (.int .i64 x.u) ∧ W'.cell? ⟨w1.heap.size, 3, none⟩ = some (.int .i64 x.w)) := fun W' h => ⟨(h.cell (w1.heap.size) _ _ (.head _) 0), (h.cell (w1.heap.size) _ _ (.head _) 1), (h.cell (w1.heap.size) _ _ (.head _) 2), (h.cell (w1.heap.size) _ _ (.head _) 3)⟩
    have hC := Lib.hid hC0
    clear hC0
    have h0 := hS
    obtain ⟨x0', x1', x2', x3'⟩ := hC.out _ hS
    replace hS := hS.drew
    go_cut [11, 12] (fun s e wx => ∃ g : Nat, s = .pointer (some ⟨g, 0, none⟩) ∧ e = .int .i64 ae ∧ w.heap.size ≤ g ∧ (∀ p ∈ ([(w1.heap.size, #[.int .i64 x.t, .int .i64 x.v, .int .i64 x.u, .int .i64 x.w], 63), (w.heap.size + 1, #[.string ⟨#[]⟩, .string ⟨#[]⟩], 27), (w.heap.size, #[.string ⟨#[]⟩, .string ⟨#[]⟩], 27)] : BLs), p.1 < g) ∧ BL w ((g, #[.string an, .string ad], 27) :: [(w1.heap.size, #[.int .i64 x.t, .int .i64 x.v, .int .i64 x.u, .int .i64 x.w], 63), (w.heap.size + 1, #[.string ⟨#[]⟩, .string ⟨#[]⟩], 27), (w.heap.size, #[.string ⟨#[]⟩, .string ⟨#[]⟩], 27)]) wx)
    case first => as_aux_lemma =>
      go_region_held3 (fun w' => w'.cell? ⟨w1.heap.size, 0, none⟩ = some (.int .i64 x.t) ∧ w'.cell? ⟨w1.heap.size, 1, none⟩ = some (.int .i64 x.v) ∧ w'.cell? ⟨w1.heap.size, 2, none⟩ = some (.int .i64 x.u) ∧ w'.cell? ⟨w1.heap.size, 3, none⟩ = some (.int .i64 x.w))
        (first | with_reducible exact hC.out _ hS | with_reducible exact hC.out _ (hS.new _) | with_reducible exact hC.out _ ((h0.new _).drew) | with_reducible exact hC.out _ (hS.setG hge hlt _ _) | go_keep)
        (first | (go_at_call 33; (with_reducible refine Calls.mono (NX.out _) ?_); rintro e w' ⟨rfl, hb⟩; (first | (replace hS := hS.call hb; first | (replace hN := hN.below hb; have n0 := (blk_two hN).1; have n1 := (blk_two hN).2; have m0 := hN.frozen 0; have m1 := hN.frozen 1) | skip) | (have hlt := hS.lts; have hge := hS.below.size; have hN := nres hb; have n0 := (blk_two hN).1; have n1 := (blk_two hN).2; have m0 := hN.frozen 0; have m1 := hN.frozen 1; replace hS := (hS.new _).call hb) | (have hlt := h0.lts; have hge := h0.below.size; have hN := nres_drew hb; have n0 := (blk_two hN).1; have n1 := (blk_two hN).2; have m0 := hN.frozen 0; have m1 := hN.frozen 1; replace hS := ((h0.new _).drew).call hb)); clear hb) | (go_at_call 38; (with_reducible refine Calls.mono (OX.out _ ?_) ?_); (first | exact hS.env hE | exact (hS.new _).env hE | exact ((h0.new _).drew).env hE); rintro e w' ⟨rfl, hb⟩; (first | (replace hS := hS.call hb; first | (replace hN := hN.below hb; have n0 := (blk_two hN).1; have n1 := (blk_two hN).2; have m0 := hN.frozen 0; have m1 := hN.frozen 1) | skip) | (have hlt := hS.lts; have hge := hS.below.size; have hN := nres hb; have n0 := (blk_two hN).1; have n1 := (blk_two hN).2; have m0 := hN.frozen 0; have m1 := hN.frozen 1; replace hS := (hS.new _).call hb) | (have hlt := h0.lts; have hge := h0.below.size; have hN := nres_drew hb; have n0 := (blk_two hN).1; have n1 := (blk_two hN).2; have m0 := hN.frozen 0; have m1 := hN.frozen 1; replace hS := ((h0.new _).drew).call hb)); clear hb))
      all_goals (go_wp2_with fail; go_meet; first | exact ⟨_, rfl, rfl, hS.below.size, hS.lts, hS.add _ _⟩ | exact ⟨_, rfl, rfl, hge, hlt, (hS.setG hge hlt _ _).pushB ((hN.set 0 (.string an)).set 1 (.string ad))⟩)
    case rest =>
      clear hS h0 hC x0' x1' x2' x3'
      obtain ⟨g1, rfl, rfl, g1ge, g1lt, hS⟩ := hcut
      obtain ⟨c_x_0, c_x_1, c_x_2, c_x_3⟩ := hS.c4 (w1.heap.size) _ _ _ _ _ (.tail _ (.head _))
      go_wp2_with fail
      refine Calls.mono (OY.out _ (hS.env hE)) ?_
      rintro e w2 ⟨rfl, hb⟩
      clear c_x_0 c_x_1 c_x_2 c_x_3
      replace hS := hS.call hb
      clear hb
      have m1 := (hS.blks _ (.tail _ (.tail _ (.tail _ (.head _))))).lt
      have m2 := (hS.blks _ (.tail _ (.tail _ (.head _)))).lt
      dsimp only at m1 m2
      replace hS := hS.add' #[.string bn, .string bd] 27
      obtain ⟨W0, hW0, hS, hz0⟩ := hS
      obtain ⟨W, hW⟩ : ∃ W, W = (w2.alloc (.cells #[.string bn, .string bd] 27)) := ⟨_, rfl⟩
      replace hS : BL w [(w2.heap.size, #[.string bn, .string bd], 27), (g1, #[.string an, .string ad], 27), (w1.heap.size, #[.int .i64 x.t, .int .i64 x.v, .int .i64 x.u, .int .i64 x.w], 63), (w.heap.size + 1, #[.string ⟨#[]⟩, .string ⟨#[]⟩], 27), (w.heap.size, #[.string ⟨#[]⟩, .string ⟨#[]⟩], 27)] W := by rw [hW, ← hW0]; exact hS
      clear hz0 hW0
      have g1ne := g1lt _ (.tail _ (.tail _ (.head _)))
      have g1ne2 := g1lt _ (.tail _ (.head _))
      clear g1lt
      dsimp only at g1ne g1ne2
      go_upto_region 6 with fail
      rw [← hW]
      clear hW
      obtain ⟨c_a_0, c_a_1⟩ := hS.c2 (g1) _ _ _ (.tail _ (.head _))
      obtain ⟨c_b_0, c_b_1⟩ := hS.c2 (w2.heap.size) _ _ _ (.head _)
      obtain ⟨k0, k1, k2, k3, q0, q1, q2, q3, y0, y1, y2, y3, hfin⟩ := two_after (hS.blks _ (.tail _ (.tail _ (.tail _ (.tail _ (.head _)))))) (hS.blks _ (.tail _ (.tail _ (.tail _ (.head _))))) (by omega) an ad bn bd
      have hfin := Lib.hid (hfin w hS.below (by omega) (by omega))
      clear hS
      go_region
      go_wp2
      exact bodyPost_ret (v := .tuple #[.agg #[.string an, .string ad], .agg #[.string bn, .string bd], .int .i64 0]) (by simp [results, Tryz.results19, go_sem, World.cell?_drew, y0, y1, y2, y3]) rfl ⟨rfl, kb_drew hfin.out⟩

theorem bt_pair {l : List Dt} (h : okD l = true) : bot l = none ↔ top l = none := by
  rw [DecM.bot_none (DecM.okD_good h), DecM.top_none (DecM.okD_good h)]
theorem bt_ok {l : List Dt} (h : okD l = true) {m : Ln → Int} {y : Ln} (hy : bst m (fitting l) = some y) : LnOk y ∧ y.t < y.u := by
  have hm := (DecM.bst_some (DecM.fitting_lt (DecM.okD_good h)) hy).1
  exact ⟨lnOk_fit h hm, DecM.fitting_lt (DecM.okD_good h) y hm⟩

set_option maxRecDepth 100000 in
set_option maxHeartbeats 16000000 in
/-- decay.Rates. -/
theorem rates_any (v : Value) (l : List Dt) (w : World) (hE : Env w) (h : SlD w v l) :
    Calls Tryz.prog 11 #[v] w (Rets w (fV (rts l))) := by
  have VD := fun W (h : SlD W v l) => dvalid_any v l W h
  have B1 := fun (hok : okD l = true) W (h : SlD W v l) => best_any v l (fun x => x.v - x.w) 36 #[] hok W h (meas_rate1 W)
  have B2 := fun (hok : okD l = true) W (h : SlD W v l) => best_any v l (fun x => x.w - x.v) 37 #[] hok W h (meas_rate2 W)
  replace B1 : ∀ (hok : okD l = true) W (h : SlD W v l), Calls Tryz.prog 35 #[v, .func (.func 36) #[] #[]] W (Rets W (.agg (oC (bot l)))) := B1
  replace B2 : ∀ (hok : okD l = true) W (h : SlD W v l), Calls Tryz.prog 35 #[v, .func (.func 37) #[] #[]] W (Rets W (.agg (oC (top l)))) := B2
  have hpair := fun h => bt_pair (l := l) h
  have ho0 : ∀ (h : okD l = true) y, bot l = some y → LnOk y ∧ y.t < y.u := fun h y hy => bt_ok h hy
  have ho1 : ∀ (h : okD l = true) y, top l = some y → LnOk y ∧ y.t < y.u := fun h y hy => bt_ok h hy
  unfold rts
  generalize bot l = o0 at *
  generalize top l = o1 at *
  generalize okD l = b0 at *
  have HL := Lib.hid h
  obtain ⟨ag, cap, rfl⟩ := h.shape
  clear h
  have S0 := BL.start w
  obtain ⟨V1, ev1, S1, zv1⟩ := S0.add' #[.string ⟨#[]⟩, .string ⟨#[]⟩] 27
  obtain ⟨V2, ev2, S2, zv2⟩ := S1.add' #[.string ⟨#[]⟩, .string ⟨#[]⟩] 27
  rw [zv1] at S2 zv2
  have hV : V2 = ((w.alloc (.cells #[.string ⟨#[]⟩, .string ⟨#[]⟩] 27)).alloc (.cells #[.string ⟨#[]⟩, .string ⟨#[]⟩] 27)) := by rw [ev2, ev1]
  have hS : BL w [(w.heap.size + 1, #[.string ⟨#[]⟩, .string ⟨#[]⟩], 27), (w.heap.size, #[.string ⟨#[]⟩, .string ⟨#[]⟩], 27)] V2 := S2
  clear ev1 ev2 zv1 zv2 S0 S1 S2
  replace VD := Lib.hid VD
  cases b0 with
  | false =>
    clear B1 B2 hpair ho0 ho1
    show Calls _ _ _ _ (Rets w (.tuple #[.agg #[.string ⟨#[]⟩, .string ⟨#[]⟩], .agg #[.string ⟨#[]⟩, .string ⟨#[]⟩], .int .i64 260]))
    go_enter Tryz.func11, Tryz.ntmps11
    go_wp2_with fail
    rw [← hV]
    clear hV
    refine Calls.mono (VD.out _ (HL.out.below hS.below)) ?_
    rintro e w1 ⟨rfl, hb⟩
    replace hS := hS.call hb
    clear hb
    go_upto_region 2 with fail
    obtain ⟨k0, k1, k2, k3, q0, q1, q2, q3, y0, y1, y2, y3, hfin⟩ := two_after (hS.blks _ (.tail _ (.head _))) (hS.blks _ (.head _)) (by omega) ⟨#[]⟩ ⟨#[]⟩ ⟨#[]⟩ ⟨#[]⟩
    have hfin := Lib.hid (hfin w hS.below (by omega) (by omega))
    clear hS
    go_wp2
    exact bodyPost_ret (v := .tuple #[.agg #[.string ⟨#[]⟩, .string ⟨#[]⟩], .agg #[.string ⟨#[]⟩, .string ⟨#[]⟩], .int .i64 260]) (by simp [results, Tryz.results11, go_sem, y0, y1, y2, y3]) rfl ⟨rfl, hfin.out⟩
  | true =>
    replace B1 := B1 rfl
    replace B2 := B2 rfl
    cases o0 with
    | none =>
      obtain rfl := (hpair rfl).1 rfl
      clear hpair ho0 ho1
      show Calls _ _ _ _ (Rets w (.tuple #[.agg #[.string ⟨#[]⟩, .string ⟨#[]⟩], .agg #[.string ⟨#[]⟩, .string ⟨#[]⟩], .int .i64 260]))
      unfold oC at B1 B2
      replace B1 := Lib.hid B1
      replace B2 := Lib.hid B2
      go_enter Tryz.func11, Tryz.ntmps11
      go_wp2_with fail
      rw [← hV]
      clear hV
      refine Calls.mono (VD.out _ (HL.out.below hS.below)) ?_
      rintro e w1 ⟨rfl, hb⟩
      replace hS := hS.call hb
      clear hb
      go_wp2_with fail
      refine Calls.mono (B1.out _ (HL.out.below hS.below)) ?_
      rintro e w2 ⟨rfl, hb⟩
      replace hS := hS.call hb
      clear hb
      replace hS := hS.add' #[.int .i64 0, .int .i64 0, .int .i64 0, .int .i64 0] 63
      obtain ⟨W0, hW0, hS, hz0⟩ := hS
      obtain ⟨W, hW⟩ : ∃ W, W = (w2.alloc (.cells #[.int .i64 0, .int .i64 0, .int .i64 0, .int .i64 0] 63)) := ⟨_, rfl⟩
      replace hS : BL w [(w2.heap.size, #[.int .i64 0, .int .i64 0, .int .i64 0, .int .i64 0], 63), (w.heap.size + 1, #[.string ⟨#[]⟩, .string ⟨#[]⟩], 27), (w.heap.size, #[.string ⟨#[]⟩, .string ⟨#[]⟩], 27)] W := by rw [hW, ← hW0]; exact hS
      clear hz0 hW0
      go_wp2_with fail
      rw [← hW]
      clear hW
      refine Calls.mono (B2.out _ (HL.out.below hS.below)) ?_
      rintro e w3 ⟨rfl, hb⟩
      replace hS := hS.call hb
      clear hb
      replace hS := hS.add' #[.int .i64 0, .int .i64 0, .int .i64 0, .int .i64 0] 63
      obtain ⟨W0, hW0, hS, hz0⟩ := hS
      obtain ⟨W, hW⟩ : ∃ W, W = (w3.alloc (.cells #[.int .i64 0, .int .i64 0, .int .i64 0, .int .i64 0] 63)) := ⟨_, rfl⟩
      replace hS : BL w [(w3.heap.size, #[.int .i64 0, .int .i64 0, .int .i64 0, .int .i64 0], 63), (w2.heap.size, #[.int .i64 0, .int .i64 0, .int .i64 0, .int .i64 0], 63), (w.heap.size + 1, #[.string ⟨#[]⟩, .string ⟨#[]⟩], 27), (w.heap.size, #[.string ⟨#[]⟩, .string ⟨#[]⟩], 27)] W := by rw [hW, ← hW0]; exact hS
      clear hz0 hW0
      go_upto_region 5 with fail
      rw [← hW]
      clear hW
      obtain ⟨c_x_0, c_x_1, c_x_2, c_x_3⟩ := hS.c4 (w2.heap.size) _ _ _ _ _ (.tail _ (.head _))
      go_upto_region 6 with fail
      clear c_x_0 c_x_1 c_x_2 c_x_3
      obtain ⟨k0, k1, k2, k3, q0, q1, q2, q3, y0, y1, y2, y3, hfin⟩ := two_after (hS.blks _ (.tail _ (.tail _ (.tail _ (.head _))))) (hS.blks _ (.tail _ (.tail _ (.head _)))) (by omega) ⟨#[]⟩ ⟨#[]⟩ ⟨#[]⟩ ⟨#[]⟩
      have hfin := Lib.hid (hfin w hS.below (by omega) (by omega))
      clear hS
      go_wp2
      exact bodyPost_ret (v := .tuple #[.agg #[.string ⟨#[]⟩, .string ⟨#[]⟩], .agg #[.string ⟨#[]⟩, .string ⟨#[]⟩], .int .i64 260]) (by simp [results, Tryz.results11, go_sem, y0, y1, y2, y3]) rfl ⟨rfl, hfin.out⟩
    | some x =>
      cases o1 with
      | none => exact absurd ((hpair rfl).2 rfl) (by simp)
      | some y =>
        obtain ⟨hx, hx0⟩ := ho0 rfl x rfl
        obtain ⟨hy, hy0⟩ := ho1 rfl y rfl
        clear hpair ho0 ho1
        unfold oC at B1 B2
        replace B1 := Lib.hid B1
        replace B2 := Lib.hid B2
        have OX := fun W (hE : Env W) => of_slope hx hx0 W hE
        have OY := fun W (hE : Env W) => of_slope hy hy0 W hE
        have wux := hx.wu
        have wwx := hx.ww
        have wuy := hy.wu
        have wwy := hy.ww
        unfold oV at OX OY
        show Calls _ _ _ _ (Rets w (.tuple #[.agg #[.string (tN (some x.slope)), .string (tD (some x.slope))], .agg #[.string (tN (some y.slope)), .string (tD (some y.slope))], .int .i64 0]))
        generalize tN (some x.slope) = an at *
        generalize tD (some x.slope) = ad at *
        generalize eO (some x.slope) = ae at *
        generalize tN (some y.slope) = bn at *
        generalize tD (some y.slope) = bd at *
        generalize eO (some y.slope) = be at *
        replace OX := Lib.hid OX
        replace OY := Lib.hid OY
        have hz1 : (¬ x.t = 0) ∨ (x.t = 0 ∧ ¬ x.v = 0) ∨ (x.t = 0 ∧ x.v = 0 ∧ ¬ x.u = 0) := by omega
        clear hx hx0 hy hy0
        rcases hz1 with h1 | ⟨h0, h1⟩ | ⟨h0, h2, h1⟩
        · have e1 : (x.t == 0) = false := by simp [h1]
          clear h1
          go_enter Tryz.func11, Tryz.ntmps11
          go_wp2_with fail
          rw [← hV]
          clear hV
          refine Calls.mono (VD.out _ (HL.out.below hS.below)) ?_
          rintro e w1 ⟨rfl, hb⟩
          replace hS := hS.call hb
          clear hb
          go_wp2_with fail
          refine Calls.mono (B1.out _ (HL.out.below hS.below)) ?_
          rintro e w2 ⟨rfl, hb⟩
          replace hS := hS.call hb
          clear hb
          replace hS := hS.add' #[.int .i64 x.t, .int .i64 x.v, .int .i64 x.u, .int .i64 x.w] 63
          obtain ⟨W0, hW0, hS, hz0⟩ := hS
          obtain ⟨W, hW⟩ : ∃ W, W = (w2.alloc (.cells #[.int .i64 x.t, .int .i64 x.v, .int .i64 x.u, .int .i64 x.w] 63)) := ⟨_, rfl⟩
          replace hS : BL w [(w2.heap.size, #[.int .i64 x.t, .int .i64 x.v, .int .i64 x.u, .int .i64 x.w], 63), (w.heap.size + 1, #[.string ⟨#[]⟩, .string ⟨#[]⟩], 27), (w.heap.size, #[.string ⟨#[]⟩, .string ⟨#[]⟩], 27)] W := by rw [hW, ← hW0]; exact hS
          clear hz0 hW0
          go_wp2_with fail
          rw [← hW]
          clear hW
          refine Calls.mono (B2.out _ (HL.out.below hS.below)) ?_
          rintro e w3 ⟨rfl, hb⟩
          replace hS := hS.call hb
          clear hb
          replace hS := hS.add' #[.int .i64 y.t, .int .i64 y.v, .int .i64 y.u, .int .i64 y.w] 63
          obtain ⟨W0, hW0, hS, hz0⟩ := hS
          obtain ⟨W, hW⟩ : ∃ W, W = (w3.alloc (.cells #[.int .i64 y.t, .int .i64 y.v, .int .i64 y.u, .int .i64 y.w] 63)) := ⟨_, rfl⟩
          replace hS : BL w [(w3.heap.size, #[.int .i64 y.t, .int .i64 y.v, .int .i64 y.u, .int .i64 y.w], 63), (w2.heap.size, #[.int .i64 x.t, .int .i64 x.v, .int .i64 x.u, .int .i64 x.w], 63), (w.heap.size + 1, #[.string ⟨#[]⟩, .string ⟨#[]⟩], 27), (w.heap.size, #[.string ⟨#[]⟩, .string ⟨#[]⟩], 27)] W := by rw [hW, ← hW0]; exact hS
          clear hz0 hW0
          go_upto_region 5 with fail
          rw [← hW]
          clear hW
          obtain ⟨c_x_0, c_x_1, c_x_2, c_x_3⟩ := hS.c4 (w2.heap.size) _ _ _ _ _ (.tail _ (.head _))
          go_upto_region 7 with fail
          go_wp2_with fail
          refine Calls.mono (OX.out _ (hS.env hE)) ?_
          rintro e w7 ⟨rfl, hb⟩
          clear c_x_0 c_x_1 c_x_2 c_x_3
          replace hS := hS.call hb
          clear hb
          have m3 := (hS.blks _ (.tail _ (.tail _ (.tail _ (.head _))))).lt
          have m4 := (hS.blks _ (.tail _ (.tail _ (.head _)))).lt
          dsimp only at m3 m4
          obtain ⟨W0, hW0, hS, hz0⟩ := hS.add' #[.string an, .string ad] 27
          obtain ⟨W, hW⟩ : ∃ W, W = (w7.alloc (.cells #[.string an, .string ad] 27)) := ⟨_, rfl⟩
          replace hS : BL w [(w7.heap.size, #[.string an, .string ad], 27), (w3.heap.size, #[.int .i64 y.t, .int .i64 y.v, .int .i64 y.u, .int .i64 y.w], 63), (w2.heap.size, #[.int .i64 x.t, .int .i64 x.v, .int .i64 x.u, .int .i64 x.w], 63), (w.heap.size + 1, #[.string ⟨#[]⟩, .string ⟨#[]⟩], 27), (w.heap.size, #[.string ⟨#[]⟩, .string ⟨#[]⟩], 27)] W := by rw [hW, ← hW0]; exact hS
          clear hz0 hW0
          go_upto_region 8 with fail
          rw [← hW]
          clear hW
          obtain ⟨c_y_0, c_y_1, c_y_2, c_y_3⟩ := hS.c4 (w3.heap.size) _ _ _ _ _ (.tail _ (.head _))
          go_wp2_with fail
          refine Calls.mono (OY.out _ (hS.env hE)) ?_
          rintro e w8 ⟨rfl, hb⟩
          clear c_y_0 c_y_1 c_y_2 c_y_3
          replace hS := hS.call hb
          clear hb
          have m1 := (hS.blks _ (.tail _ (.tail _ (.tail _ (.tail _ (.head _)))))).lt
          have m2 := (hS.blks _ (.tail _ (.tail _ (.tail _ (.head _))))).lt
          dsimp only at m1 m2
          replace hS := hS.add' #[.string bn, .string bd] 27
          obtain ⟨W0, hW0, hS, hz0⟩ := hS
          obtain ⟨W, hW⟩ : ∃ W, W = (w8.alloc (.cells #[.string bn, .string bd] 27)) := ⟨_, rfl⟩
          replace hS : BL w [(w8.heap.size, #[.string bn, .string bd], 27), (w7.heap.size, #[.string an, .string ad], 27), (w3.heap.size, #[.int .i64 y.t, .int .i64 y.v, .int .i64 y.u, .int .i64 y.w], 63), (w2.heap.size, #[.int .i64 x.t, .int .i64 x.v, .int .i64 x.u, .int .i64 x.w], 63), (w.heap.size + 1, #[.string ⟨#[]⟩, .string ⟨#[]⟩], 27), (w.heap.size, #[.string ⟨#[]⟩, .string ⟨#[]⟩], 27)] W := by rw [hW, ← hW0]; exact hS
          clear hz0 hW0
          go_upto_region 9 with fail
          rw [← hW]
          clear hW
          obtain ⟨c_a_0, c_a_1⟩ := hS.c2 (w7.heap.size) _ _ _ (.tail _ (.head _))
          obtain ⟨c_b_0, c_b_1⟩ := hS.c2 (w8.heap.size) _ _ _ (.head _)
          obtain ⟨k0, k1, k2, k3, q0, q1, q2, q3, y0, y1, y2, y3, hfin⟩ := two_after (hS.blks _ (.tail _ (.tail _ (.tail _ (.tail _ (.tail _ (.head _))))))) (hS.blks _ (.tail _ (.tail _ (.tail _ (.tail _ (.head _)))))) (by omega) an ad bn bd
          have hfin := Lib.hid (hfin w hS.below (by omega) (by omega))
          clear hS
          go_region
          go_wp2
          exact bodyPost_ret (v := .tuple #[.agg #[.string an, .string ad], .agg #[.string bn, .string bd], .int .i64 0]) (by simp [results, Tryz.results11, go_sem, World.cell?_drew, y0, y1, y2, y3]) rfl ⟨rfl, kb_drew hfin.out⟩
        · have e1 : (x.t == 0) = true := by simp [h0]
          have e2 : (x.v == 0) = false := by simp [h1]
          clear h0 h1
          go_enter Tryz.func11, Tryz.ntmps11
          go_wp2_with fail
          rw [← hV]
          clear hV
          refine Calls.mono (VD.out _ (HL.out.below hS.below)) ?_
          rintro e w1 ⟨rfl, hb⟩
          replace hS := hS.call hb
          clear hb
          go_wp2_with fail
          refine Calls.mono (B1.out _ (HL.out.below hS.below)) ?_
          rintro e w2 ⟨rfl, hb⟩
          replace hS := hS.call hb
          clear hb
          replace hS := hS.add' #[.int .i64 x.t, .int .i64 x.v, .int .i64 x.u, .int .i64 x.w] 63
          obtain ⟨W0, hW0, hS, hz0⟩ := hS
          obtain ⟨W, hW⟩ : ∃ W, W = (w2.alloc (.cells #[.int .i64 x.t, .int .i64 x.v, .int .i64 x.u, .int .i64 x.w] 63)) := ⟨_, rfl⟩
          replace hS : BL w [(w2.heap.size, #[.int .i64 x.t, .int .i64 x.v, .int .i64 x.u, .int .i64 x.w], 63), (w.heap.size + 1, #[.string ⟨#[]⟩, .string ⟨#[]⟩], 27), (w.heap.size, #[.string ⟨#[]⟩, .string ⟨#[]⟩], 27)] W := by rw [hW, ← hW0]; exact hS
          clear hz0 hW0
          go_wp2_with fail
          rw [← hW]
          clear hW
          refine Calls.mono (B2.out _ (HL.out.below hS.below)) ?_
          rintro e w3 ⟨rfl, hb⟩
          replace hS := hS.call hb
          clear hb
          replace hS := hS.add' #[.int .i64 y.t, .int .i64 y.v, .int .i64 y.u, .int .i64 y.w] 63
          obtain ⟨W0, hW0, hS, hz0⟩ := hS
          obtain ⟨W, hW⟩ : ∃ W, W = (w3.alloc (.cells #[.int .i64 y.t, .int .i64 y.v, .int .i64 y.u, .int .i64 y.w] 63)) := ⟨_, rfl⟩
          replace hS : BL w [(w3.heap.size, #[.int .i64 y.t, .int .i64 y.v, .int .i64 y.u, .int .i64 y.w], 63), (w2.heap.size, #[.int .i64 x.t, .int .i64 x.v, .int .i64 x.u, .int .i64 x.w], 63), (w.heap.size + 1, #[.string ⟨#[]⟩, .string ⟨#[]⟩], 27), (w.heap.size, #[.string ⟨#[]⟩, .string ⟨#[]⟩], 27)] W := by rw [hW, ← hW0]; exact hS
          clear hz0 hW0
          go_upto_region 5 with fail
          rw [← hW]
          clear hW
          obtain ⟨c_x_0, c_x_1, c_x_2, c_x_3⟩ := hS.c4 (w2.heap.size) _ _ _ _ _ (.tail _ (.head _))
          go_upto_region 7 with fail
          go_wp2_with fail
          refine Calls.mono (OX.out _ (hS.env hE)) ?_
          rintro e w7 ⟨rfl, hb⟩
          clear c_x_0 c_x_1 c_x_2 c_x_3
          replace hS := hS.call hb
          clear hb
          have m3 := (hS.blks _ (.tail _ (.tail _ (.tail _ (.head _))))).lt
          have m4 := (hS.blks _ (.tail _ (.tail _ (.head _)))).lt
          dsimp only at m3 m4
          obtain ⟨W0, hW0, hS, hz0⟩ := hS.add' #[.string an, .string ad] 27
          obtain ⟨W, hW⟩ : ∃ W, W = (w7.alloc (.cells #[.string an, .string ad] 27)) := ⟨_, rfl⟩
          replace hS : BL w [(w7.heap.size, #[.string an, .string ad], 27), (w3.heap.size, #[.int .i64 y.t, .int .i64 y.v, .int .i64 y.u, .int .i64 y.w], 63), (w2.heap.size, #[.int .i64 x.t, .int .i64 x.v, .int .i64 x.u, .int .i64 x.w], 63), (w.heap.size + 1, #[.string ⟨#[]⟩, .string ⟨#[]⟩], 27), (w.heap.size, #[.string ⟨#[]⟩, .string ⟨#[]⟩], 27)] W := by rw [hW, ← hW0]; exact hS
          clear hz0 hW0
          go_upto_region 8 with fail
          rw [← hW]
          clear hW
          obtain ⟨c_y_0, c_y_1, c_y_2, c_y_3⟩ := hS.c4 (w3.heap.size) _ _ _ _ _ (.tail _ (.head _))
          go_wp2_with fail
          refine Calls.mono (OY.out _ (hS.env hE)) ?_
          rintro e w8 ⟨rfl, hb⟩
          clear c_y_0 c_y_1 c_y_2 c_y_3
          replace hS := hS.call hb
          clear hb
          have m1 := (hS.blks _ (.tail _ (.tail _ (.tail _ (.tail _ (.head _)))))).lt
          have m2 := (hS.blks _ (.tail _ (.tail _ (.tail _ (.head _))))).lt
          dsimp only at m1 m2
          replace hS := hS.add' #[.string bn, .string bd] 27
          obtain ⟨W0, hW0, hS, hz0⟩ := hS
          obtain ⟨W, hW⟩ : ∃ W, W = (w8.alloc (.cells #[.string bn, .string bd] 27)) := ⟨_, rfl⟩
          replace hS : BL w [(w8.heap.size, #[.string bn, .string bd], 27), (w7.heap.size, #[.string an, .string ad], 27), (w3.heap.size, #[.int .i64 y.t, .int .i64 y.v, .int .i64 y.u, .int .i64 y.w], 63), (w2.heap.size, #[.int .i64 x.t, .int .i64 x.v, .int .i64 x.u, .int .i64 x.w], 63), (w.heap.size + 1, #[.string ⟨#[]⟩, .string ⟨#[]⟩], 27), (w.heap.size, #[.string ⟨#[]⟩, .string ⟨#[]⟩], 27)] W := by rw [hW, ← hW0]; exact hS
          clear hz0 hW0
          go_upto_region 9 with fail
          rw [← hW]
          clear hW
          obtain ⟨c_a_0, c_a_1⟩ := hS.c2 (w7.heap.size) _ _ _ (.tail _ (.head _))
          obtain ⟨c_b_0, c_b_1⟩ := hS.c2 (w8.heap.size) _ _ _ (.head _)
          obtain ⟨k0, k1, k2, k3, q0, q1, q2, q3, y0, y1, y2, y3, hfin⟩ := two_after (hS.blks _ (.tail _ (.tail _ (.tail _ (.tail _ (.tail _ (.head _))))))) (hS.blks _ (.tail _ (.tail _ (.tail _ (.tail _ (.head _)))))) (by omega) an ad bn bd
          have hfin := Lib.hid (hfin w hS.below (by omega) (by omega))
          clear hS
          go_region
          go_wp2
          exact bodyPost_ret (v := .tuple #[.agg #[.string an, .string ad], .agg #[.string bn, .string bd], .int .i64 0]) (by simp [results, Tryz.results11, go_sem, World.cell?_drew, y0, y1, y2, y3]) rfl ⟨rfl, kb_drew hfin.out⟩
        · have e1 : (x.t == 0) = true := by simp [h0]
          have e2 : (x.v == 0) = true := by simp [h2]
          have e3 : (x.u == 0) = false := by simp [h1]
          clear h0 h1 h2
          go_enter Tryz.func11, Tryz.ntmps11
          go_wp2_with fail
          rw [← hV]
          clear hV
          refine Calls.mono (VD.out _ (HL.out.below hS.below)) ?_
          rintro e w1 ⟨rfl, hb⟩
          replace hS := hS.call hb
          clear hb
          go_wp2_with fail
          refine Calls.mono (B1.out _ (HL.out.below hS.below)) ?_
          rintro e w2 ⟨rfl, hb⟩
          replace hS := hS.call hb
          clear hb
          replace hS := hS.add' #[.int .i64 x.t, .int .i64 x.v, .int .i64 x.u, .int .i64 x.w] 63
          obtain ⟨W0, hW0, hS, hz0⟩ := hS
          obtain ⟨W, hW⟩ : ∃ W, W = (w2.alloc (.cells #[.int .i64 x.t, .int .i64 x.v, .int .i64 x.u, .int .i64 x.w] 63)) := ⟨_, rfl⟩
          replace hS : BL w [(w2.heap.size, #[.int .i64 x.t, .int .i64 x.v, .int .i64 x.u, .int .i64 x.w], 63), (w.heap.size + 1, #[.string ⟨#[]⟩, .string ⟨#[]⟩], 27), (w.heap.size, #[.string ⟨#[]⟩, .string ⟨#[]⟩], 27)] W := by rw [hW, ← hW0]; exact hS
          clear hz0 hW0
          go_wp2_with fail
          rw [← hW]
          clear hW
          refine Calls.mono (B2.out _ (HL.out.below hS.below)) ?_
          rintro e w3 ⟨rfl, hb⟩
          replace hS := hS.call hb
          clear hb
          replace hS := hS.add' #[.int .i64 y.t, .int .i64 y.v, .int .i64 y.u, .int .i64 y.w] 63
          obtain ⟨W0, hW0, hS, hz0⟩ := hS
          obtain ⟨W, hW⟩ : ∃ W, W = (w3.alloc (.cells #[.int .i64 y.t, .int .i64 y.v, .int .i64 y.u, .int .i64 y.w] 63)) := ⟨_, rfl⟩
          replace hS : BL w [(w3.heap.size, #[.int .i64 y.t, .int .i64 y.v, .int .i64 y.u, .int .i64 y.w], 63), (w2.heap.size, #[.int .i64 x.t, .int .i64 x.v, .int .i64 x.u, .int .i64 x.w], 63), (w.heap.size + 1, #[.string ⟨#[]⟩, .string ⟨#[]⟩], 27), (w.heap.size, #[.string ⟨#[]⟩, .string ⟨#[]⟩], 27)] W := by rw [hW, ← hW0]; exact hS
          clear hz0 hW0
          go_upto_region 5 with fail
          rw [← hW]
          clear hW
          obtain ⟨c_x_0, c_x_1, c_x_2, c_x_3⟩ := hS.c4 (w2.heap.size) _ _ _ _ _ (.tail _ (.head _))
          go_upto_region 7 with fail
          go_wp2_with fail
          refine Calls.mono (OX.out _ (hS.env hE)) ?_
          rintro e w7 ⟨rfl, hb⟩
          clear c_x_0 c_x_1 c_x_2 c_x_3
          replace hS := hS.call hb
          clear hb
          have m3 := (hS.blks _ (.tail _ (.tail _ (.tail _ (.head _))))).lt
          have m4 := (hS.blks _ (.tail _ (.tail _ (.head _)))).lt
          dsimp only at m3 m4
          obtain ⟨W0, hW0, hS, hz0⟩ := hS.add' #[.string an, .string ad] 27
          obtain ⟨W, hW⟩ : ∃ W, W = (w7.alloc (.cells #[.string an, .string ad] 27)) := ⟨_, rfl⟩
          replace hS : BL w [(w7.heap.size, #[.string an, .string ad], 27), (w3.heap.size, #[.int .i64 y.t, .int .i64 y.v, .int .i64 y.u, .int .i64 y.w], 63), (w2.heap.size, #[.int .i64 x.t, .int .i64 x.v, .int .i64 x.u, .int .i64 x.w], 63), (w.heap.size + 1, #[.string ⟨#[]⟩, .string ⟨#[]⟩], 27), (w.heap.size, #[.string ⟨#[]⟩, .string ⟨#[]⟩], 27)] W := by rw [hW, ← hW0]; exact hS
          clear hz0 hW0
          go_upto_region 8 with fail
          rw [← hW]
          clear hW
          obtain ⟨c_y_0, c_y_1, c_y_2, c_y_3⟩ := hS.c4 (w3.heap.size) _ _ _ _ _ (.tail _ (.head _))
          go_wp2_with fail
          refine Calls.mono (OY.out _ (hS.env hE)) ?_
          rintro e w8 ⟨rfl, hb⟩
          clear c_y_0 c_y_1 c_y_2 c_y_3
          replace hS := hS.call hb
          clear hb
          have m1 := (hS.blks _ (.tail _ (.tail _ (.tail _ (.tail _ (.head _)))))).lt
          have m2 := (hS.blks _ (.tail _ (.tail _ (.tail _ (.head _))))).lt
          dsimp only at m1 m2
          replace hS := hS.add' #[.string bn, .string bd] 27
          obtain ⟨W0, hW0, hS, hz0⟩ := hS
          obtain ⟨W, hW⟩ : ∃ W, W = (w8.alloc (.cells #[.string bn, .string bd] 27)) := ⟨_, rfl⟩
          replace hS : BL w [(w8.heap.size, #[.string bn, .string bd], 27), (w7.heap.size, #[.string an, .string ad], 27), (w3.heap.size, #[.int .i64 y.t, .int .i64 y.v, .int .i64 y.u, .int .i64 y.w], 63), (w2.heap.size, #[.int .i64 x.t, .int .i64 x.v, .int .i64 x.u, .int .i64 x.w], 63), (w.heap.size + 1, #[.string ⟨#[]⟩, .string ⟨#[]⟩], 27), (w.heap.size, #[.string ⟨#[]⟩, .string ⟨#[]⟩], 27)] W := by rw [hW, ← hW0]; exact hS
          clear hz0 hW0
          go_upto_region 9 with fail
          rw [← hW]
          clear hW
          obtain ⟨c_a_0, c_a_1⟩ := hS.c2 (w7.heap.size) _ _ _ (.tail _ (.head _))
          obtain ⟨c_b_0, c_b_1⟩ := hS.c2 (w8.heap.size) _ _ _ (.head _)
          obtain ⟨k0, k1, k2, k3, q0, q1, q2, q3, y0, y1, y2, y3, hfin⟩ := two_after (hS.blks _ (.tail _ (.tail _ (.tail _ (.tail _ (.tail _ (.head _))))))) (hS.blks _ (.tail _ (.tail _ (.tail _ (.tail _ (.head _)))))) (by omega) an ad bn bd
          have hfin := Lib.hid (hfin w hS.below (by omega) (by omega))
          clear hS
          go_region
          go_wp2
          exact bodyPost_ret (v := .tuple #[.agg #[.string an, .string ad], .agg #[.string bn, .string bd], .int .i64 0]) (by simp [results, Tryz.results11, go_sem, World.cell?_drew, y0, y1, y2, y3]) rfl ⟨rfl, kb_drew hfin.out⟩

theorem res2 {fn : Func} {t u : Tmp} (h : fn.results = #[.tmp t, .tmp u]) (tmps : Array Value) (Pr : Program) (w : World) :
    (results fn tmps).run Pr w = .ok (.tuple #[tmps.getD t undef, tmps.getD u undef]) w := by simp [results, h]
/-- What Reaches returns. -/
def rV (o : Option Int) : Value := match o with
  | some z => .tuple #[.int .i64 z, .int .i64 0]
  | none => .tuple #[.int .i64 0, .int .i64 260]
theorem rch_eq (l : List Dt) (k t : Int) : rch l k t = match fcst l t with
    | some (a, b) => if decide (-1000000 ≤ k) && decide (k ≤ 1000000) then some (if 0 ≤ cmpQ a (k : Rat) then 1 else if cmpQ b (k : Rat) < 0 then -1 else 0) else none
    | none => none := by
  unfold rch
  cases fcst l t with
  | none => rfl
  | some x =>
    obtain ⟨a, b⟩ := x
    have h1 : ((k : Rat) ≤ a) ↔ 0 ≤ cmpQ a (k : Rat) := cmpQ_ge.symm
    have h2 : (b < (k : Rat)) ↔ cmpQ b (k : Rat) < 0 := by have := cmpQ_neg b (k : Rat); rw [decide_eq_decide] at this; exact this.symm
    simp only [h1, h2]
theorem rets_bd {l : List Dt} {t : Int} {a b : Rat} (h : fcst l t = some (a, b)) : SmallQ a ∧ SmallQ b := by
  rw [fcst_ex2] at h
  cases c0 : exO l t false with
  | none => rw [c0] at h; cases h
  | some x => cases c1 : exO l t true with
    | none => rw [c0, c1] at h; cases h
    | some y =>
      rw [c0, c1] at h
      cases h
      have ht := exO_day c0
      obtain ⟨hx, hx0⟩ := exO_ok c0
      obtain ⟨hy, hy0⟩ := exO_ok c1
      have key : ∀ z : Ln, LnOk z → z.t < z.u → SmallQ (z.val t) := fun z hz h0 => by
        have e : z.val t = Rat.divInt (z.on t) (z.u - z.t) := by unfold DecM.Ln.val DecM.ratio; rw [Rat.divInt_eq_div]
        rw [e]
        exact smallQ_divInt (fits_small (fits_on hz ht)) (fits_small (fits_int (by have := hz.t; have := hz.u; omega))) (by omega)
      exact ⟨key x hx hx0, key y hy hy0⟩

set_option maxRecDepth 100000 in
set_option maxHeartbeats 16000000 in
/-- decay.Reaches. -/
theorem reaches_any (v : Value) (l : List Dt) (k t : Int) (hk : Fits k) (w : World) (hE : Env w) (h : SlD w v l) :
    Calls Tryz.prog 21 #[v, .int .i64 k, .int .i64 t] w (Rets w (rV (rch l k t))) := by
  have F0 := fun W (hE : Env W) (h : SlD W v l) => forecast_any v l t W hE h
  have IN := fun W => isIn_b k (-1000000) 1000000 W
  have OF := fun W (hE : Env W) => qof_o k 1 hk (by decide) W hE
  rw [oOf_one] at OF
  unfold oV at OF
  have hbd := fun a b => rets_bd (l := l) (t := t) (a := a) (b := b)
  rw [rch_eq]
  generalize fcst l t = o0 at *
  generalize (decide (-1000000 ≤ k) && decide (k ≤ 1000000)) = b0 at *
  have HL := Lib.hid h
  obtain ⟨ag, cap, rfl⟩ := h.shape
  clear h
  replace IN := Lib.hid IN
  have hS := BL.start w
  cases o0 with
  | none =>
    clear OF hbd hk
    show Calls _ _ _ _ (Rets w (.tuple #[.int .i64 0, .int .i64 260]))
    unfold fV at F0
    replace F0 := Lib.hid F0
    go_enter Tryz.func21, Tryz.ntmps21
    go_wp2_with fail
    refine Calls.mono (F0.out _ (hS.env hE) (HL.out.below hS.below)) ?_
    rintro e w1 ⟨rfl, hb⟩
    replace hS := hS.call hb
    clear hb
    replace hS := hS.add' #[.string ⟨#[]⟩, .string ⟨#[]⟩] 27
    obtain ⟨W0, hW0, hS, hz0⟩ := hS
    replace hS := hS.add' #[.string ⟨#[]⟩, .string ⟨#[]⟩] 27
    obtain ⟨W1, hW1, hS, hz1⟩ := hS
    rw [hz0] at hS
    obtain ⟨W, hW⟩ : ∃ W, W = ((w1.alloc (.cells #[.string ⟨#[]⟩, .string ⟨#[]⟩] 27)).alloc (.cells #[.string ⟨#[]⟩, .string ⟨#[]⟩] 27)) := ⟨_, rfl⟩
    replace hS : BL w [(w1.heap.size + 1, #[.string ⟨#[]⟩, .string ⟨#[]⟩], 27), (w1.heap.size, #[.string ⟨#[]⟩, .string ⟨#[]⟩], 27)] W := by rw [hW, ← hW0, ← hW1]; exact hS
    clear hz0 hz1 hW1 hW0
    go_upto_region 3 with fail
    rw [← hW]
    clear hW
    go_wp2
    refine bodyPost_ret (res2 rfl _ _ _) rfl ?_
    exact ⟨rfl, hS.below⟩
  | some x =>
    obtain ⟨a, b⟩ := x
    obtain ⟨sa, sb⟩ := hbd a b rfl
    clear hbd
    have CA := fun W (hE : Env W) => qcmp_o (OkO.some sa) (ok_int hk) W hE
    have CB := fun W (hE : Env W) => qcmp_o (OkO.some sb) (ok_int hk) W hE
    replace CA : ∀ W, Env W → Calls Tryz.prog 46 #[.agg #[.string (numS a), .string (denS a)], .agg #[.string (tN (some (k : Rat))), .string (tD (some (k : Rat)))]] W (Rets W (.int .i64 (cmpQ a (k : Rat)))) := CA
    replace CB : ∀ W, Env W → Calls Tryz.prog 46 #[.agg #[.string (numS b), .string (denS b)], .agg #[.string (tN (some (k : Rat))), .string (tD (some (k : Rat)))]] W (Rets W (.int .i64 (cmpQ b (k : Rat)))) := CB
    unfold fV at F0
    dsimp only at F0 ⊢
    generalize numS a = an at *
    generalize denS a = ad at *
    generalize numS b = bn at *
    generalize denS b = bd at *
    generalize cmpQ a (k : Rat) = ca at *
    generalize cmpQ b (k : Rat) = cb at *
    generalize tN (some (k : Rat)) = kn at *
    generalize tD (some (k : Rat)) = kd at *
    generalize eO (some (k : Rat)) = ke at *
    clear sa sb hk
    replace F0 := Lib.hid F0
    replace OF := Lib.hid OF
    replace CA := Lib.hid CA
    replace CB := Lib.hid CB
    cases b0 with
    | false =>
      clear OF CA CB
      show Calls _ _ _ _ (Rets w (.tuple #[.int .i64 0, .int .i64 260]))
      go_enter Tryz.func21, Tryz.ntmps21
      go_wp2_with fail
      refine Calls.mono (F0.out _ (hS.env hE) (HL.out.below hS.below)) ?_
      rintro e w1 ⟨rfl, hb⟩
      replace hS := hS.call hb
      clear hb
      replace hS := hS.add' #[.string an, .string ad] 27
      obtain ⟨W0, hW0, hS, hz0⟩ := hS
      replace hS := hS.add' #[.string bn, .string bd] 27
      obtain ⟨W1, hW1, hS, hz1⟩ := hS
      rw [hz0] at hS
      obtain ⟨W, hW⟩ : ∃ W, W = ((w1.alloc (.cells #[.string an, .string ad] 27)).alloc (.cells #[.string bn, .string bd] 27)) := ⟨_, rfl⟩
      replace hS : BL w [(w1.heap.size + 1, #[.string bn, .string bd], 27), (w1.heap.size, #[.string an, .string ad], 27)] W := by rw [hW, ← hW0, ← hW1]; exact hS
      clear hz0 hz1 hW1 hW0
      go_wp2_with fail
      rw [← hW]
      clear hW
      refine Calls.mono (IN.out _) ?_
      rintro e w2 ⟨rfl, hb⟩
      replace hS := hS.call hb
      clear hb
      go_wp2
      refine bodyPost_ret (res2 rfl _ _ _) rfl ?_
      exact ⟨rfl, hS.below⟩
    | true =>
      rw [if_pos rfl]
      by_cases h1 : 0 ≤ ca
      · rw [if_pos h1]
        show Calls _ _ _ _ (Rets w (.tuple #[.int .i64 1, .int .i64 0]))
        go_enter Tryz.func21, Tryz.ntmps21
        go_wp2_with fail
        refine Calls.mono (F0.out _ (hS.env hE) (HL.out.below hS.below)) ?_
        rintro e w1 ⟨rfl, hb⟩
        replace hS := hS.call hb
        clear hb
        replace hS := hS.add' #[.string an, .string ad] 27
        obtain ⟨W0, hW0, hS, hz0⟩ := hS
        replace hS := hS.add' #[.string bn, .string bd] 27
        obtain ⟨W1, hW1, hS, hz1⟩ := hS
        rw [hz0] at hS
        obtain ⟨W, hW⟩ : ∃ W, W = ((w1.alloc (.cells #[.string an, .string ad] 27)).alloc (.cells #[.string bn, .string bd] 27)) := ⟨_, rfl⟩
        replace hS : BL w [(w1.heap.size + 1, #[.string bn, .string bd], 27), (w1.heap.size, #[.string an, .string ad], 27)] W := by rw [hW, ← hW0, ← hW1]; exact hS
        clear hz0 hz1 hW1 hW0
        go_wp2_with fail
        rw [← hW]
        clear hW
        refine Calls.mono (IN.out _) ?_
        rintro e w2 ⟨rfl, hb⟩
        replace hS := hS.call hb
        clear hb
        go_wp2_with fail
        refine Calls.mono (OF.out _ (hS.env hE)) ?_
        rintro e w3 ⟨rfl, hb⟩
        replace hS := hS.call hb
        clear hb
        replace hS := hS.add' #[.string kn, .string kd] 27
        obtain ⟨W0, hW0, hS, hz0⟩ := hS
        obtain ⟨W, hW⟩ : ∃ W, W = (w3.alloc (.cells #[.string kn, .string kd] 27)) := ⟨_, rfl⟩
        replace hS : BL w [(w3.heap.size, #[.string kn, .string kd], 27), (w1.heap.size + 1, #[.string bn, .string bd], 27), (w1.heap.size, #[.string an, .string ad], 27)] W := by rw [hW, ← hW0]; exact hS
        clear hz0 hW0
        go_upto_region 5 with fail
        rw [← hW]
        clear hW
        obtain ⟨c_a_0, c_a_1⟩ := hS.c2 (w1.heap.size) _ _ _ (.tail _ (.tail _ (.head _)))
        obtain ⟨c_k_0, c_k_1⟩ := hS.c2 (w3.heap.size) _ _ _ (.head _)
        go_wp2_with fail
        refine Calls.mono (CA.out _ (hS.env hE)) ?_
        rintro e w4 ⟨rfl, hb⟩
        clear c_a_0 c_a_1 c_k_0 c_k_1
        replace hS := hS.call hb
        clear hb
        go_wp2
        refine bodyPost_ret (res2 rfl _ _ _) rfl ?_
        exact ⟨rfl, hS.below⟩
      · rw [if_neg h1]
        by_cases h2 : cb < 0
        · rw [if_pos h2]
          show Calls _ _ _ _ (Rets w (.tuple #[.int .i64 (-1), .int .i64 0]))
          go_enter Tryz.func21, Tryz.ntmps21
          go_wp2_with fail
          refine Calls.mono (F0.out _ (hS.env hE) (HL.out.below hS.below)) ?_
          rintro e w1 ⟨rfl, hb⟩
          replace hS := hS.call hb
          clear hb
          replace hS := hS.add' #[.string an, .string ad] 27
          obtain ⟨W0, hW0, hS, hz0⟩ := hS
          replace hS := hS.add' #[.string bn, .string bd] 27
          obtain ⟨W1, hW1, hS, hz1⟩ := hS
          rw [hz0] at hS
          obtain ⟨W, hW⟩ : ∃ W, W = ((w1.alloc (.cells #[.string an, .string ad] 27)).alloc (.cells #[.string bn, .string bd] 27)) := ⟨_, rfl⟩
          replace hS : BL w [(w1.heap.size + 1, #[.string bn, .string bd], 27), (w1.heap.size, #[.string an, .string ad], 27)] W := by rw [hW, ← hW0, ← hW1]; exact hS
          clear hz0 hz1 hW1 hW0
          go_wp2_with fail
          rw [← hW]
          clear hW
          refine Calls.mono (IN.out _) ?_
          rintro e w2 ⟨rfl, hb⟩
          replace hS := hS.call hb
          clear hb
          go_wp2_with fail
          refine Calls.mono (OF.out _ (hS.env hE)) ?_
          rintro e w3 ⟨rfl, hb⟩
          replace hS := hS.call hb
          clear hb
          replace hS := hS.add' #[.string kn, .string kd] 27
          obtain ⟨W0, hW0, hS, hz0⟩ := hS
          obtain ⟨W, hW⟩ : ∃ W, W = (w3.alloc (.cells #[.string kn, .string kd] 27)) := ⟨_, rfl⟩
          replace hS : BL w [(w3.heap.size, #[.string kn, .string kd], 27), (w1.heap.size + 1, #[.string bn, .string bd], 27), (w1.heap.size, #[.string an, .string ad], 27)] W := by rw [hW, ← hW0]; exact hS
          clear hz0 hW0
          go_upto_region 5 with fail
          rw [← hW]
          clear hW
          obtain ⟨c_a_0, c_a_1⟩ := hS.c2 (w1.heap.size) _ _ _ (.tail _ (.tail _ (.head _)))
          obtain ⟨c_k_0, c_k_1⟩ := hS.c2 (w3.heap.size) _ _ _ (.head _)
          go_wp2_with fail
          refine Calls.mono (CA.out _ (hS.env hE)) ?_
          rintro e w4 ⟨rfl, hb⟩
          clear c_a_0 c_a_1 c_k_0 c_k_1
          replace hS := hS.call hb
          clear hb
          obtain ⟨c_b_0, c_b_1⟩ := hS.c2 (w1.heap.size + 1) _ _ _ (.tail _ (.head _))
          obtain ⟨c_k_0, c_k_1⟩ := hS.c2 (w3.heap.size) _ _ _ (.head _)
          go_wp2_with fail
          refine Calls.mono (CB.out _ (hS.env hE)) ?_
          rintro e w5 ⟨rfl, hb⟩
          clear c_b_0 c_b_1 c_k_0 c_k_1
          replace hS := hS.call hb
          clear hb
          go_wp2
          refine bodyPost_ret (res2 rfl _ _ _) rfl ?_
          exact ⟨rfl, hS.below⟩
        · rw [if_neg h2]
          show Calls _ _ _ _ (Rets w (.tuple #[.int .i64 0, .int .i64 0]))
          go_enter Tryz.func21, Tryz.ntmps21
          go_wp2_with fail
          refine Calls.mono (F0.out _ (hS.env hE) (HL.out.below hS.below)) ?_
          rintro e w1 ⟨rfl, hb⟩
          replace hS := hS.call hb
          clear hb
          replace hS := hS.add' #[.string an, .string ad] 27
          obtain ⟨W0, hW0, hS, hz0⟩ := hS
          replace hS := hS.add' #[.string bn, .string bd] 27
          obtain ⟨W1, hW1, hS, hz1⟩ := hS
          rw [hz0] at hS
          obtain ⟨W, hW⟩ : ∃ W, W = ((w1.alloc (.cells #[.string an, .string ad] 27)).alloc (.cells #[.string bn, .string bd] 27)) := ⟨_, rfl⟩
          replace hS : BL w [(w1.heap.size + 1, #[.string bn, .string bd], 27), (w1.heap.size, #[.string an, .string ad], 27)] W := by rw [hW, ← hW0, ← hW1]; exact hS
          clear hz0 hz1 hW1 hW0
          go_wp2_with fail
          rw [← hW]
          clear hW
          refine Calls.mono (IN.out _) ?_
          rintro e w2 ⟨rfl, hb⟩
          replace hS := hS.call hb
          clear hb
          go_wp2_with fail
          refine Calls.mono (OF.out _ (hS.env hE)) ?_
          rintro e w3 ⟨rfl, hb⟩
          replace hS := hS.call hb
          clear hb
          replace hS := hS.add' #[.string kn, .string kd] 27
          obtain ⟨W0, hW0, hS, hz0⟩ := hS
          obtain ⟨W, hW⟩ : ∃ W, W = (w3.alloc (.cells #[.string kn, .string kd] 27)) := ⟨_, rfl⟩
          replace hS : BL w [(w3.heap.size, #[.string kn, .string kd], 27), (w1.heap.size + 1, #[.string bn, .string bd], 27), (w1.heap.size, #[.string an, .string ad], 27)] W := by rw [hW, ← hW0]; exact hS
          clear hz0 hW0
          go_upto_region 5 with fail
          rw [← hW]
          clear hW
          obtain ⟨c_a_0, c_a_1⟩ := hS.c2 (w1.heap.size) _ _ _ (.tail _ (.tail _ (.head _)))
          obtain ⟨c_k_0, c_k_1⟩ := hS.c2 (w3.heap.size) _ _ _ (.head _)
          go_wp2_with fail
          refine Calls.mono (CA.out _ (hS.env hE)) ?_
          rintro e w4 ⟨rfl, hb⟩
          clear c_a_0 c_a_1 c_k_0 c_k_1
          replace hS := hS.call hb
          clear hb
          obtain ⟨c_b_0, c_b_1⟩ := hS.c2 (w1.heap.size + 1) _ _ _ (.tail _ (.head _))
          obtain ⟨c_k_0, c_k_1⟩ := hS.c2 (w3.heap.size) _ _ _ (.head _)
          go_wp2_with fail
          refine Calls.mono (CB.out _ (hS.env hE)) ?_
          rintro e w5 ⟨rfl, hb⟩
          clear c_b_0 c_b_1 c_k_0 c_k_1
          replace hS := hS.call hb
          clear hb
          go_wp2
          refine bodyPost_ret (res2 rfl _ _ _) rfl ?_
          exact ⟨rfl, hS.below⟩

end Go.Proofs.YtebokdboodgkpaaGreatDoor
