/- putloglaw26: DecayMatchesReference, the walk. -/
import Derived.Test.YtebokdboodgkpaaGreatDoorPkR
import Derived.Deep.RegionHeld3
import Derived.Deep.DeepCutAuto
import Derived.Deep.QuietTactic
import Derived.BigQuiet
namespace Go.Proofs.YtebokdboodgkpaaGreatDoor
open Go.RowKit
open DecM (Dt okD fcst rts rch inDay)
attribute [local go_sem] Oper.semAt_some


set_option maxRecDepth 100000 in
set_option maxHeartbeats 16000000 in
theorem match26_row (x : Nm) (raw : Value) (rl : List Dt) (how n at_ t limit : Int) (u1 u2 v1 v2 : ByteArray) (w : World) (h : NmOk w x) (hraw : SlD w raw rl) (hrf : ∀ d ∈ rl, Fit3 d)
    (F1 : Fits how) (F2 : Fits n) (F3 : Fits at_) (F4 : Fits t) (F5 : Fits limit) (_ : u1.size ≤ 9223372036854775807) (_ : u2.size ≤ 9223372036854775807) (_ : v1.size ≤ 9223372036854775807) (_ : v2.size ≤ 9223372036854775807) (hEQ : EnvQ w) :
    Calls Tryz.prog 3 #[.agg #[.int .i64 x.f, .int .i64 x.s, x.v, .int .i64 x.m], raw, .int .i64 how, .int .i64 n, .int .i64 at_, .int .i64 t, .int .i64 limit, .agg #[.string u1, .string u2], .agg #[.string v1, .string v2]] w (Rets w (.bool true)) := by
  have hE := hEQ.env
  have dt0 := pkv_nonneg (c := t) (m := 5001) (by decide)
  have dt1 := pkv_lt (c := t) (m := 5001) (by decide)
  have DY := fun W => day_any t F4 W
  have pl0 := pkv_nonneg (c := limit) (m := 3001) (by decide)
  have pl1 := pkv_lt (c := limit) (m := 3001) (by decide)
  have PL := fun W => pickL_any_b limit 3001 F5 (by decide) (by decide) W
  generalize pkv t 5001 = dt at *
  generalize pkv limit 3001 = pl at *
  obtain ⟨lm, elm⟩ : ∃ z, z = pl - 1500 := ⟨_, rfl⟩
  have wl : IntKind.i64.wrap (pl - 1500) = lm := by rw [elm]; exact IntWalk.i64_in _ (by omega)
  have Fdt : Fits dt := by unfold Fits; omega
  have Flm : Fits lm := by unfold Fits; omega
  clear dt0 dt1 pl0 pl1 elm
  obtain ⟨hb', hb1⟩ : ∃ b, decide (1 < how) = b := ⟨_, rfl⟩
  have MD := fun W (h : NmOk W x) => made_any x W h
  have HD := fun W (h : NmOk W x) => hidden_any x W h
  have tx1 := t63_t (show OkO (oOf x.first 1) from OkO.of (fits_small x.first_fits) (fits_small (by decide)))
  have tx2 := t63_t (show OkO (oOf x.slope 7) from OkO.of (fits_small x.slope_fits) (fits_small (by decide)))
  have KO := fun W => of_c limit F5 W
  have tx3 := t63_t (ok_int F5)
  change T63 (numS (limit : Rat)) ∧ T63 (denS (limit : Rat)) at tx3
  have hmf := ok_fits x.made_ok
  have BT := fun v W (h : SlD W v x.made) => bent_any v x.made how n at_ F1 F2 F3 hmf (by have := x.made_le; omega) W h
  have HN := Lib.hid h
  have HR := Lib.hid hraw
  obtain ⟨ag, cap, hv⟩ := h.sl.shape
  generalize x.made = l1 at *
  generalize tN (oOf x.first 1) = an at *
  generalize tD (oOf x.first 1) = ad at *
  generalize tN (oOf x.slope 7) = bn at *
  generalize tD (oOf x.slope 7) = bd at *
  generalize numS (limit : Rat) = ln at *
  generalize denS (limit : Rat) = ld at *
  replace tx1 := Lib.hid tx1
  replace tx2 := Lib.hid tx2
  replace tx3 := Lib.hid tx3
  replace hmf := Lib.hid hmf
  replace hrf := Lib.hid hrf
  clear h hraw F1 F2 F3 hEQ
  rw [hv] at MD HD ⊢
  generalize x.f = xf at *
  generalize x.s = xs at *
  generalize x.m = xm at *
  generalize x.ds.length = xl at *
  clear hv
  replace DY := Lib.hid DY
  replace PL := Lib.hid PL
  replace MD := Lib.hid MD
  replace HD := Lib.hid HD
  replace KO := Lib.hid KO
  replace BT := Lib.hid BT
  have Sv0 := BL.start w
  obtain ⟨V1, ev1, Sv1, zv1⟩ := Sv0.add' #[.int .i64 xf, .int .i64 xs, .slice ag xl cap, .int .i64 xm] 24
  obtain ⟨V2, ev2, Sv2, zv2⟩ := Sv1.add' #[.string u1, .string u2] 27
  obtain ⟨V3, ev3, Sv3, zv3⟩ := Sv2.add' #[.string v1, .string v2] 27
  rw [zv1] at Sv2
  rw [zv2, zv1] at Sv3
  have hV : V3 = (((w.alloc (.cells #[.int .i64 xf, .int .i64 xs, .slice ag xl cap, .int .i64 xm] 24)).alloc (.cells #[.string u1, .string u2] 27)).alloc (.cells #[.string v1, .string v2] 27)) := by rw [ev3, ev2, ev1]
  have hS : BL w [(w.heap.size + 1 + 1, #[.string v1, .string v2], 27), (w.heap.size + 1, #[.string u1, .string u2], 27), (w.heap.size, #[.int .i64 xf, .int .i64 xs, .slice ag xl cap, .int .i64 xm], 24)] V3 := Sv3
  have hO : Asc w [(w.heap.size + 1 + 1, #[.string v1, .string v2], 27), (w.heap.size + 1, #[.string u1, .string u2], 27), (w.heap.size, #[.int .i64 xf, .int .i64 xs, .slice ag xl cap, .int .i64 xm], 24)] := ⟨by simp; omega, by simp; omega⟩
  clear ev1 ev2 ev3 zv1 zv2 zv3 Sv0 Sv1 Sv2 Sv3
  go_enter Tryz.func3, Tryz.ntmps3
  go_wp2_with fail
  rw [← hV]
  clear hV
  refine Calls.mono (sane_any _ (hS.env hE)) ?_
  rintro e w1 ⟨rfl, hb⟩
  replace hS := hS.call hb
  clear hb
  obtain ⟨c_U_0, c_U_1⟩ := hS.c2 (w.heap.size + 1) _ _ _ (.tail _ (.head _))
  go_wp2_with fail
  refine Calls.mono (cut26_any u1 u2 _) ?_
  rintro e w2 ⟨xa, xb, rfl, sa, sb, hb⟩
  clear c_U_0 c_U_1
  replace hS := hS.call hb
  clear hb
  obtain ⟨c_U_0, c_U_1⟩ := hS.c2 (w.heap.size + 1) _ _ _ (.tail _ (.head _))
  have fz0 := hS.frozen (w.heap.size + 1) _ _ (.tail _ (.head _)) 0
  have fz1 := hS.frozen (w.heap.size + 1) _ _ (.tail _ (.head _)) 1
  go_upto_region 3 with fail
  clear c_U_0 c_U_1
  clear fz0 fz1
  obtain ⟨W, hW⟩ : ∃ W, W = (w2.setCell ⟨w.heap.size + 1, 0, none⟩ (.string xa)).setCell ⟨w.heap.size + 1, 1, none⟩ (.string xb) := ⟨_, rfl⟩
  replace hS : BL w [(w.heap.size + 1 + 1, #[.string v1, .string v2], 27), (w.heap.size + 1, #[.string xa, .string xb], 27), (w.heap.size, #[.int .i64 xf, .int .i64 xs, .slice ag xl cap, .int .i64 xm], 24)] W := by rw [hW]; exact BL.put (A := [(w.heap.size + 1 + 1, #[.string v1, .string v2], 27)]) (C := [(w.heap.size, #[.int .i64 xf, .int .i64 xs, .slice ag xl cap, .int .i64 xm], 24)]) hO hS _ _
  replace hO : Asc w [(w.heap.size + 1 + 1, #[.string v1, .string v2], 27), (w.heap.size + 1, #[.string xa, .string xb], 27), (w.heap.size, #[.int .i64 xf, .int .i64 xs, .slice ag xl cap, .int .i64 xm], 24)] := Asc.put (A := [(w.heap.size + 1 + 1, #[.string v1, .string v2], 27)]) (C := [(w.heap.size, #[.int .i64 xf, .int .i64 xs, .slice ag xl cap, .int .i64 xm], 24)]) hO
  rw [← hW]
  clear hW
  obtain ⟨c_V_0, c_V_1⟩ := hS.c2 (w.heap.size + 1 + 1) _ _ _ (.head _)
  go_wp2_with fail
  refine Calls.mono (cut26_any v1 v2 _) ?_
  rintro e w3 ⟨ya, yb, rfl, sc, sd, hb⟩
  clear c_V_0 c_V_1
  replace hS := hS.call hb
  clear hb
  obtain ⟨c_V_0, c_V_1⟩ := hS.c2 (w.heap.size + 1 + 1) _ _ _ (.head _)
  have fz0 := hS.frozen (w.heap.size + 1 + 1) _ _ (.head _) 0
  have fz1 := hS.frozen (w.heap.size + 1 + 1) _ _ (.head _) 1
  go_upto_region 4 with fail
  clear c_V_0 c_V_1
  clear fz0 fz1
  obtain ⟨W, hW⟩ : ∃ W, W = (w3.setCell ⟨w.heap.size + 1 + 1, 0, none⟩ (.string ya)).setCell ⟨w.heap.size + 1 + 1, 1, none⟩ (.string yb) := ⟨_, rfl⟩
  replace hS : BL w [(w.heap.size + 1 + 1, #[.string ya, .string yb], 27), (w.heap.size + 1, #[.string xa, .string xb], 27), (w.heap.size, #[.int .i64 xf, .int .i64 xs, .slice ag xl cap, .int .i64 xm], 24)] W := by rw [hW]; exact BL.put (A := []) (C := [(w.heap.size + 1, #[.string xa, .string xb], 27), (w.heap.size, #[.int .i64 xf, .int .i64 xs, .slice ag xl cap, .int .i64 xm], 24)]) hO hS _ _
  replace hO : Asc w [(w.heap.size + 1 + 1, #[.string ya, .string yb], 27), (w.heap.size + 1, #[.string xa, .string xb], 27), (w.heap.size, #[.int .i64 xf, .int .i64 xs, .slice ag xl cap, .int .i64 xm], 24)] := Asc.put (A := []) (C := [(w.heap.size + 1, #[.string xa, .string xb], 27), (w.heap.size, #[.int .i64 xf, .int .i64 xs, .slice ag xl cap, .int .i64 xm], 24)]) hO
  rw [← hW]
  clear hW
  obtain ⟨c_x_0, c_x_1, c_x_2, c_x_3⟩ := hS.c4 (w.heap.size) _ _ _ _ _ (.tail _ (.tail _ (.head _)))
  go_wp2_with fail
  refine Calls.mono (HD.out _ (HN.out.below hS.below)) ?_
  rintro e w4 ⟨rfl, hb⟩
  clear c_x_0 c_x_1 c_x_2 c_x_3
  replace hS := hS.call hb
  clear hb
  replace hO := hO.add hS #[.string an, .string ad] 27
  replace hS := hS.add' #[.string an, .string ad] 27
  obtain ⟨W0, hW0, hS, hz0⟩ := hS
  replace hO := hO.add hS #[.string bn, .string bd] 27
  replace hS := hS.add' #[.string bn, .string bd] 27
  obtain ⟨W1, hW1, hS, hz1⟩ := hS
  rw [hz0] at hS hO
  obtain ⟨W, hW⟩ : ∃ W, W = ((w4.alloc (.cells #[.string an, .string ad] 27)).alloc (.cells #[.string bn, .string bd] 27)) := ⟨_, rfl⟩
  replace hS : BL w [(w4.heap.size + 1, #[.string bn, .string bd], 27), (w4.heap.size, #[.string an, .string ad], 27), (w.heap.size + 1 + 1, #[.string ya, .string yb], 27), (w.heap.size + 1, #[.string xa, .string xb], 27), (w.heap.size, #[.int .i64 xf, .int .i64 xs, .slice ag xl cap, .int .i64 xm], 24)] W := by rw [hW, ← hW0, ← hW1]; exact hS
  clear hz0 hz1 hW1 hW0
  clear hO
  go_upto_region 5 with fail
  rw [← hW]
  clear hW
  obtain ⟨c_x_0, c_x_1, c_x_2, c_x_3⟩ := hS.c4 (w.heap.size) _ _ _ _ _ (.tail _ (.tail _ (.tail _ (.tail _ (.head _)))))
  go_wp2_with fail
  refine Calls.mono (MD.out _ (HN.out.below hS.below)) ?_
  rintro e w5 ⟨m1, rfl, hM, hb⟩
  clear c_x_0 c_x_1 c_x_2 c_x_3
  replace hS := hS.call hb
  clear hb
  obtain ⟨ag1, cap1, rfl⟩ := hM.shape
  go_upto_region 6 with fail
  have hC0 : ∀ W', BL w [(w4.heap.size + 1, #[.string bn, .string bd], 27), (w4.heap.size, #[.string an, .string ad], 27), (w.heap.size + 1 + 1, #[.string ya, .string yb], 27), (w.heap.size + 1, #[.string xa, .string xb], 27), (w.heap.size, #[.int .i64 xf, .int .i64 xs, .slice ag xl cap, .int .i64 xm], 24)] W' → (W'.cell? ⟨w4.heap.size, 0, none⟩ = some (.string an) ∧ W'.cell? ⟨w4.heap.size, 1, none⟩ = some (.string ad)) := fun W' h => ⟨(h.cell (w4.heap.size) _ _ (.tail _ (.head _)) 0), (h.cell (w4.heap.size) _ _ (.tail _ (.head _)) 1)⟩
  have hC := Lib.hid hC0
  clear hC0
  obtain ⟨x0', x1'⟩ := hC.out _ hS
  go_cut [85, 86, 87] (fun s k i wx => ∃ (g : Nat) (m1 m2 m3 : Value) (l2 l3 : List Dt), s = .slice (some ⟨g, 0, none⟩) 3 3 ∧ k = .int .i64 3 ∧ i = .int .i64 0 ∧ SlD wx m1 l1 ∧ SlD wx m2 l2 ∧ SlD wx m3 l3 ∧ (∀ d ∈ l2, Fit3 d) ∧ (∀ d ∈ l3, Fit3 d) ∧ BL w ((g, #[m1, m2, m3], 25) :: [(w4.heap.size + 1, #[.string bn, .string bd], 27), (w4.heap.size, #[.string an, .string ad], 27), (w.heap.size + 1 + 1, #[.string ya, .string yb], 27), (w.heap.size + 1, #[.string xa, .string xb], 27), (w.heap.size, #[.int .i64 xf, .int .i64 xs, .slice ag xl cap, .int .i64 xm], 24)]) wx)
  case first =>
    obtain ⟨k, hk, hk1, hk2⟩ : ∃ k : Nat, min (rl.length : Int) 5 = (k : Int) ∧ k ≤ rl.length ∧ k ≤ 5 := ⟨min rl.length 5, by omega, by omega, by omega⟩
    have hM0 := hM
    replace hM := hM.below (kb_drew (Below.refl _ _))
    replace hS := hS.drew
    have hft : ∀ d ∈ rl.take k, Fit3 d := fun d hd => hrf.out d (List.mem_of_mem_take hd)
    rcases HR.out with ⟨rfl, rfl⟩ | ⟨b0, off0, cap0, rfl, r1, r2, r3, r4⟩
    · simp only [List.length_nil] at hk hk1
      obtain rfl : k = 0 := by omega
      have hm0 : min (0 : Int) 5 = 0 := by decide
      clear hk hk1 hk2
      go_region_held3 (fun w' => w'.cell? ⟨w4.heap.size, 0, none⟩ = some (.string an) ∧ w'.cell? ⟨w4.heap.size, 1, none⟩ = some (.string ad))
        (first | with_reducible exact hC.out _ hS | go_keep)
        (first | (go_at_call 8; (with_reducible refine Calls.mono (BT.out _ _ hM) ?_); rintro e w' ⟨m2, l2, rfl, hm2, hf2, hl2, hb⟩; obtain ⟨ag2, cap2, rfl⟩ := hm2.shape; replace hS := hS.call hb; replace hM := hM.below hb; clear hb))
      all_goals (go_wp2_with fail; go_meet; first | exact ⟨_, _, _, _, l2, [], rfl, rfl, rfl, hM.new _, hm2.new _, SlD.nil _, hf2, (fun d hd => by cases hd), hS.add _ _⟩ | exact ⟨_, _, _, _, l2, [], rfl, rfl, rfl, (hM.new _).below (kb_drew (Below.refl _ _)), (hm2.new _).below (kb_drew (Below.refl _ _)), SlD.nil _, hf2, (fun d hd => by cases hd), (hS.add _ _).drew⟩)
    · have hM3 := SlD.take r1 r2 r3 r4 hk1
      have r5 : (k : Int) ≤ cap0 := by omega
      have r6 : (0 : Int) ≤ k := by omega
      unfold maxLen at r2
      go_region_held3 (fun w' => w'.cell? ⟨w4.heap.size, 0, none⟩ = some (.string an) ∧ w'.cell? ⟨w4.heap.size, 1, none⟩ = some (.string ad))
        (first | with_reducible exact hC.out _ hS | go_keep)
        (first | (go_at_call 8; (with_reducible refine Calls.mono (BT.out _ _ hM) ?_); rintro e w' ⟨m2, l2, rfl, hm2, hf2, hl2, hb⟩; obtain ⟨ag2, cap2, rfl⟩ := hm2.shape; replace hS := hS.call hb; replace hM := hM.below hb; clear hb))
      all_goals (go_wp2_with fail; go_meet; first | exact ⟨_, _, _, _, l2, _, rfl, rfl, rfl, hM.new _, hm2.new _, hM3.below (hS.new _).below, hf2, hft, hS.add _ _⟩ | exact ⟨_, _, _, _, l2, _, rfl, rfl, rfl, (hM.new _).below (kb_drew (Below.refl _ _)), (hm2.new _).below (kb_drew (Below.refl _ _)), hM3.below (hS.new _).drew.below, hf2, hft, (hS.add _ _).drew⟩)
  case rest =>
    clear hC hS hM x0' x1'
    rename World => wb
    obtain ⟨g, m1, m2, m3, l2, l3, rfl, rfl, rfl, HM1, HM2, HM3, hf2, hf3, hS0⟩ := hcut
    replace HM1 := Lib.hid HM1
    replace HM2 := Lib.hid HM2
    replace HM3 := Lib.hid HM3
    replace hf2 := Lib.hid hf2
    replace hf3 := Lib.hid hf3
    have hB0 := Lib.hid hS0.below
    replace hE := hS0.env hE
    have hS := hS0.rebase
    clear hS0 HR HN MD HD BT hrf
    have hC2 := Lib.hid (fun W' (h : BL wb [(g, #[m1, m2, m3], 25), (w4.heap.size + 1, #[.string bn, .string bd], 27), (w4.heap.size, #[.string an, .string ad], 27), (w.heap.size + 1 + 1, #[.string ya, .string yb], 27), (w.heap.size + 1, #[.string xa, .string xb], 27), (w.heap.size, #[.int .i64 xf, .int .i64 xs, .slice ag xl cap, .int .i64 xm], 24)] W') => (⟨h.cell (w4.heap.size) _ _ (.tail _ (.tail _ (.head _))) 0, h.cell (w4.heap.size) _ _ (.tail _ (.tail _ (.head _))) 1, h.cell (w4.heap.size + 1) _ _ (.tail _ (.head _)) 0, h.cell (w4.heap.size + 1) _ _ (.tail _ (.head _)) 1, h.cell (w.heap.size + 1) _ _ (.tail _ (.tail _ (.tail _ (.tail _ (.head _))))) 0, h.cell (w.heap.size + 1) _ _ (.tail _ (.tail _ (.tail _ (.tail _ (.head _))))) 1, h.cell (w.heap.size + 1 + 1) _ _ (.tail _ (.tail _ (.tail _ (.head _)))) 0, h.cell (w.heap.size + 1 + 1) _ _ (.tail _ (.tail _ (.tail _ (.head _)))) 1⟩ : W'.cell? ⟨w4.heap.size, 0, none⟩ = some (.string an) ∧ W'.cell? ⟨w4.heap.size, 1, none⟩ = some (.string ad) ∧ W'.cell? ⟨w4.heap.size + 1, 0, none⟩ = some (.string bn) ∧ W'.cell? ⟨w4.heap.size + 1, 1, none⟩ = some (.string bd) ∧ W'.cell? ⟨w.heap.size + 1, 0, none⟩ = some (.string xa) ∧ W'.cell? ⟨w.heap.size + 1, 1, none⟩ = some (.string xb) ∧ W'.cell? ⟨w.heap.size + 1 + 1, 0, none⟩ = some (.string ya) ∧ W'.cell? ⟨w.heap.size + 1 + 1, 1, none⟩ = some (.string yb)))
    have hv2 : Hid (∀ i, i < 3 → ∃ v l, (∀ W, BL wb [(g, #[m1, m2, m3], 25), (w4.heap.size + 1, #[.string bn, .string bd], 27), (w4.heap.size, #[.string an, .string ad], 27), (w.heap.size + 1 + 1, #[.string ya, .string yb], 27), (w.heap.size + 1, #[.string xa, .string xb], 27), (w.heap.size, #[.int .i64 xf, .int .i64 xs, .slice ag xl cap, .int .i64 xm], 24)] W → W.cell? ⟨g, i, none⟩ = some v) ∧ SlD wb v l ∧ (∀ d ∈ l, Fit3 d)) := Lib.hid (fun i hi => by
      match i, hi with
      | 0, _ => exact ⟨m1, l1, fun W h => h.cell g _ _ (.head _) 0, HM1.out, hmf.out⟩
      | 1, _ => exact ⟨m2, l2, fun W h => h.cell g _ _ (.head _) 1, HM2.out, hf2.out⟩
      | 2, _ => exact ⟨m3, l3, fun W h => h.cell g _ _ (.head _) 2, HM3.out, hf3.out⟩)
    have tx := Lib.hid (show T63 an ∧ T63 ad ∧ T63 bn ∧ T63 bd ∧ T63 xa ∧ T63 xb ∧ T63 ya ∧ T63 yb ∧ T63 ln ∧ T63 ld from ⟨tx1.out.1, tx1.out.2, tx2.out.1, tx2.out.2, sa, sb, sc, sd, tx3.out.1, tx3.out.2⟩)
    clear HM1 HM2 HM3 hf2 hf3 hmf tx1 tx2 tx3 sa sb sc sd
    go_wp2_with fail
    refine lp0_26 hS hv2 hC2 hE F4 F5 Flm Fdt wl PL DY KO tx (by kernel_rfl) ?_
    clear hS hv2 hC2 tx
    intro u18 u24 u25 u26 u27 u28 u29 u30 u31 u32 u33 u34 u36 u37 u38 u39 u40 u41 u42 u43 u44 u45 u47 u48 u49 u50 u51 u53 u54 u55 u56 u57 u58 u59 u60 u61 u87 u88 u89 u90 u91 u92 u93 u94 u95 u96 u97 u98 u99 u100 u101 u102 u103 u104 u105 u106 u107 u108 u109 u110 u111 u112 u113 u114 u115 u116 u117 u118 u119 u120 u121 u122 u123 u124 u125 u126 u127 u128 u129 u130 u131 u132 u133 u134 u135 u136 u137 u138 u139 u140 u141 u142 u143 u144 u145 u146 u147 u148 u149 u150 u151 u152 u153 u154 u155 u156 u157 u158 u159 u160 u161 u162 u163 u164 u165 u166 u167 u168 u169 u170 u171 u172 u173 u174 u175 u176 u177 u178 u179 u180 u181 u182 u183 u184 u185 u186 u187 u188 u189 u190 u191 u192 u193 u194 u195 u196 u197 u198 u199 u200 u201 u202 u203 u204 u205 u206 u207 u208 u209 u210 u211 u212 u213 u214 u215 u216 u217 u218 u219 u220 u221 u222 u223 u224 u225 u226 u227 u228 u229 u230 u231 u232 u233 u234 u235 u236 u237 u238 u239 u240 u241 u242 u243 u244 u245 u246 u247 u248 u249 u250 u251 u252 u253 u254 u255 u256 u257 u258 u259 u260 u261 u262 u263 u264 u265 u266 u267 u268 u269 u270 u271 u272 u273 u274 u275 u276 u277 u278 u279 u280 u281 u282 u283 u284 u285 u286 u287 u288 u289 u290 u291 u292 u293 u294 u295 u296 u297 u298 u299 u300 u301 u302 u303 u304 u305 u306 u307 u308 u309 u310 u311 u312 u313 u314 wz hS
    go_wp2
    go_ret
    exact ⟨rfl, kb_then hB0.out hS.below⟩

end Go.Proofs.YtebokdboodgkpaaGreatDoor
