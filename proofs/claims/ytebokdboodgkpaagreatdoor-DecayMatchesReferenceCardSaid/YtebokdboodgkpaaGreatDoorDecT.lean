/- putlogref26: Misses, Hidden, Made. -/
import Derived.Test.YtebokdboodgkpaaGreatDoorDecS
import Derived.Deep.RegionHeld3
import Derived.Deep.DeepCutAuto
import Derived.Deep.QuietTactic
import Derived.BigQuiet
import Derived.RegionTactic
import Derived.BigRegion
namespace Go.Proofs.YtebokdboodgkpaaGreatDoor
open Go.RowKit
open DecM (Dt gd gd_lt okD inDay Ln mk mdt pk)
attribute [local go_sem] Oper.semAt_some


/-- Numbers as a value: the data's numbers in a slice. -/
structure Nm where
  f : Int
  s : Int
  v : Value
  ds : List Dt
  m : Int
/-- The numbers lie in the world. -/
structure NmOk (w : World) (x : Nm) : Prop where
  f : Fits x.f
  s : Fits x.s
  m : Fits x.m
  sl : SlD w x.v x.ds
  ds : ∀ d ∈ x.ds, Fits d.t ∧ Fits d.lo ∧ Fits d.hi
theorem NmOk.below {w w' : World} {x : Nm} (h : NmOk w x) (hb : Below w.heap.size w w') : NmOk w' x := ⟨h.f, h.s, h.m, h.sl.below hb, h.ds⟩
def Nm.miss (x : Nm) : Bool := decide (pkv x.m 3 = 2)
def Nm.first (x : Nm) : Int := pkv x.f 2001 - 1000
def Nm.slope (x : Nm) : Int := pkv x.s 141 - 70
def Nm.trip (x : Nm) : List (Int × Int × Int) := (x.ds.take 9).map fun d => (d.t, d.lo, d.hi)
def Nm.mi (x : Nm) : Int := if x.miss then pkv (x.m.tdiv 3) (min (x.ds.length : Int) 9) else -1
def Nm.by' (x : Nm) : Int := pkv (x.m.tdiv 30) 241 - 120
/-- The data of the numbers. -/
def Nm.made (x : Nm) : List Dt := DecM.mk x.first x.slope x.mi x.by' 0 0 x.trip
theorem Nm.first_bd (x : Nm) : -1000 ≤ x.first ∧ x.first ≤ 1000 := by
  have h1 := pkv_nonneg (c := x.f) (m := 2001) (by decide)
  have h2 := pkv_lt (c := x.f) (m := 2001) (by decide)
  unfold Nm.first; omega
theorem Nm.slope_bd (x : Nm) : -70 ≤ x.slope ∧ x.slope ≤ 70 := by
  have h1 := pkv_nonneg (c := x.s) (m := 141) (by decide)
  have h2 := pkv_lt (c := x.s) (m := 141) (by decide)
  unfold Nm.slope; omega
theorem Nm.by_bd (x : Nm) : -120 ≤ x.by' ∧ x.by' ≤ 120 := by
  have h1 := pkv_nonneg (c := x.m.tdiv 30) (m := 241) (by decide)
  have h2 := pkv_lt (c := x.m.tdiv 30) (m := 241) (by decide)
  unfold Nm.by'; omega
theorem Nm.trip_len (x : Nm) : x.trip.length ≤ 9 := by unfold Nm.trip; rw [List.length_map, List.length_take]; omega
theorem Nm.made_ok (x : Nm) : okD x.made = true := DecM.mk_ok x.first_bd x.slope_bd x.by_bd x.trip_len
theorem Nm.made_len (x : Nm) : x.made.length = min x.ds.length 9 := by
  unfold Nm.made; rw [DecM.mk_length]; unfold Nm.trip; rw [List.length_map, List.length_take]; omega
theorem Nm.made_le (x : Nm) : x.made.length ≤ 9 := by rw [x.made_len]; omega
theorem Nm.made_bd (x : Nm) : ∀ p ∈ x.made, 0 < p.t ∧ p.t ≤ 3600 ∧ -40000 ≤ p.lo ∧ p.lo ≤ p.hi ∧ p.hi ≤ 40000 :=
  (DecM.mk_bd (mi := x.mi) x.first_bd x.slope_bd x.by_bd x.trip 0 0 (by omega) (by have := x.trip_len; omega)).2
theorem Nm.made_fit (x : Nm) (h : x.miss = false) : DecM.FitAll 0 (x.first : Rat) ((x.slope : Rat) / 7) x.made := by
  unfold Nm.made
  exact DecM.mk_fit (mi := x.mi) (by unfold Nm.mi; rw [if_neg (by rw [h]; decide)]; omega) _ _ _ (by omega)

set_option maxRecDepth 100000 in
set_option maxHeartbeats 16000000 in
theorem misses_any (x : Nm) (w : World) (h : NmOk w x) : Calls Tryz.prog 32 #[.agg #[.int .i64 x.f, .int .i64 x.s, x.v, .int .i64 x.m]] w (Rets w (.bool x.miss)) := by
  have P := Lib.hid (fun W => pickR_any_b x.m 3 h.m (by decide) (by decide) W)
  have hm := Lib.hid (show (pkv x.m 3 == 2) = x.miss by unfold Nm.miss; cases hc : decide (pkv x.m 3 = 2) <;> simp_all)
  obtain ⟨ag, cap, hv⟩ := h.sl.shape
  clear h
  generalize x.miss = mb at *
  generalize pkv x.m 3 = p at *
  have S0 := BL.start w
  obtain ⟨V1, ev1, S1, zv1⟩ := S0.add' #[.int .i64 x.f, .int .i64 x.s, x.v, .int .i64 x.m] 24
  have hV : V1 = (w.alloc (.cells #[.int .i64 x.f, .int .i64 x.s, x.v, .int .i64 x.m] 24)) := by rw [ev1]
  have hS : BL w [(w.heap.size, #[.int .i64 x.f, .int .i64 x.s, x.v, .int .i64 x.m], 24)] V1 := S1
  clear ev1 zv1 S0 S1
  rw [hv] at hV hS ⊢
  clear hv
  go_enter Tryz.func32, Tryz.ntmps32
  go_upto_region 1 with fail
  rw [← hV]
  clear hV
  obtain ⟨c_x_0, c_x_1, c_x_2, c_x_3⟩ := hS.c4 (w.heap.size) _ _ _ _ _ (.head _)
  go_wp2_with fail
  refine Calls.mono (P.out _) ?_
  rintro e w1 ⟨rfl, hb⟩
  clear c_x_0 c_x_1 c_x_2 c_x_3
  replace hS := hS.call hb
  clear hb
  go_wp2
  go_ret
  exact ⟨ret_bool hm.out, hS.below⟩

theorem Nm.first_fits (x : Nm) : Fits x.first := by have := x.first_bd; unfold Fits; omega
theorem Nm.slope_fits (x : Nm) : Fits x.slope := by have := x.slope_bd; unfold Fits; omega

set_option maxRecDepth 100000 in
set_option maxHeartbeats 16000000 in
theorem hidden_any (x : Nm) (w : World) (h : NmOk w x) : Calls Tryz.prog 6 #[.agg #[.int .i64 x.f, .int .i64 x.s, x.v, .int .i64 x.m]] w (Rets w (.tuple #[.agg #[.string (tN (oOf x.first 1)), .string (tD (oOf x.first 1))], .agg #[.string (tN (oOf x.slope 7)), .string (tD (oOf x.slope 7))]])) := by
  have P1 := Lib.hid (fun W => pickR_any_b x.f 2001 h.f (by decide) (by decide) W)
  have P2 := Lib.hid (fun W => pickR_any_b x.s 141 h.s (by decide) (by decide) W)
  have O1 := fun W => qrof_o x.first 1 x.first_fits (by decide) W
  have O2 := fun W => qrof_o x.slope 7 x.slope_fits (by decide) W
  have w1 : IntKind.i64.wrap (pkv x.f 2001 - 1000) = x.first := IntWalk.i64_in _ (by have := x.first_bd; unfold Nm.first at this; omega)
  have w2 : IntKind.i64.wrap (pkv x.s 141 - 70) = x.slope := IntWalk.i64_in _ (by have := x.slope_bd; unfold Nm.slope at this; omega)
  unfold oV at O1 O2
  obtain ⟨ag, cap, hv⟩ := h.sl.shape
  clear h
  generalize x.first = fi at *
  generalize x.slope = sl at *
  generalize tN (oOf fi 1) = an at *
  generalize tD (oOf fi 1) = ad at *
  generalize eO (oOf fi 1) = ae at *
  generalize tN (oOf sl 7) = bn at *
  generalize tD (oOf sl 7) = bd at *
  generalize eO (oOf sl 7) = be at *
  replace O1 := Lib.hid O1
  replace O2 := Lib.hid O2
  generalize pkv x.f 2001 = p at *
  generalize pkv x.s 141 = r at *
  have S0 := BL.start w
  obtain ⟨V1, ev1, S1, zv1⟩ := S0.add' #[.int .i64 x.f, .int .i64 x.s, x.v, .int .i64 x.m] 24
  obtain ⟨V2, ev2, S2, zv2⟩ := S1.add' #[.string ⟨#[]⟩, .string ⟨#[]⟩] 27
  rw [zv1] at S2 zv2
  obtain ⟨V3, ev3, S3, zv3⟩ := S2.add' #[.string ⟨#[]⟩, .string ⟨#[]⟩] 27
  rw [zv2] at S3 zv3
  have hV : V3 = (((w.alloc (.cells #[.int .i64 x.f, .int .i64 x.s, x.v, .int .i64 x.m] 24)).alloc (.cells #[.string ⟨#[]⟩, .string ⟨#[]⟩] 27)).alloc (.cells #[.string ⟨#[]⟩, .string ⟨#[]⟩] 27)) := by rw [ev3, ev2, ev1]
  have hS : BL w [(w.heap.size + 1 + 1, #[.string ⟨#[]⟩, .string ⟨#[]⟩], 27), (w.heap.size + 1, #[.string ⟨#[]⟩, .string ⟨#[]⟩], 27), (w.heap.size, #[.int .i64 x.f, .int .i64 x.s, x.v, .int .i64 x.m], 24)] V3 := S3
  clear ev1 ev2 ev3 zv1 zv2 zv3 S0 S1 S2 S3
  rw [hv] at hV hS ⊢
  clear hv
  go_enter Tryz.func6, Tryz.ntmps6
  go_upto_region 1 with fail
  rw [← hV]
  clear hV
  obtain ⟨c_x_0, c_x_1, c_x_2, c_x_3⟩ := hS.c4 (w.heap.size) _ _ _ _ _ (.tail _ (.tail _ (.head _)))
  go_wp2_with fail
  refine Calls.mono (P1.out _) ?_
  rintro e w1 ⟨rfl, hb⟩
  clear c_x_0 c_x_1 c_x_2 c_x_3
  replace hS := hS.call hb
  clear hb
  go_wp2_with fail
  refine Calls.mono (O1.out _) ?_
  rintro e w2 ⟨rfl, hb⟩
  replace hS := hS.call hb
  clear hb
  have m1 := (hS.blks _ (.tail _ (.head _))).lt
  have m2 := (hS.blks _ (.head _)).lt
  dsimp only at m1 m2
  replace hS := hS.add' #[.string an, .string ad] 27
  obtain ⟨W0, hW0, hS, hz0⟩ := hS
  obtain ⟨W, hW⟩ : ∃ W, W = (w2.alloc (.cells #[.string an, .string ad] 27)) := ⟨_, rfl⟩
  replace hS : BL w [(w2.heap.size, #[.string an, .string ad], 27), (w.heap.size + 1 + 1, #[.string ⟨#[]⟩, .string ⟨#[]⟩], 27), (w.heap.size + 1, #[.string ⟨#[]⟩, .string ⟨#[]⟩], 27), (w.heap.size, #[.int .i64 x.f, .int .i64 x.s, .slice ag x.ds.length cap, .int .i64 x.m], 24)] W := by rw [hW, ← hW0]; exact hS
  clear hz0 hW0
  go_upto_region 2 with fail
  rw [← hW]
  clear hW
  obtain ⟨c_x_0, c_x_1, c_x_2, c_x_3⟩ := hS.c4 (w.heap.size) _ _ _ _ _ (.tail _ (.tail _ (.tail _ (.head _))))
  go_wp2_with fail
  refine Calls.mono (P2.out _) ?_
  rintro e w3 ⟨rfl, hb⟩
  clear c_x_0 c_x_1 c_x_2 c_x_3
  replace hS := hS.call hb
  clear hb
  go_wp2_with fail
  refine Calls.mono (O2.out _) ?_
  rintro e w4 ⟨rfl, hb⟩
  replace hS := hS.call hb
  clear hb
  have m3 := (hS.blks _ (.tail _ (.tail _ (.head _)))).lt
  have m4 := (hS.blks _ (.tail _ (.head _))).lt
  dsimp only at m3 m4
  replace hS := hS.add' #[.string bn, .string bd] 27
  obtain ⟨W0, hW0, hS, hz0⟩ := hS
  obtain ⟨W, hW⟩ : ∃ W, W = (w4.alloc (.cells #[.string bn, .string bd] 27)) := ⟨_, rfl⟩
  replace hS : BL w [(w4.heap.size, #[.string bn, .string bd], 27), (w2.heap.size, #[.string an, .string ad], 27), (w.heap.size + 1 + 1, #[.string ⟨#[]⟩, .string ⟨#[]⟩], 27), (w.heap.size + 1, #[.string ⟨#[]⟩, .string ⟨#[]⟩], 27), (w.heap.size, #[.int .i64 x.f, .int .i64 x.s, .slice ag x.ds.length cap, .int .i64 x.m], 24)] W := by rw [hW, ← hW0]; exact hS
  clear hz0 hW0
  go_upto_region 3 with fail
  rw [← hW]
  clear hW
  obtain ⟨c_a_0, c_a_1⟩ := hS.c2 (w2.heap.size) _ _ _ (.tail _ (.head _))
  obtain ⟨c_b_0, c_b_1⟩ := hS.c2 (w4.heap.size) _ _ _ (.head _)
  obtain ⟨k0, k1, k2, k3, q0, q1, q2, q3, y0, y1, y2, y3, hfin⟩ := two_after (hS.blks _ (.tail _ (.tail _ (.tail _ (.head _))))) (hS.blks _ (.tail _ (.tail _ (.head _)))) (by omega) an ad bn bd
  have hfin := Lib.hid (hfin w hS.below (by omega) (by omega))
  clear hS
  go_region
  go_wp2
  exact bodyPost_ret (v := .tuple #[.agg #[.string an, .string ad], .agg #[.string bn, .string bd]]) (by simp [results, Tryz.results6, go_sem, World.cell?_drew, y0, y1, y2, y3]) rfl ⟨rfl, kb_drew hfin.out⟩

end Go.Proofs.YtebokdboodgkpaaGreatDoor
