/- putloglaw26: DecayCampaigns, the walk. -/
import Derived.Test.YtonbmhdbcbbagaaGreatDoorDecCp
import Derived.Test.YtonbmhdbcbbagaaGreatDoorToInt
import Derived.Test.YtonbmhdbcbbagaaGreatDoorDecX
import Derived.Deep.RegionHeld3
import Derived.Deep.DeepCutAuto
import Derived.Deep.QuietTactic
import Derived.BigQuiet
namespace Go.Proofs.YtonbmhdbcbbagaaGreatDoor
open Go.RowKit
open DecM (Dt fcst okD inDay ins)
attribute [local go_sem] Oper.semAt_some

/-- The numbers of the blocks on a list: none of the caller's, each greater than those behind it. -/
structure Asc (w : World) (L : BLs) : Prop where
  ge : ∀ p ∈ L, w.heap.size ≤ p.1
  asc : L.Pairwise (fun p q => q.1 < p.1)
theorem Asc.nil (w : World) : Asc w [] := ⟨(fun p hp => by cases hp), List.Pairwise.nil⟩
theorem Asc.add {w W : World} {L : BLs} (h : Asc w L) (hS : BL w L W) (cs : Array Value) (t : TypeId) : Asc w ((W.heap.size, cs, t) :: L) :=
  ⟨fun p hp => by
    rcases List.mem_cons.1 hp with rfl | hp
    · exact hS.below.size
    · exact h.ge p hp, List.pairwise_cons.2 ⟨fun p hp => hS.lts p hp, h.asc⟩⟩
theorem Asc.put {w : World} {A C : BLs} {B : Nat} {cs ds : Array Value} {t : TypeId} (h : Asc w (A ++ (B, cs, t) :: C)) : Asc w (A ++ (B, ds, t) :: C) := by
  refine ⟨fun p hp => ?_, ?_⟩
  · rcases List.mem_append.1 hp with h1 | h1
    · exact h.ge p (List.mem_append_left _ h1)
    · rcases List.mem_cons.1 h1 with rfl | h1
      · exact h.ge (B, cs, t) (List.mem_append_right _ List.mem_cons_self)
      · exact h.ge p (List.mem_append_right _ (List.mem_cons_of_mem _ h1))
  · have h2 := List.pairwise_append.1 h.asc
    refine List.pairwise_append.2 ⟨h2.1, List.pairwise_cons.2 (List.pairwise_cons.1 h2.2.1), fun p hp q hq => ?_⟩
    rcases List.mem_cons.1 hq with rfl | hq
    · exact h2.2.2 p hp (B, cs, t) List.mem_cons_self
    · exact h2.2.2 p hp q (List.mem_cons_of_mem _ hq)
theorem Asc.ne {w : World} {A C : BLs} {B : Nat} {cs : Array Value} {t : TypeId} (h : Asc w (A ++ (B, cs, t) :: C)) : ∀ p ∈ A ++ C, p.1 ≠ B := by
  intro p hp
  have h2 := List.pairwise_append.1 h.asc
  rcases List.mem_append.1 hp with h1 | h1
  · have : B < p.1 := h2.2.2 p h1 (B, cs, t) List.mem_cons_self
    omega
  · have : p.1 < B := (List.pairwise_cons.1 h2.2.1).1 p h1
    omega
theorem Asc.base {w : World} {A C : BLs} {B : Nat} {cs : Array Value} {t : TypeId} (h : Asc w (A ++ (B, cs, t) :: C)) : w.heap.size ≤ B := h.ge (B, cs, t) (List.mem_append_right _ List.mem_cons_self)
/-- Blocks of the call's own, and two lists of data. -/
structure TI (w : World) (L : BLs) (v : Value) (l : List Dt) (u : Value) (m : List Dt) (W : World) : Prop where
  bl : BL w L W
  sd : SlD W v l
  se : SlD W u m
theorem TI.call {w W W' : World} {L : BLs} {v u : Value} {l m : List Dt} (h : TI w L v l u m W) (hb : Below W.heap.size W W') : TI w L v l u m W' := ⟨h.bl.call hb, h.sd.below hb, h.se.below hb⟩
theorem TI.drew {w W : World} {L : BLs} {v u : Value} {l m : List Dt} (h : TI w L v l u m W) : TI w L v l u m W.drew := h.call (below_drewN W 1)
theorem SlD.ptr_lt {W : World} {v : Value} {l : List Dt} (h : SlD W v l) : ∀ b o, v.ptr? = some (b, o) → b < W.heap.size := by
  intro b o hp
  rcases h with ⟨rfl, _⟩ | ⟨b0, off, cap, rfl, _, _, h3, _⟩
  · cases hp
  · cases hp; exact h3
theorem SlD.setB {W : World} {v : Value} {l : List Dt} {B : Nat} (h : SlD W v l) (hne : ∀ b o, v.ptr? = some (b, o) → b < B) (i : Nat) (x : Value) : SlD (W.setCell ⟨B, i, none⟩ x) v l := by
  rcases h with ⟨rfl, rfl⟩ | ⟨b0, off, cap, rfl, h1, h2, h3, h4⟩
  · exact SlD.nil _
  · have hb : b0 < B := hne b0 off rfl
    refine .inr ⟨b0, off, cap, rfl, h1, h2, by simpa using h3, fun j hj => ?_⟩
    obtain ⟨c0, c1, c2⟩ := h4 j hj
    have e : ∀ o, (W.setCell ⟨B, i, none⟩ x).cell? ⟨b0, o, none⟩ = W.cell? ⟨b0, o, none⟩ := fun o => by
      have := (Only.refl [B] W).setCell (p := ⟨B, i, none⟩) (by simp) x
      exact this.cell (p := ⟨b0, o, none⟩) h3 (by simp; omega)
    exact ⟨by rw [e]; exact c0, by rw [e]; exact c1, by rw [e]; exact c2⟩
/-- A cell of a block of three on the list is set. -/
theorem BL.put3 {w W : World} {A C : BLs} {B : Nat} {cs : Array Value} {t : TypeId} (hO : Asc w (A ++ (B, cs, t) :: C)) (h : BL w (A ++ (B, cs, t) :: C) W) (i : Nat) (x : Value) :
    BL w (A ++ (B, cs.setIfInBounds i x, t) :: C) (W.setCell ⟨B, i, none⟩ x) := by
  have ho : Only [B] W (W.setCell ⟨B, i, none⟩ x) := (Only.refl [B] W).setCell (p := ⟨B, i, none⟩) (by simp) x
  have h1 := (h.drop (M := A ++ C) (fun p hp => by
    rcases List.mem_append.1 hp with h1 | h1
    · exact List.mem_append_left _ h1
    · exact List.mem_append_right _ (List.mem_cons_of_mem _ h1))).only ho (by simpa using hO.base) (fun p hp => by simpa using hO.ne p hp)
  refine ⟨h1.below, fun p hp => ?_⟩
  rcases List.mem_append.1 hp with h2 | h2
  · exact h1.blks p (List.mem_append_left _ h2)
  · rcases List.mem_cons.1 h2 with rfl | h2
    · exact (h.blks (B, cs, t) (List.mem_append_right _ List.mem_cons_self)).set i x
    · exact h1.blks p (List.mem_append_right _ h2)
theorem cmp_le_t {x y : Rat} (h : x ≤ y) : decide (cmpQ x y ≤ 0) = true := decide_eq_true (cmpQ_le.2 h)
theorem cmp_le_f {x y : Rat} (h : ¬ x ≤ y) : decide (cmpQ x y ≤ 0) = false := decide_eq_false fun e => h (cmpQ_le.1 e)

set_option maxRecDepth 100000 in
set_option maxHeartbeats 16000000 in
theorem campaigns_row (x : Nm) (at_ from_ long t : Int) (w : World) (h : NmOk w x) (hat : Fits at_) (hfr : Fits from_) (hlo : Fits long) (ht : Fits t) (hEQ : EnvQ w) (hET : EnvT w) :
    Calls Tryz.prog 8 #[.agg #[.int .i64 x.f, .int .i64 x.s, x.v, .int .i64 x.m], .int .i64 at_, .int .i64 from_, .int .i64 long, .int .i64 t] w (Rets w (.bool true)) := by
  have hE := hEQ.env
  have d0 := pkv_nonneg (c := at_) (m := 5001) (by decide)
  have d1 := pkv_lt (c := at_) (m := 5001) (by decide)
  have t0 := pkv_nonneg (c := t) (m := 5001) (by decide)
  have t1 := pkv_lt (c := t) (m := 5001) (by decide)
  have j0 := pkv_nonneg (c := from_) (m := 401) (by decide)
  have j1 := pkv_lt (c := from_) (m := 401) (by decide)
  have k0 := pkv_nonneg (c := long) (m := 400) (by decide)
  have k1 := pkv_lt (c := long) (m := 400) (by decide)
  have DA := fun W => day_any at_ hat W
  have DS := fun W => day_any t ht W
  have P1 := fun W => pickL_any_b from_ 401 hfr (by decide) (by decide) W
  have P2 := fun W => pickL_any_b long 400 hlo (by decide) (by decide) W
  generalize pkv at_ 5001 = a at *
  generalize pkv t 5001 = s at *
  generalize pkv from_ 401 = z1 at *
  generalize pkv long 400 = z2 at *
  have ha : inDay a = true := DecM.inDay_iff.2 (by omega)
  have hs : inDay s = true := DecM.inDay_iff.2 (by omega)
  have MD := fun W (h : NmOk W x) => made_any x W h
  have hok := x.made_ok
  have hl9 := x.made_le
  have HN := Lib.hid h
  obtain ⟨ag, cap, hv⟩ := h.sl.shape
  generalize x.made = l at *
  have RF := fun v W (h : SlD W v l) => refute_any v l W h
  have FA := fun v W (hE : Env W) (h : SlD W v l) => forecast_any v l a W hE h
  have FS := fun v W (hE : Env W) (h : SlD W v l) => forecast_any v l s W hE h
  clear h hat hfr hlo ht hEQ d0 d1 t0 t1
  rw [hv] at MD ⊢
  generalize x.f = xf at *
  generalize x.s = xs at *
  generalize x.m = xm at *
  generalize x.ds.length = xl at *
  clear hv
  replace DA := Lib.hid DA
  replace DS := Lib.hid DS
  replace P1 := Lib.hid P1
  replace P2 := Lib.hid P2
  replace MD := Lib.hid MD
  unfold RefP at RF
  cases hfa : fcst l a with
  | none =>
    rw [hfa] at FA
    unfold fV at FA
    replace FA := Lib.hid FA
    rcases camp_none hok ha hfa with hr | ⟨hr, hl2⟩
    · rw [hr] at RF
      replace RF := Lib.hid RF
      clear hr hfa FS j0 j1 k0 k1 hET
      have Sv0 := BL.start w
      obtain ⟨V1, ev1, Sv1, zv1⟩ := Sv0.add' #[.int .i64 xf, .int .i64 xs, .slice ag xl cap, .int .i64 xm] 24
      have hV : V1 = (w.alloc (.cells #[.int .i64 xf, .int .i64 xs, .slice ag xl cap, .int .i64 xm] 24)) := by rw [ev1]
      have hS : BL w [(w.heap.size, #[.int .i64 xf, .int .i64 xs, .slice ag xl cap, .int .i64 xm], 24)] V1 := Sv1
      have hO : Asc w [(w.heap.size, #[.int .i64 xf, .int .i64 xs, .slice ag xl cap, .int .i64 xm], 24)] := ⟨by simp, by simp⟩
      clear ev1 zv1 Sv0 Sv1
      go_enter Tryz.func8, Tryz.ntmps8
      go_wp2_with fail
      rw [← hV]
      clear hV
      refine Calls.mono (sane_any _ (hS.env hE)) ?_
      rintro e w1 ⟨rfl, hb⟩
      replace hS := hS.call hb
      clear hb
      obtain ⟨c_x_0, c_x_1, c_x_2, c_x_3⟩ := hS.c4 (w.heap.size) _ _ _ _ _ (.head _)
      go_wp2_with fail
      refine Calls.mono (MD.out _ (HN.out.below hS.below)) ?_
      rintro e w2 ⟨v, rfl, hD, hb⟩
      clear c_x_0 c_x_1 c_x_2 c_x_3
      replace hS := hS.call hb
      clear hb
      obtain ⟨la, lc, rfl⟩ := hD.shape
      go_wp2_with fail
      refine Calls.mono (DA.out _) ?_
      rintro e w3 ⟨rfl, hb⟩
      replace hS := hS.call hb
      replace hD := hD.below hb
      clear hb
      have hlt := hD.ptr_lt
      replace hO := hO.add hS #[.int .i64 a, .int .i64 0, .int .i64 0] 59
      replace hS := hS.add' #[.int .i64 a, .int .i64 0, .int .i64 0] 59
      obtain ⟨W0, hW0, hS, hz0⟩ := hS
      obtain ⟨W, hW⟩ : ∃ W, W = (w3.alloc (.cells #[.int .i64 a, .int .i64 0, .int .i64 0] 59)) := ⟨_, rfl⟩
      replace hS : BL w [(w3.heap.size, #[.int .i64 a, .int .i64 0, .int .i64 0], 59), (w.heap.size, #[.int .i64 xf, .int .i64 xs, .slice ag xl cap, .int .i64 xm], 24)] W := by rw [hW, ← hW0]; exact hS
      replace hD : SlD W (.slice la l.length lc) l := by rw [hW]; exact hD.new _
      clear hz0 hW0
      go_upto_region 5 with fail
      rw [← hW]
      clear hW
      obtain ⟨c_d_0, c_d_1, c_d_2⟩ := hS.c3 (w3.heap.size) _ _ _ _ (.head _)
      go_wp2_with fail
      refine Calls.mono (FA.out _ _ (hS.env hE) hD) ?_
      rintro e w4 ⟨rfl, hb⟩
      clear c_d_0 c_d_1 c_d_2
      replace hS := hS.call hb
      replace hD := hD.below hb
      clear hb
      replace hO := hO.add hS #[.string ⟨#[]⟩, .string ⟨#[]⟩] 27
      replace hS := hS.add' #[.string ⟨#[]⟩, .string ⟨#[]⟩] 27
      obtain ⟨W0, hW0, hS, hz0⟩ := hS
      replace hO := hO.add hS #[.string ⟨#[]⟩, .string ⟨#[]⟩] 27
      replace hS := hS.add' #[.string ⟨#[]⟩, .string ⟨#[]⟩] 27
      obtain ⟨W1, hW1, hS, hz1⟩ := hS
      rw [hz0] at hS hO
      obtain ⟨W, hW⟩ : ∃ W, W = ((w4.alloc (.cells #[.string ⟨#[]⟩, .string ⟨#[]⟩] 27)).alloc (.cells #[.string ⟨#[]⟩, .string ⟨#[]⟩] 27)) := ⟨_, rfl⟩
      replace hS : BL w [(w4.heap.size + 1, #[.string ⟨#[]⟩, .string ⟨#[]⟩], 27), (w4.heap.size, #[.string ⟨#[]⟩, .string ⟨#[]⟩], 27), (w3.heap.size, #[.int .i64 a, .int .i64 0, .int .i64 0], 59), (w.heap.size, #[.int .i64 xf, .int .i64 xs, .slice ag xl cap, .int .i64 xm], 24)] W := by rw [hW, ← hW0, ← hW1]; exact hS
      replace hD : SlD W (.slice la l.length lc) l := by rw [hW]; exact (hD.new _).new _
      clear hz0 hz1 hW1 hW0
      go_wp2_with fail
      rw [← hW]
      clear hW
      refine Calls.mono (RF.out _ _ hD) ?_
      rintro e w5 ⟨u, rfl, -, hb⟩
      replace hS := hS.call hb
      replace hD := hD.below hb
      clear hb
      go_wp2
      go_ret
      exact ⟨rfl, hS.below⟩
    · rw [hr] at RF
      replace RF := Lib.hid RF
      clear hr hfa FS j0 j1 k0 k1 hET
      have Sv0 := BL.start w
      obtain ⟨V1, ev1, Sv1, zv1⟩ := Sv0.add' #[.int .i64 xf, .int .i64 xs, .slice ag xl cap, .int .i64 xm] 24
      have hV : V1 = (w.alloc (.cells #[.int .i64 xf, .int .i64 xs, .slice ag xl cap, .int .i64 xm] 24)) := by rw [ev1]
      have hS : BL w [(w.heap.size, #[.int .i64 xf, .int .i64 xs, .slice ag xl cap, .int .i64 xm], 24)] V1 := Sv1
      have hO : Asc w [(w.heap.size, #[.int .i64 xf, .int .i64 xs, .slice ag xl cap, .int .i64 xm], 24)] := ⟨by simp, by simp⟩
      clear ev1 zv1 Sv0 Sv1
      go_enter Tryz.func8, Tryz.ntmps8
      go_wp2_with fail
      rw [← hV]
      clear hV
      refine Calls.mono (sane_any _ (hS.env hE)) ?_
      rintro e w1 ⟨rfl, hb⟩
      replace hS := hS.call hb
      clear hb
      obtain ⟨c_x_0, c_x_1, c_x_2, c_x_3⟩ := hS.c4 (w.heap.size) _ _ _ _ _ (.head _)
      go_wp2_with fail
      refine Calls.mono (MD.out _ (HN.out.below hS.below)) ?_
      rintro e w2 ⟨v, rfl, hD, hb⟩
      clear c_x_0 c_x_1 c_x_2 c_x_3
      replace hS := hS.call hb
      clear hb
      obtain ⟨la, lc, rfl⟩ := hD.shape
      go_wp2_with fail
      refine Calls.mono (DA.out _) ?_
      rintro e w3 ⟨rfl, hb⟩
      replace hS := hS.call hb
      replace hD := hD.below hb
      clear hb
      have hlt := hD.ptr_lt
      replace hO := hO.add hS #[.int .i64 a, .int .i64 0, .int .i64 0] 59
      replace hS := hS.add' #[.int .i64 a, .int .i64 0, .int .i64 0] 59
      obtain ⟨W0, hW0, hS, hz0⟩ := hS
      obtain ⟨W, hW⟩ : ∃ W, W = (w3.alloc (.cells #[.int .i64 a, .int .i64 0, .int .i64 0] 59)) := ⟨_, rfl⟩
      replace hS : BL w [(w3.heap.size, #[.int .i64 a, .int .i64 0, .int .i64 0], 59), (w.heap.size, #[.int .i64 xf, .int .i64 xs, .slice ag xl cap, .int .i64 xm], 24)] W := by rw [hW, ← hW0]; exact hS
      replace hD : SlD W (.slice la l.length lc) l := by rw [hW]; exact hD.new _
      clear hz0 hW0
      go_upto_region 5 with fail
      rw [← hW]
      clear hW
      obtain ⟨c_d_0, c_d_1, c_d_2⟩ := hS.c3 (w3.heap.size) _ _ _ _ (.head _)
      go_wp2_with fail
      refine Calls.mono (FA.out _ _ (hS.env hE) hD) ?_
      rintro e w4 ⟨rfl, hb⟩
      clear c_d_0 c_d_1 c_d_2
      replace hS := hS.call hb
      replace hD := hD.below hb
      clear hb
      replace hO := hO.add hS #[.string ⟨#[]⟩, .string ⟨#[]⟩] 27
      replace hS := hS.add' #[.string ⟨#[]⟩, .string ⟨#[]⟩] 27
      obtain ⟨W0, hW0, hS, hz0⟩ := hS
      replace hO := hO.add hS #[.string ⟨#[]⟩, .string ⟨#[]⟩] 27
      replace hS := hS.add' #[.string ⟨#[]⟩, .string ⟨#[]⟩] 27
      obtain ⟨W1, hW1, hS, hz1⟩ := hS
      rw [hz0] at hS hO
      obtain ⟨W, hW⟩ : ∃ W, W = ((w4.alloc (.cells #[.string ⟨#[]⟩, .string ⟨#[]⟩] 27)).alloc (.cells #[.string ⟨#[]⟩, .string ⟨#[]⟩] 27)) := ⟨_, rfl⟩
      replace hS : BL w [(w4.heap.size + 1, #[.string ⟨#[]⟩, .string ⟨#[]⟩], 27), (w4.heap.size, #[.string ⟨#[]⟩, .string ⟨#[]⟩], 27), (w3.heap.size, #[.int .i64 a, .int .i64 0, .int .i64 0], 59), (w.heap.size, #[.int .i64 xf, .int .i64 xs, .slice ag xl cap, .int .i64 xm], 24)] W := by rw [hW, ← hW0, ← hW1]; exact hS
      replace hD : SlD W (.slice la l.length lc) l := by rw [hW]; exact (hD.new _).new _
      clear hz0 hz1 hW1 hW0
      go_wp2_with fail
      rw [← hW]
      clear hW
      refine Calls.mono (RF.out _ _ hD) ?_
      rintro e w5 ⟨u, rfl, -, hb⟩
      replace hS := hS.call hb
      replace hD := hD.below hb
      clear hb
      go_wp2
      go_ret
      exact ⟨rfl, hS.below⟩
  | some xy =>
    obtain ⟨x', y⟩ := xy
    rw [hfa] at FA
    unfold fV at FA
    dsimp only at FA
    replace FA := Lib.hid FA
    obtain ⟨bx, by'⟩ := fcst_bq hfa
    obtain ⟨n0, n1⟩ := floor_bd bx
    have hxd : (x'.den : Int) ≠ 0 := by have := x'.den_pos; omega
    have sx := bx.small (by decide)
    have DV := fun W (hE : Env W) => div_is (a := numS x') (b := denS x') rfl rfl sx.1 sx.2 W hE (x'.num / (x'.den : Int)) (x'.num % (x'.den : Int)) _ _ hxd rfl rfl rfl rfl
    have TN := fun W (hE : EnvT W) => toInt_is (a := I (x'.num / (x'.den : Int))) rfl (small_quo sx.1) (by unfold Fits; omega) (Nat.le_trans (I_size (k := 200) (small_quo sx.1) (by decide)) (by decide)) W hE
    generalize I (x'.num / (x'.den : Int)) = qs at *
    generalize I (x'.num % (x'.den : Int)) = rs at *
    generalize x'.num / (x'.den : Int) = n at *
    replace DV := Lib.hid DV
    replace TN := Lib.hid TN
    obtain ⟨m1, e1⟩ : ∃ z, z = n + z1 := ⟨_, rfl⟩
    have w1 : IntKind.i64.wrap (n + z1) = m1 := by rw [e1]; exact IntWalk.i64_in _ (by omega)
    obtain ⟨lo, e2⟩ : ∃ z, z = m1 - 200 := ⟨_, rfl⟩
    have w2 : IntKind.i64.wrap (m1 - 200) = lo := by rw [e2]; exact IntWalk.i64_in _ (by omega)
    obtain ⟨hi, e3⟩ : ∃ z, z = lo + z2 := ⟨_, rfl⟩
    have w3 : IntKind.i64.wrap (lo + z2) = hi := by rw [e3]; exact IntWalk.i64_in _ (by omega)
    have hlh : lo ≤ hi := by omega
    have flo : Fits lo := by unfold Fits; omega
    have fhi : Fits hi := by unfold Fits; omega
    have WT := fun v W (h : SlD W v l) => with_any v l ⟨a, lo, hi⟩ W (by omega) h
    have FR := free_of (d := ⟨a, lo, hi⟩) (l := l)
    have ox := bx.ok (by decide)
    have oy := by'.ok (by decide)
    clear sx hxd n0 n1 e1 e2 e3 j0 j1 k0 k1
    have Sv0 := BL.start w
    obtain ⟨V1, ev1, Sv1, zv1⟩ := Sv0.add' #[.int .i64 xf, .int .i64 xs, .slice ag xl cap, .int .i64 xm] 24
    have hV : V1 = (w.alloc (.cells #[.int .i64 xf, .int .i64 xs, .slice ag xl cap, .int .i64 xm] 24)) := by rw [ev1]
    have hS : BL w [(w.heap.size, #[.int .i64 xf, .int .i64 xs, .slice ag xl cap, .int .i64 xm], 24)] V1 := Sv1
    have hO : Asc w [(w.heap.size, #[.int .i64 xf, .int .i64 xs, .slice ag xl cap, .int .i64 xm], 24)] := ⟨by simp, by simp⟩
    clear ev1 zv1 Sv0 Sv1
    go_enter Tryz.func8, Tryz.ntmps8
    go_wp2_with fail
    rw [← hV]
    clear hV
    refine Calls.mono (sane_any _ (hS.env hE)) ?_
    rintro e w1 ⟨rfl, hb⟩
    replace hS := hS.call hb
    clear hb
    obtain ⟨c_x_0, c_x_1, c_x_2, c_x_3⟩ := hS.c4 (w.heap.size) _ _ _ _ _ (.head _)
    go_wp2_with fail
    refine Calls.mono (MD.out _ (HN.out.below hS.below)) ?_
    rintro e w2 ⟨v, rfl, hD, hb⟩
    clear c_x_0 c_x_1 c_x_2 c_x_3
    replace hS := hS.call hb
    clear hb
    obtain ⟨la, lc, rfl⟩ := hD.shape
    go_wp2_with fail
    refine Calls.mono (DA.out _) ?_
    rintro e w3 ⟨rfl, hb⟩
    replace hS := hS.call hb
    replace hD := hD.below hb
    clear hb
    have hlt := hD.ptr_lt
    replace hO := hO.add hS #[.int .i64 a, .int .i64 0, .int .i64 0] 59
    replace hS := hS.add' #[.int .i64 a, .int .i64 0, .int .i64 0] 59
    obtain ⟨W0, hW0, hS, hz0⟩ := hS
    obtain ⟨W, hW⟩ : ∃ W, W = (w3.alloc (.cells #[.int .i64 a, .int .i64 0, .int .i64 0] 59)) := ⟨_, rfl⟩
    replace hS : BL w [(w3.heap.size, #[.int .i64 a, .int .i64 0, .int .i64 0], 59), (w.heap.size, #[.int .i64 xf, .int .i64 xs, .slice ag xl cap, .int .i64 xm], 24)] W := by rw [hW, ← hW0]; exact hS
    replace hD : SlD W (.slice la l.length lc) l := by rw [hW]; exact hD.new _
    clear hz0 hW0
    go_upto_region 5 with fail
    rw [← hW]
    clear hW
    obtain ⟨c_d_0, c_d_1, c_d_2⟩ := hS.c3 (w3.heap.size) _ _ _ _ (.head _)
    go_wp2_with fail
    refine Calls.mono (FA.out _ _ (hS.env hE) hD) ?_
    rintro e w4 ⟨rfl, hb⟩
    clear c_d_0 c_d_1 c_d_2
    replace hS := hS.call hb
    replace hD := hD.below hb
    clear hb
    replace hO := hO.add hS #[.string (numS x'), .string (denS x')] 27
    replace hS := hS.add' #[.string (numS x'), .string (denS x')] 27
    obtain ⟨W0, hW0, hS, hz0⟩ := hS
    replace hO := hO.add hS #[.string (numS y), .string (denS y)] 27
    replace hS := hS.add' #[.string (numS y), .string (denS y)] 27
    obtain ⟨W1, hW1, hS, hz1⟩ := hS
    rw [hz0] at hS hO
    obtain ⟨W, hW⟩ : ∃ W, W = ((w4.alloc (.cells #[.string (numS x'), .string (denS x')] 27)).alloc (.cells #[.string (numS y), .string (denS y)] 27)) := ⟨_, rfl⟩
    replace hS : BL w [(w4.heap.size + 1, #[.string (numS y), .string (denS y)], 27), (w4.heap.size, #[.string (numS x'), .string (denS x')], 27), (w3.heap.size, #[.int .i64 a, .int .i64 0, .int .i64 0], 59), (w.heap.size, #[.int .i64 xf, .int .i64 xs, .slice ag xl cap, .int .i64 xm], 24)] W := by rw [hW, ← hW0, ← hW1]; exact hS
    replace hD : SlD W (.slice la l.length lc) l := by rw [hW]; exact (hD.new _).new _
    clear hz0 hz1 hW1 hW0
    go_upto_region 9 with fail
    rw [← hW]
    clear hW
    obtain ⟨c_low_0, c_low_1⟩ := hS.c2 (w4.heap.size) _ _ _ (.tail _ (.head _))
    go_wp2_with fail
    refine Calls.mono (DV.out _ (hS.env hE)) ?_
    rintro e w5 ⟨rfl, hb⟩
    clear c_low_0 c_low_1
    replace hS := hS.call hb
    replace hD := hD.below hb
    clear hb
    go_wp2_with fail
    refine Calls.mono (TN.out _ (hET.below hS.below (Nat.le_refl _))) ?_
    rintro e w6 ⟨rfl, hb⟩
    replace hS := hS.call hb
    replace hD := hD.below hb
    clear hb
    go_wp2_with fail
    refine Calls.mono (P1.out _) ?_
    rintro e w7 ⟨rfl, hb⟩
    replace hS := hS.call hb
    replace hD := hD.below hb
    clear hb
    obtain ⟨c_d_0, c_d_1, c_d_2⟩ := hS.c3 (w3.heap.size) _ _ _ _ (.tail _ (.tail _ (.head _)))
    have fz := hS.frozen (w3.heap.size) _ _ (.tail _ (.tail _ (.head _))) 1
    go_upto_region 12 with fail
    clear c_d_0 c_d_1 c_d_2
    clear fz
    obtain ⟨W, hW⟩ : ∃ W, W = w7.setCell ⟨w3.heap.size, 1, none⟩ (.int .i64 lo) := ⟨_, rfl⟩
    replace hS : BL w [(w4.heap.size + 1, #[.string (numS y), .string (denS y)], 27), (w4.heap.size, #[.string (numS x'), .string (denS x')], 27), (w3.heap.size, #[.int .i64 a, .int .i64 lo, .int .i64 0], 59), (w.heap.size, #[.int .i64 xf, .int .i64 xs, .slice ag xl cap, .int .i64 xm], 24)] W := by rw [hW]; exact BL.put3 (A := [(w4.heap.size + 1, #[.string (numS y), .string (denS y)], 27), (w4.heap.size, #[.string (numS x'), .string (denS x')], 27)]) (C := [(w.heap.size, #[.int .i64 xf, .int .i64 xs, .slice ag xl cap, .int .i64 xm], 24)]) hO hS 1 _
    replace hO : Asc w [(w4.heap.size + 1, #[.string (numS y), .string (denS y)], 27), (w4.heap.size, #[.string (numS x'), .string (denS x')], 27), (w3.heap.size, #[.int .i64 a, .int .i64 lo, .int .i64 0], 59), (w.heap.size, #[.int .i64 xf, .int .i64 xs, .slice ag xl cap, .int .i64 xm], 24)] := Asc.put (A := [(w4.heap.size + 1, #[.string (numS y), .string (denS y)], 27), (w4.heap.size, #[.string (numS x'), .string (denS x')], 27)]) (C := [(w.heap.size, #[.int .i64 xf, .int .i64 xs, .slice ag xl cap, .int .i64 xm], 24)]) hO
    replace hD : SlD W (.slice la l.length lc) l := by rw [hW]; exact hD.setB hlt _ _
    rw [← hW]
    clear hW
    have hC0 : ∀ W', BL w [(w4.heap.size + 1, #[.string (numS y), .string (denS y)], 27), (w4.heap.size, #[.string (numS x'), .string (denS x')], 27), (w3.heap.size, #[.int .i64 a, .int .i64 lo, .int .i64 0], 59), (w.heap.size, #[.int .i64 xf, .int .i64 xs, .slice ag xl cap, .int .i64 xm], 24)] W' → (W'.cell? ⟨w3.heap.size, 0, none⟩ = some (.int .i64 a) ∧ W'.cell? ⟨w3.heap.size, 1, none⟩ = some (.int .i64 lo) ∧ W'.cell? ⟨w3.heap.size, 2, none⟩ = some (.int .i64 0)) := fun W' h => ⟨(h.cell (w3.heap.size) _ _ (.tail _ (.tail _ (.head _))) 0), (h.cell (w3.heap.size) _ _ (.tail _ (.tail _ (.head _))) 1), (h.cell (w3.heap.size) _ _ (.tail _ (.tail _ (.head _))) 2)⟩
    have hC := Lib.hid hC0
    clear hC0
    obtain ⟨x0', x1', x2'⟩ := hC.out _ hS
    replace hS := hS.drew
    replace hD := hD.below (below_drewN _ 1)
    go_region_held3 (fun w' => w'.cell? ⟨w3.heap.size, 0, none⟩ = some (.int .i64 a) ∧ w'.cell? ⟨w3.heap.size, 1, none⟩ = some (.int .i64 lo))
      (first | (obtain ⟨y0', y1', -⟩ := hC.out _ hS; exact ⟨y0', y1'⟩) | exact ⟨s0', s1'⟩ | go_keep)
      (first | (go_at_call 27; (with_reducible refine Calls.mono (P2.out _) ?_); rintro e wq ⟨rfl, hb⟩; replace hS := hS.call hb; replace hD := hD.below hb; clear hb; have fz := hS.frozen (w3.heap.size) _ _ (.tail _ (.tail _ (.head _))) 2; obtain ⟨v0', v1', v2'⟩ := hC.out _ hS; have hbk := (hS.blks _ (.tail _ (.tail _ (.head _)))).set 2 (.int .i64 hi); have s0' := hbk.cell 0; have s1' := hbk.cell 1; simp only [List.setIfInBounds_toArray, List.set_cons_succ, List.set_cons_zero, List.getElem?_toArray, List.getElem?_cons_zero, List.getElem?_cons_succ] at s0' s1'))
    go_upto_region 13 with fail
    clear hC x0' x1' x2' v0' v1' v2' fz s0' s1' hbk
    obtain ⟨W, hW⟩ : ∃ W, W = wq.setCell ⟨w3.heap.size, 2, none⟩ (.int .i64 hi) := ⟨_, rfl⟩
    replace hS : BL w [(w4.heap.size + 1, #[.string (numS y), .string (denS y)], 27), (w4.heap.size, #[.string (numS x'), .string (denS x')], 27), (w3.heap.size, #[.int .i64 a, .int .i64 lo, .int .i64 hi], 59), (w.heap.size, #[.int .i64 xf, .int .i64 xs, .slice ag xl cap, .int .i64 xm], 24)] W := by rw [hW]; exact BL.put3 (A := [(w4.heap.size + 1, #[.string (numS y), .string (denS y)], 27), (w4.heap.size, #[.string (numS x'), .string (denS x')], 27)]) (C := [(w.heap.size, #[.int .i64 xf, .int .i64 xs, .slice ag xl cap, .int .i64 xm], 24)]) hO hS 2 _
    replace hO : Asc w [(w4.heap.size + 1, #[.string (numS y), .string (denS y)], 27), (w4.heap.size, #[.string (numS x'), .string (denS x')], 27), (w3.heap.size, #[.int .i64 a, .int .i64 lo, .int .i64 hi], 59), (w.heap.size, #[.int .i64 xf, .int .i64 xs, .slice ag xl cap, .int .i64 xm], 24)] := Asc.put (A := [(w4.heap.size + 1, #[.string (numS y), .string (denS y)], 27), (w4.heap.size, #[.string (numS x'), .string (denS x')], 27)]) (C := [(w.heap.size, #[.int .i64 xf, .int .i64 xs, .slice ag xl cap, .int .i64 xm], 24)]) hO
    replace hD : SlD W (.slice la l.length lc) l := by rw [hW]; exact hD.setB hlt _ _
    rw [← hW]
    clear hW
    cases hfd : freeD ⟨a, lo, hi⟩ l with
    | false =>
      rw [hfd] at WT
      replace WT := Lib.hid WT
      obtain ⟨c_d_0, c_d_1, c_d_2⟩ := hS.c3 (w3.heap.size) _ _ _ _ (.tail _ (.tail _ (.head _)))
      go_wp2_with fail
      refine Calls.mono (WT.out _ _ hD) ?_
      rintro e w8 ⟨u, rfl, hM, hb⟩
      clear c_d_0 c_d_1 c_d_2
      replace hS := hS.call hb
      replace hD := hD.below hb
      clear hb
      clear hM hD
      obtain ⟨c_d_0, c_d_1, c_d_2⟩ := hS.c3 (w3.heap.size) _ _ _ _ (.tail _ (.tail _ (.head _)))
      go_wp2
      go_ret
      exact ⟨rfl, hS.below⟩
    | true =>
      obtain ⟨hne, hwl⟩ := FR hfd
      rw [hfd, hwl] at WT
      replace WT := Lib.hid WT
      clear FR hfd hwl
      obtain ⟨c_d_0, c_d_1, c_d_2⟩ := hS.c3 (w3.heap.size) _ _ _ _ (.tail _ (.tail _ (.head _)))
      go_wp2_with fail
      refine Calls.mono (WT.out _ _ hD) ?_
      rintro e w8 ⟨u, rfl, hM, hb⟩
      clear c_d_0 c_d_1 c_d_2
      replace hS := hS.call hb
      replace hD := hD.below hb
      clear hb
      obtain ⟨ma, mc, rfl⟩ := hM.shape
      skip
      by_cases b1 : lo < -1000000
      · clear hM hD
        obtain ⟨c_d_0, c_d_1, c_d_2⟩ := hS.c3 (w3.heap.size) _ _ _ _ (.tail _ (.tail _ (.head _)))
        go_wp2
        go_ret
        exact ⟨rfl, hS.below⟩
      by_cases b2 : 1000000 < hi
      · clear hM hD
        obtain ⟨c_d_0, c_d_1, c_d_2⟩ := hS.c3 (w3.heap.size) _ _ _ _ (.tail _ (.tail _ (.head _)))
        go_wp2
        go_ret
        exact ⟨rfl, hS.below⟩
      obtain ⟨a', b', hfs, F⟩ := camp_law hok hs (d := ⟨a, lo, hi⟩) ha (by omega) hne ⟨by dsimp only; omega, by dsimp only; omega, by dsimp only; omega⟩ hfa
      rw [hfs] at FS
      unfold fV at FS
      dsimp only at FS
      obtain ⟨ba', bb'⟩ := fcst_bq hfs
      clear hne hfa hfs bx by'
      replace FS := Lib.hid FS
      have blo : BQ 13 (lo : Rat) := BQ.int (by omega)
      have bhi : BQ 13 (hi : Rat) := BQ.int (by omega)
      have OL := Lib.hid (fun W => of_c lo flo W)
      have OH := Lib.hid (fun W => of_c hi fhi W)
      have K1 := Lib.hid (fun W (hE : Env W) => cmp_c ox (bhi.ok (by decide)) W hE)
      have K2 := Lib.hid (fun W (hE : Env W) => cmp_c (blo.ok (by decide)) oy W hE)
      have K3 := Lib.hid (fun W (hE : Env W) => cmp_c (blo.ok (by decide)) ox W hE)
      have K4 := Lib.hid (fun W (hE : Env W) => cmp_c oy (bhi.ok (by decide)) W hE)
      have RM := fun v W (h : SlD W v (ins ⟨a, lo, hi⟩ l)) => refute_any v (ins ⟨a, lo, hi⟩ l) W h
      have FM := fun v W (hE : Env W) (h : SlD W v (ins ⟨a, lo, hi⟩ l)) => forecast_any v (ins ⟨a, lo, hi⟩ l) s W hE h
      unfold RefP at RM
      have oa := ba'.ok (by decide)
      have ob := bb'.ok (by decide)
      clear blo bhi flo fhi
      have FN := F.no
      have FY := F.yes
      clear F
      dsimp only at FN FY
      generalize ins ⟨a, lo, hi⟩ l = m at *
      obtain ⟨c_d_0, c_d_1, c_d_2⟩ := hS.c3 (w3.heap.size) _ _ _ _ (.tail _ (.tail _ (.head _)))
      go_upto_region 18 with fail
      clear c_d_0 c_d_1 c_d_2
      by_cases c1 : x' ≤ (hi : Rat)
      case neg =>
        obtain ⟨f1, f2⟩ := FN (fun h => c1 h.1)
        rw [f1] at RM
        rw [f2] at FM
        unfold fV at FM
        have g1 := cmp_le_f c1
        clear f1 f2 FN FY c1
        replace RM := Lib.hid RM
        replace FM := Lib.hid FM
        replace g1 := g1
        have hI := TI.mk hS hD hM
        have hC0 : ∀ W', BL w [(w4.heap.size + 1, #[.string (numS y), .string (denS y)], 27), (w4.heap.size, #[.string (numS x'), .string (denS x')], 27), (w3.heap.size, #[.int .i64 a, .int .i64 lo, .int .i64 hi], 59), (w.heap.size, #[.int .i64 xf, .int .i64 xs, .slice ag xl cap, .int .i64 xm], 24)] W' → (W'.cell? ⟨w4.heap.size, 0, none⟩ = some (.string (numS x')) ∧ W'.cell? ⟨w4.heap.size, 1, none⟩ = some (.string (denS x')) ∧ W'.cell? ⟨w4.heap.size + 1, 0, none⟩ = some (.string (numS y)) ∧ W'.cell? ⟨w4.heap.size + 1, 1, none⟩ = some (.string (denS y)) ∧ W'.cell? ⟨w3.heap.size, 0, none⟩ = some (.int .i64 a) ∧ W'.cell? ⟨w3.heap.size, 1, none⟩ = some (.int .i64 lo) ∧ W'.cell? ⟨w3.heap.size, 2, none⟩ = some (.int .i64 hi)) := fun W' h => ⟨(h.cell (w4.heap.size) _ _ (.tail _ (.head _)) 0), (h.cell (w4.heap.size) _ _ (.tail _ (.head _)) 1), (h.cell (w4.heap.size + 1) _ _ (.head _) 0), (h.cell (w4.heap.size + 1) _ _ (.head _) 1), (h.cell (w3.heap.size) _ _ (.tail _ (.tail _ (.head _))) 0), (h.cell (w3.heap.size) _ _ (.tail _ (.tail _ (.head _))) 1), (h.cell (w3.heap.size) _ _ (.tail _ (.tail _ (.head _))) 2)⟩
        have hC := Lib.hid hC0
        clear hC0
        clear hS hD hM
        go_cut [25] (fun s wx => s = .bool false ∧ TI w [(w4.heap.size + 1, #[.string (numS y), .string (denS y)], 27), (w4.heap.size, #[.string (numS x'), .string (denS x')], 27), (w3.heap.size, #[.int .i64 a, .int .i64 lo, .int .i64 hi], 59), (w.heap.size, #[.int .i64 xf, .int .i64 xs, .slice ag xl cap, .int .i64 xm], 24)] (.slice la l.length lc) l (.slice ma m.length mc) m wx)
        case first => as_aux_lemma =>
          refine wp_region_quiet (C := fun W' => TI w [(w4.heap.size + 1, #[.string (numS y), .string (denS y)], 27), (w4.heap.size, #[.string (numS x'), .string (denS x')], 27), (w3.heap.size, #[.int .i64 a, .int .i64 lo, .int .i64 hi], 59), (w.heap.size, #[.int .i64 xf, .int .i64 xs, .slice ag xl cap, .int .i64 xm], 24)] (.slice la l.length lc) l (.slice ma m.length mc) m W') rfl (by kernel_rfl) hI.drew (Walled.out ?_)
          refine qWant rfl fun K hK => ?_
          go_simp
          refine ⟨.agg #[.string (numS x'), .string (denS x')], fun W hW => ?_, hK _ ?_⟩
          · obtain ⟨x0', x1', x2', x3', x4', x5', x6'⟩ := hC.out W hW.bl
            go_simp
          clear hK K
          refine qWant rfl fun K hK => ?_
          go_simp
          refine ⟨_, fun _ _ => rfl, hK _ ?_⟩
          clear hK K
          refine qWant rfl fun K hK => ?_
          go_simp
          refine ⟨.int .i64 hi, fun W hW => ?_, hK _ ?_⟩
          · obtain ⟨x0', x1', x2', x3', x4', x5', x6'⟩ := hC.out W hW.bl
            go_simp
          clear hK K
          refine qWant rfl fun K hK => ?_
          go_simp
          refine ⟨.agg #[.string (numS (hi : Rat)), .string (denS (hi : Rat))], fun W hW => (OH.out W).mono fun e w' h => ⟨h.1, hW.call h.2⟩, hK _ ?_⟩
          clear hK K
          refine qWant rfl fun K hK => ?_
          go_simp
          refine ⟨.int .i64 (cmpQ x' (hi : Rat)), fun W hW => (K1.out W (hW.bl.env hE)).mono fun e w' h => ⟨h.1, hW.call h.2⟩, hK _ ?_⟩
          clear hK K
          refine qWant rfl fun K hK => ?_
          go_simp
          refine ⟨.bool false, fun _ _ => by first | rfl | exact congrArg Value.bool g1, hK _ ?_⟩
          clear hK K
          refine qWant rfl fun K hK => ?_
          go_simp
          refine ⟨_, fun _ _ => rfl, hK _ ?_⟩
          clear hK K
          refine qStep fun K hK => ?_
          go_simp
          refine hK _ ?_
          clear hK K
          refine qStep fun K hK => ?_
          go_simp
          refine hK _ ?_
          clear hK K
          refine qStep fun K hK => ?_
          go_simp
          refine hK _ ?_
          clear hK K
          refine qStep fun K hK => ?_
          go_simp
          refine hK _ ?_
          clear hK K
          refine qStep fun K hK => ?_
          go_simp
          refine hK _ ?_
          clear hK K
          refine qStep fun K hK => ?_
          go_simp
          refine hK _ ?_
          clear hK K
          refine qWant rfl fun K hK => ?_
          go_simp
          refine ⟨_, fun _ _ => rfl, hK _ ?_⟩
          clear hK K
          refine qWant rfl fun K hK => ?_
          go_simp
          refine ⟨_, fun _ _ => rfl, hK _ ?_⟩
          clear hK K
          refine qNil ?_
          intro W' hI
          go_wp2_with fail
          go_meet
          exact ⟨rfl, hI⟩
        case rest =>
          clear hC hI
          obtain ⟨rfl, hI⟩ := hcut
          obtain ⟨hS, hD, hM⟩ := hI
          go_wp2_with fail
          refine Calls.mono (RM.out _ _ hM) ?_
          rintro e w9 ⟨u', rfl, -, hb⟩
          replace hS := hS.call hb
          replace hD := hD.below hb
          replace hM := hM.below hb
          clear hb
          go_wp2_with fail
          refine Calls.mono (DS.out _) ?_
          rintro e w10 ⟨rfl, hb⟩
          replace hS := hS.call hb
          replace hD := hD.below hb
          replace hM := hM.below hb
          clear hb
          go_wp2_with fail
          refine Calls.mono (FS.out _ _ (hS.env hE) hD) ?_
          rintro e w11 ⟨rfl, hb⟩
          replace hS := hS.call hb
          replace hD := hD.below hb
          replace hM := hM.below hb
          clear hb
          replace hO := hO.add hS #[.string (numS a'), .string (denS a')] 27
          replace hS := hS.add' #[.string (numS a'), .string (denS a')] 27
          obtain ⟨W0, hW0, hS, hz0⟩ := hS
          replace hO := hO.add hS #[.string (numS b'), .string (denS b')] 27
          replace hS := hS.add' #[.string (numS b'), .string (denS b')] 27
          obtain ⟨W1, hW1, hS, hz1⟩ := hS
          rw [hz0] at hS hO
          obtain ⟨W, hW⟩ : ∃ W, W = ((w11.alloc (.cells #[.string (numS a'), .string (denS a')] 27)).alloc (.cells #[.string (numS b'), .string (denS b')] 27)) := ⟨_, rfl⟩
          replace hS : BL w [(w11.heap.size + 1, #[.string (numS b'), .string (denS b')], 27), (w11.heap.size, #[.string (numS a'), .string (denS a')], 27), (w4.heap.size + 1, #[.string (numS y), .string (denS y)], 27), (w4.heap.size, #[.string (numS x'), .string (denS x')], 27), (w3.heap.size, #[.int .i64 a, .int .i64 lo, .int .i64 hi], 59), (w.heap.size, #[.int .i64 xf, .int .i64 xs, .slice ag xl cap, .int .i64 xm], 24)] W := by rw [hW, ← hW0, ← hW1]; exact hS
          replace hD : SlD W (.slice la l.length lc) l := by rw [hW]; exact (hD.new _).new _
          replace hM : SlD W (.slice ma m.length mc) m := by rw [hW]; exact (hM.new _).new _
          clear hz0 hz1 hW1 hW0
          go_wp2_with fail
          rw [← hW]
          clear hW
          refine Calls.mono (DS.out _) ?_
          rintro e w12 ⟨rfl, hb⟩
          replace hS := hS.call hb
          replace hD := hD.below hb
          replace hM := hM.below hb
          clear hb
          go_wp2_with fail
          refine Calls.mono (FM.out _ _ (hS.env hE) hM) ?_
          rintro e w13 ⟨rfl, hb⟩
          replace hS := hS.call hb
          replace hD := hD.below hb
          replace hM := hM.below hb
          clear hb
          replace hO := hO.add hS #[.string ⟨#[]⟩, .string ⟨#[]⟩] 27
          replace hS := hS.add' #[.string ⟨#[]⟩, .string ⟨#[]⟩] 27
          obtain ⟨W0, hW0, hS, hz0⟩ := hS
          replace hO := hO.add hS #[.string ⟨#[]⟩, .string ⟨#[]⟩] 27
          replace hS := hS.add' #[.string ⟨#[]⟩, .string ⟨#[]⟩] 27
          obtain ⟨W1, hW1, hS, hz1⟩ := hS
          rw [hz0] at hS hO
          obtain ⟨W, hW⟩ : ∃ W, W = ((w13.alloc (.cells #[.string ⟨#[]⟩, .string ⟨#[]⟩] 27)).alloc (.cells #[.string ⟨#[]⟩, .string ⟨#[]⟩] 27)) := ⟨_, rfl⟩
          replace hS : BL w [(w13.heap.size + 1, #[.string ⟨#[]⟩, .string ⟨#[]⟩], 27), (w13.heap.size, #[.string ⟨#[]⟩, .string ⟨#[]⟩], 27), (w11.heap.size + 1, #[.string (numS b'), .string (denS b')], 27), (w11.heap.size, #[.string (numS a'), .string (denS a')], 27), (w4.heap.size + 1, #[.string (numS y), .string (denS y)], 27), (w4.heap.size, #[.string (numS x'), .string (denS x')], 27), (w3.heap.size, #[.int .i64 a, .int .i64 lo, .int .i64 hi], 59), (w.heap.size, #[.int .i64 xf, .int .i64 xs, .slice ag xl cap, .int .i64 xm], 24)] W := by rw [hW, ← hW0, ← hW1]; exact hS
          replace hD : SlD W (.slice la l.length lc) l := by rw [hW]; exact (hD.new _).new _
          replace hM : SlD W (.slice ma m.length mc) m := by rw [hW]; exact (hM.new _).new _
          clear hz0 hz1 hW1 hW0
          clear hD hM
          go_wp2
          rw [← hW]
          clear hW
          go_ret
          exact ⟨rfl, hS.below⟩
      have g1 := cmp_le_t c1
      by_cases c2 : (lo : Rat) ≤ y
      case neg =>
        obtain ⟨f1, f2⟩ := FN (fun h => c2 h.2)
        rw [f1] at RM
        rw [f2] at FM
        unfold fV at FM
        have g2 := cmp_le_f c2
        clear f1 f2 FN FY c1 c2
        replace RM := Lib.hid RM
        replace FM := Lib.hid FM
        replace g1 := g1
        have hI := TI.mk hS hD hM
        have hC0 : ∀ W', BL w [(w4.heap.size + 1, #[.string (numS y), .string (denS y)], 27), (w4.heap.size, #[.string (numS x'), .string (denS x')], 27), (w3.heap.size, #[.int .i64 a, .int .i64 lo, .int .i64 hi], 59), (w.heap.size, #[.int .i64 xf, .int .i64 xs, .slice ag xl cap, .int .i64 xm], 24)] W' → (W'.cell? ⟨w4.heap.size, 0, none⟩ = some (.string (numS x')) ∧ W'.cell? ⟨w4.heap.size, 1, none⟩ = some (.string (denS x')) ∧ W'.cell? ⟨w4.heap.size + 1, 0, none⟩ = some (.string (numS y)) ∧ W'.cell? ⟨w4.heap.size + 1, 1, none⟩ = some (.string (denS y)) ∧ W'.cell? ⟨w3.heap.size, 0, none⟩ = some (.int .i64 a) ∧ W'.cell? ⟨w3.heap.size, 1, none⟩ = some (.int .i64 lo) ∧ W'.cell? ⟨w3.heap.size, 2, none⟩ = some (.int .i64 hi)) := fun W' h => ⟨(h.cell (w4.heap.size) _ _ (.tail _ (.head _)) 0), (h.cell (w4.heap.size) _ _ (.tail _ (.head _)) 1), (h.cell (w4.heap.size + 1) _ _ (.head _) 0), (h.cell (w4.heap.size + 1) _ _ (.head _) 1), (h.cell (w3.heap.size) _ _ (.tail _ (.tail _ (.head _))) 0), (h.cell (w3.heap.size) _ _ (.tail _ (.tail _ (.head _))) 1), (h.cell (w3.heap.size) _ _ (.tail _ (.tail _ (.head _))) 2)⟩
        have hC := Lib.hid hC0
        clear hC0
        clear hS hD hM
        go_cut [25] (fun s wx => s = .bool false ∧ TI w [(w4.heap.size + 1, #[.string (numS y), .string (denS y)], 27), (w4.heap.size, #[.string (numS x'), .string (denS x')], 27), (w3.heap.size, #[.int .i64 a, .int .i64 lo, .int .i64 hi], 59), (w.heap.size, #[.int .i64 xf, .int .i64 xs, .slice ag xl cap, .int .i64 xm], 24)] (.slice la l.length lc) l (.slice ma m.length mc) m wx)
        case first => as_aux_lemma =>
          refine wp_region_quiet (C := fun W' => TI w [(w4.heap.size + 1, #[.string (numS y), .string (denS y)], 27), (w4.heap.size, #[.string (numS x'), .string (denS x')], 27), (w3.heap.size, #[.int .i64 a, .int .i64 lo, .int .i64 hi], 59), (w.heap.size, #[.int .i64 xf, .int .i64 xs, .slice ag xl cap, .int .i64 xm], 24)] (.slice la l.length lc) l (.slice ma m.length mc) m W') rfl (by kernel_rfl) hI.drew (Walled.out ?_)
          refine qWant rfl fun K hK => ?_
          go_simp
          refine ⟨.agg #[.string (numS x'), .string (denS x')], fun W hW => ?_, hK _ ?_⟩
          · obtain ⟨x0', x1', x2', x3', x4', x5', x6'⟩ := hC.out W hW.bl
            go_simp
          clear hK K
          refine qWant rfl fun K hK => ?_
          go_simp
          refine ⟨_, fun _ _ => rfl, hK _ ?_⟩
          clear hK K
          refine qWant rfl fun K hK => ?_
          go_simp
          refine ⟨.int .i64 hi, fun W hW => ?_, hK _ ?_⟩
          · obtain ⟨x0', x1', x2', x3', x4', x5', x6'⟩ := hC.out W hW.bl
            go_simp
          clear hK K
          refine qWant rfl fun K hK => ?_
          go_simp
          refine ⟨.agg #[.string (numS (hi : Rat)), .string (denS (hi : Rat))], fun W hW => (OH.out W).mono fun e w' h => ⟨h.1, hW.call h.2⟩, hK _ ?_⟩
          clear hK K
          refine qWant rfl fun K hK => ?_
          go_simp
          refine ⟨.int .i64 (cmpQ x' (hi : Rat)), fun W hW => (K1.out W (hW.bl.env hE)).mono fun e w' h => ⟨h.1, hW.call h.2⟩, hK _ ?_⟩
          clear hK K
          refine qWant rfl fun K hK => ?_
          go_simp
          refine ⟨.bool true, fun _ _ => by first | rfl | exact congrArg Value.bool g1, hK _ ?_⟩
          clear hK K
          refine qWant rfl fun K hK => ?_
          go_simp
          refine ⟨_, fun _ _ => rfl, hK _ ?_⟩
          clear hK K
          refine qWant rfl fun K hK => ?_
          go_simp
          refine ⟨_, fun _ _ => rfl, hK _ ?_⟩
          clear hK K
          refine qWant rfl fun K hK => ?_
          go_simp
          refine ⟨.int .i64 lo, fun W hW => ?_, hK _ ?_⟩
          · obtain ⟨x0', x1', x2', x3', x4', x5', x6'⟩ := hC.out W hW.bl
            go_simp
          clear hK K
          refine qWant rfl fun K hK => ?_
          go_simp
          refine ⟨.agg #[.string (numS (lo : Rat)), .string (denS (lo : Rat))], fun W hW => (OL.out W).mono fun e w' h => ⟨h.1, hW.call h.2⟩, hK _ ?_⟩
          clear hK K
          refine qWant rfl fun K hK => ?_
          go_simp
          refine ⟨.agg #[.string (numS y), .string (denS y)], fun W hW => ?_, hK _ ?_⟩
          · obtain ⟨x0', x1', x2', x3', x4', x5', x6'⟩ := hC.out W hW.bl
            go_simp
          clear hK K
          refine qWant rfl fun K hK => ?_
          go_simp
          refine ⟨.int .i64 (cmpQ (lo : Rat) y), fun W hW => (K2.out W (hW.bl.env hE)).mono fun e w' h => ⟨h.1, hW.call h.2⟩, hK _ ?_⟩
          clear hK K
          refine qWant rfl fun K hK => ?_
          go_simp
          refine ⟨.bool false, fun _ _ => by first | rfl | exact congrArg Value.bool g2, hK _ ?_⟩
          clear hK K
          refine qWant rfl fun K hK => ?_
          go_simp
          refine ⟨_, fun _ _ => rfl, hK _ ?_⟩
          clear hK K
          refine qWant rfl fun K hK => ?_
          go_simp
          refine ⟨_, fun _ _ => rfl, hK _ ?_⟩
          clear hK K
          refine qNil ?_
          intro W' hI
          go_wp2_with fail
          go_meet
          exact ⟨rfl, hI⟩
        case rest =>
          clear hC hI
          obtain ⟨rfl, hI⟩ := hcut
          obtain ⟨hS, hD, hM⟩ := hI
          go_wp2_with fail
          refine Calls.mono (RM.out _ _ hM) ?_
          rintro e w9 ⟨u', rfl, -, hb⟩
          replace hS := hS.call hb
          replace hD := hD.below hb
          replace hM := hM.below hb
          clear hb
          go_wp2_with fail
          refine Calls.mono (DS.out _) ?_
          rintro e w10 ⟨rfl, hb⟩
          replace hS := hS.call hb
          replace hD := hD.below hb
          replace hM := hM.below hb
          clear hb
          go_wp2_with fail
          refine Calls.mono (FS.out _ _ (hS.env hE) hD) ?_
          rintro e w11 ⟨rfl, hb⟩
          replace hS := hS.call hb
          replace hD := hD.below hb
          replace hM := hM.below hb
          clear hb
          replace hO := hO.add hS #[.string (numS a'), .string (denS a')] 27
          replace hS := hS.add' #[.string (numS a'), .string (denS a')] 27
          obtain ⟨W0, hW0, hS, hz0⟩ := hS
          replace hO := hO.add hS #[.string (numS b'), .string (denS b')] 27
          replace hS := hS.add' #[.string (numS b'), .string (denS b')] 27
          obtain ⟨W1, hW1, hS, hz1⟩ := hS
          rw [hz0] at hS hO
          obtain ⟨W, hW⟩ : ∃ W, W = ((w11.alloc (.cells #[.string (numS a'), .string (denS a')] 27)).alloc (.cells #[.string (numS b'), .string (denS b')] 27)) := ⟨_, rfl⟩
          replace hS : BL w [(w11.heap.size + 1, #[.string (numS b'), .string (denS b')], 27), (w11.heap.size, #[.string (numS a'), .string (denS a')], 27), (w4.heap.size + 1, #[.string (numS y), .string (denS y)], 27), (w4.heap.size, #[.string (numS x'), .string (denS x')], 27), (w3.heap.size, #[.int .i64 a, .int .i64 lo, .int .i64 hi], 59), (w.heap.size, #[.int .i64 xf, .int .i64 xs, .slice ag xl cap, .int .i64 xm], 24)] W := by rw [hW, ← hW0, ← hW1]; exact hS
          replace hD : SlD W (.slice la l.length lc) l := by rw [hW]; exact (hD.new _).new _
          replace hM : SlD W (.slice ma m.length mc) m := by rw [hW]; exact (hM.new _).new _
          clear hz0 hz1 hW1 hW0
          go_wp2_with fail
          rw [← hW]
          clear hW
          refine Calls.mono (DS.out _) ?_
          rintro e w12 ⟨rfl, hb⟩
          replace hS := hS.call hb
          replace hD := hD.below hb
          replace hM := hM.below hb
          clear hb
          go_wp2_with fail
          refine Calls.mono (FM.out _ _ (hS.env hE) hM) ?_
          rintro e w13 ⟨rfl, hb⟩
          replace hS := hS.call hb
          replace hD := hD.below hb
          replace hM := hM.below hb
          clear hb
          replace hO := hO.add hS #[.string ⟨#[]⟩, .string ⟨#[]⟩] 27
          replace hS := hS.add' #[.string ⟨#[]⟩, .string ⟨#[]⟩] 27
          obtain ⟨W0, hW0, hS, hz0⟩ := hS
          replace hO := hO.add hS #[.string ⟨#[]⟩, .string ⟨#[]⟩] 27
          replace hS := hS.add' #[.string ⟨#[]⟩, .string ⟨#[]⟩] 27
          obtain ⟨W1, hW1, hS, hz1⟩ := hS
          rw [hz0] at hS hO
          obtain ⟨W, hW⟩ : ∃ W, W = ((w13.alloc (.cells #[.string ⟨#[]⟩, .string ⟨#[]⟩] 27)).alloc (.cells #[.string ⟨#[]⟩, .string ⟨#[]⟩] 27)) := ⟨_, rfl⟩
          replace hS : BL w [(w13.heap.size + 1, #[.string ⟨#[]⟩, .string ⟨#[]⟩], 27), (w13.heap.size, #[.string ⟨#[]⟩, .string ⟨#[]⟩], 27), (w11.heap.size + 1, #[.string (numS b'), .string (denS b')], 27), (w11.heap.size, #[.string (numS a'), .string (denS a')], 27), (w4.heap.size + 1, #[.string (numS y), .string (denS y)], 27), (w4.heap.size, #[.string (numS x'), .string (denS x')], 27), (w3.heap.size, #[.int .i64 a, .int .i64 lo, .int .i64 hi], 59), (w.heap.size, #[.int .i64 xf, .int .i64 xs, .slice ag xl cap, .int .i64 xm], 24)] W := by rw [hW, ← hW0, ← hW1]; exact hS
          replace hD : SlD W (.slice la l.length lc) l := by rw [hW]; exact (hD.new _).new _
          replace hM : SlD W (.slice ma m.length mc) m := by rw [hW]; exact (hM.new _).new _
          clear hz0 hz1 hW1 hW0
          clear hD hM
          go_wp2
          rw [← hW]
          clear hW
          go_ret
          exact ⟨rfl, hS.below⟩
      have g2 := cmp_le_t c2
      obtain ⟨f1, p, q, f2, f3, f4, f5⟩ := FY ⟨c1, c2⟩
      rw [f1] at RM
      obtain ⟨bp, bq⟩ := fcst_bq f2
      have K5 := fun W (hE : Env W) => cmp_c oa (bp.ok (by decide)) W hE
      have K6 := fun W (hE : Env W) => cmp_c (bq.ok (by decide)) ob W hE
      have g5 := cmpQ_le.2 f3
      have g6 := cmpQ_le.2 f4
      rw [f2] at FM
      unfold fV at FM
      dsimp only at FM
      clear f1 f2 FN FY c1 c2 bp bq
      by_cases c3 : (lo : Rat) ≤ x'
      case neg =>
        have g3 := cmp_le_f c3
        clear c3 f5
        generalize cmpQ a' p = k5 at *
        generalize cmpQ q b' = k6 at *
        replace K5 := Lib.hid K5
        replace K6 := Lib.hid K6
        replace RM := Lib.hid RM
        replace FM := Lib.hid FM
        replace g1 := g1
        have hI := TI.mk hS hD hM
        have hC0 : ∀ W', BL w [(w4.heap.size + 1, #[.string (numS y), .string (denS y)], 27), (w4.heap.size, #[.string (numS x'), .string (denS x')], 27), (w3.heap.size, #[.int .i64 a, .int .i64 lo, .int .i64 hi], 59), (w.heap.size, #[.int .i64 xf, .int .i64 xs, .slice ag xl cap, .int .i64 xm], 24)] W' → (W'.cell? ⟨w4.heap.size, 0, none⟩ = some (.string (numS x')) ∧ W'.cell? ⟨w4.heap.size, 1, none⟩ = some (.string (denS x')) ∧ W'.cell? ⟨w4.heap.size + 1, 0, none⟩ = some (.string (numS y)) ∧ W'.cell? ⟨w4.heap.size + 1, 1, none⟩ = some (.string (denS y)) ∧ W'.cell? ⟨w3.heap.size, 0, none⟩ = some (.int .i64 a) ∧ W'.cell? ⟨w3.heap.size, 1, none⟩ = some (.int .i64 lo) ∧ W'.cell? ⟨w3.heap.size, 2, none⟩ = some (.int .i64 hi)) := fun W' h => ⟨(h.cell (w4.heap.size) _ _ (.tail _ (.head _)) 0), (h.cell (w4.heap.size) _ _ (.tail _ (.head _)) 1), (h.cell (w4.heap.size + 1) _ _ (.head _) 0), (h.cell (w4.heap.size + 1) _ _ (.head _) 1), (h.cell (w3.heap.size) _ _ (.tail _ (.tail _ (.head _))) 0), (h.cell (w3.heap.size) _ _ (.tail _ (.tail _ (.head _))) 1), (h.cell (w3.heap.size) _ _ (.tail _ (.tail _ (.head _))) 2)⟩
        have hC := Lib.hid hC0
        clear hC0
        clear hS hD hM
        go_cut [25] (fun s wx => s = .bool true ∧ TI w [(w4.heap.size + 1, #[.string (numS y), .string (denS y)], 27), (w4.heap.size, #[.string (numS x'), .string (denS x')], 27), (w3.heap.size, #[.int .i64 a, .int .i64 lo, .int .i64 hi], 59), (w.heap.size, #[.int .i64 xf, .int .i64 xs, .slice ag xl cap, .int .i64 xm], 24)] (.slice la l.length lc) l (.slice ma m.length mc) m wx)
        case first => as_aux_lemma =>
          refine wp_region_quiet (C := fun W' => TI w [(w4.heap.size + 1, #[.string (numS y), .string (denS y)], 27), (w4.heap.size, #[.string (numS x'), .string (denS x')], 27), (w3.heap.size, #[.int .i64 a, .int .i64 lo, .int .i64 hi], 59), (w.heap.size, #[.int .i64 xf, .int .i64 xs, .slice ag xl cap, .int .i64 xm], 24)] (.slice la l.length lc) l (.slice ma m.length mc) m W') rfl (by kernel_rfl) hI.drew (Walled.out ?_)
          refine qWant rfl fun K hK => ?_
          go_simp
          refine ⟨.agg #[.string (numS x'), .string (denS x')], fun W hW => ?_, hK _ ?_⟩
          · obtain ⟨x0', x1', x2', x3', x4', x5', x6'⟩ := hC.out W hW.bl
            go_simp
          clear hK K
          refine qWant rfl fun K hK => ?_
          go_simp
          refine ⟨_, fun _ _ => rfl, hK _ ?_⟩
          clear hK K
          refine qWant rfl fun K hK => ?_
          go_simp
          refine ⟨.int .i64 hi, fun W hW => ?_, hK _ ?_⟩
          · obtain ⟨x0', x1', x2', x3', x4', x5', x6'⟩ := hC.out W hW.bl
            go_simp
          clear hK K
          refine qWant rfl fun K hK => ?_
          go_simp
          refine ⟨.agg #[.string (numS (hi : Rat)), .string (denS (hi : Rat))], fun W hW => (OH.out W).mono fun e w' h => ⟨h.1, hW.call h.2⟩, hK _ ?_⟩
          clear hK K
          refine qWant rfl fun K hK => ?_
          go_simp
          refine ⟨.int .i64 (cmpQ x' (hi : Rat)), fun W hW => (K1.out W (hW.bl.env hE)).mono fun e w' h => ⟨h.1, hW.call h.2⟩, hK _ ?_⟩
          clear hK K
          refine qWant rfl fun K hK => ?_
          go_simp
          refine ⟨.bool true, fun _ _ => by first | rfl | exact congrArg Value.bool g1, hK _ ?_⟩
          clear hK K
          refine qWant rfl fun K hK => ?_
          go_simp
          refine ⟨_, fun _ _ => rfl, hK _ ?_⟩
          clear hK K
          refine qWant rfl fun K hK => ?_
          go_simp
          refine ⟨_, fun _ _ => rfl, hK _ ?_⟩
          clear hK K
          refine qWant rfl fun K hK => ?_
          go_simp
          refine ⟨.int .i64 lo, fun W hW => ?_, hK _ ?_⟩
          · obtain ⟨x0', x1', x2', x3', x4', x5', x6'⟩ := hC.out W hW.bl
            go_simp
          clear hK K
          refine qWant rfl fun K hK => ?_
          go_simp
          refine ⟨.agg #[.string (numS (lo : Rat)), .string (denS (lo : Rat))], fun W hW => (OL.out W).mono fun e w' h => ⟨h.1, hW.call h.2⟩, hK _ ?_⟩
          clear hK K
          refine qWant rfl fun K hK => ?_
          go_simp
          refine ⟨.agg #[.string (numS y), .string (denS y)], fun W hW => ?_, hK _ ?_⟩
          · obtain ⟨x0', x1', x2', x3', x4', x5', x6'⟩ := hC.out W hW.bl
            go_simp
          clear hK K
          refine qWant rfl fun K hK => ?_
          go_simp
          refine ⟨.int .i64 (cmpQ (lo : Rat) y), fun W hW => (K2.out W (hW.bl.env hE)).mono fun e w' h => ⟨h.1, hW.call h.2⟩, hK _ ?_⟩
          clear hK K
          refine qWant rfl fun K hK => ?_
          go_simp
          refine ⟨.bool true, fun _ _ => by first | rfl | exact congrArg Value.bool g2, hK _ ?_⟩
          clear hK K
          refine qWant rfl fun K hK => ?_
          go_simp
          refine ⟨_, fun _ _ => rfl, hK _ ?_⟩
          clear hK K
          refine qWant rfl fun K hK => ?_
          go_simp
          refine ⟨_, fun _ _ => rfl, hK _ ?_⟩
          clear hK K
          refine qNil ?_
          intro W' hI
          go_wp2_with fail
          go_meet
          exact ⟨rfl, hI⟩
        case rest =>
          clear hC hI
          obtain ⟨rfl, hI⟩ := hcut
          obtain ⟨hS, hD, hM⟩ := hI
          go_wp2_with fail
          refine Calls.mono (RM.out _ _ hM) ?_
          rintro e w9 ⟨u', rfl, -, hb⟩
          replace hS := hS.call hb
          replace hD := hD.below hb
          replace hM := hM.below hb
          clear hb
          go_wp2_with fail
          refine Calls.mono (DS.out _) ?_
          rintro e w10 ⟨rfl, hb⟩
          replace hS := hS.call hb
          replace hD := hD.below hb
          replace hM := hM.below hb
          clear hb
          go_wp2_with fail
          refine Calls.mono (FS.out _ _ (hS.env hE) hD) ?_
          rintro e w11 ⟨rfl, hb⟩
          replace hS := hS.call hb
          replace hD := hD.below hb
          replace hM := hM.below hb
          clear hb
          replace hO := hO.add hS #[.string (numS a'), .string (denS a')] 27
          replace hS := hS.add' #[.string (numS a'), .string (denS a')] 27
          obtain ⟨W0, hW0, hS, hz0⟩ := hS
          replace hO := hO.add hS #[.string (numS b'), .string (denS b')] 27
          replace hS := hS.add' #[.string (numS b'), .string (denS b')] 27
          obtain ⟨W1, hW1, hS, hz1⟩ := hS
          rw [hz0] at hS hO
          obtain ⟨W, hW⟩ : ∃ W, W = ((w11.alloc (.cells #[.string (numS a'), .string (denS a')] 27)).alloc (.cells #[.string (numS b'), .string (denS b')] 27)) := ⟨_, rfl⟩
          replace hS : BL w [(w11.heap.size + 1, #[.string (numS b'), .string (denS b')], 27), (w11.heap.size, #[.string (numS a'), .string (denS a')], 27), (w4.heap.size + 1, #[.string (numS y), .string (denS y)], 27), (w4.heap.size, #[.string (numS x'), .string (denS x')], 27), (w3.heap.size, #[.int .i64 a, .int .i64 lo, .int .i64 hi], 59), (w.heap.size, #[.int .i64 xf, .int .i64 xs, .slice ag xl cap, .int .i64 xm], 24)] W := by rw [hW, ← hW0, ← hW1]; exact hS
          replace hD : SlD W (.slice la l.length lc) l := by rw [hW]; exact (hD.new _).new _
          replace hM : SlD W (.slice ma m.length mc) m := by rw [hW]; exact (hM.new _).new _
          clear hz0 hz1 hW1 hW0
          go_wp2_with fail
          rw [← hW]
          clear hW
          refine Calls.mono (DS.out _) ?_
          rintro e w12 ⟨rfl, hb⟩
          replace hS := hS.call hb
          replace hD := hD.below hb
          replace hM := hM.below hb
          clear hb
          go_wp2_with fail
          refine Calls.mono (FM.out _ _ (hS.env hE) hM) ?_
          rintro e w13 ⟨rfl, hb⟩
          replace hS := hS.call hb
          replace hD := hD.below hb
          replace hM := hM.below hb
          clear hb
          replace hO := hO.add hS #[.string (numS p), .string (denS p)] 27
          replace hS := hS.add' #[.string (numS p), .string (denS p)] 27
          obtain ⟨W0, hW0, hS, hz0⟩ := hS
          replace hO := hO.add hS #[.string (numS q), .string (denS q)] 27
          replace hS := hS.add' #[.string (numS q), .string (denS q)] 27
          obtain ⟨W1, hW1, hS, hz1⟩ := hS
          rw [hz0] at hS hO
          obtain ⟨W, hW⟩ : ∃ W, W = ((w13.alloc (.cells #[.string (numS p), .string (denS p)] 27)).alloc (.cells #[.string (numS q), .string (denS q)] 27)) := ⟨_, rfl⟩
          replace hS : BL w [(w13.heap.size + 1, #[.string (numS q), .string (denS q)], 27), (w13.heap.size, #[.string (numS p), .string (denS p)], 27), (w11.heap.size + 1, #[.string (numS b'), .string (denS b')], 27), (w11.heap.size, #[.string (numS a'), .string (denS a')], 27), (w4.heap.size + 1, #[.string (numS y), .string (denS y)], 27), (w4.heap.size, #[.string (numS x'), .string (denS x')], 27), (w3.heap.size, #[.int .i64 a, .int .i64 lo, .int .i64 hi], 59), (w.heap.size, #[.int .i64 xf, .int .i64 xs, .slice ag xl cap, .int .i64 xm], 24)] W := by rw [hW, ← hW0, ← hW1]; exact hS
          replace hD : SlD W (.slice la l.length lc) l := by rw [hW]; exact (hD.new _).new _
          replace hM : SlD W (.slice ma m.length mc) m := by rw [hW]; exact (hM.new _).new _
          clear hz0 hz1 hW1 hW0
          go_upto_region 26 with fail
          rw [← hW]
          clear hW
          have hI := TI.mk hS hD hM
          have hC0 : ∀ W', BL w [(w13.heap.size + 1, #[.string (numS q), .string (denS q)], 27), (w13.heap.size, #[.string (numS p), .string (denS p)], 27), (w11.heap.size + 1, #[.string (numS b'), .string (denS b')], 27), (w11.heap.size, #[.string (numS a'), .string (denS a')], 27), (w4.heap.size + 1, #[.string (numS y), .string (denS y)], 27), (w4.heap.size, #[.string (numS x'), .string (denS x')], 27), (w3.heap.size, #[.int .i64 a, .int .i64 lo, .int .i64 hi], 59), (w.heap.size, #[.int .i64 xf, .int .i64 xs, .slice ag xl cap, .int .i64 xm], 24)] W' → (W'.cell? ⟨w4.heap.size, 0, none⟩ = some (.string (numS x')) ∧ W'.cell? ⟨w4.heap.size, 1, none⟩ = some (.string (denS x')) ∧ W'.cell? ⟨w4.heap.size + 1, 0, none⟩ = some (.string (numS y)) ∧ W'.cell? ⟨w4.heap.size + 1, 1, none⟩ = some (.string (denS y)) ∧ W'.cell? ⟨w3.heap.size, 0, none⟩ = some (.int .i64 a) ∧ W'.cell? ⟨w3.heap.size, 1, none⟩ = some (.int .i64 lo) ∧ W'.cell? ⟨w3.heap.size, 2, none⟩ = some (.int .i64 hi)) := fun W' h => ⟨(h.cell (w4.heap.size) _ _ (.tail _ (.tail _ (.tail _ (.tail _ (.tail _ (.head _)))))) 0), (h.cell (w4.heap.size) _ _ (.tail _ (.tail _ (.tail _ (.tail _ (.tail _ (.head _)))))) 1), (h.cell (w4.heap.size + 1) _ _ (.tail _ (.tail _ (.tail _ (.tail _ (.head _))))) 0), (h.cell (w4.heap.size + 1) _ _ (.tail _ (.tail _ (.tail _ (.tail _ (.head _))))) 1), (h.cell (w3.heap.size) _ _ (.tail _ (.tail _ (.tail _ (.tail _ (.tail _ (.tail _ (.head _))))))) 0), (h.cell (w3.heap.size) _ _ (.tail _ (.tail _ (.tail _ (.tail _ (.tail _ (.tail _ (.head _))))))) 1), (h.cell (w3.heap.size) _ _ (.tail _ (.tail _ (.tail _ (.tail _ (.tail _ (.tail _ (.head _))))))) 2)⟩
          have hC := Lib.hid hC0
          clear hC0
          clear hS hD hM
          go_cut [34] (fun s wx => s = .bool false ∧ TI w [(w13.heap.size + 1, #[.string (numS q), .string (denS q)], 27), (w13.heap.size, #[.string (numS p), .string (denS p)], 27), (w11.heap.size + 1, #[.string (numS b'), .string (denS b')], 27), (w11.heap.size, #[.string (numS a'), .string (denS a')], 27), (w4.heap.size + 1, #[.string (numS y), .string (denS y)], 27), (w4.heap.size, #[.string (numS x'), .string (denS x')], 27), (w3.heap.size, #[.int .i64 a, .int .i64 lo, .int .i64 hi], 59), (w.heap.size, #[.int .i64 xf, .int .i64 xs, .slice ag xl cap, .int .i64 xm], 24)] (.slice la l.length lc) l (.slice ma m.length mc) m wx)
          case first => as_aux_lemma =>
            refine wp_region_quiet (C := fun W' => TI w [(w13.heap.size + 1, #[.string (numS q), .string (denS q)], 27), (w13.heap.size, #[.string (numS p), .string (denS p)], 27), (w11.heap.size + 1, #[.string (numS b'), .string (denS b')], 27), (w11.heap.size, #[.string (numS a'), .string (denS a')], 27), (w4.heap.size + 1, #[.string (numS y), .string (denS y)], 27), (w4.heap.size, #[.string (numS x'), .string (denS x')], 27), (w3.heap.size, #[.int .i64 a, .int .i64 lo, .int .i64 hi], 59), (w.heap.size, #[.int .i64 xf, .int .i64 xs, .slice ag xl cap, .int .i64 xm], 24)] (.slice la l.length lc) l (.slice ma m.length mc) m W') rfl (by kernel_rfl) hI.drew (Walled.out ?_)
            refine qWant rfl fun K hK => ?_
            go_simp
            refine ⟨_, fun _ _ => rfl, hK _ ?_⟩
            clear hK K
            refine qWant rfl fun K hK => ?_
            go_simp
            refine ⟨.int .i64 lo, fun W hW => ?_, hK _ ?_⟩
            · obtain ⟨x0', x1', x2', x3', x4', x5', x6'⟩ := hC.out W hW.bl
              go_simp
            clear hK K
            refine qWant rfl fun K hK => ?_
            go_simp
            refine ⟨.agg #[.string (numS (lo : Rat)), .string (denS (lo : Rat))], fun W hW => (OL.out W).mono fun e w' h => ⟨h.1, hW.call h.2⟩, hK _ ?_⟩
            clear hK K
            refine qWant rfl fun K hK => ?_
            go_simp
            refine ⟨.agg #[.string (numS x'), .string (denS x')], fun W hW => ?_, hK _ ?_⟩
            · obtain ⟨x0', x1', x2', x3', x4', x5', x6'⟩ := hC.out W hW.bl
              go_simp
            clear hK K
            refine qWant rfl fun K hK => ?_
            go_simp
            refine ⟨.int .i64 (cmpQ (lo : Rat) x'), fun W hW => (K3.out W (hW.bl.env hE)).mono fun e w' h => ⟨h.1, hW.call h.2⟩, hK _ ?_⟩
            clear hK K
            refine qWant rfl fun K hK => ?_
            go_simp
            refine ⟨.bool false, fun _ _ => by first | rfl | exact congrArg Value.bool g3, hK _ ?_⟩
            clear hK K
            refine qWant rfl fun K hK => ?_
            go_simp
            refine ⟨_, fun _ _ => rfl, hK _ ?_⟩
            clear hK K
            refine qStep fun K hK => ?_
            go_simp
            refine hK _ ?_
            clear hK K
            refine qStep fun K hK => ?_
            go_simp
            refine hK _ ?_
            clear hK K
            refine qStep fun K hK => ?_
            go_simp
            refine hK _ ?_
            clear hK K
            refine qStep fun K hK => ?_
            go_simp
            refine hK _ ?_
            clear hK K
            refine qStep fun K hK => ?_
            go_simp
            refine hK _ ?_
            clear hK K
            refine qStep fun K hK => ?_
            go_simp
            refine hK _ ?_
            clear hK K
            refine qWant rfl fun K hK => ?_
            go_simp
            refine ⟨_, fun _ _ => rfl, hK _ ?_⟩
            clear hK K
            refine qWant rfl fun K hK => ?_
            go_simp
            refine ⟨_, fun _ _ => rfl, hK _ ?_⟩
            clear hK K
            refine qNil ?_
            intro W' hI
            go_wp2_with fail
            go_meet
            exact ⟨rfl, hI⟩
          case rest =>
            clear hC hI
            obtain ⟨rfl, hI⟩ := hcut
            obtain ⟨hS, hD, hM⟩ := hI
            clear hD hM
            obtain ⟨c_a_0, c_a_1⟩ := hS.c2 (w11.heap.size) _ _ _ (.tail _ (.tail _ (.tail _ (.head _))))
            obtain ⟨c_p_0, c_p_1⟩ := hS.c2 (w13.heap.size) _ _ _ (.tail _ (.head _))
            go_wp2_with fail
            refine Calls.mono (K5.out _ (hS.env hE)) ?_
            rintro e w14 ⟨rfl, hb⟩
            clear c_a_0 c_a_1 c_p_0 c_p_1
            replace hS := hS.call hb
            clear hb
            obtain ⟨c_b_0, c_b_1⟩ := hS.c2 (w11.heap.size + 1) _ _ _ (.tail _ (.tail _ (.head _)))
            obtain ⟨c_q_0, c_q_1⟩ := hS.c2 (w13.heap.size + 1) _ _ _ (.head _)
            go_wp2_with fail
            refine Calls.mono (K6.out _ (hS.env hE)) ?_
            rintro e w15 ⟨rfl, hb⟩
            clear c_b_0 c_b_1 c_q_0 c_q_1
            replace hS := hS.call hb
            clear hb
            obtain ⟨c_a_0, c_a_1⟩ := hS.c2 (w11.heap.size) _ _ _ (.tail _ (.tail _ (.tail _ (.head _))))
            obtain ⟨c_b_0, c_b_1⟩ := hS.c2 (w11.heap.size + 1) _ _ _ (.tail _ (.tail _ (.head _)))
            obtain ⟨c_p_0, c_p_1⟩ := hS.c2 (w13.heap.size) _ _ _ (.tail _ (.head _))
            obtain ⟨c_q_0, c_q_1⟩ := hS.c2 (w13.heap.size + 1) _ _ _ (.head _)
            go_wp2
            go_ret
            exact ⟨rfl, hS.below⟩
      have g3 := cmp_le_t c3
      by_cases c4 : y ≤ (hi : Rat)
      case neg =>
        have g4 := cmp_le_f c4
        clear c3 c4 f5
        generalize cmpQ a' p = k5 at *
        generalize cmpQ q b' = k6 at *
        replace K5 := Lib.hid K5
        replace K6 := Lib.hid K6
        replace RM := Lib.hid RM
        replace FM := Lib.hid FM
        replace g1 := g1
        have hI := TI.mk hS hD hM
        have hC0 : ∀ W', BL w [(w4.heap.size + 1, #[.string (numS y), .string (denS y)], 27), (w4.heap.size, #[.string (numS x'), .string (denS x')], 27), (w3.heap.size, #[.int .i64 a, .int .i64 lo, .int .i64 hi], 59), (w.heap.size, #[.int .i64 xf, .int .i64 xs, .slice ag xl cap, .int .i64 xm], 24)] W' → (W'.cell? ⟨w4.heap.size, 0, none⟩ = some (.string (numS x')) ∧ W'.cell? ⟨w4.heap.size, 1, none⟩ = some (.string (denS x')) ∧ W'.cell? ⟨w4.heap.size + 1, 0, none⟩ = some (.string (numS y)) ∧ W'.cell? ⟨w4.heap.size + 1, 1, none⟩ = some (.string (denS y)) ∧ W'.cell? ⟨w3.heap.size, 0, none⟩ = some (.int .i64 a) ∧ W'.cell? ⟨w3.heap.size, 1, none⟩ = some (.int .i64 lo) ∧ W'.cell? ⟨w3.heap.size, 2, none⟩ = some (.int .i64 hi)) := fun W' h => ⟨(h.cell (w4.heap.size) _ _ (.tail _ (.head _)) 0), (h.cell (w4.heap.size) _ _ (.tail _ (.head _)) 1), (h.cell (w4.heap.size + 1) _ _ (.head _) 0), (h.cell (w4.heap.size + 1) _ _ (.head _) 1), (h.cell (w3.heap.size) _ _ (.tail _ (.tail _ (.head _))) 0), (h.cell (w3.heap.size) _ _ (.tail _ (.tail _ (.head _))) 1), (h.cell (w3.heap.size) _ _ (.tail _ (.tail _ (.head _))) 2)⟩
        have hC := Lib.hid hC0
        clear hC0
        clear hS hD hM
        go_cut [25] (fun s wx => s = .bool true ∧ TI w [(w4.heap.size + 1, #[.string (numS y), .string (denS y)], 27), (w4.heap.size, #[.string (numS x'), .string (denS x')], 27), (w3.heap.size, #[.int .i64 a, .int .i64 lo, .int .i64 hi], 59), (w.heap.size, #[.int .i64 xf, .int .i64 xs, .slice ag xl cap, .int .i64 xm], 24)] (.slice la l.length lc) l (.slice ma m.length mc) m wx)
        case first => as_aux_lemma =>
          refine wp_region_quiet (C := fun W' => TI w [(w4.heap.size + 1, #[.string (numS y), .string (denS y)], 27), (w4.heap.size, #[.string (numS x'), .string (denS x')], 27), (w3.heap.size, #[.int .i64 a, .int .i64 lo, .int .i64 hi], 59), (w.heap.size, #[.int .i64 xf, .int .i64 xs, .slice ag xl cap, .int .i64 xm], 24)] (.slice la l.length lc) l (.slice ma m.length mc) m W') rfl (by kernel_rfl) hI.drew (Walled.out ?_)
          refine qWant rfl fun K hK => ?_
          go_simp
          refine ⟨.agg #[.string (numS x'), .string (denS x')], fun W hW => ?_, hK _ ?_⟩
          · obtain ⟨x0', x1', x2', x3', x4', x5', x6'⟩ := hC.out W hW.bl
            go_simp
          clear hK K
          refine qWant rfl fun K hK => ?_
          go_simp
          refine ⟨_, fun _ _ => rfl, hK _ ?_⟩
          clear hK K
          refine qWant rfl fun K hK => ?_
          go_simp
          refine ⟨.int .i64 hi, fun W hW => ?_, hK _ ?_⟩
          · obtain ⟨x0', x1', x2', x3', x4', x5', x6'⟩ := hC.out W hW.bl
            go_simp
          clear hK K
          refine qWant rfl fun K hK => ?_
          go_simp
          refine ⟨.agg #[.string (numS (hi : Rat)), .string (denS (hi : Rat))], fun W hW => (OH.out W).mono fun e w' h => ⟨h.1, hW.call h.2⟩, hK _ ?_⟩
          clear hK K
          refine qWant rfl fun K hK => ?_
          go_simp
          refine ⟨.int .i64 (cmpQ x' (hi : Rat)), fun W hW => (K1.out W (hW.bl.env hE)).mono fun e w' h => ⟨h.1, hW.call h.2⟩, hK _ ?_⟩
          clear hK K
          refine qWant rfl fun K hK => ?_
          go_simp
          refine ⟨.bool true, fun _ _ => by first | rfl | exact congrArg Value.bool g1, hK _ ?_⟩
          clear hK K
          refine qWant rfl fun K hK => ?_
          go_simp
          refine ⟨_, fun _ _ => rfl, hK _ ?_⟩
          clear hK K
          refine qWant rfl fun K hK => ?_
          go_simp
          refine ⟨_, fun _ _ => rfl, hK _ ?_⟩
          clear hK K
          refine qWant rfl fun K hK => ?_
          go_simp
          refine ⟨.int .i64 lo, fun W hW => ?_, hK _ ?_⟩
          · obtain ⟨x0', x1', x2', x3', x4', x5', x6'⟩ := hC.out W hW.bl
            go_simp
          clear hK K
          refine qWant rfl fun K hK => ?_
          go_simp
          refine ⟨.agg #[.string (numS (lo : Rat)), .string (denS (lo : Rat))], fun W hW => (OL.out W).mono fun e w' h => ⟨h.1, hW.call h.2⟩, hK _ ?_⟩
          clear hK K
          refine qWant rfl fun K hK => ?_
          go_simp
          refine ⟨.agg #[.string (numS y), .string (denS y)], fun W hW => ?_, hK _ ?_⟩
          · obtain ⟨x0', x1', x2', x3', x4', x5', x6'⟩ := hC.out W hW.bl
            go_simp
          clear hK K
          refine qWant rfl fun K hK => ?_
          go_simp
          refine ⟨.int .i64 (cmpQ (lo : Rat) y), fun W hW => (K2.out W (hW.bl.env hE)).mono fun e w' h => ⟨h.1, hW.call h.2⟩, hK _ ?_⟩
          clear hK K
          refine qWant rfl fun K hK => ?_
          go_simp
          refine ⟨.bool true, fun _ _ => by first | rfl | exact congrArg Value.bool g2, hK _ ?_⟩
          clear hK K
          refine qWant rfl fun K hK => ?_
          go_simp
          refine ⟨_, fun _ _ => rfl, hK _ ?_⟩
          clear hK K
          refine qWant rfl fun K hK => ?_
          go_simp
          refine ⟨_, fun _ _ => rfl, hK _ ?_⟩
          clear hK K
          refine qNil ?_
          intro W' hI
          go_wp2_with fail
          go_meet
          exact ⟨rfl, hI⟩
        case rest =>
          clear hC hI
          obtain ⟨rfl, hI⟩ := hcut
          obtain ⟨hS, hD, hM⟩ := hI
          go_wp2_with fail
          refine Calls.mono (RM.out _ _ hM) ?_
          rintro e w9 ⟨u', rfl, -, hb⟩
          replace hS := hS.call hb
          replace hD := hD.below hb
          replace hM := hM.below hb
          clear hb
          go_wp2_with fail
          refine Calls.mono (DS.out _) ?_
          rintro e w10 ⟨rfl, hb⟩
          replace hS := hS.call hb
          replace hD := hD.below hb
          replace hM := hM.below hb
          clear hb
          go_wp2_with fail
          refine Calls.mono (FS.out _ _ (hS.env hE) hD) ?_
          rintro e w11 ⟨rfl, hb⟩
          replace hS := hS.call hb
          replace hD := hD.below hb
          replace hM := hM.below hb
          clear hb
          replace hO := hO.add hS #[.string (numS a'), .string (denS a')] 27
          replace hS := hS.add' #[.string (numS a'), .string (denS a')] 27
          obtain ⟨W0, hW0, hS, hz0⟩ := hS
          replace hO := hO.add hS #[.string (numS b'), .string (denS b')] 27
          replace hS := hS.add' #[.string (numS b'), .string (denS b')] 27
          obtain ⟨W1, hW1, hS, hz1⟩ := hS
          rw [hz0] at hS hO
          obtain ⟨W, hW⟩ : ∃ W, W = ((w11.alloc (.cells #[.string (numS a'), .string (denS a')] 27)).alloc (.cells #[.string (numS b'), .string (denS b')] 27)) := ⟨_, rfl⟩
          replace hS : BL w [(w11.heap.size + 1, #[.string (numS b'), .string (denS b')], 27), (w11.heap.size, #[.string (numS a'), .string (denS a')], 27), (w4.heap.size + 1, #[.string (numS y), .string (denS y)], 27), (w4.heap.size, #[.string (numS x'), .string (denS x')], 27), (w3.heap.size, #[.int .i64 a, .int .i64 lo, .int .i64 hi], 59), (w.heap.size, #[.int .i64 xf, .int .i64 xs, .slice ag xl cap, .int .i64 xm], 24)] W := by rw [hW, ← hW0, ← hW1]; exact hS
          replace hD : SlD W (.slice la l.length lc) l := by rw [hW]; exact (hD.new _).new _
          replace hM : SlD W (.slice ma m.length mc) m := by rw [hW]; exact (hM.new _).new _
          clear hz0 hz1 hW1 hW0
          go_wp2_with fail
          rw [← hW]
          clear hW
          refine Calls.mono (DS.out _) ?_
          rintro e w12 ⟨rfl, hb⟩
          replace hS := hS.call hb
          replace hD := hD.below hb
          replace hM := hM.below hb
          clear hb
          go_wp2_with fail
          refine Calls.mono (FM.out _ _ (hS.env hE) hM) ?_
          rintro e w13 ⟨rfl, hb⟩
          replace hS := hS.call hb
          replace hD := hD.below hb
          replace hM := hM.below hb
          clear hb
          replace hO := hO.add hS #[.string (numS p), .string (denS p)] 27
          replace hS := hS.add' #[.string (numS p), .string (denS p)] 27
          obtain ⟨W0, hW0, hS, hz0⟩ := hS
          replace hO := hO.add hS #[.string (numS q), .string (denS q)] 27
          replace hS := hS.add' #[.string (numS q), .string (denS q)] 27
          obtain ⟨W1, hW1, hS, hz1⟩ := hS
          rw [hz0] at hS hO
          obtain ⟨W, hW⟩ : ∃ W, W = ((w13.alloc (.cells #[.string (numS p), .string (denS p)] 27)).alloc (.cells #[.string (numS q), .string (denS q)] 27)) := ⟨_, rfl⟩
          replace hS : BL w [(w13.heap.size + 1, #[.string (numS q), .string (denS q)], 27), (w13.heap.size, #[.string (numS p), .string (denS p)], 27), (w11.heap.size + 1, #[.string (numS b'), .string (denS b')], 27), (w11.heap.size, #[.string (numS a'), .string (denS a')], 27), (w4.heap.size + 1, #[.string (numS y), .string (denS y)], 27), (w4.heap.size, #[.string (numS x'), .string (denS x')], 27), (w3.heap.size, #[.int .i64 a, .int .i64 lo, .int .i64 hi], 59), (w.heap.size, #[.int .i64 xf, .int .i64 xs, .slice ag xl cap, .int .i64 xm], 24)] W := by rw [hW, ← hW0, ← hW1]; exact hS
          replace hD : SlD W (.slice la l.length lc) l := by rw [hW]; exact (hD.new _).new _
          replace hM : SlD W (.slice ma m.length mc) m := by rw [hW]; exact (hM.new _).new _
          clear hz0 hz1 hW1 hW0
          go_upto_region 26 with fail
          rw [← hW]
          clear hW
          have hI := TI.mk hS hD hM
          have hC0 : ∀ W', BL w [(w13.heap.size + 1, #[.string (numS q), .string (denS q)], 27), (w13.heap.size, #[.string (numS p), .string (denS p)], 27), (w11.heap.size + 1, #[.string (numS b'), .string (denS b')], 27), (w11.heap.size, #[.string (numS a'), .string (denS a')], 27), (w4.heap.size + 1, #[.string (numS y), .string (denS y)], 27), (w4.heap.size, #[.string (numS x'), .string (denS x')], 27), (w3.heap.size, #[.int .i64 a, .int .i64 lo, .int .i64 hi], 59), (w.heap.size, #[.int .i64 xf, .int .i64 xs, .slice ag xl cap, .int .i64 xm], 24)] W' → (W'.cell? ⟨w4.heap.size, 0, none⟩ = some (.string (numS x')) ∧ W'.cell? ⟨w4.heap.size, 1, none⟩ = some (.string (denS x')) ∧ W'.cell? ⟨w4.heap.size + 1, 0, none⟩ = some (.string (numS y)) ∧ W'.cell? ⟨w4.heap.size + 1, 1, none⟩ = some (.string (denS y)) ∧ W'.cell? ⟨w3.heap.size, 0, none⟩ = some (.int .i64 a) ∧ W'.cell? ⟨w3.heap.size, 1, none⟩ = some (.int .i64 lo) ∧ W'.cell? ⟨w3.heap.size, 2, none⟩ = some (.int .i64 hi)) := fun W' h => ⟨(h.cell (w4.heap.size) _ _ (.tail _ (.tail _ (.tail _ (.tail _ (.tail _ (.head _)))))) 0), (h.cell (w4.heap.size) _ _ (.tail _ (.tail _ (.tail _ (.tail _ (.tail _ (.head _)))))) 1), (h.cell (w4.heap.size + 1) _ _ (.tail _ (.tail _ (.tail _ (.tail _ (.head _))))) 0), (h.cell (w4.heap.size + 1) _ _ (.tail _ (.tail _ (.tail _ (.tail _ (.head _))))) 1), (h.cell (w3.heap.size) _ _ (.tail _ (.tail _ (.tail _ (.tail _ (.tail _ (.tail _ (.head _))))))) 0), (h.cell (w3.heap.size) _ _ (.tail _ (.tail _ (.tail _ (.tail _ (.tail _ (.tail _ (.head _))))))) 1), (h.cell (w3.heap.size) _ _ (.tail _ (.tail _ (.tail _ (.tail _ (.tail _ (.tail _ (.head _))))))) 2)⟩
          have hC := Lib.hid hC0
          clear hC0
          clear hS hD hM
          go_cut [34] (fun s wx => s = .bool false ∧ TI w [(w13.heap.size + 1, #[.string (numS q), .string (denS q)], 27), (w13.heap.size, #[.string (numS p), .string (denS p)], 27), (w11.heap.size + 1, #[.string (numS b'), .string (denS b')], 27), (w11.heap.size, #[.string (numS a'), .string (denS a')], 27), (w4.heap.size + 1, #[.string (numS y), .string (denS y)], 27), (w4.heap.size, #[.string (numS x'), .string (denS x')], 27), (w3.heap.size, #[.int .i64 a, .int .i64 lo, .int .i64 hi], 59), (w.heap.size, #[.int .i64 xf, .int .i64 xs, .slice ag xl cap, .int .i64 xm], 24)] (.slice la l.length lc) l (.slice ma m.length mc) m wx)
          case first => as_aux_lemma =>
            refine wp_region_quiet (C := fun W' => TI w [(w13.heap.size + 1, #[.string (numS q), .string (denS q)], 27), (w13.heap.size, #[.string (numS p), .string (denS p)], 27), (w11.heap.size + 1, #[.string (numS b'), .string (denS b')], 27), (w11.heap.size, #[.string (numS a'), .string (denS a')], 27), (w4.heap.size + 1, #[.string (numS y), .string (denS y)], 27), (w4.heap.size, #[.string (numS x'), .string (denS x')], 27), (w3.heap.size, #[.int .i64 a, .int .i64 lo, .int .i64 hi], 59), (w.heap.size, #[.int .i64 xf, .int .i64 xs, .slice ag xl cap, .int .i64 xm], 24)] (.slice la l.length lc) l (.slice ma m.length mc) m W') rfl (by kernel_rfl) hI.drew (Walled.out ?_)
            refine qWant rfl fun K hK => ?_
            go_simp
            refine ⟨_, fun _ _ => rfl, hK _ ?_⟩
            clear hK K
            refine qWant rfl fun K hK => ?_
            go_simp
            refine ⟨.int .i64 lo, fun W hW => ?_, hK _ ?_⟩
            · obtain ⟨x0', x1', x2', x3', x4', x5', x6'⟩ := hC.out W hW.bl
              go_simp
            clear hK K
            refine qWant rfl fun K hK => ?_
            go_simp
            refine ⟨.agg #[.string (numS (lo : Rat)), .string (denS (lo : Rat))], fun W hW => (OL.out W).mono fun e w' h => ⟨h.1, hW.call h.2⟩, hK _ ?_⟩
            clear hK K
            refine qWant rfl fun K hK => ?_
            go_simp
            refine ⟨.agg #[.string (numS x'), .string (denS x')], fun W hW => ?_, hK _ ?_⟩
            · obtain ⟨x0', x1', x2', x3', x4', x5', x6'⟩ := hC.out W hW.bl
              go_simp
            clear hK K
            refine qWant rfl fun K hK => ?_
            go_simp
            refine ⟨.int .i64 (cmpQ (lo : Rat) x'), fun W hW => (K3.out W (hW.bl.env hE)).mono fun e w' h => ⟨h.1, hW.call h.2⟩, hK _ ?_⟩
            clear hK K
            refine qWant rfl fun K hK => ?_
            go_simp
            refine ⟨.bool true, fun _ _ => by first | rfl | exact congrArg Value.bool g3, hK _ ?_⟩
            clear hK K
            refine qWant rfl fun K hK => ?_
            go_simp
            refine ⟨_, fun _ _ => rfl, hK _ ?_⟩
            clear hK K
            refine qWant rfl fun K hK => ?_
            go_simp
            refine ⟨.agg #[.string (numS y), .string (denS y)], fun W hW => ?_, hK _ ?_⟩
            · obtain ⟨x0', x1', x2', x3', x4', x5', x6'⟩ := hC.out W hW.bl
              go_simp
            clear hK K
            refine qWant rfl fun K hK => ?_
            go_simp
            refine ⟨_, fun _ _ => rfl, hK _ ?_⟩
            clear hK K
            refine qWant rfl fun K hK => ?_
            go_simp
            refine ⟨.int .i64 hi, fun W hW => ?_, hK _ ?_⟩
            · obtain ⟨x0', x1', x2', x3', x4', x5', x6'⟩ := hC.out W hW.bl
              go_simp
            clear hK K
            refine qWant rfl fun K hK => ?_
            go_simp
            refine ⟨.agg #[.string (numS (hi : Rat)), .string (denS (hi : Rat))], fun W hW => (OH.out W).mono fun e w' h => ⟨h.1, hW.call h.2⟩, hK _ ?_⟩
            clear hK K
            refine qWant rfl fun K hK => ?_
            go_simp
            refine ⟨.int .i64 (cmpQ y (hi : Rat)), fun W hW => (K4.out W (hW.bl.env hE)).mono fun e w' h => ⟨h.1, hW.call h.2⟩, hK _ ?_⟩
            clear hK K
            refine qWant rfl fun K hK => ?_
            go_simp
            refine ⟨.bool false, fun _ _ => by first | rfl | exact congrArg Value.bool g4, hK _ ?_⟩
            clear hK K
            refine qWant rfl fun K hK => ?_
            go_simp
            refine ⟨_, fun _ _ => rfl, hK _ ?_⟩
            clear hK K
            refine qWant rfl fun K hK => ?_
            go_simp
            refine ⟨_, fun _ _ => rfl, hK _ ?_⟩
            clear hK K
            refine qNil ?_
            intro W' hI
            go_wp2_with fail
            go_meet
            exact ⟨rfl, hI⟩
          case rest =>
            clear hC hI
            obtain ⟨rfl, hI⟩ := hcut
            obtain ⟨hS, hD, hM⟩ := hI
            clear hD hM
            obtain ⟨c_a_0, c_a_1⟩ := hS.c2 (w11.heap.size) _ _ _ (.tail _ (.tail _ (.tail _ (.head _))))
            obtain ⟨c_p_0, c_p_1⟩ := hS.c2 (w13.heap.size) _ _ _ (.tail _ (.head _))
            go_wp2_with fail
            refine Calls.mono (K5.out _ (hS.env hE)) ?_
            rintro e w14 ⟨rfl, hb⟩
            clear c_a_0 c_a_1 c_p_0 c_p_1
            replace hS := hS.call hb
            clear hb
            obtain ⟨c_b_0, c_b_1⟩ := hS.c2 (w11.heap.size + 1) _ _ _ (.tail _ (.tail _ (.head _)))
            obtain ⟨c_q_0, c_q_1⟩ := hS.c2 (w13.heap.size + 1) _ _ _ (.head _)
            go_wp2_with fail
            refine Calls.mono (K6.out _ (hS.env hE)) ?_
            rintro e w15 ⟨rfl, hb⟩
            clear c_b_0 c_b_1 c_q_0 c_q_1
            replace hS := hS.call hb
            clear hb
            obtain ⟨c_a_0, c_a_1⟩ := hS.c2 (w11.heap.size) _ _ _ (.tail _ (.tail _ (.tail _ (.head _))))
            obtain ⟨c_b_0, c_b_1⟩ := hS.c2 (w11.heap.size + 1) _ _ _ (.tail _ (.tail _ (.head _)))
            obtain ⟨c_p_0, c_p_1⟩ := hS.c2 (w13.heap.size) _ _ _ (.tail _ (.head _))
            obtain ⟨c_q_0, c_q_1⟩ := hS.c2 (w13.heap.size + 1) _ _ _ (.head _)
            go_wp2
            go_ret
            exact ⟨rfl, hS.below⟩
      have g4 := cmp_le_t c4
      obtain ⟨rfl, rfl⟩ := f5 c3 c4
      clear c3 c4 f5 f3 f4
      generalize cmpQ a' a' = k5 at *
      generalize cmpQ b' b' = k6 at *
      replace K5 := Lib.hid K5
      replace K6 := Lib.hid K6
      replace RM := Lib.hid RM
      replace FM := Lib.hid FM
      replace g1 := g1
      have hI := TI.mk hS hD hM
      have hC0 : ∀ W', BL w [(w4.heap.size + 1, #[.string (numS y), .string (denS y)], 27), (w4.heap.size, #[.string (numS x'), .string (denS x')], 27), (w3.heap.size, #[.int .i64 a, .int .i64 lo, .int .i64 hi], 59), (w.heap.size, #[.int .i64 xf, .int .i64 xs, .slice ag xl cap, .int .i64 xm], 24)] W' → (W'.cell? ⟨w4.heap.size, 0, none⟩ = some (.string (numS x')) ∧ W'.cell? ⟨w4.heap.size, 1, none⟩ = some (.string (denS x')) ∧ W'.cell? ⟨w4.heap.size + 1, 0, none⟩ = some (.string (numS y)) ∧ W'.cell? ⟨w4.heap.size + 1, 1, none⟩ = some (.string (denS y)) ∧ W'.cell? ⟨w3.heap.size, 0, none⟩ = some (.int .i64 a) ∧ W'.cell? ⟨w3.heap.size, 1, none⟩ = some (.int .i64 lo) ∧ W'.cell? ⟨w3.heap.size, 2, none⟩ = some (.int .i64 hi)) := fun W' h => ⟨(h.cell (w4.heap.size) _ _ (.tail _ (.head _)) 0), (h.cell (w4.heap.size) _ _ (.tail _ (.head _)) 1), (h.cell (w4.heap.size + 1) _ _ (.head _) 0), (h.cell (w4.heap.size + 1) _ _ (.head _) 1), (h.cell (w3.heap.size) _ _ (.tail _ (.tail _ (.head _))) 0), (h.cell (w3.heap.size) _ _ (.tail _ (.tail _ (.head _))) 1), (h.cell (w3.heap.size) _ _ (.tail _ (.tail _ (.head _))) 2)⟩
      have hC := Lib.hid hC0
      clear hC0
      clear hS hD hM
      go_cut [25] (fun s wx => s = .bool true ∧ TI w [(w4.heap.size + 1, #[.string (numS y), .string (denS y)], 27), (w4.heap.size, #[.string (numS x'), .string (denS x')], 27), (w3.heap.size, #[.int .i64 a, .int .i64 lo, .int .i64 hi], 59), (w.heap.size, #[.int .i64 xf, .int .i64 xs, .slice ag xl cap, .int .i64 xm], 24)] (.slice la l.length lc) l (.slice ma m.length mc) m wx)
      case first => as_aux_lemma =>
        refine wp_region_quiet (C := fun W' => TI w [(w4.heap.size + 1, #[.string (numS y), .string (denS y)], 27), (w4.heap.size, #[.string (numS x'), .string (denS x')], 27), (w3.heap.size, #[.int .i64 a, .int .i64 lo, .int .i64 hi], 59), (w.heap.size, #[.int .i64 xf, .int .i64 xs, .slice ag xl cap, .int .i64 xm], 24)] (.slice la l.length lc) l (.slice ma m.length mc) m W') rfl (by kernel_rfl) hI.drew (Walled.out ?_)
        refine qWant rfl fun K hK => ?_
        go_simp
        refine ⟨.agg #[.string (numS x'), .string (denS x')], fun W hW => ?_, hK _ ?_⟩
        · obtain ⟨x0', x1', x2', x3', x4', x5', x6'⟩ := hC.out W hW.bl
          go_simp
        clear hK K
        refine qWant rfl fun K hK => ?_
        go_simp
        refine ⟨_, fun _ _ => rfl, hK _ ?_⟩
        clear hK K
        refine qWant rfl fun K hK => ?_
        go_simp
        refine ⟨.int .i64 hi, fun W hW => ?_, hK _ ?_⟩
        · obtain ⟨x0', x1', x2', x3', x4', x5', x6'⟩ := hC.out W hW.bl
          go_simp
        clear hK K
        refine qWant rfl fun K hK => ?_
        go_simp
        refine ⟨.agg #[.string (numS (hi : Rat)), .string (denS (hi : Rat))], fun W hW => (OH.out W).mono fun e w' h => ⟨h.1, hW.call h.2⟩, hK _ ?_⟩
        clear hK K
        refine qWant rfl fun K hK => ?_
        go_simp
        refine ⟨.int .i64 (cmpQ x' (hi : Rat)), fun W hW => (K1.out W (hW.bl.env hE)).mono fun e w' h => ⟨h.1, hW.call h.2⟩, hK _ ?_⟩
        clear hK K
        refine qWant rfl fun K hK => ?_
        go_simp
        refine ⟨.bool true, fun _ _ => by first | rfl | exact congrArg Value.bool g1, hK _ ?_⟩
        clear hK K
        refine qWant rfl fun K hK => ?_
        go_simp
        refine ⟨_, fun _ _ => rfl, hK _ ?_⟩
        clear hK K
        refine qWant rfl fun K hK => ?_
        go_simp
        refine ⟨_, fun _ _ => rfl, hK _ ?_⟩
        clear hK K
        refine qWant rfl fun K hK => ?_
        go_simp
        refine ⟨.int .i64 lo, fun W hW => ?_, hK _ ?_⟩
        · obtain ⟨x0', x1', x2', x3', x4', x5', x6'⟩ := hC.out W hW.bl
          go_simp
        clear hK K
        refine qWant rfl fun K hK => ?_
        go_simp
        refine ⟨.agg #[.string (numS (lo : Rat)), .string (denS (lo : Rat))], fun W hW => (OL.out W).mono fun e w' h => ⟨h.1, hW.call h.2⟩, hK _ ?_⟩
        clear hK K
        refine qWant rfl fun K hK => ?_
        go_simp
        refine ⟨.agg #[.string (numS y), .string (denS y)], fun W hW => ?_, hK _ ?_⟩
        · obtain ⟨x0', x1', x2', x3', x4', x5', x6'⟩ := hC.out W hW.bl
          go_simp
        clear hK K
        refine qWant rfl fun K hK => ?_
        go_simp
        refine ⟨.int .i64 (cmpQ (lo : Rat) y), fun W hW => (K2.out W (hW.bl.env hE)).mono fun e w' h => ⟨h.1, hW.call h.2⟩, hK _ ?_⟩
        clear hK K
        refine qWant rfl fun K hK => ?_
        go_simp
        refine ⟨.bool true, fun _ _ => by first | rfl | exact congrArg Value.bool g2, hK _ ?_⟩
        clear hK K
        refine qWant rfl fun K hK => ?_
        go_simp
        refine ⟨_, fun _ _ => rfl, hK _ ?_⟩
        clear hK K
        refine qWant rfl fun K hK => ?_
        go_simp
        refine ⟨_, fun _ _ => rfl, hK _ ?_⟩
        clear hK K
        refine qNil ?_
        intro W' hI
        go_wp2_with fail
        go_meet
        exact ⟨rfl, hI⟩
      case rest =>
        clear hC hI
        obtain ⟨rfl, hI⟩ := hcut
        obtain ⟨hS, hD, hM⟩ := hI
        go_wp2_with fail
        refine Calls.mono (RM.out _ _ hM) ?_
        rintro e w9 ⟨u', rfl, -, hb⟩
        replace hS := hS.call hb
        replace hD := hD.below hb
        replace hM := hM.below hb
        clear hb
        go_wp2_with fail
        refine Calls.mono (DS.out _) ?_
        rintro e w10 ⟨rfl, hb⟩
        replace hS := hS.call hb
        replace hD := hD.below hb
        replace hM := hM.below hb
        clear hb
        go_wp2_with fail
        refine Calls.mono (FS.out _ _ (hS.env hE) hD) ?_
        rintro e w11 ⟨rfl, hb⟩
        replace hS := hS.call hb
        replace hD := hD.below hb
        replace hM := hM.below hb
        clear hb
        replace hO := hO.add hS #[.string (numS a'), .string (denS a')] 27
        replace hS := hS.add' #[.string (numS a'), .string (denS a')] 27
        obtain ⟨W0, hW0, hS, hz0⟩ := hS
        replace hO := hO.add hS #[.string (numS b'), .string (denS b')] 27
        replace hS := hS.add' #[.string (numS b'), .string (denS b')] 27
        obtain ⟨W1, hW1, hS, hz1⟩ := hS
        rw [hz0] at hS hO
        obtain ⟨W, hW⟩ : ∃ W, W = ((w11.alloc (.cells #[.string (numS a'), .string (denS a')] 27)).alloc (.cells #[.string (numS b'), .string (denS b')] 27)) := ⟨_, rfl⟩
        replace hS : BL w [(w11.heap.size + 1, #[.string (numS b'), .string (denS b')], 27), (w11.heap.size, #[.string (numS a'), .string (denS a')], 27), (w4.heap.size + 1, #[.string (numS y), .string (denS y)], 27), (w4.heap.size, #[.string (numS x'), .string (denS x')], 27), (w3.heap.size, #[.int .i64 a, .int .i64 lo, .int .i64 hi], 59), (w.heap.size, #[.int .i64 xf, .int .i64 xs, .slice ag xl cap, .int .i64 xm], 24)] W := by rw [hW, ← hW0, ← hW1]; exact hS
        replace hD : SlD W (.slice la l.length lc) l := by rw [hW]; exact (hD.new _).new _
        replace hM : SlD W (.slice ma m.length mc) m := by rw [hW]; exact (hM.new _).new _
        clear hz0 hz1 hW1 hW0
        go_wp2_with fail
        rw [← hW]
        clear hW
        refine Calls.mono (DS.out _) ?_
        rintro e w12 ⟨rfl, hb⟩
        replace hS := hS.call hb
        replace hD := hD.below hb
        replace hM := hM.below hb
        clear hb
        go_wp2_with fail
        refine Calls.mono (FM.out _ _ (hS.env hE) hM) ?_
        rintro e w13 ⟨rfl, hb⟩
        replace hS := hS.call hb
        replace hD := hD.below hb
        replace hM := hM.below hb
        clear hb
        replace hO := hO.add hS #[.string (numS a'), .string (denS a')] 27
        replace hS := hS.add' #[.string (numS a'), .string (denS a')] 27
        obtain ⟨W0, hW0, hS, hz0⟩ := hS
        replace hO := hO.add hS #[.string (numS b'), .string (denS b')] 27
        replace hS := hS.add' #[.string (numS b'), .string (denS b')] 27
        obtain ⟨W1, hW1, hS, hz1⟩ := hS
        rw [hz0] at hS hO
        obtain ⟨W, hW⟩ : ∃ W, W = ((w13.alloc (.cells #[.string (numS a'), .string (denS a')] 27)).alloc (.cells #[.string (numS b'), .string (denS b')] 27)) := ⟨_, rfl⟩
        replace hS : BL w [(w13.heap.size + 1, #[.string (numS b'), .string (denS b')], 27), (w13.heap.size, #[.string (numS a'), .string (denS a')], 27), (w11.heap.size + 1, #[.string (numS b'), .string (denS b')], 27), (w11.heap.size, #[.string (numS a'), .string (denS a')], 27), (w4.heap.size + 1, #[.string (numS y), .string (denS y)], 27), (w4.heap.size, #[.string (numS x'), .string (denS x')], 27), (w3.heap.size, #[.int .i64 a, .int .i64 lo, .int .i64 hi], 59), (w.heap.size, #[.int .i64 xf, .int .i64 xs, .slice ag xl cap, .int .i64 xm], 24)] W := by rw [hW, ← hW0, ← hW1]; exact hS
        replace hD : SlD W (.slice la l.length lc) l := by rw [hW]; exact (hD.new _).new _
        replace hM : SlD W (.slice ma m.length mc) m := by rw [hW]; exact (hM.new _).new _
        clear hz0 hz1 hW1 hW0
        go_upto_region 26 with fail
        rw [← hW]
        clear hW
        have hI := TI.mk hS hD hM
        have hC0 : ∀ W', BL w [(w13.heap.size + 1, #[.string (numS b'), .string (denS b')], 27), (w13.heap.size, #[.string (numS a'), .string (denS a')], 27), (w11.heap.size + 1, #[.string (numS b'), .string (denS b')], 27), (w11.heap.size, #[.string (numS a'), .string (denS a')], 27), (w4.heap.size + 1, #[.string (numS y), .string (denS y)], 27), (w4.heap.size, #[.string (numS x'), .string (denS x')], 27), (w3.heap.size, #[.int .i64 a, .int .i64 lo, .int .i64 hi], 59), (w.heap.size, #[.int .i64 xf, .int .i64 xs, .slice ag xl cap, .int .i64 xm], 24)] W' → (W'.cell? ⟨w4.heap.size, 0, none⟩ = some (.string (numS x')) ∧ W'.cell? ⟨w4.heap.size, 1, none⟩ = some (.string (denS x')) ∧ W'.cell? ⟨w4.heap.size + 1, 0, none⟩ = some (.string (numS y)) ∧ W'.cell? ⟨w4.heap.size + 1, 1, none⟩ = some (.string (denS y)) ∧ W'.cell? ⟨w3.heap.size, 0, none⟩ = some (.int .i64 a) ∧ W'.cell? ⟨w3.heap.size, 1, none⟩ = some (.int .i64 lo) ∧ W'.cell? ⟨w3.heap.size, 2, none⟩ = some (.int .i64 hi)) := fun W' h => ⟨(h.cell (w4.heap.size) _ _ (.tail _ (.tail _ (.tail _ (.tail _ (.tail _ (.head _)))))) 0), (h.cell (w4.heap.size) _ _ (.tail _ (.tail _ (.tail _ (.tail _ (.tail _ (.head _)))))) 1), (h.cell (w4.heap.size + 1) _ _ (.tail _ (.tail _ (.tail _ (.tail _ (.head _))))) 0), (h.cell (w4.heap.size + 1) _ _ (.tail _ (.tail _ (.tail _ (.tail _ (.head _))))) 1), (h.cell (w3.heap.size) _ _ (.tail _ (.tail _ (.tail _ (.tail _ (.tail _ (.tail _ (.head _))))))) 0), (h.cell (w3.heap.size) _ _ (.tail _ (.tail _ (.tail _ (.tail _ (.tail _ (.tail _ (.head _))))))) 1), (h.cell (w3.heap.size) _ _ (.tail _ (.tail _ (.tail _ (.tail _ (.tail _ (.tail _ (.head _))))))) 2)⟩
        have hC := Lib.hid hC0
        clear hC0
        clear hS hD hM
        go_cut [34] (fun s wx => s = .bool true ∧ TI w [(w13.heap.size + 1, #[.string (numS b'), .string (denS b')], 27), (w13.heap.size, #[.string (numS a'), .string (denS a')], 27), (w11.heap.size + 1, #[.string (numS b'), .string (denS b')], 27), (w11.heap.size, #[.string (numS a'), .string (denS a')], 27), (w4.heap.size + 1, #[.string (numS y), .string (denS y)], 27), (w4.heap.size, #[.string (numS x'), .string (denS x')], 27), (w3.heap.size, #[.int .i64 a, .int .i64 lo, .int .i64 hi], 59), (w.heap.size, #[.int .i64 xf, .int .i64 xs, .slice ag xl cap, .int .i64 xm], 24)] (.slice la l.length lc) l (.slice ma m.length mc) m wx)
        case first => as_aux_lemma =>
          refine wp_region_quiet (C := fun W' => TI w [(w13.heap.size + 1, #[.string (numS b'), .string (denS b')], 27), (w13.heap.size, #[.string (numS a'), .string (denS a')], 27), (w11.heap.size + 1, #[.string (numS b'), .string (denS b')], 27), (w11.heap.size, #[.string (numS a'), .string (denS a')], 27), (w4.heap.size + 1, #[.string (numS y), .string (denS y)], 27), (w4.heap.size, #[.string (numS x'), .string (denS x')], 27), (w3.heap.size, #[.int .i64 a, .int .i64 lo, .int .i64 hi], 59), (w.heap.size, #[.int .i64 xf, .int .i64 xs, .slice ag xl cap, .int .i64 xm], 24)] (.slice la l.length lc) l (.slice ma m.length mc) m W') rfl (by kernel_rfl) hI.drew (Walled.out ?_)
          refine qWant rfl fun K hK => ?_
          go_simp
          refine ⟨_, fun _ _ => rfl, hK _ ?_⟩
          clear hK K
          refine qWant rfl fun K hK => ?_
          go_simp
          refine ⟨.int .i64 lo, fun W hW => ?_, hK _ ?_⟩
          · obtain ⟨x0', x1', x2', x3', x4', x5', x6'⟩ := hC.out W hW.bl
            go_simp
          clear hK K
          refine qWant rfl fun K hK => ?_
          go_simp
          refine ⟨.agg #[.string (numS (lo : Rat)), .string (denS (lo : Rat))], fun W hW => (OL.out W).mono fun e w' h => ⟨h.1, hW.call h.2⟩, hK _ ?_⟩
          clear hK K
          refine qWant rfl fun K hK => ?_
          go_simp
          refine ⟨.agg #[.string (numS x'), .string (denS x')], fun W hW => ?_, hK _ ?_⟩
          · obtain ⟨x0', x1', x2', x3', x4', x5', x6'⟩ := hC.out W hW.bl
            go_simp
          clear hK K
          refine qWant rfl fun K hK => ?_
          go_simp
          refine ⟨.int .i64 (cmpQ (lo : Rat) x'), fun W hW => (K3.out W (hW.bl.env hE)).mono fun e w' h => ⟨h.1, hW.call h.2⟩, hK _ ?_⟩
          clear hK K
          refine qWant rfl fun K hK => ?_
          go_simp
          refine ⟨.bool true, fun _ _ => by first | rfl | exact congrArg Value.bool g3, hK _ ?_⟩
          clear hK K
          refine qWant rfl fun K hK => ?_
          go_simp
          refine ⟨_, fun _ _ => rfl, hK _ ?_⟩
          clear hK K
          refine qWant rfl fun K hK => ?_
          go_simp
          refine ⟨.agg #[.string (numS y), .string (denS y)], fun W hW => ?_, hK _ ?_⟩
          · obtain ⟨x0', x1', x2', x3', x4', x5', x6'⟩ := hC.out W hW.bl
            go_simp
          clear hK K
          refine qWant rfl fun K hK => ?_
          go_simp
          refine ⟨_, fun _ _ => rfl, hK _ ?_⟩
          clear hK K
          refine qWant rfl fun K hK => ?_
          go_simp
          refine ⟨.int .i64 hi, fun W hW => ?_, hK _ ?_⟩
          · obtain ⟨x0', x1', x2', x3', x4', x5', x6'⟩ := hC.out W hW.bl
            go_simp
          clear hK K
          refine qWant rfl fun K hK => ?_
          go_simp
          refine ⟨.agg #[.string (numS (hi : Rat)), .string (denS (hi : Rat))], fun W hW => (OH.out W).mono fun e w' h => ⟨h.1, hW.call h.2⟩, hK _ ?_⟩
          clear hK K
          refine qWant rfl fun K hK => ?_
          go_simp
          refine ⟨.int .i64 (cmpQ y (hi : Rat)), fun W hW => (K4.out W (hW.bl.env hE)).mono fun e w' h => ⟨h.1, hW.call h.2⟩, hK _ ?_⟩
          clear hK K
          refine qWant rfl fun K hK => ?_
          go_simp
          refine ⟨.bool true, fun _ _ => by first | rfl | exact congrArg Value.bool g4, hK _ ?_⟩
          clear hK K
          refine qWant rfl fun K hK => ?_
          go_simp
          refine ⟨_, fun _ _ => rfl, hK _ ?_⟩
          clear hK K
          refine qWant rfl fun K hK => ?_
          go_simp
          refine ⟨_, fun _ _ => rfl, hK _ ?_⟩
          clear hK K
          refine qNil ?_
          intro W' hI
          go_wp2_with fail
          go_meet
          exact ⟨rfl, hI⟩
        case rest =>
          clear hC hI
          obtain ⟨rfl, hI⟩ := hcut
          obtain ⟨hS, hD, hM⟩ := hI
          clear hD hM
          obtain ⟨c_a_0, c_a_1⟩ := hS.c2 (w11.heap.size) _ _ _ (.tail _ (.tail _ (.tail _ (.head _))))
          obtain ⟨c_p_0, c_p_1⟩ := hS.c2 (w13.heap.size) _ _ _ (.tail _ (.head _))
          go_wp2_with fail
          refine Calls.mono (K5.out _ (hS.env hE)) ?_
          rintro e w14 ⟨rfl, hb⟩
          clear c_a_0 c_a_1 c_p_0 c_p_1
          replace hS := hS.call hb
          clear hb
          obtain ⟨c_b_0, c_b_1⟩ := hS.c2 (w11.heap.size + 1) _ _ _ (.tail _ (.tail _ (.head _)))
          obtain ⟨c_q_0, c_q_1⟩ := hS.c2 (w13.heap.size + 1) _ _ _ (.head _)
          go_wp2_with fail
          refine Calls.mono (K6.out _ (hS.env hE)) ?_
          rintro e w15 ⟨rfl, hb⟩
          clear c_b_0 c_b_1 c_q_0 c_q_1
          replace hS := hS.call hb
          clear hb
          obtain ⟨c_a_0, c_a_1⟩ := hS.c2 (w11.heap.size) _ _ _ (.tail _ (.tail _ (.tail _ (.head _))))
          obtain ⟨c_b_0, c_b_1⟩ := hS.c2 (w11.heap.size + 1) _ _ _ (.tail _ (.tail _ (.head _)))
          obtain ⟨c_p_0, c_p_1⟩ := hS.c2 (w13.heap.size) _ _ _ (.tail _ (.head _))
          obtain ⟨c_q_0, c_q_1⟩ := hS.c2 (w13.heap.size + 1) _ _ _ (.head _)
          go_wp2
          go_ret
          exact ⟨rfl, hS.below⟩

end Go.Proofs.YtonbmhdbcbbagaaGreatDoor
