/- putloglaw26: sane. -/
import Derived.Test.YtebokdboodgkpaaGreatDoorDecW
import Derived.Deep.DeepCutAuto
import Derived.Deep.QuietTactic
import Derived.BigQuiet
namespace Go.Proofs.YtebokdboodgkpaaGreatDoor
open Go.RowKit
open DecM (Dt fcst rts rch gd gd_lt gd_mem okD Ln)
attribute [local go_sem] Oper.semAt_some

theorem example_b (w : World) : Calls Tryz.prog 28 #[] w fun e w' => ∃ B, e = .returned (.slice (some ⟨B, 0, none⟩) 3 3) ∧ Below w.heap.size w w' ∧ Blk w' B #[.int .i64 0, .int .i64 0, .int .i64 2, .int .i64 10, .int .i64 4, .int .i64 6, .int .i64 20, .int .i64 9, .int .i64 10] 58 ∧ w.heap.size ≤ B :=
  (example_any w).mono fun _ _ h => ⟨_, h.1, by rw [h.2]; exact (Below.refl _ w).alloc (Nat.le_refl _) _, by rw [h.2]; exact Blk.new _ _ _, Nat.le_refl _⟩
theorem exS1 {W : World} {B : Nat} (h : Blk W B #[.int .i64 0, .int .i64 0, .int .i64 2, .int .i64 10, .int .i64 4, .int .i64 6, .int .i64 20, .int .i64 9, .int .i64 10] 58) : SlD W (.slice (some ⟨B, 0, none⟩) 3 3) ex1 := SlD.of3 (p := ⟨0, 0, 2⟩) (q := ⟨10, 4, 6⟩) (r := ⟨20, 9, 10⟩) h
theorem exS2 {W : World} {B : Nat} (h : Blk W B #[.int .i64 0, .int .i64 0, .int .i64 2, .int .i64 10, .int .i64 7, .int .i64 8, .int .i64 20, .int .i64 9, .int .i64 10] 58) : SlD W (.slice (some ⟨B, 0, none⟩) 3 3) ex2 := SlD.of3 (p := ⟨0, 0, 2⟩) (q := ⟨10, 7, 8⟩) (r := ⟨20, 9, 10⟩) h
theorem SlD.of1 {W : World} {B : Nat} {p : Dt} (h : Blk W B #[.int .i64 p.t, .int .i64 p.lo, .int .i64 p.hi] 58) : SlD W (.slice (some ⟨B, 0, none⟩) 1 1) [p] := by
  refine .inr ⟨B, 0, 1, rfl, by simp, by unfold maxLen; omega, h.lt, fun j hj => ?_⟩
  match j, hj with
  | 0, _ => exact ⟨h.cell 0, h.cell 1, h.cell 2⟩
theorem BL.bad {w W : World} {L : BLs} {B : Nat} (h : BL w ((B, #[.int .i64 0, .int .i64 0, .int .i64 2, .int .i64 10, .int .i64 4, .int .i64 6, .int .i64 20, .int .i64 9, .int .i64 10], 58) :: L) W) (hge : w.heap.size ≤ B) (hne : ∀ p ∈ L, p.1 < B) :
    BL w ((B, #[.int .i64 0, .int .i64 0, .int .i64 2, .int .i64 10, .int .i64 7, .int .i64 8, .int .i64 20, .int .i64 9, .int .i64 10], 58) :: L) (((W.setCell ⟨B, 3, none⟩ (.int .i64 10)).setCell ⟨B, 4, none⟩ (.int .i64 7)).setCell ⟨B, 5, none⟩ (.int .i64 8)) := by
  have ho : Only [B] W (((W.setCell ⟨B, 3, none⟩ (.int .i64 10)).setCell ⟨B, 4, none⟩ (.int .i64 7)).setCell ⟨B, 5, none⟩ (.int .i64 8)) := (((Only.refl [B] W).setCell (p := ⟨B, 3, none⟩) (by simp) _).setCell (p := ⟨B, 4, none⟩) (by simp) _).setCell (p := ⟨B, 5, none⟩) (by simp) _
  have h1 := (h.drop (M := L) (fun p hp => List.mem_cons_of_mem _ hp)).only ho (by simpa using hge) (fun p hp => by have := hne p hp; simp; omega)
  exact h1.pushB ((((h.blks _ (.head _)).set 3 _).set 4 _).set 5 _)
theorem Sl.new {W : World} {v : Value} {xs : List Int} (h : Sl W v xs) (o : Obj) : Sl (W.alloc o) v xs := h.below ((Below.refl _ W).alloc (Nat.le_refl _) o)
/-- Blocks of the call's own, and the list of the three data. -/
structure SI (w : World) (L : BLs) (v : Value) (W : World) : Prop where
  bl : BL w L W
  sl : Sl W v [0, 1, 2]
theorem SI.call {w W W' : World} {L : BLs} {v : Value} (h : SI w L v W) (hb : Below W.heap.size W W') : SI w L v W' := ⟨h.bl.call hb, h.sl.below hb⟩
theorem SI.drew {w W : World} {L : BLs} {v : Value} (h : SI w L v W) : SI w L v W.drew := h.call (below_drewN W 1)
theorem SI.new {w W : World} {L : BLs} {v : Value} (h : SI w L v W) (o : Obj) : SI w L v (W.alloc o) := ⟨h.bl.new o, h.sl.new o⟩
theorem ex_fits : ∀ d ∈ ex1, Fits d.t ∧ Fits d.lo ∧ Fits d.hi := by
  intro d hd
  unfold ex1 at hd
  simp only [List.mem_cons, List.not_mem_nil, or_false] at hd
  rcases hd with rfl | rfl | rfl <;> (unfold Fits; simp)

theorem exF40 (v : Value) (W : World) (hE : Env W) (h : SlD W v ex1) : Calls Tryz.prog 17 #[v, .int .i64 40] W (Rets W (.tuple #[.agg #[.string ⟨#[49, 54]⟩, .string ⟨#[49]⟩], .agg #[.string ⟨#[50, 48]⟩, .string ⟨#[49]⟩], .int .i64 0])) := by
  have := forecast_any v ex1 40 W hE h
  rwa [show fV (fcst ex1 40) = .tuple #[.agg #[.string ⟨#[49, 54]⟩, .string ⟨#[49]⟩], .agg #[.string ⟨#[50, 48]⟩, .string ⟨#[49]⟩], .int .i64 0] by kernel_rfl] at this
theorem exF10 (v : Value) (W : World) (hE : Env W) (h : SlD W v ex1) : Calls Tryz.prog 17 #[v, .int .i64 10] W (Rets W (.tuple #[.agg #[.string ⟨#[57]⟩, .string ⟨#[50]⟩], .agg #[.string ⟨#[54]⟩, .string ⟨#[49]⟩], .int .i64 0])) := by
  have := forecast_any v ex1 10 W hE h
  rwa [show fV (fcst ex1 10) = .tuple #[.agg #[.string ⟨#[57]⟩, .string ⟨#[50]⟩], .agg #[.string ⟨#[54]⟩, .string ⟨#[49]⟩], .int .i64 0] by kernel_rfl] at this
theorem exR (v : Value) (W : World) (hE : Env W) (h : SlD W v ex1) : Calls Tryz.prog 11 #[v] W (Rets W (.tuple #[.agg #[.string ⟨#[55]⟩, .string ⟨#[50, 48]⟩], .agg #[.string ⟨#[49]⟩, .string ⟨#[50]⟩], .int .i64 0])) := by
  have := rates_any v ex1 W hE h
  rwa [show fV (rts ex1) = .tuple #[.agg #[.string ⟨#[55]⟩, .string ⟨#[50, 48]⟩], .agg #[.string ⟨#[49]⟩, .string ⟨#[50]⟩], .int .i64 0] by kernel_rfl] at this
theorem exL (v : Value) (W : World) (hE : Env W) (h : SlD W v ex1) : Calls Tryz.prog 19 #[v, .int .i64 40, .bool true] W (Rets W (.tuple #[.agg #[.string ⟨#[48]⟩, .string ⟨#[49]⟩], .agg #[.string ⟨#[49]⟩, .string ⟨#[50]⟩], .int .i64 0])) := by
  have := line_any v ex1 40 true W hE h
  rwa [show fV (lnO ex1 40 true) = .tuple #[.agg #[.string ⟨#[48]⟩, .string ⟨#[49]⟩], .agg #[.string ⟨#[49]⟩, .string ⟨#[50]⟩], .int .i64 0] by kernel_rfl] at this
theorem exB (v : Value) (W : World) (hE : Env W) (h : SlD W v ex2) : Calls Tryz.prog 17 #[v, .int .i64 40] W (Rets W (.tuple #[.agg #[.string ⟨#[]⟩, .string ⟨#[]⟩], .agg #[.string ⟨#[]⟩, .string ⟨#[]⟩], .int .i64 260])) := by
  have := forecast_any v ex2 40 W hE h
  rwa [show fV (fcst ex2 40) = .tuple #[.agg #[.string ⟨#[]⟩, .string ⟨#[]⟩], .agg #[.string ⟨#[]⟩, .string ⟨#[]⟩], .int .i64 260] by kernel_rfl] at this
theorem exK18 (v : Value) (W : World) (hE : Env W) (h : SlD W v ex1) : Calls Tryz.prog 21 #[v, .int .i64 18, .int .i64 40] W (Rets W (.tuple #[.int .i64 0, .int .i64 0])) := by
  have := reaches_any v ex1 18 40 (by unfold Fits; omega) W hE h
  rwa [show rV (rch ex1 18 40) = .tuple #[.int .i64 0, .int .i64 0] by kernel_rfl] at this
theorem exK21 (v : Value) (W : World) (hE : Env W) (h : SlD W v ex1) : Calls Tryz.prog 21 #[v, .int .i64 21, .int .i64 40] W (Rets W (.tuple #[.int .i64 (-1), .int .i64 0])) := by
  have := reaches_any v ex1 21 40 (by unfold Fits; omega) W hE h
  rwa [show rV (rch ex1 21 40) = .tuple #[.int .i64 (-1), .int .i64 0] by kernel_rfl] at this
theorem exK16 (v : Value) (W : World) (hE : Env W) (h : SlD W v ex1) : Calls Tryz.prog 21 #[v, .int .i64 16, .int .i64 40] W (Rets W (.tuple #[.int .i64 1, .int .i64 0])) := by
  have := reaches_any v ex1 16 40 (by unfold Fits; omega) W hE h
  rwa [show rV (rch ex1 16 40) = .tuple #[.int .i64 1, .int .i64 0] by kernel_rfl] at this
theorem exV (W : World) (hE : Env W) : Calls Tryz.prog 26 #[.agg #[.string ⟨#[48]⟩, .string ⟨#[49]⟩], .agg #[.string ⟨#[49]⟩, .string ⟨#[50]⟩], .int .i64 40] W (Rets W (.tuple #[.agg #[.string ⟨#[50, 48]⟩, .string ⟨#[49]⟩], .int .i64 0])) := by
  have := value_any ⟨#[48]⟩ ⟨#[49]⟩ ⟨#[49]⟩ ⟨#[50]⟩ 40 (by unfold Fits; omega) W hE
  rwa [show dV (valO (oq ⟨#[48]⟩ ⟨#[49]⟩) (oq ⟨#[49]⟩ ⟨#[50]⟩) 40) = .tuple #[.agg #[.string ⟨#[50, 48]⟩, .string ⟨#[49]⟩], .int .i64 0] by kernel_rfl] at this
theorem exOf (n d : Int) (s t : ByteArray) (hn : Fits n) (hd : Fits d) (h : tN (oOf n d) = s ∧ tD (oOf n d) = t) (W : World) : Calls Tryz.prog 23 #[.int .i64 n, .int .i64 d] W (Rets W (.agg #[.string s, .string t])) := by
  have := of_any n d hn hd W
  rwa [h.1, h.2] at this
theorem exFit (v : Value) (n d n2 d2 : ByteArray) (c : Bool) (h2 : fitO ex1 (oq n d) (oq n2 d2) = c) (W : World) (hE : Env W) (h : SlD W v ex1) : Calls Tryz.prog 24 #[v, .agg #[.string n, .string d], .agg #[.string n2, .string d2]] W (Rets W (.bool c)) := by
  have := dfits_any v ex1 n d n2 d2 ex_fits W hE h
  rwa [h2] at this
theorem exRef2 (v : Value) (W : World) (h : SlD W v ex2) : Calls Tryz.prog 9 #[v] W fun e w' => ∃ u, e = .returned (.tuple #[u, .bool true]) ∧ Sl w' u [0, 1, 2] ∧ Below W.heap.size W w' := refute_any v ex2 W h
theorem exRef1 (v : Value) (W : World) (h : SlD W v ex1) : Calls Tryz.prog 9 #[v] W fun e w' => ∃ u, e = .returned (.tuple #[u, .bool false]) ∧ Sl w' u [] ∧ Below W.heap.size W w' := refute_any v ex1 W h

theorem exInts (v u : Value) (W : World) (hv : Sl W v [0, 1, 2]) (hu : Sl W u [0, 1, 2]) : Calls Tryz.prog 15 #[v, u] W (Rets W (.bool true)) := ints_any v u [0, 1, 2] [0, 1, 2] W hv hu (by decide)
theorem exValid (v : Value) (W : World) (h : SlD W v ex1) : Calls Tryz.prog 13 #[v] W (Rets W (.bool true)) := dvalid_any v ex1 W h
theorem exBad (v : Value) (W : World) (h : SlD W v [⟨-1, 0, 0⟩]) : Calls Tryz.prog 13 #[v] W (Rets W (.bool false)) := dvalid_any v [⟨-1, 0, 0⟩] W h

set_option maxRecDepth 100000 in
set_option maxHeartbeats 16000000 in
/-- The examples hold. -/
theorem sane_any (w : World) (hE : Env w) : Calls Tryz.prog 4 #[] w (Rets w (.bool true)) := by
  have hS := BL.start w
  go_enter Tryz.func4, Tryz.ntmps4
  go_wp2_with fail
  refine Calls.mono (example_b _) ?_
  rintro e w1 ⟨B1, rfl, hb, hk, hge⟩
  have hltB1 := fun p hp => Nat.lt_of_lt_of_le (hS.lts p hp) hge
  have hgeB1 := Nat.le_trans hS.below.size hge
  replace hS := (hS.call hb).pushB hk
  clear hb hk hge
  go_wp2_with fail
  refine Calls.mono (exF40 _ _ (hS.env hE) (exS1 (hS.blks _ (.head _)))) ?_
  rintro e w2 ⟨rfl, hb⟩
  replace hS := hS.call hb
  clear hb
  replace hS := hS.add' #[.string ⟨#[49, 54]⟩, .string ⟨#[49]⟩] 27
  obtain ⟨W0, hW0, hS, hz0⟩ := hS
  replace hS := hS.add' #[.string ⟨#[50, 48]⟩, .string ⟨#[49]⟩] 27
  obtain ⟨W1, hW1, hS, hz1⟩ := hS
  rw [hz0] at hS
  obtain ⟨W, hW⟩ : ∃ W, W = ((w2.alloc (.cells #[.string ⟨#[49, 54]⟩, .string ⟨#[49]⟩] 27)).alloc (.cells #[.string ⟨#[50, 48]⟩, .string ⟨#[49]⟩] 27)) := ⟨_, rfl⟩
  replace hS : BL w [(w2.heap.size + 1, #[.string ⟨#[50, 48]⟩, .string ⟨#[49]⟩], 27), (w2.heap.size, #[.string ⟨#[49, 54]⟩, .string ⟨#[49]⟩], 27), (B1, #[.int .i64 0, .int .i64 0, .int .i64 2, .int .i64 10, .int .i64 4, .int .i64 6, .int .i64 20, .int .i64 9, .int .i64 10], 58)] W := by rw [hW, ← hW0, ← hW1]; exact hS
  clear hz0 hz1 hW1 hW0
  go_wp2_with fail
  rw [← hW]
  clear hW
  refine Calls.mono (exF10 _ _ (hS.env hE) (exS1 (hS.blks _ (.tail _ (.tail _ (.head _)))))) ?_
  rintro e w3 ⟨rfl, hb⟩
  replace hS := hS.call hb
  clear hb
  replace hS := hS.add' #[.string ⟨#[57]⟩, .string ⟨#[50]⟩] 27
  obtain ⟨W0, hW0, hS, hz0⟩ := hS
  replace hS := hS.add' #[.string ⟨#[54]⟩, .string ⟨#[49]⟩] 27
  obtain ⟨W1, hW1, hS, hz1⟩ := hS
  rw [hz0] at hS
  obtain ⟨W, hW⟩ : ∃ W, W = ((w3.alloc (.cells #[.string ⟨#[57]⟩, .string ⟨#[50]⟩] 27)).alloc (.cells #[.string ⟨#[54]⟩, .string ⟨#[49]⟩] 27)) := ⟨_, rfl⟩
  replace hS : BL w [(w3.heap.size + 1, #[.string ⟨#[54]⟩, .string ⟨#[49]⟩], 27), (w3.heap.size, #[.string ⟨#[57]⟩, .string ⟨#[50]⟩], 27), (w2.heap.size + 1, #[.string ⟨#[50, 48]⟩, .string ⟨#[49]⟩], 27), (w2.heap.size, #[.string ⟨#[49, 54]⟩, .string ⟨#[49]⟩], 27), (B1, #[.int .i64 0, .int .i64 0, .int .i64 2, .int .i64 10, .int .i64 4, .int .i64 6, .int .i64 20, .int .i64 9, .int .i64 10], 58)] W := by rw [hW, ← hW0, ← hW1]; exact hS
  clear hz0 hz1 hW1 hW0
  go_wp2_with fail
  rw [← hW]
  clear hW
  refine Calls.mono (exR _ _ (hS.env hE) (exS1 (hS.blks _ (.tail _ (.tail _ (.tail _ (.tail _ (.head _)))))))) ?_
  rintro e w4 ⟨rfl, hb⟩
  replace hS := hS.call hb
  clear hb
  replace hS := hS.add' #[.string ⟨#[55]⟩, .string ⟨#[50, 48]⟩] 27
  obtain ⟨W0, hW0, hS, hz0⟩ := hS
  replace hS := hS.add' #[.string ⟨#[49]⟩, .string ⟨#[50]⟩] 27
  obtain ⟨W1, hW1, hS, hz1⟩ := hS
  rw [hz0] at hS
  obtain ⟨W, hW⟩ : ∃ W, W = ((w4.alloc (.cells #[.string ⟨#[55]⟩, .string ⟨#[50, 48]⟩] 27)).alloc (.cells #[.string ⟨#[49]⟩, .string ⟨#[50]⟩] 27)) := ⟨_, rfl⟩
  replace hS : BL w [(w4.heap.size + 1, #[.string ⟨#[49]⟩, .string ⟨#[50]⟩], 27), (w4.heap.size, #[.string ⟨#[55]⟩, .string ⟨#[50, 48]⟩], 27), (w3.heap.size + 1, #[.string ⟨#[54]⟩, .string ⟨#[49]⟩], 27), (w3.heap.size, #[.string ⟨#[57]⟩, .string ⟨#[50]⟩], 27), (w2.heap.size + 1, #[.string ⟨#[50, 48]⟩, .string ⟨#[49]⟩], 27), (w2.heap.size, #[.string ⟨#[49, 54]⟩, .string ⟨#[49]⟩], 27), (B1, #[.int .i64 0, .int .i64 0, .int .i64 2, .int .i64 10, .int .i64 4, .int .i64 6, .int .i64 20, .int .i64 9, .int .i64 10], 58)] W := by rw [hW, ← hW0, ← hW1]; exact hS
  clear hz0 hz1 hW1 hW0
  go_wp2_with fail
  rw [← hW]
  clear hW
  refine Calls.mono (example_b _) ?_
  rintro e w5 ⟨B2, rfl, hb, hk, hge⟩
  have hltB2 := fun p hp => Nat.lt_of_lt_of_le (hS.lts p hp) hge
  have hgeB2 := Nat.le_trans hS.below.size hge
  replace hS := (hS.call hb).pushB hk
  clear hb hk hge
  go_upto_region 6 with fail
  have z3 := hS.cell B2 _ _ (.head _) 3
  have y3 := hS.frozen B2 _ _ (.head _) 3
  have z4 := hS.cell B2 _ _ (.head _) 4
  have y4 := hS.frozen B2 _ _ (.head _) 4
  have z5 := hS.cell B2 _ _ (.head _) 5
  have y5 := hS.frozen B2 _ _ (.head _) 5
  go_upto_region 7 with fail
  have hS3 := hS.bad hgeB2 hltB2
  obtain ⟨W, hW⟩ : ∃ W, W = (((w5.setCell ⟨B2, 3, none⟩ (.int .i64 10)).setCell ⟨B2, 4, none⟩ (.int .i64 7)).setCell ⟨B2, 5, none⟩ (.int .i64 8)) := ⟨_, rfl⟩
  rw [← hW] at hS3 ⊢
  clear z3 z4 z5 y3 y4 y5 hW hS
  have hS := hS3
  clear hS3
  go_wp2_with fail
  refine Calls.mono (exRef2 _ _ (exS2 (hS.blks _ (.head _)))) ?_
  rintro e w6 ⟨vr, rfl, hR, hb⟩
  replace hS := hS.call hb
  clear hb
  go_wp2_with fail
  refine Calls.mono (exRef1 _ _ (exS1 (hS.blks _ (.tail _ (.tail _ (.tail _ (.tail _ (.tail _ (.tail _ (.tail _ (.head _))))))))))) ?_
  rintro e w7 ⟨v0, rfl, hR0, hb⟩
  replace hS := hS.call hb
  replace hR := hR.below hb
  clear hb hR0
  go_wp2_with fail
  refine Calls.mono (exL _ _ (hS.env hE) (exS1 (hS.blks _ (.tail _ (.tail _ (.tail _ (.tail _ (.tail _ (.tail _ (.tail _ (.head _))))))))))) ?_
  rintro e w8 ⟨rfl, hb⟩
  replace hS := hS.call hb
  replace hR := hR.below hb
  clear hb
  replace hS := hS.add' #[.string ⟨#[48]⟩, .string ⟨#[49]⟩] 27
  obtain ⟨W0, hW0, hS, hz0⟩ := hS
  replace hS := hS.add' #[.string ⟨#[49]⟩, .string ⟨#[50]⟩] 27
  obtain ⟨W1, hW1, hS, hz1⟩ := hS
  rw [hz0] at hS
  obtain ⟨W, hW⟩ : ∃ W, W = ((w8.alloc (.cells #[.string ⟨#[48]⟩, .string ⟨#[49]⟩] 27)).alloc (.cells #[.string ⟨#[49]⟩, .string ⟨#[50]⟩] 27)) := ⟨_, rfl⟩
  replace hS : BL w [(w8.heap.size + 1, #[.string ⟨#[49]⟩, .string ⟨#[50]⟩], 27), (w8.heap.size, #[.string ⟨#[48]⟩, .string ⟨#[49]⟩], 27), (B2, #[.int .i64 0, .int .i64 0, .int .i64 2, .int .i64 10, .int .i64 7, .int .i64 8, .int .i64 20, .int .i64 9, .int .i64 10], 58), (w4.heap.size + 1, #[.string ⟨#[49]⟩, .string ⟨#[50]⟩], 27), (w4.heap.size, #[.string ⟨#[55]⟩, .string ⟨#[50, 48]⟩], 27), (w3.heap.size + 1, #[.string ⟨#[54]⟩, .string ⟨#[49]⟩], 27), (w3.heap.size, #[.string ⟨#[57]⟩, .string ⟨#[50]⟩], 27), (w2.heap.size + 1, #[.string ⟨#[50, 48]⟩, .string ⟨#[49]⟩], 27), (w2.heap.size, #[.string ⟨#[49, 54]⟩, .string ⟨#[49]⟩], 27), (B1, #[.int .i64 0, .int .i64 0, .int .i64 2, .int .i64 10, .int .i64 4, .int .i64 6, .int .i64 20, .int .i64 9, .int .i64 10], 58)] W := by rw [hW, ← hW0, ← hW1]; exact hS
  replace hR : Sl W vr [0, 1, 2] := by rw [hW]; exact (hR.new _).new _
  clear hz0 hz1 hW1 hW0
  go_upto_region 10 with fail
  rw [← hW]
  clear hW
  obtain ⟨c_a_0, c_a_1⟩ := hS.c2 (w8.heap.size) _ _ _ (.tail _ (.head _))
  obtain ⟨c_b_0, c_b_1⟩ := hS.c2 (w8.heap.size + 1) _ _ _ (.head _)
  go_wp2_with fail
  refine Calls.mono (exV _ (hS.env hE)) ?_
  rintro e w9 ⟨rfl, hb⟩
  clear c_a_0 c_a_1 c_b_0 c_b_1
  replace hS := hS.call hb
  replace hR := hR.below hb
  clear hb
  replace hS := hS.add' #[.string ⟨#[50, 48]⟩, .string ⟨#[49]⟩] 27
  obtain ⟨W0, hW0, hS, hz0⟩ := hS
  obtain ⟨W, hW⟩ : ∃ W, W = (w9.alloc (.cells #[.string ⟨#[50, 48]⟩, .string ⟨#[49]⟩] 27)) := ⟨_, rfl⟩
  replace hS : BL w [(w9.heap.size, #[.string ⟨#[50, 48]⟩, .string ⟨#[49]⟩], 27), (w8.heap.size + 1, #[.string ⟨#[49]⟩, .string ⟨#[50]⟩], 27), (w8.heap.size, #[.string ⟨#[48]⟩, .string ⟨#[49]⟩], 27), (B2, #[.int .i64 0, .int .i64 0, .int .i64 2, .int .i64 10, .int .i64 7, .int .i64 8, .int .i64 20, .int .i64 9, .int .i64 10], 58), (w4.heap.size + 1, #[.string ⟨#[49]⟩, .string ⟨#[50]⟩], 27), (w4.heap.size, #[.string ⟨#[55]⟩, .string ⟨#[50, 48]⟩], 27), (w3.heap.size + 1, #[.string ⟨#[54]⟩, .string ⟨#[49]⟩], 27), (w3.heap.size, #[.string ⟨#[57]⟩, .string ⟨#[50]⟩], 27), (w2.heap.size + 1, #[.string ⟨#[50, 48]⟩, .string ⟨#[49]⟩], 27), (w2.heap.size, #[.string ⟨#[49, 54]⟩, .string ⟨#[49]⟩], 27), (B1, #[.int .i64 0, .int .i64 0, .int .i64 2, .int .i64 10, .int .i64 4, .int .i64 6, .int .i64 20, .int .i64 9, .int .i64 10], 58)] W := by rw [hW, ← hW0]; exact hS
  replace hR : Sl W vr [0, 1, 2] := by rw [hW]; exact hR.new _
  clear hz0 hW0
  go_wp2_with fail
  rw [← hW]
  clear hW
  refine Calls.mono (exK18 _ _ (hS.env hE) (exS1 (hS.blks _ (.tail _ (.tail _ (.tail _ (.tail _ (.tail _ (.tail _ (.tail _ (.tail _ (.tail _ (.tail _ (.head _)))))))))))))) ?_
  rintro e w10 ⟨rfl, hb⟩
  replace hS := hS.call hb
  replace hR := hR.below hb
  clear hb
  go_wp2_with fail
  refine Calls.mono (exK21 _ _ (hS.env hE) (exS1 (hS.blks _ (.tail _ (.tail _ (.tail _ (.tail _ (.tail _ (.tail _ (.tail _ (.tail _ (.tail _ (.tail _ (.head _)))))))))))))) ?_
  rintro e w11 ⟨rfl, hb⟩
  replace hS := hS.call hb
  replace hR := hR.below hb
  clear hb
  go_wp2_with fail
  refine Calls.mono (exK16 _ _ (hS.env hE) (exS1 (hS.blks _ (.tail _ (.tail _ (.tail _ (.tail _ (.tail _ (.tail _ (.tail _ (.tail _ (.tail _ (.tail _ (.head _)))))))))))))) ?_
  rintro e w12 ⟨rfl, hb⟩
  replace hS := hS.call hb
  replace hR := hR.below hb
  clear hb
  go_wp2_with fail
  refine Calls.mono (exB _ _ (hS.env hE) (exS2 (hS.blks _ (.tail _ (.tail _ (.tail _ (.head _))))))) ?_
  rintro e w13 ⟨rfl, hb⟩
  replace hS := hS.call hb
  replace hR := hR.below hb
  clear hb
  replace hS := hS.add' #[.string ⟨#[]⟩, .string ⟨#[]⟩] 27
  obtain ⟨W0, hW0, hS, hz0⟩ := hS
  replace hS := hS.add' #[.string ⟨#[]⟩, .string ⟨#[]⟩] 27
  obtain ⟨W1, hW1, hS, hz1⟩ := hS
  rw [hz0] at hS
  obtain ⟨W, hW⟩ : ∃ W, W = ((w13.alloc (.cells #[.string ⟨#[]⟩, .string ⟨#[]⟩] 27)).alloc (.cells #[.string ⟨#[]⟩, .string ⟨#[]⟩] 27)) := ⟨_, rfl⟩
  replace hS : BL w [(w13.heap.size + 1, #[.string ⟨#[]⟩, .string ⟨#[]⟩], 27), (w13.heap.size, #[.string ⟨#[]⟩, .string ⟨#[]⟩], 27), (w9.heap.size, #[.string ⟨#[50, 48]⟩, .string ⟨#[49]⟩], 27), (w8.heap.size + 1, #[.string ⟨#[49]⟩, .string ⟨#[50]⟩], 27), (w8.heap.size, #[.string ⟨#[48]⟩, .string ⟨#[49]⟩], 27), (B2, #[.int .i64 0, .int .i64 0, .int .i64 2, .int .i64 10, .int .i64 7, .int .i64 8, .int .i64 20, .int .i64 9, .int .i64 10], 58), (w4.heap.size + 1, #[.string ⟨#[49]⟩, .string ⟨#[50]⟩], 27), (w4.heap.size, #[.string ⟨#[55]⟩, .string ⟨#[50, 48]⟩], 27), (w3.heap.size + 1, #[.string ⟨#[54]⟩, .string ⟨#[49]⟩], 27), (w3.heap.size, #[.string ⟨#[57]⟩, .string ⟨#[50]⟩], 27), (w2.heap.size + 1, #[.string ⟨#[50, 48]⟩, .string ⟨#[49]⟩], 27), (w2.heap.size, #[.string ⟨#[49, 54]⟩, .string ⟨#[49]⟩], 27), (B1, #[.int .i64 0, .int .i64 0, .int .i64 2, .int .i64 10, .int .i64 4, .int .i64 6, .int .i64 20, .int .i64 9, .int .i64 10], 58)] W := by rw [hW, ← hW0, ← hW1]; exact hS
  replace hR : Sl W vr [0, 1, 2] := by rw [hW]; exact (hR.new _).new _
  clear hz0 hz1 hW1 hW0
  go_upto_region 17 with fail
  rw [← hW]
  clear hW
  have hI : SI w [(w13.heap.size + 1, #[.string ⟨#[]⟩, .string ⟨#[]⟩], 27), (w13.heap.size, #[.string ⟨#[]⟩, .string ⟨#[]⟩], 27), (w9.heap.size, #[.string ⟨#[50, 48]⟩, .string ⟨#[49]⟩], 27), (w8.heap.size + 1, #[.string ⟨#[49]⟩, .string ⟨#[50]⟩], 27), (w8.heap.size, #[.string ⟨#[48]⟩, .string ⟨#[49]⟩], 27), (B2, #[.int .i64 0, .int .i64 0, .int .i64 2, .int .i64 10, .int .i64 7, .int .i64 8, .int .i64 20, .int .i64 9, .int .i64 10], 58), (w4.heap.size + 1, #[.string ⟨#[49]⟩, .string ⟨#[50]⟩], 27), (w4.heap.size, #[.string ⟨#[55]⟩, .string ⟨#[50, 48]⟩], 27), (w3.heap.size + 1, #[.string ⟨#[54]⟩, .string ⟨#[49]⟩], 27), (w3.heap.size, #[.string ⟨#[57]⟩, .string ⟨#[50]⟩], 27), (w2.heap.size + 1, #[.string ⟨#[50, 48]⟩, .string ⟨#[49]⟩], 27), (w2.heap.size, #[.string ⟨#[49, 54]⟩, .string ⟨#[49]⟩], 27), (B1, #[.int .i64 0, .int .i64 0, .int .i64 2, .int .i64 10, .int .i64 4, .int .i64 6, .int .i64 20, .int .i64 9, .int .i64 10], 58)] vr W := ⟨hS, hR⟩
  clear hR
  have hC0 : ∀ W', BL w [(w13.heap.size + 1, #[.string ⟨#[]⟩, .string ⟨#[]⟩], 27), (w13.heap.size, #[.string ⟨#[]⟩, .string ⟨#[]⟩], 27), (w9.heap.size, #[.string ⟨#[50, 48]⟩, .string ⟨#[49]⟩], 27), (w8.heap.size + 1, #[.string ⟨#[49]⟩, .string ⟨#[50]⟩], 27), (w8.heap.size, #[.string ⟨#[48]⟩, .string ⟨#[49]⟩], 27), (B2, #[.int .i64 0, .int .i64 0, .int .i64 2, .int .i64 10, .int .i64 7, .int .i64 8, .int .i64 20, .int .i64 9, .int .i64 10], 58), (w4.heap.size + 1, #[.string ⟨#[49]⟩, .string ⟨#[50]⟩], 27), (w4.heap.size, #[.string ⟨#[55]⟩, .string ⟨#[50, 48]⟩], 27), (w3.heap.size + 1, #[.string ⟨#[54]⟩, .string ⟨#[49]⟩], 27), (w3.heap.size, #[.string ⟨#[57]⟩, .string ⟨#[50]⟩], 27), (w2.heap.size + 1, #[.string ⟨#[50, 48]⟩, .string ⟨#[49]⟩], 27), (w2.heap.size, #[.string ⟨#[49, 54]⟩, .string ⟨#[49]⟩], 27), (B1, #[.int .i64 0, .int .i64 0, .int .i64 2, .int .i64 10, .int .i64 4, .int .i64 6, .int .i64 20, .int .i64 9, .int .i64 10], 58)] W' → (W'.cell? ⟨w2.heap.size, 0, none⟩ = some (.string ⟨#[49, 54]⟩) ∧ W'.cell? ⟨w2.heap.size, 1, none⟩ = some (.string ⟨#[49]⟩) ∧ W'.cell? ⟨w2.heap.size + 1, 0, none⟩ = some (.string ⟨#[50, 48]⟩) ∧ W'.cell? ⟨w2.heap.size + 1, 1, none⟩ = some (.string ⟨#[49]⟩) ∧ W'.cell? ⟨w3.heap.size, 0, none⟩ = some (.string ⟨#[57]⟩) ∧ W'.cell? ⟨w3.heap.size, 1, none⟩ = some (.string ⟨#[50]⟩) ∧ W'.cell? ⟨w3.heap.size + 1, 0, none⟩ = some (.string ⟨#[54]⟩) ∧ W'.cell? ⟨w3.heap.size + 1, 1, none⟩ = some (.string ⟨#[49]⟩) ∧ W'.cell? ⟨w4.heap.size, 0, none⟩ = some (.string ⟨#[55]⟩) ∧ W'.cell? ⟨w4.heap.size, 1, none⟩ = some (.string ⟨#[50, 48]⟩) ∧ W'.cell? ⟨w4.heap.size + 1, 0, none⟩ = some (.string ⟨#[49]⟩) ∧ W'.cell? ⟨w4.heap.size + 1, 1, none⟩ = some (.string ⟨#[50]⟩) ∧ W'.cell? ⟨w9.heap.size, 0, none⟩ = some (.string ⟨#[50, 48]⟩) ∧ W'.cell? ⟨w9.heap.size, 1, none⟩ = some (.string ⟨#[49]⟩) ∧ W'.cell? ⟨w8.heap.size, 0, none⟩ = some (.string ⟨#[48]⟩) ∧ W'.cell? ⟨w8.heap.size, 1, none⟩ = some (.string ⟨#[49]⟩) ∧ W'.cell? ⟨w8.heap.size + 1, 0, none⟩ = some (.string ⟨#[49]⟩) ∧ W'.cell? ⟨w8.heap.size + 1, 1, none⟩ = some (.string ⟨#[50]⟩)) := fun W' h => ⟨(h.cell (w2.heap.size) _ _ (.tail _ (.tail _ (.tail _ (.tail _ (.tail _ (.tail _ (.tail _ (.tail _ (.tail _ (.tail _ (.tail _ (.head _)))))))))))) 0), (h.cell (w2.heap.size) _ _ (.tail _ (.tail _ (.tail _ (.tail _ (.tail _ (.tail _ (.tail _ (.tail _ (.tail _ (.tail _ (.tail _ (.head _)))))))))))) 1), (h.cell (w2.heap.size + 1) _ _ (.tail _ (.tail _ (.tail _ (.tail _ (.tail _ (.tail _ (.tail _ (.tail _ (.tail _ (.tail _ (.head _))))))))))) 0), (h.cell (w2.heap.size + 1) _ _ (.tail _ (.tail _ (.tail _ (.tail _ (.tail _ (.tail _ (.tail _ (.tail _ (.tail _ (.tail _ (.head _))))))))))) 1), (h.cell (w3.heap.size) _ _ (.tail _ (.tail _ (.tail _ (.tail _ (.tail _ (.tail _ (.tail _ (.tail _ (.tail _ (.head _)))))))))) 0), (h.cell (w3.heap.size) _ _ (.tail _ (.tail _ (.tail _ (.tail _ (.tail _ (.tail _ (.tail _ (.tail _ (.tail _ (.head _)))))))))) 1), (h.cell (w3.heap.size + 1) _ _ (.tail _ (.tail _ (.tail _ (.tail _ (.tail _ (.tail _ (.tail _ (.tail _ (.head _))))))))) 0), (h.cell (w3.heap.size + 1) _ _ (.tail _ (.tail _ (.tail _ (.tail _ (.tail _ (.tail _ (.tail _ (.tail _ (.head _))))))))) 1), (h.cell (w4.heap.size) _ _ (.tail _ (.tail _ (.tail _ (.tail _ (.tail _ (.tail _ (.tail _ (.head _)))))))) 0), (h.cell (w4.heap.size) _ _ (.tail _ (.tail _ (.tail _ (.tail _ (.tail _ (.tail _ (.tail _ (.head _)))))))) 1), (h.cell (w4.heap.size + 1) _ _ (.tail _ (.tail _ (.tail _ (.tail _ (.tail _ (.tail _ (.head _))))))) 0), (h.cell (w4.heap.size + 1) _ _ (.tail _ (.tail _ (.tail _ (.tail _ (.tail _ (.tail _ (.head _))))))) 1), (h.cell (w9.heap.size) _ _ (.tail _ (.tail _ (.head _))) 0), (h.cell (w9.heap.size) _ _ (.tail _ (.tail _ (.head _))) 1), (h.cell (w8.heap.size) _ _ (.tail _ (.tail _ (.tail _ (.tail _ (.head _))))) 0), (h.cell (w8.heap.size) _ _ (.tail _ (.tail _ (.tail _ (.tail _ (.head _))))) 1), (h.cell (w8.heap.size + 1) _ _ (.tail _ (.tail _ (.tail _ (.head _)))) 0), (h.cell (w8.heap.size + 1) _ _ (.tail _ (.tail _ (.tail _ (.head _)))) 1)⟩
  have hC := Lib.hid hC0
  clear hC0
  clear hS
  go_cut [30] (fun s wx => s = .bool true ∧ SI w [(w13.heap.size + 1, #[.string ⟨#[]⟩, .string ⟨#[]⟩], 27), (w13.heap.size, #[.string ⟨#[]⟩, .string ⟨#[]⟩], 27), (w9.heap.size, #[.string ⟨#[50, 48]⟩, .string ⟨#[49]⟩], 27), (w8.heap.size + 1, #[.string ⟨#[49]⟩, .string ⟨#[50]⟩], 27), (w8.heap.size, #[.string ⟨#[48]⟩, .string ⟨#[49]⟩], 27), (B2, #[.int .i64 0, .int .i64 0, .int .i64 2, .int .i64 10, .int .i64 7, .int .i64 8, .int .i64 20, .int .i64 9, .int .i64 10], 58), (w4.heap.size + 1, #[.string ⟨#[49]⟩, .string ⟨#[50]⟩], 27), (w4.heap.size, #[.string ⟨#[55]⟩, .string ⟨#[50, 48]⟩], 27), (w3.heap.size + 1, #[.string ⟨#[54]⟩, .string ⟨#[49]⟩], 27), (w3.heap.size, #[.string ⟨#[57]⟩, .string ⟨#[50]⟩], 27), (w2.heap.size + 1, #[.string ⟨#[50, 48]⟩, .string ⟨#[49]⟩], 27), (w2.heap.size, #[.string ⟨#[49, 54]⟩, .string ⟨#[49]⟩], 27), (B1, #[.int .i64 0, .int .i64 0, .int .i64 2, .int .i64 10, .int .i64 4, .int .i64 6, .int .i64 20, .int .i64 9, .int .i64 10], 58)] vr wx)
  case first => as_aux_lemma =>
    refine wp_region_quiet (C := fun W' => SI w [(w13.heap.size + 1, #[.string ⟨#[]⟩, .string ⟨#[]⟩], 27), (w13.heap.size, #[.string ⟨#[]⟩, .string ⟨#[]⟩], 27), (w9.heap.size, #[.string ⟨#[50, 48]⟩, .string ⟨#[49]⟩], 27), (w8.heap.size + 1, #[.string ⟨#[49]⟩, .string ⟨#[50]⟩], 27), (w8.heap.size, #[.string ⟨#[48]⟩, .string ⟨#[49]⟩], 27), (B2, #[.int .i64 0, .int .i64 0, .int .i64 2, .int .i64 10, .int .i64 7, .int .i64 8, .int .i64 20, .int .i64 9, .int .i64 10], 58), (w4.heap.size + 1, #[.string ⟨#[49]⟩, .string ⟨#[50]⟩], 27), (w4.heap.size, #[.string ⟨#[55]⟩, .string ⟨#[50, 48]⟩], 27), (w3.heap.size + 1, #[.string ⟨#[54]⟩, .string ⟨#[49]⟩], 27), (w3.heap.size, #[.string ⟨#[57]⟩, .string ⟨#[50]⟩], 27), (w2.heap.size + 1, #[.string ⟨#[50, 48]⟩, .string ⟨#[49]⟩], 27), (w2.heap.size, #[.string ⟨#[49, 54]⟩, .string ⟨#[49]⟩], 27), (B1, #[.int .i64 0, .int .i64 0, .int .i64 2, .int .i64 10, .int .i64 4, .int .i64 6, .int .i64 20, .int .i64 9, .int .i64 10], 58)] vr W') rfl (by kernel_rfl) hI.drew (Walled.out ?_)
    refine qWant rfl fun K hK => ?_
    go_simp
    refine ⟨.agg #[.string ⟨#[49, 54]⟩, .string ⟨#[49]⟩], fun W hW => ?_, hK _ ?_⟩
    · obtain ⟨x0', x1', x2', x3', x4', x5', x6', x7', x8', x9', x10', x11', x12', x13', x14', x15', x16', x17'⟩ := hC.out W hW.bl
      go_simp
    clear hK K
    refine qWant rfl fun K hK => ?_
    go_simp
    refine ⟨.agg #[.string ⟨#[49, 54]⟩, .string ⟨#[49]⟩], fun W hW => (exOf 16 1 ⟨#[49, 54]⟩ ⟨#[49]⟩ (by unfold Fits; omega) (by unfold Fits; omega) ⟨by kernel_rfl, by kernel_rfl⟩ W).mono fun e w' h => ⟨h.1, hW.call h.2⟩, hK _ ?_⟩
    clear hK K
    refine qWant rfl fun K hK => ?_
    go_simp
    refine ⟨_, fun _ _ => rfl, hK _ ?_⟩
    clear hK K
    refine qWant rfl fun K hK => ?_
    go_simp
    refine ⟨_, fun _ _ => rfl, hK _ ?_⟩
    clear hK K
    refine qWant rfl fun K hK => ?_
    go_simp
    refine ⟨.agg #[.string ⟨#[50, 48]⟩, .string ⟨#[49]⟩], fun W hW => ?_, hK _ ?_⟩
    · obtain ⟨x0', x1', x2', x3', x4', x5', x6', x7', x8', x9', x10', x11', x12', x13', x14', x15', x16', x17'⟩ := hC.out W hW.bl
      go_simp
    clear hK K
    refine qWant rfl fun K hK => ?_
    go_simp
    refine ⟨.agg #[.string ⟨#[50, 48]⟩, .string ⟨#[49]⟩], fun W hW => (exOf 20 1 ⟨#[50, 48]⟩ ⟨#[49]⟩ (by unfold Fits; omega) (by unfold Fits; omega) ⟨by kernel_rfl, by kernel_rfl⟩ W).mono fun e w' h => ⟨h.1, hW.call h.2⟩, hK _ ?_⟩
    clear hK K
    refine qWant rfl fun K hK => ?_
    go_simp
    refine ⟨_, fun _ _ => rfl, hK _ ?_⟩
    clear hK K
    refine qWant rfl fun K hK => ?_
    go_simp
    refine ⟨_, fun _ _ => rfl, hK _ ?_⟩
    clear hK K
    refine qWant rfl fun K hK => ?_
    go_simp
    refine ⟨_, fun _ _ => rfl, hK _ ?_⟩
    clear hK K
    refine qWant rfl fun K hK => ?_
    go_simp
    refine ⟨.agg #[.string ⟨#[57]⟩, .string ⟨#[50]⟩], fun W hW => ?_, hK _ ?_⟩
    · obtain ⟨x0', x1', x2', x3', x4', x5', x6', x7', x8', x9', x10', x11', x12', x13', x14', x15', x16', x17'⟩ := hC.out W hW.bl
      go_simp
    clear hK K
    refine qWant rfl fun K hK => ?_
    go_simp
    refine ⟨.agg #[.string ⟨#[57]⟩, .string ⟨#[50]⟩], fun W hW => (exOf 9 2 ⟨#[57]⟩ ⟨#[50]⟩ (by unfold Fits; omega) (by unfold Fits; omega) ⟨by kernel_rfl, by kernel_rfl⟩ W).mono fun e w' h => ⟨h.1, hW.call h.2⟩, hK _ ?_⟩
    clear hK K
    refine qWant rfl fun K hK => ?_
    go_simp
    refine ⟨_, fun _ _ => rfl, hK _ ?_⟩
    clear hK K
    refine qWant rfl fun K hK => ?_
    go_simp
    refine ⟨_, fun _ _ => rfl, hK _ ?_⟩
    clear hK K
    refine qWant rfl fun K hK => ?_
    go_simp
    refine ⟨_, fun _ _ => rfl, hK _ ?_⟩
    clear hK K
    refine qWant rfl fun K hK => ?_
    go_simp
    refine ⟨.agg #[.string ⟨#[54]⟩, .string ⟨#[49]⟩], fun W hW => ?_, hK _ ?_⟩
    · obtain ⟨x0', x1', x2', x3', x4', x5', x6', x7', x8', x9', x10', x11', x12', x13', x14', x15', x16', x17'⟩ := hC.out W hW.bl
      go_simp
    clear hK K
    refine qWant rfl fun K hK => ?_
    go_simp
    refine ⟨.agg #[.string ⟨#[54]⟩, .string ⟨#[49]⟩], fun W hW => (exOf 6 1 ⟨#[54]⟩ ⟨#[49]⟩ (by unfold Fits; omega) (by unfold Fits; omega) ⟨by kernel_rfl, by kernel_rfl⟩ W).mono fun e w' h => ⟨h.1, hW.call h.2⟩, hK _ ?_⟩
    clear hK K
    refine qWant rfl fun K hK => ?_
    go_simp
    refine ⟨_, fun _ _ => rfl, hK _ ?_⟩
    clear hK K
    refine qWant rfl fun K hK => ?_
    go_simp
    refine ⟨_, fun _ _ => rfl, hK _ ?_⟩
    clear hK K
    refine qWant rfl fun K hK => ?_
    go_simp
    refine ⟨_, fun _ _ => rfl, hK _ ?_⟩
    clear hK K
    refine qWant rfl fun K hK => ?_
    go_simp
    refine ⟨.agg #[.string ⟨#[55]⟩, .string ⟨#[50, 48]⟩], fun W hW => ?_, hK _ ?_⟩
    · obtain ⟨x0', x1', x2', x3', x4', x5', x6', x7', x8', x9', x10', x11', x12', x13', x14', x15', x16', x17'⟩ := hC.out W hW.bl
      go_simp
    clear hK K
    refine qWant rfl fun K hK => ?_
    go_simp
    refine ⟨.agg #[.string ⟨#[55]⟩, .string ⟨#[50, 48]⟩], fun W hW => (exOf 7 20 ⟨#[55]⟩ ⟨#[50, 48]⟩ (by unfold Fits; omega) (by unfold Fits; omega) ⟨by kernel_rfl, by kernel_rfl⟩ W).mono fun e w' h => ⟨h.1, hW.call h.2⟩, hK _ ?_⟩
    clear hK K
    refine qWant rfl fun K hK => ?_
    go_simp
    refine ⟨_, fun _ _ => rfl, hK _ ?_⟩
    clear hK K
    refine qWant rfl fun K hK => ?_
    go_simp
    refine ⟨_, fun _ _ => rfl, hK _ ?_⟩
    clear hK K
    refine qWant rfl fun K hK => ?_
    go_simp
    refine ⟨_, fun _ _ => rfl, hK _ ?_⟩
    clear hK K
    refine qWant rfl fun K hK => ?_
    go_simp
    refine ⟨.agg #[.string ⟨#[49]⟩, .string ⟨#[50]⟩], fun W hW => ?_, hK _ ?_⟩
    · obtain ⟨x0', x1', x2', x3', x4', x5', x6', x7', x8', x9', x10', x11', x12', x13', x14', x15', x16', x17'⟩ := hC.out W hW.bl
      go_simp
    clear hK K
    refine qWant rfl fun K hK => ?_
    go_simp
    refine ⟨.agg #[.string ⟨#[49]⟩, .string ⟨#[50]⟩], fun W hW => (exOf 1 2 ⟨#[49]⟩ ⟨#[50]⟩ (by unfold Fits; omega) (by unfold Fits; omega) ⟨by kernel_rfl, by kernel_rfl⟩ W).mono fun e w' h => ⟨h.1, hW.call h.2⟩, hK _ ?_⟩
    clear hK K
    refine qWant rfl fun K hK => ?_
    go_simp
    refine ⟨_, fun _ _ => rfl, hK _ ?_⟩
    clear hK K
    refine qWant rfl fun K hK => ?_
    go_simp
    refine ⟨_, fun _ _ => rfl, hK _ ?_⟩
    clear hK K
    refine qWant rfl fun K hK => ?_
    go_simp
    refine ⟨_, fun _ _ => rfl, hK _ ?_⟩
    clear hK K
    refine qWant rfl fun K hK => ?_
    go_simp
    refine ⟨.agg #[.string ⟨#[50, 48]⟩, .string ⟨#[49]⟩], fun W hW => ?_, hK _ ?_⟩
    · obtain ⟨x0', x1', x2', x3', x4', x5', x6', x7', x8', x9', x10', x11', x12', x13', x14', x15', x16', x17'⟩ := hC.out W hW.bl
      go_simp
    clear hK K
    refine qWant rfl fun K hK => ?_
    go_simp
    refine ⟨.agg #[.string ⟨#[50, 48]⟩, .string ⟨#[49]⟩], fun W hW => ?_, hK _ ?_⟩
    · obtain ⟨x0', x1', x2', x3', x4', x5', x6', x7', x8', x9', x10', x11', x12', x13', x14', x15', x16', x17'⟩ := hC.out W hW.bl
      go_simp
    clear hK K
    refine qWant rfl fun K hK => ?_
    go_simp
    refine ⟨_, fun _ _ => rfl, hK _ ?_⟩
    clear hK K
    refine qWant rfl fun K hK => ?_
    go_simp
    refine ⟨_, fun _ _ => rfl, hK _ ?_⟩
    clear hK K
    refine qWant rfl fun K hK => ?_
    go_simp
    refine ⟨_, fun _ _ => rfl, hK _ ?_⟩
    clear hK K
    refine qWant rfl fun K hK => ?_
    go_simp
    refine ⟨_, fun _ _ => rfl, hK _ ?_⟩
    clear hK K
    refine qWant rfl fun K hK => ?_
    go_simp
    refine ⟨.agg #[.string ⟨#[48]⟩, .string ⟨#[49]⟩], fun W hW => ?_, hK _ ?_⟩
    · obtain ⟨x0', x1', x2', x3', x4', x5', x6', x7', x8', x9', x10', x11', x12', x13', x14', x15', x16', x17'⟩ := hC.out W hW.bl
      go_simp
    clear hK K
    refine qWant rfl fun K hK => ?_
    go_simp
    refine ⟨.agg #[.string ⟨#[49]⟩, .string ⟨#[50]⟩], fun W hW => ?_, hK _ ?_⟩
    · obtain ⟨x0', x1', x2', x3', x4', x5', x6', x7', x8', x9', x10', x11', x12', x13', x14', x15', x16', x17'⟩ := hC.out W hW.bl
      go_simp
    clear hK K
    refine qWant rfl fun K hK => ?_
    go_simp
    refine ⟨.bool true, fun W hW => (exFit _ ⟨#[48]⟩ ⟨#[49]⟩ ⟨#[49]⟩ ⟨#[50]⟩ true (by kernel_rfl) W (hW.bl.env hE) (exS1 (hW.bl.blks _ (.tail _ (.tail _ (.tail _ (.tail _ (.tail _ (.tail _ (.tail _ (.tail _ (.tail _ (.tail _ (.tail _ (.tail _ (.head _)))))))))))))))).mono fun e w' h => ⟨h.1, hW.call h.2⟩, hK _ ?_⟩
    clear hK K
    refine qWant rfl fun K hK => ?_
    go_simp
    refine ⟨_, fun _ _ => rfl, hK _ ?_⟩
    clear hK K
    refine qWant rfl fun K hK => ?_
    go_simp
    refine ⟨_, fun _ _ => rfl, hK _ ?_⟩
    clear hK K
    refine qNil ?_
    intro W' hI
    go_wp2_with fail
    go_meet
    exact ⟨rfl, hI⟩
  case rest =>
    clear hC hI
    obtain ⟨rfl, hI⟩ := hcut
    go_wp2_with fail
    refine Calls.mono (exInts _ _ _ (hI.new _).sl (tri_sl _ 0 1 2)) ?_
    rintro e y1 ⟨rfl, hb⟩
    replace hI := (hI.new _).call hb
    clear hb
    go_wp2_with fail
    refine Calls.mono (exValid _ _ (exS1 (hI.bl.blks _ (.tail _ (.tail _ (.tail _ (.tail _ (.tail _ (.tail _ (.tail _ (.tail _ (.tail _ (.tail _ (.tail _ (.tail _ (.head _)))))))))))))))) ?_
    rintro e y2 ⟨rfl, hb⟩
    replace hI := hI.call hb
    clear hb
    go_wp2_with fail
    refine Calls.mono (exBad _ _ (SlD.of1 (p := ⟨-1, 0, 0⟩) (Blk.new _ _ _))) ?_
    rintro e y3 ⟨rfl, hb⟩
    replace hI := (hI.new _).call hb
    clear hb
    go_wp2_with fail
    refine Calls.mono (exOf 0 1 ⟨#[48]⟩ ⟨#[49]⟩ (by unfold Fits; omega) (by unfold Fits; omega) ⟨by kernel_rfl, by kernel_rfl⟩ _) ?_
    rintro e y4 ⟨rfl, hb⟩
    replace hI := hI.call hb
    clear hb
    go_wp2_with fail
    refine Calls.mono (exOf 1 2 ⟨#[49]⟩ ⟨#[50]⟩ (by unfold Fits; omega) (by unfold Fits; omega) ⟨by kernel_rfl, by kernel_rfl⟩ _) ?_
    rintro e y5 ⟨rfl, hb⟩
    replace hI := hI.call hb
    clear hb
    go_wp2_with fail
    refine Calls.mono (exFit _ ⟨#[48]⟩ ⟨#[49]⟩ ⟨#[49]⟩ ⟨#[50]⟩ true (by kernel_rfl) _ (hI.bl.env hE) (exS1 (hI.bl.blks _ (.tail _ (.tail _ (.tail _ (.tail _ (.tail _ (.tail _ (.tail _ (.tail _ (.tail _ (.tail _ (.tail _ (.tail _ (.head _)))))))))))))))) ?_
    rintro e y6 ⟨rfl, hb⟩
    replace hI := hI.call hb
    clear hb
    go_wp2_with fail
    refine Calls.mono (exOf 0 1 ⟨#[48]⟩ ⟨#[49]⟩ (by unfold Fits; omega) (by unfold Fits; omega) ⟨by kernel_rfl, by kernel_rfl⟩ _) ?_
    rintro e y7 ⟨rfl, hb⟩
    replace hI := hI.call hb
    clear hb
    go_wp2_with fail
    refine Calls.mono (exOf 2 3 ⟨#[50]⟩ ⟨#[51]⟩ (by unfold Fits; omega) (by unfold Fits; omega) ⟨by kernel_rfl, by kernel_rfl⟩ _) ?_
    rintro e y8 ⟨rfl, hb⟩
    replace hI := hI.call hb
    clear hb
    go_wp2_with fail
    refine Calls.mono (exFit _ ⟨#[48]⟩ ⟨#[49]⟩ ⟨#[50]⟩ ⟨#[51]⟩ false (by kernel_rfl) _ (hI.bl.env hE) (exS1 (hI.bl.blks _ (.tail _ (.tail _ (.tail _ (.tail _ (.tail _ (.tail _ (.tail _ (.tail _ (.tail _ (.tail _ (.tail _ (.tail _ (.head _)))))))))))))))) ?_
    rintro e y9 ⟨rfl, hb⟩
    replace hI := hI.call hb
    clear hb
    go_wp2
    go_ret
    exact ⟨rfl, hI.bl.below⟩

end Go.Proofs.YtebokdboodgkpaaGreatDoor
