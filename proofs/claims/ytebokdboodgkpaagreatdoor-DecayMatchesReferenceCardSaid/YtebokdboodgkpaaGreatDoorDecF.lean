/- package decay: best. -/
import Derived.Test.YtebokdboodgkpaaGreatDoorDecE
import Derived.Test.YtebokdboodgkpaaGreatDoorPkA
namespace Go.Proofs.YtebokdboodgkpaaGreatDoor
open Go.RowKit Go.Shelf
open DecM (Dt gd gd_lt gd_mem okF okD Ln fitting lns prs four stepB bst sg)
attribute [local go_sem] Oper.semAt_some


theorem oC_shape (o : Option Ln) : ∃ a b c d : Int, oC o = #[.int .i64 a, .int .i64 b, .int .i64 c, .int .i64 d] := by
  cases o with
  | none => exact ⟨_, _, _, _, rfl⟩
  | some x => exact ⟨_, _, _, _, rfl⟩
theorem bst_snoc (m : Ln → Int) (L : List Ln) (x : Ln) : bst m (L ++ [x]) = if isB m (bst m L) x then some x else bst m L := by
  rw [← stepB_is]; unfold bst; rw [List.foldl_append]; rfl
/-- What a round of best leaves. -/
structure BI (W0 : World) (B0 B1 B2 B3 gm : Nat) (lbm : Array Value) (o : Option Ln) (W : World) : Prop where
  m : Blk W B0 #[.func (.func gm) #[] lbm] 66
  r : Blk W B1 #[.int .i64 0, .int .i64 0, .int .i64 0, .int .i64 0] 63
  o : Blk W B2 (oC o) 63
  i : Blk W B3 #[.func (.func 59) #[] #[.pointer (some ⟨B2, 0, none⟩), .pointer (some ⟨B0, 0, none⟩)]] 82
  only : Only [B2] W0 W
theorem CellsKept.blk {W W' : World} (h : CellsKept W W') {B : Nat} {cs : Array Value} {t : TypeId} (hb : Blk W B cs t) : Blk W' B cs t := h.2 B _ hb rfl
theorem BI.cells {W0 : World} {B0 B1 B2 B3 gm : Nat} {lbm : Array Value} {o : Option Ln} {W W' : World} (h : BI W0 B0 B1 B2 B3 gm lbm o W) (k : CellsKept W W') (ho : Only [B2] W0 W') : BI W0 B0 B1 B2 B3 gm lbm o W' :=
  ⟨k.blk h.m, k.blk h.r, k.blk h.o, k.blk h.i, ho⟩
theorem bst_ok {ds : List Dt} (hok : okD ds = true) {m : Ln → Int} {pre : List (FLn ds)} {y : Ln} (h : bst m (pre.map (·.1)) = some y) : LnOk y ∧ y.t < y.u := by
  have hf : ∀ x ∈ pre.map (·.1), x ∈ fitting ds := fun x hx => by
    obtain ⟨z, _, rfl⟩ := List.mem_map.1 hx
    exact z.2
  have hm := (DecM.bst_some (fun x hx => (DecM.fitting_fit (DecM.okD_good hok) (hf x hx)).1) h).1
  exact ⟨lnOk_fit hok (hf y hm), (DecM.fitting_fit (DecM.okD_good hok) (hf y hm)).1⟩
theorem isd_any (m : Ln → Int) (o : Option Ln) (x : Ln) (Bo Bm gm : Nat) (lbm : Array Value) (hx : LnOk x) (ho : ∀ y, o = some y → LnOk y ∧ y.t < y.u) (w : World) (hM : Meas w gm lbm m) (k1 : Blk w Bo (oC o) 63) (k2 : Blk w Bm #[.func (.func gm) #[] lbm] 66) :
    Calls Tryz.prog 59 #[.agg #[.int .i64 x.t, .int .i64 x.v, .int .i64 x.u, .int .i64 x.w], .pointer (some ⟨Bo, 0, none⟩), .pointer (some ⟨Bm, 0, none⟩)] w (Rets w (.bool (isB m o x))) := by
  cases o with
  | none => exact is_none x Bo Bm gm lbm w k1 k2
  | some y => exact is_some m y x Bo Bm gm lbm hx (ho y rfl).1 (ho y rfl).2 w hM k1 k2
theorem kpc_only {S : List Nat} {W W' : World} (h : Only S W W') : KpC S W W' := ⟨h.size, fun k _ hs hk _ => (h.block k (Array.getElem?_eq_some_iff.1 hk).1 hs).trans hk⟩
theorem BI.call {W0 : World} {B0 B1 B2 B3 gm : Nat} {lbm : Array Value} {o : Option Ln} {W W' : World} (h : BI W0 B0 B1 B2 B3 gm lbm o W) (hb : Below W.heap.size W W') : BI W0 B0 B1 B2 B3 gm lbm o W' :=
  ⟨h.m.below hb, h.r.below hb, h.o.below hb, h.i.below hb, h.only.below hb⟩

set_option maxRecDepth 100000 in
set_option maxHeartbeats 16000000 in
/-- decay.best. -/
theorem best_any (v : Value) (ds : List Dt) (m : Ln → Int) (gm : Nat) (lbm : Array Value) (hok : okD ds = true) (w : World) (h : SlD w v ds) (hM : Meas w gm lbm m) :
    Calls Tryz.prog 35 #[v, .func (.func gm) #[] lbm] w (Rets w (.agg (oC (bst m (fitting ds))))) := by
  obtain ⟨U0, e0, S0, z0⟩ := (BL.start w).add' #[.func (.func gm) #[] lbm] 66
  obtain ⟨U1, e1, S1, z1⟩ := S0.add' #[.int .i64 0, .int .i64 0, .int .i64 0, .int .i64 0] 63
  obtain ⟨U2, e2, S2, z2⟩ := S1.add' #[.int .i64 0, .int .i64 0, .int .i64 0, .int .i64 0] 63
  rw [z0] at S1
  rw [z1, z0] at S2
  obtain ⟨U3, e3, S3, z3⟩ := S2.add' #[.func (.func 59) #[] #[.pointer (some ⟨w.heap.size + 1 + 1, 0, none⟩), .pointer (some ⟨w.heap.size, 0, none⟩)]] 82
  obtain ⟨U4, e4, S4, z4⟩ := S3.add' #[v] 25
  rw [z2, z1, z0] at S3
  rw [z3, z2, z1, z0] at S4
  have hV : U4 = ((((w.alloc (.cells #[.func (.func gm) #[] lbm] 66)).alloc (.cells #[.int .i64 0, .int .i64 0, .int .i64 0, .int .i64 0] 63)).alloc (.cells #[.int .i64 0, .int .i64 0, .int .i64 0, .int .i64 0] 63)).alloc (.cells #[.func (.func 59) #[] #[.pointer (some ⟨w.heap.size + 1 + 1, 0, none⟩), .pointer (some ⟨w.heap.size, 0, none⟩)]] 82)).alloc (.cells #[v] 25) := by rw [e4, e3, e2, e1, e0]
  rw [z3, z2, z1, z0] at z4
  clear e0 e1 e2 e3 e4 z0 z1 z2 z3 S0 S1 S2 S3
  have hv0 := h.below S4.below
  have hvp : ∀ b o, v.ptr? = some (b, o) → b < w.heap.size := fun b o e => by
    rcases h with ⟨rfl, _⟩ | ⟨b', off, cap, rfl, _, _, h3, _⟩
    · cases e
    · cases e; exact h3
  have hb4 := S4.below
  have k0 := S4.blks _ (.tail _ (.tail _ (.tail _ (.tail _ (.head _)))))
  have k1 := S4.blks _ (.tail _ (.tail _ (.tail _ (.head _))))
  have k2 := S4.blks _ (.tail _ (.tail _ (.head _)))
  have k3 := S4.blks _ (.tail _ (.head _))
  have k4 := S4.blks _ (.head _)
  dsimp only at k0 k1 k2 k3 k4
  obtain ⟨a1, c1, rfl⟩ := h.shape
  clear h S4
  refine (callsIn_wide (n := 5)).1 ?_
  refine callsIn_of_wp_marks Tryz.func35 rfl trivial ?_ rfl
  simp only [Tryz.ntmps35, List.size_toArray, List.length_cons, List.length_nil, Nat.reduceAdd, Nat.reduceSub, Array.replicate_succ, Array.replicate_zero, List.push_toArray, List.append_toArray, List.nil_append, List.cons_append]
  gi_wp2_with (refine ⟨trivial, ?_⟩; gi_at_call 60; refine (lines_in _ _ ⟨_, _, _, rfl⟩).mono ?_; rintro e w' ⟨rfl, rfl⟩)
  rw [← hV]
  clear hV
  have hlt2 : w.heap.size + 1 + 1 < U4.heap.size := by omega
  refine wpIn_rangeFunc_ownH (F := Fence.wide) (n := 5) (gf := 86) (lb := #[.pointer (some ⟨w.heap.size + 1 + 1 + 1 + 1, 0, none⟩)]) (N := (fitting ds).length) rfl (by decide) rfl trivial (Go.Proofs.enters_of Tryz.func86 (by kernel_rfl) rfl)
    (lines_stops (w.heap.size + 1 + 1 + 1 + 1) [w.heap.size + 1 + 1] _ ds U4 hok (by simp; omega) (by simp; omega) (k4.cell 0) hv0 (fun b o e => by have := hvp b o e; simp; omega)) (fun h k => h.trans k) (fun W l o o' _ hl ho _ => KpC.putObj o' hl ho) (Below.refl _ _) (fun _ => rfl)
    (fun pre W => BI U4 w.heap.size (w.heap.size + 1) (w.heap.size + 1 + 1) (w.heap.size + 1 + 1 + 1) gm lbm (bst m (pre.map (·.1))) W) (fun _ _ _ => False)
    (fun s A B row hs hg hr => hs.cells (cellsKept_of_grown hg (fun r e => (hr r e).2)) (only_ownFrom (S := [w.heap.size + 1 + 1]) (w := U4) s A B row hs.only hg hr)) (fun _ _ _ _ _ hs _ _ => hs)
    ⟨k0, k1, k2, k3, Only.refl _ _⟩
    (fun x a' W => ∃ Bx, U4.heap.size ≤ Bx ∧ Blk W Bx #[.int .i64 x.1.t, .int .i64 x.1.v, .int .i64 x.1.u, .int .i64 x.1.w] 63 ∧ a' = { tmps := #[.slice a1 ds.length c1, .func (.func gm) #[] lbm, undef, .pointer (some ⟨w.heap.size, 0, none⟩), .pointer (some ⟨w.heap.size + 1, 0, none⟩), .pointer (some ⟨w.heap.size + 1 + 1, 0, none⟩), .pointer (some ⟨w.heap.size + 1 + 1 + 1, 0, none⟩), .pointer (some ⟨Bx, 0, none⟩),
      .func (.func 59) #[] #[.pointer (some ⟨w.heap.size + 1 + 1, 0, none⟩), .pointer (some ⟨w.heap.size, 0, none⟩)], .slice a1 ds.length c1, .func (.func 86) #[] #[.pointer (some ⟨w.heap.size + 1 + 1 + 1 + 1, 0, none⟩)], .agg #[.int .i64 x.1.t, .int .i64 x.1.v, .int .i64 x.1.u, .int .i64 x.1.w], undef, undef, undef, undef, undef], defers := [] })
    (fun x a' u A B row ⟨Bx, h1, h2, h3⟩ hg hr => ⟨Bx, h1, (cellsKept_of_grown hg (fun r e => (hr r e).2)).blk h2, h3⟩) ?assign ?body ?done ?stop
  case assign =>
    intro l pre x W K hi hK
    unfold flV
    gi_wp2
    exact hK _ _ ((KeepsOthers.alloc _ _).from _) (KpC.of_below (kb_new (Below.refl _ _) _)) (hi.call (kb_new (Below.refl _ _) _)) ⟨W.heap.size, hi.only.size, Blk.new _ _ _, rfl⟩
  case body =>
    rintro l pre x a' W hl ⟨r, hr⟩ hi ⟨Bx, hBx, kx, rfl⟩ hlen
    clear k0 k1 k2 k3 k4 hr hl hlen
    have hMW := hM.below (hb4.trans (hi.only.toBelow hb4.size (by simp; omega)))
    have IS := isd_any m (bst m (pre.map (·.1))) x.1 (w.heap.size + 1 + 1) w.heap.size gm lbm (lnOk_fit hok x.2) (fun y hy => bst_ok hok hy) W hMW hi.o hi.m
    have x0 := kx.cell 0
    have x1 := kx.cell 1
    have x2 := kx.cell 2
    have x3 := kx.cell 3
    have i0 := hi.i.cell 0
    simp only [List.getElem?_toArray, List.getElem?_cons_zero, List.getElem?_cons_succ] at x0 x1 x2 x3 i0
    cases hb : isB m (bst m (pre.map (·.1))) x.1 with
    | false =>
      rw [hb] at IS
      have IS := Lib.hid IS
      gi_wp2_with (refine ⟨trivial, ?_⟩; gi_at_call 59; refine (CallsIn.inRound l (callsIn_wide.2 IS.out)).mono ?_; rintro e w' ⟨rfl, hb'⟩)
      refine ⟨(KeepsOthers.of_grownBy (below_grownBy hb') (fun j o e => by cases e)).from _, KpC.of_below hb', ?_⟩
      show BI U4 w.heap.size (w.heap.size + 1) (w.heap.size + 1 + 1) (w.heap.size + 1 + 1 + 1) gm lbm (bst m (List.map (·.1) (pre ++ [x]))) w'
      rw [List.map_append, List.map_cons, List.map_nil, bst_snoc, hb, if_neg (by decide)]
      exact hi.call hb'
    | true =>
      rw [hb] at IS
      have IS := Lib.hid IS
      obtain ⟨a, b, c, d, hoc⟩ := oC_shape (bst m (pre.map (·.1)))
      gi_wp2_with (refine ⟨trivial, ?_⟩; gi_at_call 59; refine (CallsIn.inRound l (callsIn_wide.2 IS.out)).mono ?_; rintro e w' ⟨rfl, hb'⟩; have hi' := hi.call hb'; have kx' := kx.below hb'; have ko := hi'.o; rw [hoc] at ko; have y0 := kx'.cell 0; have y1 := kx'.cell 1; have y2 := kx'.cell 2; have y3 := kx'.cell 3; have o0 := ko.cell 0; have o1 := ko.cell 1; have o2 := ko.cell 2; have o3 := ko.cell 3; have f0 := ko.frozen 0; have f1 := ko.frozen 1; have f2 := ko.frozen 2; have f3 := ko.frozen 3; simp only [List.getElem?_toArray, List.getElem?_cons_zero, List.getElem?_cons_succ] at y0 y1 y2 y3 o0 o1 o2 o3)
      have ho := (((((Only.refl [w.heap.size + 1 + 1] w').setCell (p := ⟨w.heap.size + 1 + 1, 0, none⟩) (by simp) (.int .i64 x.1.t)).setCell (p := ⟨w.heap.size + 1 + 1, 1, none⟩) (by simp) (.int .i64 x.1.v)).setCell (p := ⟨w.heap.size + 1 + 1, 2, none⟩) (by simp) (.int .i64 x.1.u)).setCell (p := ⟨w.heap.size + 1 + 1, 3, none⟩) (by simp) (.int .i64 x.1.w))
      have kn := ((((ko.set 0 (.int .i64 x.1.t)).set 1 (.int .i64 x.1.v)).set 2 (.int .i64 x.1.u)).set 3 (.int .i64 x.1.w))
      simp only [List.setIfInBounds_toArray, List.set_cons_zero, List.set_cons_succ] at kn
      have hpre : bst m (List.map (·.1) (pre ++ [x])) = some x.1 := by rw [List.map_append, List.map_cons, List.map_nil, bst_snoc, hb, if_pos rfl]
      have hI : BI U4 w.heap.size (w.heap.size + 1) (w.heap.size + 1 + 1) (w.heap.size + 1 + 1 + 1) gm lbm (bst m (List.map (·.1) (pre ++ [x]))) ((((w'.setCell ⟨w.heap.size + 1 + 1, 0, none⟩ (.int .i64 x.1.t)).setCell ⟨w.heap.size + 1 + 1, 1, none⟩ (.int .i64 x.1.v)).setCell ⟨w.heap.size + 1 + 1, 2, none⟩ (.int .i64 x.1.u)).setCell ⟨w.heap.size + 1 + 1, 3, none⟩ (.int .i64 x.1.w)) := by
        rw [hpre]
        exact ⟨hi'.m.only ho (by simp <;> omega), hi'.r.only ho (by simp <;> omega), kn, hi'.i.only ho (by simp <;> omega), hi'.only.trans ho⟩
      refine ⟨(((KeepsOthers.of_grownBy (below_grownBy hb') (fun j o e => by cases e)).trans ((((KeepsOthers.setCell _ _ _).trans (KeepsOthers.setCell _ _ _)).trans (KeepsOthers.setCell _ _ _)).trans (KeepsOthers.setCell _ _ _))).from _), (KpC.of_below hb').trans (kpc_only ho), hI⟩
  case done =>
    rintro D xs W hD hxs hi hK
    rw [hxs] at hi
    obtain ⟨a, b, c, d, hoc⟩ := oC_shape (bst m (fitting ds))
    have ko := hi.o
    rw [hoc] at ko
    have o0 := ko.cell 0
    have o1 := ko.cell 1
    have o2 := ko.cell 2
    have o3 := ko.cell 3
    have r0 := hi.r.cell 0
    have r1 := hi.r.cell 1
    have r2 := hi.r.cell 2
    have r3 := hi.r.cell 3
    have f0 := hi.r.frozen 0
    have f1 := hi.r.frozen 1
    have f2 := hi.r.frozen 2
    have f3 := hi.r.frozen 3
    simp only [List.getElem?_toArray, List.getElem?_cons_zero, List.getElem?_cons_succ] at o0 o1 o2 o3 r0 r1 r2 r3
    gi_wp2
    have kr := ((((hi.r.set 0 (.int .i64 a)).set 1 (.int .i64 b)).set 2 (.int .i64 c)).set 3 (.int .i64 d))
    simp only [List.setIfInBounds_toArray, List.set_cons_zero, List.set_cons_succ] at kr
    have ho := (((((hi.only.mono (T := [w.heap.size + 1, w.heap.size + 1 + 1]) (by simp)).setCell (p := ⟨w.heap.size + 1, 0, none⟩) (by simp) (.int .i64 a)).setCell (p := ⟨w.heap.size + 1, 1, none⟩) (by simp) (.int .i64 b)).setCell (p := ⟨w.heap.size + 1, 2, none⟩) (by simp) (.int .i64 c)).setCell (p := ⟨w.heap.size + 1, 3, none⟩) (by simp) (.int .i64 d))
    have hK' := ((((KeepsOthers.setCell W ⟨w.heap.size + 1, 0, none⟩ (.int .i64 a)).trans (KeepsOthers.setCell _ ⟨w.heap.size + 1, 1, none⟩ (.int .i64 b))).trans (KeepsOthers.setCell _ ⟨w.heap.size + 1, 2, none⟩ (.int .i64 c))).trans (KeepsOthers.setCell _ ⟨w.heap.size + 1, 3, none⟩ (.int .i64 d))).same D _ hK rfl
    have kf := (CellsKept.putObj (.deferred none) hK' rfl).blk kr
    have q0 := kf.cell 0
    have q1 := kf.cell 1
    have q2 := kf.cell 2
    have q3 := kf.cell 3
    simp only [List.getElem?_toArray, List.getElem?_cons_zero, List.getElem?_cons_succ] at q0 q1 q2 q3
    exact ret_marked hK' (v := .agg #[.int .i64 a, .int .i64 b, .int .i64 c, .int .i64 d]) (by simp [results, Tryz.results35, go_sem, q0, q1, q2, q3])
      ⟨by rw [hoc], hb4.trans ((ho.putObj hD _).toBelow hb4.size (by simp; omega))⟩
  case stop =>
    rintro D c pre W hD _ h
    exact h.elim

end Go.Proofs.YtebokdboodgkpaaGreatDoor
