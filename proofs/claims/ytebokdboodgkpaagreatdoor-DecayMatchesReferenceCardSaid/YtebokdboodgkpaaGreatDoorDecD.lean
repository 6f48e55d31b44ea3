/- package decay: the iterator over the lines through two corners that fit. -/
import Derived.Test.YtebokdboodgkpaaGreatDoorDecC
import Derived.Test.YtebokdboodgkpaaGreatDoorPkA
namespace Go.Proofs.YtebokdboodgkpaaGreatDoor
open Go.RowKit Go.Shelf
open DecM (Dt gd gd_lt gd_mem okF okD Ln fitting lns prs four)
attribute [local go_sem] Oper.semAt_some

/-- What held cells and is not in S holds the same cells. -/
def KpC (S : List Nat) (W W' : World) : Prop := W.heap.size ≤ W'.heap.size ∧ ∀ (k : Nat) (o : Obj), k ∉ S → W.heap[k]? = some o → o.isCells = true → W'.heap[k]? = some o
theorem KpC.refl (S : List Nat) (W : World) : KpC S W W := ⟨Nat.le_refl _, fun _ _ _ h _ => h⟩
theorem KpC.trans {S : List Nat} {A B C : World} (h : KpC S A B) (k : KpC S B C) : KpC S A C := ⟨Nat.le_trans h.1 k.1, fun i o hs hi ho => k.2 i o hs (h.2 i o hs hi ho) ho⟩
theorem KpC.of_below {S : List Nat} {W W' : World} (hb : Below W.heap.size W W') : KpC S W W' := ⟨hb.size, fun k _ _ hk _ => (hb.block k (Array.getElem?_eq_some_iff.1 hk).1).trans hk⟩
theorem KpC.putObj {S : List Nat} {W : World} {l : Nat} {o : Obj} (o' : Obj) (hl : W.heap[l]? = some o) (ho : o.isCells = false) : KpC S W (W.putObj l o') :=
  ⟨by simp [World.putObj], fun k u _ hk hu => by
    by_cases e : k = l
    · subst e; rw [hl] at hk; cases hk; rw [ho] at hu; cases hu
    · rw [World.putObj_heap_other e]; exact hk⟩
theorem KpC.blk {S : List Nat} {W W' : World} (h : KpC S W W') {B : Nat} {cs : Array Value} {t : TypeId} (hb : Blk W B cs t) (hs : B ∉ S) : Blk W' B cs t := h.2 B _ hs hb rfl
theorem KpC.cell {S : List Nat} {W W' : World} (h : KpC S W W') {p : Addr} {v : Value} (hc : W.cell? p = some v) (hs : p.block ∉ S) : W'.cell? p = some v := by
  obtain ⟨o, ho, hi⟩ := cells_of_cell hc
  exact (World.cell?_of_block ((h.2 _ _ hs ho hi).trans ho.symm)).trans hc
theorem KpC.dcell {S : List Nat} {W W' : World} (h : KpC S W W') {b o : Nat} {p : Dt} (hc : DCell W b o p) (hs : b ∉ S) : DCell W' b o p := ⟨h.cell hc.1 hs, h.cell hc.2.1 hs, h.cell hc.2.2 hs⟩

/-- A line that fits. -/
abbrev FLn (ds : List Dt) := { x : Ln // x ∈ fitting ds }
def flV {ds : List Dt} (x : FLn ds) : Array Value := #[.agg #[.int .i64 x.1.t, .int .i64 x.1.v, .int .i64 x.1.u, .int .i64 x.1.w]]
theorem lns_step {ds : List Dt} {i : Nat} (h : i < ds.length) : lns (ds.drop i) = ((ds.drop (i + 1)).map (fun q => (gd ds i, q))).flatMap (fun x => four x.1 x.2) ++ lns (ds.drop (i + 1)) := by
  unfold lns; rw [drop_gd h, prs, List.flatMap_append]
theorem row_step {ds : List Dt} {p : Dt} {j : Nat} (h : j < ds.length) : ((ds.drop j).map (fun q => (p, q))).flatMap (fun x => four x.1 x.2) = four p (gd ds j) ++ ((ds.drop (j + 1)).map (fun q => (p, q))).flatMap (fun x => four x.1 x.2) := by
  rw [drop_gd h]; simp
theorem lnOk_four {p q : Dt} (hp : DtOk p) (hq : DtOk q) {x : Ln} (hx : x ∈ four p q) : LnOk x := by
  simp only [four, List.mem_cons, List.not_mem_nil, or_false] at hx
  rcases hx with rfl | rfl | rfl | rfl
  · exact ⟨hp.t, hq.t, hp.lo, hq.lo⟩
  · exact ⟨hp.t, hq.t, hp.lo, hq.hi⟩
  · exact ⟨hp.t, hq.t, hp.hi, hq.lo⟩
  · exact ⟨hp.t, hq.t, hp.hi, hq.hi⟩
theorem lnOk_fit {ds : List Dt} (h : okD ds = true) {x : Ln} (hx : x ∈ fitting ds) : LnOk x := by
  have hx := (List.mem_filter.1 hx).1
  unfold lns at hx
  obtain ⟨y, hy, hx⟩ := List.mem_flatMap.1 hx
  obtain ⟨h1, h2, _⟩ := (DecM.mem_prs (DecM.okD_good h) (p := y.1) (q := y.2)).1 hy
  exact lnOk_four (dtOk_of h h1) (dtOk_of h h2) hx

/-- The data lie in the world, and the box of their slice. -/
structure Dat (Bs b off cap : Nat) (ds : List Dt) (W : World) : Prop where
  box : W.cell? ⟨Bs, 0, none⟩ = some (.slice (some ⟨b, off, none⟩) ds.length cap)
  lt : b < W.heap.size
  cells : ∀ j, j < ds.length → DCell W b (off + j * 3) (gd ds j)
theorem Dat.below {Bs b off cap : Nat} {ds : List Dt} {W W' : World} (h : Dat Bs b off cap ds W) (hb : Below W.heap.size W W') : Dat Bs b off cap ds W' :=
  ⟨(hb.cell (p := ⟨Bs, 0, none⟩) (World.block_lt_of_cell? W _ h.box)).trans h.box, Nat.lt_of_lt_of_le h.lt hb.size, fun j hj => (h.cells j hj).below hb h.lt⟩
theorem Dat.kpc {S : List Nat} {Bs b off cap : Nat} {ds : List Dt} {W W' : World} (h : Dat Bs b off cap ds W) (hk : KpC S W W') (h1 : Bs ∉ S) (h2 : b ∉ S) : Dat Bs b off cap ds W' :=
  ⟨hk.cell h.box h1, Nat.lt_of_lt_of_le h.lt hk.1, fun j hj => hk.dcell (h.cells j hj) h2⟩
theorem Dat.sl {Bs b off cap : Nat} {ds : List Dt} {W : World} (h : Dat Bs b off cap ds W) (h1 : ds.length ≤ cap) (h2 : cap ≤ maxLen) : SlD W (.slice (some ⟨b, off, none⟩) ds.length cap) ds := .inr ⟨b, off, cap, rfl, h1, h2, h.lt, h.cells⟩

set_option maxRecDepth 100000 in
set_option maxHeartbeats 8000000 in
theorem lines1_in (l : Nat) (Bs b off cap : Nat) (ds : List Dt) (S : List Nat) (hok : okD ds = true) (h1 : ds.length ≤ cap) (h2 : cap ≤ maxLen) (hs1 : Bs ∉ S) (hs2 : b ∉ S) (J Jx : List (FLn ds) → World → Prop)
    (W : World) (hS : ∀ k ∈ S, k < W.heap.size) (hJ : AbidesFrom W.heap.size J)
    (hY : ∀ pre x W, J pre W → pre.length < (fitting ds).length → YieldAt Fence.wide 3 Tryz.prog l (flV x) W fun e W' =>
      (e = .returned (.bool true) ∧ J (pre ++ [x]) W' ∧ KpC S W W') ∨ (e = .returned (.bool false) ∧ Jx (pre ++ [x]) W'))
    (hD : Dat Bs b off cap ds W) (h0 : J [] W) :
    CallsIn Fence.wide 4 Tryz.prog 86 #[.func (.yield l) #[] #[], .pointer (some ⟨Bs, 0, none⟩)] W fun e W' => (∃ v, e = .returned v) ∧
      ((∃ ys : List (FLn ds), ys.map (·.1) = fitting ds ∧ J ys W') ∨ (∃ pre, True ∧ Jx pre W')) := by
  have hl : ds.length ≤ 16 := (DecM.okD_iff.1 hok).2.2
  unfold maxLen at h2
  refine callsIn_of_wp Tryz.func86 rfl trivial ?_ rfl
  simp only [Tryz.ntmps86, List.size_toArray, List.length_cons, List.length_nil, Nat.reduceAdd, Nat.reduceSub, Array.replicate_succ, Array.replicate_zero, List.push_toArray, List.append_toArray, List.nil_append, List.cons_append]
  have hbx := hD.box
  gi_wp2
  gi_loopw [11] (fun i wr => ∃ (k : Nat) (pre : List (FLn ds)), i = .int .i64 k ∧ k ≤ ds.length ∧ W.heap.size ≤ wr.heap.size ∧ J pre wr ∧ Hid (pre.map (·.1) ++ (lns (ds.drop k)).filter (fun x => x.fits ds) = fitting ds) ∧ Dat Bs b off cap ds wr)
    (fun i _ => ds.length - (intOf i).toNat)
  case atStart => exact ⟨0, [], rfl, by omega, Nat.le_refl _, h0, rfl, hD⟩
  case round =>
    clear hbx hD h0
    obtain ⟨k, pre, rfl, hk, hle, hJs, hpre, hD⟩ := hrel
    by_cases hkl : k < ds.length
    · obtain ⟨c0, c1, c2⟩ := hD.cells k hkl
      have hbx := hD.box
      have hp := dtOk_of hok (gd_mem hkl)
      replace hpre := Lib.hid (hpre.out.symm.trans (by rw [lns_step hkl])).symm
      generalize gd ds k = p at *
      have kp := Blk.new wr #[.int .i64 p.t, .int .i64 p.lo, .int .i64 p.hi] 58
      have hb1 := kb_new (Below.refl wr.heap.size wr) (.cells #[.int .i64 p.t, .int .i64 p.lo, .int .i64 p.hi] 58)
      have hD1 := hD.below hb1
      have hJ1 := hJ _ _ _ _ hJs (below_grownBy hb1) (fun r e => by cases e)
      have hbx1 := hD1.box
      have hw1 : W.heap.size ≤ (wr.alloc (.cells #[.int .i64 p.t, .int .i64 p.lo, .int .i64 p.hi] 58)).heap.size := Nat.le_trans hle hb1.size
      by_cases hcap : cap = k + 1
      · have hkn : ds.length = k + 1 := by omega
        rw [List.drop_eq_nil_of_le (by omega)] at hpre
        obtain ⟨V, hV⟩ : ∃ V, V = wr.alloc (.cells #[.int .i64 p.t, .int .i64 p.lo, .int .i64 p.hi] 58) := ⟨_, rfl⟩
        gi_wp2
        rw [← hV] at kp hD1 hJ1 hw1 ⊢
        clear hV hbx1 hb1
        gi_loopw [21] (fun i wr' => i = .int .i64 0 ∧ wr' = V) (fun _ _ => 0)
        case atStart => exact ⟨rfl, rfl⟩
        case round =>
          obtain ⟨rfl, rfl⟩ := hrel
          gi_wp2
          go_roundw
          case rel => exact ⟨k + 1, pre, by go_num, by omega, hw1, hJ1, by rw [List.drop_eq_nil_of_le (by omega)]; exact hpre, hD1⟩
          case measure => simp [intOf]; omega
      · obtain ⟨V, hV⟩ : ∃ V, V = wr.alloc (.cells #[.int .i64 p.t, .int .i64 p.lo, .int .i64 p.hi] 58) := ⟨_, rfl⟩
        gi_wp2
        rw [← hV] at kp hD1 hJ1 hw1 ⊢
        clear hV hbx1 hb1 hbx c0 c1 c2 hD hJs
        have hpS : wr.heap.size ∉ S := fun h => by have := hS _ h; omega
        clear hle
        generalize wr.heap.size = Bp at *
        gi_loopw [21] (fun i wr' => ∃ (j : Nat) (pre : List (FLn ds)), i = .int .i64 j ∧ j ≤ ds.length - (k + 1) ∧ W.heap.size ≤ wr'.heap.size ∧ J pre wr' ∧ Hid (pre.map (·.1) ++ (((ds.drop (k + 1 + j)).map (fun q => (p, q))).flatMap (fun x => four x.1 x.2) ++ lns (ds.drop (k + 1))).filter (fun x => x.fits ds) = fitting ds) ∧ Dat Bs b off cap ds wr' ∧ Blk wr' Bp #[.int .i64 p.t, .int .i64 p.lo, .int .i64 p.hi] 58)
          (fun i _ => ds.length - (k + 1) - (intOf i).toNat)
        case atStart => exact ⟨0, pre, rfl, by omega, hw1, hJ1, hpre, hD1, kp⟩
        case round =>
          clear kp hD1 hJ1 hw1 hpre
          obtain ⟨j, pre, rfl, hj, hle, hJs, hpre, hD, kp⟩ := hrel
          by_cases hjl : j < ds.length - (k + 1)
          · have hjn : k + 1 + j < ds.length := by omega
            have hdc := hD.cells (k + 1 + j) hjn
            rw [show off + (k + 1 + j) * 3 = off + (k + 1) * 3 + j * 3 by omega] at hdc
            obtain ⟨d0, d1, d2⟩ := hdc
            have hq := dtOk_of hok (gd_mem hjn)
            replace hpre := Lib.hid (hpre.out.symm.trans (by rw [row_step hjn, List.append_assoc])).symm
            generalize gd ds (k + 1 + j) = q at *
            have hb1 := kb_new (Below.refl wr.heap.size wr) (.cells #[.int .i64 q.t, .int .i64 q.lo, .int .i64 q.hi] 58)
            have kp1 := kp.below hb1
            have p0 := kp1.cell 0
            have p1 := kp1.cell 1
            have p2 := kp1.cell 2
            simp only [List.getElem?_toArray, List.getElem?_cons_zero, List.getElem?_cons_succ] at p0 p1 p2
            have hb2 := kb_new hb1 (.cells #[.int .i64 p.t, .int .i64 p.lo, .int .i64 q.t, .int .i64 q.lo, .int .i64 p.t, .int .i64 p.lo, .int .i64 q.t, .int .i64 q.hi, .int .i64 p.t, .int .i64 p.hi, .int .i64 q.t, .int .i64 q.lo, .int .i64 p.t, .int .i64 p.hi, .int .i64 q.t, .int .i64 q.hi] 63)
            have kl := Blk.new (wr.alloc (.cells #[.int .i64 q.t, .int .i64 q.lo, .int .i64 q.hi] 58)) #[.int .i64 p.t, .int .i64 p.lo, .int .i64 q.t, .int .i64 q.lo, .int .i64 p.t, .int .i64 p.lo, .int .i64 q.t, .int .i64 q.hi, .int .i64 p.t, .int .i64 p.hi, .int .i64 q.t, .int .i64 q.lo, .int .i64 p.t, .int .i64 p.hi, .int .i64 q.t, .int .i64 q.hi] 63
            rw [World.size_alloc] at kl
            obtain ⟨V2, hV2⟩ : ∃ V2, V2 = (wr.alloc (.cells #[.int .i64 q.t, .int .i64 q.lo, .int .i64 q.hi] 58)).alloc (.cells #[.int .i64 p.t, .int .i64 p.lo, .int .i64 q.t, .int .i64 q.lo, .int .i64 p.t, .int .i64 p.lo, .int .i64 q.t, .int .i64 q.hi, .int .i64 p.t, .int .i64 p.hi, .int .i64 q.t, .int .i64 q.lo, .int .i64 p.t, .int .i64 p.hi, .int .i64 q.t, .int .i64 q.hi] 63) := ⟨_, rfl⟩
            gi_wp2
            rw [← hV2] at kl hb2 ⊢
            have hD2 := hD.below hb2
            have hJ2 := hJ _ _ _ _ hJs (below_grownBy hb2) (fun r e => by cases e)
            have hle2 := Nat.le_trans hle hb2.size
            have kp2 := kp.below hb2
            clear hV2 hb1 hb2 kp1 p0 p1 p2 d0 d1 d2 hD hJs kp
            obtain ⟨Bl, hBl⟩ : ∃ Bl, Bl = wr.heap.size + 1 := ⟨_, rfl⟩
            rw [← hBl] at kl ⊢
            have hlS : Bl ∉ S := fun h => by have := hS _ h; omega
            clear hBl hle
            obtain ⟨R, hR⟩ : ∃ R, R = (((ds.drop (k + 1 + j + 1)).map (fun q => (p, q))).flatMap (fun x => four x.1 x.2) ++ lns (ds.drop (k + 1))) := ⟨_, rfl⟩
            rw [← hR] at hpre
            replace hR := Lib.hid hR
            gi_loopw [63] (fun i wr' => ∃ (m : Nat) (pre : List (FLn ds)), i = .int .i64 m ∧ m ≤ 4 ∧ W.heap.size ≤ wr'.heap.size ∧ J pre wr' ∧ Hid (pre.map (·.1) ++ ((four p q).drop m ++ R).filter (fun x => x.fits ds) = fitting ds) ∧ Dat Bs b off cap ds wr' ∧ Blk wr' Bp #[.int .i64 p.t, .int .i64 p.lo, .int .i64 p.hi] 58 ∧ Blk wr' Bl #[.int .i64 p.t, .int .i64 p.lo, .int .i64 q.t, .int .i64 q.lo, .int .i64 p.t, .int .i64 p.lo, .int .i64 q.t, .int .i64 q.hi, .int .i64 p.t, .int .i64 p.hi, .int .i64 q.t, .int .i64 q.lo, .int .i64 p.t, .int .i64 p.hi, .int .i64 q.t, .int .i64 q.hi] 63)
              (fun i _ => 4 - (intOf i).toNat)
            case atStart => exact ⟨0, pre, rfl, by omega, hle2, hJ2, hpre, hD2, kp2, kl⟩
            case round =>
              clear kl kp2 hD2 hJ2 hle2 hpre
              obtain ⟨m, pre, rfl, hm, hle, hJs, hpre, hD, kp, kl⟩ := hrel
              by_cases hm4 : m < 4
              · have hcl : ∃ x : Ln, (four p q).drop m = x :: (four p q).drop (m + 1) ∧ x ∈ four p q ∧ wr.cell? ⟨Bl, m * 4, none⟩ = some (.int .i64 x.t) ∧ wr.cell? ⟨Bl, m * 4 + 1, none⟩ = some (.int .i64 x.v) ∧ wr.cell? ⟨Bl, m * 4 + 2, none⟩ = some (.int .i64 x.u) ∧ wr.cell? ⟨Bl, m * 4 + 3, none⟩ = some (.int .i64 x.w) := by
                  match m, hm4 with
                  | 0, _ => exact ⟨⟨p.t, p.lo, q.t, q.lo⟩, rfl, by simp [four], kl.cell 0, kl.cell 1, kl.cell 2, kl.cell 3⟩
                  | 1, _ => exact ⟨⟨p.t, p.lo, q.t, q.hi⟩, rfl, by simp [four], kl.cell 4, kl.cell 5, kl.cell 6, kl.cell 7⟩
                  | 2, _ => exact ⟨⟨p.t, p.hi, q.t, q.lo⟩, rfl, by simp [four], kl.cell 8, kl.cell 9, kl.cell 10, kl.cell 11⟩
                  | 3, _ => exact ⟨⟨p.t, p.hi, q.t, q.hi⟩, rfl, by simp [four], kl.cell 12, kl.cell 13, kl.cell 14, kl.cell 15⟩
                obtain ⟨x, hx1, hx2, l0, l1, l2, l3⟩ := hcl
                have hlx := lnOk_four hp hq hx2
                have hb3 := kb_new (Below.refl wr.heap.size wr) (.cells #[.int .i64 x.t, .int .i64 x.v, .int .i64 x.u, .int .i64 x.w] 63)
                have kx := Blk.new wr #[.int .i64 x.t, .int .i64 x.v, .int .i64 x.u, .int .i64 x.w] 63
                have hD3 := hD.below hb3
                have hJ3 := hJ _ _ _ _ hJs (below_grownBy hb3) (fun r e => by cases e)
                have hle3 := Nat.le_trans hle hb3.size
                have kp3 := kp.below hb3
                have kl3 := kl.below hb3
                have hbx3 := hD3.box
                have LF := Lib.hid (lfits_any x _ ds hlx (fun d hd => dtOk_of hok hd) _ (hD3.sl h1 h2))
                rw [hx1, List.cons_append, List.filter_cons] at hpre
                cases hf : x.fits ds with
                | false =>
                  rw [hf, if_neg (by decide)] at hpre
                  rw [hf] at LF
                  gi_wp2_with (refine ⟨trivial, ?_⟩; gi_at_call 87; refine (callsIn_wide.2 LF.out).mono ?_; rintro e W4 ⟨rfl, hb4⟩; have hJ4 := hJ _ _ _ _ hJ3 (below_grownBy hb4) (fun r e => by cases e))
                  refine ⟨fun _ h => (by cases h), ?_⟩
                  gi_wp2
                  go_roundw
                  case rel => exact ⟨m + 1, pre, by go_num, by omega, Nat.le_trans hle3 hb4.size, hJ4, hpre, hD3.below hb4, kp3.below hb4, kl3.below hb4⟩
                  case measure => simp [intOf]; omega
                | true =>
                  rw [hf, if_pos rfl] at hpre
                  rw [hf] at LF
                  have xm : x ∈ fitting ds := by rw [← hpre.out]; simp
                  have hlen : pre.length < (fitting ds).length := by rw [← hpre.out]; simp
                  gi_wp2_with (refine ⟨trivial, ?_⟩; gi_at_call 87; refine (callsIn_wide.2 LF.out).mono ?_; rintro e W4 ⟨rfl, hb4⟩; have hJ4 := hJ _ _ _ _ hJ3 (below_grownBy hb4) (fun r e => by cases e); have kx4 := kx.below hb4; have x0 := kx4.cell 0; have x1 := kx4.cell 1; have x2 := kx4.cell 2; have x3 := kx4.cell 3; simp only [List.getElem?_toArray, List.getElem?_cons_zero, List.getElem?_cons_succ] at x0 x1 x2 x3; obtain ⟨fn, tmps, assign, body, hy, hRd⟩ := hY pre ⟨x, xm⟩ W4 hJ4 hlen; dsimp only [flV] at hy)
                  refine hRd.mono ?_
                  rintro e W5 (⟨rfl, hJ5, hk5⟩ | ⟨rfl, hJx5⟩)
                  · gi_wp2
                    go_roundw
                    case rel => exact ⟨m + 1, pre ++ [⟨x, xm⟩], by go_num, by omega, Nat.le_trans (Nat.le_trans hle3 hb4.size) hk5.1, hJ5, Lib.hid (by have := hpre.out; simpa using this), (hD3.below hb4).kpc hk5 hs1 hs2, hk5.blk (kp3.below hb4) hpS, hk5.blk (kl3.below hb4) hlS⟩
                    case measure => simp [intOf]; omega
                  · gi_wp2
                    refine bodyPost_ret (results_none rfl _ _ _) rfl ?_
                    exact ⟨⟨_, rfl⟩, .inr ⟨_, trivial, hJx5⟩⟩
              · gi_wp2
                go_roundw
                case rel => exact ⟨j + 1, pre, by go_num, by omega, hle, hJs, by rw [List.drop_eq_nil_of_le (show (four p q).length ≤ m by simp [four]; omega), List.nil_append, hR.out] at hpre; exact hpre, hD, kp⟩
                case measure => simp [intOf]; omega
          · gi_wp2
            go_roundw
            case rel => exact ⟨k + 1, pre, by go_num, by omega, hle, hJs, by rw [List.drop_eq_nil_of_le (show ds.length ≤ k + 1 + j by omega)] at hpre; exact hpre, hD⟩
            case measure => simp [intOf]; omega
    · gi_wp2
      go_end0
      refine ⟨⟨_, rfl⟩, .inl ⟨pre, ?_, hJs⟩⟩
      have := hpre.out
      rw [List.drop_eq_nil_of_le (by omega)] at this
      simpa [lns, prs] using this

set_option maxRecDepth 100000 in
set_option maxHeartbeats 1000000 in
/-- .. at the nil slice: no round. -/
theorem lines1_nil_in (l Bs : Nat) {α : Type} (J : List α → World → Prop) (W : World) (hBs : W.cell? ⟨Bs, 0, none⟩ = some (.slice none 0 0)) (h0 : J [] W) :
    CallsIn Fence.wide 4 Tryz.prog 86 #[.func (.yield l) #[] #[], .pointer (some ⟨Bs, 0, none⟩)] W fun e W' => (∃ v, e = .returned v) ∧ J [] W' := by
  refine callsIn_of_wp Tryz.func86 rfl trivial ?_ rfl
  simp only [Tryz.ntmps86, List.size_toArray, List.length_cons, List.length_nil, Nat.reduceAdd, Nat.reduceSub, Array.replicate_succ, Array.replicate_zero, List.push_toArray, List.append_toArray, List.nil_append, List.cons_append]
  gi_wp2
  gi_loopw [11] (fun i wr => i = .int .i64 0 ∧ J [] wr) (fun _ _ => 0)
  case atStart => exact ⟨rfl, h0⟩
  case round =>
    obtain ⟨rfl, hJs⟩ := hrel
    gi_wp2
    go_end0
    exact ⟨⟨_, rfl⟩, hJs⟩
/-- lines(l): the slice is boxed; the function value captures the box. -/
theorem lines_in (v : Value) (w : World) (hv : ∃ a len cap, v = .slice a len cap) :
    CallsIn Fence.wide 4 Tryz.prog 60 #[v] w fun e w' => e = .returned (.func (.func 86) #[] #[.pointer (some ⟨w.heap.size, 0, none⟩)]) ∧ w.alloc (.cells #[v] 25) = w' := by
  obtain ⟨a, len, cap, rfl⟩ := hv
  refine callsIn_of_wp Tryz.func60 rfl trivial ?_ rfl
  simp only [Tryz.ntmps60, List.size_toArray, List.length_cons, List.length_nil, Nat.reduceAdd, Nat.reduceSub, Array.replicate_succ, Array.replicate_zero, List.push_toArray, List.append_toArray, List.nil_append, List.cons_append]
  gi_wp2
  go_ret
  exact ⟨rfl, rfl⟩
/-- The iterator's contract. -/
theorem lines_stops (Bs : Nat) (S : List Nat) (sv : Value) (ds : List Dt) (w : World) (hok : okD ds = true) (hBs : Bs ∉ S) (hS : ∀ k ∈ S, k < w.heap.size)
    (hc : w.cell? ⟨Bs, 0, none⟩ = some sv) (hI : SlD w sv ds) (hsv : ∀ b o, sv.ptr? = some (b, o) → b ∉ S) :
    SeqStopsK Fence.wide 4 Tryz.prog 86 #[.pointer (some ⟨Bs, 0, none⟩)] (flV (ds := ds)) (KpC S) (fun ys => ys.map (·.1) = fitting ds) (fun _ => True) (fitting ds).length w := fun l J Jx W hW hJ _ hY h0 => by
  have hlt : Bs < w.heap.size := World.block_lt_of_cell? w _ hc
  have hc' := (hW.cell (p := ⟨Bs, 0, none⟩) hlt).trans hc
  rcases hI.below hW with ⟨rfl, rfl⟩ | ⟨b, off, cap, rfl, h1, h2, h3, h4⟩
  · exact (lines1_nil_in l Bs J W hc' h0).mono fun e W' ⟨he, hj⟩ => ⟨he, .inl ⟨_, rfl, hj⟩⟩
  · exact lines1_in l Bs b off cap ds S hok h1 h2 hBs (hsv b off rfl) J Jx W (fun k hk => Nat.lt_of_lt_of_le (hS k hk) hW.size) hJ hY ⟨hc', h3, h4⟩ h0
end Go.Proofs.YtebokdboodgkpaaGreatDoor
