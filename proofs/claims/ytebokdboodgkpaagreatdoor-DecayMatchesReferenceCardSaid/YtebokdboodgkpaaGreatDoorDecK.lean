/- package decay: Refute. -/
import Derived.Test.YtebokdboodgkpaaGreatDoorDecC
import Derived.Deep.RegionHeld3
import Derived.Deep.RegionWith
import Derived.Deep.DeepCutAuto
import Derived.Deep.QuietTactic
import Derived.BigQuiet
import Derived.RegionTactic
import Derived.BigRegion
namespace Go.Proofs.YtebokdboodgkpaaGreatDoor
open Go.RowKit
open DecM (Dt gd gd_mem gd_lt okD Ln refD f1 f2 f3 apB Apart)
attribute [local go_sem] Oper.semAt_some


/-- A statement behind a wall: nothing reckons it out. -/
structure Walled (p : Prop) : Prop where
  out : p
section
variable {P : Program} {ops : Array Oper} {C : World → Prop} {Q : Act → Prop} {a : Act} {o : Oper} {rest : List Oper}
theorem qWant (hw : Region.wanted o (yielded ops a.tmps) = true) (h : ∀ K : Act → Prop, (∀ a, Walled (wpQuiet P ops C Q rest a) → K a) → o.quiet P a C K) : Walled (wpQuiet P ops C Q (o :: rest) a) :=
  ⟨BigFrame.wpQuiet_want hw fun K hK => h K fun a h' => hK a h'.out⟩
theorem qStep (h : ∀ K : Act → Prop, (∀ a, Walled (wpQuiet P ops C Q rest a) → K a) → if Region.wanted o (yielded ops a.tmps) then o.quiet P a C K else K (a.put o.dst undef)) : Walled (wpQuiet P ops C Q (o :: rest) a) :=
  ⟨wpQuiet_step fun K hK => h K fun a h' => hK a h'.out⟩
theorem qNil (h : Q a) : Walled (wpQuiet P ops C Q [] a) := ⟨h⟩
end
/-- The three indexes. -/
def triL (o : DecM.Tri) : List Int := match o with
  | some (i, j, k) => [(i : Int), (j : Int), (k : Int)]
  | none => []
/-- What Refute finds. -/
def refO (l : List Dt) : DecM.Tri := if okD l then refD l else none
theorem resT2 {fn : Func} {t u : Tmp} (h : fn.results = #[.tmp t, .tmp u]) (tmps : Array Value) (Pr : Program) (w : World) :
    (results fn tmps).run Pr w = .ok (.tuple #[tmps.getD t undef, tmps.getD u undef]) w := by simp [results, h]
theorem tri_sl (W : World) (a b c : Int) : Sl (W.alloc (.cells #[.int .i64 a, .int .i64 b, .int .i64 c] 3)) (.slice (some ⟨W.heap.size, 0, none⟩) 3 3) [a, b, c] := by
  have hb := Blk.new W #[.int .i64 a, .int .i64 b, .int .i64 c] 3
  refine .inr ⟨W.heap.size, 0, 3, rfl, by simp, by unfold maxLen; omega, hb.lt, fun j hj => ?_⟩
  match j, hj with
  | 0, _ => exact hb.cell 0
  | 1, _ => exact hb.cell 1
  | 2, _ => exact hb.cell 2
theorem apart_iff (p q r : Dt) : decide (Apart p q r) = (decide (q.hi * (r.t - p.t) < (⟨p.t, p.lo, r.t, r.lo⟩ : Ln).on q.t) || decide (q.lo * (r.t - p.t) > (⟨p.t, p.hi, r.t, r.hi⟩ : Ln).on q.t)) := by
  rw [Bool.eq_iff_iff, decide_eq_true_iff, Bool.or_eq_true, decide_eq_true_iff, decide_eq_true_iff]
  exact Iff.rfl
/-- Three data lie in the world, and blocks of the call's own. -/
structure RI (w : World) (b oi oj ok : Nat) (p q r : Dt) (L : BLs) (W : World) : Prop where
  bl : BL w L W
  lt : b < W.heap.size
  p : DCell W b oi p
  q : DCell W b oj q
  r : DCell W b ok r
theorem RI.call {w : World} {b oi oj ok : Nat} {p q r : Dt} {L : BLs} {W W' : World} (h : RI w b oi oj ok p q r L W) (hb : Below W.heap.size W W') : RI w b oi oj ok p q r L W' :=
  ⟨h.bl.call hb, Nat.lt_of_lt_of_le h.lt hb.size, h.p.below hb h.lt, h.q.below hb h.lt, h.r.below hb h.lt⟩
theorem RI.drew {w : World} {b oi oj ok : Nat} {p q r : Dt} {L : BLs} {W : World} (h : RI w b oi oj ok p q r L W) : RI w b oi oj ok p q r L W.drew := h.call (below_drewN W 1)
theorem RI.add {w : World} {b oi oj ok : Nat} {p q r : Dt} {L : BLs} {W : World} (h : RI w b oi oj ok p q r L W) (cs : Array Value) (t : TypeId) : RI w b oi oj ok p q r ((W.heap.size, cs, t) :: L) (W.alloc (.cells cs t)) := by
  have k := h.call (kb_new (Below.refl W.heap.size W) (.cells cs t))
  exact ⟨h.bl.add cs t, k.lt, k.p, k.q, k.r⟩
def RefP (w : World) (l : List Dt) : Ending → World → Prop := fun e w' => ∃ v, e = .returned (.tuple #[v, .bool (refO l).isSome]) ∧ Sl w' v (triL (refO l)) ∧ Below w.heap.size w w'

set_option maxRecDepth 100000 in
set_option maxHeartbeats 16000000 in
/-- decay.Refute. -/
theorem refute_any (v : Value) (l : List Dt) (w : World) (h : SlD w v l) :
    Calls Tryz.prog 9 #[v] w (RefP w l) := by
  have VD := fun W (h : SlD W v l) => dvalid_any v l W h
  have hl := h.len_le
  unfold maxLen at hl
  unfold RefP refO
  cases hok : okD l with
  | false =>
    rw [hok] at VD
    have V0 := Lib.hid (VD w h)
    obtain ⟨ag, cap, rfl⟩ := h.shape
    clear VD h hok
    go_enter Tryz.func9, Tryz.ntmps9
    go_wp2_with fail
    refine V0.out.mono ?_
    rintro e w1 ⟨rfl, hb⟩
    go_wp2
    refine bodyPost_ret (resT2 rfl _ _ _) rfl ?_
    exact ⟨_, rfl, Sl.nil _, hb⟩
  | true =>
    rw [hok] at VD
    have hdt := fun d (hd : d ∈ l) => dtOk_of hok hd
    have V0 := Lib.hid (VD w h)
    have HD := Lib.hid hdt
    clear VD hok hdt
    rcases h with ⟨rfl, rfl⟩ | ⟨b, off, cap, rfl, h1, h2, h3, h4⟩
    · go_enter Tryz.func9, Tryz.ntmps9
      go_wp2_with fail
      refine V0.out.mono ?_
      rintro e w1 ⟨rfl, hb⟩
      go_wp2_with fail
      go_loopw [15] (fun i wr => i = .int .i64 0 ∧ wr = w1) (fun _ _ => 0)
      case atStart => exact ⟨rfl, rfl⟩
      case round =>
        obtain ⟨rfl, rfl⟩ := hrel
        go_wp2
        refine bodyPost_ret (resT2 rfl _ _ _) rfl ?_
        exact ⟨_, rfl, Sl.nil _, hb⟩
    · go_enter Tryz.func9, Tryz.ntmps9
      go_wp2_with fail
      refine V0.out.mono ?_
      rintro e w1 ⟨rfl, hb⟩
      clear V0
      go_wp2_with fail
      go_loopw [15] (fun a wr => ∃ i : Nat, a = .int .i64 i ∧ i ≤ l.length ∧ Hid (refD l = f1 l i) ∧ Below w.heap.size w wr) (fun a _ => l.length - (intOf a).toNat)
      case atStart => exact ⟨0, rfl, by omega, rfl, hb⟩
      case round =>
        clear hb
        obtain ⟨i, rfl, hi, hR, hB⟩ := hrel
        by_cases hil : i < l.length
        · replace hR := Lib.hid (hR.out.trans (DecM.f1_step hil))
          go_wp2_with fail
          go_loopw [5] (fun a wr => ∃ j : Nat, a = .int .i64 j ∧ i < j ∧ j ≤ l.length ∧ Hid (refD l = (f2 l i j).or (f1 l (i + 1))) ∧ Below w.heap.size w wr) (fun a _ => l.length - (intOf a).toNat)
          case atStart => exact ⟨i + 1, by go_num, by omega, by omega, hR, hB⟩
          case round =>
            clear hR hB
            obtain ⟨j, rfl, hij, hj, hR, hB⟩ := hrel
            by_cases hjl : j < l.length
            · replace hR := Lib.hid (hR.out.trans (by rw [DecM.f2_step hjl, Option.or_assoc] : (f2 l i j).or (f1 l (i + 1)) = (f3 l i j (j + 1)).or ((f2 l i (j + 1)).or (f1 l (i + 1)))))
              go_wp2_with fail
              go_loopw [6] (fun a wr => ∃ k : Nat, a = .int .i64 k ∧ j < k ∧ k ≤ l.length ∧ Hid (refD l = (f3 l i j k).or ((f2 l i (j + 1)).or (f1 l (i + 1)))) ∧ Below w.heap.size w wr) (fun a _ => l.length - (intOf a).toNat)
              case atStart => exact ⟨j + 1, by go_num, by omega, by omega, hR, hB⟩
              case round =>
                clear hR hB
                obtain ⟨k, rfl, hjk, hk, hR, hB⟩ := hrel
                by_cases hkl : k < l.length
                · obtain ⟨a0, a1, a2⟩ := (h4 i (by omega)).below hB h3
                  obtain ⟨b0, b1, b2⟩ := (h4 j (by omega)).below hB h3
                  obtain ⟨c0, c1, c2⟩ := (h4 k (by omega)).below hB h3
                  have dp := HD.out _ (gd_mem (show i < l.length by omega))
                  have dq := HD.out _ (gd_mem (show j < l.length by omega))
                  have dr := HD.out _ (gd_mem (show k < l.length by omega))
                  replace hR := Lib.hid (hR.out.trans (by rw [DecM.f3_step hkl, show apB l i j k = decide (Apart (gd l i) (gd l j) (gd l k)) from rfl, apart_iff] : (f3 l i j k).or ((f2 l i (j + 1)).or (f1 l (i + 1))) = _))
                  generalize gd l i = p at *
                  generalize gd l j = q at *
                  generalize gd l k = r at *
                  have wn : IntKind.i64.wrap (r.t - p.t) = r.t - p.t := IntWalk.i64_in _ (by have := dp.t; have := dr.t; omega)
                  have m1 := mul_bd (a := q.hi) (b := r.t - p.t) 1000000 800000 (by have := dq.hi; omega) (by have := dp.t; have := dr.t; omega)
                  have m2 := mul_bd (a := q.lo) (b := r.t - p.t) 1000000 800000 (by have := dq.lo; omega) (by have := dp.t; have := dr.t; omega)
                  obtain ⟨z1, hz1⟩ : ∃ z : Int, z = q.hi * (r.t - p.t) := ⟨_, rfl⟩
                  obtain ⟨z2, hz2⟩ : ∃ z : Int, z = q.lo * (r.t - p.t) := ⟨_, rfl⟩
                  have wm1 : IntKind.i64.wrap (q.hi * (r.t - p.t)) = z1 := by rw [hz1]; exact IntWalk.i64_in _ (by omega)
                  have wm2 : IntKind.i64.wrap (q.lo * (r.t - p.t)) = z2 := by rw [hz2]; exact IntWalk.i64_in _ (by omega)
                  have O1 := Lib.hid (fun W => on_any ⟨p.t, p.lo, r.t, r.lo⟩ q.t ⟨dp.t, dr.t, dp.lo, dr.lo⟩ dq.t W)
                  have O2 := Lib.hid (fun W => on_any ⟨p.t, p.hi, r.t, r.hi⟩ q.t ⟨dp.t, dr.t, dp.hi, dr.hi⟩ dq.t W)
                  generalize (⟨p.t, p.lo, r.t, r.lo⟩ : Ln).on q.t = y1 at *
                  generalize (⟨p.t, p.hi, r.t, r.hi⟩ : Ln).on q.t = y2 at *
                  have hI : RI w b (off + i * 3) (off + j * 3) (off + k * 3) p q r [] wr := ⟨⟨hB, fun _ h => by cases h⟩, Nat.lt_of_lt_of_le h3 hB.size, ⟨a0, a1, a2⟩, ⟨b0, b1, b2⟩, ⟨c0, c1, c2⟩⟩
                  obtain ⟨za0, za1, za2⟩ := (hI.add #[.int .i64 0, .int .i64 0, .int .i64 0, .int .i64 0] 63).p
                  obtain ⟨zc0, zc1, zc2⟩ := (hI.add #[.int .i64 0, .int .i64 0, .int .i64 0, .int .i64 0] 63).r
                  rw [← hz1, ← hz2] at hR
                  clear m1 m2 dp dq dr b0 b1 b2 hB hz1 hz2
                  go_upto_region 12 with fail
                  go_cut [7] (fun s wx => ∃ g : Nat, s = .pointer (some ⟨g, 0, none⟩) ∧ RI w b (off + i * 3) (off + j * 3) (off + k * 3) p q r [(g, #[.int .i64 p.t, .int .i64 p.lo, .int .i64 r.t, .int .i64 r.lo], 63)] wx)
                  case first => as_aux_lemma =>
                    go_region
                    go_wp2_with fail
                    go_meet
                    exact ⟨_, rfl, (hI.add _ _).drew⟩
                  case rest =>
                    clear za0 za1 za2 zc0 zc1 zc2 a0 a1 a2 c0 c1 c2 hI
                    obtain ⟨g, rfl, hI⟩ := hcut
                    obtain ⟨a0, a1, a2⟩ := hI.p
                    obtain ⟨c0, c1, c2⟩ := hI.r
                    obtain ⟨za0, za1, za2⟩ := (hI.add #[.int .i64 0, .int .i64 0, .int .i64 0, .int .i64 0] 63).p
                    obtain ⟨zc0, zc1, zc2⟩ := (hI.add #[.int .i64 0, .int .i64 0, .int .i64 0, .int .i64 0] 63).r
                    go_upto_region 13 with fail
                    go_cut [8] (fun s wx => ∃ g2 : Nat, s = .pointer (some ⟨g2, 0, none⟩) ∧ RI w b (off + i * 3) (off + j * 3) (off + k * 3) p q r [(g2, #[.int .i64 p.t, .int .i64 p.hi, .int .i64 r.t, .int .i64 r.hi], 63), (g, #[.int .i64 p.t, .int .i64 p.lo, .int .i64 r.t, .int .i64 r.lo], 63)] wx)
                    case first => as_aux_lemma =>
                      go_region
                      go_wp2_with fail
                      go_meet
                      exact ⟨_, rfl, (hI.add _ _).drew⟩
                    case rest =>
                      clear za0 za1 za2 zc0 zc1 zc2 a0 a1 a2 c0 c1 c2 hI
                      obtain ⟨g2, rfl, hI⟩ := hcut
                      obtain ⟨a0, a1, a2⟩ := hI.p
                      obtain ⟨c0, c1, c2⟩ := hI.r
                      go_upto_region 14 with fail
                      go_region
                      replace hI := hI.drew
                      clear a0 a1 a2 c0 c1 c2
                      have hC := Lib.hid (show ∀ w', RI w b (off + i * 3) (off + j * 3) (off + k * 3) p q r [(g2, #[.int .i64 p.t, .int .i64 p.hi, .int .i64 r.t, .int .i64 r.hi], 63), (g, #[.int .i64 p.t, .int .i64 p.lo, .int .i64 r.t, .int .i64 r.lo], 63)] w' → (w'.cell? ⟨b, off + j * 3, none⟩ = some (.int .i64 q.t) ∧ w'.cell? ⟨b, off + j * 3 + 1, none⟩ = some (.int .i64 q.lo) ∧ w'.cell? ⟨b, off + j * 3 + 2, none⟩ = some (.int .i64 q.hi) ∧ w'.cell? ⟨g, 0, none⟩ = some (.int .i64 (p.t)) ∧ w'.cell? ⟨g, 1, none⟩ = some (.int .i64 (p.lo)) ∧ w'.cell? ⟨g, 2, none⟩ = some (.int .i64 (r.t)) ∧ w'.cell? ⟨g, 3, none⟩ = some (.int .i64 (r.lo)) ∧ w'.cell? ⟨g2, 0, none⟩ = some (.int .i64 (p.t)) ∧ w'.cell? ⟨g2, 1, none⟩ = some (.int .i64 (p.hi)) ∧ w'.cell? ⟨g2, 2, none⟩ = some (.int .i64 (r.t)) ∧ w'.cell? ⟨g2, 3, none⟩ = some (.int .i64 (r.hi))) from fun W' h => ⟨h.q.1, h.q.2.1, h.q.2.2, h.bl.cell g _ _ (.tail _ (.head _)) 0, h.bl.cell g _ _ (.tail _ (.head _)) 1, h.bl.cell g _ _ (.tail _ (.head _)) 2, h.bl.cell g _ _ (.tail _ (.head _)) 3, h.bl.cell g2 _ _ (.head _) 0, h.bl.cell g2 _ _ (.head _) 1, h.bl.cell g2 _ _ (.head _) 2, h.bl.cell g2 _ _ (.head _) 3⟩)
                      go_upto_region 15 with fail
                      obtain ⟨d1, hd1⟩ : ∃ d1 : Bool, d1 = decide (z1 < y1) := ⟨_, rfl⟩
                      obtain ⟨d2, hd2⟩ : ∃ d2 : Bool, d2 = decide (z2 > y2) := ⟨_, rfl⟩
                      go_cut [118] (fun s wx => s = .bool (d1 || d2) ∧ RI w b (off + i * 3) (off + j * 3) (off + k * 3) p q r [(g2, #[.int .i64 p.t, .int .i64 p.hi, .int .i64 r.t, .int .i64 r.hi], 63), (g, #[.int .i64 p.t, .int .i64 p.lo, .int .i64 r.t, .int .i64 r.lo], 63)] wx)
                      case first => as_aux_lemma =>
                        obtain ⟨x0', x1', x2', x3', x4', x5', x6', x7', x8', x9', x10'⟩ := hC.out _ hI
                        cases d1 with
                        | true =>
                          have c1 : z1 < y1 := of_decide_eq_true hd1.symm
                          clear hd1 hd2
                          refine wp_region_quiet (C := fun W' => RI w b (off + i * 3) (off + j * 3) (off + k * 3) p q r [(g2, #[.int .i64 p.t, .int .i64 p.hi, .int .i64 r.t, .int .i64 r.hi], 63), (g, #[.int .i64 p.t, .int .i64 p.lo, .int .i64 r.t, .int .i64 r.lo], 63)] W') rfl (by kernel_rfl) hI.drew (Walled.out ?_)
                          refine qWant rfl fun K hK => ?_
                          go_simp
                          refine ⟨_, fun _ _ => rfl, hK _ ?_⟩
                          clear hK K
                          refine qWant rfl fun K hK => ?_
                          go_simp
                          refine ⟨_, fun _ _ => rfl, hK _ ?_⟩
                          clear hK K
                          refine qWant rfl fun K hK => ?_
                          go_simp
                          refine ⟨_, fun _ _ => rfl, hK _ ?_⟩
                          clear hK K
                          refine qWant rfl fun K hK => ?_
                          go_simp
                          refine ⟨_, fun _ _ => rfl, hK _ ?_⟩
                          clear hK K
                          refine qWant rfl fun K hK => ?_
                          go_simp
                          refine ⟨.int .i64 q.hi, fun W hW => ?_, hK _ ?_⟩
                          · obtain ⟨x0', x1', x2', x3', x4', x5', x6', x7', x8', x9', x10'⟩ := hC.out W hW
                            go_simp
                          clear hK K
                          refine qWant rfl fun K hK => ?_
                          go_simp
                          refine ⟨_, fun _ _ => rfl, hK _ ?_⟩
                          clear hK K
                          refine qWant rfl fun K hK => ?_
                          go_simp
                          refine ⟨_, fun _ _ => rfl, hK _ ?_⟩
                          clear hK K
                          refine qWant rfl fun K hK => ?_
                          go_simp
                          refine ⟨.agg #[.int .i64 p.t, .int .i64 p.lo, .int .i64 r.t, .int .i64 r.lo], fun W hW => ?_, hK _ ?_⟩
                          · obtain ⟨x0', x1', x2', x3', x4', x5', x6', x7', x8', x9', x10'⟩ := hC.out W hW
                            go_simp
                          clear hK K
                          refine qWant rfl fun K hK => ?_
                          go_simp
                          refine ⟨_, fun _ _ => rfl, hK _ ?_⟩
                          clear hK K
                          refine qWant rfl fun K hK => ?_
                          go_simp
                          refine ⟨_, fun _ _ => rfl, hK _ ?_⟩
                          clear hK K
                          refine qWant rfl fun K hK => ?_
                          go_simp
                          refine ⟨_, fun _ _ => rfl, hK _ ?_⟩
                          clear hK K
                          refine qWant rfl fun K hK => ?_
                          go_simp
                          refine ⟨_, fun _ _ => rfl, hK _ ?_⟩
                          clear hK K
                          refine qWant rfl fun K hK => ?_
                          go_simp
                          refine ⟨.int .i64 q.t, fun W hW => ?_, hK _ ?_⟩
                          · obtain ⟨x0', x1', x2', x3', x4', x5', x6', x7', x8', x9', x10'⟩ := hC.out W hW
                            go_simp
                          clear hK K
                          refine qWant rfl fun K hK => ?_
                          go_simp
                          refine ⟨.int .i64 y1, fun W hW => (O1.out W).mono fun e w' h => ⟨h.1, hW.call h.2⟩, hK _ ?_⟩
                          clear hK K
                          refine qWant rfl fun K hK => ?_
                          go_simp
                          refine ⟨_, fun _ _ => rfl, hK _ ?_⟩
                          clear hK K
                          refine qWant rfl fun K hK => ?_
                          go_simp
                          refine ⟨_, fun _ _ => rfl, hK _ ?_⟩
                          clear hK K
                          refine qStep fun K hK => ?_
                          go_simp
                          refine hK _ ?_
                          clear hK K
                          refine qStep fun K hK => ?_
                          go_simp
                          refine hK _ ?_
                          clear hK K
                          refine qStep fun K hK => ?_
                          go_simp
                          refine hK _ ?_
                          clear hK K
                          refine qStep fun K hK => ?_
                          go_simp
                          refine hK _ ?_
                          clear hK K
                          refine qStep fun K hK => ?_
                          go_simp
                          refine hK _ ?_
                          clear hK K
                          refine qStep fun K hK => ?_
                          go_simp
                          refine hK _ ?_
                          clear hK K
                          refine qStep fun K hK => ?_
                          go_simp
                          refine hK _ ?_
                          clear hK K
                          refine qStep fun K hK => ?_
                          go_simp
                          refine hK _ ?_
                          clear hK K
                          refine qStep fun K hK => ?_
                          go_simp
                          refine hK _ ?_
                          clear hK K
                          refine qStep fun K hK => ?_
                          go_simp
                          refine hK _ ?_
                          clear hK K
                          refine qStep fun K hK => ?_
                          go_simp
                          refine hK _ ?_
                          clear hK K
                          refine qStep fun K hK => ?_
                          go_simp
                          refine hK _ ?_
                          clear hK K
                          refine qStep fun K hK => ?_
                          go_simp
                          refine hK _ ?_
                          clear hK K
                          refine qStep fun K hK => ?_
                          go_simp
                          refine hK _ ?_
                          clear hK K
                          refine qStep fun K hK => ?_
                          go_simp
                          refine hK _ ?_
                          clear hK K
                          refine qWant rfl fun K hK => ?_
                          go_simp
                          refine ⟨_, fun _ _ => rfl, hK _ ?_⟩
                          clear hK K
                          refine qNil ?_
                          intro W' hI
                          go_wp2_with fail
                          go_meet
                          exact ⟨rfl, hI⟩
                        | false =>
                          have c1 : ¬ z1 < y1 := of_decide_eq_false hd1.symm
                          have c1' : decide (z1 < y1) = false := hd1.symm
                          have c1'' : (z1 < y1) = False := eq_false c1
                          clear hd1
                          cases d2 with
                          | true =>
                            have c2 : y2 < z2 := of_decide_eq_true hd2.symm
                            clear hd2
                            refine wp_region_quiet (C := fun W' => RI w b (off + i * 3) (off + j * 3) (off + k * 3) p q r [(g2, #[.int .i64 p.t, .int .i64 p.hi, .int .i64 r.t, .int .i64 r.hi], 63), (g, #[.int .i64 p.t, .int .i64 p.lo, .int .i64 r.t, .int .i64 r.lo], 63)] W') rfl (by kernel_rfl) hI.drew (Walled.out ?_)
                            refine qWant rfl fun K hK => ?_
                            go_simp
                            refine ⟨_, fun _ _ => rfl, hK _ ?_⟩
                            clear hK K
                            refine qWant rfl fun K hK => ?_
                            go_simp
                            refine ⟨_, fun _ _ => rfl, hK _ ?_⟩
                            clear hK K
                            refine qWant rfl fun K hK => ?_
                            go_simp
                            refine ⟨_, fun _ _ => rfl, hK _ ?_⟩
                            clear hK K
                            refine qWant rfl fun K hK => ?_
                            go_simp
                            refine ⟨_, fun _ _ => rfl, hK _ ?_⟩
                            clear hK K
                            refine qWant rfl fun K hK => ?_
                            go_simp
                            refine ⟨.int .i64 q.hi, fun W hW => ?_, hK _ ?_⟩
                            · obtain ⟨x0', x1', x2', x3', x4', x5', x6', x7', x8', x9', x10'⟩ := hC.out W hW
                              go_simp
                            clear hK K
                            refine qWant rfl fun K hK => ?_
                            go_simp
                            refine ⟨_, fun _ _ => rfl, hK _ ?_⟩
                            clear hK K
                            refine qWant rfl fun K hK => ?_
                            go_simp
                            refine ⟨_, fun _ _ => rfl, hK _ ?_⟩
                            clear hK K
                            refine qWant rfl fun K hK => ?_
                            go_simp
                            refine ⟨.agg #[.int .i64 p.t, .int .i64 p.lo, .int .i64 r.t, .int .i64 r.lo], fun W hW => ?_, hK _ ?_⟩
                            · obtain ⟨x0', x1', x2', x3', x4', x5', x6', x7', x8', x9', x10'⟩ := hC.out W hW
                              go_simp
                            clear hK K
                            refine qWant rfl fun K hK => ?_
                            go_simp
                            refine ⟨_, fun _ _ => rfl, hK _ ?_⟩
                            clear hK K
                            refine qWant rfl fun K hK => ?_
                            go_simp
                            refine ⟨_, fun _ _ => rfl, hK _ ?_⟩
                            clear hK K
                            refine qWant rfl fun K hK => ?_
                            go_simp
                            refine ⟨_, fun _ _ => rfl, hK _ ?_⟩
                            clear hK K
                            refine qWant rfl fun K hK => ?_
                            go_simp
                            refine ⟨_, fun _ _ => rfl, hK _ ?_⟩
                            clear hK K
                            refine qWant rfl fun K hK => ?_
                            go_simp
                            refine ⟨.int .i64 q.t, fun W hW => ?_, hK _ ?_⟩
                            · obtain ⟨x0', x1', x2', x3', x4', x5', x6', x7', x8', x9', x10'⟩ := hC.out W hW
                              go_simp
                            clear hK K
                            refine qWant rfl fun K hK => ?_
                            go_simp
                            refine ⟨.int .i64 y1, fun W hW => (O1.out W).mono fun e w' h => ⟨h.1, hW.call h.2⟩, hK _ ?_⟩
                            clear hK K
                            refine qWant rfl fun K hK => ?_
                            go_simp
                            refine ⟨_, fun _ _ => rfl, hK _ ?_⟩
                            clear hK K
                            refine qWant rfl fun K hK => ?_
                            go_simp
                            refine ⟨_, fun _ _ => rfl, hK _ ?_⟩
                            clear hK K
                            refine qWant rfl fun K hK => ?_
                            go_simp
                            refine ⟨_, fun _ _ => rfl, hK _ ?_⟩
                            clear hK K
                            refine qWant rfl fun K hK => ?_
                            go_simp
                            refine ⟨_, fun _ _ => rfl, hK _ ?_⟩
                            clear hK K
                            refine qWant rfl fun K hK => ?_
                            go_simp
                            refine ⟨_, fun _ _ => rfl, hK _ ?_⟩
                            clear hK K
                            refine qWant rfl fun K hK => ?_
                            go_simp
                            refine ⟨_, fun _ _ => rfl, hK _ ?_⟩
                            clear hK K
                            refine qWant rfl fun K hK => ?_
                            go_simp
                            refine ⟨.int .i64 q.lo, fun W hW => ?_, hK _ ?_⟩
                            · obtain ⟨x0', x1', x2', x3', x4', x5', x6', x7', x8', x9', x10'⟩ := hC.out W hW
                              go_simp
                            clear hK K
                            refine qWant rfl fun K hK => ?_
                            go_simp
                            refine ⟨_, fun _ _ => rfl, hK _ ?_⟩
                            clear hK K
                            refine qWant rfl fun K hK => ?_
                            go_simp
                            refine ⟨_, fun _ _ => rfl, hK _ ?_⟩
                            clear hK K
                            refine qWant rfl fun K hK => ?_
                            go_simp
                            refine ⟨.agg #[.int .i64 p.t, .int .i64 p.hi, .int .i64 r.t, .int .i64 r.hi], fun W hW => ?_, hK _ ?_⟩
                            · obtain ⟨x0', x1', x2', x3', x4', x5', x6', x7', x8', x9', x10'⟩ := hC.out W hW
                              go_simp
                            clear hK K
                            refine qWant rfl fun K hK => ?_
                            go_simp
                            refine ⟨_, fun _ _ => rfl, hK _ ?_⟩
                            clear hK K
                            refine qWant rfl fun K hK => ?_
                            go_simp
                            refine ⟨_, fun _ _ => rfl, hK _ ?_⟩
                            clear hK K
                            refine qWant rfl fun K hK => ?_
                            go_simp
                            refine ⟨_, fun _ _ => rfl, hK _ ?_⟩
                            clear hK K
                            refine qWant rfl fun K hK => ?_
                            go_simp
                            refine ⟨_, fun _ _ => rfl, hK _ ?_⟩
                            clear hK K
                            refine qWant rfl fun K hK => ?_
                            go_simp
                            refine ⟨.int .i64 q.t, fun W hW => ?_, hK _ ?_⟩
                            · obtain ⟨x0', x1', x2', x3', x4', x5', x6', x7', x8', x9', x10'⟩ := hC.out W hW
                              go_simp
                            clear hK K
                            refine qWant rfl fun K hK => ?_
                            go_simp
                            refine ⟨.int .i64 y2, fun W hW => (O2.out W).mono fun e w' h => ⟨h.1, hW.call h.2⟩, hK _ ?_⟩
                            clear hK K
                            refine qWant rfl fun K hK => ?_
                            go_simp
                            refine ⟨_, fun _ _ => rfl, hK _ ?_⟩
                            clear hK K
                            refine qWant rfl fun K hK => ?_
                            go_simp
                            refine ⟨_, fun _ _ => rfl, hK _ ?_⟩
                            clear hK K
                            refine qNil ?_
                            intro W' hI
                            go_wp2_with fail
                            go_meet
                            exact ⟨rfl, hI⟩
                          | false =>
                            have c2 : z2 ≤ y2 := Int.not_lt.1 (of_decide_eq_false hd2.symm)
                            clear hd2
                            refine wp_region_quiet (C := fun W' => RI w b (off + i * 3) (off + j * 3) (off + k * 3) p q r [(g2, #[.int .i64 p.t, .int .i64 p.hi, .int .i64 r.t, .int .i64 r.hi], 63), (g, #[.int .i64 p.t, .int .i64 p.lo, .int .i64 r.t, .int .i64 r.lo], 63)] W') rfl (by kernel_rfl) hI.drew (Walled.out ?_)
                            refine qWant rfl fun K hK => ?_
                            go_simp
                            refine ⟨_, fun _ _ => rfl, hK _ ?_⟩
                            clear hK K
                            refine qWant rfl fun K hK => ?_
                            go_simp
                            refine ⟨_, fun _ _ => rfl, hK _ ?_⟩
                            clear hK K
                            refine qWant rfl fun K hK => ?_
                            go_simp
                            refine ⟨_, fun _ _ => rfl, hK _ ?_⟩
                            clear hK K
                            refine qWant rfl fun K hK => ?_
                            go_simp
                            refine ⟨_, fun _ _ => rfl, hK _ ?_⟩
                            clear hK K
                            refine qWant rfl fun K hK => ?_
                            go_simp
                            refine ⟨.int .i64 q.hi, fun W hW => ?_, hK _ ?_⟩
                            · obtain ⟨x0', x1', x2', x3', x4', x5', x6', x7', x8', x9', x10'⟩ := hC.out W hW
                              go_simp
                            clear hK K
                            refine qWant rfl fun K hK => ?_
                            go_simp
                            refine ⟨_, fun _ _ => rfl, hK _ ?_⟩
                            clear hK K
                            refine qWant rfl fun K hK => ?_
                            go_simp
                            refine ⟨_, fun _ _ => rfl, hK _ ?_⟩
                            clear hK K
                            refine qWant rfl fun K hK => ?_
                            go_simp
                            refine ⟨.agg #[.int .i64 p.t, .int .i64 p.lo, .int .i64 r.t, .int .i64 r.lo], fun W hW => ?_, hK _ ?_⟩
                            · obtain ⟨x0', x1', x2', x3', x4', x5', x6', x7', x8', x9', x10'⟩ := hC.out W hW
                              go_simp
                            clear hK K
                            refine qWant rfl fun K hK => ?_
                            go_simp
                            refine ⟨_, fun _ _ => rfl, hK _ ?_⟩
                            clear hK K
                            refine qWant rfl fun K hK => ?_
                            go_simp
                            refine ⟨_, fun _ _ => rfl, hK _ ?_⟩
                            clear hK K
                            refine qWant rfl fun K hK => ?_
                            go_simp
                            refine ⟨_, fun _ _ => rfl, hK _ ?_⟩
                            clear hK K
                            refine qWant rfl fun K hK => ?_
                            go_simp
                            refine ⟨_, fun _ _ => rfl, hK _ ?_⟩
                            clear hK K
                            refine qWant rfl fun K hK => ?_
                            go_simp
                            refine ⟨.int .i64 q.t, fun W hW => ?_, hK _ ?_⟩
                            · obtain ⟨x0', x1', x2', x3', x4', x5', x6', x7', x8', x9', x10'⟩ := hC.out W hW
                              go_simp
                            clear hK K
                            refine qWant rfl fun K hK => ?_
                            go_simp
                            refine ⟨.int .i64 y1, fun W hW => (O1.out W).mono fun e w' h => ⟨h.1, hW.call h.2⟩, hK _ ?_⟩
                            clear hK K
                            refine qWant rfl fun K hK => ?_
                            go_simp
                            refine ⟨_, fun _ _ => rfl, hK _ ?_⟩
                            clear hK K
                            refine qWant rfl fun K hK => ?_
                            go_simp
                            refine ⟨_, fun _ _ => rfl, hK _ ?_⟩
                            clear hK K
                            refine qWant rfl fun K hK => ?_
                            go_simp
                            refine ⟨_, fun _ _ => rfl, hK _ ?_⟩
                            clear hK K
                            refine qWant rfl fun K hK => ?_
                            go_simp
                            refine ⟨_, fun _ _ => rfl, hK _ ?_⟩
                            clear hK K
                            refine qWant rfl fun K hK => ?_
                            go_simp
                            refine ⟨_, fun _ _ => rfl, hK _ ?_⟩
                            clear hK K
                            refine qWant rfl fun K hK => ?_
                            go_simp
                            refine ⟨_, fun _ _ => rfl, hK _ ?_⟩
                            clear hK K
                            refine qWant rfl fun K hK => ?_
                            go_simp
                            refine ⟨.int .i64 q.lo, fun W hW => ?_, hK _ ?_⟩
                            · obtain ⟨x0', x1', x2', x3', x4', x5', x6', x7', x8', x9', x10'⟩ := hC.out W hW
                              go_simp
                            clear hK K
                            refine qWant rfl fun K hK => ?_
                            go_simp
                            refine ⟨_, fun _ _ => rfl, hK _ ?_⟩
                            clear hK K
                            refine qWant rfl fun K hK => ?_
                            go_simp
                            refine ⟨_, fun _ _ => rfl, hK _ ?_⟩
                            clear hK K
                            refine qWant rfl fun K hK => ?_
                            go_simp
                            refine ⟨.agg #[.int .i64 p.t, .int .i64 p.hi, .int .i64 r.t, .int .i64 r.hi], fun W hW => ?_, hK _ ?_⟩
                            · obtain ⟨x0', x1', x2', x3', x4', x5', x6', x7', x8', x9', x10'⟩ := hC.out W hW
                              go_simp
                            clear hK K
                            refine qWant rfl fun K hK => ?_
                            go_simp
                            refine ⟨_, fun _ _ => rfl, hK _ ?_⟩
                            clear hK K
                            refine qWant rfl fun K hK => ?_
                            go_simp
                            refine ⟨_, fun _ _ => rfl, hK _ ?_⟩
                            clear hK K
                            refine qWant rfl fun K hK => ?_
                            go_simp
                            refine ⟨_, fun _ _ => rfl, hK _ ?_⟩
                            clear hK K
                            refine qWant rfl fun K hK => ?_
                            go_simp
                            refine ⟨_, fun _ _ => rfl, hK _ ?_⟩
                            clear hK K
                            refine qWant rfl fun K hK => ?_
                            go_simp
                            refine ⟨.int .i64 q.t, fun W hW => ?_, hK _ ?_⟩
                            · obtain ⟨x0', x1', x2', x3', x4', x5', x6', x7', x8', x9', x10'⟩ := hC.out W hW
                              go_simp
                            clear hK K
                            refine qWant rfl fun K hK => ?_
                            go_simp
                            refine ⟨.int .i64 y2, fun W hW => (O2.out W).mono fun e w' h => ⟨h.1, hW.call h.2⟩, hK _ ?_⟩
                            clear hK K
                            refine qWant rfl fun K hK => ?_
                            go_simp
                            refine ⟨_, fun _ _ => rfl, hK _ ?_⟩
                            clear hK K
                            refine qWant rfl fun K hK => ?_
                            go_simp
                            refine ⟨_, fun _ _ => rfl, hK _ ?_⟩
                            clear hK K
                            refine qNil ?_
                            intro W' hI
                            go_wp2_with fail
                            go_meet
                            exact ⟨by rw [decide_eq_false (show ¬ y2 < z2 by omega)]; rfl, hI⟩
                      case rest =>
                        clear hC
                        obtain ⟨rfl, hI⟩ := hcut
                        have hB2 := hI.bl.below
                        clear hI
                        cases hd : (d1 || d2) with
                        | true =>
                          have hfin := Lib.hid (show refD l = some (i, j, k) by rw [hR.out, ← hd1, ← hd2, hd, if_pos rfl]; rfl)
                          clear hR
                          go_wp2
                          refine bodyPost_ret (resT2 rfl _ _ _) rfl ?_
                          exact ⟨_, by rw [hfin.out]; rfl, by rw [hfin.out]; exact tri_sl _ _ _ _, kb_new hB2 _⟩
                        | false =>
                          have hR2 := Lib.hid (show refD l = (f3 l i j (k + 1)).or ((f2 l i (j + 1)).or (f1 l (i + 1))) by rw [hR.out, ← hd1, ← hd2, hd, if_neg (by decide), Option.none_or])
                          clear hR
                          go_wp2_with fail
                          go_roundw
                          case rel => exact ⟨k + 1, by go_num, by omega, by omega, hR2, hB2⟩
                          case measure => simp [intOf]; omega
                · go_wp2_with fail
                  go_roundw
                  case rel => exact ⟨j + 1, by go_num, by omega, by omega, by rw [DecM.f3_end hkl, Option.none_or] at hR; exact hR, hB⟩
                  case measure => simp [intOf]; omega
            · go_wp2_with fail
              go_roundw
              case rel => exact ⟨i + 1, by go_num, by omega, by rw [DecM.f2_end hjl, Option.none_or] at hR; exact hR, hB⟩
              case measure => simp [intOf]; omega
        · have hn := Lib.hid (show refD l = none by rw [hR.out, DecM.f1_end hil])
          go_wp2
          refine bodyPost_ret (resT2 rfl _ _ _) rfl ?_
          exact ⟨_, by rw [hn.out]; rfl, by rw [hn.out]; exact Sl.nil _, hB⟩

end Go.Proofs.YtebokdboodgkpaaGreatDoor
