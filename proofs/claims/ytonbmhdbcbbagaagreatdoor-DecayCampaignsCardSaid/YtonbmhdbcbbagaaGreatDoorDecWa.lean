/- putlogref26: With. -/
import Derived.Test.YtonbmhdbcbbagaaGreatDoorDecMa
import Derived.Test.YtonbmhdbcbbagaaGreatDoorDecZh
import Derived.Deep.RegionHeld3
import Derived.Deep.QuietTactic
import Derived.BigQuiet
namespace Go.Proofs.YtonbmhdbcbbagaaGreatDoor
open Go.RowKit
open DecM (Dt gd gd_lt gd_mem okD ins)
attribute [local go_sem] Oper.semAt_some

def aft (d : Dt) (m : List Dt) : Bool := m.any (fun p => decide (d.t < p.t))
/-- The data so far, with d in its place, if it has come by. -/
def outL (d : Dt) (m : List Dt) : List Dt := if aft d m then ins d m else m
theorem aft_snoc (d x : Dt) (m : List Dt) : aft d (m ++ [x]) = (aft d m || decide (d.t < x.t)) := by unfold aft; rw [List.any_append]; simp
theorem ins_before {d : Dt} : ∀ {m : List Dt}, aft d m = false → ∀ r, ins d (m ++ r) = m ++ ins d r
  | [], _, _ => rfl
  | p :: m, h, r => by
    unfold aft at h
    rw [List.any_cons, Bool.or_eq_false_iff, decide_eq_false_iff_not] at h
    rw [List.cons_append, ins, if_neg h.1, ins_before (m := m) h.2 r]; rfl
theorem ins_after {d : Dt} : ∀ {m : List Dt}, aft d m = true → ∀ r, ins d (m ++ r) = ins d m ++ r
  | [], h, _ => by cases h
  | p :: m, h, r => by
    unfold aft at h
    rw [List.any_cons, Bool.or_eq_true, decide_eq_true_iff] at h
    rw [List.cons_append, ins, ins]
    by_cases c : d.t < p.t
    · rw [if_pos c, if_pos c]; rfl
    · rw [if_neg c, if_neg c, ins_after (m := m) (h.resolve_left c) r]; rfl
theorem outL_put {d x : Dt} {m : List Dt} (h : aft d m = true) : outL d (m ++ [x]) = outL d m ++ [x] := by
  unfold outL
  rw [aft_snoc, h, Bool.true_or, if_pos rfl, if_pos rfl, ins_after h]
theorem outL_now {d x : Dt} {m : List Dt} (h : aft d m = false) (hx : d.t < x.t) : outL d (m ++ [x]) = (outL d m ++ [d]) ++ [x] := by
  unfold outL
  rw [aft_snoc, h, decide_eq_true hx, Bool.false_or, if_pos rfl, if_neg (by decide), ins_before h, ins, if_pos hx]; simp
theorem outL_not {d x : Dt} {m : List Dt} (h : aft d m = false) (hx : ¬ d.t < x.t) : outL d (m ++ [x]) = outL d m ++ [x] := by
  unfold outL
  rw [aft_snoc, h, decide_eq_false hx, Bool.false_or, if_neg (by decide), if_neg (by decide)]
theorem outL_end {d : Dt} {m : List Dt} (h : aft d m = false) : outL d m ++ [d] = ins d m := by
  unfold outL
  rw [h, if_neg (by decide)]
  have := ins_before h []
  rw [List.append_nil] at this
  rw [this]; rfl
theorem tup2 (a : Value) {b c : Bool} (h : b = c) : Ending.returned (.tuple #[a, .bool b]) = .returned (.tuple #[a, .bool c]) := by rw [h]
theorem take_gd {l : List Dt} {k : Nat} (h : k < l.length) : l.take (k + 1) = l.take k ++ [gd l k] := by
  rw [gd_lt h, List.take_add_one, List.getElem?_eq_getElem h]; rfl
theorem outL_length (d : Dt) (m : List Dt) : (outL d m).length ≤ m.length + 1 := by
  unfold outL; split
  · rw [DecM.ins_length]; omega
  · omega
/-- Whether a day is free. -/
def freeD (d : Dt) (l : List Dt) : Bool := !l.any (fun p => decide (p.t = d.t))
def wthL (d : Dt) (l : List Dt) : List Dt := if freeD d l then ins d l else l

set_option maxRecDepth 100000 in
set_option maxHeartbeats 16000000 in
/-- putlogref26.With. -/
theorem with_any (v : Value) (l : List Dt) (d : Dt) (w : World) (hl16 : l.length ≤ 1000) (h : SlD w v l) :
    Calls Tryz.prog 44 #[v, .agg #[.int .i64 d.t, .int .i64 d.lo, .int .i64 d.hi]] w fun e w' => ∃ u, e = .returned (.tuple #[u, .bool (freeD d l)]) ∧ SlD w' u (wthL d l) ∧ Below w.heap.size w w' := by
  have hw1 : freeD d l = true → wthL d l = ins d l := fun h => by unfold wthL; rw [if_pos h]
  have hw2 : freeD d l = false → wthL d l = l := fun h => by unfold wthL; rw [h, if_neg (by decide)]
  generalize wthL d l = wl at *
  generalize hfd : freeD d l = fd at *
  replace hw1 := Lib.hid hw1
  replace hw2 := Lib.hid hw2
  obtain ⟨ag, cap, rfl⟩ := h.shape
  obtain ⟨V, hV⟩ : ∃ V, V = w.alloc (.cells #[.int .i64 d.t, .int .i64 d.lo, .int .i64 d.hi] 59) := ⟨_, rfl⟩
  have hbox : Blk V w.heap.size #[.int .i64 d.t, .int .i64 d.lo, .int .i64 d.hi] 59 := by rw [hV]; exact Blk.new _ _ _
  have hB0 : Below w.heap.size w V := by rw [hV]; exact (Below.refl _ w).alloc (Nat.le_refl _) _
  have hD : SlD V (.slice ag l.length cap) l := h.below hB0
  clear h
  go_enter Tryz.func44, Tryz.ntmps44
  go_wp2_with fail
  rw [← hV]
  clear hV
  go_loopw [6, 7, 8] (fun o pt i wr => ∃ (k n : Nat), i = .int .i64 k ∧ k ≤ l.length ∧ pt = .bool (aft d (l.take k)) ∧ wr.ownsRow V.heap.size 59 3 o n (dfl (outL d (l.take k))) ∧ Below V.heap.size V wr ∧ (∀ p ∈ l.take k, p.t ≠ d.t)) (fun _ _ i _ => l.length - (intOf i).toNat)
  case atStart => exact ⟨0, 0, rfl, by omega, rfl, ⟨rfl, .inl ⟨rfl, rfl⟩⟩, Below.refl _ _, fun p hp => by simp at hp⟩
  case round =>
    obtain ⟨k, n, rfl, hk, rfl, hown, hB, hne⟩ := hrel
    have hn0 : n ≤ l.length + 1 := by
      have h1 := hown.1
      rw [dfl_length] at h1
      have h2 := outL_length d (l.take k)
      rw [List.length_take] at h2
      omega
    have hbx := hbox.below hB
    have f0 := hbx.cell 0
    have f1 := hbx.cell 1
    have f2 := hbx.cell 2
    simp only [List.getElem?_toArray, List.getElem?_cons_zero, List.getElem?_cons_succ] at f0 f1 f2
    by_cases hkl : k < l.length
    · rcases id hD with ⟨-, e⟩ | ⟨b0, off, cap3, e, g1, g2, g3, g4⟩
      · rw [e] at hkl; exact absurd hkl (by simp)
      · cases e
        unfold maxLen at g2
        have hcl := g4 k hkl
        obtain ⟨d0, d1, d2⟩ := hcl.below hB g3
        have htk := take_gd hkl
        have hgm := gd_mem hkl
        have hfr : (gd l k).t = d.t → fd = false := fun e => by
          rw [← hfd]
          unfold freeD
          rw [show l.any (fun p => decide (p.t = d.t)) = true from List.any_eq_true.2 ⟨_, hgm, by simpa using e⟩]; rfl
        clear hgm
        generalize gd l k = x at *
        replace hfr := Lib.hid hfr
        have hdc := Lib.hid (show ∀ W, Below V.heap.size V W → (W.cell? ⟨b0, off + k * 3, none⟩ = some (.int .i64 x.t) ∧ W.cell? ⟨b0, off + k * 3 + 1, none⟩ = some (.int .i64 x.lo) ∧ W.cell? ⟨b0, off + k * 3 + 2, none⟩ = some (.int .i64 x.hi)) from fun W hb => hcl.below hb g3)
        clear hcl g4
        go_upto_region 6 with fail
        by_cases he0 : x.t = d.t
        all_goals have he := Lib.hid he0
        · have hq : (x.t == d.t) = true := by simpa using he0
          clear he0
          refine wp_region_quiet (C := fun W' => W' = wr.drew) rfl (by kernel_rfl) rfl (Walled.out ?_)
          refine qWant rfl fun K hK => ?_
          go_simp
          first | refine hK _ ?_ | refine ⟨_, fun _ _ => rfl, hK _ ?_⟩
          clear hK K
          refine qWant rfl fun K hK => ?_
          go_simp
          first | refine hK _ ?_ | refine ⟨_, fun _ _ => rfl, hK _ ?_⟩
          clear hK K
          refine qWant rfl fun K hK => ?_
          go_simp
          first | refine hK _ ?_ | refine ⟨_, fun _ _ => rfl, hK _ ?_⟩
          clear hK K
          refine qWant rfl fun K hK => ?_
          go_simp
          first | refine hK _ ?_ | refine ⟨_, fun _ _ => rfl, hK _ ?_⟩
          clear hK K
          refine qWant rfl fun K hK => ?_
          go_simp
          first | refine hK _ ?_ | (refine ⟨.int .i64 x.t, fun W hW => ?_, hK _ ?_⟩; subst hW; go_simp)
          clear hK K
          refine qWant rfl fun K hK => ?_
          go_simp
          first | refine hK _ ?_ | refine ⟨_, fun _ _ => rfl, hK _ ?_⟩
          clear hK K
          refine qWant rfl fun K hK => ?_
          go_simp
          first | refine hK _ ?_ | (refine ⟨.int .i64 d.t, fun W hW => ?_, hK _ ?_⟩; subst hW; go_simp)
          clear hK K
          refine qWant rfl fun K hK => ?_
          go_simp
          first | refine hK _ ?_ | refine ⟨.bool true, fun _ _ => by first | rfl | exact congrArg Value.bool hq, hK _ ?_⟩
          clear hK K
          refine qNil ?_
          rintro W' rfl
          go_wp2
          refine bodyPost_ret (resT2 rfl _ _ _) rfl ?_
          exact ⟨_, tup2 _ (hfr.out he.out).symm, by rw [hw2.out (hfr.out he.out)]; exact hD.below (hB.trans (below_drewN wr 1 |>.mono hB.size)), hB0.trans ((hB.trans ((below_drewN wr 1).mono hB.size)).mono hB0.size)⟩
        · have hq : (x.t == d.t) = false := by simpa using he0
          clear he0
          have hne2 : ∀ p ∈ l.take (k + 1), p.t ≠ d.t := fun p hp => by
            rw [htk, List.mem_append, List.mem_singleton] at hp
            rcases hp with hp | rfl
            · exact hne p hp
            · exact he.out
          refine wp_region_quiet (C := fun W' => W' = wr.drew) rfl (by kernel_rfl) rfl (Walled.out ?_)
          refine qWant rfl fun K hK => ?_
          go_simp
          first | refine hK _ ?_ | refine ⟨_, fun _ _ => rfl, hK _ ?_⟩
          clear hK K
          refine qWant rfl fun K hK => ?_
          go_simp
          first | refine hK _ ?_ | refine ⟨_, fun _ _ => rfl, hK _ ?_⟩
          clear hK K
          refine qWant rfl fun K hK => ?_
          go_simp
          first | refine hK _ ?_ | refine ⟨_, fun _ _ => rfl, hK _ ?_⟩
          clear hK K
          refine qWant rfl fun K hK => ?_
          go_simp
          first | refine hK _ ?_ | refine ⟨_, fun _ _ => rfl, hK _ ?_⟩
          clear hK K
          refine qWant rfl fun K hK => ?_
          go_simp
          first | refine hK _ ?_ | (refine ⟨.int .i64 x.t, fun W hW => ?_, hK _ ?_⟩; subst hW; go_simp)
          clear hK K
          refine qWant rfl fun K hK => ?_
          go_simp
          first | refine hK _ ?_ | refine ⟨_, fun _ _ => rfl, hK _ ?_⟩
          clear hK K
          refine qWant rfl fun K hK => ?_
          go_simp
          first | refine hK _ ?_ | (refine ⟨.int .i64 d.t, fun W hW => ?_, hK _ ?_⟩; subst hW; go_simp)
          clear hK K
          refine qWant rfl fun K hK => ?_
          go_simp
          first | refine hK _ ?_ | refine ⟨.bool false, fun _ _ => by first | rfl | exact congrArg Value.bool hq, hK _ ?_⟩
          clear hK K
          refine qNil ?_
          rintro W' rfl
          go_upto_region 8 with fail
          have hB2 : Below V.heap.size V wr.drew.drew := hB.trans ((below_drewN wr 2).mono hB.size)
          have hown2 : wr.drew.drew.ownsRow V.heap.size 59 3 u6 n (dfl (outL d (l.take k))) := own_below hown (below_drewN wr 2)
          cases ha : aft d (l.take k) with
          | true =>
            try rw [ha]
            refine wp_region_quiet (C := fun W' => W' = wr.drew.drew) rfl (by kernel_rfl) rfl (Walled.out ?_)
            refine qWant rfl fun K hK => ?_
            go_simp
            first | refine hK _ ?_ | refine ⟨_, fun _ _ => rfl, hK _ ?_⟩
            clear hK K
            refine qWant rfl fun K hK => ?_
            go_simp
            first | refine hK _ ?_ | refine ⟨_, fun _ _ => rfl, hK _ ?_⟩
            clear hK K
            refine qWant rfl fun K hK => ?_
            go_simp
            first | refine hK _ ?_ | refine ⟨_, fun _ _ => rfl, hK _ ?_⟩
            clear hK K
            refine qStep fun K hK => ?_
            go_simp
            refine hK _ ?_
            clear hK K
            refine qStep fun K hK => ?_
            go_simp
            refine hK _ ?_
            clear hK K
            refine qStep fun K hK => ?_
            go_simp
            refine hK _ ?_
            clear hK K
            refine qStep fun K hK => ?_
            go_simp
            refine hK _ ?_
            clear hK K
            refine qStep fun K hK => ?_
            go_simp
            refine hK _ ?_
            clear hK K
            refine qStep fun K hK => ?_
            go_simp
            refine hK _ ?_
            clear hK K
            refine qStep fun K hK => ?_
            go_simp
            refine hK _ ?_
            clear hK K
            refine qStep fun K hK => ?_
            go_simp
            refine hK _ ?_
            clear hK K
            refine qWant rfl fun K hK => ?_
            go_simp
            first | refine hK _ ?_ | refine ⟨_, fun _ _ => rfl, hK _ ?_⟩
            clear hK K
            refine qNil ?_
            rintro W' rfl
            skip
            have eo := outL_put (x := x) ha
            rw [← htk] at eo
            have ea : aft d (l.take (k + 1)) = true := by rw [htk, aft_snoc, ha, Bool.true_or]
            have hbx2 := hbox.below hB2
            have f0' := hbx2.cell 0
            have f1' := hbx2.cell 1
            have f2' := hbx2.cell 2
            simp only [List.getElem?_toArray, List.getElem?_cons_zero, List.getElem?_cons_succ] at f0' f1' f2'
            obtain ⟨d0', d1', d2'⟩ := hdc.out _ hB2
            go_wp2_with (at_builtin; refine wp_app_dt x 25 Tryz.underlying25 rfl _ _ rfl rfl rfl hown2 (by omega) hB2.size ?_; intro g1 cap1 w1 hown1 hgrow1 hb1)
            go_roundw
            case rel => exact ⟨k + 1, n + 1, by go_num, by omega, by rw [ea], by rw [eo]; exact hown1, hB2.trans hb1, hne2⟩
            case measure => simp [intOf]; omega
          | false =>
            try rw [ha]
            by_cases hx : d.t < x.t
            · have eo := outL_now ha hx
              rw [← htk] at eo
              have ea : aft d (l.take (k + 1)) = true := by rw [htk, aft_snoc, ha, decide_eq_true hx]; rfl
              refine wp_region_quiet (C := fun W' => W' = wr.drew.drew) rfl (by kernel_rfl) rfl (Walled.out ?_)
              refine qWant rfl fun K hK => ?_
              go_simp
              first | refine hK _ ?_ | refine ⟨_, fun _ _ => rfl, hK _ ?_⟩
              clear hK K
              refine qWant rfl fun K hK => ?_
              go_simp
              first | refine hK _ ?_ | refine ⟨_, fun _ _ => rfl, hK _ ?_⟩
              clear hK K
              refine qWant rfl fun K hK => ?_
              go_simp
              first | refine hK _ ?_ | refine ⟨_, fun _ _ => rfl, hK _ ?_⟩
              clear hK K
              refine qWant rfl fun K hK => ?_
              go_simp
              first | refine hK _ ?_ | refine ⟨_, fun _ _ => rfl, hK _ ?_⟩
              clear hK K
              refine qWant rfl fun K hK => ?_
              go_simp
              first | refine hK _ ?_ | refine ⟨_, fun _ _ => rfl, hK _ ?_⟩
              clear hK K
              refine qWant rfl fun K hK => ?_
              go_simp
              first | refine hK _ ?_ | refine ⟨_, fun _ _ => rfl, hK _ ?_⟩
              clear hK K
              refine qWant rfl fun K hK => ?_
              go_simp
              first | refine hK _ ?_ | refine ⟨_, fun _ _ => rfl, hK _ ?_⟩
              clear hK K
              refine qWant rfl fun K hK => ?_
              go_simp
              first | refine hK _ ?_ | (refine ⟨.int .i64 x.t, fun W hW => ?_, hK _ ?_⟩; subst hW; go_simp)
              clear hK K
              refine qWant rfl fun K hK => ?_
              go_simp
              first | refine hK _ ?_ | refine ⟨_, fun _ _ => rfl, hK _ ?_⟩
              clear hK K
              refine qWant rfl fun K hK => ?_
              go_simp
              first | refine hK _ ?_ | (refine ⟨.int .i64 d.t, fun W hW => ?_, hK _ ?_⟩; subst hW; go_simp)
              clear hK K
              refine qWant rfl fun K hK => ?_
              go_simp
              first | refine hK _ ?_ | refine ⟨.bool true, fun _ _ => by first | rfl | exact congrArg Value.bool (decide_eq_true hx), hK _ ?_⟩
              clear hK K
              refine qWant rfl fun K hK => ?_
              go_simp
              first | refine hK _ ?_ | refine ⟨_, fun _ _ => rfl, hK _ ?_⟩
              clear hK K
              refine qNil ?_
              rintro W' rfl
              skip
              have hbx2 := hbox.below hB2
              have f0' := hbx2.cell 0
              have f1' := hbx2.cell 1
              have f2' := hbx2.cell 2
              simp only [List.getElem?_toArray, List.getElem?_cons_zero, List.getElem?_cons_succ] at f0' f1' f2'
              obtain ⟨d0', d1', d2'⟩ := hdc.out _ hB2
              go_upto_region 11 with (at_builtin; refine wp_app_dt d 25 Tryz.underlying25 rfl _ _ rfl rfl rfl hown2 (by omega) hB2.size ?_; intro g1 cap1 w1 hown1 hgrow1 hb1)
              have hB3 := hB2.trans hb1
              clear f0' f1' f2' d0' d1' d2'
              have hbx2 := hbox.below hB3
              have f0' := hbx2.cell 0
              have f1' := hbx2.cell 1
              have f2' := hbx2.cell 2
              simp only [List.getElem?_toArray, List.getElem?_cons_zero, List.getElem?_cons_succ] at f0' f1' f2'
              obtain ⟨d0', d1', d2'⟩ := hdc.out _ hB3
              go_wp2_with (at_builtin; refine wp_app_dt x 25 Tryz.underlying25 rfl _ _ rfl rfl rfl hown1 (by omega) hB3.size ?_; intro g2 cap2 w2 hown2 hgrow2 hb2)
              go_roundw
              case rel => exact ⟨k + 1, n + 1 + 1, by go_num, by omega, by rw [ea], by rw [eo]; exact hown2, hB3.trans hb2, hne2⟩
              case measure => simp [intOf]; omega
            · have eo := outL_not ha hx
              rw [← htk] at eo
              have ea : aft d (l.take (k + 1)) = false := by rw [htk, aft_snoc, ha, decide_eq_false hx]; rfl
              refine wp_region_quiet (C := fun W' => W' = wr.drew.drew) rfl (by kernel_rfl) rfl (Walled.out ?_)
              refine qWant rfl fun K hK => ?_
              go_simp
              first | refine hK _ ?_ | refine ⟨_, fun _ _ => rfl, hK _ ?_⟩
              clear hK K
              refine qWant rfl fun K hK => ?_
              go_simp
              first | refine hK _ ?_ | refine ⟨_, fun _ _ => rfl, hK _ ?_⟩
              clear hK K
              refine qWant rfl fun K hK => ?_
              go_simp
              first | refine hK _ ?_ | refine ⟨_, fun _ _ => rfl, hK _ ?_⟩
              clear hK K
              refine qWant rfl fun K hK => ?_
              go_simp
              first | refine hK _ ?_ | refine ⟨_, fun _ _ => rfl, hK _ ?_⟩
              clear hK K
              refine qWant rfl fun K hK => ?_
              go_simp
              first | refine hK _ ?_ | refine ⟨_, fun _ _ => rfl, hK _ ?_⟩
              clear hK K
              refine qWant rfl fun K hK => ?_
              go_simp
              first | refine hK _ ?_ | refine ⟨_, fun _ _ => rfl, hK _ ?_⟩
              clear hK K
              refine qWant rfl fun K hK => ?_
              go_simp
              first | refine hK _ ?_ | refine ⟨_, fun _ _ => rfl, hK _ ?_⟩
              clear hK K
              refine qWant rfl fun K hK => ?_
              go_simp
              first | refine hK _ ?_ | (refine ⟨.int .i64 x.t, fun W hW => ?_, hK _ ?_⟩; subst hW; go_simp)
              clear hK K
              refine qWant rfl fun K hK => ?_
              go_simp
              first | refine hK _ ?_ | refine ⟨_, fun _ _ => rfl, hK _ ?_⟩
              clear hK K
              refine qWant rfl fun K hK => ?_
              go_simp
              first | refine hK _ ?_ | (refine ⟨.int .i64 d.t, fun W hW => ?_, hK _ ?_⟩; subst hW; go_simp)
              clear hK K
              refine qWant rfl fun K hK => ?_
              go_simp
              first | refine hK _ ?_ | refine ⟨.bool false, fun _ _ => by first | rfl | exact congrArg Value.bool (decide_eq_false hx), hK _ ?_⟩
              clear hK K
              refine qWant rfl fun K hK => ?_
              go_simp
              first | refine hK _ ?_ | refine ⟨_, fun _ _ => rfl, hK _ ?_⟩
              clear hK K
              refine qNil ?_
              rintro W' rfl
              skip
              have hbx2 := hbox.below hB2
              have f0' := hbx2.cell 0
              have f1' := hbx2.cell 1
              have f2' := hbx2.cell 2
              simp only [List.getElem?_toArray, List.getElem?_cons_zero, List.getElem?_cons_succ] at f0' f1' f2'
              obtain ⟨d0', d1', d2'⟩ := hdc.out _ hB2
              go_wp2_with (at_builtin; refine wp_app_dt x 25 Tryz.underlying25 rfl _ _ rfl rfl rfl hown2 (by omega) hB2.size ?_; intro g1 cap1 w1 hown1 hgrow1 hb1)
              go_roundw
              case rel => exact ⟨k + 1, n + 1, by go_num, by omega, by rw [ea], by rw [eo]; exact hown1, hB2.trans hb1, hne2⟩
              case measure => simp [intOf]; omega
    · have hke : k = l.length := by omega
      subst hke
      rw [List.take_length] at hown hne ⊢
      have hf : fd = true := by
        rw [← hfd]
        unfold freeD
        rw [Bool.not_eq_true', List.any_eq_false]
        intro p hp
        simpa using hne p hp
      cases ha : aft d l with
      | true =>
        try rw [ha]
        go_wp2
        refine bodyPost_ret (resT2 rfl _ _ _) rfl ?_
        exact ⟨_, tup2 _ hf.symm, by rw [hw1.out hf]; have := SlD.of_own hown; unfold outL at this; rwa [ha, if_pos rfl] at this, hB0.trans (hB.mono hB0.size)⟩
      | false =>
        try rw [ha]
        go_wp2_with (at_builtin; refine wp_app_dt d 25 Tryz.underlying25 rfl _ _ rfl rfl rfl hown (by omega) hB.size ?_; intro g1 cap1 w1 hown1 hgrow1 hb1)
        go_wp2
        refine bodyPost_ret (resT2 rfl _ _ _) rfl ?_
        exact ⟨_, tup2 _ hf.symm, by rw [hw1.out hf, ← outL_end ha]; exact SlD.of_own hown1, hB0.trans ((hB.trans hb1).mono hB0.size)⟩
end Go.Proofs.YtonbmhdbcbbagaaGreatDoor
