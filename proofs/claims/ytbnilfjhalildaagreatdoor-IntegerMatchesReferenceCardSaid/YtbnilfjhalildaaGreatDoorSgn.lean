/- signed.plus. -/
import Derived.Test.YtbnilfjhalildaaGreatDoorSum
import Derived.Test.YtbnilfjhalildaaGreatDoorCmp
import Derived.Test.YtbnilfjhalildaaGreatDoorTxtM
import Derived.Deep.RegionHeld3
namespace Go.Proofs.YtbnilfjhalildaaGreatDoor
open Go.RowKit
attribute [local go_sem] Oper.semAt_some

/-- A signed number that reads as the integer z. -/
def Sg (w : World) (v : Value) (z : Int) : Prop := ∃ neg u xs n, v = .agg #[.bool neg, u] ∧ Sl w u xs ∧ Num 10000 xs n ∧ z = sgn neg n

/-- What a drawn region of signed.plus may count on. -/
theorem plus_start (w : World) (s t : Bool) (v u : Value) : ∃ W0, W0 = (((w.alloc (.cells #[.bool s, v] 50)).alloc (.cells #[.bool t, u] 50)).alloc (.cells #[.bool false, .slice none 0 0] 50)) ∧
    W0.cell? ⟨w.heap.size, 0, none⟩ = some (.bool s) ∧ W0.cell? ⟨w.heap.size, 1, none⟩ = some v ∧ W0.cell? ⟨w.heap.size + 1, 0, none⟩ = some (.bool t) ∧ W0.cell? ⟨w.heap.size + 1, 1, none⟩ = some u ∧
    Blk W0 (w.heap.size + 1 + 1) #[.bool false, .slice none 0 0] 50 ∧ Below w.heap.size w W0 := by
  have b1 : Blk (((w.alloc (.cells #[.bool s, v] 50)).alloc (.cells #[.bool t, u] 50)).alloc (.cells #[.bool false, .slice none 0 0] 50)) w.heap.size #[.bool s, v] 50 := ((Blk.new w _ _).alloc _).alloc _
  have b2 : Blk (((w.alloc (.cells #[.bool s, v] 50)).alloc (.cells #[.bool t, u] 50)).alloc (.cells #[.bool false, .slice none 0 0] 50)) (w.heap.size + 1) #[.bool t, u] 50 := by
    have := (Blk.new (w.alloc (.cells #[.bool s, v] 50)) #[.bool t, u] 50).alloc (.cells #[.bool false, .slice none 0 0] 50)
    rwa [World.size_alloc] at this
  have b3 : Blk (((w.alloc (.cells #[.bool s, v] 50)).alloc (.cells #[.bool t, u] 50)).alloc (.cells #[.bool false, .slice none 0 0] 50)) (w.heap.size + 1 + 1) #[.bool false, .slice none 0 0] 50 := by
    have := Blk.new ((w.alloc (.cells #[.bool s, v] 50)).alloc (.cells #[.bool t, u] 50)) #[.bool false, .slice none 0 0] 50
    rwa [World.size_alloc, World.size_alloc] at this
  exact ⟨_, rfl, b1.cell 0, b1.cell 1, b2.cell 0, b2.cell 1, b3, (((Below.refl _ _).alloc (Nat.le_refl _) _).alloc (by simp) _).alloc (by simp; omega) _⟩

/-- The result's block is there, and what was there before has not turned. -/
structure PK (w W : World) : Prop where
  blk : Blk W (w.heap.size + 1 + 1) #[.bool false, .slice none 0 0] 50
  below : Below w.heap.size w W
theorem PK.drew {w W : World} (h : PK w W) : PK w W.drew := ⟨h.blk, h.below.trans ((below_drewN W 1).mono h.below.size)⟩
theorem PK.call {w W W' : World} (hb : Below W.heap.size W W') (h : PK w W) : PK w W' := ⟨h.blk.below hb, h.below.trans (hb.mono h.below.size)⟩
theorem PK.froz {w W : World} (h : PK w W) (i : Nat) : W.frozen? ⟨w.heap.size + 1 + 1, i, none⟩ = false := h.blk.frozen i
theorem cell_kept {W W' : World} {p : Addr} {v : Value} (hb : Below W.heap.size W W') (h : W.cell? p = some v) : W'.cell? p = some v := (hb.cell (World.block_lt_of_cell? W _ h)).trans h

theorem kb_drew {B : Nat} {w W : World} (h : Below B w W) : Below B w W.drew := ⟨h.os, h.tape, h.output, h.size, h.block⟩
theorem far2 {W : World} {b B i : Nat} {v : Value} (h : W.cell? ⟨b, i, none⟩ = some v) (hne : b ≠ B) (x y : Value) : ((W.setCell ⟨B, 0, none⟩ x).setCell ⟨B, 1, none⟩ y).cell? ⟨b, i, none⟩ = some v :=
  ((World.cell?_of_block (a := ⟨b, i, none⟩) (w := W.setCell ⟨B, 0, none⟩ x) (Below.heap_setCell (W.setCell ⟨B, 0, none⟩ x) ⟨B, 1, none⟩ y b hne)).trans (World.cell?_of_block (a := ⟨b, i, none⟩) (w := W) (Below.heap_setCell W ⟨B, 0, none⟩ x b hne))).trans h
/-- What the drawn regions count on, behind the store. -/
theorem s_store {w W : World} {x1 x2 x3 x4 : Value} (h : W.cell? ⟨w.heap.size, 0, none⟩ = some x1 ∧ W.cell? ⟨w.heap.size, 1, none⟩ = some x2 ∧ W.cell? ⟨w.heap.size + 1, 0, none⟩ = some x3 ∧ W.cell? ⟨w.heap.size + 1, 1, none⟩ = some x4 ∧ Below w.heap.size w W) (x y : Value) :
    ((W.setCell ⟨w.heap.size + 1 + 1, 0, none⟩ x).setCell ⟨w.heap.size + 1 + 1, 1, none⟩ y).cell? ⟨w.heap.size, 0, none⟩ = some x1 ∧ ((W.setCell ⟨w.heap.size + 1 + 1, 0, none⟩ x).setCell ⟨w.heap.size + 1 + 1, 1, none⟩ y).cell? ⟨w.heap.size, 1, none⟩ = some x2 ∧
    ((W.setCell ⟨w.heap.size + 1 + 1, 0, none⟩ x).setCell ⟨w.heap.size + 1 + 1, 1, none⟩ y).cell? ⟨w.heap.size + 1, 0, none⟩ = some x3 ∧ ((W.setCell ⟨w.heap.size + 1 + 1, 0, none⟩ x).setCell ⟨w.heap.size + 1 + 1, 1, none⟩ y).cell? ⟨w.heap.size + 1, 1, none⟩ = some x4 ∧
    Below w.heap.size w ((W.setCell ⟨w.heap.size + 1 + 1, 0, none⟩ x).setCell ⟨w.heap.size + 1 + 1, 1, none⟩ y) :=
  ⟨far2 h.1 (by omega) _ _, far2 h.2.1 (by omega) _ _, far2 h.2.2.1 (by omega) _ _, far2 h.2.2.2.1 (by omega) _ _,
    (h.2.2.2.2.setCell (p := ⟨w.heap.size + 1 + 1, 0, none⟩) (Nat.le_add_right w.heap.size 2) x).setCell (p := ⟨w.heap.size + 1 + 1, 1, none⟩) (Nat.le_add_right w.heap.size 2) y⟩
theorem kb_call {B : Nat} {w W W' : World} (hb : Below W.heap.size W W') (h : Below B w W) (hB : B ≤ w.heap.size) : Below B w W' := h.trans (hb.mono (Nat.le_trans hB h.size))

set_option maxRecDepth 100000 in
set_option maxHeartbeats 4000000 in
theorem sgn_plus_same (s t : Bool) (v u : Value) (xs ys : List Int) (m n : Int) (w : World) (hv : Sl w v xs) (hu : Sl w u ys) (hx : Num 10000 xs m) (hy : Num 10000 ys n) (hlx : xs.length ≤ 100000) (hly : ys.length ≤ 100000) (hst : s = t) :
    Calls Tryz.prog 39 #[.agg #[.bool s, v], .agg #[.bool t, u]] w (Gives w fun r w' => Sg w' r (sgn s m + sgn t n)) := by
  obtain ⟨a1, c1, rfl⟩ := hv.shape
  obtain ⟨a2, c2, rfl⟩ := hu.shape
  subst hst
  obtain ⟨W0, hW0, h1, h2, h3, h4, h5, hb⟩ := plus_start w s s (.slice a1 xs.length c1) (.slice a2 ys.length c2)
  have hpk : PK w W0 := ⟨h5, hb⟩
  clear h5
  go_enter Tryz.func39, Tryz.ntmps39
  go_wp2_with fail
  rw [← hW0]
  clear hW0
  go_region_held3 (fun w' => w'.cell? ⟨w.heap.size, 0, none⟩ = some (.bool s) ∧ w'.cell? ⟨w.heap.size, 1, none⟩ = some (.slice a1 xs.length c1) ∧ w'.cell? ⟨w.heap.size + 1, 0, none⟩ = some (.bool s) ∧ w'.cell? ⟨w.heap.size + 1, 1, none⟩ = some (.slice a2 ys.length c2) ∧ Below w.heap.size w w')
    (first | (exact s_store (by assumption) _ _) | (refine ⟨?_, ?_, ?_, ?_, ?_⟩ <;> first | assumption | (with_reducible apply kb_drew; assumption) | (with_reducible exact PK.below (by assumption)) | (apply cell_kept <;> assumption) | go_keep))
    (first | (go_at_call 43; refine (plus_any _ _ xs ys _ (hv.below (by first | assumption | (apply kb_drew; assumption))) (hu.below (by first | assumption | (apply kb_drew; assumption))) hx.dig hy.dig hlx hly).mono ?_; rintro e w' ⟨⟨r, rfl, zs, hz1, hz2, hz3⟩, hbz⟩; obtain ⟨a5, c5, rfl⟩ := hz1.shape; have kk := PK.call hbz (PK.drew hpk); have k0 := kk.blk.cell 0; have k1 := kk.blk.cell 1; have f0 := kk.blk.frozen 0; have f1 := kk.blk.frozen 1; simp only [List.getElem?_toArray, List.getElem?_cons_zero, List.getElem?_cons_succ] at k0 k1))
  have m1 := kk.blk.set 0 (.bool s)
  have m2 := m1.set 1 (.slice a5 zs.length c5)
  have y0 := m2.cell 0
  have y1 := m2.cell 1
  simp only [List.setIfInBounds_toArray, List.set_cons_zero, List.set_cons_succ, List.getElem?_toArray, List.getElem?_cons_zero, List.getElem?_cons_succ] at y0 y1
  have z1 := (hz1.setBlk kk.blk (no_int2 _ _ (fun n e => by cases e)) 0 (.bool s)).setBlk m1 (no_int2 _ _ (fun n e => by cases e)) 1 (.slice a5 zs.length c5)
  have hfin : Below w.heap.size w ((w'.setCell ⟨w.heap.size + 1 + 1, 0, none⟩ (.bool s)).setCell ⟨w.heap.size + 1 + 1, 1, none⟩ (.slice a5 zs.length c5)) := (kk.below.setCell (p := ⟨w.heap.size + 1 + 1, 0, none⟩) (Nat.le_add_right w.heap.size 2) _).setCell (p := ⟨w.heap.size + 1 + 1, 1, none⟩) (Nat.le_add_right w.heap.size 2) _
  go_wp2
  refine bodyPost_ret (v := .agg #[.bool s, .slice a5 zs.length c5]) (by simp [results, Tryz.results39, go_sem, y0, y1]) rfl ?_
  refine ⟨⟨_, rfl, s, _, _, _, rfl, z1, hz2, ?_⟩, hfin⟩
  rw [hx.val, hy.val]
  unfold sgn
  split
  · omega
  · rfl

set_option maxRecDepth 100000 in
set_option maxHeartbeats 4000000 in
theorem sgn_plus_ge (s t : Bool) (v u : Value) (xs ys : List Int) (m n : Int) (w : World) (hv : Sl w v xs) (hu : Sl w u ys) (hx : Num 10000 xs m) (hy : Num 10000 ys n) (hlx : xs.length ≤ 100000) (hst : s ≠ t) (hle : n ≤ m) :
    Calls Tryz.prog 39 #[.agg #[.bool s, v], .agg #[.bool t, u]] w (Gives w fun r w' => Sg w' r (sgn s m + sgn t n)) := by
  obtain ⟨a1, c1, rfl⟩ := hv.shape
  obtain ⟨a2, c2, rfl⟩ := hu.shape
  obtain ⟨W0, hW0, h1, h2, h3, h4, h5, hb⟩ := plus_start w s t (.slice a1 xs.length c1) (.slice a2 ys.length c2)
  have hpk0 : PK w W0 := ⟨h5, hb⟩
  have hcb : (s == t) = false := by cases s <;> cases t <;> simp_all
  have Hst := Lib.hid hst
  have hcm := cmpL_num hx hy
  have hc0 : (0 : Int) ≤ Lib.compareInt m n := by
    rcases Int.lt_or_eq_of_le hle with h | rfl
    · rw [compareInt_gt h]; decide
    · rw [compareInt_eq]; decide
  have Hle := Lib.hid hle
  have Hlen := Lib.hid (hy.len_le (by decide) hx hle)
  clear hst hle h5
  go_enter Tryz.func39, Tryz.ntmps39
  go_wp2_with fail
  rw [← hW0]
  clear hW0
  refine (compare_any _ _ xs ys _ (hv.below hb) (hu.below hb)).mono ?_
  rintro e W1 ⟨rfl, hb1⟩
  have q1 := cell_kept hb1 h1
  have q2 := cell_kept hb1 h2
  have q3 := cell_kept hb1 h3
  have q4 := cell_kept hb1 h4
  have hpk := PK.call hb1 hpk0
  clear hpk0 h1 h2 h3 h4 hb hb1
  have hb := hpk.below
  rw [hcm]
  clear hcm
  go_wp2_with fail
  go_region_held3 (fun w' => w'.cell? ⟨w.heap.size, 0, none⟩ = some (.bool s) ∧ w'.cell? ⟨w.heap.size, 1, none⟩ = some (.slice a1 xs.length c1) ∧ w'.cell? ⟨w.heap.size + 1, 0, none⟩ = some (.bool t) ∧ w'.cell? ⟨w.heap.size + 1, 1, none⟩ = some (.slice a2 ys.length c2) ∧ Below w.heap.size w w')
    (first | (exact s_store (by assumption) _ _) | (refine ⟨?_, ?_, ?_, ?_, ?_⟩ <;> first | assumption | (with_reducible apply kb_drew; assumption) | (with_reducible exact PK.below (by assumption)) | (apply cell_kept <;> assumption) | go_keep))
    (first | (go_at_call 45; refine (minus_any _ _ xs ys _ (hv.below (by first | assumption | (apply kb_drew; assumption))) (hu.below (by first | assumption | (apply kb_drew; assumption))) hx.dig hy.dig hlx Hlen.out (by rw [hx.val, hy.val]; exact Hle.out)).mono ?_; rintro e w' ⟨⟨r, rfl, zs, hz1, hz2, hz3⟩, hbz⟩; obtain ⟨a5, c5, rfl⟩ := hz1.shape; have kk := PK.call hbz (PK.drew hpk); have k0 := kk.blk.cell 0; have k1 := kk.blk.cell 1; have f0 := kk.blk.frozen 0; have f1 := kk.blk.frozen 1; simp only [List.getElem?_toArray, List.getElem?_cons_zero, List.getElem?_cons_succ] at k0 k1))
  have m1 := kk.blk.set 0 (.bool s)
  have m2 := m1.set 1 (.slice a5 zs.length c5)
  have y0 := m2.cell 0
  have y1 := m2.cell 1
  simp only [List.setIfInBounds_toArray, List.set_cons_zero, List.set_cons_succ, List.getElem?_toArray, List.getElem?_cons_zero, List.getElem?_cons_succ] at y0 y1
  have z1 := (hz1.setBlk kk.blk (no_int2 _ _ (fun n e => by cases e)) 0 (.bool s)).setBlk m1 (no_int2 _ _ (fun n e => by cases e)) 1 (.slice a5 zs.length c5)
  have hfin : Below w.heap.size w ((w'.setCell ⟨w.heap.size + 1 + 1, 0, none⟩ (.bool s)).setCell ⟨w.heap.size + 1 + 1, 1, none⟩ (.slice a5 zs.length c5)) := (kk.below.setCell (p := ⟨w.heap.size + 1 + 1, 0, none⟩) (Nat.le_add_right w.heap.size 2) _).setCell (p := ⟨w.heap.size + 1 + 1, 1, none⟩) (Nat.le_add_right w.heap.size 2) _
  go_wp2
  refine bodyPost_ret (v := .agg #[.bool s, .slice a5 zs.length c5]) (by simp [results, Tryz.results39, go_sem, y0, y1]) rfl ?_
  refine ⟨⟨_, rfl, s, _, _, _, rfl, z1, hz2, ?_⟩, hfin⟩
  rw [hx.val, hy.val]
  have := Hst.out
  cases s <;> cases t <;> simp_all [sgn] <;> omega

set_option maxRecDepth 100000 in
set_option maxHeartbeats 4000000 in
theorem sgn_plus_lt (s t : Bool) (v u : Value) (xs ys : List Int) (m n : Int) (w : World) (hv : Sl w v xs) (hu : Sl w u ys) (hx : Num 10000 xs m) (hy : Num 10000 ys n) (hly : ys.length ≤ 100000) (hst : s ≠ t) (hle : m < n) :
    Calls Tryz.prog 39 #[.agg #[.bool s, v], .agg #[.bool t, u]] w (Gives w fun r w' => Sg w' r (sgn s m + sgn t n)) := by
  obtain ⟨a1, c1, rfl⟩ := hv.shape
  obtain ⟨a2, c2, rfl⟩ := hu.shape
  obtain ⟨W0, hW0, h1, h2, h3, h4, h5, hb⟩ := plus_start w s t (.slice a1 xs.length c1) (.slice a2 ys.length c2)
  have hpk0 : PK w W0 := ⟨h5, hb⟩
  have hcb : (s == t) = false := by cases s <;> cases t <;> simp_all
  have Hst := Lib.hid hst
  have hcm := cmpL_num hx hy
  have hc0 : ¬ (0 : Int) ≤ Lib.compareInt m n := by rw [compareInt_lt hle]; decide
  have Hle := Lib.hid hle
  have Hlen := Lib.hid (hx.len_le (by decide) hy (Int.le_of_lt hle))
  clear hst hle h5
  go_enter Tryz.func39, Tryz.ntmps39
  go_wp2_with fail
  rw [← hW0]
  clear hW0
  refine (compare_any _ _ xs ys _ (hv.below hb) (hu.below hb)).mono ?_
  rintro e W1 ⟨rfl, hb1⟩
  have q1 := cell_kept hb1 h1
  have q2 := cell_kept hb1 h2
  have q3 := cell_kept hb1 h3
  have q4 := cell_kept hb1 h4
  have hpk := PK.call hb1 hpk0
  clear hpk0 h1 h2 h3 h4 hb hb1
  have hb := hpk.below
  rw [hcm]
  clear hcm
  go_wp2_with fail
  go_region_held3 (fun w' => w'.cell? ⟨w.heap.size, 0, none⟩ = some (.bool s) ∧ w'.cell? ⟨w.heap.size, 1, none⟩ = some (.slice a1 xs.length c1) ∧ w'.cell? ⟨w.heap.size + 1, 0, none⟩ = some (.bool t) ∧ w'.cell? ⟨w.heap.size + 1, 1, none⟩ = some (.slice a2 ys.length c2) ∧ Below w.heap.size w w')
    (first | (exact s_store (by assumption) _ _) | (refine ⟨?_, ?_, ?_, ?_, ?_⟩ <;> first | assumption | (with_reducible apply kb_drew; assumption) | (with_reducible exact PK.below (by assumption)) | (apply cell_kept <;> assumption) | go_keep))
    (first | (go_at_call 45; refine (minus_any _ _ ys xs _ (hu.below (by first | assumption | (apply kb_drew; assumption))) (hv.below (by first | assumption | (apply kb_drew; assumption))) hy.dig hx.dig hly Hlen.out (by rw [hx.val, hy.val]; exact Int.le_of_lt Hle.out)).mono ?_; rintro e w' ⟨⟨r, rfl, zs, hz1, hz2, hz3⟩, hbz⟩; obtain ⟨a5, c5, rfl⟩ := hz1.shape; have kk := PK.call hbz (PK.drew hpk); have k0 := kk.blk.cell 0; have k1 := kk.blk.cell 1; have f0 := kk.blk.frozen 0; have f1 := kk.blk.frozen 1; simp only [List.getElem?_toArray, List.getElem?_cons_zero, List.getElem?_cons_succ] at k0 k1))
  have m1 := kk.blk.set 0 (.bool t)
  have m2 := m1.set 1 (.slice a5 zs.length c5)
  have y0 := m2.cell 0
  have y1 := m2.cell 1
  simp only [List.setIfInBounds_toArray, List.set_cons_zero, List.set_cons_succ, List.getElem?_toArray, List.getElem?_cons_zero, List.getElem?_cons_succ] at y0 y1
  have z1 := (hz1.setBlk kk.blk (no_int2 _ _ (fun n e => by cases e)) 0 (.bool t)).setBlk m1 (no_int2 _ _ (fun n e => by cases e)) 1 (.slice a5 zs.length c5)
  have hfin : Below w.heap.size w ((w'.setCell ⟨w.heap.size + 1 + 1, 0, none⟩ (.bool t)).setCell ⟨w.heap.size + 1 + 1, 1, none⟩ (.slice a5 zs.length c5)) := (kk.below.setCell (p := ⟨w.heap.size + 1 + 1, 0, none⟩) (Nat.le_add_right w.heap.size 2) _).setCell (p := ⟨w.heap.size + 1 + 1, 1, none⟩) (Nat.le_add_right w.heap.size 2) _
  go_wp2
  refine bodyPost_ret (v := .agg #[.bool t, .slice a5 zs.length c5]) (by simp [results, Tryz.results39, go_sem, y0, y1]) rfl ?_
  refine ⟨⟨_, rfl, t, _, _, _, rfl, z1, hz2, ?_⟩, hfin⟩
  rw [hx.val, hy.val]
  have := Hst.out
  cases s <;> cases t <;> simp_all [sgn] <;> omega

theorem sgn_plus_any (s t : Bool) (v u : Value) (xs ys : List Int) (m n : Int) (w : World) (hv : Sl w v xs) (hu : Sl w u ys) (hx : Num 10000 xs m) (hy : Num 10000 ys n) (hlx : xs.length ≤ 100000) (hly : ys.length ≤ 100000) :
    Calls Tryz.prog 39 #[.agg #[.bool s, v], .agg #[.bool t, u]] w (Gives w fun r w' => Sg w' r (sgn s m + sgn t n)) := by
  by_cases hst : s = t
  · exact sgn_plus_same s t v u xs ys m n w hv hu hx hy hlx hly hst
  · by_cases hle : n ≤ m
    · exact sgn_plus_ge s t v u xs ys m n w hv hu hx hy hlx hst hle
    · exact sgn_plus_lt s t v u xs ys m n w hv hu hx hy hly hst (by omega)
end Go.Proofs.YtbnilfjhalildaaGreatDoor
