/- both: two strings read as integers. -/
import Derived.Test.YtbnilfjhalildaaGreatDoorStr
import Derived.Test.YtbnilfjhalildaaGreatDoorSgn
namespace Go.Proofs.YtbnilfjhalildaaGreatDoor
open Go.RowKit
attribute [local go_sem] Oper.semAt_some

/-- Whether a string is an integer, and which. -/
def okS (s : ByteArray) : Bool := validB s.data.toList
def zS (s : ByteArray) : Int := ival s.data.toList

/-- A number as parse makes it: marked as negative where it is less than 0. -/
def PV (w : World) (v : Value) (z : Int) : Prop := ∃ u xs, v = .agg #[.bool (decide (z < 0)), u] ∧ Sl w u xs ∧ Num 10000 xs z.natAbs
theorem PV.below {w w' : World} {v : Value} {z : Int} (h : PV w v z) (hb : Below w.heap.size w w') : PV w' v z := by
  obtain ⟨u, xs, h1, h2, h3⟩ := h
  exact ⟨u, xs, h1, h2.below hb, h3⟩

theorem valid_parts {l : List UInt8} (h : validB l = true) : (∀ b ∈ body l, isD b = true) ∧ (body l).length ≤ 200 ∧ (decide ((body l).length < l.length) = decide (ival l < 0)) ∧ (dnum (body l) : Int) = (ival l).natAbs := by
  have h0 := h
  obtain ⟨he, h1, h2⟩ := itoa_of_valid h
  generalize hz : ival l = z at *
  have hb := (ival_itoa z).2
  rw [← he] at hb
  have hs := decDigits_spec z.natAbs
  refine ⟨by rw [hb]; exact hs.2.1, ?_, ?_, by rw [hb, hs.1]⟩
  · unfold validB at h0
    simp only [Bool.and_eq_true, decide_eq_true_iff] at h0
    exact h0.1.1.2
  · rw [hb, he]
    by_cases hn : z < 0
    · rw [itoa_neg hn]; simp [hn]
    · rw [itoa_nonneg (by omega), show z.toNat = z.natAbs by omega]; simp [hn]

theorem parse_pv (s : ByteArray) (w : World) (h : okS s = true) : Calls Tryz.prog 59 #[.string s] w (Gives w fun r w' => PV w' r (zS s)) := by
  obtain ⟨h1, h2, h3, h4⟩ := valid_parts h
  refine (parse_any s _ w rfl h1 h2).mono ?_
  rintro e w' ⟨⟨r, rfl, v, xs, rfl, hv, hn⟩, hb⟩
  rw [h4] at hn
  have e : s.size = s.data.toList.length := by rw [Array.length_toList]; rfl
  exact ⟨⟨_, rfl, v, xs, by rw [e, h3]; rfl, hv, hn⟩, hb⟩

theorem isV (s : ByteArray) (w : World) : Calls Tryz.prog 47 #[.string s] w fun e w' => e = .returned (.bool (okS s)) ∧ Below w.heap.size w w' := isValid_any s w

theorem both_start (w : World) : ∃ W0, W0 = ((w.alloc (.cells #[.bool false, .slice none 0 0] 50)).alloc (.cells #[.bool false, .slice none 0 0] 50)) ∧
    Blk W0 w.heap.size #[.bool false, .slice none 0 0] 50 ∧ Blk W0 (w.heap.size + 1) #[.bool false, .slice none 0 0] 50 ∧ Below w.heap.size w W0 := by
  refine ⟨_, rfl, (Blk.new w _ _).alloc _, ?_, ((Below.refl _ _).alloc (Nat.le_refl _) _).alloc (by simp) _⟩
  have := Blk.new (w.alloc (.cells #[.bool false, .slice none 0 0] 50)) #[.bool false, .slice none 0 0] 50
  rwa [World.size_alloc] at this

/-- The two result blocks, filled. -/
theorem both_store {w W : World} {s t : Bool} (h1 : Blk W w.heap.size #[.bool false, .slice none 0 0] 50) (h2 : Blk W (w.heap.size + 1) #[.bool false, .slice none 0 0] 50) (hb : Below w.heap.size w W) (x y : Value) :
    let W' := (((W.setCell ⟨w.heap.size, 0, none⟩ (.bool s)).setCell ⟨w.heap.size, 1, none⟩ x).setCell ⟨w.heap.size + 1, 0, none⟩ (.bool t)).setCell ⟨w.heap.size + 1, 1, none⟩ y
    Blk W' w.heap.size #[.bool s, x] 50 ∧ Blk W' (w.heap.size + 1) #[.bool t, y] 50 ∧ Below w.heap.size w W' ∧ ∀ v zs, Sl W v zs → Sl W' v zs := by
  have a0 := h1.set 0 (.bool s)
  have a1 := a0.set 1 x
  have b1 := (h2.kept (grown_setCell W w.heap.size 0 (.bool s)) (by simp)).kept (grown_setCell _ w.heap.size 1 x) (by simp)
  have b2 := b1.set 0 (.bool t)
  have b3 := b2.set 1 y
  have a2 := (a1.kept (grown_setCell _ (w.heap.size + 1) 0 (.bool t)) (by simp)).kept (grown_setCell _ (w.heap.size + 1) 1 y) (by simp)
  refine ⟨by simpa using a2, by simpa using b3, ?_, fun v zs hz => ?_⟩
  · exact (((hb.setCell (p := ⟨w.heap.size, 0, none⟩) (Nat.le_refl _) _).setCell (p := ⟨w.heap.size, 1, none⟩) (Nat.le_refl _) _).setCell (p := ⟨w.heap.size + 1, 0, none⟩) (Nat.le_succ _) _).setCell (p := ⟨w.heap.size + 1, 1, none⟩) (Nat.le_succ _) _
  · exact (((hz.setBlk h1 (no_int2 _ _ (fun n e => by cases e)) 0 (.bool s)).setBlk a0 (no_int2 _ _ (fun n e => by cases e)) 1 x).setBlk b1 (no_int2 _ _ (fun n e => by cases e)) 0 (.bool t)).setBlk b2 (no_int2 _ _ (fun n e => by cases e)) 1 y

/-- What both gives for two integers. -/
def BothOk (x y : Int) (r : Value) (w : World) : Prop := ∃ v u, r = .tuple #[v, u, .bool true] ∧ PV w v x ∧ PV w u y
def BothBad (r : Value) : Prop := r = .tuple #[.agg #[.bool false, .slice none 0 0], .agg #[.bool false, .slice none 0 0], .bool false]

set_option maxRecDepth 100000 in
set_option maxHeartbeats 1000000 in
theorem both_bad (a b : ByteArray) (w : World) (h : okS a = false ∨ okS b = false) :
    Calls Tryz.prog 38 #[.string a, .string b] w (Gives w fun r _ => BothBad r) := by
  obtain ⟨W0, hW0, h1, h2, hb0⟩ := both_start w
  by_cases ha : okS a = true
  · have hb : okS b = false := h.resolve_left (by rw [ha]; decide)
    clear h
    go_enter Tryz.func38, Tryz.ntmps38
    go_wp2_with fail
    rw [← hW0]
    clear hW0
    refine (isV a _).mono ?_
    rintro e W1 ⟨rfl, hb1⟩
    rw [ha]
    go_wp2_with fail
    refine (isV b _).mono ?_
    rintro e W2 ⟨rfl, hb2⟩
    rw [hb]
    have k1 := (h1.below hb1).below hb2
    have k2 := (h2.below hb1).below hb2
    have kb : Below w.heap.size w W2 := kb_call hb2 (kb_call hb1 hb0 (Nat.le_refl _)) (Nat.le_refl _)
    have c0 := k1.cell 0
    have c1 := k1.cell 1
    have d0 := k2.cell 0
    have d1 := k2.cell 1
    have f0 := k1.frozen 0
    have f1 := k1.frozen 1
    have g0 := k2.frozen 0
    have g1 := k2.frozen 1
    simp only [List.getElem?_toArray, List.getElem?_cons_zero, List.getElem?_cons_succ] at c0 c1 d0 d1
    go_wp2
    obtain ⟨m1, m2, m3, _⟩ := both_store (s := false) (t := false) k1 k2 kb (.slice none 0 0) (.slice none 0 0)
    have y0 := m1.cell 0
    have y1 := m1.cell 1
    have y2 := m2.cell 0
    have y3 := m2.cell 1
    simp only [List.getElem?_toArray, List.getElem?_cons_zero, List.getElem?_cons_succ] at y0 y1 y2 y3
    refine bodyPost_ret (v := .tuple #[.agg #[.bool false, .slice none 0 0], .agg #[.bool false, .slice none 0 0], .bool false]) (by simp [results, Tryz.results38, go_sem, y0, y1, y2, y3]) rfl ?_
    exact ⟨⟨_, rfl, rfl⟩, m3⟩
  · have ha : okS a = false := by simpa using ha
    clear h
    go_enter Tryz.func38, Tryz.ntmps38
    go_wp2_with fail
    rw [← hW0]
    clear hW0
    refine (isV a _).mono ?_
    rintro e W2 ⟨rfl, hb1⟩
    rw [ha]
    have k1 := h1.below hb1
    have k2 := h2.below hb1
    have kb : Below w.heap.size w W2 := kb_call hb1 hb0 (Nat.le_refl _)
    have c0 := k1.cell 0
    have c1 := k1.cell 1
    have d0 := k2.cell 0
    have d1 := k2.cell 1
    have f0 := k1.frozen 0
    have f1 := k1.frozen 1
    have g0 := k2.frozen 0
    have g1 := k2.frozen 1
    simp only [List.getElem?_toArray, List.getElem?_cons_zero, List.getElem?_cons_succ] at c0 c1 d0 d1
    go_wp2
    obtain ⟨m1, m2, m3, _⟩ := both_store (s := false) (t := false) k1 k2 kb (.slice none 0 0) (.slice none 0 0)
    have y0 := m1.cell 0
    have y1 := m1.cell 1
    have y2 := m2.cell 0
    have y3 := m2.cell 1
    simp only [List.getElem?_toArray, List.getElem?_cons_zero, List.getElem?_cons_succ] at y0 y1 y2 y3
    refine bodyPost_ret (v := .tuple #[.agg #[.bool false, .slice none 0 0], .agg #[.bool false, .slice none 0 0], .bool false]) (by simp [results, Tryz.results38, go_sem, y0, y1, y2, y3]) rfl ?_
    exact ⟨⟨_, rfl, rfl⟩, m3⟩

set_option maxRecDepth 100000 in
set_option maxHeartbeats 1000000 in
theorem both_ok (a b : ByteArray) (w : World) (ha : okS a = true) (hb : okS b = true) :
    Calls Tryz.prog 38 #[.string a, .string b] w (Gives w (BothOk (zS a) (zS b))) := by
  obtain ⟨W0, hW0, h1, h2, hb0⟩ := both_start w
  have Pa := fun W => parse_pv a W ha
  have Pb := fun W => parse_pv b W hb
  go_enter Tryz.func38, Tryz.ntmps38
  go_wp2_with fail
  rw [← hW0]
  clear hW0
  refine (isV a _).mono ?_
  rintro e W1 ⟨rfl, hb1⟩
  rw [ha]
  go_wp2_with fail
  refine (isV b _).mono ?_
  rintro e W2 ⟨rfl, hb2⟩
  rw [hb]
  go_wp2_with fail
  refine (Pa _).mono ?_
  rintro e W3 ⟨⟨r, rfl, va, xs, rfl, hva, hna⟩, hb3⟩
  obtain ⟨a1, c1', rfl⟩ := hva.shape
  go_wp2_with fail
  refine (Pb _).mono ?_
  rintro e W4 ⟨⟨r, rfl, vb, ys, rfl, hvb, hnb⟩, hb4⟩
  obtain ⟨a2, c2', rfl⟩ := hvb.shape
  have k1 := (((h1.below hb1).below hb2).below hb3).below hb4
  have k2 := (((h2.below hb1).below hb2).below hb3).below hb4
  have kb : Below w.heap.size w W4 := kb_call hb4 (kb_call hb3 (kb_call hb2 (kb_call hb1 hb0 (Nat.le_refl _)) (Nat.le_refl _)) (Nat.le_refl _)) (Nat.le_refl _)
  have hva4 := hva.below hb4
  have c0 := k1.cell 0
  have c1 := k1.cell 1
  have d0 := k2.cell 0
  have d1 := k2.cell 1
  have f0 := k1.frozen 0
  have f1 := k1.frozen 1
  have g0 := k2.frozen 0
  have g1 := k2.frozen 1
  simp only [List.getElem?_toArray, List.getElem?_cons_zero, List.getElem?_cons_succ] at c0 c1 d0 d1
  go_wp2
  obtain ⟨m1, m2, m3, m4⟩ := both_store (s := decide (zS a < 0)) (t := decide (zS b < 0)) k1 k2 kb (.slice a1 xs.length c1') (.slice a2 ys.length c2')
  have y0 := m1.cell 0
  have y1 := m1.cell 1
  have y2 := m2.cell 0
  have y3 := m2.cell 1
  simp only [List.getElem?_toArray, List.getElem?_cons_zero, List.getElem?_cons_succ] at y0 y1 y2 y3
  refine bodyPost_ret (v := .tuple #[.agg #[.bool (decide (zS a < 0)), .slice a1 xs.length c1'], .agg #[.bool (decide (zS b < 0)), .slice a2 ys.length c2'], .bool true]) (by simp [results, Tryz.results38, go_sem, y0, y1, y2, y3]) rfl ?_
  exact ⟨⟨_, rfl, _, _, rfl, ⟨_, _, rfl, m4 _ _ hva4, hna⟩, ⟨_, _, rfl, m4 _ _ hvb, hnb⟩⟩, m3⟩
end Go.Proofs.YtbnilfjhalildaaGreatDoor
