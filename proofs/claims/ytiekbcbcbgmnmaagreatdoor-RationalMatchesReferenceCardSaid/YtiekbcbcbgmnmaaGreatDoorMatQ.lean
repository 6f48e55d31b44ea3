/- putloglaw04: RationalMatchesReference, the walk. -/
import Derived.Test.YtiekbcbcbgmnmaaGreatDoorMatP
import Derived.Deep.RegionHeld3
import Derived.Deep.DeepCutAuto
import Derived.Deep.QuietTactic
import Derived.BigQuiet
import Derived.ChangeKeysEq
namespace Go.Proofs.YtiekbcbcbgmnmaaGreatDoor
open Go.RowKit
attribute [local go_sem] Oper.semAt_some

theorem some_of {α : Type} {i : Option α} (h : i.isSome = true) : ∃ x, i = some x := Option.isSome_iff_exists.1 h
set_option maxRecDepth 100000 in
theorem eq_arr4 (W : World) (a b c d : Int) : (Op.equalIn 10000 33 (.agg #[.int .i64 a, .int .i64 b, .int .i64 c, .int .i64 d]) (.agg #[.int .i64 a, .int .i64 b, .int .i64 c, .int .i64 d])).run Tryz.prog W = .ok true W := by
  obtain ⟨i, hi⟩ := some_of (show (Tryz.prog.info? 32).isSome = true by kernel_rfl)
  rw [run_equalIn_array W 9999 _ _ Tryz.underlying33 hi]
  have hc : Tryz.prog.cellsOf 32 = 1 := by kernel_rfl
  rw [hc]
  simp [Op.eqItems, go_sem, List.range, List.range.loop, part]
set_option maxRecDepth 100000 in
theorem eq_arr8 (W : World) (a b c d e f g h : ByteArray) : (Op.equalIn 10000 31 (.agg #[.string a, .string b, .string c, .string d, .string e, .string f, .string g, .string h]) (.agg #[.string a, .string b, .string c, .string d, .string e, .string f, .string g, .string h])).run Tryz.prog W = .ok true W := by
  obtain ⟨i, hi⟩ := some_of (show (Tryz.prog.info? 23).isSome = true by kernel_rfl)
  rw [run_equalIn_array W 9999 _ _ Tryz.underlying31 hi]
  have hc : Tryz.prog.cellsOf 23 = 2 := by kernel_rfl
  rw [hc]
  simp [Op.eqItems, go_sem, List.range, List.range.loop, part]
/-- A statement behind a wall: nothing reckons it out. -/
structure Walled2 (p : Prop) : Prop where
  out : p
section
variable {P : Program} {ops : Array Oper} {C : World → Prop} {Q : Act → Prop} {a : Act} {o : Oper} {rest : List Oper}
theorem qWant2 (hw : Region.wanted o (yielded ops a.tmps) = true) (h : ∀ K : Act → Prop, (∀ a, Walled2 (wpQuiet P ops C Q rest a) → K a) → o.quiet P a C K) : Walled2 (wpQuiet P ops C Q (o :: rest) a) :=
  ⟨BigFrame.wpQuiet_want hw fun K hK => h K fun a h' => hK a h'.out⟩
theorem qNil2 (h : Q a) : Walled2 (wpQuiet P ops C Q [] a) := ⟨h⟩
end
abbrev Prs := List (ByteArray × ByteArray)
def tn (ps : Prs) (i : Nat) : ByteArray := (ps.getD i (⟨#[]⟩, ⟨#[]⟩)).1
def td (ps : Prs) (i : Nat) : ByteArray := (ps.getD i (⟨#[]⟩, ⟨#[]⟩)).2
/-- Blocks of the call's own, and the fractions of one block. -/
structure AL (w : World) (g : Nat) (ps : Prs) (L : BLs) (W : World) : Prop where
  bl : BL w L W
  lt : g < W.heap.size
  ats : ∀ i, i < ps.length → W.cell? ⟨g, i * 2, none⟩ = some (.string (tn ps i)) ∧ W.cell? ⟨g, i * 2 + 1, none⟩ = some (.string (td ps i))
theorem AL.call {w : World} {g : Nat} {ps : Prs} {L : BLs} {W W' : World} (h : AL w g ps L W) (hb : Below W.heap.size W W') : AL w g ps L W' :=
  ⟨h.bl.call hb, Nat.lt_of_lt_of_le h.lt hb.size, fun i hi => ⟨by rw [hb.cell (p := ⟨g, i * 2, none⟩) h.lt]; exact (h.ats i hi).1, by rw [hb.cell (p := ⟨g, i * 2 + 1, none⟩) h.lt]; exact (h.ats i hi).2⟩⟩
theorem AL.drew {w : World} {g : Nat} {ps : Prs} {L : BLs} {W : World} (h : AL w g ps L W) : AL w g ps L W.drew := h.call (below_drewN W 1)
theorem AL.new {w : World} {g : Nat} {ps : Prs} {L : BLs} {W : World} (h : AL w g ps L W) (o : Obj) : AL w g ps L (W.alloc o) := h.call ((Below.refl _ _).alloc (Nat.le_refl _) o)
theorem AL.add' {w : World} {g : Nat} {ps : Prs} {L : BLs} {W : World} (h : AL w g ps L W) (cs : Array Value) (t : TypeId) : ∃ W', W' = W.alloc (.cells cs t) ∧ AL w g ps ((W.heap.size, cs, t) :: L) W' ∧ W'.heap.size = W.heap.size + 1 := by
  obtain ⟨W', e, h1, h2⟩ := h.bl.add' cs t
  refine ⟨W', e, ⟨h1, ?_, ?_⟩, h2⟩
  · rw [h2]; exact Nat.lt_succ_of_lt h.lt
  · rw [e]; exact (h.new _).ats
theorem AL.add {w : World} {g : Nat} {ps : Prs} {L : BLs} {W : World} (h : AL w g ps L W) (cs : Array Value) (t : TypeId) : AL w g ps ((W.heap.size, cs, t) :: L) (W.alloc (.cells cs t)) := by
  obtain ⟨W', e, h1, _⟩ := h.add' cs t
  rw [← e]; exact h1
theorem AL.drop {w : World} {g : Nat} {ps : Prs} {L M : BLs} {W : World} (h : AL w g ps L W) (hm : ∀ p ∈ M, p ∈ L) : AL w g ps M W := ⟨h.bl.drop hm, h.lt, h.ats⟩
theorem AL.below {w : World} {g : Nat} {ps : Prs} {L : BLs} {W : World} (h : AL w g ps L W) : Below w.heap.size w W := h.bl.below
theorem AL.blks {w : World} {g : Nat} {ps : Prs} {L : BLs} {W : World} (h : AL w g ps L W) : ∀ p ∈ L, Blk W p.1 p.2.1 p.2.2 := h.bl.blks
theorem AL.lts {w : World} {g : Nat} {ps : Prs} {L : BLs} {W : World} (h : AL w g ps L W) : ∀ p ∈ L, p.1 < W.heap.size := h.bl.lts
theorem AL.env {w : World} {g : Nat} {ps : Prs} {L : BLs} {W : World} (h : AL w g ps L W) (hE : Env w) : Env W := h.bl.env hE
theorem AL.cell {w : World} {g : Nat} {ps : Prs} {L : BLs} {W : World} (h : AL w g ps L W) (B : Nat) (cs : Array Value) (t : TypeId) (hm : (B, cs, t) ∈ L) (i : Nat) : W.cell? ⟨B, i, none⟩ = cs[i]? := h.bl.cell B cs t hm i
theorem AL.frozen {w : World} {g : Nat} {ps : Prs} {L : BLs} {W : World} (h : AL w g ps L W) (B : Nat) (cs : Array Value) (t : TypeId) (hm : (B, cs, t) ∈ L) (i : Nat) : W.frozen? ⟨B, i, none⟩ = false := h.bl.frozen B cs t hm i
theorem AL.c1 {w : World} {g : Nat} {ps : Prs} {L : BLs} {W : World} (h : AL w g ps L W) (B : Nat) (a : Value) (t : TypeId) (hm : (B, #[a], t) ∈ L) : W.cell? ⟨B, 0, none⟩ = some a := h.bl.c1 B a t hm
theorem AL.c2 {w : World} {g : Nat} {ps : Prs} {L : BLs} {W : World} (h : AL w g ps L W) (B : Nat) (a b : Value) (t : TypeId) (hm : (B, #[a, b], t) ∈ L) : W.cell? ⟨B, 0, none⟩ = some a ∧ W.cell? ⟨B, 1, none⟩ = some b := h.bl.c2 B a b t hm
theorem AL.c4 {w : World} {g : Nat} {ps : Prs} {L : BLs} {W : World} (h : AL w g ps L W) (B : Nat) (a b c d : Value) (t : TypeId) (hm : (B, #[a, b, c, d], t) ∈ L) : W.cell? ⟨B, 0, none⟩ = some a ∧ W.cell? ⟨B, 1, none⟩ = some b ∧ W.cell? ⟨B, 2, none⟩ = some c ∧ W.cell? ⟨B, 3, none⟩ = some d := h.bl.c4 B a b c d t hm
theorem AL.c8 {w : World} {g : Nat} {ps : Prs} {L : BLs} {W : World} (h : AL w g ps L W) (B : Nat) (a b c d e f k l : Value) (t : TypeId) (hm : (B, #[a, b, c, d, e, f, k, l], t) ∈ L) : W.cell? ⟨B, 0, none⟩ = some a ∧ W.cell? ⟨B, 1, none⟩ = some b ∧ W.cell? ⟨B, 2, none⟩ = some c ∧ W.cell? ⟨B, 3, none⟩ = some d ∧ W.cell? ⟨B, 4, none⟩ = some e ∧ W.cell? ⟨B, 5, none⟩ = some f ∧ W.cell? ⟨B, 6, none⟩ = some k ∧ W.cell? ⟨B, 7, none⟩ = some l := h.bl.c8 B a b c d e f k l t hm
theorem AL.start {w W : World} {g : Nat} {ps : Prs} {L : BLs} (h : AL w g ps L W) : AL W g ps [] W := ⟨BL.start W, h.lt, h.ats⟩
/-- A cell of a block on the list is set. -/
theorem AL.put {w : World} {g : Nat} {ps : Prs} {A C : BLs} {B : Nat} {cs : Array Value} {t : TypeId} {W : World} (hO : Asc w (A ++ (B, cs, t) :: C)) (hg0 : g < w.heap.size) (h : AL w g ps (A ++ (B, cs, t) :: C) W) (i : Nat) (x : Value) :
    AL w g ps (A ++ (B, cs.setIfInBounds i x, t) :: C) (W.setCell ⟨B, i, none⟩ x) := by
  have hg : g < B := Nat.lt_of_lt_of_le hg0 hO.base
  have ho : Only [B] W (W.setCell ⟨B, i, none⟩ x) := (Only.refl [B] W).setCell (p := ⟨B, i, none⟩) (by simp) x
  have h1 := (h.bl.drop (M := A ++ C) (fun p hp => by
    rcases List.mem_append.1 hp with h1 | h1
    · exact List.mem_append_left _ h1
    · exact List.mem_append_right _ (List.mem_cons_of_mem _ h1))).only ho (by simpa using hO.base) (fun p hp => by simpa using hO.ne p hp)
  refine ⟨⟨h1.below, fun p hp => ?_⟩, by simpa using h.lt, fun j hj => ?_⟩
  · rcases List.mem_append.1 hp with h2 | h2
    · exact h1.blks p (List.mem_append_left _ h2)
    · rcases List.mem_cons.1 h2 with rfl | h2
      · exact (h.bl.blks (B, cs, t) (List.mem_append_right _ List.mem_cons_self)).set i x
      · exact h1.blks p (List.mem_append_right _ h2)
  · have e : ∀ o, (W.setCell ⟨B, i, none⟩ x).cell? ⟨g, o, none⟩ = W.cell? ⟨g, o, none⟩ := fun o => ho.cell (p := ⟨g, o, none⟩) h.lt (by simp; omega)
    exact ⟨by rw [e]; exact (h.ats j hj).1, by rw [e]; exact (h.ats j hj).2⟩
theorem AL.setG {w : World} {g : Nat} {ps : Prs} {L : BLs} {W : World} {b : Nat} (h : AL w g ps L W) (hge : w.heap.size ≤ b) (hg : g < b) (hlt : ∀ p ∈ L, p.1 < b) (x y : Value) : AL w g ps L ((W.setCell ⟨b, 0, none⟩ x).setCell ⟨b, 1, none⟩ y) := by
  have ho : Only [b] W ((W.setCell ⟨b, 0, none⟩ x).setCell ⟨b, 1, none⟩ y) := ((Only.refl [b] W).setCell (p := ⟨b, 0, none⟩) (by simp) x).setCell (p := ⟨b, 1, none⟩) (by simp) y
  have e : ∀ o, ((W.setCell ⟨b, 0, none⟩ x).setCell ⟨b, 1, none⟩ y).cell? ⟨g, o, none⟩ = W.cell? ⟨g, o, none⟩ := fun o => ho.cell (p := ⟨g, o, none⟩) h.lt (by simp; omega)
  exact ⟨h.bl.only ho (by simpa using hge) (fun p hp => by have := hlt p hp; simp; omega), by simpa using h.lt, fun j hj => ⟨by rw [e]; exact (h.ats j hj).1, by rw [e]; exact (h.ats j hj).2⟩⟩
theorem AL.pushB {w : World} {g : Nat} {ps : Prs} {L : BLs} {W : World} {b : Nat} {cs : Array Value} {t : TypeId} (h : AL w g ps L W) (hb : Blk W b cs t) : AL w g ps ((b, cs, t) :: L) W :=
  ⟨⟨h.bl.below, fun p hp => by
    rcases List.mem_cons.1 hp with rfl | hp
    · exact hb
    · exact h.bl.blks p hp⟩, h.lt, h.ats⟩
theorem AL.of_blk {w W : World} {g : Nat} {a b c d e f k l m n : ByteArray} {t : TypeId} (hb : Below w.heap.size w W) (h : Blk W g #[.string a, .string b, .string c, .string d, .string e, .string f, .string k, .string l, .string m, .string n] t) :
    AL w g [(a, b), (c, d), (e, f), (k, l), (m, n)] [] W := by
  refine ⟨⟨hb, fun p hp => by cases hp⟩, h.lt, fun i hi => ?_⟩
  match i, hi with
  | 0, _ => exact ⟨h.cell 0, h.cell 1⟩
  | 1, _ => exact ⟨h.cell 2, h.cell 3⟩
  | 2, _ => exact ⟨h.cell 4, h.cell 5⟩
  | 3, _ => exact ⟨h.cell 6, h.cell 7⟩
  | 4, _ => exact ⟨h.cell 8, h.cell 9⟩
theorem tx_small {z : Int} (h : Small z) : Tx (I z) := I_len' h
theorem tx_t {o : Option Rat} (h : OkO o) : Tx (tN o) ∧ Tx (tD o) := by
  cases o with
  | none => exact ⟨by show (0 : Nat) ≤ _; omega, by show (0 : Nat) ≤ _; omega⟩
  | some r => exact ⟨tx_small (h r rfl).1, tx_small (h r rfl).2⟩
theorem tx_210 {s : ByteArray} (h : s.size ≤ 210) : Tx s := by unfold Tx; omega

set_option maxRecDepth 100000 in
set_option maxHeartbeats 16000000 in
theorem match_row (n1 d1 n2 d2 : ByteArray) (l0 l1 l2 l3 m0 m1 m2 m3 s0 s1 x y z : Int) (h1 : n1.size ≤ 9223372036854775807) (h2 : d1.size ≤ 9223372036854775807) (h3 : n2.size ≤ 9223372036854775807) (h4 : d2.size ≤ 9223372036854775807)
    (L0 : Fits l0) (L1 : Fits l1) (L2 : Fits l2) (L3 : Fits l3) (M0 : Fits m0) (M1 : Fits m1) (M2 : Fits m2) (M3 : Fits m3) (S0' : Fits s0) (S1' : Fits s1) (X0 : Fits x) (Y0 : Fits y) (Z0 : Fits z) (w : World) (hEQ : EnvQ w) :
    Calls Tryz.prog 3 #[.agg #[.string n1, .string d1], .agg #[.string n2, .string d2], .agg #[.int .i64 l0, .int .i64 l1, .int .i64 l2, .int .i64 l3], .agg #[.int .i64 m0, .int .i64 m1, .int .i64 m2, .int .i64 m3], .agg #[.int .i64 s0, .int .i64 s1], .int .i64 x, .int .i64 y, .int .i64 z] w (Rets w (.bool true)) := by
  have hE := hEQ.env
  have Sv0 := BL.start w
  obtain ⟨V1, ev1, Sv1, zv1⟩ := Sv0.add' #[.string n1, .string d1] 23
  obtain ⟨V2, ev2, Sv2, zv2⟩ := Sv1.add' #[.string n2, .string d2] 23
  obtain ⟨V3, ev3, Sv3, zv3⟩ := Sv2.add' #[.int .i64 l0, .int .i64 l1, .int .i64 l2, .int .i64 l3] 24
  obtain ⟨V4, ev4, Sv4, zv4⟩ := Sv3.add' #[.int .i64 m0, .int .i64 m1, .int .i64 m2, .int .i64 m3] 24
  obtain ⟨V5, ev5, Sv5, zv5⟩ := Sv4.add' #[.int .i64 s0, .int .i64 s1] 25
  rw [zv1] at Sv2
  rw [zv2, zv1] at Sv3
  rw [zv3, zv2, zv1] at Sv4
  rw [zv4, zv3, zv2, zv1] at Sv5
  have hV : V5 = (((((w.alloc (.cells #[.string n1, .string d1] 23)).alloc (.cells #[.string n2, .string d2] 23)).alloc (.cells #[.int .i64 l0, .int .i64 l1, .int .i64 l2, .int .i64 l3] 24)).alloc (.cells #[.int .i64 m0, .int .i64 m1, .int .i64 m2, .int .i64 m3] 24)).alloc (.cells #[.int .i64 s0, .int .i64 s1] 25)) := by rw [ev5, ev4, ev3, ev2, ev1]
  have hS : BL w [(w.heap.size + 1 + 1 + 1 + 1, #[.int .i64 s0, .int .i64 s1], 25), (w.heap.size + 1 + 1 + 1, #[.int .i64 m0, .int .i64 m1, .int .i64 m2, .int .i64 m3], 24), (w.heap.size + 1 + 1, #[.int .i64 l0, .int .i64 l1, .int .i64 l2, .int .i64 l3], 24), (w.heap.size + 1, #[.string n2, .string d2], 23), (w.heap.size, #[.string n1, .string d1], 23)] V5 := Sv5
  have hO : Asc w [(w.heap.size + 1 + 1 + 1 + 1, #[.int .i64 s0, .int .i64 s1], 25), (w.heap.size + 1 + 1 + 1, #[.int .i64 m0, .int .i64 m1, .int .i64 m2, .int .i64 m3], 24), (w.heap.size + 1 + 1, #[.int .i64 l0, .int .i64 l1, .int .i64 l2, .int .i64 l3], 24), (w.heap.size + 1, #[.string n2, .string d2], 23), (w.heap.size, #[.string n1, .string d1], 23)] := ⟨by simp; omega, by simp; omega⟩
  clear ev1 ev2 ev3 ev4 ev5 zv1 zv2 zv3 zv4 zv5 Sv0 Sv1 Sv2 Sv3 Sv4 Sv5
  go_enter Tryz.func3, Tryz.ntmps3
  go_wp2_with fail
  rw [← hV]
  clear hV
  refine Calls.mono (saneQ_any _ (hS.envQ hEQ)) ?_
  rintro e w1 ⟨rfl, hb⟩
  replace hS := hS.call hb
  clear hb
  obtain ⟨c_X_0, c_X_1⟩ := hS.c2 (w.heap.size) _ _ _ (.tail _ (.tail _ (.tail _ (.tail _ (.head _)))))
  go_wp2_with fail
  refine Calls.mono (cut4_any n1 d1 h1 h2 _) ?_
  rintro e w2 ⟨xa, xb, rfl, sa, sb, hb⟩
  clear c_X_0 c_X_1
  replace hS := hS.call hb
  clear hb
  obtain ⟨c_X_0, c_X_1⟩ := hS.c2 (w.heap.size) _ _ _ (.tail _ (.tail _ (.tail _ (.tail _ (.head _)))))
  have fz0 := hS.frozen (w.heap.size) _ _ (.tail _ (.tail _ (.tail _ (.tail _ (.head _))))) 0
  have fz1 := hS.frozen (w.heap.size) _ _ (.tail _ (.tail _ (.tail _ (.tail _ (.head _))))) 1
  go_upto_region 3 with fail
  clear c_X_0 c_X_1
  clear fz0 fz1
  obtain ⟨W, hW⟩ : ∃ W, W = (w2.setCell ⟨w.heap.size, 0, none⟩ (.string xa)).setCell ⟨w.heap.size, 1, none⟩ (.string xb) := ⟨_, rfl⟩
  replace hS : BL w [(w.heap.size + 1 + 1 + 1 + 1, #[.int .i64 s0, .int .i64 s1], 25), (w.heap.size + 1 + 1 + 1, #[.int .i64 m0, .int .i64 m1, .int .i64 m2, .int .i64 m3], 24), (w.heap.size + 1 + 1, #[.int .i64 l0, .int .i64 l1, .int .i64 l2, .int .i64 l3], 24), (w.heap.size + 1, #[.string n2, .string d2], 23), (w.heap.size, #[.string xa, .string xb], 23)] W := by rw [hW]; exact BL.put (A := [(w.heap.size + 1 + 1 + 1 + 1, #[.int .i64 s0, .int .i64 s1], 25), (w.heap.size + 1 + 1 + 1, #[.int .i64 m0, .int .i64 m1, .int .i64 m2, .int .i64 m3], 24), (w.heap.size + 1 + 1, #[.int .i64 l0, .int .i64 l1, .int .i64 l2, .int .i64 l3], 24), (w.heap.size + 1, #[.string n2, .string d2], 23)]) (C := []) hO hS _ _
  replace hO : Asc w [(w.heap.size + 1 + 1 + 1 + 1, #[.int .i64 s0, .int .i64 s1], 25), (w.heap.size + 1 + 1 + 1, #[.int .i64 m0, .int .i64 m1, .int .i64 m2, .int .i64 m3], 24), (w.heap.size + 1 + 1, #[.int .i64 l0, .int .i64 l1, .int .i64 l2, .int .i64 l3], 24), (w.heap.size + 1, #[.string n2, .string d2], 23), (w.heap.size, #[.string xa, .string xb], 23)] := Asc.put (A := [(w.heap.size + 1 + 1 + 1 + 1, #[.int .i64 s0, .int .i64 s1], 25), (w.heap.size + 1 + 1 + 1, #[.int .i64 m0, .int .i64 m1, .int .i64 m2, .int .i64 m3], 24), (w.heap.size + 1 + 1, #[.int .i64 l0, .int .i64 l1, .int .i64 l2, .int .i64 l3], 24), (w.heap.size + 1, #[.string n2, .string d2], 23)]) (C := []) hO
  rw [← hW]
  clear hW
  obtain ⟨c_Y_0, c_Y_1⟩ := hS.c2 (w.heap.size + 1) _ _ _ (.tail _ (.tail _ (.tail _ (.head _))))
  go_wp2_with fail
  refine Calls.mono (cut4_any n2 d2 h3 h4 _) ?_
  rintro e w3 ⟨ya, yb, rfl, sc, sd, hb⟩
  clear c_Y_0 c_Y_1
  replace hS := hS.call hb
  clear hb
  obtain ⟨c_Y_0, c_Y_1⟩ := hS.c2 (w.heap.size + 1) _ _ _ (.tail _ (.tail _ (.tail _ (.head _))))
  have fz0 := hS.frozen (w.heap.size + 1) _ _ (.tail _ (.tail _ (.tail _ (.head _)))) 0
  have fz1 := hS.frozen (w.heap.size + 1) _ _ (.tail _ (.tail _ (.tail _ (.head _)))) 1
  go_upto_region 4 with fail
  clear c_Y_0 c_Y_1
  clear fz0 fz1
  obtain ⟨W, hW⟩ : ∃ W, W = (w3.setCell ⟨w.heap.size + 1, 0, none⟩ (.string ya)).setCell ⟨w.heap.size + 1, 1, none⟩ (.string yb) := ⟨_, rfl⟩
  replace hS : BL w [(w.heap.size + 1 + 1 + 1 + 1, #[.int .i64 s0, .int .i64 s1], 25), (w.heap.size + 1 + 1 + 1, #[.int .i64 m0, .int .i64 m1, .int .i64 m2, .int .i64 m3], 24), (w.heap.size + 1 + 1, #[.int .i64 l0, .int .i64 l1, .int .i64 l2, .int .i64 l3], 24), (w.heap.size + 1, #[.string ya, .string yb], 23), (w.heap.size, #[.string xa, .string xb], 23)] W := by rw [hW]; exact BL.put (A := [(w.heap.size + 1 + 1 + 1 + 1, #[.int .i64 s0, .int .i64 s1], 25), (w.heap.size + 1 + 1 + 1, #[.int .i64 m0, .int .i64 m1, .int .i64 m2, .int .i64 m3], 24), (w.heap.size + 1 + 1, #[.int .i64 l0, .int .i64 l1, .int .i64 l2, .int .i64 l3], 24)]) (C := [(w.heap.size, #[.string xa, .string xb], 23)]) hO hS _ _
  replace hO : Asc w [(w.heap.size + 1 + 1 + 1 + 1, #[.int .i64 s0, .int .i64 s1], 25), (w.heap.size + 1 + 1 + 1, #[.int .i64 m0, .int .i64 m1, .int .i64 m2, .int .i64 m3], 24), (w.heap.size + 1 + 1, #[.int .i64 l0, .int .i64 l1, .int .i64 l2, .int .i64 l3], 24), (w.heap.size + 1, #[.string ya, .string yb], 23), (w.heap.size, #[.string xa, .string xb], 23)] := Asc.put (A := [(w.heap.size + 1 + 1 + 1 + 1, #[.int .i64 s0, .int .i64 s1], 25), (w.heap.size + 1 + 1 + 1, #[.int .i64 m0, .int .i64 m1, .int .i64 m2, .int .i64 m3], 24), (w.heap.size + 1 + 1, #[.int .i64 l0, .int .i64 l1, .int .i64 l2, .int .i64 l3], 24)]) (C := [(w.heap.size, #[.string xa, .string xb], 23)]) hO
  rw [← hW]
  clear hW
  clear hO
  have HL := Lib.hid (fun W => long4_any l0 l1 l2 l3 L0 L1 L2 L3 W)
  have HM := Lib.hid (fun W => long4_any m0 m1 m2 m3 M0 M1 M2 M3 W)
  have HS := fun W => small4_any s0 s1 S0' S1' W
  have ok1 : OkO (oOf (pkv s0 1999 - 999) (1 + pkv s1 60)) := by
    have b0 := pkv_nonneg (c := s0) (m := 1999) (by decide)
    have b1 := pkv_lt (c := s0) (m := 1999) (by decide)
    have b2 := pkv_nonneg (c := s1) (m := 60) (by decide)
    have b3 := pkv_lt (c := s1) (m := 60) (by decide)
    exact OkO.of (fits_small (by unfold Fits; omega)) (fits_small (by unfold Fits; omega))
  obtain ⟨tx8, tx9⟩ := tx_t ok1
  generalize tN (oOf (pkv s0 1999 - 999) (1 + pkv s1 60)) = p8 at *
  generalize tD (oOf (pkv s0 1999 - 999) (1 + pkv s1 60)) = p9 at *
  replace HS := Lib.hid HS
  have TX := Lib.hid (And.intro (And.intro (tx_210 sa) (tx_210 sb)) (And.intro (And.intro (tx_210 sc) (tx_210 sd)) (And.intro tx8 tx9)))
  clear ok1 tx8 tx9 sa sb sc sd L0 L1 L2 L3 M0 M1 M2 M3 S0' S1' h1 h2 h3 h4
  have hC0 : ∀ W', BL w [(w.heap.size + 1 + 1 + 1 + 1, #[.int .i64 s0, .int .i64 s1], 25), (w.heap.size + 1 + 1 + 1, #[.int .i64 m0, .int .i64 m1, .int .i64 m2, .int .i64 m3], 24), (w.heap.size + 1 + 1, #[.int .i64 l0, .int .i64 l1, .int .i64 l2, .int .i64 l3], 24), (w.heap.size + 1, #[.string ya, .string yb], 23), (w.heap.size, #[.string xa, .string xb], 23)] W' → (W'.cell? ⟨w.heap.size, 0, none⟩ = some (.string xa) ∧ W'.cell? ⟨w.heap.size, 1, none⟩ = some (.string xb) ∧ W'.cell? ⟨w.heap.size + 1, 0, none⟩ = some (.string ya) ∧ W'.cell? ⟨w.heap.size + 1, 1, none⟩ = some (.string yb) ∧ W'.cell? ⟨w.heap.size + 1 + 1, 0, none⟩ = some (.int .i64 l0) ∧ W'.cell? ⟨w.heap.size + 1 + 1, 1, none⟩ = some (.int .i64 l1) ∧ W'.cell? ⟨w.heap.size + 1 + 1, 2, none⟩ = some (.int .i64 l2) ∧ W'.cell? ⟨w.heap.size + 1 + 1, 3, none⟩ = some (.int .i64 l3) ∧ W'.cell? ⟨w.heap.size + 1 + 1 + 1, 0, none⟩ = some (.int .i64 m0) ∧ W'.cell? ⟨w.heap.size + 1 + 1 + 1, 1, none⟩ = some (.int .i64 m1) ∧ W'.cell? ⟨w.heap.size + 1 + 1 + 1, 2, none⟩ = some (.int .i64 m2) ∧ W'.cell? ⟨w.heap.size + 1 + 1 + 1, 3, none⟩ = some (.int .i64 m3) ∧ W'.cell? ⟨w.heap.size + 1 + 1 + 1 + 1, 0, none⟩ = some (.int .i64 s0) ∧ W'.cell? ⟨w.heap.size + 1 + 1 + 1 + 1, 1, none⟩ = some (.int .i64 s1)) := fun W' h => ⟨(h.cell (w.heap.size) _ _ (.tail _ (.tail _ (.tail _ (.tail _ (.head _))))) 0), (h.cell (w.heap.size) _ _ (.tail _ (.tail _ (.tail _ (.tail _ (.head _))))) 1), (h.cell (w.heap.size + 1) _ _ (.tail _ (.tail _ (.tail _ (.head _)))) 0), (h.cell (w.heap.size + 1) _ _ (.tail _ (.tail _ (.tail _ (.head _)))) 1), (h.cell (w.heap.size + 1 + 1) _ _ (.tail _ (.tail _ (.head _))) 0), (h.cell (w.heap.size + 1 + 1) _ _ (.tail _ (.tail _ (.head _))) 1), (h.cell (w.heap.size + 1 + 1) _ _ (.tail _ (.tail _ (.head _))) 2), (h.cell (w.heap.size + 1 + 1) _ _ (.tail _ (.tail _ (.head _))) 3), (h.cell (w.heap.size + 1 + 1 + 1) _ _ (.tail _ (.head _)) 0), (h.cell (w.heap.size + 1 + 1 + 1) _ _ (.tail _ (.head _)) 1), (h.cell (w.heap.size + 1 + 1 + 1) _ _ (.tail _ (.head _)) 2), (h.cell (w.heap.size + 1 + 1 + 1) _ _ (.tail _ (.head _)) 3), (h.cell (w.heap.size + 1 + 1 + 1 + 1) _ _ (.head _) 0), (h.cell (w.heap.size + 1 + 1 + 1 + 1) _ _ (.head _) 1)⟩
  have hC := Lib.hid hC0
  clear hC0
  go_cut [18] (fun s wx => ∃ (g : Nat) (ps : Prs), s = .slice (some ⟨g, 0, none⟩) 5 5 ∧ ps.length = 5 ∧ (∀ i, i < 5 → Tx (tn ps i) ∧ Tx (td ps i)) ∧ w.heap.size ≤ g ∧ AL w g ps [] wx)
  case first =>
    obtain ⟨x0', x1', x2', x3', x4', x5', x6', x7', x8', x9', x10', x11', x12', x13'⟩ := hC.out _ hS
    have h0 := hS
    replace hS := hS.drew
    go_region_held3 (fun w' => w'.cell? ⟨w.heap.size, 0, none⟩ = some (.string xa) ∧ w'.cell? ⟨w.heap.size, 1, none⟩ = some (.string xb) ∧ w'.cell? ⟨w.heap.size + 1, 0, none⟩ = some (.string ya) ∧ w'.cell? ⟨w.heap.size + 1, 1, none⟩ = some (.string yb) ∧ w'.cell? ⟨w.heap.size + 1 + 1, 0, none⟩ = some (.int .i64 l0) ∧ w'.cell? ⟨w.heap.size + 1 + 1, 1, none⟩ = some (.int .i64 l1) ∧ w'.cell? ⟨w.heap.size + 1 + 1, 2, none⟩ = some (.int .i64 l2) ∧ w'.cell? ⟨w.heap.size + 1 + 1, 3, none⟩ = some (.int .i64 l3) ∧ w'.cell? ⟨w.heap.size + 1 + 1 + 1, 0, none⟩ = some (.int .i64 m0) ∧ w'.cell? ⟨w.heap.size + 1 + 1 + 1, 1, none⟩ = some (.int .i64 m1) ∧ w'.cell? ⟨w.heap.size + 1 + 1 + 1, 2, none⟩ = some (.int .i64 m2) ∧ w'.cell? ⟨w.heap.size + 1 + 1 + 1, 3, none⟩ = some (.int .i64 m3) ∧ w'.cell? ⟨w.heap.size + 1 + 1 + 1 + 1, 0, none⟩ = some (.int .i64 s0) ∧ w'.cell? ⟨w.heap.size + 1 + 1 + 1 + 1, 1, none⟩ = some (.int .i64 s1))
      (first | with_reducible exact hC.out _ hS | go_keep)
      (first | (go_at_call 6; (with_reducible refine Calls.mono (HL.out _) ?_); rintro e wl ⟨r1, rfl, br1, hb⟩; replace hS := hS.call hb; clear hb) | (go_at_call 6; (with_reducible refine Calls.mono (HM.out _) ?_); rintro e wm ⟨r2, rfl, br2, hb⟩; replace hS := hS.call hb; clear hb) | (go_at_call 7; (with_reducible refine Calls.mono (HS.out _) ?_); rintro e ws ⟨rfl, hb⟩; replace hS := hS.call hb; clear hb))
    obtain ⟨⟨t0, t1⟩, ⟨t2, t3⟩, t8, t9⟩ := TX.out
    obtain ⟨t4, t5⟩ := tx_t (br1.ok (by decide))
    obtain ⟨t6, t7⟩ := tx_t (br2.ok (by decide))
    all_goals (go_wp2_with fail; go_meet; refine ⟨_, [(xa, xb), (ya, yb), (_, _), (_, _), (p8, p9)], rfl, rfl, fun i hi => ?_, hS.below.size, by first | exact AL.of_blk (hS.new _).below (Blk.new _ _ _) | exact AL.of_blk ((hS.new _).drew.below) ((Blk.new _ _ _).below (below_drewN _ 1))⟩)
    match i, hi with
    | 0, _ => exact ⟨t0, t1⟩
    | 1, _ => exact ⟨t2, t3⟩
    | 2, _ => exact ⟨t4, t5⟩
    | 3, _ => exact ⟨t6, t7⟩
    | 4, _ => exact ⟨t8, t9⟩
  case rest =>
    clear hC hS HL HM HS TX
    obtain ⟨g, ps, rfl, hps, hTx, hg, hA⟩ := hcut
    replace hTx := Lib.hid hTx
    go_wp2_with fail
    go_loopw [19] (fun o wr => ∃ i : Nat, o = .int .i64 i ∧ i ≤ 5 ∧ AL w g ps [] wr) (fun o _ => 5 - (intOf o).toNat)
    case atStart => exact ⟨0, rfl, by omega, hA⟩
    case round =>
      clear hA
      obtain ⟨i, rfl, hi5, hA⟩ := hrel
      by_cases hi : i < 5
      case pos => as_aux_lemma =>
        have hi' : (i : Int) < 5 := by omega
        obtain ⟨ta, tb⟩ := hTx.out i hi
        obtain ⟨tz, tz'⟩ := hTx.out 0 (by omega)
        have hPi0 : ∀ L V W, AL V g ps L W → W.cell? ⟨g, i * 2, none⟩ = some (.string (tn ps i)) ∧ W.cell? ⟨g, i * 2 + 1, none⟩ = some (.string (td ps i)) := fun L V W h => h.ats i (by omega)
        have hPz0 : ∀ L V W, AL V g ps L W → W.cell? ⟨g, 1, none⟩ = some (.string (td ps 0)) := fun L V W h => (h.ats 0 (by omega)).2
        obtain ⟨mks, mkt, mke, mkv, MK⟩ := mk_c ta tb tz'
        have RN := fun k => rnd_c ta tb k
        have PR := fun (nb db : ByteArray) (h3 : Tx nb) (h4 : Tx db) => pair_c ta tb h3 h4
        generalize tn ps i = na at *
        generalize td ps i = da at *
        generalize td ps 0 = dz at *
        have hPi := Lib.hid hPi0
        have hPz := Lib.hid hPz0
        replace MK := Lib.hid MK
        replace RN := Lib.hid RN
        replace PR := Lib.hid PR
        clear hPi0 hPz0 ta tb tz tz'
        go_wp2_with fail
        go_loopw [20] (fun o wr => ∃ k : Nat, o = .int .i64 k ∧ k ≤ 5 ∧ AL w g ps [] wr) (fun o _ => 5 - (intOf o).toNat)
        case atStart => exact ⟨0, rfl, by omega, hA⟩
        case round =>
          clear hA
          obtain ⟨k, rfl, hk5, hA⟩ := hrel
          by_cases hk : k < 5
          case pos => as_aux_lemma =>
            have hk' : (k : Int) < 5 := by omega
            obtain ⟨tc, td'⟩ := hTx.out k hk
            have hPk0 : ∀ L V W, AL V g ps L W → W.cell? ⟨g, k * 2, none⟩ = some (.string (tn ps k)) ∧ W.cell? ⟨g, k * 2 + 1, none⟩ = some (.string (td ps k)) := fun L V W h => h.ats k (by omega)
            obtain ⟨v0, u0, v1, u1, v2, u2, v3, u3, e0, e1, e2, e3, c, PC⟩ := PR.out _ _ tc td'
            generalize tn ps k = nb at *
            generalize td ps k = db at *
            have hPk := Lib.hid hPk0
            clear hPk0 tc td'
            have C4 := Lib.hid PC.four
            have CA := Lib.hid PC.add
            have CS := Lib.hid PC.sub
            have CM := Lib.hid PC.mul
            have CD := Lib.hid PC.div
            have CC := Lib.hid PC.cmp
            have CR := Lib.hid PC.rcmp
            clear PC PR RN MK
            have hE2 := hA.env hE
            have hgl := hA.lt
            have hS := hA.start
            have hO : Asc wr [] := Asc.nil wr
            obtain ⟨a0, a1⟩ := hPi.out _ _ _ hS
            go_upto_region 12 with fail
            clear a0 a1
            replace hO := hO.add hS.bl #[.string na, .string da] 23
            obtain ⟨Wn1, hW, hS', hz⟩ := hS.add' #[.string na, .string da] 23
            rw [← hW]
            replace hS := hS'
            clear hS' hW hz
            obtain ⟨b0, b1⟩ := hPk.out _ _ _ hS
            go_upto_region 13 with fail
            clear b0 b1
            replace hO := hO.add hS.bl #[.string nb, .string db] 23
            obtain ⟨Wn2, hW, hS', hz⟩ := hS.add' #[.string nb, .string db] 23
            rw [← hW]
            replace hS := hS'
            clear hS' hW hz
            obtain ⟨c_a_0, c_a_1⟩ := hS.c2 (wr.heap.size) _ _ _ (.tail _ (.head _))
            obtain ⟨c_b_0, c_b_1⟩ := hS.c2 (Wn1.heap.size) _ _ _ (.head _)
            go_wp2_with fail
            refine Calls.mono (C4.out _ (hS.env hE2)) ?_
            rintro e w1 ⟨rfl, hb⟩
            clear c_a_0 c_a_1 c_b_0 c_b_1
            replace hS := hS.call hb
            clear hb
            replace hO := hO.add hS.bl #[.string v0, .string u0, .string v1, .string u1, .string v2, .string u2, .string v3, .string u3] 31
            replace hS := hS.add' #[.string v0, .string u0, .string v1, .string u1, .string v2, .string u2, .string v3, .string u3] 31
            obtain ⟨W0, hW0, hS, hz0⟩ := hS
            replace hO := hO.add hS.bl #[.int .i64 e0, .int .i64 e1, .int .i64 e2, .int .i64 e3] 33
            replace hS := hS.add' #[.int .i64 e0, .int .i64 e1, .int .i64 e2, .int .i64 e3] 33
            obtain ⟨W1, hW1, hS, hz1⟩ := hS
            rw [hz0] at hS hO
            obtain ⟨W, hW⟩ : ∃ W, W = ((w1.alloc (.cells #[.string v0, .string u0, .string v1, .string u1, .string v2, .string u2, .string v3, .string u3] 31)).alloc (.cells #[.int .i64 e0, .int .i64 e1, .int .i64 e2, .int .i64 e3] 33)) := ⟨_, rfl⟩
            replace hS : AL wr g ps [(w1.heap.size + 1, #[.int .i64 e0, .int .i64 e1, .int .i64 e2, .int .i64 e3], 33), (w1.heap.size, #[.string v0, .string u0, .string v1, .string u1, .string v2, .string u2, .string v3, .string u3], 31), (Wn1.heap.size, #[.string nb, .string db], 23), (wr.heap.size, #[.string na, .string da], 23)] W := by rw [hW, ← hW0, ← hW1]; exact hS
            clear hz0 hz1 hW1 hW0
            have hsz : W.heap.size = w1.heap.size + 1 + 1 := by rw [hW]; simp
            go_upto_region 15 with fail
            rw [← hW]
            clear hW
            replace hO := hO.add hS.bl #[.string ⟨#[]⟩, .string ⟨#[]⟩, .string ⟨#[]⟩, .string ⟨#[]⟩, .string ⟨#[]⟩, .string ⟨#[]⟩, .string ⟨#[]⟩, .string ⟨#[]⟩] 31
            obtain ⟨Wn3, hW, hS', hz⟩ := hS.add' #[.string ⟨#[]⟩, .string ⟨#[]⟩, .string ⟨#[]⟩, .string ⟨#[]⟩, .string ⟨#[]⟩, .string ⟨#[]⟩, .string ⟨#[]⟩, .string ⟨#[]⟩] 31
            rw [← hW]
            replace hS := hS'
            clear hS' hW hz
            rw [hsz] at hS hO
            clear hsz
            have hne0 := hS.lts _ (.head _)
            dsimp only at hne0
            have hne1 : ¬ (Wn3.heap.size = w1.heap.size + 1 + 1) := by omega
            have hne2 : ¬ (w1.heap.size + 1 + 1 = Wn3.heap.size) := by omega
            clear hne0
            go_upto_region 16 with fail
            replace hO := hO.add hS.bl #[.int .i64 0, .int .i64 0, .int .i64 0, .int .i64 0] 33
            obtain ⟨Wn4, hW, hS', hz⟩ := hS.add' #[.int .i64 0, .int .i64 0, .int .i64 0, .int .i64 0] 33
            rw [← hW]
            replace hS := hS'
            clear hS' hW hz
            obtain ⟨c_a_0, c_a_1⟩ := hS.c2 (wr.heap.size) _ _ _ (.tail _ (.tail _ (.tail _ (.tail _ (.tail _ (.head _))))))
            obtain ⟨c_b_0, c_b_1⟩ := hS.c2 (Wn1.heap.size) _ _ _ (.tail _ (.tail _ (.tail _ (.tail _ (.head _)))))
            go_wp2_with fail
            refine Calls.mono (CA.out _) ?_
            rintro e w2 ⟨rfl, hb⟩
            clear c_a_0 c_a_1 c_b_0 c_b_1
            replace hS := hS.call hb
            clear hb
            obtain ⟨c_t_0, c_t_1, c_t_2, c_t_3, c_t_4, c_t_5, c_t_6, c_t_7⟩ := hS.c8 (w1.heap.size + 1 + 1) _ _ _ _ _ _ _ _ _ (.tail _ (.head _))
            obtain ⟨c_f_0, c_f_1, c_f_2, c_f_3⟩ := hS.c4 (Wn3.heap.size) _ _ _ _ _ (.head _)
            have fz0 := hS.frozen (w1.heap.size + 1 + 1) _ _ (.tail _ (.head _)) 0
            have fz1 := hS.frozen (w1.heap.size + 1 + 1) _ _ (.tail _ (.head _)) 1
            have fz2 := hS.frozen (Wn3.heap.size) _ _ (.head _) 0
            go_upto_region 17 with fail
            clear c_t_0 c_t_1 c_t_2 c_t_3 c_t_4 c_t_5 c_t_6 c_t_7 c_f_0 c_f_1 c_f_2 c_f_3
            clear fz0 fz1 fz2
            obtain ⟨W0', hW⟩ : ∃ Z, Z = ((w2.setCell ⟨w1.heap.size + 1 + 1, 0, none⟩ (.string v0)).setCell ⟨w1.heap.size + 1 + 1, 1, none⟩ (.string u0)).setCell ⟨Wn3.heap.size, 0, none⟩ (.int .i64 e0) := ⟨_, rfl⟩
            rw [← hW]
            replace hS := AL.put (A := [(Wn3.heap.size, #[.int .i64 0, .int .i64 0, .int .i64 0, .int .i64 0], 33)]) (C := [(w1.heap.size + 1, #[.int .i64 e0, .int .i64 e1, .int .i64 e2, .int .i64 e3], 33), (w1.heap.size, #[.string v0, .string u0, .string v1, .string u1, .string v2, .string u2, .string v3, .string u3], 31), (Wn1.heap.size, #[.string nb, .string db], 23), (wr.heap.size, #[.string na, .string da], 23)]) hO hgl hS 0 (.string v0)
            replace hO : Asc wr [(Wn3.heap.size, #[.int .i64 0, .int .i64 0, .int .i64 0, .int .i64 0], 33), (w1.heap.size + 1 + 1, #[.string v0, .string ⟨#[]⟩, .string ⟨#[]⟩, .string ⟨#[]⟩, .string ⟨#[]⟩, .string ⟨#[]⟩, .string ⟨#[]⟩, .string ⟨#[]⟩], 31), (w1.heap.size + 1, #[.int .i64 e0, .int .i64 e1, .int .i64 e2, .int .i64 e3], 33), (w1.heap.size, #[.string v0, .string u0, .string v1, .string u1, .string v2, .string u2, .string v3, .string u3], 31), (Wn1.heap.size, #[.string nb, .string db], 23), (wr.heap.size, #[.string na, .string da], 23)] := Asc.put (A := [(Wn3.heap.size, #[.int .i64 0, .int .i64 0, .int .i64 0, .int .i64 0], 33)]) (C := [(w1.heap.size + 1, #[.int .i64 e0, .int .i64 e1, .int .i64 e2, .int .i64 e3], 33), (w1.heap.size, #[.string v0, .string u0, .string v1, .string u1, .string v2, .string u2, .string v3, .string u3], 31), (Wn1.heap.size, #[.string nb, .string db], 23), (wr.heap.size, #[.string na, .string da], 23)]) hO
            replace hS := AL.put (A := [(Wn3.heap.size, #[.int .i64 0, .int .i64 0, .int .i64 0, .int .i64 0], 33)]) (C := [(w1.heap.size + 1, #[.int .i64 e0, .int .i64 e1, .int .i64 e2, .int .i64 e3], 33), (w1.heap.size, #[.string v0, .string u0, .string v1, .string u1, .string v2, .string u2, .string v3, .string u3], 31), (Wn1.heap.size, #[.string nb, .string db], 23), (wr.heap.size, #[.string na, .string da], 23)]) hO hgl hS 1 (.string u0)
            replace hO : Asc wr [(Wn3.heap.size, #[.int .i64 0, .int .i64 0, .int .i64 0, .int .i64 0], 33), (w1.heap.size + 1 + 1, #[.string v0, .string u0, .string ⟨#[]⟩, .string ⟨#[]⟩, .string ⟨#[]⟩, .string ⟨#[]⟩, .string ⟨#[]⟩, .string ⟨#[]⟩], 31), (w1.heap.size + 1, #[.int .i64 e0, .int .i64 e1, .int .i64 e2, .int .i64 e3], 33), (w1.heap.size, #[.string v0, .string u0, .string v1, .string u1, .string v2, .string u2, .string v3, .string u3], 31), (Wn1.heap.size, #[.string nb, .string db], 23), (wr.heap.size, #[.string na, .string da], 23)] := Asc.put (A := [(Wn3.heap.size, #[.int .i64 0, .int .i64 0, .int .i64 0, .int .i64 0], 33)]) (C := [(w1.heap.size + 1, #[.int .i64 e0, .int .i64 e1, .int .i64 e2, .int .i64 e3], 33), (w1.heap.size, #[.string v0, .string u0, .string v1, .string u1, .string v2, .string u2, .string v3, .string u3], 31), (Wn1.heap.size, #[.string nb, .string db], 23), (wr.heap.size, #[.string na, .string da], 23)]) hO
            replace hS := AL.put (A := []) (C := [(w1.heap.size + 1 + 1, #[.string v0, .string u0, .string ⟨#[]⟩, .string ⟨#[]⟩, .string ⟨#[]⟩, .string ⟨#[]⟩, .string ⟨#[]⟩, .string ⟨#[]⟩], 31), (w1.heap.size + 1, #[.int .i64 e0, .int .i64 e1, .int .i64 e2, .int .i64 e3], 33), (w1.heap.size, #[.string v0, .string u0, .string v1, .string u1, .string v2, .string u2, .string v3, .string u3], 31), (Wn1.heap.size, #[.string nb, .string db], 23), (wr.heap.size, #[.string na, .string da], 23)]) hO hgl hS 0 (.int .i64 e0)
            replace hO : Asc wr [(Wn3.heap.size, #[.int .i64 e0, .int .i64 0, .int .i64 0, .int .i64 0], 33), (w1.heap.size + 1 + 1, #[.string v0, .string u0, .string ⟨#[]⟩, .string ⟨#[]⟩, .string ⟨#[]⟩, .string ⟨#[]⟩, .string ⟨#[]⟩, .string ⟨#[]⟩], 31), (w1.heap.size + 1, #[.int .i64 e0, .int .i64 e1, .int .i64 e2, .int .i64 e3], 33), (w1.heap.size, #[.string v0, .string u0, .string v1, .string u1, .string v2, .string u2, .string v3, .string u3], 31), (Wn1.heap.size, #[.string nb, .string db], 23), (wr.heap.size, #[.string na, .string da], 23)] := Asc.put (A := []) (C := [(w1.heap.size + 1 + 1, #[.string v0, .string u0, .string ⟨#[]⟩, .string ⟨#[]⟩, .string ⟨#[]⟩, .string ⟨#[]⟩, .string ⟨#[]⟩, .string ⟨#[]⟩], 31), (w1.heap.size + 1, #[.int .i64 e0, .int .i64 e1, .int .i64 e2, .int .i64 e3], 33), (w1.heap.size, #[.string v0, .string u0, .string v1, .string u1, .string v2, .string u2, .string v3, .string u3], 31), (Wn1.heap.size, #[.string nb, .string db], 23), (wr.heap.size, #[.string na, .string da], 23)]) hO
            replace hS : AL wr g ps [(Wn3.heap.size, #[.int .i64 e0, .int .i64 0, .int .i64 0, .int .i64 0], 33), (w1.heap.size + 1 + 1, #[.string v0, .string u0, .string ⟨#[]⟩, .string ⟨#[]⟩, .string ⟨#[]⟩, .string ⟨#[]⟩, .string ⟨#[]⟩, .string ⟨#[]⟩], 31), (w1.heap.size + 1, #[.int .i64 e0, .int .i64 e1, .int .i64 e2, .int .i64 e3], 33), (w1.heap.size, #[.string v0, .string u0, .string v1, .string u1, .string v2, .string u2, .string v3, .string u3], 31), (Wn1.heap.size, #[.string nb, .string db], 23), (wr.heap.size, #[.string na, .string da], 23)] W0' := by rw [hW]; exact hS
            clear hW
            obtain ⟨c_a_0, c_a_1⟩ := hS.c2 (wr.heap.size) _ _ _ (.tail _ (.tail _ (.tail _ (.tail _ (.tail _ (.head _))))))
            obtain ⟨c_b_0, c_b_1⟩ := hS.c2 (Wn1.heap.size) _ _ _ (.tail _ (.tail _ (.tail _ (.tail _ (.head _)))))
            go_wp2_with fail
            refine Calls.mono (CS.out _) ?_
            rintro e w3 ⟨rfl, hb⟩
            clear c_a_0 c_a_1 c_b_0 c_b_1
            replace hS := hS.call hb
            clear hb
            obtain ⟨c_t_0, c_t_1, c_t_2, c_t_3, c_t_4, c_t_5, c_t_6, c_t_7⟩ := hS.c8 (w1.heap.size + 1 + 1) _ _ _ _ _ _ _ _ _ (.tail _ (.head _))
            obtain ⟨c_f_0, c_f_1, c_f_2, c_f_3⟩ := hS.c4 (Wn3.heap.size) _ _ _ _ _ (.head _)
            have fz0 := hS.frozen (w1.heap.size + 1 + 1) _ _ (.tail _ (.head _)) 2
            have fz1 := hS.frozen (w1.heap.size + 1 + 1) _ _ (.tail _ (.head _)) 3
            have fz2 := hS.frozen (Wn3.heap.size) _ _ (.head _) 1
            go_upto_region 18 with fail
            clear c_t_0 c_t_1 c_t_2 c_t_3 c_t_4 c_t_5 c_t_6 c_t_7 c_f_0 c_f_1 c_f_2 c_f_3
            clear fz0 fz1 fz2
            obtain ⟨W1', hW⟩ : ∃ Z, Z = ((w3.setCell ⟨w1.heap.size + 1 + 1, 2, none⟩ (.string v1)).setCell ⟨w1.heap.size + 1 + 1, 3, none⟩ (.string u1)).setCell ⟨Wn3.heap.size, 1, none⟩ (.int .i64 e1) := ⟨_, rfl⟩
            rw [← hW]
            replace hS := AL.put (A := [(Wn3.heap.size, #[.int .i64 e0, .int .i64 0, .int .i64 0, .int .i64 0], 33)]) (C := [(w1.heap.size + 1, #[.int .i64 e0, .int .i64 e1, .int .i64 e2, .int .i64 e3], 33), (w1.heap.size, #[.string v0, .string u0, .string v1, .string u1, .string v2, .string u2, .string v3, .string u3], 31), (Wn1.heap.size, #[.string nb, .string db], 23), (wr.heap.size, #[.string na, .string da], 23)]) hO hgl hS 2 (.string v1)
            replace hO : Asc wr [(Wn3.heap.size, #[.int .i64 e0, .int .i64 0, .int .i64 0, .int .i64 0], 33), (w1.heap.size + 1 + 1, #[.string v0, .string u0, .string v1, .string ⟨#[]⟩, .string ⟨#[]⟩, .string ⟨#[]⟩, .string ⟨#[]⟩, .string ⟨#[]⟩], 31), (w1.heap.size + 1, #[.int .i64 e0, .int .i64 e1, .int .i64 e2, .int .i64 e3], 33), (w1.heap.size, #[.string v0, .string u0, .string v1, .string u1, .string v2, .string u2, .string v3, .string u3], 31), (Wn1.heap.size, #[.string nb, .string db], 23), (wr.heap.size, #[.string na, .string da], 23)] := Asc.put (A := [(Wn3.heap.size, #[.int .i64 e0, .int .i64 0, .int .i64 0, .int .i64 0], 33)]) (C := [(w1.heap.size + 1, #[.int .i64 e0, .int .i64 e1, .int .i64 e2, .int .i64 e3], 33), (w1.heap.size, #[.string v0, .string u0, .string v1, .string u1, .string v2, .string u2, .string v3, .string u3], 31), (Wn1.heap.size, #[.string nb, .string db], 23), (wr.heap.size, #[.string na, .string da], 23)]) hO
            replace hS := AL.put (A := [(Wn3.heap.size, #[.int .i64 e0, .int .i64 0, .int .i64 0, .int .i64 0], 33)]) (C := [(w1.heap.size + 1, #[.int .i64 e0, .int .i64 e1, .int .i64 e2, .int .i64 e3], 33), (w1.heap.size, #[.string v0, .string u0, .string v1, .string u1, .string v2, .string u2, .string v3, .string u3], 31), (Wn1.heap.size, #[.string nb, .string db], 23), (wr.heap.size, #[.string na, .string da], 23)]) hO hgl hS 3 (.string u1)
            replace hO : Asc wr [(Wn3.heap.size, #[.int .i64 e0, .int .i64 0, .int .i64 0, .int .i64 0], 33), (w1.heap.size + 1 + 1, #[.string v0, .string u0, .string v1, .string u1, .string ⟨#[]⟩, .string ⟨#[]⟩, .string ⟨#[]⟩, .string ⟨#[]⟩], 31), (w1.heap.size + 1, #[.int .i64 e0, .int .i64 e1, .int .i64 e2, .int .i64 e3], 33), (w1.heap.size, #[.string v0, .string u0, .string v1, .string u1, .string v2, .string u2, .string v3, .string u3], 31), (Wn1.heap.size, #[.string nb, .string db], 23), (wr.heap.size, #[.string na, .string da], 23)] := Asc.put (A := [(Wn3.heap.size, #[.int .i64 e0, .int .i64 0, .int .i64 0, .int .i64 0], 33)]) (C := [(w1.heap.size + 1, #[.int .i64 e0, .int .i64 e1, .int .i64 e2, .int .i64 e3], 33), (w1.heap.size, #[.string v0, .string u0, .string v1, .string u1, .string v2, .string u2, .string v3, .string u3], 31), (Wn1.heap.size, #[.string nb, .string db], 23), (wr.heap.size, #[.string na, .string da], 23)]) hO
            replace hS := AL.put (A := []) (C := [(w1.heap.size + 1 + 1, #[.string v0, .string u0, .string v1, .string u1, .string ⟨#[]⟩, .string ⟨#[]⟩, .string ⟨#[]⟩, .string ⟨#[]⟩], 31), (w1.heap.size + 1, #[.int .i64 e0, .int .i64 e1, .int .i64 e2, .int .i64 e3], 33), (w1.heap.size, #[.string v0, .string u0, .string v1, .string u1, .string v2, .string u2, .string v3, .string u3], 31), (Wn1.heap.size, #[.string nb, .string db], 23), (wr.heap.size, #[.string na, .string da], 23)]) hO hgl hS 1 (.int .i64 e1)
            replace hO : Asc wr [(Wn3.heap.size, #[.int .i64 e0, .int .i64 e1, .int .i64 0, .int .i64 0], 33), (w1.heap.size + 1 + 1, #[.string v0, .string u0, .string v1, .string u1, .string ⟨#[]⟩, .string ⟨#[]⟩, .string ⟨#[]⟩, .string ⟨#[]⟩], 31), (w1.heap.size + 1, #[.int .i64 e0, .int .i64 e1, .int .i64 e2, .int .i64 e3], 33), (w1.heap.size, #[.string v0, .string u0, .string v1, .string u1, .string v2, .string u2, .string v3, .string u3], 31), (Wn1.heap.size, #[.string nb, .string db], 23), (wr.heap.size, #[.string na, .string da], 23)] := Asc.put (A := []) (C := [(w1.heap.size + 1 + 1, #[.string v0, .string u0, .string v1, .string u1, .string ⟨#[]⟩, .string ⟨#[]⟩, .string ⟨#[]⟩, .string ⟨#[]⟩], 31), (w1.heap.size + 1, #[.int .i64 e0, .int .i64 e1, .int .i64 e2, .int .i64 e3], 33), (w1.heap.size, #[.string v0, .string u0, .string v1, .string u1, .string v2, .string u2, .string v3, .string u3], 31), (Wn1.heap.size, #[.string nb, .string db], 23), (wr.heap.size, #[.string na, .string da], 23)]) hO
            replace hS : AL wr g ps [(Wn3.heap.size, #[.int .i64 e0, .int .i64 e1, .int .i64 0, .int .i64 0], 33), (w1.heap.size + 1 + 1, #[.string v0, .string u0, .string v1, .string u1, .string ⟨#[]⟩, .string ⟨#[]⟩, .string ⟨#[]⟩, .string ⟨#[]⟩], 31), (w1.heap.size + 1, #[.int .i64 e0, .int .i64 e1, .int .i64 e2, .int .i64 e3], 33), (w1.heap.size, #[.string v0, .string u0, .string v1, .string u1, .string v2, .string u2, .string v3, .string u3], 31), (Wn1.heap.size, #[.string nb, .string db], 23), (wr.heap.size, #[.string na, .string da], 23)] W1' := by rw [hW]; exact hS
            clear hW
            obtain ⟨c_a_0, c_a_1⟩ := hS.c2 (wr.heap.size) _ _ _ (.tail _ (.tail _ (.tail _ (.tail _ (.tail _ (.head _))))))
            obtain ⟨c_b_0, c_b_1⟩ := hS.c2 (Wn1.heap.size) _ _ _ (.tail _ (.tail _ (.tail _ (.tail _ (.head _)))))
            go_wp2_with fail
            refine Calls.mono (CM.out _) ?_
            rintro e w4 ⟨rfl, hb⟩
            clear c_a_0 c_a_1 c_b_0 c_b_1
            replace hS := hS.call hb
            clear hb
            obtain ⟨c_t_0, c_t_1, c_t_2, c_t_3, c_t_4, c_t_5, c_t_6, c_t_7⟩ := hS.c8 (w1.heap.size + 1 + 1) _ _ _ _ _ _ _ _ _ (.tail _ (.head _))
            obtain ⟨c_f_0, c_f_1, c_f_2, c_f_3⟩ := hS.c4 (Wn3.heap.size) _ _ _ _ _ (.head _)
            have fz0 := hS.frozen (w1.heap.size + 1 + 1) _ _ (.tail _ (.head _)) 4
            have fz1 := hS.frozen (w1.heap.size + 1 + 1) _ _ (.tail _ (.head _)) 5
            have fz2 := hS.frozen (Wn3.heap.size) _ _ (.head _) 2
            go_upto_region 19 with fail
            clear c_t_0 c_t_1 c_t_2 c_t_3 c_t_4 c_t_5 c_t_6 c_t_7 c_f_0 c_f_1 c_f_2 c_f_3
            clear fz0 fz1 fz2
            obtain ⟨W2', hW⟩ : ∃ Z, Z = ((w4.setCell ⟨w1.heap.size + 1 + 1, 4, none⟩ (.string v2)).setCell ⟨w1.heap.size + 1 + 1, 5, none⟩ (.string u2)).setCell ⟨Wn3.heap.size, 2, none⟩ (.int .i64 e2) := ⟨_, rfl⟩
            rw [← hW]
            replace hS := AL.put (A := [(Wn3.heap.size, #[.int .i64 e0, .int .i64 e1, .int .i64 0, .int .i64 0], 33)]) (C := [(w1.heap.size + 1, #[.int .i64 e0, .int .i64 e1, .int .i64 e2, .int .i64 e3], 33), (w1.heap.size, #[.string v0, .string u0, .string v1, .string u1, .string v2, .string u2, .string v3, .string u3], 31), (Wn1.heap.size, #[.string nb, .string db], 23), (wr.heap.size, #[.string na, .string da], 23)]) hO hgl hS 4 (.string v2)
            replace hO : Asc wr [(Wn3.heap.size, #[.int .i64 e0, .int .i64 e1, .int .i64 0, .int .i64 0], 33), (w1.heap.size + 1 + 1, #[.string v0, .string u0, .string v1, .string u1, .string v2, .string ⟨#[]⟩, .string ⟨#[]⟩, .string ⟨#[]⟩], 31), (w1.heap.size + 1, #[.int .i64 e0, .int .i64 e1, .int .i64 e2, .int .i64 e3], 33), (w1.heap.size, #[.string v0, .string u0, .string v1, .string u1, .string v2, .string u2, .string v3, .string u3], 31), (Wn1.heap.size, #[.string nb, .string db], 23), (wr.heap.size, #[.string na, .string da], 23)] := Asc.put (A := [(Wn3.heap.size, #[.int .i64 e0, .int .i64 e1, .int .i64 0, .int .i64 0], 33)]) (C := [(w1.heap.size + 1, #[.int .i64 e0, .int .i64 e1, .int .i64 e2, .int .i64 e3], 33), (w1.heap.size, #[.string v0, .string u0, .string v1, .string u1, .string v2, .string u2, .string v3, .string u3], 31), (Wn1.heap.size, #[.string nb, .string db], 23), (wr.heap.size, #[.string na, .string da], 23)]) hO
            replace hS := AL.put (A := [(Wn3.heap.size, #[.int .i64 e0, .int .i64 e1, .int .i64 0, .int .i64 0], 33)]) (C := [(w1.heap.size + 1, #[.int .i64 e0, .int .i64 e1, .int .i64 e2, .int .i64 e3], 33), (w1.heap.size, #[.string v0, .string u0, .string v1, .string u1, .string v2, .string u2, .string v3, .string u3], 31), (Wn1.heap.size, #[.string nb, .string db], 23), (wr.heap.size, #[.string na, .string da], 23)]) hO hgl hS 5 (.string u2)
            replace hO : Asc wr [(Wn3.heap.size, #[.int .i64 e0, .int .i64 e1, .int .i64 0, .int .i64 0], 33), (w1.heap.size + 1 + 1, #[.string v0, .string u0, .string v1, .string u1, .string v2, .string u2, .string ⟨#[]⟩, .string ⟨#[]⟩], 31), (w1.heap.size + 1, #[.int .i64 e0, .int .i64 e1, .int .i64 e2, .int .i64 e3], 33), (w1.heap.size, #[.string v0, .string u0, .string v1, .string u1, .string v2, .string u2, .string v3, .string u3], 31), (Wn1.heap.size, #[.string nb, .string db], 23), (wr.heap.size, #[.string na, .string da], 23)] := Asc.put (A := [(Wn3.heap.size, #[.int .i64 e0, .int .i64 e1, .int .i64 0, .int .i64 0], 33)]) (C := [(w1.heap.size + 1, #[.int .i64 e0, .int .i64 e1, .int .i64 e2, .int .i64 e3], 33), (w1.heap.size, #[.string v0, .string u0, .string v1, .string u1, .string v2, .string u2, .string v3, .string u3], 31), (Wn1.heap.size, #[.string nb, .string db], 23), (wr.heap.size, #[.string na, .string da], 23)]) hO
            replace hS := AL.put (A := []) (C := [(w1.heap.size + 1 + 1, #[.string v0, .string u0, .string v1, .string u1, .string v2, .string u2, .string ⟨#[]⟩, .string ⟨#[]⟩], 31), (w1.heap.size + 1, #[.int .i64 e0, .int .i64 e1, .int .i64 e2, .int .i64 e3], 33), (w1.heap.size, #[.string v0, .string u0, .string v1, .string u1, .string v2, .string u2, .string v3, .string u3], 31), (Wn1.heap.size, #[.string nb, .string db], 23), (wr.heap.size, #[.string na, .string da], 23)]) hO hgl hS 2 (.int .i64 e2)
            replace hO : Asc wr [(Wn3.heap.size, #[.int .i64 e0, .int .i64 e1, .int .i64 e2, .int .i64 0], 33), (w1.heap.size + 1 + 1, #[.string v0, .string u0, .string v1, .string u1, .string v2, .string u2, .string ⟨#[]⟩, .string ⟨#[]⟩], 31), (w1.heap.size + 1, #[.int .i64 e0, .int .i64 e1, .int .i64 e2, .int .i64 e3], 33), (w1.heap.size, #[.string v0, .string u0, .string v1, .string u1, .string v2, .string u2, .string v3, .string u3], 31), (Wn1.heap.size, #[.string nb, .string db], 23), (wr.heap.size, #[.string na, .string da], 23)] := Asc.put (A := []) (C := [(w1.heap.size + 1 + 1, #[.string v0, .string u0, .string v1, .string u1, .string v2, .string u2, .string ⟨#[]⟩, .string ⟨#[]⟩], 31), (w1.heap.size + 1, #[.int .i64 e0, .int .i64 e1, .int .i64 e2, .int .i64 e3], 33), (w1.heap.size, #[.string v0, .string u0, .string v1, .string u1, .string v2, .string u2, .string v3, .string u3], 31), (Wn1.heap.size, #[.string nb, .string db], 23), (wr.heap.size, #[.string na, .string da], 23)]) hO
            replace hS : AL wr g ps [(Wn3.heap.size, #[.int .i64 e0, .int .i64 e1, .int .i64 e2, .int .i64 0], 33), (w1.heap.size + 1 + 1, #[.string v0, .string u0, .string v1, .string u1, .string v2, .string u2, .string ⟨#[]⟩, .string ⟨#[]⟩], 31), (w1.heap.size + 1, #[.int .i64 e0, .int .i64 e1, .int .i64 e2, .int .i64 e3], 33), (w1.heap.size, #[.string v0, .string u0, .string v1, .string u1, .string v2, .string u2, .string v3, .string u3], 31), (Wn1.heap.size, #[.string nb, .string db], 23), (wr.heap.size, #[.string na, .string da], 23)] W2' := by rw [hW]; exact hS
            clear hW
            obtain ⟨c_a_0, c_a_1⟩ := hS.c2 (wr.heap.size) _ _ _ (.tail _ (.tail _ (.tail _ (.tail _ (.tail _ (.head _))))))
            obtain ⟨c_b_0, c_b_1⟩ := hS.c2 (Wn1.heap.size) _ _ _ (.tail _ (.tail _ (.tail _ (.tail _ (.head _)))))
            go_wp2_with fail
            refine Calls.mono (CD.out _) ?_
            rintro e w5 ⟨rfl, hb⟩
            clear c_a_0 c_a_1 c_b_0 c_b_1
            replace hS := hS.call hb
            clear hb
            obtain ⟨c_t_0, c_t_1, c_t_2, c_t_3, c_t_4, c_t_5, c_t_6, c_t_7⟩ := hS.c8 (w1.heap.size + 1 + 1) _ _ _ _ _ _ _ _ _ (.tail _ (.head _))
            obtain ⟨c_f_0, c_f_1, c_f_2, c_f_3⟩ := hS.c4 (Wn3.heap.size) _ _ _ _ _ (.head _)
            have fz0 := hS.frozen (w1.heap.size + 1 + 1) _ _ (.tail _ (.head _)) 6
            have fz1 := hS.frozen (w1.heap.size + 1 + 1) _ _ (.tail _ (.head _)) 7
            have fz2 := hS.frozen (Wn3.heap.size) _ _ (.head _) 3
            go_upto_region 20 with fail
            clear c_t_0 c_t_1 c_t_2 c_t_3 c_t_4 c_t_5 c_t_6 c_t_7 c_f_0 c_f_1 c_f_2 c_f_3
            clear fz0 fz1 fz2
            obtain ⟨W3', hW⟩ : ∃ Z, Z = ((w5.setCell ⟨w1.heap.size + 1 + 1, 6, none⟩ (.string v3)).setCell ⟨w1.heap.size + 1 + 1, 7, none⟩ (.string u3)).setCell ⟨Wn3.heap.size, 3, none⟩ (.int .i64 e3) := ⟨_, rfl⟩
            rw [← hW]
            replace hS := AL.put (A := [(Wn3.heap.size, #[.int .i64 e0, .int .i64 e1, .int .i64 e2, .int .i64 0], 33)]) (C := [(w1.heap.size + 1, #[.int .i64 e0, .int .i64 e1, .int .i64 e2, .int .i64 e3], 33), (w1.heap.size, #[.string v0, .string u0, .string v1, .string u1, .string v2, .string u2, .string v3, .string u3], 31), (Wn1.heap.size, #[.string nb, .string db], 23), (wr.heap.size, #[.string na, .string da], 23)]) hO hgl hS 6 (.string v3)
            replace hO : Asc wr [(Wn3.heap.size, #[.int .i64 e0, .int .i64 e1, .int .i64 e2, .int .i64 0], 33), (w1.heap.size + 1 + 1, #[.string v0, .string u0, .string v1, .string u1, .string v2, .string u2, .string v3, .string ⟨#[]⟩], 31), (w1.heap.size + 1, #[.int .i64 e0, .int .i64 e1, .int .i64 e2, .int .i64 e3], 33), (w1.heap.size, #[.string v0, .string u0, .string v1, .string u1, .string v2, .string u2, .string v3, .string u3], 31), (Wn1.heap.size, #[.string nb, .string db], 23), (wr.heap.size, #[.string na, .string da], 23)] := Asc.put (A := [(Wn3.heap.size, #[.int .i64 e0, .int .i64 e1, .int .i64 e2, .int .i64 0], 33)]) (C := [(w1.heap.size + 1, #[.int .i64 e0, .int .i64 e1, .int .i64 e2, .int .i64 e3], 33), (w1.heap.size, #[.string v0, .string u0, .string v1, .string u1, .string v2, .string u2, .string v3, .string u3], 31), (Wn1.heap.size, #[.string nb, .string db], 23), (wr.heap.size, #[.string na, .string da], 23)]) hO
            replace hS := AL.put (A := [(Wn3.heap.size, #[.int .i64 e0, .int .i64 e1, .int .i64 e2, .int .i64 0], 33)]) (C := [(w1.heap.size + 1, #[.int .i64 e0, .int .i64 e1, .int .i64 e2, .int .i64 e3], 33), (w1.heap.size, #[.string v0, .string u0, .string v1, .string u1, .string v2, .string u2, .string v3, .string u3], 31), (Wn1.heap.size, #[.string nb, .string db], 23), (wr.heap.size, #[.string na, .string da], 23)]) hO hgl hS 7 (.string u3)
            replace hO : Asc wr [(Wn3.heap.size, #[.int .i64 e0, .int .i64 e1, .int .i64 e2, .int .i64 0], 33), (w1.heap.size + 1 + 1, #[.string v0, .string u0, .string v1, .string u1, .string v2, .string u2, .string v3, .string u3], 31), (w1.heap.size + 1, #[.int .i64 e0, .int .i64 e1, .int .i64 e2, .int .i64 e3], 33), (w1.heap.size, #[.string v0, .string u0, .string v1, .string u1, .string v2, .string u2, .string v3, .string u3], 31), (Wn1.heap.size, #[.string nb, .string db], 23), (wr.heap.size, #[.string na, .string da], 23)] := Asc.put (A := [(Wn3.heap.size, #[.int .i64 e0, .int .i64 e1, .int .i64 e2, .int .i64 0], 33)]) (C := [(w1.heap.size + 1, #[.int .i64 e0, .int .i64 e1, .int .i64 e2, .int .i64 e3], 33), (w1.heap.size, #[.string v0, .string u0, .string v1, .string u1, .string v2, .string u2, .string v3, .string u3], 31), (Wn1.heap.size, #[.string nb, .string db], 23), (wr.heap.size, #[.string na, .string da], 23)]) hO
            replace hS := AL.put (A := []) (C := [(w1.heap.size + 1 + 1, #[.string v0, .string u0, .string v1, .string u1, .string v2, .string u2, .string v3, .string u3], 31), (w1.heap.size + 1, #[.int .i64 e0, .int .i64 e1, .int .i64 e2, .int .i64 e3], 33), (w1.heap.size, #[.string v0, .string u0, .string v1, .string u1, .string v2, .string u2, .string v3, .string u3], 31), (Wn1.heap.size, #[.string nb, .string db], 23), (wr.heap.size, #[.string na, .string da], 23)]) hO hgl hS 3 (.int .i64 e3)
            replace hO : Asc wr [(Wn3.heap.size, #[.int .i64 e0, .int .i64 e1, .int .i64 e2, .int .i64 e3], 33), (w1.heap.size + 1 + 1, #[.string v0, .string u0, .string v1, .string u1, .string v2, .string u2, .string v3, .string u3], 31), (w1.heap.size + 1, #[.int .i64 e0, .int .i64 e1, .int .i64 e2, .int .i64 e3], 33), (w1.heap.size, #[.string v0, .string u0, .string v1, .string u1, .string v2, .string u2, .string v3, .string u3], 31), (Wn1.heap.size, #[.string nb, .string db], 23), (wr.heap.size, #[.string na, .string da], 23)] := Asc.put (A := []) (C := [(w1.heap.size + 1 + 1, #[.string v0, .string u0, .string v1, .string u1, .string v2, .string u2, .string v3, .string u3], 31), (w1.heap.size + 1, #[.int .i64 e0, .int .i64 e1, .int .i64 e2, .int .i64 e3], 33), (w1.heap.size, #[.string v0, .string u0, .string v1, .string u1, .string v2, .string u2, .string v3, .string u3], 31), (Wn1.heap.size, #[.string nb, .string db], 23), (wr.heap.size, #[.string na, .string da], 23)]) hO
            replace hS : AL wr g ps [(Wn3.heap.size, #[.int .i64 e0, .int .i64 e1, .int .i64 e2, .int .i64 e3], 33), (w1.heap.size + 1 + 1, #[.string v0, .string u0, .string v1, .string u1, .string v2, .string u2, .string v3, .string u3], 31), (w1.heap.size + 1, #[.int .i64 e0, .int .i64 e1, .int .i64 e2, .int .i64 e3], 33), (w1.heap.size, #[.string v0, .string u0, .string v1, .string u1, .string v2, .string u2, .string v3, .string u3], 31), (Wn1.heap.size, #[.string nb, .string db], 23), (wr.heap.size, #[.string na, .string da], 23)] W3' := by rw [hW]; exact hS
            clear hW
            have hC0 : ∀ W', AL wr g ps [(Wn3.heap.size, #[.int .i64 e0, .int .i64 e1, .int .i64 e2, .int .i64 e3], 33), (w1.heap.size + 1 + 1, #[.string v0, .string u0, .string v1, .string u1, .string v2, .string u2, .string v3, .string u3], 31), (w1.heap.size + 1, #[.int .i64 e0, .int .i64 e1, .int .i64 e2, .int .i64 e3], 33), (w1.heap.size, #[.string v0, .string u0, .string v1, .string u1, .string v2, .string u2, .string v3, .string u3], 31), (Wn1.heap.size, #[.string nb, .string db], 23), (wr.heap.size, #[.string na, .string da], 23)] W' → (W'.cell? ⟨wr.heap.size, 0, none⟩ = some (.string na) ∧ W'.cell? ⟨wr.heap.size, 1, none⟩ = some (.string da) ∧ W'.cell? ⟨Wn1.heap.size, 0, none⟩ = some (.string nb) ∧ W'.cell? ⟨Wn1.heap.size, 1, none⟩ = some (.string db) ∧ W'.cell? ⟨w1.heap.size, 0, none⟩ = some (.string v0) ∧ W'.cell? ⟨w1.heap.size, 1, none⟩ = some (.string u0) ∧ W'.cell? ⟨w1.heap.size, 2, none⟩ = some (.string v1) ∧ W'.cell? ⟨w1.heap.size, 3, none⟩ = some (.string u1) ∧ W'.cell? ⟨w1.heap.size, 4, none⟩ = some (.string v2) ∧ W'.cell? ⟨w1.heap.size, 5, none⟩ = some (.string u2) ∧ W'.cell? ⟨w1.heap.size, 6, none⟩ = some (.string v3) ∧ W'.cell? ⟨w1.heap.size, 7, none⟩ = some (.string u3) ∧ W'.cell? ⟨w1.heap.size + 1, 0, none⟩ = some (.int .i64 e0) ∧ W'.cell? ⟨w1.heap.size + 1, 1, none⟩ = some (.int .i64 e1) ∧ W'.cell? ⟨w1.heap.size + 1, 2, none⟩ = some (.int .i64 e2) ∧ W'.cell? ⟨w1.heap.size + 1, 3, none⟩ = some (.int .i64 e3) ∧ W'.cell? ⟨w1.heap.size + 1 + 1, 0, none⟩ = some (.string v0) ∧ W'.cell? ⟨w1.heap.size + 1 + 1, 1, none⟩ = some (.string u0) ∧ W'.cell? ⟨w1.heap.size + 1 + 1, 2, none⟩ = some (.string v1) ∧ W'.cell? ⟨w1.heap.size + 1 + 1, 3, none⟩ = some (.string u1) ∧ W'.cell? ⟨w1.heap.size + 1 + 1, 4, none⟩ = some (.string v2) ∧ W'.cell? ⟨w1.heap.size + 1 + 1, 5, none⟩ = some (.string u2) ∧ W'.cell? ⟨w1.heap.size + 1 + 1, 6, none⟩ = some (.string v3) ∧ W'.cell? ⟨w1.heap.size + 1 + 1, 7, none⟩ = some (.string u3) ∧ W'.cell? ⟨Wn3.heap.size, 0, none⟩ = some (.int .i64 e0) ∧ W'.cell? ⟨Wn3.heap.size, 1, none⟩ = some (.int .i64 e1) ∧ W'.cell? ⟨Wn3.heap.size, 2, none⟩ = some (.int .i64 e2) ∧ W'.cell? ⟨Wn3.heap.size, 3, none⟩ = some (.int .i64 e3)) := fun W' h => ⟨(h.cell (wr.heap.size) _ _ (.tail _ (.tail _ (.tail _ (.tail _ (.tail _ (.head _)))))) 0), (h.cell (wr.heap.size) _ _ (.tail _ (.tail _ (.tail _ (.tail _ (.tail _ (.head _)))))) 1), (h.cell (Wn1.heap.size) _ _ (.tail _ (.tail _ (.tail _ (.tail _ (.head _))))) 0), (h.cell (Wn1.heap.size) _ _ (.tail _ (.tail _ (.tail _ (.tail _ (.head _))))) 1), (h.cell (w1.heap.size) _ _ (.tail _ (.tail _ (.tail _ (.head _)))) 0), (h.cell (w1.heap.size) _ _ (.tail _ (.tail _ (.tail _ (.head _)))) 1), (h.cell (w1.heap.size) _ _ (.tail _ (.tail _ (.tail _ (.head _)))) 2), (h.cell (w1.heap.size) _ _ (.tail _ (.tail _ (.tail _ (.head _)))) 3), (h.cell (w1.heap.size) _ _ (.tail _ (.tail _ (.tail _ (.head _)))) 4), (h.cell (w1.heap.size) _ _ (.tail _ (.tail _ (.tail _ (.head _)))) 5), (h.cell (w1.heap.size) _ _ (.tail _ (.tail _ (.tail _ (.head _)))) 6), (h.cell (w1.heap.size) _ _ (.tail _ (.tail _ (.tail _ (.head _)))) 7), (h.cell (w1.heap.size + 1) _ _ (.tail _ (.tail _ (.head _))) 0), (h.cell (w1.heap.size + 1) _ _ (.tail _ (.tail _ (.head _))) 1), (h.cell (w1.heap.size + 1) _ _ (.tail _ (.tail _ (.head _))) 2), (h.cell (w1.heap.size + 1) _ _ (.tail _ (.tail _ (.head _))) 3), (h.cell (w1.heap.size + 1 + 1) _ _ (.tail _ (.head _)) 0), (h.cell (w1.heap.size + 1 + 1) _ _ (.tail _ (.head _)) 1), (h.cell (w1.heap.size + 1 + 1) _ _ (.tail _ (.head _)) 2), (h.cell (w1.heap.size + 1 + 1) _ _ (.tail _ (.head _)) 3), (h.cell (w1.heap.size + 1 + 1) _ _ (.tail _ (.head _)) 4), (h.cell (w1.heap.size + 1 + 1) _ _ (.tail _ (.head _)) 5), (h.cell (w1.heap.size + 1 + 1) _ _ (.tail _ (.head _)) 6), (h.cell (w1.heap.size + 1 + 1) _ _ (.tail _ (.head _)) 7), (h.cell (Wn3.heap.size) _ _ (.head _) 0), (h.cell (Wn3.heap.size) _ _ (.head _) 1), (h.cell (Wn3.heap.size) _ _ (.head _) 2), (h.cell (Wn3.heap.size) _ _ (.head _) 3)⟩
            have hC := Lib.hid hC0
            clear hC0
            go_cut [133] (fun s wx => s = .bool false ∧ AL wr g ps [(Wn3.heap.size, #[.int .i64 e0, .int .i64 e1, .int .i64 e2, .int .i64 e3], 33), (w1.heap.size + 1 + 1, #[.string v0, .string u0, .string v1, .string u1, .string v2, .string u2, .string v3, .string u3], 31), (w1.heap.size + 1, #[.int .i64 e0, .int .i64 e1, .int .i64 e2, .int .i64 e3], 33), (w1.heap.size, #[.string v0, .string u0, .string v1, .string u1, .string v2, .string u2, .string v3, .string u3], 31), (Wn1.heap.size, #[.string nb, .string db], 23), (wr.heap.size, #[.string na, .string da], 23)] wx)
            case first => as_aux_lemma =>
              refine wp_region_quiet (C := fun W' => AL wr g ps [(Wn3.heap.size, #[.int .i64 e0, .int .i64 e1, .int .i64 e2, .int .i64 e3], 33), (w1.heap.size + 1 + 1, #[.string v0, .string u0, .string v1, .string u1, .string v2, .string u2, .string v3, .string u3], 31), (w1.heap.size + 1, #[.int .i64 e0, .int .i64 e1, .int .i64 e2, .int .i64 e3], 33), (w1.heap.size, #[.string v0, .string u0, .string v1, .string u1, .string v2, .string u2, .string v3, .string u3], 31), (Wn1.heap.size, #[.string nb, .string db], 23), (wr.heap.size, #[.string na, .string da], 23)] W') rfl (by kernel_rfl) hS.drew (Walled2.out ?_)
              refine qWant2 rfl fun K hK => ?_
              go_simp
              refine ⟨.agg #[.string v0, .string u0, .string v1, .string u1, .string v2, .string u2, .string v3, .string u3], fun W hW => ?_, hK _ ?_⟩
              · obtain ⟨x0', x1', x2', x3', x4', x5', x6', x7', x8', x9', x10', x11', x12', x13', x14', x15', x16', x17', x18', x19', x20', x21', x22', x23', x24', x25', x26', x27'⟩ := hC.out W hW
                go_simp
              clear hK K
              refine qWant2 rfl fun K hK => ?_
              go_simp
              refine ⟨.agg #[.string v0, .string u0, .string v1, .string u1, .string v2, .string u2, .string v3, .string u3], fun W hW => ?_, hK _ ?_⟩
              · obtain ⟨x0', x1', x2', x3', x4', x5', x6', x7', x8', x9', x10', x11', x12', x13', x14', x15', x16', x17', x18', x19', x20', x21', x22', x23', x24', x25', x26', x27'⟩ := hC.out W hW
                go_simp
              clear hK K
              refine qWant2 rfl fun K hK => ?_
              go_simp
              refine ⟨.bool false, fun _ _ => by first | rfl | (rw [eq_arr8]; exact ⟨rfl, rfl⟩) | (rw [eq_arr4]; exact ⟨rfl, rfl⟩) | simp, hK _ ?_⟩
              clear hK K
              refine qWant2 rfl fun K hK => ?_
              go_simp
              refine ⟨_, fun _ _ => rfl, hK _ ?_⟩
              clear hK K
              refine qWant2 rfl fun K hK => ?_
              go_simp
              refine ⟨.agg #[.int .i64 e0, .int .i64 e1, .int .i64 e2, .int .i64 e3], fun W hW => ?_, hK _ ?_⟩
              · obtain ⟨x0', x1', x2', x3', x4', x5', x6', x7', x8', x9', x10', x11', x12', x13', x14', x15', x16', x17', x18', x19', x20', x21', x22', x23', x24', x25', x26', x27'⟩ := hC.out W hW
                go_simp
              clear hK K
              refine qWant2 rfl fun K hK => ?_
              go_simp
              refine ⟨.agg #[.int .i64 e0, .int .i64 e1, .int .i64 e2, .int .i64 e3], fun W hW => ?_, hK _ ?_⟩
              · obtain ⟨x0', x1', x2', x3', x4', x5', x6', x7', x8', x9', x10', x11', x12', x13', x14', x15', x16', x17', x18', x19', x20', x21', x22', x23', x24', x25', x26', x27'⟩ := hC.out W hW
                go_simp
              clear hK K
              refine qWant2 rfl fun K hK => ?_
              go_simp
              refine ⟨.bool false, fun _ _ => by first | rfl | (rw [eq_arr8]; exact ⟨rfl, rfl⟩) | (rw [eq_arr4]; exact ⟨rfl, rfl⟩) | simp, hK _ ?_⟩
              clear hK K
              refine qWant2 rfl fun K hK => ?_
              go_simp
              refine ⟨_, fun _ _ => rfl, hK _ ?_⟩
              clear hK K
              refine qWant2 rfl fun K hK => ?_
              go_simp
              refine ⟨_, fun _ _ => rfl, hK _ ?_⟩
              clear hK K
              refine qWant2 rfl fun K hK => ?_
              go_simp
              refine ⟨.agg #[.string na, .string da], fun W hW => ?_, hK _ ?_⟩
              · obtain ⟨x0', x1', x2', x3', x4', x5', x6', x7', x8', x9', x10', x11', x12', x13', x14', x15', x16', x17', x18', x19', x20', x21', x22', x23', x24', x25', x26', x27'⟩ := hC.out W hW
                go_simp
              clear hK K
              refine qWant2 rfl fun K hK => ?_
              go_simp
              refine ⟨.agg #[.string nb, .string db], fun W hW => ?_, hK _ ?_⟩
              · obtain ⟨x0', x1', x2', x3', x4', x5', x6', x7', x8', x9', x10', x11', x12', x13', x14', x15', x16', x17', x18', x19', x20', x21', x22', x23', x24', x25', x26', x27'⟩ := hC.out W hW
                go_simp
              clear hK K
              refine qWant2 rfl fun K hK => ?_
              go_simp
              refine ⟨.int .i64 c, fun W hW => (CC.out W (hW.env hE2)).mono fun e w' h => ⟨h.1, hW.call h.2⟩, hK _ ?_⟩
              clear hK K
              refine qWant2 rfl fun K hK => ?_
              go_simp
              refine ⟨.agg #[.string na, .string da], fun W hW => ?_, hK _ ?_⟩
              · obtain ⟨x0', x1', x2', x3', x4', x5', x6', x7', x8', x9', x10', x11', x12', x13', x14', x15', x16', x17', x18', x19', x20', x21', x22', x23', x24', x25', x26', x27'⟩ := hC.out W hW
                go_simp
              clear hK K
              refine qWant2 rfl fun K hK => ?_
              go_simp
              refine ⟨.agg #[.string nb, .string db], fun W hW => ?_, hK _ ?_⟩
              · obtain ⟨x0', x1', x2', x3', x4', x5', x6', x7', x8', x9', x10', x11', x12', x13', x14', x15', x16', x17', x18', x19', x20', x21', x22', x23', x24', x25', x26', x27'⟩ := hC.out W hW
                go_simp
              clear hK K
              refine qWant2 rfl fun K hK => ?_
              go_simp
              refine ⟨.int .i64 c, fun W hW => (CR.out W).mono fun e w' h => ⟨h.1, hW.call h.2⟩, hK _ ?_⟩
              clear hK K
              refine qWant2 rfl fun K hK => ?_
              go_simp
              refine ⟨.bool false, fun _ _ => by first | rfl | (rw [eq_arr8]; exact ⟨rfl, rfl⟩) | (rw [eq_arr4]; exact ⟨rfl, rfl⟩) | simp, hK _ ?_⟩
              clear hK K
              refine qWant2 rfl fun K hK => ?_
              go_simp
              refine ⟨_, fun _ _ => rfl, hK _ ?_⟩
              clear hK K
              refine qNil2 ?_
              intro W' hI
              go_wp2_with fail
              go_meet
              exact ⟨rfl, hI⟩
            case rest =>
              clear hC hS
              obtain ⟨rfl, hS⟩ := hcut
              go_wp2_with fail
              go_roundw
              case rel => exact ⟨k + 1, by go_num, by omega, hA.call hS.below⟩
              case measure => simp [intOf]; omega
          case neg =>
            have hke : k = 5 := by omega
            subst hke
            clear hk hk5
            have zb0 := pkv_nonneg (c := z) (m := 32) (by decide)
            have zb1 := pkv_lt (c := z) (m := 32) (by decide)
            have PZ := Lib.hid (fun W => (show Calls Tryz.prog 15 #[.int .i64 z, .int .i64 32] W (Rets W (.int .i64 (pkv z 32))) from (pick4_any z 32 Z0 (by decide) (by decide) W).mono fun _ _ h => ⟨h.1, by rw [← h.2]; exact Below.refl _ _⟩))
            generalize pkv z 32 = pz at *
            have hS := hA
            clear hA PR
            have hO : Asc w [] := Asc.nil w
            go_wp2_with fail
            refine Calls.mono (PZ.out _) ?_
            rintro e w1 ⟨rfl, hb⟩
            replace hS := hS.call hb
            clear hb
            replace hO := hO.add hS.bl #[.int .i64 z, .int .i64 pz] 3
            replace hS := hS.add' #[.int .i64 z, .int .i64 pz] 3
            obtain ⟨W0, hW0, hS, hz0⟩ := hS
            obtain ⟨W, hW⟩ : ∃ W, W = (w1.alloc (.cells #[.int .i64 z, .int .i64 pz] 3)) := ⟨_, rfl⟩
            replace hS : AL w g ps [(w1.heap.size, #[.int .i64 z, .int .i64 pz], 3)] W := by rw [hW, ← hW0]; exact hS
            clear hz0 hW0
            go_wp2_with fail
            rw [← hW]
            clear hW
            go_loopw [139] (fun o wr2 => ∃ m : Nat, o = .int .i64 m ∧ m ≤ 2 ∧ AL w g ps [(w1.heap.size, #[.int .i64 z, .int .i64 pz], 3)] wr2) (fun o _ => 2 - (intOf o).toNat)
            case atStart => exact ⟨0, rfl, by omega, hS⟩
            case round =>
              clear hS
              obtain ⟨m, rfl, hm2, hS⟩ := hrel
              rcases (show m = 0 ∨ m = 1 ∨ m = 2 by omega) with rfl | rfl | rfl
              · as_aux_lemma =>
                  rw [show ((0 : Nat) : Int) = 0 from rfl]
                  have hA := hS
                  have wq : IntKind.i64.wrap 1 = 1 := IntWalk.i64_in _ (by omega)
                  have wq' : wrap64 1 = 1 := IntWalk.wrap64_in _ (by omega)
                  obtain ⟨s1, t1, s2, t2, e1, e2, RC⟩ := RN.out z
                  have RD := Lib.hid RC.down
                  have RD' := Lib.hid RC.rdown
                  have RU := Lib.hid RC.up
                  have RU' := Lib.hid RC.rup
                  clear RC RN MK
                  obtain ⟨c_pl_0, c_pl_1⟩ := hS.c2 (w1.heap.size) _ _ _ (.head _)
                  go_upto_region 25 with fail
                  clear c_pl_0 c_pl_1
                  obtain ⟨a0, a1⟩ := hPi.out _ _ _ hS
                  go_wp2_with fail
                  refine Calls.mono (RD.out _ (hS.env hE)) ?_
                  rintro e w2 ⟨rfl, hb⟩
                  replace hS := hS.call hb
                  clear hb
                  clear a0 a1
                  replace hO := hO.add hS.bl #[.string s1, .string t1] 23
                  replace hS := hS.add' #[.string s1, .string t1] 23
                  obtain ⟨W0, hW0, hS, hz0⟩ := hS
                  obtain ⟨W, hW⟩ : ∃ W, W = (w2.alloc (.cells #[.string s1, .string t1] 23)) := ⟨_, rfl⟩
                  replace hS : AL w g ps [(w2.heap.size, #[.string s1, .string t1], 23), (w1.heap.size, #[.int .i64 z, .int .i64 pz], 3)] W := by rw [hW, ← hW0]; exact hS
                  clear hz0 hW0
                  go_upto_region 26 with fail
                  rw [← hW]
                  clear hW
                  obtain ⟨a0, a1⟩ := hPi.out _ _ _ hS
                  go_wp2_with fail
                  refine Calls.mono (RD'.out _) ?_
                  rintro e w3 ⟨rfl, hb⟩
                  replace hS := hS.call hb
                  clear hb
                  clear a0 a1
                  replace hO := hO.add hS.bl #[.string s1, .string t1] 23
                  replace hS := hS.add' #[.string s1, .string t1] 23
                  obtain ⟨W0, hW0, hS, hz0⟩ := hS
                  obtain ⟨W, hW⟩ : ∃ W, W = (w3.alloc (.cells #[.string s1, .string t1] 23)) := ⟨_, rfl⟩
                  replace hS : AL w g ps [(w3.heap.size, #[.string s1, .string t1], 23), (w2.heap.size, #[.string s1, .string t1], 23), (w1.heap.size, #[.int .i64 z, .int .i64 pz], 3)] W := by rw [hW, ← hW0]; exact hS
                  clear hz0 hW0
                  go_upto_region 27 with fail
                  rw [← hW]
                  clear hW
                  obtain ⟨a0, a1⟩ := hPi.out _ _ _ hS
                  go_wp2_with fail
                  refine Calls.mono (RU.out _ (hS.env hE)) ?_
                  rintro e w4 ⟨rfl, hb⟩
                  replace hS := hS.call hb
                  clear hb
                  clear a0 a1
                  replace hO := hO.add hS.bl #[.string s2, .string t2] 23
                  replace hS := hS.add' #[.string s2, .string t2] 23
                  obtain ⟨W0, hW0, hS, hz0⟩ := hS
                  obtain ⟨W, hW⟩ : ∃ W, W = (w4.alloc (.cells #[.string s2, .string t2] 23)) := ⟨_, rfl⟩
                  replace hS : AL w g ps [(w4.heap.size, #[.string s2, .string t2], 23), (w3.heap.size, #[.string s1, .string t1], 23), (w2.heap.size, #[.string s1, .string t1], 23), (w1.heap.size, #[.int .i64 z, .int .i64 pz], 3)] W := by rw [hW, ← hW0]; exact hS
                  clear hz0 hW0
                  go_upto_region 28 with fail
                  rw [← hW]
                  clear hW
                  obtain ⟨a0, a1⟩ := hPi.out _ _ _ hS
                  go_wp2_with fail
                  refine Calls.mono (RU'.out _) ?_
                  rintro e w5 ⟨rfl, hb⟩
                  replace hS := hS.call hb
                  clear hb
                  clear a0 a1
                  replace hO := hO.add hS.bl #[.string s2, .string t2] 23
                  replace hS := hS.add' #[.string s2, .string t2] 23
                  obtain ⟨W0, hW0, hS, hz0⟩ := hS
                  obtain ⟨W, hW⟩ : ∃ W, W = (w5.alloc (.cells #[.string s2, .string t2] 23)) := ⟨_, rfl⟩
                  replace hS : AL w g ps [(w5.heap.size, #[.string s2, .string t2], 23), (w4.heap.size, #[.string s2, .string t2], 23), (w3.heap.size, #[.string s1, .string t1], 23), (w2.heap.size, #[.string s1, .string t1], 23), (w1.heap.size, #[.int .i64 z, .int .i64 pz], 3)] W := by rw [hW, ← hW0]; exact hS
                  clear hz0 hW0
                  go_upto_region 29 with fail
                  rw [← hW]
                  clear hW
                  obtain ⟨c_d1_0, c_d1_1⟩ := hS.c2 (w2.heap.size) _ _ _ (.tail _ (.tail _ (.tail _ (.head _))))
                  obtain ⟨c_d2_0, c_d2_1⟩ := hS.c2 (w3.heap.size) _ _ _ (.tail _ (.tail _ (.head _)))
                  obtain ⟨c_d3_0, c_d3_1⟩ := hS.c2 (w4.heap.size) _ _ _ (.tail _ (.head _))
                  obtain ⟨c_d4_0, c_d4_1⟩ := hS.c2 (w5.heap.size) _ _ _ (.head _)
                  go_wp2_with fail
                  go_roundw
                  case rel => exact ⟨1, by go_num, by omega, hS.drop (fun p hp => .tail _ (.tail _ (.tail _ (.tail _ hp))))⟩
                  case measure => simp [intOf]
              · as_aux_lemma =>
                  rw [show ((1 : Nat) : Int) = 1 from rfl]
                  have hA := hS
                  have wq : IntKind.i64.wrap 2 = 2 := IntWalk.i64_in _ (by omega)
                  have wq' : wrap64 2 = 2 := IntWalk.wrap64_in _ (by omega)
                  obtain ⟨s1, t1, s2, t2, e1, e2, RC⟩ := RN.out pz
                  have RD := Lib.hid RC.down
                  have RD' := Lib.hid RC.rdown
                  have RU := Lib.hid RC.up
                  have RU' := Lib.hid RC.rup
                  clear RC RN MK
                  obtain ⟨c_pl_0, c_pl_1⟩ := hS.c2 (w1.heap.size) _ _ _ (.head _)
                  go_upto_region 25 with fail
                  clear c_pl_0 c_pl_1
                  obtain ⟨a0, a1⟩ := hPi.out _ _ _ hS
                  go_wp2_with fail
                  refine Calls.mono (RD.out _ (hS.env hE)) ?_
                  rintro e w2 ⟨rfl, hb⟩
                  replace hS := hS.call hb
                  clear hb
                  clear a0 a1
                  replace hO := hO.add hS.bl #[.string s1, .string t1] 23
                  replace hS := hS.add' #[.string s1, .string t1] 23
                  obtain ⟨W0, hW0, hS, hz0⟩ := hS
                  obtain ⟨W, hW⟩ : ∃ W, W = (w2.alloc (.cells #[.string s1, .string t1] 23)) := ⟨_, rfl⟩
                  replace hS : AL w g ps [(w2.heap.size, #[.string s1, .string t1], 23), (w1.heap.size, #[.int .i64 z, .int .i64 pz], 3)] W := by rw [hW, ← hW0]; exact hS
                  clear hz0 hW0
                  go_upto_region 26 with fail
                  rw [← hW]
                  clear hW
                  obtain ⟨a0, a1⟩ := hPi.out _ _ _ hS
                  go_wp2_with fail
                  refine Calls.mono (RD'.out _) ?_
                  rintro e w3 ⟨rfl, hb⟩
                  replace hS := hS.call hb
                  clear hb
                  clear a0 a1
                  replace hO := hO.add hS.bl #[.string s1, .string t1] 23
                  replace hS := hS.add' #[.string s1, .string t1] 23
                  obtain ⟨W0, hW0, hS, hz0⟩ := hS
                  obtain ⟨W, hW⟩ : ∃ W, W = (w3.alloc (.cells #[.string s1, .string t1] 23)) := ⟨_, rfl⟩
                  replace hS : AL w g ps [(w3.heap.size, #[.string s1, .string t1], 23), (w2.heap.size, #[.string s1, .string t1], 23), (w1.heap.size, #[.int .i64 z, .int .i64 pz], 3)] W := by rw [hW, ← hW0]; exact hS
                  clear hz0 hW0
                  go_upto_region 27 with fail
                  rw [← hW]
                  clear hW
                  obtain ⟨a0, a1⟩ := hPi.out _ _ _ hS
                  go_wp2_with fail
                  refine Calls.mono (RU.out _ (hS.env hE)) ?_
                  rintro e w4 ⟨rfl, hb⟩
                  replace hS := hS.call hb
                  clear hb
                  clear a0 a1
                  replace hO := hO.add hS.bl #[.string s2, .string t2] 23
                  replace hS := hS.add' #[.string s2, .string t2] 23
                  obtain ⟨W0, hW0, hS, hz0⟩ := hS
                  obtain ⟨W, hW⟩ : ∃ W, W = (w4.alloc (.cells #[.string s2, .string t2] 23)) := ⟨_, rfl⟩
                  replace hS : AL w g ps [(w4.heap.size, #[.string s2, .string t2], 23), (w3.heap.size, #[.string s1, .string t1], 23), (w2.heap.size, #[.string s1, .string t1], 23), (w1.heap.size, #[.int .i64 z, .int .i64 pz], 3)] W := by rw [hW, ← hW0]; exact hS
                  clear hz0 hW0
                  go_upto_region 28 with fail
                  rw [← hW]
                  clear hW
                  obtain ⟨a0, a1⟩ := hPi.out _ _ _ hS
                  go_wp2_with fail
                  refine Calls.mono (RU'.out _) ?_
                  rintro e w5 ⟨rfl, hb⟩
                  replace hS := hS.call hb
                  clear hb
                  clear a0 a1
                  replace hO := hO.add hS.bl #[.string s2, .string t2] 23
                  replace hS := hS.add' #[.string s2, .string t2] 23
                  obtain ⟨W0, hW0, hS, hz0⟩ := hS
                  obtain ⟨W, hW⟩ : ∃ W, W = (w5.alloc (.cells #[.string s2, .string t2] 23)) := ⟨_, rfl⟩
                  replace hS : AL w g ps [(w5.heap.size, #[.string s2, .string t2], 23), (w4.heap.size, #[.string s2, .string t2], 23), (w3.heap.size, #[.string s1, .string t1], 23), (w2.heap.size, #[.string s1, .string t1], 23), (w1.heap.size, #[.int .i64 z, .int .i64 pz], 3)] W := by rw [hW, ← hW0]; exact hS
                  clear hz0 hW0
                  go_upto_region 29 with fail
                  rw [← hW]
                  clear hW
                  obtain ⟨c_d1_0, c_d1_1⟩ := hS.c2 (w2.heap.size) _ _ _ (.tail _ (.tail _ (.tail _ (.head _))))
                  obtain ⟨c_d2_0, c_d2_1⟩ := hS.c2 (w3.heap.size) _ _ _ (.tail _ (.tail _ (.head _)))
                  obtain ⟨c_d3_0, c_d3_1⟩ := hS.c2 (w4.heap.size) _ _ _ (.tail _ (.head _))
                  obtain ⟨c_d4_0, c_d4_1⟩ := hS.c2 (w5.heap.size) _ _ _ (.head _)
                  go_wp2_with fail
                  go_roundw
                  case rel => exact ⟨2, by go_num, by omega, hS.drop (fun p hp => .tail _ (.tail _ (.tail _ (.tail _ hp))))⟩
                  case measure => simp [intOf]
              · as_aux_lemma =>
                  have hA := hS
                  have HM1 := Lib.hid MK.out.make
                  have HM2 := Lib.hid MK.out.rmake
                  have HV1 := Lib.hid MK.out.val
                  have HV2 := Lib.hid MK.out.rval
                  clear MK RN
                  replace hS := hS.drop (M := []) (fun p hp => by cases hp)
                  go_upto_region 32 with fail
                  obtain ⟨y0', y1'⟩ := hPi.out _ _ _ hS
                  have y2' := hPz.out _ _ _ hS
                  have h0 := hS
                  replace hS := hS.drew
                  go_cut [37, 38] (fun s e wx => ∃ g' : Nat, s = .pointer (some ⟨g', 0, none⟩) ∧ e = .int .i64 mke ∧ AL w g ps ((g', #[.string mks, .string mkt], 23) :: []) wx)
                  case first =>
                    go_region_held3 (fun w' => w'.cell? ⟨g, i * 2, none⟩ = some (.string na) ∧ w'.cell? ⟨g, 1, none⟩ = some (.string dz))
                      (first | with_reducible exact ⟨(hPi.out _ _ _ hS).1, hPz.out _ _ _ hS⟩ | with_reducible exact ⟨(hPi.out _ _ _ (hS.new _)).1, hPz.out _ _ _ (hS.new _)⟩ | with_reducible exact ⟨(hPi.out _ _ _ (h0.new _).drew).1, hPz.out _ _ _ (h0.new _).drew⟩ | with_reducible exact ⟨(hPi.out _ _ _ hq).1, hPz.out _ _ _ hq⟩ | go_keep)
                      (first | (go_at_call 20; (with_reducible refine Calls.mono (HM1.out _ ?_) ?_); (first | exact hS.env hE | exact (hS.new _).env hE | exact ((h0.new _).drew).env hE); rintro e wv ⟨rfl, hb⟩; (first | (replace hS := hS.call hb; first | (replace hN := hN.below hb; have n0 := (blk_two hN).1; have n1 := (blk_two hN).2; have m0 := hN.frozen 0; have m1 := hN.frozen 1) | skip) | (have hge := hS.below.size; have hlt := hS.lts; have hgt := hS.lt; have hN := nres hb; have n0 := (blk_two hN).1; have n1 := (blk_two hN).2; have m0 := hN.frozen 0; have m1 := hN.frozen 1; replace hS := (hS.new _).call hb; have hq := hS.setG hge hgt hlt (.string mks) (.string mkt)) | (have hge := h0.below.size; have hlt := h0.lts; have hgt := h0.lt; have hN := nres_drew hb; have n0 := (blk_two hN).1; have n1 := (blk_two hN).2; have m0 := hN.frozen 0; have m1 := hN.frozen 1; replace hS := ((h0.new _).drew).call hb; have hq := hS.setG hge hgt hlt (.string mks) (.string mkt))); clear hb))
                    all_goals (go_wp2_with fail; go_meet; first | exact ⟨_, rfl, rfl, hq.pushB ((hN.set 0 (.string mks)).set 1 (.string mkt))⟩ | exact ⟨_, rfl, rfl, hS.add _ _⟩ | fail)
                  case rest =>
                    clear hS h0 y0' y1' y2'
                    obtain ⟨gm1, rfl, rfl, hS⟩ := hcut
                    go_upto_region 33 with fail
                    obtain ⟨y0', y1'⟩ := hPi.out _ _ _ hS
                    have y2' := hPz.out _ _ _ hS
                    have h0 := hS
                    replace hS := hS.drew
                    go_cut [39, 40] (fun s e wx => ∃ g' : Nat, s = .pointer (some ⟨g', 0, none⟩) ∧ e = .int .i64 mke ∧ AL w g ps ((g', #[.string mks, .string mkt], 23) :: [(gm1, #[.string mks, .string mkt], 23)]) wx)
                    case first =>
                      go_region_held3 (fun w' => w'.cell? ⟨g, i * 2, none⟩ = some (.string na) ∧ w'.cell? ⟨g, 1, none⟩ = some (.string dz))
                        (first | with_reducible exact ⟨(hPi.out _ _ _ hS).1, hPz.out _ _ _ hS⟩ | with_reducible exact ⟨(hPi.out _ _ _ (hS.new _)).1, hPz.out _ _ _ (hS.new _)⟩ | with_reducible exact ⟨(hPi.out _ _ _ (h0.new _).drew).1, hPz.out _ _ _ (h0.new _).drew⟩ | with_reducible exact ⟨(hPi.out _ _ _ hq).1, hPz.out _ _ _ hq⟩ | go_keep)
                        (first | (go_at_call 21; (with_reducible refine Calls.mono (HM2.out _) ?_); rintro e wv ⟨rfl, hb⟩; (first | (replace hS := hS.call hb; first | (replace hN := hN.below hb; have n0 := (blk_two hN).1; have n1 := (blk_two hN).2; have m0 := hN.frozen 0; have m1 := hN.frozen 1) | skip) | (have hge := hS.below.size; have hlt := hS.lts; have hgt := hS.lt; have hN := nres hb; have n0 := (blk_two hN).1; have n1 := (blk_two hN).2; have m0 := hN.frozen 0; have m1 := hN.frozen 1; replace hS := (hS.new _).call hb; have hq := hS.setG hge hgt hlt (.string mks) (.string mkt)) | (have hge := h0.below.size; have hlt := h0.lts; have hgt := h0.lt; have hN := nres_drew hb; have n0 := (blk_two hN).1; have n1 := (blk_two hN).2; have m0 := hN.frozen 0; have m1 := hN.frozen 1; replace hS := ((h0.new _).drew).call hb; have hq := hS.setG hge hgt hlt (.string mks) (.string mkt))); clear hb))
                      all_goals (go_wp2_with fail; go_meet; first | exact ⟨_, rfl, rfl, hq.pushB ((hN.set 0 (.string mks)).set 1 (.string mkt))⟩ | exact ⟨_, rfl, rfl, hS.add _ _⟩ | fail)
                    case rest =>
                      clear hS h0 y0' y1' y2'
                      obtain ⟨gm2, rfl, rfl, hS⟩ := hcut
                      go_upto_region 34 with fail
                      have hC0 : ∀ W', AL w g ps [(gm2, #[.string mks, .string mkt], 23), (gm1, #[.string mks, .string mkt], 23)] W' → (W'.cell? ⟨gm1, 0, none⟩ = some (.string mks) ∧ W'.cell? ⟨gm1, 1, none⟩ = some (.string mkt) ∧ W'.cell? ⟨gm2, 0, none⟩ = some (.string mks) ∧ W'.cell? ⟨gm2, 1, none⟩ = some (.string mkt)) := fun W' h => ⟨(h.cell (gm1) _ _ (.tail _ (.head _)) 0), (h.cell (gm1) _ _ (.tail _ (.head _)) 1), (h.cell (gm2) _ _ (.head _) 0), (h.cell (gm2) _ _ (.head _) 1)⟩
                      have hC := Lib.hid hC0
                      clear hC0
                      have hD0 : ∀ W', AL w g ps [(gm2, #[.string mks, .string mkt], 23), (gm1, #[.string mks, .string mkt], 23)] W' → (W'.cell? ⟨g, i * 2, none⟩ = some (.string na) ∧ W'.cell? ⟨g, i * 2 + 1, none⟩ = some (.string da)) := fun W' h => hPi.out _ _ _ h
                      have hD := Lib.hid hD0
                      clear hD0
                      go_cut [244] (fun s wx => s = .bool false ∧ AL w g ps [(gm2, #[.string mks, .string mkt], 23), (gm1, #[.string mks, .string mkt], 23)] wx)
                      case first => as_aux_lemma =>
                        refine wp_region_quiet (C := fun W' => AL w g ps [(gm2, #[.string mks, .string mkt], 23), (gm1, #[.string mks, .string mkt], 23)] W') rfl (by kernel_rfl) hS.drew (Walled2.out ?_)
                        refine qWant2 rfl fun K hK => ?_
                        go_simp
                        refine ⟨_, fun _ _ => rfl, hK _ ?_⟩
                        clear hK K
                        refine qWant2 rfl fun K hK => ?_
                        go_simp
                        refine ⟨_, fun _ _ => rfl, hK _ ?_⟩
                        clear hK K
                        refine qWant2 rfl fun K hK => ?_
                        go_simp
                        refine ⟨_, fun _ _ => rfl, hK _ ?_⟩
                        clear hK K
                        refine qWant2 rfl fun K hK => ?_
                        go_simp
                        refine ⟨.agg #[.string na, .string da], fun W hW => ?_, hK _ ?_⟩
                        · obtain ⟨x0', x1'⟩ := hD.out W hW
                          go_simp
                        clear hK K
                        refine qWant2 rfl fun K hK => ?_
                        go_simp
                        refine ⟨.bool mkv, fun W hW => (HV1.out W (hW.env hE)).mono fun e w' h => ⟨h.1, hW.call h.2⟩, hK _ ?_⟩
                        clear hK K
                        refine qWant2 rfl fun K hK => ?_
                        go_simp
                        refine ⟨_, fun _ _ => rfl, hK _ ?_⟩
                        clear hK K
                        refine qWant2 rfl fun K hK => ?_
                        go_simp
                        refine ⟨_, fun _ _ => rfl, hK _ ?_⟩
                        clear hK K
                        refine qWant2 rfl fun K hK => ?_
                        go_simp
                        refine ⟨_, fun _ _ => rfl, hK _ ?_⟩
                        clear hK K
                        refine qWant2 rfl fun K hK => ?_
                        go_simp
                        refine ⟨.agg #[.string na, .string da], fun W hW => ?_, hK _ ?_⟩
                        · obtain ⟨x0', x1'⟩ := hD.out W hW
                          go_simp
                        clear hK K
                        refine qWant2 rfl fun K hK => ?_
                        go_simp
                        refine ⟨.bool mkv, fun W hW => (HV2.out W).mono fun e w' h => ⟨h.1, hW.call h.2⟩, hK _ ?_⟩
                        clear hK K
                        refine qWant2 rfl fun K hK => ?_
                        go_simp
                        refine ⟨.bool false, fun _ _ => by first | rfl | simp, hK _ ?_⟩
                        clear hK K
                        refine qWant2 rfl fun K hK => ?_
                        go_simp
                        refine ⟨_, fun _ _ => rfl, hK _ ?_⟩
                        clear hK K
                        refine qWant2 rfl fun K hK => ?_
                        go_simp
                        refine ⟨.agg #[.string mks, .string mkt], fun W hW => ?_, hK _ ?_⟩
                        · obtain ⟨x0', x1', x2', x3'⟩ := hC.out W hW
                          go_simp
                        clear hK K
                        refine qWant2 rfl fun K hK => ?_
                        go_simp
                        refine ⟨.agg #[.string mks, .string mkt], fun W hW => ?_, hK _ ?_⟩
                        · obtain ⟨x0', x1', x2', x3'⟩ := hC.out W hW
                          go_simp
                        clear hK K
                        refine qWant2 rfl fun K hK => ?_
                        go_simp
                        refine ⟨.bool false, fun _ _ => by first | rfl | simp, hK _ ?_⟩
                        clear hK K
                        refine qWant2 rfl fun K hK => ?_
                        go_simp
                        refine ⟨_, fun _ _ => rfl, hK _ ?_⟩
                        clear hK K
                        refine qWant2 rfl fun K hK => ?_
                        go_simp
                        refine ⟨_, fun _ _ => rfl, hK _ ?_⟩
                        clear hK K
                        refine qWant2 rfl fun K hK => ?_
                        go_simp
                        refine ⟨_, fun _ _ => rfl, hK _ ?_⟩
                        clear hK K
                        refine qWant2 rfl fun K hK => ?_
                        go_simp
                        refine ⟨_, fun _ _ => rfl, hK _ ?_⟩
                        clear hK K
                        refine qWant2 rfl fun K hK => ?_
                        go_simp
                        refine ⟨.bool false, fun _ _ => by first | rfl | simp, hK _ ?_⟩
                        clear hK K
                        refine qWant2 rfl fun K hK => ?_
                        go_simp
                        refine ⟨_, fun _ _ => rfl, hK _ ?_⟩
                        clear hK K
                        refine qNil2 ?_
                        intro W' hI
                        go_wp2_with fail
                        go_meet
                        exact ⟨rfl, hI⟩
                      case rest =>
                        clear hC hD hS
                        obtain ⟨rfl, hS⟩ := hcut
                        go_wp2_with fail
                        go_roundw
                        case rel => exact ⟨i + 1, by go_num, by omega, hS.drop (fun p hp => by cases hp)⟩
                        case measure => simp [intOf]; omega
      case neg =>
        have hie : i = 5 := by omega
        subst hie
        clear hi hi5
        obtain ⟨os, ot, oe, OA, OB⟩ := of_c2 X0 Y0
        replace OA := Lib.hid OA
        replace OB := Lib.hid OB
        have hS := hA
        clear hA
        have hO : Asc w [] := Asc.nil w
        go_wp2_with fail
        refine Calls.mono (OA.out _ (hS.env hE)) ?_
        rintro e w21 ⟨rfl, hb⟩
        replace hS := hS.call hb
        clear hb
        replace hO := hO.add hS.bl #[.string os, .string ot] 23
        replace hS := hS.add' #[.string os, .string ot] 23
        obtain ⟨W0, hW0, hS, hz0⟩ := hS
        obtain ⟨W, hW⟩ : ∃ W, W = (w21.alloc (.cells #[.string os, .string ot] 23)) := ⟨_, rfl⟩
        replace hS : AL w g ps [(w21.heap.size, #[.string os, .string ot], 23)] W := by rw [hW, ← hW0]; exact hS
        clear hz0 hW0
        go_wp2_with fail
        rw [← hW]
        clear hW
        refine Calls.mono (OB.out _) ?_
        rintro e w22 ⟨rfl, hb⟩
        replace hS := hS.call hb
        clear hb
        replace hO := hO.add hS.bl #[.string os, .string ot] 23
        replace hS := hS.add' #[.string os, .string ot] 23
        obtain ⟨W0, hW0, hS, hz0⟩ := hS
        obtain ⟨W, hW⟩ : ∃ W, W = (w22.alloc (.cells #[.string os, .string ot] 23)) := ⟨_, rfl⟩
        replace hS : AL w g ps [(w22.heap.size, #[.string os, .string ot], 23), (w21.heap.size, #[.string os, .string ot], 23)] W := by rw [hW, ← hW0]; exact hS
        clear hz0 hW0
        go_upto_region 38 with fail
        rw [← hW]
        clear hW
        obtain ⟨c_o1_0, c_o1_1⟩ := hS.c2 (w21.heap.size) _ _ _ (.tail _ (.head _))
        obtain ⟨c_o2_0, c_o2_1⟩ := hS.c2 (w22.heap.size) _ _ _ (.head _)
        go_wp2
        go_ret
        exact ⟨rfl, hS.below⟩

end Go.Proofs.YtiekbcbcbgmnmaaGreatDoor
