/- Blocks of a call's own, in a list; fractions with few digits; putlogref04: Small. -/
import Derived.Test.YtebokdboodgkpaaGreatDoorPkJ
import Derived.Deep.RegionHeld3
import Derived.Deep.DeepCutAuto
namespace Go.Proofs.YtebokdboodgkpaaGreatDoor
open Go.RowKit
attribute [local go_sem] Oper.semAt_some

/-- Blocks that a call has of its own, with their cells and types. -/
structure BL (w : World) (L : List (Nat × Array Value × TypeId)) (W : World) : Prop where
  below : Below w.heap.size w W
  blks : ∀ p ∈ L, Blk W p.1 p.2.1 p.2.2
abbrev BLs := List (Nat × Array Value × TypeId)
theorem BL.start (w : World) : BL w [] w := ⟨Below.refl _ _, fun p h => by cases h⟩
theorem BL.call {w W W' : World} {L : BLs} (h : BL w L W) (hb : Below W.heap.size W W') : BL w L W' :=
  ⟨kb_call hb h.below (Nat.le_refl _), fun p hp => (h.blks p hp).below hb⟩
theorem BL.drew {w W : World} {L : BLs} (h : BL w L W) : BL w L W.drew := h.call (below_drewN W 1)
theorem BL.drewN {w W : World} {L : BLs} (h : BL w L W) (n : Nat) : BL w L (W.drewN n) := h.call (below_drewN W n)
theorem BL.new {w W : World} {L : BLs} (h : BL w L W) (o : Obj) : BL w L (W.alloc o) := h.call ((Below.refl _ _).alloc (Nat.le_refl _) o)
theorem BL.add {w W : World} {L : BLs} (h : BL w L W) (cs : Array Value) (t : TypeId) : BL w ((W.heap.size, cs, t) :: L) (W.alloc (.cells cs t)) := by
  refine ⟨(h.new _).below, fun p hp => ?_⟩
  rcases List.mem_cons.1 hp with rfl | hp
  · exact Blk.new _ _ _
  · exact (h.new _).blks p hp
theorem BL.add' {w W : World} {L : BLs} (h : BL w L W) (cs : Array Value) (t : TypeId) : ∃ W', W' = W.alloc (.cells cs t) ∧ BL w ((W.heap.size, cs, t) :: L) W' ∧ W'.heap.size = W.heap.size + 1 :=
  ⟨_, rfl, h.add cs t, World.size_alloc _ _⟩
theorem BL.lts {w W : World} {L : BLs} (h : BL w L W) : ∀ p ∈ L, p.1 < W.heap.size := fun p hp => (h.blks p hp).lt
theorem BL.drop {w W : World} {L M : BLs} (h : BL w L W) (hm : ∀ p ∈ M, p ∈ L) : BL w M W := ⟨h.below, fun p hp => h.blks p (hm p hp)⟩
theorem BL.cell {w W : World} {L : BLs} (h : BL w L W) (B : Nat) (cs : Array Value) (t : TypeId) (hm : (B, cs, t) ∈ L) (i : Nat) : W.cell? ⟨B, i, none⟩ = cs[i]? := (h.blks _ hm).cell i
theorem BL.frozen {w W : World} {L : BLs} (h : BL w L W) (B : Nat) (cs : Array Value) (t : TypeId) (hm : (B, cs, t) ∈ L) (i : Nat) : W.frozen? ⟨B, i, none⟩ = false := (h.blks _ hm).frozen i
theorem BL.c1 {w W : World} {L : BLs} (h : BL w L W) (B : Nat) (a : Value) (t : TypeId) (hm : (B, #[a], t) ∈ L) : W.cell? ⟨B, 0, none⟩ = some a := h.cell B _ t hm 0
theorem BL.c2 {w W : World} {L : BLs} (h : BL w L W) (B : Nat) (a b : Value) (t : TypeId) (hm : (B, #[a, b], t) ∈ L) : W.cell? ⟨B, 0, none⟩ = some a ∧ W.cell? ⟨B, 1, none⟩ = some b := ⟨h.cell B _ t hm 0, h.cell B _ t hm 1⟩
theorem BL.c4 {w W : World} {L : BLs} (h : BL w L W) (B : Nat) (a b c d : Value) (t : TypeId) (hm : (B, #[a, b, c, d], t) ∈ L) : W.cell? ⟨B, 0, none⟩ = some a ∧ W.cell? ⟨B, 1, none⟩ = some b ∧ W.cell? ⟨B, 2, none⟩ = some c ∧ W.cell? ⟨B, 3, none⟩ = some d :=
  ⟨h.cell B _ t hm 0, h.cell B _ t hm 1, h.cell B _ t hm 2, h.cell B _ t hm 3⟩
theorem BL.c8 {w W : World} {L : BLs} (h : BL w L W) (B : Nat) (a b c d e f g k : Value) (t : TypeId) (hm : (B, #[a, b, c, d, e, f, g, k], t) ∈ L) : W.cell? ⟨B, 0, none⟩ = some a ∧ W.cell? ⟨B, 1, none⟩ = some b ∧ W.cell? ⟨B, 2, none⟩ = some c ∧ W.cell? ⟨B, 3, none⟩ = some d ∧
    W.cell? ⟨B, 4, none⟩ = some e ∧ W.cell? ⟨B, 5, none⟩ = some f ∧ W.cell? ⟨B, 6, none⟩ = some g ∧ W.cell? ⟨B, 7, none⟩ = some k :=
  ⟨h.cell B _ t hm 0, h.cell B _ t hm 1, h.cell B _ t hm 2, h.cell B _ t hm 3, h.cell B _ t hm 4, h.cell B _ t hm 5, h.cell B _ t hm 6, h.cell B _ t hm 7⟩
theorem BL.only {w W W' : World} {L : BLs} {S : List Nat} (h : BL w L W) (ho : Only S W W') (hS : ∀ k ∈ S, w.heap.size ≤ k) (hL : ∀ p ∈ L, p.1 ∉ S) : BL w L W' :=
  ⟨h.below.trans (ho.toBelow h.below.size hS), fun p hp => (h.blks p hp).only ho (hL p hp)⟩
theorem BL.setG {w W : World} {L : BLs} {g : Nat} (h : BL w L W) (hge : w.heap.size ≤ g) (hlt : ∀ p ∈ L, p.1 < g) (x y : Value) : BL w L ((W.setCell ⟨g, 0, none⟩ x).setCell ⟨g, 1, none⟩ y) :=
  h.only (S := [g]) (((Only.refl [g] W).setCell (p := ⟨g, 0, none⟩) (by simp) x).setCell (p := ⟨g, 1, none⟩) (by simp) y) (by simpa using hge) (fun p hp => by have := hlt p hp; simp; omega)
theorem BL.envQ {w W : World} {L : BLs} (h : BL w L W) (hE : EnvQ w) : EnvQ W := hE.below h.below (Nat.le_refl _)
theorem BL.env {w W : World} {L : BLs} (h : BL w L W) (hE : Env w) : Env W := hE.below h.below (Nat.le_refl _)
/-- Two cells of a block are set. -/
theorem BL.set2 {w W : World} {L : BLs} {B : Nat} {a b : Value} {t : TypeId} (h : BL w ((B, #[a, b], t) :: L) W) (hge : w.heap.size ≤ B) (hne : ∀ p ∈ L, p.1 ≠ B) (x y : Value) :
    BL w ((B, #[x, y], t) :: L) ((W.setCell ⟨B, 0, none⟩ x).setCell ⟨B, 1, none⟩ y) := by
  have ho : Only [B] W ((W.setCell ⟨B, 0, none⟩ x).setCell ⟨B, 1, none⟩ y) := ((Only.refl [B] W).setCell (p := ⟨B, 0, none⟩) (by simp) x).setCell (p := ⟨B, 1, none⟩) (by simp) y
  have h1 := (h.drop (M := L) (fun p hp => List.mem_cons_of_mem _ hp)).only ho (by simpa using hge) (fun p hp => by simpa using hne p hp)
  refine ⟨h1.below, fun p hp => ?_⟩
  rcases List.mem_cons.1 hp with rfl | hp
  · exact ((h.blks (B, #[a, b], t) List.mem_cons_self).set 0 x).set 1 y
  · exact h1.blks p hp

/-- A new result's block, behind a call. -/
theorem nres {W W' : World} (hb : Below (W.alloc (.cells #[.string ⟨#[]⟩, .string ⟨#[]⟩] 27)).heap.size (W.alloc (.cells #[.string ⟨#[]⟩, .string ⟨#[]⟩] 27)) W') : Blk W' W.heap.size #[.string ⟨#[]⟩, .string ⟨#[]⟩] 27 := (Blk.new _ _ _).below hb
theorem nres_drew {W W' : World} (hb : Below (W.alloc (.cells #[.string ⟨#[]⟩, .string ⟨#[]⟩] 27)).drew.heap.size (W.alloc (.cells #[.string ⟨#[]⟩, .string ⟨#[]⟩] 27)).drew W') : Blk W' W.heap.size #[.string ⟨#[]⟩, .string ⟨#[]⟩] 27 := ((Blk.new _ _ _).below (below_drewN _ 1)).below hb

/-- A fraction whose integers have at most k digits. -/
def BQ (k : Nat) (r : Rat) : Prop := Bd k r.num ∧ Bd k (r.den : Int)
theorem BQ.small {k : Nat} {r : Rat} (h : BQ k r) (hk : k ≤ 200) : SmallQ r := ⟨h.1.small hk, h.2.small hk⟩
theorem BQ.ok {k : Nat} {r : Rat} (h : BQ k r) (hk : k ≤ 200) : OkO (some r) := OkO.some (h.small hk)
theorem BQ.mono {j k : Nat} {r : Rat} (h : BQ j r) (hk : j ≤ k) : BQ k r := ⟨h.1.mono hk, h.2.mono hk⟩
theorem bq_divInt {k : Nat} {x y : Int} (hx : Bd k x) (hy : Bd k y) (h0 : 0 < y) : BQ k (Rat.divInt x y) := by
  obtain ⟨e1, e2⟩ := divInt_parts (x := x) h0
  unfold BQ
  rw [e1, e2]
  exact ⟨hx.ediv, hy.ediv⟩

end Go.Proofs.YtebokdboodgkpaaGreatDoor
