/- Mem, McB, McC, McD, McE, MemA, Eqs, MdA -/
import Derived.Test.YtcmomjnailihpaaGreatDoorZLcB
import Derived.Test.YtcmomjnailihpaaGreatDoorZLcK
import Derived.Test.YtcmomjnailihpaaGreatDoorZLwM
import Derived.Test.YtcmomjnailihpaaGreatDoorZLwS
import Derived.Test.YtcmomjnailihpaaGreatDoorZPkG
import Derived.Test.YtcmomjnailihpaaGreatDoorZRgI
import Derived.Deep.Upon
namespace Go.Proofs.YtcmomjnailihpaaGreatDoor
open Go.RowKit
structure RowD where
  e : TypeId
  k : Nat
  v : Value
  n : Nat
  xs : List Value
structure Mem (w : World) (L : BLs) (R : List RowD) (W : World) : Prop where
  below : Below w.heap.size w W
  ge : ∀ p ∈ L, w.heap.size ≤ p.1
  blks : ∀ p ∈ L, Blk W p.1 p.2.1 p.2.2
  dup : L.Pairwise (fun p q => p.1 ≠ q.1)
  rows : ∀ r ∈ R, W.ownsRow w.heap.size r.e r.k r.v r.n r.xs
  rdis : R.Pairwise (fun r s => ∀ b, r.v.ownBlock = some b → s.v.ownBlock ≠ some b)
  rL : ∀ r ∈ R, ∀ p ∈ L, r.v.ownBlock ≠ some p.1
section
variable {w W W' : World} {L A C : BLs} {R RA RC : List RowD} {B : Nat} {cs : Array Value} {t : TypeId}
theorem Mem.start (w : World) : Mem w [] [] w := ⟨Below.refl _ _, fun p h => (by cases h), fun p h => (by cases h), .nil, fun p h => (by cases h), .nil, fun p h => (by cases h)⟩
theorem Mem.call (h : Mem w L R W) (hb : Below W.heap.size W W') : Mem w L R W' :=
  ⟨kb_call hb h.below (Nat.le_refl _), h.ge, fun p hp => (h.blks p hp).below hb, h.dup, fun r hr => own_below (h.rows r hr) hb, h.rdis, h.rL⟩
theorem Mem.drew (h : Mem w L R W) : Mem w L R W.drew := h.call (below_drewN W 1)
theorem Mem.drewN (h : Mem w L R W) (n : Nat) : Mem w L R (W.drewN n) := h.call (below_drewN W n)
theorem Mem.new (h : Mem w L R W) (o : Obj) : Mem w L R (W.alloc o) := h.call ((Below.refl _ _).alloc (Nat.le_refl _) o)
theorem Mem.lt (h : Mem w L R W) : ∀ p ∈ L, p.1 < W.heap.size := fun p hp => (h.blks p hp).lt
theorem Mem.add (h : Mem w L R W) (cs : Array Value) (t : TypeId) : Mem w ((W.heap.size, cs, t) :: L) R (W.alloc (.cells cs t)) := by
  have h1 := h.new (.cells cs t)
  refine ⟨h1.below, fun p hp => ?_, fun p hp => ?_, List.pairwise_cons.2 ⟨fun p hp => ?_, h.dup⟩, h1.rows, h.rdis, fun r hr p hp => ?_⟩
  · rcases List.mem_cons.1 hp with rfl | hp
    · exact h.below.size
    · exact h.ge p hp
  · rcases List.mem_cons.1 hp with rfl | hp
    · exact Blk.new _ _ _
    · exact h1.blks p hp
  · have := h.lt p hp; show W.heap.size ≠ p.1; omega
  · rcases List.mem_cons.1 hp with rfl | hp
    · intro e; have := ((h.rows r hr).lt _ e).2; omega
    · exact h.rL r hr p hp
theorem Mem.add' (h : Mem w L R W) (cs : Array Value) (t : TypeId) : ∃ W', W' = W.alloc (.cells cs t) ∧ Mem w ((W.heap.size, cs, t) :: L) R W' ∧ W'.heap.size = W.heap.size + 1 := ⟨_, rfl, h.add cs t, World.size_alloc _ _⟩
theorem Mem.sub {L' : BLs} (h : Mem w L R W) (hs : L'.Sublist L) : Mem w L' R W :=
  ⟨h.below, fun p hp => h.ge p (hs.subset hp), fun p hp => h.blks p (hs.subset hp), h.dup.sublist hs, h.rows, h.rdis, fun r hr p hp => h.rL r hr p (hs.subset hp)⟩
theorem Mem.rsub {R' : List RowD} (h : Mem w L R W) (hs : R'.Sublist R) : Mem w L R' W :=
  ⟨h.below, h.ge, h.blks, h.dup, fun r hr => h.rows r (hs.subset hr), h.rdis.sublist hs, fun r hr => h.rL r (hs.subset hr)⟩
theorem Mem.perm {L' : BLs} (h : Mem w L R W) (hs : L.Perm L') : Mem w L' R W :=
  ⟨h.below, fun p hp => h.ge p (hs.mem_iff.2 hp), fun p hp => h.blks p (hs.mem_iff.2 hp), (hs.pairwise_iff (fun {_ _} hab e => hab e.symm)).1 h.dup, h.rows, h.rdis, fun r hr p hp => h.rL r hr p (hs.mem_iff.2 hp)⟩
theorem Mem.cell (h : Mem w L R W) (B : Nat) (cs : Array Value) (t : TypeId) (hm : (B, cs, t) ∈ L) (i : Nat) : W.cell? ⟨B, i, none⟩ = cs[i]? := (h.blks _ hm).cell i
theorem Mem.frozen (h : Mem w L R W) (B : Nat) (cs : Array Value) (t : TypeId) (hm : (B, cs, t) ∈ L) (i : Nat) : W.frozen? ⟨B, i, none⟩ = false := (h.blks _ hm).frozen i
theorem Mem.old (h : Mem w L R W) {b k : Nat} {u : Value} (hb : b < w.heap.size) (hu : w.cell? ⟨b, k, none⟩ = some u) : W.cell? ⟨b, k, none⟩ = some u := (h.below.cell (p := ⟨b, k, none⟩) hb).trans hu
theorem Mem.size (h : Mem w L R W) : w.heap.size ≤ W.heap.size := h.below.size
theorem Mem.put (h : Mem w (A ++ (B, cs, t) :: C) R W) (i : Nat) (x : Value) : Mem w (A ++ (B, cs.setIfInBounds i x, t) :: C) R (W.setCell ⟨B, i, none⟩ x) := by
  have hB : (B, cs, t) ∈ A ++ (B, cs, t) :: C := List.mem_append_right _ List.mem_cons_self
  have ho : Only [B] W (W.setCell ⟨B, i, none⟩ x) := (Only.refl [B] W).setCell (p := ⟨B, i, none⟩) (by simp) x
  have hd := List.pairwise_append.1 h.dup
  have hdc := List.pairwise_cons.1 hd.2.1
  have hge := h.ge _ hB
  have old : ∀ p, p ∈ A ∨ p ∈ C → p ∈ A ++ (B, cs, t) :: C ∧ p.1 ≠ B := fun p hp => by
    rcases hp with hp | hp
    · exact ⟨List.mem_append_left _ hp, hd.2.2 p hp _ List.mem_cons_self⟩
    · exact ⟨List.mem_append_right _ (List.mem_cons_of_mem _ hp), fun e => hdc.1 p hp e.symm⟩
  have split : ∀ p, p ∈ A ++ (B, cs.setIfInBounds i x, t) :: C → p = (B, cs.setIfInBounds i x, t) ∨ (p ∈ A ∨ p ∈ C) := fun p hp => by
    rcases List.mem_append.1 hp with h1 | h1
    · exact .inr (.inl h1)
    · rcases List.mem_cons.1 h1 with h1 | h1
      · exact .inl h1
      · exact .inr (.inr h1)
  refine ⟨h.below.trans (ho.toBelow h.below.size (by simpa using hge)), fun p hp => ?_, fun p hp => ?_, ?_, fun r hr => ?_, h.rdis, fun r hr p hp => ?_⟩
  · rcases split p hp with rfl | hp
    · exact hge
    · exact h.ge p (old p hp).1
  · rcases split p hp with rfl | hp
    · exact (h.blks _ hB).set i x
    · exact (h.blks p (old p hp).1).only ho (by simpa using (old p hp).2)
  · refine List.pairwise_append.2 ⟨hd.1, List.pairwise_cons.2 ⟨hdc.1, hdc.2⟩, fun p hp q hq => ?_⟩
    rcases List.mem_cons.1 hq with rfl | hq
    · exact hd.2.2 p hp (B, cs, t) List.mem_cons_self
    · exact hd.2.2 p hp q (List.mem_cons_of_mem _ hq)
  · refine (h.rows r hr).kept (grown_setCell W B i x) ?_
    cases hb : r.v.ownBlock with
    | none => exact .inl rfl
    | some b => exact .inr fun e => h.rL r hr _ hB (by rw [hb, e])
  · rcases split p hp with rfl | hp
    · exact h.rL r hr (B, cs, t) hB
    · exact h.rL r hr p (old p hp).1
theorem Mem.row0 (h : Mem w L R W) (e : TypeId) (k : Nat) : Mem w L (⟨e, k, .slice none 0 0, 0, []⟩ :: R) W := by
  refine ⟨h.below, h.ge, h.blks, h.dup, fun r hr => ?_, List.pairwise_cons.2 ⟨fun s _ b hb => (by cases hb), h.rdis⟩, fun r hr p hp => ?_⟩
  · rcases List.mem_cons.1 hr with rfl | hr
    · exact World.ownsRow_nil _ _ _ _
    · exact h.rows r hr
  · rcases List.mem_cons.1 hr with rfl | hr
    · intro e; cases e
    · exact h.rL r hr p hp
theorem Mem.app {e : TypeId} {k n n' : Nat} {v v' : Value} {xs xs' : List Value} (h : Mem w L (RA ++ ⟨e, k, v, n, xs⟩ :: RC) W) (hg : W.grownBy W' v.ownBlock) (hr : W'.ownsRow w.heap.size e k v' n' xs') (hv : ∀ b, v'.ownBlock = some b → v.ownBlock = some b ∨ W.heap.size ≤ b) :
    Mem w L (RA ++ ⟨e, k, v', n', xs'⟩ :: RC) W' := by
  have hM : (⟨e, k, v, n, xs⟩ : RowD) ∈ RA ++ ⟨e, k, v, n, xs⟩ :: RC := List.mem_append_right _ List.mem_cons_self
  have hd := List.pairwise_append.1 h.rdis
  have hdc := List.pairwise_cons.1 hd.2.1
  have old : ∀ s, s ∈ RA ∨ s ∈ RC → s ∈ RA ++ ⟨e, k, v, n, xs⟩ :: RC ∧ (∀ b, s.v.ownBlock = some b → v.ownBlock ≠ some b) := fun s hs => by
    rcases hs with hs | hs
    · exact ⟨List.mem_append_left _ hs, fun b hb => hd.2.2 s hs _ List.mem_cons_self b hb⟩
    · exact ⟨List.mem_append_right _ (List.mem_cons_of_mem _ hs), fun b hb e' => hdc.1 s hs b e' hb⟩
  have split : ∀ s, s ∈ RA ++ ⟨e, k, v', n', xs'⟩ :: RC → s = ⟨e, k, v', n', xs'⟩ ∨ (s ∈ RA ∨ s ∈ RC) := fun p hp => by
    rcases List.mem_append.1 hp with h1 | h1
    · exact .inr (.inl h1)
    · rcases List.mem_cons.1 h1 with h1 | h1
      · exact .inl h1
      · exact .inr (.inr h1)
  have hge : ∀ b, v.ownBlock = some b → w.heap.size ≤ b := fun b hb => ((h.rows _ hM).lt b hb).1
  have dis : ∀ s, s ∈ RA ∨ s ∈ RC → ∀ b, s.v.ownBlock = some b → v'.ownBlock ≠ some b := fun s hs b hb e' => by
    rcases hv b e' with h1 | h1
    · exact (old s hs).2 b hb h1
    · have := ((h.rows s (old s hs).1).lt b hb).2; omega
  refine ⟨⟨hg.os.trans h.below.os, hg.tape.trans h.below.tape, hg.output.trans h.below.output, Nat.le_trans h.below.size hg.size, fun i hi => (hg.block i (Nat.lt_of_lt_of_le hi h.below.size) (fun e' => by have := hge i e'.symm; omega)).trans (h.below.block i hi)⟩, h.ge, fun p hp => ?_, h.dup, fun s hs => ?_, ?_, fun s hs p hp => ?_⟩
  · exact (h.blks p hp).kept hg (fun e' => h.rL _ hM p hp e'.symm)
  · rcases split s hs with rfl | hs
    · exact hr
    · refine (h.rows s (old s hs).1).kept hg ?_
      cases hb : s.v.ownBlock with
      | none => exact .inl rfl
      | some b => exact .inr fun e' => (old s hs).2 b hb e'.symm
  · refine List.pairwise_append.2 ⟨hd.1, List.pairwise_cons.2 ⟨fun s hs b hb e' => dis s (.inr hs) b e' hb, hdc.2⟩, fun s hs q hq => ?_⟩
    rcases List.mem_cons.1 hq with rfl | hq
    · exact fun b hb => dis s (.inl hs) b hb
    · exact hd.2.2 s hs q (List.mem_cons_of_mem _ hq)
  · rcases split s hs with rfl | hs
    · intro e'
      rcases hv p.1 e' with h1 | h1
      · exact h.rL _ hM p hp h1
      · have := h.lt p hp; omega
    · exact h.rL s (old s hs).1 p hp
theorem Mem.own {e : TypeId} {k n : Nat} {v : Value} {xs : List Value} (h : Mem w L R W) (hr : (⟨e, k, v, n, xs⟩ : RowD) ∈ R) : W.ownsRow w.heap.size e k v n xs := h.rows _ hr
theorem Mem.freeze {e : TypeId} {k n : Nat} {v : Value} {xs : List Value} (h : Mem w L (⟨e, k, v, n, xs⟩ :: R) W) :
    (v = .slice none 0 0 ∧ n = 0 ∧ xs = [] ∧ Mem w L R W) ∨ ∃ g cap cs, v = .slice (some ⟨g, 0, none⟩) n cap ∧ n ≤ cap ∧ cap ≤ maxLen ∧ cs.size = cap * k ∧ cs.toList.take (n * k) = xs ∧ Mem w ((g, cs, e) :: L) R W := by
  have hr := h.rows _ List.mem_cons_self
  have hR := h.rsub (List.sublist_cons_self _ _)
  rcases hr.2 with ⟨h1, h2⟩ | ⟨g, cap, cs, h1, h2, h3, h4, h5, h6, h7⟩
  · have h1' : v = .slice none 0 0 := h1
    have h2' : n = 0 := h2
    subst h2'
    exact .inl ⟨h1', rfl, List.eq_nil_of_length_eq_zero (by have := hr.1; simpa using this), hR⟩
  · have h1' : v = .slice (some ⟨g, 0, none⟩) n cap := h1
    subst h1'
    refine .inr ⟨g, cap, cs, rfl, h4, h5, h6, h7, h.below, fun p hp => ?_, fun p hp => ?_, List.pairwise_cons.2 ⟨fun p hp e' => ?_, h.dup⟩, hR.rows, hR.rdis, fun r hr' p hp => ?_⟩
    · rcases List.mem_cons.1 hp with rfl | hp
      · exact h2
      · exact h.ge p hp
    · rcases List.mem_cons.1 hp with rfl | hp
      · exact h3
      · exact h.blks p hp
    · exact h.rL _ List.mem_cons_self p hp (by rw [← e']; rfl)
    · rcases List.mem_cons.1 hp with rfl | hp
      · intro e'
        exact (List.pairwise_cons.1 h.rdis).1 r hr' g rfl e'
      · exact hR.rL r hr' p hp
theorem Mem.env (h : Mem w L R W) (hE : Env w) : Env W := hE.below h.below (Nat.le_refl _)
theorem Mem.tail (h : Mem w ((B, cs, t) :: L) R W) : Mem w L R W := h.sub (List.sublist_cons_self _ _)
theorem Mem.join {W0 : World} {cs' : Array Value} {t' : TypeId} (h0 : Mem w ((B, cs, t) :: L) R W0) (h : Mem w L R W) (hb : Blk W B cs' t') : Mem w ((B, cs', t') :: L) R W := by
  refine ⟨h.below, fun p hp => ?_, fun p hp => ?_, List.pairwise_cons.2 ⟨(List.pairwise_cons.1 h0.dup).1, h.dup⟩, h.rows, h.rdis, fun r hr p hp => ?_⟩
  · rcases List.mem_cons.1 hp with rfl | hp
    · exact h0.ge (B, cs, t) List.mem_cons_self
    · exact h.ge p hp
  · rcases List.mem_cons.1 hp with rfl | hp
    · exact hb
    · exact h.blks p hp
  · rcases List.mem_cons.1 hp with rfl | hp
    · exact h0.rL r hr (B, cs, t) List.mem_cons_self
    · exact h.rL r hr p hp
theorem Mem.put0 (h : Mem w ((B, cs, t) :: L) R W) (i : Nat) (x : Value) : Mem w ((B, cs.setIfInBounds i x, t) :: L) R (W.setCell ⟨B, i, none⟩ x) := h.put (A := []) i x
theorem Mem.off {W0 : World} {ds : Array Value} {t' : TypeId} (h0 : Mem w ((B, ds, t') :: L) R W0) (h : Mem w L R W) (hb : Blk W B cs t) (i : Nat) (x : Value) : Mem w L R (W.setCell ⟨B, i, none⟩ x) := ((h0.join h hb).put0 i x).tail
theorem Mem.app0 {e : TypeId} {k n n' : Nat} {v v' : Value} {xs xs' : List Value} (h : Mem w L (⟨e, k, v, n, xs⟩ :: R) W) (hg : W.grownBy W' v.ownBlock) (hr : W'.ownsRow w.heap.size e k v' n' xs') (hv : ∀ b, v'.ownBlock = some b → v.ownBlock = some b ∨ W.heap.size ≤ b) :
    Mem w L (⟨e, k, v', n', xs'⟩ :: R) W' := h.app (RA := []) hg hr hv
theorem Mem.own0 {e : TypeId} {k n : Nat} {v : Value} {xs : List Value} (h : Mem w L (⟨e, k, v, n, xs⟩ :: R) W) : W.ownsRow w.heap.size e k v n xs := h.rows _ List.mem_cons_self
theorem Mem.rtail {r : RowD} (h : Mem w L (r :: R) W) : Mem w L R W := h.rsub (List.sublist_cons_self _ _)
theorem Mem.front {p : Nat × Array Value × TypeId} (h : Mem w (A ++ p :: C) R W) : Mem w (p :: (A ++ C)) R W := h.perm List.perm_middle
theorem Mem.front2 {p q : Nat × Array Value × TypeId} (h : Mem w (A ++ p :: q :: C) R W) : Mem w (q :: (A ++ C)) R W := (h.sub (List.Sublist.append (List.Sublist.refl A) (List.sublist_cons_self p (q :: C)))).front
theorem out_two {O : Nat} {a b : Value} (h : Blk W O #[a, b] t) (x y : Value) : W.cell? ⟨O, 0, none⟩ = some a ∧ W.cell? ⟨O, 1, none⟩ = some b ∧ W.frozen? ⟨O, 0, none⟩ = false ∧ W.frozen? ⟨O, 1, none⟩ = false ∧
    ((W.setCell ⟨O, 0, none⟩ x).setCell ⟨O, 1, none⟩ y).cell? ⟨O, 0, none⟩ = some x ∧ ((W.setCell ⟨O, 0, none⟩ x).setCell ⟨O, 1, none⟩ y).cell? ⟨O, 1, none⟩ = some y :=
  ⟨h.cell 0, h.cell 1, h.frozen 0, h.frozen 1, ((h.set 0 x).set 1 y).cell 0, ((h.set 0 x).set 1 y).cell 1⟩
theorem Mem.out2 {O : Nat} {a b : Value} (h : Mem w ((O, #[a, b], t) :: L) R W) (x y : Value) : Mem w ((O, #[x, y], t) :: L) R ((W.setCell ⟨O, 0, none⟩ x).setCell ⟨O, 1, none⟩ y) := (h.put0 0 x).put0 1 y
end
end Go.Proofs.YtcmomjnailihpaaGreatDoor
namespace Go.Proofs.YtcmomjnailihpaaGreatDoor
open Go.RowKit
attribute [local go_sem] Oper.semAt_some
def twoL (a b : Int) : List (List Int × Int) := [([1, 1], a), ([1, -1], b)]
set_option maxRecDepth 100000 in
set_option maxHeartbeats 8000000 in
theorem two_any6 (a b : Int) (w : World) : Calls Tryz.prog 34 #[.int .i64 a, .int .i64 b] w fun e w' => ∃ v, e = .returned (.agg #[.int .i64 2, v]) ∧ SlE w' v (twoL a b) ∧ Below w.heap.size w w' := by
  obtain ⟨V0, e0, S0, z0⟩ := (BL.start w).add' #[.int .i64 2, .slice (some ⟨w.heap.size + 1 + 1 + 1, 0, none⟩) 2 2] 27
  obtain ⟨V1, e1, S1, z1⟩ := S0.add' #[.int .i64 1, .int .i64 1] 3
  obtain ⟨V2, e2, S2, z2⟩ := S1.add' #[.int .i64 1, .int .i64 (-1)] 3
  obtain ⟨V3, e3, S3, z3⟩ := S2.add' #[.slice (some ⟨w.heap.size + 1, 0, none⟩) 2 2, .int .i64 a, .slice (some ⟨w.heap.size + 1 + 1, 0, none⟩) 2 2, .int .i64 b] 60
  rw [z0] at S1 S2 S3 z1
  rw [z1] at S2 S3 z2
  rw [z2] at S3
  have hV : V3 = ((((w.alloc (.cells #[.int .i64 2, .slice (some ⟨w.heap.size + 1 + 1 + 1, 0, none⟩) 2 2] 27)).alloc (.cells #[.int .i64 1, .int .i64 1] 3)).alloc (.cells #[.int .i64 1, .int .i64 (-1)] 3)).alloc (.cells #[.slice (some ⟨w.heap.size + 1, 0, none⟩) 2 2, .int .i64 a, .slice (some ⟨w.heap.size + 1 + 1, 0, none⟩) 2 2, .int .i64 b] 60)) := by rw [e3, e2, e1, e0]
  have hlt := S3.lts
  have k0 := (S3.c2 (w.heap.size) _ _ _ (.tail _ (.tail _ (.tail _ (.head _)))))
  have hsl : SlE V3 (.slice (some ⟨w.heap.size + 1 + 1 + 1, 0, none⟩) 2 2) (twoL a b) := by
    have c4 := S3.c4 (w.heap.size + 1 + 1 + 1) _ _ _ _ _ (.head _)
    have c1 := S3.c2 (w.heap.size + 1) _ _ _ (.tail _ (.tail _ (.head _)))
    have c2 := S3.c2 (w.heap.size + 1 + 1) _ _ _ (.tail _ (.head _))
    have l3 := hlt _ (.head _)
    have l1 := hlt _ (.tail _ (.tail _ (.head _)))
    have l2 := hlt _ (.tail _ (.head _))
    refine .inr ⟨w.heap.size + 1 + 1 + 1, 0, 2, rfl, Nat.le_refl _, by unfold maxLen; decide, l3, fun j x hj => ?_⟩
    match j, hj with
    | 0, hj =>
      cases hj
      exact ⟨_, c4.1, .inr ⟨w.heap.size + 1, 0, 2, rfl, Nat.le_refl _, by unfold maxLen; decide, l1, fun k hk => (match k, hk with | 0, _ => c1.1 | 1, _ => c1.2)⟩, c4.2.1⟩
    | 1, hj =>
      cases hj
      exact ⟨_, c4.2.2.1, .inr ⟨w.heap.size + 1 + 1, 0, 2, rfl, Nat.le_refl _, by unfold maxLen; decide, l2, fun k hk => (match k, hk with | 0, _ => c2.1 | 1, _ => c2.2)⟩, c4.2.2.2⟩
  have hfin := S3.below
  rw [hV] at hsl hfin k0
  replace hsl := Lib.hid hsl
  replace hfin := Lib.hid hfin
  clear hlt hV e0 e1 e2 e3 S0 S1 S2 S3 z0 z1 z2 z3
  go_enter Tryz.func34, Tryz.ntmps34
  go_wp2
  exact bodyPost_ret (v := .agg #[.int .i64 2, .slice (some ⟨w.heap.size + 1 + 1 + 1, 0, none⟩) 2 2]) (by simp [results, Tryz.results34, go_sem, k0.1, k0.2]) rfl ⟨_, rfl, hsl.out, hfin.out⟩
set_option maxRecDepth 100000 in
set_option maxHeartbeats 8000000 in
theorem same_any (va vb : Value) (la lb : List ByteArray) (da db : ByteArray) (w : World) (hA : SlS w va la) (hB : SlS w vb lb) :
    Calls Tryz.prog 26 #[.agg #[va, .string da], .agg #[vb, .string db]] w (Rets w (.bool (decide (da = db) && decide (la = lb)))) := by
  obtain ⟨aa, ca, rfl⟩ := hA.shape
  obtain ⟨ab, cb, rfl⟩ := hB.shape
  have HA := Lib.hid hA
  have HB := Lib.hid hB
  have ST := Lib.hid (fun W (h1 : SlS W (.slice aa la.length ca) la) (h2 : SlS W (.slice ab lb.length cb) lb) => strings_any _ _ la lb W h1 h2)
  clear hA hB
  have hs := str_eq da db
  generalize decide (la = lb) = b2 at *
  generalize la.length = n at *
  generalize lb.length = m at *
  by_cases hd : da = db
  · rw [decide_eq_true hd] at hs ⊢
    clear hd
    obtain ⟨V1, e1, S1, z1⟩ := (BL.start w).add' #[.slice aa n ca, .string da] 30
    obtain ⟨V2, e2, hS, z2⟩ := S1.add' #[.slice ab m cb, .string db] 30
    rw [z1] at hS
    have hV : V2 = (w.alloc (.cells #[.slice aa n ca, .string da] 30)).alloc (.cells #[.slice ab m cb, .string db] 30) := by rw [e2, e1]
    clear e1 e2 S1 z1 z2
    obtain ⟨x0, x1⟩ := hS.c2 w.heap.size _ _ _ (.tail _ (.head _))
    obtain ⟨y0, y1⟩ := hS.c2 (w.heap.size + 1) _ _ _ (.head _)
    go_enter Tryz.func26, Tryz.ntmps26
    go_upto_region 1 with fail
    rw [← hV]
    clear hV
    go_wp2_with fail
    refine Calls.mono (ST.out _ (HA.out.below hS.below) (HB.out.below hS.below)) ?_
    rintro e w1 ⟨rfl, hb⟩
    replace hS := hS.call hb
    clear hb x0 x1 y0 y1
    go_wp2
    go_ret
    exact ⟨ret_bool (by simp), hS.below⟩
  · rw [decide_eq_false hd] at hs ⊢
    clear hd
    obtain ⟨V1, e1, S1, z1⟩ := (BL.start w).add' #[.slice aa n ca, .string da] 30
    obtain ⟨V2, e2, hS, z2⟩ := S1.add' #[.slice ab m cb, .string db] 30
    rw [z1] at hS
    have hV : V2 = (w.alloc (.cells #[.slice aa n ca, .string da] 30)).alloc (.cells #[.slice ab m cb, .string db] 30) := by rw [e2, e1]
    clear e1 e2 S1 z1 z2
    obtain ⟨x0, x1⟩ := hS.c2 w.heap.size _ _ _ (.tail _ (.head _))
    obtain ⟨y0, y1⟩ := hS.c2 (w.heap.size + 1) _ _ _ (.head _)
    go_enter Tryz.func26, Tryz.ntmps26
    go_upto_region 1 with fail
    rw [← hV]
    clear hV
    go_wp2
    go_ret
    exact ⟨ret_bool (by simp), hS.below⟩
end Go.Proofs.YtcmomjnailihpaaGreatDoor
namespace Go.Proofs.YtcmomjnailihpaaGreatDoor
open Go.RowKit
structure NumL where
  cols : Int
  rows : Int
  coefs : List Int
  hidden : List Int
  miss : Int
def NumL.c (x : NumL) : Nat := (1 + pkv x.cols 8).toNat
def NumL.r (x : NumL) : Nat := (1 + pkv x.rows 5).toNat
def NumL.coef (x : NumL) (i j : Nat) : Int := pkv (atv x.coefs (i * x.c + j)) 19 - 9
def NumL.hid (x : NumL) (j : Nat) : Int := pkv (atv x.hidden j) 6
def NumL.sum (x : NumL) (i : Nat) : Nat → Int
  | 0 => 0
  | k + 1 => x.sum i k + x.coef i k * x.hid k
def NumL.misses (x : NumL) : Bool := pkv x.miss 3 == 2
def NumL.hit (x : NumL) (i : Nat) : Bool := x.misses && ((i : Int) == pkv (x.miss.tdiv 3) x.r)
def NumL.val (x : NumL) (i : Nat) : Int := if x.hit i then x.sum i x.c + pkv (x.miss.tdiv 30) 41 - 20 else x.sum i x.c
def NumL.row (x : NumL) (i : Nat) : List Int × Int := ((List.range x.c).map (x.coef i), x.val i)
def NumL.made (x : NumL) : List (List Int × Int) := (List.range x.r).map x.row
theorem NumL.c_eq (x : NumL) : (x.c : Int) = 1 + pkv x.cols 8 ∧ 1 ≤ x.c ∧ x.c ≤ 8 := by
  have h1 := pkv_nonneg (c := x.cols) (m := 8) (by decide)
  have h2 := pkv_lt (c := x.cols) (m := 8) (by decide)
  unfold NumL.c; omega
theorem NumL.r_eq (x : NumL) : (x.r : Int) = 1 + pkv x.rows 5 ∧ 1 ≤ x.r ∧ x.r ≤ 5 := by
  have h1 := pkv_nonneg (c := x.rows) (m := 5) (by decide)
  have h2 := pkv_lt (c := x.rows) (m := 5) (by decide)
  unfold NumL.r; omega
theorem NumL.coef_bd (x : NumL) (i j : Nat) : -9 ≤ x.coef i j ∧ x.coef i j ≤ 9 := by
  have h1 := pkv_nonneg (c := atv x.coefs (i * x.c + j)) (m := 19) (by decide)
  have h2 := pkv_lt (c := atv x.coefs (i * x.c + j)) (m := 19) (by decide)
  unfold NumL.coef; omega
theorem NumL.hid_bd (x : NumL) (j : Nat) : 0 ≤ x.hid j ∧ x.hid j ≤ 5 := by
  have h1 := pkv_nonneg (c := atv x.hidden j) (m := 6) (by decide)
  have h2 := pkv_lt (c := atv x.hidden j) (m := 6) (by decide)
  unfold NumL.hid; omega
theorem NumL.prod_bd (x : NumL) (i j : Nat) : -45 ≤ x.coef i j * x.hid j ∧ x.coef i j * x.hid j ≤ 45 := by
  obtain ⟨h1, h2⟩ := x.coef_bd i j
  obtain ⟨h3, h4⟩ := x.hid_bd j
  generalize x.coef i j = a at *
  generalize x.hid j = b at *
  have e1 := Int.mul_le_mul_of_nonneg_right h2 h3
  have e2 := Int.mul_le_mul_of_nonneg_right h1 h3
  omega
theorem NumL.sum_bd (x : NumL) (i : Nat) : ∀ k : Nat, -45 * (k : Int) ≤ x.sum i k ∧ x.sum i k ≤ 45 * (k : Int)
  | 0 => ⟨by show _ ≤ (0 : Int); omega, by show (0 : Int) ≤ _; omega⟩
  | k + 1 => by
    obtain ⟨h1, h2⟩ := x.sum_bd i k
    obtain ⟨h3, h4⟩ := x.prod_bd i k
    show _ ≤ x.sum i k + x.coef i k * x.hid k ∧ x.sum i k + x.coef i k * x.hid k ≤ _
    omega
theorem NumL.val_bd (x : NumL) (i : Nat) : -400 ≤ x.val i ∧ x.val i ≤ 400 := by
  have h1 := pkv_nonneg (c := x.miss.tdiv 30) (m := 41) (by decide)
  have h2 := pkv_lt (c := x.miss.tdiv 30) (m := 41) (by decide)
  obtain ⟨h3, h4⟩ := x.sum_bd i x.c
  obtain ⟨_, _, h5⟩ := x.c_eq
  unfold NumL.val
  split <;> omega
theorem NumL.made_len (x : NumL) : x.made.length = x.r := by unfold NumL.made; simp
theorem NumL.made_valid (x : NumL) : validL x.c x.made = true := by
  obtain ⟨_, h1, h2⟩ := x.c_eq
  obtain ⟨_, h3, h4⟩ := x.r_eq
  unfold validL
  simp only [Bool.and_eq_true, decide_eq_true_eq, Bool.not_eq_true', List.any_eq_false, x.made_len]
  refine ⟨⟨⟨by omega, by omega⟩, by omega⟩, fun e he => ?_⟩
  unfold NumL.made at he
  obtain ⟨i, _, rfl⟩ := List.mem_map.1 he
  obtain ⟨v1, v2⟩ := x.val_bd i
  have hany : ((List.range x.c).map (x.coef i)).any largeB = false := by
    rw [List.any_eq_false]
    intro z hz
    obtain ⟨j, _, rfl⟩ := List.mem_map.1 hz
    obtain ⟨c1, c2⟩ := x.coef_bd i j
    unfold largeB
    simp; omega
  unfold badE NumL.row
  rw [hany]
  simp; omega
end Go.Proofs.YtcmomjnailihpaaGreatDoor
namespace Go.Proofs.YtcmomjnailihpaaGreatDoor
open Go.RowKit
attribute [local go_sem] Oper.semAt_some
theorem info_eq : (Tryz.prog.info? 60).map (fun i => (i.zero, i.size, i.bytes)) = some (some (.agg #[.slice none 0 0, .int .i64 0]), 2, 32) := by kernel_rfl
theorem run_app_own2 {P : Program} {w : World} {base : Nat} (t ty e : TypeId) (z : Value) (bytes : Nat) (ht : P.underlying t = some (.slice e)) (hi : (P.info? e).map (fun i => (i.zero, i.size, i.bytes)) = some (some z, 2, bytes)) (hz : z.cells.size = 2)
    (v : Value) (n : Nat) (xs : List Value) (hown : w.ownsRow base e 2 v n xs) (g : Nat) (u1 u2 : Value) (hu1 : w.cell? ⟨g, 0, none⟩ = some u1) (hu2 : w.cell? ⟨g, 1, none⟩ = some u2) (h1 : u1.oneCell' = true) (h2 : u2.oneCell' = true) (hn : (n + 1) * bytes ≤ 140737488355328) (hn2 : n ≤ 1000000) (hbase : base ≤ w.heap.size) :
    ∃ v' w', (Builtin.append_ #[t, t] ty #[v, .slice (some ⟨g, 0, none⟩) 1 1]).run P w = .ok v' w' ∧ w'.ownsRow base e 2 v' (n + 1) (xs ++ [u1, u2]) ∧ w.grownBy w' v.ownBlock ∧ ∀ b, v'.ownBlock = some b → v.ownBlock = some b ∨ w.heap.size ≤ b := by
  obtain ⟨i0, hi, hz0, hz1, hz2⟩ := info_parts hi
  have hnews : ∀ j y, [u1, u2][j]? = some y → w.cell? ((⟨g, 0, none⟩ : Addr).add j) = some y := fun j y hj => by
    match j, hj with
    | 0, hj => cases hj; rw [addr_add]; exact hu1
    | 1, hj => cases hj; rw [addr_add]; exact hu2
  have h1c : ∀ y ∈ [u1, u2], y.oneCell' = true := by
    intro y hy
    simp only [List.mem_cons, List.not_mem_nil, or_false] at hy
    rcases hy with rfl | rfl
    · exact h1
    · exact h2
  have blkOf : ∀ {v' : Value} {w' : World} {n' : Nat} {xs' : List Value}, w'.ownsRow w.heap.size e 2 v' n' xs' → ∀ b, v'.ownBlock = some b → v.ownBlock = some b ∨ w.heap.size ≤ b := fun h b hb => .inr (h.lt b hb).1
  have hown0 := hown
  rcases hown.2 with ⟨rfl, rfl⟩ | ⟨g0, cap, cur, rfl, hb, hg, hcap, hmax, hsz, htk⟩
  · obtain ⟨v', w', hrun, r1, r2, _⟩ := run_append_own (P := P) w w.heap.size t ty e i0 z 2 bytes ht hi hz0 hz1 hz2 hz (by decide) (.slice none 0 0) 0 [] (World.ownsRow_nil w _ _ 2) ⟨g, 0, none⟩ 1 1 [u1, u2] rfl hnews h1c (by unfold maxLen; omega) (by omega) (Nat.le_refl _)
    obtain rfl : xs = [] := List.eq_nil_of_length_eq_zero (by have := hown.1; simpa using this)
    exact ⟨v', w', hrun, own_base r1 hbase, r2, blkOf r1⟩
  · by_cases hroom : n + 1 ≤ cap
    · obtain ⟨w', hrun, r1, r2⟩ := run_append_own_spare (P := P) w base t ty e i0 2 ht hi hz1 g0 n cap xs hown0 ⟨g, 0, none⟩ 1 1 [u1, u2] rfl hnews h1c hroom
      exact ⟨_, w', hrun, r1, r2, fun b hb => .inl hb⟩
    · obtain ⟨v', w', hrun, r1, r2⟩ := run_append_arg_grows (P := P) w t ty e i0 z 2 bytes ht hi hz0 hz1 hz2 hz (by decide) ⟨g0, 0, none⟩ n cap xs (by have := hown.1; simpa using this) (fun j y hj => hown0.cells (g := g0) rfl j y hj) ⟨g, 0, none⟩ 1 1 [u1, u2] rfl hnews (by omega) (by unfold maxLen; omega) hn
      exact ⟨v', w', hrun, own_base r1 hbase, ⟨r2.os, r2.tape, r2.output, r2.size, fun k hk _ => r2.block k hk (by simp)⟩, blkOf r1⟩
theorem oper_app_own2 {o : Oper} {a : Act} {K : Act → World → Prop} {Q : Exit → Act → World → Prop} {w : World} {base : Nat} (t : TypeId) (ht : Tryz.prog.underlying t = some (.slice 60))
    (s x : Operand) (ho : o.op = .call { callee := .builtin .append, args := #[s, x], argTypes := #[t, t] }) (v : Value) (n : Nat) (xs : List Value) (hs : a.eval s = v) (hown : w.ownsRow base 60 2 v n xs)
    (g : Nat) (u1 u2 : Value) (hx : a.eval x = .slice (some ⟨g, 0, none⟩) 1 1) (hu1 : w.cell? ⟨g, 0, none⟩ = some u1) (hu2 : w.cell? ⟨g, 1, none⟩ = some u2) (h1 : u1.oneCell' = true) (h2 : u2.oneCell' = true) (hn2 : n ≤ 1000000) (hbase : base ≤ w.heap.size)
    (h : ∀ v' w', w'.ownsRow base 60 2 v' (n + 1) (xs ++ [u1, u2]) → w.grownBy w' v.ownBlock → (∀ b, v'.ownBlock = some b → v.ownBlock = some b ∨ w.heap.size ≤ b) → K (a.put o.dst v') w') :
    Oper.wp Tryz.prog o a w K Q := by
  obtain ⟨v', w', hrun, r1, r2, r3⟩ := run_app_own2 (P := Tryz.prog) t o.type 60 _ 32 ht info_eq rfl v n xs hown g u1 u2 hu1 hu2 h1 h2 (by omega) hn2 hbase
  unfold Oper.wp
  simp [execOp, ho, resolve, invoke, builtin, hs, hx, hrun, Result.andThen]
  exact h v' w' r1 r2 r3
section
variable {ops : Array Oper} {rest : List Oper} {o : Oper} {a : Act} {Q : Exit → Act → World → Prop} {K : Act → World → Prop} {w0 w : World} {L : BLs} {R : List RowD} {s x : Operand} {v : Value} {n : Nat} {xs : List Value} {g : Nat}
theorem row_shape {e : TypeId} {k : Nat} {v : Value} {xs : List Value} (h : w.ownsRow w0.heap.size e k v (n + 1) xs) : ∃ g' cap, v = .slice (some ⟨g', 0, none⟩) (n + 1) cap := by
  rcases h.2 with ⟨_, h0⟩ | ⟨g', cap, cur, e, _⟩
  · omega
  · exact ⟨g', cap, e⟩
theorem oper_appI (ho : o.op = .call { callee := .builtin .append, args := #[s, x], argTypes := #[22, 22] }) (hM : Mem w0 L (⟨3, 1, v, n, xs⟩ :: R) w) (hs : a.eval s = v)
    {z : Int} (hx : a.eval x = .slice (some ⟨g, 0, none⟩) 1 1) (hu : w.cell? ⟨g, 0, none⟩ = some (.int .i64 z)) (hn : n ≤ 1000000)
    (h : ∀ g' cap w', Mem w0 L (⟨3, 1, .slice (some ⟨g', 0, none⟩) (n + 1) cap, n + 1, xs ++ [.int .i64 z]⟩ :: R) w' → K (a.put o.dst (.slice (some ⟨g', 0, none⟩) (n + 1) cap)) w') : Oper.wp Tryz.prog o a w K Q :=
  oper_app_own 22 3 (.int .i64 0) 8 Tryz.underlying22 info_int rfl s x ho v n xs hs hM.own0 g _ hx hu rfl (by omega) hn hM.size fun v' w' r1 r2 r3 => by
    obtain ⟨g', cap, rfl⟩ := row_shape r1
    exact h g' cap w' (hM.app0 r2 r1 r3)
theorem oper_appE (ho : o.op = .call { callee := .builtin .append, args := #[s, x], argTypes := #[25, 25] }) (hM : Mem w0 L (⟨60, 2, v, n, xs⟩ :: R) w) (hs : a.eval s = v)
    {u1 u2 : Value} (hx : a.eval x = .slice (some ⟨g, 0, none⟩) 1 1) (hu1 : w.cell? ⟨g, 0, none⟩ = some u1) (hu2 : w.cell? ⟨g, 1, none⟩ = some u2) (h1 : u1.oneCell' = true) (h2 : u2.oneCell' = true) (hn : n ≤ 1000000)
    (h : ∀ g' cap w', Mem w0 L (⟨60, 2, .slice (some ⟨g', 0, none⟩) (n + 1) cap, n + 1, xs ++ [u1, u2]⟩ :: R) w' → K (a.put o.dst (.slice (some ⟨g', 0, none⟩) (n + 1) cap)) w') : Oper.wp Tryz.prog o a w K Q :=
  oper_app_own2 25 Tryz.underlying25 s x ho v n xs hs hM.own0 g u1 u2 hx hu1 hu2 h1 h2 hn hM.size fun v' w' r1 r2 r3 => by
    obtain ⟨g', cap, rfl⟩ := row_shape r1
    exact h g' cap w' (hM.app0 r2 r1 r3)
theorem wpList_appI (hgd : o.guard = none) (ho : o.op = .call { callee := .builtin .append, args := #[s, x], argTypes := #[22, 22] }) (hM : Mem w0 L (⟨3, 1, v, n, xs⟩ :: R) w) (hs : a.eval s = v)
    {z : Int} (hx : a.eval x = .slice (some ⟨g, 0, none⟩) 1 1) (hu : w.cell? ⟨g, 0, none⟩ = some (.int .i64 z)) (hn : n ≤ 1000000)
    (h : ∀ g' cap w', Mem w0 L (⟨3, 1, .slice (some ⟨g', 0, none⟩) (n + 1) cap, n + 1, xs ++ [.int .i64 z]⟩ :: R) w' → wpList Tryz.prog ops Q rest (a.put o.dst (.slice (some ⟨g', 0, none⟩) (n + 1) cap)) w') : wpList Tryz.prog ops Q (o :: rest) a w :=
  wpList_plain hgd fun _ hK => oper_appI ho hM hs hx hu hn fun g' cap w' hm => hK _ _ (h g' cap w' hm)
theorem wpList_appE (hgd : o.guard = none) (ho : o.op = .call { callee := .builtin .append, args := #[s, x], argTypes := #[25, 25] }) (hM : Mem w0 L (⟨60, 2, v, n, xs⟩ :: R) w) (hs : a.eval s = v)
    {u1 u2 : Value} (hx : a.eval x = .slice (some ⟨g, 0, none⟩) 1 1) (hu1 : w.cell? ⟨g, 0, none⟩ = some u1) (hu2 : w.cell? ⟨g, 1, none⟩ = some u2) (h1 : u1.oneCell' = true) (h2 : u2.oneCell' = true) (hn : n ≤ 1000000)
    (h : ∀ g' cap w', Mem w0 L (⟨60, 2, .slice (some ⟨g', 0, none⟩) (n + 1) cap, n + 1, xs ++ [u1, u2]⟩ :: R) w' → wpList Tryz.prog ops Q rest (a.put o.dst (.slice (some ⟨g', 0, none⟩) (n + 1) cap)) w') : wpList Tryz.prog ops Q (o :: rest) a w :=
  wpList_plain hgd fun _ hK => oper_appE ho hM hs hx hu1 hu2 h1 h2 hn fun g' cap w' hm => hK _ _ (h g' cap w' hm)
end
end Go.Proofs.YtcmomjnailihpaaGreatDoor
namespace Go.Proofs.YtcmomjnailihpaaGreatDoor
open Go.RowKit
def InB (fs : BLs) (v : Value) (l : List Int) : Prop :=
  (v = .slice none 0 0 ∧ l = []) ∨ ∃ g cap cs, v = .slice (some ⟨g, 0, none⟩) l.length cap ∧ l.length ≤ cap ∧ cap ≤ maxLen ∧ cs.size = cap ∧ (g, cs, (3 : TypeId)) ∈ fs ∧ cs.toList.take l.length = l.map (Value.int .i64)
theorem InB.mono {fs gs : BLs} {v : Value} {l : List Int} (h : InB fs v l) (hs : ∀ p ∈ fs, p ∈ gs) : InB gs v l := by
  rcases h with h | ⟨g, cap, cs, h1, h2, h3, h4, h5, h6⟩
  · exact .inl h
  · exact .inr ⟨g, cap, cs, h1, h2, h3, h4, hs _ h5, h6⟩
theorem InB.shape {fs : BLs} {v : Value} {l : List Int} (h : InB fs v l) : ∃ a cap, v = .slice a l.length cap := by
  rcases h with ⟨rfl, rfl⟩ | ⟨g, cap, cs, h1, _⟩
  · exact ⟨_, _, rfl⟩
  · exact ⟨_, _, h1⟩
theorem InB.sl {fs : BLs} {v : Value} {l : List Int} (h : InB fs v l) {w W : World} {L : BLs} {R : List RowD} (hM : Mem w L R W) (hs : ∀ p ∈ fs, p ∈ L) : Sl W v l := by
  rcases h with h | ⟨g, cap, cs, h1, h2, h3, h4, h5, h6⟩
  · exact .inl h
  · have hb := hM.blks _ (hs _ h5)
    refine .inr ⟨g, 0, cap, h1, h2, h3, hb.lt, fun j hj => ?_⟩
    rw [Nat.zero_add, hb.cell]
    have e := congrArg (fun z => z[j]?) h6
    simp only [List.getElem?_take, hj, if_true, List.getElem?_map, List.getElem?_eq_getElem hj] at e
    rw [Array.getElem?_toList] at e
    rw [e, gi_lt hj]; rfl
theorem Mem.freezeI {w W : World} {L : BLs} {R : List RowD} {v : Value} {l : List Int} {n : Nat} (hn : n = l.length) (h : Mem w L (⟨3, 1, v, n, l.map (Value.int .i64)⟩ :: R) W) : ∃ gs : BLs, InB gs v l ∧ Mem w (gs ++ L) R W := by
  subst hn
  rcases h.freeze with ⟨rfl, h1, h2, h3⟩ | ⟨g, cap, cs, rfl, h1, h2, h3, h4, h5⟩
  · exact ⟨[], .inl ⟨rfl, by simpa using h2⟩, h3⟩
  · exact ⟨[(g, cs, 3)], .inr ⟨g, cap, cs, rfl, h1, h2, by omega, List.mem_cons_self, by rw [Nat.mul_one] at h4; exact h4⟩, h5⟩
structure EqsAt (fs : BLs) (rows : List (List Int × Int)) (xs : List Value) : Prop where
  len : xs.length = rows.length * 2
  at_ : ∀ j r, rows[j]? = some r → ∃ v, xs[j * 2]? = some v ∧ xs[j * 2 + 1]? = some (.int .i64 r.2) ∧ InB fs v r.1
theorem EqsAt.nil (fs : BLs) : EqsAt fs [] [] := ⟨rfl, fun j r h => by simp at h⟩
theorem EqsAt.snoc {fs gs : BLs} {rows : List (List Int × Int)} {xs : List Value} {v : Value} {l : List Int} {z : Int} (h : EqsAt fs rows xs) (hv : InB gs v l) (hs : ∀ p ∈ fs, p ∈ gs) : EqsAt gs (rows ++ [(l, z)]) (xs ++ [v, .int .i64 z]) := by
  refine ⟨by simp [h.len]; omega, fun j r hj => ?_⟩
  by_cases hlt : j < rows.length
  · rw [List.getElem?_append_left hlt] at hj
    obtain ⟨u, h1, h2, h3⟩ := h.at_ j r hj
    refine ⟨u, ?_, ?_, h3.mono hs⟩
    · rw [List.getElem?_append_left (by rw [h.len]; omega)]; exact h1
    · rw [List.getElem?_append_left (by rw [h.len]; omega)]; exact h2
  · have hj' : j = rows.length := by
      have := (List.getElem?_eq_some_iff.1 hj).1
      simp at this; omega
    subst hj'
    simp at hj
    subst hj
    refine ⟨v, ?_, ?_, hv⟩
    · rw [List.getElem?_append_right (by rw [h.len]; omega), h.len]; simp
    · rw [List.getElem?_append_right (by rw [h.len]; omega), h.len, show rows.length * 2 + 1 - rows.length * 2 = 1 by omega]; rfl
theorem EqsAt.mono {fs gs : BLs} {rows : List (List Int × Int)} {xs : List Value} (h : EqsAt fs rows xs) (hs : ∀ p ∈ fs, p ∈ gs) : EqsAt gs rows xs := ⟨h.len, fun j r hj => by
  obtain ⟨v, h1, h2, h3⟩ := h.at_ j r hj
  exact ⟨v, h1, h2, h3.mono hs⟩⟩
theorem EqsAt.slE {w W : World} {L fs : BLs} {R : List RowD} {v : Value} {n : Nat} {rows : List (List Int × Int)} {xs : List Value} (h : EqsAt fs rows xs) (hM : Mem w L (⟨60, 2, v, n, xs⟩ :: R) W) (hn : n = rows.length) (hs : ∀ p ∈ fs, p ∈ L) : SlE W v rows := by
  refine SlG.of_own hM.own0 hn fun b hb hc j r hj => ?_
  obtain ⟨u, h1, h2, h3⟩ := h.at_ j r hj
  exact ⟨u, hc _ _ h1, h3.sl hM hs, hc _ _ h2⟩
end Go.Proofs.YtcmomjnailihpaaGreatDoor
namespace Go.Proofs.YtcmomjnailihpaaGreatDoor
open Go.RowKit
attribute [local go_sem] Oper.semAt_some
set_option maxRecDepth 100000 in
set_option maxHeartbeats 8000000 in
theorem made_r12 {Q : Exit → Act → World → Prop} {u0 u2 u3 u4 u5 u9 u10 u11 u12 u13 u14 u15 u16 u17 u18 u19 u20 u21 u22 u23 u24 u25 u26 u27 u28 u29 u30 u31 u32 u33 u34 u35 u36 u37 u38 u39 u40 u41 u42 u43 u44 u45 u46 u47 u48 u49 u50 u51 u52 u53 u54 u55 u56 u57 u58 u59 u60 u61 u62 u63 u64 u65 u66 u67 u68 u69 u70 u71 u72 u73 u74 u75 u76 u77 u78 u79 u80 u81 u82 u83 u84 : Value} {bN bE : Nat} {v hv : Value} {w W0 : World} {L : BLs} {R : List RowD} {j co at_ hd pr s0 s1 : Int} (hpr : IntKind.i64.wrap (co * hd) = pr) (hsm : IntKind.i64.wrap (s0 + pr) = s1) (hN : Hid (∀ W, Mem w L R W → W.cell? ⟨bN, 3, none⟩ = some hv)) (AT : Hid (∀ W, Mem w L R W → Calls Tryz.prog 36 #[hv, .int .i64 j] W (Rets W (.int .i64 at_)))) (PK : Hid (∀ W, Calls Tryz.prog 35 #[.int .i64 at_, .int .i64 6] W (Rets W (.int .i64 hd)))) (h0 : Hid (Mem w ((bE, #[v, .int .i64 s0], 60) :: L) R W0)) {ops : Array Oper} (ho : getOps Tryz.f11.body 12 = some ops)
    (hQ : ∀ (v47 v48 v49 v50 v51 v52 v53 v54 v55 v56 v57 : Value)  (W' : World), Mem w ((bE, #[v, .int .i64 s1], 60) :: L) R W' → Q .normal { tmps := List.toArray (u0::.pointer (some ⟨bN, 0, none⟩)::u2::u3::u4::u5::.pointer (some ⟨bE, 0, none⟩)::.int .i64 j::.int .i64 co::u9::u10::u11::u12::u13::u14::u15::u16::u17::u18::u19::u20::u21::u22::u23::u24::u25::u26::u27::u28::u29::u30::u31::u32::u33::u34::u35::u36::u37::u38::u39::u40::u41::u42::u43::u44::u45::u46::v47::v48::v49::v50::v51::v52::v53::v54::v55::v56::v57::u58::u59::u60::u61::u62::u63::u64::u65::u66::u67::u68::u69::u70::u71::u72::u73::u74::u75::u76::u77::u78::u79::u80::u81::u82::u83::u84::[]), defers := [] } W') :
    (Code.region 12 ops true).wp Tryz.prog Q { tmps := List.toArray (u0::.pointer (some ⟨bN, 0, none⟩)::u2::u3::u4::u5::.pointer (some ⟨bE, 0, none⟩)::.int .i64 j::.int .i64 co::u9::u10::u11::u12::u13::u14::u15::u16::u17::u18::u19::u20::u21::u22::u23::u24::u25::u26::u27::u28::u29::u30::u31::u32::u33::u34::u35::u36::u37::u38::u39::u40::u41::u42::u43::u44::u45::u46::u47::u48::u49::u50::u51::u52::u53::u54::u55::u56::u57::u58::u59::u60::u61::u62::u63::u64::u65::u66::u67::u68::u69::u70::u71::u72::u73::u74::u75::u76::u77::u78::u79::u80::u81::u82::u83::u84::[]), defers := [] } W0 := by
  obtain rfl := Option.some.inj (ho.symm.trans (rfl : getOps Tryz.f11.body 12 = some _))
  clear ho
  replace hQ := Lib.hid hQ
  obtain ⟨Iv, hI⟩ : ∃ Iv : (Nat → Bool) → Act → World → Prop, ∀ l a W, Iv l a W ↔ (∃ s47 s48 s49 s50 s51 s52 s53 s54 s55 s56 s57 : Value, a = { tmps := List.toArray (u0::.pointer (some ⟨bN, 0, none⟩)::u2::u3::u4::u5::.pointer (some ⟨bE, 0, none⟩)::.int .i64 j::.int .i64 co::u9::u10::u11::u12::u13::u14::u15::u16::u17::u18::u19::u20::u21::u22::u23::u24::u25::u26::u27::u28::u29::u30::u31::u32::u33::u34::u35::u36::u37::u38::u39::u40::u41::u42::u43::u44::u45::u46::s47::s48::s49::s50::s51::s52::s53::s54::s55::s56::s57::u58::u59::u60::u61::u62::u63::u64::u65::u66::u67::u68::u69::u70::u71::u72::u73::u74::u75::u76::u77::u78::u79::u80::u81::u82::u83::u84::[]), defers := [] } ∧ Mem w L R W ∧ Vs [(0, .pointer (some ⟨bE, 1, none⟩), s47), (1, .int .i64 s0, s48), (2, .int .i64 co, s49), (3, .pointer (some ⟨bN, 3, none⟩), s50), (4, hv, s51), (5, .int .i64 j, s52), (6, .int .i64 at_, s53), (7, .int .i64 hd, s54), (8, .int .i64 pr, s55), (9, .int .i64 s1, s56), (10, .pointer (some ⟨bE, 1, none⟩), s57)] l ∧ ((l 11 = false → Blk W bE #[v, .int .i64 s0] 60) ∧ (l 11 = true → Blk W bE #[v, .int .i64 s1] 60))) := ⟨_, fun _ _ _ => Iff.rfl⟩
  refine wp_region_inv Iv (by kernel_rfl) (by kernel_rfl) ((hI _ _ _).2 ⟨_, _, _, _, _, _, _, _, _, _, _, rfl, h0.out.tail.drew, Vs.zero, ⟨fun _ => h0.out.drew.blks _ List.mem_cons_self, fun h => off h⟩⟩) (stepsI_cons (k := 0) ?_ (stepsI_cons (k := 1) ?_ (stepsI_cons (k := 2) ?_ (stepsI_cons (k := 3) ?_ (stepsI_cons (k := 4) ?_ (stepsI_cons (k := 5) ?_ (stepsI_cons (k := 6) ?_ (stepsI_cons (k := 7) ?_ (stepsI_cons (k := 8) ?_ (stepsI_cons (k := 9) ?_ (stepsI_cons (k := 10) ?_ (stepsI_cons (k := 11) ?_ (stepsI_nil))))))))))))) ?_
  · intro l a W hl hw hsh hI' K hK
    have h := (hI _ _ _).1 hI'; clear hI'; obtain ⟨s47, s48, s49, s50, s51, s52, s53, s54, h⟩ := h; obtain ⟨s55, s56, s57, h⟩ := h
    obtain ⟨ha, hC, hP, g⟩ := h; subst ha
    go_simp
    refine hK.out _ _ ((hI _ _ _).2 ⟨_, _, _, _, _, _, _, _, _, _, _, rfl, hC, hP.put 0 rfl rfl rfl, g⟩)
  · intro l a W hl hw hsh hI' K hK
    have h := (hI _ _ _).1 hI'; clear hI'; obtain ⟨s47, s48, s49, s50, s51, s52, s53, s54, h⟩ := h; obtain ⟨s55, s56, s57, h⟩ := h
    obtain ⟨ha, hC, hP, g⟩ := h; subst ha
    obtain rfl := hP.get 0 rfl (hw 0 (by kernel_rfl))
    have hst : l 11 = false := by
      cases hc : l 11 with
      | false => rfl
      | true => exact absurd (hsh 9 1 _ rfl (hsh 11 9 _ rfl (hc) (by kernel_rfl)) (by kernel_rfl)) (by simp [hl])
    have x1 := ((g.1 hst).cell 1).trans (show _ = some (Value.int .i64 s0) from rfl)
    go_simp
    refine hK.out _ _ ((hI _ _ _).2 ⟨_, _, _, _, _, _, _, _, _, _, _, rfl, hC, hP.put 1 rfl rfl rfl, g⟩)
  · intro l a W hl hw hsh hI' K hK
    have h := (hI _ _ _).1 hI'; clear hI'; obtain ⟨s47, s48, s49, s50, s51, s52, s53, s54, h⟩ := h; obtain ⟨s55, s56, s57, h⟩ := h
    obtain ⟨ha, hC, hP, g⟩ := h; subst ha
    go_simp
    refine hK.out _ _ ((hI _ _ _).2 ⟨_, _, _, _, _, _, _, _, _, _, _, rfl, hC, hP.put 2 rfl rfl rfl, g⟩)
  · intro l a W hl hw hsh hI' K hK
    have h := (hI _ _ _).1 hI'; clear hI'; obtain ⟨s47, s48, s49, s50, s51, s52, s53, s54, h⟩ := h; obtain ⟨s55, s56, s57, h⟩ := h
    obtain ⟨ha, hC, hP, g⟩ := h; subst ha
    go_simp
    refine hK.out _ _ ((hI _ _ _).2 ⟨_, _, _, _, _, _, _, _, _, _, _, rfl, hC, hP.put 3 rfl rfl rfl, g⟩)
  · intro l a W hl hw hsh hI' K hK
    have h := (hI _ _ _).1 hI'; clear hI'; obtain ⟨s47, s48, s49, s50, s51, s52, s53, s54, h⟩ := h; obtain ⟨s55, s56, s57, h⟩ := h
    obtain ⟨ha, hC, hP, g⟩ := h; subst ha
    obtain rfl := hP.get 3 rfl (hw 3 (by kernel_rfl))
    have x1 := hN.out _ hC
    go_simp
    refine hK.out _ _ ((hI _ _ _).2 ⟨_, _, _, _, _, _, _, _, _, _, _, rfl, hC, hP.put 4 rfl rfl rfl, g⟩)
  · intro l a W hl hw hsh hI' K hK
    have h := (hI _ _ _).1 hI'; clear hI'; obtain ⟨s47, s48, s49, s50, s51, s52, s53, s54, h⟩ := h; obtain ⟨s55, s56, s57, h⟩ := h
    obtain ⟨ha, hC, hP, g⟩ := h; subst ha
    go_simp
    refine hK.out _ _ ((hI _ _ _).2 ⟨_, _, _, _, _, _, _, _, _, _, _, rfl, hC, hP.put 5 rfl rfl rfl, g⟩)
  · intro l a W hl hw hsh hI' K hK
    have h := (hI _ _ _).1 hI'; clear hI'; obtain ⟨s47, s48, s49, s50, s51, s52, s53, s54, h⟩ := h; obtain ⟨s55, s56, s57, h⟩ := h
    obtain ⟨ha, hC, hP, g⟩ := h; subst ha
    obtain rfl := hP.get 4 rfl (hw 4 (by kernel_rfl))
    obtain rfl := hP.get 5 rfl (hw 5 (by kernel_rfl))
    go_simp
    refine Calls.mono (AT.out W hC) ?_
    rintro e W2 ⟨rfl, hb⟩
    refine hK.out _ _ ((hI _ _ _).2 ⟨_, _, _, _, _, _, _, _, _, _, _, rfl, hC.call hb, hP.put 6 rfl rfl rfl, ⟨fun h => (g.1 h).below hb, fun h => (g.2 h).below hb⟩⟩)
  · intro l a W hl hw hsh hI' K hK
    have h := (hI _ _ _).1 hI'; clear hI'; obtain ⟨s47, s48, s49, s50, s51, s52, s53, s54, h⟩ := h; obtain ⟨s55, s56, s57, h⟩ := h
    obtain ⟨ha, hC, hP, g⟩ := h; subst ha
    obtain rfl := hP.get 6 rfl (hw 6 (by kernel_rfl))
    go_simp
    refine Calls.mono (PK.out W) ?_
    rintro e W2 ⟨rfl, hb⟩
    refine hK.out _ _ ((hI _ _ _).2 ⟨_, _, _, _, _, _, _, _, _, _, _, rfl, hC.call hb, hP.put 7 rfl rfl rfl, ⟨fun h => (g.1 h).below hb, fun h => (g.2 h).below hb⟩⟩)
  · intro l a W hl hw hsh hI' K hK
    have h := (hI _ _ _).1 hI'; clear hI'; obtain ⟨s47, s48, s49, s50, s51, s52, s53, s54, h⟩ := h; obtain ⟨s55, s56, s57, h⟩ := h
    obtain ⟨ha, hC, hP, g⟩ := h; subst ha
    obtain rfl := hP.get 2 rfl (hw 2 (by kernel_rfl))
    obtain rfl := hP.get 7 rfl (hw 7 (by kernel_rfl))
    go_simp
    refine hK.out _ _ ((hI _ _ _).2 ⟨_, _, _, _, _, _, _, _, _, _, _, rfl, hC, hP.put 8 rfl rfl rfl, g⟩)
  · intro l a W hl hw hsh hI' K hK
    have h := (hI _ _ _).1 hI'; clear hI'; obtain ⟨s47, s48, s49, s50, s51, s52, s53, s54, h⟩ := h; obtain ⟨s55, s56, s57, h⟩ := h
    obtain ⟨ha, hC, hP, g⟩ := h; subst ha
    obtain rfl := hP.get 1 rfl (hw 1 (by kernel_rfl))
    obtain rfl := hP.get 8 rfl (hw 8 (by kernel_rfl))
    go_simp
    refine hK.out _ _ ((hI _ _ _).2 ⟨_, _, _, _, _, _, _, _, _, _, _, rfl, hC, hP.put 9 rfl rfl rfl, g⟩)
  · intro l a W hl hw hsh hI' K hK
    have h := (hI _ _ _).1 hI'; clear hI'; obtain ⟨s47, s48, s49, s50, s51, s52, s53, s54, h⟩ := h; obtain ⟨s55, s56, s57, h⟩ := h
    obtain ⟨ha, hC, hP, g⟩ := h; subst ha
    go_simp
    refine hK.out _ _ ((hI _ _ _).2 ⟨_, _, _, _, _, _, _, _, _, _, _, rfl, hC, hP.put 10 rfl rfl rfl, g⟩)
  · intro l a W hl hw hsh hI' K hK
    have h := (hI _ _ _).1 hI'; clear hI'; obtain ⟨s47, s48, s49, s50, s51, s52, s53, s54, h⟩ := h; obtain ⟨s55, s56, s57, h⟩ := h
    obtain ⟨ha, hC, hP, g⟩ := h; subst ha
    obtain rfl := hP.get 9 rfl (hw 9 (by kernel_rfl))
    obtain rfl := hP.get 10 rfl (hw 10 (by kernel_rfl))
    have x1 := (g.1 hl).cell 1
    have x2 := (g.1 hl).frozen 1
    go_simp
    refine hK.out _ _ ((hI _ _ _).2 ⟨_, _, _, _, _, _, _, _, _, _, _, rfl, h0.out.off hC (g.1 hl) 1 _, hP.skip 11 rfl, ⟨fun h => off h.symm, fun _ => (g.1 hl).set 1 _⟩⟩)
  · intro a W hI'
    have h := (hI _ _ _).1 hI'; clear hI'; obtain ⟨s47, s48, s49, s50, s51, s52, s53, s54, h⟩ := h; obtain ⟨s55, s56, s57, h⟩ := h
    obtain ⟨ha, hC, hP, g⟩ := h; subst ha
    exact hQ.out _ _ _ _ _ _ _ _ _ _ _ _ (h0.out.join hC (g.2 (by kernel_rfl)))
set_option maxRecDepth 100000 in
set_option maxHeartbeats 8000000 in
theorem made_r14 {Q : Exit → Act → World → Prop} {u0 u2 u3 u4 u5 u7 u8 u9 u10 u11 u12 u13 u14 u15 u16 u17 u18 u19 u20 u21 u22 u23 u24 u25 u26 u27 u28 u29 u30 u31 u32 u33 u34 u35 u36 u37 u38 u39 u40 u41 u42 u43 u44 u45 u46 u47 u48 u49 u50 u51 u52 u53 u54 u55 u56 u57 u58 u59 u60 u61 u62 u63 u64 u65 u66 u67 u68 u69 u70 u71 u72 u73 u74 u75 u76 u77 u78 u79 u80 u81 u82 u83 u84 : Value} {bN bE : Nat} {v : Value} {w W0 : World} {L : BLs} {R : List RowD} {ms mq pk sa s0 s1 : Int} (hmq : IntKind.i64.wrap (ms.tdiv 30) = mq) (hsa : IntKind.i64.wrap (s0 + pk) = sa) (hsm : IntKind.i64.wrap (sa - 20) = s1) (hN : Hid (∀ W, Mem w L R W → W.cell? ⟨bN, 4, none⟩ = some (.int .i64 ms))) (PK : Hid (∀ W, Calls Tryz.prog 35 #[.int .i64 mq, .int .i64 41] W (Rets W (.int .i64 pk)))) (h0 : Hid (Mem w ((bE, #[v, .int .i64 s0], 60) :: L) R W0)) {ops : Array Oper} (ho : getOps Tryz.f11.body 14 = some ops)
    (hQ : ∀ (v69 v70 v71 v72 v73 v74 v75 v76 v77 : Value)  (W' : World), Mem w ((bE, #[v, .int .i64 s1], 60) :: L) R W' → Q .normal { tmps := List.toArray (u0::.pointer (some ⟨bN, 0, none⟩)::u2::u3::u4::u5::.pointer (some ⟨bE, 0, none⟩)::u7::u8::u9::u10::u11::u12::u13::u14::u15::u16::u17::u18::u19::u20::u21::u22::u23::u24::u25::u26::u27::u28::u29::u30::u31::u32::u33::u34::u35::u36::u37::u38::u39::u40::u41::u42::u43::u44::u45::u46::u47::u48::u49::u50::u51::u52::u53::u54::u55::u56::u57::u58::u59::u60::u61::u62::u63::u64::u65::u66::u67::u68::v69::v70::v71::v72::v73::v74::v75::v76::v77::u78::u79::u80::u81::u82::u83::u84::[]), defers := [] } W') :
    (Code.region 14 ops true).wp Tryz.prog Q { tmps := List.toArray (u0::.pointer (some ⟨bN, 0, none⟩)::u2::u3::u4::u5::.pointer (some ⟨bE, 0, none⟩)::u7::u8::u9::u10::u11::u12::u13::u14::u15::u16::u17::u18::u19::u20::u21::u22::u23::u24::u25::u26::u27::u28::u29::u30::u31::u32::u33::u34::u35::u36::u37::u38::u39::u40::u41::u42::u43::u44::u45::u46::u47::u48::u49::u50::u51::u52::u53::u54::u55::u56::u57::u58::u59::u60::u61::u62::u63::u64::u65::u66::u67::u68::u69::u70::u71::u72::u73::u74::u75::u76::u77::u78::u79::u80::u81::u82::u83::u84::[]), defers := [] } W0 := by
  obtain rfl := Option.some.inj (ho.symm.trans (rfl : getOps Tryz.f11.body 14 = some _))
  clear ho
  replace hQ := Lib.hid hQ
  obtain ⟨Iv, hI⟩ : ∃ Iv : (Nat → Bool) → Act → World → Prop, ∀ l a W, Iv l a W ↔ (∃ s69 s70 s71 s72 s73 s74 s75 s76 s77 : Value, a = { tmps := List.toArray (u0::.pointer (some ⟨bN, 0, none⟩)::u2::u3::u4::u5::.pointer (some ⟨bE, 0, none⟩)::u7::u8::u9::u10::u11::u12::u13::u14::u15::u16::u17::u18::u19::u20::u21::u22::u23::u24::u25::u26::u27::u28::u29::u30::u31::u32::u33::u34::u35::u36::u37::u38::u39::u40::u41::u42::u43::u44::u45::u46::u47::u48::u49::u50::u51::u52::u53::u54::u55::u56::u57::u58::u59::u60::u61::u62::u63::u64::u65::u66::u67::u68::s69::s70::s71::s72::s73::s74::s75::s76::s77::u78::u79::u80::u81::u82::u83::u84::[]), defers := [] } ∧ Mem w L R W ∧ Vs [(0, .pointer (some ⟨bE, 1, none⟩), s69), (1, .int .i64 s0, s70), (2, .pointer (some ⟨bN, 4, none⟩), s71), (3, .int .i64 ms, s72), (4, .int .i64 mq, s73), (5, .int .i64 pk, s74), (6, .int .i64 sa, s75), (7, .int .i64 s1, s76), (8, .pointer (some ⟨bE, 1, none⟩), s77)] l ∧ ((l 9 = false → Blk W bE #[v, .int .i64 s0] 60) ∧ (l 9 = true → Blk W bE #[v, .int .i64 s1] 60))) := ⟨_, fun _ _ _ => Iff.rfl⟩
  refine wp_region_inv Iv (by kernel_rfl) (by kernel_rfl) ((hI _ _ _).2 ⟨_, _, _, _, _, _, _, _, _, rfl, h0.out.tail.drew, Vs.zero, ⟨fun _ => h0.out.drew.blks _ List.mem_cons_self, fun h => off h⟩⟩) (stepsI_cons (k := 0) ?_ (stepsI_cons (k := 1) ?_ (stepsI_cons (k := 2) ?_ (stepsI_cons (k := 3) ?_ (stepsI_cons (k := 4) ?_ (stepsI_cons (k := 5) ?_ (stepsI_cons (k := 6) ?_ (stepsI_cons (k := 7) ?_ (stepsI_cons (k := 8) ?_ (stepsI_cons (k := 9) ?_ (stepsI_nil))))))))))) ?_
  · intro l a W hl hw hsh hI' K hK
    have h := (hI _ _ _).1 hI'; clear hI'; obtain ⟨s69, s70, s71, s72, s73, s74, s75, s76, h⟩ := h; obtain ⟨s77, h⟩ := h
    obtain ⟨ha, hC, hP, g⟩ := h; subst ha
    go_simp
    refine hK.out _ _ ((hI _ _ _).2 ⟨_, _, _, _, _, _, _, _, _, rfl, hC, hP.put 0 rfl rfl rfl, g⟩)
  · intro l a W hl hw hsh hI' K hK
    have h := (hI _ _ _).1 hI'; clear hI'; obtain ⟨s69, s70, s71, s72, s73, s74, s75, s76, h⟩ := h; obtain ⟨s77, h⟩ := h
    obtain ⟨ha, hC, hP, g⟩ := h; subst ha
    obtain rfl := hP.get 0 rfl (hw 0 (by kernel_rfl))
    have hst : l 9 = false := by
      cases hc : l 9 with
      | false => rfl
      | true => exact absurd (hsh 6 1 _ rfl (hsh 7 6 _ rfl (hsh 9 7 _ rfl (hc) (by kernel_rfl)) (by kernel_rfl)) (by kernel_rfl)) (by simp [hl])
    have x1 := ((g.1 hst).cell 1).trans (show _ = some (Value.int .i64 s0) from rfl)
    go_simp
    refine hK.out _ _ ((hI _ _ _).2 ⟨_, _, _, _, _, _, _, _, _, rfl, hC, hP.put 1 rfl rfl rfl, g⟩)
  · intro l a W hl hw hsh hI' K hK
    have h := (hI _ _ _).1 hI'; clear hI'; obtain ⟨s69, s70, s71, s72, s73, s74, s75, s76, h⟩ := h; obtain ⟨s77, h⟩ := h
    obtain ⟨ha, hC, hP, g⟩ := h; subst ha
    go_simp
    refine hK.out _ _ ((hI _ _ _).2 ⟨_, _, _, _, _, _, _, _, _, rfl, hC, hP.put 2 rfl rfl rfl, g⟩)
  · intro l a W hl hw hsh hI' K hK
    have h := (hI _ _ _).1 hI'; clear hI'; obtain ⟨s69, s70, s71, s72, s73, s74, s75, s76, h⟩ := h; obtain ⟨s77, h⟩ := h
    obtain ⟨ha, hC, hP, g⟩ := h; subst ha
    obtain rfl := hP.get 2 rfl (hw 2 (by kernel_rfl))
    have x1 := hN.out _ hC
    go_simp
    refine hK.out _ _ ((hI _ _ _).2 ⟨_, _, _, _, _, _, _, _, _, rfl, hC, hP.put 3 rfl rfl rfl, g⟩)
  · intro l a W hl hw hsh hI' K hK
    have h := (hI _ _ _).1 hI'; clear hI'; obtain ⟨s69, s70, s71, s72, s73, s74, s75, s76, h⟩ := h; obtain ⟨s77, h⟩ := h
    obtain ⟨ha, hC, hP, g⟩ := h; subst ha
    obtain rfl := hP.get 3 rfl (hw 3 (by kernel_rfl))
    go_simp
    refine hK.out _ _ ((hI _ _ _).2 ⟨_, _, _, _, _, _, _, _, _, rfl, hC, hP.put 4 rfl rfl rfl, g⟩)
  · intro l a W hl hw hsh hI' K hK
    have h := (hI _ _ _).1 hI'; clear hI'; obtain ⟨s69, s70, s71, s72, s73, s74, s75, s76, h⟩ := h; obtain ⟨s77, h⟩ := h
    obtain ⟨ha, hC, hP, g⟩ := h; subst ha
    obtain rfl := hP.get 4 rfl (hw 4 (by kernel_rfl))
    go_simp
    refine Calls.mono (PK.out W) ?_
    rintro e W2 ⟨rfl, hb⟩
    refine hK.out _ _ ((hI _ _ _).2 ⟨_, _, _, _, _, _, _, _, _, rfl, hC.call hb, hP.put 5 rfl rfl rfl, ⟨fun h => (g.1 h).below hb, fun h => (g.2 h).below hb⟩⟩)
  · intro l a W hl hw hsh hI' K hK
    have h := (hI _ _ _).1 hI'; clear hI'; obtain ⟨s69, s70, s71, s72, s73, s74, s75, s76, h⟩ := h; obtain ⟨s77, h⟩ := h
    obtain ⟨ha, hC, hP, g⟩ := h; subst ha
    obtain rfl := hP.get 1 rfl (hw 1 (by kernel_rfl))
    obtain rfl := hP.get 5 rfl (hw 5 (by kernel_rfl))
    go_simp
    refine hK.out _ _ ((hI _ _ _).2 ⟨_, _, _, _, _, _, _, _, _, rfl, hC, hP.put 6 rfl rfl rfl, g⟩)
  · intro l a W hl hw hsh hI' K hK
    have h := (hI _ _ _).1 hI'; clear hI'; obtain ⟨s69, s70, s71, s72, s73, s74, s75, s76, h⟩ := h; obtain ⟨s77, h⟩ := h
    obtain ⟨ha, hC, hP, g⟩ := h; subst ha
    obtain rfl := hP.get 6 rfl (hw 6 (by kernel_rfl))
    go_simp
    refine hK.out _ _ ((hI _ _ _).2 ⟨_, _, _, _, _, _, _, _, _, rfl, hC, hP.put 7 rfl rfl rfl, g⟩)
  · intro l a W hl hw hsh hI' K hK
    have h := (hI _ _ _).1 hI'; clear hI'; obtain ⟨s69, s70, s71, s72, s73, s74, s75, s76, h⟩ := h; obtain ⟨s77, h⟩ := h
    obtain ⟨ha, hC, hP, g⟩ := h; subst ha
    go_simp
    refine hK.out _ _ ((hI _ _ _).2 ⟨_, _, _, _, _, _, _, _, _, rfl, hC, hP.put 8 rfl rfl rfl, g⟩)
  · intro l a W hl hw hsh hI' K hK
    have h := (hI _ _ _).1 hI'; clear hI'; obtain ⟨s69, s70, s71, s72, s73, s74, s75, s76, h⟩ := h; obtain ⟨s77, h⟩ := h
    obtain ⟨ha, hC, hP, g⟩ := h; subst ha
    obtain rfl := hP.get 7 rfl (hw 7 (by kernel_rfl))
    obtain rfl := hP.get 8 rfl (hw 8 (by kernel_rfl))
    have x1 := (g.1 hl).cell 1
    have x2 := (g.1 hl).frozen 1
    go_simp
    refine hK.out _ _ ((hI _ _ _).2 ⟨_, _, _, _, _, _, _, _, _, rfl, h0.out.off hC (g.1 hl) 1 _, hP.skip 9 rfl, ⟨fun h => off h.symm, fun _ => (g.1 hl).set 1 _⟩⟩)
  · intro a W hI'
    have h := (hI _ _ _).1 hI'; clear hI'; obtain ⟨s69, s70, s71, s72, s73, s74, s75, s76, h⟩ := h; obtain ⟨s77, h⟩ := h
    obtain ⟨ha, hC, hP, g⟩ := h; subst ha
    exact hQ.out _ _ _ _ _ _ _ _ _ _ (h0.out.join hC (g.2 (by kernel_rfl)))
end Go.Proofs.YtcmomjnailihpaaGreatDoor
