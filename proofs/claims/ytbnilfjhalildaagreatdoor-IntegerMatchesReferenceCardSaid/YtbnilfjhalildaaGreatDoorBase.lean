/- Memory predicates for slices of integers, and small lemmas on worlds (no program). -/
import Derived.WalkKit
import Derived.Lib.Hide
import Derived.Deep.QuietTactic
import Derived.BigQuiet
import Derived.IntWalk
namespace Go.Proofs.YtbnilfjhalildaaGreatDoor
open Go.RowKit

/-- The length in a slot that holds a slice (for a loop's measure). -/
def lenOf : Value → Nat
  | .slice _ n _ => n
  | _ => 0

/-- The length of a string in a slot (for a loop's measure). -/
def strLen : Value → Nat
  | .string s => s.size
  | _ => 0
/-- The place to which a slice points. -/
def _root_.Go.Value.ptr? : Value → Option (Nat × Nat)
  | .slice (some a) _ _ => some (a.block, a.off)
  | _ => none

theorem ret_int {k : IntKind} {a b : Int} (h : a = b) : Ending.returned (.int k a) = .returned (.int k b) := by rw [h]
theorem ret_bool {a b : Bool} (h : a = b) : Ending.returned (.bool a) = .returned (.bool b) := by rw [h]
theorem ret_val {a b : Value} (h : a = b) : Ending.returned a = .returned b := by rw [h]

/-- Element number i (0 where there is none). -/
def gi (xs : List Int) (i : Nat) : Int := xs[i]?.getD 0
theorem gi_lt {xs : List Int} {i : Nat} (h : i < xs.length) : gi xs i = xs[i] := by simp [gi, h]
theorem gi_ge {xs : List Int} {i : Nat} (h : xs.length ≤ i) : gi xs i = 0 := by simp [gi, h]
theorem gi_take {xs : List Int} {i k : Nat} (h : i < k) : gi (xs.take k) i = gi xs i := by simp [gi, h]

/-- The slice value v reads as the integers xs: nil, or cells in a block that lies in w. -/
def Sl (w : World) (v : Value) (xs : List Int) : Prop :=
  (v = .slice none 0 0 ∧ xs = []) ∨ ∃ b off cap, v = .slice (some ⟨b, off, none⟩) xs.length cap ∧ xs.length ≤ cap ∧ cap ≤ maxLen ∧ b < w.heap.size ∧
    ∀ j, j < xs.length → w.cell? ⟨b, off + j, none⟩ = some (.int .i64 (gi xs j))

theorem Sl.nil (w : World) : Sl w (.slice none 0 0) [] := .inl ⟨rfl, rfl⟩

theorem Sl.shape {w : World} {v : Value} {xs : List Int} (h : Sl w v xs) : ∃ a cap, v = .slice a xs.length cap := by
  rcases h with ⟨rfl, rfl⟩ | ⟨b, off, cap, rfl, _⟩
  · exact ⟨_, _, rfl⟩
  · exact ⟨_, _, rfl⟩

theorem Sl.below {w w' : World} {v : Value} {xs : List Int} (h : Sl w v xs) (hb : Below w.heap.size w w') : Sl w' v xs := by
  rcases h with h | ⟨b, off, cap, rfl, h1, h2, h3, h4⟩
  · exact .inl h
  · exact .inr ⟨b, off, cap, rfl, h1, h2, Nat.lt_of_lt_of_le h3 hb.size, fun j hj => (hb.cell (p := ⟨b, off + j, none⟩) h3).trans (h4 j hj)⟩

theorem Sl.len_le {w : World} {v : Value} {xs : List Int} (h : Sl w v xs) : xs.length ≤ maxLen := by
  rcases h with ⟨_, rfl⟩ | ⟨_, _, _, _, h1, h2, _⟩
  · simp
  · exact Nat.le_trans h1 h2

/-- An owned row of integers reads as a slice. -/
theorem Sl.of_own {w : World} {base : Nat} {e : TypeId} {v : Value} {n : Nat} {xs : List Int} (h : w.ownsRow base e 1 v n (xs.map (Value.int .i64))) : Sl w v xs := by
  have hl : n = xs.length := by have := h.1; simpa using this.symm
  subst hl
  rcases h.2 with ⟨rfl, h0⟩ | ⟨g, cap, cur, rfl, hb, hg, hn, hm, hs, ht⟩
  · exact .inl ⟨rfl, List.eq_nil_of_length_eq_zero h0⟩
  · refine .inr ⟨g, 0, cap, rfl, hn, hm, (Array.getElem?_eq_some_iff.1 hg).1, fun j hj => ?_⟩
    have hc := h.cells (g := g) rfl j (.int .i64 (gi xs j)) (by simp [gi_lt hj, List.getElem?_map, List.getElem?_eq_getElem hj])
    have hadd : (⟨g, 0, none⟩ : Addr).add j = ⟨g, 0 + j, none⟩ := by unfold Addr.add; split <;> simp_all
    rw [hadd] at hc
    exact hc

/-- A prefix of a slice, as Go's s[:k] makes it. -/
theorem Sl.take {w : World} {b off cap : Nat} {xs : List Int} (k : Nat) (hk : k ≤ xs.length) (h1 : xs.length ≤ cap) (h2 : cap ≤ maxLen) (h3 : b < w.heap.size)
    (h4 : ∀ j, j < xs.length → w.cell? ⟨b, off + j, none⟩ = some (.int .i64 (gi xs j))) : Sl w (.slice (some ⟨b, off, none⟩) k cap) (xs.take k) := by
  refine .inr ⟨b, off, cap, by simp [Nat.min_eq_left hk], by simp; omega, h2, h3, fun j hj => ?_⟩
  have hj' : j < k := by simp at hj; omega
  rw [h4 j (by omega), gi_take hj']

theorem below_drewN (w : World) (n : Nat) : Below w.heap.size w (w.drewN n) := ⟨rfl, rfl, rfl, Nat.le_refl _, fun _ _ => rfl⟩
theorem Sl.drewN {w : World} {v : Value} {xs : List Int} (h : Sl w v xs) (n : Nat) : Sl (w.drewN n) v xs := h.below (below_drewN w n)

theorem below_grownBy {w w' : World} (h : Below w.heap.size w w') : w.grownBy w' none := ⟨h.os, h.tape, h.output, h.size, fun k hk _ => h.block k hk⟩
theorem own_below {w w' : World} {base : Nat} {e : TypeId} {size : Nat} {v : Value} {n : Nat} {xs : List Value} (h : w.ownsRow base e size v n xs) (hb : Below w.heap.size w w') : w'.ownsRow base e size v n xs :=
  h.kept (below_grownBy hb) (by cases v.ownBlock <;> simp)

/-- Block B holds the cells cs. -/
def Blk (W : World) (B : Nat) (cs : Array Value) (t : TypeId) : Prop := W.heap[B]? = some (.cells cs t (0, 0))
theorem Blk.lt {W : World} {B : Nat} {cs : Array Value} {t : TypeId} (h : Blk W B cs t) : B < W.heap.size := (Array.getElem?_eq_some_iff.1 h).1
theorem Blk.new (W : World) (cs : Array Value) (t : TypeId) : Blk (W.alloc (.cells cs t)) W.heap.size cs t := heap_alloc_new W _
theorem Blk.kept {W W' : World} {row : Option Nat} {B : Nat} {cs : Array Value} {t : TypeId} (h : Blk W B cs t) (hg : W.grownBy W' row) (hne : some B ≠ row) : Blk W' B cs t := (hg.block B h.lt hne).trans h
theorem Blk.below {W W' : World} {B : Nat} {cs : Array Value} {t : TypeId} (h : Blk W B cs t) (hb : Below W.heap.size W W') : Blk W' B cs t := (hb.block B h.lt).trans h
theorem Blk.alloc {W : World} {B : Nat} {cs : Array Value} {t : TypeId} (h : Blk W B cs t) (o : Obj) : Blk (W.alloc o) B cs t := h.below ((Below.refl _ W).alloc (Nat.le_refl _) o)
theorem Blk.cell {W : World} {B : Nat} {cs : Array Value} {t : TypeId} (h : Blk W B cs t) (i : Nat) : W.cell? ⟨B, i, none⟩ = cs[i]? := by simp [World.cell?, show W.heap[B]? = _ from h]
theorem Blk.frozen {W : World} {B : Nat} {cs : Array Value} {t : TypeId} (h : Blk W B cs t) (i : Nat) : W.frozen? ⟨B, i, none⟩ = false := by simp [World.frozen?, show W.heap[B]? = _ from h]
theorem Blk.set {W : World} {B : Nat} {cs : Array Value} {t : TypeId} (h : Blk W B cs t) (i : Nat) (v : Value) : Blk (W.setCell ⟨B, i, none⟩ v) B (cs.setIfInBounds i v) t := heap_setCell_same W B i cs t v h
/-- A slice's own row is no block of another type. -/
theorem Blk.not_row {W : World} {B : Nat} {cs : Array Value} {t e : TypeId} (h : Blk W B cs t) (hte : t ≠ e) {base size k : Nat} {v : Value} {xs : List Value} (hr : W.ownsRow base e size v k xs) : some B ≠ v.ownBlock := by
  rcases hr.2 with ⟨rfl, _⟩ | ⟨g, cap, cur, rfl, _, hgb, _⟩
  · simp [Value.ownBlock]
  · intro e'
    obtain rfl : B = g := by simpa [Value.ownBlock] using e'
    have := (show W.heap[B]? = _ from h).symm.trans hgb
    simp at this
    exact hte this.2
theorem grown_setCell (W : World) (b i : Nat) (v : Value) : W.grownBy (W.setCell ⟨b, i, none⟩ v) (some b) :=
  ⟨rfl, rfl, rfl, by simp [World.setCell], fun k _ hk => Below.heap_setCell _ _ _ k (fun e => hk (by rw [e]))⟩

/-- Of what lay in w at most the blocks of S have turned. -/
structure Only (S : List Nat) (w w' : World) : Prop where
  os : w'.os = w.os
  tape : w'.tape = w.tape
  output : w'.output = w.output
  size : w.heap.size ≤ w'.heap.size
  block : ∀ k, k < w.heap.size → k ∉ S → w'.heap[k]? = w.heap[k]?

theorem Only.refl (S : List Nat) (w : World) : Only S w w := ⟨rfl, rfl, rfl, Nat.le_refl _, fun _ _ _ => rfl⟩
theorem Only.trans {S : List Nat} {a b c : World} (h : Only S a b) (k : Only S b c) : Only S a c :=
  ⟨k.os.trans h.os, k.tape.trans h.tape, k.output.trans h.output, Nat.le_trans h.size k.size, fun i hi hs => (k.block i (Nat.lt_of_lt_of_le hi h.size) hs).trans (h.block i hi hs)⟩
theorem Only.of_below {S : List Nat} {w w' : World} (h : Below w.heap.size w w') : Only S w w' := ⟨h.os, h.tape, h.output, h.size, fun k hk _ => h.block k hk⟩
theorem Only.below {S : List Nat} {a b c : World} (h : Only S a b) (k : Below b.heap.size b c) : Only S a c := h.trans (.of_below k)
theorem Only.drewN {S : List Nat} {a b : World} (h : Only S a b) (n : Nat) : Only S a (b.drewN n) := h.below (below_drewN b n)
theorem Only.alloc {S : List Nat} {a b : World} (h : Only S a b) (o : Obj) : Only S a (b.alloc o) := h.below ((Below.refl _ b).alloc (Nat.le_refl _) o)
theorem Only.setCell {S : List Nat} {a b : World} (h : Only S a b) {p : Addr} (hp : p.block ∈ S) (u : Value) : Only S a (b.setCell p u) :=
  h.trans ⟨rfl, rfl, rfl, by simp [World.setCell], fun k _ hs => Below.heap_setCell _ _ _ _ (fun e => hs (e ▸ hp))⟩
/-- A store into a block that has come since. -/
theorem Only.setNew {S : List Nat} {a b : World} (h : Only S a b) {p : Addr} (hp : a.heap.size ≤ p.block) (u : Value) : Only S a (b.setCell p u) :=
  ⟨h.os, h.tape, h.output, Nat.le_trans h.size (by simp [World.setCell]), fun k hk hs => (Below.heap_setCell _ _ _ _ (by omega)).trans (h.block k hk hs)⟩
/-- What lay below B has not turned, if the blocks of S lie from B on. -/
theorem Only.toBelow {S : List Nat} {B : Nat} {w w' : World} (h : Only S w w') (hB : B ≤ w.heap.size) (hS : ∀ k ∈ S, B ≤ k) : Below B w w' :=
  ⟨h.os, h.tape, h.output, h.size, fun k hk => h.block k (by omega) (fun hs => by have := hS k hs; omega)⟩
theorem Only.cell {S : List Nat} {w w' : World} (h : Only S w w') {p : Addr} (hp : p.block < w.heap.size) (hs : p.block ∉ S) : w'.cell? p = w.cell? p := World.cell?_of_block (w := w) (h.block p.block hp hs)
theorem Only.frozen {S : List Nat} {w w' : World} (h : Only S w w') {p : Addr} (hp : p.block < w.heap.size) (hs : p.block ∉ S) : w'.frozen? p = w.frozen? p := World.frozen?_of_block (w := w) (h.block p.block hp hs)
theorem Only.trans' {S : List Nat} {a b c : World} {r : Nat} (h : Only S a b) (hr : a.heap.size ≤ r) (hg : b.grownBy c (some r)) : Only S a c :=
  ⟨hg.os.trans h.os, hg.tape.trans h.tape, hg.output.trans h.output, Nat.le_trans h.size hg.size, fun k hk hs => (hg.block k (Nat.lt_of_lt_of_le hk h.size) (fun e => by cases e; omega)).trans (h.block k hk hs)⟩
theorem Only.mono {S T : List Nat} {w w' : World} (h : Only S w w') (hs : ∀ k ∈ S, k ∈ T) : Only T w w' := ⟨h.os, h.tape, h.output, h.size, fun k hk ht => h.block k hk (fun e => ht (hs k e))⟩
theorem Sl.only {S : List Nat} {w w' : World} {v : Value} {xs : List Int} (h : Sl w v xs) (ho : Only S w w') (hs : ∀ b o, v.ptr? = some (b, o) → b ∉ S) : Sl w' v xs := by
  rcases h with h | ⟨b, off, cap, rfl, h1, h2, h3, h4⟩
  · exact .inl h
  · exact .inr ⟨b, off, cap, rfl, h1, h2, Nat.lt_of_lt_of_le h3 ho.size, fun j hj => (ho.cell (p := ⟨b, off + j, none⟩) h3 (hs b off rfl)).trans (h4 j hj)⟩
theorem Sl.ptr_lt {w : World} {v : Value} {xs : List Int} (h : Sl w v xs) : ∀ b o, v.ptr? = some (b, o) → b < w.heap.size := by
  intro b o e
  rcases h with ⟨rfl, _⟩ | ⟨b', off, cap, rfl, h1, h2, h3, h4⟩
  · cases e
  · cases e; exact h3

/-- The slice points to nothing that lay in w. -/
def Fresh (w : World) (v : Value) : Prop := ∀ b o, v.ptr? = some (b, o) → w.heap.size ≤ b
theorem Fresh.of_own {w w' : World} {base : Nat} {e : TypeId} {size : Nat} {v : Value} {n : Nat} {xs : List Value} (h : w'.ownsRow base e size v n xs) (hb : w.heap.size ≤ base) : Fresh w v := by
  intro b o hp
  rcases h.2 with ⟨rfl, _⟩ | ⟨g, cap, cur, rfl, hg, _⟩
  · cases hp
  · cases hp; exact Nat.le_trans hb hg
theorem Fresh.of_ptr {w : World} {v u : Value} (h : Fresh w v) (hp : u.ptr? = v.ptr?) : Fresh w u := fun b o e => h b o (hp ▸ e)
theorem Fresh.mono {w w' : World} {v : Value} (h : Fresh w' v) (hs : w.heap.size ≤ w'.heap.size) : Fresh w v := fun b o e => Nat.le_trans hs (h b o e)

/-- A store into a block that holds no integer turns no slice of integers. -/
theorem Sl.setBlk {W : World} {v : Value} {xs : List Int} (h : Sl W v xs) {B : Nat} {cs : Array Value} {t : TypeId} (hb : Blk W B cs t) (hu : ∀ (j : Nat) n, cs[j]? ≠ some (.int .i64 n)) (i : Nat) (u' : Value) : Sl (W.setCell ⟨B, i, none⟩ u') v xs := by
  rcases h with h | ⟨b, off, cap, rfl, h1, h2, h3, h4⟩
  · exact .inl h
  · refine .inr ⟨b, off, cap, rfl, h1, h2, by simp [World.setCell]; exact h3, fun j hj => ?_⟩
    have hc := h4 j hj
    by_cases e : b = B
    · subst e
      rw [hb.cell] at hc
      exact absurd hc (hu _ _)
    · rw [← hc]; exact World.cell?_of_block (w := W) (Below.heap_setCell W ⟨B, i, none⟩ u' b e)
/-- No integer among the two cells of a signed number. -/
theorem no_int2 (b : Bool) (v : Value) (hv : ∀ n, v ≠ .int .i64 n) : ∀ (j : Nat) n, (#[.bool b, v] : Array Value)[j]? ≠ some (.int .i64 n) := by
  intro j n
  match j with
  | 0 => simp
  | 1 => simp; exact hv n
  | j + 2 => simp

/-- What a call returns: a value of which Post holds in the world that it leaves; nothing that was there has turned. -/
def Gives (w : World) (Post : Value → World → Prop) : Ending → World → Prop := fun e w' => (∃ v, e = .returned v ∧ Post v w') ∧ Below w.heap.size w w'

end Go.Proofs.YtbnilfjhalildaaGreatDoor
