/- RgK, SnB -/
import Derived.Test.YtcmomjnailihpaaGreatDoorXLcN
set_option maxHeartbeats 8000000
set_option maxRecDepth 100000
namespace Go.Proofs.YtcmomjnailihpaaGreatDoor
section
open Go.RowKit
section
variable {P : Program} {ops : Array Oper} {Q : Exit → Act → World → Prop} {l : Nat → Bool} {a : Act} {W W' : World}
def bitsL : List Edge → Nat → Nat
 | [], m => m
 | e :: es, m => bitsL es (if Region.binds .any e then m ||| 2 ^ e.on else m)
def bitsOf (ops : Array Oper) (k : Nat) : Nat := match ops[k]? with
 | some o => bitsL o.after.toList 0
 | none => 0
def ancs (ops : Array Oper) : Nat → Nat → Nat
 | 0, m => m
 | k + 1, m => ancs ops k (if m.testBit k then m ||| bitsOf ops k else m)
def anc (ops : Array Oper) (j : Nat) : Nat := ancs ops j (bitsOf ops j)
theorem I2 : ∀ (es : List Edge) (m n : Nat), (bitsL es m).testBit n = true → m.testBit n = true ∨ ∃ e ∈ es, Region.binds .any e = true ∧ e.on = n
 | [], m, n, h => .inl h
 | e :: es, m, n, h => by
  rcases I2 es _ n h with h1 | ⟨e', h1, h2⟩
  ·by_cases hb : Region.binds .any e = true
   ·rw [if_pos hb, Nat.testBit_or, Nat.testBit_two_pow] at h1
    rcases Bool.or_eq_true_iff.1 h1 with h3 | h3
    ·exact .inl h3
    ·exact .inr ⟨e, List.mem_cons_self, hb, of_decide_eq_true h3⟩
   ·rw [if_neg hb] at h1; exact .inl h1
  ·exact .inr ⟨e', List.mem_cons_of_mem _ h1, h2⟩
theorem CT {k n : Nat} (h : (bitsOf ops k).testBit n = true) : ∃ o, ops[k]? = some o ∧ waits o n = true := by
 unfold bitsOf at h
 cases ho : ops[k]? with
 | none => rw [ho] at h; simp at h
 | some o =>
  rw [ho] at h
  rcases I2 _ _ _ h with h1 | ⟨e, h1, h2, h3⟩
  ·simp at h1
  ·exact ⟨o, rfl, Array.any_eq_true'.2 ⟨e, by simpa using h1, by simp [h2, h3]⟩⟩
theorem E9 (hsh : ShutL ops l) : ∀ (k m : Nat), (∀ n, m.testBit n = true → l n = true) → ∀ n, (ancs ops k m).testBit n = true → l n = true
 | 0, _, h, n, hn => h n hn
 | k + 1, m, h, n, hn => by
  refine E9 hsh k _ (fun j hj => ?_) n hn
  by_cases hk : m.testBit k = true
  ·rw [if_pos hk, Nat.testBit_or] at hj
   rcases Bool.or_eq_true_iff.1 hj with h1 | h1
   ·exact h j h1
   ·obtain ⟨o, ho, hw⟩ := CT h1
    exact hsh k j o ho (h k hk) hw
  ·rw [if_neg hk] at hj; exact h j hj
theorem JB {i j : Nat} {o : Oper} (hsh : ShutL ops l) (ho : ops[i]? = some o) (hw : ∀ n, waits o n = true → l n = true) (hj : (anc ops i).testBit j = true) : l j = true :=
 E9 hsh i _ (fun n hn => by
  obtain ⟨o', ho', h⟩ := CT hn
  rw [ho] at ho'
  obtain rfl := Option.some.inj ho'
  exact hw n h) j hj
theorem CB {i j : Nat} (hsh : ShutL ops l) (hl : l i = false) (hj : (anc ops j).testBit i = true) : l j = false := by
 cases hc : l j with
 | false => rfl
 | true =>
  have := E9 hsh j _ (fun n hn => by
   obtain ⟨o, ho, h⟩ := CT hn
   exact hsh j n o ho hc h) i hj
  rw [hl] at this; cases this
def phase (l : Nat → Bool) : List Nat → Nat
 | [] => 0
 | e :: es => if l e then phase l es + 1 else 0
theorem En {l l' : Nat → Bool} : ∀ {es : List Nat}, (∀ e ∈ es, l e = l' e) → phase l es = phase l' es
 | [], _ => rfl
 | e :: es, h => by
  unfold phase
  rw [h e List.mem_cons_self, En fun e' he => h e' (List.mem_cons_of_mem _ he)]
theorem Fb : ∀ {es : List Nat} {k : Nat}, k ≤ es.length → (∀ e ∈ es.take k, l e = true) → k ≤ phase l es
 | _, 0, _, _ => Nat.zero_le _
 | [], k + 1, hk, _ => by simp at hk
 | e :: es, k + 1, hk, h => by
  unfold phase
  rw [if_pos (h e (by simp))]
  exact Nat.succ_le_succ (Fb (by simpa using hk) fun e' he => h e' (by simp [he]))
theorem Cb : ∀ {es : List Nat} {k e : Nat}, es[k]? = some e → l e = false → phase l es ≤ k
 | [], k, _, h, _ => by simp at h
 | x :: es, 0, e, h, hl => by
  simp at h; subst h
  unfold phase; rw [if_neg (by simp [hl])]; exact Aa _
 | x :: es, k + 1, e, h, hl => by
  unfold phase
  split
  ·exact Nat.succ_le_succ (Cb (by simpa using h) hl)
  ·exact Nat.zero_le _
theorem Ea : ∀ {es : List Nat}, phase l es ≤ es.length
 | [] => Aa _
 | x :: es => by
  unfold phase
  split
  ·exact Nat.succ_le_succ Ea
  ·exact Nat.zero_le _
def preB (ops : Array Oper) (es : List Nat) (k i : Nat) : Bool := decide (k ≤ es.length) && (es.take k).all fun e => (anc ops i).testBit e
def postB (ops : Array Oper) (es : List Nat) (k i : Nat) : Bool := match es[k]? with
 | some e => (e == i) || (anc ops e).testBit i
 | none => es.length == k
theorem GD {es : List Nat} {k i : Nat} {o : Oper} (hsh : ShutL ops l) (ho : ops[i]? = some o) (hw : ∀ n, waits o n = true → l n = true) (h : preB ops es k i = true) : k ≤ phase l es := by
 unfold preB at h
 rw [Bool.and_eq_true, List.all_eq_true] at h
 exact Fb (of_decide_eq_true h.1) fun e he => JB hsh ho hw (h.2 e he)
theorem JC {es : List Nat} {k i : Nat} (hsh : ShutL ops l) (hl : l i = false) (h : postB ops es k i = true) : phase l es ≤ k := by
 unfold postB at h
 split at h
 ·rename_i e he
  refine Cb he ?_
  rcases Bool.or_eq_true_iff.1 h with h1 | h1
  ·rw [beq_iff_eq.1 h1]; exact hl
  ·exact CB hsh hl h1
 ·rw [← beq_iff_eq.1 h]; exact Ea
theorem Eb {es : List Nat} {k i : Nat} (hk : es[k]? = some i) (h1 : phase l es = k) (hn : postB ops es (k + 1) i = true) (hsh : ShutL ops l) (hl : l i = false) (hd : nodupB es = true) : phase (set1 l i) es = k + 1 := by
 have hlen : k < es.length := (List.getElem?_eq_some_iff.1 hk).1
 have hnd := D0 hd
 refine Nat.le_antisymm ?_ (Fb hlen fun e he => ?_)
 ·unfold postB at hn
  split at hn
  ·rename_i e he
   refine Cb he ?_
   have hne : e ≠ i := fun e' => by
    subst e'
    have := (List.getElem?_inj hlen hnd).1 (hk.trans he.symm)
    omega
   rcases Bool.or_eq_true_iff.1 hn with h3 | h3
   ·exact absurd (beq_iff_eq.1 h3) hne
   ·exact HY (CB hsh hl h3) hne
  ·rw [← beq_iff_eq.1 hn]; exact Ea
 ·obtain ⟨j, hj⟩ := List.mem_iff_getElem?.1 he
  rw [List.getElem?_take] at hj
  split at hj
  ·rename_i hjk
   by_cases hji : j = k
   ·subst hji; rw [hk] at hj; obtain rfl := Option.some.inj hj; simp [set1]
   ·have : l e = true := by
     cases hc : l e with
     | true => rfl
     | false => have := Cb hj hc; omega
    unfold set1; split
    ·rfl
    ·exact this
  ·cases hj
def At (SL : List (World → Prop)) (k : Nat) (W : World) : Prop := match SL[k]? with
 | some p => p W
 | none => False
structure Rg (N : Nat) (us : List Value) (ds : List Nat) (F : FL) (M : ML) (es : List Nat) (C : World → Prop) (SL : List (World → Prop)) (l : Nat → Bool) (a : Act) (W : World) : Prop where
 f : Fr us.toArray ds a
 n : us.length = N
 v : Vals F l a
 m : Mems M l a W
 c : C W
 s : At SL (phase l es) W
def okFr (N : Nat) (ds : List Nat) (M : ML) : Nat → FL → Bool
 | _, [] => true
 | i, none :: F => okFr N ds M (i + 1) F
 | i, some (d, _) :: F => ds.contains d && decide (d < N) && ((mops M).contains i || !(mslots M).contains d) && okFr N ds M (i + 1) F
theorem D9 {N : Nat} {ds : List Nat} {M : ML} : ∀ {F : FL} {i j d : Nat} {v : Value}, okFr N ds M i F = true → F[j]? = some (some (d, v)) → ds.contains d = true ∧ d < N ∧ ((mops M).contains (i + j) = false → (mslots M).contains d = false)
 | [], _, _, _, _, _, h => by simp at h
 | none :: F, i, 0, _, _, _, h => by simp at h
 | none :: F, i, j + 1, d, v, h, hj => by
  have := D9 (i := i + 1) (j := j) h (by simpa using hj)
  rwa [show i + 1 + j = i + (j + 1) by omega] at this
 | some x :: F, i, 0, d, v, h, hj => by
  simp at hj; subst hj
  simp only [okFr, Bool.and_eq_true, Bool.or_eq_true, Bool.not_eq_true', decide_eq_true_eq] at h
  exact ⟨h.1.1.1, h.1.1.2, fun e => h.1.2.resolve_left (by rw [show i = i + 0 from rfl, e]; decide)⟩
 | some x :: F, i, j + 1, d, v, h, hj => by
  simp only [okFr, Bool.and_eq_true] at h
  have := D9 (i := i + 1) (j := j) h.2 (by simpa using hj)
  rwa [show i + 1 + j = i + (j + 1) by omega] at this
structure RgS {Γ : Type} (N : Nat) (ds ms : List Nat) (F : Γ → FL) (M : Γ → ML) (C : World → Prop) (SL : Γ → List (World → Prop)) : Prop where
 k : ∀ g, (nodupB (slots (F g)) && okFr N ds (M g) 0 (F g) && nodupB (mops (M g)) && nodupB (mslots (M g))) = true
 ms : ∀ g, mops (M g) = ms
 c : ∀ W W', Below W.heap.size W W' → C W → C W'
 m : ∀ g, MStable (M g)
 s : ∀ g, ∀ p ∈ SL g, ∀ W W', Below W.heap.size W W' → p W → p W'
theorem Ec {es : List Nat} {i : Nat} (h : es.contains i = false) : phase (set1 l i) es = phase l es := En fun e he => by
 unfold set1
 by_cases hc : e = i
 ·subst hc; rw [List.contains_iff_mem.2 he] at h; cases h
 ·rw [if_neg hc]
section
variable {Γ : Type} {N : Nat} {us : List Value} {ds ms : List Nat} {F : Γ → FL} {M : Γ → ML} {es : List Nat} {C : World → Prop} {SL : Γ → List (World → Prop)} {g : Γ}
theorem Rg.world (h : Rg N us ds (F g) (M g) es C (SL g) l a W) (St : RgS N ds ms F M C SL) (hb : Below W.heap.size W W') : Rg N us ds (F g) (M g) es C (SL g) l a W' := by
 refine ⟨h.f, h.n, h.v, h.m.world (St.m g) hb, St.c _ _ hb h.c, ?_⟩
 have := h.s
 unfold At at this ⊢
 split at this
 ·rename_i p hp; exact St.s g p (List.mem_of_getElem? hp) _ _ hb this
 ·exact this.elim
theorem RgS.parts (St : RgS N ds ms F M C SL) (g : Γ) : (slots (F g)).Nodup ∧ okFr N ds (M g) 0 (F g) = true ∧ (mops (M g)).Nodup ∧ (mslots (M g)).Nodup := by
 have := St.k g
 simp only [Bool.and_eq_true] at this
 exact ⟨D0 this.1.1.1, this.1.1.2, D0 this.1.2, D0 this.2⟩
theorem Rg.val (h : Rg N us ds (F g) (M g) es C (SL g) l a W) (St : RgS N ds ms F M C SL) {i d : Nat} {v : Value} (hi : (F g)[i]? = some (some (d, v))) (he : es.contains i = false) (h4 : ms.contains i = false) : Rg N us ds (F g) (M g) es C (SL g) (set1 l i) (a.put (some d) v) W := by
 obtain ⟨k1, k2, _, _⟩ := St.parts g
 obtain ⟨h2, h3, h5⟩ := D9 k2 hi
 rw [Nat.zero_add, St.ms g] at h5
 rw [← St.ms g] at h4
 have h5 := h5 (by rw [← St.ms g]; exact h4)
 refine ⟨h.f.put d _ h2, h.n, h.v.put k1 i hi (by rw [h.f.size, List.size_toArray, h.n]; exact h3), h.m.put i d _ h4 h5, h.c, ?_⟩
 rw [Ec he]; exact h.s
theorem Rg.x (h : Rg N us ds (F g) (M g) es C (SL g) l a W) {o : Oper} (j : Nat) (hw : ∀ n, waits o n = true → l n = true) {d : Nat} {v : Value} (hj : (F g)[j]? = some (some (d, v))) (hj' : waits o j = true := by kernel_rfl) : a.tmps[d]? = some v := h.v.get j hj (hw j hj')
theorem Rg.u (h : Rg N us ds (F g) (M g) es C (SL g) l a W) {n : Nat} {v : Value} (hv : us[n]? = some v) (hn : ds.contains n = false := by kernel_rfl) : a.tmps[n]? = some v := h.f.atl n hv hn
theorem Rg.y (h : Rg N us ds (F g) (M g) es C (SL g) l a W) {o : Oper} {i : Nat} (k : Nat) (hl : l i = false) (hw : ∀ n, waits o n = true → l n = true) (hsh : ShutL ops l) {j d : Nat} {e : Option Nat} {p : Value → World → Prop} (hk : (M g)[k]? = some (j, d, p, e)) (hj : waits o j = true := by kernel_rfl) (he : (match e with
 | none => true
 | some e => e == i || (anc ops e).testBit i) = true := by kernel_rfl) : ∃ v, a.tmps[d]? = some v ∧ p v W := by
 refine h.m.get k hk (hw j hj) ?_
 cases e with
 | none => rfl
 | some e =>
  refine live_of ?_
  rcases Bool.or_eq_true_iff.1 he with h1 | h1
  ·rw [beq_iff_eq.1 h1]; exact hl
  ·exact CB hsh hl h1
def Each (SL : List (World → Prop)) (W : World) (p : Prop) : Nat → Nat → Prop
 | lo, 0 => At SL lo W → p
 | lo, n + 1 => (At SL lo W → p) ∧ Each SL W p (lo + 1) n
theorem JD {SL : List (World → Prop)} {p : Prop} : ∀ {n lo k : Nat}, Each SL W p lo n → lo ≤ k → k ≤ lo + n → At SL k W → p
 | 0, lo, k, h, h1, h2, hk => by
  obtain rfl : k = lo := by omega
  exact h hk
 | n + 1, lo, k, h, h1, h2, hk => by
  by_cases e : k = lo
  ·subst e; exact h.1 hk
  ·exact JD h.2 (by omega) (by omega) hk
theorem Rg.ld (h : Rg N us ds (F g) (M g) es C (SL g) l a W) {o : Oper} (i lo n : Nat) (hl : l i = false) (hw : ∀ n, waits o n = true → l n = true) (hsh : ShutL ops l) (ho : ops[i]? = some o) (hc : (preB ops es lo i && postB ops es (lo + n) i) = true) {p : Prop} (hp : Each (SL g) W p lo n) : p := by
 rw [Bool.and_eq_true] at hc
 exact JD hp (GD hsh ho hw hc.1) (JC hsh hl hc.2) h.s
def Iv (N : Nat) (us : List Value) (ds : List Nat) (F : Γ → FL) (M : Γ → ML) (es : List Nat) (C : World → Prop) (SL : Γ → List (World → Prop)) (l : Nat → Bool) (a : Act) (W : World) : Prop := ∃ g, Rg N us ds (F g) (M g) es C (SL g) l a W
def plainB (o : Oper) (es ms : List Nat) (i : Nat) : Bool := o.guard.isNone && !es.contains i && !ms.contains i
theorem CC {o : Oper} {es ms : List Nat} {i : Nat} (h : plainB o es ms i = true) : o.guard = none ∧ es.contains i = false ∧ ms.contains i = false := by
 unfold plainB at h
 rw [Bool.and_eq_true, Bool.and_eq_true, Bool.not_eq_true', Bool.not_eq_true', Option.isNone_iff_eq_none] at h
 exact ⟨h.1.1, h.1.2, h.2⟩
theorem D1 {o : Oper} {y : Nat → Option Bool} (h : o.guard = none) : Region.wanted o y = true := by unfold Region.wanted; rw [h]
variable {o : Oper}
def Wn (ops : Array Oper) (F : Γ → FL) (o : Oper) : Prop := o.guard = none ∨ ∃ (j e : Nat) (b : Bool), o.guard = some (j, b) ∧ (ops[j]?).bind (·.dst) = some e ∧ waits o j = true ∧ ∀ g, (F g)[j]? = some (some (e, .bool b))
theorem Wn.is (h : Wn ops F o) (hw : ∀ n, waits o n = true → l n = true) (z : Rg N us ds (F g) (M g) es C (SL g) l a W) : Region.wanted o (yielded ops a.tmps) = true := by
 rcases h with h | ⟨j, e, b, h1, h2, h3, h4⟩
 ·exact D1 h
 ·exact wants h1 h2 (z.v.get j (h4 g) (hw j h3))
theorem wg (j : Nat) {e : Nat} {b : Bool} (h1 : o.guard = some (j, b)) (h2 : (ops[j]?).bind (·.dst) = some e) (h3 : waits o j = true) (h4 : ∀ g, (F g)[j]? = some (some (e, .bool b))) : Wn ops F o := .inr ⟨j, e, b, h1, h2, h3, h4⟩
theorem GE {a b : List Nat} {i : Nat} (h : (a ++ b).contains i = false) : a.contains i = false ∧ b.contains i = false := by
 constructor <;>
 ·cases hc : List.contains _ i with
  | false => rfl
  | true =>
   rw [List.contains_iff_mem.2 (List.mem_append.2 (by simp only [List.contains_iff_mem] at hc; simp [hc]))] at h
   cases h
theorem stV (St : RgS N ds ms F M C SL) (i : Nat) {d : Nat} {V : Γ → Value} (h0 : plainB o es ms i = true) (hi : ∀ g, (F g)[i]? = some (some (d, V g)))
  (h : ∀ g l a W, l i = false → (∀ n, waits o n = true → l n = true) → ShutL ops l → Rg N us ds (F g) (M g) es C (SL g) l a W → ∀ K : Act → World → Prop, K (a.put (some d) (V g)) W → Oper.wp P o a W K Q) : StepI P ops Q (Iv N us ds F M es C SL) i o := fun l a W hl hw hsh ⟨g, z⟩ K hK =>
 want (D1 (CC h0).1) (h g l a W hl hw hsh z K (hK.out _ _ ⟨g, z.val St (hi g) (CC h0).2.1 (CC h0).2.2⟩))
theorem stG (St : RgS N ds ms F M C SL) (i : Nat) {d : Nat} {V : Γ → Value} (h0 : Wn ops F o) (he : (es ++ ms).contains i = false) (hi : ∀ g, (F g)[i]? = some (some (d, V g)))
  (h : ∀ g l a W, l i = false → (∀ n, waits o n = true → l n = true) → ShutL ops l → Rg N us ds (F g) (M g) es C (SL g) l a W → ∀ K : Act → World → Prop, K (a.put (some d) (V g)) W → Oper.wp P o a W K Q) : StepI P ops Q (Iv N us ds F M es C SL) i o := fun l a W hl hw hsh ⟨g, z⟩ K hK =>
 want (h0.is hw z) (h g l a W hl hw hsh z K (hK.out _ _ ⟨g, z.val St (hi g) (GE he).1 (GE he).2⟩))
theorem stC (St : RgS N ds ms F M C SL) (i : Nat) {d : Nat} {V : Γ → Value} (h0 : plainB o es ms i = true) (hi : ∀ g, (F g)[i]? = some (some (d, V g)))
  (h : ∀ g l a W, l i = false → (∀ n, waits o n = true → l n = true) → ShutL ops l → Rg N us ds (F g) (M g) es C (SL g) l a W → ∀ K : Act → World → Prop, (∀ W', Below W.heap.size W W' → K (a.put (some d) (V g)) W') → Oper.wp P o a W K Q) : StepI P ops Q (Iv N us ds F M es C SL) i o := fun l a W hl hw hsh ⟨g, z⟩ K hK =>
 want (D1 (CC h0).1) (h g l a W hl hw hsh z K fun _ hb => hK.out _ _ ⟨g, (z.world St hb).val St (hi g) (CC h0).2.1 (CC h0).2.2⟩)
theorem stH (St : RgS N ds ms F M C SL) (i : Nat) {d : Nat} {V : Γ → Value} (h0 : Wn ops F o) (he : (es ++ ms).contains i = false) (hi : ∀ g, (F g)[i]? = some (some (d, V g)))
  (h : ∀ g l a W, l i = false → (∀ n, waits o n = true → l n = true) → ShutL ops l → Rg N us ds (F g) (M g) es C (SL g) l a W → ∀ K : Act → World → Prop, (∀ W', Below W.heap.size W W' → K (a.put (some d) (V g)) W') → Oper.wp P o a W K Q) : StepI P ops Q (Iv N us ds F M es C SL) i o := fun l a W hl hw hsh ⟨g, z⟩ K hK =>
 want (h0.is hw z) (h g l a W hl hw hsh z K fun _ hb => hK.out _ _ ⟨g, (z.world St hb).val St (hi g) (GE he).1 (GE he).2⟩)
def okO (ds : List Nat) (F : FL) (es : List Nat) (i d : Nat) : Bool := (match F[i]? with
 | some none => true
 | _ => false) && !(slots F).contains d && ds.contains d && !es.contains i
theorem okO_of {ds : List Nat} {F : FL} {es : List Nat} {i d : Nat} (h : okO ds F es i d = true) : F[i]? = some none ∧ (slots F).contains d = false ∧ ds.contains d = true ∧ es.contains i = false := by
 unfold okO at h
 simp only [Bool.and_eq_true, Bool.not_eq_true'] at h
 refine ⟨?_, h.1.1.2, h.1.2, h.2⟩
 have := h.1.1.1
 split at this
 ·assumption
 ·cases this
theorem stM (St : RgS N ds ms F M C SL) (i k : Nat) {d : Nat} {e : Option Nat} {p : Γ → Value → World → Prop} (h0 : Wn ops F o) (hi : ∀ g, (M g)[k]? = some (i, d, p g, e)) (hk : ∀ g, (okO ds (F g) es i d && decide (d < N)) = true)
  (h : ∀ g l a W, l i = false → (∀ n, waits o n = true → l n = true) → ShutL ops l → Rg N us ds (F g) (M g) es C (SL g) l a W → ∀ K : Act → World → Prop, (∀ v W', Below W.heap.size W W' → p g v W' → K (a.put (some d) v) W') → Oper.wp P o a W K Q) : StepI P ops Q (Iv N us ds F M es C SL) i o := fun l a W hl hw hsh ⟨g, z⟩ K hK => by
 have h1 := hk g
 simp only [Bool.and_eq_true, decide_eq_true_eq] at h1
 obtain ⟨k1, k2, k3, k4⟩ := okO_of h1.1
 obtain ⟨_, _, k5, k6⟩ := St.parts g
 refine want (h0.is hw z) (h g l a W hl hw hsh z K fun v W' hb hp => hK.out _ _ ⟨g, ?_⟩)
 have z' := z.world St hb
 refine ⟨z'.f.put d _ k3, z'.n, z'.v.other i d _ k1 k2, z'.m.add k i (hi g) k5 k6 (by rw [z'.f.size, List.size_toArray, z'.n]; exact h1.2) hp, z'.c, ?_⟩
 rw [Ec k4]; exact z'.s
def freeB (ops : Array Oper) (i : Nat) : ML → Bool
 | [] => true
 | p :: M => (((anc ops p.1).testBit i && !(p.1 == i)) || (match p.2.2.2 with
  | none => false
  | some e => e == i || (anc ops e).testBit i == false && (anc ops i).testBit e)) && freeB ops i M
theorem Ev {i : Nat} (hl : l i = false) (hw : ∀ n, waits o n = true → l n = true) (hsh : ShutL ops l) (ho : ops[i]? = some o) : ∀ {M : ML}, freeB ops i M = true → ∀ p ∈ M, set1 l i p.1 = false ∨ live (set1 l i) p.2.2.2 = false
 | [], _, p, hp => by cases hp
 | q :: M, h, p, hp => by
  unfold freeB at h
  rw [Bool.and_eq_true] at h
  rcases List.mem_cons.1 hp with rfl | hp
  ·rcases Bool.or_eq_true_iff.1 h.1 with h1 | h1
   ·rw [Bool.and_eq_true, Bool.not_eq_true', beq_eq_false_iff_ne] at h1
    exact .inl (HY (CB hsh hl h1.1) h1.2)
   ·right
    split at h1
    ·cases h1
    ·rename_i e he
     rw [he]
     rcases Bool.or_eq_true_iff.1 h1 with h2 | h2
     ·rw [beq_iff_eq.1 h2]; exact KE _ _
     ·rw [Bool.and_eq_true] at h2
      exact LH (JB hsh ho hw h2.2)
  ·exact Ev hl hw hsh ho h.2 p hp
def patch (m : Nat) : Nat → FL → FL → FL
 | _, _, [] => []
 | i, F, y :: G => (if m.testBit i then F.headD y else y) :: patch m (i + 1) F.tail G
theorem FZ {m : Nat} : ∀ {G F : FL} {i j : Nat}, m.testBit (i + j) = false → (patch m i F G)[j]? = G[j]?
 | [], _, _, _, _ => rfl
 | y :: G, F, i, 0, h => by
  have h' : m.testBit i = false := h
  simp [patch, h']
 | y :: G, F, i, j + 1, h => by
  have := FZ (m := m) (F := F.tail) (G := G) (i := i + 1) (j := j) (by rw [← h]; congr 1; omega)
  simpa [patch] using this
def after (ops : Array Oper) (i : Nat) : Nat → Nat
 | 0 => 0
 | k + 1 => (if (k == i || (anc ops k).testBit i) = true then 2 ^ k else 0) ||| after ops i k
theorem I3 {i : Nat} : ∀ {k n : Nat}, (after ops i k).testBit n = true → n = i ∨ (anc ops n).testBit i = true
 | 0, n, h => by simp [after] at h
 | k + 1, n, h => by
  unfold after at h
  rw [Nat.testBit_or] at h
  rcases Bool.or_eq_true_iff.1 h with h1 | h1
  ·split at h1
   ·rename_i hc
    rw [Nat.testBit_two_pow] at h1
    have := of_decide_eq_true h1
    subst this
    rcases Bool.or_eq_true_iff.1 hc with h2 | h2
    ·exact .inl (beq_iff_eq.1 h2)
    ·exact .inr h2
   ·simp at h1
  ·exact I3 h1
theorem Dp {F G : FL} {i k : Nat} (h : Vals G l a) (hl : l i = false) (hsh : ShutL ops l) (hF : F = patch (after ops i k) 0 F G) : Vals F l a := h.change fun j => by
 cases hb : (after ops i k).testBit j with
 | true =>
  rcases I3 hb with rfl | h1
  ·exact .inr hl
  ·exact .inr (CB hsh hl h1)
 | false =>
  left
  rw [hF]
  exact FZ (by rw [Nat.zero_add]; exact hb)
theorem stE (i k : Nat) (h0 : Wn ops F o) (ho : ops[i]? = some o) (hk : es[k]? = some i) (hi : ∀ g, (F g)[i]? = some none) (hc : (nodupB es && preB ops es k i && postB ops es (k + 1) i) = true) (hm : ∀ g, freeB ops i (M g) = true)
  (h : ∀ g l a W, l i = false → (∀ n, waits o n = true → l n = true) → ShutL ops l → Rg N us ds (F g) (M g) es C (SL g) l a W → At (SL g) k W → ∀ K : Act → World → Prop, (∀ W', C W' → At (SL g) (k + 1) W' → K a W') → Oper.wp P o a W K Q) : StepI P ops Q (Iv N us ds F M es C SL) i o := fun l a W hl hw hsh ⟨g, z⟩ K hK => by
 simp only [Bool.and_eq_true] at hc
 have hp : phase l es = k := Nat.le_antisymm (Cb hk hl) (GD hsh ho hw hc.1.2)
 refine want (h0.is hw z) (h g l a W hl hw hsh z (hp ▸ z.s) K fun W' h1 h2 => hK.out _ _ ⟨g, z.f, z.n, z.v.skip i (hi g), Mems.free (Ev hl hw hsh ho (hm g)), h1, ?_⟩)
 rw [Eb hk hp hc.2 hsh hl hc.1.1]; exact h2
theorem stF (St : RgS N ds ms F M C SL) (i k : Nat) {d : Nat} (h0 : Wn ops F o) (ho : ops[i]? = some o) (hk : es[k]? = some i) (hc : (nodupB es && preB ops es k i && postB ops es (k + 1) i) = true) (hm : ∀ g, freeB ops i (M g) = true)
  (h : ∀ g l a W, l i = false → (∀ n, waits o n = true → l n = true) → ShutL ops l → Rg N us ds (F g) (M g) es C (SL g) l a W → At (SL g) k W → ∀ K : Act → World → Prop, (∀ g' v W', (F g')[i]? = some (some (d, v)) → F g' = patch (after ops i ops.size) 0 (F g') (F g) → C W' → At (SL g') (k + 1) W' → K (a.put (some d) v) W') → Oper.wp P o a W K Q) : StepI P ops Q (Iv N us ds F M es C SL) i o := fun l a W hl hw hsh ⟨g, z⟩ K hK => by
 simp only [Bool.and_eq_true] at hc
 have hp : phase l es = k := Nat.le_antisymm (Cb hk hl) (GD hsh ho hw hc.1.2)
 refine want (h0.is hw z) (h g l a W hl hw hsh z (hp ▸ z.s) K fun g' v W' e1 e2 h1 h2 => hK.out _ _ ⟨g', ?_⟩)
 obtain ⟨k1, k2, _, _⟩ := St.parts g'
 obtain ⟨h3, h4, _⟩ := D9 k2 e1
 refine ⟨z.f.put d _ h3, z.n, (Dp z.v hl hsh e2).put k1 i e1 (by rw [z.f.size, List.size_toArray, z.n]; exact h4), Mems.free (Ev hl hw hsh ho (hm g')), h1, ?_⟩
 rw [Eb hk hp hc.2 hsh hl hc.1.1]; exact h2
def freeS (ops : Array Oper) (i d : Nat) (qs : List Nat) : Nat → ML → Bool
 | _, [] => true
 | n, p :: M => (if qs.contains n then !(p.1 == i) && !(p.2.1 == d) else freeB ops i [p]) && freeS ops i d qs (n + 1) M
theorem I4 {i d : Nat} {qs : List Nat} : ∀ {M : ML} {n b : Nat} {r : Nat × Nat × (Value → World → Prop) × Option Nat}, freeS ops i d qs n M = true → M[b]? = some r → (n + b ∈ qs ∧ r.1 ≠ i ∧ r.2.1 ≠ d) ∨ freeB ops i [r] = true
 | [], _, _, _, _, h => by simp at h
 | p :: M, n, 0, r, h, hb => by
  simp at hb; subst hb
  unfold freeS at h
  rw [Bool.and_eq_true] at h
  by_cases hc : qs.contains n = true
  ·rw [if_pos hc] at h
   simp only [Bool.and_eq_true, Bool.not_eq_true', beq_eq_false_iff_ne] at h
   exact .inl ⟨List.contains_iff_mem.1 hc, h.1⟩
  ·rw [if_neg hc] at h; exact .inr h.1
 | p :: M, n, b + 1, r, h, hb => by
  unfold freeS at h
  rw [Bool.and_eq_true] at h
  have := I4 (n := n + 1) (b := b) h.2 (by simpa using hb)
  rwa [show n + 1 + b = n + (b + 1) by omega] at this
theorem stP (St : RgS N ds ms F M C SL) (i k : Nat) (qs : List Nat) {d : Nat} (h0 : Wn ops F o) (ho : ops[i]? = some o) (hk : es[k]? = some i) (hc : (nodupB es && preB ops es k i && postB ops es (k + 1) i) = true) (hm : ∀ g, freeS ops i d qs 0 (M g) = true)
  (h : ∀ g l a W, l i = false → (∀ n, waits o n = true → l n = true) → ShutL ops l → Rg N us ds (F g) (M g) es C (SL g) l a W → At (SL g) k W → ∀ K : Act → World → Prop, (∀ g' v W', (F g')[i]? = some (some (d, v)) → F g' = patch (after ops i ops.size) 0 (F g') (F g) → C W' → At (SL g') (k + 1) W' → (∀ q ∈ qs, ∀ r, (M g')[q]? = some r → ∃ p, (M g)[q]? = some (r.1, r.2.1, p, r.2.2.2) ∧ ∀ v, p v W → r.2.2.1 v W') → K (a.put (some d) v) W') → Oper.wp P o a W K Q) : StepI P ops Q (Iv N us ds F M es C SL) i o := fun l a W hl hw hsh ⟨g, z⟩ K hK => by
 simp only [Bool.and_eq_true] at hc
 have hp : phase l es = k := Nat.le_antisymm (Cb hk hl) (GD hsh ho hw hc.1.2)
 refine want (h0.is hw z) (h g l a W hl hw hsh z (hp ▸ z.s) K fun g' v W' e1 e2 h1 h2 hs => hK.out _ _ ⟨g', ?_⟩)
 obtain ⟨k1, k2, _, _⟩ := St.parts g'
 obtain ⟨h3, h4, _⟩ := D9 k2 e1
 refine ⟨z.f.put d _ h3, z.n, (Dp z.v hl hsh e2).put k1 i e1 (by rw [z.f.size, List.size_toArray, z.n]; exact h4), fun r hr hlr her => ?_, h1, ?_⟩
 ·obtain ⟨b, hb⟩ := List.mem_iff_getElem?.1 hr
  rcases I4 (hm g') hb with ⟨h5, h6, h7⟩ | h5
  ·rw [Nat.zero_add] at h5
   obtain ⟨p, hp', hs'⟩ := hs b h5 r hb
   have hlj : l r.1 = true := by
    have : set1 l i r.1 = true := hlr
    simpa [set1, h6] using this
   obtain ⟨u, hu, hpu⟩ := z.m.get b hp' hlj (D8 her)
   exact ⟨u, by rw [E8 (Ne.symm h7)]; exact hu, hs' u hpu⟩
  ·rcases Ev hl hw hsh ho h5 r List.mem_cons_self with h6 | h6
   ·rw [hlr] at h6; cases h6
   ·rw [her] at h6; cases h6
 ·rw [Eb hk hp hc.2 hsh hl hc.1.1]; exact h2
theorem stA (St : RgS N ds ms F M C SL) (i q k : Nat) {d : Nat} {e : Option Nat} {V : Γ → Value} {p : Γ → Value → World → Prop} (h0 : Wn ops F o) (he : es.contains i = false) (hi : ∀ g, (F g)[i]? = some (some (d, V g))) (hq : ∀ g, (M g)[q]? = some (i, d, p g, e)) (hc : postB ops es k i = true)
  (h : ∀ g l a W, l i = false → (∀ n, waits o n = true → l n = true) → ShutL ops l → Rg N us ds (F g) (M g) es C (SL g) l a W → ∀ K : Act → World → Prop, (∀ g' W', Below W.heap.size W W' → F g' = patch (after ops i ops.size) 0 (F g') (F g) → M g' = (M g).set q (i, d, p g', e) → (SL g').take (k + 1) = (SL g).take (k + 1) → p g' (V g') W' → K (a.put (some d) (V g')) W') → Oper.wp P o a W K Q) : StepI P ops Q (Iv N us ds F M es C SL) i o := fun l a W hl hw hsh ⟨g, z⟩ K hK => by
 refine want (h0.is hw z) (h g l a W hl hw hsh z K fun g' W' hb e1 e2 e3 hp => hK.out _ _ ⟨g', ?_⟩)
 obtain ⟨k1, k2, k5, k6⟩ := St.parts g'
 obtain ⟨h3, h4, _⟩ := D9 k2 (hi g')
 have z' := z.world St hb
 have hd : d < a.tmps.size := by rw [z.f.size, List.size_toArray, z.n]; exact h4
 refine ⟨z'.f.put d _ h3, z'.n, (Dp z'.v hl hsh e1).put k1 i (hi g') hd, ?_, z'.c, ?_⟩
 ·have hm : Mems (M g') l a W' := by
   rw [e2]
   intro r hr hlr her
   obtain ⟨j, hj⟩ := List.mem_iff_getElem?.1 hr
   by_cases ej : q = j
   ·subst ej
    rw [List.getElem?_set_self (List.getElem?_eq_some_iff.1 (hq g)).1] at hj
    obtain rfl := Option.some.inj hj
    rw [hl] at hlr; cases hlr
   ·rw [List.getElem?_set_ne ej] at hj
    exact z'.m r (List.mem_of_getElem? hj) hlr her
  exact hm.add q i (hq g') k5 k6 hd hp
 ·rw [Ec he]
  have hle := JC hsh hl hc
  have h5 := z'.s
  unfold At at h5 ⊢
  have h6 : (SL g')[phase l es]? = (SL g)[phase l es]? := by
   have := congrArg (fun z => z[phase l es]?) e3
   simpa [List.getElem?_take, Nat.lt_succ_of_le hle] using this
  rw [h6]; exact h5
theorem B4 (N : Nat) (us : List Value) (ds : List Nat) (F : Γ → FL) (M : Γ → ML) (es : List Nat) (C : World → Prop) (SL : Γ → List (World → Prop)) {id : Nat} (hN : us.length = N) (hm : P.follows .mixedOrders = true) (hb : backward ops = true) (g : Γ) (h0 : C W.drew) (h1 : At (SL g) 0 W.drew) (hp : (phase (fun j => decide (j < ops.size)) es == es.length) = true)
  (hs : StepsI P ops Q (Iv N us ds F M es C SL) 0 ops.toList) (hend : ∀ g a W, Rg N us ds (F g) (M g) es C (SL g) (fun j => decide (j < ops.size)) a W → At (SL g) es.length W → Q .normal a W) :
  (Code.region id ops true).wp P Q { tmps := us.toArray, defers := [] } W :=
 Aj _ hm hb ⟨g, Fr.start _ _, hN, Vals.zero, Mems.zero, h0, by
  have : phase (fun _ => false) es = 0 := by cases es <;> rfl
  rw [this]; exact h1⟩ hs fun a W ⟨g, z⟩ => hend g a W z (beq_iff_eq.1 hp ▸ z.s)
end
end
end
section
open Go.RowKit
attribute [local go_sem] Oper.semAt_some
theorem KJ {Q : Exit → Act → World → Prop} {us : List Value} {bV bA bB bC bD bS n1 n2 k1 k2 k3 k4 : Nat} {a1 a2 a3 a4 : Option Addr} {d1 : ByteArray} {w W0 : World} {L : BLs} {R : List RowD}    (x80 : Hid (∀ W, Mem w L R W → W.cell? ⟨bA, 0, none⟩ = some (.bool true))) (x83_0 : Hid (∀ W, Mem w L R W → W.cell? ⟨bA, 1, none⟩ = some (.slice a1 n1 k1))) (x83_1 : Hid (∀ W, Mem w L R W → W.cell? ⟨bA, 2, none⟩ = some (.string d1))) (x84_0 : Hid (∀ W, Mem w L R W → W.cell? ⟨bV, 0, none⟩ = some (.slice (some ⟨bS, 0, none⟩) 2 2))) (x84_1 : Hid (∀ W, Mem w L R W → W.cell? ⟨bV, 1, none⟩ = some (.string ⟨#[50]⟩))) (C85 : Hid (∀ W, Mem w L R W → Calls Tryz.prog 21 #[.agg #[.slice a1 n1 k1, .string d1], .agg #[.slice (some ⟨bS, 0, none⟩) 2 2, .string ⟨#[50]⟩]] W (Rets W (.bool true)))) (x89 : Hid (∀ W, Mem w L R W → W.cell? ⟨bA, 3, none⟩ = some (.slice none 0 0))) (x95 : Hid (∀ W, Mem w L R W → W.cell? ⟨bB, 0, none⟩ = some (.bool false))) (C99 : Hid (∀ W, Mem w L R W → Calls Tryz.prog 34 #[.int .i64 3, .int .i64 4] W fun e W' => ∃ (v99' : Value), e = .returned (.agg #[.int .i64 2, v99']) ∧ SlE W' v99' (twoL 3 4) ∧ Below W.heap.size W W')) (x101 : Hid (∀ W, Mem w L R W → W.cell? ⟨bB, 3, none⟩ = some (.slice a2 n2 k2))) (C102 : Hid (∀ W (v99' : Value), Mem w L R W → SlE W v99' (twoL 3 4) → Calls Tryz.prog 28 #[.agg #[.int .i64 2, v99'], .slice a2 n2 k2] W (Rets W (.bool true)))) (x106 : Hid (∀ W, Mem w L R W → W.cell? ⟨bC, 0, none⟩ = some (.bool true))) (x111 : Hid (∀ W, Mem w L R W → W.cell? ⟨bC, 1, none⟩ = some (.slice a3 0 k3))) (x117 : Hid (∀ W, Mem w L R W → W.cell? ⟨bD, 0, none⟩ = some (.bool false))) (x122 : Hid (∀ W, Mem w L R W → W.cell? ⟨bD, 3, none⟩ = some (.slice a4 1 k4))) (h0 : Hid (Mem w L R W0)) (hN : us.length = 171) (g1 : us[1]? = some (.pointer (some ⟨bV, 0, none⟩))) (g2 : us[2]? = some (.pointer (some ⟨bA, 0, none⟩))) (g4 : us[4]? = some (.pointer (some ⟨bB, 0, none⟩))) (g6 : us[6]? = some (.pointer (some ⟨bC, 0, none⟩))) (g8 : us[8]? = some (.pointer (some ⟨bD, 0, none⟩))) {ops : Array Oper} (ho : getOps Tryz.f9.body 10 = some ops)
  (hQ : ∀ (x : Nat → Value)  (W' : World), x 14 = .bool true → Hid (Mem w L R W') → Q .normal { tmps := (sets [79, 80, 81, 82, 83, 84, 85, 86, 87, 88, 89, 90, 91, 92, 93, 94, 95, 96, 97, 98, 99, 100, 101, 102, 103, 104, 105, 106, 107, 108, 109, 110, 111, 112, 113, 114, 115, 116, 117, 118, 119, 120, 121, 122, 123, 124, 125, 14] x us).toArray, defers := [] } W') :
  (Code.region 10 ops true).wp Tryz.prog Q { tmps := us.toArray, defers := [] } W0 := by
 obtain rfl := Option.some.inj (ho.symm.trans (rfl : getOps Tryz.f9.body 10 = some _))
 clear ho
 replace hQ := A8 hQ
 let Fl : Unit → FL := fun g => [some (79, .pointer (some ⟨bA, 0, none⟩)), some (80, .bool true), some (81, .bool true), some (82, .pointer (some ⟨bA, 1, none⟩)), some (83, .agg #[.slice a1 n1 k1, .string d1]), some (84, .agg #[.slice (some ⟨bS, 0, none⟩) 2 2, .string ⟨#[50]⟩]), some (85, .bool true), some (86, .bool true), some (87, .bool true), some (88, .pointer (some ⟨bA, 3, none⟩)), some (89, .slice none 0 0), some (90, .int .i64 0), some (91, .bool true), some (92, .bool true), some (93, .bool true), some (94, .pointer (some ⟨bB, 0, none⟩)), some (95, .bool false), some (96, .bool true), some (97, .bool true), some (98, .bool true), none, some (100, .pointer (some ⟨bB, 3, none⟩)), some (101, .slice a2 n2 k2), some (102, .bool true), some (103, .bool true), some (104, .bool true), some (105, .pointer (some ⟨bC, 0, none⟩)), some (106, .bool true), some (107, .bool true), some (108, .bool true), some (109, .pointer (some ⟨bC, 1, none⟩)), some (110, .pointer (some ⟨bC, 1, none⟩)), some (111, .slice a3 0 k3), some (112, .int .i64 0), some (113, .bool true), some (114, .bool true), some (115, .bool true), some (116, .pointer (some ⟨bD, 0, none⟩)), some (117, .bool false), some (118, .bool true), some (119, .bool true), some (120, .bool true), some (121, .pointer (some ⟨bD, 3, none⟩)), some (122, .slice a4 1 k4), some (123, .int .i64 1), some (124, .bool true), some (125, .bool true), some (14, .bool true)]
 let Ml : Unit → ML := fun g => [(20, 99, (fun yv W => ∃ (v99' : Value), yv = .agg #[.int .i64 2, v99'] ∧ SlE W v99' (twoL 3 4)), none)]
 let Sl_ : Unit → List (World → Prop) := fun g => [fun W => Mem w L R W]
 have St : RgS 171 [79, 80, 81, 82, 83, 84, 85, 86, 87, 88, 89, 90, 91, 92, 93, 94, 95, 96, 97, 98, 99, 100, 101, 102, 103, 104, 105, 106, 107, 108, 109, 110, 111, 112, 113, 114, 115, 116, 117, 118, 119, 120, 121, 122, 123, 124, 125, 14] [20] Fl Ml (Mem w L R) Sl_ := ⟨fun _ => by kernel_rfl, fun _ => rfl, fun _ _ hb h => h.call hb, fun g => List.forall_mem_cons.2 ⟨fun yv W W' hb => fun ⟨g0, e, h⟩ => ⟨g0, e, h.below hb⟩, (fun _ h => by cases h)⟩, fun g => List.forall_mem_cons.2 ⟨fun W W' hb h => h.call hb, (fun _ h => by cases h)⟩⟩
 refine B4 171 us [79, 80, 81, 82, 83, 84, 85, 86, 87, 88, 89, 90, 91, 92, 93, 94, 95, 96, 97, 98, 99, 100, 101, 102, 103, 104, 105, 106, 107, 108, 109, 110, 111, 112, 113, 114, 115, 116, 117, 118, 119, 120, 121, 122, 123, 124, 125, 14] Fl Ml [] (Mem w L R) Sl_ hN (by kernel_rfl) (by kernel_rfl) () h0.out.drew h0.out.drew (by kernel_rfl) ?_ ?_
 refine Ab (stV St 0 rfl (fun _ => rfl) fun g T E W hl hw hs z K J => by
  have x2 := z.u g2
  go_simp; exact J) ?_
 refine Ab (stV St 1 rfl (fun _ => rfl) fun g T E W hl hw hs z K J => by
  have x79 := z.x 0 hw rfl
  have hC := z.c
  have k0 := x80.out _ hC
  go_simp; exact J) ?_
 refine Ab (stV St 2 rfl (fun _ => rfl) fun g T E W hl hw hs z K J => by
  have x80 := z.x 1 hw rfl
  go_simp; exact J) ?_
 refine Ab (stG St 3 (wg 2 rfl rfl (by kernel_rfl) (fun _ => rfl)) rfl (fun _ => rfl) fun g T E W hl hw hs z K J => by
  have x2 := z.u g2
  go_simp; exact J) ?_
 refine Ab (stG St 4 (wg 2 rfl rfl (by kernel_rfl) (fun _ => rfl)) rfl (fun _ => rfl) fun g T E W hl hw hs z K J => by
  have x82 := z.x 3 hw rfl
  have hC := z.c
  have k0 := x83_0.out _ hC
  have hC := z.c
  have k1 := x83_1.out _ hC
  go_simp; exact J) ?_
 refine Ab (stG St 5 (wg 2 rfl rfl (by kernel_rfl) (fun _ => rfl)) rfl (fun _ => rfl) fun g T E W hl hw hs z K J => by
  have x1 := z.u g1
  have hC := z.c
  have k0 := x84_0.out _ hC
  have hC := z.c
  have k1 := x84_1.out _ hC
  go_simp; exact J) ?_
 refine Ab (stH St 6 (wg 2 rfl rfl (by kernel_rfl) (fun _ => rfl)) rfl (fun _ => rfl) fun g T E W hl hw hs z K J => by
  have x83 := z.x 4 hw rfl
  have x84 := z.x 5 hw rfl
  have hC := z.c
  go_simp
  refine Calls.mono (C85.out W hC) ?_
  rintro e W2 ⟨rfl, hb⟩
  exact J _ hb) ?_
 refine Ab (stV St 7 rfl (fun _ => rfl) fun g T E W hl hw hs z K J => by
  have x81 := z.x 2 hw rfl
  have x85 := z.x 6 hw rfl
  go_simp; exact J) ?_
 refine Ab (stV St 8 rfl (fun _ => rfl) fun g T E W hl hw hs z K J => by
  have x86 := z.x 7 hw rfl
  go_simp; exact J) ?_
 refine Ab (stG St 9 (wg 8 rfl rfl (by kernel_rfl) (fun _ => rfl)) rfl (fun _ => rfl) fun g T E W hl hw hs z K J => by
  have x2 := z.u g2
  go_simp; exact J) ?_
 refine Ab (stG St 10 (wg 8 rfl rfl (by kernel_rfl) (fun _ => rfl)) rfl (fun _ => rfl) fun g T E W hl hw hs z K J => by
  have x88 := z.x 9 hw rfl
  have hC := z.c
  have k0 := x89.out _ hC
  go_simp; exact J) ?_
 refine Ab (stG St 11 (wg 8 rfl rfl (by kernel_rfl) (fun _ => rfl)) rfl (fun _ => rfl) fun g T E W hl hw hs z K J => by
  have x89 := z.x 10 hw rfl
  go_simp; exact J) ?_
 refine Ab (stG St 12 (wg 8 rfl rfl (by kernel_rfl) (fun _ => rfl)) rfl (fun _ => rfl) fun g T E W hl hw hs z K J => by
  have x90 := z.x 11 hw rfl
  go_simp; exact J) ?_
 refine Ab (stV St 13 rfl (fun _ => rfl) fun g T E W hl hw hs z K J => by
  have x87 := z.x 8 hw rfl
  have x91 := z.x 12 hw rfl
  go_simp; exact J) ?_
 refine Ab (stV St 14 rfl (fun _ => rfl) fun g T E W hl hw hs z K J => by
  have x92 := z.x 13 hw rfl
  go_simp; exact J) ?_
 refine Ab (stG St 15 (wg 14 rfl rfl (by kernel_rfl) (fun _ => rfl)) rfl (fun _ => rfl) fun g T E W hl hw hs z K J => by
  have x4 := z.u g4
  go_simp; exact J) ?_
 refine Ab (stG St 16 (wg 14 rfl rfl (by kernel_rfl) (fun _ => rfl)) rfl (fun _ => rfl) fun g T E W hl hw hs z K J => by
  have x94 := z.x 15 hw rfl
  have hC := z.c
  have k0 := x95.out _ hC
  go_simp; exact J) ?_
 refine Ab (stG St 17 (wg 14 rfl rfl (by kernel_rfl) (fun _ => rfl)) rfl (fun _ => rfl) fun g T E W hl hw hs z K J => by
  have x95 := z.x 16 hw rfl
  go_simp; exact J) ?_
 refine Ab (stV St 18 rfl (fun _ => rfl) fun g T E W hl hw hs z K J => by
  have x93 := z.x 14 hw rfl
  have x96 := z.x 17 hw rfl
  go_simp; exact J) ?_
 refine Ab (stV St 19 rfl (fun _ => rfl) fun g T E W hl hw hs z K J => by
  have x97 := z.x 18 hw rfl
  go_simp; exact J) ?_
 refine Ab (stM St 20 0 (wg 19 rfl rfl (by kernel_rfl) (fun _ => rfl)) (fun _ => rfl) (fun _ => by kernel_rfl) fun g T E W hl hw hs z K J => by
  have hC := z.c
  go_simp
  refine Calls.mono (C99.out W hC) ?_
  rintro e W2 ⟨v99', rfl, hp, hb⟩
  exact J _ _ hb ⟨v99', rfl, hp⟩) ?_
 refine Ab (stG St 21 (wg 19 rfl rfl (by kernel_rfl) (fun _ => rfl)) rfl (fun _ => rfl) fun g T E W hl hw hs z K J => by
  have x4 := z.u g4
  go_simp; exact J) ?_
 refine Ab (stG St 22 (wg 19 rfl rfl (by kernel_rfl) (fun _ => rfl)) rfl (fun _ => rfl) fun g T E W hl hw hs z K J => by
  have x100 := z.x 21 hw rfl
  have hC := z.c
  have k0 := x101.out _ hC
  go_simp; exact J) ?_
 refine Ab (stH St 23 (wg 19 rfl rfl (by kernel_rfl) (fun _ => rfl)) rfl (fun _ => rfl) fun g T E W hl hw hs z K J => by
  obtain ⟨_, x99, v99', rfl, hm20⟩ := z.y 0 hl hw hs rfl
  have x101 := z.x 22 hw rfl
  have hC := z.c
  go_simp
  refine Calls.mono (C102.out W v99' hC hm20) ?_
  rintro e W2 ⟨rfl, hb⟩
  exact J _ hb) ?_
 refine Ab (stV St 24 rfl (fun _ => rfl) fun g T E W hl hw hs z K J => by
  have x98 := z.x 19 hw rfl
  have x102 := z.x 23 hw rfl
  go_simp; exact J) ?_
 refine Ab (stV St 25 rfl (fun _ => rfl) fun g T E W hl hw hs z K J => by
  have x103 := z.x 24 hw rfl
  go_simp; exact J) ?_
 refine Ab (stG St 26 (wg 25 rfl rfl (by kernel_rfl) (fun _ => rfl)) rfl (fun _ => rfl) fun g T E W hl hw hs z K J => by
  have x6 := z.u g6
  go_simp; exact J) ?_
 refine Ab (stG St 27 (wg 25 rfl rfl (by kernel_rfl) (fun _ => rfl)) rfl (fun _ => rfl) fun g T E W hl hw hs z K J => by
  have x105 := z.x 26 hw rfl
  have hC := z.c
  have k0 := x106.out _ hC
  go_simp; exact J) ?_
 refine Ab (stV St 28 rfl (fun _ => rfl) fun g T E W hl hw hs z K J => by
  have x104 := z.x 25 hw rfl
  have x106 := z.x 27 hw rfl
  go_simp; exact J) ?_
 refine Ab (stV St 29 rfl (fun _ => rfl) fun g T E W hl hw hs z K J => by
  have x107 := z.x 28 hw rfl
  go_simp; exact J) ?_
 refine Ab (stG St 30 (wg 29 rfl rfl (by kernel_rfl) (fun _ => rfl)) rfl (fun _ => rfl) fun g T E W hl hw hs z K J => by
  have x6 := z.u g6
  go_simp; exact J) ?_
 refine Ab (stG St 31 (wg 29 rfl rfl (by kernel_rfl) (fun _ => rfl)) rfl (fun _ => rfl) fun g T E W hl hw hs z K J => by
  have x109 := z.x 30 hw rfl
  go_simp; exact J) ?_
 refine Ab (stG St 32 (wg 29 rfl rfl (by kernel_rfl) (fun _ => rfl)) rfl (fun _ => rfl) fun g T E W hl hw hs z K J => by
  have x110 := z.x 31 hw rfl
  have hC := z.c
  have k0 := x111.out _ hC
  go_simp; exact J) ?_
 refine Ab (stG St 33 (wg 29 rfl rfl (by kernel_rfl) (fun _ => rfl)) rfl (fun _ => rfl) fun g T E W hl hw hs z K J => by
  have x111 := z.x 32 hw rfl
  go_simp; exact J) ?_
 refine Ab (stG St 34 (wg 29 rfl rfl (by kernel_rfl) (fun _ => rfl)) rfl (fun _ => rfl) fun g T E W hl hw hs z K J => by
  have x112 := z.x 33 hw rfl
  go_simp; exact J) ?_
 refine Ab (stV St 35 rfl (fun _ => rfl) fun g T E W hl hw hs z K J => by
  have x108 := z.x 29 hw rfl
  have x113 := z.x 34 hw rfl
  go_simp; exact J) ?_
 refine Ab (stV St 36 rfl (fun _ => rfl) fun g T E W hl hw hs z K J => by
  have x114 := z.x 35 hw rfl
  go_simp; exact J) ?_
 refine Ab (stG St 37 (wg 36 rfl rfl (by kernel_rfl) (fun _ => rfl)) rfl (fun _ => rfl) fun g T E W hl hw hs z K J => by
  have x8 := z.u g8
  go_simp; exact J) ?_
 refine Ab (stG St 38 (wg 36 rfl rfl (by kernel_rfl) (fun _ => rfl)) rfl (fun _ => rfl) fun g T E W hl hw hs z K J => by
  have x116 := z.x 37 hw rfl
  have hC := z.c
  have k0 := x117.out _ hC
  go_simp; exact J) ?_
 refine Ab (stG St 39 (wg 36 rfl rfl (by kernel_rfl) (fun _ => rfl)) rfl (fun _ => rfl) fun g T E W hl hw hs z K J => by
  have x117 := z.x 38 hw rfl
  go_simp; exact J) ?_
 refine Ab (stV St 40 rfl (fun _ => rfl) fun g T E W hl hw hs z K J => by
  have x115 := z.x 36 hw rfl
  have x118 := z.x 39 hw rfl
  go_simp; exact J) ?_
 refine Ab (stV St 41 rfl (fun _ => rfl) fun g T E W hl hw hs z K J => by
  have x119 := z.x 40 hw rfl
  go_simp; exact J) ?_
 refine Ab (stG St 42 (wg 41 rfl rfl (by kernel_rfl) (fun _ => rfl)) rfl (fun _ => rfl) fun g T E W hl hw hs z K J => by
  have x8 := z.u g8
  go_simp; exact J) ?_
 refine Ab (stG St 43 (wg 41 rfl rfl (by kernel_rfl) (fun _ => rfl)) rfl (fun _ => rfl) fun g T E W hl hw hs z K J => by
  have x121 := z.x 42 hw rfl
  have hC := z.c
  have k0 := x122.out _ hC
  go_simp; exact J) ?_
 refine Ab (stG St 44 (wg 41 rfl rfl (by kernel_rfl) (fun _ => rfl)) rfl (fun _ => rfl) fun g T E W hl hw hs z K J => by
  have x122 := z.x 43 hw rfl
  go_simp; exact J) ?_
 refine Ab (stG St 45 (wg 41 rfl rfl (by kernel_rfl) (fun _ => rfl)) rfl (fun _ => rfl) fun g T E W hl hw hs z K J => by
  have x123 := z.x 44 hw rfl
  go_simp; exact J) ?_
 refine Ab (stV St 46 rfl (fun _ => rfl) fun g T E W hl hw hs z K J => by
  have x120 := z.x 41 hw rfl
  have x124 := z.x 45 hw rfl
  go_simp; exact J) ?_
 refine Ab (stV St 47 rfl (fun _ => rfl) fun g T E W hl hw hs z K J => by
  have x125 := z.x 46 hw rfl
  go_simp; exact J) ?_
 ·exact Am
 ·intro g a W z q
  have hM9 : Mem _ _ _ _ := q
  have x14 := z.v.get 47 rfl (by kernel_rfl)
  rw [z.f.eqs]
  exact hQ.out _   _ (by simp [x14]) (A8 hM9)
theorem KL {Q : Exit → Act → World → Prop} {us : List Value} {bV bS : Nat} {w W0 : World} {L : BLs} {R : List RowD}    (C126 : Hid (∀ W, Mem w L R W → Calls Tryz.prog 34 #[.int .i64 3, .int .i64 1] W fun e W' => ∃ (v126' : Value), e = .returned (.agg #[.int .i64 2, v126']) ∧ SlE W' v126' (twoL 3 1) ∧ Below W.heap.size W W')) (x127_0 : Hid (∀ W, Mem w L R W → W.cell? ⟨bV, 0, none⟩ = some (.slice (some ⟨bS, 0, none⟩) 2 2))) (x127_1 : Hid (∀ W, Mem w L R W → W.cell? ⟨bV, 1, none⟩ = some (.string ⟨#[50]⟩))) (C128 : Hid (∀ W (v126' : Value), Mem w L R W → SlE W v126' (twoL 3 1) → Calls Tryz.prog 19 #[.agg #[.int .i64 2, v126'], .agg #[.slice (some ⟨bS, 0, none⟩) 2 2, .string ⟨#[50]⟩]] W (Rets W (.bool true)))) (C130 : Hid (∀ W, Mem w L R W → Calls Tryz.prog 34 #[.int .i64 3, .int .i64 2] W fun e W' => ∃ (v130' : Value), e = .returned (.agg #[.int .i64 2, v130']) ∧ SlE W' v130' (twoL 3 2) ∧ Below W.heap.size W W')) (x131_0 : Hid (∀ W, Mem w L R W → W.cell? ⟨bV, 0, none⟩ = some (.slice (some ⟨bS, 0, none⟩) 2 2))) (x131_1 : Hid (∀ W, Mem w L R W → W.cell? ⟨bV, 1, none⟩ = some (.string ⟨#[50]⟩))) (C132 : Hid (∀ W (v130' : Value), Mem w L R W → SlE W v130' (twoL 3 2) → Calls Tryz.prog 19 #[.agg #[.int .i64 2, v130'], .agg #[.slice (some ⟨bS, 0, none⟩) 2 2, .string ⟨#[50]⟩]] W (Rets W (.bool false)))) (C136 : Hid (∀ W, Mem w L R W → Calls Tryz.prog 34 #[.int .i64 3, .int .i64 4] W fun e W' => ∃ (v136' : Value), e = .returned (.agg #[.int .i64 2, v136']) ∧ SlE W' v136' (twoL 3 4) ∧ Below W.heap.size W W')) (C138 : Hid (∀ W (v136' : Value) (g137 : Nat), Mem w L R W → SlE W v136' (twoL 3 4) → Blk W g137 #[.string ⟨#[49]⟩, .string ⟨#[45, 49]⟩] 9 → Calls Tryz.prog 28 #[.agg #[.int .i64 2, v136'], .slice (some ⟨g137, 0, none⟩) 2 2] W (Rets W (.bool true)))) (C141 : Hid (∀ W, Mem w L R W → Calls Tryz.prog 34 #[.int .i64 3, .int .i64 4] W fun e W' => ∃ (v141' : Value), e = .returned (.agg #[.int .i64 2, v141']) ∧ SlE W' v141' (twoL 3 4) ∧ Below W.heap.size W W')) (C143 : Hid (∀ W (v141' : Value) (g142 : Nat), Mem w L R W → SlE W v141' (twoL 3 4) → Blk W g142 #[.string ⟨#[45, 49]⟩, .string ⟨#[49]⟩] 9 → Calls Tryz.prog 28 #[.agg #[.int .i64 2, v141'], .slice (some ⟨g142, 0, none⟩) 2 2] W (Rets W (.bool false)))) (C147 : Hid (∀ W, Mem w L R W → Calls Tryz.prog 34 #[.int .i64 3, .int .i64 1] W fun e W' => ∃ (v147' : Value), e = .returned (.agg #[.int .i64 2, v147']) ∧ SlE W' v147' (twoL 3 1) ∧ Below W.heap.size W W')) (C149 : Hid (∀ W (v147' : Value) (g148 : Nat), Mem w L R W → SlE W v147' (twoL 3 1) → Blk W g148 #[.string ⟨#[49]⟩, .string ⟨#[45, 49]⟩] 9 → Calls Tryz.prog 28 #[.agg #[.int .i64 2, v147'], .slice (some ⟨g148, 0, none⟩) 2 2] W (Rets W (.bool false)))) (h0 : Hid (Mem w L R W0)) (hN : us.length = 171) (g1 : us[1]? = some (.pointer (some ⟨bV, 0, none⟩))) {ops : Array Oper} (ho : getOps Tryz.f9.body 11 = some ops)
  (hQ : ∀ (x : Nat → Value)  (W' : World), x 15 = .bool true → Hid (Mem w L R W') → Q .normal { tmps := (sets [126, 127, 128, 129, 130, 131, 132, 133, 134, 135, 136, 137, 138, 139, 140, 141, 142, 143, 144, 145, 146, 147, 148, 149, 150, 151, 15] x us).toArray, defers := [] } W') :
  (Code.region 11 ops true).wp Tryz.prog Q { tmps := us.toArray, defers := [] } W0 := by
 obtain rfl := Option.some.inj (ho.symm.trans (rfl : getOps Tryz.f9.body 11 = some _))
 clear ho
 replace hQ := A8 hQ
 let Fl : Unit → FL := fun g => [none, some (127, .agg #[.slice (some ⟨bS, 0, none⟩) 2 2, .string ⟨#[50]⟩]), some (128, .bool true), some (129, .bool true), none, some (131, .agg #[.slice (some ⟨bS, 0, none⟩) 2 2, .string ⟨#[50]⟩]), some (132, .bool false), some (133, .bool true), some (134, .bool true), some (135, .bool true), none, none, some (138, .bool true), some (139, .bool true), some (140, .bool true), none, none, some (143, .bool false), some (144, .bool true), some (145, .bool true), some (146, .bool true), none, none, some (149, .bool false), some (150, .bool true), some (151, .bool true), some (15, .bool true)]
 let Ml : Unit → ML := fun g => [(0, 126, (fun yv W => ∃ (v126' : Value), yv = .agg #[.int .i64 2, v126'] ∧ SlE W v126' (twoL 3 1)), none), (4, 130, (fun yv W => ∃ (v130' : Value), yv = .agg #[.int .i64 2, v130'] ∧ SlE W v130' (twoL 3 2)), none), (10, 136, (fun yv W => ∃ (v136' : Value), yv = .agg #[.int .i64 2, v136'] ∧ SlE W v136' (twoL 3 4)), none), (11, 137, (fun yv W => ∃ (g137 : Nat), yv = .slice (some ⟨g137, 0, none⟩) 2 2 ∧ Blk W g137 #[.string ⟨#[49]⟩, .string ⟨#[45, 49]⟩] 9), none), (15, 141, (fun yv W => ∃ (v141' : Value), yv = .agg #[.int .i64 2, v141'] ∧ SlE W v141' (twoL 3 4)), none), (16, 142, (fun yv W => ∃ (g142 : Nat), yv = .slice (some ⟨g142, 0, none⟩) 2 2 ∧ Blk W g142 #[.string ⟨#[45, 49]⟩, .string ⟨#[49]⟩] 9), none), (21, 147, (fun yv W => ∃ (v147' : Value), yv = .agg #[.int .i64 2, v147'] ∧ SlE W v147' (twoL 3 1)), none), (22, 148, (fun yv W => ∃ (g148 : Nat), yv = .slice (some ⟨g148, 0, none⟩) 2 2 ∧ Blk W g148 #[.string ⟨#[49]⟩, .string ⟨#[45, 49]⟩] 9), none)]
 let Sl_ : Unit → List (World → Prop) := fun g => [fun W => Mem w L R W]
 have St : RgS 171 [126, 127, 128, 129, 130, 131, 132, 133, 134, 135, 136, 137, 138, 139, 140, 141, 142, 143, 144, 145, 146, 147, 148, 149, 150, 151, 15] [0, 4, 10, 11, 15, 16, 21, 22] Fl Ml (Mem w L R) Sl_ := ⟨fun _ => by kernel_rfl, fun _ => rfl, fun _ _ hb h => h.call hb, fun g => List.forall_mem_cons.2 ⟨fun yv W W' hb => fun ⟨g0, e, h⟩ => ⟨g0, e, h.below hb⟩, List.forall_mem_cons.2 ⟨fun yv W W' hb => fun ⟨g0, e, h⟩ => ⟨g0, e, h.below hb⟩, List.forall_mem_cons.2 ⟨fun yv W W' hb => fun ⟨g0, e, h⟩ => ⟨g0, e, h.below hb⟩, List.forall_mem_cons.2 ⟨fun yv W W' hb => fun ⟨g, e, h⟩ => ⟨g, e, h.below hb⟩, List.forall_mem_cons.2 ⟨fun yv W W' hb => fun ⟨g0, e, h⟩ => ⟨g0, e, h.below hb⟩, List.forall_mem_cons.2 ⟨fun yv W W' hb => fun ⟨g, e, h⟩ => ⟨g, e, h.below hb⟩, List.forall_mem_cons.2 ⟨fun yv W W' hb => fun ⟨g0, e, h⟩ => ⟨g0, e, h.below hb⟩, List.forall_mem_cons.2 ⟨fun yv W W' hb => fun ⟨g, e, h⟩ => ⟨g, e, h.below hb⟩, (fun _ h => by cases h)⟩⟩⟩⟩⟩⟩⟩⟩, fun g => List.forall_mem_cons.2 ⟨fun W W' hb h => h.call hb, (fun _ h => by cases h)⟩⟩
 refine B4 171 us [126, 127, 128, 129, 130, 131, 132, 133, 134, 135, 136, 137, 138, 139, 140, 141, 142, 143, 144, 145, 146, 147, 148, 149, 150, 151, 15] Fl Ml [] (Mem w L R) Sl_ hN (by kernel_rfl) (by kernel_rfl) () h0.out.drew h0.out.drew (by kernel_rfl) ?_ ?_
 refine Ab (stM St 0 0 (.inl rfl) (fun _ => rfl) (fun _ => by kernel_rfl) fun g T E W hl hw hs z K J => by
  have hC := z.c
  go_simp
  refine Calls.mono (C126.out W hC) ?_
  rintro e W2 ⟨v126', rfl, hp, hb⟩
  exact J _ _ hb ⟨v126', rfl, hp⟩) ?_
 refine Ab (stV St 1 rfl (fun _ => rfl) fun g T E W hl hw hs z K J => by
  have x1 := z.u g1
  have hC := z.c
  have k0 := x127_0.out _ hC
  have hC := z.c
  have k1 := x127_1.out _ hC
  go_simp; exact J) ?_
 refine Ab (stC St 2 rfl (fun _ => rfl) fun g T E W hl hw hs z K J => by
  obtain ⟨_, x126, v126', rfl, hm0⟩ := z.y 0 hl hw hs rfl
  have x127 := z.x 1 hw rfl
  have hC := z.c
  go_simp
  refine Calls.mono (C128.out W v126' hC hm0) ?_
  rintro e W2 ⟨rfl, hb⟩
  exact J _ hb) ?_
 refine Ab (stV St 3 rfl (fun _ => rfl) fun g T E W hl hw hs z K J => by
  have x128 := z.x 2 hw rfl
  go_simp; exact J) ?_
 refine Ab (stM St 4 1 (wg 3 rfl rfl (by kernel_rfl) (fun _ => rfl)) (fun _ => rfl) (fun _ => by kernel_rfl) fun g T E W hl hw hs z K J => by
  have hC := z.c
  go_simp
  refine Calls.mono (C130.out W hC) ?_
  rintro e W2 ⟨v130', rfl, hp, hb⟩
  exact J _ _ hb ⟨v130', rfl, hp⟩) ?_
 refine Ab (stG St 5 (wg 3 rfl rfl (by kernel_rfl) (fun _ => rfl)) rfl (fun _ => rfl) fun g T E W hl hw hs z K J => by
  have x1 := z.u g1
  have hC := z.c
  have k0 := x131_0.out _ hC
  have hC := z.c
  have k1 := x131_1.out _ hC
  go_simp; exact J) ?_
 refine Ab (stH St 6 (wg 3 rfl rfl (by kernel_rfl) (fun _ => rfl)) rfl (fun _ => rfl) fun g T E W hl hw hs z K J => by
  obtain ⟨_, x130, v130', rfl, hm4⟩ := z.y 1 hl hw hs rfl
  have x131 := z.x 5 hw rfl
  have hC := z.c
  go_simp
  refine Calls.mono (C132.out W v130' hC hm4) ?_
  rintro e W2 ⟨rfl, hb⟩
  exact J _ hb) ?_
 refine Ab (stG St 7 (wg 3 rfl rfl (by kernel_rfl) (fun _ => rfl)) rfl (fun _ => rfl) fun g T E W hl hw hs z K J => by
  have x132 := z.x 6 hw rfl
  go_simp; exact J) ?_
 refine Ab (stV St 8 rfl (fun _ => rfl) fun g T E W hl hw hs z K J => by
  have x129 := z.x 3 hw rfl
  have x133 := z.x 7 hw rfl
  go_simp; exact J) ?_
 refine Ab (stV St 9 rfl (fun _ => rfl) fun g T E W hl hw hs z K J => by
  have x134 := z.x 8 hw rfl
  go_simp; exact J) ?_
 refine Ab (stM St 10 2 (wg 9 rfl rfl (by kernel_rfl) (fun _ => rfl)) (fun _ => rfl) (fun _ => by kernel_rfl) fun g T E W hl hw hs z K J => by
  have hC := z.c
  go_simp
  refine Calls.mono (C136.out W hC) ?_
  rintro e W2 ⟨v136', rfl, hp, hb⟩
  exact J _ _ hb ⟨v136', rfl, hp⟩) ?_
 refine Ab (stM St 11 3 (wg 9 rfl rfl (by kernel_rfl) (fun _ => rfl)) (fun _ => rfl) (fun _ => by kernel_rfl) fun g T E W hl hw hs z K J => by
  go_simp; exact J _ _ ((Below.refl _ _).alloc (Aa _) _) ⟨_, rfl, Blk.new _ _ _⟩) ?_
 refine Ab (stH St 12 (wg 9 rfl rfl (by kernel_rfl) (fun _ => rfl)) rfl (fun _ => rfl) fun g T E W hl hw hs z K J => by
  obtain ⟨_, x136, v136', rfl, hm10⟩ := z.y 2 hl hw hs rfl
  obtain ⟨_, x137, g137, rfl, hb11⟩ := z.y 3 hl hw hs rfl
  have hC := z.c
  go_simp
  refine Calls.mono (C138.out W v136' g137 hC hm10 hb11) ?_
  rintro e W2 ⟨rfl, hb⟩
  exact J _ hb) ?_
 refine Ab (stV St 13 rfl (fun _ => rfl) fun g T E W hl hw hs z K J => by
  have x135 := z.x 9 hw rfl
  have x138 := z.x 12 hw rfl
  go_simp; exact J) ?_
 refine Ab (stV St 14 rfl (fun _ => rfl) fun g T E W hl hw hs z K J => by
  have x139 := z.x 13 hw rfl
  go_simp; exact J) ?_
 refine Ab (stM St 15 4 (wg 14 rfl rfl (by kernel_rfl) (fun _ => rfl)) (fun _ => rfl) (fun _ => by kernel_rfl) fun g T E W hl hw hs z K J => by
  have hC := z.c
  go_simp
  refine Calls.mono (C141.out W hC) ?_
  rintro e W2 ⟨v141', rfl, hp, hb⟩
  exact J _ _ hb ⟨v141', rfl, hp⟩) ?_
 refine Ab (stM St 16 5 (wg 14 rfl rfl (by kernel_rfl) (fun _ => rfl)) (fun _ => rfl) (fun _ => by kernel_rfl) fun g T E W hl hw hs z K J => by
  go_simp; exact J _ _ ((Below.refl _ _).alloc (Aa _) _) ⟨_, rfl, Blk.new _ _ _⟩) ?_
 refine Ab (stH St 17 (wg 14 rfl rfl (by kernel_rfl) (fun _ => rfl)) rfl (fun _ => rfl) fun g T E W hl hw hs z K J => by
  obtain ⟨_, x141, v141', rfl, hm15⟩ := z.y 4 hl hw hs rfl
  obtain ⟨_, x142, g142, rfl, hb16⟩ := z.y 5 hl hw hs rfl
  have hC := z.c
  go_simp
  refine Calls.mono (C143.out W v141' g142 hC hm15 hb16) ?_
  rintro e W2 ⟨rfl, hb⟩
  exact J _ hb) ?_
 refine Ab (stG St 18 (wg 14 rfl rfl (by kernel_rfl) (fun _ => rfl)) rfl (fun _ => rfl) fun g T E W hl hw hs z K J => by
  have x143 := z.x 17 hw rfl
  go_simp; exact J) ?_
 refine Ab (stV St 19 rfl (fun _ => rfl) fun g T E W hl hw hs z K J => by
  have x140 := z.x 14 hw rfl
  have x144 := z.x 18 hw rfl
  go_simp; exact J) ?_
 refine Ab (stV St 20 rfl (fun _ => rfl) fun g T E W hl hw hs z K J => by
  have x145 := z.x 19 hw rfl
  go_simp; exact J) ?_
 refine Ab (stM St 21 6 (wg 20 rfl rfl (by kernel_rfl) (fun _ => rfl)) (fun _ => rfl) (fun _ => by kernel_rfl) fun g T E W hl hw hs z K J => by
  have hC := z.c
  go_simp
  refine Calls.mono (C147.out W hC) ?_
  rintro e W2 ⟨v147', rfl, hp, hb⟩
  exact J _ _ hb ⟨v147', rfl, hp⟩) ?_
 refine Ab (stM St 22 7 (wg 20 rfl rfl (by kernel_rfl) (fun _ => rfl)) (fun _ => rfl) (fun _ => by kernel_rfl) fun g T E W hl hw hs z K J => by
  go_simp; exact J _ _ ((Below.refl _ _).alloc (Aa _) _) ⟨_, rfl, Blk.new _ _ _⟩) ?_
 refine Ab (stH St 23 (wg 20 rfl rfl (by kernel_rfl) (fun _ => rfl)) rfl (fun _ => rfl) fun g T E W hl hw hs z K J => by
  obtain ⟨_, x147, v147', rfl, hm21⟩ := z.y 6 hl hw hs rfl
  obtain ⟨_, x148, g148, rfl, hb22⟩ := z.y 7 hl hw hs rfl
  have hC := z.c
  go_simp
  refine Calls.mono (C149.out W v147' g148 hC hm21 hb22) ?_
  rintro e W2 ⟨rfl, hb⟩
  exact J _ hb) ?_
 refine Ab (stG St 24 (wg 20 rfl rfl (by kernel_rfl) (fun _ => rfl)) rfl (fun _ => rfl) fun g T E W hl hw hs z K J => by
  have x149 := z.x 23 hw rfl
  go_simp; exact J) ?_
 refine Ab (stV St 25 rfl (fun _ => rfl) fun g T E W hl hw hs z K J => by
  have x146 := z.x 20 hw rfl
  have x150 := z.x 24 hw rfl
  go_simp; exact J) ?_
 refine Ab (stV St 26 rfl (fun _ => rfl) fun g T E W hl hw hs z K J => by
  have x151 := z.x 25 hw rfl
  go_simp; exact J) ?_
 ·exact Am
 ·intro g a W z q
  have hM9 : Mem _ _ _ _ := q
  have x15 := z.v.get 26 rfl (by kernel_rfl)
  rw [z.f.eqs]
  exact hQ.out _   _ (by simp [x15]) (A8 hM9)
end
end Go.Proofs.YtcmomjnailihpaaGreatDoor
