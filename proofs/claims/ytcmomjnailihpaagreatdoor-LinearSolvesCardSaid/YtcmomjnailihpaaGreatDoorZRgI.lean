/- RgI, RgJ, LwN, Hot -/
import Derived.Test.YtcmomjnailihpaaGreatDoorZLwE
import Derived.Test.YtcmomjnailihpaaGreatDoorZLwM
import Derived.Test.YtcmomjnailihpaaGreatDoorZLwR
import Derived.Test.YtcmomjnailihpaaGreatDoorZPkA
import Derived.Deep.RegionHeld3
import Derived.Deep.DeepAppendRoom
namespace Go.Proofs.YtcmomjnailihpaaGreatDoor
section
variable {P : Program} {ops : Array Oper} {Q : Exit → Act → World → Prop}
def set1 (l : Nat → Bool) (j : Nat) : Nat → Bool := fun i => if i = j then true else l i
def waits (o : Oper) (n : Nat) : Bool := o.after.any fun e => Region.binds .any e && e.on == n
def backward (ops : Array Oper) : Bool := (List.range ops.size).all fun j => match ops[j]? with
  | some o => o.after.all fun e => !Region.binds .any e || decide (e.on < j)
  | none => true
def ShutL (ops : Array Oper) (l : Nat → Bool) : Prop := ∀ i n o, ops[i]? = some o → l i = true → waits o n = true → l n = true
def StepsI (P : Program) (ops : Array Oper) (Q : Exit → Act → World → Prop) (I : (Nat → Bool) → Act → World → Prop) : Nat → List Oper → Prop
  | _, [] => True
  | k, o :: os => (∀ (l : Nat → Bool) (a : Act) (w : World), l k = false → (∀ n, waits o n = true → l n = true) → ShutL ops l → I l a w →
      ∀ K : Act → World → Prop, Shut (∀ a w, I (set1 l k) a w → K a w) → if Region.wanted o (yielded ops a.tmps) = true then Oper.wp P o a w K Q else K (a.put o.dst undef) w) ∧ StepsI P ops Q I (k + 1) os
theorem off {p : Prop} (h : false = true) : p := by cases h
def StepI (P : Program) (ops : Array Oper) (Q : Exit → Act → World → Prop) (I : (Nat → Bool) → Act → World → Prop) (k : Nat) (o : Oper) : Prop :=
  ∀ (l : Nat → Bool) (a : Act) (w : World), l k = false → (∀ n, waits o n = true → l n = true) → ShutL ops l → I l a w →
      ∀ K : Act → World → Prop, Shut (∀ a w, I (set1 l k) a w → K a w) → if Region.wanted o (yielded ops a.tmps) = true then Oper.wp P o a w K Q else K (a.put o.dst undef) w
theorem stepsI_cons {I : (Nat → Bool) → Act → World → Prop} {k : Nat} {o : Oper} {os : List Oper} (h : StepI P ops Q I k o) (hs : StepsI P ops Q I (k + 1) os) : StepsI P ops Q I k (o :: os) := ⟨h, hs⟩
theorem stepsI_nil {I : (Nat → Bool) → Act → World → Prop} {k : Nat} : StepsI P ops Q I k [] := trivial
theorem stepsI_at {I : (Nat → Bool) → Act → World → Prop} {o : Oper} : ∀ (os : List Oper) (k j m : Nat), m = k + j → StepsI P ops Q I k os → os[j]? = some o → StepI P ops Q I m o := by
  intro os
  induction os with
  | nil => intro k j m _ _ hj; simp at hj
  | cons o' os ih =>
    intro k j m hm h hj
    match j, hj with
    | 0, hj =>
      cases hj
      obtain rfl : m = k := hm
      exact h.1
    | j + 1, hj => exact ih (k + 1) j m (by omega) h.2 (by simpa using hj)
def undone : List Bool → Nat
  | [] => 0
  | b :: l => (if b then 0 else 1) + undone l
theorem undone_set : ∀ {l : List Bool} {i : Nat}, l[i]? = some false → undone (l.set i true) + 1 = undone l
  | b :: l, 0, h => by cases h; simp [undone]; omega
  | b :: l, i + 1, h => by
    have := undone_set (l := l) (i := i) h
    simp only [List.set_cons_succ, undone]; omega
theorem undone_zero : ∀ {l : List Bool}, undone l = 0 → ∀ i : Nat, l[i]? = some false → False
  | [], _, i, h => by simp at h
  | b :: l, h, 0, e => by cases e; simp [undone] at h
  | b :: l, h, i + 1, e => undone_zero (l := l) (by simp [undone] at h; omega) i e
theorem undone_rep : ∀ n : Nat, undone (List.replicate n false) = n
  | 0 => rfl
  | n + 1 => by simp [List.replicate_succ, undone, undone_rep n]; omega
theorem any_inv {I : (Nat → Bool) → Act → World → Prop} (hb : backward ops = true) (hs : StepsI P ops Q I 0 ops.toList)
    (hend : ∀ a w, I (fun j => decide (j < ops.size)) a w → Q .normal a w) :
    ∀ (n : Nat) (l : Array Bool) (a : Act) (w : World), l.size = ops.size → undone l.toList ≤ n → ShutL ops (fun j => l.getD j false) → I (fun j => l.getD j false) a w → wpAny P .any ops Q n l a w := by
  have hend' : ∀ (l : Array Bool) (a : Act) (w : World), l.size = ops.size → Region.ready .any ops l = [] → I (fun j => l.getD j false) a w → Q .normal a w := fun l a w hl hr hI => by
    have all : ∀ j, j < ops.size → l.getD j false = true := by
      intro j
      induction j using Nat.strongRecOn with
      | _ j ih =>
        intro hj
        cases hv : l.getD j false with
        | true => rfl
        | false =>
          have hlt : j < l.size := by omega
          have hm : j ∈ Region.ready .any ops l := mem_ready.2 ⟨by
            simp [Array.getD, hlt] at hv ⊢; exact hv, ops[j], by simp [hj], fun e he hbe => by
            have := hb
            unfold backward at this
            rw [List.all_eq_true] at this
            have := this j (List.mem_range.2 hj)
            rw [Array.getElem?_eq_getElem hj] at this
            simp only [Array.all_eq_true_iff_forall_mem, decide_eq_true_eq, Bool.or_eq_true, Bool.not_eq_true'] at this
            have := (this e he).resolve_left (by simp [hbe])
            exact ih _ this (by omega)⟩
          rw [hr] at hm; cases hm
    refine hend a w ?_
    have e : (fun j => l.getD j false) = (fun j => decide (j < ops.size)) := by
      funext j
      by_cases hj : j < ops.size
      · rw [all j hj]; simp [hj]
      · have : l.getD j false = false := by simp [Array.getD]; intro h; omega
        rw [this]; simp [hj]
    rw [← e]; exact hI
  intro n
  induction n with
  | zero =>
    intro l a w hl hu hsh hI
    have hr : Region.ready .any ops l = [] := by
      cases hr : Region.ready .any ops l with
      | nil => rfl
      | cons x xs =>
        have hx : x ∈ Region.ready .any ops l := by rw [hr]; simp
        obtain ⟨h1, o, ho, _⟩ := mem_ready.1 hx
        have hlt : x < l.size := by rw [hl]; exact (Array.getElem?_eq_some_iff.1 ho).1
        refine (undone_zero (by omega : undone l.toList = 0) x ?_).elim
        simp [Array.getD, hlt] at h1
        simp [hlt, h1]
    exact ⟨hr, hend' l a w hl hr hI⟩
  | succ n ih =>
    intro l a w hl hu hsh hI
    refine ⟨fun hr => hend' l a w hl hr hI, fun j hj => ?_⟩
    obtain ⟨h1, o, ho, hall⟩ := mem_ready.1 hj
    have hlt : j < l.size := by rw [hl]; exact (Array.getElem?_eq_some_iff.1 ho).1
    have hj0 : l.getD j false = false := by simp [Array.getD, hlt] at h1 ⊢; exact h1
    have hjf : l.toList[j]? = some false := by simp [Array.getD, hlt] at h1; simp [hlt, h1]
    have hw : ∀ n, waits o n = true → l.getD n false = true := fun n hn => by
      unfold waits at hn
      obtain ⟨e, he, h2⟩ := Array.any_eq_true'.1 hn
      simp only [Bool.and_eq_true, beq_iff_eq] at h2
      rw [← h2.2]; exact hall e he h2.1
    have eset : (fun i => (l.setIfInBounds j true).getD i false) = set1 (fun i => l.getD i false) j := by
      funext i
      unfold set1
      by_cases e : i = j
      · subst e; simp [Array.getD, hlt]
      · rw [if_neg e]; exact getD_set_ne false (Ne.symm e)
    have hst : StepI P ops Q I j o := stepsI_at ops.toList 0 j j (by omega) hs (by rw [← ho]; simp)
    refine wpOp_step ho fun K hK => hst _ a w hj0 hw hsh hI K (fun a' w' hI' => hK a' w' (ih _ a' w' (by simp [hl]) ?_ ?_ (by rw [eset]; exact hI')))
    · have := undone_set hjf
      rw [Array.toList_setIfInBounds]; omega
    · rw [eset]
      intro i m oi hoi hi hwm
      unfold set1 at hi ⊢
      by_cases e : m = j
      · rw [if_pos e]
      · rw [if_neg e]
        by_cases ei : i = j
        · subst ei
          rw [ho] at hoi
          obtain rfl := Option.some.inj hoi
          exact hw m hwm
        · rw [if_neg ei] at hi
          exact hsh i m oi hoi hi hwm
theorem wp_region_inv {id : Nat} {a : Act} {w : World} (I : (Nat → Bool) → Act → World → Prop) (hm : P.follows .mixedOrders = true) (hb : backward ops = true)
    (h0 : I (fun _ => false) a w.drew) (hs : StepsI P ops Q I 0 ops.toList) (hend : ∀ a w, I (fun j => decide (j < ops.size)) a w → Q .normal a w) : (Code.region id ops true).wp P Q a w := by
  refine wp_region_any hm (any_inv hb hs hend _ _ a w.drew (by simp) ?_ ?_ ?_)
  · rw [Array.toList_replicate, undone_rep]; exact Nat.le_refl _
  · intro i n o _ h
    simp [Array.getD] at h
  · have e : (fun j => (Array.replicate ops.size false).getD j false) = fun _ => false := by funext j; simp [Array.getD]
    rw [e]; exact h0
end
def Vs (L : List (Nat × Value × Value)) (l : Nat → Bool) : Prop := ∀ p ∈ L, l p.1 = true → p.2.1 = p.2.2
theorem Vs.zero {L : List (Nat × Value × Value)} : Vs L (fun _ => false) := fun _ _ h => by cases h
theorem Vs.get {L : List (Nat × Value × Value)} {l : Nat → Bool} (h : Vs L l) (k : Nat) {i : Nat} {v s : Value} (hk : L[k]? = some (i, v, s)) (hl : l i = true) : v = s := h _ (List.mem_of_getElem? hk) hl
def onceB (i k : Nat) : Nat → List (Nat × Value × Value) → Bool
  | _, [] => true
  | j, p :: L => (j == k || !(p.1 == i)) && onceB i k (j + 1) L
theorem once_of {i k : Nat} : ∀ {L : List (Nat × Value × Value)} {j q : Nat} {p : Nat × Value × Value}, onceB i k j L = true → L[q]? = some p → j + q ≠ k → p.1 ≠ i
  | [], _, _, _, _, h, _ => by simp at h
  | x :: L, j, 0, p, h, hq, hne => by
    simp at hq; subst hq
    simp only [onceB, Bool.and_eq_true, Bool.or_eq_true, beq_iff_eq, Bool.not_eq_true'] at h
    rcases h.1 with e | e
    · exact absurd e (by omega)
    · intro e2; rw [e2] at e; simp at e
  | x :: L, j, q + 1, p, h, hq, hne => by
    simp only [onceB, Bool.and_eq_true] at h
    exact once_of (j := j + 1) (q := q) h.2 (by simpa using hq) (by omega)
theorem Vs.put {L : List (Nat × Value × Value)} {l : Nat → Bool} (h : Vs L l) (k : Nat) {i : Nat} {v s s' : Value} (hk : L[k]? = some (i, v, s)) (ho : onceB i k 0 L = true) (hv : v = s') : Vs (L.set k (i, v, s')) (set1 l i) := by
  intro p hp hl
  obtain ⟨q, hq⟩ := List.mem_iff_getElem?.1 hp
  by_cases e : k = q
  · subst e
    rw [List.getElem?_set_self (by exact (List.getElem?_eq_some_iff.1 hk).1)] at hq
    cases hq
    exact hv
  · rw [List.getElem?_set_ne e] at hq
    have := once_of ho hq (by omega)
    exact h p (List.mem_of_getElem? hq) (by simpa [set1, this] using hl)
theorem Vs.skip {L : List (Nat × Value × Value)} {l : Nat → Bool} (h : Vs L l) (i : Nat) (ho : (L.all fun p => !(p.1 == i)) = true) : Vs L (set1 l i) := fun p hp hl => by
  have := List.all_eq_true.1 ho p hp
  have e : p.1 ≠ i := fun e => by rw [e] at this; simp at this
  exact h p hp (by simpa [set1, e] using hl)
def opsAt : Code → Nat → Option (Array Oper)
  | .region id ops _, n => if id = n then some ops else none
  | .seq a b, n => match opsAt a n with
    | some x => some x
    | none => opsAt b n
  | .cond _ a b, n => match opsAt a n with
    | some x => some x
    | none => opsAt b n
  | .block _ a, n => opsAt a n
  | .loop a, n => opsAt a n
  | .scope a, n => opsAt a n
  | _, _ => none
def getOps (c : Option Code) (n : Nat) : Option (Array Oper) := match c with
  | some c => opsAt c n
  | none => none
def loopAt : Code → Nat → Option Code
  | .seq a b, n => match loopAt a n with
    | some x => some x
    | none => loopAt b n
  | .cond _ a b, n => match loopAt a n with
    | some x => some x
    | none => loopAt b n
  | .block i a, n => if i = n then (match a with
    | .loop c => some c
    | _ => none) else loopAt a n
  | .loop a, n => loopAt a n
  | .scope a, n => loopAt a n
  | _, _ => none
def getLoop (c : Option Code) (n : Nat) : Option Code := match c with
  | some c => loopAt c n
  | none => none
end Go.Proofs.YtcmomjnailihpaaGreatDoor
namespace Go.Proofs.YtcmomjnailihpaaGreatDoor
open Go.RowKit
theorem want {c A B : Prop} [Decidable c] (h : c) (hA : A) : if c then A else B := by rw [if_pos h]; exact hA
theorem wants {o : Oper} {ops : Array Oper} {tmps : Array Value} {j d : Nat} {b : Bool} (hg : o.guard = some (j, b)) (hd : (ops[j]?).bind (·.dst) = some d) (hx : tmps[d]? = some (.bool b)) : Region.wanted o (yielded ops tmps) = true := by
  simp [Region.wanted, yielded, hg, hd, hx]
structure Fr (f0 : Array Value) (ds : List Nat) (a : Act) : Prop where
  defers : a.defers = []
  size : a.tmps.size = f0.size
  base : ∀ n, ds.contains n = false → a.tmps[n]? = f0[n]?
theorem Fr.start (f0 : Array Value) (ds : List Nat) : Fr f0 ds { tmps := f0, defers := [] } := ⟨rfl, rfl, fun _ _ => rfl⟩
theorem put_same {a : Act} {d : Nat} {v : Value} (h : d < a.tmps.size) : (a.put (some d) v).tmps[d]? = some v := by simp [Act.put, h]
theorem put_ne {a : Act} {d n : Nat} {v : Value} (h : d ≠ n) : (a.put (some d) v).tmps[n]? = a.tmps[n]? := by simp [Act.put, h]
theorem Fr.put {f0 : Array Value} {ds : List Nat} {a : Act} (h : Fr f0 ds a) (d : Nat) (v : Value) (hd : ds.contains d = true) : Fr f0 ds (a.put (some d) v) :=
  ⟨h.defers, by simp [Act.put, h.size], fun n hn => by rw [put_ne (fun e => by subst e; rw [hd] at hn; cases hn)]; exact h.base n hn⟩
theorem Fr.at_ {f0 : Array Value} {ds : List Nat} {a : Act} (h : Fr f0 ds a) (n : Nat) {v : Value} (hn : ds.contains n = false) (hv : f0[n]? = some v) : a.tmps[n]? = some v := (h.base n hn).trans hv
abbrev FL := List (Option (Nat × Value))
def slots (F : FL) : List Nat := F.filterMap (Option.map Prod.fst)
def Vals (F : FL) (l : Nat → Bool) (a : Act) : Prop := ∀ (j d : Nat) (v : Value), F[j]? = some (some (d, v)) → l j = true → a.tmps[d]? = some v
theorem Vals.get {F : FL} {l : Nat → Bool} {a : Act} (h : Vals F l a) (j : Nat) {d : Nat} {v : Value} (hj : F[j]? = some (some (d, v))) (hl : l j = true) : a.tmps[d]? = some v := h j d v hj hl
theorem Vals.zero {F : FL} {a : Act} : Vals F (fun _ => false) a := fun _ _ _ _ h => by cases h
theorem slots_ne : ∀ {F : FL} {i j d e : Nat} {v u : Value}, (slots F).Nodup → F[i]? = some (some (d, v)) → F[j]? = some (some (e, u)) → i ≠ j → d ≠ e
  | [], i, j, _, _, _, _, _, h, _, _ => by simp at h
  | x :: F, 0, 0, _, _, _, _, _, _, _, h => absurd rfl h
  | x :: F, 0, j + 1, d, e, v, u, hn, h1, h2, _ => by
    simp at h1 h2
    subst h1
    have hn' : (d :: slots F).Nodup := hn
    intro he
    subst he
    exact (List.nodup_cons.1 hn').1 (List.mem_filterMap.2 ⟨some (d, u), List.mem_of_getElem? h2, rfl⟩)
  | x :: F, i + 1, 0, d, e, v, u, hn, h1, h2, _ => by
    simp at h1 h2
    subst h2
    have hn' : (e :: slots F).Nodup := hn
    intro he
    subst he
    exact (List.nodup_cons.1 hn').1 (List.mem_filterMap.2 ⟨some (d, v), List.mem_of_getElem? h1, rfl⟩)
  | x :: F, i + 1, j + 1, d, e, v, u, hn, h1, h2, hij => by
    simp at h1 h2
    have hn' : (slots F).Nodup := by
      cases x with
      | none => exact hn
      | some p => exact (List.nodup_cons.1 (show (p.1 :: slots F).Nodup from hn)).2
    exact slots_ne hn' h1 h2 (fun e => hij (by rw [e]))
theorem Vals.put {F : FL} {l : Nat → Bool} {a : Act} (h : Vals F l a) (hn : (slots F).Nodup) (i : Nat) {d : Nat} {v : Value} (hi : F[i]? = some (some (d, v))) (hs : d < a.tmps.size) : Vals F (set1 l i) (a.put (some d) v) := fun j e u hj hl => by
  by_cases e1 : j = i
  · subst e1
    rw [hi] at hj
    cases hj
    exact put_same hs
  · rw [put_ne (slots_ne hn hi hj (fun e2 => e1 e2.symm))]
    exact h j e u hj (by simpa [set1, e1] using hl)
theorem Vals.other {F : FL} {l : Nat → Bool} {a : Act} (h : Vals F l a) (i d : Nat) (v : Value) (hi : F[i]? = some none) (hd : (slots F).contains d = false) : Vals F (set1 l i) (a.put (some d) v) := fun j e u hj hl => by
  have e1 : j ≠ i := fun e1 => by subst e1; rw [hi] at hj; cases hj
  have e2 : d ≠ e := fun e2 => by
    subst e2
    have : d ∈ slots F := List.mem_filterMap.2 ⟨some (d, u), List.mem_of_getElem? hj, rfl⟩
    rw [List.contains_iff_mem.2 this] at hd; cases hd
  rw [put_ne e2]
  exact h j e u hj (by simpa [set1, e1] using hl)
theorem Vals.skip {F : FL} {l : Nat → Bool} {a : Act} (h : Vals F l a) (i : Nat) (hi : F[i]? = some none) : Vals F (set1 l i) a := fun j e u hj hl => by
  have e1 : j ≠ i := fun e1 => by subst e1; rw [hi] at hj; cases hj
  exact h j e u hj (by simpa [set1, e1] using hl)
theorem Vals.change {F G : FL} {l : Nat → Bool} {a : Act} (h : Vals F l a) (hg : ∀ j, G[j]? = F[j]? ∨ l j = false) : Vals G l a := fun j d v hj hl => by
  rcases hg j with e | e
  · exact h j d v (e ▸ hj) hl
  · rw [hl] at e; cases e
abbrev ML := List (Nat × Nat × (Value → World → Prop) × Option Nat)
def live (l : Nat → Bool) : Option Nat → Bool
  | none => true
  | some e => !l e
theorem live_back {l : Nat → Bool} {i : Nat} {e : Option Nat} (h : live (set1 l i) e = true) : live l e = true := by
  cases e with
  | none => rfl
  | some e =>
    by_cases hc : e = i
    · subst hc; simp [live, set1] at h
    · simpa [live, set1, hc] using h
def Mems (M : ML) (l : Nat → Bool) (a : Act) (W : World) : Prop := ∀ p ∈ M, l p.1 = true → live l p.2.2.2 = true → ∃ v, a.tmps[p.2.1]? = some v ∧ p.2.2.1 v W
def MStable (M : ML) : Prop := ∀ p ∈ M, ∀ v W W', Below W.heap.size W W' → p.2.2.1 v W → p.2.2.1 v W'
theorem Mems.zero {M : ML} {a : Act} {W : World} : Mems M (fun _ => false) a W := fun _ _ h => by cases h
theorem Mems.get {M : ML} {l : Nat → Bool} {a : Act} {W : World} (h : Mems M l a W) (k : Nat) {j d : Nat} {e : Option Nat} {P : Value → World → Prop} (hk : M[k]? = some (j, d, P, e)) (hl : l j = true) (he : live l e = true) : ∃ v, a.tmps[d]? = some v ∧ P v W := h _ (List.mem_of_getElem? hk) hl he
theorem Mems.world {M : ML} {l : Nat → Bool} {a : Act} {W W' : World} (h : Mems M l a W) (hs : MStable M) (hb : Below W.heap.size W W') : Mems M l a W' := fun p hp hl he => (h p hp hl he).imp fun v ⟨h1, h2⟩ => ⟨h1, hs p hp v W W' hb h2⟩
def mslots (M : ML) : List Nat := M.map fun p => p.2.1
def mops (M : ML) : List Nat := M.map fun p => p.1
theorem Mems.put {M : ML} {l : Nat → Bool} {a : Act} {W : World} (h : Mems M l a W) (i d : Nat) (v : Value) (hi : (mops M).contains i = false) (hd : (mslots M).contains d = false) : Mems M (set1 l i) (a.put (some d) v) W := fun p hp hl he => by
  have e1 : p.1 ≠ i := fun e => by
    have : i ∈ mops M := List.mem_map.2 ⟨p, hp, e⟩
    rw [List.contains_iff_mem.2 this] at hi; cases hi
  have e2 : d ≠ p.2.1 := fun e => by
    have : d ∈ mslots M := List.mem_map.2 ⟨p, hp, e.symm⟩
    rw [List.contains_iff_mem.2 this] at hd; cases hd
  rw [put_ne e2]
  exact h p hp (by simpa [set1, e1] using hl) (live_back he)
theorem Mems.skip {M : ML} {l : Nat → Bool} {a : Act} {W : World} (h : Mems M l a W) (i : Nat) (hi : (mops M).contains i = false) : Mems M (set1 l i) a W := fun p hp hl he => by
  have e1 : p.1 ≠ i := fun e => by
    have : i ∈ mops M := List.mem_map.2 ⟨p, hp, e⟩
    rw [List.contains_iff_mem.2 this] at hi; cases hi
  exact h p hp (by simpa [set1, e1] using hl) (live_back he)
theorem Mems.add {M : ML} {l : Nat → Bool} {a : Act} {W : World} (h : Mems M l a W) (k i : Nat) {d : Nat} {e : Option Nat} {P : Value → World → Prop} (hk : M[k]? = some (i, d, P, e)) (hn : (mops M).Nodup) (hm : (mslots M).Nodup) (hs : d < a.tmps.size) {v : Value} (hP : P v W) : Mems M (set1 l i) (a.put (some d) v) W := by
  have key : ∀ {M : ML} {k q : Nat} {x y : Nat × Nat × (Value → World → Prop) × Option Nat}, (mops M).Nodup → (mslots M).Nodup → M[k]? = some x → M[q]? = some y → k ≠ q → x.1 ≠ y.1 ∧ x.2.1 ≠ y.2.1 := by
    intro M k q x y h1 h2 hk hq hkq
    have hk1 : (mops M)[k]? = some x.1 := by unfold mops; rw [List.getElem?_map, hk]; rfl
    have hq1 : (mops M)[q]? = some y.1 := by unfold mops; rw [List.getElem?_map, hq]; rfl
    have hk2 : (mslots M)[k]? = some x.2.1 := by unfold mslots; rw [List.getElem?_map, hk]; rfl
    have hq2 : (mslots M)[q]? = some y.2.1 := by unfold mslots; rw [List.getElem?_map, hq]; rfl
    obtain ⟨a1, b1⟩ := List.getElem?_eq_some_iff.1 hk1
    obtain ⟨a2, b2⟩ := List.getElem?_eq_some_iff.1 hk2
    refine ⟨fun e => hkq ((List.getElem?_inj a1 h1).1 (by rw [hk1, hq1, e])), fun e => hkq ((List.getElem?_inj a2 h2).1 (by rw [hk2, hq2, e]))⟩
  intro p hp hl he
  obtain ⟨q, hq⟩ := List.mem_iff_getElem?.1 hp
  by_cases hkq : k = q
  · subst hkq
    rw [hk] at hq
    obtain rfl := Option.some.inj hq
    exact ⟨v, put_same hs, hP⟩
  · obtain ⟨e1, e2⟩ := key hn hm hk hq hkq
    rw [put_ne e2]
    exact h p hp (by simpa [set1, Ne.symm e1] using hl) (live_back he)
theorem Mems.free {M : ML} {l : Nat → Bool} {a : Act} {W : World} (hf : ∀ p ∈ M, l p.1 = false ∨ live l p.2.2.2 = false) : Mems M l a W := fun p hp hl he => by
  rcases hf p hp with e | e
  · rw [hl] at e; cases e
  · rw [he] at e; cases e
def nodupB : List Nat → Bool
  | [] => true
  | x :: l => !l.contains x && nodupB l
theorem nodup_of : ∀ {l : List Nat}, nodupB l = true → l.Nodup
  | [], _ => List.nodup_nil
  | x :: l, h => by
    simp only [nodupB, Bool.and_eq_true, Bool.not_eq_true'] at h
    exact List.nodup_cons.2 ⟨fun hm => by rw [List.contains_iff_mem.2 hm] at h; exact absurd h.1 (by simp), nodup_of h.2⟩
theorem Fr.lt {f0 : Array Value} {ds : List Nat} {a : Act} {d : Nat} (h : Fr f0 ds a) (hd : decide (d < f0.size) = true) : d < a.tmps.size := by rw [h.size]; exact of_decide_eq_true hd
def fill (ds : List Nat) (x : Nat → Value) : Nat → List Value → List Value
  | _, [] => []
  | k, u :: us => (bif ds.contains k then x k else u) :: fill ds x (k + 1) us
theorem fill_length (ds : List Nat) (x : Nat → Value) : ∀ (us : List Value) (k : Nat), (fill ds x k us).length = us.length
  | [], _ => rfl
  | _ :: us, k => by simp [fill, fill_length ds x us (k + 1)]
theorem fill_get (ds : List Nat) (x : Nat → Value) : ∀ (us : List Value) (k n : Nat) (h : n < us.length), (fill ds x k us)[n]? = some (bif ds.contains (k + n) then x (k + n) else us[n])
  | [], _, _, h => by simp at h
  | u :: us, k, 0, _ => by simp [fill]
  | u :: us, k, n + 1, h => by
    have := fill_get ds x us (k + 1) n (by simpa using h)
    simp only [fill, List.getElem?_cons_succ, this, List.getElem_cons_succ]
    rw [show k + 1 + n = k + (n + 1) by omega]
theorem Fr.eq {L0 : List Value} {ds : List Nat} {a : Act} (h : Fr L0.toArray ds a) : a = { tmps := (fill ds (fun n => a.tmps[n]?.getD undef) 0 L0).toArray, defers := [] } := by
  obtain ⟨tm, df⟩ := a
  obtain ⟨h1, h2, h3⟩ := h
  dsimp only at h1 h2 h3
  subst h1
  congr 1
  apply Array.ext'
  refine List.ext_getElem? fun n => ?_
  by_cases hn : n < L0.length
  · rw [show (List.toArray (fill ds (fun n => tm[n]?.getD undef) 0 L0)).toList = fill ds (fun n => tm[n]?.getD undef) 0 L0 from rfl, fill_get _ _ _ _ _ hn, Nat.zero_add, Array.getElem?_toList]
    cases hc : ds.contains n with
    | true =>
      have : n < tm.size := by rw [h2]; simpa using hn
      simp [this]
    | false =>
      rw [h3 n hc]
      simp [hn]
  · rw [List.getElem?_eq_none (by rw [Array.length_toList, h2]; simpa using hn), List.getElem?_eq_none (by rw [show (List.toArray (fill ds (fun n => tm[n]?.getD undef) 0 L0)).toList = fill ds (fun n => tm[n]?.getD undef) 0 L0 from rfl, fill_length]; omega)]
end Go.Proofs.YtcmomjnailihpaaGreatDoor
namespace Go.Proofs.YtcmomjnailihpaaGreatDoor
open Go.RowKit
open LnM (wd upd)
attribute [local go_sem] Oper.semAt_some
theorem own_base {w : World} {b b' : Nat} {e : TypeId} {size : Nat} {v : Value} {n : Nat} {xs : List Value} (h : w.ownsRow b e size v n xs) (hb : b' ≤ b) : w.ownsRow b' e size v n xs :=
  ⟨h.1, h.2.imp id fun ⟨g, cap, cur, e1, e2, r⟩ => ⟨g, cap, cur, e1, Nat.le_trans hb e2, r⟩⟩
theorem run_app_own {P : Program} {w : World} {base : Nat} (t ty e : TypeId) (z : Value) (bytes : Nat) (ht : P.underlying t = some (.slice e)) (hi : (P.info? e).map (fun i => (i.zero, i.size, i.bytes)) = some (some z, 1, bytes)) (hz : z.cells.size = 1)
    (v : Value) (n : Nat) (xs : List Value) (hown : w.ownsRow base e 1 v n xs) (g : Nat) (u : Value) (hu : w.cell? ⟨g, 0, none⟩ = some u) (h1 : u.oneCell' = true) (hn : (n + 1) * bytes ≤ 140737488355328) (hn2 : n ≤ 1000000) (hbase : base ≤ w.heap.size) :
    ∃ v' w', (Builtin.append_ #[t, t] ty #[v, .slice (some ⟨g, 0, none⟩) 1 1]).run P w = .ok v' w' ∧ w'.ownsRow base e 1 v' (n + 1) (xs ++ [u]) ∧ w.grownBy w' v.ownBlock ∧ ∀ b, v'.ownBlock = some b → v.ownBlock = some b ∨ w.heap.size ≤ b := by
  obtain ⟨i0, hi, hz0, hz1, hz2⟩ := info_parts hi
  have hnews : ∀ j y, [u][j]? = some y → w.cell? ((⟨g, 0, none⟩ : Addr).add j) = some y := fun j y hj => by
    match j, hj with
    | 0, hj => cases hj; rw [addr_add]; exact hu
  have h1c : ∀ y ∈ [u], y.oneCell' = true := by intro y hy; simp at hy; subst hy; exact h1
  have blkOf : ∀ {v' : Value} {w' : World} {n' : Nat} {xs' : List Value}, w'.ownsRow w.heap.size e 1 v' n' xs' → ∀ b, v'.ownBlock = some b → v.ownBlock = some b ∨ w.heap.size ≤ b := fun h b hb => .inr (h.lt b hb).1
  have hown0 := hown
  rcases hown.2 with ⟨rfl, rfl⟩ | ⟨g0, cap, cur, rfl, hb, hg, hcap, hmax, hsz, htk⟩
  · obtain ⟨v', w', hrun, r1, r2, _⟩ := run_append_own (P := P) w w.heap.size t ty e i0 z 1 bytes ht hi hz0 hz1 hz2 hz (by decide) (.slice none 0 0) 0 [] (World.ownsRow_nil w _ _ 1) ⟨g, 0, none⟩ 1 1 [u] rfl hnews h1c (by unfold maxLen; omega) (by omega) (Nat.le_refl _)
    obtain rfl : xs = [] := List.eq_nil_of_length_eq_zero (by have := hown.1; simpa using this)
    exact ⟨v', w', hrun, own_base r1 hbase, r2, blkOf r1⟩
  · by_cases hroom : n + 1 ≤ cap
    · obtain ⟨w', hrun, r1, r2⟩ := run_append_own_spare (P := P) w base t ty e i0 1 ht hi hz1 g0 n cap xs hown0 ⟨g, 0, none⟩ 1 1 [u] rfl hnews h1c hroom
      exact ⟨_, w', hrun, r1, r2, fun b hb => .inl hb⟩
    · obtain ⟨v', w', hrun, r1, r2⟩ := run_append_arg_grows (P := P) w t ty e i0 z 1 bytes ht hi hz0 hz1 hz2 hz (by decide) ⟨g0, 0, none⟩ n cap xs (by have := hown.1; simpa using this) (fun j y hj => hown0.cells (g := g0) rfl j y hj) ⟨g, 0, none⟩ 1 1 [u] rfl hnews (by omega) (by unfold maxLen; omega) hn
      exact ⟨v', w', hrun, own_base r1 hbase, ⟨r2.os, r2.tape, r2.output, r2.size, fun k hk _ => r2.block k hk (by simp)⟩, blkOf r1⟩
theorem oper_app_own {o : Oper} {a : Act} {K : Act → World → Prop} {Q : Exit → Act → World → Prop} {w : World} {base : Nat} (t e : TypeId) (z : Value) (bytes : Nat) (ht : Tryz.prog.underlying t = some (.slice e)) (hi : (Tryz.prog.info? e).map (fun i => (i.zero, i.size, i.bytes)) = some (some z, 1, bytes)) (hz : z.cells.size = 1)
    (s x : Operand) (ho : o.op = .call { callee := .builtin .append, args := #[s, x], argTypes := #[t, t] }) (v : Value) (n : Nat) (xs : List Value) (hs : a.eval s = v) (hown : w.ownsRow base e 1 v n xs)
    (g : Nat) (u : Value) (hx : a.eval x = .slice (some ⟨g, 0, none⟩) 1 1) (hu : w.cell? ⟨g, 0, none⟩ = some u) (h1 : u.oneCell' = true) (hn : (n + 1) * bytes ≤ 140737488355328) (hn2 : n ≤ 1000000) (hbase : base ≤ w.heap.size)
    (h : ∀ v' w', w'.ownsRow base e 1 v' (n + 1) (xs ++ [u]) → w.grownBy w' v.ownBlock → (∀ b, v'.ownBlock = some b → v.ownBlock = some b ∨ w.heap.size ≤ b) → K (a.put o.dst v') w') :
    Oper.wp Tryz.prog o a w K Q := by
  obtain ⟨v', w', hrun, r1, r2, r3⟩ := run_app_own (P := Tryz.prog) t o.type e z bytes ht hi hz v n xs hown g u hu h1 hn hn2 hbase
  unfold Oper.wp
  simp [execOp, ho, resolve, invoke, builtin, hs, hx, hrun, Result.andThen]
  exact h v' w' r1 r2 r3
theorem oper_app_full {o : Oper} {a : Act} {K : Act → World → Prop} {Q : Exit → Act → World → Prop} {w : World} (t : TypeId) (ht : Tryz.prog.underlying t = some (.slice 3))
    (s x : Operand) (ho : o.op = .call { callee := .builtin .append, args := #[s, x], argTypes := #[t, t] }) (ao : Option Addr) (n : Nat) (l : List Int) (hs : a.eval s = .slice ao n n) (hl : Sl w (.slice ao n n) l)
    (g : Nat) (z : Int) (hx : a.eval x = .slice (some ⟨g, 0, none⟩) 1 1) (hu : w.cell? ⟨g, 0, none⟩ = some (.int .i64 z)) (hn : n ≤ 1000000)
    (h : ∀ g' cap w', Sl w' (.slice (some ⟨g', 0, none⟩) (n + 1) cap) (l ++ [z]) → w.heap.size ≤ g' → Below w.heap.size w w' → K (a.put o.dst (.slice (some ⟨g', 0, none⟩) (n + 1) cap)) w') :
    Oper.wp Tryz.prog o a w K Q := by
  obtain ⟨i0, hi, hz0, hz1, hz2⟩ := info_parts info_int
  have hnews : ∀ j y, [Value.int .i64 z][j]? = some y → w.cell? ((⟨g, 0, none⟩ : Addr).add j) = some y := fun j y hj => by
    match j, hj with
    | 0, hj => cases hj; rw [addr_add]; exact hu
  have H : ∃ v' w', (Builtin.append_ #[t, t] o.type #[.slice ao n n, .slice (some ⟨g, 0, none⟩) 1 1]).run Tryz.prog w = .ok v' w' ∧ w'.ownsRow w.heap.size 3 1 v' (n + 1) ((l ++ [z]).map (Value.int .i64)) ∧ w.grownBy w' none := by
    rw [List.map_append]
    rcases hl with ⟨e, rfl⟩ | ⟨b, off, cap, e, h1, h2, h3, h4⟩
    · cases e
      obtain ⟨v', w', hrun, r1, r2, _⟩ := run_append_own (P := Tryz.prog) w w.heap.size t o.type 3 i0 (.int .i64 0) 1 8 ht hi hz0 hz1 hz2 rfl (by decide) (.slice none 0 0) 0 [] (World.ownsRow_nil w _ _ 1) ⟨g, 0, none⟩ 1 1 [.int .i64 z] rfl hnews (by intro y hy; simp at hy; subst hy; rfl) (by unfold maxLen; omega) (by omega) (Nat.le_refl _)
      exact ⟨v', w', hrun, r1, r2⟩
    · cases e
      refine run_append_arg_grows (P := Tryz.prog) w t o.type 3 i0 (.int .i64 0) 1 8 ht hi hz0 hz1 hz2 rfl (by decide) ⟨b, off, none⟩ l.length l.length (l.map (Value.int .i64)) (by simp) (fun j y hj => ?_) ⟨g, 0, none⟩ 1 1 [.int .i64 z] rfl hnews (by omega) (by unfold maxLen; omega) (by omega)
      rw [addr_add]
      rw [List.getElem?_map] at hj
      by_cases hjl : j < l.length
      · rw [h4 j hjl, gi_lt hjl]
        rw [List.getElem?_eq_getElem hjl] at hj
        exact hj
      · rw [List.getElem?_eq_none (by omega)] at hj; cases hj
  obtain ⟨v', w', hrun, r1, r2⟩ := H
  have hS := Sl.of_own r1
  rcases r1.2 with ⟨rfl, h0⟩ | ⟨g', cap, cur, rfl, hb, hg, hn', hm, hsz, htk⟩
  · omega
  unfold Oper.wp
  simp [execOp, ho, resolve, invoke, builtin, hs, hx, hrun, Result.andThen]
  exact h g' cap w' hS hb ⟨r2.os, r2.tape, r2.output, r2.size, fun k hk => r2.block k hk (by simp)⟩
theorem Only.grown {S : List Nat} {a b c : World} {row : Option Nat} (h : Only S a b) (hg : b.grownBy c row) (hr : ∀ k, row = some k → k ∈ S ∨ a.heap.size ≤ k) : Only S a c :=
  ⟨hg.os.trans h.os, hg.tape.trans h.tape, hg.output.trans h.output, Nat.le_trans h.size hg.size, fun k hk hs => (hg.block k (Nat.lt_of_lt_of_le hk h.size) (fun e => by
    rcases hr k e.symm with h1 | h1
    · exact hs h1
    · omega)).trans (h.block k hk hs)⟩
structure Own3 (w0 W : World) (base : Nat) (rv bv sv cr : Value) (nr : Nat) (xr : List Value) (cb : Value) (nb : Nat) (xb : List Value) (cs : Value) (ns : Nat) (xs : List Value) : Prop where
  r : W.ownsRow base 70 1 cr nr xr
  b : W.ownsRow base 3 1 cb nb xb
  s : W.ownsRow base 3 1 cs ns xs
  le : w0.heap.size ≤ W.heap.size
  fr : ∀ g, cr.ownBlock = some g → rv.ownBlock = some g ∨ w0.heap.size ≤ g
  fb : ∀ g, cb.ownBlock = some g → bv.ownBlock = some g ∨ w0.heap.size ≤ g
  fs : ∀ g, cs.ownBlock = some g → sv.ownBlock = some g ∨ w0.heap.size ≤ g
  bs : ∀ g, cb.ownBlock = some g → cs.ownBlock ≠ some g
theorem own_types {w : World} {b1 b2 : Nat} {e1 e2 : TypeId} {v1 v2 : Value} {n1 n2 : Nat} {x1 x2 : List Value} (h1 : w.ownsRow b1 e1 1 v1 n1 x1) (h2 : w.ownsRow b2 e2 1 v2 n2 x2) (hne : e1 ≠ e2) : ∀ g, v1.ownBlock = some g → v2.ownBlock ≠ some g := by
  intro g hg hg2
  rcases h1.2 with ⟨rfl, _⟩ | ⟨g1, c1, u1, rfl, _, k1, _⟩
  · cases hg
  rcases h2.2 with ⟨rfl, _⟩ | ⟨g2, c2, u2, rfl, _, k2, _⟩
  · cases hg2
  cases hg; cases hg2
  rw [k1] at k2
  simp at k2
  exact hne k2.2
section
variable {w0 W W' : World} {base : Nat} {rv bv sv cr cb cs : Value} {nr nb ns : Nat} {xr xb xs : List Value}
theorem Own3.grown (h : Own3 w0 W base rv bv sv cr nr xr cb nb xb cs ns xs) {row : Option Nat} (hg : W.grownBy W' row) (h1 : ∀ g, row = some g → cr.ownBlock ≠ some g ∧ cb.ownBlock ≠ some g ∧ cs.ownBlock ≠ some g) : Own3 w0 W' base rv bv sv cr nr xr cb nb xb cs ns xs := by
  have k : ∀ v : Value, (∀ g, row = some g → v.ownBlock ≠ some g) → v.ownBlock = none ∨ v.ownBlock ≠ row := fun v hv => by
    cases hr : row with
    | none => cases hv2 : v.ownBlock with
      | none => exact .inl rfl
      | some x => exact .inr (by simp)
    | some g => exact .inr (hv g hr)
  exact ⟨h.r.kept hg (k _ fun g e => (h1 g e).1), h.b.kept hg (k _ fun g e => (h1 g e).2.1), h.s.kept hg (k _ fun g e => (h1 g e).2.2), Nat.le_trans h.le hg.size, h.fr, h.fb, h.fs, h.bs⟩
theorem Own3.below (h : Own3 w0 W base rv bv sv cr nr xr cb nb xb cs ns xs) (hb : Below W.heap.size W W') : Own3 w0 W' base rv bv sv cr nr xr cb nb xb cs ns xs :=
  h.grown (row := none) ⟨hb.os, hb.tape, hb.output, hb.size, fun k hk _ => hb.block k hk⟩ (fun g e => by cases e)
theorem types_ne : (70 : TypeId) ≠ 3 := by decide
theorem Own3.setR (h : Own3 w0 W base rv bv sv cr nr xr cb nb xb cs ns xs) (hg : W.grownBy W' cr.ownBlock) {v : Value} {n : Nat} {ys : List Value} (hr : W'.ownsRow base 70 1 v n ys) (hv : ∀ g, v.ownBlock = some g → cr.ownBlock = some g ∨ W.heap.size ≤ g) : Own3 w0 W' base rv bv sv v n ys cb nb xb cs ns xs := by
  have kb : cb.ownBlock = none ∨ cb.ownBlock ≠ cr.ownBlock := by
    cases hc : cb.ownBlock with
    | none => exact .inl rfl
    | some x => exact .inr fun e => own_types h.r h.b types_ne x e.symm hc
  have ks : cs.ownBlock = none ∨ cs.ownBlock ≠ cr.ownBlock := by
    cases hc : cs.ownBlock with
    | none => exact .inl rfl
    | some x => exact .inr fun e => own_types h.r h.s types_ne x e.symm hc
  refine ⟨hr, h.b.kept hg kb, h.s.kept hg ks, Nat.le_trans h.le hg.size, fun g e => ?_, h.fb, h.fs, h.bs⟩
  rcases hv g e with h1 | h1
  · exact h.fr g h1
  · exact .inr (Nat.le_trans h.le h1)
theorem Own3.setB (h : Own3 w0 W base rv bv sv cr nr xr cb nb xb cs ns xs) (hg : W.grownBy W' cb.ownBlock) {v : Value} {n : Nat} {ys : List Value} (hr : W'.ownsRow base 3 1 v n ys) (hv : ∀ g, v.ownBlock = some g → cb.ownBlock = some g ∨ W.heap.size ≤ g) : Own3 w0 W' base rv bv sv cr nr xr v n ys cs ns xs := by
  have kr : cr.ownBlock = none ∨ cr.ownBlock ≠ cb.ownBlock := by
    cases hc : cr.ownBlock with
    | none => exact .inl rfl
    | some x => exact .inr fun e => own_types h.r h.b types_ne x hc e.symm
  have ks : cs.ownBlock = none ∨ cs.ownBlock ≠ cb.ownBlock := by
    cases hc : cs.ownBlock with
    | none => exact .inl rfl
    | some x => exact .inr fun e => h.bs x e.symm hc
  refine ⟨h.r.kept hg kr, hr, h.s.kept hg ks, Nat.le_trans h.le hg.size, h.fr, fun g e => ?_, h.fs, fun g e e2 => ?_⟩
  · rcases hv g e with h1 | h1
    · exact h.fb g h1
    · exact .inr (Nat.le_trans h.le h1)
  · rcases hv g e with h1 | h1
    · exact h.bs g h1 e2
    · have := (h.s.lt g e2).2; omega
theorem Own3.setS (h : Own3 w0 W base rv bv sv cr nr xr cb nb xb cs ns xs) (hg : W.grownBy W' cs.ownBlock) {v : Value} {n : Nat} {ys : List Value} (hr : W'.ownsRow base 3 1 v n ys) (hv : ∀ g, v.ownBlock = some g → cs.ownBlock = some g ∨ W.heap.size ≤ g) : Own3 w0 W' base rv bv sv cr nr xr cb nb xb v n ys := by
  have kr : cr.ownBlock = none ∨ cr.ownBlock ≠ cs.ownBlock := by
    cases hc : cr.ownBlock with
    | none => exact .inl rfl
    | some x => exact .inr fun e => own_types h.r h.s types_ne x hc e.symm
  have kb : cb.ownBlock = none ∨ cb.ownBlock ≠ cs.ownBlock := by
    cases hc : cb.ownBlock with
    | none => exact .inl rfl
    | some x => exact .inr fun e => h.bs x hc e.symm
  refine ⟨h.r.kept hg kr, h.b.kept hg kb, hr, Nat.le_trans h.le hg.size, h.fr, h.fb, fun g e => ?_, fun g e e2 => ?_⟩
  · rcases hv g e with h1 | h1
    · exact h.fs g h1
    · exact .inr (Nat.le_trans h.le h1)
  · rcases hv g e2 with h1 | h1
    · exact h.bs g e h1
    · have := (h.b.lt g e).2; omega
end
structure RowT (W : World) (b n : Nat) (f : Nat → Int) : Prop where
  row : RowAt W b n f
  ty : ∃ cs, Blk W b cs 73
theorem RowT.same {W W' : World} {b n : Nat} {f : Nat → Int} (h : RowT W b n f) (hs : W.heap.size ≤ W'.heap.size) (e : W'.heap[b]? = W.heap[b]?) : RowT W' b n f :=
  ⟨h.row.same hs e, h.ty.imp fun _ k => e.trans k⟩
theorem RowT.below {W W' : World} {b n : Nat} {f : Nat → Int} (h : RowT W b n f) (hb : Below W.heap.size W W') : RowT W' b n f := h.same hb.size (hb.block b h.row.lt)
theorem RowT.only {W W' : World} {b n : Nat} {f : Nat → Int} {S : List Nat} (h : RowT W b n f) (ho : Only S W W') (hS : b ∉ S) : RowT W' b n f := h.same ho.size (ho.block b h.row.lt hS)
theorem RowT.congr {W : World} {b n : Nat} {f g : Nat → Int} (h : RowT W b n f) (e : ∀ j, j < n → f j = g j) : RowT W b n g := ⟨h.row.congr e, h.ty⟩
theorem RowT.set {W : World} {b n : Nat} {f : Nat → Int} (h : RowT W b n f) {j : Nat} (hj : j < n) (v : Int) : RowT (W.setCells b (j * 12) (wl (wd v))) b n (upd f j v) :=
  ⟨h.row.set hj v, by obtain ⟨cs, hc⟩ := h.ty; obtain ⟨ds, hd, _⟩ := blk_setCells (wl (wd v)) (j * 12) hc; exact ⟨ds, hd⟩⟩
theorem RowT.not_own {W : World} {b n : Nat} {f : Nat → Int} (h : RowT W b n f) {base k : Nat} {e : TypeId} {v : Value} {xs : List Value} (hr : W.ownsRow base e 1 v k xs) (hne : (73 : TypeId) ≠ e) : v.ownBlock ≠ some b := by
  obtain ⟨cs, hc⟩ := h.ty
  exact fun e2 => hc.not_row hne hr e2.symm
end Go.Proofs.YtcmomjnailihpaaGreatDoor
namespace Go.Proofs.YtcmomjnailihpaaGreatDoor
open Go.RowKit
def hotS (tb : Nat) (rv bv sv : Value) : List Nat := tb :: (rv.ownBlock.toList ++ (bv.ownBlock.toList ++ sv.ownBlock.toList))
theorem hot_r {tb : Nat} {rv bv sv : Value} : ∀ k, rv.ownBlock = some k → k ∈ hotS tb rv bv sv := fun k e => by unfold hotS; rw [e]; simp
theorem hot_b {tb : Nat} {rv bv sv : Value} : ∀ k, bv.ownBlock = some k → k ∈ hotS tb rv bv sv := fun k e => by unfold hotS; rw [e]; simp
theorem hot_s {tb : Nat} {rv bv sv : Value} : ∀ k, sv.ownBlock = some k → k ∈ hotS tb rv bv sv := fun k e => by unfold hotS; rw [e]; simp
theorem old_cell {w W W2 : World} {row : Option Nat} (hg : W.grownBy W2 row) (h : ∀ k, row = some k → k < w.heap.size) : ∀ g o : Nat, w.heap.size ≤ g → g < W.heap.size → W2.cell? ⟨g, o, none⟩ = W.cell? ⟨g, o, none⟩ := fun g o h1 h2 =>
  cell_same (hg.block g h2 (fun e => by have := h g e.symm; omega)) o
theorem new_cell {w W W2 : World} (hb : Below W.heap.size W W2) : ∀ g o : Nat, w.heap.size ≤ g → g < W.heap.size → W2.cell? ⟨g, o, none⟩ = W.cell? ⟨g, o, none⟩ := fun _ _ _ h2 => hb.cell (p := ⟨_, _, none⟩) h2
end Go.Proofs.YtcmomjnailihpaaGreatDoor
