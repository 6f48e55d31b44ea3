/- A region that draws its order, in a round of a loop over an iterator: the loads first. -/
import Derived.Test.YtbnilfjhalildaaGreatDoorLoop
import Derived.OrdersHeld
import Derived.OrdersIn
import Derived.Deep.RegionHeld
namespace Go.Proofs.YtbnilfjhalildaaGreatDoor
open Go.RowKit

theorem rows_in_round {l n : Nat} {P : Program} {row : String} {args : Array Value} {w : World} {R : Value → World → Prop} (h : Rows P row args w R) : RowsIn (Fence.wide.inRound l) n P row args w R :=
  fun c cs _ => let ⟨v, w', r, s⟩ := h c cs; ⟨v, w', r, stepsIn_wide.2 s⟩

theorem oper_in_round {l n : Nat} {P : Program} {o : Oper} {K : Act → World → Prop} {Q : Exit → Act → World → Prop} {a : Act} {w : World} (hd : ∀ c, o.op ≠ .defer c) (h : o.wp P a w K Q) : o.wpIn (Fence.wide.inRound l) n P a w K Q := by
  unfold Oper.wp at h
  unfold Oper.wpIn
  refine ⟨fun _ _ => trivial, ?_⟩
  have e : o.semAt (Fence.wide.inRound l).round a.eval = execOp a.eval o := Oper.semAt_some l _ _ hd
  rw [e]
  generalize (execOp a.eval o).run P w = r at *
  cases r with
  | ok x w' =>
    cases x with
    | value v => exact h
    | skip => exact h
    | defer d => exact h
    | enter f args => exact ⟨fun h0 => by simp [Fence.wide] at h0, CallsIn.inRound l (callsIn_wide.2 h)⟩
    | row row args => exact ⟨fun h0 => by simp [Fence.wide] at h0, rows_in_round h⟩
    | _ => exact h.elim
  | halt x w' => cases x <;> simp only [Oper.upon, Oper.uponIn] at h ⊢ <;> exact h

def noDefer (o : Oper) : Bool := match o.op with | .defer _ => false | _ => true
theorem noDefer_spec {ops : Array Oper} (h : ops.all noDefer = true) : ∀ (i : Nat) (o : Oper), ops[i]? = some o → ∀ c, o.op ≠ .defer c := by
  intro i o ho c hc
  have := Array.all_eq_true.1 h i (Array.getElem?_eq_some_iff.1 ho).1
  rw [(Array.getElem?_eq_some_iff.1 ho).2] at this
  unfold noDefer at this
  rw [hc] at this
  cases this

theorem any_in_round {l n : Nat} {P : Program} {md : Region.Mode} {ops : Array Oper} {Q : Exit → Act → World → Prop} (hd : ∀ (i : Nat) (o : Oper), ops[i]? = some o → ∀ c, o.op ≠ .defer c) (hQ : ¬ LetsOut Q) :
    ∀ (fuel : Nat) (listed : Array Bool) (a : Act) (w : World), wpAny P md ops Q fuel listed a w → wpAnyIn (Fence.wide.inRound l) n P md ops Q fuel listed a w := by
  intro fuel
  induction fuel with
  | zero => exact fun _ _ _ h => h
  | succ fuel ih =>
    intro listed a w h
    refine ⟨h.1, fun i hi => ?_⟩
    have h2 := h.2 i hi
    unfold wpOp at h2
    unfold wpOpIn
    cases ho : ops[i]? with
    | none => simp only [ho] at h2 ⊢; exact ih _ _ _ h2
    | some o =>
      simp only [ho] at h2 ⊢
      split
      · rename_i hw
        simp only [hw, if_true] at h2
        rcases h2 with h2 | ⟨_, h2⟩
        · exact Oper.wpIn_mono (fun a w => ih _ a w) (oper_in_round (hd i o ho) h2)
        · exact absurd h2 hQ
      · rename_i hw
        simp only [hw] at h2
        exact ⟨fun _ _ => trivial, ih _ _ _ h2⟩

/-- The beginning: a region that draws its order, in a round. -/
theorem round_region_held {l n : Nat} {P : Program} {id : Nat} {ops : Array Oper} {S : World → Prop} {R : Act → World → Prop} {a : Act} {w : World} (hm : P.follows .mixedOrders = true) (hd : ops.all noDefer = true)
    (h : wpAnyH P .any ops (fun e a w => e = .normal ∧ R a w) S ops.size (Array.replicate ops.size false) a w.drew) : (Code.region id ops true).wpIn (Fence.wide.inRound l) n P (fun e a w => e = .normal ∧ R a w) a w :=
  wpIn_region_any hm (any_in_round (noDefer_spec hd) (fun h => by obtain ⟨_, _, h0, _⟩ := h; cases h0) _ _ _ _ (wpAny_of_held _ _ _ _ h))

section
variable {P : Program} {ops : Array Oper} {S : World → Prop} {o : Oper} {a : Act}
theorem held_load {ty : TypeId} {p : Operand} {ad : Addr} {v : Value} (hg : o.guard = none) (ho : o.op = .load ty p) (hp : a.eval p = .pointer (some ad)) (hagg : ∀ w, (isAgg ty).run P w = .ok false w) (hc : ∀ w, S w → w.cell? ad = some v) :
    YieldsIf P ops S o v a := by
  refine .inl ⟨by simp [Region.wanted, hg], fun w hs => ?_⟩
  have h := hc w hs
  simp only [execOp, ho, hp]
  simp [go_sem, hagg, h]
theorem held_move {x : Operand} {v : Value} (hg : o.guard = none) (ho : o.op = .move x) (hv : a.eval x = v) : YieldsIf P ops S o v a :=
  .inl ⟨by simp [Region.wanted, hg], fun w _ => by simp [execOp, ho, hv]⟩
theorem held_index {ty e : TypeId} {x i : Operand} {b n cap k : Nat} {v : Value} (hg : o.guard = none) (ho : o.op = .indexAddr ty x i) (hx : a.eval x = .slice (some ⟨b, 0, none⟩) n cap) (hi : a.eval i = .int .i64 (k : Nat)) (ht : P.underlying ty = some (.slice e)) (hk : k < n) (hz : ∀ w, (Go.sizeOf e).run P w = .ok 1 w) (hv : v = .pointer (some ⟨b, k, none⟩)) :
    YieldsIf P ops S o v a := by
  refine .inl ⟨by simp [Region.wanted, hg], fun w _ => ?_⟩
  subst hv
  simp only [execOp, ho, hx, hi]
  simp [Instr.indexAt, run_underlying ht, asIntOf, hz, hk, addr_add]

variable {Q : Exit → Act → World → Prop} {md : Region.Mode}
/-- Take number i first; what is left is written out. -/
theorem held_take {i : Nat} {dst : Option Tmp} {op : Op} {ty : TypeId} {ps : String} {af : Array Edge} {v : Value} {fuel : Nat} {l l' : Array Bool} {t t' : Array Value} {w : World} (hi : ops[i]? = some { dst := dst, op := op, type := ty, pos := ps, after := af, guard := none })
    (hs : Region.noSelect ops = true) (hf : Region.free md ops l i = true) (hr : (Region.ready md ops l).contains i = true) (hQ : ∀ c a w, Q (.panic c) (a.put dst v) w → Q (.panic c) a w)
    (hy : YieldsIf P ops S { dst := dst, op := op, type := ty, pos := ps, after := af, guard := none } v { tmps := t, defers := [] }) (hS : S w) (hl : l.setIfInBounds i true = l') (ht : Act.put { tmps := t, defers := [] } dst v = { tmps := t', defers := [] })
    (h : wpAnyH P md ops Q S fuel l' { tmps := t', defers := [] } w) : wpAnyH P md ops Q S (fuel + 1) l { tmps := t, defers := [] } w := by
  refine wpAnyH_take hi hs hf hr hQ hy hS ?_
  rw [hl]
  show wpAnyH P md ops Q S fuel l' (Act.put { tmps := t, defers := [] } dst v) w
  rw [ht]; exact h
/-- Number i alone may come up. -/
theorem held_only {i : Nat} {dst : Option Tmp} {op : Op} {ty : TypeId} {ps : String} {af : Array Edge} {fuel : Nat} {l l' : Array Bool} {w : World} (hi : ops[i]? = some { dst := dst, op := op, type := ty, pos := ps, after := af, guard := none })
    (hr : Region.ready md ops l = [i]) (hl : l.setIfInBounds i true = l')
    (h : Oper.wp P { dst := dst, op := op, type := ty, pos := ps, after := af, guard := none } a w (fun a' w' => S w' ∧ wpAnyH P md ops Q S fuel l' a' w') Q) : wpAnyH P md ops Q S (fuel + 1) l a w := by
  refine wpAnyH_all hr (by simp) (fun j hj => ?_)
  simp at hj
  subst hj
  unfold wpOp
  simp only [hi, hl]
  rw [if_pos (by simp [Region.wanted])]
  exact .inl h
/-- Numbers i and j may come up. -/
theorem held_two {i j : Nat} {dst dst2 : Option Tmp} {op op2 : Op} {ty ty2 : TypeId} {ps ps2 : String} {af af2 : Array Edge} {fuel : Nat} {l l' l2 : Array Bool} {w : World} (hi : ops[i]? = some { dst := dst, op := op, type := ty, pos := ps, after := af, guard := none })
    (hj : ops[j]? = some { dst := dst2, op := op2, type := ty2, pos := ps2, after := af2, guard := none }) (hr : Region.ready md ops l = [i, j]) (hl : l.setIfInBounds i true = l') (hl2 : l.setIfInBounds j true = l2)
    (h : Oper.wp P { dst := dst, op := op, type := ty, pos := ps, after := af, guard := none } a w (fun a' w' => S w' ∧ wpAnyH P md ops Q S fuel l' a' w') Q)
    (h2 : Oper.wp P { dst := dst2, op := op2, type := ty2, pos := ps2, after := af2, guard := none } a w (fun a' w' => S w' ∧ wpAnyH P md ops Q S fuel l2 a' w') Q) : wpAnyH P md ops Q S (fuel + 1) l a w := by
  refine wpAnyH_all hr (by simp) (fun k hk => ?_)
  simp at hk
  rcases hk with rfl | rfl
  · unfold wpOp
    simp only [hi, hl]
    rw [if_pos (by simp [Region.wanted])]
    exact .inl h
  · unfold wpOp
    simp only [hj, hl2]
    rw [if_pos (by simp [Region.wanted])]
    exact .inl h2
end
theorem cell_far {w : World} {p q : Addr} (h : q.block ≠ p.block) (u : Value) : (w.setCell p u).cell? q = w.cell? q := World.cell?_of_block (w := w) (Below.heap_setCell w p u q.block h)
end Go.Proofs.YtbnilfjhalildaaGreatDoor
