/- Lists of data that a call makes: append, what it owns reads as data. -/
import Derived.Test.YtebokdboodgkpaaGreatDoorDecL
import Derived.Test.YtebokdboodgkpaaGreatDoorPkA
namespace Go.Proofs.YtebokdboodgkpaaGreatDoor
open Go.RowKit
open DecM (Dt gd gd_lt gd_mem okD Ln)
attribute [local go_sem] Oper.semAt_some

/-- The cells of data, one behind the other. -/
def dfl (ds : List Dt) : List Value := ds.flatMap fun p => [.int .i64 p.t, .int .i64 p.lo, .int .i64 p.hi]
theorem dfl_length : ∀ ds : List Dt, (dfl ds).length = ds.length * 3
  | [] => rfl
  | p :: ds => by
    have := dfl_length ds
    unfold dfl at this ⊢
    rw [List.flatMap_cons, List.length_append, this]
    simp; omega
theorem dfl_snoc (ds : List Dt) (p : Dt) : dfl (ds ++ [p]) = dfl ds ++ [.int .i64 p.t, .int .i64 p.lo, .int .i64 p.hi] := by unfold dfl; simp
theorem dfl_get : ∀ (ds : List Dt) (j : Nat), j < ds.length → (dfl ds)[j * 3]? = some (.int .i64 (gd ds j).t) ∧ (dfl ds)[j * 3 + 1]? = some (.int .i64 (gd ds j).lo) ∧ (dfl ds)[j * 3 + 2]? = some (.int .i64 (gd ds j).hi)
  | [], j, h => by cases h
  | p :: ds, 0, _ => by simp [dfl, gd]
  | p :: ds, j + 1, h => by
    have ih := dfl_get ds j (by simpa using h)
    have e : dfl (p :: ds) = [.int .i64 p.t, .int .i64 p.lo, .int .i64 p.hi] ++ dfl ds := rfl
    have g : gd (p :: ds) (j + 1) = gd ds j := rfl
    rw [e, g, show (j + 1) * 3 = 3 + j * 3 by omega, show 3 + j * 3 + 1 = 3 + (j * 3 + 1) by omega, show 3 + j * 3 + 2 = 3 + (j * 3 + 2) by omega]
    have key : ∀ i, ([.int .i64 p.t, .int .i64 p.lo, .int .i64 p.hi] ++ dfl ds : List Value)[3 + i]? = (dfl ds)[i]? := fun i => by
      rw [List.getElem?_append_right (by simp)]; simp
    rw [key, key, key]
    exact ih
theorem SlD.of_own {w : World} {base n : Nat} {e : TypeId} {v : Value} {ds : List Dt} (h : w.ownsRow base e 3 v n (dfl ds)) : SlD w v ds := by
  have hl : n = ds.length := by have := h.1; rw [dfl_length] at this; omega
  subst hl
  rcases h.2 with ⟨rfl, h0⟩ | ⟨g, cap, cur, rfl, hb, hg, hn, hm, hs, ht⟩
  · exact .inl ⟨rfl, List.eq_nil_of_length_eq_zero h0⟩
  · refine .inr ⟨g, 0, cap, rfl, hn, hm, (Array.getElem?_eq_some_iff.1 hg).1, fun j hj => ?_⟩
    obtain ⟨k0, k1, k2⟩ := dfl_get ds j hj
    have c0 := h.cells (g := g) rfl (j * 3) _ k0
    have c1 := h.cells (g := g) rfl (j * 3 + 1) _ k1
    have c2 := h.cells (g := g) rfl (j * 3 + 2) _ k2
    rw [addr_add] at c0 c1 c2
    exact ⟨c0, c1, c2⟩
theorem info_dt : (Tryz.prog.info? 58).map (fun i => (i.zero, i.size, i.bytes)) = some (some (.agg #[.int .i64 0, .int .i64 0, .int .i64 0]), 3, 24) := by kernel_rfl

/-- out = append(out, d), for a slice of data of the call's own. -/
theorem wp_app_dt {ops : Array Oper} {rest : List Oper} {o : Oper} {a : Act} {Q : Exit → Act → World → Prop} {wr : World} {base : Nat} {v : Value} {n : Nat} {ds : List Dt} (p : Dt) (t : TypeId)
    (ht : Tryz.prog.underlying t = some (.slice 58)) (hgd : o.guard = none) (s x : Operand) (ho : o.op = .call { callee := .builtin .append, args := #[s, x], argTypes := #[t, t] })
    (hs : a.eval s = v) (hx : a.eval x = .slice (some ⟨wr.heap.size, 0, none⟩) 1 1) (hown : wr.ownsRow base 58 3 v n (dfl ds)) (hn : n + 1 ≤ 1000000000) (hbase : base ≤ wr.heap.size)
    (h : ∀ g cap w', w'.ownsRow base 58 3 (.slice (some ⟨g, 0, none⟩) (n + 1) cap) (n + 1) (dfl (ds ++ [p])) → (wr.alloc (.cells #[.int .i64 p.t, .int .i64 p.lo, .int .i64 p.hi] 58)).grownBy w' v.ownBlock → Below base wr w' → wpList Tryz.prog ops Q rest (a.put o.dst (.slice (some ⟨g, 0, none⟩) (n + 1) cap)) w') :
    wpList Tryz.prog ops Q (o :: rest) a (wr.alloc (.cells #[.int .i64 p.t, .int .i64 p.lo, .int .i64 p.hi] 58)) := by
  obtain ⟨i0, hi, hz0, hz1, hz2⟩ := info_parts info_dt
  refine wpList_append_own _ hgd s x t ho base 58 i0 (.agg #[.int .i64 0, .int .i64 0, .int .i64 0]) 3 24 ht hi hz0 hz1 hz2 rfl (by decide) v n _ hs (hown.alloc _) ⟨wr.heap.size, 0, none⟩ 1 1 [.int .i64 p.t, .int .i64 p.lo, .int .i64 p.hi] hx rfl ?_ ?_ (by unfold maxLen; omega) (by omega) (by simp; omega) ?_
  · intro j u hu
    rw [addr_add]
    have hb := Blk.new wr #[.int .i64 p.t, .int .i64 p.lo, .int .i64 p.hi] 58
    match j, hu with
    | 0, hu => rw [show (0 : Nat) + 0 = 0 from rfl, hb.cell]; exact hu
    | 1, hu => rw [show (0 : Nat) + 1 = 1 from rfl, hb.cell]; exact hu
    | 2, hu => rw [show (0 : Nat) + 2 = 2 from rfl, hb.cell]; exact hu
  · intro u hu
    simp only [List.mem_cons, List.not_mem_nil, or_false] at hu
    rcases hu with rfl | rfl | rfl <;> rfl
  intro v' w' hown' hgrow hnil
  rw [← dfl_snoc] at hown'
  rcases hown'.2 with ⟨_, h0⟩ | ⟨g, cap, cur, rfl, hg⟩
  · omega
  · refine h g cap w' hown' hgrow ?_
    refine ((Below.refl base wr).alloc hbase _).grown hgrow (by simp; omega) (fun k hk => ?_)
    exact (hown.lt k hk).1
end Go.Proofs.YtebokdboodgkpaaGreatDoor
