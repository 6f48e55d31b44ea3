/- for i, n := range slices.Backward(s) { body }: what the loop's body owes, for a body that writes boxes of its own. -/
import Derived.Test.YtbnilfjhalildaaGreatDoorBack
namespace Go.Proofs.YtbnilfjhalildaaGreatDoor
open Go.RowKit Go.Shelf

theorem addr_add (b off j : Nat) : (⟨b, off, none⟩ : Addr).add j = ⟨b, off + j, none⟩ := by unfold Addr.add; split <;> simp_all
theorem ints_one (xs : List Int) : ∀ u ∈ xs.map (Value.int .i64), u.oneCell' = true := by
  intro u hu
  obtain ⟨x, _, rfl⟩ := List.mem_map.1 hu
  rfl
theorem Sl.news {w : World} {b off : Nat} {xs : List Int} (h4 : ∀ j, j < xs.length → w.cell? ⟨b, off + j, none⟩ = some (.int .i64 (gi xs j))) : ∀ j u, (xs.map (Value.int .i64))[j]? = some u → w.cell? ((⟨b, off, none⟩ : Addr).add j) = some u := by
  intro j u hu
  rw [addr_add]
  rw [List.getElem?_map] at hu
  by_cases hj : j < xs.length
  · rw [List.getElem?_eq_getElem hj] at hu
    cases hu
    rw [h4 j hj, gi_lt hj]
  · rw [List.getElem?_eq_none (by omega)] at hu; cases hu

/-- []int{n} is the call's own. -/
theorem own_lit (w : World) (n : Int) : (w.alloc (.cells #[.int .i64 n] 3)).ownsRow w.heap.size 3 1 (.slice (some ⟨w.heap.size, 0, none⟩) 1 1) 1 ([n].map (Value.int .i64)) :=
  ⟨rfl, .inr ⟨w.heap.size, 1, #[.int .i64 n], rfl, Nat.le_refl _, World.alloc_heap_new w _, Nat.le_refl _, by unfold maxLen; omega, rfl, rfl⟩⟩

theorem madeCells_int (n : Nat) : (madeCells #[.int .i64 0] (n * 1)).toList = (List.replicate n (0 : Int)).map (Value.int .i64) := by
  apply List.ext_getElem
  · simp [madeCells]
  · intro i h1 h2
    simp [madeCells, Nat.mod_one]

/-- make([]int, n) -/
theorem wp_make_int {w : World} {ops : Array Oper} {rest : List Oper} {o : Oper} {a : Act} {Q : Exit → Act → World → Prop} (t : TypeId) (ht : Tryz.prog.underlying t = some (.slice 3)) (hg : o.guard = none) (l c : Operand) (hop : o.op = Op.makeSlice t l c)
    (kl kc : IntKind) (n : Nat) (hl : a.eval l = .int kl n) (hc : a.eval c = .int kc n) (hn : n ≤ 1000000)
    (hK : ∀ w', w'.ownsRow w.heap.size 3 1 (.slice (some ⟨w.heap.size, 0, none⟩) n n) n ((List.replicate n (0 : Int)).map (Value.int .i64)) → Below w.heap.size w w' → wpList Tryz.prog ops Q rest (a.put o.dst (.slice (some ⟨w.heap.size, 0, none⟩) n n)) w') :
    wpList Tryz.prog ops Q (o :: rest) a w := by
  obtain ⟨i0, hi, hz0, hz1, hz2⟩ := info_parts info_int
  refine wpList_make_full w hg l c t hop w.heap.size 3 i0 (.int .i64 0) 1 ht hi hz0 hz1 kl kc n n n hl hc rfl rfl (by rw [hz2]; omega) (by unfold maxLen; omega) (Nat.le_refl _) ?_
  intro w' h1 h2
  have h1' : w'.ownsRow w.heap.size 3 1 (.slice (some ⟨w.heap.size, 0, none⟩) n n) n ((List.replicate n (0 : Int)).map (Value.int .i64)) := by rw [← madeCells_int]; exact h1
  exact hK w' h1' ((Below.refl _ w).grown h2 (Nat.le_refl _) (fun k e => by cases e))
theorem wpIn_make_int {F : Fence} {m : Nat} {w : World} {ops : Array Oper} {rest : List Oper} {o : Oper} {a : Act} {Q : Exit → Act → World → Prop} (t : TypeId) (ht : Tryz.prog.underlying t = some (.slice 3)) (hg : o.guard = none) (l c : Operand) (hop : o.op = Op.makeSlice t l c)
    (kl kc : IntKind) (n : Nat) (hl : a.eval l = .int kl n) (hc : a.eval c = .int kc n) (hn : n ≤ 1000000)
    (hK : ∀ w', w'.ownsRow w.heap.size 3 1 (.slice (some ⟨w.heap.size, 0, none⟩) n n) n ((List.replicate n (0 : Int)).map (Value.int .i64)) → Below w.heap.size w w' → wpListIn F m Tryz.prog ops Q rest (a.put o.dst (.slice (some ⟨w.heap.size, 0, none⟩) n n)) w') :
    wpListIn F m Tryz.prog ops Q (o :: rest) a w := by
  obtain ⟨i0, hi, hz0, hz1, hz2⟩ := info_parts info_int
  refine wpListIn_plain hg fun K hK' => ?_
  obtain ⟨w', hrun, r1, r2⟩ := run_make_full (P := Tryz.prog) w w.heap.size t 3 i0 (.int .i64 0) 1 ht hi hz0 hz1 kl kc n (by rw [hz2]; omega) (by unfold maxLen; omega) (Nat.le_refl _)
  have h1' : w'.ownsRow w.heap.size 3 1 (.slice (some ⟨w.heap.size, 0, none⟩) n n) n ((List.replicate n (0 : Int)).map (Value.int .i64)) := by rw [← madeCells_int]; exact r1
  unfold Oper.wpIn
  refine ⟨?_, ?_⟩
  · simp [Oper.about, hop]
  · rw [Oper.semAt_plain F _ _ (by rw [hop]; intro c hc'; cases hc')]
    simp [execOp, hop, hl, hc, hrun, Result.andThen]
    exact hK' _ _ (hK w' h1' ((Below.refl _ w).grown r2 (Nat.le_refl _) (fun k e => by cases e)))

/-- append(own, u...), for slices of integers. -/
theorem run_app_sl {w : World} {base : Nat} {v : Value} {k : Nat} {xs ys : List Int} (t ty : TypeId) (ht : Tryz.prog.underlying t = some (.slice 3)) (hown : w.ownsRow base 3 1 v k (xs.map (Value.int .i64))) {u : Value} (hu : Sl w u ys)
    (hk : k + ys.length ≤ 1000000000000) (hpos : 0 < k) (hbase : base ≤ w.heap.size) :
    ∃ g cap w', (Builtin.append_ #[t, t] ty #[v, u]).run Tryz.prog w = .ok (.slice (some ⟨g, 0, none⟩) (k + ys.length) cap) w' ∧ w'.ownsRow base 3 1 (.slice (some ⟨g, 0, none⟩) (k + ys.length) cap) (k + ys.length) ((xs ++ ys).map (Value.int .i64)) ∧ w.grownBy w' v.ownBlock ∧ Below base w w' := by
  obtain ⟨i0, hi, hz0, hz1, hz2⟩ := info_parts info_int
  rcases hu with ⟨rfl, rfl⟩ | ⟨b, off, cap, rfl, h1, h2, h3, h4⟩
  · have hr := run_append_owned_none (P := Tryz.prog) (w := w) base t ty 3 i0 1 ht hi v k _ hown
    rcases hown.2 with ⟨_, h0⟩ | ⟨g, cap, cur, rfl, _⟩
    · omega
    · exact ⟨g, cap, w, hr, by simpa using hown, ⟨rfl, rfl, rfl, Nat.le_refl _, fun _ _ _ => rfl⟩, Below.refl _ _⟩
  · obtain ⟨v', w', hrun, r1, r2, r3⟩ := run_append_own (P := Tryz.prog) w base t ty 3 i0 (.int .i64 0) 1 8 ht hi hz0 hz1 hz2 rfl (by decide) v k _ hown ⟨b, off, none⟩ ys.length cap (ys.map (Value.int .i64)) (by simp) (Sl.news h4) (ints_one ys) (by unfold maxLen; omega) (by omega) hbase
    rw [← List.map_append] at r1
    rcases r1.2 with ⟨_, h0⟩ | ⟨g, cap', cur, rfl, _⟩
    · omega
    · exact ⟨g, cap', w', hrun, r1, r2, (Below.refl base w).grown r2 hbase (fun j hj => (hown.lt j hj).1)⟩

theorem wp_app_sl {ops : Array Oper} {rest : List Oper} {o : Oper} {a : Act} {Q : Exit → Act → World → Prop} {w : World} {base : Nat} {v : Value} {k : Nat} {xs ys : List Int} (t : TypeId)
    (ht : Tryz.prog.underlying t = some (.slice 3)) (hgd : o.guard = none) (s x : Operand) (ho : o.op = .call { callee := .builtin .append, args := #[s, x], argTypes := #[t, t] }) {u : Value}
    (hs : a.eval s = v) (hx : a.eval x = u) (hown : w.ownsRow base 3 1 v k (xs.map (Value.int .i64))) (hu : Sl w u ys) (hk : k + ys.length ≤ 1000000000000) (hpos : 0 < k) (hbase : base ≤ w.heap.size)
    (h : ∀ g cap w', w'.ownsRow base 3 1 (.slice (some ⟨g, 0, none⟩) (k + ys.length) cap) (k + ys.length) ((xs ++ ys).map (Value.int .i64)) → w.grownBy w' v.ownBlock → Below base w w' → wpList Tryz.prog ops Q rest (a.put o.dst (.slice (some ⟨g, 0, none⟩) (k + ys.length) cap)) w') :
    wpList Tryz.prog ops Q (o :: rest) a w := by
  refine wpList_plain hgd fun K hK => ?_
  obtain ⟨g, cap, w', hrun, r1, r2, r3⟩ := run_app_sl t o.type ht hown hu hk hpos hbase
  unfold Oper.wp
  simp [execOp, ho, resolve, invoke, builtin, hs, hx, hrun, Result.andThen]
  exact hK _ _ (h g cap w' r1 r2 r3)

theorem wpIn_app_sl {F : Fence} {n : Nat} {ops : Array Oper} {rest : List Oper} {o : Oper} {a : Act} {Q : Exit → Act → World → Prop} {w : World} {base : Nat} {v : Value} {k : Nat} {xs ys : List Int} (t : TypeId)
    (ht : Tryz.prog.underlying t = some (.slice 3)) (hgd : o.guard = none) (s x : Operand) (ho : o.op = .call { callee := .builtin .append, args := #[s, x], argTypes := #[t, t] }) {u : Value}
    (hs : a.eval s = v) (hx : a.eval x = u) (hown : w.ownsRow base 3 1 v k (xs.map (Value.int .i64))) (hu : Sl w u ys) (hk : k + ys.length ≤ 1000000000000) (hpos : 0 < k) (hbase : base ≤ w.heap.size)
    (h : ∀ g cap w', w'.ownsRow base 3 1 (.slice (some ⟨g, 0, none⟩) (k + ys.length) cap) (k + ys.length) ((xs ++ ys).map (Value.int .i64)) → w.grownBy w' v.ownBlock → Below base w w' → wpListIn F n Tryz.prog ops Q rest (a.put o.dst (.slice (some ⟨g, 0, none⟩) (k + ys.length) cap)) w') :
    wpListIn F n Tryz.prog ops Q (o :: rest) a w := by
  refine wpListIn_plain hgd fun K hK => ?_
  obtain ⟨g, cap, w', hrun, r1, r2, r3⟩ := run_app_sl t o.type ht hown hu hk hpos hbase
  unfold Oper.wpIn
  refine ⟨?_, ?_⟩
  · simp [Oper.about, ho, resolve, Target.leads, Sem.run_pure]
  · rw [Oper.semAt_plain F _ _ (by rw [ho]; intro c hc'; cases hc')]
    simp [execOp, ho, resolve, invoke, builtin, hs, hx, hrun, Result.andThen]
    exact hK _ _ (h g cap w' r1 r2 r3)

/-- Whatever holds cells holds the same cells. -/
def CellsKept (W W' : World) : Prop := W.heap.size ≤ W'.heap.size ∧ ∀ (k : Nat) (o : Obj), W.heap[k]? = some o → o.isCells = true → W'.heap[k]? = some o

theorem cellsKept_of_grown {W W' : World} {row : Option Nat} (hg : W.grownBy W' row) (hr : ∀ r, row = some r → ∃ o : Obj, W.heap[r]? = some o ∧ o.isCells = false) : CellsKept W W' :=
  ⟨hg.size, fun k o hk ho => (hg.block k (Array.getElem?_eq_some_iff.1 hk).1 (fun e => by
    obtain ⟨o', h1, h2⟩ := hr k e.symm
    rw [hk] at h1; cases h1; rw [ho] at h2; cases h2)).trans hk⟩
theorem CellsKept.putObj {W : World} {l : Nat} {o : Obj} (o' : Obj) (hl : W.heap[l]? = some o) (ho : o.isCells = false) : CellsKept W (W.putObj l o') :=
  cellsKept_of_grown (grownBy_putObj' W l o') (fun r e => by cases e; exact ⟨o, hl, ho⟩)
theorem CellsKept.cell {W W' : World} (h : CellsKept W W') {p : Addr} {v : Value} (hc : W.cell? p = some v) : W'.cell? p = some v := by
  obtain ⟨o, ho, hi⟩ := cells_of_cell hc
  exact (World.cell?_of_block ((h.2 _ _ ho hi).trans ho.symm)).trans hc
theorem CellsKept.boxed {W W' : World} (h : CellsKept W W') {B : Nat} {t : TypeId} {v : Value} (hb : Boxed W B t v) : Boxed W' B t v := h.2 B _ hb rfl
theorem CellsKept.sl {W W' : World} (h : CellsKept W W') {v : Value} {xs : List Int} (hs : Sl W v xs) : Sl W' v xs := by
  rcases hs with hs | ⟨b, off, cap, rfl, h1, h2, h3, h4⟩
  · exact .inl hs
  · exact .inr ⟨b, off, cap, rfl, h1, h2, Nat.lt_of_lt_of_le h3 h.1, fun j hj => h.cell (h4 j hj)⟩
theorem CellsKept.own {W W' : World} (h : CellsKept W W') {base : Nat} {e : TypeId} {size : Nat} {v : Value} {n : Nat} {xs : List Value} (hs : W.ownsRow base e size v n xs) : W'.ownsRow base e size v n xs := by
  refine ⟨hs.1, ?_⟩
  rcases hs.2 with h' | ⟨g, cap, cur, rfl, hb, hg, hr⟩
  · exact .inl h'
  · exact .inr ⟨g, cap, cur, rfl, hb, h.2 g _ hg rfl, hr⟩

theorem Only.putObj {S : List Nat} {w W : World} (h : Only S w W) {D : Nat} (hD : w.heap.size ≤ D) (o' : Obj) : Only S w (W.putObj D o') :=
  h.trans' hD (grownBy_putObj' W D o')
/-- A function's return behind a loop over an iterator. -/
theorem ret_marked {fn : Func} {tmps : Array Value} {D : Nat} {W : World} {R : Ending → World → Prop} {v : Value} (hK : W.heap[D]? = some (.deferred (some [])))
    (hr : (results fn tmps).run Tryz.prog (W.putObj D (.deferred none)) = .ok v (W.putObj D (.deferred none))) (h : R (.returned v) (W.putObj D (.deferred none))) :
    bodyPostM Fence.wide 5 Tryz.prog fn R .ret { tmps := tmps, defers := [{ target := .collected D, args := #[] }] } W :=
  ⟨by simp, .inl ⟨D, _, rfl, run_takeDeferred hK, ⟨v, hr, h⟩⟩⟩

theorem boxed_below {W W' : World} {B : Nat} {t : TypeId} {v : Value} (h : Boxed W B t v) (hb : Below W.heap.size W W') : Boxed W' B t v := h.kept (below_grownBy hb) (by simp)
theorem boxed_setOther {W : World} {B b : Nat} {t : TypeId} {v : Value} (h : Boxed W B t v) (hne : B ≠ b) (u : Value) : Boxed (W.setCell ⟨b, 0, none⟩ u) B t v :=
  h.kept (grownBy_setCell' W b u) (fun e => hne (Option.some.inj e))
/-- A store into a box that holds no integer turns no slice of integers. -/
theorem Sl.setBox {W : World} {v : Value} {xs : List Int} (h : Sl W v xs) {B : Nat} {t : TypeId} {u : Value} (hb : Boxed W B t u) (hu : ∀ n, u ≠ .int .i64 n) (u' : Value) : Sl (W.setCell ⟨B, 0, none⟩ u') v xs := by
  rcases h with h | ⟨b, off, cap, rfl, h1, h2, h3, h4⟩
  · exact .inl h
  · refine .inr ⟨b, off, cap, rfl, h1, h2, by simp [World.setCell]; exact h3, fun j hj => ?_⟩
    have hc := h4 j hj
    by_cases e : b = B
    · subst e
      have hh : W.heap[b]? = some (.cells #[u] t (0, 0)) := hb
      simp only [World.cell?, hh] at hc
      by_cases e0 : off + j = 0
      · simp [e0] at hc; exact absurd hc (hu _)
      · rw [show off + j = (off + j - 1) + 1 by omega] at hc
        simp at hc
    · rw [← hc]; exact World.cell?_of_block (w := W) (Below.heap_setCell W ⟨B, 0, none⟩ u' b e)

/-- How a round may be left: it goes on, or it returns. -/
def roundPost {α : Type} (S : List Nat) (I Ix : List α → World → Prop) (pre : List α) (W : World) : Exit → Act → World → Prop
  | .normal, _, W' => Only S W W' ∧ I pre W'
  | .ret, _, W' => Only S W W' ∧ Ix pre W'
  | _, _, _ => False

theorem only_ownFrom {β : Type} {S : List Nat} {w : World} : OwnFrom w.heap.size (fun (_ : β) W => Only S w W) :=
  fun _ A B row hs hg hr => ⟨hg.os.trans hs.os, hg.tape.trans hs.tape, hg.output.trans hs.output, Nat.le_trans hs.size hg.size, fun k hk hS =>
    (hg.block k (Nat.lt_of_lt_of_le hk hs.size) (fun e => by have := (hr k e.symm).1; omega)).trans (hs.block k hk hS)⟩

/-- The same, for a round that may also turn what has come since the loop began (in the world w). -/
def roundPost2 {α : Type} (S : List Nat) (w : World) (I Ix : List α → World → Prop) (pre : List α) (W : World) : Exit → Act → World → Prop
  | .normal, _, W' => KeepsOthers W W' ∧ Only S w W' ∧ I pre W'
  | .ret, _, W' => KeepsOthers W W' ∧ Only S w W' ∧ Ix pre W'
  | _, _, _ => False

set_option maxHeartbeats 1000000 in
theorem wp_back2 {g : Operand} {ps : Array Tmp} {assign body : Code} {Q : Exit → Act → World → Prop} {a : Act} {w : World} (Bs : Nat) (S : List Nat) (sv : Value) (xs : List Int)
    (hg : a.eval g = .func (.func 78) #[] #[.pointer (some ⟨Bs, 0, none⟩)]) (hBs : w.cell? ⟨Bs, 0, none⟩ = some sv) (hsl : Sl w sv xs)
    (hS1 : Bs ∉ S) (hS2 : ∀ b o, sv.ptr? = some (b, o) → b ∉ S) (hps : ps.size = 2)
    (I Ix : List (Fin xs.length) → World → Prop) (hI : ∀ pre W W', I pre W → CellsKept W W' → I pre W') (hIx : ∀ pre W W', Ix pre W → CellsKept W W' → Ix pre W')
    (h0 : I [] w) (a₁ : Fin xs.length → Act)
    (hassign : ∀ (l : Nat) (x : Fin xs.length) (W : World) (K : Act → World → Prop), K (a₁ x) W →
      assign.wpIn (Fence.wide.inRound l) 3 Tryz.prog (Exit.then K (fun _ _ _ => False)) { tmps := (ps.zip #[Value.int .i64 (x.1 : Int), Value.int .i64 (gi xs x.1)]).foldl (fun t (p, v) => t.setIfInBounds p v) a.tmps, defers := [] } W)
    (hbody : ∀ (l : Nat) (pre : List (Fin xs.length)) (x : Fin xs.length) (W : World), Only S w W → I pre W → pre.length < xs.length → body.wpIn (Fence.wide.inRound l) 3 Tryz.prog (roundPost2 S w I Ix (pre ++ [x]) W) (a₁ x) W)
    (hdone : ∀ (D : Nat) (W : World), w.heap.size ≤ D → Only S w W → I (downs xs.length xs.length) W → W.heap[D]? = some (.deferred (some [])) → Q .normal { a with defers := { target := .collected D, args := #[] } :: a.defers } W)
    (hstop : ∀ (D : Nat) (k : Nat) (W : World), k ≤ xs.length → w.heap.size ≤ D → Only S w W → Ix (downs xs.length k) W → W.heap[D]? = some (.deferred (some [])) → Code.ret.wpIn Fence.wide 5 Tryz.prog Q { a with defers := { target := .collected D, args := #[] } :: a.defers } W) :
    (Code.rangeFunc g ps assign body).wpIn Fence.wide 5 Tryz.prog Q a w := by
  have hlt : Bs < w.heap.size := World.block_lt_of_cell? w _ hBs
  have hp := hsl.ptr_lt
  obtain ⟨T, hT1, hT2, hT3, hT4⟩ : ∃ T : List Nat, Bs ∈ T ∧ (∀ b o, sv.ptr? = some (b, o) → b ∈ T) ∧ (∀ k ∈ T, k < w.heap.size) ∧ (∀ k ∈ T, k ∉ S) := by
    cases hv : sv.ptr? with
    | none => exact ⟨[Bs], by simp, (fun b o e => by cases e), (fun k hk => by simp at hk; omega), (fun k hk => by simp at hk; subst hk; exact hS1)⟩
    | some q =>
      obtain ⟨b, o⟩ := q
      refine ⟨[Bs, b], by simp, (fun b' o' e => by cases e; simp), (fun k hk => ?_), (fun k hk => ?_)⟩
      · simp at hk; rcases hk with rfl | rfl
        · exact hlt
        · exact hp k o hv
      · simp at hk; rcases hk with rfl | rfl
        · exact hS1
        · exact hS2 k o hv
  refine wpIn_rangeFunc_ownF (F := Fence.wide) (n := 5) (gf := 78) (lb := #[.pointer (some ⟨Bs, 0, none⟩)]) (N := xs.length) rfl (by decide) hg trivial (Go.Proofs.enters_of Tryz.func78 (by kernel_rfl) rfl)
    (back_stops Fence.wide (5 - 1) trivial rfl (by decide) Bs T sv xs w hT1 hlt hBs hsl hT2) (fun h k => h.trans k) (fun W l o o' hl h1 h2 h3 => Same.putObj hT3 W l o o' hl h1 h2 h3) (Below.refl _ _) (fun _ => by rw [hps]; rfl)
    (fun pre W => I pre W ∧ Only S w W) (fun c pre W => (c = .ret ∧ Ix pre W) ∧ Only S w W)
    (OwnFrom.and (fun s A B row hs hg' hr => hI s A B hs (cellsKept_of_grown hg' (fun r e => (hr r e).2))) only_ownFrom)
    (fun c => OwnFrom.and (fun s A B row hs hg' hr => ⟨hs.1, hIx s A B hs.2 (cellsKept_of_grown hg' (fun r e => (hr r e).2))⟩) only_ownFrom)
    ⟨h0, Only.refl _ _⟩ a₁ hassign ?_ ?_ ?_
  · rintro l pre x W ⟨hi, ho⟩ hlen
    refine wpIn_mono (hbody l pre x W ho hi hlen) ?_
    rintro e a3 W3 h3
    cases e with
    | normal => exact ⟨h3.1, fun k hk => (h3.2.1.block k (hT3 k hk) (hT4 k hk)).trans (ho.block k (hT3 k hk) (hT4 k hk)).symm, h3.2.2, h3.2.1⟩
    | ret => exact ⟨h3.1, ⟨rfl, h3.2.2⟩, h3.2.1⟩
    | exit id => exact h3.elim
    | goto t => exact h3.elim
    | panic c => exact h3.elim
    | outgrown => exact h3.elim
  · rintro D ys W hD rfl ⟨hi, ho⟩ hK
    exact hdone D W hD ho hi hK
  · rintro D c pre W hD ⟨k, hk, rfl⟩ ⟨⟨rfl, hi⟩, ho⟩ hK
    exact hstop D k W hk hD ho hi hK

set_option maxHeartbeats 1000000 in
theorem wp_back {g : Operand} {ps : Array Tmp} {assign body : Code} {Q : Exit → Act → World → Prop} {a : Act} {w : World} (Bs : Nat) (S : List Nat) (sv : Value) (xs : List Int)
    (hg : a.eval g = .func (.func 78) #[] #[.pointer (some ⟨Bs, 0, none⟩)]) (hBs : w.cell? ⟨Bs, 0, none⟩ = some sv) (hsl : Sl w sv xs)
    (hS1 : Bs ∉ S) (hS2 : ∀ b o, sv.ptr? = some (b, o) → b ∉ S) (hps : ps.size = 2)
    (I Ix : List (Fin xs.length) → World → Prop) (hI : ∀ pre W W', I pre W → CellsKept W W' → I pre W') (hIx : ∀ pre W W', Ix pre W → CellsKept W W' → Ix pre W')
    (hcells : ∀ pre W, I pre W → ∀ k ∈ S, ∃ o : Obj, W.heap[k]? = some o ∧ o.isCells = true) (h0 : I [] w) (a₁ : Fin xs.length → Act)
    (hassign : ∀ (l : Nat) (x : Fin xs.length) (W : World) (K : Act → World → Prop), K (a₁ x) W →
      assign.wpIn (Fence.wide.inRound l) 3 Tryz.prog (Exit.then K (fun _ _ _ => False)) { tmps := (ps.zip #[Value.int .i64 (x.1 : Int), Value.int .i64 (gi xs x.1)]).foldl (fun t (p, v) => t.setIfInBounds p v) a.tmps, defers := [] } W)
    (hbody : ∀ (l : Nat) (pre : List (Fin xs.length)) (x : Fin xs.length) (W : World), Only S w W → I pre W → pre.length < xs.length → body.wpIn (Fence.wide.inRound l) 3 Tryz.prog (roundPost S I Ix (pre ++ [x]) W) (a₁ x) W)
    (hdone : ∀ (D : Nat) (W : World), w.heap.size ≤ D → Only S w W → I (downs xs.length xs.length) W → W.heap[D]? = some (.deferred (some [])) → Q .normal { a with defers := { target := .collected D, args := #[] } :: a.defers } W)
    (hstop : ∀ (D : Nat) (k : Nat) (W : World), k ≤ xs.length → w.heap.size ≤ D → Only S w W → Ix (downs xs.length k) W → W.heap[D]? = some (.deferred (some [])) → Code.ret.wpIn Fence.wide 5 Tryz.prog Q { a with defers := { target := .collected D, args := #[] } :: a.defers } W) :
    (Code.rangeFunc g ps assign body).wpIn Fence.wide 5 Tryz.prog Q a w := by
  refine wp_back2 Bs S sv xs hg hBs hsl hS1 hS2 hps I Ix hI hIx h0 a₁ hassign ?_ hdone hstop
  intro l pre x W ho hi hlen
  refine wpIn_mono (hbody l pre x W ho hi hlen) ?_
  have hk : ∀ W', Only S W W' → KeepsOthers W W' := fun W' h => ⟨h.size, fun k o hk hno => by
    refine (h.block k (Array.getElem?_eq_some_iff.1 hk).1 (fun hs => ?_)).trans hk
    obtain ⟨o', h1, h2⟩ := hcells pre W hi k hs
    rw [hk] at h1; cases h1; rw [hno] at h2; cases h2⟩
  rintro e a3 W3 h3
  cases e with
  | normal => exact ⟨hk _ h3.1, ho.trans h3.1, h3.2⟩
  | ret => exact ⟨hk _ h3.1, ho.trans h3.1, h3.2⟩
  | exit id => exact h3.elim
  | goto t => exact h3.elim
  | panic c => exact h3.elim
  | outgrown => exact h3.elim
end Go.Proofs.YtbnilfjhalildaaGreatDoor
