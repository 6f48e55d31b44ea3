/- The reference: trim, text, Made. -/
import Derived.Test.YtbnilfjhalildaaGreatDoorRefM
import Derived.Test.YtbnilfjhalildaaGreatDoorAt
import Derived.Laws.IdiomStrings
import Derived.Deep.RegionHeld3
import Derived.Deep.DeepCutAuto
namespace Go.Proofs.YtbnilfjhalildaaGreatDoor
open Go.RowKit
attribute [local go_sem] Oper.semAt_some

set_option maxHeartbeats 400000 in
theorem rtrim_any (v : Value) (xs : List Int) (w : World) (h : Sl w v xs) :
    Calls Tryz.prog 37 #[v] w fun e w' => (∃ v', e = .returned v' ∧ Sl w v' (trim xs) ∧ v'.ptr? = v.ptr?) ∧ w = w' := by
  have hl := h.len_le
  unfold maxLen at hl
  rcases h with ⟨rfl, rfl⟩ | ⟨b, off, cap, rfl, h1, h2, h3, h4⟩
  · go_enter Tryz.func37, Tryz.ntmps37
    go_wp2
    go_loop [0] (fun s => s = .slice none 0 0) (fun _ => 0)
    case atStart => rfl
    case round =>
      obtain rfl := hrel
      go_wp2
      go_ret
      exact ⟨⟨_, rfl, .inl ⟨rfl, rfl⟩, rfl⟩, rfl⟩
  · go_enter Tryz.func37, Tryz.ntmps37
    go_wp2
    go_loop [0] (fun s => ∃ k : Nat, s = .slice (some ⟨b, off, none⟩) k cap ∧ k ≤ xs.length ∧ Hid (trimN xs xs.length = trimN xs k)) (fun s => lenOf s)
    case atStart => exact ⟨_, rfl, Nat.le_refl _, rfl⟩
    case round =>
      obtain ⟨k, rfl, hk, hT⟩ := hrel
      cases k with
      | zero =>
        go_wp2
        go_ret
        exact ⟨⟨_, rfl, by unfold trim; rw [hT.out]; exact Sl.take 0 (Nat.zero_le _) h1 h2 h3 h4, rfl⟩, rfl⟩
      | succ k =>
        have hc := h4 k (by omega)
        by_cases hz : gi xs k = 0
        · have hz' : (gi xs k == 0) = true := by simp [hz]
          go_wp2
          go_round
          case rel => exact ⟨k, by rfl, by omega, hT.out.trans (trimN_zero hz)⟩
          case measure => simp [lenOf]
        · have hz' : (gi xs k == 0) = false := by simp [hz]
          go_wp2
          go_ret
          refine ⟨⟨_, rfl, ?_, rfl⟩, rfl⟩
          have e : trim xs = xs.take (k + 1) := by unfold trim; rw [hT.out, trimN_pos hz]
          rw [e]
          exact Sl.take (k + 1) hk h1 h2 h3 h4

theorem ret_sb {s t : ByteArray} {p q : Bool} (h : s = t) (k : p = q) : Ending.returned (.tuple #[.string s, .bool p]) = .returned (.tuple #[.string t, .bool q]) := by rw [h, k]
theorem info_u8 : (Tryz.prog.info? 5).map (fun i => (i.zero, i.size, i.bytes)) = some (some (.int .u8 0), 1, 1) := by kernel_rfl

/-- out = append(out, y), for a slice of bytes of the call's own. -/
theorem wp_app_u8 {ops : Array Oper} {rest : List Oper} {o : Oper} {a : Act} {Q : Exit → Act → World → Prop} {wr : World} {base : Nat} {v : Value} {n : Nat} {l : List UInt8} (y : Int) (b : UInt8) (hy : y = b.toNat) (t : TypeId)
    (ht : Tryz.prog.underlying t = some (.slice 5)) (hgd : o.guard = none) (s x : Operand) (ho : o.op = .call { callee := .builtin .append, args := #[s, x], argTypes := #[t, t] })
    (hs : a.eval s = v) (hx : a.eval x = .slice (some ⟨wr.heap.size, 0, none⟩) 1 1) (hown : wr.ownsRow base 5 1 v n (Lib.byteCells l)) (hn : n + 1 ≤ 1000000000000) (hbase : base ≤ wr.heap.size)
    (h : ∀ g cap w', w'.ownsRow base 5 1 (.slice (some ⟨g, 0, none⟩) (n + 1) cap) (n + 1) (Lib.byteCells (l ++ [b])) → (wr.alloc (.cells #[.int .u8 y] 5)).grownBy w' v.ownBlock → Below base wr w' → wpList Tryz.prog ops Q rest (a.put o.dst (.slice (some ⟨g, 0, none⟩) (n + 1) cap)) w') :
    wpList Tryz.prog ops Q (o :: rest) a (wr.alloc (.cells #[.int .u8 y] 5)) := by
  obtain ⟨i0, hi, hz0, hz1, hz2⟩ := info_parts info_u8
  refine wpList_append_own _ hgd s x t ho base 5 i0 (.int .u8 0) 1 1 ht hi hz0 hz1 hz2 rfl (by decide) v n _ hs (hown.alloc _) ⟨wr.heap.size, 0, none⟩ 1 1 [.int .u8 y] hx rfl (by intro t u ht; match t, ht with | 0, ht => simp at ht; subst ht; simp [Addr.add]) (by intro u hu; simp at hu; subst hu; rfl) (by unfold maxLen; omega) (by omega) (by simp; omega) ?_
  intro v' w' hown' hgrow hnil
  rcases hown'.2 with ⟨_, h0⟩ | ⟨g, cap, cur, rfl, hg⟩
  · omega
  · refine h g cap w' (by rw [byteCells_snoc, ← hy]; exact hown') hgrow ?_
    refine ((Below.refl base wr).alloc hbase _).grown hgrow (by simp; omega) (fun k hk => ?_)
    exact (hown.lt k hk).1

/-- string(b), for a slice of bytes of the call's own. -/
theorem run_str_own {w : World} {base : Nat} {g cap n : Nat} {l : List UInt8} (hown : w.ownsRow base 5 1 (.slice (some ⟨g, 0, none⟩) n cap) n (Lib.byteCells l)) (t : TypeId) (ht : Tryz.prog.underlying t = some (.slice 5)) :
    (convert t 9 (.slice (some ⟨g, 0, none⟩) n cap)).run Tryz.prog w = .ok (.string ⟨l.toArray⟩) w := by
  have hl : n = l.length := by have := hown.1; rw [byteCells_len] at this; omega
  subst hl
  refine run_convert_bytes_back w t 9 5 _ cap l ht (by kernel_rfl) (by kernel_rfl) ?_
  intro j hj
  exact hown.cells (g := g) rfl j _ (by simp [Lib.byteCells, hj])

/-- The first append to a nil slice, as the walk makes it. -/
theorem own_first (w : World) : (((w.alloc (.cells #[.int .u8 45] 5)).alloc (.cells (#[.int .u8 45] ++ Builtin.zeroCells #[.int .u8 0] ((Question.appendCap 1 0 5).cut (w.tape w.drawn (Question.appendCap 1 0 5)) - 1)) 5)).drew).ownsRow w.heap.size 5 1
    (.slice (some ⟨w.heap.size + 1, 0, none⟩) 1 ((Question.appendCap 1 0 5).cut (w.tape w.drawn (Question.appendCap 1 0 5)))) 1 (Lib.byteCells [45]) := by
  have h1 := grownCap_ge w 1 0 5
  have h2 := grownCap_le_maxLen w 1 0 5 (by unfold maxLen; omega)
  unfold grownCap at h1 h2
  generalize (Question.appendCap 1 0 5).cut (w.tape w.drawn (Question.appendCap 1 0 5)) = C at *
  refine ⟨rfl, .inr ⟨w.heap.size + 1, C, #[.int .u8 45] ++ Builtin.zeroCells #[.int .u8 0] (C - 1), rfl, by omega, ?_, h1, h2, ?_, ?_⟩⟩
  · have := World.alloc_heap_new (w.alloc (.cells #[.int .u8 45] 5)) (.cells (#[.int .u8 45] ++ Builtin.zeroCells #[.int .u8 0] (C - 1)) 5)
    rw [World.size_alloc] at this
    exact this
  · rw [Array.size_append, size_zeroCells]; simp; omega
  · simp [Lib.byteCells]
theorem below_first (w : World) {A B : Obj} : Below w.heap.size w (((w.alloc A).alloc B).drew) := by
  have h := ((Below.refl _ w).alloc (Nat.le_refl _) A).alloc (by simp) B
  exact ⟨h.os, h.tape, h.output, h.size, h.block⟩

set_option maxRecDepth 100000 in
set_option maxHeartbeats 2000000 in
theorem rtext_zero (neg : Bool) (v : Value) (w : World) (hv : Sl w v []) :
    Calls Tryz.prog 36 #[.bool neg, v] w fun e w' => e = .returned (.tuple #[.string ⟨#[48]⟩, .bool true]) ∧ Below w.heap.size w w' := by
  obtain ⟨a1, c1, rfl⟩ := hv.shape
  go_enter Tryz.func36, Tryz.ntmps36
  go_wp2
  go_ret2
  exact ⟨rfl, Below.refl _ _⟩

set_option maxRecDepth 100000 in
set_option maxHeartbeats 4000000 in
theorem rtext_pos (neg : Bool) (v : Value) (xs : List Int) (n : Int) (w : World) (hv : Sl w v xs) (hn : Num 10 xs n) (hl : xs.length ≤ 1000000) (h0 : xs.length ≠ 0) :
    Calls Tryz.prog 36 #[.bool neg, v] w fun e w' => e = .returned (.tuple #[.string ⟨(Lib.itoa (sgn neg n)).toArray⟩, .bool (decide (xs.length ≤ 200))]) ∧ Below w.heap.size w w' := by
  have Hd := Lib.hid (itoa_digits hn (fun e => h0 (by rw [e]; rfl)) neg)
  have hne : ((xs.length : Int) == 0) = false := by rw [beq_eq_false_iff_ne]; omega
  have Hdig := Lib.hid hn.dig
  rcases hv with ⟨rfl, rfl⟩ | ⟨bb, off, cap, rfl, h1, h2, h3, h4⟩
  · exact absurd rfl h0
  unfold maxLen at h2
  have H4 := Lib.hid h4
  have Hn0 := Lib.hid h0
  clear h4 h0 hn
  go_enter Tryz.func36, Tryz.ntmps36
  have hb45 : ((45 : UInt8).toNat : Int) = 45 := rfl
  cases neg
  go_wp2
  have hown0 : w.ownsRow w.heap.size 5 1 (.slice none 0 0) ([] : List UInt8).length (Lib.byteCells []) := World.ownsRow_nil _ _ _ _
  have hbw : Below w.heap.size w w := Below.refl _ _
  obtain ⟨l0, hl0, hl1⟩ : ∃ l0 : List UInt8, Hid (l0 = []) ∧ l0.length ≤ 1 := ⟨[], rfl, by simp⟩
  rw [← hl0.out] at hown0
  rotate_left
  go_wp2
  have hown2 := own_first w
  have hbw := below_first w (A := .cells #[.int .u8 45] 5) (B := .cells (#[.int .u8 45] ++ Builtin.zeroCells #[.int .u8 0] ((Question.appendCap 1 0 5).cut (w.tape w.drawn (Question.appendCap 1 0 5)) - 1)) 5)
  generalize (Question.appendCap 1 0 5).cut (w.tape w.drawn (Question.appendCap 1 0 5)) = cp at *
  generalize ((w.alloc (.cells #[.int .u8 45] 5)).alloc (.cells (#[.int .u8 45] ++ Builtin.zeroCells #[.int .u8 0] (cp - 1)) 5)).drew = w2 at *
  obtain ⟨l0, hl0, hl1⟩ : ∃ l0 : List UInt8, Hid (l0 = [45]) ∧ l0.length ≤ 1 := ⟨[45], rfl, by simp⟩
  have hown0 : w2.ownsRow w.heap.size 5 1 (.slice (some ⟨w.heap.size + 1, 0, none⟩) 1 cp) l0.length (Lib.byteCells l0) := by rw [hl0.out]; exact hown2
  clear hown2
  rotate_left
  all_goals
    go_loopw [6, 7] (fun o i wr => ∃ (r : Nat) (q : Int) (l : List UInt8), r ≤ xs.length ∧ i = .int .i64 q ∧ Hid (q = (r : Int) - 1) ∧ wr.ownsRow w.heap.size 5 1 o l.length (Lib.byteCells l) ∧ l.length + r ≤ xs.length + 1 ∧ Hid (l = l0 ++ digits8 (xs.drop r)) ∧ Below w.heap.size w wr)
      (fun _ i _ => (intOf i + 1).toNat)
    case atStart => exact ⟨xs.length, _, l0, Nat.le_refl _, rfl, rfl, hown0, by omega, (show l0 = l0 ++ digits8 (xs.drop xs.length) by rw [List.drop_length, show digits8 [] = [] from rfl, List.append_nil]), hbw⟩
    case round =>
      clear hown0 hbw
      obtain ⟨r, q, l, hr, rfl, hq, hown, hlen, hL, hB⟩ := hrel
      cases r with
      | zero =>
        obtain rfl : q = -1 := by have := hq.out; omega
        rcases hown.2 with ⟨rfl, h00⟩ | ⟨g, cp, cur, rfl, hg⟩
        · have := congrArg List.length hL.out
          rw [List.length_append, digits8_len, List.drop_zero] at this
          exact absurd (by omega : xs.length = 0) Hn0.out
        · have hcv := run_str_own hown 72 Tryz.underlying72
          have hfin := Hd.out.trans (show _ = l by rw [hL.out, hl0.out]; rfl)
          have HF := Lib.hid hfin
          clear hfin
          go_wp2
          go_ret2
          exact ⟨ret_sb (by rw [HF.out]) (decide_eq_decide.2 (by omega)), hB⟩
      | succ r =>
        obtain rfl : q = (r : Int) := by have := hq.out; omega
        have hd := Hdig.out.gi (by decide) r
        have hd0 := hd.1
        have hd1 := hd.2
        have hc := (hB.cell (p := ⟨bb, off + r, none⟩) h3).trans (H4.out r (by omega))
        have h8 := dig8_nat hd0 hd1
        have H8 := Lib.hid h8.symm
        have hrl : (r : Int) < (xs.length : Int) := by omega
        clear h8 hd
        go_wp2_with (at_builtin; refine wp_app_u8 (48 + gi xs r) (dig8 (gi xs r)) H8.out 72 Tryz.underlying72 rfl _ _ rfl rfl rfl hown (by omega) hB.size ?_; intro g cp w2 hown2 hg2 hb2)
        go_roundw
        case rel => exact ⟨r, _, l ++ [dig8 (gi xs r)], by omega, rfl, rfl, (by rw [List.length_append]; exact hown2), (by rw [List.length_append]; simp; omega), (show l ++ [dig8 (gi xs r)] = l0 ++ digits8 (xs.drop r) by rw [hL.out, drop_digits (k := r) (by omega), List.append_assoc]), hB.trans hb2⟩
        case measure => simp [intOf]

/-- putlogref03.text. -/
theorem rtext_any (neg : Bool) (v : Value) (xs : List Int) (n : Int) (w : World) (hv : Sl w v xs) (hn : Num 10 xs n) (hl : xs.length ≤ 1000000) :
    Calls Tryz.prog 36 #[.bool neg, v] w fun e w' => e = .returned (.tuple #[.string ⟨(Lib.itoa (sgn neg n)).toArray⟩, .bool (decide (xs.length ≤ 200))]) ∧ Below w.heap.size w w' := by
  by_cases h0 : xs.length = 0
  · obtain rfl := List.eq_nil_of_length_eq_zero h0
    have := (hn.zero_iff (by decide)).1 rfl
    subst this
    rw [itoa_zero]
    exact rtext_zero neg v w hv
  · exact rtext_pos neg v xs n w hv hn hl h0
end Go.Proofs.YtbnilfjhalildaaGreatDoor
