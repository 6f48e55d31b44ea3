/- PkE: RefA RefB RefC RefD RefE -/
import Derived.Test.YtebokdboodgkpaaGreatDoorPkD
import Derived.Test.YtebokdboodgkpaaGreatDoorPkA
import Derived.Laws.IdiomStrings
import Derived.Deep.RegionHeld3
import Derived.Deep.DeepCutAuto
import Derived.Test.YtebokdboodgkpaaGreatDoorPkB
import Derived.Test.YtebokdboodgkpaaGreatDoorPkC
/- The reference: trim, text, Made. -/
namespace Go.Proofs.YtebokdboodgkpaaGreatDoor
open Go.RowKit
attribute [local go_sem] Oper.semAt_some

set_option maxHeartbeats 400000 in
theorem rtrim_any (v : Value) (xs : List Int) (w : World) (h : Sl w v xs) :
    Calls Tryz.prog 127 #[v] w fun e w' => (∃ v', e = .returned v' ∧ Sl w v' (trim xs) ∧ v'.ptr? = v.ptr?) ∧ w = w' := by
  have hl := h.len_le
  unfold maxLen at hl
  rcases h with ⟨rfl, rfl⟩ | ⟨b, off, cap, rfl, h1, h2, h3, h4⟩
  · go_enter Tryz.func127, Tryz.ntmps127
    go_wp2
    go_loop [0] (fun s => s = .slice none 0 0) (fun _ => 0)
    case atStart => rfl
    case round =>
      obtain rfl := hrel
      go_wp2
      go_ret
      exact ⟨⟨_, rfl, .inl ⟨rfl, rfl⟩, rfl⟩, rfl⟩
  · go_enter Tryz.func127, Tryz.ntmps127
    go_wp2
    go_loop [0] (fun s => ∃ k : Nat, s = .slice (some ⟨b, off, none⟩) k cap ∧ k ≤ xs.length ∧ Hid (trimN xs xs.length = trimN xs k)) (fun s => lenOf s)
    case atStart => exact ⟨_, rfl, Nat.le_refl _, rfl⟩
    case round =>
      obtain ⟨k, rfl, hk, hT⟩ := hrel
      cases k with
      | zero =>
        go_wp2
        go_ret
        exact ⟨⟨_, rfl, by unfold trim; rw [hT.out]; exact Sl.take 0 (Nat.zero_le _) h1 h2 h3 h4, rfl⟩, rfl⟩
      | succ k =>
        have hc := h4 k (by omega)
        by_cases hz : gi xs k = 0
        · have hz' : (gi xs k == 0) = true := by simp [hz]
          go_wp2
          go_round
          case rel => exact ⟨k, by rfl, by omega, hT.out.trans (trimN_zero hz)⟩
          case measure => simp [lenOf]
        · have hz' : (gi xs k == 0) = false := by simp [hz]
          go_wp2
          go_ret
          refine ⟨⟨_, rfl, ?_, rfl⟩, rfl⟩
          have e : trim xs = xs.take (k + 1) := by unfold trim; rw [hT.out, trimN_pos hz]
          rw [e]
          exact Sl.take (k + 1) hk h1 h2 h3 h4

theorem ret_sb {s t : ByteArray} {p q : Bool} (h : s = t) (k : p = q) : Ending.returned (.tuple #[.string s, .bool p]) = .returned (.tuple #[.string t, .bool q]) := by rw [h, k]
theorem info_u8 : (Tryz.prog.info? 5).map (fun i => (i.zero, i.size, i.bytes)) = some (some (.int .u8 0), 1, 1) := by kernel_rfl

/-- out = append(out, y), for a slice of bytes of the call's own. -/
theorem wp_app_u8 {ops : Array Oper} {rest : List Oper} {o : Oper} {a : Act} {Q : Exit → Act → World → Prop} {wr : World} {base : Nat} {v : Value} {n : Nat} {l : List UInt8} (y : Int) (b : UInt8) (hy : y = b.toNat) (t : TypeId)
    (ht : Tryz.prog.underlying t = some (.slice 5)) (hgd : o.guard = none) (s x : Operand) (ho : o.op = .call { callee := .builtin .append, args := #[s, x], argTypes := #[t, t] })
    (hs : a.eval s = v) (hx : a.eval x = .slice (some ⟨wr.heap.size, 0, none⟩) 1 1) (hown : wr.ownsRow base 5 1 v n (Lib.byteCells l)) (hn : n + 1 ≤ 1000000000000) (hbase : base ≤ wr.heap.size)
    (h : ∀ g cap w', w'.ownsRow base 5 1 (.slice (some ⟨g, 0, none⟩) (n + 1) cap) (n + 1) (Lib.byteCells (l ++ [b])) → (wr.alloc (.cells #[.int .u8 y] 5)).grownBy w' v.ownBlock → Below base wr w' → wpList Tryz.prog ops Q rest (a.put o.dst (.slice (some ⟨g, 0, none⟩) (n + 1) cap)) w') :
    wpList Tryz.prog ops Q (o :: rest) a (wr.alloc (.cells #[.int .u8 y] 5)) := by
  obtain ⟨i0, hi, hz0, hz1, hz2⟩ := info_parts info_u8
  refine wpList_append_own _ hgd s x t ho base 5 i0 (.int .u8 0) 1 1 ht hi hz0 hz1 hz2 rfl (by decide) v n _ hs (hown.alloc _) ⟨wr.heap.size, 0, none⟩ 1 1 [.int .u8 y] hx rfl (by intro t u ht; match t, ht with | 0, ht => simp at ht; subst ht; simp [Addr.add]) (by intro u hu; simp at hu; subst hu; rfl) (by unfold maxLen; omega) (by omega) (by simp; omega) ?_
  intro v' w' hown' hgrow hnil
  rcases hown'.2 with ⟨_, h0⟩ | ⟨g, cap, cur, rfl, hg⟩
  · omega
  · refine h g cap w' (by rw [byteCells_snoc, ← hy]; exact hown') hgrow ?_
    refine ((Below.refl base wr).alloc hbase _).grown hgrow (by simp; omega) (fun k hk => ?_)
    exact (hown.lt k hk).1

/-- string(b), for a slice of bytes of the call's own. -/
theorem run_str_own {w : World} {base : Nat} {g cap n : Nat} {l : List UInt8} (hown : w.ownsRow base 5 1 (.slice (some ⟨g, 0, none⟩) n cap) n (Lib.byteCells l)) (t : TypeId) (ht : Tryz.prog.underlying t = some (.slice 5)) :
    (convert t 9 (.slice (some ⟨g, 0, none⟩) n cap)).run Tryz.prog w = .ok (.string ⟨l.toArray⟩) w := by
  have hl : n = l.length := by have := hown.1; rw [byteCells_len] at this; omega
  subst hl
  refine run_convert_bytes_back w t 9 5 _ cap l ht (by kernel_rfl) (by kernel_rfl) ?_
  intro j hj
  exact hown.cells (g := g) rfl j _ (by simp [Lib.byteCells, hj])

/-- The first append to a nil slice, as the walk makes it. -/
theorem own_first (w : World) : (((w.alloc (.cells #[.int .u8 45] 5)).alloc (.cells (#[.int .u8 45] ++ Builtin.zeroCells #[.int .u8 0] ((Question.appendCap 1 0 5).cut (w.tape w.drawn (Question.appendCap 1 0 5)) - 1)) 5)).drew).ownsRow w.heap.size 5 1
    (.slice (some ⟨w.heap.size + 1, 0, none⟩) 1 ((Question.appendCap 1 0 5).cut (w.tape w.drawn (Question.appendCap 1 0 5)))) 1 (Lib.byteCells [45]) := by
  have h1 := grownCap_ge w 1 0 5
  have h2 := grownCap_le_maxLen w 1 0 5 (by unfold maxLen; omega)
  unfold grownCap at h1 h2
  generalize (Question.appendCap 1 0 5).cut (w.tape w.drawn (Question.appendCap 1 0 5)) = C at *
  refine ⟨rfl, .inr ⟨w.heap.size + 1, C, #[.int .u8 45] ++ Builtin.zeroCells #[.int .u8 0] (C - 1), rfl, by omega, ?_, h1, h2, ?_, ?_⟩⟩
  · have := World.alloc_heap_new (w.alloc (.cells #[.int .u8 45] 5)) (.cells (#[.int .u8 45] ++ Builtin.zeroCells #[.int .u8 0] (C - 1)) 5)
    rw [World.size_alloc] at this
    exact this
  · rw [Array.size_append, size_zeroCells]; simp; omega
  · simp [Lib.byteCells]
theorem below_first (w : World) {A B : Obj} : Below w.heap.size w (((w.alloc A).alloc B).drew) := by
  have h := ((Below.refl _ w).alloc (Nat.le_refl _) A).alloc (by simp) B
  exact ⟨h.os, h.tape, h.output, h.size, h.block⟩

set_option maxRecDepth 100000 in
set_option maxHeartbeats 2000000 in
theorem rtext_zero (neg : Bool) (v : Value) (w : World) (hv : Sl w v []) :
    Calls Tryz.prog 85 #[.bool neg, v] w fun e w' => e = .returned (.tuple #[.string ⟨#[48]⟩, .bool true]) ∧ Below w.heap.size w w' := by
  obtain ⟨a1, c1, rfl⟩ := hv.shape
  go_enter Tryz.func85, Tryz.ntmps85
  go_wp2
  go_ret2
  exact ⟨rfl, Below.refl _ _⟩

set_option maxRecDepth 100000 in
set_option maxHeartbeats 4000000 in
theorem rtext_pos (neg : Bool) (v : Value) (xs : List Int) (n : Int) (w : World) (hv : Sl w v xs) (hn : Num 10 xs n) (hl : xs.length ≤ 1000000) (h0 : xs.length ≠ 0) :
    Calls Tryz.prog 85 #[.bool neg, v] w fun e w' => e = .returned (.tuple #[.string ⟨(Lib.itoa (sgn neg n)).toArray⟩, .bool (decide (xs.length ≤ 200))]) ∧ Below w.heap.size w w' := by
  have Hd := Lib.hid (itoa_digits hn (fun e => h0 (by rw [e]; rfl)) neg)
  have hne : ((xs.length : Int) == 0) = false := by rw [beq_eq_false_iff_ne]; omega
  have Hdig := Lib.hid hn.dig
  rcases hv with ⟨rfl, rfl⟩ | ⟨bb, off, cap, rfl, h1, h2, h3, h4⟩
  · exact absurd rfl h0
  unfold maxLen at h2
  have H4 := Lib.hid h4
  have Hn0 := Lib.hid h0
  clear h4 h0 hn
  go_enter Tryz.func85, Tryz.ntmps85
  have hb45 : ((45 : UInt8).toNat : Int) = 45 := rfl
  cases neg
  go_wp2
  have hown0 : w.ownsRow w.heap.size 5 1 (.slice none 0 0) ([] : List UInt8).length (Lib.byteCells []) := World.ownsRow_nil _ _ _ _
  have hbw : Below w.heap.size w w := Below.refl _ _
  obtain ⟨l0, hl0, hl1⟩ : ∃ l0 : List UInt8, Hid (l0 = []) ∧ l0.length ≤ 1 := ⟨[], rfl, by simp⟩
  rw [← hl0.out] at hown0
  rotate_left
  go_wp2
  have hown2 := own_first w
  have hbw := below_first w (A := .cells #[.int .u8 45] 5) (B := .cells (#[.int .u8 45] ++ Builtin.zeroCells #[.int .u8 0] ((Question.appendCap 1 0 5).cut (w.tape w.drawn (Question.appendCap 1 0 5)) - 1)) 5)
  generalize (Question.appendCap 1 0 5).cut (w.tape w.drawn (Question.appendCap 1 0 5)) = cp at *
  generalize ((w.alloc (.cells #[.int .u8 45] 5)).alloc (.cells (#[.int .u8 45] ++ Builtin.zeroCells #[.int .u8 0] (cp - 1)) 5)).drew = w2 at *
  obtain ⟨l0, hl0, hl1⟩ : ∃ l0 : List UInt8, Hid (l0 = [45]) ∧ l0.length ≤ 1 := ⟨[45], rfl, by simp⟩
  have hown0 : w2.ownsRow w.heap.size 5 1 (.slice (some ⟨w.heap.size + 1, 0, none⟩) 1 cp) l0.length (Lib.byteCells l0) := by rw [hl0.out]; exact hown2
  clear hown2
  rotate_left
  all_goals
    go_loopw [6, 7] (fun o i wr => ∃ (r : Nat) (q : Int) (l : List UInt8), r ≤ xs.length ∧ i = .int .i64 q ∧ Hid (q = (r : Int) - 1) ∧ wr.ownsRow w.heap.size 5 1 o l.length (Lib.byteCells l) ∧ l.length + r ≤ xs.length + 1 ∧ Hid (l = l0 ++ digits8 (xs.drop r)) ∧ Below w.heap.size w wr)
      (fun _ i _ => (intOf i + 1).toNat)
    case atStart => exact ⟨xs.length, _, l0, Nat.le_refl _, rfl, rfl, hown0, by omega, (show l0 = l0 ++ digits8 (xs.drop xs.length) by rw [List.drop_length, show digits8 [] = [] from rfl, List.append_nil]), hbw⟩
    case round =>
      clear hown0 hbw
      obtain ⟨r, q, l, hr, rfl, hq, hown, hlen, hL, hB⟩ := hrel
      cases r with
      | zero =>
        obtain rfl : q = -1 := by have := hq.out; omega
        rcases hown.2 with ⟨rfl, h00⟩ | ⟨g, cp, cur, rfl, hg⟩
        · have := congrArg List.length hL.out
          rw [List.length_append, digits8_len, List.drop_zero] at this
          exact absurd (by omega : xs.length = 0) Hn0.out
        · have hcv := run_str_own hown 130 Tryz.underlying130
          have hfin := Hd.out.trans (show _ = l by rw [hL.out, hl0.out]; rfl)
          have HF := Lib.hid hfin
          clear hfin
          go_wp2
          go_ret2
          exact ⟨ret_sb (by rw [HF.out]) (decide_eq_decide.2 (by omega)), hB⟩
      | succ r =>
        obtain rfl : q = (r : Int) := by have := hq.out; omega
        have hd := Hdig.out.gi (by decide) r
        have hd0 := hd.1
        have hd1 := hd.2
        have hc := (hB.cell (p := ⟨bb, off + r, none⟩) h3).trans (H4.out r (by omega))
        have h8 := dig8_nat hd0 hd1
        have H8 := Lib.hid h8.symm
        have hrl : (r : Int) < (xs.length : Int) := by omega
        clear h8 hd
        go_wp2_with (at_builtin; refine wp_app_u8 (48 + gi xs r) (dig8 (gi xs r)) H8.out 130 Tryz.underlying130 rfl _ _ rfl rfl rfl hown (by omega) hB.size ?_; intro g cp w2 hown2 hg2 hb2)
        go_roundw
        case rel => exact ⟨r, _, l ++ [dig8 (gi xs r)], by omega, rfl, rfl, (by rw [List.length_append]; exact hown2), (by rw [List.length_append]; simp; omega), (show l ++ [dig8 (gi xs r)] = l0 ++ digits8 (xs.drop r) by rw [hL.out, drop_digits (k := r) (by omega), List.append_assoc]), hB.trans hb2⟩
        case measure => simp [intOf]

/-- putlogref03.text. -/
theorem rtext_any (neg : Bool) (v : Value) (xs : List Int) (n : Int) (w : World) (hv : Sl w v xs) (hn : Num 10 xs n) (hl : xs.length ≤ 1000000) :
    Calls Tryz.prog 85 #[.bool neg, v] w fun e w' => e = .returned (.tuple #[.string ⟨(Lib.itoa (sgn neg n)).toArray⟩, .bool (decide (xs.length ≤ 200))]) ∧ Below w.heap.size w w' := by
  by_cases h0 : xs.length = 0
  · obtain rfl := List.eq_nil_of_length_eq_zero h0
    have := (hn.zero_iff (by decide)).1 rfl
    subst this
    rw [itoa_zero]
    exact rtext_zero neg v w hv
  · exact rtext_pos neg v xs n w hv hn hl h0
end Go.Proofs.YtebokdboodgkpaaGreatDoor

/- The reference: order, plus, minus. -/
namespace Go.Proofs.YtebokdboodgkpaaGreatDoor
open Go.RowKit
attribute [local go_sem] Oper.semAt_some

theorem Sl.cellAt {w : World} {v : Value} {xs : List Int} (h : Sl w v xs) (h0 : xs.length ≠ 0) : ∃ b off cap, v = .slice (some ⟨b, off, none⟩) xs.length cap ∧ xs.length ≤ cap ∧ cap ≤ maxLen ∧ b < w.heap.size ∧ ∀ j, j < xs.length → w.cell? ⟨b, off + j, none⟩ = some (.int .i64 (gi xs j)) := by
  rcases h with ⟨_, rfl⟩ | h
  · exact absurd rfl h0
  · exact h

set_option maxRecDepth 100000 in
set_option maxHeartbeats 1000000 in
theorem order_lens (v u : Value) (xs ys : List Int) (w : World) (hv : Sl w v xs) (hu : Sl w u ys) (hne : ¬ xs.length = ys.length) :
    Calls Tryz.prog 102 #[v, u] w fun e w' => e = .returned (.int .i64 (cmpL xs ys)) ∧ Below w.heap.size w w' := by
  have hc : cmpL xs ys = Lib.compareInt xs.length ys.length := if_neg hne
  obtain ⟨a1, c1, rfl⟩ := hv.shape
  obtain ⟨a2, c2, rfl⟩ := hu.shape
  have hb : ((xs.length : Int) != ys.length) = true := by simp; omega
  rw [hc]
  by_cases hlt : xs.length < ys.length
  · rw [compareInt_lt (show (xs.length : Int) < ys.length by omega)]
    clear hc hv hu hne
    go_enter Tryz.func102, Tryz.ntmps102
    go_wp2
    go_ret
    exact ⟨rfl, Below.refl _ _⟩
  · rw [compareInt_gt (show (ys.length : Int) < xs.length by omega)]
    clear hc hv hu hne
    go_enter Tryz.func102, Tryz.ntmps102
    go_wp2
    go_ret
    exact ⟨rfl, Below.refl _ _⟩

set_option maxRecDepth 100000 in
set_option maxHeartbeats 4000000 in
theorem order_eq (v u : Value) (xs ys : List Int) (w : World) (hv : Sl w v xs) (hu : Sl w u ys) (hl : xs.length = ys.length) (h0 : xs.length ≠ 0) :
    Calls Tryz.prog 102 #[v, u] w fun e w' => e = .returned (.int .i64 (cmpL xs ys)) ∧ Below w.heap.size w w' := by
  have hc : cmpL xs ys = cmpTop xs ys xs.length := if_pos hl
  obtain ⟨b1, o1, c1, rfl, h1, h2, h3, h4⟩ := hv.cellAt h0
  obtain ⟨b2, o2, c2, rfl, g1, g2, g3, g4⟩ := hu.cellAt (by omega)
  rw [hc]
  unfold maxLen at h2 g2
  have Hl := Lib.hid hl
  have H4 := Lib.hid h4
  have G4 := Lib.hid g4
  have hle : xs.length ≤ ys.length := by omega
  have hge : ys.length ≤ xs.length := by omega
  have hb : ((xs.length : Int) != ys.length) = false := by simp; omega
  clear hv hu hc hl h4 g4 h0
  go_enter Tryz.func102, Tryz.ntmps102
  go_wp2
  go_loopw [5] (fun i wr => ∃ (r : Nat) (q : Int), r ≤ xs.length ∧ i = .int .i64 q ∧ Hid (q = (r : Int) - 1) ∧ Hid (cmpTop xs ys xs.length = cmpTop xs ys r) ∧ Below w.heap.size w wr) (fun i _ => (intOf i + 1).toNat)
  case atStart => exact ⟨xs.length, _, Nat.le_refl _, rfl, rfl, rfl, Below.refl _ _⟩
  case round =>
    obtain ⟨r, q, hr, rfl, hq, hC, hB⟩ := hrel
    cases r with
    | zero =>
      obtain rfl : q = -1 := by have := hq.out; omega
      go_wp2
      go_ret
      exact ⟨ret_int (by rw [hC.out]; rfl), hB⟩
    | succ r =>
      obtain rfl : q = (r : Int) := by have := hq.out; omega
      have c1 := (hB.cell (p := ⟨b1, o1 + r, none⟩) h3).trans (H4.out r (by omega))
      have c2 := (hB.cell (p := ⟨b2, o2 + r, none⟩) g3).trans (G4.out r (by omega))
      have i1 : (r : Int) < (xs.length : Int) := by omega
      have i2 : (r : Int) < (ys.length : Int) := by omega
      have i3 : (0 : Int) ≤ (r : Int) := by omega
      have hS : cmpTop xs ys (r + 1) = if gi xs r = gi ys r then cmpTop xs ys r else Lib.compareInt (gi xs r) (gi ys r) := rfl
      have hr1 : r ≤ xs.length := by omega
      generalize hx : gi xs r = x at *
      generalize hy : gi ys r = y at *
      by_cases he : x = y
      · have hS' := Lib.hid (hC.out.trans (hS.trans (if_pos he)))
        have hne : (x != y) = false := by simp [he]
        clear hx hy hS hC hr hq he
        go_wp2_with fail
        go_quiet (fail)
        go_wp2
        go_roundw
        case rel => exact ⟨r, _, hr1, rfl, rfl, hS', hB.trans ((below_drewN wr nq).mono hB.size)⟩
        case measure => simp [intOf]
      · have hS' := hC.out.trans (hS.trans (if_neg he))
        have hne : (x != y) = true := by simp [he]
        by_cases hlt : x < y
        · rw [compareInt_lt hlt] at hS'
          have HS := Lib.hid hS'
          clear hx hy hS hC hr hq he hS'
          go_wp2_with fail
          go_quiet (fail)
          go_wp2_with fail
          go_quiet (fail)
          go_wp2
          go_ret
          exact ⟨ret_int (by rw [HS.out]), (hB.trans ((below_drewN wr _).mono hB.size)).trans ((below_drewN _ _).mono (by simp; exact hB.size))⟩
        · rw [compareInt_gt (by omega)] at hS'
          have HS := Lib.hid hS'
          have hlt2 : y ≤ x := by omega
          clear hx hy hS hC hr hq he hS' hlt
          go_wp2_with fail
          go_quiet (fail)
          go_wp2_with fail
          go_quiet (fail)
          go_wp2
          go_ret
          exact ⟨ret_int (by rw [HS.out]), (hB.trans ((below_drewN wr _).mono hB.size)).trans ((below_drewN _ _).mono (by simp; exact hB.size))⟩

set_option maxRecDepth 100000 in
theorem order_nil (v u : Value) (w : World) (hv : Sl w v []) (hu : Sl w u []) :
    Calls Tryz.prog 102 #[v, u] w fun e w' => e = .returned (.int .i64 0) ∧ Below w.heap.size w w' := by
  obtain ⟨a1, c1, rfl⟩ := hv.shape
  obtain ⟨a2, c2, rfl⟩ := hu.shape
  clear hv hu
  simp only [List.length_nil]
  go_enter Tryz.func102, Tryz.ntmps102
  go_wp2
  go_loop [5] (fun i => i = .int .i64 (-1)) (fun _ => 0)
  case atStart => rfl
  case round =>
    obtain rfl := hrel
    go_wp2
    go_ret
    exact ⟨rfl, Below.refl _ _⟩

/-- putlogref03.order. -/
theorem order_any (v u : Value) (xs ys : List Int) (w : World) (hv : Sl w v xs) (hu : Sl w u ys) :
    Calls Tryz.prog 102 #[v, u] w fun e w' => e = .returned (.int .i64 (cmpL xs ys)) ∧ Below w.heap.size w w' := by
  by_cases hl : xs.length = ys.length
  · by_cases h0 : xs.length = 0
    · obtain rfl := List.eq_nil_of_length_eq_zero h0
      obtain rfl := List.eq_nil_of_length_eq_zero (hl.symm.trans h0)
      exact order_nil v u w hv hu
    · exact order_eq v u xs ys w hv hu hl h0
  · exact order_lens v u xs ys w hv hu hl
end Go.Proofs.YtebokdboodgkpaaGreatDoor

/- The reference: plus, minus. -/
namespace Go.Proofs.YtebokdboodgkpaaGreatDoor
open Go.RowKit
attribute [local go_sem] Oper.semAt_some

/-- A slice of integers, with its place named (nothing is said of the place of a nil one). -/
theorem Sl.place {w : World} {v : Value} {xs : List Int} (h : Sl w v xs) : ∃ (a : Option Addr) (b off cap : Nat), v = .slice a xs.length cap ∧ (0 < xs.length → a = some ⟨b, off, none⟩ ∧ b < w.heap.size) ∧ xs.length ≤ 9223372036854775807 ∧ ∀ j, j < xs.length → w.cell? ⟨b, off + j, none⟩ = some (.int .i64 (gi xs j)) := by
  have hl := h.len_le
  unfold maxLen at hl
  rcases h with ⟨rfl, rfl⟩ | ⟨b, off, cap, rfl, h1, h2, h3, h4⟩
  · exact ⟨none, 0, 0, 0, rfl, fun h => by simp at h, by simp, fun j hj => by simp at hj⟩
  · exact ⟨_, b, off, cap, rfl, fun _ => ⟨rfl, h3⟩, by omega, h4⟩

theorem carry_step (s c p v d q c' : Int) (hv : v + c * p = s) (he : d + c = q + 10 * c') : (v + q * p) + c' * (p * 10) = s + d * p := by
  have e : c' * (p * 10) = (10 * c') * p := by rw [Int.mul_comm p, ← Int.mul_assoc, Int.mul_comm c']
  have e2 : d + c - q = 10 * c' := by omega
  have e3 : (d + c - q) * p = d * p + c * p - q * p := by rw [Int.sub_mul, Int.add_mul]
  rw [e, ← e2, e3]
  omega
/-- The sum of the digits below k. -/
def sumP (xs ys : List Int) (k : Nat) : Int := sumd 10 (fun j => gi xs j + gi ys j) k
theorem plus_next {xs ys zs : List Int} {k : Nat} {c x y n : Int} (hdig : Dig 10 zs) (hlen : zs.length = k) (hc0 : 0 ≤ c) (hc1 : c ≤ 1) (hS : Hid (val 10 zs + c * 10 ^ k = sumP xs ys k)) (hx : 0 ≤ x ∧ x < 10 ∧ x = gi xs k) (hy : 0 ≤ y ∧ y < 10 ∧ y = gi ys k) (hn : n = c + x + y) :
    Dig 10 (zs ++ [n % 10]) ∧ 0 ≤ n / 10 ∧ n / 10 ≤ 1 ∧ Hid (val 10 (zs ++ [n % 10]) + n / 10 * 10 ^ (k + 1) = sumP xs ys (k + 1)) := by
  refine ⟨hdig.snoc (by omega) (by omega), by omega, by omega, ?_⟩
  show _ = _
  rw [val_snoc, hlen, Int.pow_succ]
  exact carry_step (sumP xs ys k) c (10 ^ k) (val 10 zs) (gi xs k + gi ys k) (n % 10) (n / 10) hS.out (by omega)
theorem sumP_all (xs ys : List Int) {k : Nat} (h1 : xs.length ≤ k) (h2 : ys.length ≤ k) : sumP xs ys k = val 10 xs + val 10 ys := by
  unfold sumP
  rw [sumd_add, sumd_gi_all 10 xs h1, sumd_gi_all 10 ys h2]
/-- A list of digits whose number is great enough has no zero at its end. -/
theorem top_of_ge {zs : List Int} (hd : Dig 10 zs) (h : ∀ j, zs.length = j + 1 → 10 ^ j ≤ val 10 zs) : Top zs := by
  intro j hj h0
  have h1 := h j hj
  have h2 : val 10 zs = val 10 (zs.take j) := by
    have e := take_snoc' (xs := zs) (k := j) (by omega)
    rw [List.take_of_length_le (by omega), h0] at e
    rw [e, val_snoc]; simp
    rw [← e]
  have h3 := (val_bounds (by decide) (hd.take j)).2
  rw [List.length_take, Nat.min_eq_left (by omega)] at h3
  omega
theorem plus_end {xs ys zs : List Int} {m n : Int} {k : Nat} (hx : Num 10 xs m) (hy : Num 10 ys n) (hdig : Dig 10 zs) (hlen : zs.length = k) (h1 : xs.length ≤ k) (h2 : ys.length ≤ k)
    (hS : Hid (val 10 zs + (0 : Int) * 10 ^ k = sumP xs ys k)) (hT : k ≤ max xs.length ys.length ∨ Top zs) : Num 10 zs (m + n) := by
  have hv : val 10 zs = m + n := by have := hS.out; rw [sumP_all xs ys h1 h2, hx.val, hy.val] at this; omega
  refine ⟨hdig, ?_, hv⟩
  rcases hT with h | h
  · refine top_of_ge hdig fun j hj => ?_
    have hm := hx.nonneg (by decide)
    have hn := hy.nonneg (by decide)
    rw [hv]
    rcases Nat.le_total xs.length ys.length with hl | hl
    · have := hy.ge (by decide) (k := j) (by omega); omega
    · have := hx.ge (by decide) (k := j) (by omega); omega
  · exact h

theorem top_snoc {zs : List Int} {d : Int} (h : d ≠ 0) : Hid (Top (zs ++ [d])) := by
  show Top _
  intro j hj
  have : j = zs.length := by simp at hj; omega
  subst this
  simpa [gi] using h

set_option maxRecDepth 100000 in
set_option maxHeartbeats 8000000 in
theorem rplus_any (v u : Value) (xs ys : List Int) (m n : Int) (w : World) (hv : Sl w v xs) (hu : Sl w u ys) (hx : Num 10 xs m) (hy : Num 10 ys n) (hlx : xs.length ≤ 100000) (hly : ys.length ≤ 100000) :
    Calls Tryz.prog 99 #[v, u] w (Gives w fun r w' => ∃ zs, Sl w' r zs ∧ Num 10 zs (m + n)) := by
  obtain ⟨a1, b1, o1, c1, rfl, h1, h2, h4⟩ := hv.place
  obtain ⟨a2, b2, o2, c2, rfl, g1, g2, g4⟩ := hu.place
  have H4 := Lib.hid h4
  have G4 := Lib.hid g4
  have H1 := Lib.hid h1
  have G1 := Lib.hid g1
  have HX := Lib.hid hx
  have HY := Lib.hid hy
  clear hv hu h4 g4 h1 g1 hx hy
  go_enter Tryz.func99, Tryz.ntmps99
  go_wp2
  go_loopw [5, 6, 7] (fun o cr i wr => ∃ (k : Nat) (c : Int) (zs : List Int), i = .int .i64 k ∧ cr = .int .i64 c ∧ 0 ≤ c ∧ c ≤ 1 ∧ zs.length = k ∧ Dig 10 zs ∧ Hid (val 10 zs + c * 10 ^ k = sumP xs ys k) ∧
      (k ≤ max xs.length ys.length ∨ k = max xs.length ys.length + 1 ∧ c ≤ 0 ∧ Hid (Top zs)) ∧ wr.ownsRow w.heap.size 3 1 o zs.length (zs.map (Value.int .i64)) ∧ Below w.heap.size w wr)
    (fun _ _ i _ => max xs.length ys.length + 1 - (intOf i).toNat)
  case atStart => exact ⟨0, 0, [], rfl, rfl, by decide, by decide, rfl, Dig.nil _, by show _ = _; simp [val, sumP, sumd], .inl (Nat.zero_le _), World.ownsRow_nil _ _ _ _, Below.refl _ _⟩
  case round =>
    obtain ⟨k, c, zs, rfl, rfl, hc0, hc1, hlen, hdig, hS, hT, hown, hB⟩ := hrel
    have hxd : 0 ≤ gi xs k ∧ gi xs k < 10 ∧ gi xs k = gi xs k := ⟨(HX.out.dig.gi (by decide) k).1, (HX.out.dig.gi (by decide) k).2, rfl⟩
    have hyd : 0 ≤ gi ys k ∧ gi ys k < 10 ∧ gi ys k = gi ys k := ⟨(HY.out.dig.gi (by decide) k).1, (HY.out.dig.gi (by decide) k).2, rfl⟩
    have x0 := hxd.1
    have x1 := hxd.2.1
    have y0 := hyd.1
    have y1 := hyd.2.1
    have hcase : (k < xs.length ∧ k < ys.length) ∨ (k < xs.length ∧ ys.length ≤ k) ∨ (xs.length ≤ k ∧ k < ys.length) ∨ (xs.length ≤ k ∧ ys.length ≤ k ∧ 0 < c) ∨ (xs.length ≤ k ∧ ys.length ≤ k ∧ c ≤ 0) := by omega
    rcases hcase with ⟨k1, k2⟩ | ⟨k1, k2⟩ | ⟨k1, k2⟩ | ⟨k1, k2, k3⟩ | ⟨k1, k2, k3⟩
    · obtain ⟨rfl, h3⟩ := H1.out (by omega)
      obtain ⟨rfl, g3⟩ := G1.out (by omega)
      have c1 := (hB.cell (p := ⟨b1, o1 + k, none⟩) h3).trans (H4.out k (by omega))
      have i1 : (k : Int) < (xs.length : Int) := by omega
      have c2 := (hB.cell (p := ⟨b2, o2 + k, none⟩) g3).trans (G4.out k (by omega))
      have i2 : (k : Int) < (ys.length : Int) := by omega
      obtain ⟨a1, a2, a3, a4⟩ := plus_next (x := gi xs k) (y := gi ys k) (n := c + gi xs k + gi ys k) hdig hlen hc0 hc1 hS hxd hyd (by omega)
      have HA := Lib.hid (And.intro a1 a4)
      have Hlen := Lib.hid hlen
      clear hlen a1 a4
      go_wp2_with (at_builtin; refine wp_app_int ((c + gi xs k + gi ys k) % 10) 35 Tryz.underlying35 rfl _ _ rfl rfl rfl hown (by have := Hlen.out; omega) hB.size ?_; intro g cp w2 hown2 hg2 hb2)
      go_roundw
      case rel => exact ⟨k + 1, _, zs ++ [(c + gi xs k + gi ys k) % 10], by go_num, rfl, a2, a3, (by rw [List.length_append, Hlen.out]; rfl), HA.out.1, HA.out.2, (.inl (by omega)), (by rw [List.length_append]; exact hown2), hB.trans hb2⟩
      case measure => simp [intOf]; omega
    · obtain ⟨rfl, h3⟩ := H1.out (by omega)
      have c1 := (hB.cell (p := ⟨b1, o1 + k, none⟩) h3).trans (H4.out k (by omega))
      have i1 : (k : Int) < (xs.length : Int) := by omega
      have hy2 := gi_ge k2
      obtain ⟨a1, a2, a3, a4⟩ := plus_next (x := gi xs k) (y := gi ys k) (n := c + gi xs k) hdig hlen hc0 hc1 hS hxd hyd (by omega)
      have HA := Lib.hid (And.intro a1 a4)
      have Hlen := Lib.hid hlen
      clear hlen a1 a4
      go_wp2_with (at_builtin; refine wp_app_int ((c + gi xs k) % 10) 35 Tryz.underlying35 rfl _ _ rfl rfl rfl hown (by have := Hlen.out; omega) hB.size ?_; intro g cp w2 hown2 hg2 hb2)
      go_roundw
      case rel => exact ⟨k + 1, _, zs ++ [(c + gi xs k) % 10], by go_num, rfl, a2, a3, (by rw [List.length_append, Hlen.out]; rfl), HA.out.1, HA.out.2, (.inl (by omega)), (by rw [List.length_append]; exact hown2), hB.trans hb2⟩
      case measure => simp [intOf]; omega
    · obtain ⟨rfl, g3⟩ := G1.out (by omega)
      have c2 := (hB.cell (p := ⟨b2, o2 + k, none⟩) g3).trans (G4.out k (by omega))
      have i2 : (k : Int) < (ys.length : Int) := by omega
      have hx2 := gi_ge k1
      obtain ⟨a1, a2, a3, a4⟩ := plus_next (x := gi xs k) (y := gi ys k) (n := c + gi ys k) hdig hlen hc0 hc1 hS hxd hyd (by omega)
      have HA := Lib.hid (And.intro a1 a4)
      have Hlen := Lib.hid hlen
      clear hlen a1 a4
      go_wp2_with (at_builtin; refine wp_app_int ((c + gi ys k) % 10) 35 Tryz.underlying35 rfl _ _ rfl rfl rfl hown (by have := Hlen.out; omega) hB.size ?_; intro g cp w2 hown2 hg2 hb2)
      go_roundw
      case rel => exact ⟨k + 1, _, zs ++ [(c + gi ys k) % 10], by go_num, rfl, a2, a3, (by rw [List.length_append, Hlen.out]; rfl), HA.out.1, HA.out.2, (.inl (by omega)), (by rw [List.length_append]; exact hown2), hB.trans hb2⟩
      case measure => simp [intOf]; omega
    · have hx2 := gi_ge k1
      have hy2 := gi_ge k2
      obtain ⟨a1, a2, a3, a4⟩ := plus_next (x := gi xs k) (y := gi ys k) (n := c) hdig hlen hc0 hc1 hS hxd hyd (by omega)
      have HA := Lib.hid (And.intro a1 a4)
      have Hlen := Lib.hid hlen
      clear hlen a1 a4
      go_wp2_with (at_builtin; refine wp_app_int ((c) % 10) 35 Tryz.underlying35 rfl _ _ rfl rfl rfl hown (by have := Hlen.out; omega) hB.size ?_; intro g cp w2 hown2 hg2 hb2)
      go_roundw
      case rel => exact ⟨k + 1, _, zs ++ [(c) % 10], by go_num, rfl, a2, a3, (by rw [List.length_append, Hlen.out]; rfl), HA.out.1, HA.out.2, (.inr ⟨by omega, by omega, top_snoc (by omega)⟩), (by rw [List.length_append]; exact hown2), hB.trans hb2⟩
      case measure => simp [intOf]; omega
    · obtain rfl : c = 0 := by omega
      have hfin := Lib.hid (plus_end HX.out HY.out hdig hlen k1 k2 hS (by rcases hT with h | h; exact .inl h; exact .inr h.2.2.out))
      have hsl := Sl.of_own hown
      clear hlen hdig hS hT hown
      go_wp2
      go_ret
      exact ⟨⟨_, rfl, zs, hsl, hfin.out⟩, hB⟩

/-- The difference of the digits below k. -/
def sumM (xs ys : List Int) (k : Nat) : Int := sumd 10 (fun j => gi xs j - gi ys j) k
theorem minus_next {xs ys zs : List Int} {k : Nat} {c x y n q c' : Int} (hdig : Dig 10 zs) (hlen : zs.length = k) (hS : Hid (val 10 zs - c * 10 ^ k = sumM xs ys k)) (hx : x = gi xs k) (hy : y = gi ys k) (hn : n = x - c - y) (hq : n = q - 10 * c') (h0 : 0 ≤ q) (h1 : q < 10) :
    Dig 10 (zs ++ [q]) ∧ Hid (val 10 (zs ++ [q]) - c' * 10 ^ (k + 1) = sumM xs ys (k + 1)) := by
  refine ⟨hdig.snoc h0 h1, ?_⟩
  show _ = _
  rw [val_snoc, hlen, Int.pow_succ]
  have := carry_step (sumM xs ys k) (-c) (10 ^ k) (val 10 zs) (gi xs k - gi ys k) q (-c') (by rw [Int.neg_mul]; have := hS.out; omega) (by omega)
  rw [Int.neg_mul] at this
  exact this
theorem sumM_all (xs ys : List Int) {k : Nat} (h1 : xs.length ≤ k) (h2 : ys.length ≤ k) : sumM xs ys k = val 10 xs - val 10 ys := by
  unfold sumM
  rw [sumd_sub, sumd_gi_all 10 xs h1, sumd_gi_all 10 ys h2]
theorem minus_end {xs ys zs : List Int} {m n c : Int} {k : Nat} (hx : Num 10 xs m) (hy : Num 10 ys n) (hle : n ≤ m) (hdig : Dig 10 zs) (hlen : zs.length = k) (h1 : xs.length ≤ k) (h2 : ys.length ≤ k) (hc : 0 ≤ c)
    (hS : Hid (val 10 zs - c * 10 ^ k = sumM xs ys k)) : Num 10 (trim zs) (m - n) := by
  have hv := hS.out
  rw [sumM_all xs ys h1 h2, hx.val, hy.val] at hv
  have hb := val_bounds (b := 10) (by decide) hdig
  rw [hlen] at hb
  have hc0 : c = 0 := by
    rcases Int.lt_or_le 0 c with h | h
    · have : 10 ^ k ≤ c * 10 ^ k := by
        have := Int.mul_le_mul_of_nonneg_right (show (1 : Int) ≤ c by omega) (Int.le_of_lt (pow_pos' (b := 10) (by decide) k))
        omega
      omega
    · omega
  subst hc0
  have e : val 10 zs = m - n := by omega
  rw [← e]
  exact Num.trim hdig

set_option maxRecDepth 100000 in
set_option maxHeartbeats 8000000 in
theorem rminus_fresh (v u : Value) (xs ys : List Int) (m n : Int) (w : World) (hv : Sl w v xs) (hu : Sl w u ys) (hx : Num 10 xs m) (hy : Num 10 ys n) (hle : n ≤ m) (hlx : xs.length ≤ 100000) :
    Calls Tryz.prog 100 #[v, u] w (Gives w fun r w' => ∃ zs, Sl w' r zs ∧ Num 10 zs (m - n) ∧ Fresh w r) := by
  have hly := hy.len_le (by decide) hx hle
  obtain ⟨a1, b1, o1, c1, rfl, h1, h2, h4⟩ := hv.place
  obtain ⟨a2, b2, o2, c2, rfl, g1, g2, g4⟩ := hu.place
  have H4 := Lib.hid h4
  have G4 := Lib.hid g4
  have H1 := Lib.hid h1
  have G1 := Lib.hid g1
  have HX := Lib.hid hx
  have HY := Lib.hid hy
  clear hv hu h4 g4 h1 g1 hx hy
  go_enter Tryz.func100, Tryz.ntmps100
  go_wp2
  go_loopw [5, 6, 7] (fun o cr i wr => ∃ (k : Nat) (c : Int) (zs : List Int), i = .int .i64 k ∧ cr = .int .i64 c ∧ 0 ≤ c ∧ c ≤ 1 ∧ zs.length = k ∧ Dig 10 zs ∧ Hid (val 10 zs - c * 10 ^ k = sumM xs ys k) ∧
      k ≤ xs.length ∧ wr.ownsRow w.heap.size 3 1 o zs.length (zs.map (Value.int .i64)) ∧ Below w.heap.size w wr)
    (fun _ _ i _ => xs.length - (intOf i).toNat)
  case atStart => exact ⟨0, 0, [], rfl, rfl, by decide, by decide, rfl, Dig.nil _, by show _ = _; simp [val, sumM, sumd], Nat.zero_le _, World.ownsRow_nil _ _ _ _, Below.refl _ _⟩
  case round =>
    obtain ⟨k, c, zs, rfl, rfl, hc0, hc1, hlen, hdig, hS, hk, hown, hB⟩ := hrel
    have x0 := (HX.out.dig.gi (by decide) k).1
    have x1 := (HX.out.dig.gi (by decide) k).2
    have y0 := (HY.out.dig.gi (by decide) k).1
    have y1 := (HY.out.dig.gi (by decide) k).2
    by_cases hk1 : k < xs.length
    · obtain ⟨rfl, h3⟩ := H1.out (by omega)
      have c1 := (hB.cell (p := ⟨b1, o1 + k, none⟩) h3).trans (H4.out k (by omega))
      have i1 : (k : Int) < (xs.length : Int) := by omega
      have Hlen := Lib.hid hlen
      by_cases hk2 : k < ys.length
      · obtain ⟨rfl, g3⟩ := G1.out (by omega)
        have c2 := (hB.cell (p := ⟨b2, o2 + k, none⟩) g3).trans (G4.out k (by omega))
        have i2 : (k : Int) < (ys.length : Int) := by omega
        by_cases hneg : gi xs k - c - gi ys k < 0
        · obtain ⟨d1, d2⟩ := minus_next (x := gi xs k) (y := gi ys k) (n := gi xs k - c - gi ys k) (q := gi xs k - c - gi ys k + 10) (c' := 1) hdig hlen hS rfl rfl (by omega) (by omega) (by omega) (by omega)
          have HA := Lib.hid (And.intro d1 d2)
          skip
          clear hlen d1 d2
          go_wp2_with (at_builtin; refine wp_app_int (gi xs k - c - gi ys k + 10) 35 Tryz.underlying35 rfl _ _ rfl rfl rfl hown (by have := Hlen.out; omega) hB.size ?_; intro g cp w2 hown2 hg2 hb2)
          go_roundw
          case rel => exact ⟨k + 1, 1, zs ++ [gi xs k - c - gi ys k + 10], by go_num, rfl, by decide, by decide, (by rw [List.length_append, Hlen.out]; rfl), HA.out.1, HA.out.2, by omega, (by rw [List.length_append]; exact hown2), hB.trans hb2⟩
          case measure => simp [intOf]; omega
        · obtain ⟨d1, d2⟩ := minus_next (x := gi xs k) (y := gi ys k) (n := gi xs k - c - gi ys k) (q := gi xs k - c - gi ys k) (c' := 0) hdig hlen hS rfl rfl (by omega) (by omega) (by omega) (by omega)
          have HA := Lib.hid (And.intro d1 d2)
          have hnn : 0 ≤ gi xs k - c - gi ys k := by omega
          clear hlen d1 d2 hneg
          go_wp2_with (at_builtin; refine wp_app_int (gi xs k - c - gi ys k) 35 Tryz.underlying35 rfl _ _ rfl rfl rfl hown (by have := Hlen.out; omega) hB.size ?_; intro g cp w2 hown2 hg2 hb2)
          go_roundw
          case rel => exact ⟨k + 1, 0, zs ++ [gi xs k - c - gi ys k], by go_num, rfl, by decide, by decide, (by rw [List.length_append, Hlen.out]; rfl), HA.out.1, HA.out.2, by omega, (by rw [List.length_append]; exact hown2), hB.trans hb2⟩
          case measure => simp [intOf]; omega
      · have hy2 := gi_ge (xs := ys) (i := k) (by omega)
        have hk3 : ys.length ≤ k := by omega
        by_cases hneg : gi xs k - c < 0
        · obtain ⟨d1, d2⟩ := minus_next (x := gi xs k) (y := gi ys k) (n := gi xs k - c) (q := gi xs k - c + 10) (c' := 1) hdig hlen hS rfl rfl (by omega) (by omega) (by omega) (by omega)
          have HA := Lib.hid (And.intro d1 d2)
          skip
          clear hlen d1 d2
          go_wp2_with (at_builtin; refine wp_app_int (gi xs k - c + 10) 35 Tryz.underlying35 rfl _ _ rfl rfl rfl hown (by have := Hlen.out; omega) hB.size ?_; intro g cp w2 hown2 hg2 hb2)
          go_roundw
          case rel => exact ⟨k + 1, 1, zs ++ [gi xs k - c + 10], by go_num, rfl, by decide, by decide, (by rw [List.length_append, Hlen.out]; rfl), HA.out.1, HA.out.2, by omega, (by rw [List.length_append]; exact hown2), hB.trans hb2⟩
          case measure => simp [intOf]; omega
        · obtain ⟨d1, d2⟩ := minus_next (x := gi xs k) (y := gi ys k) (n := gi xs k - c) (q := gi xs k - c) (c' := 0) hdig hlen hS rfl rfl (by omega) (by omega) (by omega) (by omega)
          have HA := Lib.hid (And.intro d1 d2)
          have hnn : 0 ≤ gi xs k - c := by omega
          clear hlen d1 d2 hneg
          go_wp2_with (at_builtin; refine wp_app_int (gi xs k - c) 35 Tryz.underlying35 rfl _ _ rfl rfl rfl hown (by have := Hlen.out; omega) hB.size ?_; intro g cp w2 hown2 hg2 hb2)
          go_roundw
          case rel => exact ⟨k + 1, 0, zs ++ [gi xs k - c], by go_num, rfl, by decide, by decide, (by rw [List.length_append, Hlen.out]; rfl), HA.out.1, HA.out.2, by omega, (by rw [List.length_append]; exact hown2), hB.trans hb2⟩
          case measure => simp [intOf]; omega
    · have hfin := Lib.hid (minus_end HX.out HY.out hle hdig hlen (by omega) (by omega) hc0 hS)
      have hsl := Sl.of_own hown
      have HFr := Lib.hid (Fresh.of_own (w := w) hown (Nat.le_refl _))
      clear hlen hdig hS hown
      go_wp2_with fail
      refine (rtrim_any _ zs _ hsl).mono ?_
      rintro e w2 ⟨⟨v', rfl, hz, hpt⟩, rfl⟩
      have HFr2 := Lib.hid (HFr.out.of_ptr hpt)
      clear hpt HFr
      go_wp2
      go_ret
      exact ⟨⟨_, rfl, _, hz, hfin.out, HFr2.out⟩, hB⟩
theorem rminus_any (v u : Value) (xs ys : List Int) (m n : Int) (w : World) (hv : Sl w v xs) (hu : Sl w u ys) (hx : Num 10 xs m) (hy : Num 10 ys n) (hle : n ≤ m) (hlx : xs.length ≤ 100000) :
    Calls Tryz.prog 100 #[v, u] w (Gives w fun r w' => ∃ zs, Sl w' r zs ∧ Num 10 zs (m - n)) :=
  (rminus_fresh v u xs ys m n w hv hu hx hy hle hlx).mono fun _ _ ⟨⟨r, h1, zs, h2, h3, _⟩, hb⟩ => ⟨⟨r, h1, zs, h2, h3⟩, hb⟩
end Go.Proofs.YtebokdboodgkpaaGreatDoor

/- The reference: Valid, digits, checked. -/
namespace Go.Proofs.YtebokdboodgkpaaGreatDoor
open Go.RowKit
attribute [local go_sem] Oper.semAt_some

/-- What Valid asks of the digits behind the sign. -/
def coreB (l : List UInt8) : Bool := !l.isEmpty && decide (l.length ≤ 200) && l.all isD && (decide (l = [48]) || decide (l.head? ≠ some 48))
theorem data_len (t : ByteArray) : t.data.toList.length = t.size := by rw [Array.length_toList]; rfl
theorem data_get (t : ByteArray) (k : Nat) (h : k < t.size) : t.data.toList[k]'(by rw [data_len]; exact h) = t[k] := rfl
theorem take_all (t : ByteArray) (k : Nat) (h : k < t.size) : (t.data.toList.take (k + 1)).all isD = ((t.data.toList.take k).all isD && isD t[k]) := by
  rw [List.take_succ_eq_append_getElem (by rw [data_len]; exact h), List.all_append, data_get t k h]
  simp
theorem core_bad (t : ByteArray) (k : Nat) (h : k < t.size) (hd : isD t[k] = false) : coreB t.data.toList = false := by
  have : t.data.toList.all isD = false := by
    rw [List.all_eq_false]
    exact ⟨t[k], by rw [← data_get t k h]; exact List.getElem_mem _, by simp [hd]⟩
  unfold coreB
  rw [this]; simp
theorem core_empty (t : ByteArray) (h : t.size = 0) : coreB t.data.toList = false := by
  have : t.data.toList = [] := List.eq_nil_of_length_eq_zero (by rw [data_len]; exact h)
  rw [this]; rfl
theorem core_long (t : ByteArray) (h : 200 < t.size) : coreB t.data.toList = false := by
  unfold coreB
  rw [data_len, decide_eq_false (by omega)]; simp
theorem core_zero (t : ByteArray) (h : t.toList = [48]) : coreB t.data.toList = true := by
  rw [ByteArray.toList_eq] at h
  rw [h]; decide
theorem core_head (t : ByteArray) (h0 : 0 < t.size) (h2 : t.size ≤ 200) (ha : t.data.toList.all isD = true) (hz : ¬ t.toList = [48]) : coreB t.data.toList = (((t[0]).toNat : Int) != 48) := by
  rw [ByteArray.toList_eq] at hz
  have hl := data_len t
  have e : t.data.toList.head? = some t[0] := by rw [List.head?_eq_getElem?, List.getElem?_eq_getElem (by omega), data_get t 0 h0]
  unfold coreB
  rw [e, ha, decide_eq_false hz, decide_eq_true (by omega : t.data.toList.length ≤ 200), byte_ne]
  have : t.data.toList.isEmpty = false := by
    cases hh : t.data.toList with
    | nil => rw [hh] at hl; simp at hl; omega
    | cons _ _ => rfl
  rw [this]
  simp [bne, BEq.beq]

theorem first_ne {t : ByteArray} (h0 : 0 < t.size) (h : t[0] ≠ 45) : ∀ c r, t.data.toList = c :: r → c ≠ 45 := by
  intro c r e hc
  have h1 := data_get t 0 h0
  have h2 : t.data.toList[0]'(by rw [data_len]; exact h0) = c := by simp only [e]; rfl
  rw [h2] at h1
  exact h (h1.symm.trans hc)
theorem first_eq {s : ByteArray} (h0 : 0 < s.size) (h : s[0] = 45) : s.data.toList = 45 :: (s.extract 1 s.size).data.toList := by
  rw [Lib.extract_to_end]
  have h1 := data_get s 0 h0
  rw [← List.drop_zero (l := s.data.toList), List.drop_eq_getElem_cons (by rw [data_len]; exact h0), h1, h]
  rfl
theorem byte_eq_no {c : UInt8} (h : c ≠ 45) : ((c.toNat : Int) == 45) = false := by
  refine beq_eq_false_iff_ne.2 (fun e => h (UInt8.toNat_inj.1 ?_))
  have : (45 : UInt8).toNat = 45 := rfl
  omega
theorem valid_plain {l : List UInt8} (h : ∀ c r, l = c :: r → c ≠ 45) : validB l = coreB l := by
  have e : body l = l := by
    cases l with
    | nil => rfl
    | cons c r => exact body_plain r (h c r rfl)
  unfold validB coreB
  rw [e]
theorem valid_minus {r : List UInt8} : validB (45 :: r) = (!decide (r = [48]) && coreB r) := by
  unfold validB coreB
  rw [body_minus]
  by_cases h : r = [48]
  · subst h; decide
  · simp [h]

set_option maxRecDepth 100000 in
set_option maxHeartbeats 4000000 in
theorem rvalid_plain (t : ByteArray) (h0 : 0 < t.size) (h : t[0] ≠ 45) (hs : t.size ≤ 9223372036854775807) (w : World) : Calls Tryz.prog 74 #[.string t] w fun e w' => e = .returned (.bool (okS t)) ∧ Below w.heap.size w w' := by
  have HC := Lib.hid (show okS t = coreB t.data.toList from valid_plain (first_ne h0 h))
  have hm : (((t[0]).toNat : Int) == 45) = false := byte_eq_no h
  have hpi : (0 : Int) < (t.size : Int) := by omega
  clear h
  go_enter Tryz.func74, Tryz.ntmps74
  go_wp2
  go_loop [3] (fun i => ∃ k : Nat, k ≤ t.size ∧ i = .int .i64 k ∧ Hid ((t.data.toList.take k).all isD = true)) (fun i => t.size - (intOf i).toNat)
  case atStart => exact ⟨0, Nat.zero_le _, rfl, rfl⟩
  case round =>
    obtain ⟨k, hk, rfl, hA⟩ := hrel
    by_cases hlt : k < t.size
    · have hidx : (k : Int) < (t.size : Int) := by omega
      have hstep := take_all t k hlt
      by_cases hd : isD t[k] = true
      · have hd2 := isD_iff.1 hd
        have l1 : (48 : Int) ≤ ((t[k]).toNat : Int) := by omega
        have l2 : ((t[k]).toNat : Int) ≤ 57 := by omega
        have HA := Lib.hid (show (t.data.toList.take (k + 1)).all isD = true by rw [hstep, hA.out, hd]; rfl)
        clear hstep hd hd2
        go_wp2
        go_round
        case rel => exact ⟨k + 1, by omega, by go_num, HA⟩
        case measure => simp [intOf]; omega
      · have hd2 : ¬ (48 ≤ (t[k]).toNat ∧ (t[k]).toNat ≤ 57) := fun h => hd (isD_iff.2 h)
        have HF := Lib.hid (HC.out.trans (core_bad t k hlt (by simpa using hd)))
        have hcs : ((t[k]).toNat : Int) < 48 ∨ (48 : Int) ≤ ((t[k]).toNat : Int) ∧ (57 : Int) < ((t[k]).toNat : Int) := by omega
        clear hstep hd hd2
        rcases hcs with h | ⟨h, h'⟩
        · go_wp2
          go_ret
          exact ⟨ret_bool HF.out.symm, Below.refl _ _⟩
        · go_wp2
          go_ret
          exact ⟨ret_bool HF.out.symm, Below.refl _ _⟩
    · obtain rfl : k = t.size := by omega
      have hall : t.data.toList.all isD = true := by have := hA.out; rwa [List.take_of_length_le (by rw [data_len]; exact Nat.le_refl _)] at this
      clear hA hlt
      by_cases h0 : t.size = 0
      · have HF := Lib.hid (HC.out.trans (core_empty t h0))
        have e0 : t = ⟨#[]⟩ := ByteArray.ext (Array.eq_empty_of_size_eq_zero h0)
        clear HC hall h0
        subst e0
        go_wp2
        go_ret
        exact ⟨ret_bool HF.out.symm, Below.refl _ _⟩
      · have hp : 0 < t.size := by omega
        have hpi : (0 : Int) < (t.size : Int) := by omega
        clear h0
        by_cases h2 : t.size ≤ 200
        · have h2i : (t.size : Int) ≤ 200 := by omega
          by_cases hz : t.toList = [48]
          · have HF := Lib.hid (HC.out.trans (core_zero t hz))
            have hzb : (t.toList == [48]) = true := by rw [hz]; rfl
            clear hz HC hall
            go_wp2
            go_ret
            exact ⟨ret_bool HF.out.symm, Below.refl _ _⟩
          · have hzb : (t.toList == [48]) = false := beq_eq_false_iff_ne.2 hz
            have HF := Lib.hid (HC.out.trans (core_head t hp h2 hall hz))
            clear hz HC hall
            go_wp2
            go_ret
            exact ⟨ret_bool (by rw [HF.out]), Below.refl _ _⟩
        · have h2i : (200 : Int) < (t.size : Int) := by omega
          have HF := Lib.hid (HC.out.trans (core_long t (by omega)))
          clear HC hall h2
          go_wp2
          go_ret
          exact ⟨ret_bool HF.out.symm, Below.refl _ _⟩

set_option maxRecDepth 100000 in
set_option maxHeartbeats 4000000 in
theorem rvalid_empty (w : World) : Calls Tryz.prog 74 #[.string ⟨#[]⟩] w fun e w' => e = .returned (.bool (okS ⟨#[]⟩)) ∧ Below w.heap.size w w' := by
  have HF := Lib.hid (show okS ⟨#[]⟩ = false from rfl)
  go_enter Tryz.func74, Tryz.ntmps74
  go_wp2
  go_loop [3] (fun i => i = .int .i64 0) (fun _ => 0)
  case atStart => rfl
  case round =>
    obtain rfl := hrel
    go_wp2
    go_ret
    exact ⟨ret_bool HF.out.symm, Below.refl _ _⟩

set_option maxRecDepth 100000 in
set_option maxHeartbeats 4000000 in
theorem rvalid_minus (s : ByteArray) (h0 : 0 < s.size) (h : s[0] = 45) (hs : s.size ≤ 9223372036854775807) (w : World) : Calls Tryz.prog 74 #[.string s] w fun e w' => e = .returned (.bool (okS s)) ∧ Below w.heap.size w w' := by
  have hv : okS s = (!decide ((s.extract 1 s.size).data.toList = [48]) && coreB (s.extract 1 s.size).data.toList) := by
    unfold okS
    rw [first_eq h0 h]; exact valid_minus
  have hm : (((s[0]).toNat : Int) == 45) = true := by rw [h]; rfl
  have hpi : (0 : Int) < (s.size : Int) := by omega
  have hts : (s.extract 1 s.size).size ≤ 9223372036854775807 := by simp; omega
  clear h
  by_cases hz : (s.extract 1 s.size).data.toList = [48]
  · have HF := Lib.hid (show okS s = false by rw [hv, decide_eq_true hz]; rfl)
    have hzb : ((s.extract 1 s.size).toList == [48]) = true := by rw [ByteArray.toList_eq, hz]; rfl
    clear hv hz hts
    go_enter Tryz.func74, Tryz.ntmps74
    go_wp2
    go_ret
    exact ⟨ret_bool HF.out.symm, Below.refl _ _⟩
  have HC := Lib.hid (show okS s = coreB (s.extract 1 s.size).data.toList by rw [hv, decide_eq_false hz]; rfl)
  have hzb : ((s.extract 1 s.size).toList == [48]) = false := by rw [ByteArray.toList_eq]; exact beq_eq_false_iff_ne.2 hz
  clear hv hz
  go_enter Tryz.func74, Tryz.ntmps74
  go_wp2
  generalize s.extract 1 s.size = t at *
  clear hzb
  go_loop [3] (fun i => ∃ k : Nat, k ≤ t.size ∧ i = .int .i64 k ∧ Hid ((t.data.toList.take k).all isD = true)) (fun i => t.size - (intOf i).toNat)
  case atStart => exact ⟨0, Nat.zero_le _, rfl, rfl⟩
  case round =>
    obtain ⟨k, hk, rfl, hA⟩ := hrel
    by_cases hlt : k < t.size
    · have hidx : (k : Int) < (t.size : Int) := by omega
      have hstep := take_all t k hlt
      by_cases hd : isD t[k] = true
      · have hd2 := isD_iff.1 hd
        have l1 : (48 : Int) ≤ ((t[k]).toNat : Int) := by omega
        have l2 : ((t[k]).toNat : Int) ≤ 57 := by omega
        have HA := Lib.hid (show (t.data.toList.take (k + 1)).all isD = true by rw [hstep, hA.out, hd]; rfl)
        clear hstep hd hd2
        go_wp2
        go_round
        case rel => exact ⟨k + 1, by omega, by go_num, HA⟩
        case measure => simp [intOf]; omega
      · have hd2 : ¬ (48 ≤ (t[k]).toNat ∧ (t[k]).toNat ≤ 57) := fun h => hd (isD_iff.2 h)
        have HF := Lib.hid (HC.out.trans (core_bad t k hlt (by simpa using hd)))
        have hcs : ((t[k]).toNat : Int) < 48 ∨ (48 : Int) ≤ ((t[k]).toNat : Int) ∧ (57 : Int) < ((t[k]).toNat : Int) := by omega
        clear hstep hd hd2
        rcases hcs with h | ⟨h, h'⟩
        · go_wp2
          go_ret
          exact ⟨ret_bool HF.out.symm, Below.refl _ _⟩
        · go_wp2
          go_ret
          exact ⟨ret_bool HF.out.symm, Below.refl _ _⟩
    · obtain rfl : k = t.size := by omega
      have hall : t.data.toList.all isD = true := by have := hA.out; rwa [List.take_of_length_le (by rw [data_len]; exact Nat.le_refl _)] at this
      clear hA hlt
      by_cases h0 : t.size = 0
      · have HF := Lib.hid (HC.out.trans (core_empty t h0))
        have e0 : t = ⟨#[]⟩ := ByteArray.ext (Array.eq_empty_of_size_eq_zero h0)
        clear HC hall h0
        subst e0
        go_wp2
        go_ret
        exact ⟨ret_bool HF.out.symm, Below.refl _ _⟩
      · have hp : 0 < t.size := by omega
        have hpi : (0 : Int) < (t.size : Int) := by omega
        clear h0
        by_cases h2 : t.size ≤ 200
        · have h2i : (t.size : Int) ≤ 200 := by omega
          by_cases hz : t.toList = [48]
          · have HF := Lib.hid (HC.out.trans (core_zero t hz))
            have hzb : (t.toList == [48]) = true := by rw [hz]; rfl
            clear hz HC hall
            go_wp2
            go_ret
            exact ⟨ret_bool HF.out.symm, Below.refl _ _⟩
          · have hzb : (t.toList == [48]) = false := beq_eq_false_iff_ne.2 hz
            have HF := Lib.hid (HC.out.trans (core_head t hp h2 hall hz))
            clear hz HC hall
            go_wp2
            go_ret
            exact ⟨ret_bool (by rw [HF.out]), Below.refl _ _⟩
        · have h2i : (200 : Int) < (t.size : Int) := by omega
          have HF := Lib.hid (HC.out.trans (core_long t (by omega)))
          clear HC hall h2
          go_wp2
          go_ret
          exact ⟨ret_bool HF.out.symm, Below.refl _ _⟩

/-- putlogref03.Valid. -/
theorem rvalid_any (s : ByteArray) (hs : s.size ≤ 9223372036854775807) (w : World) : Calls Tryz.prog 74 #[.string s] w fun e w' => e = .returned (.bool (okS s)) ∧ Below w.heap.size w w' := by
  by_cases h0 : s.size = 0
  · obtain rfl : s = ⟨#[]⟩ := ByteArray.ext (Array.eq_empty_of_size_eq_zero h0)
    exact rvalid_empty w
  · have hp : 0 < s.size := by omega
    by_cases h : s[0] = 45
    · exact rvalid_minus s hp h hs w
    · exact rvalid_plain s hp h hs w

/-- The digits of a text, the lowest one first. -/
def undig (l : List UInt8) : List Int := l.reverse.map fun b => (b.toNat : Int) - 48
theorem undig_cons (b : UInt8) (l : List UInt8) : undig (b :: l) = undig l ++ [(b.toNat : Int) - 48] := by simp [undig]
theorem undig_len (l : List UInt8) : (undig l).length = l.length := by simp [undig]
theorem undig_dig {l : List UInt8} (h : ∀ b ∈ l, isD b = true) : Dig 10 (undig l) := by
  intro x hx
  obtain ⟨b, hb, rfl⟩ := List.mem_map.1 hx
  have := isD_iff.1 (h b (List.mem_reverse.1 hb))
  omega
theorem undig_val {l : List UInt8} (h : ∀ b ∈ l, isD b = true) : val 10 (undig l) = dnum l := by
  induction l with
  | nil => rfl
  | cons b l ih =>
    have hb := isD_iff.1 (h b (by simp))
    rw [undig_cons, val_snoc, ih (fun c hc => h c (by simp [hc])), undig_len]
    rw [show b :: l = [b] ++ l from rfl, dnum_append]
    have e : dnum [b] = b.toNat - 48 := by simp [dnum, dnF]
    rw [e]
    have e2 : ((b.toNat : Int) - 48) = ((b.toNat - 48 : Nat) : Int) := by omega
    rw [e2]; simp; omega
theorem undig_num {l : List UInt8} (h : ∀ b ∈ l, isD b = true) (h0 : l ≠ []) (hh : ∀ b, l.head? = some b → b.toNat ≠ 48) : Num 10 (undig l) (dnum l) := by
  refine ⟨undig_dig h, ?_, undig_val h⟩
  cases l with
  | nil => exact absurd rfl h0
  | cons b l =>
    rw [undig_cons]
    have hb := isD_iff.1 (h b (by simp))
    have := hh b rfl
    exact (top_snoc (zs := undig l) (d := (b.toNat : Int) - 48) (by omega)).out

/-- What digits returns. -/
def DV (w : World) (r : Value) (z : Int) : Prop := ∃ v xs, r = .tuple #[.bool (decide (z < 0)), v] ∧ Sl w v xs ∧ Num 10 xs z.natAbs
set_option maxRecDepth 100000 in
set_option maxHeartbeats 4000000 in
theorem rdigits_zero (w : World) : Calls Tryz.prog 97 #[.string ⟨#[48]⟩] w (Gives w fun r w' => DV w' r 0) := by
  go_enter Tryz.func97, Tryz.ntmps97
  go_wp2
  go_loop [5, 6] (fun o i => o = .slice none 0 0 ∧ i = .int .i64 0) (fun _ _ => 0)
  case atStart => exact ⟨rfl, rfl⟩
  case round =>
    obtain ⟨rfl, rfl⟩ := hrel
    go_wp2
    go_ret2
    exact ⟨⟨_, rfl, _, [], rfl, Sl.nil _, Num.trim (xs := []) (Dig.nil 10)⟩, Below.refl _ _⟩

set_option maxRecDepth 100000 in
set_option maxHeartbeats 4000000 in
theorem rdigits_pos (t : ByteArray) (z : Int) (hA : ∀ b ∈ t.data.toList, isD b = true) (hN : Num 10 (undig t.data.toList) z.natAbs) (hz : 0 < z) (h0 : 0 < t.size) (h2 : t.size ≤ 200) (h : t[0] ≠ 45) (hne : (t.toList == [48]) = false) (w : World) :
    Calls Tryz.prog 97 #[.string t] w (Gives w fun r w' => DV w' r z) := by
  have HA := Lib.hid hA
  have HN := Lib.hid hN
  have HZ := Lib.hid (show decide (z < 0) = false from decide_eq_false (by omega))
  have hm : (((t[0]).toNat : Int) == 45) = false := byte_eq_no h
  have hpi : (0 : Int) < (t.size : Int) := by omega
  clear h hA hN hz
  go_enter Tryz.func97, Tryz.ntmps97
  go_wp2
  go_loopw [5, 6] (fun o i wr => ∃ (r : Nat) (q : Int) (ds : List Int), r ≤ t.size ∧ i = .int .i64 q ∧ Hid (q = (r : Int) - 1) ∧ Hid (ds = undig (t.data.toList.drop r)) ∧ ds.length + r = t.size ∧ wr.ownsRow w.heap.size 3 1 o ds.length (ds.map (Value.int .i64)) ∧ Below w.heap.size w wr)
    (fun _ i _ => (intOf i + 1).toNat)
  case atStart => exact ⟨t.size, _, [], Nat.le_refl _, rfl, (by show _ = _; omega), (show [] = undig (t.data.toList.drop t.size) by rw [List.drop_of_length_le (by rw [data_len]; exact Nat.le_refl _)]; rfl), by simp, World.ownsRow_nil _ _ _ _, Below.refl _ _⟩
  case round =>
    obtain ⟨r, q, ds, hr, rfl, hq, hD, hlen, hown, hB⟩ := hrel
    cases r with
    | zero =>
      obtain rfl : q = -1 := by have := hq.out; omega
      have hsl := Sl.of_own hown
      have hds := hD.out
      rw [List.drop_zero] at hds
      have HDS := Lib.hid hds
      clear hlen hds hown
      go_wp2
      go_ret2
      exact ⟨⟨_, rfl, _, ds, by rw [HZ.out]; rfl, hsl, by rw [HDS.out]; exact HN.out⟩, hB⟩
    | succ r =>
      obtain rfl : q = (r : Int) := by have := hq.out; omega
      have hlt : r < t.size := by omega
      have hidx : (r : Int) < (t.size : Int) := by omega
      have hd := isD_iff.1 (HA.out t[r] (by rw [← data_get t r hlt]; exact List.getElem_mem _))
      have l1 : (48 : Int) ≤ ((t[r]).toNat : Int) := by omega
      have l2 : ((t[r]).toNat : Int) ≤ 57 := by omega
      have HD2 := Lib.hid (show ds ++ [((t[r]).toNat : Int) - 48] = undig (t.data.toList.drop r) by
        rw [List.drop_eq_getElem_cons (i := r) (by rw [data_len]; exact hlt), data_get t r hlt, undig_cons, ← hD.out])
      have Hlen := Lib.hid hlen
      have hdl : ds.length ≤ 1000 := by omega
      clear hd hlen
      go_wp2_with (at_builtin; refine wp_app_int (((t[r]).toNat : Int) - 48) 35 Tryz.underlying35 rfl _ _ rfl rfl rfl hown (by omega) hB.size ?_; intro g cp w2 hown2 hg2 hb2)
      go_roundw
      case rel => exact ⟨r, _, ds ++ [((t[r]).toNat : Int) - 48], by omega, rfl, rfl, HD2, (by rw [List.length_append]; have := Hlen.out; simp; omega), (by rw [List.length_append]; exact hown2), hB.trans hb2⟩
      case measure => simp [intOf]

set_option maxRecDepth 100000 in
set_option maxHeartbeats 4000000 in
theorem rdigits_neg (s : ByteArray) (z : Int) (hA : ∀ b ∈ (s.extract 1 s.size).data.toList, isD b = true) (hN : Num 10 (undig (s.extract 1 s.size).data.toList) z.natAbs) (hz : z < 0) (h0 : 0 < s.size) (h2 : s.size ≤ 201) (h : s[0] = 45) (hne : ((s.extract 1 s.size).toList == [48]) = false) (w : World) :
    Calls Tryz.prog 97 #[.string s] w (Gives w fun r w' => DV w' r z) := by
  have HA := Lib.hid hA
  have HN := Lib.hid hN
  have HZ := Lib.hid (show decide (z < 0) = true from decide_eq_true (by omega))
  have hm : (((s[0]).toNat : Int) == 45) = true := by rw [h]; rfl
  have hpi : (0 : Int) < (s.size : Int) := by omega
  have hts : (s.extract 1 s.size).size = s.size - 1 := by simp
  have hts2 : (((s.extract 1 s.size).size : Nat) : Int) = (s.size : Int) - 1 := by omega
  clear h hA hN hz
  go_enter Tryz.func97, Tryz.ntmps97
  go_wp2
  generalize s.extract 1 s.size = t at *
  clear hts2
  go_loopw [5, 6] (fun o i wr => ∃ (r : Nat) (q : Int) (ds : List Int), r ≤ t.size ∧ i = .int .i64 q ∧ Hid (q = (r : Int) - 1) ∧ Hid (ds = undig (t.data.toList.drop r)) ∧ ds.length + r = t.size ∧ wr.ownsRow w.heap.size 3 1 o ds.length (ds.map (Value.int .i64)) ∧ Below w.heap.size w wr)
    (fun _ i _ => (intOf i + 1).toNat)
  case atStart => exact ⟨t.size, _, [], Nat.le_refl _, rfl, (by show _ = _; omega), (show [] = undig (t.data.toList.drop t.size) by rw [List.drop_of_length_le (by rw [data_len]; exact Nat.le_refl _)]; rfl), by simp, World.ownsRow_nil _ _ _ _, Below.refl _ _⟩
  case round =>
    obtain ⟨r, q, ds, hr, rfl, hq, hD, hlen, hown, hB⟩ := hrel
    cases r with
    | zero =>
      obtain rfl : q = -1 := by have := hq.out; omega
      have hsl := Sl.of_own hown
      have hds := hD.out
      rw [List.drop_zero] at hds
      have HDS := Lib.hid hds
      clear hlen hds hown
      go_wp2
      go_ret2
      exact ⟨⟨_, rfl, _, ds, by rw [HZ.out]; rfl, hsl, by rw [HDS.out]; exact HN.out⟩, hB⟩
    | succ r =>
      obtain rfl : q = (r : Int) := by have := hq.out; omega
      have hlt : r < t.size := by omega
      have hidx : (r : Int) < (t.size : Int) := by omega
      have hd := isD_iff.1 (HA.out t[r] (by rw [← data_get t r hlt]; exact List.getElem_mem _))
      have l1 : (48 : Int) ≤ ((t[r]).toNat : Int) := by omega
      have l2 : ((t[r]).toNat : Int) ≤ 57 := by omega
      have HD2 := Lib.hid (show ds ++ [((t[r]).toNat : Int) - 48] = undig (t.data.toList.drop r) by
        rw [List.drop_eq_getElem_cons (i := r) (by rw [data_len]; exact hlt), data_get t r hlt, undig_cons, ← hD.out])
      have Hlen := Lib.hid hlen
      have hdl : ds.length ≤ 1000 := by omega
      clear hd hlen
      go_wp2_with (at_builtin; refine wp_app_int (((t[r]).toNat : Int) - 48) 35 Tryz.underlying35 rfl _ _ rfl rfl rfl hown (by omega) hB.size ?_; intro g cp w2 hown2 hg2 hb2)
      go_roundw
      case rel => exact ⟨r, _, ds ++ [((t[r]).toNat : Int) - 48], by omega, rfl, rfl, HD2, (by rw [List.length_append]; have := Hlen.out; simp; omega), (by rw [List.length_append]; exact hown2), hB.trans hb2⟩
      case measure => simp [intOf]

/-- putlogref03.digits, of an integer. -/
theorem rdigits_any (s : ByteArray) (h : okS s = true) (w : World) : Calls Tryz.prog 97 #[.string s] w (Gives w fun r w' => DV w' r (zS s)) := by
  obtain ⟨h1, h2, h3, h4⟩ := valid_parts h
  have hv : validB s.data.toList = true := h
  by_cases hz : zS s = 0
  · have e : s = ⟨#[48]⟩ := by
      have h5 := (itoa_of_valid hv).1
      have h6 : ival s.data.toList = 0 := hz
      rw [h6, show Lib.itoa (0 : Int) = [48] from itoa_zero false] at h5
      exact ByteArray.ext (Array.ext' h5)
    rw [hz, e]
    exact rdigits_zero w
  · have hne : body s.data.toList ≠ [] := fun e => by
      unfold validB at hv
      rw [e] at hv; simp at hv
    have h0 : 0 < s.size := by
      rw [← data_len]
      cases hl : s.data.toList with
      | nil => rw [hl] at hne; exact absurd rfl hne
      | cons _ _ => simp
    have hd0 : dnum (body s.data.toList) ≠ 0 := fun e => by
      rw [e] at h4
      exact hz (by show ival _ = 0; omega)
    have hhead : ∀ b, (body s.data.toList).head? = some b → b.toNat ≠ 48 := by
      intro b hb e
      have hb2 : b = 48 := UInt8.toNat_inj.1 e
      subst hb2
      unfold validB at hv
      rw [hb] at hv
      simp at hv
      have h7 := hv.2
      rw [h7] at hd0
      exact hd0 rfl
    have hN := undig_num h1 hne hhead
    rw [h4] at hN
    have hb48 : body s.data.toList ≠ [48] := fun e => by rw [e] at hd0; exact hd0 rfl
    by_cases hm : s[0] = 45
    · have e := first_eq h0 hm
      have eb : body s.data.toList = (s.extract 1 s.size).data.toList := by rw [e, body_minus]
      rw [eb] at h1 h2 h3 hN hb48
      have hneg : zS s < 0 := by
        have hl : decide ((s.extract 1 s.size).data.toList.length < s.data.toList.length) = true := decide_eq_true (by rw [e]; simp)
        rw [hl] at h3
        exact of_decide_eq_true h3.symm
      rw [data_len] at h2
      refine rdigits_neg s (zS s) h1 hN hneg h0 (by have : (s.extract 1 s.size).size = s.size - 1 := by simp
                                                    omega) hm ?_ w
      rw [ByteArray.toList_eq]; exact beq_eq_false_iff_ne.2 hb48
    · have eb : body s.data.toList = s.data.toList := by
        cases hl : s.data.toList with
        | nil => rfl
        | cons c r => exact body_plain r (first_ne h0 hm c r hl)
      rw [eb] at h1 h2 h3 hN hb48
      have hneg : ¬ zS s < 0 := by
        have hl : decide (s.data.toList.length < s.data.toList.length) = false := decide_eq_false (by omega)
        rw [hl] at h3
        exact of_decide_eq_false h3.symm
      rw [data_len] at h2
      refine rdigits_pos s (zS s) h1 hN (by omega) h0 h2 hm ?_ w
      rw [ByteArray.toList_eq]; exact beq_eq_false_iff_ne.2 hb48

/- putlogref03.checked. -/
set_option maxRecDepth 100000 in
set_option maxHeartbeats 4000000 in
theorem checked_any (neg : Bool) (v : Value) (xs : List Int) (n : Int) (w : World) (hv : Sl w v xs) (hn : Num 10 xs n) (hl : xs.length ≤ 1000000) :
    Calls Tryz.prog 101 #[.bool neg, v] w (Gives w fun r _ => r = resT true (sgn neg n)) := by
  have hs : xs.length ≤ 200 ↔ Small (sgn neg n) := by
    rw [small_iff (hn.nonneg (by decide))]
    constructor
    · intro h; exact Int.lt_of_lt_of_le (hn.lt (by decide)) (by unfold Big; exact pow_mono (by decide) h)
    · intro h; exact hn.length_le (by decide) h
  by_cases h : xs.length ≤ 200
  · have e : resT true (sgn neg n) = .tuple #[.string ⟨(Lib.itoa (sgn neg n)).toArray⟩, .int .i64 0] := by
      unfold resT txt erz; rw [if_pos rfl, if_pos (hs.1 h), if_pos (hs.1 h)]
    have HE := Lib.hid e
    have hd : decide (xs.length ≤ 200) = true := decide_eq_true h
    clear hs e h
    go_enter Tryz.func101, Tryz.ntmps101
    go_wp2_with fail
    refine (rtext_any neg v xs n w hv hn hl).mono ?_
    rintro e w1 ⟨rfl, hb⟩
    rw [hd]
    go_wp2
    go_ret2
    exact ⟨⟨_, rfl, HE.out.symm⟩, hb⟩
  · have e : resT true (sgn neg n) = .tuple #[.string ⟨#[]⟩, .int .i64 30] := by
      unfold resT txt erz; rw [if_pos rfl, if_neg (fun k => h (hs.2 k)), if_neg (fun k => h (hs.2 k))]
    have HE := Lib.hid e
    have hd : decide (xs.length ≤ 200) = false := decide_eq_false h
    clear hs e h
    go_enter Tryz.func101, Tryz.ntmps101
    go_wp2_with fail
    refine (rtext_any neg v xs n w hv hn hl).mono ?_
    rintro e w1 ⟨rfl, hb⟩
    rw [hd]
    go_wp2
    go_ret2
    exact ⟨⟨_, rfl, HE.out.symm⟩, hb⟩

theorem okS_pos {a : ByteArray} (ha : okS a = true) : 0 < a.size := by
  have hv : validB a.data.toList = true := ha
  rw [← data_len]
  cases hl : a.data.toList with
  | nil => rw [hl] at hv; exact absurd hv (by decide)
  | cons _ _ => simp
theorem okS_minus {a : ByteArray} (ha : okS a = true) (hp : 0 < a.size) : decide (a[0] = 45) = decide (zS a < 0) := by
  have hv : validB a.data.toList = true := ha
  obtain ⟨_, _, h3, _⟩ := valid_parts hv
  show _ = decide (ival a.data.toList < 0)
  rw [← h3]
  by_cases hm : a[0] = 45
  · have e := first_eq hp hm
    rw [e, body_minus]; simp [hm]
  · have e : body a.data.toList = a.data.toList := by
      cases hl : a.data.toList with
      | nil => rfl
      | cons c r => exact body_plain r (first_ne hp hm c r hl)
    rw [e]; simp [hm]
end Go.Proofs.YtebokdboodgkpaaGreatDoor

/- The reference: sum, Add, Sub, Compare. -/
namespace Go.Proofs.YtebokdboodgkpaaGreatDoor
open Go.RowKit
attribute [local go_sem] Oper.semAt_some

theorem cmpL10 {xs ys : List Int} {a b : Int} (hx : Num 10 xs a) (hy : Num 10 ys b) : cmpL xs ys = Lib.compareInt a b := by
  unfold cmpL
  by_cases hl : xs.length = ys.length
  · rw [if_pos hl, cmpTop_val 10 (by decide) hx.dig hy.dig _ (Nat.le_refl _) (by omega), List.take_length, hl, List.take_length, hx.val, hy.val]
  · rw [if_neg hl]
    by_cases c : xs.length < ys.length
    · rw [compareInt_lt (by omega), compareInt_lt (hx.len_lt (by decide) hy c)]
    · rw [compareInt_gt (by omega), compareInt_gt (hy.len_lt (by decide) hx (by omega))]
theorem res_small {z : Int} (h : Small z) : resT true z = .tuple #[.string ⟨(Lib.itoa z).toArray⟩, .int .i64 0] := by unfold resT txt erz; rw [if_pos rfl, if_pos h, if_pos h]
theorem res_big {z : Int} (h : ¬ Small z) : resT true z = .tuple #[.string ⟨#[]⟩, .int .i64 30] := by unfold resT txt erz; rw [if_pos rfl, if_neg h, if_neg h]
theorem res_no (x y : Int) : resT false x = resT false y := rfl
theorem cmp_sign {a b : Int} : (0 ≤ Lib.compareInt a b ↔ b ≤ a) := by
  rcases Int.lt_trichotomy a b with h | h | h
  · rw [compareInt_lt h]; omega
  · rw [h, compareInt_eq]; omega
  · rw [compareInt_gt h]; omega
set_option maxRecDepth 100000 in
set_option maxHeartbeats 4000000 in
theorem rsum_any (s t : Bool) (v u : Value) (xs ys : List Int) (m n : Int) (w : World) (hv : Sl w v xs) (hu : Sl w u ys) (hx : Num 10 xs m) (hy : Num 10 ys n) (hlx : xs.length ≤ 1000) (hly : ys.length ≤ 1000) :
    Calls Tryz.prog 110 #[.bool s, v, .bool t, u] w (Gives w fun r _ => r = resT true (sgn s m + sgn t n)) := by
  have hm0 := hx.nonneg (by decide)
  have hn0 := hy.nonneg (by decide)
  have lz : ∀ zs k, Num 10 zs k → k ≤ m + n → zs.length ≤ 10000 := fun zs k hz hk => hz.length_le (by decide) (Int.lt_of_le_of_lt hk (by
    have h1 := hx.lt (by decide)
    have h2 := hy.lt (by decide)
    have h3 := pow_mono (b := 10) (by decide) hlx
    have h4 := pow_mono (b := 10) (by decide) hly
    have h5 : (10 : Int) ^ 1001 = 10 ^ 1000 * 10 := Int.pow_succ ..
    have h6 := pow_mono (b := 10) (by decide) (show 1001 ≤ 10000 by decide)
    generalize (10 : Int) ^ 1000 = P at *
    generalize (10 : Int) ^ 1001 = Q at *
    generalize (10 : Int) ^ 10000 = R at *
    omega))
  have LZ := Lib.hid lz
  clear lz
  by_cases hst : s = t
  · subst hst
    have HE := Lib.hid (show sgn s m + sgn s n = sgn s (m + n) by cases s <;> simp [sgn] <;> omega)
    have hsb : (s == s) = true := by simp
    go_enter Tryz.func110, Tryz.ntmps110
    go_wp2_with fail
    refine (rplus_any _ _ xs ys m n _ hv hu hx hy (by omega) (by omega)).mono ?_
    rintro e w1 ⟨⟨r, rfl, zs, hz, hnz⟩, hb⟩
    have hl := LZ.out zs _ hnz (by omega)
    go_wp2_with fail
    refine (checked_any s _ zs _ _ hz hnz (by omega)).mono ?_
    rintro e w2 ⟨⟨r, rfl, rfl⟩, hb2⟩
    obtain ⟨z, hzz⟩ : ∃ z, Hid (sgn s (m + n) = z) := ⟨_, Lib.hid rfl⟩
    rw [hzz.out]
    cases hs : decide (Small z) with
    | true =>
      rw [res_small (of_decide_eq_true hs)]
      go_wp2
      go_ret2
      exact ⟨⟨_, rfl, by rw [HE.out, hzz.out]; exact (res_small (of_decide_eq_true hs)).symm⟩, kb_call hb2 hb (Nat.le_refl _)⟩
    | false =>
      rw [res_big (of_decide_eq_false hs)]
      go_wp2
      go_ret2
      exact ⟨⟨_, rfl, by rw [HE.out, hzz.out]; exact (res_big (of_decide_eq_false hs)).symm⟩, kb_call hb2 hb (Nat.le_refl _)⟩
  · have hsb : (s == t) = false := by simp [hst]
    have hst2 : t = !s := by cases s <;> cases t <;> simp_all
    clear hst
    by_cases hle : n ≤ m
    · have HE := Lib.hid (show sgn s m + sgn t n = sgn s (m - n) by rw [hst2]; cases s <;> simp [sgn] <;> omega)
      have hc := cmp_sign.2 hle
      have HC := Lib.hid (cmpL10 hx hy)
      clear hst2
      go_enter Tryz.func110, Tryz.ntmps110
      go_wp2_with fail
      refine (order_any _ _ xs ys _ hv hu).mono ?_
      rintro e w1 ⟨rfl, hb0⟩
      rw [HC.out]
      generalize Lib.compareInt m n = c at *
      have hv1 := hv.below hb0
      have hu1 := hu.below hb0
      go_wp2_with fail
      refine (rminus_any _ _ xs ys m n _ hv1 hu1 hx hy hle (by omega)).mono ?_
      rintro e w2 ⟨⟨r, rfl, zs, hz, hnz⟩, hb⟩
      have hl := LZ.out zs _ hnz (by omega)
      go_wp2_with fail
      refine (checked_any s _ zs _ _ hz hnz (by omega)).mono ?_
      rintro e w3 ⟨⟨r, rfl, rfl⟩, hb2⟩
      obtain ⟨z, hzz⟩ : ∃ z, Hid (sgn s (m - n) = z) := ⟨_, Lib.hid rfl⟩
      rw [hzz.out]
      cases hs : decide (Small z) with
      | true =>
        rw [res_small (of_decide_eq_true hs)]
        go_wp2
        go_ret2
        exact ⟨⟨_, rfl, by rw [HE.out, hzz.out]; exact (res_small (of_decide_eq_true hs)).symm⟩, kb_call hb2 (kb_call hb hb0 (Nat.le_refl _)) (Nat.le_refl _)⟩
      | false =>
        rw [res_big (of_decide_eq_false hs)]
        go_wp2
        go_ret2
        exact ⟨⟨_, rfl, by rw [HE.out, hzz.out]; exact (res_big (of_decide_eq_false hs)).symm⟩, kb_call hb2 (kb_call hb hb0 (Nat.le_refl _)) (Nat.le_refl _)⟩
    · have hle2 : m ≤ n := by omega
      have HE := Lib.hid (show sgn s m + sgn t n = sgn t (n - m) by rw [hst2]; cases s <;> simp [sgn] <;> omega)
      have HC := Lib.hid ((cmpL10 hx hy).trans (compareInt_lt (by omega)))
      clear hst2 hle
      go_enter Tryz.func110, Tryz.ntmps110
      go_wp2_with fail
      refine (order_any _ _ xs ys _ hv hu).mono ?_
      rintro e w1 ⟨rfl, hb0⟩
      rw [HC.out]
      have hv1 := hv.below hb0
      have hu1 := hu.below hb0
      go_wp2_with fail
      refine (rminus_any _ _ ys xs n m _ hu1 hv1 hy hx hle2 (by omega)).mono ?_
      rintro e w2 ⟨⟨r, rfl, zs, hz, hnz⟩, hb⟩
      have hl := LZ.out zs _ hnz (by omega)
      go_wp2_with fail
      refine (checked_any t _ zs _ _ hz hnz (by omega)).mono ?_
      rintro e w3 ⟨⟨r, rfl, rfl⟩, hb2⟩
      obtain ⟨z, hzz⟩ : ∃ z, Hid (sgn t (n - m) = z) := ⟨_, Lib.hid rfl⟩
      rw [hzz.out]
      cases hs : decide (Small z) with
      | true =>
        rw [res_small (of_decide_eq_true hs)]
        go_wp2
        go_ret2
        exact ⟨⟨_, rfl, by rw [HE.out, hzz.out]; exact (res_small (of_decide_eq_true hs)).symm⟩, kb_call hb2 (kb_call hb hb0 (Nat.le_refl _)) (Nat.le_refl _)⟩
      | false =>
        rw [res_big (of_decide_eq_false hs)]
        go_wp2
        go_ret2
        exact ⟨⟨_, rfl, by rw [HE.out, hzz.out]; exact (res_big (of_decide_eq_false hs)).symm⟩, kb_call hb2 (kb_call hb hb0 (Nat.le_refl _)) (Nat.le_refl _)⟩

theorem len10 {xs : List Int} {z : Int} (h : Num 10 xs z.natAbs) (hz : Small z) : xs.length ≤ 200 := h.length_le (by decide) (by unfold Small Big at hz; omega)
set_option maxRecDepth 100000 in
set_option maxHeartbeats 4000000 in
theorem radd_ok (a b : ByteArray) (ha : okS a = true) (hb : okS b = true) (hsa : a.size ≤ 9223372036854775807) (hsb : b.size ≤ 9223372036854775807) (w : World) :
    Calls Tryz.prog 83 #[.string a, .string b] w (Gives w fun r _ => r = resT true (zS a + zS b)) := by
  have V1 := fun W => rvalid_any a hsa W
  have V2 := fun W => rvalid_any b hsb W
  have D1 := fun W => rdigits_any a ha W
  have D2 := fun W => rdigits_any b hb W
  have Sa := z_bound ha
  have Sb := z_bound hb
  rw [ha] at V1
  rw [hb] at V2
  go_enter Tryz.func83, Tryz.ntmps83
  go_wp2_with fail
  refine (V1 _).mono ?_
  rintro e w1 ⟨rfl, hb1⟩
  go_wp2_with fail
  refine (V2 _).mono ?_
  rintro e w2 ⟨rfl, hb2⟩
  have hB2 := kb_call hb2 hb1 (Nat.le_refl _)
  go_wp2_with fail
  refine (D1 _).mono ?_
  rintro e w3 ⟨⟨r, rfl, v, xs, rfl, hx, hnx⟩, hb3⟩
  have hB3 := kb_call hb3 hB2 (Nat.le_refl _)
  have lx := len10 hnx Sa
  go_wp2_with fail
  refine (D2 _).mono ?_
  rintro e w4 ⟨⟨r, rfl, u, ys, rfl, hy, hny⟩, hb4⟩
  have hB4 := kb_call hb4 hB3 (Nat.le_refl _)
  have ly := len10 hny Sb
  have hx4 := hx.below hb4
  go_wp2_with fail
  refine (rsum_any (decide (zS a < 0)) (decide (zS b < 0)) _ _ xs ys _ _ _ hx4 hy hnx hny (by omega) (by omega)).mono ?_
  rw [sgn_abs, sgn_abs]
  rintro e w5 ⟨⟨r, rfl, rfl⟩, hb5⟩
  obtain ⟨z, hzz⟩ : ∃ z, Hid (zS a + zS b = z) := ⟨_, Lib.hid rfl⟩
  rw [hzz.out]
  cases hs : decide (Small z) with
  | true =>
    rw [res_small (of_decide_eq_true hs)]
    go_wp2
    go_ret2
    exact ⟨⟨_, rfl, by rw [hzz.out]; exact (res_small (of_decide_eq_true hs)).symm⟩, kb_call hb5 hB4 (Nat.le_refl _)⟩
  | false =>
    rw [res_big (of_decide_eq_false hs)]
    go_wp2
    go_ret2
    exact ⟨⟨_, rfl, by rw [hzz.out]; exact (res_big (of_decide_eq_false hs)).symm⟩, kb_call hb5 hB4 (Nat.le_refl _)⟩
set_option maxRecDepth 100000 in
set_option maxHeartbeats 4000000 in
theorem radd_bad (a b : ByteArray) (h : okS a = false ∨ okS b = false) (hsa : a.size ≤ 9223372036854775807) (hsb : b.size ≤ 9223372036854775807) (w : World) :
    Calls Tryz.prog 83 #[.string a, .string b] w (Gives w fun r _ => r = resT false 0) := by
  have V1 := fun W => rvalid_any a hsa W
  have V2 := fun W => rvalid_any b hsb W
  cases ha : okS a with
  | false =>
    rw [ha] at V1
    go_enter Tryz.func83, Tryz.ntmps83
    go_wp2_with fail
    refine (V1 _).mono ?_
    rintro e w1 ⟨rfl, hb1⟩
    go_wp2
    go_ret2
    exact ⟨⟨_, rfl, rfl⟩, hb1⟩
  | true =>
    have hb : okS b = false := by rcases h with h | h; rw [ha] at h; cases h; exact h
    rw [ha] at V1
    rw [hb] at V2
    go_enter Tryz.func83, Tryz.ntmps83
    go_wp2_with fail
    refine (V1 _).mono ?_
    rintro e w1 ⟨rfl, hb1⟩
    go_wp2_with fail
    refine (V2 _).mono ?_
    rintro e w2 ⟨rfl, hb2⟩
    go_wp2
    go_ret2
    exact ⟨⟨_, rfl, rfl⟩, (kb_call hb2 hb1 (Nat.le_refl _))⟩
/-- putlogref03.Add. -/
theorem radd_any (a b : ByteArray) (hsa : a.size ≤ 9223372036854775807) (hsb : b.size ≤ 9223372036854775807) (w : World) :
    Calls Tryz.prog 83 #[.string a, .string b] w (Gives w fun r _ => r = resT (okS a && okS b) (zS a + zS b)) := by
  by_cases h : okS a = true ∧ okS b = true
  · rw [h.1, h.2]; exact radd_ok a b h.1 h.2 hsa hsb w
  · rw [(and_false_of h).1, res_no _ 0]; exact radd_bad a b (and_false_of h).2 hsa hsb w

set_option maxRecDepth 100000 in
set_option maxHeartbeats 4000000 in
theorem rsub_ok (a b : ByteArray) (ha : okS a = true) (hb : okS b = true) (hsa : a.size ≤ 9223372036854775807) (hsb : b.size ≤ 9223372036854775807) (w : World) :
    Calls Tryz.prog 84 #[.string a, .string b] w (Gives w fun r _ => r = resT true (zS a - zS b)) := by
  have V1 := fun W => rvalid_any a hsa W
  have V2 := fun W => rvalid_any b hsb W
  have D1 := fun W => rdigits_any a ha W
  have D2 := fun W => rdigits_any b hb W
  have Sa := z_bound ha
  have Sb := z_bound hb
  rw [ha] at V1
  rw [hb] at V2
  go_enter Tryz.func84, Tryz.ntmps84
  go_wp2_with fail
  refine (V1 _).mono ?_
  rintro e w1 ⟨rfl, hb1⟩
  go_wp2_with fail
  refine (V2 _).mono ?_
  rintro e w2 ⟨rfl, hb2⟩
  have hB2 := kb_call hb2 hb1 (Nat.le_refl _)
  go_wp2_with fail
  refine (D1 _).mono ?_
  rintro e w3 ⟨⟨r, rfl, v, xs, rfl, hx, hnx⟩, hb3⟩
  have hB3 := kb_call hb3 hB2 (Nat.le_refl _)
  have lx := len10 hnx Sa
  go_wp2_with fail
  refine (D2 _).mono ?_
  rintro e w4 ⟨⟨r, rfl, u, ys, rfl, hy, hny⟩, hb4⟩
  have hB4 := kb_call hb4 hB3 (Nat.le_refl _)
  have ly := len10 hny Sb
  have hx4 := hx.below hb4
  go_wp2_with fail
  refine (rsum_any (decide (zS a < 0)) (!decide (zS b < 0)) _ _ xs ys _ _ _ hx4 hy hnx hny (by omega) (by omega)).mono ?_
  rw [sgn_abs, sgn_not, ← Int.sub_eq_add_neg]
  rintro e w5 ⟨⟨r, rfl, rfl⟩, hb5⟩
  obtain ⟨z, hzz⟩ : ∃ z, Hid (zS a - zS b = z) := ⟨_, Lib.hid rfl⟩
  rw [hzz.out]
  cases hs : decide (Small z) with
  | true =>
    rw [res_small (of_decide_eq_true hs)]
    go_wp2
    go_ret2
    exact ⟨⟨_, rfl, by rw [hzz.out]; exact (res_small (of_decide_eq_true hs)).symm⟩, kb_call hb5 hB4 (Nat.le_refl _)⟩
  | false =>
    rw [res_big (of_decide_eq_false hs)]
    go_wp2
    go_ret2
    exact ⟨⟨_, rfl, by rw [hzz.out]; exact (res_big (of_decide_eq_false hs)).symm⟩, kb_call hb5 hB4 (Nat.le_refl _)⟩
set_option maxRecDepth 100000 in
set_option maxHeartbeats 4000000 in
theorem rsub_bad (a b : ByteArray) (h : okS a = false ∨ okS b = false) (hsa : a.size ≤ 9223372036854775807) (hsb : b.size ≤ 9223372036854775807) (w : World) :
    Calls Tryz.prog 84 #[.string a, .string b] w (Gives w fun r _ => r = resT false 0) := by
  have V1 := fun W => rvalid_any a hsa W
  have V2 := fun W => rvalid_any b hsb W
  cases ha : okS a with
  | false =>
    rw [ha] at V1
    go_enter Tryz.func84, Tryz.ntmps84
    go_wp2_with fail
    refine (V1 _).mono ?_
    rintro e w1 ⟨rfl, hb1⟩
    go_wp2
    go_ret2
    exact ⟨⟨_, rfl, rfl⟩, hb1⟩
  | true =>
    have hb : okS b = false := by rcases h with h | h; rw [ha] at h; cases h; exact h
    rw [ha] at V1
    rw [hb] at V2
    go_enter Tryz.func84, Tryz.ntmps84
    go_wp2_with fail
    refine (V1 _).mono ?_
    rintro e w1 ⟨rfl, hb1⟩
    go_wp2_with fail
    refine (V2 _).mono ?_
    rintro e w2 ⟨rfl, hb2⟩
    go_wp2
    go_ret2
    exact ⟨⟨_, rfl, rfl⟩, (kb_call hb2 hb1 (Nat.le_refl _))⟩
/-- putlogref03.Sub. -/
theorem rsub_any (a b : ByteArray) (hsa : a.size ≤ 9223372036854775807) (hsb : b.size ≤ 9223372036854775807) (w : World) :
    Calls Tryz.prog 84 #[.string a, .string b] w (Gives w fun r _ => r = resT (okS a && okS b) (zS a - zS b)) := by
  by_cases h : okS a = true ∧ okS b = true
  · rw [h.1, h.2]; exact rsub_ok a b h.1 h.2 hsa hsb w
  · rw [(and_false_of h).1, res_no _ 0]; exact rsub_bad a b (and_false_of h).2 hsa hsb w

set_option maxRecDepth 100000 in
set_option maxHeartbeats 4000000 in
theorem rcmp_ok (a b : ByteArray) (ha : okS a = true) (hb : okS b = true) (hsa : a.size ≤ 9223372036854775807) (hsb : b.size ≤ 9223372036854775807) (w : World) :
    Calls Tryz.prog 69 #[.string a, .string b] w fun e w' => e = .returned (.int .i64 (Lib.compareInt (zS a) (zS b))) ∧ Below w.heap.size w w' := by
  have V1 := fun W => rvalid_any a hsa W
  have V2 := fun W => rvalid_any b hsb W
  have D1 := fun W => rdigits_any a ha W
  have D2 := fun W => rdigits_any b hb W
  rw [ha] at V1
  rw [hb] at V2
  go_enter Tryz.func69, Tryz.ntmps69
  go_wp2_with fail
  refine (V1 _).mono ?_
  rintro e w1 ⟨rfl, hb1⟩
  go_wp2_with fail
  refine (V2 _).mono ?_
  rintro e w2 ⟨rfl, hb2⟩
  have hB2 := kb_call hb2 hb1 (Nat.le_refl _)
  go_wp2_with fail
  refine (D1 _).mono ?_
  rintro e w3 ⟨⟨r, rfl, v, xs, rfl, hx, hnx⟩, hb3⟩
  have hB3 := kb_call hb3 hB2 (Nat.le_refl _)
  go_wp2_with fail
  refine (D2 _).mono ?_
  rintro e w4 ⟨⟨r, rfl, u, ys, rfl, hy, hny⟩, hb4⟩
  have hB4 := kb_call hb4 hB3 (Nat.le_refl _)
  have hx4 := hx.below hb4
  clear hb1 hb2 hb3 hb4 hB2 hB3 hx
  by_cases na : zS a < 0
  · have da : decide (zS a < 0) = true := by simp [na]
    rw [da]
    by_cases nb : zS b < 0
    · have db : decide (zS b < 0) = true := by simp [nb]
      have hc := Lib.hid ((cmpL10 hny hnx).trans (cmp_neg na nb))
      rw [db]
      clear na nb da db hnx hny
      go_wp2_with fail
      refine (order_any _ _ ys xs _ hy hx4).mono ?_
      rintro e w5 ⟨rfl, hb5⟩
      rw [hc.out]
      go_wp2
      go_ret
      exact ⟨rfl, kb_call hb5 hB4 (Nat.le_refl _)⟩
    · have db : decide (zS b < 0) = false := by simp [nb]
      have hc := Lib.hid (compareInt_lt (a := zS a) (b := zS b) (by omega))
      rw [db]
      clear na nb da db hnx hny
      go_wp2
      go_ret
      exact ⟨ret_int hc.out.symm, hB4⟩
  · have da : decide (zS a < 0) = false := by simp [na]
    rw [da]
    by_cases nb : zS b < 0
    · have db : decide (zS b < 0) = true := by simp [nb]
      have hc := Lib.hid (compareInt_gt (a := zS a) (b := zS b) (by omega))
      rw [db]
      clear na nb da db hnx hny
      go_wp2
      go_ret
      exact ⟨ret_int hc.out.symm, hB4⟩
    · have db : decide (zS b < 0) = false := by simp [nb]
      have hc := Lib.hid ((cmpL10 hnx hny).trans (cmp_pos na nb))
      rw [db]
      clear na nb da db hnx hny
      go_wp2_with fail
      refine (order_any _ _ xs ys _ hx4 hy).mono ?_
      rintro e w5 ⟨rfl, hb5⟩
      rw [hc.out]
      go_wp2
      go_ret
      exact ⟨rfl, kb_call hb5 hB4 (Nat.le_refl _)⟩
set_option maxRecDepth 100000 in
set_option maxHeartbeats 4000000 in
theorem rcmp_bad (a b : ByteArray) (h : okS a = false ∨ okS b = false) (hsa : a.size ≤ 9223372036854775807) (hsb : b.size ≤ 9223372036854775807) (w : World) :
    Calls Tryz.prog 69 #[.string a, .string b] w (fun e w' => e = .returned (.int .i64 0) ∧ Below w.heap.size w w') := by
  have V1 := fun W => rvalid_any a hsa W
  have V2 := fun W => rvalid_any b hsb W
  cases ha : okS a with
  | false =>
    rw [ha] at V1
    go_enter Tryz.func69, Tryz.ntmps69
    go_wp2_with fail
    refine (V1 _).mono ?_
    rintro e w1 ⟨rfl, hb1⟩
    go_wp2
    go_ret
    exact ⟨rfl, hb1⟩
  | true =>
    have hb : okS b = false := by rcases h with h | h; rw [ha] at h; cases h; exact h
    rw [ha] at V1
    rw [hb] at V2
    go_enter Tryz.func69, Tryz.ntmps69
    go_wp2_with fail
    refine (V1 _).mono ?_
    rintro e w1 ⟨rfl, hb1⟩
    go_wp2_with fail
    refine (V2 _).mono ?_
    rintro e w2 ⟨rfl, hb2⟩
    go_wp2
    go_ret
    exact ⟨rfl, (kb_call hb2 hb1 (Nat.le_refl _))⟩
/-- putlogref03.Compare. -/
theorem rcmp_any (a b : ByteArray) (hsa : a.size ≤ 9223372036854775807) (hsb : b.size ≤ 9223372036854775807) (w : World) :
    Calls Tryz.prog 69 #[.string a, .string b] w fun e w' => e = .returned (.int .i64 (cmpS a b)) ∧ Below w.heap.size w w' := by
  unfold cmpS
  by_cases h : okS a = true ∧ okS b = true
  · rw [h.1, h.2]; exact rcmp_ok a b h.1 h.2 hsa hsb w
  · rw [(and_false_of h).1]; exact rcmp_bad a b (and_false_of h).2 hsa hsb w
end Go.Proofs.YtebokdboodgkpaaGreatDoor
