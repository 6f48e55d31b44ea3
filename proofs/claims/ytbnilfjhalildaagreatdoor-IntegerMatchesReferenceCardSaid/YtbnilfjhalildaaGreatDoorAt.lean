/- The contracts of number.at and number.trimmed. -/
import Derived.Test.YtbnilfjhalildaaGreatDoorMath
import Derived.Test.YtbnilfjhalildaaGreatDoorProg
namespace Go.Proofs.YtbnilfjhalildaaGreatDoor
open Go.RowKit

set_option maxHeartbeats 400000 in
theorem at_any (v : Value) (xs : List Int) (i : Int) (w : World) (h : Sl w v xs) (h0 : 0 ≤ i) :
    Calls Tryz.prog 70 #[v, .int .i64 i] w fun e w' => e = .returned (.int .i64 (gi xs i.toNat)) ∧ w = w' := by
  have hl := h.len_le
  unfold maxLen at hl
  obtain ⟨k, rfl⟩ := Int.eq_ofNat_of_zero_le h0
  rcases h with ⟨rfl, rfl⟩ | ⟨b, off, cap, rfl, h1, h2, h3, h4⟩
  · go_enter Tryz.func70, Tryz.ntmps70
    go_wp2
    go_ret
    exact ⟨by simp [gi], rfl⟩
  · by_cases hk : k < xs.length
    · have hc := h4 k hk
      clear h4
      go_enter Tryz.func70, Tryz.ntmps70
      go_wp2
      go_ret
      exact ⟨ret_int (by rw [Int.toNat_natCast]), rfl⟩
    · go_enter Tryz.func70, Tryz.ntmps70
      go_wp2
      go_ret
      exact ⟨ret_int (by rw [Int.toNat_natCast, gi_ge (by omega)]), rfl⟩

set_option maxHeartbeats 400000 in
theorem trimmed_any (v : Value) (xs : List Int) (w : World) (h : Sl w v xs) :
    Calls Tryz.prog 65 #[v] w fun e w' => (∃ v', e = .returned v' ∧ Sl w v' (trim xs) ∧ v'.ptr? = v.ptr?) ∧ w = w' := by
  have hl := h.len_le
  unfold maxLen at hl
  rcases h with ⟨rfl, rfl⟩ | ⟨b, off, cap, rfl, h1, h2, h3, h4⟩
  · go_enter Tryz.func65, Tryz.ntmps65
    go_wp2
    go_loop [0] (fun s => s = .slice none 0 0) (fun _ => 0)
    case atStart => rfl
    case round =>
      obtain rfl := hrel
      go_wp2
      go_ret
      exact ⟨⟨_, rfl, .inl ⟨rfl, rfl⟩, rfl⟩, rfl⟩
  · go_enter Tryz.func65, Tryz.ntmps65
    go_wp2
    go_loop [0] (fun s => ∃ k : Nat, s = .slice (some ⟨b, off, none⟩) k cap ∧ k ≤ xs.length ∧ Hid (trimN xs xs.length = trimN xs k)) (fun s => lenOf s)
    case atStart => exact ⟨_, rfl, Nat.le_refl _, rfl⟩
    case round =>
      obtain ⟨k, rfl, hk, hT⟩ := hrel
      cases k with
      | zero =>
        go_wp2
        go_ret
        exact ⟨⟨_, rfl, by unfold trim; rw [hT.out]; exact Sl.take 0 (Nat.zero_le _) h1 h2 h3 h4, rfl⟩, rfl⟩
      | succ k =>
        have hc := h4 k (by omega)
        by_cases hz : gi xs k = 0
        · have hz' : (gi xs k == 0) = true := by simp [hz]
          go_wp2
          go_round
          case rel => exact ⟨k, by rfl, by omega, hT.out.trans (trimN_zero hz)⟩
          case measure => simp [lenOf]
        · have hz' : (gi xs k == 0) = false := by simp [hz]
          go_wp2
          go_ret
          refine ⟨⟨_, rfl, ?_, rfl⟩, rfl⟩
          have e : trim xs = xs.take (k + 1) := by unfold trim; rw [hT.out, trimN_pos hz]
          rw [e]
          exact Sl.take (k + 1) hk h1 h2 h3 h4
theorem info_int : (Tryz.prog.info? 3).map (fun i => (i.zero, i.size, i.bytes)) = some (some (.int .i64 0), 1, 8) := by kernel_rfl

/-- out = append(out, y), for a slice of integers of the call's own. -/
theorem wp_app_int {ops : Array Oper} {rest : List Oper} {o : Oper} {a : Act} {Q : Exit → Act → World → Prop} {wr : World} {base : Nat} {v : Value} {n : Nat} {xs : List Int} (y : Int) (t : TypeId)
    (ht : Tryz.prog.underlying t = some (.slice 3)) (hgd : o.guard = none) (s x : Operand) (ho : o.op = .call { callee := .builtin .append, args := #[s, x], argTypes := #[t, t] })
    (hs : a.eval s = v) (hx : a.eval x = .slice (some ⟨wr.heap.size, 0, none⟩) 1 1) (hown : wr.ownsRow base 3 1 v n (xs.map (Value.int .i64))) (hn : n + 1 ≤ 1000000000000) (hbase : base ≤ wr.heap.size)
    (h : ∀ g cap w', w'.ownsRow base 3 1 (.slice (some ⟨g, 0, none⟩) (n + 1) cap) (n + 1) ((xs ++ [y]).map (Value.int .i64)) → (wr.alloc (.cells #[.int .i64 y] 3)).grownBy w' v.ownBlock → Below base wr w' → wpList Tryz.prog ops Q rest (a.put o.dst (.slice (some ⟨g, 0, none⟩) (n + 1) cap)) w') :
    wpList Tryz.prog ops Q (o :: rest) a (wr.alloc (.cells #[.int .i64 y] 3)) := by
  obtain ⟨i0, hi, hz0, hz1, hz2⟩ := info_parts info_int
  refine wpList_append_own _ hgd s x t ho base 3 i0 (.int .i64 0) 1 8 ht hi hz0 hz1 hz2 rfl (by decide) v n _ hs (hown.alloc _) ⟨wr.heap.size, 0, none⟩ 1 1 [.int .i64 y] hx rfl (by intro t u ht; match t, ht with | 0, ht => simp at ht; subst ht; simp [Addr.add]) (by intro u hu; simp at hu; subst hu; rfl) (by unfold maxLen; omega) (by omega) (by simp; omega) ?_
  intro v' w' hown' hgrow hnil
  rcases hown'.2 with ⟨_, h0⟩ | ⟨g, cap, cur, rfl, hg⟩
  · omega
  · refine h g cap w' (by rw [List.map_append]; exact hown') hgrow ?_
    refine ((Below.refl base wr).alloc hbase _).grown hgrow (by simp; omega) (fun k hk => ?_)
    exact (hown.lt k hk).1
end Go.Proofs.YtbnilfjhalildaaGreatDoor
