/- The reference: order, plus, minus. -/
import Derived.Test.YtbnilfjhalildaaGreatDoorRefA
import Derived.Test.YtbnilfjhalildaaGreatDoorCmp
namespace Go.Proofs.YtbnilfjhalildaaGreatDoor
open Go.RowKit
attribute [local go_sem] Oper.semAt_some

theorem Sl.cellAt {w : World} {v : Value} {xs : List Int} (h : Sl w v xs) (h0 : xs.length ≠ 0) : ∃ b off cap, v = .slice (some ⟨b, off, none⟩) xs.length cap ∧ xs.length ≤ cap ∧ cap ≤ maxLen ∧ b < w.heap.size ∧ ∀ j, j < xs.length → w.cell? ⟨b, off + j, none⟩ = some (.int .i64 (gi xs j)) := by
  rcases h with ⟨_, rfl⟩ | h
  · exact absurd rfl h0
  · exact h

set_option maxRecDepth 100000 in
set_option maxHeartbeats 1000000 in
theorem order_lens (v u : Value) (xs ys : List Int) (w : World) (hv : Sl w v xs) (hu : Sl w u ys) (hne : ¬ xs.length = ys.length) :
    Calls Tryz.prog 55 #[v, u] w fun e w' => e = .returned (.int .i64 (cmpL xs ys)) ∧ Below w.heap.size w w' := by
  have hc : cmpL xs ys = Lib.compareInt xs.length ys.length := if_neg hne
  obtain ⟨a1, c1, rfl⟩ := hv.shape
  obtain ⟨a2, c2, rfl⟩ := hu.shape
  have hb : ((xs.length : Int) != ys.length) = true := by simp; omega
  rw [hc]
  by_cases hlt : xs.length < ys.length
  · rw [compareInt_lt (show (xs.length : Int) < ys.length by omega)]
    clear hc hv hu hne
    go_enter Tryz.func55, Tryz.ntmps55
    go_wp2
    go_ret
    exact ⟨rfl, Below.refl _ _⟩
  · rw [compareInt_gt (show (ys.length : Int) < xs.length by omega)]
    clear hc hv hu hne
    go_enter Tryz.func55, Tryz.ntmps55
    go_wp2
    go_ret
    exact ⟨rfl, Below.refl _ _⟩

set_option maxRecDepth 100000 in
set_option maxHeartbeats 4000000 in
theorem order_eq (v u : Value) (xs ys : List Int) (w : World) (hv : Sl w v xs) (hu : Sl w u ys) (hl : xs.length = ys.length) (h0 : xs.length ≠ 0) :
    Calls Tryz.prog 55 #[v, u] w fun e w' => e = .returned (.int .i64 (cmpL xs ys)) ∧ Below w.heap.size w w' := by
  have hc : cmpL xs ys = cmpTop xs ys xs.length := if_pos hl
  obtain ⟨b1, o1, c1, rfl, h1, h2, h3, h4⟩ := hv.cellAt h0
  obtain ⟨b2, o2, c2, rfl, g1, g2, g3, g4⟩ := hu.cellAt (by omega)
  rw [hc]
  unfold maxLen at h2 g2
  have Hl := Lib.hid hl
  have H4 := Lib.hid h4
  have G4 := Lib.hid g4
  have hle : xs.length ≤ ys.length := by omega
  have hge : ys.length ≤ xs.length := by omega
  have hb : ((xs.length : Int) != ys.length) = false := by simp; omega
  clear hv hu hc hl h4 g4 h0
  go_enter Tryz.func55, Tryz.ntmps55
  go_wp2
  go_loopw [5] (fun i wr => ∃ (r : Nat) (q : Int), r ≤ xs.length ∧ i = .int .i64 q ∧ Hid (q = (r : Int) - 1) ∧ Hid (cmpTop xs ys xs.length = cmpTop xs ys r) ∧ Below w.heap.size w wr) (fun i _ => (intOf i + 1).toNat)
  case atStart => exact ⟨xs.length, _, Nat.le_refl _, rfl, rfl, rfl, Below.refl _ _⟩
  case round =>
    obtain ⟨r, q, hr, rfl, hq, hC, hB⟩ := hrel
    cases r with
    | zero =>
      obtain rfl : q = -1 := by have := hq.out; omega
      go_wp2
      go_ret
      exact ⟨ret_int (by rw [hC.out]; rfl), hB⟩
    | succ r =>
      obtain rfl : q = (r : Int) := by have := hq.out; omega
      have c1 := (hB.cell (p := ⟨b1, o1 + r, none⟩) h3).trans (H4.out r (by omega))
      have c2 := (hB.cell (p := ⟨b2, o2 + r, none⟩) g3).trans (G4.out r (by omega))
      have i1 : (r : Int) < (xs.length : Int) := by omega
      have i2 : (r : Int) < (ys.length : Int) := by omega
      have i3 : (0 : Int) ≤ (r : Int) := by omega
      have hS : cmpTop xs ys (r + 1) = if gi xs r = gi ys r then cmpTop xs ys r else Lib.compareInt (gi xs r) (gi ys r) := rfl
      have hr1 : r ≤ xs.length := by omega
      generalize hx : gi xs r = x at *
      generalize hy : gi ys r = y at *
      by_cases he : x = y
      · have hS' := Lib.hid (hC.out.trans (hS.trans (if_pos he)))
        have hne : (x != y) = false := by simp [he]
        clear hx hy hS hC hr hq he
        go_wp2_with fail
        go_quiet (fail)
        go_wp2
        go_roundw
        case rel => exact ⟨r, _, hr1, rfl, rfl, hS', hB.trans ((below_drewN wr nq).mono hB.size)⟩
        case measure => simp [intOf]
      · have hS' := hC.out.trans (hS.trans (if_neg he))
        have hne : (x != y) = true := by simp [he]
        by_cases hlt : x < y
        · rw [compareInt_lt hlt] at hS'
          have HS := Lib.hid hS'
          clear hx hy hS hC hr hq he hS'
          go_wp2_with fail
          go_quiet (fail)
          go_wp2_with fail
          go_quiet (fail)
          go_wp2
          go_ret
          exact ⟨ret_int (by rw [HS.out]), (hB.trans ((below_drewN wr _).mono hB.size)).trans ((below_drewN _ _).mono (by simp; exact hB.size))⟩
        · rw [compareInt_gt (by omega)] at hS'
          have HS := Lib.hid hS'
          have hlt2 : y ≤ x := by omega
          clear hx hy hS hC hr hq he hS' hlt
          go_wp2_with fail
          go_quiet (fail)
          go_wp2_with fail
          go_quiet (fail)
          go_wp2
          go_ret
          exact ⟨ret_int (by rw [HS.out]), (hB.trans ((below_drewN wr _).mono hB.size)).trans ((below_drewN _ _).mono (by simp; exact hB.size))⟩

set_option maxRecDepth 100000 in
theorem order_nil (v u : Value) (w : World) (hv : Sl w v []) (hu : Sl w u []) :
    Calls Tryz.prog 55 #[v, u] w fun e w' => e = .returned (.int .i64 0) ∧ Below w.heap.size w w' := by
  obtain ⟨a1, c1, rfl⟩ := hv.shape
  obtain ⟨a2, c2, rfl⟩ := hu.shape
  clear hv hu
  simp only [List.length_nil]
  go_enter Tryz.func55, Tryz.ntmps55
  go_wp2
  go_loop [5] (fun i => i = .int .i64 (-1)) (fun _ => 0)
  case atStart => rfl
  case round =>
    obtain rfl := hrel
    go_wp2
    go_ret
    exact ⟨rfl, Below.refl _ _⟩

/-- putlogref03.order. -/
theorem order_any (v u : Value) (xs ys : List Int) (w : World) (hv : Sl w v xs) (hu : Sl w u ys) :
    Calls Tryz.prog 55 #[v, u] w fun e w' => e = .returned (.int .i64 (cmpL xs ys)) ∧ Below w.heap.size w w' := by
  by_cases hl : xs.length = ys.length
  · by_cases h0 : xs.length = 0
    · obtain rfl := List.eq_nil_of_length_eq_zero h0
      obtain rfl := List.eq_nil_of_length_eq_zero (hl.symm.trans h0)
      exact order_nil v u w hv hu
    · exact order_eq v u xs ys w hv hu hl h0
  · exact order_lens v u xs ys w hv hu hl
end Go.Proofs.YtbnilfjhalildaaGreatDoor
