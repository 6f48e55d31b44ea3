/- slices.Backward over a number: its contract as an iterator. -/
import Derived.Test.YtbnilfjhalildaaGreatDoorSum
import Derived.RangeFuncNested
import Derived.RangeFuncBound
import Derived.RangeFuncCalls
import Derived.RangeFuncLeaves
import Derived.Shelf.Abstract
import Derived.Shelf.RegionOpen
import Derived.OwnWalkIn
import Derived.TacticsInMore
import Derived.LoopNIn
import Derived.LoopIn
namespace Go.Proofs.YtbnilfjhalildaaGreatDoor
open Go.RowKit Go.Shelf
attribute [local go_sem] Oper.semAt_some

/-- The first k of the places n - 1, n - 2, .. -/
def downs (n : Nat) : Nat → List (Fin n)
  | 0 => []
  | k + 1 => if h : k < n then downs n k ++ [⟨n - 1 - k, by omega⟩] else downs n k
theorem downs_succ {n k : Nat} (h : k < n) : downs n (k + 1) = downs n k ++ [⟨n - 1 - k, by omega⟩] := by rw [downs, dif_pos h]
theorem downs_length (n : Nat) : ∀ k, k ≤ n → (downs n k).length = k
  | 0, _ => rfl
  | k + 1, h => by rw [downs_succ (by omega), List.length_append, downs_length n k (by omega)]; rfl

/-- The blocks of T are as they were. -/
def Same (T : List Nat) (A B : World) : Prop := ∀ k ∈ T, B.heap[k]? = A.heap[k]?
theorem Same.trans {T : List Nat} {A B C : World} (h : Same T A B) (k : Same T B C) : Same T A C := fun i hi => (k i hi).trans (h i hi)
theorem Same.cell {T : List Nat} {A B : World} (h : Same T A B) {p : Addr} (hp : p.block ∈ T) : B.cell? p = A.cell? p := World.cell?_of_block (w := A) (h _ hp)
theorem Same.putObj {T : List Nat} {w : World} (hT : ∀ k ∈ T, k < w.heap.size) (W : World) (l : Nat) (o o' : Obj) (hl : w.heap.size ≤ l) (_ : W.heap[l]? = some o) (_ : o.isCells = false) (_ : o.isWalk = false) : Same T W (W.putObj l o') :=
  fun k hk => World.putObj_heap_other (by have := hT k hk; omega)

set_option maxRecDepth 100000 in
set_option maxHeartbeats 2000000 in
theorem back1_in (F : Fence) (n : Nat) (h7 : F.fn 78) (hro : F.round = none) (hn : 1 ≤ n) (l Bs b off cap : Nat) (T : List Nat) (xs : List Int) (hreach : xs.length ≤ maxLen) (hb : b ∈ T) (J Jx : List (Fin xs.length) → World → Prop)
    (hY : ∀ pre x W, J pre W → pre.length < xs.length → YieldAt F (n - 1) Tryz.prog l #[.int .i64 (x.1 : Int), .int .i64 (gi xs x.1)] W fun e W' =>
      (e = .returned (.bool true) ∧ J (pre ++ [x]) W' ∧ Same T W W') ∨ (e = .returned (.bool false) ∧ Jx (pre ++ [x]) W'))
    (W : World) (hBs : W.cell? ⟨Bs, 0, none⟩ = some (.slice (some ⟨b, off, none⟩) xs.length cap)) (hlt : Bs ∈ T) (hc : ∀ j, j < xs.length → W.cell? ⟨b, off + j, none⟩ = some (.int .i64 (gi xs j))) (h0 : J [] W) :
    CallsIn F n Tryz.prog 78 #[.func (.yield l) #[] #[], .pointer (some ⟨Bs, 0, none⟩)] W fun e W' => (∃ v, e = .returned v) ∧
      ((∃ ys, ys = downs xs.length xs.length ∧ J ys W') ∨ (∃ pre, (∃ k, k ≤ xs.length ∧ pre = downs xs.length k) ∧ Jx pre W')) := by
  unfold maxLen at hreach
  refine callsIn_of_wp Tryz.func78 rfl h7 ?_ hro
  simp only [Tryz.ntmps78, List.size_toArray, List.length_cons, List.length_nil, Nat.reduceAdd, Nat.reduceSub, Array.replicate_succ, Array.replicate_zero, List.push_toArray, List.append_toArray, List.nil_append, List.cons_append]
  gi_wp2
  gi_loopw [3] (fun i wr => ∃ (r : Nat) (q : Int), r ≤ xs.length ∧ i = .int .i64 q ∧ Hid (q = (r : Int) - 1) ∧ J (downs xs.length (xs.length - r)) wr ∧ Same T W wr)
    (fun i _ => (intOf i + 1).toNat)
  case atStart => exact ⟨xs.length, _, Nat.le_refl _, rfl, rfl, by rw [Nat.sub_self]; exact h0, fun _ _ => rfl⟩
  case round =>
    obtain ⟨r, q, hk, rfl, hq, hJs, hnx⟩ := hrel
    cases r with
    | zero =>
      obtain rfl : q = -1 := by rw [hq.out]; rfl
      gi_wp2
      go_end0
      exact ⟨⟨_, rfl⟩, .inl ⟨_, rfl, hJs⟩⟩
    | succ j =>
      obtain rfl : q = (j : Int) := by rw [hq.out]; omega
      clear hq
      have hcx : wr.cell? ⟨b, off + j, none⟩ = some (.int .i64 (gi xs j)) := (hnx.cell (p := ⟨b, off + j, none⟩) hb).trans (hc j (by omega))
      have hBx := (hnx.cell (p := ⟨Bs, 0, none⟩) hlt).trans hBs
      have hds : downs xs.length (xs.length - j) = downs xs.length (xs.length - (j + 1)) ++ [⟨j, by omega⟩] := by
        have e : xs.length - j = (xs.length - (j + 1)) + 1 := by omega
        rw [e, downs_succ (by omega)]
        congr 2
        exact Fin.ext (by simp; omega)
      have Hds := Lib.hid hds
      clear hds
      obtain ⟨fn, tmps, assign, body, hy, hR⟩ := hY _ ⟨j, by omega⟩ wr hJs (by rw [downs_length _ _ (by omega)]; omega)
      dsimp only at hy
      gi_wp2
      refine hR.mono ?_
      rintro e W3 (⟨rfl, hJ3, hk3⟩ | ⟨rfl, hJx3⟩)
      · gi_wp2
        go_roundw
        case rel => exact ⟨j, _, by omega, rfl, by rfl, by rw [Hds.out]; exact hJ3, hnx.trans hk3⟩
        case measure => simp [intOf]
      · gi_wp2
        refine bodyPost_ret (results_none rfl _ _ _) rfl ?_
        exact ⟨⟨_, rfl⟩, .inr ⟨_, ⟨xs.length - j, by omega, Hds.out.symm⟩, hJx3⟩⟩

set_option maxRecDepth 100000 in
set_option maxHeartbeats 1000000 in
/-- .. at the nil slice: no round. -/
theorem back1_nil_in (F : Fence) (n : Nat) (h7 : F.fn 78) (hro : F.round = none) (l Bs : Nat) {α : Type} (J : List α → World → Prop) (W : World) (hBs : W.cell? ⟨Bs, 0, none⟩ = some (.slice none 0 0)) (h0 : J [] W) :
    CallsIn F n Tryz.prog 78 #[.func (.yield l) #[] #[], .pointer (some ⟨Bs, 0, none⟩)] W fun e W' => (∃ v, e = .returned v) ∧ J [] W' := by
  refine callsIn_of_wp Tryz.func78 rfl h7 ?_ hro
  simp only [Tryz.ntmps78, List.size_toArray, List.length_cons, List.length_nil, Nat.reduceAdd, Nat.reduceSub, Array.replicate_succ, Array.replicate_zero, List.push_toArray, List.append_toArray, List.nil_append, List.cons_append]
  gi_wp2
  gi_loopw [3] (fun i wr => i = .int .i64 (-1) ∧ J [] wr) (fun _ _ => 0)
  case atStart => exact ⟨rfl, h0⟩
  case round =>
    obtain ⟨rfl, hJs⟩ := hrel
    gi_wp2
    go_end0
    exact ⟨⟨_, rfl⟩, hJs⟩

set_option maxHeartbeats 1000000 in
/-- slices.Backward(s): the slice is boxed; the function value captures the box. -/
theorem back_in (F : Fence) (n : Nat) (h5 : F.fn 60) (hro : F.round = none) (v : Value) (w : World) (hv : ∃ a len cap, v = .slice a len cap) :
    CallsIn F n Tryz.prog 60 #[v] w fun e w' => e = .returned (.func (.func 78) #[] #[.pointer (some ⟨w.heap.size, 0, none⟩)]) ∧ w.alloc (.cells #[v] 48) = w' := by
  obtain ⟨a, len, cap, rfl⟩ := hv
  refine callsIn_of_wp Tryz.func60 rfl h5 ?_ hro
  simp only [Tryz.ntmps60, List.size_toArray, List.length_cons, List.length_nil, Nat.reduceAdd, Nat.reduceSub, Array.replicate_succ, Array.replicate_zero, List.push_toArray, List.append_toArray, List.nil_append, List.cons_append]
  gi_wp2
  go_ret
  exact ⟨rfl, rfl⟩

/-- The iterator's contract: every slice of integers. -/
theorem back_stops (F : Fence) (n : Nat) (h7 : F.fn 78) (hro : F.round = none) (hn : 1 ≤ n) (Bs : Nat) (T : List Nat) (sv : Value) (xs : List Int) (w : World) (hBs : Bs ∈ T) (hlt : Bs < w.heap.size)
    (hc : w.cell? ⟨Bs, 0, none⟩ = some sv) (hI : Sl w sv xs) (hsv : ∀ b o, sv.ptr? = some (b, o) → b ∈ T) :
    SeqStopsK F n Tryz.prog 78 #[.pointer (some ⟨Bs, 0, none⟩)] (fun x : Fin xs.length => #[Value.int .i64 (x.1 : Int), Value.int .i64 (gi xs x.1)]) (Same T) (fun ys => ys = downs xs.length xs.length) (fun pre => ∃ k, k ≤ xs.length ∧ pre = downs xs.length k) xs.length w := fun l J Jx W hW _ _ hY h0 => by
  have hc' := (hW.cell (p := ⟨Bs, 0, none⟩) hlt).trans hc
  rcases hI.below hW with ⟨rfl, rfl⟩ | ⟨b, off, cap, rfl, h1, h2, h3, h4⟩
  · exact (back1_nil_in F n h7 hro l Bs J W hc' h0).mono fun e W' ⟨he, hj⟩ => ⟨he, .inl ⟨_, rfl, hj⟩⟩
  · exact back1_in F n h7 hro hn l Bs b off cap T xs (Nat.le_trans h1 h2) (hsv b off rfl) J Jx hY W hc' hBs h4 h0
end Go.Proofs.YtbnilfjhalildaaGreatDoor
