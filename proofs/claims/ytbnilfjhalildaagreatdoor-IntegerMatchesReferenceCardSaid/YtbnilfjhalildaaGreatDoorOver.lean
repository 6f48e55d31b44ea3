/- The contract of number.over. -/
import Derived.Test.YtbnilfjhalildaaGreatDoorCmp
import Derived.Test.YtbnilfjhalildaaGreatDoorSearch
import Derived.Test.YtbnilfjhalildaaGreatDoorTimes
import Derived.Deep.RegionWith
namespace Go.Proofs.YtbnilfjhalildaaGreatDoor
open Go.RowKit Go.Shelf
attribute [local go_sem] Oper.semAt_some

/-- Is d + 1 times the divisor too much? -/
def tooMuch (m r : Int) (d : Nat) : Bool := decide (r < m * (d + 1))
theorem tooMuch_cmp {m r : Int} (d : Nat) {xs ys : List Int} (hx : Num 10000 xs (m * (d + 1))) (hy : Num 10000 ys r) : decide (0 < cmpL xs ys) = tooMuch m r d := by
  rw [cmpL_num hx hy]
  unfold tooMuch
  rcases Int.lt_trichotomy (m * (d + 1)) r with h | h | h
  · rw [compareInt_lt h, decide_eq_false (by decide), decide_eq_false (by omega)]
  · rw [h, compareInt_eq, decide_eq_false (by decide), decide_eq_false (by omega)]
  · rw [compareInt_gt h, decide_eq_true (by decide), decide_eq_true (by omega)]

set_option maxRecDepth 100000 in
set_option maxHeartbeats 1000000 in
theorem over1_any (d B8 B5 : Nat) (mv rv : Value) (ms rs : List Int) (m r : Int) (w : World) (h8 : w.cell? ⟨B8, 0, none⟩ = some (.func (.func 64) #[mv] #[])) (h5 : w.cell? ⟨B5, 0, none⟩ = some rv)
    (hm : Sl w mv ms) (hr : Sl w rv rs) (nm : Num 10000 ms m) (nr : Num 10000 rs r) (hlm : ms.length ≤ 1000) (hd : d < 9999) :
    Calls Tryz.prog 66 #[.int .i64 d, .pointer (some ⟨B8, 0, none⟩), .pointer (some ⟨B5, 0, none⟩)] w fun e w' => e = .returned (.bool (tooMuch m r d)) ∧ Below w.heap.size w w' := by
  have hb5 : B5 < w.heap.size := World.block_lt_of_cell? w _ h5
  have e1 : IntKind.i64.wrap ((d : Int) + 1) = (d : Int) + 1 := IntWalk.i64_in _ (by omega)
  have hmW := hm.below (Below.refl _ _).drew
  have hrW := hr.below (Below.refl _ _).drew
  go_enter Tryz.func66, Tryz.ntmps66
  go_wp2_with fail
  go_region_with (first
    | (go_at_call 64
       refine (by_any _ _ ms _ hmW nm.dig (by omega) (by omega) (by omega)).mono ?_
       rintro e w1 ⟨⟨q, rfl, qs, hq, nq, _⟩, hb⟩
       have h5 := (hb.cell (p := ⟨B5, 0, none⟩) hb5).trans h5
       have hr1 := hrW.below hb)
    | (go_at_call 46
       refine (compare_any _ _ _ _ _ hq hr1).mono ?_
       rintro e w2 ⟨rfl, hb2⟩))
  all_goals go_wp2
  all_goals go_ret
  all_goals exact ⟨ret_bool (by rw [← tooMuch_cmp d (by rw [← nm.val]; exact nq) nr]), ((Below.refl _ _).drew.trans hb).trans (hb2.mono hb.size)⟩

/-- The remainder and the digits of the quotient when the places of pre have come. -/
def remQ (xs : List Int) (m : Int) (pre : List (Fin xs.length)) : Int := pre.foldl (fun r x => (r * 10000 + gi xs x.1) % m) 0
def quoQ (xs : List Int) (m : Int) (pre : List (Fin xs.length)) : List Int × Int := pre.foldl (fun s x => (s.1.set x.1 ((s.2 * 10000 + gi xs x.1) / m), (s.2 * 10000 + gi xs x.1) % m)) (List.replicate xs.length 0, 0)
theorem remQ_snoc (xs : List Int) (m : Int) (pre : List (Fin xs.length)) (x : Fin xs.length) : remQ xs m (pre ++ [x]) = (remQ xs m pre * 10000 + gi xs x.1) % m := by
  unfold remQ; rw [List.foldl_append]; rfl
theorem quoQ_snd (xs : List Int) (m : Int) (pre : List (Fin xs.length)) : (quoQ xs m pre).2 = remQ xs m pre := by
  induction pre using Go.Proofs.YtbnilfjhalildaaGreatDoor.List.reverseRecOn' with
  | nil => rfl
  | snoc pre x ih => rw [remQ_snoc, ← ih]; unfold quoQ; rw [List.foldl_append]; rfl
theorem quoQ_snoc (xs : List Int) (m : Int) (pre : List (Fin xs.length)) (x : Fin xs.length) : (quoQ xs m (pre ++ [x])).1 = (quoQ xs m pre).1.set x.1 ((remQ xs m pre * 10000 + gi xs x.1) / m) := by
  rw [← quoQ_snd]; unfold quoQ; rw [List.foldl_append]; rfl
theorem quoQ_len (xs : List Int) (m : Int) (pre : List (Fin xs.length)) : (quoQ xs m pre).1.length = xs.length := by
  induction pre using Go.Proofs.YtbnilfjhalildaaGreatDoor.List.reverseRecOn' with
  | nil => simp [quoQ]
  | snoc pre x ih => rw [quoQ_snoc, List.length_set, ih]
theorem remQ_bounds {xs : List Int} {m : Int} (hm : 0 < m) (pre : List (Fin xs.length)) : 0 ≤ remQ xs m pre ∧ remQ xs m pre < m := by
  induction pre using Go.Proofs.YtbnilfjhalildaaGreatDoor.List.reverseRecOn' with
  | nil => exact ⟨Int.le_refl _, hm⟩
  | snoc pre x _ => rw [remQ_snoc]; exact ⟨Int.emod_nonneg _ (by omega), Int.emod_lt_of_pos _ hm⟩
theorem step_bounds {xs : List Int} (hx : Dig 10000 xs) {m : Int} (hm : 0 < m) (pre : List (Fin xs.length)) (x : Fin xs.length) : 0 ≤ (remQ xs m pre * 10000 + gi xs x.1) / m ∧ (remQ xs m pre * 10000 + gi xs x.1) / m < 10000 := by
  have h1 := remQ_bounds hm pre
  have h2 := hx.gi (by decide) x.1
  exact ⟨Int.ediv_nonneg (by omega) (by omega), Int.ediv_lt_of_lt_mul hm (by rw [Int.mul_comm 10000 m]; omega)⟩
theorem quoQ_dig {xs : List Int} (hx : Dig 10000 xs) {m : Int} (hm : 0 < m) (pre : List (Fin xs.length)) : Dig 10000 (quoQ xs m pre).1 := by
  induction pre using Go.Proofs.YtbnilfjhalildaaGreatDoor.List.reverseRecOn' with
  | nil => intro y hy; simp [quoQ] at hy; omega
  | snoc pre x ih =>
    rw [quoQ_snoc]
    intro y hy
    rcases List.mem_or_eq_of_mem_set hy with h | h
    · exact ih y h
    · subst h; exact step_bounds hx hm pre x
/-- val of a list in which one place, zero till now, is set. -/
theorem val_set (b : Int) : ∀ (l : List Int) (i : Nat) (y : Int), i < l.length → val b (l.set i y) = val b l + (y - gi l i) * b ^ i
  | [], i, _, h => by simp at h
  | a :: l, 0, y, _ => by simp only [List.set_cons_zero, val, gi, List.getElem?_cons_zero, Option.getD_some, Int.pow_zero, Int.mul_one]; omega
  | a :: l, i + 1, y, h => by
    have e : gi (a :: l) (i + 1) = gi l i := by simp [gi]
    rw [List.set_cons_succ, val, val, val_set b l i y (by simpa using h), e, Int.mul_add, Int.pow_succ]
    rw [Int.mul_comm (b ^ i) b, ← Int.mul_assoc, ← Int.mul_assoc, Int.mul_comm b (y - _)]
    omega
theorem gi_set {l : List Int} {i j : Nat} (y : Int) (h : i ≠ j) : gi (l.set i y) j = gi l j := by simp [gi, List.getElem?_set_ne h]
theorem quoQ_zero (xs : List Int) (m : Int) : ∀ k, k ≤ xs.length → ∀ j, j + k < xs.length → gi (quoQ xs m (downs xs.length k)).1 j = 0
  | 0, _, j, _ => by simp [downs, quoQ, gi]; rw [List.getElem?_replicate]; split <;> rfl
  | k + 1, h, j, hj => by
    rw [downs_succ (by omega), quoQ_snoc, gi_set _ (by simp; omega)]
    exact quoQ_zero xs m k (by omega) j (by omega)
/-- The invariant of the long division. -/
theorem long_div (xs : List Int) (m : Int) : ∀ k, k ≤ xs.length →
    val 10000 (quoQ xs m (downs xs.length k)).1 * m + remQ xs m (downs xs.length k) * 10000 ^ (xs.length - k) + val 10000 (xs.take (xs.length - k)) = val 10000 xs
  | 0, _ => by
    have e : val 10000 (List.replicate xs.length (0 : Int)) = 0 := by
      generalize xs.length = n
      induction n with
      | zero => rfl
      | succ n ih => rw [List.replicate_succ, val, ih]; rfl
    simp [downs, quoQ, remQ, e]
  | k + 1, h => by
    have ih := long_div xs m k (by omega)
    rw [downs_succ (by omega), remQ_snoc, quoQ_snoc, val_set _ _ _ _ (by rw [quoQ_len]; simp; omega), quoQ_zero xs m k (by omega) _ (by simp; omega)]
    rw [← ih]
    have e : xs.length - k = (xs.length - 1 - k) + 1 := by omega
    have e2 : xs.length - (k + 1) = xs.length - 1 - k := by omega
    rw [e, e2, take_snoc' (by omega), val_snoc, List.length_take, Nat.min_eq_left (by omega), Int.pow_succ]
    simp only [Int.sub_zero]
    generalize hP : (10000 : Int) ^ (xs.length - 1 - k) = P
    generalize hr : remQ xs m (downs xs.length k) = r
    generalize hg : gi xs (xs.length - 1 - k) = g
    generalize val 10000 (quoQ xs m (downs xs.length k)).1 = q
    generalize val 10000 (xs.take (xs.length - 1 - k)) = t
    have hd : (r * 10000 + g) / m * m + (r * 10000 + g) % m = r * 10000 + g := by rw [Int.mul_comm]; exact Int.mul_ediv_add_emod _ _
    have h3 : (r * 10000 + g) / m * P * m + (r * 10000 + g) % m * P = (r * 10000 + g) * P := by
      rw [← hd, Int.add_mul, hd, Int.mul_right_comm]
    have h4 : (r * 10000 + g) * P = r * (P * 10000) + g * P := by
      rw [Int.add_mul, Int.mul_assoc, Int.mul_comm 10000 P]
    rw [Int.add_mul]
    omega
theorem long_div_end {xs : List Int} {m : Int} (hm : 0 < m) : val 10000 (quoQ xs m (downs xs.length xs.length)).1 = val 10000 xs / m ∧ remQ xs m (downs xs.length xs.length) = val 10000 xs % m := by
  have h := long_div xs m _ (Nat.le_refl _)
  rw [Nat.sub_self, Int.pow_zero, Int.mul_one, List.take_zero, val, Int.add_zero] at h
  have hb := remQ_bounds hm (downs xs.length xs.length)
  generalize val 10000 (quoQ xs m (downs xs.length xs.length)).1 = q at *
  generalize remQ xs m (downs xs.length xs.length) = r at *
  rw [← h]
  constructor
  · rw [Int.add_comm, Int.add_mul_ediv_right _ _ (by omega), Int.ediv_eq_zero_of_lt hb.1 hb.2, Int.zero_add]
  · rw [Int.add_comm, Int.add_mul_emod_self_right, Int.emod_eq_of_lt hb.1 hb.2]
/-- What the search finds is the quotient. -/
theorem search_quot {m r : Int} (hm : 0 < m) (h0 : 0 ≤ r) (h1 : r < m * 10000) {i : Nat} (hi : i ≤ 9999) (hp : Parts (tooMuch m r) i i 9999) : (i : Int) = r / m := by
  have a1 : m * i ≤ r := by
    cases i with
    | zero => simp; exact h0
    | succ j =>
      have := hp.1 j rfl
      unfold tooMuch at this
      have := of_decide_eq_false this
      rw [show ((j + 1 : Nat) : Int) = (j : Int) + 1 by omega]; omega
  have a2 : r < m * (i + 1) := by
    by_cases h : i < 9999
    · exact of_decide_eq_true (hp.2 h)
    · obtain rfl : i = 9999 := by omega
      exact h1
  have b1 : (i : Int) ≤ r / m := (Int.le_ediv_iff_mul_le hm).2 (by rw [Int.mul_comm]; exact a1)
  have b2 : r / m < i + 1 := Int.ediv_lt_of_lt_mul hm (by rw [Int.mul_comm]; exact a2)
  omega

theorem quot_le {m r d : Int} {ys : List Int} (hm : 0 < m) (hd : d = r / m) (hy : Num 10000 ys m) : val 10000 ys * d ≤ r ∧ r - val 10000 ys * d = r % m := by
  rw [hy.val, hd]
  have h1 := Int.mul_ediv_add_emod r m
  have h2 := Int.emod_nonneg r (show m ≠ 0 by omega)
  omega
/-- The memory of a round of over: the divisor's box, the quotient's, the remainder's, the method value's; the quotient's row. -/
structure OvW (H B8 : Nat) (W : World) (mv qv rv : Value) (ys rs qs : List Int) (n : Nat) : Prop where
  b1 : Boxed W H 48 mv
  b2 : Boxed W (H + 1) 48 qv
  b3 : Boxed W (H + 1 + 1) 48 rv
  b8 : Boxed W B8 81 (.func (.func 64) #[mv] #[])
  q : W.ownsRow (H + 1 + 1 + 1) 3 1 qv n (qs.map (Value.int .i64))
  m : Sl W mv ys
  r : Sl W rv rs
/-- What the last statement of a round loads beside the remainder. -/
def OvS (H B8 : Nat) (mv qv : Value) (x : Nat) (d : Int) (W : World) : Prop :=
  W.cell? ⟨H + 1, 0, none⟩ = some qv ∧ W.cell? ⟨B8, 0, none⟩ = some (.func (.func 64) #[mv] #[]) ∧ W.cell? ⟨H + 1 + 1 + 1, x, none⟩ = some (.int .i64 d)
theorem OvW.below {H B8 : Nat} {W W' : World} {mv qv rv : Value} {ys rs qs : List Int} {n : Nat} (h : OvW H B8 W mv qv rv ys rs qs n) (hb : Below W.heap.size W W') : OvW H B8 W' mv qv rv ys rs qs n :=
  ⟨boxed_below h.b1 hb, boxed_below h.b2 hb, boxed_below h.b3 hb, boxed_below h.b8 hb, own_below h.q hb, h.m.below hb, h.r.below hb⟩
theorem OvW.cellq {H B8 : Nat} {W : World} {mv rv : Value} {ys rs qs : List Int} {n cap : Nat} (h : OvW H B8 W mv (.slice (some ⟨H + 1 + 1 + 1, 0, none⟩) n cap) rv ys rs qs n) (hl : qs.length = n) {j : Nat} (hj : j < n) : W.cell? ⟨H + 1 + 1 + 1, j, none⟩ = some (.int .i64 (gi qs j)) := by
  have := h.q.cellAt j (by omega)
  rw [this, List.getElem?_map, List.getElem?_eq_getElem (by omega), gi_lt (by omega)]; rfl
theorem OvW.search {H B8 : Nat} {W : World} {mv qv rv : Value} {ys rs qs : List Int} {n : Nat} {m r : Int} (h : OvW H B8 W mv qv rv ys rs qs n) (nm : Num 10000 ys m) (nr : Num 10000 rs r) (hly : ys.length ≤ 1000) :
    Calls Tryz.prog 67 #[.int .i64 9999, .func (.func 66) #[] #[.pointer (some ⟨B8, 0, none⟩), .pointer (some ⟨H + 1 + 1, 0, none⟩)]] W
      (Gives W fun v _ => ∃ i : Nat, v = .int .i64 i ∧ i ≤ 9999 ∧ Parts (tooMuch m r) i i 9999) :=
  search_any 66 _ 9999 (tooMuch m r) W (by decide) (Go.Proofs.enters_of Tryz.func66 (by kernel_rfl) rfl)
    (fun W' i hb hi => over1_any i B8 (H + 1 + 1) mv rv ys rs m r W' (h.below hb).b8.cell (h.below hb).b3.cell (h.below hb).m (h.below hb).r nm nr hly hi)
/-- q[j] = d -/
theorem OvW.store {H B8 : Nat} {W : World} {mv rv : Value} {ys rs qs : List Int} {n cap : Nat} (h : OvW H B8 W mv (.slice (some ⟨H + 1 + 1 + 1, 0, none⟩) n cap) rv ys rs qs n) (j : Nat) (d : Int) (h8 : H + 1 + 1 + 1 < B8)
    (hm : ∀ b o, mv.ptr? = some (b, o) → b < H) (hr : ∀ b o, rv.ptr? = some (b, o) → b ≠ H + 1 + 1 + 1) :
    OvW H B8 (W.setCell ⟨H + 1 + 1 + 1, j, none⟩ (.int .i64 d)) mv (.slice (some ⟨H + 1 + 1 + 1, 0, none⟩) n cap) rv ys rs (qs.set j d) n := by
  obtain ⟨g1, g2⟩ := h.q.stored j (.int .i64 d)
  have ho : Only [H + 1 + 1 + 1] W (W.setCell ⟨H + 1 + 1 + 1, j, none⟩ (.int .i64 d)) := (Only.refl _ _).setCell (by simp) _
  exact ⟨h.b1.kept g2 (by simp; omega), h.b2.kept g2 (by simp), h.b3.kept g2 (by simp), h.b8.kept g2 (by simp; omega), by rw [List.map_set]; exact g1,
    h.m.only ho (fun b o e => by have := hm b o e; simp; omega), h.r.only ho (fun b o e => by have := hr b o e; simpa using this)⟩
end Go.Proofs.YtbnilfjhalildaaGreatDoor
