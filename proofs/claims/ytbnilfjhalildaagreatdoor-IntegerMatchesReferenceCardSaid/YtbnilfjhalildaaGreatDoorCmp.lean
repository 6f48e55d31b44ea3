/- The contract of number.compare. -/
import Derived.Test.YtbnilfjhalildaaGreatDoorLoop
import Derived.Test.YtbnilfjhalildaaGreatDoorShelf
namespace Go.Proofs.YtbnilfjhalildaaGreatDoor
open Go.RowKit Go.Shelf
attribute [local go_sem] Oper.semAt_some

/-- The comparison of the places below k, from the top. -/
def cmpTop (xs ys : List Int) : Nat → Int
  | 0 => 0
  | k + 1 => if gi xs k = gi ys k then cmpTop xs ys k else Lib.compareInt (gi xs k) (gi ys k)
def cmpL (xs ys : List Int) : Int := if xs.length = ys.length then cmpTop xs ys xs.length else Lib.compareInt xs.length ys.length

set_option maxRecDepth 100000 in
set_option maxHeartbeats 1000000 in
theorem compare_lens (v u : Value) (xs ys : List Int) (w : World) (hv : Sl w v xs) (hu : Sl w u ys) (hne : ¬ xs.length = ys.length) :
    Calls Tryz.prog 46 #[v, u] w fun e w' => e = .returned (.int .i64 (cmpL xs ys)) ∧ Below w.heap.size w w' := by
  have hc : cmpL xs ys = Lib.compareInt xs.length ys.length := if_neg hne
  obtain ⟨a1, c1, rfl⟩ := hv.shape
  obtain ⟨a2, c2, rfl⟩ := hu.shape
  rw [hc]
  have hb : ((xs.length : Int) != ys.length) = true := by simp; omega
  clear hc hv hu
  refine (callsIn_wide (n := 5)).1 ?_
  refine callsIn_of_wp_marks Tryz.func46 rfl trivial ?_ rfl
  simp only [Tryz.ntmps46, List.size_toArray, List.length_cons, List.length_nil, Nat.reduceAdd, Nat.reduceSub, Array.replicate_succ, Array.replicate_zero, List.push_toArray, List.append_toArray, List.nil_append, List.cons_append]
  gi_wp2_with fail
  refine ⟨trivial, (callsIn_wide.2 (Tryz.cmp_Compare_int _ _ _)).mono ?_⟩
  rintro e w' ⟨rfl, rfl⟩
  gi_wp2_with fail
  exact ⟨.int .i64 (Lib.compareInt xs.length ys.length), by simp [results, Tryz.results46, go_sem], rfl, ((Below.refl _ _).alloc (Nat.le_refl _) _).alloc (by simp) _⟩

/-- All places of pre are alike. -/
def Alike' (xs ys : List Int) (pre : List (Fin xs.length)) : Prop := ∀ x ∈ pre, gi xs x.1 = gi ys x.1
theorem cmpTop_alike {xs ys : List Int} : ∀ k, k ≤ xs.length → Alike' xs ys (downs xs.length k) → cmpTop xs ys xs.length = cmpTop xs ys (xs.length - k)
  | 0, _, _ => rfl
  | k + 1, h, ha => by
    rw [downs_succ (by omega)] at ha
    have h1 : Alike' xs ys (downs xs.length k) := fun x hx => ha x (List.mem_append.2 (.inl hx))
    have h2 := ha ⟨xs.length - 1 - k, by omega⟩ (List.mem_append.2 (.inr (by simp)))
    rw [cmpTop_alike k (by omega) h1]
    have e : xs.length - k = (xs.length - 1 - k) + 1 := by omega
    have e2 : xs.length - (k + 1) = xs.length - 1 - k := by omega
    rw [e, e2, cmpTop, if_pos h2]
/-- A round has returned r. -/
def Found (xs ys : List Int) (r : Int) (pre : List (Fin xs.length)) : Prop := ∃ p x, pre = p ++ [x] ∧ Alike' xs ys p ∧ gi xs x.1 ≠ gi ys x.1 ∧ r = Lib.compareInt (gi xs x.1) (gi ys x.1)
theorem cmpTop_found {xs ys : List Int} {r : Int} {k : Nat} (hk : k ≤ xs.length) (h : Found xs ys r (downs xs.length k)) : cmpTop xs ys xs.length = r := by
  obtain ⟨p, x, he, ha, hne, hr⟩ := h
  cases k with
  | zero => simp [downs] at he
  | succ k =>
    rw [downs_succ (by omega)] at he
    have h1 := List.append_inj' he rfl
    obtain ⟨rfl, h2⟩ := h1
    have h3 : x.1 = xs.length - 1 - k := by
      have : (⟨xs.length - 1 - k, by omega⟩ : Fin xs.length) = x := by simpa using h2
      exact (congrArg Fin.val this).symm
    rw [cmpTop_alike k (by omega) ha]
    have e : xs.length - k = x.1 + 1 := by omega
    rw [e, cmpTop, if_neg hne, hr]

set_option maxRecDepth 100000 in
set_option maxHeartbeats 1000000 in
theorem compare_eq (v u : Value) (xs ys : List Int) (w : World) (hv : Sl w v xs) (hu : Sl w u ys) (hl : xs.length = ys.length) :
    Calls Tryz.prog 46 #[v, u] w fun e w' => e = .returned (.int .i64 (cmpTop xs ys xs.length)) ∧ Below w.heap.size w w' := by
  have hb : ((xs.length : Int) != ys.length) = false := by simp; omega
  have Hl := Lib.hid hl
  clear hl
  have hw0 : Below w.heap.size w (((w.alloc (.cells #[u] 48)).alloc (.cells #[.int .i64 0] 3)).alloc (.cells #[v] 48)) := (((Below.refl _ _).alloc (Nat.le_refl _) _).alloc (by simp) _).alloc (by simp; omega) _
  have hv0 := hv.below hw0
  have hu0 := hu.below hw0
  have hvp := hv.ptr_lt
  have b1 : Boxed (((w.alloc (.cells #[u] 48)).alloc (.cells #[.int .i64 0] 3)).alloc (.cells #[v] 48)) w.heap.size 48 u := ((Boxed.new w _ _).alloc _).alloc _
  have b2 : Boxed (((w.alloc (.cells #[u] 48)).alloc (.cells #[.int .i64 0] 3)).alloc (.cells #[v] 48)) (w.heap.size + 1) 3 (.int .i64 0) := by
    have := (Boxed.new (w.alloc (.cells #[u] 48)) 3 (.int .i64 0)).alloc (.cells #[v] 48)
    rwa [World.size_alloc] at this
  have b3 : Boxed (((w.alloc (.cells #[u] 48)).alloc (.cells #[.int .i64 0] 3)).alloc (.cells #[v] 48)) (w.heap.size + 1 + 1) 48 v := by
    have := Boxed.new ((w.alloc (.cells #[u] 48)).alloc (.cells #[.int .i64 0] 3)) 48 v
    rwa [World.size_alloc, World.size_alloc] at this
  obtain ⟨a1, c1, rfl⟩ := hv.shape
  obtain ⟨a2, c2, rfl⟩ := hu.shape
  refine (callsIn_wide (n := 5)).1 ?_
  refine callsIn_of_wp_marks Tryz.func46 rfl trivial ?_ rfl
  simp only [Tryz.ntmps46, List.size_toArray, List.length_cons, List.length_nil, Nat.reduceAdd, Nat.reduceSub, Array.replicate_succ, Array.replicate_zero, List.push_toArray, List.append_toArray, List.nil_append, List.cons_append]
  gi_wp2_with (refine ⟨trivial, ?_⟩; gi_at_call 60; refine (back_in Fence.wide 4 trivial rfl _ _ ⟨_, _, _, rfl⟩).mono ?_; rintro e w' ⟨rfl, rfl⟩)
  refine wp_back (w.heap.size + 1 + 1) [w.heap.size + 1] (.slice a1 xs.length c1) xs rfl b3.cell hv0 (by simp) (fun b o e => by have := hvp b o e; simp; omega) rfl
    (fun pre W => Boxed W w.heap.size 48 (.slice a2 ys.length c2) ∧ Boxed W (w.heap.size + 1) 3 (.int .i64 0) ∧ Sl W (.slice a2 ys.length c2) ys ∧ Alike' xs ys pre)
    (fun pre W => ∃ r, Boxed W (w.heap.size + 1) 3 (.int .i64 r) ∧ Found xs ys r pre)
    (fun pre W W' h k => ⟨k.boxed h.1, k.boxed h.2.1, k.sl h.2.2.1, h.2.2.2⟩) (fun pre W W' ⟨r, h1, h2⟩ k => ⟨r, k.boxed h1, h2⟩)
    (fun pre W h k hk => by simp at hk; subst hk; exact ⟨_, h.2.1, rfl⟩) ⟨b1, b2, hu0, fun _ h => by cases h⟩
    (fun x => { tmps := #[.slice a1 xs.length c1, .slice a2 ys.length c2, undef, .pointer (some ⟨w.heap.size, 0, none⟩), .pointer (some ⟨w.heap.size + 1, 0, none⟩), .int .i64 (x.1 : Int), .int .i64 (gi xs x.1), .slice a1 xs.length c1,
      .int .i64 xs.length, .slice a2 ys.length c2, .int .i64 ys.length, .bool false, undef, undef, undef, undef, undef, .slice a1 xs.length c1, .func (.func 78) #[] #[.pointer (some ⟨w.heap.size + 1 + 1, 0, none⟩)],
      .int .i64 (x.1 : Int), .int .i64 (gi xs x.1), undef, undef, undef, undef, undef, undef, undef, undef, undef, undef, undef, undef], defers := [] }) ?assign ?body ?done ?stop
  case assign =>
    intro l x W K hK
    gi_wp2
    exact hK
  case body =>
    rintro l pre x W ho ⟨h1, h2, h3, h4⟩ hlen
    have hx2 : x.1 < ys.length := by have := Hl.out; omega
    rcases h3 with ⟨_, h0⟩ | ⟨b, off, cap, he, g1, g2, g3, g4⟩
    · rw [h0] at hx2; cases hx2
    · cases he
      have hc := g4 x.1 hx2
      have hc1 := h1.cell
      have hc2 := h2.cell
      have hf2 := h2.frozen
      by_cases heq : gi xs x.1 = gi ys x.1
      · have hne : (gi xs x.1 != gi ys x.1) = false := by simp [heq]
        have He := Lib.hid heq
        clear heq
        gi_wp2
        refine ⟨Only.refl _ _, h1, h2, .inr ⟨b, off, c2, rfl, g1, g2, g3, g4⟩, fun y hy => ?_⟩
        rcases List.mem_append.1 hy with hy | hy
        · exact h4 y hy
        · simp at hy; subst hy; exact He.out
      · have hne : (gi xs x.1 != gi ys x.1) = true := by simp [heq]
        gi_wp2_with (refine ⟨trivial, ?_⟩; gi_at_call 72; refine (CallsIn.inRound l (callsIn_wide.2 (Tryz.cmp_Compare_int _ _ _))).mono ?_; rintro e w' ⟨rfl, rfl⟩)
        exact ⟨(Only.refl _ _).setCell (by simp) _, _, h2.set _, pre, x, rfl, h4, heq, rfl⟩
  case done =>
    rintro D W hD ho ⟨h1, h2, h3, h4⟩ hK
    have hc2 := h2.cell
    have hf2 := h2.frozen
    have hz : cmpTop xs ys xs.length = 0 := by rw [cmpTop_alike _ (Nat.le_refl _) h4, Nat.sub_self]; rfl
    have Hz := Lib.hid hz
    clear hz
    gi_wp2
    have hK' := (KeepsOthers.setCell W ⟨w.heap.size + 1, 0, none⟩ (.int .i64 0)).same D _ hK rfl
    have hc := ((CellsKept.putObj (.deferred none) hK' rfl).boxed (h2.set (.int .i64 0))).cell
    exact ret_marked hK' (v := .int .i64 0) (by simp [results, Tryz.results46, go_sem, hc])
      ⟨by rw [Hz.out], hw0.trans (((ho.setCell (by simp) _).putObj hD _).toBelow (by simp; omega) (by simp))⟩
  case stop =>
    rintro D k W hk hD ho ⟨r, h1, h2⟩ hK
    have hz := Lib.hid (cmpTop_found hk h2)
    gi_wp2
    have hc := ((CellsKept.putObj (.deferred none) hK rfl).boxed h1).cell
    exact ret_marked hK (v := .int .i64 r) (by simp [results, Tryz.results46, go_sem, hc])
      ⟨by rw [hz.out], hw0.trans ((ho.putObj hD _).toBelow (by simp; omega) (by simp))⟩

theorem compare_any (v u : Value) (xs ys : List Int) (w : World) (hv : Sl w v xs) (hu : Sl w u ys) :
    Calls Tryz.prog 46 #[v, u] w fun e w' => e = .returned (.int .i64 (cmpL xs ys)) ∧ Below w.heap.size w w' := by
  by_cases hl : xs.length = ys.length
  · unfold cmpL; rw [if_pos hl]; exact compare_eq v u xs ys w hv hu hl
  · exact compare_lens v u xs ys w hv hu hl

/-! ### What it says of numbers -/
theorem compareInt_lt {a b : Int} (h : a < b) : Lib.compareInt a b = -1 := if_pos h
theorem compareInt_gt {a b : Int} (h : b < a) : Lib.compareInt a b = 1 := by unfold Lib.compareInt; rw [if_neg (by omega : ¬ a < b), if_pos h]
theorem compareInt_eq (a : Int) : Lib.compareInt a a = 0 := by unfold Lib.compareInt; rw [if_neg (by omega : ¬ a < a), if_neg (by omega : ¬ a > a)]
theorem compareInt_add (a b c : Int) : Lib.compareInt (a + c) (b + c) = Lib.compareInt a b := by
  rcases Int.lt_trichotomy a b with h | rfl | h
  · rw [compareInt_lt h, compareInt_lt (by omega)]
  · rw [compareInt_eq, compareInt_eq]
  · rw [compareInt_gt h, compareInt_gt (by omega)]
theorem cmpTop_val (b : Int) (hb : 1 < b) {xs ys : List Int} (hx : Dig b xs) (hy : Dig b ys) : ∀ k, k ≤ xs.length → k ≤ ys.length → cmpTop xs ys k = Lib.compareInt (val b (xs.take k)) (val b (ys.take k))
  | 0, _, _ => by simp [cmpTop, Lib.compareInt]
  | k + 1, h1, h2 => by
    have ex : val b (xs.take (k + 1)) = val b (xs.take k) + gi xs k * b ^ k := by rw [take_snoc' (by omega), val_snoc, List.length_take, Nat.min_eq_left (by omega)]
    have ey : val b (ys.take (k + 1)) = val b (ys.take k) + gi ys k * b ^ k := by rw [take_snoc' (by omega), val_snoc, List.length_take, Nat.min_eq_left (by omega)]
    have bx := val_bounds hb (hx.take k)
    have bY := val_bounds hb (hy.take k)
    rw [List.length_take, Nat.min_eq_left (by omega)] at bx bY
    rw [ex, ey, cmpTop]
    by_cases he : gi xs k = gi ys k
    · rw [if_pos he, cmpTop_val b hb hx hy k (by omega) (by omega), he, compareInt_add]
    · rw [if_neg he]
      by_cases c1 : gi xs k < gi ys k
      · have : (gi xs k + 1) * b ^ k ≤ gi ys k * b ^ k := Int.mul_le_mul_of_nonneg_right (by omega) (Int.le_of_lt (pow_pos' (by omega) k))
        rw [Int.add_mul, Int.one_mul] at this
        rw [compareInt_lt c1, compareInt_lt (by omega)]
      · have : (gi ys k + 1) * b ^ k ≤ gi xs k * b ^ k := Int.mul_le_mul_of_nonneg_right (by omega) (Int.le_of_lt (pow_pos' (by omega) k))
        rw [Int.add_mul, Int.one_mul] at this
        rw [compareInt_gt (by omega), compareInt_gt (by omega)]
theorem cmpL_num {xs ys : List Int} {a b : Int} (hx : Num 10000 xs a) (hy : Num 10000 ys b) : cmpL xs ys = Lib.compareInt a b := by
  unfold cmpL
  by_cases hl : xs.length = ys.length
  · rw [if_pos hl, cmpTop_val 10000 (by decide) hx.dig hy.dig _ (Nat.le_refl _) (by omega), List.take_length, hl, List.take_length, hx.val, hy.val]
  · rw [if_neg hl]
    by_cases c : xs.length < ys.length
    · rw [compareInt_lt (by omega), compareInt_lt (hx.len_lt (by decide) hy c)]
    · rw [compareInt_gt (by omega), compareInt_gt (hy.len_lt (by decide) hx (by omega))]
end Go.Proofs.YtbnilfjhalildaaGreatDoor
