/- Mul. -/
import Derived.Test.YtbnilfjhalildaaGreatDoorOps
import Derived.Test.YtbnilfjhalildaaGreatDoorTimes
namespace Go.Proofs.YtbnilfjhalildaaGreatDoor
open Go.RowKit
attribute [local go_sem] Oper.semAt_some

theorem two_start (W1 : World) (s t : Bool) (v u : Value) : ∃ W2, W2 = ((W1.alloc (.cells #[.bool s, v] 50)).alloc (.cells #[.bool t, u] 50)) ∧
    W2.cell? ⟨W1.heap.size, 0, none⟩ = some (.bool s) ∧ W2.cell? ⟨W1.heap.size, 1, none⟩ = some v ∧ W2.cell? ⟨W1.heap.size + 1, 0, none⟩ = some (.bool t) ∧ W2.cell? ⟨W1.heap.size + 1, 1, none⟩ = some u ∧ Below W1.heap.size W1 W2 := by
  have b1 : Blk ((W1.alloc (.cells #[.bool s, v] 50)).alloc (.cells #[.bool t, u] 50)) W1.heap.size #[.bool s, v] 50 := (Blk.new W1 _ _).alloc _
  have b2 : Blk ((W1.alloc (.cells #[.bool s, v] 50)).alloc (.cells #[.bool t, u] 50)) (W1.heap.size + 1) #[.bool t, u] 50 := by
    have := Blk.new (W1.alloc (.cells #[.bool s, v] 50)) #[.bool t, u] 50
    rwa [World.size_alloc] at this
  exact ⟨_, rfl, b1.cell 0, b1.cell 1, b2.cell 0, b2.cell 1, below_two W1 _ _⟩

/-- What a drawn region counts on, behind a call. -/
theorem s_call {p1 p2 p3 p4 : Addr} {x1 x2 x3 x4 : Value} {w W W' : World} (hb : Below W.heap.size W W') (h : W.cell? p1 = some x1 ∧ W.cell? p2 = some x2 ∧ W.cell? p3 = some x3 ∧ W.cell? p4 = some x4 ∧ Below w.heap.size w W) :
    W'.cell? p1 = some x1 ∧ W'.cell? p2 = some x2 ∧ W'.cell? p3 = some x3 ∧ W'.cell? p4 = some x4 ∧ Below w.heap.size w W' :=
  ⟨cell_kept hb h.1, cell_kept hb h.2.1, cell_kept hb h.2.2.1, cell_kept hb h.2.2.2.1, kb_call hb h.2.2.2.2 (Nat.le_refl _)⟩
theorem sgn_mul (a b : Int) : sgn (decide (a < 0) != decide (b < 0)) (a.natAbs * b.natAbs) = a * b := by
  have h := sgn_abs a
  have k := sgn_abs b
  conv => rhs; rw [← h, ← k]
  unfold sgn
  cases decide (a < 0) <;> cases decide (b < 0) <;> simp [Int.neg_mul, Int.mul_neg]

set_option maxRecDepth 100000 in
set_option maxHeartbeats 4000000 in
theorem mul_ok (a b : ByteArray) (w : World) (hE : Env w) (ha : okS a = true) (hb : okS b = true) :
    Calls Tryz.prog 15 #[.string a, .string b] w (Gives w fun r _ => r = resT true (zS a * zS b)) := by
  have Ba := z_bound ha
  have Bb := z_bound hb
  have Pk := fun W => both_ok a b W ha hb
  go_enter Tryz.func15, Tryz.ntmps15
  go_wp2_with fail
  refine (Pk _).mono ?_
  rintro e W1 ⟨⟨r, rfl, v, u, rfl, ⟨x, xs, rfl, hx, hnx⟩, ⟨y, ys, rfl, hy, hny⟩⟩, hb1⟩
  have lx := len_of_big hnx (abs_big Ba)
  have ly := len_of_big hny (abs_big Bb)
  have hm := sgn_mul (zS a) (zS b)
  obtain ⟨a1, c1, rfl⟩ := hx.shape
  obtain ⟨a2, c2, rfl⟩ := hy.shape
  generalize hs : decide (zS a < 0) = s at *
  generalize ht : decide (zS b < 0) = t at *
  obtain ⟨W2, hW2, h1, h2, h3, h4, h5⟩ := two_start W1 s t (.slice a1 xs.length c1) (.slice a2 ys.length c2)
  go_wp2_with fail
  rw [← hW2]
  clear hW2 hs ht
  have lx2 : xs.length ≤ 1000 := by omega
  have ly2 : ys.length ≤ 1000 := by omega
  have hzl : ∀ zs, Num 10000 zs (val 10000 xs * val 10000 ys) → zs.length ≤ 10000 := fun zs hz => by
    rw [hnx.val, hny.val] at hz
    have h := Int.mul_le_mul (Int.le_of_lt (abs_big Ba)) (Int.le_of_lt (abs_big Bb)) (hny.nonneg (by decide)) (by unfold Big; decide)
    have := hz.length_le (by decide) (m := 101) (Int.lt_of_le_of_lt h (by unfold Big; decide))
    omega
  have hEW : ∀ W, Below W1.heap.size W1 W → Env W := fun W hW => hE.below (kb_call hW hb1 (Nat.le_refl _)) (Nat.le_refl _)
  clear lx ly
  go_region_held3 (fun w' => w'.cell? ⟨W1.heap.size, 0, none⟩ = some (.bool s) ∧ w'.cell? ⟨W1.heap.size, 1, none⟩ = some (.slice a1 xs.length c1) ∧ w'.cell? ⟨W1.heap.size + 1, 0, none⟩ = some (.bool t) ∧ w'.cell? ⟨W1.heap.size + 1, 1, none⟩ = some (.slice a2 ys.length c2) ∧ Below W1.heap.size W1 w')
    (first | exact s_call hbt (by assumption) | exact s_call hbz ⟨h1, h2, h3, h4, kb_drew h5⟩ | exact ⟨h1, h2, h3, h4, kb_drew h5⟩ | assumption | go_keep)
    (first | (go_at_call 41; refine (times_any _ _ xs ys _ (hx.below (by first | assumption | (apply kb_drew; assumption))) (hy.below (by first | assumption | (apply kb_drew; assumption))) hnx.dig hny.dig lx2 ly2).mono ?_; rintro e w' ⟨⟨r, rfl, zs, hz1, hz2⟩, hbz⟩; obtain ⟨a5, c5, rfl⟩ := hz1.shape; have hbz2 := kb_call hbz (kb_drew h5) (Nat.le_refl _); have hbz3 := hEW _ hbz2; have hzl2 := hzl _ hz2) | (go_at_call 40; refine (text_any _ _ _ _ _ hbz3 hz1 hz2 hzl2).mono ?_; rintro e w2 ⟨rfl, hbt⟩; have hbt2 := kb_call hbt hbz2 (Nat.le_refl _)))
  have hm2 : sgn (!s == t) (val 10000 xs * val 10000 ys) = zS a * zS b := by rw [hnx.val, hny.val]; exact hm
  go_wp2
  go_ret2
  exact ⟨⟨_, rfl, by rw [hm2]; rfl⟩, kb_call hbt2 hb1 (Nat.le_refl _)⟩

set_option maxRecDepth 100000 in
set_option maxHeartbeats 2000000 in
theorem mul_bad (a b : ByteArray) (w : World) (h : okS a = false ∨ okS b = false) :
    Calls Tryz.prog 15 #[.string a, .string b] w (Gives w fun r _ => r = resT false 0) := by
  have Pk := fun W => both_bad a b W h
  go_enter Tryz.func15, Tryz.ntmps15
  go_wp2_with fail
  refine (Pk _).mono ?_
  rintro e W1 ⟨⟨r, rfl, rfl⟩, hb1⟩
  go_wp2
  go_ret2
  exact ⟨⟨_, rfl, rfl⟩, kb_call (below_two W1 _ _) hb1 (Nat.le_refl _)⟩

/-- integer.Mul. -/
theorem mul_any (a b : ByteArray) (w : World) (hE : Env w) :
    Calls Tryz.prog 15 #[.string a, .string b] w (Gives w fun r _ => r = resT (okS a && okS b) (zS a * zS b)) := by
  by_cases h : okS a = true ∧ okS b = true
  · rw [h.1, h.2]; exact mul_ok a b w hE h.1 h.2
  · rw [(and_false_of h).1]; exact mul_bad a b w (and_false_of h).2
end Go.Proofs.YtbnilfjhalildaaGreatDoor
