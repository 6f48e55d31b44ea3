/- Plain arithmetic of lists of digits to a base: no program. -/
import Derived.Test.YtbnilfjhalildaaGreatDoorBase
namespace Go.Proofs.YtbnilfjhalildaaGreatDoor

/-- How many elements are left when zeros at the end are left out. -/
def trimN (xs : List Int) : Nat → Nat
  | 0 => 0
  | k + 1 => if gi xs k = 0 then trimN xs k else k + 1
theorem trimN_zero {xs : List Int} {k : Nat} (h : gi xs k = 0) : trimN xs (k + 1) = trimN xs k := by rw [trimN, if_pos h]
theorem trimN_pos {xs : List Int} {k : Nat} (h : ¬ gi xs k = 0) : trimN xs (k + 1) = k + 1 := by rw [trimN, if_neg h]
theorem trimN_le (xs : List Int) : ∀ k, trimN xs k ≤ k
  | 0 => Nat.le_refl _
  | k + 1 => by unfold trimN; split; exact Nat.le_succ_of_le (trimN_le xs k); exact Nat.le_refl _
/-- The list without zeros at its end. -/
def trim (xs : List Int) : List Int := xs.take (trimN xs xs.length)

theorem trim_len (xs : List Int) : (trim xs).length ≤ xs.length := by unfold trim; rw [List.length_take]; omega
/-- The value of digits, the lowest one first. -/
def val (b : Int) : List Int → Int
  | [] => 0
  | x :: xs => x + b * val b xs
/-- All are digits to the base b. -/
def Dig (b : Int) (xs : List Int) : Prop := ∀ x ∈ xs, 0 ≤ x ∧ x < b
/-- Without zeros at the end. -/
def Top (xs : List Int) : Prop := ∀ k, xs.length = k + 1 → gi xs k ≠ 0
/-- The digits of n, without zeros at the end. -/
structure Num (b : Int) (xs : List Int) (n : Int) : Prop where
  dig : Dig b xs
  top : Top xs
  val : val b xs = n

theorem val_append (b : Int) (xs ys : List Int) : val b (xs ++ ys) = val b xs + b ^ xs.length * val b ys := by
  induction xs with
  | nil => simp [val]
  | cons x xs ih =>
    simp only [List.cons_append, val, ih, List.length_cons, Int.pow_succ]
    rw [Int.mul_add, Int.add_assoc, Int.mul_comm (b ^ xs.length) b, Int.mul_assoc]

theorem val_snoc (b : Int) (xs : List Int) (y : Int) : val b (xs ++ [y]) = val b xs + y * b ^ xs.length := by
  rw [val_append]; simp only [val, Int.mul_zero, Int.add_zero]; rw [Int.mul_comm]

theorem Dig.cons {b x : Int} {xs : List Int} (h : Dig b (x :: xs)) : (0 ≤ x ∧ x < b) ∧ Dig b xs :=
  ⟨h x (by simp), fun y hy => h y (by simp [hy])⟩
theorem Dig.append {b : Int} {xs ys : List Int} (h : Dig b xs) (k : Dig b ys) : Dig b (xs ++ ys) := fun x hx => by
  rcases List.mem_append.1 hx with h' | h'
  · exact h x h'
  · exact k x h'
theorem Dig.snoc {b : Int} {xs : List Int} {y : Int} (h : Dig b xs) (h0 : 0 ≤ y) (h1 : y < b) : Dig b (xs ++ [y]) :=
  h.append (fun x hx => by simp at hx; subst hx; exact ⟨h0, h1⟩)
theorem Dig.nil (b : Int) : Dig b [] := fun _ h => by cases h
theorem Dig.take {b : Int} {xs : List Int} (h : Dig b xs) (k : Nat) : Dig b (xs.take k) := fun x hx => h x (List.mem_of_mem_take hx)
theorem Dig.gi {b : Int} {xs : List Int} (h : Dig b xs) (hb : 0 < b) (k : Nat) : 0 ≤ gi xs k ∧ gi xs k < b := by
  by_cases hk : k < xs.length
  · rw [gi_lt hk]; exact h _ (List.getElem_mem hk)
  · rw [gi_ge (by omega)]; omega

theorem pow_pos' {b : Int} (hb : 0 < b) (k : Nat) : 0 < b ^ k := Int.pow_pos hb

theorem val_bounds {b : Int} (hb : 1 < b) {xs : List Int} (h : Dig b xs) : 0 ≤ val b xs ∧ val b xs < b ^ xs.length := by
  induction xs with
  | nil => simp [val]
  | cons x xs ih =>
    obtain ⟨hx, hxs⟩ := h.cons
    obtain ⟨i1, i2⟩ := ih hxs
    have h1 : 0 ≤ b * val b xs := Int.mul_nonneg (by omega) i1
    have h2 : b * val b xs ≤ b * (b ^ xs.length - 1) := Int.mul_le_mul_of_nonneg_left (by omega) (by omega)
    rw [Int.mul_sub, Int.mul_one] at h2
    simp only [val, List.length_cons, Int.pow_succ]
    rw [Int.mul_comm (b ^ xs.length) b]
    omega

/-- The sum of d j times b to the power of j, for all j below k. -/
def sumd (b : Int) (d : Nat → Int) : Nat → Int
  | 0 => 0
  | k + 1 => sumd b d k + d k * b ^ k

theorem take_snoc' {xs : List Int} {k : Nat} (h : k < xs.length) : xs.take (k + 1) = xs.take k ++ [gi xs k] := by
  rw [gi_lt h]; exact List.take_succ_eq_append_getElem h

theorem sumd_gi (b : Int) (xs : List Int) : ∀ k, k ≤ xs.length → sumd b (gi xs) k = val b (xs.take k)
  | 0, _ => by simp [sumd, val]
  | k + 1, h => by
    rw [sumd, sumd_gi b xs k (by omega), take_snoc' (by omega), val_snoc]
    simp [Nat.min_eq_left (show k ≤ xs.length by omega)]

theorem sumd_more (b : Int) (d : Nat → Int) (n : Nat) (h : ∀ k, n ≤ k → d k = 0) : ∀ k, n ≤ k → sumd b d k = sumd b d n := by
  intro k hk
  induction k with
  | zero => obtain rfl : n = 0 := by omega
            rfl
  | succ k ih =>
    by_cases e : n = k + 1
    · rw [e]
    · rw [sumd, h k (by omega), ih (by omega)]; simp

theorem sumd_gi_all (b : Int) (xs : List Int) {n : Nat} (hn : xs.length ≤ n) : sumd b (gi xs) n = val b xs := by
  rw [sumd_more b (gi xs) xs.length (fun k hk => gi_ge hk) n hn, sumd_gi b xs _ (Nat.le_refl _), List.take_length]

theorem sumd_add (b : Int) (d e : Nat → Int) : ∀ k, sumd b (fun j => d j + e j) k = sumd b d k + sumd b e k
  | 0 => rfl
  | k + 1 => by simp only [sumd, sumd_add b d e k, Int.add_mul]; omega
theorem sumd_sub (b : Int) (d e : Nat → Int) : ∀ k, sumd b (fun j => d j - e j) k = sumd b d k - sumd b e k
  | 0 => rfl
  | k + 1 => by simp only [sumd, sumd_sub b d e k, Int.sub_mul]; omega
theorem sumd_mul (b m : Int) (d : Nat → Int) : ∀ k, sumd b (fun j => d j * m) k = sumd b d k * m
  | 0 => by simp [sumd]
  | k + 1 => by simp only [sumd, sumd_mul b m d k, Int.add_mul]; rw [Int.mul_right_comm]

/-! ### What is left when zeros are left out -/
theorem val_trimN (b : Int) (xs : List Int) : ∀ k, k ≤ xs.length → val b (xs.take (trimN xs k)) = val b (xs.take k)
  | 0, _ => rfl
  | k + 1, h => by
    by_cases hz : gi xs k = 0
    · rw [trimN_zero hz, val_trimN b xs k (by omega), take_snoc' (by omega), val_snoc, hz]; simp
    · rw [trimN_pos hz]
theorem top_trimN (xs : List Int) : ∀ k, k ≤ xs.length → ∀ j, trimN xs k = j + 1 → gi xs j ≠ 0
  | 0, _, _, h => by simp [trimN] at h
  | k + 1, hk, j, h => by
    by_cases hz : gi xs k = 0
    · rw [trimN_zero hz] at h; exact top_trimN xs k (by omega) j h
    · rw [trimN_pos hz] at h; obtain rfl : k = j := by omega
      exact hz
theorem Num.trim {b : Int} {xs : List Int} (h : Dig b xs) : Num b (trim xs) (Go.Proofs.YtbnilfjhalildaaGreatDoor.val b xs) := by
  have hle := trimN_le xs xs.length
  refine ⟨h.take _, fun k hk => ?_, ?_⟩
  · have hk' : trimN xs xs.length = k + 1 := by
      unfold Go.Proofs.YtbnilfjhalildaaGreatDoor.trim at hk; rw [List.length_take] at hk; omega
    unfold Go.Proofs.YtbnilfjhalildaaGreatDoor.trim
    rw [gi_take (by omega)]
    exact top_trimN xs _ (Nat.le_refl _) k hk'
  · unfold Go.Proofs.YtbnilfjhalildaaGreatDoor.trim
    rw [val_trimN b xs _ (Nat.le_refl _), List.take_length]

/-! ### Lengths and uniqueness -/
theorem Num.nonneg {b n : Int} (hb : 1 < b) {xs : List Int} (h : Num b xs n) : 0 ≤ n := by rw [← h.val]; exact (val_bounds hb h.dig).1
theorem Num.lt {b n : Int} (hb : 1 < b) {xs : List Int} (h : Num b xs n) : n < b ^ xs.length := by rw [← h.val]; exact (val_bounds hb h.dig).2
theorem Num.ge {b n : Int} (hb : 1 < b) {xs : List Int} (h : Num b xs n) {k : Nat} (hk : xs.length = k + 1) : b ^ k ≤ n := by
  have ht := h.top k hk
  have hg := h.dig.gi (by omega) k
  have e : xs = xs.take k ++ [gi xs k] := by rw [← take_snoc' (by omega), ← hk, List.take_length]
  have hv := h.val
  rw [e, val_snoc, List.length_take, Nat.min_eq_left (by omega)] at hv
  have h0 := (val_bounds hb (h.dig.take k)).1
  have hp := pow_pos' (show 0 < b by omega) k
  have : 1 * b ^ k ≤ gi xs k * b ^ k := Int.mul_le_mul_of_nonneg_right (by omega) (by omega)
  omega
theorem Num.zero_iff {b n : Int} (hb : 1 < b) {xs : List Int} (h : Num b xs n) : xs = [] ↔ n = 0 := by
  constructor
  · rintro rfl; rw [← h.val]; rfl
  · rintro rfl
    cases hx : xs.length with
    | zero => exact List.eq_nil_of_length_eq_zero hx
    | succ k => have := h.ge hb hx; have := pow_pos' (show 0 < b by omega) k; omega
theorem pow_mono {b : Int} (hb : 1 < b) {j k : Nat} (h : j ≤ k) : b ^ j ≤ b ^ k := by
  induction k with
  | zero => obtain rfl : j = 0 := by omega
            exact Int.le_refl _
  | succ k ih =>
    by_cases e : j = k + 1
    · rw [e]; exact Int.le_refl _
    · have h1 := ih (by omega)
      have hp := pow_pos' (show 0 < b by omega) k
      have : b ^ k * 1 ≤ b ^ k * b := Int.mul_le_mul_of_nonneg_left (by omega) (by omega)
      rw [Int.pow_succ]; omega
theorem pow_lt {b : Int} (hb : 1 < b) {j k : Nat} (h : b ^ j < b ^ k) : j < k := by
  by_cases e : j < k
  · exact e
  · have := pow_mono hb (show k ≤ j by omega); omega
theorem Num.len_lt {b m n : Int} (hb : 1 < b) {xs ys : List Int} (h : Num b xs m) (k : Num b ys n) (hl : xs.length < ys.length) : m < n := by
  obtain ⟨j, hj⟩ : ∃ j, ys.length = j + 1 := ⟨ys.length - 1, by omega⟩
  have h1 := h.lt hb
  have h2 := k.ge hb hj
  have h3 := pow_mono hb (show xs.length ≤ j by omega)
  omega
theorem Num.length_le {b n : Int} (hb : 1 < b) {xs : List Int} (h : Num b xs n) {m : Nat} (hn : n < b ^ m) : xs.length ≤ m := by
  by_cases e : xs.length ≤ m
  · exact e
  · obtain ⟨j, hj⟩ : ∃ j, xs.length = j + 1 := ⟨xs.length - 1, by omega⟩
    have h1 := h.ge hb hj
    have h2 := pow_mono hb (show m ≤ j by omega)
    omega
theorem Num.len_le {b m n : Int} (hb : 1 < b) {xs ys : List Int} (h : Num b xs m) (k : Num b ys n) (hl : m ≤ n) : xs.length ≤ ys.length := by
  by_cases e : xs.length ≤ ys.length
  · exact e
  · have := k.len_lt hb h (by omega); omega
theorem dig_unique {b : Int} (hb : 1 < b) : ∀ {xs ys : List Int}, xs.length = ys.length → Dig b xs → Dig b ys → val b xs = val b ys → xs = ys
  | [], [], _, _, _, _ => rfl
  | x :: xs, y :: ys, hl, hx, hy, hv => by
    obtain ⟨a1, a2⟩ := hx.cons
    obtain ⟨c1, c2⟩ := hy.cons
    simp only [val] at hv
    have e1 : (x + b * val b xs) % b = x := by rw [Int.add_mul_emod_self_left]; exact Int.emod_eq_of_lt a1.1 a1.2
    have e2 : (y + b * val b ys) % b = y := by rw [Int.add_mul_emod_self_left]; exact Int.emod_eq_of_lt c1.1 c1.2
    have exy : x = y := by rw [← e1, hv, e2]
    subst exy
    have : b * val b xs = b * val b ys := by omega
    have := Int.eq_of_mul_eq_mul_left (by omega) this
    rw [dig_unique hb (by simpa using hl) a2 c2 this]
theorem Num.unique {b n : Int} (hb : 1 < b) {xs ys : List Int} (h : Num b xs n) (k : Num b ys n) : xs = ys := by
  by_cases hl : xs.length = ys.length
  · exact dig_unique hb hl h.dig k.dig (by rw [h.val, k.val])
  · by_cases hlt : xs.length < ys.length
    · have := h.len_lt hb k hlt; omega
    · have := k.len_lt hb h (by omega); omega

/-! ### One round of fold -/
theorem fold_step (s c p v : Int) (hv : v + c * p = s) (d : Int) (q : Int) (c' : Int) (he : d + c = q + 10000 * c') : (v + q * p) + c' * (p * 10000) = s + d * p := by
  have e : c' * (p * 10000) = (10000 * c') * p := by rw [Int.mul_comm p, ← Int.mul_assoc, Int.mul_comm c']
  have e2 : d + c - q = 10000 * c' := by omega
  have e3 : (d + c - q) * p = d * p + c * p - q * p := by rw [Int.sub_mul, Int.add_mul]
  rw [e, ← e2, e3]
  omega

end Go.Proofs.YtbnilfjhalildaaGreatDoor
