/- Decimal texts: which strings are integers, and which numbers they are. No program. -/
import Derived.Test.YtbnilfjhalildaaGreatDoorMath
import Derived.Lib.ItoaNum
import Derived.Lib.Atoi
import Derived.Lib.SlTrimSet
import Derived.Lib.Strings
namespace Go.Proofs.YtbnilfjhalildaaGreatDoor

theorem head_append {α : Type} (l : List α) {r : List α} (h : l ≠ []) : (l ++ r).head? = l.head? := by
  cases l with
  | nil => exact absurd rfl h
  | cons a l => rfl
theorem dropWhile_nil {α : Type} {p : α → Bool} {l : List α} : l.dropWhile p = [] ↔ ∀ b ∈ l, p b = true := by
  induction l with
  | nil => simp
  | cons a l ih =>
    cases h : p a with
    | true => simp [List.dropWhile, h, ih]
    | false => simp [List.dropWhile, h]

/-- A decimal digit. -/
def isD (b : UInt8) : Bool := decide (48 ≤ b.toNat ∧ b.toNat ≤ 57)
/-- The number that digits are behind the number acc. -/
def dnF (acc : Nat) (l : List UInt8) : Nat := l.foldl (fun a b => a * 10 + (b.toNat - 48)) acc
def dnum (l : List UInt8) : Nat := dnF 0 l

theorem dnF_append (acc : Nat) (l r : List UInt8) : dnF acc (l ++ r) = dnF (dnF acc l) r := by unfold dnF; rw [List.foldl_append]
theorem dnF_eq (l : List UInt8) : ∀ acc, dnF acc l = acc * 10 ^ l.length + dnum l := by
  induction l with
  | nil => intro acc; simp [dnF, dnum]
  | cons b l ih =>
    intro acc
    have h1 : dnF acc (b :: l) = dnF (acc * 10 + (b.toNat - 48)) l := rfl
    have h2 : dnum (b :: l) = dnF (0 * 10 + (b.toNat - 48)) l := rfl
    rw [h1, h2, ih (acc * 10 + _), ih (0 * 10 + _), List.length_cons, Nat.pow_succ, Nat.add_mul, Nat.mul_assoc, Nat.mul_comm 10, Nat.zero_mul, Nat.zero_add]
    omega
theorem dnum_append (l r : List UInt8) : dnum (l ++ r) = dnum l * 10 ^ r.length + dnum r := by unfold dnum; rw [dnF_append, dnF_eq]; rfl
theorem dnum_snoc (l : List UInt8) (b : UInt8) : dnum (l ++ [b]) = dnum l * 10 + (b.toNat - 48) := by rw [dnum_append]; simp [dnum, dnF]
theorem isD_iff {b : UInt8} : isD b = true ↔ 48 ≤ b.toNat ∧ b.toNat ≤ 57 := by unfold isD; rw [decide_eq_true_iff]
theorem decFrom_dn : ∀ (l : List UInt8) (acc : Nat), (∀ b ∈ l, isD b = true) → Lib.decFrom acc l = some (dnF acc l)
  | [], _, _ => rfl
  | b :: l, acc, h => by
    have hb := isD_iff.1 (h b (by simp))
    have hd : Lib.digitVal b = some (b.toNat - 48) := by unfold Lib.digitVal; rw [if_pos hb]
    rw [Lib.decFrom, hd]
    exact decFrom_dn l _ (fun c hc => h c (by simp [hc]))
theorem dnum_lt {l : List UInt8} (h : ∀ b ∈ l, isD b = true) : dnum l < 10 ^ l.length := by
  have := Lib.decFrom_lt l 0 _ (decFrom_dn l 0 h)
  rw [Nat.zero_add, Nat.one_mul] at this; exact this

theorem ofNat_toNat {k : Nat} (h : k < 10) : (UInt8.ofNat (48 + k)).toNat = 48 + k := by
  rw [UInt8.toNat_ofNat']; omega
theorem ofNat_eq {b : UInt8} (h : isD b = true) : UInt8.ofNat (48 + (b.toNat - 48)) = b := by
  have := isD_iff.1 h
  apply UInt8.toNat.inj
  rw [ofNat_toNat (by omega)]; omega

theorem decDigits_small {u : Nat} (h : u < 10) : Lib.decDigits u = [UInt8.ofNat (48 + u)] := by rw [Lib.decDigits, dif_pos h]
theorem decDigits_big {u : Nat} (h : ¬ u < 10) : Lib.decDigits u = Lib.decDigits (u / 10) ++ [UInt8.ofNat (48 + u % 10)] := by rw [Lib.decDigits, dif_neg h]

theorem decDigits_spec (u : Nat) : dnum (Lib.decDigits u) = u ∧ (∀ b ∈ Lib.decDigits u, isD b = true) ∧ Lib.decDigits u ≠ [] ∧ (u ≠ 0 → ∀ b, (Lib.decDigits u).head? = some b → b.toNat ≠ 48) := by
  induction u using Nat.strongRecOn with
  | ind u ih =>
    by_cases h : u < 10
    · rw [decDigits_small h]
      refine ⟨?_, fun b hb => ?_, by simp, fun h0 b hb => ?_⟩
      · show 0 * 10 + ((UInt8.ofNat (48 + u)).toNat - 48) = u
        rw [ofNat_toNat h]; omega
      · rw [List.mem_singleton] at hb; subst hb; rw [isD_iff, ofNat_toNat h]; omega
      · rw [List.head?_cons] at hb; cases hb; rw [ofNat_toNat h]; omega
    · obtain ⟨h1, h2, h3, h4⟩ := ih (u / 10) (by omega)
      rw [decDigits_big h]
      refine ⟨?_, fun b hb => ?_, by simp, fun _ b hb => ?_⟩
      · rw [dnum_snoc, h1, ofNat_toNat (by omega)]; omega
      · rcases List.mem_append.1 hb with hb | hb
        · exact h2 b hb
        · rw [List.mem_singleton] at hb; subst hb; rw [isD_iff, ofNat_toNat (by omega)]; omega
      · rw [head_append _ h3] at hb
        exact h4 (by omega) b hb

theorem head_pos {l : List UInt8} (h : ∀ b ∈ l, isD b = true) (h0 : l ≠ []) (hh : ∀ b, l.head? = some b → b.toNat ≠ 48) : 0 < dnum l := by
  cases l with
  | nil => exact absurd rfl h0
  | cons b l =>
    have h1 := isD_iff.1 (h b (by simp))
    have h2 := hh b rfl
    have e : dnum (b :: l) = dnF (0 * 10 + (b.toNat - 48)) l := rfl
    rw [e, dnF_eq]
    have : 0 < (0 * 10 + (b.toNat - 48)) * 10 ^ l.length := Nat.mul_pos (by omega) (Nat.pow_pos (by decide))
    omega

theorem list_snoc_ind {α : Type} {motive : List α → Prop} (l : List α) (nil : motive []) (snoc : ∀ pre x, motive pre → motive (pre ++ [x])) : motive l := by
  have : ∀ k : List α, motive k.reverse := by
    intro k
    induction k with
    | nil => exact nil
    | cons a k ih => rw [List.reverse_cons]; exact snoc _ _ ih
  have h := this l.reverse
  rwa [List.reverse_reverse] at h

/-- Digits without zeros in front are the digits of the number that they are. -/
theorem decDigits_dnum (l : List UInt8) : (∀ b ∈ l, isD b = true) → l ≠ [] → (∀ b, l.head? = some b → b.toNat ≠ 48) → Lib.decDigits (dnum l) = l := by
  induction l using list_snoc_ind with
  | nil => intro _ h; exact absurd rfl h
  | snoc l b ih =>
    intro h _ hh
    have hb := h b (by simp)
    have hb' := isD_iff.1 hb
    by_cases hl : l = []
    · subst hl
      have e : dnum ([] ++ [b]) = b.toNat - 48 := by rw [dnum_snoc]; simp [dnum, dnF]
      rw [e, decDigits_small (by omega), ofNat_eq hb]; rfl
    · have hl1 : ∀ c ∈ l, isD c = true := fun c hc => h c (by simp [hc])
      have hl2 : ∀ c, l.head? = some c → c.toNat ≠ 48 := fun c hc => hh c (by rw [head_append _ hl]; exact hc)
      have hp := head_pos hl1 hl hl2
      rw [dnum_snoc, decDigits_big (by omega), show (dnum l * 10 + (b.toNat - 48)) / 10 = dnum l by omega, show (dnum l * 10 + (b.toNat - 48)) % 10 = b.toNat - 48 by omega, ih hl1 hl hl2, ofNat_eq hb]

theorem decDigits_len {u k : Nat} (h : u < 10 ^ k) (hk : 1 ≤ k) : (Lib.decDigits u).length ≤ k := by
  rw [Lib.decDigits_length]
  by_cases e : Lib.nDigits u ≤ k
  · exact e
  · by_cases hu : u < 10
    · rw [Lib.nDigits_small hu] at e; omega
    · have hs := decDigits_spec u
      exfalso
      -- the first digit is not zero
      have hl : (Lib.decDigits u).length = Lib.nDigits u := Lib.decDigits_length u
      cases hd : Lib.decDigits u with
      | nil => exact hs.2.2.1 hd
      | cons b r =>
        have h1 := isD_iff.1 (hs.2.1 b (by rw [hd]; simp))
        have h2 := hs.2.2.2 (by omega) b (by rw [hd]; rfl)
        have e1 : dnum (b :: r) = dnF (0 * 10 + (b.toNat - 48)) r := rfl
        have h3 := hs.1
        rw [hd, e1, dnF_eq] at h3
        have hr : k ≤ r.length := by rw [hd] at hl; simp at hl; omega
        have h4 : 10 ^ k ≤ 10 ^ r.length := Nat.pow_le_pow_right (by decide) hr
        have h5 : 1 * 10 ^ r.length ≤ (0 * 10 + (b.toNat - 48)) * 10 ^ r.length := Nat.mul_le_mul_right _ (by omega)
        omega
theorem decDigits_len_ge {u k : Nat} (h : 10 ^ k ≤ u) : k < (Lib.decDigits u).length := by
  have hs := decDigits_spec u
  have := dnum_lt hs.2.1
  rw [hs.1] at this
  by_cases e : k < (Lib.decDigits u).length
  · exact e
  · have : 10 ^ (Lib.decDigits u).length ≤ 10 ^ k := Nat.pow_le_pow_right (by decide) (by omega)
    omega

/-! ### Valid integers -/
/-- The digits of a string, without its sign. -/
def body (l : List UInt8) : List UInt8 := Lib.trimPrefix l [45]
def validB (l : List UInt8) : Bool := !(body l).isEmpty && decide ((body l).length ≤ 200) && (body l).all isD && (decide (l = [48]) || decide ((body l).head? ≠ some 48))
/-- The number that a valid integer is. -/
def ival (l : List UInt8) : Int := if Lib.hasPrefix l [45] then -(dnum (body l) : Int) else dnum (body l)
def Big : Int := 10 ^ 200

theorem hasPrefix_cons (b : UInt8) (l : List UInt8) : Lib.hasPrefix (b :: l) [45] = (45 == b) := by simp [Lib.hasPrefix, List.isPrefixOf]
theorem body_minus (l : List UInt8) : body (45 :: l) = l := by unfold body Lib.trimPrefix; rw [hasPrefix_cons]; simp
theorem body_plain {b : UInt8} (l : List UInt8) (h : b ≠ 45) : body (b :: l) = b :: l := by
  unfold body Lib.trimPrefix; rw [hasPrefix_cons, if_neg (by simp; exact fun e => h e.symm)]
theorem body_nil : body [] = [] := rfl

theorem itoa_nonneg {n : Int} (h : 0 ≤ n) : Lib.itoa n = Lib.decDigits n.toNat := by unfold Lib.itoa; rw [if_neg (by omega)]
theorem itoa_neg {n : Int} (h : n < 0) : Lib.itoa n = 45 :: Lib.decDigits n.natAbs := by unfold Lib.itoa; rw [if_pos h]

theorem decDigits_not_minus (u : Nat) : ∃ b r, Lib.decDigits u = b :: r ∧ b ≠ 45 := by
  have hs := decDigits_spec u
  cases hd : Lib.decDigits u with
  | nil => exact absurd hd hs.2.2.1
  | cons b r =>
    refine ⟨b, r, rfl, fun e => ?_⟩
    have := isD_iff.1 (hs.2.1 b (by rw [hd]; simp))
    subst e
    exact absurd this.1 (by decide)

theorem ival_itoa (n : Int) : ival (Lib.itoa n) = n ∧ body (Lib.itoa n) = Lib.decDigits n.natAbs := by
  by_cases h : n < 0
  · rw [itoa_neg h]
    refine ⟨?_, body_minus _⟩
    unfold ival
    rw [hasPrefix_cons, if_pos (by decide), body_minus, (decDigits_spec _).1]; omega
  · rw [itoa_nonneg (by omega), show n.natAbs = n.toNat by omega]
    obtain ⟨b, r, hd, hb⟩ := decDigits_not_minus n.toNat
    have hbd : body (Lib.decDigits n.toNat) = Lib.decDigits n.toNat := by rw [hd]; exact body_plain r hb
    refine ⟨?_, hbd⟩
    unfold ival
    rw [hbd, (decDigits_spec _).1, hd, hasPrefix_cons, if_neg (by simp; exact fun e => hb e.symm)]; omega

theorem valid_itoa {n : Int} (h0 : -Big < n) (h1 : n < Big) : validB (Lib.itoa n) = true := by
  have hb := (ival_itoa n).2
  have hs := decDigits_spec n.natAbs
  have hl : (Lib.decDigits n.natAbs).length ≤ 200 := decDigits_len (by
    have e : Big = ((10 ^ 200 : Nat) : Int) := by unfold Big; decide +kernel
    rw [e] at h0 h1
    generalize 10 ^ 200 = K at *
    omega) (by decide)
  unfold validB
  rw [hb]
  simp only [Bool.and_eq_true, Bool.or_eq_true, decide_eq_true_iff, Bool.not_eq_true', List.isEmpty_eq_false_iff, List.all_eq_true]
  refine ⟨⟨⟨hs.2.2.1, hl⟩, hs.2.1⟩, ?_⟩
  by_cases hn : n = 0
  · left; subst hn; rw [itoa_nonneg (by omega)]; exact decDigits_small (by decide)
  · right
    intro hh
    exact hs.2.2.2 (by omega) 48 hh (by decide)

theorem itoa_of_valid {l : List UInt8} (h : validB l = true) : l = Lib.itoa (ival l) ∧ -Big < ival l ∧ ival l < Big := by
  unfold validB at h
  simp only [Bool.and_eq_true, Bool.or_eq_true, decide_eq_true_iff, Bool.not_eq_true', List.isEmpty_eq_false_iff, List.all_eq_true] at h
  obtain ⟨⟨⟨h1, h2⟩, h3⟩, h4⟩ := h
  have hB : ((dnum (body l) : Nat) : Int) < Big := by
    have a := dnum_lt h3
    have c : 10 ^ (body l).length ≤ 10 ^ 200 := Nat.pow_le_pow_right (by decide) h2
    have e : Big = ((10 ^ 200 : Nat) : Int) := by unfold Big; decide +kernel
    rw [e]
    generalize 10 ^ 200 = K at *
    omega
  cases l with
  | nil => exact absurd body_nil h1
  | cons b l =>
    by_cases hb : b = 45
    · subst hb
      rw [body_minus] at *
      have hh : ∀ c, l.head? = some c → c.toNat ≠ 48 := fun c hc e => by
        rcases h4 with h4 | h4
        · simp at h4
        · exact h4 (by rw [hc]; congr 1; exact UInt8.toNat.inj e)
      have hp := head_pos h3 h1 hh
      have hi : ival (45 :: l) = -(dnum l : Int) := by unfold ival; rw [hasPrefix_cons, if_pos (by decide), body_minus]
      rw [hi]
      refine ⟨?_, by omega, by omega⟩
      rw [itoa_neg (by omega), show (-(dnum l : Int)).natAbs = dnum l by omega, decDigits_dnum l h3 h1 hh]
    · rw [body_plain l hb] at *
      have hi : ival (b :: l) = dnum (b :: l) := by unfold ival; rw [hasPrefix_cons, if_neg (by simp; exact fun e => hb e.symm), body_plain l hb]
      rw [hi]
      refine ⟨?_, by omega, by omega⟩
      rw [itoa_nonneg (by omega), Int.toNat_natCast]
      rcases h4 with h4 | h4
      · rw [h4]; exact (decDigits_small (u := 0) (by decide)).symm
      · exact (decDigits_dnum _ h3 h1 (fun c hc e => h4 (by rw [hc]; congr 1; exact UInt8.toNat.inj e))).symm

/-- strings.Trim of digits leaves nothing just where there are digits alone. -/
theorem trimS_nil (l cs : List UInt8) : Lib.trimS l cs = [] ↔ ∀ b ∈ l, cs.contains b = true := by
  unfold Lib.trimS Lib.trimLeftS Lib.trimRightS
  constructor
  · intro h b hb
    have h1 : ∀ c ∈ (l.reverse.dropWhile (cs.contains ·)).reverse, cs.contains c = true := dropWhile_nil.1 h
    have h2 : l.reverse.dropWhile (cs.contains ·) = [] := by
      cases hd : l.reverse.dropWhile (cs.contains ·) with
      | nil => rfl
      | cons c r =>
        have h3 := List.head_dropWhile_not (cs.contains ·) (l := l.reverse) (by rw [hd]; simp)
        have h4 := h1 c (by rw [hd]; simp)
        simp only [hd, List.head_cons] at h3
        rw [h4] at h3; cases h3
    exact dropWhile_nil.1 h2 b (by simpa using hb)
  · intro h
    have h2 : l.reverse.dropWhile (cs.contains ·) = [] := dropWhile_nil.2 (fun b hb => h b (by simpa using hb))
    rw [h2]; rfl
theorem tens_isD (b : UInt8) : ([48, 49, 50, 51, 52, 53, 54, 55, 56, 57] : List UInt8).contains b = isD b := by
  have : ∀ k : Fin 256, ([48, 49, 50, 51, 52, 53, 54, 55, 56, 57] : List UInt8).contains (UInt8.ofNat k.val) = isD (UInt8.ofNat k.val) := by decide +kernel
  have h := this ⟨b.toNat, b.toNat_lt⟩
  simpa using h
end Go.Proofs.YtbnilfjhalildaaGreatDoor
