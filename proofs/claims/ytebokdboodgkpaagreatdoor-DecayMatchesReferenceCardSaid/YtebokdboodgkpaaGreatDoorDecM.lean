/- Straight lines between bounds: which values and slopes the models have that fit data (no program). -/
namespace Go.Proofs.YtebokdboodgkpaaGreatDoor
namespace DecM
/-- A datum: a day, and the bounds of the value. -/
structure Dt where
  t : Int
  lo : Int
  hi : Int

/-- The line with value v on day t and slope b lies within the bounds of p. -/
def Fit (t : Int) (v b : Rat) (p : Dt) : Prop := (p.lo : Rat) ≤ v + b * ((p.t : Rat) - t) ∧ v + b * ((p.t : Rat) - t) ≤ p.hi
def FitAll (t : Int) (v b : Rat) (l : List Dt) : Prop := ∀ p ∈ l, Fit t v b p
def mx (n lo hi : Int) : Int := if n < 0 then n * lo else n * hi
def mn (n lo hi : Int) : Int := if n < 0 then n * hi else n * lo
/-- The greatest and the least value on day t that two data allow, times the days between them. -/
def mostN (p q : Dt) (t : Int) : Int := mx (q.t - t) p.lo p.hi + mx (t - p.t) q.lo q.hi
def leastN (p q : Dt) (t : Int) : Int := mn (q.t - t) p.lo p.hi + mn (t - p.t) q.lo q.hi
def Pairs (l : List Dt) (t : Int) (v : Rat) : Prop := ∀ p ∈ l, ∀ q ∈ l, p.t < q.t → v * ((q.t : Rat) - p.t) ≤ mostN p q t ∧ (leastN p q t : Rat) ≤ v * ((q.t : Rat) - p.t)
def Ones (l : List Dt) (t : Int) (v : Rat) : Prop := ∀ p ∈ l, p.t = t → (p.lo : Rat) ≤ v ∧ v ≤ p.hi

theorem ratmul {a b : Rat} (ha : 0 ≤ a) (hb : 0 ≤ b) : 0 ≤ a * b := Rat.mul_nonneg ha hb
theorem rsub {a b : Rat} (h : a ≤ b) : 0 ≤ b - a := by grind
theorem cast_lt {a b : Int} (h : a < b) : (a : Rat) < b := by exact_mod_cast h
theorem cast_le {a b : Int} (h : a ≤ b) : (a : Rat) ≤ b := by exact_mod_cast h
theorem div_le {a b c : Rat} (hc : 0 < c) : a / c ≤ b ↔ a ≤ b * c := by
  constructor
  · intro h
    have := ratmul (rsub h) (Rat.le_of_lt hc)
    have e : a / c * c = a := by rw [Rat.div_def, Rat.mul_assoc, Rat.inv_mul_cancel _ (by grind), Rat.mul_one]
    grind
  · intro h
    have := ratmul (rsub h) (Rat.le_of_lt (Rat.inv_pos.2 hc))
    have e : b * c * c⁻¹ = b := by rw [Rat.mul_assoc, Rat.mul_inv_cancel _ (by grind), Rat.mul_one]
    rw [Rat.div_def]; grind
theorem le_div {a b c : Rat} (hc : 0 < c) : b ≤ a / c ↔ b * c ≤ a := by
  constructor
  · intro h
    have := ratmul (rsub h) (Rat.le_of_lt hc)
    have e : a / c * c = a := by rw [Rat.div_def, Rat.mul_assoc, Rat.inv_mul_cancel _ (by grind), Rat.mul_one]
    grind
  · intro h
    have := ratmul (rsub h) (Rat.le_of_lt (Rat.inv_pos.2 hc))
    have e : b * c * c⁻¹ = b := by rw [Rat.mul_assoc, Rat.mul_inv_cancel _ (by grind), Rat.mul_one]
    rw [Rat.div_def]; grind
theorem div_cancel {a c : Rat} (hc : c ≠ 0) : a / c * c = a := by rw [Rat.div_def, Rat.mul_assoc, Rat.inv_mul_cancel _ hc, Rat.mul_one]

theorem mx_ge (n lo hi : Int) (y : Rat) (h : (lo : Rat) ≤ y ∧ y ≤ hi) : (n : Rat) * y ≤ mx n lo hi := by
  unfold mx
  split
  · have h1 := ratmul (rsub h.1) (rsub (cast_le (show n ≤ 0 by omega)))
    rw [Rat.intCast_mul]; grind
  · have h1 := ratmul (rsub h.2) (rsub (cast_le (show 0 ≤ n by omega)))
    rw [Rat.intCast_mul]; grind
theorem mn_le (n lo hi : Int) (y : Rat) (h : (lo : Rat) ≤ y ∧ y ≤ hi) : (mn n lo hi : Rat) ≤ n * y := by
  unfold mn
  split
  · have h1 := ratmul (rsub h.2) (rsub (cast_le (show n ≤ 0 by omega)))
    rw [Rat.intCast_mul]; grind
  · have h1 := ratmul (rsub h.1) (rsub (cast_le (show 0 ≤ n by omega)))
    rw [Rat.intCast_mul]; grind
/-- A line that fits is within what each pair allows. -/
theorem FitAll.pairs {l : List Dt} {t : Int} {v b : Rat} (h : FitAll t v b l) : Pairs l t v := by
  intro p hp q hq hlt
  have h1 := mx_ge (q.t - t) p.lo p.hi _ (h p hp)
  have h2 := mx_ge (t - p.t) q.lo q.hi _ (h q hq)
  have h3 := mn_le (q.t - t) p.lo p.hi _ (h p hp)
  have h4 := mn_le (t - p.t) q.lo q.hi _ (h q hq)
  unfold mostN leastN
  rw [Rat.intCast_add, Rat.intCast_add]
  rw [Rat.intCast_sub] at h1 h2 h3 h4
  constructor <;> grind

/-- The bounds of the slope that a datum gives to the lines through (t, v). -/
def up (t : Int) (v : Rat) (p : Dt) : Rat := if t < p.t then ((p.hi : Rat) - v) / ((p.t : Rat) - t) else (v - (p.lo : Rat)) / ((t : Rat) - p.t)
def lw (t : Int) (v : Rat) (p : Dt) : Rat := if t < p.t then ((p.lo : Rat) - v) / ((p.t : Rat) - t) else (v - (p.hi : Rat)) / ((t : Rat) - p.t)
theorem fit_iff {t : Int} {v b : Rat} {p : Dt} (h : p.t ≠ t) : Fit t v b p ↔ lw t v p ≤ b ∧ b ≤ up t v p := by
  unfold Fit up lw
  by_cases h0 : t < p.t
  · have hp : (0 : Rat) < (p.t : Rat) - t := by have := cast_lt h0; grind
    rw [if_pos h0, if_pos h0, div_le hp, le_div hp]
    constructor <;> intro ⟨a, c⟩ <;> constructor <;> grind
  · have hp : (0 : Rat) < (t : Rat) - p.t := by have := cast_lt (show p.t < t by omega); grind
    rw [if_neg h0, if_neg h0, div_le hp, le_div hp]
    constructor <;> intro ⟨a, c⟩ <;> constructor <;> grind
theorem div_le_div {a b c d : Rat} (hc : 0 < c) (hd : 0 < d) (h : a * d ≤ b * c) : a / c ≤ b / d := by
  rw [div_le hc, Rat.div_def]
  have e : a * d * d⁻¹ = a := by rw [Rat.mul_assoc, Rat.mul_inv_cancel _ (by grind), Rat.mul_one]
  have := ratmul (rsub h) (Rat.le_of_lt (Rat.inv_pos.2 hd))
  grind
/-- The bounds of the slope by two data contradict each other only if the value is not within what they allow. -/
theorem lw_le_up {l : List Dt} {t : Int} {v : Rat} (hv : ∀ p ∈ l, p.lo ≤ p.hi) (hinj : ∀ p ∈ l, ∀ q ∈ l, p.t = q.t → p = q) (h : Pairs l t v) {p q : Dt} (hp : p ∈ l) (hq : q ∈ l) (hpt : p.t ≠ t) (hqt : q.t ≠ t) : lw t v p ≤ up t v q := by
  by_cases e : p.t = q.t
  · have := hinj p hp q hq e
    subst this
    have h1 := cast_le (hv p hp)
    unfold lw up
    by_cases h0 : t < p.t
    · have hp : (0 : Rat) < (p.t : Rat) - t := by have := cast_lt h0; grind
      rw [if_pos h0, if_pos h0]
      refine div_le_div hp hp ?_
      have := ratmul (rsub h1) (Rat.le_of_lt hp); grind
    · have hp : (0 : Rat) < (t : Rat) - p.t := by have := cast_lt (show p.t < t by omega); grind
      rw [if_neg h0, if_neg h0]
      refine div_le_div hp hp ?_
      have := ratmul (rsub h1) (Rat.le_of_lt hp); grind
  · have key : (p.t < q.t ∧ v * ((q.t : Rat) - p.t) ≤ mostN p q t ∧ (leastN p q t : Rat) ≤ v * ((q.t : Rat) - p.t)) ∨ (q.t < p.t ∧ v * ((p.t : Rat) - q.t) ≤ mostN q p t ∧ (leastN q p t : Rat) ≤ v * ((p.t : Rat) - q.t)) := by
      rcases Int.lt_or_gt_of_ne e with h0 | h0
      · exact .inl ⟨h0, h p hp q hq h0⟩
      · exact .inr ⟨h0, h q hq p hp h0⟩
    unfold mostN leastN mx mn at key
    unfold lw up
    by_cases h1 : t < p.t
    · have hp1 : (0 : Rat) < (p.t : Rat) - t := by have := cast_lt h1; grind
      by_cases h2 : t < q.t
      · have hq1 : (0 : Rat) < (q.t : Rat) - t := by have := cast_lt h2; grind
        rw [if_pos h1, if_pos h2]
        refine div_le_div hp1 hq1 ?_
        rw [if_neg (show ¬ q.t - t < 0 by omega), if_pos (show t - p.t < 0 by omega), if_neg (show ¬ q.t - t < 0 by omega), if_pos (show t - p.t < 0 by omega), if_neg (show ¬ p.t - t < 0 by omega), if_pos (show t - q.t < 0 by omega), if_neg (show ¬ p.t - t < 0 by omega), if_pos (show t - q.t < 0 by omega)] at key
        simp only [Rat.intCast_mul, Rat.intCast_sub, Rat.intCast_add] at key
        grind
      · have hq1 : (0 : Rat) < (t : Rat) - q.t := by have := cast_lt (show q.t < t by omega); grind
        rw [if_pos h1, if_neg h2]
        refine div_le_div hp1 hq1 ?_
        rcases key with ⟨k0, _⟩ | ⟨k0, k1, k2⟩
        · omega
        · rw [if_neg (show ¬ p.t - t < 0 by omega), if_neg (show ¬ t - q.t < 0 by omega)] at k1 k2
          simp only [Rat.intCast_mul, Rat.intCast_sub, Rat.intCast_add] at k1 k2
          grind
    · have hp1 : (0 : Rat) < (t : Rat) - p.t := by have := cast_lt (show p.t < t by omega); grind
      by_cases h2 : t < q.t
      · have hq1 : (0 : Rat) < (q.t : Rat) - t := by have := cast_lt h2; grind
        rw [if_neg h1, if_pos h2]
        refine div_le_div hp1 hq1 ?_
        rcases key with ⟨k0, k1, k2⟩ | ⟨k0, _⟩
        · rw [if_neg (show ¬ q.t - t < 0 by omega), if_neg (show ¬ t - p.t < 0 by omega)] at k1 k2
          simp only [Rat.intCast_mul, Rat.intCast_sub, Rat.intCast_add] at k1 k2
          grind
        · omega
      · have hq1 : (0 : Rat) < (t : Rat) - q.t := by have := cast_lt (show q.t < t by omega); grind
        rw [if_neg h1, if_neg h2]
        refine div_le_div hp1 hq1 ?_
        rw [if_pos (show q.t - t < 0 by omega), if_neg (show ¬ t - p.t < 0 by omega), if_pos (show q.t - t < 0 by omega), if_neg (show ¬ t - p.t < 0 by omega), if_pos (show p.t - t < 0 by omega), if_neg (show ¬ t - q.t < 0 by omega), if_pos (show p.t - t < 0 by omega), if_neg (show ¬ t - q.t < 0 by omega)] at key
        simp only [Rat.intCast_mul, Rat.intCast_sub, Rat.intCast_add] at key
        grind
theorem exists_min {α : Type} (f : α → Rat) (P : α → Prop) [DecidablePred P] : ∀ l : List α, (∃ x ∈ l, P x) → ∃ x ∈ l, P x ∧ ∀ y ∈ l, P y → f x ≤ f y
  | [], h => by obtain ⟨x, hx, _⟩ := h; cases hx
  | a :: l, h => by
    by_cases hl : ∃ x ∈ l, P x
    · obtain ⟨x, hx, hP, hm⟩ := exists_min f P l hl
      by_cases ha : P a ∧ f a ≤ f x
      · refine ⟨a, List.mem_cons_self, ha.1, fun y hy hPy => ?_⟩
        rcases List.mem_cons.1 hy with rfl | hy
        · exact Rat.le_refl
        · exact Rat.le_trans ha.2 (hm y hy hPy)
      · refine ⟨x, List.mem_cons_of_mem _ hx, hP, fun y hy hPy => ?_⟩
        rcases List.mem_cons.1 hy with rfl | hy
        · rcases (Rat.le_total : f x ≤ f y ∨ f y ≤ f x) with h | h
          · exact h
          · exact absurd ⟨hPy, h⟩ ha
        · exact hm y hy hPy
    · obtain ⟨x, hx, hP⟩ := h
      rcases List.mem_cons.1 hx with rfl | hx
      · exact ⟨x, List.mem_cons_self, hP, fun y hy hPy => by
          rcases List.mem_cons.1 hy with rfl | hy
          · exact Rat.le_refl
          · exact absurd ⟨y, hy, hPy⟩ hl⟩
      · exact absurd ⟨x, hx, hP⟩ hl
/-- Data with ascending days and bounds in order. -/
structure Good (l : List Dt) : Prop where
  asc : l.Pairwise (fun p q => p.t < q.t)
  ord : ∀ p ∈ l, p.lo ≤ p.hi
theorem Good.inj {l : List Dt} (h : Good l) : ∀ p ∈ l, ∀ q ∈ l, p.t = q.t → p = q := by
  have ha := h.asc
  clear h
  induction l with
  | nil => intro p hp; cases hp
  | cons a l ih =>
    rw [List.pairwise_cons] at ha
    intro p hp q hq e
    rcases List.mem_cons.1 hp with h1 | h1 <;> rcases List.mem_cons.1 hq with h2 | h2
    · rw [h1, h2]
    · have := ha.1 q h2; rw [← h1] at this; omega
    · have := ha.1 p h1; rw [← h2] at this; omega
    · exact ih ha.2 p h1 q h2 e
theorem Good.tail {a : Dt} {l : List Dt} (h : Good (a :: l)) : Good l := ⟨(List.pairwise_cons.1 h.asc).2, fun p hp => h.ord p (List.mem_cons_of_mem _ hp)⟩
/-- A value on a day is that of a line that fits, exactly if each pair (and a datum of that day) allows it. The line may be taken with the greatest slope: it meets a corner of a datum on another day. -/
theorem line_of_pairs {l : List Dt} (hg : Good l) {t : Int} {v : Rat} (h : Pairs l t v) (h1 : Ones l t v) (hne : ∃ p ∈ l, p.t ≠ t) :
    ∃ b, FitAll t v b l ∧ ∃ q ∈ l, q.t ≠ t ∧ b = up t v q := by
  obtain ⟨q, hq, hqt, hm⟩ := exists_min (up t v) (fun p => p.t ≠ t) l hne
  refine ⟨up t v q, fun p hp => ?_, q, hq, hqt, rfl⟩
  by_cases e : p.t = t
  · obtain ⟨a, b⟩ := h1 p hp e
    unfold Fit; rw [e]
    constructor <;> grind
  · exact (fit_iff e).2 ⟨lw_le_up hg.ord hg.inj h hp hq e hqt, hm p hp e⟩
theorem line_any {l : List Dt} (hg : Good l) {t : Int} {v : Rat} (h : Pairs l t v) (h1 : Ones l t v) : ∃ b, FitAll t v b l := by
  by_cases hne : ∃ p ∈ l, p.t ≠ t
  · obtain ⟨b, hb, _⟩ := line_of_pairs hg h h1 hne
    exact ⟨b, hb⟩
  · refine ⟨0, fun p hp => ?_⟩
    have e : p.t = t := Classical.byContradiction fun e => hne ⟨p, hp, e⟩
    obtain ⟨a, b⟩ := h1 p hp e
    unfold Fit
    constructor <;> grind

/-- Some model fits. -/
def Feas (l : List Dt) : Prop := ∃ a b : Rat, FitAll 0 a b l
theorem fit_move (t s : Int) (v b : Rat) (p : Dt) : Fit t v b p ↔ Fit s (v + b * ((s : Rat) - t)) b p := by
  unfold Fit
  have e : v + b * ((s : Rat) - t) + b * ((p.t : Rat) - s) = v + b * ((p.t : Rat) - t) := by grind
  rw [e]
theorem FitAll.move {t : Int} {v b : Rat} {l : List Dt} (h : FitAll t v b l) (s : Int) : FitAll s (v + b * ((s : Rat) - t)) b l := fun p hp => (fit_move t s v b p).1 (h p hp)
theorem FitAll.feas {t : Int} {v b : Rat} {l : List Dt} (h : FitAll t v b l) : Feas l := ⟨_, _, h.move 0⟩

/-- No model fits three data, by ascending days. -/
def Apart (p q r : Dt) : Prop := q.hi * (r.t - p.t) < p.lo * (r.t - q.t) + r.lo * (q.t - p.t) ∨ q.lo * (r.t - p.t) > p.hi * (r.t - q.t) + r.hi * (q.t - p.t)
def NoApart (l : List Dt) : Prop := ∀ p ∈ l, ∀ q ∈ l, ∀ r ∈ l, p.t < q.t → q.t < r.t → ¬ Apart p q r
theorem Feas.noApart {l : List Dt} (h : Feas l) : NoApart l := by
  obtain ⟨a, b, h⟩ := h
  intro p hp q hq r hr h1 h2 ha
  have fp := h p hp
  have fq := h q hq
  have fr := h r hr
  unfold Fit at fp fq fr
  have c1 := cast_lt h1
  have c2 := cast_lt h2
  have m1 := ratmul (rsub fp.1) (Rat.le_of_lt (show 0 < (r.t : Rat) - q.t by grind))
  have m2 := ratmul (rsub fp.2) (Rat.le_of_lt (show 0 < (r.t : Rat) - q.t by grind))
  have m3 := ratmul (rsub fr.1) (Rat.le_of_lt (show 0 < (q.t : Rat) - p.t by grind))
  have m4 := ratmul (rsub fr.2) (Rat.le_of_lt (show 0 < (q.t : Rat) - p.t by grind))
  have m5 := ratmul (rsub fq.1) (Rat.le_of_lt (show 0 < (r.t : Rat) - p.t by grind))
  have m6 := ratmul (rsub fq.2) (Rat.le_of_lt (show 0 < (r.t : Rat) - p.t by grind))
  rcases ha with ha | ha
  · have ha := cast_lt ha
    simp only [Rat.intCast_mul, Rat.intCast_sub, Rat.intCast_add] at ha
    grind
  · have ha := cast_lt ha
    simp only [Rat.intCast_mul, Rat.intCast_sub, Rat.intCast_add] at ha
    grind
/-- Helly: if no three data are apart, some model fits. -/
theorem feas_of_noApart : ∀ {l : List Dt}, Good l → NoApart l → Feas l
  | [], _, _ => ⟨0, 0, fun p hp => by cases hp⟩
  | d :: l, hg, hn => by
    obtain ⟨a, b, hf⟩ := feas_of_noApart hg.tail (fun p hp q hq r hr => hn p (List.mem_cons_of_mem _ hp) q (List.mem_cons_of_mem _ hq) r (List.mem_cons_of_mem _ hr))
    have hP := (hf.move d.t).pairs
    generalize a + b * ((d.t : Rat) - 0) = v0 at hP
    have hlt := (List.pairwise_cons.1 hg.asc).1
    have hd := hg.ord d List.mem_cons_self
    have key : ∀ p ∈ l, ∀ q ∈ l, p.t < q.t → (d.lo : Rat) * ((q.t : Rat) - p.t) ≤ mostN p q d.t ∧ (leastN p q d.t : Rat) ≤ (d.hi : Rat) * ((q.t : Rat) - p.t) := by
      intro p hp q hq hpq
      have h1 := hlt p hp
      have ha := hn d List.mem_cons_self p (List.mem_cons_of_mem _ hp) q (List.mem_cons_of_mem _ hq) h1 hpq
      unfold Apart at ha
      unfold mostN leastN mx mn
      rw [if_neg (show ¬ q.t - d.t < 0 by omega), if_pos (show d.t - p.t < 0 by omega), if_neg (show ¬ q.t - d.t < 0 by omega), if_pos (show d.t - p.t < 0 by omega)]
      have a1 := cast_le (Int.not_lt.1 (fun h => ha (.inl h)))
      have a2 := cast_le (Int.not_lt.1 (fun h => ha (.inr h)))
      simp only [Rat.intCast_mul, Rat.intCast_sub, Rat.intCast_add] at a1 a2 ⊢
      constructor <;> grind
    have hdc := cast_le hd
    obtain ⟨v, hv1, hv2, hPv⟩ : ∃ v : Rat, (d.lo : Rat) ≤ v ∧ v ≤ d.hi ∧ Pairs l d.t v := by
      by_cases c1 : v0 < d.lo
      · refine ⟨d.lo, by grind, hdc, fun p hp q hq hpq => ⟨(key p hp q hq hpq).1, ?_⟩⟩
        have h1 := (hP p hp q hq hpq).2
        have h2 := cast_lt hpq
        have := ratmul (rsub (Rat.le_of_lt c1)) (Rat.le_of_lt (show 0 < (q.t : Rat) - p.t by grind))
        grind
      · by_cases c2 : (d.hi : Rat) < v0
        · refine ⟨d.hi, hdc, by grind, fun p hp q hq hpq => ⟨?_, (key p hp q hq hpq).2⟩⟩
          have h1 := (hP p hp q hq hpq).1
          have h2 := cast_lt hpq
          have := ratmul (rsub (Rat.le_of_lt c2)) (Rat.le_of_lt (show 0 < (q.t : Rat) - p.t by grind))
          grind
        · exact ⟨v0, by grind, by grind, hP⟩
    obtain ⟨s, hs⟩ := line_any hg.tail hPv (fun p hp e => by have := hlt p hp; omega)
    refine FitAll.feas (t := d.t) (v := v) (b := s) (fun p hp => ?_)
    rcases List.mem_cons.1 hp with rfl | hp
    · unfold Fit; constructor <;> grind
    · exact hs p hp
theorem feas_iff {l : List Dt} (hg : Good l) : Feas l ↔ NoApart l := ⟨Feas.noApart, feas_of_noApart hg⟩

/-- A pair of data with ascending days. -/
def prs (l : List Dt) : List (Dt × Dt) := match l with
  | [] => []
  | p :: l => l.map (fun q => (p, q)) ++ prs l
theorem mem_prs {l : List Dt} (h : Good l) {p q : Dt} : (p, q) ∈ prs l ↔ p ∈ l ∧ q ∈ l ∧ p.t < q.t := by
  induction l with
  | nil => simp [prs]
  | cons a l ih =>
    have ha := List.pairwise_cons.1 h.asc
    rw [prs, List.mem_append, List.mem_map, ih h.tail]
    constructor
    · rintro (⟨x, hx, e⟩ | ⟨h1, h2, h3⟩)
      · cases e; exact ⟨List.mem_cons_self, List.mem_cons_of_mem _ hx, ha.1 q hx⟩
      · exact ⟨List.mem_cons_of_mem _ h1, List.mem_cons_of_mem _ h2, h3⟩
    · rintro ⟨h1, h2, h3⟩
      rcases List.mem_cons.1 h1 with e1 | h1 <;> rcases List.mem_cons.1 h2 with e2 | h2
      · rw [e1, e2] at h3; omega
      · exact .inl ⟨q, h2, by rw [e1]⟩
      · have := ha.1 p h1; rw [← e2] at this; omega
      · exact .inr ⟨h1, h2, h3⟩
def ratio (n d : Int) : Rat := (n : Rat) / (d : Rat)
/-- The greatest value on day t of the models that fit. -/
structure IsMost (l : List Dt) (t : Int) (v : Rat) : Prop where
  le : ∀ u b, FitAll t u b l → u ≤ v
  at_ : ∃ b, FitAll t v b l
structure IsLeast (l : List Dt) (t : Int) (v : Rat) : Prop where
  le : ∀ u b, FitAll t u b l → v ≤ u
  at_ : ∃ b, FitAll t v b l
/-- A corner of a datum. -/
def Corner (t : Int) (v b : Rat) (p : Dt) : Prop := v + b * ((p.t : Rat) - t) = p.lo ∨ v + b * ((p.t : Rat) - t) = p.hi
theorem up_corner {t : Int} {v : Rat} {q : Dt} (h : q.t ≠ t) : Corner t v (up t v q) q := by
  unfold Corner up
  by_cases h0 : t < q.t
  · rw [if_pos h0, div_cancel (by have := cast_lt h0; grind)]; right; grind
  · rw [if_neg h0]; left
    have := div_cancel (a := v - (q.lo : Rat)) (c := (t : Rat) - q.t) (by have := cast_lt (show q.t < t by omega); grind)
    grind
theorem pair_cast {p q : Dt} (h : p.t < q.t) : (0 : Rat) < (q.t : Rat) - p.t := by have := cast_lt h; grind
theorem ratio_mul {n : Int} {p q : Dt} (h : p.t < q.t) : ratio n (q.t - p.t) * ((q.t : Rat) - p.t) = n := by
  unfold ratio; rw [Rat.intCast_sub]; exact div_cancel (by have := pair_cast h; grind)
theorem le_ratio {n : Int} {v : Rat} {p q : Dt} (h : p.t < q.t) : v ≤ ratio n (q.t - p.t) ↔ v * ((q.t : Rat) - p.t) ≤ n := by
  unfold ratio; rw [Rat.intCast_sub]; exact le_div (pair_cast h)
theorem ones_of_pairs {l : List Dt} {t : Int} {v : Rat} (h : Pairs l t v) {p q : Dt} (hp : p ∈ l) (hq : q ∈ l) (hne : p.t ≠ q.t) : Ones l t v := by
  intro r hr e
  obtain ⟨s, hs, hst⟩ : ∃ s ∈ l, s.t ≠ t := by
    by_cases e1 : p.t = t
    · exact ⟨q, hq, fun e2 => hne (e1.trans e2.symm)⟩
    · exact ⟨p, hp, e1⟩
  rcases Int.lt_or_gt_of_ne (show r.t ≠ s.t by rw [e]; exact fun h => hst h.symm) with h0 | h0
  · have := h r hr s hs h0
    have c := pair_cast h0
    unfold mostN leastN mx mn at this
    rw [e] at this h0 c
    rw [if_neg (show ¬ s.t - t < 0 by omega), if_neg (show ¬ t - t < 0 by omega), if_neg (show ¬ s.t - t < 0 by omega), if_neg (show ¬ t - t < 0 by omega)] at this
    simp only [Rat.intCast_mul, Rat.intCast_sub, Rat.intCast_add] at this
    constructor
    · refine Rat.le_of_mul_le_mul_right ?_ c; grind
    · refine Rat.le_of_mul_le_mul_right ?_ c; grind
  · have := h s hs r hr h0
    have c := pair_cast h0
    unfold mostN leastN mx mn at this
    rw [e] at this h0 c
    rw [if_neg (show ¬ t - t < 0 by omega), if_neg (show ¬ t - s.t < 0 by omega), if_neg (show ¬ t - t < 0 by omega), if_neg (show ¬ t - s.t < 0 by omega)] at this
    simp only [Rat.intCast_mul, Rat.intCast_sub, Rat.intCast_add] at this
    constructor
    · refine Rat.le_of_mul_le_mul_right ?_ c; grind
    · refine Rat.le_of_mul_le_mul_right ?_ c; grind
/-- Of at least two data that some model fits: the least of what pairs allow at the most is the greatest value of a model; and a model that has it meets corners of two data. -/
theorem most_of_pairs {l : List Dt} (hg : Good l) (hf : Feas l) {t : Int} {p q : Dt} (hp : p ∈ l) (hq : q ∈ l) (hpq : p.t < q.t)
    (hmin : ∀ p' ∈ l, ∀ q' ∈ l, p'.t < q'.t → ratio (mostN p q t) (q.t - p.t) ≤ ratio (mostN p' q' t) (q'.t - p'.t)) :
    ∃ b, FitAll t (ratio (mostN p q t) (q.t - p.t)) b l ∧ ∃ p' ∈ l, ∃ q' ∈ l, p'.t < q'.t ∧ Corner t (ratio (mostN p q t) (q.t - p.t)) b p' ∧ Corner t (ratio (mostN p q t) (q.t - p.t)) b q' := by
  obtain ⟨a0, b0, h0⟩ := hf
  have hP0 := (h0.move t).pairs
  generalize a0 + b0 * ((t : Rat) - 0) = v0 at hP0
  generalize hv : ratio (mostN p q t) (q.t - p.t) = v at *
  have hle : v0 ≤ v := by rw [← hv, le_ratio hpq]; exact (hP0 p hp q hq hpq).1
  have hP : Pairs l t v := by
    intro p' hp' q' hq' hlt
    refine ⟨(le_ratio hlt).1 (hmin p' hp' q' hq' hlt), ?_⟩
    have h1 := (hP0 p' hp' q' hq' hlt).2
    have := ratmul (rsub hle) (Rat.le_of_lt (pair_cast hlt))
    grind
  have hO := ones_of_pairs hP hp hq (by omega)
  have hne : ∃ r ∈ l, r.t ≠ t := by
    by_cases e1 : p.t = t
    · exact ⟨q, hq, by omega⟩
    · exact ⟨p, hp, e1⟩
  obtain ⟨b, hb, r, hr, hrt, hbr⟩ := line_of_pairs hg hP hO hne
  refine ⟨b, hb, ?_⟩
  have cr : Corner t v b r := by rw [hbr]; exact up_corner hrt
  have e : v * ((q.t : Rat) - p.t) = mostN p q t := by rw [← hv]; exact ratio_mul hpq
  have fp := hb p hp
  have fq := hb q hq
  have mp := mx_ge (q.t - t) p.lo p.hi _ fp
  have mq := mx_ge (t - p.t) q.lo q.hi _ fq
  unfold mostN at e
  rw [Rat.intCast_add] at e
  rw [Rat.intCast_sub] at mp mq
  have ep : ((q.t : Rat) - t) * (v + b * ((p.t : Rat) - t)) = mx (q.t - t) p.lo p.hi := by grind
  have eq : ((t : Rat) - p.t) * (v + b * ((q.t : Rat) - t)) = mx (t - p.t) q.lo q.hi := by grind
  have cp : q.t ≠ t → Corner t v b p := by
    intro hne
    unfold mx at ep
    unfold Corner
    have hq0 : (q.t : Rat) - t ≠ 0 := by
      rcases Int.lt_or_gt_of_ne hne with h | h <;> (have := cast_lt h; grind)
    split at ep
    · left; rw [Rat.intCast_mul, Rat.intCast_sub] at ep; grind
    · right; rw [Rat.intCast_mul, Rat.intCast_sub] at ep; grind
  have cq : p.t ≠ t → Corner t v b q := by
    intro hne
    unfold mx at eq
    unfold Corner
    have hq0 : (t : Rat) - p.t ≠ 0 := by
      rcases Int.lt_or_gt_of_ne hne with h | h <;> (have := cast_lt h; grind)
    split at eq
    · left; rw [Rat.intCast_mul, Rat.intCast_sub] at eq; grind
    · right; rw [Rat.intCast_mul, Rat.intCast_sub] at eq; grind
  have two : ∀ x ∈ l, ∀ y ∈ l, x.t ≠ y.t → Corner t v b x → Corner t v b y → ∃ p' ∈ l, ∃ q' ∈ l, p'.t < q'.t ∧ Corner t v b p' ∧ Corner t v b q' := by
    intro x hx y hy hne cx cy
    rcases Int.lt_or_gt_of_ne hne with h | h
    · exact ⟨x, hx, y, hy, h, cx, cy⟩
    · exact ⟨y, hy, x, hx, h, cy, cx⟩
  by_cases e1 : q.t = t
  · exact two q hq r hr (by rw [e1]; exact fun h => hrt h.symm) (cq (by omega)) cr
  · by_cases e2 : p.t = t
    · exact two p hp r hr (by rw [e2]; exact fun h => hrt h.symm) (cp e1) cr
    · exact two p hp q hq (by omega) (cp e1) (cq e2)
theorem IsMost.of_pairs {l : List Dt} (hg : Good l) (hf : Feas l) {t : Int} {p q : Dt} (hp : p ∈ l) (hq : q ∈ l) (hpq : p.t < q.t)
    (hmin : ∀ p' ∈ l, ∀ q' ∈ l, p'.t < q'.t → ratio (mostN p q t) (q.t - p.t) ≤ ratio (mostN p' q' t) (q'.t - p'.t)) : IsMost l t (ratio (mostN p q t) (q.t - p.t)) := by
  obtain ⟨b, hb, _⟩ := most_of_pairs hg hf hp hq hpq hmin
  refine ⟨fun u c hu => ?_, b, hb⟩
  rw [le_ratio hpq]; exact (hu.pairs p hp q hq hpq).1
theorem IsMost.unique {l : List Dt} {t : Int} {u v : Rat} (h : IsMost l t u) (k : IsMost l t v) : u = v := by
  obtain ⟨b, hb⟩ := h.at_
  obtain ⟨c, hc⟩ := k.at_
  exact Rat.le_antisymm (k.le _ _ hb) (h.le _ _ hc)

/-- The least of finitely many pairs' bounds. -/
theorem min_pair {l : List Dt} (hg : Good l) (f : Dt × Dt → Rat) {p q : Dt} (hp : p ∈ l) (hq : q ∈ l) (hpq : p.t < q.t) :
    ∃ p ∈ l, ∃ q ∈ l, p.t < q.t ∧ ∀ p' ∈ l, ∀ q' ∈ l, p'.t < q'.t → f (p, q) ≤ f (p', q') := by
  obtain ⟨⟨x, y⟩, hx, _, hm⟩ := exists_min f (fun _ => True) (prs l) ⟨(p, q), (mem_prs hg).2 ⟨hp, hq, hpq⟩, trivial⟩
  obtain ⟨h1, h2, h3⟩ := (mem_prs hg).1 hx
  exact ⟨x, h1, y, h2, h3, fun p' hp' q' hq' h => hm (p', q') ((mem_prs hg).2 ⟨hp', hq', h⟩) trivial⟩
/-- At least two data. -/
def Two (l : List Dt) : Prop := ∃ p ∈ l, ∃ q ∈ l, p.t < q.t
/-- A model that fits and meets corners of two data. -/
structure AtCorners (l : List Dt) (t : Int) (v b : Rat) : Prop where
  fit : FitAll t v b l
  two : ∃ p ∈ l, ∃ q ∈ l, p.t < q.t ∧ Corner t v b p ∧ Corner t v b q
theorem most_exists {l : List Dt} (hg : Good l) (hf : Feas l) (h2 : Two l) (t : Int) : ∃ v b, IsMost l t v ∧ AtCorners l t v b := by
  obtain ⟨p, hp, q, hq, hpq⟩ := h2
  obtain ⟨p, hp, q, hq, hpq, hm⟩ := min_pair hg (fun x => ratio (mostN x.1 x.2 t) (x.2.t - x.1.t)) hp hq hpq
  obtain ⟨b, hb, hc⟩ := most_of_pairs hg hf hp hq hpq hm
  exact ⟨_, b, IsMost.of_pairs hg hf hp hq hpq hm, hb, hc⟩
/-- The data of the opposite quantity. -/
def ng (p : Dt) : Dt := ⟨p.t, -p.hi, -p.lo⟩
theorem ng_ng (p : Dt) : ng (ng p) = p := by cases p; simp [ng]
theorem fit_ng {t : Int} {v b : Rat} {p : Dt} : Fit t v b (ng p) ↔ Fit t (-v) (-b) p := by
  unfold Fit ng
  simp only [Rat.intCast_neg]
  constructor <;> intro ⟨a, c⟩ <;> constructor <;> grind
theorem fitAll_ng {t : Int} {v b : Rat} {l : List Dt} : FitAll t v b (l.map ng) ↔ FitAll t (-v) (-b) l := by
  constructor
  · intro h p hp; exact fit_ng.1 (h _ (List.mem_map_of_mem hp))
  · intro h p hp
    obtain ⟨q, hq, rfl⟩ := List.mem_map.1 hp
    exact fit_ng.2 (h q hq)
theorem Good.ng {l : List Dt} (h : Good l) : Good (l.map ng) := by
  refine ⟨?_, fun p hp => ?_⟩
  · rw [List.pairwise_map]; exact h.asc
  · obtain ⟨q, hq, rfl⟩ := List.mem_map.1 hp
    have := h.ord q hq
    show -q.hi ≤ -q.lo; omega
theorem Feas.ng {l : List Dt} (h : Feas l) : Feas (l.map ng) := by
  obtain ⟨a, b, h⟩ := h
  exact ⟨-a, -b, fitAll_ng.2 (by rw [Rat.neg_neg, Rat.neg_neg]; exact h)⟩
theorem Two.ng {l : List Dt} (h : Two l) : Two (l.map ng) := by
  obtain ⟨p, hp, q, hq, h⟩ := h
  exact ⟨_, List.mem_map_of_mem hp, _, List.mem_map_of_mem hq, h⟩
theorem corner_ng {t : Int} {v b : Rat} {p : Dt} : Corner t v b (ng p) ↔ Corner t (-v) (-b) p := by
  unfold Corner ng
  simp only [Rat.intCast_neg]
  constructor <;> rintro (a | a) <;> first | (left; grind) | (right; grind)
theorem AtCorners.ng {t : Int} {v b : Rat} {l : List Dt} (h : AtCorners (l.map ng) t v b) : AtCorners l t (-v) (-b) := by
  refine ⟨fitAll_ng.1 h.fit, ?_⟩
  obtain ⟨p, hp, q, hq, hpq, hc, hd⟩ := h.two
  obtain ⟨p', hp', rfl⟩ := List.mem_map.1 hp
  obtain ⟨q', hq', rfl⟩ := List.mem_map.1 hq
  exact ⟨p', hp', q', hq', hpq, corner_ng.1 hc, corner_ng.1 hd⟩
theorem IsMost.ng {l : List Dt} {t : Int} {v : Rat} (h : IsMost (l.map ng) t v) : IsLeast l t (-v) := by
  refine ⟨fun u b hu => ?_, ?_⟩
  · have := h.le (-u) (-b) (fitAll_ng.2 (by rw [Rat.neg_neg, Rat.neg_neg]; exact hu))
    grind
  · obtain ⟨b, hb⟩ := h.at_
    exact ⟨-b, fitAll_ng.1 hb⟩
theorem IsLeast.ng {l : List Dt} {t : Int} {v : Rat} (h : IsLeast l t v) : IsMost (l.map ng) t (-v) := by
  refine ⟨fun u b hu => ?_, ?_⟩
  · have := h.le (-u) (-b) (fitAll_ng.1 hu)
    grind
  · obtain ⟨b, hb⟩ := h.at_
    exact ⟨-b, fitAll_ng.2 (by rw [Rat.neg_neg, Rat.neg_neg]; exact hb)⟩
theorem least_exists {l : List Dt} (hg : Good l) (hf : Feas l) (h2 : Two l) (t : Int) : ∃ v b, IsLeast l t v ∧ AtCorners l t v b := by
  obtain ⟨v, b, h, k⟩ := most_exists hg.ng hf.ng h2.ng t
  exact ⟨-v, -b, h.ng, k.ng⟩
theorem IsLeast.unique {l : List Dt} {t : Int} {u v : Rat} (h : IsLeast l t u) (k : IsLeast l t v) : u = v := by
  obtain ⟨b, hb⟩ := h.at_
  obtain ⟨c, hc⟩ := k.at_
  exact Rat.le_antisymm (h.le _ _ hc) (k.le _ _ hb)

/-- The greatest slope of the models that fit. -/
structure IsRate (l : List Dt) (r : Rat) : Prop where
  le : ∀ a b, FitAll 0 a b l → b ≤ r
  at_ : ∃ a, FitAll 0 a r l
structure IsLow (l : List Dt) (r : Rat) : Prop where
  le : ∀ a b, FitAll 0 a b l → r ≤ b
  at_ : ∃ a, FitAll 0 a r l
def Slopes (l : List Dt) (b : Rat) : Prop := ∀ p ∈ l, ∀ q ∈ l, p.t < q.t → b * ((q.t : Rat) - p.t) ≤ (q.hi - p.lo : Int) ∧ ((q.lo - p.hi : Int) : Rat) ≤ b * ((q.t : Rat) - p.t)
theorem FitAll.slopes {l : List Dt} {t : Int} {v b : Rat} (h : FitAll t v b l) : Slopes l b := by
  intro p hp q hq hlt
  obtain ⟨h1, h2⟩ := h p hp
  obtain ⟨h3, h4⟩ := h q hq
  simp only [Rat.intCast_sub]
  constructor <;> grind
theorem line_of_slopes {l : List Dt} (hg : Good l) {b : Rat} (h : Slopes l b) : ∃ a, FitAll 0 a b l := by
  by_cases hne : ∃ p ∈ l, True
  · obtain ⟨q, hq, _, hm⟩ := exists_min (fun p : Dt => (p.hi : Rat) - b * p.t) (fun _ => True) l hne
    refine ⟨(q.hi : Rat) - b * q.t, fun p hp => ?_⟩
    have h1 := hm p hp trivial
    have h2 := cast_le (hg.ord q hq)
    unfold Fit
    refine ⟨?_, by grind⟩
    rcases Int.lt_trichotomy p.t q.t with h0 | h0 | h0
    · have := (h p hp q hq h0).1
      simp only [Rat.intCast_sub] at this
      grind
    · have := hg.inj p hp q hq h0
      subst this
      grind
    · have := (h q hq p hp h0).2
      simp only [Rat.intCast_sub] at this
      grind
  · exact ⟨0, fun p hp => absurd ⟨p, hp, trivial⟩ hne⟩
theorem rate_of_pairs {l : List Dt} (hg : Good l) (hf : Feas l) {p q : Dt} (hp : p ∈ l) (hq : q ∈ l) (hpq : p.t < q.t)
    (hmin : ∀ p' ∈ l, ∀ q' ∈ l, p'.t < q'.t → ratio (q.hi - p.lo) (q.t - p.t) ≤ ratio (q'.hi - p'.lo) (q'.t - p'.t)) :
    IsRate l (ratio (q.hi - p.lo) (q.t - p.t)) ∧ ∃ a, AtCorners l 0 a (ratio (q.hi - p.lo) (q.t - p.t)) := by
  obtain ⟨a0, b0, h0⟩ := hf
  have hP0 := h0.slopes
  have e := ratio_mul (n := q.hi - p.lo) hpq
  have hle : b0 ≤ ratio (q.hi - p.lo) (q.t - p.t) := (le_ratio hpq).2 (hP0 p hp q hq hpq).1
  generalize hv : ratio (q.hi - p.lo) (q.t - p.t) = r at *
  have hS : Slopes l r := by
    intro p' hp' q' hq' hlt
    refine ⟨(le_ratio hlt).1 (hmin p' hp' q' hq' hlt), ?_⟩
    have h1 := (hP0 p' hp' q' hq' hlt).2
    have := ratmul (rsub hle) (Rat.le_of_lt (pair_cast hlt))
    grind
  obtain ⟨a, ha⟩ := line_of_slopes hg hS
  refine ⟨⟨fun a' b' h => ?_, a, ha⟩, a, ha, p, hp, q, hq, hpq, ?_⟩
  · rw [← hv, le_ratio hpq]; exact (h.slopes p hp q hq hpq).1
  · obtain ⟨f1, f2⟩ := ha p hp
    obtain ⟨f3, f4⟩ := ha q hq
    rw [Rat.intCast_sub] at e
    exact ⟨.inl (by grind), .inr (by grind)⟩
theorem rate_exists {l : List Dt} (hg : Good l) (hf : Feas l) (h2 : Two l) : ∃ a r, IsRate l r ∧ AtCorners l 0 a r := by
  obtain ⟨p, hp, q, hq, hpq⟩ := h2
  obtain ⟨p, hp, q, hq, hpq, hm⟩ := min_pair hg (fun x => ratio (x.2.hi - x.1.lo) (x.2.t - x.1.t)) hp hq hpq
  obtain ⟨h1, a, h2⟩ := rate_of_pairs hg hf hp hq hpq hm
  exact ⟨a, _, h1, h2⟩
theorem IsRate.ng {l : List Dt} {r : Rat} (h : IsRate (l.map ng) r) : IsLow l (-r) := by
  refine ⟨fun u b hu => ?_, ?_⟩
  · have := h.le (-u) (-b) (fitAll_ng.2 (by rw [Rat.neg_neg, Rat.neg_neg]; exact hu))
    grind
  · obtain ⟨b, hb⟩ := h.at_
    exact ⟨-b, fitAll_ng.1 hb⟩
theorem low_exists {l : List Dt} (hg : Good l) (hf : Feas l) (h2 : Two l) : ∃ a r, IsLow l r ∧ AtCorners l 0 a r := by
  obtain ⟨a, r, h, k⟩ := rate_exists hg.ng hf.ng h2.ng
  exact ⟨-a, -r, h.ng, k.ng⟩
theorem IsRate.unique {l : List Dt} {u v : Rat} (h : IsRate l u) (k : IsRate l v) : u = v := by
  obtain ⟨b, hb⟩ := h.at_
  obtain ⟨c, hc⟩ := k.at_
  exact Rat.le_antisymm (k.le _ _ hb) (h.le _ _ hc)
theorem IsLow.unique {l : List Dt} {u v : Rat} (h : IsLow l u) (k : IsLow l v) : u = v := by
  obtain ⟨b, hb⟩ := h.at_
  obtain ⟨c, hc⟩ := k.at_
  exact Rat.le_antisymm (h.le _ _ hc) (k.le _ _ hb)

/-- A straight line through two points. -/
structure Ln where
  t : Int
  v : Int
  u : Int
  w : Int
  deriving DecidableEq
def Ln.on (x : Ln) (t : Int) : Int := x.v * (x.u - t) + x.w * (t - x.t)
def Ln.fits (x : Ln) (l : List Dt) : Bool := l.all fun d => decide (d.lo * (x.u - x.t) ≤ x.on d.t) && decide (x.on d.t ≤ d.hi * (x.u - x.t))
/-- The lines through two corners of two data. -/
def four (p q : Dt) : List Ln := [⟨p.t, p.lo, q.t, q.lo⟩, ⟨p.t, p.lo, q.t, q.hi⟩, ⟨p.t, p.hi, q.t, q.lo⟩, ⟨p.t, p.hi, q.t, q.hi⟩]
def lns (l : List Dt) : List Ln := (prs l).flatMap (fun x => four x.1 x.2)
def fitting (l : List Dt) : List Ln := (lns l).filter (fun x => x.fits l)
def Ln.val (x : Ln) (t : Int) : Rat := ratio (x.on t) (x.u - x.t)
def Ln.slope (x : Ln) : Rat := ratio (x.w - x.v) (x.u - x.t)
theorem mem_lns {l : List Dt} (hg : Good l) {x : Ln} (h : x ∈ lns l) : ∃ p ∈ l, ∃ q ∈ l, p.t < q.t ∧ x.t = p.t ∧ x.u = q.t ∧ (x.v = p.lo ∨ x.v = p.hi) ∧ (x.w = q.lo ∨ x.w = q.hi) := by
  unfold lns at h
  obtain ⟨⟨p, q⟩, hx, h⟩ := List.mem_flatMap.1 h
  obtain ⟨h1, h2, h3⟩ := (mem_prs hg).1 hx
  simp only [four, List.mem_cons, List.not_mem_nil, or_false] at h
  rcases h with rfl | rfl | rfl | rfl
  all_goals exact ⟨p, h1, q, h2, h3, rfl, rfl, by simp, by simp⟩
theorem Ln.val_fit {x : Ln} (h : x.t < x.u) {l : List Dt} (hf : x.fits l = true) (t : Int) : FitAll t (x.val t) x.slope l := by
  intro p hp
  have := List.all_eq_true.1 hf p hp
  simp only [Bool.and_eq_true, decide_eq_true_eq] at this
  obtain ⟨h1, h2⟩ := this
  have c := cast_lt h
  have hc : (0 : Rat) < (x.u : Rat) - x.t := by grind
  have e1 : x.val t * ((x.u : Rat) - x.t) = x.on t := by unfold Ln.val ratio; rw [Rat.intCast_sub]; exact div_cancel (by grind)
  have e2 : x.slope * ((x.u : Rat) - x.t) = (x.w : Rat) - x.v := by unfold Ln.slope ratio; rw [Rat.intCast_sub, Rat.intCast_sub]; exact div_cancel (by grind)
  have h1 := cast_le h1
  have h2 := cast_le h2
  unfold Ln.on at h1 h2 e1
  simp only [Rat.intCast_mul, Rat.intCast_sub, Rat.intCast_add] at h1 h2 e1
  have e3 : x.slope * ((p.t : Rat) - t) * ((x.u : Rat) - x.t) = ((x.w : Rat) - x.v) * ((p.t : Rat) - t) := by rw [← e2]; grind
  unfold Fit
  clear e2 hf c h
  constructor
  · refine Rat.le_of_mul_le_mul_right ?_ hc; grind
  · refine Rat.le_of_mul_le_mul_right ?_ hc; grind
/-- A model that fits and meets two corners is one of the lines. -/
theorem AtCorners.line {l : List Dt} (hg : Good l) {t : Int} {v b : Rat} (h : AtCorners l t v b) : ∃ x ∈ fitting l, x.val t = v ∧ x.slope = b := by
  obtain ⟨hf, p, hp, q, hq, hpq, cp, cq⟩ := h
  obtain ⟨x, hx, e1, e2, e3, e4⟩ : ∃ x ∈ lns l, x.t = p.t ∧ x.u = q.t ∧ v + b * ((p.t : Rat) - t) = x.v ∧ v + b * ((q.t : Rat) - t) = x.w := by
    have hm := (mem_prs hg).2 ⟨hp, hq, hpq⟩
    rcases cp with cp | cp <;> rcases cq with cq | cq
    · exact ⟨⟨p.t, p.lo, q.t, q.lo⟩, List.mem_flatMap.2 ⟨(p, q), hm, by simp [four]⟩, rfl, rfl, cp, cq⟩
    · exact ⟨⟨p.t, p.lo, q.t, q.hi⟩, List.mem_flatMap.2 ⟨(p, q), hm, by simp [four]⟩, rfl, rfl, cp, cq⟩
    · exact ⟨⟨p.t, p.hi, q.t, q.lo⟩, List.mem_flatMap.2 ⟨(p, q), hm, by simp [four]⟩, rfl, rfl, cp, cq⟩
    · exact ⟨⟨p.t, p.hi, q.t, q.hi⟩, List.mem_flatMap.2 ⟨(p, q), hm, by simp [four]⟩, rfl, rfl, cp, cq⟩
  rw [← e1] at e3
  rw [← e2] at e4
  have hlt : x.t < x.u := by omega
  have hc : (0 : Rat) < (x.u : Rat) - x.t := by have := cast_lt hlt; grind
  have val : ∀ s : Int, (x.on s : Rat) = (v + b * ((s : Rat) - t)) * ((x.u : Rat) - x.t) := by
    intro s
    unfold Ln.on
    simp only [Rat.intCast_mul, Rat.intCast_sub, Rat.intCast_add]
    rw [← e3, ← e4]; grind
  refine ⟨x, List.mem_filter.2 ⟨hx, ?_⟩, ?_, ?_⟩
  · unfold Ln.fits
    rw [List.all_eq_true]
    intro d hd
    have := hf d hd
    unfold Fit at this
    simp only [Bool.and_eq_true, decide_eq_true_eq]
    constructor
    · have h1 := ratmul (rsub this.1) (Rat.le_of_lt hc)
      have : ((d.lo * (x.u - x.t) : Int) : Rat) ≤ (x.on d.t : Int) := by
        rw [val]; simp only [Rat.intCast_mul, Rat.intCast_sub]; grind
      exact_mod_cast this
    · have h1 := ratmul (rsub this.2) (Rat.le_of_lt hc)
      have : ((x.on d.t : Int) : Rat) ≤ ((d.hi * (x.u - x.t) : Int) : Rat) := by
        rw [val]; simp only [Rat.intCast_mul, Rat.intCast_sub]; grind
      exact_mod_cast this
  · unfold Ln.val ratio
    rw [val t, Rat.intCast_sub, show v + b * ((t : Rat) - t) = v by grind, Rat.div_def, Rat.mul_assoc, Rat.mul_inv_cancel _ (by grind), Rat.mul_one]
  · unfold Ln.slope ratio
    rw [Rat.intCast_sub, Rat.intCast_sub, ← e3, ← e4, show v + b * ((x.u : Rat) - t) - (v + b * ((x.t : Rat) - t)) = b * ((x.u : Rat) - x.t) by grind, Rat.div_def, Rat.mul_assoc, Rat.mul_inv_cancel _ (by grind), Rat.mul_one]
theorem fitting_fit {l : List Dt} (hg : Good l) {x : Ln} (h : x ∈ fitting l) : x.t < x.u ∧ x.fits l = true := by
  obtain ⟨h1, h2⟩ := List.mem_filter.1 h
  obtain ⟨p, _, q, _, h3, e1, e2, _⟩ := mem_lns hg h1
  exact ⟨by omega, h2⟩
end DecM
end Go.Proofs.YtebokdboodgkpaaGreatDoor
