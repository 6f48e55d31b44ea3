/- Valid data, the best of some lines, and the least of some ratios (no program). -/
import Derived.Test.YtebokdboodgkpaaGreatDoorDecM
namespace Go.Proofs.YtebokdboodgkpaaGreatDoor
namespace DecM
/-- Valid data behind a day. -/
def okF (last : Int) : List Dt → Bool
  | [] => true
  | d :: l => decide (last + 1 ≤ d.t ∧ d.t ≤ 800000 ∧ -1000000 ≤ d.lo ∧ d.lo ≤ d.hi ∧ d.hi ≤ 1000000) && okF d.t l
def okD (l : List Dt) : Bool := okF (-1) l && decide (l.length ≤ 16)
theorem okF_all {last : Int} {l : List Dt} (h : okF last l = true) : l.Pairwise (fun p q => p.t < q.t) ∧ ∀ p ∈ l, last < p.t ∧ p.t ≤ 800000 ∧ -1000000 ≤ p.lo ∧ p.lo ≤ p.hi ∧ p.hi ≤ 1000000 := by
  induction l generalizing last with
  | nil => exact ⟨List.Pairwise.nil, fun p hp => by cases hp⟩
  | cons d l ih =>
    unfold okF at h
    simp only [Bool.and_eq_true, decide_eq_true_eq] at h
    obtain ⟨h0, h1⟩ := h
    obtain ⟨i1, i2⟩ := ih h1
    refine ⟨List.pairwise_cons.2 ⟨fun q hq => (i2 q hq).1, i1⟩, fun p hp => ?_⟩
    rcases List.mem_cons.1 hp with rfl | hp
    · exact ⟨by omega, h0.2⟩
    · have := i2 p hp; exact ⟨by omega, this.2⟩
theorem okF_of {last : Int} {l : List Dt} (h : l.Pairwise (fun p q => p.t < q.t)) (k : ∀ p ∈ l, last < p.t ∧ p.t ≤ 800000 ∧ -1000000 ≤ p.lo ∧ p.lo ≤ p.hi ∧ p.hi ≤ 1000000) : okF last l = true := by
  induction l generalizing last with
  | nil => rfl
  | cons d l ih =>
    obtain ⟨h1, h2⟩ := List.pairwise_cons.1 h
    unfold okF
    rw [ih h2 (fun p hp => ⟨h1 p hp, (k p (List.mem_cons_of_mem _ hp)).2⟩), Bool.and_true, decide_eq_true_eq]
    have := k d List.mem_cons_self
    omega
theorem okD_iff {l : List Dt} : okD l = true ↔ l.Pairwise (fun p q => p.t < q.t) ∧ (∀ p ∈ l, 0 ≤ p.t ∧ p.t ≤ 800000 ∧ -1000000 ≤ p.lo ∧ p.lo ≤ p.hi ∧ p.hi ≤ 1000000) ∧ l.length ≤ 16 := by
  unfold okD
  rw [Bool.and_eq_true, decide_eq_true_eq]
  constructor
  · rintro ⟨h1, h2⟩
    obtain ⟨h3, h4⟩ := okF_all h1
    exact ⟨h3, fun p hp => by have := h4 p hp; omega, h2⟩
  · rintro ⟨h1, h2, h3⟩
    exact ⟨okF_of h1 (fun p hp => by have := h2 p hp; omega), h3⟩
theorem okD_good {l : List Dt} (h : okD l = true) : Good l := by
  obtain ⟨h1, h2, _⟩ := okD_iff.1 h
  exact ⟨h1, fun p hp => by have := h2 p hp; omega⟩
theorem two_iff {l : List Dt} (h : Good l) : Two l ↔ 2 ≤ l.length := by
  constructor
  · rintro ⟨p, hp, q, hq, hlt⟩
    match l with
    | [] => cases hp
    | [a] =>
      rw [List.mem_singleton] at hp hq
      rw [hp, hq] at hlt; omega
    | a :: b :: l => simp
  · intro hl
    match l, h with
    | a :: b :: l, h => exact ⟨a, List.mem_cons_self, b, List.mem_cons_of_mem _ List.mem_cons_self, (List.pairwise_cons.1 h.asc).1 b List.mem_cons_self⟩

/-- The better one of two lines by a measure. -/
def stepB (m : Ln → Int) (o : Option Ln) (x : Ln) : Option Ln := match o with
  | none => some x
  | some y => if m y * (x.u - x.t) < m x * (y.u - y.t) then some x else some y
def bst (m : Ln → Int) (L : List Ln) : Option Ln := L.foldl (stepB m) none
theorem ratio_le {a b c d : Int} (hb : 0 < b) (hd : 0 < d) : ratio a b ≤ ratio c d ↔ a * d ≤ c * b := by
  have h1 : (0 : Rat) < b := cast_lt hb
  have h2 : (0 : Rat) < d := cast_lt hd
  unfold ratio
  rw [div_le h1]
  have e : (c : Rat) / d * b = (c * b : Rat) / d := by rw [Rat.div_def, Rat.div_def]; grind
  rw [e, le_div h2]
  constructor
  · intro h; exact_mod_cast h
  · intro h; exact_mod_cast h
theorem fold_spec (m : Ln → Int) : ∀ (L : List Ln) (o : Option Ln), (∀ x ∈ L, x.t < x.u) → (∀ y, o = some y → y.t < y.u) →
    (L.foldl (stepB m) o = none ↔ o = none ∧ L = []) ∧ ∀ x, L.foldl (stepB m) o = some x → (x ∈ L ∨ o = some x) ∧ (∀ y ∈ L, ratio (m y) (y.u - y.t) ≤ ratio (m x) (x.u - x.t)) ∧ ∀ y, o = some y → ratio (m y) (y.u - y.t) ≤ ratio (m x) (x.u - x.t)
  | [], o, _, _ => ⟨by simp, fun x hx => ⟨.inr hx, (fun y hy => by cases hy), (fun y hy => by
      have : x = y := Option.some.inj (hx.symm.trans hy)
      subst this; exact Rat.le_refl)⟩⟩
  | z :: L, o, hL, ho => by
    have hz := hL z List.mem_cons_self
    have hs : ∀ y, stepB m o z = some y → y.t < y.u := by
      intro y hy
      unfold stepB at hy
      split at hy
      · cases hy; exact hz
      · rename_i y' ; split at hy
        · cases hy; exact hz
        · cases hy; exact ho _ rfl
    obtain ⟨i1, i2⟩ := fold_spec m L (stepB m o z) (fun x hx => hL x (List.mem_cons_of_mem _ hx)) hs
    rw [List.foldl_cons]
    refine ⟨?_, fun x hx => ?_⟩
    · rw [i1]
      constructor
      · rintro ⟨h, _⟩
        unfold stepB at h
        split at h
        · cases h
        · split at h <;> cases h
      · rintro ⟨_, h⟩; cases h
    · obtain ⟨j1, j2, j3⟩ := i2 x hx
      have key : ∃ y, stepB m o z = some y ∧ (y = z ∨ o = some y) ∧ ratio (m z) (z.u - z.t) ≤ ratio (m y) (y.u - y.t) ∧ ∀ y', o = some y' → ratio (m y') (y'.u - y'.t) ≤ ratio (m y) (y.u - y.t) := by
        cases o with
        | none => exact ⟨z, rfl, .inl rfl, Rat.le_refl, fun y' h => by cases h⟩
        | some y' =>
          have hy' := ho y' rfl
          by_cases c : m y' * (z.u - z.t) < m z * (y'.u - y'.t)
          · exact ⟨z, by show (if m y' * (z.u - z.t) < m z * (y'.u - y'.t) then some z else some y') = some z; rw [if_pos c], .inl rfl, Rat.le_refl, fun y'' h => by
              cases h; rw [ratio_le (by omega) (by omega)]; omega⟩
          · exact ⟨y', by show (if m y' * (z.u - z.t) < m z * (y'.u - y'.t) then some z else some y') = some y'; rw [if_neg c], .inr rfl, by rw [ratio_le (by omega) (by omega)]; omega, fun y'' h => by cases h; exact Rat.le_refl⟩
      obtain ⟨y, k0, k1, k2, k3⟩ := key
      have hyx := j3 y k0
      refine ⟨?_, fun w hw => ?_, fun w hw => Rat.le_trans (k3 w hw) hyx⟩
      · rcases j1 with h | h
        · exact .inl (List.mem_cons_of_mem _ h)
        · rw [k0] at h; cases h
          rcases k1 with e | e
          · rw [e]; exact .inl List.mem_cons_self
          · exact .inr e
      · rcases List.mem_cons.1 hw with rfl | hw
        · exact Rat.le_trans k2 hyx
        · exact j2 w hw
theorem bst_none {m : Ln → Int} {L : List Ln} (h : ∀ x ∈ L, x.t < x.u) : bst m L = none ↔ L = [] := by
  have := (fold_spec m L none h (fun y hy => by cases hy)).1
  unfold bst; rw [this]; simp
theorem bst_some {m : Ln → Int} {L : List Ln} (h : ∀ x ∈ L, x.t < x.u) {x : Ln} (hx : bst m L = some x) : x ∈ L ∧ ∀ y ∈ L, ratio (m y) (y.u - y.t) ≤ ratio (m x) (x.u - x.t) := by
  obtain ⟨h1, h2, _⟩ := (fold_spec m L none h (fun y hy => by cases hy)).2 x hx
  rcases h1 with h1 | h1
  · exact ⟨h1, h2⟩
  · cases h1

/-- A line that fits and has the greatest or the least value on a day. -/
def sg (high : Bool) : Int := if high then 1 else -1
def ext (l : List Dt) (t : Int) (high : Bool) : Option Ln := bst (fun x => sg high * x.on t) (fitting l)
theorem fitting_lt {l : List Dt} (hg : Good l) : ∀ x ∈ fitting l, x.t < x.u := fun _ h => (fitting_fit hg h).1
theorem fitting_ne {l : List Dt} (hg : Good l) : fitting l ≠ [] ↔ Two l ∧ Feas l := by
  constructor
  · intro h
    obtain ⟨x, hx⟩ := List.exists_mem_of_ne_nil _ h
    obtain ⟨p, hp, q, hq, hlt, _⟩ := mem_lns hg (List.mem_filter.1 hx).1
    have hf := fitting_fit hg hx
    exact ⟨⟨p, hp, q, hq, hlt⟩, (Ln.val_fit hf.1 hf.2 0).feas⟩
  · rintro ⟨h2, hf⟩ e
    obtain ⟨v, b, _, hc⟩ := most_exists hg hf h2 0
    obtain ⟨x, hx, _⟩ := hc.line hg
    rw [e] at hx; cases hx
theorem ext_none {l : List Dt} (hg : Good l) {t : Int} {high : Bool} : ext l t high = none ↔ ¬ (Two l ∧ Feas l) := by
  unfold ext
  rw [bst_none (fitting_lt hg), ← fitting_ne hg]
  simp
theorem ratio_neg (a b : Int) : ratio (-a) b = -ratio a b := by unfold ratio; rw [Rat.intCast_neg, Rat.div_def, Rat.div_def]; grind
theorem ext_high {l : List Dt} (hg : Good l) {t : Int} {x : Ln} (h : ext l t true = some x) : IsMost l t (x.val t) ∧ x ∈ fitting l := by
  obtain ⟨h1, h2⟩ := bst_some (fitting_lt hg) h
  have hf := fitting_fit hg h1
  obtain ⟨h3, h4⟩ := (fitting_ne hg).1 (fun e => by rw [e] at h1; cases h1)
  obtain ⟨v, b, hm, hc⟩ := most_exists hg h4 h3 t
  obtain ⟨y, hy, e1, e2⟩ := hc.line hg
  have := h2 y hy
  unfold sg at this
  rw [if_pos rfl, Int.one_mul, Int.one_mul] at this
  have fx := Ln.val_fit hf.1 hf.2 t
  have e : x.val t = v := Rat.le_antisymm (hm.le _ _ fx) (by rw [← e1]; exact this)
  rw [e]; exact ⟨hm, h1⟩
theorem ext_low {l : List Dt} (hg : Good l) {t : Int} {x : Ln} (h : ext l t false = some x) : IsLeast l t (x.val t) ∧ x ∈ fitting l := by
  obtain ⟨h1, h2⟩ := bst_some (fitting_lt hg) h
  have hf := fitting_fit hg h1
  obtain ⟨h3, h4⟩ := (fitting_ne hg).1 (fun e => by rw [e] at h1; cases h1)
  obtain ⟨v, b, hm, hc⟩ := least_exists hg h4 h3 t
  obtain ⟨y, hy, e1, e2⟩ := hc.line hg
  have := h2 y hy
  unfold sg at this
  rw [if_neg (by decide), show -1 * y.on t = -(y.on t) by omega, show -1 * x.on t = -(x.on t) by omega, ratio_neg, ratio_neg] at this
  have fx := Ln.val_fit hf.1 hf.2 t
  have e : x.val t = v := by
    refine Rat.le_antisymm ?_ (hm.le _ _ fx)
    rw [← e1]
    have : -y.val t ≤ -x.val t := this
    grind
  rw [e]; exact ⟨hm, h1⟩
/-- The rates. -/
def top (l : List Dt) : Option Ln := bst (fun x => x.w - x.v) (fitting l)
def bot (l : List Dt) : Option Ln := bst (fun x => x.v - x.w) (fitting l)
theorem top_rate {l : List Dt} (hg : Good l) {x : Ln} (h : top l = some x) : IsRate l x.slope ∧ x ∈ fitting l := by
  obtain ⟨h1, h2⟩ := bst_some (fitting_lt hg) h
  have hf := fitting_fit hg h1
  obtain ⟨h3, h4⟩ := (fitting_ne hg).1 (fun e => by rw [e] at h1; cases h1)
  obtain ⟨a, r, hm, hc⟩ := rate_exists hg h4 h3
  obtain ⟨y, hy, e1, e2⟩ := hc.line hg
  have := h2 y hy
  have fx := Ln.val_fit hf.1 hf.2 0
  have e : x.slope = r := Rat.le_antisymm (hm.le _ _ fx) (by rw [← e2]; exact this)
  rw [e]; exact ⟨hm, h1⟩
theorem bot_rate {l : List Dt} (hg : Good l) {x : Ln} (h : bot l = some x) : IsLow l x.slope ∧ x ∈ fitting l := by
  obtain ⟨h1, h2⟩ := bst_some (fitting_lt hg) h
  have hf := fitting_fit hg h1
  obtain ⟨h3, h4⟩ := (fitting_ne hg).1 (fun e => by rw [e] at h1; cases h1)
  obtain ⟨a, r, hm, hc⟩ := low_exists hg h4 h3
  obtain ⟨y, hy, e1, e2⟩ := hc.line hg
  have := h2 y hy
  rw [show y.v - y.w = -(y.w - y.v) by omega, show x.v - x.w = -(x.w - x.v) by omega, ratio_neg, ratio_neg] at this
  have fx := Ln.val_fit hf.1 hf.2 0
  have e : x.slope = r := by
    refine Rat.le_antisymm ?_ (hm.le _ _ fx)
    rw [← e2]
    have : -y.slope ≤ -x.slope := this
    grind
  rw [e]; exact ⟨hm, h1⟩
theorem top_none {l : List Dt} (hg : Good l) : top l = none ↔ ¬ (Two l ∧ Feas l) := by
  unfold top; rw [bst_none (fitting_lt hg), ← fitting_ne hg]; simp
theorem bot_none {l : List Dt} (hg : Good l) : bot l = none ↔ ¬ (Two l ∧ Feas l) := by
  unfold bot; rw [bst_none (fitting_lt hg), ← fitting_ne hg]; simp

/-- The least of some ratios, as the reference finds it. -/
def stepR (o x : Int × Int) : Int × Int := if x.1 * o.2 < o.1 * x.2 then x else o
theorem foldR_spec : ∀ (L : List (Int × Int)) (o : Int × Int), (∀ x ∈ L, 0 < x.2) → 0 < o.2 →
    (L.foldl stepR o ∈ L ∨ L.foldl stepR o = o) ∧ (∀ x ∈ L, ratio (L.foldl stepR o).1 (L.foldl stepR o).2 ≤ ratio x.1 x.2) ∧ ratio (L.foldl stepR o).1 (L.foldl stepR o).2 ≤ ratio o.1 o.2
  | [], o, _, _ => ⟨.inr rfl, (fun x hx => by cases hx), Rat.le_refl⟩
  | z :: L, o, hL, ho => by
    have hz := hL z List.mem_cons_self
    rw [List.foldl_cons]
    have hs : (stepR o z = z ∨ stepR o z = o) ∧ 0 < (stepR o z).2 ∧ ratio (stepR o z).1 (stepR o z).2 ≤ ratio z.1 z.2 ∧ ratio (stepR o z).1 (stepR o z).2 ≤ ratio o.1 o.2 := by
      unfold stepR
      by_cases c : z.1 * o.2 < o.1 * z.2
      · rw [if_pos c]; exact ⟨.inl rfl, hz, Rat.le_refl, by rw [ratio_le hz ho]; omega⟩
      · rw [if_neg c]; exact ⟨.inr rfl, ho, by rw [ratio_le ho hz]; omega, Rat.le_refl⟩
    obtain ⟨s1, s2, s3, s4⟩ := hs
    obtain ⟨i1, i2, i3⟩ := foldR_spec L (stepR o z) (fun x hx => hL x (List.mem_cons_of_mem _ hx)) s2
    refine ⟨?_, fun x hx => ?_, Rat.le_trans i3 s4⟩
    · rcases i1 with h | h
      · exact .inl (List.mem_cons_of_mem _ h)
      · rw [h]
        rcases s1 with e | e
        · rw [e]; exact .inl List.mem_cons_self
        · exact .inr e
    · rcases List.mem_cons.1 hx with rfl | hx
      · exact Rat.le_trans i3 s3
      · exact i2 x hx
end DecM
end Go.Proofs.YtebokdboodgkpaaGreatDoor
