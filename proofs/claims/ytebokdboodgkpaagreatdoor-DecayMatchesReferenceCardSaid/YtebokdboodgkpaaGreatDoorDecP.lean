/- What package decay answers: forecasts, rates, the first three data that no model fits; the reference's bounds are the same (no program). -/
import Derived.Test.YtebokdboodgkpaaGreatDoorDecN
namespace Go.Proofs.YtebokdboodgkpaaGreatDoor
namespace DecM
def inDay (t : Int) : Bool := decide (0 ≤ t) && decide (t ≤ 800000)
theorem inDay_iff {t : Int} : inDay t = true ↔ 0 ≤ t ∧ t ≤ 800000 := by unfold inDay; simp
/-- The least and the greatest value on a day. -/
def fcst (l : List Dt) (t : Int) : Option (Rat × Rat) :=
  if okD l && inDay t then match ext l t false, ext l t true with
    | some x, some y => some (x.val t, y.val t)
    | _, _ => none
  else none
def rts (l : List Dt) : Option (Rat × Rat) :=
  if okD l then match bot l, top l with
    | some x, some y => some (x.slope, y.slope)
    | _, _ => none
  else none
theorem fcst_none {l : List Dt} {t : Int} (h : okD l = true) (ht : inDay t = true) : fcst l t = none ↔ ¬ (Two l ∧ Feas l) := by
  unfold fcst
  rw [h, ht]
  have e1 := ext_none (t := t) (high := false) (okD_good h)
  have e2 := ext_none (t := t) (high := true) (okD_good h)
  cases c1 : ext l t false with
  | none => rw [c1] at e1; simp [e1.1 rfl]
  | some x => cases c2 : ext l t true with
    | none => rw [c1] at e1; rw [c2] at e2; exact absurd (e1.2 (e2.1 rfl)) (by simp)
    | some y =>
      rw [c1] at e1
      simp
      refine Classical.byContradiction fun h => ?_
      have := e1.2 (fun ⟨h1, h2⟩ => h ⟨h1, h2⟩)
      cases this
theorem fcst_some {l : List Dt} {t : Int} {a b : Rat} (h : fcst l t = some (a, b)) : okD l = true ∧ inDay t = true ∧ IsLeast l t a ∧ IsMost l t b := by
  unfold fcst at h
  split at h
  · rename_i hc
    rw [Bool.and_eq_true] at hc
    split at h
    · rename_i x y h1 h2
      cases h
      exact ⟨hc.1, hc.2, (ext_low (okD_good hc.1) h1).1, (ext_high (okD_good hc.1) h2).1⟩
    · cases h
  · cases h
theorem fcst_two {l : List Dt} {t : Int} {a b : Rat} (h : fcst l t = some (a, b)) : Two l ∧ Feas l := by
  obtain ⟨h1, h2, h3, h4⟩ := fcst_some h
  refine Classical.byContradiction fun hn => ?_
  rw [(fcst_none h1 h2).2 hn] at h; cases h
theorem fcst_eq {l : List Dt} {t : Int} {a b : Rat} (h : okD l = true) (ht : inDay t = true) (h2 : Two l) (ha : IsLeast l t a) (hb : IsMost l t b) : fcst l t = some (a, b) := by
  have hf : Feas l := by obtain ⟨c, hc⟩ := ha.at_; exact hc.feas
  cases c : fcst l t with
  | none => exact absurd ⟨h2, hf⟩ ((fcst_none h ht).1 c)
  | some x =>
    obtain ⟨u, v⟩ := x
    obtain ⟨_, _, h3, h4⟩ := fcst_some c
    rw [h3.unique ha, h4.unique hb]
theorem fcst_ex {l : List Dt} {t : Int} (h : okD l = true) (ht : inDay t = true) (h2 : Two l) (hf : Feas l) : ∃ a b, fcst l t = some (a, b) ∧ IsLeast l t a ∧ IsMost l t b := by
  cases c : fcst l t with
  | none => exact absurd ⟨h2, hf⟩ ((fcst_none h ht).1 c)
  | some x => exact ⟨x.1, x.2, rfl, (fcst_some c).2.2⟩
theorem fcst_bad {l : List Dt} {t : Int} (h : (okD l && inDay t) = false) : fcst l t = none := by unfold fcst; rw [if_neg (by rw [h]; decide)]
theorem rts_none {l : List Dt} (h : okD l = true) : rts l = none ↔ ¬ (Two l ∧ Feas l) := by
  unfold rts
  rw [h]
  have e1 := bot_none (okD_good h)
  have e2 := top_none (okD_good h)
  cases c1 : bot l with
  | none => rw [c1] at e1; simp [e1.1 rfl]
  | some x => cases c2 : top l with
    | none => rw [c1] at e1; rw [c2] at e2; exact absurd (e1.2 (e2.1 rfl)) (by simp)
    | some y =>
      rw [c1] at e1
      simp
      refine Classical.byContradiction fun h => ?_
      have := e1.2 (fun ⟨h1, h2⟩ => h ⟨h1, h2⟩)
      cases this
theorem rts_some {l : List Dt} {a b : Rat} (h : rts l = some (a, b)) : okD l = true ∧ IsLow l a ∧ IsRate l b := by
  unfold rts at h
  split at h
  · rename_i hc
    split at h
    · rename_i x y h1 h2
      cases h
      exact ⟨hc, (bot_rate (okD_good hc) h1).1, (top_rate (okD_good hc) h2).1⟩
    · cases h
  · cases h
theorem rts_eq {l : List Dt} {a b : Rat} (h : okD l = true) (h2 : Two l) (ha : IsLow l a) (hb : IsRate l b) : rts l = some (a, b) := by
  have hf : Feas l := by obtain ⟨c, hc⟩ := ha.at_; exact hc.feas
  cases c : rts l with
  | none => exact absurd ⟨h2, hf⟩ ((rts_none h).1 c)
  | some x =>
    obtain ⟨u, v⟩ := x
    obtain ⟨_, h3, h4⟩ := rts_some c
    rw [h3.unique ha, h4.unique hb]

/-- Datum number i. -/
def gd (l : List Dt) (i : Nat) : Dt := l[i]?.getD ⟨0, 0, 0⟩
theorem gd_lt {l : List Dt} {i : Nat} (h : i < l.length) : gd l i = l[i] := by simp [gd, h]
theorem gd_mem {l : List Dt} {i : Nat} (h : i < l.length) : gd l i ∈ l := by rw [gd_lt h]; exact List.getElem_mem h
theorem gd_asc {l : List Dt} (hg : Good l) {i j : Nat} (h : i < j) (hj : j < l.length) : (gd l i).t < (gd l j).t := by
  rw [gd_lt (by omega), gd_lt hj]
  exact List.pairwise_iff_getElem.1 hg.asc i j (by omega) hj h
theorem gd_of_mem {l : List Dt} {p : Dt} (h : p ∈ l) : ∃ i, i < l.length ∧ gd l i = p := by
  obtain ⟨i, hi, rfl⟩ := List.getElem_of_mem h
  exact ⟨i, hi, gd_lt hi⟩
instance (p q r : Dt) : Decidable (Apart p q r) := by unfold Apart; infer_instance
def apB (l : List Dt) (i j k : Nat) : Bool := decide (Apart (gd l i) (gd l j) (gd l k))
abbrev Tri := Option (Nat × Nat × Nat)
def f3 (l : List Dt) (i j k : Nat) : Tri := (List.range' k (l.length - k)).findSome? (fun k => if apB l i j k then some (i, j, k) else none)
def f2 (l : List Dt) (i j : Nat) : Tri := (List.range' j (l.length - j)).findSome? (fun j => f3 l i j (j + 1))
def f1 (l : List Dt) (i : Nat) : Tri := (List.range' i (l.length - i)).findSome? (fun i => f2 l i (i + 1))
/-- The first three data that are apart. -/
def refD (l : List Dt) : Tri := f1 l 0
theorem range_step {n k : Nat} (h : k < n) : List.range' k (n - k) = k :: List.range' (k + 1) (n - (k + 1)) := by
  rw [show n - k = (n - (k + 1)) + 1 by omega, List.range'_succ]
theorem range_end {n k : Nat} (h : ¬ k < n) : List.range' k (n - k) = [] := by rw [show n - k = 0 by omega]; rfl
theorem f3_step {l : List Dt} {i j k : Nat} (h : k < l.length) : f3 l i j k = (if apB l i j k then some (i, j, k) else none).or (f3 l i j (k + 1)) := by
  unfold f3; rw [range_step h, List.findSome?_cons]; split <;> simp_all
theorem f3_end {l : List Dt} {i j k : Nat} (h : ¬ k < l.length) : f3 l i j k = none := by unfold f3; rw [range_end h]; rfl
theorem f2_step {l : List Dt} {i j : Nat} (h : j < l.length) : f2 l i j = (f3 l i j (j + 1)).or (f2 l i (j + 1)) := by
  unfold f2; rw [range_step h, List.findSome?_cons]; split <;> simp_all
theorem f2_end {l : List Dt} {i j : Nat} (h : ¬ j < l.length) : f2 l i j = none := by unfold f2; rw [range_end h]; rfl
theorem f1_step {l : List Dt} {i : Nat} (h : i < l.length) : f1 l i = (f2 l i (i + 1)).or (f1 l (i + 1)) := by
  unfold f1; rw [range_step h, List.findSome?_cons]; split <;> simp_all
theorem f1_end {l : List Dt} {i : Nat} (h : ¬ i < l.length) : f1 l i = none := by unfold f1; rw [range_end h]; rfl
theorem refD_some {l : List Dt} {i j k : Nat} (h : refD l = some (i, j, k)) : i < j ∧ j < k ∧ k < l.length ∧ Apart (gd l i) (gd l j) (gd l k) := by
  unfold refD f1 at h
  obtain ⟨a, ha, h⟩ := List.exists_of_findSome?_eq_some h
  unfold f2 at h
  obtain ⟨b, hb, h⟩ := List.exists_of_findSome?_eq_some h
  unfold f3 at h
  obtain ⟨c, hc, h⟩ := List.exists_of_findSome?_eq_some h
  rw [List.mem_range'_1] at ha hb hc
  split at h
  · rename_i hap
    cases h
    exact ⟨by omega, by omega, by omega, of_decide_eq_true hap⟩
  · cases h
theorem refD_none {l : List Dt} (hg : Good l) : refD l = none ↔ NoApart l := by
  constructor
  · intro h p hp q hq r hr hpq hqr hap
    obtain ⟨i, hi, rfl⟩ := gd_of_mem hp
    obtain ⟨j, hj, rfl⟩ := gd_of_mem hq
    obtain ⟨k, hk, rfl⟩ := gd_of_mem hr
    have hij : i < j := by
      rcases Nat.lt_trichotomy i j with h | h | h
      · exact h
      · subst h; omega
      · have := gd_asc hg h hi; omega
    have hjk : j < k := by
      rcases Nat.lt_trichotomy j k with h | h | h
      · exact h
      · subst h; omega
      · have := gd_asc hg h hj; omega
    unfold refD f1 at h
    have h1 := (List.findSome?_eq_none_iff.1 h) i (List.mem_range'_1.2 ⟨by omega, by omega⟩)
    unfold f2 at h1
    have h2 := (List.findSome?_eq_none_iff.1 h1) j (List.mem_range'_1.2 ⟨by omega, by omega⟩)
    unfold f3 at h2
    have h3 := (List.findSome?_eq_none_iff.1 h2) k (List.mem_range'_1.2 ⟨by omega, by omega⟩)
    rw [show apB l i j k = true from decide_eq_true hap, if_pos rfl] at h3
    cases h3
  · intro h
    cases c : refD l with
    | none => rfl
    | some x =>
      obtain ⟨i, j, k⟩ := x
      obtain ⟨h1, h2, h3, h4⟩ := refD_some c
      exact absurd h4 (h _ (gd_mem (by omega)) _ (gd_mem (by omega)) _ (gd_mem h3) (gd_asc hg h1 (by omega)) (gd_asc hg h2 h3))
theorem refD_feas {l : List Dt} (hg : Good l) : refD l = none ↔ Feas l := by rw [refD_none hg, feas_iff hg]
theorem refD_isSome {l : List Dt} (hg : Good l) : (refD l).isSome = false ↔ Feas l := by rw [← refD_feas hg]; cases refD l <;> simp

/-- The least of the bounds of pairs, as the reference finds it. -/
def rbnd (l : List Dt) (f : Dt → Dt → Int) : Int × Int := ((prs l).map fun x => (f x.1 x.2, x.2.t - x.1.t)).foldl stepR (f (gd l 0) (gd l 1), (gd l 1).t - (gd l 0).t)
theorem rbnd_spec {l : List Dt} (hg : Good l) (h2 : 2 ≤ l.length) (f : Dt → Dt → Int) : ∃ p ∈ l, ∃ q ∈ l, p.t < q.t ∧ rbnd l f = (f p q, q.t - p.t) ∧
    ∀ p' ∈ l, ∀ q' ∈ l, p'.t < q'.t → ratio (f p q) (q.t - p.t) ≤ ratio (f p' q') (q'.t - p'.t) := by
  have h01 := gd_asc hg (i := 0) (j := 1) (by omega) (by omega)
  obtain ⟨h1, h3, _⟩ := foldR_spec ((prs l).map fun x => (f x.1 x.2, x.2.t - x.1.t)) (f (gd l 0) (gd l 1), (gd l 1).t - (gd l 0).t)
    (fun x hx => by
      obtain ⟨y, hy, rfl⟩ := List.mem_map.1 hx
      obtain ⟨_, _, h⟩ := (mem_prs hg (p := y.1) (q := y.2)).1 hy
      show 0 < y.2.t - y.1.t
      omega) (show 0 < (gd l 1).t - (gd l 0).t by omega)
  have hin : ∀ p' ∈ l, ∀ q' ∈ l, p'.t < q'.t → ratio (rbnd l f).1 (rbnd l f).2 ≤ ratio (f p' q') (q'.t - p'.t) := fun p' hp' q' hq' h =>
    h3 (f p' q', q'.t - p'.t) (List.mem_map.2 ⟨(p', q'), (mem_prs hg).2 ⟨hp', hq', h⟩, rfl⟩)
  rcases h1 with h1 | h1
  · obtain ⟨y, hy, e⟩ := List.mem_map.1 h1
    obtain ⟨m1, m2, h⟩ := (mem_prs hg (p := y.1) (q := y.2)).1 hy
    have e' : rbnd l f = (f y.1 y.2, y.2.t - y.1.t) := e.symm
    rw [e'] at hin
    exact ⟨y.1, m1, y.2, m2, h, e', hin⟩
  · have e' : rbnd l f = (f (gd l 0) (gd l 1), (gd l 1).t - (gd l 0).t) := h1
    rw [e'] at hin
    exact ⟨_, gd_mem (by omega), _, gd_mem (by omega), h01, e', hin⟩
theorem rbnd_most {l : List Dt} (hg : Good l) (hf : Feas l) (h2 : 2 ≤ l.length) (t : Int) : IsMost l t (ratio (rbnd l (fun p q => mostN p q t)).1 (rbnd l (fun p q => mostN p q t)).2) := by
  obtain ⟨p, hp, q, hq, h, e, hm⟩ := rbnd_spec hg h2 (fun p q => mostN p q t)
  rw [e]; exact IsMost.of_pairs hg hf hp hq h hm
theorem rbnd_rate {l : List Dt} (hg : Good l) (hf : Feas l) (h2 : 2 ≤ l.length) : IsRate l (ratio (rbnd l (fun p q => q.hi - p.lo)).1 (rbnd l (fun p q => q.hi - p.lo)).2) := by
  obtain ⟨p, hp, q, hq, h, e, hm⟩ := rbnd_spec hg h2 (fun p q => q.hi - p.lo)
  rw [e]; exact (rate_of_pairs hg hf hp hq h hm).1
/-- Whether the reference has bounds. -/
def rightD (l : List Dt) : Bool := okD l && decide (2 ≤ l.length) && (refD l).isNone
theorem right_iff {l : List Dt} (h : okD l = true) : rightD l = true ↔ Two l ∧ Feas l := by
  unfold rightD
  rw [h, two_iff (okD_good h), ← refD_feas (okD_good h)]
  simp
/-- The reference's forecast. -/
def rfc (l : List Dt) (t : Int) : Option (Rat × Rat) :=
  if rightD l && inDay t then some (ratio (-(rbnd (l.map ng) (fun p q => mostN p q t)).1) (rbnd (l.map ng) (fun p q => mostN p q t)).2, ratio (rbnd l (fun p q => mostN p q t)).1 (rbnd l (fun p q => mostN p q t)).2) else none
theorem rfc_eq (l : List Dt) (t : Int) : rfc l t = fcst l t := by
  cases h : okD l with
  | false => unfold rfc fcst rightD; rw [h]; rfl
  | true =>
    cases ht : inDay t with
    | false => unfold rfc fcst; rw [ht, Bool.and_false, Bool.and_false]; rfl
    | true =>
      cases hr : rightD l with
      | false =>
        rw [(fcst_none h ht).2 (fun hc => by rw [(right_iff h).2 hc] at hr; cases hr)]
        unfold rfc; rw [hr]; rfl
      | true =>
        obtain ⟨h2, hf⟩ := (right_iff h).1 hr
        have hl := (two_iff (okD_good h)).1 h2
        unfold rfc
        rw [hr, ht, if_pos (by decide)]
        refine (fcst_eq h ht h2 ?_ (rbnd_most (okD_good h) hf hl t)).symm
        rw [ratio_neg]
        have := (rbnd_most (okD_good h).ng hf.ng (by simpa using hl) t).ng
        exact this
def rrt (l : List Dt) : Option (Rat × Rat) :=
  if rightD l then some (ratio (-(rbnd (l.map ng) (fun p q => q.hi - p.lo)).1) (rbnd (l.map ng) (fun p q => q.hi - p.lo)).2, ratio (rbnd l (fun p q => q.hi - p.lo)).1 (rbnd l (fun p q => q.hi - p.lo)).2) else none
theorem rrt_eq (l : List Dt) : rrt l = rts l := by
  cases h : okD l with
  | false => unfold rrt rts rightD; rw [h]; rfl
  | true =>
    cases hr : rightD l with
    | false =>
      rw [(rts_none h).2 (fun hc => by rw [(right_iff h).2 hc] at hr; cases hr)]
      unfold rrt; rw [hr]; rfl
    | true =>
      obtain ⟨h2, hf⟩ := (right_iff h).1 hr
      have hl := (two_iff (okD_good h)).1 h2
      unfold rrt
      rw [hr, if_pos rfl]
      refine (rts_eq h h2 ?_ (rbnd_rate (okD_good h) hf hl)).symm
      rw [ratio_neg]
      exact (rbnd_rate (okD_good h).ng hf.ng (by simpa using hl)).ng
/-- Whether the values on a day reach a limit. -/
def rch (l : List Dt) (k t : Int) : Option Int := match fcst l t with
  | some (a, b) => if decide (-1000000 ≤ k) && decide (k ≤ 1000000) then some (if (k : Rat) ≤ a then 1 else if b < (k : Rat) then -1 else 0) else none
  | none => none
end DecM
end Go.Proofs.YtebokdboodgkpaaGreatDoor
