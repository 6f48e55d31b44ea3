/- Plain facts for DecayHelly. -/
import Derived.Test.YtonbmhdbcbbagaaGreatDoorDecZh
namespace Go.Proofs.YtonbmhdbcbbagaaGreatDoor
open Go.RowKit
open DecM (Dt fcst rts okD inDay refD gd gd_mem gd_lt FitAll ext)

theorem lnO_some2 {l : List Dt} {t : Int} {hi : Bool} {p q : Rat} (h : lnO l t hi = some (p, q)) : FitAll 0 p q l ∧ BQ 13 p ∧ BQ 13 q := by
  cases hi with
  | true => exact lnO_some h
  | false =>
    unfold lnO at h
    cases c : exO l t false with
    | none => rw [c] at h; cases h
    | some x =>
      rw [c] at h
      cases h
      have hx := exO_ok c
      unfold exO at c
      split at c
      · rename_i hc
        rw [Bool.and_eq_true] at hc
        have hm := (DecM.ext_low (DecM.okD_good hc.1) c).2
        have hf := DecM.fitting_fit (DecM.okD_good hc.1) hm
        exact ⟨DecM.Ln.val_fit hf.1 hf.2 0, bq_val hx.1 hx.2 (by decide), bq_slope hx.1 hx.2⟩
      · cases c
theorem lnO_ex2 {l : List Dt} {t : Int} {hi : Bool} (hok : okD l = true) (ht : inDay t = true) (h : DecM.Two l ∧ DecM.Feas l) : ∃ p q, lnO l t hi = some (p, q) := by
  unfold lnO exO
  rw [hok, ht]
  cases c : ext l t hi with
  | none => exact absurd h ((DecM.ext_none (DecM.okD_good hok)).1 c)
  | some x => exact ⟨_, _, rfl⟩
theorem lnO_no {l : List Dt} {t : Int} {hi : Bool} (hok : okD l = true) (ht : inDay t = true) (h : ¬ (DecM.Two l ∧ DecM.Feas l)) : lnO l t hi = none := by
  unfold lnO exO
  rw [hok, ht]
  show Option.map _ (if (true && true) = true then ext l t hi else none) = none
  rw [show (if (true && true) = true then ext l t hi else none) = ext l t hi from rfl, (DecM.ext_none (DecM.okD_good hok)).2 h]; rfl
/-- What Fits says of a model of small fractions. -/
theorem fitO_all {l : List Dt} (hok : okD l = true) {p q : Rat} (hp : BQ 13 p) (hq : BQ 13 q) (h : fitO l (some p) (some q) = true) : FitAll 0 p q l := by
  have hd := (DecM.okD_iff.1 hok).2.1
  unfold fitO at h
  rw [hok] at h
  have h2 : l.any (offM (some p) (some q)) = false := by simpa using h
  rw [List.any_eq_false] at h2
  intro d hm
  have h1 := hd d hm
  have h3 := h2 d hm
  unfold offM at h3
  rw [valO_bq hp hq (DecM.inDay_iff.2 ⟨h1.1, h1.2.1⟩)] at h3
  have h4 : ¬ ((decide (p + q * (d.t : Rat) < (d.lo : Rat)) || decide ((d.hi : Rat) < p + q * (d.t : Rat))) = true) := h3
  rw [Bool.or_eq_true, decide_eq_true_iff, decide_eq_true_iff, not_or] at h4
  have e : q * ((d.t : Rat) - ((0 : Int) : Rat)) = q * d.t := by rw [Rat.intCast_zero]; grind
  unfold DecM.Fit
  rw [e]
  exact ⟨Rat.not_lt.1 h4.1, Rat.not_lt.1 h4.2⟩
theorem fitO_not {l : List Dt} (hok : okD l = true) (hf : ¬ DecM.Feas l) {p q : Rat} (hp : BQ 13 p) (hq : BQ 13 q) : fitO l (some p) (some q) = false := by
  cases h : fitO l (some p) (some q) with
  | false => rfl
  | true => exact absurd ⟨p, q, fitO_all hok hp hq h⟩ hf
theorem okD_sub {l m : List Dt} (hok : okD l = true) (hs : ∀ p ∈ m, p ∈ l) (ha : m.Pairwise (fun p q => p.t < q.t)) (hl : m.length ≤ 16) : okD m = true :=
  DecM.okD_iff.2 ⟨ha, fun p hp => (DecM.okD_iff.1 hok).2.1 p (hs p hp), hl⟩
/-- Any two data are fitted. -/
theorem two_law {p q : Dt} (hok : okD [p, q] = true) {d : Int} (hd : inDay d = true) : ∃ u v, lnO [p, q] d false = some (u, v) ∧ fitO [p, q] (some u) (some v) = true ∧ BQ 13 u ∧ BQ 13 v := by
  have hg := DecM.okD_good hok
  have h1 : DecM.Two [p, q] := (DecM.two_iff hg).2 (by simp)
  have hpq : p.t < q.t := by have := (DecM.okD_iff.1 hok).1; simpa using this
  have h2 : DecM.Feas [p, q] := (DecM.feas_iff hg).2 (fun a ha b hb c hc hab hbc => by
    simp only [List.mem_cons, List.not_mem_nil, or_false] at ha hb hc
    rcases ha with rfl | rfl <;> rcases hb with rfl | rfl <;> rcases hc with rfl | rfl <;> omega)
  obtain ⟨u, v, h⟩ := lnO_ex2 (hi := false) hok hd ⟨h1, h2⟩
  obtain ⟨hf, bu, bv⟩ := lnO_some2 h
  exact ⟨u, v, h, fitO_of hok bu bv hf, bu, bv⟩
/-- What DecayHelly needs where three data are apart. -/
structure HellyF (l : List Dt) (d : Int) (i j k : Nat) : Prop where
  ij : i < j
  jk : j < k
  kl : k < l.length
  bad : ∀ p q, BQ 13 p → BQ 13 q → fitO l (some p) (some q) = false
  ln : lnO l d true = none
  three : fcst [gd l i, gd l j, gd l k] d = none
  o1 : okD [gd l j, gd l k] = true
  o2 : okD [gd l i, gd l k] = true
  o3 : okD [gd l i, gd l j] = true
theorem helly_law {l : List Dt} (hok : okD l = true) {d : Int} (hd : inDay d = true) :
    (refO l = none ∧ DecM.Feas l ∧ ((l.length : Int) < 2 ∧ lnO l d true = none ∨ ¬ (l.length : Int) < 2 ∧ ∃ p q, lnO l d true = some (p, q) ∧ fitO l (some p) (some q) = true ∧ BQ 13 p ∧ BQ 13 q)) ∨
    ∃ i j k, refO l = some (i, j, k) ∧ ¬ DecM.Feas l ∧ HellyF l d i j k := by
  have hg := DecM.okD_good hok
  have hr : refO l = refD l := by unfold refO; rw [if_pos hok]
  cases h : refD l with
  | none =>
    left
    have hf := (DecM.refD_feas hg).1 h
    refine ⟨hr.trans h, hf, ?_⟩
    by_cases h2 : 2 ≤ l.length
    · right
      obtain ⟨p, q, e⟩ := lnO_ex2 (hi := true) hok hd ⟨(DecM.two_iff hg).2 h2, hf⟩
      obtain ⟨hfa, bp, bq⟩ := lnO_some2 e
      exact ⟨by omega, p, q, e, fitO_of hok bp bq hfa, bp, bq⟩
    · left
      exact ⟨by omega, lnO_no hok hd (fun h => h2 ((DecM.two_iff hg).1 h.1))⟩
  | some x =>
    obtain ⟨i, j, k⟩ := x
    right
    have hnf : ¬ DecM.Feas l := fun hf => by rw [(DecM.refD_feas hg).2 hf] at h; cases h
    obtain ⟨h1, h2, h3, ha⟩ := DecM.refD_some h
    have mi := gd_mem (l := l) (i := i) (by omega)
    have mj := gd_mem (l := l) (i := j) (by omega)
    have mk := gd_mem (l := l) (i := k) h3
    have tij := DecM.gd_asc hg h1 (by omega)
    have tjk := DecM.gd_asc hg h2 h3
    have o3 : okD [gd l i, gd l j, gd l k] = true := okD_sub hok (by simp [mi, mj, mk]) (by simp; omega) (by simp)
    refine ⟨i, j, k, hr.trans h, hnf, ⟨h1, h2, h3, fun p q hp hq => fitO_not hok hnf hp hq, lnO_no hok hd (fun h => hnf h.2), ?_, ?_, ?_, ?_⟩⟩
    · refine (DecM.fcst_none o3 hd).2 fun hh => ?_
      exact (DecM.feas_iff (DecM.okD_good o3)).1 hh.2 _ (by simp) _ (by simp) _ (by simp) tij tjk ha
    · exact okD_sub hok (by simp [mj, mk]) (by simp; omega) (by simp)
    · exact okD_sub hok (by simp [mi, mk]) (by simp; omega) (by simp)
    · exact okD_sub hok (by simp [mi, mj]) (by simp; omega) (by simp)
end Go.Proofs.YtonbmhdbcbbagaaGreatDoor
