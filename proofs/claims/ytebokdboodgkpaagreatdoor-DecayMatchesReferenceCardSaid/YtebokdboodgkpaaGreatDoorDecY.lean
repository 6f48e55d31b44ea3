/- Plain facts for the laws of package decay: sizes, the line found, rates and forecasts of a later day. -/
import Derived.Test.YtebokdboodgkpaaGreatDoorDecX
namespace Go.Proofs.YtebokdboodgkpaaGreatDoor
open Go.RowKit
open DecM (Dt fcst rts okD inDay Ln FitAll IsLow IsRate IsMost IsLeast ext bot top)

theorem BQ.mul {k : Nat} {a b : Rat} (h : BQ k a) (g : BQ k b) : BQ (k + k) (a * b) := by
  rw [← mul_divInt]; exact bq_divInt (h.1.mul g.1) (h.2.mul g.2) (Int.mul_pos (rat_den_pos a) (rat_den_pos b))
theorem BQ.add {k : Nat} {a b : Rat} (h : BQ k a) (g : BQ k b) : BQ (k + k + 1) (a + b) := by
  rw [← add_divInt]; exact bq_divInt ((h.1.mul g.2).add (g.1.mul h.2)) ((h.2.mul g.2).mono (by omega)) (Int.mul_pos (rat_den_pos a) (rat_den_pos b))
theorem BQ.sub {k : Nat} {a b : Rat} (h : BQ k a) (g : BQ k b) : BQ (k + k + 1) (a - b) := by
  rw [← sub_divInt]; exact bq_divInt ((h.1.mul g.2).sub (g.1.mul h.2)) ((h.2.mul g.2).mono (by omega)) (Int.mul_pos (rat_den_pos a) (rat_den_pos b))
theorem BQ.oadd {k : Nat} {a b : Rat} (h : BQ k a) (g : BQ k b) (hk : k + k + 1 ≤ 200) : oAdd (some a) (some b) = some (a + b) := by
  rw [oAdd_some]; unfold oIf fAdd
  rw [decide_eq_true ((h.1.mul g.2).small (by omega)), decide_eq_true ((g.1.mul h.2).small (by omega)), decide_eq_true (((h.1.mul g.2).add (g.1.mul h.2)).small (by omega)), decide_eq_true ((h.2.mul g.2).small (by omega))]; rfl
theorem BQ.osub {k : Nat} {a b : Rat} (h : BQ k a) (g : BQ k b) (hk : k + k + 1 ≤ 200) : oSub (some a) (some b) = some (a - b) := by
  rw [oSub_some]; unfold oIf fSub
  rw [decide_eq_true ((h.1.mul g.2).small (by omega)), decide_eq_true ((g.1.mul h.2).small (by omega)), decide_eq_true (((h.1.mul g.2).sub (g.1.mul h.2)).small (by omega)), decide_eq_true ((h.2.mul g.2).small (by omega))]; rfl
theorem BQ.omul {k : Nat} {a b : Rat} (h : BQ k a) (g : BQ k b) (hk : k + k ≤ 200) : oMul (some a) (some b) = some (a * b) := by
  rw [oMul_some]; unfold oIf fMul
  rw [decide_eq_true ((h.1.mul g.1).small (by omega)), decide_eq_true ((h.2.mul g.2).small (by omega))]; rfl
theorem bd13 {z : Int} (h : -9000000000000 ≤ z ∧ z ≤ 9000000000000) : Bd 13 z := Bd.lit 13 (by omega)
theorem BQ.int {z : Int} (h : -9000000000000 ≤ z ∧ z ≤ 9000000000000) : BQ 13 (z : Rat) := ⟨bd13 h, show Bd 13 ((1 : Nat) : Int) from bd13 (by decide)⟩
theorem bq_ratio {n d : Int} (h : -9000000000000 ≤ n ∧ n ≤ 9000000000000) (h0 : 0 < d) (h1 : d ≤ 9000000000000) : BQ 13 (DecM.ratio n d) := by
  unfold DecM.ratio; rw [← Rat.divInt_eq_div]; exact bq_divInt (bd13 h) (bd13 (by omega)) h0
theorem bq_val {x : Ln} (h : LnOk x) (h0 : x.t < x.u) {t : Int} (ht : 0 ≤ t ∧ t ≤ 800000) : BQ 13 (x.val t) :=
  bq_ratio (by have := on_le h ht; omega) (by omega) (by have := h.t; have := h.u; omega)
theorem bq_slope {x : Ln} (h : LnOk x) (h0 : x.t < x.u) : BQ 13 x.slope :=
  bq_ratio (by have := h.v; have := h.w; omega) (by omega) (by have := h.t; have := h.u; omega)
theorem fcst_bq {l : List Dt} {t : Int} {a b : Rat} (h : fcst l t = some (a, b)) : BQ 13 a ∧ BQ 13 b := by
  rw [fcst_ex2] at h
  cases c0 : exO l t false with
  | none => rw [c0] at h; cases h
  | some x => cases c1 : exO l t true with
    | none => rw [c0, c1] at h; cases h
    | some y =>
      rw [c0, c1] at h
      cases h
      exact ⟨bq_val (exO_ok c0).1 (exO_ok c0).2 (exO_day c0), bq_val (exO_ok c1).1 (exO_ok c1).2 (exO_day c1)⟩
theorem rts_bq {l : List Dt} {a b : Rat} (h : rts l = some (a, b)) : BQ 13 a ∧ BQ 13 b := by
  unfold DecM.rts at h
  split at h
  · rename_i hok
    cases c0 : bot l with
    | none => rw [c0] at h; cases h
    | some x => cases c1 : top l with
      | none => rw [c0, c1] at h; cases h
      | some y =>
        rw [c0, c1] at h
        cases h
        have hx := bt_ok hok c0
        have hy := bt_ok hok c1
        exact ⟨bq_slope hx.1 hx.2, bq_slope hy.1 hy.2⟩
  · cases h
theorem lnO_some {l : List Dt} {t : Int} {p q : Rat} (h : lnO l t true = some (p, q)) : FitAll 0 p q l ∧ BQ 13 p ∧ BQ 13 q := by
  unfold lnO at h
  cases c : exO l t true with
  | none => rw [c] at h; cases h
  | some x =>
    rw [c] at h
    cases h
    have hx := exO_ok c
    unfold exO at c
    split at c
    · rename_i hc
      rw [Bool.and_eq_true] at hc
      have hm := (DecM.ext_high (DecM.okD_good hc.1) c).2
      have hf := DecM.fitting_fit (DecM.okD_good hc.1) hm
      exact ⟨DecM.Ln.val_fit hf.1 hf.2 0, bq_val hx.1 hx.2 (by decide), bq_slope hx.1 hx.2⟩
    · cases c
theorem lnO_ex {l : List Dt} {t : Int} (hok : okD l = true) (ht : inDay t = true) (h : DecM.Two l ∧ DecM.Feas l) : ∃ p q, lnO l t true = some (p, q) := by
  unfold lnO exO
  rw [hok, ht]
  cases c : ext l t true with
  | none => exact absurd h ((DecM.ext_none (DecM.okD_good hok)).1 c)
  | some x => exact ⟨_, _, rfl⟩
theorem valO_bq {p q : Rat} (hp : BQ 13 p) (hq : BQ 13 q) {t : Int} (ht : inDay t = true) : valO (some p) (some q) t = some (p + q * t) := by
  have h := DecM.inDay_iff.1 ht
  have hm := hq.omul (BQ.int (z := t) (by omega)) (by omega)
  have ha := (hp.mono (k := 26) (by omega)).oadd (hq.mul (BQ.int (z := t) (by omega))) (by omega)
  unfold valO
  rw [ht, hm, ha]; rfl
theorem fitO_of {l : List Dt} (hok : okD l = true) {p q : Rat} (hp : BQ 13 p) (hq : BQ 13 q) (h : FitAll 0 p q l) : fitO l (some p) (some q) = true := by
  have hd := (DecM.okD_iff.1 hok).2.1
  unfold fitO
  rw [hok]
  have : l.any (offM (some p) (some q)) = false := by
    rw [List.any_eq_false]
    intro d hm
    have h1 := hd d hm
    obtain ⟨h2, h3⟩ := h d hm
    have e : q * ((d.t : Rat) - ((0 : Int) : Rat)) = q * d.t := by rw [Rat.intCast_zero]; grind
    rw [e] at h2 h3
    unfold offM
    rw [valO_bq hp hq (DecM.inDay_iff.2 ⟨h1.1, h1.2.1⟩)]
    show ¬ ((decide (p + q * (d.t : Rat) < (d.lo : Rat)) || decide ((d.hi : Rat) < p + q * (d.t : Rat))) = true)
    rw [decide_eq_false (Rat.not_lt.2 h2), decide_eq_false (Rat.not_lt.2 h3)]
    decide
  rw [this]; rfl

/-- What DecayRates needs. -/
structure RatesF (l : List Dt) (d n : Int) (r u a b c e p q : Rat) : Prop where
  rts : rts l = some (r, u)
  f1 : fcst l d = some (a, b)
  f2 : fcst l (d + n) = some (c, e)
  ln : lnO l d true = some (p, q)
  fit : fitO l (some p) (some q) = true
  low : r ≤ q
  high : q ≤ u
  all : ∀ x y, FitAll 0 x y l → r ≤ y ∧ y ≤ u
  bs : BQ 13 r ∧ BQ 13 u ∧ BQ 13 a ∧ BQ 13 b ∧ BQ 13 c ∧ BQ 13 e ∧ BQ 13 p ∧ BQ 13 q
  s1 : r * n ≤ c - a ∧ c - a ≤ u * n
  s2 : r * n ≤ e - b ∧ e - b ≤ u * n
theorem rates_law {l : List Dt} (hok : okD l = true) {d n : Int} (hd : 0 ≤ d ∧ d ≤ 5000) (hn : 1 ≤ n ∧ n ≤ 500) :
    (rts l = none ∧ fcst l d = none ∧ fcst l (d + n) = none) ∨ ∃ r u a b c e p q, RatesF l d n r u a b c e p q := by
  have t1 : inDay d = true := DecM.inDay_iff.2 (by omega)
  have t2 : inDay (d + n) = true := DecM.inDay_iff.2 (by omega)
  by_cases h : DecM.Two l ∧ DecM.Feas l
  · right
    cases hr : rts l with
    | none => exact absurd h ((DecM.rts_none hok).1 hr)
    | some ru =>
      obtain ⟨r, u⟩ := ru
      obtain ⟨a, b, f1, la, mb⟩ := DecM.fcst_ex hok t1 h.1 h.2
      obtain ⟨c, e, f2, lc, me⟩ := DecM.fcst_ex hok t2 h.1 h.2
      obtain ⟨p, q, hl⟩ := lnO_ex hok t1 h
      obtain ⟨hf, bp, bq⟩ := lnO_some hl
      obtain ⟨_, hlow, hrate⟩ := DecM.rts_some hr
      obtain ⟨br, bu⟩ := rts_bq hr
      obtain ⟨ba, bb⟩ := fcst_bq f1
      obtain ⟨bc, be⟩ := fcst_bq f2
      exact ⟨r, u, a, b, c, e, p, q, hr, f1, f2, hl, fitO_of hok bp bq hf, hlow.le _ _ hf, hrate.le _ _ hf, fun x y hxy => ⟨hlow.le _ _ hxy, hrate.le _ _ hxy⟩, ⟨br, bu, ba, bb, bc, be, bp, bq⟩,
        DecM.least_step (by omega) la lc hlow hrate, DecM.most_step (by omega) mb me hlow hrate⟩
  · exact .inl ⟨(DecM.rts_none hok).2 h, (DecM.fcst_none hok t1).2 h, (DecM.fcst_none hok t2).2 h⟩
end Go.Proofs.YtebokdboodgkpaaGreatDoor
