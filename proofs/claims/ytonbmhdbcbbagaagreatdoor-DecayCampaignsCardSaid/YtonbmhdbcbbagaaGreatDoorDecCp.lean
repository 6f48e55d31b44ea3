/- Plain facts for DecayCampaigns. -/
import Derived.Test.YtonbmhdbcbbagaaGreatDoorDecHa
import Derived.Test.YtonbmhdbcbbagaaGreatDoorDecWa
namespace Go.Proofs.YtonbmhdbcbbagaaGreatDoor
open Go.RowKit
open DecM (Dt fcst okD inDay refD gd Feas Two ins IsLeast IsMost)

theorem refO_none {l : List Dt} (hok : okD l = true) : refO l = none ↔ Feas l := by
  unfold refO; rw [if_pos hok]; exact DecM.refD_feas (DecM.okD_good hok)
/-- Without a forecast. -/
theorem camp_none {l : List Dt} (hok : okD l = true) {d : Int} (hd : inDay d = true) (h : fcst l d = none) : (refO l).isSome = true ∨ (refO l).isSome = false ∧ (l.length : Int) < 2 := by
  have h1 := (DecM.fcst_none hok hd).1 h
  cases hr : refO l with
  | some x => exact .inl rfl
  | none =>
    refine .inr ⟨rfl, ?_⟩
    have hf := (refO_none hok).1 hr
    have : ¬ 2 ≤ l.length := fun h2 => h1 ⟨(DecM.two_iff (DecM.okD_good hok)).2 h2, hf⟩
    omega
/-- What a further datum makes of forecasts. -/
structure CampF (l : List Dt) (d : Dt) (s : Int) (x y a b : Rat) : Prop where
  no : ¬ (x ≤ (d.hi : Rat) ∧ (d.lo : Rat) ≤ y) → (refO (ins d l)).isSome = true ∧ fcst (ins d l) s = none
  yes : (x ≤ (d.hi : Rat) ∧ (d.lo : Rat) ≤ y) → (refO (ins d l)).isSome = false ∧ ∃ p q, fcst (ins d l) s = some (p, q) ∧ a ≤ p ∧ q ≤ b ∧ ((d.lo : Rat) ≤ x → y ≤ (d.hi : Rat) → a = p ∧ b = q)
theorem camp_law {l : List Dt} (hok : okD l = true) {d : Dt} {s : Int} (hs : inDay s = true) (hday : inDay d.t = true) (hl : l.length ≤ 15) (hn : ∀ p ∈ l, p.t ≠ d.t) (hd : -1000000 ≤ d.lo ∧ d.lo ≤ d.hi ∧ d.hi ≤ 1000000)
    {x y : Rat} (h : fcst l d.t = some (x, y)) : ∃ a b, fcst l s = some (a, b) ∧ CampF l d s x y a b := by
  have hg := DecM.okD_good hok
  have hdt := DecM.inDay_iff.1 hday
  have hoi : okD (ins d l) = true := DecM.okD_ins hok hl hn ⟨hdt.1, hdt.2, hd⟩
  have hgi := DecM.okD_good hoi
  obtain ⟨_, _, hx, hy⟩ := DecM.fcst_some h
  have htf : Two l ∧ Feas l := Classical.byContradiction fun hc => by rw [(DecM.fcst_none hok hday).2 hc] at h; cases h
  have hfi := DecM.feas_ins hg hx hy hd.2.1
  cases hs' : fcst l s with
  | none => exact absurd htf ((DecM.fcst_none hok hs).1 hs')
  | some ab =>
    obtain ⟨a, b⟩ := ab
    obtain ⟨_, _, ha, hb⟩ := DecM.fcst_some hs'
    refine ⟨a, b, rfl, fun hc => ?_, fun hc => ?_⟩
    · have hnf : ¬ Feas (ins d l) := fun hf => hc (hfi.1 hf)
      refine ⟨?_, (DecM.fcst_none hoi hs).2 fun h2 => hnf h2.2⟩
      cases hr : refO (ins d l) with
      | none => exact absurd ((refO_none hoi).1 hr) hnf
      | some _ => rfl
    · have hf := hfi.2 hc
      refine ⟨by rw [(refO_none hoi).2 hf]; rfl, ?_⟩
      cases hi : fcst (ins d l) s with
      | none => exact absurd ⟨htf.1.ins, hf⟩ ((DecM.fcst_none hoi hs).1 hi)
      | some pq =>
        obtain ⟨p, q⟩ := pq
        obtain ⟨_, _, hp, hq⟩ := DecM.fcst_some hi
        obtain ⟨n1, n2⟩ := DecM.narrower ha hb hp hq
        refine ⟨p, q, rfl, n1, n2, fun c1 c2 => ?_⟩
        obtain ⟨m1, m2⟩ := DecM.same_ins hx hy c1 c2 ha hb
        exact ⟨m1.unique hp, m2.unique hq⟩
/-- The further datum: its least value is near to the forecast. -/
theorem floor_bd {x : Rat} (h : BQ 13 x) : -10000000000000 ≤ x.num / (x.den : Int) ∧ x.num / (x.den : Int) ≤ 10000000000000 := by
  have h1 := h.1
  unfold Bd at h1
  have hd : (0 : Int) < (x.den : Int) := by have := x.den_pos; omega
  have e := Int.emod_add_mul_ediv x.num (x.den : Int)
  have r0 := Int.emod_nonneg x.num (show (x.den : Int) ≠ 0 by omega)
  have r1 := Int.emod_lt_of_pos x.num hd
  generalize x.num / (x.den : Int) = q at *
  generalize (x.den : Int) = d at *
  constructor
  · refine Int.not_lt.1 fun hn => ?_
    have := Int.mul_le_mul_of_nonneg_left (show q ≤ -10000000000001 by omega) (Int.le_of_lt hd)
    omega
  · refine Int.not_lt.1 fun hn => ?_
    have := Int.mul_le_mul_of_nonneg_left (show 10000000000001 ≤ q by omega) (Int.le_of_lt hd)
    omega
theorem free_of {d : Dt} {l : List Dt} (h : freeD d l = true) : (∀ p ∈ l, p.t ≠ d.t) ∧ wthL d l = ins d l := by
  refine ⟨fun p hp e => ?_, by unfold wthL; rw [h]; rfl⟩
  unfold freeD at h
  rw [Bool.not_eq_true', List.any_eq_false] at h
  exact h p hp (by simpa using e)
end Go.Proofs.YtonbmhdbcbbagaaGreatDoor
