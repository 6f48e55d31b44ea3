/- ToInt. -/
import Derived.Test.YtonbmhdbcbbagaaGreatDoorPkC
import Derived.Lib.AtoiAllCases
import Derived.WalkLawsBesides
import Derived.WalkSpells
namespace Go.Proofs.YtonbmhdbcbbagaaGreatDoor
open Go.RowKit Go.Shelf
attribute [local go_sem] Oper.semAt_some

/-- What ToInt needs of the library's variables. -/
structure EnvT (w : World) : Prop where
  env : Env w
  syn : ∃ tp p, w.var? Tryz.prog "strconv.ErrSyntax" = some #[.iface tp p]
  rng : ∃ tp p, w.var? Tryz.prog "strconv.ErrRange" = some #[.iface tp p]
theorem global_syn : (Tryz.prog.globalNamed "strconv.ErrSyntax").isSome = true := by kernel_rfl
theorem global_rng : (Tryz.prog.globalNamed "strconv.ErrRange").isSome = true := by kernel_rfl
theorem EnvT.below {w w' : World} {B : Nat} (h : EnvT w) (hb : Below B w w') (hB : w.heap.size ≤ B) : EnvT w' := by
  obtain ⟨g1, hg1⟩ := Option.isSome_iff_exists.1 global_syn
  obtain ⟨g2, hg2⟩ := Option.isSome_iff_exists.1 global_rng
  obtain ⟨t1, p1, h1⟩ := h.syn
  obtain ⟨t2, p2, h2⟩ := h.rng
  exact ⟨h.env.below hb hB, ⟨t1, p1, Joins.var_stays hg1 h1 hb hB⟩, ⟨t2, p2, Joins.var_stays hg2 h2 hb hB⟩⟩

/-- What digits are parsed as. -/
theorem parseUint10_dn : ∀ (l : List UInt8) (acc : Nat), (∀ b ∈ l, isD b = true) → acc < 18446744073709551616 → Lib.parseUint10 acc l = if dnF acc l < 18446744073709551616 then .ok (dnF acc l) else .range
  | [], acc, _, ha => by
    have e : dnF acc [] = acc := rfl
    rw [e, if_pos ha]; rfl
  | c :: r, acc, h, ha => by
    have hc := isD_iff.1 (h c (by simp))
    have hr : ∀ b ∈ r, isD b = true := fun b hb => h b (by simp [hb])
    have hge : acc * 10 + (c.toNat - 48) ≤ dnF acc (c :: r) := by
      show _ ≤ dnF (acc * 10 + (c.toNat - 48)) r
      rw [dnF_eq]
      exact Nat.le_trans (Nat.le_mul_of_pos_right _ (Nat.pow_pos (by decide))) (Nat.le_add_right _ _)
    simp only [Lib.parseUint10]
    rw [if_pos (by omega)]
    split
    · rw [if_neg (by omega)]
    · split
      · rw [if_neg (by omega)]
      · exact parseUint10_dn r _ hr (by omega)
theorem parseMag_dn {l : List UInt8} (h : ∀ b ∈ l, isD b = true) (h0 : l ≠ []) : Lib.parseMag l = if dnum l < 18446744073709551616 then .ok (dnum l) else .range := by
  unfold Lib.parseMag
  rw [if_neg h0]
  exact parseUint10_dn l 0 h (by decide)

theorem atoiAll_valid {l : List UInt8} (h : validB l = true) : Lib.atoiAll l = if Fits (ival l) then .ok (ival l) else .range := by
  have hp := valid_parts h
  have hne : body l ≠ [] := fun e => by
    unfold validB at h
    rw [e] at h; simp at h
  unfold Fits
  unfold ival
  cases l with
  | nil => exact absurd rfl hne
  | cons c r =>
    by_cases h45 : c = 45
    · subst h45
      rw [body_minus] at hp hne ⊢
      rw [Lib.atoiAll_minus, parseMag_dn hp.1 hne, hasPrefix_cons]
      simp only [beq_self_eq_true, if_true]
      by_cases h1 : dnum r < 18446744073709551616
      · rw [if_pos h1]
        simp only [Lib.signed]
        by_cases h2 : 9223372036854775808 < dnum r
        · rw [if_pos h2, if_neg (by omega)]
        · rw [if_neg h2, if_pos (by omega)]
      · rw [if_neg h1, if_neg (by omega)]; rfl
    · rw [body_plain r h45] at hp hne ⊢
      have hc := isD_iff.1 (hp.1 c (by simp))
      rw [Lib.atoiAll_plain c r (by omega) (by omega), parseMag_dn hp.1 hne, hasPrefix_cons]
      have e : ((45 : UInt8) == c) = false := beq_eq_false_iff_ne.2 (fun e => h45 e.symm)
      rw [e]
      simp only [Bool.false_eq_true, if_false]
      by_cases h1 : dnum (c :: r) < 18446744073709551616
      · rw [if_pos h1]
        simp only [Lib.signless]
        by_cases h2 : 9223372036854775808 ≤ dnum (c :: r)
        · rw [if_pos h2, if_neg (by omega)]
        · rw [if_neg h2, if_pos (by omega)]
      · rw [if_neg h1, if_neg (by omega)]; rfl

theorem below_or {w w' : World} (h : w' = w ∨ ∃ t, w' = Lib.bytesWorld w 5 t) : Below w.heap.size w w' := by
  rcases h with rfl | ⟨t, rfl⟩
  · exact Below.refl _ _
  · exact Joins.below_bytesWorld _ _ _ _ (Nat.le_refl _)

set_option maxRecDepth 100000 in
set_option maxHeartbeats 2000000 in
theorem toInt_any (s : ByteArray) (hs : s.size ≤ 1000000) (w : World) (hE : EnvT w) :
    Calls Tryz.prog 43 #[.string s] w (Gives w fun r _ => r = toT s) := by
  obtain ⟨t1, p1, h1⟩ := hE.syn
  obtain ⟨t2, p2, h2⟩ := hE.rng
  rcases ha : Lib.atoiAll s.data.toList with v | _ | _
  · skip
    have Pk := fun W => Tryz.strconv_Atoi_ok s (by omega) v ha W
    cases hv : okS s with
    | true =>
      have hF := atoiAll_valid hv
      have hz : Fits (zS s) ∧ v = zS s := by
        rw [ha] at hF
        by_cases h : Fits (ival s.data.toList)
        · rw [if_pos h] at hF
          exact ⟨h, by injection hF⟩
        · rw [if_neg h] at hF; cases hF
      have HT := Lib.hid (show toT s = .tuple #[.int .i64 v, .int .i64 0] by unfold toT; rw [if_pos ⟨hv, hz.1⟩, hz.2])
      have Pv := fun W => isV s W
      rw [hv] at Pv
      clear ha hv hF hz h1 h2
      go_enter Tryz.func43, Tryz.ntmps43
      go_wp2_with fail
      refine (Pk _).mono ?_
      rintro e W1 ⟨rfl, hb1⟩
      go_wp2_with fail
      refine (Pv _).mono ?_
      rintro e W2 ⟨rfl, hb2⟩
      go_wp2
      go_ret2
      exact ⟨⟨_, rfl, HT.out.symm⟩, kb_call hb2 (below_or hb1) (Nat.le_refl _)⟩
    | false =>
      have HT := Lib.hid (show toT s = .tuple #[.int .i64 0, .int .i64 30] by unfold toT; rw [if_neg (by rw [hv]; simp)])
      have Pv := fun W => isV s W
      rw [hv] at Pv
      clear ha hv h1 h2
      go_enter Tryz.func43, Tryz.ntmps43
      go_wp2_with fail
      refine (Pk _).mono ?_
      rintro e W1 ⟨rfl, hb1⟩
      go_wp2_with fail
      refine (Pv _).mono ?_
      rintro e W2 ⟨rfl, hb2⟩
      go_wp2
      go_ret2
      exact ⟨⟨_, rfl, HT.out.symm⟩, kb_call hb2 (below_or hb1) (Nat.le_refl _)⟩
  · skip
    have Pk := fun W (h : W.var? Tryz.prog "strconv.ErrSyntax" = some #[.iface t1 p1]) => Any.strconv_Atoi_syntax_var Tryz.laysC172 s (by omega) ha t1 p1 W h
    have HT := Lib.hid (show toT s = .tuple #[.int .i64 0, .int .i64 30] by
      unfold toT
      rw [if_neg]
      intro h
      have := atoiAll_valid h.1
      rw [ha] at this
      split at this <;> cases this)
    have Pv := fun W => isV s W
    have H1 := Lib.hid h1
    clear ha h1 h2
    generalize okS s = ok at *
    cases ok
    all_goals
      go_enter Tryz.func43, Tryz.ntmps43
      go_wp2_with fail
      refine (Pk _ H1.out).mono ?_
      rintro e W1 ⟨N, rfl, hN, hN2, hb1⟩
      go_wp2_with fail
      refine (Pv _).mono ?_
      rintro e W2 ⟨rfl, hb2⟩
      go_wp2
      go_ret2
      exact ⟨⟨_, rfl, HT.out.symm⟩, kb_call hb2 hb1 (Nat.le_refl _)⟩
  · skip
    have Pk := fun W (h : W.var? Tryz.prog "strconv.ErrRange" = some #[.iface t2 p2]) => Tryz.strconv_Atoi_range_var s (by omega) ha t2 p2 W h
    have HT := Lib.hid (show toT s = .tuple #[.int .i64 0, .int .i64 30] by
      unfold toT
      rw [if_neg]
      intro h
      have := atoiAll_valid h.1
      have hz : Fits (ival s.data.toList) := h.2
      rw [ha, if_pos hz] at this
      cases this)
    have Pv := fun W => isV s W
    have H2 := Lib.hid h2
    clear ha h1 h2
    generalize Lib.atoiSat s.data.toList = sat at *
    generalize okS s = ok at *
    cases ok
    all_goals
      go_enter Tryz.func43, Tryz.ntmps43
      go_wp2_with fail
      refine (Pk _ H2.out).mono ?_
      rintro e W1 ⟨N, rfl, hN, hN2, hb1⟩
      go_wp2_with fail
      refine (Pv _).mono ?_
      rintro e W2 ⟨rfl, hb2⟩
      go_wp2
      go_ret2
      exact ⟨⟨_, rfl, HT.out.symm⟩, kb_call hb2 hb1 (Nat.le_refl _)⟩
end Go.Proofs.YtonbmhdbcbbagaaGreatDoor
