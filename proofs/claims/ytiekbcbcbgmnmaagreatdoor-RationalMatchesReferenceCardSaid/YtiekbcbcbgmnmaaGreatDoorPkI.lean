/- PkI: RatC RatG Join RatT RatU Wrap -/
import Derived.Test.YtiekbcbcbgmnmaaGreatDoorPkH
import Derived.Scope
import Derived.ScopeJumps
import Derived.WalkMore
import Derived.BigRegion
import Derived.RegionTactic
import Derived.Test.YtiekbcbcbgmnmaaGreatDoorPkC
import Derived.Handed
import Derived.WideShapes
/- package rational: Compare. -/
namespace Go.Proofs.YtiekbcbcbgmnmaaGreatDoor
open Go.RowKit
attribute [local go_sem] Oper.semAt_some

/-- A scope with jumps back: the pass from the label on serves the first one, too. -/
theorem scope_pass {P : Program} {a : Act} {w : World} {Q : Exit → Act → World → Prop} {c rest : Code} (l : Nat) (J : Act → World → Prop) (μ : Act → World → Nat) (hf : findLabel c l = some (Code.skip.seq rest))
    (pass : ∀ a w, J a w → rest.wp P (Exit.jump l (fun a' w' => J a' w' ∧ μ a' w' < μ a w) Q) a w)
    (first : (∀ a w, J a w → rest.wp P (Exit.jump l J Q) a w) → c.wp P (Exit.jump l J Q) a w) : (Code.scope c).wp P Q a w :=
  wp_scope_jumps l J μ hf (first fun a w h => Code.wp_mono (fun e a' w' h' => by
    cases e with
    | goto l' => exact ⟨h'.1, h'.2.1⟩
    | normal => exact h'
    | exit _ => exact h'
    | ret => exact h'
    | panic _ => exact h'
    | outgrown => exact h') (pass a w h)) (fun a w h => wp_seq (wp_skip (pass a w h)))

/-- What holds whenever the comparison begins anew. -/
def CmpAt (w : World) (tgt : Int) (h : Nat) (sg : Int) (W : World) : Prop := ∃ x1 y1 x2 y2 : Int, Small x1 ∧ Small y1 ∧ Small x2 ∧ Small y2 ∧ 0 < y1 ∧ 0 < y2 ∧ (sg = 1 ∨ sg = -1) ∧ sg * Lib.compareInt (x1 * y2) (x2 * y1) = tgt ∧
  Blk W h #[.string (I x1), .string (I y1)] 23 ∧ Blk W (h + 1) #[.string (I x2), .string (I y2)] 23 ∧ Below w.heap.size w W
/-- The denominator in a block. -/
def denAt (W : World) (h : Nat) : Nat := match W.cell? ⟨h, 1, none⟩ with
  | some (.string s) => (zS s).toNat
  | _ => 0
theorem denAt_of {W : World} {h : Nat} {n : ByteArray} {y : Int} {t : TypeId} (hb : Blk W h #[.string n, .string (I y)] t) : denAt W h = y.toNat := by
  unfold denAt; rw [(blk_two hb).2]; simp only [zS_I]

theorem cmp_quo {x1 y1 x2 y2 : Int} (h1 : 0 < y1) (h2 : 0 < y2) (hne : x1 / y1 ≠ x2 / y2) : Lib.compareInt (x1 * y2) (x2 * y1) = Lib.compareInt (x1 / y1) (x2 / y2) := by
  have e1 := Int.emod_add_mul_ediv x1 y1
  have e2 := Int.emod_add_mul_ediv x2 y2
  have a1 := Int.emod_nonneg x1 (show y1 ≠ 0 by omega)
  have a2 := Int.emod_nonneg x2 (show y2 ≠ 0 by omega)
  have b1 := Int.emod_lt_of_pos x1 h1
  have b2 := Int.emod_lt_of_pos x2 h2
  generalize x1 / y1 = p at *
  generalize x2 / y2 = q at *
  generalize x1 % y1 = r at *
  generalize x2 % y2 = s at *
  subst e1 e2
  have key : ∀ p q r s y1 y2 : Int, 0 < y1 → 0 < y2 → r < y1 → 0 ≤ s → p < q → (r + y1 * p) * y2 < (s + y2 * q) * y1 := by
    intro p q r s y1 y2 h1 h2 hr hs hpq
    have t1 : (r + y1 * p) * y2 = r * y2 + y1 * y2 * p := by grind
    have t2 : (s + y2 * q) * y1 = s * y1 + y1 * y2 * q := by grind
    have t3 : r * y2 < y1 * y2 := Int.mul_lt_mul_of_pos_right hr h2
    have t4 : 0 ≤ s * y1 := Int.mul_nonneg hs (Int.le_of_lt h1)
    have t5 : y1 * y2 * (p + 1) ≤ y1 * y2 * q := Int.mul_le_mul_of_nonneg_left (by omega) (Int.le_of_lt (Int.mul_pos h1 h2))
    have t6 : y1 * y2 * (p + 1) = y1 * y2 * p + y1 * y2 := by grind
    omega
  rcases Int.lt_trichotomy p q with h | h | h
  · rw [compareInt_lt h, compareInt_lt (key p q r s y1 y2 h1 h2 b1 a2 h)]
  · exact absurd h hne
  · rw [compareInt_gt h, compareInt_gt (key q p s r y2 y1 h2 h1 b2 a1 h)]
theorem cmp_rest {x1 y1 x2 y2 : Int} (he : x1 / y1 = x2 / y2) : Lib.compareInt (x1 * y2) (x2 * y1) = Lib.compareInt (x1 % y1 * y2) (x2 % y2 * y1) := by
  have e1 := Int.emod_add_mul_ediv x1 y1
  have e2 := Int.emod_add_mul_ediv x2 y2
  rw [he] at e1
  generalize x2 / y2 = q at *
  generalize x1 % y1 = r at *
  generalize x2 % y2 = s at *
  subst e1 e2
  have t1 : (r + y1 * q) * y2 = r * y2 + y1 * y2 * q := by grind
  have t2 : (s + y2 * q) * y1 = s * y1 + y1 * y2 * q := by grind
  rw [t1, t2]
  rcases Int.lt_trichotomy (r * y2) (s * y1) with h | h | h
  · rw [compareInt_lt h, compareInt_lt (by omega)]
  · rw [h, compareInt_eq, compareInt_eq]
  · rw [compareInt_gt h, compareInt_gt (by omega)]
theorem cmp_swap (x y : Int) : Lib.compareInt y x = -Lib.compareInt x y := by
  rcases Int.lt_trichotomy x y with h | h | h
  · rw [compareInt_lt h, compareInt_gt h]; rfl
  · rw [h, compareInt_eq]; rfl
  · rw [compareInt_gt h, compareInt_lt h]
theorem cmp_vals (x y : Int) : Lib.compareInt x y = 0 ∨ Lib.compareInt x y = 1 ∨ Lib.compareInt x y = -1 := by
  rcases Int.lt_trichotomy x y with h | h | h
  · rw [compareInt_lt h]; simp
  · subst h; rw [compareInt_eq]; exact Or.inl rfl
  · rw [compareInt_gt h]; simp
theorem cmp_zero_iff {x y : Int} : Lib.compareInt x y = 0 ↔ x = y := by
  rcases Int.lt_trichotomy x y with h | h | h
  · rw [compareInt_lt h]; constructor <;> intro e <;> omega
  · subst h; rw [compareInt_eq]; exact ⟨fun _ => rfl, fun _ => rfl⟩
  · rw [compareInt_gt h]; constructor <;> intro e <;> omega

/-- What holds at each jump back. -/
def CmpJ (w : World) (tgt : Int) (h : Nat) (n1 d1 n2 d2 : ByteArray) (a' : Act) (w' : World) : Prop := ∃ (sg : Int) (u4 u6 u7 u8 u9 u10 u11 u12 u13 u14 u15 u16 u17 u18 u19 u20 u21 u22 u23 u24 u25 u26 u27 u28 u29 u30 u31 u32 u33 u34 u35 u36 u37 u38 u39 u40 u41 u42 u43 u44 u45 u46 u47 u48 u49 u50 u51 u52 u53 u54 u55 u56 u57 u58 u59 u60 u61 u62 u63 u64 u65 u66 u67 u68 u69 u70 u71 u72 u73 : Value), a' = { tmps := #[.agg #[.string n1, .string d1], .agg #[.string n2, .string d2], .pointer (some ⟨h, 0, none⟩), .pointer (some ⟨h + 1, 0, none⟩), u4, .int .i64 sg, u6, u7, u8, u9, u10, u11, u12, u13, u14, u15, u16, u17, u18, u19, u20, u21, u22, u23, u24, u25, u26, u27, u28, u29, u30, u31, u32, u33, u34, u35, u36, u37, u38, u39, u40, u41, u42, u43, u44, u45, u46, u47, u48, u49, u50, u51, u52, u53, u54, u55, u56, u57, u58, u59, u60, u61, u62, u63, u64, u65, u66, u67, u68, u69, u70, u71, u72, u73], defers := [] } ∧ CmpAt w tgt h sg w'
theorem two_fracs {W w : World} {h : Nat} {a b c d : ByteArray} (bA : Blk W h #[.string a, .string b] 23) (bC : Blk W (h + 1) #[.string c, .string d] 23) (hB : Below w.heap.size w W) (hh : w.heap.size ≤ h) (a' b' c' d' : ByteArray) :
    Blk ((((W.setCell ⟨h, 0, none⟩ (.string a')).setCell ⟨h, 1, none⟩ (.string b')).setCell ⟨h + 1, 0, none⟩ (.string c')).setCell ⟨h + 1, 1, none⟩ (.string d')).drew h #[.string a', .string b'] 23 ∧
    Blk ((((W.setCell ⟨h, 0, none⟩ (.string a')).setCell ⟨h, 1, none⟩ (.string b')).setCell ⟨h + 1, 0, none⟩ (.string c')).setCell ⟨h + 1, 1, none⟩ (.string d')).drew (h + 1) #[.string c', .string d'] 23 ∧
    Below w.heap.size w ((((W.setCell ⟨h, 0, none⟩ (.string a')).setCell ⟨h, 1, none⟩ (.string b')).setCell ⟨h + 1, 0, none⟩ (.string c')).setCell ⟨h + 1, 1, none⟩ (.string d')).drew := by
  have o1 : Only [h] W ((W.setCell ⟨h, 0, none⟩ (.string a')).setCell ⟨h, 1, none⟩ (.string b')) := ((Only.refl [h] W).setCell (p := ⟨h, 0, none⟩) (by simp) _).setCell (p := ⟨h, 1, none⟩) (by simp) _
  have A1 := (bA.set 0 (.string a')).set 1 (.string b')
  have C1 := bC.only o1 (by simp)
  have o2 := ((Only.refl [h + 1] ((W.setCell ⟨h, 0, none⟩ (.string a')).setCell ⟨h, 1, none⟩ (.string b'))).setCell (p := ⟨h + 1, 0, none⟩) (by simp) (.string c')).setCell (p := ⟨h + 1, 1, none⟩) (by simp) (.string d')
  have A2 := A1.only o2 (by simp)
  have C2 := (C1.set 0 (.string c')).set 1 (.string d')
  have B2 := (((hB.setCell (p := ⟨h, 0, none⟩) hh (.string a')).setCell (p := ⟨h, 1, none⟩) hh (.string b')).setCell (p := ⟨h + 1, 0, none⟩) (Nat.le_succ_of_le hh) (.string c')).setCell (p := ⟨h + 1, 1, none⟩) (Nat.le_succ_of_le hh) (.string d')
  exact ⟨A2.below (below_drewN _ 1), C2.below (below_drewN _ 1), kb_drew B2⟩

set_option maxRecDepth 100000 in
set_option maxHeartbeats 16000000 in
theorem qcmp_ok (n1 d1 n2 d2 : ByteArray) (w : World) (hE : Env w) (h1 : rOk n1 d1 = true) (h2 : rOk n2 d2 = true) :
    Calls Tryz.prog 13 #[.agg #[.string n1, .string d1], .agg #[.string n2, .string d2]] w (Rets w (.int .i64 (Lib.compareInt (zS n1 * zS d2) (zS n2 * zS d1)))) := by
  have p1 := rOk_parts h1
  have p2 := rOk_parts h2
  have T0 : ∀ W : World, Blk W w.heap.size #[.string n1, .string d1] 23 → Blk W (w.heap.size + 1) #[.string n2, .string d2] 23 → Below w.heap.size w W → CmpAt w (Lib.compareInt (zS n1 * zS d2) (zS n2 * zS d1)) w.heap.size 1 W := fun W a c b =>
    ⟨zS n1, zS d1, zS n2, zS d2, smallS p1.1, smallS p1.2.1, smallS p2.1, smallS p2.2.1, p1.2.2.1, p2.2.2.1, Or.inl rfl, Int.one_mul _, by rw [← txtS p1.1, ← txtS p1.2.1]; exact a, by rw [← txtS p2.1, ← txtS p2.2.1]; exact c, b⟩
  generalize Lib.compareInt (zS n1 * zS d2) (zS n2 * zS d1) = tgt at *
  have Q1 := fun W (hE : Env W) => qvalid_any n1 d1 W hE
  have Q2 := fun W (hE : Env W) => qvalid_any n2 d2 W hE
  rw [h1] at Q1
  rw [h2] at Q2
  clear h1 h2 p1 p2
  obtain ⟨h, hh⟩ : ∃ h : Nat, h = w.heap.size := ⟨_, rfl⟩
  have hBh : w.heap.size ≤ h := by omega
  obtain ⟨V1, e1, a1, b1⟩ := box_two w (.string n1) (.string d1) 23
  obtain ⟨V2, e2, a2, b2⟩ := box_two V1 (.string n2) (.string d2) 23
  have z1 : V1.heap.size = w.heap.size + 1 := by rw [e1, World.size_alloc]
  rw [z1] at a2
  have hV : V2 = (w.alloc (.cells #[.string n1, .string d1] 23)).alloc (.cells #[.string n2, .string d2] 23) := by rw [e2, e1]
  have hB := kb_call b2 b1 (Nat.le_refl _)
  have hA := a1.below b2
  have T0 := Lib.hid T0
  have Hh := Lib.hid hh
  clear e1 e2 a1 b1 b2 z1 hh
  go_enter Tryz.func13, Tryz.ntmps13
  go_wp2_with fail
  rw [← hV]
  clear hV
  refine scope_pass 0 (CmpJ w tgt h n1 d1 n2 d2) (fun _ w' => denAt w' h) rfl ?_ ?_
  · intro a' w' hJ
    obtain ⟨sg, u4, u6, u7, u8, u9, u10, u11, u12, u13, u14, u15, u16, u17, u18, u19, u20, u21, u22, u23, u24, u25, u26, u27, u28, u29, u30, u31, u32, u33, u34, u35, u36, u37, u38, u39, u40, u41, u42, u43, u44, u45, u46, u47, u48, u49, u50, u51, u52, u53, u54, u55, u56, u57, u58, u59, u60, u61, u62, u63, u64, u65, u66, u67, u68, u69, u70, u71, u72, u73, rfl, hc⟩ := hJ
    obtain ⟨x1, y1, x2, y2, sx1, sy1, sx2, sy2, hy1, hy2, hsg, ht, bA, bC, hB'⟩ := hc
    have hEw := hE.below hB' (Nat.le_refl _)
    obtain ⟨c0, c1⟩ := blk_two bA
    obtain ⟨c2, c3⟩ := blk_two bC
    have D1 := fun W (hE : Env W) => div_is (a := I x1) (b := I y1) rfl rfl sx1 sy1 W hE _ _ _ _ (by omega) rfl rfl rfl rfl
    have D2 := fun W (hE : Env W) => div_is (a := I x2) (b := I y2) rfl rfl sx2 sy2 W hE _ _ _ _ (by omega) rfl rfl rfl rfl
    go_wp2_with fail
    refine (D1 _ hEw).mono ?_
    rintro e v1 ⟨rfl, hb⟩
    have bA1 := bA.below hb
    have bC1 := bC.below hb
    have hB1 := kb_call hb hB' (Nat.le_refl _)
    clear c0 c1 c2 c3 hb
    obtain ⟨c0, c1⟩ := blk_two bA1
    obtain ⟨c2, c3⟩ := blk_two bC1
    go_wp2_with fail
    refine (D2 _ (hE.below hB1 (Nat.le_refl _))).mono ?_
    rintro e v2 ⟨rfl, hb⟩
    have bA2 := bA1.below hb
    have bC2 := bC1.below hb
    have hB2 := kb_call hb hB1 (Nat.le_refl _)
    clear c0 c1 c2 c3 hb hB1 bA1 bC1 D1 D2
    go_wp2_with fail
    refine (cmp_is rfl rfl (small_quo sx1) (small_quo sx2) _ _ rfl).mono ?_
    rintro e v3 ⟨rfl, hb⟩
    have bA3 := bA2.below hb
    have bC3 := bC2.below hb
    have hB3 := kb_call hb hB2 (Nat.le_refl _)
    clear hb hB2 bA2 bC2
    obtain ⟨c0, c1⟩ := blk_two bA3
    obtain ⟨c2, c3⟩ := blk_two bC3
    have hr0 := Int.emod_nonneg x1 (show y1 ≠ 0 by omega)
    have hs0 := Int.emod_nonneg x2 (show y2 ≠ 0 by omega)
    have hr1 := Int.emod_lt_of_pos x1 hy1
    have hs1 := Int.emod_lt_of_pos x2 hy2
    have hden := denAt_of bA
    by_cases hq : x1 / y1 = x2 / y2
    · have ht2 := Lib.hid (show sg * Lib.compareInt (x1 % y1 * y2) (x2 % y2 * y1) = tgt by rw [← cmp_rest hq]; exact ht)
      rw [hq, compareInt_eq]
      clear ht hq
      generalize x1 % y1 = r at *
      generalize x2 % y2 = s at *
      generalize I (x1 / y1) = sp at *
      generalize I (x2 / y2) = sq at *
      by_cases er : r = 0
      · subst er
        have tr := toList_zero (rfl : I 0 = I 0)
        by_cases es : s = 0
        · subst es
          have hz := Lib.hid (show (0 : Int) = tgt by rw [← ht2.out, Int.zero_mul, Int.zero_mul, compareInt_eq, Int.mul_zero])
          generalize I 0 = z0 at *
          go_wp2
          simp only [Exit.jump]
          go_ret
          exact ⟨ret_int hz.out, hB3⟩
        · have ts := str_ne_zero (rfl : I s = I s) es
          have hz := Lib.hid (show -sg = tgt by rw [← ht2.out, Int.zero_mul, compareInt_lt (Int.mul_pos (by omega) hy1)]; omega)
          have hsg0 : -1 ≤ sg := by omega
          have hsg1 : sg ≤ 1 := by omega
          generalize I 0 = z0 at *
          generalize I s = zs at *
          go_wp2
          simp only [Exit.jump]
          go_ret
          exact ⟨ret_int hz.out, hB3⟩
      · have tr := str_ne_zero (rfl : I r = I r) er
        by_cases es : s = 0
        · subst es
          have ts := toList_zero (rfl : I 0 = I 0)
          have hz := Lib.hid (show sg = tgt by rw [← ht2.out, Int.zero_mul, compareInt_gt (Int.mul_pos (by omega) hy2), Int.mul_one])
          generalize I 0 = z0 at *
          generalize I r = zr at *
          go_wp2
          simp only [Exit.jump]
          go_ret
          exact ⟨ret_int hz.out, hB3⟩
        · have ts := str_ne_zero (rfl : I s = I s) es
          have hsg0 : -1 ≤ sg := by omega
          have hsg1 : sg ≤ 1 := by omega
          have f0 := bA3.frozen 0
          have f1 := bA3.frozen 1
          have f2 := bC3.frozen 0
          have f3 := bC3.frozen 1
          have HT := Lib.hid ht2
          have HD := Lib.hid hden
          have HE := Lib.hid er
          have HS := Lib.hid es
          have bA3 := Lib.hid bA3
          have bC3 := Lib.hid bC3
          have hB3 := Lib.hid hB3
          clear ht2 hden er es hB' bA bC hEw T0 Q1 Q2 hB hA a2
          go_wp2
          go_region
          go_wp2
          go_step3
          obtain ⟨nA, nC, nB⟩ := two_fracs bA3.out bC3.out hB3.out hBh (I y1) (I r) (I y2) (I s)
          have sr : Small r := by unfold Small at *; omega
          have ss : Small s := by unfold Small at *; omega
          have nr : 0 < r := by have := HE.out; omega
          have ns : 0 < s := by have := HS.out; omega
          have nt : -sg * Lib.compareInt (y1 * s) (y2 * r) = tgt := by
            rw [← HT.out, cmp_swap (y2 * r) (y1 * s), Int.neg_mul_neg, Int.mul_comm y2 r, Int.mul_comm y1 s]
          refine ⟨rfl, ⟨-sg, _, _, _, _, _, _, _, _, _, _, _, _, _, _, _, _, _, _, _, _, _, _, _, _, _, _, _, _, _, _, _, _, _, _, _, _, _, _, _, _, _, _, _, _, _, _, _, _, _, _, _, _, _, _, _, _, _, _, _, _, _, _, _, _, _, _, _, _, _, rfl, y1, r, y2, s, sy1, sr, sy2, ss, nr, ns, by omega, nt, nA, nC, nB⟩, ?_⟩
          rw [HD.out, denAt_of nA]; omega
    · have hz := Lib.hid (show sg * Lib.compareInt (x1 / y1) (x2 / y2) = tgt by rw [← cmp_quo hy1 hy2 hq]; exact ht)
      have hv := cmp_vals (x1 / y1) (x2 / y2)
      have hv0 : Lib.compareInt (x1 / y1) (x2 / y2) ≠ 0 := fun e => hq (cmp_zero_iff.1 e)
      generalize Lib.compareInt (x1 / y1) (x2 / y2) = c at *
      have hm0 : -1 ≤ sg * c := by rcases hsg with rfl | rfl <;> rcases hv with rfl | rfl | rfl <;> decide
      have hm1 : sg * c ≤ 1 := by rcases hsg with rfl | rfl <;> rcases hv with rfl | rfl | rfl <;> decide
      have hcb : (c != 0) = true := by simp [hv0]
      clear ht hq hv0 hsg hv
      go_wp2
      simp only [Exit.jump]
      go_ret
      exact ⟨ret_int hz.out, hB3⟩
  · intro pass
    have pass := Lib.hid pass
    obtain ⟨c0, c1⟩ := blk_two hA
    obtain ⟨c2, c3⟩ := blk_two a2
    go_wp2_with fail
    refine (Q1 _ (hE.below hB (Nat.le_refl _))).mono ?_
    rintro e v1 ⟨rfl, hb⟩
    have A1 := hA.below hb
    have C1 := a2.below hb
    have B1 := kb_call hb hB (Nat.le_refl _)
    clear c0 c1 c2 c3 hA a2 hB hb
    obtain ⟨c0, c1⟩ := blk_two A1
    obtain ⟨c2, c3⟩ := blk_two C1
    go_wp2_with fail
    refine (Q2 _ (hE.below B1 (Nat.le_refl _))).mono ?_
    rintro e v2 ⟨rfl, hb⟩
    have hT := T0.out _ (A1.below hb) (C1.below hb) (kb_call hb B1 (Nat.le_refl _))
    clear c0 c1 c2 c3 A1 C1 B1 hb
    rw [← Hh.out] at hT ⊢
    have hT := Lib.hid hT
    go_wp2
    go_step3
    rename_i K hK
    exact hK _ _ (pass.out _ _ ⟨1, _, _, _, _, _, _, _, _, _, _, _, _, _, _, _, _, _, _, _, _, _, _, _, _, _, _, _, _, _, _, _, _, _, _, _, _, _, _, _, _, _, _, _, _, _, _, _, _, _, _, _, _, _, _, _, _, _, _, _, _, _, _, _, _, _, _, _, _, _, rfl, hT.out⟩)
set_option maxRecDepth 100000 in
set_option maxHeartbeats 16000000 in
theorem qcmp_bad (n1 d1 n2 d2 : ByteArray) (w : World) (hE : Env w) (hb : (rOk n1 d1 && rOk n2 d2) = false) :
    Calls Tryz.prog 13 #[.agg #[.string n1, .string d1], .agg #[.string n2, .string d2]] w (Rets w (.int .i64 0)) := by
  have Q1 := fun W (hE : Env W) => qvalid_any n1 d1 W hE
  have Q2 := fun W (hE : Env W) => qvalid_any n2 d2 W hE
  obtain ⟨V1, e1, a1, b1⟩ := box_two w (.string n1) (.string d1) 23
  obtain ⟨V2, e2, a2, b2⟩ := box_two V1 (.string n2) (.string d2) 23
  have z1 : V1.heap.size = w.heap.size + 1 := by rw [e1, World.size_alloc]
  rw [z1] at a2
  have hV : V2 = (w.alloc (.cells #[.string n1, .string d1] 23)).alloc (.cells #[.string n2, .string d2] 23) := by rw [e2, e1]
  have hB := kb_call b2 b1 (Nat.le_refl _)
  have hA := a1.below b2
  obtain ⟨c0, c1⟩ := blk_two hA
  obtain ⟨c2, c3⟩ := blk_two a2
  clear e1 e2 a1 b1 b2 z1
  cases h1 : rOk n1 d1 with
  | false =>
    rw [h1] at Q1
    clear h1 hb
    go_enter Tryz.func13, Tryz.ntmps13
    go_wp2_with fail
    rw [← hV]
    clear hV
    go_step3
    go_wp2_with fail
    refine (Q1 _ (hE.below hB (Nat.le_refl _))).mono ?_
    rintro e v1 ⟨rfl, hb⟩
    have hB1 := kb_call hb hB (Nat.le_refl _)
    go_wp2
    try rw [Exit.noGoto_ret]
    go_ret
    exact ⟨rfl, hB1⟩
  | true =>
    have h2 : rOk n2 d2 = false := by rw [h1, Bool.true_and] at hb; exact hb
    rw [h1] at Q1
    rw [h2] at Q2
    clear h1 h2 hb
    go_enter Tryz.func13, Tryz.ntmps13
    go_wp2_with fail
    rw [← hV]
    clear hV
    go_step3
    go_wp2_with fail
    refine (Q1 _ (hE.below hB (Nat.le_refl _))).mono ?_
    rintro e v1 ⟨rfl, hb⟩
    have hB1 := kb_call hb hB (Nat.le_refl _)
    have C1 := a2.below hb
    clear c0 c1 c2 c3
    obtain ⟨c2, c3⟩ := blk_two C1
    go_wp2_with fail
    refine (Q2 _ (hE.below hB1 (Nat.le_refl _))).mono ?_
    rintro e v2 ⟨rfl, hb2⟩
    have hB2 := kb_call hb2 hB1 (Nat.le_refl _)
    go_wp2
    try rw [Exit.noGoto_ret]
    go_ret
    exact ⟨rfl, hB2⟩

/-- rational.Compare. -/
theorem qcmp_any (n1 d1 n2 d2 : ByteArray) (w : World) (hE : Env w) :
    Calls Tryz.prog 13 #[.agg #[.string n1, .string d1], .agg #[.string n2, .string d2]] w (Rets w (.int .i64 (if rOk n1 d1 && rOk n2 d2 then Lib.compareInt (zS n1 * zS d2) (zS n2 * zS d1) else 0))) := by
  cases hb : (rOk n1 d1 && rOk n2 d2) with
  | false => rw [if_neg (by decide)]; exact qcmp_bad n1 d1 n2 d2 w hE hb
  | true =>
    rw [if_pos rfl]
    have h : rOk n1 d1 = true ∧ rOk n2 d2 = true := by simpa using hb
    exact qcmp_ok n1 d1 n2 d2 w hE h.1 h.2

end Go.Proofs.YtiekbcbcbgmnmaaGreatDoor

/- package rational: round, Down, Up. -/
namespace Go.Proofs.YtiekbcbcbgmnmaaGreatDoor
open Go.RowKit
attribute [local go_sem] Oper.semAt_some

/-- The text of a power of ten. -/
theorem pow_text (k : Nat) : (⟨(49 :: List.replicate k 48).toArray⟩ : ByteArray) = I (10 ^ k) := by
  have hd : ∀ b ∈ (49 :: List.replicate k 48 : List UInt8), isD b = true := by
    intro b hb
    rcases List.mem_cons.1 hb with h | h
    · rw [h]; decide
    · rw [(List.mem_replicate.1 h).2]; decide
  have e : dnum (49 :: List.replicate k 48) = 10 ^ k := by
    have h := dnum_append [49] (List.replicate k 48)
    have z := dnum_zeros k []
    rw [List.append_nil] at z
    rw [List.singleton_append, List.length_replicate, z] at h
    rw [h, show dnum [49] = 1 from rfl, show dnum [] = 0 from rfl]
    omega
  have h2 := decDigits_dnum (49 :: List.replicate k 48) hd (by simp) (by simp)
  unfold I
  rw [itoa_nonneg (Int.pow_nonneg (by decide)), show ((10 : Int) ^ k).toNat = 10 ^ k from (by rw [show ((10 : Int) ^ k) = ((10 ^ k : Nat) : Int) by simp]; rfl), ← e, h2]
theorem small_pow {k : Nat} (hk : k ≤ 100) : Small (10 ^ k) := by
  have h1 := pow_mono (b := 10) (by decide) (show k + 1 ≤ 200 by omega)
  have h2 : (10 : Int) ^ (k + 1) = 10 ^ k * 10 := Int.pow_succ ..
  have h3 := pow_pos' (b := 10) (by decide) k
  unfold Small Big
  omega
theorem quo_next {x d : Int} (hx : Small x) (hd : 0 < d) (hr : x % d ≠ 0) : Small (x / d + 1) := by
  have e := Int.emod_add_mul_ediv x d
  have h1 := Int.emod_nonneg x (show d ≠ 0 by omega)
  have hq := small_quo (y := d) hx
  have hd2 : 2 ≤ d := by
    by_cases h : d = 1
    · subst h; exact absurd (Int.emod_one x) hr
    · omega
  generalize x % d = r at *
  generalize x / d = q at *
  unfold Small at *
  refine ⟨by omega, ?_⟩
  by_cases h0 : 0 ≤ q
  · have := Int.mul_le_mul_of_nonneg_right hd2 h0
    omega
  · have hB : (1 : Int) < Big := by unfold Big; decide
    omega
/-- The multiple of a grid below or above. -/
def grd (up : Bool) (x d : Int) : Int := if up && decide (x % d ≠ 0) then x / d + 1 else x / d
theorem grd_small {up : Bool} {x d : Int} (hx : Small x) (hd : 0 < d) : Small (grd up x d) := by
  unfold grd
  cases up
  · exact small_quo hx
  · by_cases h : x % d = 0
    · rw [decide_eq_false (by simpa using h)]; exact small_quo hx
    · rw [decide_eq_true h]; exact quo_next hx hd h
/-- The blocks with which rounding begins. -/
theorem round_start (w : World) (n d : ByteArray) (bad : Bool) : ∃ W,
    W = (((w.alloc (.cells #[.string n, .string d] 23)).alloc (.cells #[.string ⟨#[]⟩, .string ⟨#[]⟩] 23)).alloc (.cells #[.bool bad] 64)).alloc (.cells #[.string n, .string d] 23) ∧
    Blk W w.heap.size #[.string n, .string d] 23 ∧ Blk W (w.heap.size + 1) #[.string ⟨#[]⟩, .string ⟨#[]⟩] 23 ∧
    Wk W (w.heap.size + 1 + 1) bad ∧ RatsAt W (w.heap.size + 1 + 1 + 1) [(n, d)] ∧ Below w.heap.size w W ∧ W.heap.size = w.heap.size + 1 + 1 + 1 + 1 := by
  obtain ⟨V1, e1, a1, b1⟩ := box_two w (.string n) (.string d) 23
  obtain ⟨V2, e2, a2, b2⟩ := box_two V1 (.string ⟨#[]⟩) (.string ⟨#[]⟩) 23
  obtain ⟨V3, e3, a3, b3⟩ := wk_new V2 bad
  obtain ⟨V4, e4, a4, b4⟩ := box_two V3 (.string n) (.string d) 23
  have z1 : V1.heap.size = w.heap.size + 1 := by rw [e1, World.size_alloc]
  have z2 : V2.heap.size = w.heap.size + 1 + 1 := by rw [e2, World.size_alloc, z1]
  have z3 : V3.heap.size = w.heap.size + 1 + 1 + 1 := by rw [e3, World.size_alloc, z2]
  rw [z1] at a2
  rw [z2] at a3
  rw [z3] at a4
  refine ⟨V4, by rw [e4, e3, e2, e1], ((a1.below b2).below b3).below b4, (a2.below b3).below b4, a3.below b4, ?_, ?_, by rw [e4, World.size_alloc, z3]⟩
  · intro j hj
    match j, hj with
    | 0, _ => exact ⟨a4.cell 0, a4.cell 1⟩
  · exact kb_call b4 (kb_call b3 (kb_call b2 b1 (Nat.le_refl _)) (Nat.le_refl _)) (Nat.le_refl _)
theorem allOk_one {n d : ByteArray} : allOk [(n, d)] = rOk n d := by simp [allOk]
theorem rep0 {k : Nat} (hk : k ≤ 100) {w : World} :
    Calls Tryz.prog 75 #[.string ⟨#[48]⟩, .int .i64 k] w fun e w' => e = .returned (.string ⟨(List.replicate k 48).toArray⟩) ∧ Below w.heap.size w w' := by
  refine (Tryz.strings_Repeat ⟨#[48]⟩ k w (by omega) (by show 1 * k ≤ _; omega)).mono ?_
  rintro e w' ⟨rfl, hb⟩
  exact ⟨by rw [← repeat_zero], hb⟩

set_option maxRecDepth 100000 in
set_option maxHeartbeats 8000000 in
theorem qround_lo (n d : ByteArray) (k : Int) (up : Bool) (hk0 : k < 0) (w : World) (hE : Env w) :
    Calls Tryz.prog 43 #[.agg #[.string n, .string d], .int .i64 k, .bool up] w (Rets w (qT false 0)) := by
  obtain ⟨W, hW, hA, hR, hk, hl, hB, hsz⟩ := round_start w n d true
  have hle : w.heap.size ≤ w.heap.size + 1 + 1 := by omega
  have hcx : Cx w W (w.heap.size + 1 + 1) true := ⟨hE, hB, hle, hk⟩
  have K := qcheck_any [(n, d)] (w.heap.size + 1 + 1 + 1) 1 true w W _ hcx hl (by omega) (by omega) (by simp)
  rw [allOk_one] at K
  rw [Bool.true_or] at K
  go_enter Tryz.func43, Tryz.ntmps43
  go_wp2_with fail
  rw [← hW]
  clear hW hl hk hsz
  refine K.mono ?_
  rintro e w1 ⟨rfl, hk, ho⟩
  have c1 := hcx.next hk ho
  have A1 := hA.only ho (by simp <;> omega)
  have R1 := hR.only ho (by simp <;> omega)
  clear hcx hA hR hk ho hB K
  have g0 := c1.wk.c0
  obtain ⟨x0, x1⟩ := blk_two A1
  obtain ⟨k0, k1⟩ := blk_two R1
  have f0 := R1.frozen 0
  have f1 := R1.frozen 1
  have hB1 := c1.below
  obtain ⟨_, _, _, _, y0, y1, hfin⟩ := res_after R1 ⟨#[]⟩ ⟨#[]⟩
  have hfin := Lib.hid (hfin w hB1 (by omega))
  clear c1 A1 R1 hB1
  go_wp2
  first | exact bodyPost_ret (v := .tuple #[.agg #[.string ⟨#[]⟩, .string ⟨#[]⟩], .int .i64 40]) (by simp [results, Tryz.results43, go_sem, y0, y1]) rfl ⟨rfl, hfin.out⟩ | (trace_state; fail)
set_option maxRecDepth 100000 in
set_option maxHeartbeats 8000000 in
theorem qround_hi (n d : ByteArray) (k : Int) (up : Bool) (hk0 : 30 < k) (w : World) (hE : Env w) :
    Calls Tryz.prog 43 #[.agg #[.string n, .string d], .int .i64 k, .bool up] w (Rets w (qT false 0)) := by
  obtain ⟨W, hW, hA, hR, hk, hl, hB, hsz⟩ := round_start w n d true
  have hle : w.heap.size ≤ w.heap.size + 1 + 1 := by omega
  have hcx : Cx w W (w.heap.size + 1 + 1) true := ⟨hE, hB, hle, hk⟩
  have K := qcheck_any [(n, d)] (w.heap.size + 1 + 1 + 1) 1 true w W _ hcx hl (by omega) (by omega) (by simp)
  rw [allOk_one] at K
  rw [Bool.true_or] at K
  have hkk : ¬ k < 0 := by omega
  go_enter Tryz.func43, Tryz.ntmps43
  go_wp2_with fail
  rw [← hW]
  clear hW hl hk hsz
  refine K.mono ?_
  rintro e w1 ⟨rfl, hk, ho⟩
  have c1 := hcx.next hk ho
  have A1 := hA.only ho (by simp <;> omega)
  have R1 := hR.only ho (by simp <;> omega)
  clear hcx hA hR hk ho hB K
  have g0 := c1.wk.c0
  obtain ⟨x0, x1⟩ := blk_two A1
  obtain ⟨k0, k1⟩ := blk_two R1
  have f0 := R1.frozen 0
  have f1 := R1.frozen 1
  have hB1 := c1.below
  obtain ⟨_, _, _, _, y0, y1, hfin⟩ := res_after R1 ⟨#[]⟩ ⟨#[]⟩
  have hfin := Lib.hid (hfin w hB1 (by omega))
  clear c1 A1 R1 hB1
  go_wp2
  first | exact bodyPost_ret (v := .tuple #[.agg #[.string ⟨#[]⟩, .string ⟨#[]⟩], .int .i64 40]) (by simp [results, Tryz.results43, go_sem, y0, y1]) rfl ⟨rfl, hfin.out⟩ | (trace_state; fail)
set_option maxRecDepth 100000 in
set_option maxHeartbeats 8000000 in
theorem qround_inv (n d : ByteArray) (k : Int) (up : Bool) (k0 : 0 ≤ k) (k1 : k ≤ 30) (hn : rOk n d = false) (w : World) (hE : Env w) :
    Calls Tryz.prog 43 #[.agg #[.string n, .string d], .int .i64 k, .bool up] w (Rets w (qT false 0)) := by
  obtain ⟨W, hW, hA, hR, hk, hl, hB, hsz⟩ := round_start w n d false
  have hle : w.heap.size ≤ w.heap.size + 1 + 1 := by omega
  have hcx : Cx w W (w.heap.size + 1 + 1) false := ⟨hE, hB, hle, hk⟩
  have K := qcheck_any [(n, d)] (w.heap.size + 1 + 1 + 1) 1 false w W _ hcx hl (by omega) (by omega) (by simp)
  rw [allOk_one] at K
  rw [hn, show (false || !false) = true from rfl] at K
  have h3 : ¬ k < 0 := by omega
  have h4 : ¬ 30 < k := by omega
  clear hn
  have hkA := Lib.hid k0
  clear k0 k1
  go_enter Tryz.func43, Tryz.ntmps43
  go_wp2_with fail
  rw [← hW]
  clear hW hl hk hsz
  refine K.mono ?_
  rintro e w1 ⟨rfl, hk, ho⟩
  have c1 := hcx.next hk ho
  have A1 := hA.only ho (by simp <;> omega)
  have R1 := hR.only ho (by simp <;> omega)
  clear hcx hA hR hk ho hB K
  have g0 := c1.wk.c0
  obtain ⟨x0, x1⟩ := blk_two A1
  obtain ⟨k0, k1⟩ := blk_two R1
  have f0 := R1.frozen 0
  have f1 := R1.frozen 1
  have hB1 := c1.below
  obtain ⟨_, _, _, _, y0, y1, hfin⟩ := res_after R1 ⟨#[]⟩ ⟨#[]⟩
  have hfin := Lib.hid (hfin w hB1 (by omega))
  clear c1 A1 R1 hB1
  go_wp2
  exact bodyPost_ret (v := .tuple #[.agg #[.string ⟨#[]⟩, .string ⟨#[]⟩], .int .i64 40]) (by simp [results, Tryz.results43, go_sem, y0, y1]) rfl ⟨rfl, hfin.out⟩
set_option maxRecDepth 100000 in
set_option maxHeartbeats 8000000 in
theorem qround_big (n d : ByteArray) (k : Nat) (up : Bool) (k1 : k ≤ 30) (hn : rOk n d = true) (hs : ¬ Small (zS n * 10 ^ k)) (w : World) (hE : Env w) :
    Calls Tryz.prog 43 #[.agg #[.string n, .string d], .int .i64 k, .bool up] w (Rets w (qT false 0)) := by
  obtain ⟨hn1, hd1, hd0, _⟩ := rOk_parts hn
  obtain ⟨W, hW, hA, hR, hk, hl, hB, hsz⟩ := round_start w n d false
  have hle : w.heap.size ≤ w.heap.size + 1 + 1 := by omega
  have hcx : Cx w W (w.heap.size + 1 + 1) false := ⟨hE, hB, hle, hk⟩
  have K := qcheck_any [(n, d)] (w.heap.size + 1 + 1 + 1) 1 false w W _ hcx hl (by omega) (by omega) (by simp)
  rw [allOk_one] at K
  rw [hn, show (false || !true) = false from rfl] at K
  have h3 : ¬ (k : Int) < 0 := by omega
  have h4 : ¬ (30 : Int) < k := by omega
  clear hn
  have sx := smallS hn1
  have sd := smallS hd1
  have st := small_pow (show k ≤ 100 by omega)
  have RP := fun W => rep0 (k := k) (w := W) (by omega)
  obtain ⟨t, Ht⟩ : ∃ t : ByteArray, Hid (t = I (10 ^ k)) := ⟨_, rfl⟩
  have hcat : (⟨#[49]⟩ : ByteArray) ++ (⟨(List.replicate k 48).toArray⟩ : ByteArray) = t := by rw [Ht.out, ← pow_text k]; apply ByteArray.ext; simp
  have hrz : (⟨(List.replicate k 48).toArray⟩ : ByteArray).size = k := by show (List.replicate k 48).toArray.size = k; simp
  generalize (⟨(List.replicate k 48).toArray⟩ : ByteArray) = z at *
  go_enter Tryz.func43, Tryz.ntmps43
  go_wp2_with fail
  rw [← hW]
  clear hW hl hk hsz
  refine K.mono ?_
  rintro e w1 ⟨rfl, hk, ho⟩
  have c1 := hcx.next hk ho
  have A1 := hA.only ho (by simp <;> omega)
  have R1 := hR.only ho (by simp <;> omega)
  clear hcx hA hR hk ho hB K
  have g0 := c1.wk.c0
  obtain ⟨x0, x1⟩ := blk_two A1
  have T1 : Txts false n t (zS n) (10 ^ k) := fun _ => ⟨txtS hn1, Ht.out, sx, st⟩
  go_wp2_with fail
  refine (RP _).mono ?_
  rintro e w2 ⟨rfl, hb⟩
  have c2 := c1.call hb
  have A2 := A1.below hb
  have R2 := R1.below hb
  clear hb c1 A1 R1 x0 x1 g0 RP
  obtain ⟨x0, x1⟩ := blk_two A2
  go_wp2_with fail
  have M := qmul_any T1 _ c2.envW _ c2.wk
  rw [decide_eq_false hs, show (false || !false) = true from rfl] at M
  refine M.mono ?_
  rintro e w3 ⟨s3, rfl, hk, ho, _⟩
  have c3 := c2.next hk ho
  have R3 := R2.only ho (by simp <;> omega)
  clear hk ho c2 A2 R2 x0 x1 M
  have g0 := c3.wk.c0
  have hB1 := c3.below
  obtain ⟨q0, q1, f0, f1, y0, y1, hfin⟩ := res_after R3 ⟨#[]⟩ ⟨#[]⟩
  have hfin := Lib.hid (hfin w hB1 (by omega))
  clear c3 R3 hB1
  go_wp2
  exact bodyPost_ret (v := .tuple #[.agg #[.string ⟨#[]⟩, .string ⟨#[]⟩], .int .i64 40]) (by simp [results, Tryz.results43, go_sem, y0, y1]) rfl ⟨rfl, hfin.out⟩
set_option maxRecDepth 100000 in
set_option maxHeartbeats 8000000 in
theorem qround_ok (n d : ByteArray) (k : Nat) (up : Bool) (k1 : k ≤ 30) (hn : rOk n d = true) (hs : Small (zS n * 10 ^ k)) (w : World) (hE : Env w) :
    Calls Tryz.prog 43 #[.agg #[.string n, .string d], .int .i64 k, .bool up] w (Rets w (qT true (Rat.divInt (grd up (zS n * 10 ^ k) (zS d)) (10 ^ k)))) := by
  obtain ⟨hn1, hd1, hd0, _⟩ := rOk_parts hn
  obtain ⟨W, hW, hA, hR, hk, hl, hB, hsz⟩ := round_start w n d false
  have hle : w.heap.size ≤ w.heap.size + 1 + 1 := by omega
  have hcx : Cx w W (w.heap.size + 1 + 1) false := ⟨hE, hB, hle, hk⟩
  have K := qcheck_any [(n, d)] (w.heap.size + 1 + 1 + 1) 1 false w W _ hcx hl (by omega) (by omega) (by simp)
  rw [allOk_one] at K
  rw [hn, show (false || !true) = false from rfl] at K
  have h3 : ¬ (k : Int) < 0 := by omega
  have h4 : ¬ (30 : Int) < k := by omega
  clear hn
  have sx := smallS hn1
  have sd := smallS hd1
  have st := small_pow (show k ≤ 100 by omega)
  have RP := fun W => rep0 (k := k) (w := W) (by omega)
  obtain ⟨t, Ht⟩ : ∃ t : ByteArray, Hid (t = I (10 ^ k)) := ⟨_, rfl⟩
  have hcat : (⟨#[49]⟩ : ByteArray) ++ (⟨(List.replicate k 48).toArray⟩ : ByteArray) = t := by rw [Ht.out, ← pow_text k]; apply ByteArray.ext; simp
  have hrz : (⟨(List.replicate k 48).toArray⟩ : ByteArray).size = k := by show (List.replicate k 48).toArray.size = k; simp
  generalize (⟨(List.replicate k 48).toArray⟩ : ByteArray) = z at *
  go_enter Tryz.func43, Tryz.ntmps43
  go_wp2_with fail
  rw [← hW]
  clear hW hl hk hsz
  refine K.mono ?_
  rintro e w1 ⟨rfl, hk, ho⟩
  have c1 := hcx.next hk ho
  have A1 := hA.only ho (by simp <;> omega)
  have R1 := hR.only ho (by simp <;> omega)
  clear hcx hA hR hk ho hB K
  have g0 := c1.wk.c0
  obtain ⟨x0, x1⟩ := blk_two A1
  have T1 : Txts false n t (zS n) (10 ^ k) := fun _ => ⟨txtS hn1, Ht.out, sx, st⟩
  go_wp2_with fail
  refine (RP _).mono ?_
  rintro e w2 ⟨rfl, hb⟩
  have c2 := c1.call hb
  have A2 := A1.below hb
  have R2 := R1.below hb
  clear hb c1 A1 R1 x0 x1 g0 RP
  obtain ⟨x0, x1⟩ := blk_two A2
  go_wp2_with fail
  refine (DoP.ok hs (qmul_any T1 _ c2.envW _ c2.wk)).mono ?_
  rintro e w3 ⟨rfl, hk, ho⟩
  have c3 := c2.next hk ho
  have A3 := A2.only ho (by simp <;> omega)
  have R3 := R2.only ho (by simp <;> omega)
  clear hk ho c2 A2 R2 x0 x1
  obtain ⟨x0, x1⟩ := blk_two A3
  have g0 := c3.wk.c0
  have D1 := fun W (hE : Env W) => div_is (a := I (zS n * 10 ^ k)) (b := d) rfl (txtS hd1) hs sd W hE _ _ _ _ (by omega) rfl rfl rfl rfl
  have hq := small_quo (y := zS d) hs
  have hgs := grd_small (up := up) hs hd0
  go_wp2_with fail
  refine (D1 _ c3.envW).mono ?_
  rintro e w4 ⟨rfl, hb⟩
  have c4 := c3.call hb
  have R4 := R3.below hb
  clear hb c3 A3 R3 x0 x1 g0 D1
  have k4 := c4.wk.set false
  have o4 := (Only.refl [w.heap.size + 1 + 1] w4).setCell (p := ⟨w.heap.size + 1 + 1, 0, none⟩) (by simp) (.bool false)
  have c5 := c4.next k4 o4
  have R5 := R4.only o4 (by simp <;> omega)
  have g0 := c4.wk.c0
  have g1 := c4.wk.f0
  clear k4 o4 c4 R4
  generalize hw5 : w4.setCell ⟨w.heap.size + 1 + 1, 0, none⟩ (.bool false) = w5 at *
  have Hw5 := Lib.hid hw5
  clear hw5
  cases up with
  | false =>
    have hg : grd false (zS n * 10 ^ k) (zS d) = zS n * 10 ^ k / zS d := rfl
    have Hg := Lib.hid hg
    clear hg
    generalize hqq : zS n * 10 ^ k / zS d = q at *
    have hqq := Lib.hid hqq
    generalize I (zS n * 10 ^ k % zS d) = rs at *
    go_wp2_with fail
    rw [Hw5.out]
    have hpow : (10 : Int) ^ k ≠ 0 := by have := pow_pos' (b := 10) (by decide) k; omega
    obtain ⟨s, u, er, hq, RQ⟩ := qred_sh (bad := false) (a := I q) (b := t) (x := grd false (zS n * 10 ^ k) (zS d)) (y := 10 ^ k) (fun _ => ⟨by rw [Hg.out], Ht.out, hgs, st⟩) _ _ _ c5
    have HQ := Lib.hid hq
    clear hq
    refine RQ.mono ?_
    rintro e w9 ⟨rfl, ho⟩
    have R9 := R5.only ho (by simp <;> omega)
    have B9 := c5.below.trans (ho.toBelow c5.below.size (fun k hk => by simp at hk; subst hk; exact hle))
    clear RQ c5 R5 ho
    obtain ⟨q0, q1, f0, f1, y0, y1, hfin⟩ := res_after R9 s u
    have hfin := Lib.hid (hfin w B9 (by omega))
    clear R9 B9
    have hpow := Lib.hid hpow
    go_wp2
    refine bodyPost_ret (v := .tuple #[.agg #[.string s, .string u], .int .i64 er]) (by simp [results, Tryz.results43, go_sem, y0, y1]) rfl ?_
    refine ⟨congrArg Ending.returned (HQ.out.symm.trans ?_), hfin.out⟩
    rw [decide_eq_true hpow.out]; rfl
  | true =>
    by_cases h0 : zS n * 10 ^ k % zS d = 0
    · have hg : grd true (zS n * 10 ^ k) (zS d) = zS n * 10 ^ k / zS d := by unfold grd; rw [decide_eq_false (by simpa using h0)]; rfl
      have Hg := Lib.hid hg
      clear hg
      have tr := toList_zero (congrArg I h0)
      clear h0
      generalize hqq : zS n * 10 ^ k / zS d = q at *
      have hqq := Lib.hid hqq
      generalize I (zS n * 10 ^ k % zS d) = rs at *
      go_wp2_with fail
      rw [Hw5.out]
      have hpow : (10 : Int) ^ k ≠ 0 := by have := pow_pos' (b := 10) (by decide) k; omega
      obtain ⟨s, u, er, hq, RQ⟩ := qred_sh (bad := false) (a := I q) (b := t) (x := grd true (zS n * 10 ^ k) (zS d)) (y := 10 ^ k) (fun _ => ⟨by rw [Hg.out], Ht.out, hgs, st⟩) _ _ _ c5
      have HQ := Lib.hid hq
      clear hq
      refine RQ.mono ?_
      rintro e w9 ⟨rfl, ho⟩
      have R9 := R5.only ho (by simp <;> omega)
      have B9 := c5.below.trans (ho.toBelow c5.below.size (fun k hk => by simp at hk; subst hk; exact hle))
      clear RQ c5 R5 ho
      obtain ⟨q0, q1, f0, f1, y0, y1, hfin⟩ := res_after R9 s u
      have hfin := Lib.hid (hfin w B9 (by omega))
      clear R9 B9
      have hpow := Lib.hid hpow
      go_wp2
      refine bodyPost_ret (v := .tuple #[.agg #[.string s, .string u], .int .i64 er]) (by simp [results, Tryz.results43, go_sem, y0, y1]) rfl ?_
      refine ⟨congrArg Ending.returned (HQ.out.symm.trans ?_), hfin.out⟩
      rw [decide_eq_true hpow.out]; rfl
    · have hg : grd true (zS n * 10 ^ k) (zS d) = zS n * 10 ^ k / zS d + 1 := by unfold grd; rw [decide_eq_true h0]; rfl
      have Hg := Lib.hid hg
      have hgs' := hgs
      rw [hg] at hgs'
      clear hg
      have tr := str_ne_zero (rfl : I (zS n * 10 ^ k % zS d) = _) h0
      clear h0
      have S1 := fun (W : World) (h : Cx w W (w.heap.size + 1 + 1) false) => DoP.ok hgs' (qdo_add (bad := false) (a := I (zS n * 10 ^ k / zS d)) (b := ⟨#[49]⟩) (x := zS n * 10 ^ k / zS d) (y := 1) (fun _ => ⟨rfl, lit_I [49] 1 (by decide +kernel) (by decide +kernel), hq, one_small⟩) W h.envW _ h.wk)
      generalize hqq : zS n * 10 ^ k / zS d = q at *
      have hqq := Lib.hid hqq
      generalize I (zS n * 10 ^ k % zS d) = rs at *
      go_wp2_with fail
      rw [Hw5.out]
      refine (S1 _ c5).mono ?_
      rintro e w6 ⟨rfl, hk, ho⟩
      have c6 := c5.next hk ho
      have R6 := R5.only ho (by simp <;> omega)
      clear hk ho c5 R5 S1
      go_wp2_with fail
      have hpow : (10 : Int) ^ k ≠ 0 := by have := pow_pos' (b := 10) (by decide) k; omega
      obtain ⟨s, u, er, hq, RQ⟩ := qred_sh (bad := false) (a := I (q + 1)) (b := t) (x := grd true (zS n * 10 ^ k) (zS d)) (y := 10 ^ k) (fun _ => ⟨by rw [Hg.out], Ht.out, hgs, st⟩) _ _ _ c6
      have HQ := Lib.hid hq
      clear hq
      refine RQ.mono ?_
      rintro e w9 ⟨rfl, ho⟩
      have R9 := R6.only ho (by simp <;> omega)
      have B9 := c6.below.trans (ho.toBelow c6.below.size (fun k hk => by simp at hk; subst hk; exact hle))
      clear RQ c6 R6 ho
      obtain ⟨q0, q1, f0, f1, y0, y1, hfin⟩ := res_after R9 s u
      have hfin := Lib.hid (hfin w B9 (by omega))
      clear R9 B9
      have hpow := Lib.hid hpow
      go_wp2
      refine bodyPost_ret (v := .tuple #[.agg #[.string s, .string u], .int .i64 er]) (by simp [results, Tryz.results43, go_sem, y0, y1]) rfl ?_
      refine ⟨congrArg Ending.returned (HQ.out.symm.trans ?_), hfin.out⟩
      rw [decide_eq_true hpow.out]; rfl

/-- rational.round. -/
theorem qround_any (n d : ByteArray) (k : Int) (up : Bool) (w : World) (hE : Env w) :
    Calls Tryz.prog 43 #[.agg #[.string n, .string d], .int .i64 k, .bool up] w
      (Rets w (qT (decide (0 ≤ k ∧ k ≤ 30) && rOk n d && decide (Small (zS n * 10 ^ k.toNat))) (Rat.divInt (grd up (zS n * 10 ^ k.toNat) (zS d)) (10 ^ k.toNat)))) := by
  by_cases h : 0 ≤ k ∧ k ≤ 30
  · rw [decide_eq_true h, Bool.true_and]
    obtain ⟨j, rfl⟩ := Int.eq_ofNat_of_zero_le h.1
    rw [Int.toNat_natCast]
    cases hn : rOk n d with
    | false => rw [Bool.false_and, qT_false _ 0]; exact qround_inv n d j up h.1 h.2 hn w hE
    | true =>
      by_cases hs : Small (zS n * 10 ^ j)
      · rw [decide_eq_true hs]; exact qround_ok n d j up (by omega) hn hs w hE
      · rw [decide_eq_false hs, show (true && false) = false from rfl, qT_false _ 0]; exact qround_big n d j up (by omega) hn hs w hE
  · rw [decide_eq_false h, Bool.false_and, Bool.false_and, qT_false _ 0]
    by_cases h0 : k < 0
    · exact qround_lo n d k up h0 w hE
    · exact qround_hi n d k up (by omega) w hE

set_option maxRecDepth 100000 in
set_option maxHeartbeats 8000000 in
/-- putlog/rational.Down. -/
theorem qDown_any (n d : ByteArray) (k : Int) (w : World) (hE : Env w) :
    Calls Tryz.prog 16 #[.agg #[.string n, .string d], .int .i64 k] w
      (Rets w (qT (decide (0 ≤ k ∧ k ≤ 30) && rOk n d && decide (Small (zS n * 10 ^ k.toNat))) (Rat.divInt (grd false (zS n * 10 ^ k.toNat) (zS d)) (10 ^ k.toNat)))) := by
  have Q := fun W (hE : Env W) => qround_any n d k false W hE
  generalize (decide (0 ≤ k ∧ k ≤ 30) && rOk n d && decide (Small (zS n * 10 ^ k.toNat))) = c at *
  generalize Rat.divInt (grd false (zS n * 10 ^ k.toNat) (zS d)) (10 ^ k.toNat) = r at *
  obtain ⟨s, t, e, hq⟩ := qT_shape c r
  rw [hq] at Q ⊢
  clear hq
  obtain ⟨V1, e1, a1, b1⟩ := box_two w (.string n) (.string d) 23
  obtain ⟨V2, e2, R3, b2⟩ := box_two V1 (.string ⟨#[]⟩) (.string ⟨#[]⟩) 23
  have z1 : V1.heap.size = w.heap.size + 1 := by rw [e1, World.size_alloc]
  rw [z1] at R3
  have B3 : Below w.heap.size w V2 := kb_call b2 b1 (Nat.le_refl _)
  have hV : V2 = (w.alloc (.cells #[.string n, .string d] 23)).alloc (.cells #[.string ⟨#[]⟩, .string ⟨#[]⟩] 23) := by rw [e2, e1]
  clear e1 e2 a1 b1 b2 z1
  go_enter Tryz.func16, Tryz.ntmps16
  go_wp2_with fail
  rw [← hV]
  clear hV
  refine (Q _ (hE.below B3 (Nat.le_refl _))).mono ?_
  rintro e' w4 ⟨rfl, hb⟩
  have R4 := R3.below hb
  have B4 := kb_call hb B3 (Nat.le_refl _)
  obtain ⟨k0, k1, f0, f1, y0, y1, hfin⟩ := res_after R4 s t
  have hfin := Lib.hid (hfin w B4 (by omega))
  clear R3 B3 hb R4 B4 Q
  go_wp2
  refine bodyPost_ret (v := .tuple #[.agg #[.string s, .string t], .int .i64 e]) (by simp [results, Tryz.results16, go_sem, y0, y1]) rfl ?_
  exact ⟨rfl, hfin.out⟩

set_option maxRecDepth 100000 in
set_option maxHeartbeats 8000000 in
/-- putlog/rational.Up. -/
theorem qUp_any (n d : ByteArray) (k : Int) (w : World) (hE : Env w) :
    Calls Tryz.prog 18 #[.agg #[.string n, .string d], .int .i64 k] w
      (Rets w (qT (decide (0 ≤ k ∧ k ≤ 30) && rOk n d && decide (Small (zS n * 10 ^ k.toNat))) (Rat.divInt (grd true (zS n * 10 ^ k.toNat) (zS d)) (10 ^ k.toNat)))) := by
  have Q := fun W (hE : Env W) => qround_any n d k true W hE
  generalize (decide (0 ≤ k ∧ k ≤ 30) && rOk n d && decide (Small (zS n * 10 ^ k.toNat))) = c at *
  generalize Rat.divInt (grd true (zS n * 10 ^ k.toNat) (zS d)) (10 ^ k.toNat) = r at *
  obtain ⟨s, t, e, hq⟩ := qT_shape c r
  rw [hq] at Q ⊢
  clear hq
  obtain ⟨V1, e1, a1, b1⟩ := box_two w (.string n) (.string d) 23
  obtain ⟨V2, e2, R3, b2⟩ := box_two V1 (.string ⟨#[]⟩) (.string ⟨#[]⟩) 23
  have z1 : V1.heap.size = w.heap.size + 1 := by rw [e1, World.size_alloc]
  rw [z1] at R3
  have B3 : Below w.heap.size w V2 := kb_call b2 b1 (Nat.le_refl _)
  have hV : V2 = (w.alloc (.cells #[.string n, .string d] 23)).alloc (.cells #[.string ⟨#[]⟩, .string ⟨#[]⟩] 23) := by rw [e2, e1]
  clear e1 e2 a1 b1 b2 z1
  go_enter Tryz.func18, Tryz.ntmps18
  go_wp2_with fail
  rw [← hV]
  clear hV
  refine (Q _ (hE.below B3 (Nat.le_refl _))).mono ?_
  rintro e' w4 ⟨rfl, hb⟩
  have R4 := R3.below hb
  have B4 := kb_call hb B3 (Nat.le_refl _)
  obtain ⟨k0, k1, f0, f1, y0, y1, hfin⟩ := res_after R4 s t
  have hfin := Lib.hid (hfin w B4 (by omega))
  clear R3 B3 hb R4 B4 Q
  go_wp2
  refine bodyPost_ret (v := .tuple #[.agg #[.string s, .string t], .int .i64 e]) (by simp [results, Tryz.results18, go_sem, y0, y1]) rfl ?_
  exact ⟨rfl, hfin.out⟩

end Go.Proofs.YtiekbcbcbgmnmaaGreatDoor

/- strings.Join of two texts with a stroke between them. -/
namespace Go.Proofs.YtiekbcbcbgmnmaaGreatDoor
open Go.RowKit
attribute [local go_sem] Oper.semAt_some

theorem wrote_below {b : Nat} {w w' : World} (h : Wrote b b w w') (hb : b ≤ w.heap.size) : Below b w w' :=
  ⟨h.os, h.tape, h.output, h.size, fun k hk => by
    by_cases hkw : k < w.heap.size
    · exact h.block k hk hkw (by omega)
    · exact absurd hkw (by omega)⟩

/-- The text of two joined texts. -/
def joined (a b : ByteArray) : List UInt8 := a.data.toList ++ [47] ++ b.data.toList

set_option maxRecDepth 100000 in
set_option maxHeartbeats 8000000 in
theorem join_two (a b : ByteArray) (S : Nat) (w : World) (hS : S < w.heap.size) (ha : a.size ≤ 1000) (hb : b.size ≤ 1000) (c0 : w.cell? ⟨S, 0, none⟩ = some (.string a)) (c1 : w.cell? ⟨S, 1, none⟩ = some (.string b)) :
    Calls Tryz.prog 57 #[.slice (some ⟨S, 0, none⟩) 2 2, .string ⟨#[47]⟩] w fun e w' => e = .returned (.string ⟨(joined a b).toArray⟩) ∧ Below w.heap.size w w' := by
  have hc : ∀ k : Nat, k < 2 → ∃ s : ByteArray, w.cell? ⟨S, k, none⟩ = some (.string s) ∧ s.size ≤ 1000 := by
    intro k hk
    match k, hk with
    | 0, _ => exact ⟨a, c0, ha⟩
    | 1, _ => exact ⟨b, c1, hb⟩
  have hc := Lib.hid hc
  have hsep : (⟨#[47]⟩ : ByteArray).size = 1 := rfl
  go_enter Tryz.func57, Tryz.ntmps57
  go_wp2_with fail
  go_loop [5, 41] (fun n i => ∃ (k : Nat) (m : Int), n = .int .i64 m ∧ i = .int .i64 k ∧ k ≤ 2 ∧ 0 ≤ m ∧ m ≤ 1 + 1000 * k) (fun _ i => 2 - (intOf i).toNat)
  case atStart => exact ⟨0, 1, rfl, rfl, by omega, by omega, by omega⟩
  case round =>
    obtain ⟨k, m, rfl, rfl, hk, hm0, hm1⟩ := hrel
    by_cases hlt : k < 2
    · obtain ⟨s, d0, hs⟩ := hc.out k hlt
      have hi0 : (0 : Int) ≤ (k : Int) := by omega
      have hi1 : (k : Int) < 2 := by omega
      go_wp2
      go_round
      case rel => exact ⟨k + 1, m + s.size, rfl, by go_num, by omega, by omega, by omega⟩
      case measure => simp [intOf]; omega
    · have hk2 : ¬ (k : Int) < 2 := by omega
      have hm2 : m ≤ 2001 := by omega
      obtain ⟨q, rfl⟩ := Int.eq_ofNat_of_zero_le hm0
      have hB0 : Below w.heap.size w (w.alloc (.cells #[.pointer none, .slice none 0 0] 99)) := (Below.refl _ _).alloc (Nat.le_refl _) _
      have G := Tryz.Builder_Grow_fresh w.heap.size w.heap.size q (w.alloc (.cells #[.pointer none, .slice none 0 0] 99)) (Nat.le_refl _) (World.alloc_heap_new w _) (by simp) (by omega)
      have G := Lib.hid G
      go_wp2_with fail
      refine G.out.mono ?_
      rintro e w1 ⟨rfl, hbd, hb1⟩
      have hB1 := hB0.trans hb1
      have hbld : Bld w.heap.size w.heap.size [] w1 := by
        obtain ⟨_, v, h1, h2, _⟩ := hbd
        exact ⟨_, v, h1, .inr rfl, h2⟩
      clear G hbd hb1 hB0
      have d0 := (hB1.cell (p := ⟨S, 0, none⟩) hS).trans c0
      go_wp2_with fail
      refine (writeString_any hbld a (by simp; omega) hB1.size).mono ?_
      rintro e w2 ⟨rfl, hb2, hw2⟩
      rw [List.nil_append] at hb2
      have hB2 := hB1.trans (wrote_below hw2 hB1.size)
      clear hbld hw2 hB1 d0
      go_wp2_with fail
      go_loopw [65] (fun i wr => ∃ j : Nat, i = .int .i64 j ∧ j ≤ 1 ∧ Bld w.heap.size w.heap.size (if j = 0 then a.data.toList else joined a b) wr ∧ Below w.heap.size w wr) (fun i _ => 1 - (intOf i).toNat)
      case atStart => exact ⟨0, rfl, by omega, by rw [if_pos rfl]; exact hb2, hB2⟩
      case round =>
        clear hb2 hB2
        obtain ⟨j, rfl, hj, hbd, hB⟩ := hrel
        by_cases hj0 : j = 0
        · subst hj0
          rw [if_pos rfl] at hbd
          have d1 := (hB.cell (p := ⟨S, 1, none⟩) hS).trans c1
          have hal : a.data.toList.length = a.size := by rw [Array.length_toList]; rfl
          have Hal := Lib.hid hal
          clear hal
          go_wp2_with fail
          refine (writeString_any hbd ⟨#[47]⟩ (by rw [Hal.out]; show a.size + 1 ≤ _; omega) hB.size).mono ?_
          rintro e w3 ⟨rfl, hb3, hw3⟩
          have hB3 := hB.trans (wrote_below hw3 hB.size)
          clear hbd hw3 hB d1
          go_wp2_with fail
          refine (writeString_any hb3 b (by rw [List.length_append, Hal.out]; show a.size + 1 + b.size ≤ _; omega) hB3.size).mono ?_
          rintro e w4 ⟨rfl, hb4, hw4⟩
          have hB4 := hB3.trans (wrote_below hw4 hB3.size)
          clear hb3 hw4 hB3
          go_wp2
          go_roundw
          case rel => exact ⟨1, by go_num, by omega, by rw [if_neg (by omega)]; exact hb4, hB4⟩
          case measure => simp [intOf]
        · obtain rfl : j = 1 := by omega
          rw [if_neg (by omega)] at hbd
          go_wp2_with fail
          refine (string_any hbd (Nat.le_refl _) hB.size).mono ?_
          rintro e w3 ⟨rfl, hb3, _⟩
          have hB3 := hB.trans hb3
          go_wp2
          go_ret
          exact ⟨rfl, hB3⟩
end Go.Proofs.YtiekbcbcbgmnmaaGreatDoor

/- package rational: Print, Parse. -/
namespace Go.Proofs.YtiekbcbcbgmnmaaGreatDoor
open Go.RowKit
attribute [local go_sem] Oper.semAt_some

/-- What a call of package rational needs of the library's variables. -/
structure EnvQ (w : World) : Prop where
  env : Env w
  max : ∃ m, w.cell? ⟨0, 0, none⟩ = some (.int .i64 m)
theorem EnvQ.below {w w' : World} {B : Nat} (h : EnvQ w) (hb : Below B w w') (hB : w.heap.size ≤ B) : EnvQ w' := by
  obtain ⟨m, hm⟩ := h.max
  exact ⟨h.env.below hb hB, m, (hb.cell (p := ⟨0, 0, none⟩) (Nat.lt_of_lt_of_le (World.block_lt_of_cell? w _ hm) hB)).trans hm⟩

theorem bs_ext {a b : ByteArray} (h : a.data.toList = b.data.toList) : a = b := ByteArray.ext (Array.toList_inj.1 h)
theorem bs_ne {a b : ByteArray} (h : a ≠ b) : (a.toList == b.toList) = false := by
  rw [ByteArray.toList_eq, ByteArray.toList_eq]
  exact beq_eq_false_iff_ne.2 (fun e => h (bs_ext e))
theorem okS_size {s : ByteArray} (h : okS s = true) : s.size ≤ 201 := by
  rw [(I_zS h).1]
  exact I_size (k := 200) (smallS h) (by decide)

/-- The text of a fraction; empty if it is none. -/
def prt (n d : ByteArray) : ByteArray := if rOk n d then (if zS d = 1 then n else ⟨(joined n d).toArray⟩) else ⟨#[]⟩

set_option maxRecDepth 100000 in
set_option maxHeartbeats 4000000 in
theorem qprint_any (n d : ByteArray) (w : World) (hE : Env w) :
    Calls Tryz.prog 30 #[.agg #[.string n, .string d]] w (Rets w (.string (prt n d))) := by
  have Q := fun W (hE : Env W) => qvalid_any n d W hE
  obtain ⟨W0, hW0, hk0, hB0⟩ := box_two w (.string n) (.string d) 23
  obtain ⟨c0, c1⟩ := blk_two hk0
  unfold prt
  cases hr : rOk n d with
  | false =>
    rw [hr] at Q
    rw [if_neg (by decide)]
    clear hr
    go_enter Tryz.func30, Tryz.ntmps30
    go_wp2_with fail
    rw [← hW0]
    refine (Q _ (hE.below hB0 (Nat.le_refl _))).mono ?_
    rintro e w1 ⟨rfl, hb⟩
    have hB1 := kb_call hb hB0 (Nat.le_refl _)
    go_wp2
    go_ret
    exact ⟨rfl, hB1⟩
  | true =>
    obtain ⟨hn, hd, _, _⟩ := rOk_parts hr
    have h1 := str_one (txtS hd)
    have sn := okS_size hn
    have sd := okS_size hd
    rw [hr] at Q
    rw [if_pos rfl]
    by_cases hz : zS d = 1
    · rw [if_pos hz]
      rw [decide_eq_true hz] at h1
      clear hr hn hd hz
      go_enter Tryz.func30, Tryz.ntmps30
      go_wp2_with fail
      rw [← hW0]
      clear hW0
      refine (Q _ (hE.below hB0 (Nat.le_refl _))).mono ?_
      rintro e w1 ⟨rfl, hb⟩
      have hk1 := hk0.below hb
      have hB1 := kb_call hb hB0 (Nat.le_refl _)
      clear c0 c1
      obtain ⟨c0, c1⟩ := blk_two hk1
      go_wp2
      go_ret
      exact ⟨rfl, hB1⟩
    · rw [if_neg hz]
      rw [decide_eq_false hz] at h1
      clear hr hn hd hz
      go_enter Tryz.func30, Tryz.ntmps30
      go_wp2_with fail
      rw [← hW0]
      clear hW0
      refine (Q _ (hE.below hB0 (Nat.le_refl _))).mono ?_
      rintro e w1 ⟨rfl, hb⟩
      have hk1 := hk0.below hb
      have hB1 := kb_call hb hB0 (Nat.le_refl _)
      clear c0 c1
      obtain ⟨c0, c1⟩ := blk_two hk1
      obtain ⟨W2, hW2, hk2, hB2⟩ := box_two w1 (.string n) (.string d) 9
      have hB3 := kb_call hB2 hB1 (Nat.le_refl _)
      have J := join_two n d w1.heap.size W2 hk2.lt (by omega) (by omega) (blk_two hk2).1 (blk_two hk2).2
      have J := Lib.hid J
      go_wp2_with fail
      rw [← hW2]
      refine J.out.mono ?_
      rintro e w3 ⟨rfl, hb3⟩
      have hB4 := kb_call hb3 hB3 (Nat.le_refl _)
      go_wp2
      go_ret
      exact ⟨rfl, hB4⟩
end Go.Proofs.YtiekbcbcbgmnmaaGreatDoor

/- package rational: Parse. -/
namespace Go.Proofs.YtiekbcbcbgmnmaaGreatDoor
open Go.RowKit
attribute [local go_sem] Oper.semAt_some

/-- The two texts that a text is cut into. -/
def cutN (s : ByteArray) : ByteArray := ⟨(Lib.cut s.data.toList [47]).1.toArray⟩
def cutD (s : ByteArray) : ByteArray := if (Lib.cut s.data.toList [47]).2.2 then ⟨(Lib.cut s.data.toList [47]).2.1.toArray⟩ else ⟨#[49]⟩
/-- What Parse returns. -/
def parQ (s : ByteArray) : Value := qT (rOk (cutN s) (cutD s) && decide (prt (cutN s) (cutD s) = s)) (rv (cutN s) (cutD s))
theorem prt_ne {n d : ByteArray} (h : rOk n d = true) : prt n d ≠ ⟨#[]⟩ := by
  unfold prt
  rw [if_pos h]
  split
  · intro e
    have hn := (rOk_parts h).1
    rw [e] at hn
    exact absurd hn (by decide +kernel)
  · intro e
    have := congrArg (fun s : ByteArray => s.data.toList) e
    simp [joined] at this
theorem cut_max (s : ByteArray) (w : World) (hE : EnvQ w) (hs : s.size ≤ 100000) :
    Calls Tryz.prog 56 #[.string s, .string ⟨#[47]⟩] w fun e w' => e = .returned (.tuple #[.string (cutN s), .string ⟨(Lib.cut s.data.toList [47]).2.1.toArray⟩, .bool (Lib.cut s.data.toList [47]).2.2]) ∧ Below w.heap.size w w' := by
  obtain ⟨m, hm⟩ := hE.max
  refine (Tryz.strings_Cut s ⟨#[47]⟩ m w (by omega) hm).mono ?_
  rintro e w' ⟨rfl, k, rfl⟩
  exact ⟨rfl, below_drewN _ _⟩
theorem empty_toList : ∀ {s : ByteArray}, s ≠ ⟨#[]⟩ → s.toList ≠ [] := by
  intro s h e
  rw [ByteArray.toList_eq] at e
  exact h (bs_ext (by rw [e]))

set_option maxRecDepth 100000 in
set_option maxHeartbeats 8000000 in
theorem qparse_run (s : ByteArray) (hs : s.size ≤ 100000) (w : World) (hE : EnvQ w) :
    Calls Tryz.prog 29 #[.string s] w (Rets w (parQ s)) := by
  have C := fun W (hE : EnvQ W) => cut_max s W hE hs
  have PP := fun W (hE : Env W) => qprint_any (cutN s) (cutD s) W hE
  unfold parQ
  obtain ⟨V1, e1, R1, b1⟩ := box_two w (.string ⟨#[]⟩) (.string ⟨#[]⟩) 23
  obtain ⟨V2, e2, a2, b2⟩ := box_two V1 (.string ⟨#[]⟩) (.string ⟨#[49]⟩) 23
  have z1 : V1.heap.size = w.heap.size + 1 := by rw [e1, World.size_alloc]
  rw [z1] at a2
  have hV : V2 = (w.alloc (.cells #[.string ⟨#[]⟩, .string ⟨#[]⟩] 23)).alloc (.cells #[.string ⟨#[]⟩, .string ⟨#[49]⟩] 23) := by rw [e2, e1]
  have hB := kb_call b2 b1 (Nat.le_refl _)
  have hR := R1.below b2
  clear e1 e2 R1 b1 b2 z1
  go_enter Tryz.func29, Tryz.ntmps29
  go_wp2_with fail
  rw [← hV]
  clear hV
  refine (C _ (hE.below hB (Nat.le_refl _))).mono ?_
  rintro e w1 ⟨rfl, hb⟩
  have R1 := hR.below hb
  have A1 := a2.below hb
  have B1 := kb_call hb hB (Nat.le_refl _)
  clear hR a2 hB hb C
  have A2 := A1.set 0 (.string (cutN s))
  have o2 := (Only.refl [w.heap.size + 1] w1).setCell (p := ⟨w.heap.size + 1, 0, none⟩) (by simp) (.string (cutN s))
  have R2 := R1.only o2 (by simp)
  have B2 := B1.setCell (p := ⟨w.heap.size + 1, 0, none⟩) (Nat.le_succ _) (.string (cutN s))
  have c0 := (blk_two A1).1
  have f0 := A1.frozen 0
  have hcd : cutD s = if (Lib.cut s.data.toList [47]).2.2 then ⟨(Lib.cut s.data.toList [47]).2.1.toArray⟩ else ⟨#[49]⟩ := rfl
  have Hcd := Lib.hid hcd
  clear hcd A1 R1 B1 o2
  generalize cutN s = n at *
  generalize (⟨(Lib.cut s.data.toList [47]).2.1.toArray⟩ : ByteArray) = dd at *
  have hmain : ∀ (W : World) (d : ByteArray), True := fun _ _ => trivial
  clear hmain
  generalize cutD s = d at *
  cases his : (Lib.cut s.data.toList [47]).2.2 with
  | true =>
    rw [his, if_pos rfl] at Hcd
    obtain rfl := Hcd.out
    have c1 := (blk_two A2).2
    have f1 := A2.frozen 1
    have A3 := A2.set 1 (.string d)
    have o3 := (Only.refl [w.heap.size + 1] (w1.setCell ⟨w.heap.size + 1, 0, none⟩ (.string n))).setCell (p := ⟨w.heap.size + 1, 1, none⟩) (by simp) (.string d)
    have R3 := R2.only o3 (by simp)
    have B3 := B2.setCell (p := ⟨w.heap.size + 1, 1, none⟩) (Nat.le_succ _) (.string d)
    have g0 := (blk_two A3).1
    have g1 := (blk_two A3).2
    clear A2 R2 B2 o3 Hcd his
    go_wp2_with fail
    refine (PP _ (hE.env.below B3 (Nat.le_refl _))).mono ?_
    rintro e w2 ⟨rfl, hb⟩
    have A4 := A3.below hb
    have R4 := R3.below hb
    have B4 := kb_call hb B3 (Nat.le_refl _)
    clear A3 R3 B3 hb g0 g1 PP
    obtain ⟨x0, x1⟩ := blk_two A4
    cases hr : rOk n d with
    | false =>
      have hpz : prt n d = ⟨#[]⟩ := by unfold prt; rw [hr]; rfl
      rw [hpz]
      by_cases hs0 : s = ⟨#[]⟩
      · subst hs0
        have HQ := Lib.hid (show qT (rOk n d && decide (prt n d = ⟨#[]⟩)) (rv n d) = .tuple #[.agg #[.string ⟨#[]⟩, .string ⟨#[]⟩], .int .i64 40] by rw [hr]; rfl)
        clear hpz hr
        obtain ⟨k0, k1, q0, q1, y0, y1, hfin⟩ := res_after R4 ⟨#[]⟩ ⟨#[]⟩
        have hfin := Lib.hid (hfin w B4 (Nat.le_refl _))
        clear R4 B4 A4
        go_wp2
        exact bodyPost_ret (v := .tuple #[.agg #[.string ⟨#[]⟩, .string ⟨#[]⟩], .int .i64 40]) (by simp [results, Tryz.results29, go_sem, y0, y1]) rfl ⟨congrArg Ending.returned HQ.out.symm, hfin.out⟩
      · have hne := bs_ne (show (⟨#[]⟩ : ByteArray) ≠ s from fun e => hs0 e.symm)
        have hne2 := empty_toList hs0
        clear hs0
        have HQ := Lib.hid (show qT (rOk n d && decide (prt n d = s)) (rv n d) = .tuple #[.agg #[.string ⟨#[]⟩, .string ⟨#[]⟩], .int .i64 40] by rw [hr]; rfl)
        clear hpz hr
        obtain ⟨k0, k1, q0, q1, y0, y1, hfin⟩ := res_after R4 ⟨#[]⟩ ⟨#[]⟩
        have hfin := Lib.hid (hfin w B4 (Nat.le_refl _))
        clear R4 B4 A4
        go_wp2
        exact bodyPost_ret (v := .tuple #[.agg #[.string ⟨#[]⟩, .string ⟨#[]⟩], .int .i64 40]) (by simp [results, Tryz.results29, go_sem, y0, y1]) rfl ⟨congrArg Ending.returned HQ.out.symm, hfin.out⟩
    | true =>
      by_cases hps : prt n d = s
      · have hs0 : s ≠ ⟨#[]⟩ := by rw [← hps]; exact prt_ne hr
        have hne2 := empty_toList hs0
        have hne3 : (s.toList == []) = false := by cases h : s.toList with
          | nil => exact absurd h hne2
          | cons _ _ => rfl
        obtain ⟨t1, t2, _⟩ := rOk_texts hr
        have HQ := Lib.hid (show qT (rOk n d && decide (prt n d = s)) (rv n d) = .tuple #[.agg #[.string n, .string d], .int .i64 0] by rw [hr, decide_eq_true hps, Bool.and_self, qT_true, ← t1, ← t2])
        rw [hps]
        clear hps hr t1 t2 hs0
        obtain ⟨k0, k1, q0, q1, y0, y1, hfin⟩ := res_after R4 n d
        have hfin := Lib.hid (hfin w B4 (Nat.le_refl _))
        clear R4 B4 A4
        go_wp2
        exact bodyPost_ret (v := .tuple #[.agg #[.string n, .string d], .int .i64 0]) (by simp [results, Tryz.results29, go_sem, y0, y1]) rfl ⟨congrArg Ending.returned HQ.out.symm, hfin.out⟩
      · have hne := bs_ne hps
        have HQ := Lib.hid (show qT (rOk n d && decide (prt n d = s)) (rv n d) = .tuple #[.agg #[.string ⟨#[]⟩, .string ⟨#[]⟩], .int .i64 40] by rw [hr, decide_eq_false hps]; rfl)
        clear hps hr
        generalize prt n d = pz at *
        obtain ⟨k0, k1, q0, q1, y0, y1, hfin⟩ := res_after R4 ⟨#[]⟩ ⟨#[]⟩
        have hfin := Lib.hid (hfin w B4 (Nat.le_refl _))
        clear R4 B4 A4
        go_wp2
        exact bodyPost_ret (v := .tuple #[.agg #[.string ⟨#[]⟩, .string ⟨#[]⟩], .int .i64 40]) (by simp [results, Tryz.results29, go_sem, y0, y1]) rfl ⟨congrArg Ending.returned HQ.out.symm, hfin.out⟩
  | false =>
    rw [his, if_neg (by decide)] at Hcd
    obtain rfl := Hcd.out
    have g0 := (blk_two A2).1
    have g1 := (blk_two A2).2
    clear Hcd his
    go_wp2_with fail
    refine (PP _ (hE.env.below B2 (Nat.le_refl _))).mono ?_
    rintro e w2 ⟨rfl, hb⟩
    have A4 := A2.below hb
    have R4 := R2.below hb
    have B4 := kb_call hb B2 (Nat.le_refl _)
    clear A2 R2 B2 hb g0 g1 PP
    obtain ⟨x0, x1⟩ := blk_two A4
    cases hr : rOk n ⟨#[49]⟩ with
    | false =>
      have hpz : prt n ⟨#[49]⟩ = ⟨#[]⟩ := by unfold prt; rw [hr]; rfl
      rw [hpz]
      by_cases hs0 : s = ⟨#[]⟩
      · subst hs0
        have HQ := Lib.hid (show qT (rOk n ⟨#[49]⟩ && decide (prt n ⟨#[49]⟩ = ⟨#[]⟩)) (rv n ⟨#[49]⟩) = .tuple #[.agg #[.string ⟨#[]⟩, .string ⟨#[]⟩], .int .i64 40] by rw [hr]; rfl)
        clear hpz hr
        obtain ⟨k0, k1, q0, q1, y0, y1, hfin⟩ := res_after R4 ⟨#[]⟩ ⟨#[]⟩
        have hfin := Lib.hid (hfin w B4 (Nat.le_refl _))
        clear R4 B4 A4
        go_wp2
        exact bodyPost_ret (v := .tuple #[.agg #[.string ⟨#[]⟩, .string ⟨#[]⟩], .int .i64 40]) (by simp [results, Tryz.results29, go_sem, y0, y1]) rfl ⟨congrArg Ending.returned HQ.out.symm, hfin.out⟩
      · have hne := bs_ne (show (⟨#[]⟩ : ByteArray) ≠ s from fun e => hs0 e.symm)
        have hne2 := empty_toList hs0
        clear hs0
        have HQ := Lib.hid (show qT (rOk n ⟨#[49]⟩ && decide (prt n ⟨#[49]⟩ = s)) (rv n ⟨#[49]⟩) = .tuple #[.agg #[.string ⟨#[]⟩, .string ⟨#[]⟩], .int .i64 40] by rw [hr]; rfl)
        clear hpz hr
        obtain ⟨k0, k1, q0, q1, y0, y1, hfin⟩ := res_after R4 ⟨#[]⟩ ⟨#[]⟩
        have hfin := Lib.hid (hfin w B4 (Nat.le_refl _))
        clear R4 B4 A4
        go_wp2
        exact bodyPost_ret (v := .tuple #[.agg #[.string ⟨#[]⟩, .string ⟨#[]⟩], .int .i64 40]) (by simp [results, Tryz.results29, go_sem, y0, y1]) rfl ⟨congrArg Ending.returned HQ.out.symm, hfin.out⟩
    | true =>
      by_cases hps : prt n ⟨#[49]⟩ = s
      · have hs0 : s ≠ ⟨#[]⟩ := by rw [← hps]; exact prt_ne hr
        have hne2 := empty_toList hs0
        have hne3 : (s.toList == []) = false := by cases h : s.toList with
          | nil => exact absurd h hne2
          | cons _ _ => rfl
        obtain ⟨t1, t2, _⟩ := rOk_texts hr
        have HQ := Lib.hid (show qT (rOk n ⟨#[49]⟩ && decide (prt n ⟨#[49]⟩ = s)) (rv n ⟨#[49]⟩) = .tuple #[.agg #[.string n, .string ⟨#[49]⟩], .int .i64 0] by rw [hr, decide_eq_true hps, Bool.and_self, qT_true, ← t1, ← t2])
        rw [hps]
        clear hps hr t1 t2 hs0
        obtain ⟨k0, k1, q0, q1, y0, y1, hfin⟩ := res_after R4 n ⟨#[49]⟩
        have hfin := Lib.hid (hfin w B4 (Nat.le_refl _))
        clear R4 B4 A4
        go_wp2
        exact bodyPost_ret (v := .tuple #[.agg #[.string n, .string ⟨#[49]⟩], .int .i64 0]) (by simp [results, Tryz.results29, go_sem, y0, y1]) rfl ⟨congrArg Ending.returned HQ.out.symm, hfin.out⟩
      · have hne := bs_ne hps
        have HQ := Lib.hid (show qT (rOk n ⟨#[49]⟩ && decide (prt n ⟨#[49]⟩ = s)) (rv n ⟨#[49]⟩) = .tuple #[.agg #[.string ⟨#[]⟩, .string ⟨#[]⟩], .int .i64 40] by rw [hr, decide_eq_false hps]; rfl)
        clear hps hr
        generalize prt n ⟨#[49]⟩ = pz at *
        obtain ⟨k0, k1, q0, q1, y0, y1, hfin⟩ := res_after R4 ⟨#[]⟩ ⟨#[]⟩
        have hfin := Lib.hid (hfin w B4 (Nat.le_refl _))
        clear R4 B4 A4
        go_wp2
        exact bodyPost_ret (v := .tuple #[.agg #[.string ⟨#[]⟩, .string ⟨#[]⟩], .int .i64 40]) (by simp [results, Tryz.results29, go_sem, y0, y1]) rfl ⟨congrArg Ending.returned HQ.out.symm, hfin.out⟩
end Go.Proofs.YtiekbcbcbgmnmaaGreatDoor

/- The plain wrap for a row that lists variables, the world's shape kept. -/
namespace Go.Proofs.YtiekbcbcbgmnmaaGreatDoor
open Go.RowKit
section
variable {H : Type} {enc : TypeId × Value → H}
theorem returnsInHanded_laid_shaped {a : Assume} {C : Checked} {os : Os} {f : FuncId} {fn : Func} {s : ChangeSpec} {conds : List PathCond} {apart fresh handsOn again : Bool} {X : World → Array Value → Prop}
    (hX : ∀ (w w' : World) (args : Array Value), w.heap = w'.heap → X w args → X w' args)
    (own : ownKnob C.prog.godebug = none) (started : os.Started) (noInit : C.prog.inits.idxOf? f = none) (hfn : C.prog.funcs[f]? = some fn)
    (witness : ∃ (w : World) (tape : Tape) (i : Input), w.os = os ∧ (w.forCall tape i).Shaped C.prog ∧ i.vars = [] ∧ Input.okWide C.prog (w.forCall tape i) .any w.heap.size f i ∧
      ((s.pre enc C.prog fn conds apart (w.forCall tape i).memory i.args ∧ X (w.forCall tape i).memory i.args) ∧ sizedMet enc C.prog fn (OpenSpec.ofChange s) apart (w.forCall tape i).memory i.args) ∧ a.holds C.prog (lone (Frame.enter C.prog f i.args .normal) [] (w.forCall tape i)))
    (contract : ∀ (W : World) (base : Nat) (args : Array Value) (ds gs : List (DataW H)) (before : List MemPlace),
      (∀ (j : Nat) t v, fn.params[j]? = some t → args[j]? = some v → Value.okWide C.prog W .any base t v) →
      DataW.Whole enc C.prog fn.params.toList s.vars apart W args.toList ds gs before →
      conds.all (PathCond.test C.prog ⟨fn.params.toList, ds, s.plain.varTypes C.prog, gs⟩) = true →
      (DataW.weightsEach C.prog (fn.params.toList ++ s.plain.varTypes C.prog) (ds ++ gs)).all (· ≤ reachBytes) = true → X W args → W.ShapedOpen C.prog →
      a.holds C.prog (lone (Frame.enter C.prog f args .normal) [] W) →
      Calls C.prog f args W fun e W' => ∃ v, e = .returned v ∧ s.post enc C.prog fn apart fresh handsOn again W args v W') :
    ReturnsInHanded a C os f .any (fun w args => (s.pre enc C.prog fn conds apart w args ∧ X w args) ∧ sizedMet enc C.prog fn (OpenSpec.ofChange s) apart w args) (s.post enc C.prog fn apart fresh handsOn again) := by
  refine returnsInHanded_of_calls own started noInit witness ?_
  intro w tape i _ hsh _ hok hpre hholds
  obtain ⟨_, _, _, fn', hfn', _, _, _, _, hval⟩ := hok
  have e : fn' = fn := Option.some.inj (hfn'.symm.trans hfn)
  subst e
  obtain ⟨⟨⟨ds, gs, before, hw, hc⟩, hx⟩, hz⟩ := hpre
  have hw' := DataW.Whole.of_heap (w' := w.forCall tape i) (by rfl) hw
  refine (contract (w.forCall tape i) w.heap.size i.args ds gs before hval hw' hc (hz.weights hw) (hX _ _ _ (by rfl) hx) hsh hholds).mono fun e W' ⟨v, he, hp⟩ => ?_
  subst he
  exact ChangeSpec.post_blind hp
end
theorem max_of_shape {W : World} (h : W.ShapedOpen Tryz.prog) : ∃ m, W.cell? ⟨0, 0, none⟩ = some (.int .i64 m) := Tryz.laysM145.s1_3 W h
end Go.Proofs.YtiekbcbcbgmnmaaGreatDoor
