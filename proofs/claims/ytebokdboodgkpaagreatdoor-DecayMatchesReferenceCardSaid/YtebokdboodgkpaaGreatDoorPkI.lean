/- PkI: RatC RatG Join RatT RatU Wrap -/
import Derived.Test.YtebokdboodgkpaaGreatDoorPkH
import Derived.Scope
import Derived.ScopeJumps
import Derived.WalkMore
import Derived.BigRegion
import Derived.RegionTactic
import Derived.Test.YtebokdboodgkpaaGreatDoorPkC
import Derived.Shelf.Vars
import Derived.Handed
import Derived.WideShapes
/- package rational: Compare. -/
namespace Go.Proofs.YtebokdboodgkpaaGreatDoor
open Go.RowKit
attribute [local go_sem] Oper.semAt_some

/-- A scope with jumps back: the pass from the label on serves the first one, too. -/
theorem scope_pass {P : Program} {a : Act} {w : World} {Q : Exit → Act → World → Prop} {c rest : Code} (l : Nat) (J : Act → World → Prop) (μ : Act → World → Nat) (hf : findLabel c l = some (Code.skip.seq rest))
    (pass : ∀ a w, J a w → rest.wp P (Exit.jump l (fun a' w' => J a' w' ∧ μ a' w' < μ a w) Q) a w)
    (first : (∀ a w, J a w → rest.wp P (Exit.jump l J Q) a w) → c.wp P (Exit.jump l J Q) a w) : (Code.scope c).wp P Q a w :=
  wp_scope_jumps l J μ hf (first fun a w h => Code.wp_mono (fun e a' w' h' => by
    cases e with
    | goto l' => exact ⟨h'.1, h'.2.1⟩
    | normal => exact h'
    | exit _ => exact h'
    | ret => exact h'
    | panic _ => exact h'
    | outgrown => exact h') (pass a w h)) (fun a w h => wp_seq (wp_skip (pass a w h)))

/-- What holds whenever the comparison begins anew. -/
def CmpAt (w : World) (tgt : Int) (h : Nat) (sg : Int) (W : World) : Prop := ∃ x1 y1 x2 y2 : Int, Small x1 ∧ Small y1 ∧ Small x2 ∧ Small y2 ∧ 0 < y1 ∧ 0 < y2 ∧ (sg = 1 ∨ sg = -1) ∧ sg * Lib.compareInt (x1 * y2) (x2 * y1) = tgt ∧
  Blk W h #[.string (I x1), .string (I y1)] 27 ∧ Blk W (h + 1) #[.string (I x2), .string (I y2)] 27 ∧ Below w.heap.size w W
/-- The denominator in a block. -/
def denAt (W : World) (h : Nat) : Nat := match W.cell? ⟨h, 1, none⟩ with
  | some (.string s) => (zS s).toNat
  | _ => 0
theorem denAt_of {W : World} {h : Nat} {n : ByteArray} {y : Int} {t : TypeId} (hb : Blk W h #[.string n, .string (I y)] t) : denAt W h = y.toNat := by
  unfold denAt; rw [(blk_two hb).2]; simp only [zS_I]

theorem cmp_quo {x1 y1 x2 y2 : Int} (h1 : 0 < y1) (h2 : 0 < y2) (hne : x1 / y1 ≠ x2 / y2) : Lib.compareInt (x1 * y2) (x2 * y1) = Lib.compareInt (x1 / y1) (x2 / y2) := by
  have e1 := Int.emod_add_mul_ediv x1 y1
  have e2 := Int.emod_add_mul_ediv x2 y2
  have a1 := Int.emod_nonneg x1 (show y1 ≠ 0 by omega)
  have a2 := Int.emod_nonneg x2 (show y2 ≠ 0 by omega)
  have b1 := Int.emod_lt_of_pos x1 h1
  have b2 := Int.emod_lt_of_pos x2 h2
  generalize x1 / y1 = p at *
  generalize x2 / y2 = q at *
  generalize x1 % y1 = r at *
  generalize x2 % y2 = s at *
  subst e1 e2
  have key : ∀ p q r s y1 y2 : Int, 0 < y1 → 0 < y2 → r < y1 → 0 ≤ s → p < q → (r + y1 * p) * y2 < (s + y2 * q) * y1 := by
    intro p q r s y1 y2 h1 h2 hr hs hpq
    have t1 : (r + y1 * p) * y2 = r * y2 + y1 * y2 * p := by grind
    have t2 : (s + y2 * q) * y1 = s * y1 + y1 * y2 * q := by grind
    have t3 : r * y2 < y1 * y2 := Int.mul_lt_mul_of_pos_right hr h2
    have t4 : 0 ≤ s * y1 := Int.mul_nonneg hs (Int.le_of_lt h1)
    have t5 : y1 * y2 * (p + 1) ≤ y1 * y2 * q := Int.mul_le_mul_of_nonneg_left (by omega) (Int.le_of_lt (Int.mul_pos h1 h2))
    have t6 : y1 * y2 * (p + 1) = y1 * y2 * p + y1 * y2 := by grind
    omega
  rcases Int.lt_trichotomy p q with h | h | h
  · rw [compareInt_lt h, compareInt_lt (key p q r s y1 y2 h1 h2 b1 a2 h)]
  · exact absurd h hne
  · rw [compareInt_gt h, compareInt_gt (key q p s r y2 y1 h2 h1 b2 a1 h)]
theorem cmp_rest {x1 y1 x2 y2 : Int} (he : x1 / y1 = x2 / y2) : Lib.compareInt (x1 * y2) (x2 * y1) = Lib.compareInt (x1 % y1 * y2) (x2 % y2 * y1) := by
  have e1 := Int.emod_add_mul_ediv x1 y1
  have e2 := Int.emod_add_mul_ediv x2 y2
  rw [he] at e1
  generalize x2 / y2 = q at *
  generalize x1 % y1 = r at *
  generalize x2 % y2 = s at *
  subst e1 e2
  have t1 : (r + y1 * q) * y2 = r * y2 + y1 * y2 * q := by grind
  have t2 : (s + y2 * q) * y1 = s * y1 + y1 * y2 * q := by grind
  rw [t1, t2]
  rcases Int.lt_trichotomy (r * y2) (s * y1) with h | h | h
  · rw [compareInt_lt h, compareInt_lt (by omega)]
  · rw [h, compareInt_eq, compareInt_eq]
  · rw [compareInt_gt h, compareInt_gt (by omega)]
theorem cmp_swap (x y : Int) : Lib.compareInt y x = -Lib.compareInt x y := by
  rcases Int.lt_trichotomy x y with h | h | h
  · rw [compareInt_lt h, compareInt_gt h]; rfl
  · rw [h, compareInt_eq]; rfl
  · rw [compareInt_gt h, compareInt_lt h]
theorem cmp_vals (x y : Int) : Lib.compareInt x y = 0 ∨ Lib.compareInt x y = 1 ∨ Lib.compareInt x y = -1 := by
  rcases Int.lt_trichotomy x y with h | h | h
  · rw [compareInt_lt h]; simp
  · subst h; rw [compareInt_eq]; exact Or.inl rfl
  · rw [compareInt_gt h]; simp
theorem cmp_zero_iff {x y : Int} : Lib.compareInt x y = 0 ↔ x = y := by
  rcases Int.lt_trichotomy x y with h | h | h
  · rw [compareInt_lt h]; constructor <;> intro e <;> omega
  · subst h; rw [compareInt_eq]; exact ⟨fun _ => rfl, fun _ => rfl⟩
  · rw [compareInt_gt h]; constructor <;> intro e <;> omega

/-- What holds at each jump back. -/
def CmpJ (w : World) (tgt : Int) (h : Nat) (n1 d1 n2 d2 : ByteArray) (a' : Act) (w' : World) : Prop := ∃ (sg : Int) (u4 u6 u7 u8 u9 u10 u11 u12 u13 u14 u15 u16 u17 u18 u19 u20 u21 u22 u23 u24 u25 u26 u27 u28 u29 u30 u31 u32 u33 u34 u35 u36 u37 u38 u39 u40 u41 u42 u43 u44 u45 u46 u47 u48 u49 u50 u51 u52 u53 u54 u55 u56 u57 u58 u59 u60 u61 u62 u63 u64 u65 u66 u67 u68 u69 u70 u71 u72 u73 : Value), a' = { tmps := #[.agg #[.string n1, .string d1], .agg #[.string n2, .string d2], .pointer (some ⟨h, 0, none⟩), .pointer (some ⟨h + 1, 0, none⟩), u4, .int .i64 sg, u6, u7, u8, u9, u10, u11, u12, u13, u14, u15, u16, u17, u18, u19, u20, u21, u22, u23, u24, u25, u26, u27, u28, u29, u30, u31, u32, u33, u34, u35, u36, u37, u38, u39, u40, u41, u42, u43, u44, u45, u46, u47, u48, u49, u50, u51, u52, u53, u54, u55, u56, u57, u58, u59, u60, u61, u62, u63, u64, u65, u66, u67, u68, u69, u70, u71, u72, u73], defers := [] } ∧ CmpAt w tgt h sg w'
theorem two_fracs {W w : World} {h : Nat} {a b c d : ByteArray} (bA : Blk W h #[.string a, .string b] 27) (bC : Blk W (h + 1) #[.string c, .string d] 27) (hB : Below w.heap.size w W) (hh : w.heap.size ≤ h) (a' b' c' d' : ByteArray) :
    Blk ((((W.setCell ⟨h, 0, none⟩ (.string a')).setCell ⟨h, 1, none⟩ (.string b')).setCell ⟨h + 1, 0, none⟩ (.string c')).setCell ⟨h + 1, 1, none⟩ (.string d')).drew h #[.string a', .string b'] 27 ∧
    Blk ((((W.setCell ⟨h, 0, none⟩ (.string a')).setCell ⟨h, 1, none⟩ (.string b')).setCell ⟨h + 1, 0, none⟩ (.string c')).setCell ⟨h + 1, 1, none⟩ (.string d')).drew (h + 1) #[.string c', .string d'] 27 ∧
    Below w.heap.size w ((((W.setCell ⟨h, 0, none⟩ (.string a')).setCell ⟨h, 1, none⟩ (.string b')).setCell ⟨h + 1, 0, none⟩ (.string c')).setCell ⟨h + 1, 1, none⟩ (.string d')).drew := by
  have o1 : Only [h] W ((W.setCell ⟨h, 0, none⟩ (.string a')).setCell ⟨h, 1, none⟩ (.string b')) := ((Only.refl [h] W).setCell (p := ⟨h, 0, none⟩) (by simp) _).setCell (p := ⟨h, 1, none⟩) (by simp) _
  have A1 := (bA.set 0 (.string a')).set 1 (.string b')
  have C1 := bC.only o1 (by simp)
  have o2 := ((Only.refl [h + 1] ((W.setCell ⟨h, 0, none⟩ (.string a')).setCell ⟨h, 1, none⟩ (.string b'))).setCell (p := ⟨h + 1, 0, none⟩) (by simp) (.string c')).setCell (p := ⟨h + 1, 1, none⟩) (by simp) (.string d')
  have A2 := A1.only o2 (by simp)
  have C2 := (C1.set 0 (.string c')).set 1 (.string d')
  have B2 := (((hB.setCell (p := ⟨h, 0, none⟩) hh (.string a')).setCell (p := ⟨h, 1, none⟩) hh (.string b')).setCell (p := ⟨h + 1, 0, none⟩) (Nat.le_succ_of_le hh) (.string c')).setCell (p := ⟨h + 1, 1, none⟩) (Nat.le_succ_of_le hh) (.string d')
  exact ⟨A2.below (below_drewN _ 1), C2.below (below_drewN _ 1), kb_drew B2⟩

set_option maxRecDepth 100000 in
set_option maxHeartbeats 16000000 in
theorem qcmp_ok (n1 d1 n2 d2 : ByteArray) (w : World) (hE : Env w) (h1 : rOk n1 d1 = true) (h2 : rOk n2 d2 = true) :
    Calls Tryz.prog 46 #[.agg #[.string n1, .string d1], .agg #[.string n2, .string d2]] w (Rets w (.int .i64 (Lib.compareInt (zS n1 * zS d2) (zS n2 * zS d1)))) := by
  have p1 := rOk_parts h1
  have p2 := rOk_parts h2
  have T0 : ∀ W : World, Blk W w.heap.size #[.string n1, .string d1] 27 → Blk W (w.heap.size + 1) #[.string n2, .string d2] 27 → Below w.heap.size w W → CmpAt w (Lib.compareInt (zS n1 * zS d2) (zS n2 * zS d1)) w.heap.size 1 W := fun W a c b =>
    ⟨zS n1, zS d1, zS n2, zS d2, smallS p1.1, smallS p1.2.1, smallS p2.1, smallS p2.2.1, p1.2.2.1, p2.2.2.1, Or.inl rfl, Int.one_mul _, by rw [← txtS p1.1, ← txtS p1.2.1]; exact a, by rw [← txtS p2.1, ← txtS p2.2.1]; exact c, b⟩
  generalize Lib.compareInt (zS n1 * zS d2) (zS n2 * zS d1) = tgt at *
  have Q1 := fun W (hE : Env W) => qvalid_any n1 d1 W hE
  have Q2 := fun W (hE : Env W) => qvalid_any n2 d2 W hE
  rw [h1] at Q1
  rw [h2] at Q2
  clear h1 h2 p1 p2
  obtain ⟨h, hh⟩ : ∃ h : Nat, h = w.heap.size := ⟨_, rfl⟩
  have hBh : w.heap.size ≤ h := by omega
  obtain ⟨V1, e1, a1, b1⟩ := box_two w (.string n1) (.string d1) 27
  obtain ⟨V2, e2, a2, b2⟩ := box_two V1 (.string n2) (.string d2) 27
  have z1 : V1.heap.size = w.heap.size + 1 := by rw [e1, World.size_alloc]
  rw [z1] at a2
  have hV : V2 = (w.alloc (.cells #[.string n1, .string d1] 27)).alloc (.cells #[.string n2, .string d2] 27) := by rw [e2, e1]
  have hB := kb_call b2 b1 (Nat.le_refl _)
  have hA := a1.below b2
  have T0 := Lib.hid T0
  have Hh := Lib.hid hh
  clear e1 e2 a1 b1 b2 z1 hh
  go_enter Tryz.func46, Tryz.ntmps46
  go_wp2_with fail
  rw [← hV]
  clear hV
  refine scope_pass 0 (CmpJ w tgt h n1 d1 n2 d2) (fun _ w' => denAt w' h) rfl ?_ ?_
  · intro a' w' hJ
    obtain ⟨sg, u4, u6, u7, u8, u9, u10, u11, u12, u13, u14, u15, u16, u17, u18, u19, u20, u21, u22, u23, u24, u25, u26, u27, u28, u29, u30, u31, u32, u33, u34, u35, u36, u37, u38, u39, u40, u41, u42, u43, u44, u45, u46, u47, u48, u49, u50, u51, u52, u53, u54, u55, u56, u57, u58, u59, u60, u61, u62, u63, u64, u65, u66, u67, u68, u69, u70, u71, u72, u73, rfl, hc⟩ := hJ
    obtain ⟨x1, y1, x2, y2, sx1, sy1, sx2, sy2, hy1, hy2, hsg, ht, bA, bC, hB'⟩ := hc
    have hEw := hE.below hB' (Nat.le_refl _)
    obtain ⟨c0, c1⟩ := blk_two bA
    obtain ⟨c2, c3⟩ := blk_two bC
    have D1 := fun W (hE : Env W) => div_is (a := I x1) (b := I y1) rfl rfl sx1 sy1 W hE _ _ _ _ (by omega) rfl rfl rfl rfl
    have D2 := fun W (hE : Env W) => div_is (a := I x2) (b := I y2) rfl rfl sx2 sy2 W hE _ _ _ _ (by omega) rfl rfl rfl rfl
    go_wp2_with fail
    refine (D1 _ hEw).mono ?_
    rintro e v1 ⟨rfl, hb⟩
    have bA1 := bA.below hb
    have bC1 := bC.below hb
    have hB1 := kb_call hb hB' (Nat.le_refl _)
    clear c0 c1 c2 c3 hb
    obtain ⟨c0, c1⟩ := blk_two bA1
    obtain ⟨c2, c3⟩ := blk_two bC1
    go_wp2_with fail
    refine (D2 _ (hE.below hB1 (Nat.le_refl _))).mono ?_
    rintro e v2 ⟨rfl, hb⟩
    have bA2 := bA1.below hb
    have bC2 := bC1.below hb
    have hB2 := kb_call hb hB1 (Nat.le_refl _)
    clear c0 c1 c2 c3 hb hB1 bA1 bC1 D1 D2
    go_wp2_with fail
    refine (cmp_is rfl rfl (small_quo sx1) (small_quo sx2) _ _ rfl).mono ?_
    rintro e v3 ⟨rfl, hb⟩
    have bA3 := bA2.below hb
    have bC3 := bC2.below hb
    have hB3 := kb_call hb hB2 (Nat.le_refl _)
    clear hb hB2 bA2 bC2
    obtain ⟨c0, c1⟩ := blk_two bA3
    obtain ⟨c2, c3⟩ := blk_two bC3
    have hr0 := Int.emod_nonneg x1 (show y1 ≠ 0 by omega)
    have hs0 := Int.emod_nonneg x2 (show y2 ≠ 0 by omega)
    have hr1 := Int.emod_lt_of_pos x1 hy1
    have hs1 := Int.emod_lt_of_pos x2 hy2
    have hden := denAt_of bA
    by_cases hq : x1 / y1 = x2 / y2
    · have ht2 := Lib.hid (show sg * Lib.compareInt (x1 % y1 * y2) (x2 % y2 * y1) = tgt by rw [← cmp_rest hq]; exact ht)
      rw [hq, compareInt_eq]
      clear ht hq
      generalize x1 % y1 = r at *
      generalize x2 % y2 = s at *
      generalize I (x1 / y1) = sp at *
      generalize I (x2 / y2) = sq at *
      by_cases er : r = 0
      · subst er
        have tr := toList_zero (rfl : I 0 = I 0)
        by_cases es : s = 0
        · subst es
          have hz := Lib.hid (show (0 : Int) = tgt by rw [← ht2.out, Int.zero_mul, Int.zero_mul, compareInt_eq, Int.mul_zero])
          generalize I 0 = z0 at *
          go_wp2
          simp only [Exit.jump]
          go_ret
          exact ⟨ret_int hz.out, hB3⟩
        · have ts := str_ne_zero (rfl : I s = I s) es
          have hz := Lib.hid (show -sg = tgt by rw [← ht2.out, Int.zero_mul, compareInt_lt (Int.mul_pos (by omega) hy1)]; omega)
          have hsg0 : -1 ≤ sg := by omega
          have hsg1 : sg ≤ 1 := by omega
          generalize I 0 = z0 at *
          generalize I s = zs at *
          go_wp2
          simp only [Exit.jump]
          go_ret
          exact ⟨ret_int hz.out, hB3⟩
      · have tr := str_ne_zero (rfl : I r = I r) er
        by_cases es : s = 0
        · subst es
          have ts := toList_zero (rfl : I 0 = I 0)
          have hz := Lib.hid (show sg = tgt by rw [← ht2.out, Int.zero_mul, compareInt_gt (Int.mul_pos (by omega) hy2), Int.mul_one])
          generalize I 0 = z0 at *
          generalize I r = zr at *
          go_wp2
          simp only [Exit.jump]
          go_ret
          exact ⟨ret_int hz.out, hB3⟩
        · have ts := str_ne_zero (rfl : I s = I s) es
          have hsg0 : -1 ≤ sg := by omega
          have hsg1 : sg ≤ 1 := by omega
          have f0 := bA3.frozen 0
          have f1 := bA3.frozen 1
          have f2 := bC3.frozen 0
          have f3 := bC3.frozen 1
          have HT := Lib.hid ht2
          have HD := Lib.hid hden
          have HE := Lib.hid er
          have HS := Lib.hid es
          have bA3 := Lib.hid bA3
          have bC3 := Lib.hid bC3
          have hB3 := Lib.hid hB3
          clear ht2 hden er es hB' bA bC hEw T0 Q1 Q2 hB hA a2
          go_wp2
          go_region
          go_wp2
          go_step3
          obtain ⟨nA, nC, nB⟩ := two_fracs bA3.out bC3.out hB3.out hBh (I y1) (I r) (I y2) (I s)
          have sr : Small r := by unfold Small at *; omega
          have ss : Small s := by unfold Small at *; omega
          have nr : 0 < r := by have := HE.out; omega
          have ns : 0 < s := by have := HS.out; omega
          have nt : -sg * Lib.compareInt (y1 * s) (y2 * r) = tgt := by
            rw [← HT.out, cmp_swap (y2 * r) (y1 * s), Int.neg_mul_neg, Int.mul_comm y2 r, Int.mul_comm y1 s]
          refine ⟨rfl, ⟨-sg, _, _, _, _, _, _, _, _, _, _, _, _, _, _, _, _, _, _, _, _, _, _, _, _, _, _, _, _, _, _, _, _, _, _, _, _, _, _, _, _, _, _, _, _, _, _, _, _, _, _, _, _, _, _, _, _, _, _, _, _, _, _, _, _, _, _, _, _, _, rfl, y1, r, y2, s, sy1, sr, sy2, ss, nr, ns, by omega, nt, nA, nC, nB⟩, ?_⟩
          rw [HD.out, denAt_of nA]; omega
    · have hz := Lib.hid (show sg * Lib.compareInt (x1 / y1) (x2 / y2) = tgt by rw [← cmp_quo hy1 hy2 hq]; exact ht)
      have hv := cmp_vals (x1 / y1) (x2 / y2)
      have hv0 : Lib.compareInt (x1 / y1) (x2 / y2) ≠ 0 := fun e => hq (cmp_zero_iff.1 e)
      generalize Lib.compareInt (x1 / y1) (x2 / y2) = c at *
      have hm0 : -1 ≤ sg * c := by rcases hsg with rfl | rfl <;> rcases hv with rfl | rfl | rfl <;> decide
      have hm1 : sg * c ≤ 1 := by rcases hsg with rfl | rfl <;> rcases hv with rfl | rfl | rfl <;> decide
      have hcb : (c != 0) = true := by simp [hv0]
      clear ht hq hv0 hsg hv
      go_wp2
      simp only [Exit.jump]
      go_ret
      exact ⟨ret_int hz.out, hB3⟩
  · intro pass
    have pass := Lib.hid pass
    obtain ⟨c0, c1⟩ := blk_two hA
    obtain ⟨c2, c3⟩ := blk_two a2
    go_wp2_with fail
    refine (Q1 _ (hE.below hB (Nat.le_refl _))).mono ?_
    rintro e v1 ⟨rfl, hb⟩
    have A1 := hA.below hb
    have C1 := a2.below hb
    have B1 := kb_call hb hB (Nat.le_refl _)
    clear c0 c1 c2 c3 hA a2 hB hb
    obtain ⟨c0, c1⟩ := blk_two A1
    obtain ⟨c2, c3⟩ := blk_two C1
    go_wp2_with fail
    refine (Q2 _ (hE.below B1 (Nat.le_refl _))).mono ?_
    rintro e v2 ⟨rfl, hb⟩
    have hT := T0.out _ (A1.below hb) (C1.below hb) (kb_call hb B1 (Nat.le_refl _))
    clear c0 c1 c2 c3 A1 C1 B1 hb
    rw [← Hh.out] at hT ⊢
    have hT := Lib.hid hT
    go_wp2
    go_step3
    rename_i K hK
    exact hK _ _ (pass.out _ _ ⟨1, _, _, _, _, _, _, _, _, _, _, _, _, _, _, _, _, _, _, _, _, _, _, _, _, _, _, _, _, _, _, _, _, _, _, _, _, _, _, _, _, _, _, _, _, _, _, _, _, _, _, _, _, _, _, _, _, _, _, _, _, _, _, _, _, _, _, _, _, _, rfl, hT.out⟩)
set_option maxRecDepth 100000 in
set_option maxHeartbeats 16000000 in
theorem qcmp_bad (n1 d1 n2 d2 : ByteArray) (w : World) (hE : Env w) (hb : (rOk n1 d1 && rOk n2 d2) = false) :
    Calls Tryz.prog 46 #[.agg #[.string n1, .string d1], .agg #[.string n2, .string d2]] w (Rets w (.int .i64 0)) := by
  have Q1 := fun W (hE : Env W) => qvalid_any n1 d1 W hE
  have Q2 := fun W (hE : Env W) => qvalid_any n2 d2 W hE
  obtain ⟨V1, e1, a1, b1⟩ := box_two w (.string n1) (.string d1) 27
  obtain ⟨V2, e2, a2, b2⟩ := box_two V1 (.string n2) (.string d2) 27
  have z1 : V1.heap.size = w.heap.size + 1 := by rw [e1, World.size_alloc]
  rw [z1] at a2
  have hV : V2 = (w.alloc (.cells #[.string n1, .string d1] 27)).alloc (.cells #[.string n2, .string d2] 27) := by rw [e2, e1]
  have hB := kb_call b2 b1 (Nat.le_refl _)
  have hA := a1.below b2
  obtain ⟨c0, c1⟩ := blk_two hA
  obtain ⟨c2, c3⟩ := blk_two a2
  clear e1 e2 a1 b1 b2 z1
  cases h1 : rOk n1 d1 with
  | false =>
    rw [h1] at Q1
    clear h1 hb
    go_enter Tryz.func46, Tryz.ntmps46
    go_wp2_with fail
    rw [← hV]
    clear hV
    go_step3
    go_wp2_with fail
    refine (Q1 _ (hE.below hB (Nat.le_refl _))).mono ?_
    rintro e v1 ⟨rfl, hb⟩
    have hB1 := kb_call hb hB (Nat.le_refl _)
    go_wp2
    try rw [Exit.noGoto_ret]
    go_ret
    exact ⟨rfl, hB1⟩
  | true =>
    have h2 : rOk n2 d2 = false := by rw [h1, Bool.true_and] at hb; exact hb
    rw [h1] at Q1
    rw [h2] at Q2
    clear h1 h2 hb
    go_enter Tryz.func46, Tryz.ntmps46
    go_wp2_with fail
    rw [← hV]
    clear hV
    go_step3
    go_wp2_with fail
    refine (Q1 _ (hE.below hB (Nat.le_refl _))).mono ?_
    rintro e v1 ⟨rfl, hb⟩
    have hB1 := kb_call hb hB (Nat.le_refl _)
    have C1 := a2.below hb
    clear c0 c1 c2 c3
    obtain ⟨c2, c3⟩ := blk_two C1
    go_wp2_with fail
    refine (Q2 _ (hE.below hB1 (Nat.le_refl _))).mono ?_
    rintro e v2 ⟨rfl, hb2⟩
    have hB2 := kb_call hb2 hB1 (Nat.le_refl _)
    go_wp2
    try rw [Exit.noGoto_ret]
    go_ret
    exact ⟨rfl, hB2⟩

/-- rational.Compare. -/
theorem qcmp_any (n1 d1 n2 d2 : ByteArray) (w : World) (hE : Env w) :
    Calls Tryz.prog 46 #[.agg #[.string n1, .string d1], .agg #[.string n2, .string d2]] w (Rets w (.int .i64 (if rOk n1 d1 && rOk n2 d2 then Lib.compareInt (zS n1 * zS d2) (zS n2 * zS d1) else 0))) := by
  cases hb : (rOk n1 d1 && rOk n2 d2) with
  | false => rw [if_neg (by decide)]; exact qcmp_bad n1 d1 n2 d2 w hE hb
  | true =>
    rw [if_pos rfl]
    have h : rOk n1 d1 = true ∧ rOk n2 d2 = true := by simpa using hb
    exact qcmp_ok n1 d1 n2 d2 w hE h.1 h.2

end Go.Proofs.YtebokdboodgkpaaGreatDoor

/- package rational: round, Down, Up. -/
namespace Go.Proofs.YtebokdboodgkpaaGreatDoor
open Go.RowKit
attribute [local go_sem] Oper.semAt_some

/-- The text of a power of ten. -/
theorem pow_text (k : Nat) : (⟨(49 :: List.replicate k 48).toArray⟩ : ByteArray) = I (10 ^ k) := by
  have hd : ∀ b ∈ (49 :: List.replicate k 48 : List UInt8), isD b = true := by
    intro b hb
    rcases List.mem_cons.1 hb with h | h
    · rw [h]; decide
    · rw [(List.mem_replicate.1 h).2]; decide
  have e : dnum (49 :: List.replicate k 48) = 10 ^ k := by
    have h := dnum_append [49] (List.replicate k 48)
    have z := dnum_zeros k []
    rw [List.append_nil] at z
    rw [List.singleton_append, List.length_replicate, z] at h
    rw [h, show dnum [49] = 1 from rfl, show dnum [] = 0 from rfl]
    omega
  have h2 := decDigits_dnum (49 :: List.replicate k 48) hd (by simp) (by simp)
  unfold I
  rw [itoa_nonneg (Int.pow_nonneg (by decide)), show ((10 : Int) ^ k).toNat = 10 ^ k from (by rw [show ((10 : Int) ^ k) = ((10 ^ k : Nat) : Int) by simp]; rfl), ← e, h2]
theorem small_pow {k : Nat} (hk : k ≤ 100) : Small (10 ^ k) := by
  have h1 := pow_mono (b := 10) (by decide) (show k + 1 ≤ 200 by omega)
  have h2 : (10 : Int) ^ (k + 1) = 10 ^ k * 10 := Int.pow_succ ..
  have h3 := pow_pos' (b := 10) (by decide) k
  unfold Small Big
  omega
theorem quo_next {x d : Int} (hx : Small x) (hd : 0 < d) (hr : x % d ≠ 0) : Small (x / d + 1) := by
  have e := Int.emod_add_mul_ediv x d
  have h1 := Int.emod_nonneg x (show d ≠ 0 by omega)
  have hq := small_quo (y := d) hx
  have hd2 : 2 ≤ d := by
    by_cases h : d = 1
    · subst h; exact absurd (Int.emod_one x) hr
    · omega
  generalize x % d = r at *
  generalize x / d = q at *
  unfold Small at *
  refine ⟨by omega, ?_⟩
  by_cases h0 : 0 ≤ q
  · have := Int.mul_le_mul_of_nonneg_right hd2 h0
    omega
  · have hB : (1 : Int) < Big := by unfold Big; decide
    omega
/-- The multiple of a grid below or above. -/
def grd (up : Bool) (x d : Int) : Int := if up && decide (x % d ≠ 0) then x / d + 1 else x / d
theorem grd_small {up : Bool} {x d : Int} (hx : Small x) (hd : 0 < d) : Small (grd up x d) := by
  unfold grd
  cases up
  · exact small_quo hx
  · by_cases h : x % d = 0
    · rw [decide_eq_false (by simpa using h)]; exact small_quo hx
    · rw [decide_eq_true h]; exact quo_next hx hd h
/-- The blocks with which rounding begins. -/
theorem round_start (w : World) (n d : ByteArray) (bad : Bool) : ∃ W,
    W = (((w.alloc (.cells #[.string n, .string d] 27)).alloc (.cells #[.string ⟨#[]⟩, .string ⟨#[]⟩] 27)).alloc (.cells #[.bool bad] 98)).alloc (.cells #[.string n, .string d] 27) ∧
    Blk W w.heap.size #[.string n, .string d] 27 ∧ Blk W (w.heap.size + 1) #[.string ⟨#[]⟩, .string ⟨#[]⟩] 27 ∧
    Wk W (w.heap.size + 1 + 1) bad ∧ RatsAt W (w.heap.size + 1 + 1 + 1) [(n, d)] ∧ Below w.heap.size w W ∧ W.heap.size = w.heap.size + 1 + 1 + 1 + 1 := by
  obtain ⟨V1, e1, a1, b1⟩ := box_two w (.string n) (.string d) 27
  obtain ⟨V2, e2, a2, b2⟩ := box_two V1 (.string ⟨#[]⟩) (.string ⟨#[]⟩) 27
  obtain ⟨V3, e3, a3, b3⟩ := wk_new V2 bad
  obtain ⟨V4, e4, a4, b4⟩ := box_two V3 (.string n) (.string d) 27
  have z1 : V1.heap.size = w.heap.size + 1 := by rw [e1, World.size_alloc]
  have z2 : V2.heap.size = w.heap.size + 1 + 1 := by rw [e2, World.size_alloc, z1]
  have z3 : V3.heap.size = w.heap.size + 1 + 1 + 1 := by rw [e3, World.size_alloc, z2]
  rw [z1] at a2
  rw [z2] at a3
  rw [z3] at a4
  refine ⟨V4, by rw [e4, e3, e2, e1], ((a1.below b2).below b3).below b4, (a2.below b3).below b4, a3.below b4, ?_, ?_, by rw [e4, World.size_alloc, z3]⟩
  · intro j hj
    match j, hj with
    | 0, _ => exact ⟨a4.cell 0, a4.cell 1⟩
  · exact kb_call b4 (kb_call b3 (kb_call b2 b1 (Nat.le_refl _)) (Nat.le_refl _)) (Nat.le_refl _)
theorem allOk_one {n d : ByteArray} : allOk [(n, d)] = rOk n d := by simp [allOk]
theorem rep0 {k : Nat} (hk : k ≤ 100) {w : World} :
    Calls Tryz.prog 123 #[.string ⟨#[48]⟩, .int .i64 k] w fun e w' => e = .returned (.string ⟨(List.replicate k 48).toArray⟩) ∧ Below w.heap.size w w' := by
  refine (Tryz.strings_Repeat ⟨#[48]⟩ k w (by omega) (by show 1 * k ≤ _; omega)).mono ?_
  rintro e w' ⟨rfl, hb⟩
  exact ⟨by rw [← repeat_zero], hb⟩

end Go.Proofs.YtebokdboodgkpaaGreatDoor

/- strings.Join of two texts with a stroke between them. -/
namespace Go.Proofs.YtebokdboodgkpaaGreatDoor
open Go.RowKit
attribute [local go_sem] Oper.semAt_some

theorem wrote_below {b : Nat} {w w' : World} (h : Wrote b b w w') (hb : b ≤ w.heap.size) : Below b w w' :=
  ⟨h.os, h.tape, h.output, h.size, fun k hk => by
    by_cases hkw : k < w.heap.size
    · exact h.block k hk hkw (by omega)
    · exact absurd hkw (by omega)⟩

/-- The text of two joined texts. -/
def joined (a b : ByteArray) : List UInt8 := a.data.toList ++ [47] ++ b.data.toList

end Go.Proofs.YtebokdboodgkpaaGreatDoor

/- package rational: Print, Parse. -/
namespace Go.Proofs.YtebokdboodgkpaaGreatDoor
open Go.RowKit
attribute [local go_sem] Oper.semAt_some

/-- What a call of package rational needs of the library's variables. -/
structure EnvQ (w : World) : Prop where
  env : Env w
  max : ∃ m, w.cell? ⟨3, 0, none⟩ = some (.int .i64 m)
theorem EnvQ.below {w w' : World} {B : Nat} (h : EnvQ w) (hb : Below B w w') (hB : w.heap.size ≤ B) : EnvQ w' := by
  obtain ⟨m, hm⟩ := h.max
  exact ⟨h.env.below hb hB, m, (hb.cell (p := ⟨3, 0, none⟩) (Nat.lt_of_lt_of_le (World.block_lt_of_cell? w _ hm) hB)).trans hm⟩

theorem bs_ext {a b : ByteArray} (h : a.data.toList = b.data.toList) : a = b := ByteArray.ext (Array.toList_inj.1 h)
theorem bs_ne {a b : ByteArray} (h : a ≠ b) : (a.toList == b.toList) = false := by
  rw [ByteArray.toList_eq, ByteArray.toList_eq]
  exact beq_eq_false_iff_ne.2 (fun e => h (bs_ext e))
theorem okS_size {s : ByteArray} (h : okS s = true) : s.size ≤ 201 := by
  rw [(I_zS h).1]
  exact I_size (k := 200) (smallS h) (by decide)

/-- The text of a fraction; empty if it is none. -/
def prt (n d : ByteArray) : ByteArray := if rOk n d then (if zS d = 1 then n else ⟨(joined n d).toArray⟩) else ⟨#[]⟩

end Go.Proofs.YtebokdboodgkpaaGreatDoor

/- package rational: Parse. -/
namespace Go.Proofs.YtebokdboodgkpaaGreatDoor
open Go.RowKit
attribute [local go_sem] Oper.semAt_some

/-- The two texts that a text is cut into. -/
def cutN (s : ByteArray) : ByteArray := ⟨(Lib.cut s.data.toList [47]).1.toArray⟩
def cutD (s : ByteArray) : ByteArray := if (Lib.cut s.data.toList [47]).2.2 then ⟨(Lib.cut s.data.toList [47]).2.1.toArray⟩ else ⟨#[49]⟩
/-- What Parse returns. -/
def parQ (s : ByteArray) : Value := qT (rOk (cutN s) (cutD s) && decide (prt (cutN s) (cutD s) = s)) (rv (cutN s) (cutD s))
theorem prt_ne {n d : ByteArray} (h : rOk n d = true) : prt n d ≠ ⟨#[]⟩ := by
  unfold prt
  rw [if_pos h]
  split
  · intro e
    have hn := (rOk_parts h).1
    rw [e] at hn
    exact absurd hn (by decide +kernel)
  · intro e
    have := congrArg (fun s : ByteArray => s.data.toList) e
    simp [joined] at this
theorem empty_toList : ∀ {s : ByteArray}, s ≠ ⟨#[]⟩ → s.toList ≠ [] := by
  intro s h e
  rw [ByteArray.toList_eq] at e
  exact h (bs_ext (by rw [e]))

end Go.Proofs.YtebokdboodgkpaaGreatDoor

/- The plain wrap for a row that lists variables, the world's shape kept. -/
namespace Go.Proofs.YtebokdboodgkpaaGreatDoor
open Go.RowKit
section
variable {H : Type} {enc : TypeId × Value → H}
theorem returnsInHanded_laid_shaped {a : Assume} {C : Checked} {os : Os} {f : FuncId} {fn : Func} {s : ChangeSpec} {conds : List PathCond} {apart fresh handsOn again : Bool} {X : World → Array Value → Prop}
    (hX : ∀ (w w' : World) (args : Array Value), w.heap = w'.heap → X w args → X w' args)
    (own : ownKnob C.prog.godebug = none) (started : os.Started) (noInit : C.prog.inits.idxOf? f = none) (hfn : C.prog.funcs[f]? = some fn)
    (witness : ∃ (w : World) (tape : Tape) (i : Input), w.os = os ∧ (w.forCall tape i).Shaped C.prog ∧ i.vars = [] ∧ Input.okWide C.prog (w.forCall tape i) .any w.heap.size f i ∧
      ((s.pre enc C.prog fn conds apart (w.forCall tape i).memory i.args ∧ X (w.forCall tape i).memory i.args) ∧ sizedMet enc C.prog fn (OpenSpec.ofChange s) apart (w.forCall tape i).memory i.args) ∧ a.holds C.prog (lone (Frame.enter C.prog f i.args .normal) [] (w.forCall tape i)))
    (contract : ∀ (W : World) (base : Nat) (args : Array Value) (ds gs : List (DataW H)) (before : List MemPlace),
      (∀ (j : Nat) t v, fn.params[j]? = some t → args[j]? = some v → Value.okWide C.prog W .any base t v) →
      DataW.Whole enc C.prog fn.params.toList s.vars apart W args.toList ds gs before →
      conds.all (PathCond.test C.prog ⟨fn.params.toList, ds, s.plain.varTypes C.prog, gs⟩) = true →
      (DataW.weightsEach C.prog (fn.params.toList ++ s.plain.varTypes C.prog) (ds ++ gs)).all (· ≤ reachBytes) = true → X W args → W.ShapedOpen C.prog →
      a.holds C.prog (lone (Frame.enter C.prog f args .normal) [] W) →
      Calls C.prog f args W fun e W' => ∃ v, e = .returned v ∧ s.post enc C.prog fn apart fresh handsOn again W args v W') :
    ReturnsInHanded a C os f .any (fun w args => (s.pre enc C.prog fn conds apart w args ∧ X w args) ∧ sizedMet enc C.prog fn (OpenSpec.ofChange s) apart w args) (s.post enc C.prog fn apart fresh handsOn again) := by
  refine returnsInHanded_of_calls own started noInit witness ?_
  intro w tape i _ hsh _ hok hpre hholds
  obtain ⟨_, _, _, fn', hfn', _, _, _, _, hval⟩ := hok
  have e : fn' = fn := Option.some.inj (hfn'.symm.trans hfn)
  subst e
  obtain ⟨⟨⟨ds, gs, before, hw, hc⟩, hx⟩, hz⟩ := hpre
  have hw' := DataW.Whole.of_heap (w' := w.forCall tape i) (by rfl) hw
  refine (contract (w.forCall tape i) w.heap.size i.args ds gs before hval hw' hc (hz.weights hw) (hX _ _ _ (by rfl) hx) hsh hholds).mono fun e W' ⟨v, he, hp⟩ => ?_
  subst he
  exact ChangeSpec.post_blind hp
end
theorem max_of_shape {W : World} (h : W.ShapedOpen Tryz.prog) : ∃ m, W.cell? ⟨3, 0, none⟩ = some (.int .i64 m) := Go.Proofs.cell_of_shapedOpen_int (zero := #[.int .i64 0]) (t := 3) h (of_decide_eq_true (by kernel_rfl)) (by kernel_rfl) rfl (by kernel_rfl) (by kernel_rfl) Tryz.underlying3
end Go.Proofs.YtebokdboodgkpaaGreatDoor
