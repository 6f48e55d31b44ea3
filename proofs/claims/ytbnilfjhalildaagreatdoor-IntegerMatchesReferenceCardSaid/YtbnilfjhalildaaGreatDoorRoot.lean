/- Root. -/
import Derived.Test.YtbnilfjhalildaaGreatDoorGcd
namespace Go.Proofs.YtbnilfjhalildaaGreatDoor
open Go.RowKit
attribute [local go_sem] Oper.semAt_some

theorem run_make_int (w : World) (t : TypeId) (ht : Tryz.prog.underlying t = some (.slice 3)) (kl kc : IntKind) (n : Nat) (hn : n ≤ 1000000) :
    ∃ w', (Instr.makeSlice t (.int kl n) (.int kc n)).run Tryz.prog w = .ok (.slice (some ⟨w.heap.size, 0, none⟩) n n) w' ∧ w'.ownsRow w.heap.size 3 1 (.slice (some ⟨w.heap.size, 0, none⟩) n n) n ((List.replicate n (0 : Int)).map (Value.int .i64)) ∧ Below w.heap.size w w' := by
  obtain ⟨i0, hi, hz0, hz1, hz2⟩ := info_parts info_int
  obtain ⟨w', hrun, r1, r2⟩ := run_make_full (P := Tryz.prog) w w.heap.size t 3 i0 (.int .i64 0) 1 ht hi hz0 hz1 kl kc n (by rw [hz2]; omega) (by unfold maxLen; omega) (Nat.le_refl _)
  exact ⟨w', hrun, by rw [← madeCells_int]; exact r1, (Below.refl _ w).grown r2 (Nat.le_refl _) (fun k e => by cases e)⟩

def zeroS : ByteArray := ⟨#[48]⟩
theorem okS_zero : okS zeroS = true := by decide +kernel
theorem zS_zero : zS zeroS = 0 := by decide +kernel

theorem num_pow (k : Nat) : Num 10000 (List.replicate k (0 : Int) ++ [1]) ((10000 ^ k : Nat) : Int) := by
  have hd : Dig 10000 (List.replicate k (0 : Int)) := fun x hx => by
    have := (List.mem_replicate.1 hx).2
    subst this; omega
  have hz : ∀ k, val 10000 (List.replicate k (0 : Int)) = 0 := fun k => by
    induction k with
    | zero => rfl
    | succ k ih => rw [List.replicate_succ]; simp [val, ih]
  refine ⟨hd.append dig_one, fun j hj => ?_, ?_⟩
  · have : j = k := by simp at hj; omega
    subst this
    simp [gi]
  · rw [val_append, hz, List.length_replicate, val_one]
    simp

theorem num_two : Num 10000 [2] 2 := by
  refine ⟨fun x hx => ?_, fun j hj => ?_, rfl⟩
  · simp at hx; subst hx; omega
  · have e : j = 0 := by simp at hj; omega
    subst e; decide
/-- A bound for the steps of Newton. -/
def P100 : Nat := 10000 ^ 100
theorem len_P {xs : List Int} {R : Nat} (h : Num 10000 xs (R : Int)) (hR : R ≤ P100) : xs.length ≤ 101 :=
  h.length_le (by decide) (by have h1 : ((P100 : Nat) : Int) < 10000 ^ 101 := by decide +kernel
                              omega)
theorem len_P2 {xs : List Int} {R N : Nat} (h : Num 10000 xs ((R + N / R : Nat) : Int)) (hR : R ≤ P100) (hN : (N : Int) < Big) : xs.length ≤ 101 :=
  h.length_le (by decide) (by have h1 : ((P100 : Nat) : Int) + Big < 10000 ^ 101 := by decide +kernel
                              have h2 : N / R ≤ N := Nat.div_le_self _ _
                              omega)
theorem pow_P {k : Nat} (h : k ≤ 100) : 10000 ^ k ≤ P100 := Nat.pow_le_pow_right (by decide) h
theorem resT_lit (l : List UInt8) (z : Int) (hv : validB l = true) (hz : ival l = z) : resT true z = .tuple #[.string ⟨l.toArray⟩, .int .i64 0] := by
  obtain ⟨h1, h2, h3⟩ := itoa_of_valid hv
  rw [hz] at h1 h2 h3
  have hs : Small z := ⟨h2, h3⟩
  unfold resT txt erz
  rw [if_pos rfl, if_pos hs, if_pos hs, ← h1]

/-- What Root returns: the root of an integer that is not negative. -/
def rootT (ok : Bool) (z : Int) : Value := resT (ok && !decide (z < 0)) (root z.toNat : Nat)

theorem pow_big {N k l : Nat} (hl : l ≤ k + k) (hN : N < 10000 ^ l) : N < 10000 ^ k * 10000 ^ k := by
  rw [← Nat.pow_add]
  exact Nat.lt_of_lt_of_le hN (Nat.pow_le_pow_right (by decide) hl)

set_option maxRecDepth 100000 in
set_option maxHeartbeats 8000000 in
theorem root_ok (a : ByteArray) (w : World) (hE : Env w) (ha : okS a = true) (h0 : 0 ≤ zS a) :
    Calls Tryz.prog 21 #[.string a] w (Gives w fun r _ => r = resT true (root (zS a).toNat : Nat)) := by
  have Ba := z_bound ha
  have Pk := fun W => both_ok a zeroS W ha okS_zero
  rw [zS_zero] at Pk
  obtain ⟨N, hN⟩ := Int.eq_ofNat_of_zero_le h0
  rw [hN] at Pk Ba
  rw [hN, Int.toNat_natCast]
  have hdn : decide ((N : Int) < 0) = false := by simp
  have hd0 : decide ((0 : Int) < 0) = false := by simp
  clear hN h0
  go_enter Tryz.func21, Tryz.ntmps21
  go_wp2_with fail
  refine (Pk _).mono ?_
  rintro e W1 ⟨⟨r, rfl, v, u, rfl, ⟨x, xs, rfl, hx, hnx⟩, ⟨y, ys, rfl, hy, hny⟩⟩, hb1⟩
  rw [Int.natAbs_natCast] at hnx
  have lx := len_of_big hnx Ba.2
  obtain ⟨a1, c1, rfl⟩ := hx.shape
  obtain ⟨a2, c2, rfl⟩ := hy.shape
  rw [hdn, hd0]
  clear hdn hd0 hny
  obtain ⟨W2, hW2, h1, h2, h3, h4, h5⟩ := two_start W1 false false (.slice a1 xs.length c1) (.slice a2 ys.length c2)
  obtain ⟨k, hk⟩ : ∃ k : Nat, k = (xs.length + 1) / 2 := ⟨_, rfl⟩
  have hk1 : ((xs.length : Int) + 1) / 2 = (k : Int) := by omega
  have hk2 : xs.length ≤ k + k := by omega
  have hk3 : k ≤ 100 := by omega
  clear hk
  have hx2 := hx.below h5
  have hw2 := kb_call h5 hb1 (Nat.le_refl _)
  obtain ⟨W3, hmk, hown3, hb3⟩ := run_make_int W2 48 Tryz.underlying48 .i64 .i64 k (by omega)
  generalize Value.slice (some ⟨W2.heap.size, 0, none⟩) k k = vm at *
  have hsz := hb3.size
  rw [hW2] at hmk
  clear h1 h3 h4 h5 hb1 hW2 hy hx
  have hlt := hnx.lt (by decide)
  have hlt2 : N < 10000 ^ xs.length := by
    have e : ((10000 : Int) ^ xs.length) = ((10000 ^ xs.length : Nat) : Int) := by simp
    rw [e] at hlt; omega
  have hroot := root_lt (pow_big hk2 hlt2)
  clear hlt hlt2
  go_wp2_with (at_builtin; refine wp_app_int 1 48 Tryz.underlying48 rfl _ _ rfl rfl rfl hown3 (by omega) hsz ?_; intro g cap' W4 hown4 hg4 hb4; clear hg4 hmk hown3)
  have hb24 := hb3.trans hb4
  have hx4 := hx2.below hb24
  have g4 := cell_kept hb24 h2
  have hw4 := kb_call hb24 hw2 (Nat.le_refl _)
  have hr4 : Sl W4 (.slice (some ⟨g, 0, none⟩) (k + 1) cap') (List.replicate k (0 : Int) ++ [1]) := Sl.of_own hown4
  have hnr4 := num_pow k
  have hl4 : (List.replicate k (0 : Int) ++ [1]).length = k + 1 := by simp
  have hp4 : 0 < 10000 ^ k := Nat.pow_pos (by decide)
  have hP4 := Lib.hid (pow_P hk3)
  generalize 10000 ^ k = R0 at *
  generalize List.replicate k (0 : Int) ++ [1] = rs0 at *
  have Hl4 := Lib.hid hl4
  clear hl4 hk1 hx2 h2 hw2 hb3 hb4 hb24 hsz hown4
  go_loopw [7] (fun r wr => ∃ (a3 : Option Addr) (c3 : Nat) (rs : List Int) (R : Nat), r = .slice a3 rs.length c3 ∧ Sl wr (.slice a3 rs.length c3) rs ∧ Num 10000 rs (R : Int) ∧ 0 < R ∧ root N ≤ R ∧ Hid (R ≤ P100) ∧
      wr.cell? ⟨W1.heap.size, 1, none⟩ = some (.slice a1 xs.length c1) ∧ Sl wr (.slice a1 xs.length c1) xs ∧ Below w.heap.size w wr)
    (fun r wr => (val 10000 (rdSl wr r)).toNat)
  case atStart => exact ⟨_, _, rs0, R0, (by rw [Hl4.out]), (by rw [Hl4.out]; exact hr4), hnr4, hp4, Nat.le_of_lt hroot, hP4, g4, hx4, hw4⟩
  case round =>
    clear hx4 g4 hw4 hr4 hnr4 hp4 hroot Hl4
    obtain ⟨a3, c3, rs, R, rfl, hr, hnr, hR, hle, hP, hc, hx, hW⟩ := hrel
    have hlr := len_P hnr hP.out
    by_cases h0 : xs.length = 0
    · have e0 : xs = [] := List.eq_nil_of_length_eq_zero h0
      have en : N = 0 := by have := (hnx.zero_iff (by decide)).1 e0; omega
      subst e0 en
      go_wp2
      go_ret2
      exact ⟨⟨_, rfl, by rw [root_zero]; exact (resT_lit [48] 0 (by decide +kernel) (by decide +kernel)).symm⟩, hW⟩
    · have hx0 : (0 : Int) < (xs.length : Int) := by omega
      have hN0 : 0 < N := by
        have h1 : ¬ N = 0 := fun e => h0 (by have := (hnx.zero_iff (by decide)).2 (by omega); rw [this]; rfl)
        omega
      have hR' : (0 : Int) < (R : Int) := by omega
      have hrd := Lib.hid hr.rd
      have hgr : rs.length ≤ 100000 := by omega
      clear h0
      go_wp2_with fail
      refine (over_any _ _ xs rs R _ hx hr hnx.dig hnr hR' (by omega) (by omega)).mono ?_
      rintro e w1 ⟨⟨r, rfl, r1, r2, qs, ts, rfl, hq, hnq, ht, hnt⟩, hb1⟩
      rw [hnx.val] at hnq
      have lq := hnq.len_le (by decide) hnx (Int.ediv_le_self _ (by omega))
      clear hnt
      obtain ⟨a5, c5, rfl⟩ := hq.shape
      obtain ⟨a6, c6, rfl⟩ := ht.shape
      have hc1 := cell_kept hb1 hc
      have hr1 := hr.below hb1
      go_wp2_with fail
      refine (plus_any _ _ rs qs _ hr1 hq hnr.dig hnq.dig hgr (by omega)).mono ?_
      rintro e w2 ⟨⟨r, rfl, zs, hz, hnz, _⟩, hb2⟩
      rw [hnr.val, hnq.val] at hnz
      obtain ⟨a7, c7, rfl⟩ := hz.shape
      have e1 : (R : Int) + (N : Int) / (R : Int) = ((R + N / R : Nat) : Int) := by simp
      rw [e1] at hnz
      have lz := len_P2 hnz hP.out Ba.2
      have hc2 := cell_kept hb2 hc1
      have hr2 := hr1.below hb2
      have hx2 := (hx.below hb1).below hb2
      have hba : Below w2.heap.size w2 (w2.alloc (.cells #[.int .i64 2] 3)) := (Below.refl _ _).alloc (Nat.le_refl _) _
      have hz2 := hz.below hba
      clear hq hr1 hc1 ht hc hr hx e1
      go_wp2_with fail
      refine (over_any _ _ zs [2] 2 _ hz2 (Sl.of_own (own_lit w2 2)) hnz.dig num_two (by decide) (by omega) (by decide)).mono ?_
      rintro e w3 ⟨⟨r, rfl, r1, r2, ns, ts2, rfl, hn, hnn, ht2, _⟩, hb3⟩
      rw [hnz.val] at hnn
      have e2 : ((R + N / R : Nat) : Int) / 2 = (((R + N / R) / 2 : Nat) : Int) := by simp
      rw [e2] at hnn
      obtain ⟨a8, c8, rfl⟩ := hn.shape
      obtain ⟨a9, c9, rfl⟩ := ht2.shape
      have hc3 := cell_kept hb3 (cell_kept hba hc2)
      have hr3 := (hr2.below hba).below hb3
      have hx3 := (hx2.below hba).below hb3
      have hge := newton_ge (n := N) hR
      have hst := newton_stop (n := N) hR hle
      have hW3 : Below w.heap.size w w3 := kb_call hb3 (kb_call hba (kb_call hb2 (kb_call hb1 hW (Nat.le_refl _)) (Nat.le_refl _)) (Nat.le_refl _)) (Nat.le_refl _)
      clear hz2 hz hx2 hr2 hc2 hb3 hba hb2 ht2 hnz e2 hnq
      generalize (R + N / R) / 2 = M at *
      go_wp2_with fail
      refine (compare_any _ _ ns rs _ hn hr3).mono ?_
      rintro e w4 ⟨rfl, hb4⟩
      rw [cmpL_num hnn hnr]
      have hc4 := cell_kept hb4 hc3
      have hx4 := hx3.below hb4
      have hn4 := hn.below hb4
      have hr4 := hr3.below hb4
      have hW4 := kb_call hb4 hW3 (Nat.le_refl _)
      clear hc3 hx3 hn hr3 hb4 hW3
      rcases Nat.lt_or_ge M R with hlt | hlt
      · rw [compareInt_lt (by omega)]
        have hM0 : 0 < M := by
          have := root_max (n := N) (j := 1) (by omega)
          omega
        have hrd4 := Lib.hid hn4.rd
        have hHst := Lib.hid hst
        clear hst
        go_wp2
        go_roundw
        case rel => exact ⟨_, _, ns, M, rfl, hn4, hnn, hM0, hge, Nat.le_trans (Nat.le_of_lt hlt) hP.out, hc4, hx4, hW4⟩
        case measure =>
          show (val 10000 (rdSl _ _)).toNat < (val 10000 (rdSl _ _)).toNat
          rw [hrd.out, hrd4.out, hnn.val, hnr.val]
          omega
      · have hroot := hst hlt
        clear hst hge
        have hE4 := hE.below hW4 (Nat.le_refl _)
        have hcmp : ∃ c, Lib.compareInt (M : Int) (R : Int) = c ∧ 0 ≤ c := by
          rcases Nat.lt_or_ge R M with h | h
          · exact ⟨1, compareInt_gt (by omega), by decide⟩
          · have : M = R := by omega
            exact ⟨0, by rw [this]; exact compareInt_eq _, by decide⟩
        obtain ⟨c, hc, hc0⟩ := hcmp
        rw [hc]
        clear hc
        have HR := Lib.hid (show sgn false (R : Int) = (root N : Nat) by rw [hroot]; rfl)
        clear hroot
        go_wp2_with fail
        refine (text_any false _ rs R w4 hE4 hr4 hnr (by omega)).mono ?_
        rintro e w5 ⟨rfl, hb5⟩
        rw [HR.out]
        go_wp2
        go_ret2
        exact ⟨⟨_, rfl, rfl⟩, kb_call hb5 hW4 (Nat.le_refl _)⟩

set_option maxRecDepth 100000 in
set_option maxHeartbeats 2000000 in
theorem root_neg (a : ByteArray) (w : World) (ha : okS a = true) (h0 : zS a < 0) :
    Calls Tryz.prog 21 #[.string a] w (Gives w fun r _ => r = resT false 0) := by
  have Pk := fun W => both_ok a zeroS W ha okS_zero
  rw [zS_zero] at Pk
  have hdn : decide (zS a < 0) = true := by simp [h0]
  clear h0
  go_enter Tryz.func21, Tryz.ntmps21
  go_wp2_with fail
  refine (Pk _).mono ?_
  rintro e W1 ⟨⟨r, rfl, v, u, rfl, ⟨x, xs, rfl, hx, hnx⟩, ⟨y, ys, rfl, hy, hny⟩⟩, hb1⟩
  obtain ⟨a1, c1, rfl⟩ := hx.shape
  obtain ⟨a2, c2, rfl⟩ := hy.shape
  rw [hdn]
  go_wp2
  go_ret2
  exact ⟨⟨_, rfl, rfl⟩, kb_call (below_two W1 _ _) hb1 (Nat.le_refl _)⟩

set_option maxRecDepth 100000 in
set_option maxHeartbeats 2000000 in
theorem root_bad (a : ByteArray) (w : World) (h : okS a = false) :
    Calls Tryz.prog 21 #[.string a] w (Gives w fun r _ => r = resT false 0) := by
  have Pk := fun W => both_bad a zeroS W (.inl h)
  go_enter Tryz.func21, Tryz.ntmps21
  go_wp2_with fail
  refine (Pk _).mono ?_
  rintro e W1 ⟨⟨r, rfl, rfl⟩, hb1⟩
  go_wp2
  go_ret2
  exact ⟨⟨_, rfl, rfl⟩, kb_call (below_two W1 _ _) hb1 (Nat.le_refl _)⟩

/-- integer.Root. -/
theorem root_any (a : ByteArray) (w : World) (hE : Env w) :
    Calls Tryz.prog 21 #[.string a] w (Gives w fun r _ => r = rootT (okS a) (zS a)) := by
  unfold rootT
  cases h : okS a
  · rw [Bool.false_and, resT_false _ 0]; exact root_bad a w h
  · by_cases h0 : zS a < 0
    · rw [show decide (zS a < 0) = true by simp [h0], show (true && !true) = false from rfl, resT_false _ 0]; exact root_neg a w h h0
    · rw [show decide (zS a < 0) = false by simp [h0]]; exact root_ok a w hE h (by omega)
end Go.Proofs.YtbnilfjhalildaaGreatDoor
