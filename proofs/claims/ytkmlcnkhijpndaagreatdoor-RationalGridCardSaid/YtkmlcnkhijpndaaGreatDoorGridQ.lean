/- RationalGrid: the walk. -/
import Derived.Test.YtkmlcnkhijpndaaGreatDoorIsQ
import Derived.Deep.QuietTactic
import Derived.BigQuiet
namespace Go.Proofs.YtkmlcnkhijpndaaGreatDoor
open Go.RowKit
attribute [local go_sem] Oper.semAt_some

/-- 1 with zeros behind it. -/
def powS (k : Nat) : ByteArray := ⟨(49 :: List.replicate k 48).toArray⟩
theorem powS_I (k : Nat) : powS k = I (10 ^ k) := pow_text k
theorem powS_size (k : Nat) : (powS k).size = k + 1 := by
  show (49 :: List.replicate k 48).length = k + 1
  rw [List.length_cons, List.length_replicate]
theorem powS_next (j : Nat) : powS (j + 1) = powS j ++ ⟨#[48]⟩ := by
  unfold powS
  rw [bytes_append, List.replicate_succ']; rfl
theorem zero_div1 : Rat.divInt 0 1 = 0 := Rat.zero_divInt 1
theorem divInt_bd {j k : Nat} {x y : Int} (hx : Bd j x) (hy : Bd k y) (h0 : 0 < y) : Bd j (Rat.divInt x y).num ∧ Bd k ((Rat.divInt x y).den : Int) := by
  obtain ⟨e1, e2⟩ := divInt_parts (x := x) h0
  rw [e1, e2]; exact ⟨hx.ediv, hy.ediv⟩
theorem divInt_cross (x : Int) {y : Int} (h0 : 0 < y) : (Rat.divInt x y).num * y = x * ((Rat.divInt x y).den : Int) := by
  obtain ⟨e1, e2⟩ := divInt_parts (x := x) h0
  obtain ⟨a, ha⟩ := gcdZ_dvd_left x y
  obtain ⟨b, hb⟩ := gcdZ_dvd_right x y
  have hg := gcdZ_pos (x := x) h0
  rw [e1, e2]
  generalize gcdZ x y = g at *
  rw [ha, hb, Int.mul_ediv_cancel_left _ (by omega), Int.mul_ediv_cancel_left _ (by omega), Int.mul_left_comm, Int.mul_assoc]
theorem pow10_bd (k : Nat) : Bd (k + 1) (10 ^ k) := by
  have h : (0 : Int) < 10 ^ k := pow_pos' (by decide) k
  unfold Bd; rw [Int.pow_succ]; omega
theorem grd_exact {up : Bool} {g d : Int} (hd : 0 < d) : grd up (g * d) d = g := by
  unfold grd
  rw [Int.mul_emod_left, Int.mul_ediv_cancel _ (by omega)]; simp
theorem neg_floor {x d : Int} (hd : 0 < d) : grd false (-x) d = -grd true x d := by
  unfold grd
  have h1 := Int.mul_ediv_add_emod x d
  have h2 := Int.emod_nonneg x (show d ≠ 0 by omega)
  have h3 := Int.emod_lt_of_pos x hd
  by_cases h : x % d = 0
  · rw [h]; simp
    exact Int.neg_ediv_of_dvd (Int.dvd_of_emod_eq_zero h)
  · rw [if_neg (by simp), if_pos (by simpa using h)]
    refine ((Int.ediv_emod_unique (r := d - x % d) (q := -(x / d + 1)) hd).2 ⟨?_, by omega, by omega⟩).1
    have : d * -(x / d + 1) = -(d * (x / d)) - d := by rw [Int.mul_neg, Int.mul_add, Int.mul_one]; omega
    omega
theorem grd_bd {up : Bool} {k : Nat} {x d : Int} (hx : Bd k x) : Bd (k + 1) (grd up x d) := by
  have h1 := hx.ediv (y := d)
  unfold grd Bd at *
  rw [Int.pow_succ]
  split <;> omega
theorem rnd_of {up : Bool} {r : Rat} {k : Nat} (hk : k ≤ 30) (hs : Small (r.num * 10 ^ k)) : oRnd up (some r) k = some (Rat.divInt (grd up (r.num * 10 ^ k) r.den) (10 ^ k)) := by
  show oIf (decide (0 ≤ (k : Int) ∧ (k : Int) ≤ 30) && decide (Small (r.num * 10 ^ (k : Int).toNat))) _ = _
  rw [Int.toNat_natCast, decide_eq_true (by omega : 0 ≤ (k : Int) ∧ (k : Int) ≤ 30), decide_eq_true hs]; rfl
theorem cmp_le_of {x y : Rat} (h : x ≤ y) : ∃ c : Int, c = cmpQ x y ∧ -1 ≤ c ∧ c ≤ 0 := by
  refine ⟨_, rfl, ?_, cmpQ_le.2 h⟩
  rcases cmpQ_cases x y with ⟨_, e⟩ | ⟨_, e⟩ | ⟨_, e⟩ <;> rw [e] <;> decide
theorem cmp_ge_of {x y : Rat} (h : y ≤ x) : ∃ c : Int, c = cmpQ x y ∧ 0 ≤ c ∧ c ≤ 1 := by
  refine ⟨_, rfl, cmpQ_ge.2 h, ?_⟩
  rcases cmpQ_cases x y with ⟨_, e⟩ | ⟨_, e⟩ | ⟨_, e⟩ <;> rw [e] <;> decide
/-- A number on the grid. -/
theorem grid_on {g : Int} {j k : Nat} (hg : Bd j g) (hk : k ≤ 30) (hj : j + k + 1 ≤ 200) (up : Bool) : oRnd up (some (Rat.divInt g (10 ^ k))) k = some (Rat.divInt g (10 ^ k)) := by
  have hP : (0 : Int) < 10 ^ k := pow_pos' (by decide) k
  have hb := divInt_bd hg (pow10_bd k) hP
  rw [rnd_of hk ((hb.1.mul (pow10_bd k)).small (by omega)), divInt_cross g hP, grd_exact (rat_den_pos _)]
theorem divInt_le_iff {a b : Int} {r : Rat} (hb : 0 < b) : Rat.divInt a b ≤ r ↔ a * r.den ≤ r.num * b := by
  have hc := divInt_cross a hb
  have hD := rat_den_pos (Rat.divInt a b)
  rw [Rat.le_iff]
  generalize (Rat.divInt a b).num = N at *
  generalize ((Rat.divInt a b).den : Int) = D at *
  have e1 : N * r.den * b = a * r.den * D := by rw [Int.mul_right_comm, hc, Int.mul_right_comm]
  have e2 : r.num * D * b = r.num * b * D := Int.mul_right_comm ..
  constructor
  · intro h
    have := Int.mul_le_mul_of_nonneg_right h (Int.le_of_lt hb)
    rw [e1, e2] at this
    exact Int.le_of_mul_le_mul_right this hD
  · intro h
    have := Int.mul_le_mul_of_nonneg_right h (Int.le_of_lt hD)
    rw [← e1, ← e2] at this
    exact Int.le_of_mul_le_mul_right this hb
theorem le_divInt_iff {a b : Int} {r : Rat} (hb : 0 < b) : r ≤ Rat.divInt a b ↔ r.num * b ≤ a * r.den := by
  have hc := divInt_cross a hb
  have hD := rat_den_pos (Rat.divInt a b)
  rw [Rat.le_iff]
  generalize (Rat.divInt a b).num = N at *
  generalize ((Rat.divInt a b).den : Int) = D at *
  have e1 : N * r.den * b = a * r.den * D := by rw [Int.mul_right_comm, hc, Int.mul_right_comm]
  have e2 : r.num * D * b = r.num * b * D := Int.mul_right_comm ..
  constructor
  · intro h
    have := Int.mul_le_mul_of_nonneg_right h (Int.le_of_lt hb)
    rw [e1, e2] at this
    exact Int.le_of_mul_le_mul_right this hD
  · intro h
    have := Int.mul_le_mul_of_nonneg_right h (Int.le_of_lt hD)
    rw [← e1, ← e2] at this
    exact Int.le_of_mul_le_mul_right this hb
theorem grd_le {x d : Int} (hd : 0 < d) : grd false x d * d ≤ x ∧ x ≤ grd true x d * d ∧ ((x % d = 0 ∧ grd true x d = grd false x d ∧ grd false x d * d = x) ∨ (x % d ≠ 0 ∧ grd true x d = grd false x d + 1 ∧ grd false x d * d < x ∧ x < grd true x d * d)) := by
  have h1 := Int.mul_ediv_add_emod x d
  have h2 := Int.emod_nonneg x (show d ≠ 0 by omega)
  have h3 := Int.emod_lt_of_pos x hd
  have e1 : grd false x d = x / d := by unfold grd; rw [if_neg (by simp)]
  by_cases h : x % d = 0
  · have e2 : grd true x d = x / d := by unfold grd; rw [h]; simp
    rw [e1, e2, Int.mul_comm (x / d)]
    exact ⟨by omega, by omega, .inl ⟨h, rfl, by omega⟩⟩
  · have e2 : grd true x d = x / d + 1 := by unfold grd; rw [if_pos (by simpa using h)]
    rw [e1, e2, Int.add_mul, Int.one_mul, Int.mul_comm (x / d)]
    exact ⟨by omega, by omega, .inr ⟨h, rfl, by omega, by omega⟩⟩
/-- The width of a cell of the grid, or 0. -/
def gw (ex : Bool) (k : Nat) : Rat := if ex then Rat.divInt 0 1 else Rat.divInt 1 (10 ^ k)
theorem rat_add_divInt (a b : Int) {P : Int} (hP : P ≠ 0) : Rat.divInt a P - Rat.divInt b P = Rat.divInt (a - b) P := by
  rw [Rat.divInt_sub_divInt _ _ hP hP, ← Int.sub_mul, Rat.divInt_mul_right hP]
theorem sub_bq {j k j' k' : Nat} {x y : Rat} (h : Bd j x.num ∧ Bd k (x.den : Int)) (g : Bd j' y.num ∧ Bd k' (y.den : Int)) (h1 : j + k' ≤ 199) (h2 : j' + k ≤ 199) (h3 : k + k' ≤ 200) : oSub (some x) (some y) = some (x - y) := by
  rw [oSub_some]; unfold oIf fSub
  have e1 := (h.1.mul g.2).mono (k := 199) (by omega)
  have e2 := (g.1.mul h.2).mono (k := 199) (by omega)
  rw [decide_eq_true (e1.small (by omega)), decide_eq_true (e2.small (by omega)), decide_eq_true ((e1.sub e2).small (by omega)), decide_eq_true ((h.2.mul g.2).small (by omega))]; rfl
theorem zero_bd : Bd 1 (Rat.divInt 0 1).num ∧ Bd 1 ((Rat.divInt 0 1).den : Int) := by rw [zero_div1]; unfold Bd; decide
theorem is_pow {k : Nat} (hk : k ≤ 30) {t : ByteArray} (ht : t = powS k) : Is (some (Rat.divInt (10 ^ k) 1)) t ⟨#[49]⟩ := by
  have h1 : (Rat.divInt (10 ^ k) 1).num = 10 ^ k ∧ ((Rat.divInt (10 ^ k) 1).den : Int) = 1 := by
    obtain ⟨e1, e2⟩ := divInt_parts (x := 10 ^ k) (y := 1) (by decide)
    have e3 : gcdZ (10 ^ k) 1 = 1 := by unfold gcdZ; simp
    rw [e1, e2, e3]; simp
  refine ⟨?_, ?_, OkO.some ⟨?_, ?_⟩⟩
  · rw [ht, powS_I]; show _ = I _; rw [h1.1]
  · show _ = I _; rw [h1.2]; exact lit_I [49] 1 (by decide +kernel) (by decide +kernel)
  · rw [h1.1]; exact small_pow (by omega)
  · rw [h1.2]; exact one_small
theorem gw_ok (ex : Bool) {k : Nat} (hk : k ≤ 30) : OkO (some (gw ex k)) := by
  unfold gw
  cases ex
  · rw [if_neg (by decide)]; exact OkO.some (smallQ_divInt one_small (small_pow (by omega)) (pow_pos' (by decide) k))
  · rw [if_pos rfl]; exact OkO.some (by decide +kernel)
theorem den_one {r : Rat} {n d : ByteArray} (h : Is (some r) n d) (h1 : r.den = 1) : d = ⟨#[49]⟩ := by
  rw [h.num.2, h1]; exact (lit_I [49] 1 (by decide +kernel) (by decide +kernel)).symm
theorem gw_texts {ex : Bool} {k : Nat} {n d t : ByteArray} (ht : t = powS k) (h : Is (some (gw ex k)) n d) : (ex = true → n = ⟨#[48]⟩ ∧ d = ⟨#[49]⟩) ∧ (ex = false → n = ⟨#[49]⟩ ∧ d = t) := by
  constructor
  · rintro rfl
    exact ⟨h.1.trans zero_texts.1.symm, h.2.1.trans zero_texts.2.symm⟩
  · rintro rfl
    have hP : (0 : Int) < 10 ^ k := pow_pos' (by decide) k
    obtain ⟨e1, e2⟩ := divInt_parts (x := 1) hP
    have e3 : gcdZ 1 (10 ^ k) = 1 := by unfold gcdZ; simp
    rw [e3] at e1 e2
    have hn := h.num
    unfold gw at hn
    rw [if_neg (by decide), e1, e2] at hn
    refine ⟨hn.1.trans ?_, hn.2.trans ?_⟩
    · simpa using (lit_I [49] 1 (by decide +kernel) (by decide +kernel)).symm
    · rw [ht, powS_I, Int.ediv_one]
theorem Asc.cons {w : World} {L : BLs} {g : Nat} (h : Asc w L) (hge : w.heap.size ≤ g) (hlt : ∀ p ∈ L, p.1 < g) (cs : Array Value) (t : TypeId) : Asc w ((g, cs, t) :: L) :=
  ⟨fun p hp => by
    rcases List.mem_cons.1 hp with rfl | hp
    · exact hge
    · exact h.ge p hp, List.pairwise_cons.2 ⟨fun p hp => hlt p hp, h.asc⟩⟩
theorem BL.cons {w W : World} {L : BLs} {g : Nat} {cs : Array Value} {t : TypeId} (h : BL w L W) (hk : Blk W g cs t) : BL w ((g, cs, t) :: L) W :=
  ⟨h.below, fun p hp => by
    rcases List.mem_cons.1 hp with rfl | hp
    · exact hk
    · exact h.blks p hp⟩
theorem grid_facts {r : Rat} (hB : BQ 100 r) {k : Nat} (hk : k ≤ 30) : ∃ (A B C N : Rat) (ex : Bool),
    oRnd false (some r) k = some A ∧ oRnd true (some r) k = some B ∧ oRnd false (oSub (some (Rat.divInt 0 1)) (some r)) k = some C ∧ oSub (some (Rat.divInt 0 1)) (some C) = some B ∧
    oRnd false (some B) k = some B ∧ oRnd true (some A) k = some A ∧ A ≤ r ∧ r ≤ B ∧ (oMul (some A) (some (Rat.divInt (10 ^ k) 1)) = some N ∧ N.den = 1 ∧ SmallQ N) ∧
    oSub (some B) (some A) = some (gw ex k) ∧ (ex = true ∧ A = r ∧ B = r ∨ ex = false ∧ A < r ∧ r < B) ∧ (OkO (some A) ∧ OkO (some B) ∧ OkO (some C)) := by
  have hP : (0 : Int) < 10 ^ k := pow_pos' (by decide) k
  have bP := pow10_bd k
  have hd := rat_den_pos r
  have hx : Bd 131 (r.num * 10 ^ k) := (hB.1.mul bP).mono (by omega)
  have hsx := hx.small (by decide)
  have bf := grd_bd (up := false) (d := r.den) hx
  have bg := grd_bd (up := true) (d := r.den) hx
  obtain ⟨l1, l2, l3⟩ := grd_le (x := r.num * 10 ^ k) hd
  have nf := neg_floor (x := r.num * 10 ^ k) hd
  generalize hf : grd false (r.num * 10 ^ k) r.den = f at *
  generalize hg : grd true (r.num * 10 ^ k) r.den = g at *
  have bA := divInt_bd bf bP hP
  have bB := divInt_bd bg bP hP
  have bC := divInt_bd bg.neg bP hP
  have eN : oSub (some (Rat.divInt 0 1)) (some r) = some (-r) := by
    rw [sub_bq (j := 1) (k := 1) zero_bd hB (by decide) (by decide) (by decide), zero_div1]; congr 1; grind
  have eC : Rat.divInt (-g) (10 ^ k) = -Rat.divInt g (10 ^ k) := (Rat.neg_divInt g (10 ^ k)).symm
  have eM : oMul (some (Rat.divInt f (10 ^ k))) (some (Rat.divInt (10 ^ k) 1)) = some (f : Rat) := by
    have h1 : (Rat.divInt (10 ^ k) 1).num = 10 ^ k ∧ ((Rat.divInt (10 ^ k) 1).den : Int) = 1 := by
      obtain ⟨e1, e2⟩ := divInt_parts (x := 10 ^ k) (y := 1) (by decide)
      have e3 : gcdZ (10 ^ k) 1 = 1 := by unfold gcdZ; simp
      rw [e1, e2, e3]; simp
    rw [oMul_some]; unfold oIf fMul
    rw [h1.1, h1.2, Int.mul_one, decide_eq_true ((bA.1.mul bP).small (by omega)), decide_eq_true (bA.2.small (by omega))]
    show some _ = some _
    rw [Rat.divInt_mul_divInt, Int.mul_one, show Rat.divInt (f * 10 ^ k) (10 ^ k) = Rat.divInt (f * 10 ^ k) (1 * 10 ^ k) by rw [Int.one_mul], Rat.divInt_mul_right (by omega)]
    exact congrArg some (divInt_self_parts (f : Rat))
  refine ⟨Rat.divInt f (10 ^ k), Rat.divInt g (10 ^ k), Rat.divInt (-g) (10 ^ k), (f : Rat), decide (r.num * 10 ^ k % r.den = 0), ?_, ?_, ?_, ?_, ?_, ?_, ?_, ?_, ⟨eM, ?_, ?_⟩, ?_, ?_, ?_⟩
  · rw [rnd_of hk hsx, hf]
  · rw [rnd_of hk hsx, hg]
  · rw [eN, rnd_of hk (by rw [Rat.neg_num, Int.neg_mul]; exact small_neg hsx), Rat.neg_num, Rat.neg_den, Int.neg_mul, nf]
  · rw [sub_bq (j := 1) (k := 1) zero_bd bC (by omega) (by omega) (by omega), zero_div1, eC]; generalize Rat.divInt g (10 ^ k) = y; exact congrArg some (by grind)
  · exact grid_on bg hk (by omega) false
  · exact grid_on bf hk (by omega) true
  · rw [divInt_le_iff hP]; exact l1
  · rw [le_divInt_iff hP]; exact l2
  · rfl
  · exact ⟨bf.small (by decide), one_small⟩
  · rw [sub_bq bB bA (by omega) (by omega) (by omega), rat_add_divInt _ _ (by omega)]
    unfold gw
    rcases l3 with ⟨h1, h2, h3⟩ | ⟨h1, h2, h3, h4⟩
    · rw [decide_eq_true h1, if_pos rfl, h2, Int.sub_self, Rat.zero_divInt, Rat.zero_divInt]
    · rw [decide_eq_false h1, if_neg (by decide), h2, show f + 1 - f = 1 by omega]
  · rcases l3 with ⟨h1, h2, h3⟩ | ⟨h1, h2, h3, h4⟩
    · refine .inl ⟨decide_eq_true h1, ?_, ?_⟩
      · exact Rat.le_antisymm ((divInt_le_iff hP).2 (by omega)) ((le_divInt_iff hP).2 (by omega))
      · rw [h2]; exact Rat.le_antisymm ((divInt_le_iff hP).2 (by omega)) ((le_divInt_iff hP).2 (by omega))
    · refine .inr ⟨decide_eq_false h1, ?_, ?_⟩
      · refine Rat.not_le.1 (fun h => ?_)
        have := (le_divInt_iff hP).1 h; omega
      · refine Rat.not_le.1 (fun h => ?_)
        have := (divInt_le_iff hP).1 h; omega
  · exact ⟨OkO.some ⟨bA.1.small (by omega), bA.2.small (by omega)⟩, OkO.some ⟨bB.1.small (by omega), bB.2.small (by omega)⟩, OkO.some ⟨bC.1.small (by omega), bC.2.small (by omega)⟩⟩

set_option maxRecDepth 100000 in
set_option maxHeartbeats 16000000 in
theorem grid_law (x0 x1 x2 x3 pl : Int) (F0 : Fits x0) (F1 : Fits x1) (F2 : Fits x2) (F3 : Fits x3) (Fp : Fits pl) (w : World) (hE : EnvQ w) :
    Calls Tryz.prog 10 #[.agg #[.int .i64 x0, .int .i64 x1, .int .i64 x2, .int .i64 x3], .int .i64 pl] w (Rets w (.bool true)) := by
  have Sv0 := BL.start w
  obtain ⟨V1, ev1, Sv1, zv1⟩ := Sv0.add' #[.int .i64 x0, .int .i64 x1, .int .i64 x2, .int .i64 x3] 24
  have hV : V1 = (w.alloc (.cells #[.int .i64 x0, .int .i64 x1, .int .i64 x2, .int .i64 x3] 24)) := by rw [ev1]
  have hS : BL w [(w.heap.size, #[.int .i64 x0, .int .i64 x1, .int .i64 x2, .int .i64 x3], 24)] V1 := Sv1
  have hO : Asc w [(w.heap.size, #[.int .i64 x0, .int .i64 x1, .int .i64 x2, .int .i64 x3], 24)] := ⟨by simp, by simp⟩
  clear ev1 zv1 Sv0 Sv1
  have b0 := pkv_nonneg (c := pl) (m := 31) (by decide)
  have b1 := pkv_lt (c := pl) (m := 31) (by decide)
  have PK := Lib.hid (fun W => pick4_any pl 31 Fp (by decide) (by decide) W)
  generalize pkv pl 31 = kk at *
  obtain ⟨k, rfl⟩ : ∃ k : Nat, kk = k := ⟨kk.toNat, by omega⟩
  have hk : k ≤ 30 := by omega
  clear b0 b1
  go_enter Tryz.func10, Tryz.ntmps10
  go_wp2_with fail
  rw [← hV]
  clear hV
  refine Calls.mono (saneQ_any _ (hS.envQ hE)) ?_
  rintro e w1 ⟨rfl, hb⟩
  replace hS := hS.call hb
  clear hb
  obtain ⟨c_X_0, c_X_1, c_X_2, c_X_3⟩ := hS.c4 (w.heap.size) _ _ _ _ _ (.head _)
  go_wp2_with fail
  refine Calls.mono (long_v x0 x1 x2 x3 F0 F1 F2 F3 _) ?_
  rintro e w2 ⟨r, rn, rd, rfl, Ir, Br, hb⟩
  clear c_X_0 c_X_1 c_X_2 c_X_3
  replace hS := hS.call hb
  clear hb
  replace hO := hO.add hS #[.string rn, .string rd] 23
  replace hS := hS.add' #[.string rn, .string rd] 23
  obtain ⟨W0, hW0, hS, hz0⟩ := hS
  obtain ⟨W, hW⟩ : ∃ W, W = (w2.alloc (.cells #[.string rn, .string rd] 23)) := ⟨_, rfl⟩
  replace hS : BL w [(w2.heap.size, #[.string rn, .string rd], 23), (w.heap.size, #[.int .i64 x0, .int .i64 x1, .int .i64 x2, .int .i64 x3], 24)] W := by rw [hW, ← hW0]; exact hS
  clear hz0 hW0
  go_wp2_with fail
  rw [← hW]
  clear hW
  refine Calls.mono (PK.out _) ?_
  rintro e w' ⟨rfl, rfl⟩
  go_wp2_with fail
  go_loop [7, 8] (fun s i => ∃ j : Nat, j ≤ k ∧ i = .int .i64 j ∧ s = .string (powS j)) (fun _ i => k - (intOf i).toNat)
  case atStart => exact ⟨0, Nat.zero_le _, rfl, rfl⟩
  case round =>
    obtain ⟨j, hj, rfl, rfl⟩ := hrel
    have hjs : (powS j).size ≤ 1000 := by rw [powS_size]; omega
    by_cases hlt : j < k
    · have hnx := Lib.hid (powS_next j)
      go_wp2_with fail
      go_round
      case rel => exact ⟨j + 1, by omega, by go_num, by rw [hnx.out]⟩
      case measure => simp [intOf]; omega
    · obtain rfl : j = k := by omega
      obtain ⟨A, B, C, N, ex, g1, g2, g3, g4, g5, g6, g7, g8, ⟨g9, g13, g14⟩, g10, g11, g12⟩ := grid_facts Br hk
      obtain ⟨t, ht⟩ : ∃ t : ByteArray, Hid (t = powS j) := ⟨_, rfl⟩
      rw [← ht.out]
      have hts : t.size ≤ 1000 := by rw [ht.out]; exact hjs
      clear hlt hjs
      obtain ⟨an, ad, Ia⟩ := is_mk (o := some A) g12.1
      obtain ⟨bn, bd, Ib⟩ := is_mk (o := some B) g12.2.1
      obtain ⟨cn, cd, Ic⟩ := is_mk (o := some C) g12.2.2
      have Ea : IsE (oRnd false (some r) j) an ad 0 := by rw [g1]; exact ⟨Ia, rfl⟩
      have Eb : IsE (oRnd true (some r) j) bn bd 0 := by rw [g2]; exact ⟨Ib, rfl⟩
      obtain ⟨mn, md, Im⟩ := is_mk (o := oSub (some (Rat.divInt 0 1)) (some r)) OkO.sub
      have Ec : IsE (oRnd false (oSub (some (Rat.divInt 0 1)) (some r)) j) cn cd 0 := by rw [g3]; exact ⟨Ic, rfl⟩
      have Emc : Is (oSub (some (Rat.divInt 0 1)) (some C)) bn bd := by rw [g4]; exact Ib
      have Eg : IsE (oRnd false (some B) j) bn bd 0 := by rw [g5]; exact ⟨Ib, rfl⟩
      have Et : IsE (oRnd true (some A) j) an ad 0 := by rw [g6]; exact ⟨Ia, rfl⟩
      obtain ⟨c_r_0, c_r_1⟩ := hS.c2 (w2.heap.size) _ _ _ (.head _)
      go_wp2_with fail
      refine Calls.mono (down_v Ir _ (hS.envQ hE).env j Ea) ?_
      rintro e w3 ⟨rfl, hb⟩
      clear c_r_0 c_r_1
      replace hS := hS.call hb
      clear hb
      replace hO := hO.add hS #[.string an, .string ad] 23
      replace hS := hS.add' #[.string an, .string ad] 23
      obtain ⟨W0, hW0, hS, hz0⟩ := hS
      obtain ⟨W, hW⟩ : ∃ W, W = (w3.alloc (.cells #[.string an, .string ad] 23)) := ⟨_, rfl⟩
      replace hS : BL w [(w3.heap.size, #[.string an, .string ad], 23), (w2.heap.size, #[.string rn, .string rd], 23), (w.heap.size, #[.int .i64 x0, .int .i64 x1, .int .i64 x2, .int .i64 x3], 24)] W := by rw [hW, ← hW0]; exact hS
      clear hz0 hW0
      go_upto_region 10 with fail
      rw [← hW]
      clear hW
      obtain ⟨c_r_0, c_r_1⟩ := hS.c2 (w2.heap.size) _ _ _ (.tail _ (.head _))
      go_wp2_with fail
      refine Calls.mono (up_v Ir _ (hS.envQ hE).env j Eb) ?_
      rintro e w4 ⟨rfl, hb⟩
      clear c_r_0 c_r_1
      replace hS := hS.call hb
      clear hb
      replace hO := hO.add hS #[.string bn, .string bd] 23
      replace hS := hS.add' #[.string bn, .string bd] 23
      obtain ⟨W0, hW0, hS, hz0⟩ := hS
      obtain ⟨W, hW⟩ : ∃ W, W = (w4.alloc (.cells #[.string bn, .string bd] 23)) := ⟨_, rfl⟩
      replace hS : BL w [(w4.heap.size, #[.string bn, .string bd], 23), (w3.heap.size, #[.string an, .string ad], 23), (w2.heap.size, #[.string rn, .string rd], 23), (w.heap.size, #[.int .i64 x0, .int .i64 x1, .int .i64 x2, .int .i64 x3], 24)] W := by rw [hW, ← hW0]; exact hS
      clear hz0 hW0
      go_upto_region 11 with fail
      rw [← hW]
      clear hW
      obtain ⟨c_r_0, c_r_1⟩ := hS.c2 (w2.heap.size) _ _ _ (.tail _ (.tail _ (.head _)))
      go_wp2_with fail
      refine Calls.mono (minus_v Ir _ (hS.envQ hE).env Im) ?_
      rintro e w5 ⟨rfl, hb⟩
      clear c_r_0 c_r_1
      replace hS := hS.call hb
      clear hb
      go_wp2_with fail
      refine Calls.mono (down_v Im _ (hS.envQ hE).env j Ec) ?_
      rintro e w6 ⟨rfl, hb⟩
      replace hS := hS.call hb
      clear hb
      replace hO := hO.add hS #[.string cn, .string cd] 23
      replace hS := hS.add' #[.string cn, .string cd] 23
      obtain ⟨W0, hW0, hS, hz0⟩ := hS
      obtain ⟨W, hW⟩ : ∃ W, W = (w6.alloc (.cells #[.string cn, .string cd] 23)) := ⟨_, rfl⟩
      replace hS : BL w [(w6.heap.size, #[.string cn, .string cd], 23), (w4.heap.size, #[.string bn, .string bd], 23), (w3.heap.size, #[.string an, .string ad], 23), (w2.heap.size, #[.string rn, .string rd], 23), (w.heap.size, #[.int .i64 x0, .int .i64 x1, .int .i64 x2, .int .i64 x3], 24)] W := by rw [hW, ← hW0]; exact hS
      clear hz0 hW0
      obtain ⟨ca, cb, hca, hcb, hex⟩ : ∃ ca cb : Int, ca = oCmp (some A) (some r) ∧ cb = oCmp (some B) (some r) ∧ (ex = true ∧ ca = 0 ∧ cb = 0 ∨ ex = false ∧ ca = -1 ∧ cb = 1) := by
        refine ⟨_, _, rfl, rfl, ?_⟩
        rcases g11 with ⟨h1, h2, h3⟩ | ⟨h1, h2, h3⟩
        · exact .inl ⟨h1, by rw [h2]; exact cmpQ_eq r, by rw [h3]; exact cmpQ_eq r⟩
        · exact .inr ⟨h1, cmpQ_lt h2, cmpQ_gt h3⟩
      replace hca := Lib.hid hca
      replace hcb := Lib.hid hcb
      replace hex := Lib.hid hex
      go_upto_region 12 with fail
      rw [← hW]
      clear hW
      go_cut [83] (fun s wx => s = .bool false ∧ BL w [(w6.heap.size, #[.string cn, .string cd], 23), (w4.heap.size, #[.string bn, .string bd], 23), (w3.heap.size, #[.string an, .string ad], 23), (w2.heap.size, #[.string rn, .string rd], 23), (w.heap.size, #[.int .i64 x0, .int .i64 x1, .int .i64 x2, .int .i64 x3], 24)] wx)
      case first => as_aux_lemma =>
        have CA := Lib.hid (fun W hE => cmp_v Ia W hE Ir ca hca.out)
        have CB := Lib.hid (fun W hE => cmp_v Ib W hE Ir cb hcb.out)
        have MC := Lib.hid (fun W hE => minus_v Ic W hE Emc)
        have hC0 : ∀ W', BL w [(w6.heap.size, #[.string cn, .string cd], 23), (w4.heap.size, #[.string bn, .string bd], 23), (w3.heap.size, #[.string an, .string ad], 23), (w2.heap.size, #[.string rn, .string rd], 23), (w.heap.size, #[.int .i64 x0, .int .i64 x1, .int .i64 x2, .int .i64 x3], 24)] W' → (W'.cell? ⟨w2.heap.size, 0, none⟩ = some (.string rn) ∧ W'.cell? ⟨w2.heap.size, 1, none⟩ = some (.string rd) ∧ W'.cell? ⟨w3.heap.size, 0, none⟩ = some (.string an) ∧ W'.cell? ⟨w3.heap.size, 1, none⟩ = some (.string ad) ∧ W'.cell? ⟨w4.heap.size, 0, none⟩ = some (.string bn) ∧ W'.cell? ⟨w4.heap.size, 1, none⟩ = some (.string bd) ∧ W'.cell? ⟨w6.heap.size, 0, none⟩ = some (.string cn) ∧ W'.cell? ⟨w6.heap.size, 1, none⟩ = some (.string cd)) := fun W' h => ⟨(h.cell (w2.heap.size) _ _ (.tail _ (.tail _ (.tail _ (.head _)))) 0), (h.cell (w2.heap.size) _ _ (.tail _ (.tail _ (.tail _ (.head _)))) 1), (h.cell (w3.heap.size) _ _ (.tail _ (.tail _ (.head _))) 0), (h.cell (w3.heap.size) _ _ (.tail _ (.tail _ (.head _))) 1), (h.cell (w4.heap.size) _ _ (.tail _ (.head _)) 0), (h.cell (w4.heap.size) _ _ (.tail _ (.head _)) 1), (h.cell (w6.heap.size) _ _ (.head _) 0), (h.cell (w6.heap.size) _ _ (.head _) 1)⟩
        have hC := Lib.hid hC0
        clear hC0
        rcases hex.out with ⟨_, rfl, rfl⟩ | ⟨_, rfl, rfl⟩
        all_goals
          obtain ⟨x0', x1', x2', x3', x4', x5', x6', x7'⟩ := hC.out _ hS
          replace hS := hS.drew
          go_region_held3 (fun w' => w'.cell? ⟨w2.heap.size, 0, none⟩ = some (.string rn) ∧ w'.cell? ⟨w2.heap.size, 1, none⟩ = some (.string rd) ∧ w'.cell? ⟨w3.heap.size, 0, none⟩ = some (.string an) ∧ w'.cell? ⟨w3.heap.size, 1, none⟩ = some (.string ad) ∧ w'.cell? ⟨w4.heap.size, 0, none⟩ = some (.string bn) ∧ w'.cell? ⟨w4.heap.size, 1, none⟩ = some (.string bd) ∧ w'.cell? ⟨w6.heap.size, 0, none⟩ = some (.string cn) ∧ w'.cell? ⟨w6.heap.size, 1, none⟩ = some (.string cd))
            (first | with_reducible exact hC.out _ hS | go_keep)
            (first | (go_at_call 45; (with_reducible refine Calls.mono (MC.out _ (hS.envQ hE).env) ?_); rintro e w' ⟨rfl, hb⟩; replace hS := hS.call hb; clear hb) | (go_at_call 23; (with_reducible refine Calls.mono (CA.out _ (hS.envQ hE).env) ?_); rintro e w' ⟨rfl, hb⟩; replace hS := hS.call hb; clear hb) | (go_at_call 23; (with_reducible refine Calls.mono (CB.out _ (hS.envQ hE).env) ?_); rintro e w' ⟨rfl, hb⟩; replace hS := hS.call hb; clear hb))
          go_wp2_with fail
          go_meet
          exact ⟨rfl, hS⟩
      case rest =>
        clear hS
        obtain ⟨rfl, hS⟩ := hcut
        obtain ⟨c_b_0, c_b_1⟩ := hS.c2 (w4.heap.size) _ _ _ (.tail _ (.head _))
        go_wp2_with fail
        refine Calls.mono (down_v Ib _ (hS.envQ hE).env j Eg) ?_
        rintro e w7 ⟨rfl, hb⟩
        clear c_b_0 c_b_1
        replace hS := hS.call hb
        clear hb
        replace hO := hO.add hS #[.string bn, .string bd] 23
        replace hS := hS.add' #[.string bn, .string bd] 23
        obtain ⟨W0, hW0, hS, hz0⟩ := hS
        obtain ⟨W, hW⟩ : ∃ W, W = (w7.alloc (.cells #[.string bn, .string bd] 23)) := ⟨_, rfl⟩
        replace hS : BL w [(w7.heap.size, #[.string bn, .string bd], 23), (w6.heap.size, #[.string cn, .string cd], 23), (w4.heap.size, #[.string bn, .string bd], 23), (w3.heap.size, #[.string an, .string ad], 23), (w2.heap.size, #[.string rn, .string rd], 23), (w.heap.size, #[.int .i64 x0, .int .i64 x1, .int .i64 x2, .int .i64 x3], 24)] W := by rw [hW, ← hW0]; exact hS
        clear hz0 hW0
        go_upto_region 15 with fail
        rw [← hW]
        clear hW
        obtain ⟨c_a_0, c_a_1⟩ := hS.c2 (w3.heap.size) _ _ _ (.tail _ (.tail _ (.tail _ (.head _))))
        go_wp2_with fail
        refine Calls.mono (up_v Ia _ (hS.envQ hE).env j Et) ?_
        rintro e w8 ⟨rfl, hb⟩
        clear c_a_0 c_a_1
        replace hS := hS.call hb
        clear hb
        replace hO := hO.add hS #[.string an, .string ad] 23
        replace hS := hS.add' #[.string an, .string ad] 23
        obtain ⟨W0, hW0, hS, hz0⟩ := hS
        obtain ⟨W, hW⟩ : ∃ W, W = (w8.alloc (.cells #[.string an, .string ad] 23)) := ⟨_, rfl⟩
        replace hS : BL w [(w8.heap.size, #[.string an, .string ad], 23), (w7.heap.size, #[.string bn, .string bd], 23), (w6.heap.size, #[.string cn, .string cd], 23), (w4.heap.size, #[.string bn, .string bd], 23), (w3.heap.size, #[.string an, .string ad], 23), (w2.heap.size, #[.string rn, .string rd], 23), (w.heap.size, #[.int .i64 x0, .int .i64 x1, .int .i64 x2, .int .i64 x3], 24)] W := by rw [hW, ← hW0]; exact hS
        clear hz0 hW0
        obtain ⟨nn, nd, In⟩ := is_mk (o := some N) (OkO.some g14)
        have It1 : Is (some (Rat.divInt (10 ^ j) 1)) t ⟨#[49]⟩ := is_pow hk ht.out
        have En : IsE (oMul (some A) (some (Rat.divInt (10 ^ j) 1))) nn nd 0 := by rw [g9]; exact ⟨In, rfl⟩
        obtain ⟨wn, wd, Iw⟩ := is_mk (o := some (gw ex j)) (gw_ok ex hk)
        have Ew : IsE (oSub (some B) (some A)) wn wd 0 := by rw [g10]; exact ⟨Iw, rfl⟩
        have hnd := Lib.hid (den_one In g13)
        have MU := Lib.hid (fun W hE => mul_v Ia W hE It1 En)
        have hgw := Lib.hid (gw_texts ht.out Iw)
        have hk30 := Lib.hid hk
        go_upto_region 16 with fail
        rw [← hW]
        clear hW
        have hC0 : ∀ W', BL w [(w8.heap.size, #[.string an, .string ad], 23), (w7.heap.size, #[.string bn, .string bd], 23), (w6.heap.size, #[.string cn, .string cd], 23), (w4.heap.size, #[.string bn, .string bd], 23), (w3.heap.size, #[.string an, .string ad], 23), (w2.heap.size, #[.string rn, .string rd], 23), (w.heap.size, #[.int .i64 x0, .int .i64 x1, .int .i64 x2, .int .i64 x3], 24)] W' → (W'.cell? ⟨w3.heap.size, 0, none⟩ = some (.string an) ∧ W'.cell? ⟨w3.heap.size, 1, none⟩ = some (.string ad)) := fun W' h => ⟨(h.cell (w3.heap.size) _ _ (.tail _ (.tail _ (.tail _ (.tail _ (.head _))))) 0), (h.cell (w3.heap.size) _ _ (.tail _ (.tail _ (.tail _ (.tail _ (.head _))))) 1)⟩
        have hC := Lib.hid hC0
        clear hC0
        have h0 := hS
        obtain ⟨x0', x1'⟩ := hC.out _ hS
        have hS := hS.drew
        go_cut [19, 20] (fun s e wx => ∃ g : Nat, s = .pointer (some ⟨g, 0, none⟩) ∧ e = .int .i64 0 ∧ Asc w ((g, #[.string nn, .string nd], 23) :: [(w8.heap.size, #[.string an, .string ad], 23), (w7.heap.size, #[.string bn, .string bd], 23), (w6.heap.size, #[.string cn, .string cd], 23), (w4.heap.size, #[.string bn, .string bd], 23), (w3.heap.size, #[.string an, .string ad], 23), (w2.heap.size, #[.string rn, .string rd], 23), (w.heap.size, #[.int .i64 x0, .int .i64 x1, .int .i64 x2, .int .i64 x3], 24)]) ∧ BL w ((g, #[.string nn, .string nd], 23) :: [(w8.heap.size, #[.string an, .string ad], 23), (w7.heap.size, #[.string bn, .string bd], 23), (w6.heap.size, #[.string cn, .string cd], 23), (w4.heap.size, #[.string bn, .string bd], 23), (w3.heap.size, #[.string an, .string ad], 23), (w2.heap.size, #[.string rn, .string rd], 23), (w.heap.size, #[.int .i64 x0, .int .i64 x1, .int .i64 x2, .int .i64 x3], 24)]) wx)
        case first => as_aux_lemma =>
          go_region_held3 (fun w' => w'.cell? ⟨w3.heap.size, 0, none⟩ = some (.string an) ∧ w'.cell? ⟨w3.heap.size, 1, none⟩ = some (.string ad))
            (first | with_reducible exact hC.out _ hS | with_reducible exact hC.out _ (hS.new _) | with_reducible exact hC.out _ ((h0.new _).drew) | with_reducible exact hC.out _ (hS.setG hge hlt _ _) | go_keep)
            (first | (go_at_call 24; (with_reducible refine Calls.mono (is_any _ _ _) ?_); rintro e w' ⟨rfl, hb⟩; (first | (have hS := hS.call hb; first | (have hN := hN.below hb; have n0 := (blk_two hN).1; have n1 := (blk_two hN).2; have m0 := hN.frozen 0; have m1 := hN.frozen 1) | skip) | (have hlt := hS.lts; have hge := hS.below.size; have hN := nres hb; have n0 := (blk_two hN).1; have n1 := (blk_two hN).2; have m0 := hN.frozen 0; have m1 := hN.frozen 1; have hS := (hS.new _).call hb) | (have hlt := h0.lts; have hge := h0.below.size; have hN := nres_drew hb; have n0 := (blk_two hN).1; have n1 := (blk_two hN).2; have m0 := hN.frozen 0; have m1 := hN.frozen 1; have hS := ((h0.new _).drew).call hb)); clear hb) | (go_at_call 25; (with_reducible refine Calls.mono (MU.out _ ?_) ?_); (first | exact (hS.envQ hE).env | exact ((hS.new _).envQ hE).env | exact (((h0.new _).drew).envQ hE).env); rintro e w' ⟨rfl, hb⟩; (first | (have hS := hS.call hb; first | (have hN := hN.below hb; have n0 := (blk_two hN).1; have n1 := (blk_two hN).2; have m0 := hN.frozen 0; have m1 := hN.frozen 1) | skip) | (have hlt := hS.lts; have hge := hS.below.size; have hN := nres hb; have n0 := (blk_two hN).1; have n1 := (blk_two hN).2; have m0 := hN.frozen 0; have m1 := hN.frozen 1; have hS := (hS.new _).call hb) | (have hlt := h0.lts; have hge := h0.below.size; have hN := nres_drew hb; have n0 := (blk_two hN).1; have n1 := (blk_two hN).2; have m0 := hN.frozen 0; have m1 := hN.frozen 1; have hS := ((h0.new _).drew).call hb)); clear hb))
          all_goals (go_wp2_with fail; go_meet; first | exact ⟨_, rfl, rfl, hO.add hS _ _, hS.add _ _⟩ | exact ⟨_, rfl, rfl, hO.cons hge hlt _ _, (hS.setG hge hlt _ _).cons ((hN.set 0 (.string nn)).set 1 (.string nd))⟩)
        case rest =>
          clear hS h0 hO x0' x1'
          obtain ⟨g, rfl, rfl, hO, hS⟩ := hcut
          obtain ⟨c_a_0, c_a_1⟩ := hS.c2 (w3.heap.size) _ _ _ (.tail _ (.tail _ (.tail _ (.tail _ (.tail _ (.head _))))))
          obtain ⟨c_b_0, c_b_1⟩ := hS.c2 (w4.heap.size) _ _ _ (.tail _ (.tail _ (.tail _ (.tail _ (.head _)))))
          go_wp2_with fail
          refine Calls.mono (sub_v Ib _ (hS.envQ hE).env Ia Ew) ?_
          rintro e w9 ⟨rfl, hb⟩
          clear c_a_0 c_a_1 c_b_0 c_b_1
          replace hS := hS.call hb
          clear hb
          replace hO := hO.add hS #[.string wn, .string wd] 23
          replace hS := hS.add' #[.string wn, .string wd] 23
          obtain ⟨W0, hW0, hS, hz0⟩ := hS
          obtain ⟨W, hW⟩ : ∃ W, W = (w9.alloc (.cells #[.string wn, .string wd] 23)) := ⟨_, rfl⟩
          replace hS : BL w [(w9.heap.size, #[.string wn, .string wd], 23), (g, #[.string nn, .string nd], 23), (w8.heap.size, #[.string an, .string ad], 23), (w7.heap.size, #[.string bn, .string bd], 23), (w6.heap.size, #[.string cn, .string cd], 23), (w4.heap.size, #[.string bn, .string bd], 23), (w3.heap.size, #[.string an, .string ad], 23), (w2.heap.size, #[.string rn, .string rd], 23), (w.heap.size, #[.int .i64 x0, .int .i64 x1, .int .i64 x2, .int .i64 x3], 24)] W := by rw [hW, ← hW0]; exact hS
          clear hz0 hW0
          go_upto_region 18 with fail
          rw [← hW]
          clear hW
          obtain ⟨c_a_0, c_a_1⟩ := hS.c2 (w3.heap.size) _ _ _ (.tail _ (.tail _ (.tail _ (.tail _ (.tail _ (.tail _ (.head _)))))))
          obtain ⟨c_r_0, c_r_1⟩ := hS.c2 (w2.heap.size) _ _ _ (.tail _ (.tail _ (.tail _ (.tail _ (.tail _ (.tail _ (.tail _ (.head _))))))))
          go_wp2_with fail
          refine Calls.mono (cmp_v Ia _ (hS.envQ hE).env Ir ca hca.out) ?_
          rintro e w10 ⟨rfl, hb⟩
          clear c_a_0 c_a_1 c_r_0 c_r_1
          replace hS := hS.call hb
          clear hb
          go_wp2_with fail
          refine Calls.mono (is_any _ _ _) ?_
          rintro e w11 ⟨rfl, hb⟩
          replace hS := hS.call hb
          clear hb
          replace hO := hO.add hS #[.string ⟨#[49]⟩, .string t] 23
          replace hS := hS.add' #[.string ⟨#[49]⟩, .string t] 23
          obtain ⟨W0, hW0, hS, hz0⟩ := hS
          obtain ⟨W, hW⟩ : ∃ W, W = (w11.alloc (.cells #[.string ⟨#[49]⟩, .string t] 23)) := ⟨_, rfl⟩
          replace hS : BL w [(w11.heap.size, #[.string ⟨#[49]⟩, .string t], 23), (w9.heap.size, #[.string wn, .string wd], 23), (g, #[.string nn, .string nd], 23), (w8.heap.size, #[.string an, .string ad], 23), (w7.heap.size, #[.string bn, .string bd], 23), (w6.heap.size, #[.string cn, .string cd], 23), (w4.heap.size, #[.string bn, .string bd], 23), (w3.heap.size, #[.string an, .string ad], 23), (w2.heap.size, #[.string rn, .string rd], 23), (w.heap.size, #[.int .i64 x0, .int .i64 x1, .int .i64 x2, .int .i64 x3], 24)] W := by rw [hW, ← hW0]; exact hS
          clear hz0 hW0
          go_upto_region 20 with fail
          rw [← hW]
          clear hW
          have hjz : ((j : Int) == 0) = true ∧ t = ⟨#[49]⟩ ∨ ((j : Int) == 0) = false := by
            rcases Nat.eq_zero_or_pos j with h | h
            · exact .inl ⟨by subst h; rfl, by rw [ht.out, h]; rfl⟩
            · exact .inr (by rw [beq_eq_false_iff_ne]; omega)
          replace hjz := Lib.hid hjz
          obtain rfl := hnd.out
          rcases hex.out with ⟨rfl, rfl, rfl⟩ | ⟨rfl, rfl, rfl⟩
          · as_aux_lemma =>
            obtain ⟨rfl, rfl⟩ := hgw.out.1 rfl
            rcases hjz.out with ⟨hz, rfl⟩ | hz
            · skip
              go_wp2_with fail
              refine Calls.mono (is_any _ _ _) ?_
              rintro e w12 ⟨rfl, hb⟩
              replace hS := hS.call hb
              clear hb
              obtain ⟨c_want_0, c_want_1⟩ := hS.c2 (w11.heap.size) _ _ _ (.head _)
              have f0 := hS.frozen (w11.heap.size) _ _ (.head _) 0
              have f1 := hS.frozen (w11.heap.size) _ _ (.head _) 1
              go_upto_region 22 with fail
              obtain ⟨W, hW⟩ : ∃ W, W = (w12.setCell ⟨w11.heap.size, 0, none⟩ (.string ⟨#[49]⟩)).setCell ⟨w11.heap.size, 1, none⟩ (.string ⟨#[49]⟩) := ⟨_, rfl⟩
              replace hS : BL w [(w11.heap.size, #[.string ⟨#[49]⟩, .string ⟨#[49]⟩], 23), (w9.heap.size, #[.string ⟨#[48]⟩, .string ⟨#[49]⟩], 23), (g, #[.string nn, .string ⟨#[49]⟩], 23), (w8.heap.size, #[.string an, .string ad], 23), (w7.heap.size, #[.string bn, .string bd], 23), (w6.heap.size, #[.string cn, .string cd], 23), (w4.heap.size, #[.string bn, .string bd], 23), (w3.heap.size, #[.string an, .string ad], 23), (w2.heap.size, #[.string rn, .string rd], 23), (w.heap.size, #[.int .i64 x0, .int .i64 x1, .int .i64 x2, .int .i64 x3], 24)] W := by rw [hW]; exact BL.put (A := []) (C := [(w9.heap.size, #[.string ⟨#[48]⟩, .string ⟨#[49]⟩], 23), (g, #[.string nn, .string ⟨#[49]⟩], 23), (w8.heap.size, #[.string an, .string ad], 23), (w7.heap.size, #[.string bn, .string bd], 23), (w6.heap.size, #[.string cn, .string cd], 23), (w4.heap.size, #[.string bn, .string bd], 23), (w3.heap.size, #[.string an, .string ad], 23), (w2.heap.size, #[.string rn, .string rd], 23), (w.heap.size, #[.int .i64 x0, .int .i64 x1, .int .i64 x2, .int .i64 x3], 24)]) hO hS _ _
              replace hO : Asc w [(w11.heap.size, #[.string ⟨#[49]⟩, .string ⟨#[49]⟩], 23), (w9.heap.size, #[.string ⟨#[48]⟩, .string ⟨#[49]⟩], 23), (g, #[.string nn, .string ⟨#[49]⟩], 23), (w8.heap.size, #[.string an, .string ad], 23), (w7.heap.size, #[.string bn, .string bd], 23), (w6.heap.size, #[.string cn, .string cd], 23), (w4.heap.size, #[.string bn, .string bd], 23), (w3.heap.size, #[.string an, .string ad], 23), (w2.heap.size, #[.string rn, .string rd], 23), (w.heap.size, #[.int .i64 x0, .int .i64 x1, .int .i64 x2, .int .i64 x3], 24)] := Asc.put (A := []) (C := [(w9.heap.size, #[.string ⟨#[48]⟩, .string ⟨#[49]⟩], 23), (g, #[.string nn, .string ⟨#[49]⟩], 23), (w8.heap.size, #[.string an, .string ad], 23), (w7.heap.size, #[.string bn, .string bd], 23), (w6.heap.size, #[.string cn, .string cd], 23), (w4.heap.size, #[.string bn, .string bd], 23), (w3.heap.size, #[.string an, .string ad], 23), (w2.heap.size, #[.string rn, .string rd], 23), (w.heap.size, #[.int .i64 x0, .int .i64 x1, .int .i64 x2, .int .i64 x3], 24)]) hO
              rw [← hW]
              clear hW f0 f1 c_want_0 c_want_1
              go_wp2_with fail
              refine Calls.mono (is_any _ _ _) ?_
              rintro e w13 ⟨rfl, hb⟩
              replace hS := hS.call hb
              clear hb
              obtain ⟨c_want_0, c_want_1⟩ := hS.c2 (w11.heap.size) _ _ _ (.head _)
              have f0 := hS.frozen (w11.heap.size) _ _ (.head _) 0
              have f1 := hS.frozen (w11.heap.size) _ _ (.head _) 1
              go_upto_region 24 with fail
              obtain ⟨W, hW⟩ : ∃ W, W = (w13.setCell ⟨w11.heap.size, 0, none⟩ (.string ⟨#[48]⟩)).setCell ⟨w11.heap.size, 1, none⟩ (.string ⟨#[49]⟩) := ⟨_, rfl⟩
              replace hS : BL w [(w11.heap.size, #[.string ⟨#[48]⟩, .string ⟨#[49]⟩], 23), (w9.heap.size, #[.string ⟨#[48]⟩, .string ⟨#[49]⟩], 23), (g, #[.string nn, .string ⟨#[49]⟩], 23), (w8.heap.size, #[.string an, .string ad], 23), (w7.heap.size, #[.string bn, .string bd], 23), (w6.heap.size, #[.string cn, .string cd], 23), (w4.heap.size, #[.string bn, .string bd], 23), (w3.heap.size, #[.string an, .string ad], 23), (w2.heap.size, #[.string rn, .string rd], 23), (w.heap.size, #[.int .i64 x0, .int .i64 x1, .int .i64 x2, .int .i64 x3], 24)] W := by rw [hW]; exact BL.put (A := []) (C := [(w9.heap.size, #[.string ⟨#[48]⟩, .string ⟨#[49]⟩], 23), (g, #[.string nn, .string ⟨#[49]⟩], 23), (w8.heap.size, #[.string an, .string ad], 23), (w7.heap.size, #[.string bn, .string bd], 23), (w6.heap.size, #[.string cn, .string cd], 23), (w4.heap.size, #[.string bn, .string bd], 23), (w3.heap.size, #[.string an, .string ad], 23), (w2.heap.size, #[.string rn, .string rd], 23), (w.heap.size, #[.int .i64 x0, .int .i64 x1, .int .i64 x2, .int .i64 x3], 24)]) hO hS _ _
              replace hO : Asc w [(w11.heap.size, #[.string ⟨#[48]⟩, .string ⟨#[49]⟩], 23), (w9.heap.size, #[.string ⟨#[48]⟩, .string ⟨#[49]⟩], 23), (g, #[.string nn, .string ⟨#[49]⟩], 23), (w8.heap.size, #[.string an, .string ad], 23), (w7.heap.size, #[.string bn, .string bd], 23), (w6.heap.size, #[.string cn, .string cd], 23), (w4.heap.size, #[.string bn, .string bd], 23), (w3.heap.size, #[.string an, .string ad], 23), (w2.heap.size, #[.string rn, .string rd], 23), (w.heap.size, #[.int .i64 x0, .int .i64 x1, .int .i64 x2, .int .i64 x3], 24)] := Asc.put (A := []) (C := [(w9.heap.size, #[.string ⟨#[48]⟩, .string ⟨#[49]⟩], 23), (g, #[.string nn, .string ⟨#[49]⟩], 23), (w8.heap.size, #[.string an, .string ad], 23), (w7.heap.size, #[.string bn, .string bd], 23), (w6.heap.size, #[.string cn, .string cd], 23), (w4.heap.size, #[.string bn, .string bd], 23), (w3.heap.size, #[.string an, .string ad], 23), (w2.heap.size, #[.string rn, .string rd], 23), (w.heap.size, #[.int .i64 x0, .int .i64 x1, .int .i64 x2, .int .i64 x3], 24)]) hO
              rw [← hW]
              clear hW f0 f1 c_want_0 c_want_1
              obtain ⟨c_again_0, c_again_1⟩ := hS.c2 (w7.heap.size) _ _ _ (.tail _ (.tail _ (.tail _ (.tail _ (.head _)))))
              obtain ⟨c_b_0, c_b_1⟩ := hS.c2 (w4.heap.size) _ _ _ (.tail _ (.tail _ (.tail _ (.tail _ (.tail _ (.tail _ (.head _)))))))
              obtain ⟨c_twice_0, c_twice_1⟩ := hS.c2 (w8.heap.size) _ _ _ (.tail _ (.tail _ (.tail _ (.head _))))
              obtain ⟨c_a_0, c_a_1⟩ := hS.c2 (w3.heap.size) _ _ _ (.tail _ (.tail _ (.tail _ (.tail _ (.tail _ (.tail _ (.tail _ (.head _))))))))
              obtain ⟨c_n_0, c_n_1⟩ := hS.c2 (g) _ _ _ (.tail _ (.tail _ (.head _)))
              obtain ⟨c_wi_0, c_wi_1⟩ := hS.c2 (w9.heap.size) _ _ _ (.tail _ (.head _))
              obtain ⟨c_want_0, c_want_1⟩ := hS.c2 (w11.heap.size) _ _ _ (.head _)
              obtain ⟨c_r_0, c_r_1⟩ := hS.c2 (w2.heap.size) _ _ _ (.tail _ (.tail _ (.tail _ (.tail _ (.tail _ (.tail _ (.tail _ (.tail _ (.head _)))))))))
              go_wp2_with fail
              refine Calls.mono (cmp_v Ib _ (hS.envQ hE).env Ir _ hcb.out) ?_
              rintro e w' ⟨rfl, hb⟩
              replace hS := hS.call hb
              clear hb c_again_0 c_again_1 c_b_0 c_b_1 c_twice_0 c_twice_1 c_a_0 c_a_1 c_n_0 c_n_1 c_wi_0 c_wi_1 c_want_0 c_want_1 c_r_0 c_r_1
              go_wp2
              go_ret
              exact ⟨rfl, hS.below⟩
            · skip
              clear hjz hgw hk30 hnd MU Ec Emc Eg Et Ea Eb En Ew It1 Iw In g1 g2 g3 g4 g5 g6 g7 g8 g9 g10 g13 g14 g12 Br hex hk hts hca PK
              go_wp2_with fail
              refine Calls.mono (is_any _ _ _) ?_
              rintro e w12 ⟨rfl, hb⟩
              replace hS := hS.call hb
              clear hb
              obtain ⟨c_want_0, c_want_1⟩ := hS.c2 (w11.heap.size) _ _ _ (.head _)
              have f0 := hS.frozen (w11.heap.size) _ _ (.head _) 0
              have f1 := hS.frozen (w11.heap.size) _ _ (.head _) 1
              go_upto_region 24 with fail
              obtain ⟨W, hW⟩ : ∃ W, W = (w12.setCell ⟨w11.heap.size, 0, none⟩ (.string ⟨#[48]⟩)).setCell ⟨w11.heap.size, 1, none⟩ (.string ⟨#[49]⟩) := ⟨_, rfl⟩
              replace hS : BL w [(w11.heap.size, #[.string ⟨#[48]⟩, .string ⟨#[49]⟩], 23), (w9.heap.size, #[.string ⟨#[48]⟩, .string ⟨#[49]⟩], 23), (g, #[.string nn, .string ⟨#[49]⟩], 23), (w8.heap.size, #[.string an, .string ad], 23), (w7.heap.size, #[.string bn, .string bd], 23), (w6.heap.size, #[.string cn, .string cd], 23), (w4.heap.size, #[.string bn, .string bd], 23), (w3.heap.size, #[.string an, .string ad], 23), (w2.heap.size, #[.string rn, .string rd], 23), (w.heap.size, #[.int .i64 x0, .int .i64 x1, .int .i64 x2, .int .i64 x3], 24)] W := by rw [hW]; exact BL.put (A := []) (C := [(w9.heap.size, #[.string ⟨#[48]⟩, .string ⟨#[49]⟩], 23), (g, #[.string nn, .string ⟨#[49]⟩], 23), (w8.heap.size, #[.string an, .string ad], 23), (w7.heap.size, #[.string bn, .string bd], 23), (w6.heap.size, #[.string cn, .string cd], 23), (w4.heap.size, #[.string bn, .string bd], 23), (w3.heap.size, #[.string an, .string ad], 23), (w2.heap.size, #[.string rn, .string rd], 23), (w.heap.size, #[.int .i64 x0, .int .i64 x1, .int .i64 x2, .int .i64 x3], 24)]) hO hS _ _
              replace hO : Asc w [(w11.heap.size, #[.string ⟨#[48]⟩, .string ⟨#[49]⟩], 23), (w9.heap.size, #[.string ⟨#[48]⟩, .string ⟨#[49]⟩], 23), (g, #[.string nn, .string ⟨#[49]⟩], 23), (w8.heap.size, #[.string an, .string ad], 23), (w7.heap.size, #[.string bn, .string bd], 23), (w6.heap.size, #[.string cn, .string cd], 23), (w4.heap.size, #[.string bn, .string bd], 23), (w3.heap.size, #[.string an, .string ad], 23), (w2.heap.size, #[.string rn, .string rd], 23), (w.heap.size, #[.int .i64 x0, .int .i64 x1, .int .i64 x2, .int .i64 x3], 24)] := Asc.put (A := []) (C := [(w9.heap.size, #[.string ⟨#[48]⟩, .string ⟨#[49]⟩], 23), (g, #[.string nn, .string ⟨#[49]⟩], 23), (w8.heap.size, #[.string an, .string ad], 23), (w7.heap.size, #[.string bn, .string bd], 23), (w6.heap.size, #[.string cn, .string cd], 23), (w4.heap.size, #[.string bn, .string bd], 23), (w3.heap.size, #[.string an, .string ad], 23), (w2.heap.size, #[.string rn, .string rd], 23), (w.heap.size, #[.int .i64 x0, .int .i64 x1, .int .i64 x2, .int .i64 x3], 24)]) hO
              rw [← hW]
              clear hW f0 f1 c_want_0 c_want_1
              obtain ⟨c_again_0, c_again_1⟩ := hS.c2 (w7.heap.size) _ _ _ (.tail _ (.tail _ (.tail _ (.tail _ (.head _)))))
              obtain ⟨c_b_0, c_b_1⟩ := hS.c2 (w4.heap.size) _ _ _ (.tail _ (.tail _ (.tail _ (.tail _ (.tail _ (.tail _ (.head _)))))))
              obtain ⟨c_twice_0, c_twice_1⟩ := hS.c2 (w8.heap.size) _ _ _ (.tail _ (.tail _ (.tail _ (.head _))))
              obtain ⟨c_a_0, c_a_1⟩ := hS.c2 (w3.heap.size) _ _ _ (.tail _ (.tail _ (.tail _ (.tail _ (.tail _ (.tail _ (.tail _ (.head _))))))))
              obtain ⟨c_n_0, c_n_1⟩ := hS.c2 (g) _ _ _ (.tail _ (.tail _ (.head _)))
              obtain ⟨c_wi_0, c_wi_1⟩ := hS.c2 (w9.heap.size) _ _ _ (.tail _ (.head _))
              obtain ⟨c_want_0, c_want_1⟩ := hS.c2 (w11.heap.size) _ _ _ (.head _)
              obtain ⟨c_r_0, c_r_1⟩ := hS.c2 (w2.heap.size) _ _ _ (.tail _ (.tail _ (.tail _ (.tail _ (.tail _ (.tail _ (.tail _ (.tail _ (.head _)))))))))
              go_wp2_with fail
              refine Calls.mono (cmp_v Ib _ (hS.envQ hE).env Ir _ hcb.out) ?_
              rintro e w' ⟨rfl, hb⟩
              replace hS := hS.call hb
              clear hb c_again_0 c_again_1 c_b_0 c_b_1 c_twice_0 c_twice_1 c_a_0 c_a_1 c_n_0 c_n_1 c_wi_0 c_wi_1 c_want_0 c_want_1 c_r_0 c_r_1
              go_wp2
              go_ret
              exact ⟨rfl, hS.below⟩
          · as_aux_lemma =>
            obtain ⟨rfl, rfl⟩ := hgw.out.2 rfl
            rcases hjz.out with ⟨hz, rfl⟩ | hz
            · skip
              go_wp2_with fail
              refine Calls.mono (is_any _ _ _) ?_
              rintro e w12 ⟨rfl, hb⟩
              replace hS := hS.call hb
              clear hb
              obtain ⟨c_want_0, c_want_1⟩ := hS.c2 (w11.heap.size) _ _ _ (.head _)
              have f0 := hS.frozen (w11.heap.size) _ _ (.head _) 0
              have f1 := hS.frozen (w11.heap.size) _ _ (.head _) 1
              go_upto_region 22 with fail
              obtain ⟨W, hW⟩ : ∃ W, W = (w12.setCell ⟨w11.heap.size, 0, none⟩ (.string ⟨#[49]⟩)).setCell ⟨w11.heap.size, 1, none⟩ (.string ⟨#[49]⟩) := ⟨_, rfl⟩
              replace hS : BL w [(w11.heap.size, #[.string ⟨#[49]⟩, .string ⟨#[49]⟩], 23), (w9.heap.size, #[.string ⟨#[49]⟩, .string ⟨#[49]⟩], 23), (g, #[.string nn, .string ⟨#[49]⟩], 23), (w8.heap.size, #[.string an, .string ad], 23), (w7.heap.size, #[.string bn, .string bd], 23), (w6.heap.size, #[.string cn, .string cd], 23), (w4.heap.size, #[.string bn, .string bd], 23), (w3.heap.size, #[.string an, .string ad], 23), (w2.heap.size, #[.string rn, .string rd], 23), (w.heap.size, #[.int .i64 x0, .int .i64 x1, .int .i64 x2, .int .i64 x3], 24)] W := by rw [hW]; exact BL.put (A := []) (C := [(w9.heap.size, #[.string ⟨#[49]⟩, .string ⟨#[49]⟩], 23), (g, #[.string nn, .string ⟨#[49]⟩], 23), (w8.heap.size, #[.string an, .string ad], 23), (w7.heap.size, #[.string bn, .string bd], 23), (w6.heap.size, #[.string cn, .string cd], 23), (w4.heap.size, #[.string bn, .string bd], 23), (w3.heap.size, #[.string an, .string ad], 23), (w2.heap.size, #[.string rn, .string rd], 23), (w.heap.size, #[.int .i64 x0, .int .i64 x1, .int .i64 x2, .int .i64 x3], 24)]) hO hS _ _
              replace hO : Asc w [(w11.heap.size, #[.string ⟨#[49]⟩, .string ⟨#[49]⟩], 23), (w9.heap.size, #[.string ⟨#[49]⟩, .string ⟨#[49]⟩], 23), (g, #[.string nn, .string ⟨#[49]⟩], 23), (w8.heap.size, #[.string an, .string ad], 23), (w7.heap.size, #[.string bn, .string bd], 23), (w6.heap.size, #[.string cn, .string cd], 23), (w4.heap.size, #[.string bn, .string bd], 23), (w3.heap.size, #[.string an, .string ad], 23), (w2.heap.size, #[.string rn, .string rd], 23), (w.heap.size, #[.int .i64 x0, .int .i64 x1, .int .i64 x2, .int .i64 x3], 24)] := Asc.put (A := []) (C := [(w9.heap.size, #[.string ⟨#[49]⟩, .string ⟨#[49]⟩], 23), (g, #[.string nn, .string ⟨#[49]⟩], 23), (w8.heap.size, #[.string an, .string ad], 23), (w7.heap.size, #[.string bn, .string bd], 23), (w6.heap.size, #[.string cn, .string cd], 23), (w4.heap.size, #[.string bn, .string bd], 23), (w3.heap.size, #[.string an, .string ad], 23), (w2.heap.size, #[.string rn, .string rd], 23), (w.heap.size, #[.int .i64 x0, .int .i64 x1, .int .i64 x2, .int .i64 x3], 24)]) hO
              rw [← hW]
              clear hW f0 f1 c_want_0 c_want_1
              obtain ⟨c_again_0, c_again_1⟩ := hS.c2 (w7.heap.size) _ _ _ (.tail _ (.tail _ (.tail _ (.tail _ (.head _)))))
              obtain ⟨c_b_0, c_b_1⟩ := hS.c2 (w4.heap.size) _ _ _ (.tail _ (.tail _ (.tail _ (.tail _ (.tail _ (.tail _ (.head _)))))))
              obtain ⟨c_twice_0, c_twice_1⟩ := hS.c2 (w8.heap.size) _ _ _ (.tail _ (.tail _ (.tail _ (.head _))))
              obtain ⟨c_a_0, c_a_1⟩ := hS.c2 (w3.heap.size) _ _ _ (.tail _ (.tail _ (.tail _ (.tail _ (.tail _ (.tail _ (.tail _ (.head _))))))))
              obtain ⟨c_n_0, c_n_1⟩ := hS.c2 (g) _ _ _ (.tail _ (.tail _ (.head _)))
              obtain ⟨c_wi_0, c_wi_1⟩ := hS.c2 (w9.heap.size) _ _ _ (.tail _ (.head _))
              obtain ⟨c_want_0, c_want_1⟩ := hS.c2 (w11.heap.size) _ _ _ (.head _)
              obtain ⟨c_r_0, c_r_1⟩ := hS.c2 (w2.heap.size) _ _ _ (.tail _ (.tail _ (.tail _ (.tail _ (.tail _ (.tail _ (.tail _ (.tail _ (.head _)))))))))
              go_wp2_with fail
              refine Calls.mono (cmp_v Ib _ (hS.envQ hE).env Ir _ hcb.out) ?_
              rintro e w' ⟨rfl, hb⟩
              replace hS := hS.call hb
              clear hb c_again_0 c_again_1 c_b_0 c_b_1 c_twice_0 c_twice_1 c_a_0 c_a_1 c_n_0 c_n_1 c_wi_0 c_wi_1 c_want_0 c_want_1 c_r_0 c_r_1
              go_wp2
              go_ret
              exact ⟨rfl, hS.below⟩
            · skip
              clear hjz hgw hk30 hnd MU Ec Emc Eg Et Ea Eb En Ew It1 Iw In g1 g2 g3 g4 g5 g6 g7 g8 g9 g10 g13 g14 g12 Br hex hk hts hca PK
              obtain ⟨c_again_0, c_again_1⟩ := hS.c2 (w7.heap.size) _ _ _ (.tail _ (.tail _ (.tail _ (.tail _ (.head _)))))
              obtain ⟨c_b_0, c_b_1⟩ := hS.c2 (w4.heap.size) _ _ _ (.tail _ (.tail _ (.tail _ (.tail _ (.tail _ (.tail _ (.head _)))))))
              obtain ⟨c_twice_0, c_twice_1⟩ := hS.c2 (w8.heap.size) _ _ _ (.tail _ (.tail _ (.tail _ (.head _))))
              obtain ⟨c_a_0, c_a_1⟩ := hS.c2 (w3.heap.size) _ _ _ (.tail _ (.tail _ (.tail _ (.tail _ (.tail _ (.tail _ (.tail _ (.head _))))))))
              obtain ⟨c_n_0, c_n_1⟩ := hS.c2 (g) _ _ _ (.tail _ (.tail _ (.head _)))
              obtain ⟨c_wi_0, c_wi_1⟩ := hS.c2 (w9.heap.size) _ _ _ (.tail _ (.head _))
              obtain ⟨c_want_0, c_want_1⟩ := hS.c2 (w11.heap.size) _ _ _ (.head _)
              obtain ⟨c_r_0, c_r_1⟩ := hS.c2 (w2.heap.size) _ _ _ (.tail _ (.tail _ (.tail _ (.tail _ (.tail _ (.tail _ (.tail _ (.tail _ (.head _)))))))))
              go_wp2_with fail
              refine Calls.mono (cmp_v Ib _ (hS.envQ hE).env Ir _ hcb.out) ?_
              rintro e w' ⟨rfl, hb⟩
              replace hS := hS.call hb
              clear hb c_again_0 c_again_1 c_b_0 c_b_1 c_twice_0 c_twice_1 c_a_0 c_a_1 c_n_0 c_n_1 c_wi_0 c_wi_1 c_want_0 c_want_1 c_r_0 c_r_1
              go_wp2
              go_ret
              exact ⟨rfl, hS.below⟩
end Go.Proofs.YtkmlcnkhijpndaaGreatDoor
