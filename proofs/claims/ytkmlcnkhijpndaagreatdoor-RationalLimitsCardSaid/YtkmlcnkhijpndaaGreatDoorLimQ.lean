/- RationalLimits: the walk. -/
import Derived.Test.YtkmlcnkhijpndaaGreatDoorIsQ
import Derived.Deep.QuietTactic
import Derived.BigQuiet
namespace Go.Proofs.YtkmlcnkhijpndaaGreatDoor
open Go.RowKit
attribute [local go_sem] Oper.semAt_some

/-- 1 with zeros behind it. -/
def powS (k : Nat) : ByteArray := ⟨(49 :: List.replicate k 48).toArray⟩
theorem powS_I (k : Nat) : powS k = I (10 ^ k) := pow_text k
theorem powS_size (k : Nat) : (powS k).size = k + 1 := by
  show (49 :: List.replicate k 48).length = k + 1
  rw [List.length_cons, List.length_replicate]
theorem powS_next (j : Nat) : powS (j + 1) = powS j ++ ⟨#[48]⟩ := by
  unfold powS
  rw [bytes_append, List.replicate_succ']; rfl
theorem pow_lt10 {a b : Nat} (h : a < b) : (10 : Int) ^ a < 10 ^ b := by
  have : 10 ^ a < 10 ^ b := Nat.pow_lt_pow_right (by decide) h
  exact_mod_cast this
theorem big_is : Big = 10 ^ 200 := rfl
theorem pow_small_iff (k : Nat) : Small (10 ^ k) ↔ k < 200 := by
  have h0 : (0 : Int) < 10 ^ k := pow_pos' (by decide) k
  unfold Small
  rw [big_is]
  constructor
  · intro h
    rcases Nat.lt_or_ge k 200 with hk | hk
    · exact hk
    · exfalso
      have h1 : (10 : Int) ^ 200 ≤ 10 ^ k := pow_mono (by decide) hk
      generalize (10 : Int) ^ 200 = B at *
      omega
  · intro h
    have h1 := pow_lt10 h
    generalize (10 : Int) ^ 200 = B at *
    omega
theorem pow_small1 (k : Nat) : Small (10 ^ k + 1) ↔ k < 200 := by
  have h0 : (0 : Int) < 10 ^ k := pow_pos' (by decide) k
  unfold Small
  rw [big_is]
  constructor
  · intro h
    rcases Nat.lt_or_ge k 200 with hk | hk
    · exact hk
    · exfalso
      have h1 : (10 : Int) ^ 200 ≤ 10 ^ k := pow_mono (by decide) hk
      generalize (10 : Int) ^ 200 = B at *
      omega
  · intro h
    have h1 : (10 : Int) ^ (k + 1) ≤ 10 ^ 200 := pow_mono (by decide) (by omega)
    rw [Int.pow_succ] at h1
    generalize (10 : Int) ^ 200 = B at *
    omega
theorem x_parts (k : Nat) : (Rat.divInt (10 ^ k) 1).num = 10 ^ k ∧ ((Rat.divInt (10 ^ k) 1).den : Int) = 1 := by
  obtain ⟨e1, e2⟩ := divInt_parts (x := 10 ^ k) (y := 1) (by decide)
  have e3 : gcdZ (10 ^ k) 1 = 1 := by unfold gcdZ; simp
  rw [e1, e2, e3]; simp
theorem v_parts (k : Nat) : (Rat.divInt 1 (10 ^ k)).num = 1 ∧ ((Rat.divInt 1 (10 ^ k)).den : Int) = 10 ^ k := by
  obtain ⟨e1, e2⟩ := divInt_parts (x := 1) (y := 10 ^ k) (pow_pos' (by decide) k)
  have e3 : gcdZ 1 (10 ^ k) = 1 := by unfold gcdZ; simp
  rw [e1, e2, e3]; simp
theorem is_pow2 {k : Nat} (hk : k ≤ 199) {t : ByteArray} (ht : t = powS k) : Is (some (Rat.divInt (10 ^ k) 1)) t ⟨#[49]⟩ := by
  refine ⟨?_, ?_, OkO.some ⟨?_, ?_⟩⟩
  · rw [ht, powS_I]; show _ = I _; rw [(x_parts k).1]
  · show _ = I _; rw [(x_parts k).2]; exact lit_I [49] 1 (by decide +kernel) (by decide +kernel)
  · rw [(x_parts k).1]; exact (pow_small_iff k).2 (by omega)
  · rw [(x_parts k).2]; exact one_small
theorem limits_facts {n m : Nat} (hm : m ≤ 199) : ∃ V : Rat, oDiv (some (Rat.divInt (10 ^ 0) 1)) (some (Rat.divInt (10 ^ m) 1)) = some V ∧ OkO (some V) ∧
    ((n + m < 200 ∧ oMul (some (Rat.divInt (10 ^ n) 1)) (some (Rat.divInt (10 ^ m) 1)) = some (Rat.divInt (10 ^ n) 1 * Rat.divInt (10 ^ m) 1) ∧ ∃ r, oAdd (some (Rat.divInt (10 ^ n) 1)) (some V) = some r) ∨
      (200 ≤ n + m ∧ oMul (some (Rat.divInt (10 ^ n) 1)) (some (Rat.divInt (10 ^ m) 1)) = none ∧ oAdd (some (Rat.divInt (10 ^ n) 1)) (some V) = none)) ∧
    oCmp (some (Rat.divInt (10 ^ n) 1)) (some (Rat.divInt (10 ^ m) 1)) = Lib.compareInt (10 ^ n) (10 ^ m) ∧ oCmp (some (Rat.divInt (10 ^ n) 1)) (some V) = Lib.compareInt (10 ^ (n + m)) 1 := by
  have hm0 : (0 : Int) < 10 ^ m := pow_pos' (by decide) m
  obtain ⟨xn, xd⟩ := x_parts n
  obtain ⟨yn, yd⟩ := x_parts m
  obtain ⟨vn, vd⟩ := v_parts m
  have hP : (10 : Int) ^ n * 10 ^ m = 10 ^ (n + m) := (Int.pow_add ..).symm
  refine ⟨Rat.divInt 1 (10 ^ m), ?_, OkO.some ⟨by rw [vn]; exact one_small, by rw [vd]; exact (pow_small_iff m).2 (by omega)⟩, ?_, ?_, ?_⟩
  · have e : Rat.divInt (10 ^ 0) 1 / Rat.divInt (10 ^ m) 1 = Rat.divInt 1 (10 ^ m) := by
      rw [← div_divInt, (x_parts 0).1, (x_parts 0).2, yn, yd, Int.one_mul, show (10 : Int) ^ 0 * 1 = 1 from rfl]
    have hy : Rat.divInt (10 ^ m) 1 ≠ 0 := fun h => by rw [h] at yn; simp at yn; omega
    rw [oDiv_some, e]
    unfold oIf fDiv
    rw [(x_parts 0).1, (x_parts 0).2, yn, yd, decide_eq_true (show Small (10 ^ 0 * 1) from one_small), Int.one_mul, decide_eq_true ((pow_small_iff m).2 (by omega)), decide_eq_true hy]; rfl
  · rcases Nat.lt_or_ge (n + m) 200 with h | h
    · refine .inl ⟨h, ?_, Rat.divInt (10 ^ n) 1 + Rat.divInt 1 (10 ^ m), ?_⟩
      · rw [oMul_some]; unfold oIf fMul
        rw [xn, xd, yn, yd, hP, decide_eq_true ((pow_small_iff _).2 h), decide_eq_true (show Small (1 * 1) from one_small)]; rfl
      · rw [oAdd_some]; unfold oIf fAdd
        rw [xn, xd, vn, vd, hP, decide_eq_true ((pow_small_iff _).2 h), decide_eq_true (show Small (1 * 1) from one_small), show (1 : Int) * 1 = 1 from rfl, decide_eq_true ((pow_small1 _).2 h), Int.one_mul, decide_eq_true ((pow_small_iff m).2 (by omega))]; rfl
    · refine .inr ⟨h, ?_, ?_⟩
      · rw [oMul_some]; unfold oIf fMul
        rw [xn, xd, yn, yd, hP, decide_eq_false (fun h' => by have := (pow_small_iff _).1 h'; omega)]; rfl
      · rw [oAdd_some]; unfold oIf fAdd
        rw [xn, xd, vn, vd, hP, decide_eq_false (fun h' => by have := (pow_small_iff _).1 h'; omega)]; rfl
  · show cmpQ _ _ = _
    unfold cmpQ; rw [xn, xd, yn, yd, Int.mul_one, Int.mul_one]
  · show cmpQ _ _ = _
    unfold cmpQ; rw [xn, xd, vn, vd, hP, Int.mul_one]
theorem limits_cases {n m : Nat} {X Y V : Option Rat} {c1 c2 : Int} (h1 : oCmp X Y = Lib.compareInt (10 ^ n) (10 ^ m)) (h2 : oCmp X V = Lib.compareInt (10 ^ (n + m)) 1) (k1 : c1 = oCmp X Y) (k2 : c2 = oCmp X V) :
    ((n < m ∧ ((n : Int) == 0) = true ∧ ((m : Int) == 0) = false) ∧ c1 = -1 ∧ c2 = 1) ∨ ((n < m ∧ ((n : Int) == 0) = false ∧ True) ∧ c1 = -1 ∧ c2 = 1) ∨ ((m < n ∧ ((n : Int) == 0) = false ∧ True) ∧ c1 = 1 ∧ c2 = 1) ∨
      ((n ≤ m ∧ m ≤ n ∧ ((n : Int) == 0) = true ∧ ((m : Int) == 0) = true) ∧ c1 = 0 ∧ c2 = 0) ∨ ((n ≤ m ∧ m ≤ n ∧ ((n : Int) == 0) = false ∧ True) ∧ c1 = 0 ∧ c2 = 1) := by
  subst k1 k2
  have e0 : (10 : Int) ^ 0 = 1 := rfl
  have key : 0 < n + m → Lib.compareInt (10 ^ (n + m)) 1 = 1 := fun h => compareInt_gt (by rw [← e0]; exact pow_lt10 h)
  have zt : ∀ k : Nat, k = 0 → ((k : Int) == 0) = true := fun k h => by subst h; rfl
  have zf : ∀ k : Nat, 0 < k → ((k : Int) == 0) = false := fun k h => by rw [beq_eq_false_iff_ne]; omega
  rcases Nat.lt_trichotomy n m with h | h | h
  · rcases Nat.eq_zero_or_pos n with h0 | h0
    · exact .inl ⟨⟨h, zt _ h0, zf _ (by omega)⟩, by rw [h1]; exact compareInt_lt (pow_lt10 h), by rw [h2]; exact key (by omega)⟩
    · exact .inr (.inl ⟨⟨h, zf _ h0, trivial⟩, by rw [h1]; exact compareInt_lt (pow_lt10 h), by rw [h2]; exact key (by omega)⟩)
  · subst h
    rcases Nat.eq_zero_or_pos n with h0 | h0
    · subst h0
      exact .inr (.inr (.inr (.inl ⟨⟨Nat.le_refl _, Nat.le_refl _, rfl, rfl⟩, by rw [h1]; exact compareInt_eq _, by rw [h2]; exact compareInt_eq _⟩)))
    · exact .inr (.inr (.inr (.inr ⟨⟨Nat.le_refl _, Nat.le_refl _, zf _ h0, trivial⟩, by rw [h1]; exact compareInt_eq _, by rw [h2]; exact key (by omega)⟩)))
  · exact .inr (.inr (.inl ⟨⟨h, zf _ (by omega), trivial⟩, by rw [h1]; exact compareInt_gt (pow_lt10 h), by rw [h2]; exact key (by omega)⟩))
theorem Asc.cons {w : World} {L : BLs} {g : Nat} (h : Asc w L) (hge : w.heap.size ≤ g) (hlt : ∀ p ∈ L, p.1 < g) (cs : Array Value) (t : TypeId) : Asc w ((g, cs, t) :: L) :=
  ⟨fun p hp => by
    rcases List.mem_cons.1 hp with rfl | hp
    · exact hge
    · exact h.ge p hp, List.pairwise_cons.2 ⟨fun p hp => hlt p hp, h.asc⟩⟩
theorem BL.cons {w W : World} {L : BLs} {g : Nat} {cs : Array Value} {t : TypeId} (h : BL w L W) (hk : Blk W g cs t) : BL w ((g, cs, t) :: L) W :=
  ⟨h.below, fun p hp => by
    rcases List.mem_cons.1 hp with rfl | hp
    · exact hk
    · exact h.blks p hp⟩

set_option maxRecDepth 100000 in
set_option maxHeartbeats 16000000 in
theorem limitsq_law (n m : Int) (Fn : Fits n) (Fm : Fits m) (w : World) (hE : EnvQ w) :
    Calls Tryz.prog 5 #[.int .i64 n, .int .i64 m] w (Rets w (.bool true)) := by
  have b0n := pkv_nonneg (c := n) (m := 200) (by decide)
  have b1n := pkv_lt (c := n) (m := 200) (by decide)
  have Pn := Lib.hid (fun W => pick4_any n 200 Fn (by decide) (by decide) W)
  generalize pkv n 200 = zn at *
  obtain ⟨N, rfl⟩ : ∃ N : Nat, zn = N := ⟨zn.toNat, by omega⟩
  have hNN : N ≤ 199 := by omega
  clear b0n b1n
  have b0m := pkv_nonneg (c := m) (m := 200) (by decide)
  have b1m := pkv_lt (c := m) (m := 200) (by decide)
  have Pm := Lib.hid (fun W => pick4_any m 200 Fm (by decide) (by decide) W)
  generalize pkv m 200 = zm at *
  obtain ⟨M, rfl⟩ : ∃ M : Nat, zm = M := ⟨zm.toNat, by omega⟩
  have hMM : M ≤ 199 := by omega
  clear b0m b1m
  have hS := BL.start w
  have hO := Asc.nil w
  go_enter Tryz.func5, Tryz.ntmps5
  go_wp2_with fail
  refine Calls.mono (saneQ_any _ (hS.envQ hE)) ?_
  rintro e w1 ⟨rfl, hb⟩
  replace hS := hS.call hb
  clear hb
  go_wp2_with fail
  refine Calls.mono (Pn.out _) ?_
  rintro e w' ⟨rfl, rfl⟩
  go_wp2_with fail
  refine Calls.mono (Pm.out _) ?_
  rintro e w' ⟨rfl, rfl⟩
  go_wp2_with fail
  go_loop [6, 7] (fun s i => ∃ j : Nat, j ≤ N ∧ i = .int .i64 j ∧ s = .string (powS j)) (fun _ i => N - (intOf i).toNat)
  case atStart => exact ⟨0, Nat.zero_le _, rfl, rfl⟩
  case round =>
    obtain ⟨j, hj, rfl, rfl⟩ := hrel
    have hjs : (powS j).size ≤ 1000 := by rw [powS_size]; omega
    by_cases hlt : j < N
    · have hnx := Lib.hid (powS_next j)
      go_wp2_with fail
      go_round
      case rel => exact ⟨j + 1, by omega, by go_num, by rw [hnx.out]⟩
      case measure => simp [intOf]; omega
    · obtain rfl : j = N := by omega
      obtain ⟨sx, hs⟩ : ∃ sx : ByteArray, Hid (sx = powS j) := ⟨_, rfl⟩
      rw [← hs.out]
      have hss : sx.size ≤ 1000 := by rw [hs.out]; exact hjs
      clear hlt hjs hj
      obtain ⟨N, hNj⟩ : ∃ N : Nat, N = j := ⟨_, rfl⟩
      subst hNj
      go_wp2_with fail
      go_loop [8, 9] (fun s i => ∃ j : Nat, j ≤ M ∧ i = .int .i64 j ∧ s = .string (powS j)) (fun _ i => M - (intOf i).toNat)
      case atStart => exact ⟨0, Nat.zero_le _, rfl, rfl⟩
      case round =>
        obtain ⟨j, hj, rfl, rfl⟩ := hrel
        have hjs : (powS j).size ≤ 1000 := by rw [powS_size]; omega
        by_cases hlt : j < M
        · have hnx := Lib.hid (powS_next j)
          go_wp2_with fail
          go_round
          case rel => exact ⟨j + 1, by omega, by go_num, by rw [hnx.out]⟩
          case measure => simp [intOf]; omega
        · obtain rfl : j = M := by omega
          obtain ⟨tx, ht⟩ : ∃ tx : ByteArray, Hid (tx = powS j) := ⟨_, rfl⟩
          rw [← ht.out]
          have hts : tx.size ≤ 1000 := by rw [ht.out]; exact hjs
          clear hlt hjs hj
          obtain ⟨Ix, Iy⟩ := And.intro (is_pow2 hNN hs.out) (is_pow2 hMM ht.out)
          obtain ⟨V, hV, hVo, hfit, hc1, hc2⟩ := limits_facts (n := N) hMM
          obtain ⟨vn, vd, Iv⟩ := is_mk hVo
          have Ev : IsE (oDiv (some (Rat.divInt (10 ^ 0) 1)) (some (Rat.divInt (10 ^ j) 1))) vn vd 0 := by rw [hV]; exact ⟨Iv, rfl⟩
          have I1 : Is (some (Rat.divInt (10 ^ 0) 1)) ⟨#[49]⟩ ⟨#[49]⟩ := is_pow2 (by decide) rfl
          obtain ⟨zn, zd, ze, Iz⟩ := isE_mk (o := oMul (some (Rat.divInt (10 ^ N) 1)) (some (Rat.divInt (10 ^ j) 1))) OkO.mul
          obtain ⟨an, ad, ae, Ia⟩ := isE_mk (o := oAdd (some (Rat.divInt (10 ^ N) 1)) (some V)) OkO.add
          obtain ⟨c1, hc1'⟩ : ∃ c : Int, Hid (c = oCmp (some (Rat.divInt (10 ^ N) 1)) (some (Rat.divInt (10 ^ j) 1))) := ⟨_, rfl⟩
          obtain ⟨c2, hc2'⟩ : ∃ c : Int, Hid (c = oCmp (some (Rat.divInt (10 ^ N) 1)) (some V)) := ⟨_, rfl⟩
          have DV := Lib.hid (fun W hE => div_v I1 W hE Iy Ev)
          replace hfit := Lib.hid hfit
          replace hc1 := Lib.hid hc1
          replace hc2 := Lib.hid hc2
          replace hNN := Lib.hid hNN
          replace hMM := Lib.hid hMM
          clear hV Ev
          have hNb : N ≤ 199 := hNN.out
          have hMb : j ≤ 199 := hMM.out
          go_wp2_with fail
          refine Calls.mono (is_any _ _ _) ?_
          rintro e w2 ⟨rfl, hb⟩
          replace hS := hS.call hb
          clear hb
          replace hO := hO.add hS #[.string sx, .string ⟨#[49]⟩] 23
          replace hS := hS.add' #[.string sx, .string ⟨#[49]⟩] 23
          obtain ⟨W0, hW0, hS, hz0⟩ := hS
          obtain ⟨W, hW⟩ : ∃ W, W = (w2.alloc (.cells #[.string sx, .string ⟨#[49]⟩] 23)) := ⟨_, rfl⟩
          replace hS : BL w [(w2.heap.size, #[.string sx, .string ⟨#[49]⟩], 23)] W := by rw [hW, ← hW0]; exact hS
          clear hz0 hW0
          go_wp2_with fail
          rw [← hW]
          clear hW
          refine Calls.mono (is_any _ _ _) ?_
          rintro e w3 ⟨rfl, hb⟩
          replace hS := hS.call hb
          clear hb
          replace hO := hO.add hS #[.string tx, .string ⟨#[49]⟩] 23
          replace hS := hS.add' #[.string tx, .string ⟨#[49]⟩] 23
          obtain ⟨W0, hW0, hS, hz0⟩ := hS
          obtain ⟨W, hW⟩ : ∃ W, W = (w3.alloc (.cells #[.string tx, .string ⟨#[49]⟩] 23)) := ⟨_, rfl⟩
          replace hS : BL w [(w3.heap.size, #[.string tx, .string ⟨#[49]⟩], 23), (w2.heap.size, #[.string sx, .string ⟨#[49]⟩], 23)] W := by rw [hW, ← hW0]; exact hS
          clear hz0 hW0
          go_upto_region 16 with fail
          rw [← hW]
          clear hW
          obtain ⟨c_x_0, c_x_1⟩ := hS.c2 (w2.heap.size) _ _ _ (.tail _ (.head _))
          obtain ⟨c_y_0, c_y_1⟩ := hS.c2 (w3.heap.size) _ _ _ (.head _)
          go_wp2_with fail
          refine Calls.mono (mul_v Ix _ (hS.envQ hE).env Iy Iz) ?_
          rintro e w4 ⟨rfl, hb⟩
          clear c_x_0 c_x_1 c_y_0 c_y_1
          replace hS := hS.call hb
          clear hb
          replace hO := hO.add hS #[.string zn, .string zd] 23
          replace hS := hS.add' #[.string zn, .string zd] 23
          obtain ⟨W0, hW0, hS, hz0⟩ := hS
          obtain ⟨W, hW⟩ : ∃ W, W = (w4.alloc (.cells #[.string zn, .string zd] 23)) := ⟨_, rfl⟩
          replace hS : BL w [(w4.heap.size, #[.string zn, .string zd], 23), (w3.heap.size, #[.string tx, .string ⟨#[49]⟩], 23), (w2.heap.size, #[.string sx, .string ⟨#[49]⟩], 23)] W := by rw [hW, ← hW0]; exact hS
          clear hz0 hW0
          go_upto_region 17 with fail
          rw [← hW]
          clear hW
          have hC0 : ∀ W', BL w [(w4.heap.size, #[.string zn, .string zd], 23), (w3.heap.size, #[.string tx, .string ⟨#[49]⟩], 23), (w2.heap.size, #[.string sx, .string ⟨#[49]⟩], 23)] W' → (W'.cell? ⟨w3.heap.size, 0, none⟩ = some (.string tx) ∧ W'.cell? ⟨w3.heap.size, 1, none⟩ = some (.string ⟨#[49]⟩)) := fun W' h => ⟨(h.cell (w3.heap.size) _ _ (.tail _ (.head _)) 0), (h.cell (w3.heap.size) _ _ (.tail _ (.head _)) 1)⟩
          have hC := Lib.hid hC0
          clear hC0
          have h0 := hS
          obtain ⟨x0', x1'⟩ := hC.out _ hS
          have hS := hS.drew
          go_cut [14, 15] (fun s e wx => ∃ g : Nat, s = .pointer (some ⟨g, 0, none⟩) ∧ e = .int .i64 0 ∧ Asc w ((g, #[.string vn, .string vd], 23) :: [(w4.heap.size, #[.string zn, .string zd], 23), (w3.heap.size, #[.string tx, .string ⟨#[49]⟩], 23), (w2.heap.size, #[.string sx, .string ⟨#[49]⟩], 23)]) ∧ BL w ((g, #[.string vn, .string vd], 23) :: [(w4.heap.size, #[.string zn, .string zd], 23), (w3.heap.size, #[.string tx, .string ⟨#[49]⟩], 23), (w2.heap.size, #[.string sx, .string ⟨#[49]⟩], 23)]) wx)
          case first => as_aux_lemma =>
            go_region_held3 (fun w' => w'.cell? ⟨w3.heap.size, 0, none⟩ = some (.string tx) ∧ w'.cell? ⟨w3.heap.size, 1, none⟩ = some (.string ⟨#[49]⟩))
              (first | with_reducible exact hC.out _ hS | with_reducible exact hC.out _ (hS.new _) | with_reducible exact hC.out _ ((h0.new _).drew) | with_reducible exact hC.out _ (hS.setG hge hlt _ _) | go_keep)
              (first | (go_at_call 24; (with_reducible refine Calls.mono (is_any _ _ _) ?_); rintro e w' ⟨rfl, hb⟩; (first | (have hS := hS.call hb; first | (have hN := hN.below hb; have n0 := (blk_two hN).1; have n1 := (blk_two hN).2; have m0 := hN.frozen 0; have m1 := hN.frozen 1) | skip) | (have hlt := hS.lts; have hge := hS.below.size; have hN := nres hb; have n0 := (blk_two hN).1; have n1 := (blk_two hN).2; have m0 := hN.frozen 0; have m1 := hN.frozen 1; have hS := (hS.new _).call hb) | (have hlt := h0.lts; have hge := h0.below.size; have hN := nres_drew hb; have n0 := (blk_two hN).1; have n1 := (blk_two hN).2; have m0 := hN.frozen 0; have m1 := hN.frozen 1; have hS := ((h0.new _).drew).call hb)); clear hb) | (go_at_call 26; (with_reducible refine Calls.mono (DV.out _ ?_) ?_); (first | exact (hS.envQ hE).env | exact ((hS.new _).envQ hE).env | exact (((h0.new _).drew).envQ hE).env); rintro e w' ⟨rfl, hb⟩; (first | (have hS := hS.call hb; first | (have hN := hN.below hb; have n0 := (blk_two hN).1; have n1 := (blk_two hN).2; have m0 := hN.frozen 0; have m1 := hN.frozen 1) | skip) | (have hlt := hS.lts; have hge := hS.below.size; have hN := nres hb; have n0 := (blk_two hN).1; have n1 := (blk_two hN).2; have m0 := hN.frozen 0; have m1 := hN.frozen 1; have hS := (hS.new _).call hb) | (have hlt := h0.lts; have hge := h0.below.size; have hN := nres_drew hb; have n0 := (blk_two hN).1; have n1 := (blk_two hN).2; have m0 := hN.frozen 0; have m1 := hN.frozen 1; have hS := ((h0.new _).drew).call hb)); clear hb))
            all_goals (go_wp2_with fail; go_meet; first | exact ⟨_, rfl, rfl, hO.add hS _ _, hS.add _ _⟩ | exact ⟨_, rfl, rfl, hO.cons hge hlt _ _, (hS.setG hge hlt _ _).cons ((hN.set 0 (.string vn)).set 1 (.string vd))⟩)
          case rest =>
            clear hS h0 hO x0' x1'
            obtain ⟨g, rfl, rfl, hO, hS⟩ := hcut
            obtain ⟨c_x_0, c_x_1⟩ := hS.c2 (w2.heap.size) _ _ _ (.tail _ (.tail _ (.tail _ (.head _))))
            obtain ⟨c_v_0, c_v_1⟩ := hS.c2 (g) _ _ _ (.head _)
            go_wp2_with fail
            refine Calls.mono (add_v Ix _ (hS.envQ hE).env Iv Ia) ?_
            rintro e w5 ⟨rfl, hb⟩
            clear c_x_0 c_x_1 c_v_0 c_v_1
            replace hS := hS.call hb
            clear hb
            replace hO := hO.add hS #[.string an, .string ad] 23
            replace hS := hS.add' #[.string an, .string ad] 23
            obtain ⟨W0, hW0, hS, hz0⟩ := hS
            obtain ⟨W, hW⟩ : ∃ W, W = (w5.alloc (.cells #[.string an, .string ad] 23)) := ⟨_, rfl⟩
            replace hS : BL w [(w5.heap.size, #[.string an, .string ad], 23), (g, #[.string vn, .string vd], 23), (w4.heap.size, #[.string zn, .string zd], 23), (w3.heap.size, #[.string tx, .string ⟨#[49]⟩], 23), (w2.heap.size, #[.string sx, .string ⟨#[49]⟩], 23)] W := by rw [hW, ← hW0]; exact hS
            clear hz0 hW0
            go_upto_region 20 with fail
            rw [← hW]
            clear hW
            go_cut [93] (fun s wx => s = .bool false ∧ BL w [(w5.heap.size, #[.string an, .string ad], 23), (g, #[.string vn, .string vd], 23), (w4.heap.size, #[.string zn, .string zd], 23), (w3.heap.size, #[.string tx, .string ⟨#[49]⟩], 23), (w2.heap.size, #[.string sx, .string ⟨#[49]⟩], 23)] wx)
            case first => as_aux_lemma =>
              obtain ⟨c_z_0, c_z_1⟩ := hS.c2 (w4.heap.size) _ _ _ (.tail _ (.tail _ (.head _)))
              rcases hfit.out with ⟨hf, h1, r, h2⟩ | ⟨hf, h1, h2⟩
              · rw [h1] at Iz
                rw [h2] at Ia
                obtain rfl := Iz.val
                obtain rfl := Ia.val
                clear h1 h2
                have hd : decide ((N : Int) + (j : Int) + 1 ≤ 200) = true := by simp; omega
                go_wp2_with fail
                go_meet
                exact ⟨rfl, hS⟩
              · rw [h1] at Iz
                rw [h2] at Ia
                obtain ⟨rfl, rfl, rfl⟩ := Iz.no
                obtain ⟨rfl, rfl, rfl⟩ := Ia.no
                clear h1 h2
                have hd : decide ((N : Int) + (j : Int) + 1 ≤ 200) = false := by simp; omega
                go_wp2_with fail
                go_meet
                exact ⟨rfl, hS⟩
            case rest =>
              clear hS
              obtain ⟨rfl, hS⟩ := hcut
              obtain ⟨c_x_0, c_x_1⟩ := hS.c2 (w2.heap.size) _ _ _ (.tail _ (.tail _ (.tail _ (.tail _ (.head _)))))
              obtain ⟨c_y_0, c_y_1⟩ := hS.c2 (w3.heap.size) _ _ _ (.tail _ (.tail _ (.tail _ (.head _))))
              obtain ⟨c_v_0, c_v_1⟩ := hS.c2 (g) _ _ _ (.tail _ (.head _))
              have hq := limits_cases hc1.out hc2.out hc1'.out hc2'.out
              replace hq := Lib.hid hq
              rcases hq.out with ⟨⟨h1, h2, h3⟩, rfl, rfl⟩ | ⟨⟨h1, h2, h3⟩, rfl, rfl⟩ | ⟨⟨h1, h2, h3⟩, rfl, rfl⟩ | ⟨⟨h1, h1', h2, h3⟩, rfl, rfl⟩ | ⟨⟨h1, h1', h2, h3⟩, rfl, rfl⟩
              all_goals
                go_wp2_with fail
                refine Calls.mono (cmp_v Ix _ (hS.envQ hE).env Iy _ hc1'.out) ?_
                rintro e w' ⟨rfl, hb⟩
                replace hS := hS.call hb
                clear hb c_x_0 c_x_1 c_y_0 c_y_1 c_v_0 c_v_1
                obtain ⟨c_x_0, c_x_1⟩ := hS.c2 (w2.heap.size) _ _ _ (.tail _ (.tail _ (.tail _ (.tail _ (.head _)))))
                obtain ⟨c_v_0, c_v_1⟩ := hS.c2 (g) _ _ _ (.tail _ (.head _))
                go_wp2_with fail
                refine Calls.mono (cmp_v Ix _ (hS.envQ hE).env Iv _ hc2'.out) ?_
                rintro e w' ⟨rfl, hb⟩
                replace hS := hS.call hb
                clear hb
                go_wp2
                go_ret
                exact ⟨rfl, hS.below⟩
end Go.Proofs.YtkmlcnkhijpndaaGreatDoor
