/- PkF: RefF RefG RefH RefJ RefK -/
import Derived.Test.YtebokdboodgkpaaGreatDoorPkE
import Derived.Test.YtebokdboodgkpaaGreatDoorPkD
import Derived.Test.YtebokdboodgkpaaGreatDoorPkB
import Derived.Laws.Small
/- The reference: times. -/
namespace Go.Proofs.YtebokdboodgkpaaGreatDoor
open Go.RowKit
attribute [local go_sem] Oper.semAt_some

/-- Block G holds the integers xs, and nothing else. -/
def IB (w : World) (G : Nat) (xs : List Int) : Prop := Blk w G (xs.map (Value.int .i64)).toArray 3
theorem IB.cell {w : World} {G : Nat} {xs : List Int} (h : IB w G xs) {j : Nat} (hj : j < xs.length) : w.cell? ⟨G, j, none⟩ = some (.int .i64 (gi xs j)) := by
  have h' : Blk w G _ _ := h
  rw [h'.cell j]; simp [gi, hj]
theorem IB.frozen {w : World} {G : Nat} {xs : List Int} (h : IB w G xs) (j : Nat) : w.frozen? ⟨G, j, none⟩ = false := Blk.frozen (show Blk w G _ _ from h) j
theorem IB.below {w w' : World} {G : Nat} {xs : List Int} (h : IB w G xs) (hb : Below w.heap.size w w') : IB w' G xs := Blk.below (show Blk w G _ _ from h) hb
theorem IB.lt {w : World} {G : Nat} {xs : List Int} (h : IB w G xs) : G < w.heap.size := Blk.lt (show Blk w G _ _ from h)
theorem IB.set {w : World} {G : Nat} {xs : List Int} (h : IB w G xs) (i : Nat) (y : Int) : IB (w.setCell ⟨G, i, none⟩ (.int .i64 y)) G (xs.set i y) := by
  have := Blk.set (show Blk w G _ _ from h) i (.int .i64 y)
  show Blk _ _ _ _
  rwa [List.setIfInBounds_toArray, ← List.map_set] at this
theorem IB.sl {w : World} {G : Nat} {xs : List Int} (h : IB w G xs) (hl : xs.length ≤ maxLen) : Sl w (.slice (some ⟨G, 0, none⟩) xs.length xs.length) xs :=
  .inr ⟨G, 0, xs.length, rfl, Nat.le_refl _, hl, h.lt, fun j hj => by rw [Nat.zero_add]; exact h.cell hj⟩
theorem IB.of_make {w : World} {base g n : Nat} {xs : List Int} (h : w.ownsRow base 3 1 (.slice (some ⟨g, 0, none⟩) n n) n (xs.map (Value.int .i64))) : IB w g xs := by
  have hl : n = xs.length := by have := h.1; simpa using this.symm
  rcases h.2 with ⟨h1, _⟩ | ⟨g', cap, cur, h1, hb, hg, hn, hm, hs, ht⟩
  · cases h1
  · cases h1
    show w.heap[g]? = _
    rw [hg]
    have e : cur = (xs.map (Value.int .i64)).toArray := by
      apply Array.ext'
      rw [← ht, List.take_of_length_le (by rw [Array.length_toList, hs]; omega)]
    rw [e]

/-- What the inner loop of times holds to. -/
def InT (os : List Int) (V x : Int) (ys : List Int) (i k : Nat) (c : Int) : Prop := val 10 os + c * 10 ^ (i + k) = V + x * val 10 (ys.take k) * 10 ^ i
theorem mul3 (a b c : Int) : a * b * c = a * (b * c) := Int.mul_assoc ..
theorem inT_step {os ys : List Int} {V x y c o n : Int} {i k : Nat} (h : InT os V x ys i k c) (hk : k < ys.length) (hy : y = gi ys k) (hi : i + k < os.length) (ho : o = gi os (i + k)) (hn : n = o + c + x * y) : InT (os.set (i + k) (n % 10)) V x ys i (k + 1) (n / 10) := by
  unfold InT at *
  rw [val_set 10 os (i + k) (n % 10) hi, take_snoc' hk, val_snoc, ← hy, ← ho, List.length_take, Nat.min_eq_left (by omega), ← Nat.add_assoc, Int.pow_succ]
  have e1 : (val 10 (ys.take k) + y * 10 ^ k) = val 10 (ys.take k) + y * 10 ^ k := rfl
  have e2 : x * (val 10 (ys.take k) + y * 10 ^ k) * 10 ^ i = x * val 10 (ys.take k) * 10 ^ i + x * y * 10 ^ (i + k) := by
    rw [Int.mul_add, Int.add_mul, Int.pow_add]
    simp only [Int.mul_assoc, Int.mul_comm, Int.mul_left_comm]
  rw [e2]
  have := carry_step (V + x * val 10 (ys.take k) * 10 ^ i) (o + c) (10 ^ (i + k)) (val 10 os - o * 10 ^ (i + k)) (x * y) (n % 10) (n / 10) (by rw [Int.add_mul]; omega) (by omega)
  rw [Int.sub_mul]
  omega
theorem inT_last {os ys : List Int} {V x c : Int} {i k : Nat} (h : InT os V x ys i k c) (hk : ys.length ≤ k) (hi : i + k < os.length) (ho : gi os (i + k) = 0) (hc0 : 0 ≤ c) (hc : c < 10) : InT (os.set (i + k) (c % 10)) V x ys i (k + 1) (c / 10) := by
  unfold InT at *
  have e : c % 10 = c := by omega
  have e0 : c / 10 = 0 := by omega
  rw [val_set 10 os (i + k) (c % 10) hi, ho, e, e0, List.take_of_length_le (by omega)]
  rw [List.take_of_length_le hk] at h
  simp at h ⊢
  omega
theorem inT_end {os xs ys : List Int} {V : Int} {i k : Nat} (h : InT os V (gi xs i) ys i k 0) (hk : ys.length ≤ k) (hi : i < xs.length) (hV : V = val 10 (xs.take i) * val 10 ys) : val 10 os = val 10 (xs.take (i + 1)) * val 10 ys := by
  unfold InT at h
  rw [List.take_of_length_le hk] at h
  rw [take_snoc' hi, val_snoc, List.length_take, Nat.min_eq_left (by omega), Int.add_mul, ← hV]
  have e : gi xs i * val 10 ys * 10 ^ i = gi xs i * 10 ^ i * val 10 ys := by rw [Int.mul_assoc, Int.mul_comm (val 10 ys), ← Int.mul_assoc]
  omega
theorem dig_set {os : List Int} (h : Dig 10 os) (i : Nat) {y : Int} (h0 : 0 ≤ y) (h1 : y < 10) : Dig 10 (os.set i y) := fun x hx => by
  rcases List.mem_or_eq_of_mem_set hx with h2 | rfl
  · exact h x h2
  · exact ⟨h0, h1⟩
theorem mul_dig {x y : Int} (h0 : 0 ≤ x) (h1 : x < 10) (h2 : 0 ≤ y) (h3 : y < 10) : 0 ≤ x * y ∧ x * y ≤ 81 := by
  refine ⟨Int.mul_nonneg h0 h2, ?_⟩
  have := Int.mul_le_mul (show x ≤ 9 by omega) (show y ≤ 9 by omega) h2 (by decide)
  omega
theorem val_zeros (k : Nat) : val 10 (List.replicate k (0 : Int)) = 0 := by
  induction k with
  | zero => rfl
  | succ k ih => rw [List.replicate_succ]; simp [val, ih]
theorem gi_zeros (k j : Nat) : gi (List.replicate k (0 : Int)) j = 0 := by unfold gi; rw [List.getElem?_replicate]; split <;> rfl
theorem dig_zeros (k : Nat) : Dig 10 (List.replicate k (0 : Int)) := fun x hx => by
  have := (List.mem_replicate.1 hx).2
  subst this; omega

set_option maxRecDepth 100000 in
set_option maxHeartbeats 8000000 in
theorem rtimes_any (v u : Value) (xs ys : List Int) (m n : Int) (w : World) (hv : Sl w v xs) (hu : Sl w u ys) (hx : Num 10 xs m) (hy : Num 10 ys n) (hlx : xs.length ≤ 10000) (hly : ys.length ≤ 10000) :
    Calls Tryz.prog 109 #[v, u] w (Gives w fun r w' => ∃ zs, Sl w' r zs ∧ Num 10 zs (m * n)) := by
  obtain ⟨a1, b1, o1, c1, rfl, h1, h2, h4⟩ := hv.place
  obtain ⟨a2, b2, o2, c2, rfl, g1, g2, g4⟩ := hu.place
  have H4 := Lib.hid h4
  have G4 := Lib.hid g4
  have H1 := Lib.hid h1
  have G1 := Lib.hid g1
  have HX := Lib.hid hx
  have HY := Lib.hid hy
  obtain ⟨L, hL⟩ : ∃ L : Nat, L = xs.length + ys.length := ⟨_, rfl⟩
  obtain ⟨W1, hmk, hown, hb1⟩ := run_make_int w 35 Tryz.underlying35 .i64 .i64 L (by omega)
  have hib := IB.of_make hown
  have hLi : (L : Int) = (xs.length : Int) + (ys.length : Int) := by omega
  rw [hLi] at hmk
  have HLi := Lib.hid hLi
  have HL := Lib.hid hL
  have hG : w.heap.size < W1.heap.size := hib.lt
  clear hv hu h4 g4 h1 g1 hx hy hLi hL hown
  go_enter Tryz.func109, Tryz.ntmps109
  go_wp2
  go_loopw [6] (fun s6 wr => ∃ (i : Nat) (os : List Int), s6 = .int .i64 i ∧ i ≤ xs.length ∧ IB wr w.heap.size os ∧ os.length = L ∧ Dig 10 os ∧ Hid (val 10 os = val 10 (xs.take i) * val 10 ys) ∧ Hid (∀ j, i + ys.length ≤ j → gi os j = 0) ∧ Below w.heap.size w wr)
    (fun s6 _ => xs.length - (intOf s6).toNat)
  case atStart => exact ⟨0, List.replicate L 0, rfl, Nat.zero_le _, hib, by simp, dig_zeros L, (show val 10 (List.replicate L 0) = _ by rw [val_zeros]; simp [val]), (fun j _ => gi_zeros L j), hb1⟩
  case round =>
    clear hib hb1 hmk hG
    obtain ⟨i, os, rfl, hi, hib, hlo, hdo, hV, hZ, hB⟩ := hrel
    by_cases hi1 : i < xs.length
    · obtain ⟨rfl, h3⟩ := H1.out (by omega)
      have i1 : (i : Int) < (xs.length : Int) := by omega
      have x0 := (HX.out.dig.gi (by decide) i).1
      have x1 := (HX.out.dig.gi (by decide) i).2
      have hVV := hV.out
      generalize hVd : val 10 os = V at *
      have HVd := Lib.hid hVd
      clear hVd hV
      go_wp2
      obtain ⟨wo, rfl⟩ : ∃ wo : World, wo = wr := ⟨_, rfl⟩
      have Hlo := Lib.hid hlo
      have Hib := Lib.hid hib
      have HVV := Lib.hid hVV
      have HB := Lib.hid hB
      clear hlo hib hVV
      go_loopw [7, 8] (fun s7 s8 wr => ∃ (k : Nat) (c : Int) (ps : List Int), s8 = .int .i64 k ∧ s7 = .int .i64 c ∧ 0 ≤ c ∧ c ≤ 9 ∧ IB wr w.heap.size ps ∧ ps.length = L ∧ Dig 10 ps ∧ Hid (InT ps V (gi xs i) ys i k c) ∧
          ((k ≤ ys.length ∧ Hid (∀ j, i + ys.length ≤ j → gi ps j = 0)) ∨ (k = ys.length + 1 ∧ c ≤ 0 ∧ Hid (∀ j, i + ys.length + 1 ≤ j → gi ps j = 0))) ∧ Below w.heap.size w wr)
        (fun _ s8 _ => ys.length + 1 - (intOf s8).toNat)
      case atStart => exact ⟨0, 0, os, rfl, rfl, by decide, by decide, Hib.out, Hlo.out, hdo, (show InT _ _ _ _ _ _ _ by unfold InT; rw [HVd.out]; simp [val]), .inl ⟨Nat.zero_le _, hZ⟩, hB⟩
      case round =>
        clear hdo hZ HVd hB
        obtain ⟨k, c, ps, rfl, rfl, hc0, hc1, hib, hlp, hdp, hI, hT, hB⟩ := hrel
        by_cases hk : k < ys.length
        · obtain ⟨rfl, g3⟩ := G1.out (by omega)
          have i2 : (k : Int) < (ys.length : Int) := by omega
          have hik : i + k < ps.length := by have := HL.out; omega
          have y0 := (HY.out.dig.gi (by decide) k).1
          have y1 := (HY.out.dig.gi (by decide) k).2
          have ho0 := (hdp.gi (by decide) (i + k)).1
          have ho1 := (hdp.gi (by decide) (i + k)).2
          have e1 := (hB.cell (p := ⟨b1, o1 + i, none⟩) h3).trans (H4.out i (by omega))
          have e2 := (hB.cell (p := ⟨b2, o2 + k, none⟩) g3).trans (G4.out k (by omega))
          have e3 := hib.cell hik
          have e4 := hib.frozen (i + k)
          obtain ⟨m0, m1⟩ := mul_dig x0 x1 y0 y1
          have hi3 : (i : Int) + (k : Int) < (L : Int) := by have := HL.out; omega
          have hi4 : (0 : Int) ≤ (i : Int) + (k : Int) := by omega
          have hstep := inT_step (n := gi ps (i + k) + c + gi xs i * gi ys k) hI.out hk rfl hik rfl rfl
          have HS := Lib.hid hstep
          have HT := Lib.hid hT
          have hkl : k + 1 ≤ ys.length := by omega
          have Hlp := Lib.hid hlp
          generalize hx' : gi xs i = x at *
          generalize hy' : gi ys k = y at *
          generalize ho' : gi ps (i + k) = o at *
          obtain ⟨d, hd⟩ : ∃ d, x * y = d := ⟨_, rfl⟩
          rw [hd] at m0 m1 HS
          have n0 : 0 ≤ o + c + d := by omega
          have n1 : o + c + d ≤ 99 := by omega
          clear hx' hy' ho' hstep hT hI hlp
          have Hw1 := Lib.hid (IntWalk.i64_in d (by omega))
          have Hw2 := Lib.hid (IntWalk.i64_in (o + c + d) (by omega))
          go_wp2_with fail
          have hw1 := Hw1.out
          have hw2 := Hw2.out
          go_quiet (fail)
          clear hw1 hw2
          go_wp2
          go_roundw
          case rel =>
            refine ⟨k + 1, _, ps.set (i + k) ((o + c + d) % 10), by go_num, rfl, by omega, by omega, (hib.below (below_drewN wr nq)).set (i + k) _, (by rw [List.length_set]; exact Hlp.out), dig_set hdp _ (by omega) (by omega), HS, .inl ⟨hkl, ?_⟩, (hB.trans ((below_drewN wr nq).mono hB.size)).setCell (p := ⟨w.heap.size, i + k, none⟩) (Nat.le_refl _) _⟩
            rcases HT.out with h | h
            · exact fun j hj => by rw [gi_set _ (show i + k ≠ j by omega)]; exact h.2.out j hj
            · exact absurd h.1 (by omega)
          case measure => simp [intOf]; omega
        · by_cases hc : 0 < c
          · have hkl : k = ys.length := by rcases hT with h | h; have := h.1; omega; have := h.2.1; omega
            have hz : gi ps (i + k) = 0 := by rcases hT with h | h; exact h.2.out (i + k) (by omega); have := h.2.1; omega
            have HZ := Lib.hid (show ∀ j, i + ys.length ≤ j → gi ps j = 0 by rcases hT with h | h; exact h.2.out; have := h.2.1; omega)
            have hik : i + k < ps.length := by have := HL.out; omega
            have e3 := hib.cell hik
            rw [hz] at e3
            have e4 := hib.frozen (i + k)
            have hi3 : (i : Int) + (k : Int) < (L : Int) := by have := HL.out; omega
            have hi4 : (0 : Int) ≤ (i : Int) + (k : Int) := by omega
            have HS := Lib.hid (inT_last hI.out (by omega) hik hz hc0 (by omega))
            have hk' : ys.length ≤ k := by omega
            have Hlp := Lib.hid hlp
            have Hkl := Lib.hid hkl
            have hk2 : k ≤ 10000 := by omega
            have hi2 : i ≤ 10000 := by omega
            clear hI hT hz hlp hkl
            go_wp2
            go_roundw
            case rel =>
              refine ⟨k + 1, _, ps.set (i + k) (c % 10), by go_num, rfl, by omega, by omega, hib.set (i + k) _, (by rw [List.length_set]; exact Hlp.out), dig_set hdp _ (by omega) (by omega), HS, .inr ⟨by rw [Hkl.out], by omega, ?_⟩, hB.setCell (p := ⟨w.heap.size, i + k, none⟩) (Nat.le_refl _) _⟩
              have hk3 := Hkl.out
              show ∀ j, i + ys.length + 1 ≤ j → gi (ps.set (i + k) (c % 10)) j = 0
              intro j hj
              rw [gi_set _ (show i + k ≠ j by omega)]; exact HZ.out j (by omega)
            case measure => have := Hkl.out; simp [intOf]; omega
          · obtain rfl : c = 0 := by omega
            have hk' : ys.length ≤ k := by omega
            have HV := Lib.hid (inT_end hI.out hk' hi1 HVV.out)
            have HZ := Lib.hid (show ∀ j, i + 1 + ys.length ≤ j → gi ps j = 0 by rcases hT with h | h; exact fun j hj => h.2.out j (by omega); exact fun j hj => h.2.2.out j (by omega))
            clear hI hT hk
            go_wp2
            go_roundw
            case rel => exact ⟨i + 1, ps, by go_num, by omega, hib, hlp, hdp, HV, HZ, hB⟩
            case measure => simp [intOf]; omega
    · have hfin := Num.trim hdo
      have e : val 10 os = m * n := by
        have h := hV.out
        rw [List.take_of_length_le (by omega), HX.out.val, HY.out.val] at h
        exact h
      rw [e] at hfin
      have HF := Lib.hid hfin
      have hsl := hib.sl (by have := HL.out; unfold maxLen; omega)
      rw [hlo] at hsl
      clear hfin e hV hlo
      go_wp2_with fail
      refine (rtrim_any _ os _ hsl).mono ?_
      rintro e w2 ⟨⟨v', rfl, hz, _⟩, rfl⟩
      go_wp2
      go_ret
      exact ⟨⟨_, rfl, _, hz, HF.out⟩, hB⟩
end Go.Proofs.YtebokdboodgkpaaGreatDoor

/- The reference: divided, trimmed. -/
namespace Go.Proofs.YtebokdboodgkpaaGreatDoor
open Go.RowKit
attribute [local go_sem] Oper.semAt_some

theorem drop_val {xs : List Int} {t : Nat} (h : t < xs.length) : val 10 (xs.drop t) = gi xs t + 10 * val 10 (xs.drop (t + 1)) := by
  rw [drop_gi h]; rfl
theorem drop_set (qs : List Int) (t : Nat) (d : Int) : (qs.set t d).drop (t + 1) = qs.drop (t + 1) := by
  rw [List.drop_set_of_lt (by omega)]
theorem gi_set_self {l : List Int} {i : Nat} (h : i < l.length) (y : Int) : gi (l.set i y) i = y := by simp [gi, h]
theorem set_zero {l : List Int} {i : Nat} (h : gi l i = 0) (hi : i < l.length) : l.set i 0 = l := by
  have e : l[i] = 0 := by rw [← gi_lt hi]; exact h
  rw [← e]; exact List.set_getElem_self hi
/-- One digit more of a quotient. -/
theorem div_step {N x m R d R' Q : Int} (hm : 0 < m) (hR : R = N % m) (hQ : Q = N / m) (h : R' + d * m = R * 10 + x) (h0 : 0 ≤ R') (h1 : R' < m) : R' = (x + 10 * N) % m ∧ d + 10 * Q = (x + 10 * N) / m := by
  have e := Int.emod_add_mul_ediv N m
  have hu := (Int.ediv_emod_unique hm (a := x + 10 * N) (r := R') (q := d + 10 * Q)).2 ⟨by
    rw [Int.mul_add, Int.mul_left_comm, hQ]
    rw [Int.mul_comm d m] at h
    generalize m * (N / m) = P at *
    omega, h0, h1⟩
  exact ⟨hu.2.symm, hu.1.symm⟩
theorem quot_lt9 {R x m d R' : Int} (hm : 0 < m) (hR : R < m) (hx : x < 10) (h : R' + d * m = R * 10 + x) (h0 : m ≤ R') : d < 9 := by
  rcases Int.lt_or_le d 9 with h1 | h1
  · exact h1
  · have := Int.mul_le_mul_of_nonneg_right h1 (Int.le_of_lt hm)
    omega

set_option maxRecDepth 100000 in
set_option maxHeartbeats 8000000 in
theorem divided_any (v u : Value) (xs ys : List Int) (m : Int) (w : World) (hv : Sl w v xs) (hu : Sl w u ys) (hx : Dig 10 xs) (hy : Num 10 ys m) (hm : 0 < m) (hlx : xs.length ≤ 10000) (hly : ys.length ≤ 10000) :
    Calls Tryz.prog 98 #[v, u] w (Gives w fun r w' => ∃ r1 r2 qs rs, r = .tuple #[r1, r2] ∧ Sl w' r1 qs ∧ Num 10 qs (val 10 xs / m) ∧ Sl w' r2 rs ∧ Num 10 rs (val 10 xs % m)) := by
  obtain ⟨a1, b1, o1, c1, rfl, h1, h2, h4⟩ := hv.place
  obtain ⟨a2, c2, rfl⟩ := hu.shape
  have H4 := Lib.hid h4
  have H1 := Lib.hid h1
  have HX := Lib.hid hx
  have HY := Lib.hid hy
  obtain ⟨W1, hmk, hown, hb1⟩ := run_make_int w 35 Tryz.underlying35 .i64 .i64 xs.length (by omega)
  have hib := IB.of_make hown
  have HU := Lib.hid hu
  clear hv hu h4 h1 hx hy hown
  go_enter Tryz.func98, Tryz.ntmps98
  go_wp2
  go_loopw [7, 8] (fun s7 s8 wr => ∃ (t : Nat) (q : Int) (qs rs : List Int) (R : Int) (a3 : Option Addr) (c3 : Nat), s8 = .int .i64 q ∧ Hid (q = (t : Int) - 1) ∧ t ≤ xs.length ∧ s7 = .slice a3 rs.length c3 ∧ Sl wr (.slice a3 rs.length c3) rs ∧ Num 10 rs R ∧ R < m ∧
      IB wr w.heap.size qs ∧ Hid (qs.length = xs.length) ∧ Dig 10 qs ∧ Hid (R = val 10 (xs.drop t) % m) ∧ Hid (val 10 (qs.drop t) = val 10 (xs.drop t) / m) ∧ Hid (∀ j, j < t → gi qs j = 0) ∧ Below w.heap.size w wr)
    (fun _ s8 _ => (intOf s8 + 1).toNat)
  case atStart =>
    refine ⟨xs.length, _, List.replicate xs.length 0, [], 0, none, 0, rfl, rfl, Nat.le_refl _, rfl, Sl.nil _, Num.trim (xs := []) (Dig.nil 10), hm, hib, (show _ = _ by simp), dig_zeros _, ?_, ?_, fun j _ => gi_zeros _ j, hb1⟩
    · show _ = _
      rw [List.drop_length]; rfl
    · show _ = _
      rw [List.drop_length, List.drop_of_length_le (by simp)]; simp [val]
  case round =>
    clear hib hb1 hmk
    obtain ⟨t, q, qs, rs, R, a3, c3, rfl, hq, ht, rfl, hr, hnr, hRm, hib, hlq, hdq, hR, hQ, hZ, hB⟩ := hrel
    cases t with
    | zero =>
      obtain rfl : q = -1 := by have := hq.out; omega
      have hfin := Num.trim hdq
      have e1 := hQ.out
      have e2 := hR.out
      rw [List.drop_zero, List.drop_zero] at e1
      rw [List.drop_zero] at e2
      rw [e1] at hfin
      have HF := Lib.hid hfin
      have HR := Lib.hid (show Num 10 rs (val 10 xs % m) by rw [← e2]; exact hnr)
      have hsl := hib.sl (by rw [hlq.out]; unfold maxLen; omega)
      rw [hlq.out] at hsl
      clear hfin e1 e2
      go_wp2_with fail
      refine (rtrim_any _ qs _ hsl).mono ?_
      rintro e w2 ⟨⟨v', rfl, hz, _⟩, rfl⟩
      go_wp2
      go_ret2
      exact ⟨⟨_, rfl, _, _, _, rs, rfl, hz, HF.out, hr, HR.out⟩, hB⟩
    | succ t =>
      obtain rfl : q = (t : Int) := by have := hq.out; omega
      obtain ⟨rfl, h3⟩ := H1.out (by omega)
      have htl : t < xs.length := by omega
      have i1 : (t : Int) < (xs.length : Int) := by omega
      have i0 : (0 : Int) ≤ (t : Int) := by omega
      have e1 := (hB.cell (p := ⟨b1, o1 + t, none⟩) h3).trans (H4.out t htl)
      have x0 := (HX.out.gi (by decide) t).1
      have x1 := (HX.out.gi (by decide) t).2
      have hR0 := hnr.nonneg (by decide)
      have hlr : rs.length ≤ 10000 := by have := hnr.len_le (by decide) HY.out (Int.le_of_lt hRm); omega
      have HDV := Lib.hid (drop_val htl)
      have hnx : Num 10 (trim (gi xs t :: rs)) (gi xs t + 10 * R) := by
        have := Num.trim (b := 10) (xs := gi xs t :: rs) (fun z hz => by
          rcases List.mem_cons.1 hz with rfl | hz
          · exact ⟨x0, x1⟩
          · exact hnr.dig z hz)
        simpa [val, hnr.val] using this
      generalize hxx : gi xs t = x at *
      have HNX := Lib.hid hnx
      clear hxx hnx
      have Hr := Lib.hid (hr.below ((Below.refl wr.heap.size wr).alloc (Nat.le_refl _) (.cells #[.int .i64 x] 3)))
      go_wp2_with (at_builtin; refine wp_app_sl (base := wr.heap.size) (xs := [x]) (ys := rs) 35 Tryz.underlying35 rfl _ _ rfl rfl rfl (own_lit wr x) Hr.out (by omega) (by decide) (by simp) ?_; intro g cp w2 hown2 hg2 hb2; clear hg2)
      have hb3 : Below wr.heap.size wr w2 := ((Below.refl wr.heap.size wr).alloc (Nat.le_refl _) _).trans hb2
      have hsl2 := Sl.of_own hown2
      clear hb2 hown2 hr Hr
      go_wp2_with fail
      refine (rtrim_any _ (x :: rs) _ hsl2).mono ?_
      rintro e w3 ⟨⟨v', rfl, hz, _⟩, rfl⟩
      obtain ⟨a5, c5, rfl⟩ := hz.shape
      have hib2 := hib.below hb3
      have hB2 := hB.trans (hb3.mono hB.size)
      have HQ0 := Lib.hid (set_zero (hZ.out t (by omega)) (show t < qs.length by have := hlq.out; omega))
      have hR0x : 0 ≤ x + 10 * R := by omega
      generalize trim (x :: rs) = rs0 at *
      clear hib hb3 hsl2 e1 i1 i0 H1 hlr
      go_wp2
      obtain ⟨wo, rfl⟩ : ∃ wo : World, wo = wr := ⟨_, rfl⟩
      have HBo := Lib.hid hB
      clear hB hnr
      go_loopw [7] (fun s7 wr => ∃ (d R1 : Int) (rs1 ps : List Int) (a6 : Option Addr) (c6 : Nat), s7 = .slice a6 rs1.length c6 ∧ Sl wr (.slice a6 rs1.length c6) rs1 ∧ Num 10 rs1 R1 ∧ Hid (R1 + d * m = R * 10 + x) ∧ 0 ≤ d ∧ d ≤ 9 ∧ IB wr w.heap.size ps ∧ Hid (ps = qs.set t d) ∧ Below w.heap.size w wr)
        (fun s7 wr => (val 10 (rdSl wr s7)).toNat)
      case atStart => exact ⟨0, _, rs0, qs, _, _, rfl, hz, HNX.out, (show _ = _ by omega), by decide, by decide, hib2, HQ0.out.symm, hB2⟩
      case round =>
        clear hz hib2 hB2
        obtain ⟨d, R1, rs1, ps, a6, c6, rfl, hr1, hn1, hE1, hd0, hd1, hib, hps, hB⟩ := hrel
        have hy1 := HU.out.below hB
        have hrd := Lib.hid hr1.rd
        have hl1 : rs1.length ≤ 100000 := by
          have h1 := hn1.length_le (by decide) (m := 10001) ?_
          · omega
          · have h2 := HY.out.lt (by decide)
            have h3 := pow_mono (b := 10) (by decide) hly
            have h4 : (10 : Int) ^ 10001 = 10 ^ 10000 * 10 := Int.pow_succ ..
            have h5 := hE1.out
            have h6 := Int.mul_nonneg hd0 (Int.le_of_lt hm)
            generalize (10 : Int) ^ 10000 = P at *
            generalize (10 : Int) ^ 10001 = Q at *
            omega
        go_wp2_with fail
        refine (order_any _ _ rs1 ys _ hr1 hy1).mono ?_
        rintro e w4 ⟨rfl, hb4⟩
        rw [cmpL10 hn1 HY.out]
        have hr4 := hr1.below hb4
        have hy4 := hy1.below hb4
        have hB4 := kb_call hb4 hB (Nat.le_refl _)
        have hib4 := hib.below hb4
        by_cases hle : m ≤ R1
        · have hc := cmp_sign.2 hle
          generalize Lib.compareInt R1 m = c at *
          have hd9 := quot_lt9 hm hRm x1 hE1.out hle
          have htq : t < ps.length := by rw [hps.out, List.length_set]; have := hlq.out; omega
          have htx : (t : Int) < (xs.length : Int) := by omega
          have ht0 : (0 : Int) ≤ (t : Int) := by omega
          have hgd : gi ps t = d := by rw [hps.out]; exact gi_set_self (by have := hlq.out; omega) d
          clear hr1 hy1 hib hB hb4
          go_wp2_with fail
          have hG4 := hib4.lt
          refine (rminus_fresh _ _ rs1 ys R1 m _ hr4 hy4 hn1 HY.out hle hl1).mono ?_
          rintro e w5 ⟨⟨r, rfl, zs, hz, hnz, hfr⟩, hb5⟩
          obtain ⟨a7, c7, rfl⟩ := hz.shape
          have hib5 := hib4.below hb5
          have hB5 := kb_call hb5 hB4 (Nat.le_refl _)
          have e3 := hib5.cell htq
          rw [hgd] at e3
          have e4 := hib5.frozen t
          have hGz : Sl (w5.setCell ⟨w.heap.size, t, none⟩ (.int .i64 (d + 1))) (.slice a7 zs.length c7) zs := hz.only ((Only.refl [w.heap.size] w5).setCell (p := ⟨w.heap.size, t, none⟩) (by simp) _) (fun b o e => by have := hfr b o e; simp; omega)
          have hrd5 := Lib.hid hGz.rd
          clear hgd hr4 hy4 hib4 hB4 hb5
          go_wp2
          go_roundw
          case rel => exact ⟨d + 1, R1 - m, zs, ps.set t (d + 1), _, _, rfl, hGz, hnz, (show _ = _ by rw [Int.add_mul]; have := hE1.out; omega), by omega, by omega, hib5.set t _, (show _ = _ by rw [hps.out, List.set_set]), hB5.setCell (p := ⟨w.heap.size, t, none⟩) (Nat.le_refl _) _⟩
          case measure =>
            show (val 10 (rdSl _ _)).toNat < (val 10 (rdSl _ _)).toNat
            rw [hrd.out, hrd5.out, hnz.val, hn1.val]
            omega
        · have hcl := compareInt_lt (show R1 < m by omega)
          rw [hcl]
          obtain ⟨k1, k2⟩ := div_step hm hR.out hQ.out hE1.out (hn1.nonneg (by decide)) (by omega)
          rw [← HDV.out] at k1 k2
          have htq : t < qs.length := by have := hlq.out; omega
          have K2 := Lib.hid (show val 10 ((qs.set t d).drop t) = val 10 (xs.drop t) / m by
            rw [drop_val (by rw [List.length_set]; exact htq), gi_set_self htq, drop_set, k2])
          have K1 := Lib.hid k1
          have hR1m : R1 < m := by omega
          clear hcl k1 k2 hr1 hy1 hib hB hb4 hle
          rw [hps.out] at hib4
          go_wp2
          go_roundw
          case rel => exact ⟨t, _, qs.set t d, rs1, R1, _, _, rfl, rfl, by omega, rfl, hr4, hn1, hR1m, hib4, (show _ = _ by rw [List.length_set]; exact hlq.out), dig_set hdq t hd0 (by omega), K1, K2, (fun j hj => by rw [gi_set _ (show t ≠ j by omega)]; exact hZ.out j (by omega)), hB4⟩
          case measure => simp [intOf]
end Go.Proofs.YtebokdboodgkpaaGreatDoor

/- The reference: Mul, Div, Gcd. -/
namespace Go.Proofs.YtebokdboodgkpaaGreatDoor
open Go.RowKit
attribute [local go_sem] Oper.semAt_some

theorem pow_castR (k : Nat) : ((10 : Int) ^ k) = ((10 ^ k : Nat) : Int) := by simp
theorem okS_zeros {b : ByteArray} (h : okS b = true) : (zS b = 0 → b = ⟨#[48]⟩) ∧ (zS b ≠ 0 → (b.toList == [48]) = false) := by
  have h5 := (itoa_of_valid (show validB b.data.toList = true from h)).1
  constructor
  · intro hz
    have h6 : ival b.data.toList = 0 := hz
    rw [h6, show Lib.itoa (0 : Int) = [48] from itoa_zero false] at h5
    exact ByteArray.ext (Array.ext' h5)
  · intro hz
    rw [ByteArray.toList_eq]
    refine beq_eq_false_iff_ne.2 (fun e => hz ?_)
    show ival _ = 0
    rw [e]; decide +kernel

set_option maxRecDepth 100000 in
set_option maxHeartbeats 8000000 in
theorem rmul_ok (a b : ByteArray) (ha : okS a = true) (hb : okS b = true) (hsa : a.size ≤ 9223372036854775807) (hsb : b.size ≤ 9223372036854775807) (w : World) :
    Calls Tryz.prog 81 #[.string a, .string b] w (Gives w fun r _ => r = resT true (zS a * zS b)) := by
  have V1 := fun W => rvalid_any a hsa W
  have V2 := fun W => rvalid_any b hsb W
  have D1 := fun W => rdigits_any a ha W
  have D2 := fun W => rdigits_any b hb W
  have Sa := z_bound ha
  have Sb := z_bound hb
  rw [ha] at V1
  rw [hb] at V2
  go_enter Tryz.func81, Tryz.ntmps81
  go_wp2_with fail
  refine (V1 _).mono ?_
  rintro e w1 ⟨rfl, hb1⟩
  go_wp2_with fail
  refine (V2 _).mono ?_
  rintro e w2 ⟨rfl, hb2⟩
  have hB2 := kb_call hb2 hb1 (Nat.le_refl _)
  go_wp2_with fail
  refine (D1 _).mono ?_
  rintro e w3 ⟨⟨r, rfl, v, xs, rfl, hx, hnx⟩, hb3⟩
  have hB3 := kb_call hb3 hB2 (Nat.le_refl _)
  have lx := len10 hnx Sa
  go_wp2_with fail
  refine (D2 _).mono ?_
  rintro e w4 ⟨⟨r, rfl, u, ys, rfl, hy, hny⟩, hb4⟩
  have hB4 := kb_call hb4 hB3 (Nat.le_refl _)
  have ly := len10 hny Sb
  have hx4 := hx.below hb4
  clear hb1 hb2 hb3 hb4 hB2 hB3 hx
  go_wp2_with fail
  refine (rtimes_any _ _ xs ys _ _ _ hx4 hy hnx hny (by omega) (by omega)).mono ?_
  rintro e w5 ⟨⟨r, rfl, zs, hz, hnz⟩, hb5⟩
  have hB5 := kb_call hb5 hB4 (Nat.le_refl _)
  have lz : zs.length ≤ 1000 := by
    have h1 := Nat.mul_lt_mul'' (show (zS a).natAbs < 10 ^ 200 by have := abs_big Sa; rw [show Big = ((10 ^ 200 : Nat) : Int) from pow_castR 200] at this; omega) (show (zS b).natAbs < 10 ^ 200 by have := abs_big Sb; rw [show Big = ((10 ^ 200 : Nat) : Int) from pow_castR 200] at this; omega)
    have h2 := hnz.length_le (by decide) (m := 200 + 200) (by
      rw [← Nat.pow_add] at h1
      rw [pow_castR (200 + 200)]
      have e : ((zS a).natAbs : Int) * ((zS b).natAbs : Int) = (((zS a).natAbs * (zS b).natAbs : Nat) : Int) := by simp
      rw [e]
      exact Int.ofNat_lt.2 h1)
    omega
  have hm := sgn_mul (zS a) (zS b)
  generalize decide (zS a < 0) = s at *
  generalize decide (zS b < 0) = t at *
  have HM := Lib.hid (show sgn (!s == t) ((zS a).natAbs * (zS b).natAbs) = zS a * zS b from hm)
  clear hm
  go_wp2_with fail
  refine (checked_any (!s == t) _ zs _ _ hz hnz (by omega)).mono ?_
  rintro e w6 ⟨⟨r, rfl, rfl⟩, hb6⟩
  rw [HM.out]
  obtain ⟨z, hzz⟩ : ∃ z, Hid (zS a * zS b = z) := ⟨_, Lib.hid rfl⟩
  rw [hzz.out]
  cases hs : decide (Small z) with
  | true =>
    rw [res_small (of_decide_eq_true hs)]
    go_wp2
    go_ret2
    exact ⟨⟨_, rfl, by rw [hzz.out]; exact (res_small (of_decide_eq_true hs)).symm⟩, kb_call hb6 hB5 (Nat.le_refl _)⟩
  | false =>
    rw [res_big (of_decide_eq_false hs)]
    go_wp2
    go_ret2
    exact ⟨⟨_, rfl, by rw [hzz.out]; exact (res_big (of_decide_eq_false hs)).symm⟩, kb_call hb6 hB5 (Nat.le_refl _)⟩
set_option maxRecDepth 100000 in
set_option maxHeartbeats 4000000 in
theorem rmul_bad (a b : ByteArray) (h : okS a = false ∨ okS b = false) (hsa : a.size ≤ 9223372036854775807) (hsb : b.size ≤ 9223372036854775807) (w : World) :
    Calls Tryz.prog 81 #[.string a, .string b] w (Gives w fun r _ => r = resT false 0) := by
  have V1 := fun W => rvalid_any a hsa W
  have V2 := fun W => rvalid_any b hsb W
  cases ha : okS a with
  | false =>
    rw [ha] at V1
    go_enter Tryz.func81, Tryz.ntmps81
    go_wp2_with fail
    refine (V1 _).mono ?_
    rintro e w1 ⟨rfl, hb1⟩
    go_wp2
    go_ret2
    exact ⟨⟨_, rfl, rfl⟩, hb1⟩
  | true =>
    have hb : okS b = false := by rcases h with h | h; rw [ha] at h; cases h; exact h
    rw [ha] at V1
    rw [hb] at V2
    go_enter Tryz.func81, Tryz.ntmps81
    go_wp2_with fail
    refine (V1 _).mono ?_
    rintro e w1 ⟨rfl, hb1⟩
    go_wp2_with fail
    refine (V2 _).mono ?_
    rintro e w2 ⟨rfl, hb2⟩
    go_wp2
    go_ret2
    exact ⟨⟨_, rfl, rfl⟩, (kb_call hb2 hb1 (Nat.le_refl _))⟩
/-- putlogref03.Mul. -/
theorem rmul_any (a b : ByteArray) (hsa : a.size ≤ 9223372036854775807) (hsb : b.size ≤ 9223372036854775807) (w : World) :
    Calls Tryz.prog 81 #[.string a, .string b] w (Gives w fun r _ => r = resT (okS a && okS b) (zS a * zS b)) := by
  by_cases h : okS a = true ∧ okS b = true
  · rw [h.1, h.2]; exact rmul_ok a b h.1 h.2 hsa hsb w
  · rw [(and_false_of h).1, res_no _ 0]; exact rmul_bad a b (and_false_of h).2 hsa hsb w

set_option maxRecDepth 100000 in
set_option maxHeartbeats 8000000 in
theorem rgcd_ok (a b : ByteArray) (ha : okS a = true) (hb : okS b = true) (hsa : a.size ≤ 9223372036854775807) (hsb : b.size ≤ 9223372036854775807) (w : World) :
    Calls Tryz.prog 75 #[.string a, .string b] w (Gives w fun r _ => r = resT true (gcdZ (zS a) (zS b))) := by
  have V1 := fun W => rvalid_any a hsa W
  have V2 := fun W => rvalid_any b hsb W
  have D1 := fun W => rdigits_any a ha W
  have D2 := fun W => rdigits_any b hb W
  have Sa := z_bound ha
  have Sb := z_bound hb
  rw [ha] at V1
  rw [hb] at V2
  have G0 := Lib.hid (gcdZ_abs (zS a) (zS b))
  go_enter Tryz.func75, Tryz.ntmps75
  go_wp2_with fail
  refine (V1 _).mono ?_
  rintro e w1 ⟨rfl, hb1⟩
  go_wp2_with fail
  refine (V2 _).mono ?_
  rintro e w2 ⟨rfl, hb2⟩
  have hB2 := kb_call hb2 hb1 (Nat.le_refl _)
  go_wp2_with fail
  refine (D1 _).mono ?_
  rintro e w3 ⟨⟨r, rfl, v, xs, rfl, hx, hnx⟩, hb3⟩
  have hB3 := kb_call hb3 hB2 (Nat.le_refl _)
  have lx := len10 hnx Sa
  go_wp2_with fail
  refine (D2 _).mono ?_
  rintro e w4 ⟨⟨r, rfl, u, ys, rfl, hy, hny⟩, hb4⟩
  have hB4 := kb_call hb4 hB3 (Nat.le_refl _)
  have ly := len10 hny Sb
  have hx4 := hx.below hb4
  clear hb1 hb2 hb3 hb4 hB2 hB3 hx
  have Bx := abs_big Sa
  have By := abs_big Sb
  obtain ⟨a1, c1, rfl⟩ := hx4.shape
  obtain ⟨a2, c2, rfl⟩ := hy.shape
  generalize decide (zS a < 0) = s at *
  generalize decide (zS b < 0) = t at *
  go_wp2
  go_loopw [7, 9] (fun k l wr => ∃ a3 c3 a4 c4 ks ls m n, k = .slice a3 ks.length c3 ∧ l = .slice a4 ls.length c4 ∧ Sl wr (.slice a3 ks.length c3) ks ∧ Sl wr (.slice a4 ls.length c4) ls ∧ Num 10 ks m ∧ Num 10 ls n ∧ m < Big ∧ n < Big ∧
      Hid (gcdZ m n = gcdZ (zS a) (zS b)) ∧ Below w.heap.size w wr)
    (fun _ l wr => (val 10 (rdSl wr l)).toNat)
  case atStart => exact ⟨_, _, _, _, _, _, _, _, rfl, rfl, hx4, hy, hnx, hny, Bx, By, G0.out, hB4⟩
  case round =>
    clear hx4 hy hnx hny Bx By hB4 G0 Sa Sb lx ly
    obtain ⟨a3, c3, a4, c4, ks, ls, m, n, rfl, rfl, hk, hl, hnk, hnl, Bm, Bn, hG, hW⟩ := hrel
    have lk : ks.length ≤ 200 := hnk.length_le (by decide) Bm
    have ll : ls.length ≤ 200 := hnl.length_le (by decide) Bn
    by_cases h0 : 0 < ls.length
    · have hn0 : 0 < n := by
        have := hnl.nonneg (by decide)
        have h1 : ¬ n = 0 := fun e => by have := (hnl.zero_iff (by decide)).2 e; rw [this] at h0; simp at h0
        omega
      have hm0 := hnk.nonneg (by decide)
      have hrd := Lib.hid hl.rd
      go_wp2_with fail
      refine (divided_any _ _ ks ls n _ hk hl hnk.dig hnl hn0 (by omega) (by omega)).mono ?_
      rintro e w2 ⟨⟨r, rfl, r1, r2, qs, rs, rfl, hq, hnq, hr, hnr⟩, hb2⟩
      rw [hnk.val] at hnq hnr
      obtain ⟨a5, c5, rfl⟩ := hq.shape
      obtain ⟨a6, c6, rfl⟩ := hr.shape
      have hlt := Int.emod_lt_of_pos m hn0
      have hmod := Int.emod_nonneg m (by omega : n ≠ 0)
      have hl2 := hl.below hb2
      have hrd2 := Lib.hid hr.rd
      have hW2 := kb_call hb2 hW (Nat.le_refl _)
      go_wp2
      go_roundw
      case rel => exact ⟨_, _, _, _, ls, rs, n, m % n, rfl, rfl, hl2, hr, hnl, hnr, Bn, by omega, (gcdZ_step hm0 hn0).trans hG.out, hW2⟩
      case measure =>
        show (val 10 (rdSl _ _)).toNat < (val 10 (rdSl _ _)).toNat
        rw [hrd.out, hrd2.out, hnl.val, hnr.val]
        omega
    · have e0 : ls = [] := List.eq_nil_of_length_eq_zero (by omega)
      have en := (hnl.zero_iff (by decide)).1 e0
      subst e0 en
      have hm0 := hnk.nonneg (by decide)
      have hf : sgn false m = gcdZ (zS a) (zS b) := by rw [← hG.out, gcdZ_zero hm0]; rfl
      have HF := Lib.hid hf
      have hsm : Small (gcdZ (zS a) (zS b)) := by rw [← hf]; unfold Small sgn; simp; omega
      have HS := Lib.hid (res_small hsm)
      clear hf hG hsm
      go_wp2_with fail
      refine (checked_any false _ ks m _ hk hnk (by omega)).mono ?_
      rintro e w2 ⟨⟨r, rfl, rfl⟩, hb2⟩
      rw [HF.out, HS.out]
      go_wp2
      go_ret2
      exact ⟨⟨_, rfl, HS.out.symm⟩, kb_call hb2 hW (Nat.le_refl _)⟩
set_option maxRecDepth 100000 in
set_option maxHeartbeats 4000000 in
theorem rgcd_bad (a b : ByteArray) (h : okS a = false ∨ okS b = false) (hsa : a.size ≤ 9223372036854775807) (hsb : b.size ≤ 9223372036854775807) (w : World) :
    Calls Tryz.prog 75 #[.string a, .string b] w (Gives w fun r _ => r = resT false 0) := by
  have V1 := fun W => rvalid_any a hsa W
  have V2 := fun W => rvalid_any b hsb W
  cases ha : okS a with
  | false =>
    rw [ha] at V1
    go_enter Tryz.func75, Tryz.ntmps75
    go_wp2_with fail
    refine (V1 _).mono ?_
    rintro e w1 ⟨rfl, hb1⟩
    go_wp2
    go_ret2
    exact ⟨⟨_, rfl, rfl⟩, hb1⟩
  | true =>
    have hb : okS b = false := by rcases h with h | h; rw [ha] at h; cases h; exact h
    rw [ha] at V1
    rw [hb] at V2
    go_enter Tryz.func75, Tryz.ntmps75
    go_wp2_with fail
    refine (V1 _).mono ?_
    rintro e w1 ⟨rfl, hb1⟩
    go_wp2_with fail
    refine (V2 _).mono ?_
    rintro e w2 ⟨rfl, hb2⟩
    go_wp2
    go_ret2
    exact ⟨⟨_, rfl, rfl⟩, (kb_call hb2 hb1 (Nat.le_refl _))⟩
/-- putlogref03.Gcd. -/
theorem rgcd_any (a b : ByteArray) (hsa : a.size ≤ 9223372036854775807) (hsb : b.size ≤ 9223372036854775807) (w : World) :
    Calls Tryz.prog 75 #[.string a, .string b] w (Gives w fun r _ => r = resT (okS a && okS b) (gcdZ (zS a) (zS b))) := by
  by_cases h : okS a = true ∧ okS b = true
  · rw [h.1, h.2]; exact rgcd_ok a b h.1 h.2 hsa hsb w
  · rw [(and_false_of h).1, res_no _ 0]; exact rgcd_bad a b (and_false_of h).2 hsa hsb w

theorem num_one10 : Num 10 [1] 1 := by
  refine ⟨fun x hx => ?_, fun j hj => ?_, rfl⟩
  · simp at hx; subst hx; omega
  · have e : j = 0 := by simp at hj; omega
    subst e; decide
set_option maxRecDepth 100000 in
set_option maxHeartbeats 8000000 in
theorem rdiv_plain (a b : ByteArray) (ha : okS a = true) (hb : okS b = true) (hsa : a.size ≤ 9223372036854775807) (hsb : b.size ≤ 9223372036854775807) (h0 : zS b ≠ 0) (hneg : ¬ (zS a < 0 ∧ 0 < ((zS a).natAbs : Int) % (zS b).natAbs)) (w : World) :
    Calls Tryz.prog 68 #[.string a, .string b] w (Gives w fun r _ => r = divT true (zS a) (zS b)) := by
  have V1 := fun W => rvalid_any a hsa W
  have V2 := fun W => rvalid_any b hsb W
  have D1 := fun W => rdigits_any a ha W
  have D2 := fun W => rdigits_any b hb W
  have Sa := z_bound ha
  have Sb := z_bound hb
  rw [ha] at V1
  rw [hb] at V2
  have hp := div_parts (zS a) (zS b) h0
  have hsm := div_small (x := zS a) (y := zS b) Sa
  rw [if_neg hneg, if_neg hneg] at hp
  have hne := (okS_zeros hb).2 h0
  have hm : (0 : Int) < (zS b).natAbs := by omega
  have HN := Lib.hid hneg
  have HP := Lib.hid hp
  have HS := Lib.hid (res_small hsm.1)
  have HD := Lib.hid (show divT true (zS a) (zS b) = .tuple #[.string ⟨(Lib.itoa (zS a / zS b)).toArray⟩, .string ⟨(Lib.itoa (zS a % zS b)).toArray⟩, .int .i64 0] by unfold divT; rw [if_pos]; simpa using h0)
  clear hneg hp hsm h0
  go_enter Tryz.func68, Tryz.ntmps68
  go_wp2_with fail
  refine (V1 _).mono ?_
  rintro e w1 ⟨rfl, hb1⟩
  go_wp2_with fail
  refine (V2 _).mono ?_
  rintro e w2 ⟨rfl, hb2⟩
  have hB2 := kb_call hb2 hb1 (Nat.le_refl _)
  go_wp2_with fail
  refine (D1 _).mono ?_
  rintro e w3 ⟨⟨r, rfl, v, xs, rfl, hx, hnx⟩, hb3⟩
  have hB3 := kb_call hb3 hB2 (Nat.le_refl _)
  have lx := len10 hnx Sa
  go_wp2_with fail
  refine (D2 _).mono ?_
  rintro e w4 ⟨⟨r, rfl, u, ys, rfl, hy, hny⟩, hb4⟩
  have hB4 := kb_call hb4 hB3 (Nat.le_refl _)
  have ly := len10 hny Sb
  have hx4 := hx.below hb4
  clear hb1 hb2 hb3 hb4 hB2 hB3 hx
  go_wp2_with fail
  refine (divided_any _ _ xs ys _ _ hx4 hy hnx.dig hny hm (by omega) (by omega)).mono ?_
  rintro e w5 ⟨⟨r, rfl, r1, r2, qs, rs, rfl, hq, hnq, hr, hnr⟩, hb5⟩
  rw [hnx.val] at hnq hnr
  have hB5 := kb_call hb5 hB4 (Nat.le_refl _)
  have lq := hnq.len_le (by decide) hnx (Int.ediv_le_self _ (by omega))
  have lr := hnr.len_le (by decide) hny (Int.le_of_lt (Int.emod_lt_of_pos _ hm))
  obtain ⟨a5, c5, rfl⟩ := hr.shape
  have hcond : decide (zS a < 0) = true → ¬ (0 : Int) < (rs.length : Int) := by
    intro hst hl
    have hxn : zS a < 0 := of_decide_eq_true hst
    have : ¬ ((zS a).natAbs : Int) % (zS b).natAbs = 0 := fun e => by
      have := (hnr.zero_iff (by decide)).2 e
      rw [this] at hl; simp at hl
    exact HN.out ⟨hxn, by have := hnr.nonneg (by decide); omega⟩
  have hP1 := HP.out.1
  have hP2 := HP.out.2
  generalize ((zS a).natAbs : Int) / (zS b).natAbs = Q at *
  generalize ((zS a).natAbs : Int) % (zS b).natAbs = R at *
  generalize decide (zS b < 0) = t at *
  generalize decide (zS a < 0) = s at *
  have HP1 := Lib.hid hP1
  have HP2 := Lib.hid hP2
  clear hP1 hP2 HN HP
  cases s
  all_goals
    try have hc2 := hcond rfl
    clear hcond
    go_wp2_with fail
    refine (checked_any _ _ qs _ _ hq hnq (by omega)).mono ?_
    rintro e w8 ⟨⟨r, rfl, rfl⟩, hb8⟩
    have hr8 := hr.below hb8
    first | rw [show sgn t Q = zS a / zS b by rw [← HP1.out]; cases t <;> rfl, HS.out] | rw [show sgn (!t) Q = zS a / zS b by rw [← HP1.out]; cases t <;> rfl, HS.out]
    go_wp2_with fail
    refine (rtext_any false _ rs _ _ hr8 hnr (by omega)).mono ?_
    rintro e w9 ⟨rfl, hb9⟩
    rw [show sgn false R = zS a % zS b from HP2.out]
    go_wp2
    refine bodyPost_ret (v := .tuple #[.string ⟨(Lib.itoa (zS a / zS b)).toArray⟩, .string ⟨(Lib.itoa (zS a % zS b)).toArray⟩, .int .i64 0]) (by simp [results, Tryz.results68, go_sem]) rfl ?_
    exact ⟨⟨_, rfl, HD.out.symm⟩, kb_call hb9 (kb_call hb8 hB5 (Nat.le_refl _)) (Nat.le_refl _)⟩

set_option maxRecDepth 100000 in
set_option maxHeartbeats 8000000 in
theorem rdiv_round (a b : ByteArray) (ha : okS a = true) (hb : okS b = true) (hsa : a.size ≤ 9223372036854775807) (hsb : b.size ≤ 9223372036854775807) (h0 : zS b ≠ 0) (hneg : zS a < 0 ∧ 0 < ((zS a).natAbs : Int) % (zS b).natAbs) (w : World) :
    Calls Tryz.prog 68 #[.string a, .string b] w (Gives w fun r _ => r = divT true (zS a) (zS b)) := by
  have V1 := fun W => rvalid_any a hsa W
  have V2 := fun W => rvalid_any b hsb W
  have D1 := fun W => rdigits_any a ha W
  have D2 := fun W => rdigits_any b hb W
  have Sa := z_bound ha
  have Sb := z_bound hb
  rw [ha] at V1
  rw [hb] at V2
  have hp := div_parts (zS a) (zS b) h0
  have hsm := div_small (x := zS a) (y := zS b) Sa
  rw [if_pos hneg, if_pos hneg] at hp
  have hne := (okS_zeros hb).2 h0
  have hm : (0 : Int) < (zS b).natAbs := by omega
  have HN := Lib.hid hneg
  have HP := Lib.hid hp
  have HS := Lib.hid (res_small hsm.1)
  have HD := Lib.hid (show divT true (zS a) (zS b) = .tuple #[.string ⟨(Lib.itoa (zS a / zS b)).toArray⟩, .string ⟨(Lib.itoa (zS a % zS b)).toArray⟩, .int .i64 0] by unfold divT; rw [if_pos]; simpa using h0)
  clear hneg hp hsm h0
  go_enter Tryz.func68, Tryz.ntmps68
  go_wp2_with fail
  refine (V1 _).mono ?_
  rintro e w1 ⟨rfl, hb1⟩
  go_wp2_with fail
  refine (V2 _).mono ?_
  rintro e w2 ⟨rfl, hb2⟩
  have hB2 := kb_call hb2 hb1 (Nat.le_refl _)
  go_wp2_with fail
  refine (D1 _).mono ?_
  rintro e w3 ⟨⟨r, rfl, v, xs, rfl, hx, hnx⟩, hb3⟩
  have hB3 := kb_call hb3 hB2 (Nat.le_refl _)
  have lx := len10 hnx Sa
  go_wp2_with fail
  refine (D2 _).mono ?_
  rintro e w4 ⟨⟨r, rfl, u, ys, rfl, hy, hny⟩, hb4⟩
  have hB4 := kb_call hb4 hB3 (Nat.le_refl _)
  have ly := len10 hny Sb
  have hx4 := hx.below hb4
  clear hb1 hb2 hb3 hb4 hB2 hB3 hx
  go_wp2_with fail
  refine (divided_any _ _ xs ys _ _ hx4 hy hnx.dig hny hm (by omega) (by omega)).mono ?_
  rintro e w5 ⟨⟨r, rfl, r1, r2, qs, rs, rfl, hq, hnq, hr, hnr⟩, hb5⟩
  rw [hnx.val] at hnq hnr
  have hB5 := kb_call hb5 hB4 (Nat.le_refl _)
  have lq := hnq.len_le (by decide) hnx (Int.ediv_le_self _ (by omega))
  have lr := hnr.len_le (by decide) hny (Int.le_of_lt (Int.emod_lt_of_pos _ hm))
  obtain ⟨a5, c5, rfl⟩ := hr.shape
  have hsb : decide (zS a < 0) = true := decide_eq_true HN.out.1
  rw [hsb]
  have hrl : (0 : Int) < (rs.length : Int) := by
    have : rs ≠ [] := fun e => by
      have := (hnr.zero_iff (by decide)).1 e
      have := HN.out.2
      omega
    have := List.length_pos_iff.2 this
    omega
  have hle : ((zS a).natAbs : Int) % (zS b).natAbs ≤ (zS b).natAbs := Int.le_of_lt (Int.emod_lt_of_pos _ hm)
  have hy5 := hy.below hb5
  have hP1 : sgn (true != decide (zS b < 0)) (((zS a).natAbs : Int) / (zS b).natAbs + 1) = zS a / zS b := by rw [← hsb]; exact HP.out.1
  have hP2 := HP.out.2
  generalize ((zS a).natAbs : Int) / (zS b).natAbs = Q at *
  generalize ((zS a).natAbs : Int) % (zS b).natAbs = R at *
  generalize decide (zS b < 0) = t at *
  have HP1 := Lib.hid (show sgn (!t) (Q + 1) = zS a / zS b by rw [← hP1]; cases t <;> rfl)
  have HP2 := Lib.hid hP2
  clear hP1 hP2 hsb HN
  go_wp2_with fail
  have hba : Below w5.heap.size w5 (w5.alloc (.cells #[.int .i64 1] 3)) := (Below.refl _ _).alloc (Nat.le_refl _) _
  refine (rplus_any _ _ qs [1] Q 1 _ (hq.below hba) (Sl.of_own (own_lit w5 1)) hnq num_one10 (by omega) (by decide)).mono ?_
  rintro e w6 ⟨⟨r, rfl, zs, hz, hnz⟩, hb6⟩
  have hB6 := kb_call hb6 (kb_call hba hB5 (Nat.le_refl _)) (Nat.le_refl _)
  have hr6 := (hr.below hba).below hb6
  have hy6 := (hy5.below hba).below hb6
  obtain ⟨a6, c6, rfl⟩ := hz.shape
  have lz : zs.length ≤ 201 := hnz.length_le (by decide) (by
    have h1 := hnq.lt (by decide)
    have h2 := pow_mono (b := 10) (by decide) (show qs.length ≤ 200 by omega)
    have h3 : (10 : Int) ^ 201 = 10 ^ 200 * 10 := Int.pow_succ ..
    have h4 : (0 : Int) < 10 ^ 200 := Int.pow_pos (by decide)
    generalize (10 : Int) ^ 200 = P at *
    generalize (10 : Int) ^ 201 = P' at *
    omega)
  go_wp2_with fail
  refine (rminus_any _ _ ys rs _ R _ hy6 hr6 hny hnr hle (by omega)).mono ?_
  rintro e w7 ⟨⟨r, rfl, ws, hw7, hnw⟩, hb7⟩
  have hB7 := kb_call hb7 hB6 (Nat.le_refl _)
  have hz7 := hz.below hb7
  have lw := hnw.len_le (by decide) hny (by have := hnr.nonneg (by decide); omega)
  go_wp2_with fail
  refine (checked_any (!t) _ zs _ _ hz7 hnz (by omega)).mono ?_
  rintro e w8 ⟨⟨r, rfl, rfl⟩, hb8⟩
  have hw8 := hw7.below hb8
  rw [HP1.out, HS.out]
  go_wp2_with fail
  refine (rtext_any false _ ws _ _ hw8 hnw (by omega)).mono ?_
  rintro e w9 ⟨rfl, hb9⟩
  rw [show sgn false (((zS b).natAbs : Int) - R) = zS a % zS b from HP2.out]
  go_wp2
  refine bodyPost_ret (v := .tuple #[.string ⟨(Lib.itoa (zS a / zS b)).toArray⟩, .string ⟨(Lib.itoa (zS a % zS b)).toArray⟩, .int .i64 0]) (by simp [results, Tryz.results68, go_sem]) rfl ?_
  exact ⟨⟨_, rfl, HD.out.symm⟩, kb_call hb9 (kb_call hb8 hB7 (Nat.le_refl _)) (Nat.le_refl _)⟩

set_option maxRecDepth 100000 in
set_option maxHeartbeats 8000000 in
theorem rdiv_zero (a b : ByteArray) (ha : okS a = true) (hb : okS b = true) (hsa : a.size ≤ 9223372036854775807) (hsb : b.size ≤ 9223372036854775807) (h0 : zS b = 0) (w : World) :
    Calls Tryz.prog 68 #[.string a, .string b] w (Gives w fun r _ => r = divT true (zS a) (zS b)) := by
  have V1 := fun W => rvalid_any a hsa W
  have V2 := fun W => rvalid_any b hsb W
  rw [ha] at V1
  rw [hb] at V2
  have hE := Lib.hid (show divT true (zS a) (zS b) = .tuple #[.string ⟨#[]⟩, .string ⟨#[]⟩, .int .i64 30] by rw [h0]; simp [divT])
  have e := (okS_zeros hb).1 h0
  subst e
  clear h0
  go_enter Tryz.func68, Tryz.ntmps68
  go_wp2_with fail
  refine (V1 _).mono ?_
  rintro e w1 ⟨rfl, hb1⟩
  go_wp2_with fail
  refine (V2 _).mono ?_
  rintro e w2 ⟨rfl, hb2⟩
  go_wp2
  refine bodyPost_ret (v := .tuple #[.string ⟨#[]⟩, .string ⟨#[]⟩, .int .i64 30]) (by simp [results, Tryz.results68, go_sem]) rfl ?_
  exact ⟨⟨_, rfl, hE.out.symm⟩, kb_call hb2 hb1 (Nat.le_refl _)⟩
set_option maxRecDepth 100000 in
set_option maxHeartbeats 4000000 in
theorem rdiv_bad (a b : ByteArray) (h : okS a = false ∨ okS b = false) (hsa : a.size ≤ 9223372036854775807) (hsb : b.size ≤ 9223372036854775807) (w : World) :
    Calls Tryz.prog 68 #[.string a, .string b] w (Gives w fun r _ => r = divT false 0 0) := by
  have V1 := fun W => rvalid_any a hsa W
  have V2 := fun W => rvalid_any b hsb W
  cases ha : okS a with
  | false =>
    rw [ha] at V1
    go_enter Tryz.func68, Tryz.ntmps68
    go_wp2_with fail
    refine (V1 _).mono ?_
    rintro e w1 ⟨rfl, hb1⟩
    go_wp2
    refine bodyPost_ret (v := .tuple #[.string ⟨#[]⟩, .string ⟨#[]⟩, .int .i64 30]) (by simp [results, Tryz.results68, go_sem]) rfl ?_
    exact ⟨⟨_, rfl, rfl⟩, hb1⟩
  | true =>
    have hb : okS b = false := by rcases h with h | h; rw [ha] at h; cases h; exact h
    rw [ha] at V1
    rw [hb] at V2
    go_enter Tryz.func68, Tryz.ntmps68
    go_wp2_with fail
    refine (V1 _).mono ?_
    rintro e w1 ⟨rfl, hb1⟩
    go_wp2_with fail
    refine (V2 _).mono ?_
    rintro e w2 ⟨rfl, hb2⟩
    go_wp2
    refine bodyPost_ret (v := .tuple #[.string ⟨#[]⟩, .string ⟨#[]⟩, .int .i64 30]) (by simp [results, Tryz.results68, go_sem]) rfl ?_
    exact ⟨⟨_, rfl, rfl⟩, (kb_call hb2 hb1 (Nat.le_refl _))⟩
/-- putlogref03.Div. -/
theorem rdiv_any (a b : ByteArray) (hsa : a.size ≤ 9223372036854775807) (hsb : b.size ≤ 9223372036854775807) (w : World) :
    Calls Tryz.prog 68 #[.string a, .string b] w (Gives w fun r _ => r = divT (okS a && okS b) (zS a) (zS b)) := by
  by_cases h : okS a = true ∧ okS b = true
  · rw [h.1, h.2]
    by_cases h0 : zS b = 0
    · exact rdiv_zero a b h.1 h.2 hsa hsb h0 w
    · by_cases hneg : zS a < 0 ∧ 0 < ((zS a).natAbs : Int) % (zS b).natAbs
      · exact rdiv_round a b h.1 h.2 hsa hsb h0 hneg w
      · exact rdiv_plain a b h.1 h.2 hsa hsb h0 hneg w
  · rw [(and_false_of h).1]
    exact (rdiv_bad a b (and_false_of h).2 hsa hsb w).mono fun _ _ h => h
end Go.Proofs.YtebokdboodgkpaaGreatDoor

/- The reference: Root of whatever text, FromInt, ToInt. -/
namespace Go.Proofs.YtebokdboodgkpaaGreatDoor
open Go.RowKit
attribute [local go_sem] Oper.semAt_some

/-- The digits of a number that were taken, and what is left of it. -/
def FT (zs : List Int) (M N : Int) : Prop := Dig 10 zs ∧ val 10 zs + M * 10 ^ zs.length = N ∧ (M = 0 → Top zs)
theorem FT.start (N : Int) : FT [] N N := ⟨Dig.nil 10, by simp [val], fun _ k hk => by simp at hk⟩
theorem FT.next {zs : List Int} {M N : Int} (h : FT zs M N) (h0 : 0 < M) : FT (zs ++ [M % 10]) (M / 10) N := by
  obtain ⟨h1, h2, h3⟩ := h
  refine ⟨h1.snoc (by omega) (by omega), ?_, fun e => (top_snoc (by omega)).out⟩
  rw [val_snoc, List.length_append, List.length_singleton, Int.pow_succ, ← h2]
  have e : M = M % 10 + 10 * (M / 10) := by omega
  have e2 : M * 10 ^ zs.length = M % 10 * 10 ^ zs.length + 10 * (M / 10) * 10 ^ zs.length := by rw [← Int.add_mul, ← e]
  have e3 : M / 10 * (10 ^ zs.length * 10) = 10 * (M / 10) * 10 ^ zs.length := by
    rw [Int.mul_comm (10 ^ zs.length) 10, ← Int.mul_assoc, Int.mul_comm (M / 10) 10]
  omega
theorem FT.len {zs : List Int} {M N : Int} (h : FT zs M N) (h0 : 0 < M) (hN : N < 10 ^ 20) : zs.length < 20 := by
  obtain ⟨h1, h2, _⟩ := h
  have h3 := (val_bounds (by decide) h1).1
  have h4 := Int.mul_le_mul_of_nonneg_right (show (1 : Int) ≤ M by omega) (Int.le_of_lt (pow_pos' (b := 10) (by decide) zs.length))
  exact pow_lt (b := 10) (by decide) (by omega)
theorem FT.num {zs : List Int} {N : Int} (h : FT zs 0 N) : Num 10 zs N := ⟨h.1, h.2.2 rfl, by have := h.2.1; omega⟩

theorem tdiv_eq_neg {x k : Int} (h : x < 0) : x.tdiv k = -((-x) / k) := by
  rw [Go.tdiv_eq_if, if_neg (by omega)]
theorem tmod_eq_neg {x k : Int} (h : x < 0) : x.tmod k = -((-x) % k) := by
  rw [Go.tmod_eq_if, if_neg (by omega)]
set_option maxRecDepth 100000 in
set_option maxHeartbeats 8000000 in
theorem rfrom_pos (n : Int) (h0 : 0 ≤ n) (h1 : n ≤ 9223372036854775807) (w : World) :
    Calls Tryz.prog 58 #[.int .i64 n] w (Gives w fun r _ => r = .string (I n)) := by
  have HS := Lib.hid (show sgn (decide (n < 0)) n = n by rw [decide_eq_false (by omega)]; rfl)
  go_enter Tryz.func58, Tryz.ntmps58
  go_wp2
  go_loopw [3, 4] (fun o m wr => ∃ (M : Int) (zs : List Int), m = .int .i64 M ∧ 0 ≤ M ∧ M ≤ 9223372036854775807 ∧ Hid (FT zs M n) ∧ zs.length ≤ 20 ∧ wr.ownsRow w.heap.size 3 1 o zs.length (zs.map (Value.int .i64)) ∧ Below w.heap.size w wr)
    (fun _ m _ => (intOf m).toNat)
  case atStart => exact ⟨n, [], rfl, h0, h1, FT.start n, by simp, World.ownsRow_nil _ _ _ _, Below.refl _ _⟩
  case round =>
    obtain ⟨M, zs, rfl, hM0, hM1, hF, hlen, hown, hB⟩ := hrel
    by_cases hz : M = 0
    · subst hz
      have hsl := Sl.of_own hown
      have hnum := hF.out.num
      clear hown
      go_wp2_with fail
      refine (rtext_any _ _ zs _ _ hsl hnum (by omega)).mono ?_
      rintro e w2 ⟨rfl, hb2⟩
      go_wp2
      go_ret
      exact ⟨⟨_, rfl, congrArg (fun z => Value.string ⟨(Lib.itoa z).toArray⟩) HS.out⟩, kb_call hb2 hB (Nat.le_refl _)⟩
    · have hMp : 0 < M := by omega
      have hl20 := hF.out.len hMp (by omega)
      have HF := Lib.hid (hF.out.next hMp)
      clear hlen
      go_wp2_with (at_builtin; refine wp_app_int (M % 10) 35 Tryz.underlying35 rfl _ _ rfl rfl rfl hown (by omega) hB.size ?_; intro g cp w2 hown2 hg2 hb2)
      go_roundw
      case rel => exact ⟨M / 10, zs ++ [M % 10], rfl, by omega, by omega, HF.out, (by rw [List.length_append]; simp; omega), (by rw [List.length_append]; exact hown2), hB.trans hb2⟩
      case measure => simp [intOf]; omega
set_option maxRecDepth 100000 in
set_option maxHeartbeats 8000000 in
theorem rfrom_neg (n : Int) (h0 : n < 0) (h1 : -9223372036854775808 ≤ n) (w : World) :
    Calls Tryz.prog 58 #[.int .i64 n] w (Gives w fun r _ => r = .string (I n)) := by
  have HS := Lib.hid (show sgn true (-n) = n by show -(-n) = n; omega)
  go_enter Tryz.func58, Tryz.ntmps58
  go_wp2
  go_loopw [3, 4] (fun o m wr => ∃ (M : Int) (zs : List Int), m = .int .i64 M ∧ M ≤ 0 ∧ -9223372036854775808 ≤ M ∧ Hid (FT zs (-M) (-n)) ∧ zs.length ≤ 20 ∧ wr.ownsRow w.heap.size 3 1 o zs.length (zs.map (Value.int .i64)) ∧ Below w.heap.size w wr)
    (fun _ m _ => (-intOf m).toNat)
  case atStart => exact ⟨n, [], rfl, by omega, h1, FT.start (-n), by simp, World.ownsRow_nil _ _ _ _, Below.refl _ _⟩
  case round =>
    obtain ⟨M, zs, rfl, hM0, hM1, hF, hlen, hown, hB⟩ := hrel
    by_cases hz : M = 0
    · subst hz
      have hsl := Sl.of_own hown
      have hnum := hF.out.num
      clear hown
      go_wp2_with fail
      refine (rtext_any _ _ zs _ _ hsl hnum (by omega)).mono ?_
      rintro e w2 ⟨rfl, hb2⟩
      go_wp2
      go_ret
      exact ⟨⟨_, rfl, congrArg (fun z => Value.string ⟨(Lib.itoa z).toArray⟩) HS.out⟩, kb_call hb2 hB (Nat.le_refl _)⟩
    · have hMp : 0 < -M := by omega
      have hl20 := hF.out.len hMp (by omega)
      have HF := Lib.hid (hF.out.next hMp)
      have q1 : M.tdiv 10 = -((-M) / 10) := by rw [tdiv_eq_neg (by omega)]
      have q2 : M.tmod 10 = -((-M) % 10) := by rw [tmod_eq_neg (by omega)]
      have Q1 := Lib.hid q1
      have Q2 := Lib.hid q2
      have d0 : -9 ≤ M.tmod 10 := by omega
      have d1 : M.tmod 10 ≤ 0 := by omega
      clear hlen q1 q2
      by_cases hd : M.tmod 10 < 0
      · go_wp2_with (at_builtin; refine wp_app_int (-(M.tmod 10)) 35 Tryz.underlying35 rfl _ _ rfl rfl rfl hown (by omega) hB.size ?_; intro g cp w2 hown2 hg2 hb2)
        go_roundw
        case rel => exact ⟨M.tdiv 10, zs ++ [-(M.tmod 10)], rfl, by have := Q1.out; omega, by have := Q1.out; omega, (show FT _ _ _ by rw [Q1.out, Q2.out, Int.neg_neg, Int.neg_neg]; exact HF.out), (by rw [List.length_append]; simp; omega), (by rw [List.length_append]; exact hown2), hB.trans hb2⟩
        case measure => have := Q1.out; simp [intOf]; omega
      · have hd0 : M.tmod 10 = 0 := by omega
        have HD0 := Lib.hid hd0
        clear hd0
        go_wp2_with (at_builtin; refine wp_app_int (M.tmod 10) 35 Tryz.underlying35 rfl _ _ rfl rfl rfl hown (by omega) hB.size ?_; intro g cp w2 hown2 hg2 hb2)
        go_roundw
        case rel => exact ⟨M.tdiv 10, zs ++ [M.tmod 10], rfl, by have := Q1.out; omega, by have := Q1.out; omega, (show FT _ _ _ by
          have e : M.tmod 10 = -M % 10 := by have := Q2.out; have := HD0.out; omega
          rw [Q1.out, e, Int.neg_neg]; exact HF.out), (by rw [List.length_append]; simp; omega), (by rw [List.length_append]; exact hown2), hB.trans hb2⟩
        case measure => have := Q1.out; simp [intOf]; omega

/-- putlogref03.FromInt. -/
theorem rfrom_any (n : Int) (h0 : -9223372036854775808 ≤ n) (h1 : n ≤ 9223372036854775807) (w : World) :
    Calls Tryz.prog 58 #[.int .i64 n] w (Gives w fun r _ => r = .string (I n)) := by
  by_cases h : n < 0
  · exact rfrom_neg n h h0 w
  · exact rfrom_pos n (by omega) h1 w
end Go.Proofs.YtebokdboodgkpaaGreatDoor

/- The reference: ToInt. -/
namespace Go.Proofs.YtebokdboodgkpaaGreatDoor
open Go.RowKit
attribute [local go_sem] Oper.semAt_some

theorem dnum_take_le (l : List UInt8) (k : Nat) : dnum (l.take k) ≤ dnum l := by
  have h := dnum_append (l.take k) (l.drop k)
  rw [List.take_append_drop] at h
  have h2 := Nat.le_mul_of_pos_right (dnum (l.take k)) (Nat.pow_pos (n := (l.drop k).length) (by decide : 0 < 10))
  omega
/-- One byte more of a text's digits. -/
theorem dnum_next {l : List UInt8} {k : Nat} (h : k < l.length) (hd : 48 ≤ (l[k]).toNat) : (dnum (l.take (k + 1)) : Int) = 10 * (dnum (l.take k) : Int) + ((l[k].toNat : Int) - 48) := by
  rw [List.take_succ_eq_append_getElem h, dnum_snoc]
  omega

def minS : ByteArray := ⟨#[45, 57, 50, 50, 51, 51, 55, 50, 48, 51, 54, 56, 53, 52, 55, 55, 53, 56, 48, 56]⟩
def maxS : ByteArray := ⟨#[57, 50, 50, 51, 51, 55, 50, 48, 51, 54, 56, 53, 52, 55, 55, 53, 56, 48, 55]⟩
theorem minS_ok : okS minS = true ∧ zS minS = -9223372036854775808 := by decide +kernel
theorem maxS_ok : okS maxS = true ∧ zS maxS = 9223372036854775807 := by decide +kernel
theorem cmp_min (s : ByteArray) (h : okS s = true) : cmpS s minS = Lib.compareInt (zS s) (-9223372036854775808) := by
  unfold cmpS; rw [minS_ok.1, minS_ok.2, h]; rfl
theorem cmp_max (s : ByteArray) (h : okS s = true) : cmpS s maxS = Lib.compareInt (zS s) 9223372036854775807 := by
  unfold cmpS; rw [maxS_ok.1, maxS_ok.2, h]; rfl

end Go.Proofs.YtebokdboodgkpaaGreatDoor
