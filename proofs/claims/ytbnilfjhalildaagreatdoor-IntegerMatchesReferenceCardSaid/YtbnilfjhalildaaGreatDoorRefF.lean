/- The reference: times. -/
import Derived.Test.YtbnilfjhalildaaGreatDoorRefE
import Derived.Test.YtbnilfjhalildaaGreatDoorRoot
import Derived.Test.YtbnilfjhalildaaGreatDoorOver
namespace Go.Proofs.YtbnilfjhalildaaGreatDoor
open Go.RowKit
attribute [local go_sem] Oper.semAt_some

/-- Block G holds the integers xs, and nothing else. -/
def IB (w : World) (G : Nat) (xs : List Int) : Prop := Blk w G (xs.map (Value.int .i64)).toArray 3
theorem IB.cell {w : World} {G : Nat} {xs : List Int} (h : IB w G xs) {j : Nat} (hj : j < xs.length) : w.cell? ⟨G, j, none⟩ = some (.int .i64 (gi xs j)) := by
  have h' : Blk w G _ _ := h
  rw [h'.cell j]; simp [gi, hj]
theorem IB.frozen {w : World} {G : Nat} {xs : List Int} (h : IB w G xs) (j : Nat) : w.frozen? ⟨G, j, none⟩ = false := Blk.frozen (show Blk w G _ _ from h) j
theorem IB.below {w w' : World} {G : Nat} {xs : List Int} (h : IB w G xs) (hb : Below w.heap.size w w') : IB w' G xs := Blk.below (show Blk w G _ _ from h) hb
theorem IB.lt {w : World} {G : Nat} {xs : List Int} (h : IB w G xs) : G < w.heap.size := Blk.lt (show Blk w G _ _ from h)
theorem IB.set {w : World} {G : Nat} {xs : List Int} (h : IB w G xs) (i : Nat) (y : Int) : IB (w.setCell ⟨G, i, none⟩ (.int .i64 y)) G (xs.set i y) := by
  have := Blk.set (show Blk w G _ _ from h) i (.int .i64 y)
  show Blk _ _ _ _
  rwa [List.setIfInBounds_toArray, ← List.map_set] at this
theorem IB.sl {w : World} {G : Nat} {xs : List Int} (h : IB w G xs) (hl : xs.length ≤ maxLen) : Sl w (.slice (some ⟨G, 0, none⟩) xs.length xs.length) xs :=
  .inr ⟨G, 0, xs.length, rfl, Nat.le_refl _, hl, h.lt, fun j hj => by rw [Nat.zero_add]; exact h.cell hj⟩
theorem IB.of_make {w : World} {base g n : Nat} {xs : List Int} (h : w.ownsRow base 3 1 (.slice (some ⟨g, 0, none⟩) n n) n (xs.map (Value.int .i64))) : IB w g xs := by
  have hl : n = xs.length := by have := h.1; simpa using this.symm
  rcases h.2 with ⟨h1, _⟩ | ⟨g', cap, cur, h1, hb, hg, hn, hm, hs, ht⟩
  · cases h1
  · cases h1
    show w.heap[g]? = _
    rw [hg]
    have e : cur = (xs.map (Value.int .i64)).toArray := by
      apply Array.ext'
      rw [← ht, List.take_of_length_le (by rw [Array.length_toList, hs]; omega)]
    rw [e]

/-- What the inner loop of times holds to. -/
def InT (os : List Int) (V x : Int) (ys : List Int) (i k : Nat) (c : Int) : Prop := val 10 os + c * 10 ^ (i + k) = V + x * val 10 (ys.take k) * 10 ^ i
theorem mul3 (a b c : Int) : a * b * c = a * (b * c) := Int.mul_assoc ..
theorem inT_step {os ys : List Int} {V x y c o n : Int} {i k : Nat} (h : InT os V x ys i k c) (hk : k < ys.length) (hy : y = gi ys k) (hi : i + k < os.length) (ho : o = gi os (i + k)) (hn : n = o + c + x * y) : InT (os.set (i + k) (n % 10)) V x ys i (k + 1) (n / 10) := by
  unfold InT at *
  rw [val_set 10 os (i + k) (n % 10) hi, take_snoc' hk, val_snoc, ← hy, ← ho, List.length_take, Nat.min_eq_left (by omega), ← Nat.add_assoc, Int.pow_succ]
  have e1 : (val 10 (ys.take k) + y * 10 ^ k) = val 10 (ys.take k) + y * 10 ^ k := rfl
  have e2 : x * (val 10 (ys.take k) + y * 10 ^ k) * 10 ^ i = x * val 10 (ys.take k) * 10 ^ i + x * y * 10 ^ (i + k) := by
    rw [Int.mul_add, Int.add_mul, Int.pow_add]
    simp only [Int.mul_assoc, Int.mul_comm, Int.mul_left_comm]
  rw [e2]
  have := carry_step (V + x * val 10 (ys.take k) * 10 ^ i) (o + c) (10 ^ (i + k)) (val 10 os - o * 10 ^ (i + k)) (x * y) (n % 10) (n / 10) (by rw [Int.add_mul]; omega) (by omega)
  rw [Int.sub_mul]
  omega
theorem inT_last {os ys : List Int} {V x c : Int} {i k : Nat} (h : InT os V x ys i k c) (hk : ys.length ≤ k) (hi : i + k < os.length) (ho : gi os (i + k) = 0) (hc0 : 0 ≤ c) (hc : c < 10) : InT (os.set (i + k) (c % 10)) V x ys i (k + 1) (c / 10) := by
  unfold InT at *
  have e : c % 10 = c := by omega
  have e0 : c / 10 = 0 := by omega
  rw [val_set 10 os (i + k) (c % 10) hi, ho, e, e0, List.take_of_length_le (by omega)]
  rw [List.take_of_length_le hk] at h
  simp at h ⊢
  omega
theorem inT_end {os xs ys : List Int} {V : Int} {i k : Nat} (h : InT os V (gi xs i) ys i k 0) (hk : ys.length ≤ k) (hi : i < xs.length) (hV : V = val 10 (xs.take i) * val 10 ys) : val 10 os = val 10 (xs.take (i + 1)) * val 10 ys := by
  unfold InT at h
  rw [List.take_of_length_le hk] at h
  rw [take_snoc' hi, val_snoc, List.length_take, Nat.min_eq_left (by omega), Int.add_mul, ← hV]
  have e : gi xs i * val 10 ys * 10 ^ i = gi xs i * 10 ^ i * val 10 ys := by rw [Int.mul_assoc, Int.mul_comm (val 10 ys), ← Int.mul_assoc]
  omega
theorem dig_set {os : List Int} (h : Dig 10 os) (i : Nat) {y : Int} (h0 : 0 ≤ y) (h1 : y < 10) : Dig 10 (os.set i y) := fun x hx => by
  rcases List.mem_or_eq_of_mem_set hx with h2 | rfl
  · exact h x h2
  · exact ⟨h0, h1⟩
theorem mul_dig {x y : Int} (h0 : 0 ≤ x) (h1 : x < 10) (h2 : 0 ≤ y) (h3 : y < 10) : 0 ≤ x * y ∧ x * y ≤ 81 := by
  refine ⟨Int.mul_nonneg h0 h2, ?_⟩
  have := Int.mul_le_mul (show x ≤ 9 by omega) (show y ≤ 9 by omega) h2 (by decide)
  omega
theorem val_zeros (k : Nat) : val 10 (List.replicate k (0 : Int)) = 0 := by
  induction k with
  | zero => rfl
  | succ k ih => rw [List.replicate_succ]; simp [val, ih]
theorem gi_zeros (k j : Nat) : gi (List.replicate k (0 : Int)) j = 0 := by unfold gi; rw [List.getElem?_replicate]; split <;> rfl
theorem dig_zeros (k : Nat) : Dig 10 (List.replicate k (0 : Int)) := fun x hx => by
  have := (List.mem_replicate.1 hx).2
  subst this; omega

set_option maxRecDepth 100000 in
set_option maxHeartbeats 8000000 in
theorem rtimes_any (v u : Value) (xs ys : List Int) (m n : Int) (w : World) (hv : Sl w v xs) (hu : Sl w u ys) (hx : Num 10 xs m) (hy : Num 10 ys n) (hlx : xs.length ≤ 10000) (hly : ys.length ≤ 10000) :
    Calls Tryz.prog 51 #[v, u] w (Gives w fun r w' => ∃ zs, Sl w' r zs ∧ Num 10 zs (m * n)) := by
  obtain ⟨a1, b1, o1, c1, rfl, h1, h2, h4⟩ := hv.place
  obtain ⟨a2, b2, o2, c2, rfl, g1, g2, g4⟩ := hu.place
  have H4 := Lib.hid h4
  have G4 := Lib.hid g4
  have H1 := Lib.hid h1
  have G1 := Lib.hid g1
  have HX := Lib.hid hx
  have HY := Lib.hid hy
  obtain ⟨L, hL⟩ : ∃ L : Nat, L = xs.length + ys.length := ⟨_, rfl⟩
  obtain ⟨W1, hmk, hown, hb1⟩ := run_make_int w 44 Tryz.underlying44 .i64 .i64 L (by omega)
  have hib := IB.of_make hown
  have hLi : (L : Int) = (xs.length : Int) + (ys.length : Int) := by omega
  rw [hLi] at hmk
  have HLi := Lib.hid hLi
  have HL := Lib.hid hL
  have hG : w.heap.size < W1.heap.size := hib.lt
  clear hv hu h4 g4 h1 g1 hx hy hLi hL hown
  go_enter Tryz.func51, Tryz.ntmps51
  go_wp2
  go_loopw [6] (fun s6 wr => ∃ (i : Nat) (os : List Int), s6 = .int .i64 i ∧ i ≤ xs.length ∧ IB wr w.heap.size os ∧ os.length = L ∧ Dig 10 os ∧ Hid (val 10 os = val 10 (xs.take i) * val 10 ys) ∧ Hid (∀ j, i + ys.length ≤ j → gi os j = 0) ∧ Below w.heap.size w wr)
    (fun s6 _ => xs.length - (intOf s6).toNat)
  case atStart => exact ⟨0, List.replicate L 0, rfl, Nat.zero_le _, hib, by simp, dig_zeros L, (show val 10 (List.replicate L 0) = _ by rw [val_zeros]; simp [val]), (fun j _ => gi_zeros L j), hb1⟩
  case round =>
    clear hib hb1 hmk hG
    obtain ⟨i, os, rfl, hi, hib, hlo, hdo, hV, hZ, hB⟩ := hrel
    by_cases hi1 : i < xs.length
    · obtain ⟨rfl, h3⟩ := H1.out (by omega)
      have i1 : (i : Int) < (xs.length : Int) := by omega
      have x0 := (HX.out.dig.gi (by decide) i).1
      have x1 := (HX.out.dig.gi (by decide) i).2
      have hVV := hV.out
      generalize hVd : val 10 os = V at *
      have HVd := Lib.hid hVd
      clear hVd hV
      go_wp2
      obtain ⟨wo, rfl⟩ : ∃ wo : World, wo = wr := ⟨_, rfl⟩
      have Hlo := Lib.hid hlo
      have Hib := Lib.hid hib
      have HVV := Lib.hid hVV
      have HB := Lib.hid hB
      clear hlo hib hVV
      go_loopw [7, 8] (fun s7 s8 wr => ∃ (k : Nat) (c : Int) (ps : List Int), s8 = .int .i64 k ∧ s7 = .int .i64 c ∧ 0 ≤ c ∧ c ≤ 9 ∧ IB wr w.heap.size ps ∧ ps.length = L ∧ Dig 10 ps ∧ Hid (InT ps V (gi xs i) ys i k c) ∧
          ((k ≤ ys.length ∧ Hid (∀ j, i + ys.length ≤ j → gi ps j = 0)) ∨ (k = ys.length + 1 ∧ c ≤ 0 ∧ Hid (∀ j, i + ys.length + 1 ≤ j → gi ps j = 0))) ∧ Below w.heap.size w wr)
        (fun _ s8 _ => ys.length + 1 - (intOf s8).toNat)
      case atStart => exact ⟨0, 0, os, rfl, rfl, by decide, by decide, Hib.out, Hlo.out, hdo, (show InT _ _ _ _ _ _ _ by unfold InT; rw [HVd.out]; simp [val]), .inl ⟨Nat.zero_le _, hZ⟩, hB⟩
      case round =>
        clear hdo hZ HVd hB
        obtain ⟨k, c, ps, rfl, rfl, hc0, hc1, hib, hlp, hdp, hI, hT, hB⟩ := hrel
        by_cases hk : k < ys.length
        · obtain ⟨rfl, g3⟩ := G1.out (by omega)
          have i2 : (k : Int) < (ys.length : Int) := by omega
          have hik : i + k < ps.length := by have := HL.out; omega
          have y0 := (HY.out.dig.gi (by decide) k).1
          have y1 := (HY.out.dig.gi (by decide) k).2
          have ho0 := (hdp.gi (by decide) (i + k)).1
          have ho1 := (hdp.gi (by decide) (i + k)).2
          have e1 := (hB.cell (p := ⟨b1, o1 + i, none⟩) h3).trans (H4.out i (by omega))
          have e2 := (hB.cell (p := ⟨b2, o2 + k, none⟩) g3).trans (G4.out k (by omega))
          have e3 := hib.cell hik
          have e4 := hib.frozen (i + k)
          obtain ⟨m0, m1⟩ := mul_dig x0 x1 y0 y1
          have hi3 : (i : Int) + (k : Int) < (L : Int) := by have := HL.out; omega
          have hi4 : (0 : Int) ≤ (i : Int) + (k : Int) := by omega
          have hstep := inT_step (n := gi ps (i + k) + c + gi xs i * gi ys k) hI.out hk rfl hik rfl rfl
          have HS := Lib.hid hstep
          have HT := Lib.hid hT
          have hkl : k + 1 ≤ ys.length := by omega
          have Hlp := Lib.hid hlp
          generalize hx' : gi xs i = x at *
          generalize hy' : gi ys k = y at *
          generalize ho' : gi ps (i + k) = o at *
          obtain ⟨d, hd⟩ : ∃ d, x * y = d := ⟨_, rfl⟩
          rw [hd] at m0 m1 HS
          have n0 : 0 ≤ o + c + d := by omega
          have n1 : o + c + d ≤ 99 := by omega
          clear hx' hy' ho' hstep hT hI hlp
          have Hw1 := Lib.hid (IntWalk.i64_in d (by omega))
          have Hw2 := Lib.hid (IntWalk.i64_in (o + c + d) (by omega))
          go_wp2_with fail
          have hw1 := Hw1.out
          have hw2 := Hw2.out
          go_quiet (fail)
          clear hw1 hw2
          go_wp2
          go_roundw
          case rel =>
            refine ⟨k + 1, _, ps.set (i + k) ((o + c + d) % 10), by go_num, rfl, by omega, by omega, (hib.below (below_drewN wr nq)).set (i + k) _, (by rw [List.length_set]; exact Hlp.out), dig_set hdp _ (by omega) (by omega), HS, .inl ⟨hkl, ?_⟩, (hB.trans ((below_drewN wr nq).mono hB.size)).setCell (p := ⟨w.heap.size, i + k, none⟩) (Nat.le_refl _) _⟩
            rcases HT.out with h | h
            · exact fun j hj => by rw [gi_set _ (show i + k ≠ j by omega)]; exact h.2.out j hj
            · exact absurd h.1 (by omega)
          case measure => simp [intOf]; omega
        · by_cases hc : 0 < c
          · have hkl : k = ys.length := by rcases hT with h | h; have := h.1; omega; have := h.2.1; omega
            have hz : gi ps (i + k) = 0 := by rcases hT with h | h; exact h.2.out (i + k) (by omega); have := h.2.1; omega
            have HZ := Lib.hid (show ∀ j, i + ys.length ≤ j → gi ps j = 0 by rcases hT with h | h; exact h.2.out; have := h.2.1; omega)
            have hik : i + k < ps.length := by have := HL.out; omega
            have e3 := hib.cell hik
            rw [hz] at e3
            have e4 := hib.frozen (i + k)
            have hi3 : (i : Int) + (k : Int) < (L : Int) := by have := HL.out; omega
            have hi4 : (0 : Int) ≤ (i : Int) + (k : Int) := by omega
            have HS := Lib.hid (inT_last hI.out (by omega) hik hz hc0 (by omega))
            have hk' : ys.length ≤ k := by omega
            have Hlp := Lib.hid hlp
            have Hkl := Lib.hid hkl
            have hk2 : k ≤ 10000 := by omega
            have hi2 : i ≤ 10000 := by omega
            clear hI hT hz hlp hkl
            go_wp2
            go_roundw
            case rel =>
              refine ⟨k + 1, _, ps.set (i + k) (c % 10), by go_num, rfl, by omega, by omega, hib.set (i + k) _, (by rw [List.length_set]; exact Hlp.out), dig_set hdp _ (by omega) (by omega), HS, .inr ⟨by rw [Hkl.out], by omega, ?_⟩, hB.setCell (p := ⟨w.heap.size, i + k, none⟩) (Nat.le_refl _) _⟩
              have hk3 := Hkl.out
              show ∀ j, i + ys.length + 1 ≤ j → gi (ps.set (i + k) (c % 10)) j = 0
              intro j hj
              rw [gi_set _ (show i + k ≠ j by omega)]; exact HZ.out j (by omega)
            case measure => have := Hkl.out; simp [intOf]; omega
          · obtain rfl : c = 0 := by omega
            have hk' : ys.length ≤ k := by omega
            have HV := Lib.hid (inT_end hI.out hk' hi1 HVV.out)
            have HZ := Lib.hid (show ∀ j, i + 1 + ys.length ≤ j → gi ps j = 0 by rcases hT with h | h; exact fun j hj => h.2.out j (by omega); exact fun j hj => h.2.2.out j (by omega))
            clear hI hT hk
            go_wp2
            go_roundw
            case rel => exact ⟨i + 1, ps, by go_num, by omega, hib, hlp, hdp, HV, HZ, hB⟩
            case measure => simp [intOf]; omega
    · have hfin := Num.trim hdo
      have e : val 10 os = m * n := by
        have h := hV.out
        rw [List.take_of_length_le (by omega), HX.out.val, HY.out.val] at h
        exact h
      rw [e] at hfin
      have HF := Lib.hid hfin
      have hsl := hib.sl (by have := HL.out; unfold maxLen; omega)
      rw [hlo] at hsl
      clear hfin e hV hlo
      go_wp2_with fail
      refine (rtrim_any _ os _ hsl).mono ?_
      rintro e w2 ⟨⟨v', rfl, hz, _⟩, rfl⟩
      go_wp2
      go_ret
      exact ⟨⟨_, rfl, _, hz, HF.out⟩, hB⟩
end Go.Proofs.YtbnilfjhalildaaGreatDoor
