/- The reference: plus, minus. -/
import Derived.Test.YtbnilfjhalildaaGreatDoorRefB
namespace Go.Proofs.YtbnilfjhalildaaGreatDoor
open Go.RowKit
attribute [local go_sem] Oper.semAt_some

/-- A slice of integers, with its place named (nothing is said of the place of a nil one). -/
theorem Sl.place {w : World} {v : Value} {xs : List Int} (h : Sl w v xs) : ∃ (a : Option Addr) (b off cap : Nat), v = .slice a xs.length cap ∧ (0 < xs.length → a = some ⟨b, off, none⟩ ∧ b < w.heap.size) ∧ xs.length ≤ 9223372036854775807 ∧ ∀ j, j < xs.length → w.cell? ⟨b, off + j, none⟩ = some (.int .i64 (gi xs j)) := by
  have hl := h.len_le
  unfold maxLen at hl
  rcases h with ⟨rfl, rfl⟩ | ⟨b, off, cap, rfl, h1, h2, h3, h4⟩
  · exact ⟨none, 0, 0, 0, rfl, fun h => by simp at h, by simp, fun j hj => by simp at hj⟩
  · exact ⟨_, b, off, cap, rfl, fun _ => ⟨rfl, h3⟩, by omega, h4⟩

theorem carry_step (s c p v d q c' : Int) (hv : v + c * p = s) (he : d + c = q + 10 * c') : (v + q * p) + c' * (p * 10) = s + d * p := by
  have e : c' * (p * 10) = (10 * c') * p := by rw [Int.mul_comm p, ← Int.mul_assoc, Int.mul_comm c']
  have e2 : d + c - q = 10 * c' := by omega
  have e3 : (d + c - q) * p = d * p + c * p - q * p := by rw [Int.sub_mul, Int.add_mul]
  rw [e, ← e2, e3]
  omega
/-- The sum of the digits below k. -/
def sumP (xs ys : List Int) (k : Nat) : Int := sumd 10 (fun j => gi xs j + gi ys j) k
theorem plus_next {xs ys zs : List Int} {k : Nat} {c x y n : Int} (hdig : Dig 10 zs) (hlen : zs.length = k) (hc0 : 0 ≤ c) (hc1 : c ≤ 1) (hS : Hid (val 10 zs + c * 10 ^ k = sumP xs ys k)) (hx : 0 ≤ x ∧ x < 10 ∧ x = gi xs k) (hy : 0 ≤ y ∧ y < 10 ∧ y = gi ys k) (hn : n = c + x + y) :
    Dig 10 (zs ++ [n % 10]) ∧ 0 ≤ n / 10 ∧ n / 10 ≤ 1 ∧ Hid (val 10 (zs ++ [n % 10]) + n / 10 * 10 ^ (k + 1) = sumP xs ys (k + 1)) := by
  refine ⟨hdig.snoc (by omega) (by omega), by omega, by omega, ?_⟩
  show _ = _
  rw [val_snoc, hlen, Int.pow_succ]
  exact carry_step (sumP xs ys k) c (10 ^ k) (val 10 zs) (gi xs k + gi ys k) (n % 10) (n / 10) hS.out (by omega)
theorem sumP_all (xs ys : List Int) {k : Nat} (h1 : xs.length ≤ k) (h2 : ys.length ≤ k) : sumP xs ys k = val 10 xs + val 10 ys := by
  unfold sumP
  rw [sumd_add, sumd_gi_all 10 xs h1, sumd_gi_all 10 ys h2]
/-- A list of digits whose number is great enough has no zero at its end. -/
theorem top_of_ge {zs : List Int} (hd : Dig 10 zs) (h : ∀ j, zs.length = j + 1 → 10 ^ j ≤ val 10 zs) : Top zs := by
  intro j hj h0
  have h1 := h j hj
  have h2 : val 10 zs = val 10 (zs.take j) := by
    have e := take_snoc' (xs := zs) (k := j) (by omega)
    rw [List.take_of_length_le (by omega), h0] at e
    rw [e, val_snoc]; simp
    rw [← e]
  have h3 := (val_bounds (by decide) (hd.take j)).2
  rw [List.length_take, Nat.min_eq_left (by omega)] at h3
  omega
theorem plus_end {xs ys zs : List Int} {m n : Int} {k : Nat} (hx : Num 10 xs m) (hy : Num 10 ys n) (hdig : Dig 10 zs) (hlen : zs.length = k) (h1 : xs.length ≤ k) (h2 : ys.length ≤ k)
    (hS : Hid (val 10 zs + (0 : Int) * 10 ^ k = sumP xs ys k)) (hT : k ≤ max xs.length ys.length ∨ Top zs) : Num 10 zs (m + n) := by
  have hv : val 10 zs = m + n := by have := hS.out; rw [sumP_all xs ys h1 h2, hx.val, hy.val] at this; omega
  refine ⟨hdig, ?_, hv⟩
  rcases hT with h | h
  · refine top_of_ge hdig fun j hj => ?_
    have hm := hx.nonneg (by decide)
    have hn := hy.nonneg (by decide)
    rw [hv]
    rcases Nat.le_total xs.length ys.length with hl | hl
    · have := hy.ge (by decide) (k := j) (by omega); omega
    · have := hx.ge (by decide) (k := j) (by omega); omega
  · exact h

theorem top_snoc {zs : List Int} {d : Int} (h : d ≠ 0) : Hid (Top (zs ++ [d])) := by
  show Top _
  intro j hj
  have : j = zs.length := by simp at hj; omega
  subst this
  simpa [gi] using h

set_option maxRecDepth 100000 in
set_option maxHeartbeats 8000000 in
theorem rplus_any (v u : Value) (xs ys : List Int) (m n : Int) (w : World) (hv : Sl w v xs) (hu : Sl w u ys) (hx : Num 10 xs m) (hy : Num 10 ys n) (hlx : xs.length ≤ 100000) (hly : ys.length ≤ 100000) :
    Calls Tryz.prog 53 #[v, u] w (Gives w fun r w' => ∃ zs, Sl w' r zs ∧ Num 10 zs (m + n)) := by
  obtain ⟨a1, b1, o1, c1, rfl, h1, h2, h4⟩ := hv.place
  obtain ⟨a2, b2, o2, c2, rfl, g1, g2, g4⟩ := hu.place
  have H4 := Lib.hid h4
  have G4 := Lib.hid g4
  have H1 := Lib.hid h1
  have G1 := Lib.hid g1
  have HX := Lib.hid hx
  have HY := Lib.hid hy
  clear hv hu h4 g4 h1 g1 hx hy
  go_enter Tryz.func53, Tryz.ntmps53
  go_wp2
  go_loopw [5, 6, 7] (fun o cr i wr => ∃ (k : Nat) (c : Int) (zs : List Int), i = .int .i64 k ∧ cr = .int .i64 c ∧ 0 ≤ c ∧ c ≤ 1 ∧ zs.length = k ∧ Dig 10 zs ∧ Hid (val 10 zs + c * 10 ^ k = sumP xs ys k) ∧
      (k ≤ max xs.length ys.length ∨ k = max xs.length ys.length + 1 ∧ c ≤ 0 ∧ Hid (Top zs)) ∧ wr.ownsRow w.heap.size 3 1 o zs.length (zs.map (Value.int .i64)) ∧ Below w.heap.size w wr)
    (fun _ _ i _ => max xs.length ys.length + 1 - (intOf i).toNat)
  case atStart => exact ⟨0, 0, [], rfl, rfl, by decide, by decide, rfl, Dig.nil _, by show _ = _; simp [val, sumP, sumd], .inl (Nat.zero_le _), World.ownsRow_nil _ _ _ _, Below.refl _ _⟩
  case round =>
    obtain ⟨k, c, zs, rfl, rfl, hc0, hc1, hlen, hdig, hS, hT, hown, hB⟩ := hrel
    have hxd : 0 ≤ gi xs k ∧ gi xs k < 10 ∧ gi xs k = gi xs k := ⟨(HX.out.dig.gi (by decide) k).1, (HX.out.dig.gi (by decide) k).2, rfl⟩
    have hyd : 0 ≤ gi ys k ∧ gi ys k < 10 ∧ gi ys k = gi ys k := ⟨(HY.out.dig.gi (by decide) k).1, (HY.out.dig.gi (by decide) k).2, rfl⟩
    have x0 := hxd.1
    have x1 := hxd.2.1
    have y0 := hyd.1
    have y1 := hyd.2.1
    have hcase : (k < xs.length ∧ k < ys.length) ∨ (k < xs.length ∧ ys.length ≤ k) ∨ (xs.length ≤ k ∧ k < ys.length) ∨ (xs.length ≤ k ∧ ys.length ≤ k ∧ 0 < c) ∨ (xs.length ≤ k ∧ ys.length ≤ k ∧ c ≤ 0) := by omega
    rcases hcase with ⟨k1, k2⟩ | ⟨k1, k2⟩ | ⟨k1, k2⟩ | ⟨k1, k2, k3⟩ | ⟨k1, k2, k3⟩
    · obtain ⟨rfl, h3⟩ := H1.out (by omega)
      obtain ⟨rfl, g3⟩ := G1.out (by omega)
      have c1 := (hB.cell (p := ⟨b1, o1 + k, none⟩) h3).trans (H4.out k (by omega))
      have i1 : (k : Int) < (xs.length : Int) := by omega
      have c2 := (hB.cell (p := ⟨b2, o2 + k, none⟩) g3).trans (G4.out k (by omega))
      have i2 : (k : Int) < (ys.length : Int) := by omega
      obtain ⟨a1, a2, a3, a4⟩ := plus_next (x := gi xs k) (y := gi ys k) (n := c + gi xs k + gi ys k) hdig hlen hc0 hc1 hS hxd hyd (by omega)
      have HA := Lib.hid (And.intro a1 a4)
      have Hlen := Lib.hid hlen
      clear hlen a1 a4
      go_wp2_with (at_builtin; refine wp_app_int ((c + gi xs k + gi ys k) % 10) 44 Tryz.underlying44 rfl _ _ rfl rfl rfl hown (by have := Hlen.out; omega) hB.size ?_; intro g cp w2 hown2 hg2 hb2)
      go_roundw
      case rel => exact ⟨k + 1, _, zs ++ [(c + gi xs k + gi ys k) % 10], by go_num, rfl, a2, a3, (by rw [List.length_append, Hlen.out]; rfl), HA.out.1, HA.out.2, (.inl (by omega)), (by rw [List.length_append]; exact hown2), hB.trans hb2⟩
      case measure => simp [intOf]; omega
    · obtain ⟨rfl, h3⟩ := H1.out (by omega)
      have c1 := (hB.cell (p := ⟨b1, o1 + k, none⟩) h3).trans (H4.out k (by omega))
      have i1 : (k : Int) < (xs.length : Int) := by omega
      have hy2 := gi_ge k2
      obtain ⟨a1, a2, a3, a4⟩ := plus_next (x := gi xs k) (y := gi ys k) (n := c + gi xs k) hdig hlen hc0 hc1 hS hxd hyd (by omega)
      have HA := Lib.hid (And.intro a1 a4)
      have Hlen := Lib.hid hlen
      clear hlen a1 a4
      go_wp2_with (at_builtin; refine wp_app_int ((c + gi xs k) % 10) 44 Tryz.underlying44 rfl _ _ rfl rfl rfl hown (by have := Hlen.out; omega) hB.size ?_; intro g cp w2 hown2 hg2 hb2)
      go_roundw
      case rel => exact ⟨k + 1, _, zs ++ [(c + gi xs k) % 10], by go_num, rfl, a2, a3, (by rw [List.length_append, Hlen.out]; rfl), HA.out.1, HA.out.2, (.inl (by omega)), (by rw [List.length_append]; exact hown2), hB.trans hb2⟩
      case measure => simp [intOf]; omega
    · obtain ⟨rfl, g3⟩ := G1.out (by omega)
      have c2 := (hB.cell (p := ⟨b2, o2 + k, none⟩) g3).trans (G4.out k (by omega))
      have i2 : (k : Int) < (ys.length : Int) := by omega
      have hx2 := gi_ge k1
      obtain ⟨a1, a2, a3, a4⟩ := plus_next (x := gi xs k) (y := gi ys k) (n := c + gi ys k) hdig hlen hc0 hc1 hS hxd hyd (by omega)
      have HA := Lib.hid (And.intro a1 a4)
      have Hlen := Lib.hid hlen
      clear hlen a1 a4
      go_wp2_with (at_builtin; refine wp_app_int ((c + gi ys k) % 10) 44 Tryz.underlying44 rfl _ _ rfl rfl rfl hown (by have := Hlen.out; omega) hB.size ?_; intro g cp w2 hown2 hg2 hb2)
      go_roundw
      case rel => exact ⟨k + 1, _, zs ++ [(c + gi ys k) % 10], by go_num, rfl, a2, a3, (by rw [List.length_append, Hlen.out]; rfl), HA.out.1, HA.out.2, (.inl (by omega)), (by rw [List.length_append]; exact hown2), hB.trans hb2⟩
      case measure => simp [intOf]; omega
    · have hx2 := gi_ge k1
      have hy2 := gi_ge k2
      obtain ⟨a1, a2, a3, a4⟩ := plus_next (x := gi xs k) (y := gi ys k) (n := c) hdig hlen hc0 hc1 hS hxd hyd (by omega)
      have HA := Lib.hid (And.intro a1 a4)
      have Hlen := Lib.hid hlen
      clear hlen a1 a4
      go_wp2_with (at_builtin; refine wp_app_int ((c) % 10) 44 Tryz.underlying44 rfl _ _ rfl rfl rfl hown (by have := Hlen.out; omega) hB.size ?_; intro g cp w2 hown2 hg2 hb2)
      go_roundw
      case rel => exact ⟨k + 1, _, zs ++ [(c) % 10], by go_num, rfl, a2, a3, (by rw [List.length_append, Hlen.out]; rfl), HA.out.1, HA.out.2, (.inr ⟨by omega, by omega, top_snoc (by omega)⟩), (by rw [List.length_append]; exact hown2), hB.trans hb2⟩
      case measure => simp [intOf]; omega
    · obtain rfl : c = 0 := by omega
      have hfin := Lib.hid (plus_end HX.out HY.out hdig hlen k1 k2 hS (by rcases hT with h | h; exact .inl h; exact .inr h.2.2.out))
      have hsl := Sl.of_own hown
      clear hlen hdig hS hT hown
      go_wp2
      go_ret
      exact ⟨⟨_, rfl, zs, hsl, hfin.out⟩, hB⟩

/-- The difference of the digits below k. -/
def sumM (xs ys : List Int) (k : Nat) : Int := sumd 10 (fun j => gi xs j - gi ys j) k
theorem minus_next {xs ys zs : List Int} {k : Nat} {c x y n q c' : Int} (hdig : Dig 10 zs) (hlen : zs.length = k) (hS : Hid (val 10 zs - c * 10 ^ k = sumM xs ys k)) (hx : x = gi xs k) (hy : y = gi ys k) (hn : n = x - c - y) (hq : n = q - 10 * c') (h0 : 0 ≤ q) (h1 : q < 10) :
    Dig 10 (zs ++ [q]) ∧ Hid (val 10 (zs ++ [q]) - c' * 10 ^ (k + 1) = sumM xs ys (k + 1)) := by
  refine ⟨hdig.snoc h0 h1, ?_⟩
  show _ = _
  rw [val_snoc, hlen, Int.pow_succ]
  have := carry_step (sumM xs ys k) (-c) (10 ^ k) (val 10 zs) (gi xs k - gi ys k) q (-c') (by rw [Int.neg_mul]; have := hS.out; omega) (by omega)
  rw [Int.neg_mul] at this
  exact this
theorem sumM_all (xs ys : List Int) {k : Nat} (h1 : xs.length ≤ k) (h2 : ys.length ≤ k) : sumM xs ys k = val 10 xs - val 10 ys := by
  unfold sumM
  rw [sumd_sub, sumd_gi_all 10 xs h1, sumd_gi_all 10 ys h2]
theorem minus_end {xs ys zs : List Int} {m n c : Int} {k : Nat} (hx : Num 10 xs m) (hy : Num 10 ys n) (hle : n ≤ m) (hdig : Dig 10 zs) (hlen : zs.length = k) (h1 : xs.length ≤ k) (h2 : ys.length ≤ k) (hc : 0 ≤ c)
    (hS : Hid (val 10 zs - c * 10 ^ k = sumM xs ys k)) : Num 10 (trim zs) (m - n) := by
  have hv := hS.out
  rw [sumM_all xs ys h1 h2, hx.val, hy.val] at hv
  have hb := val_bounds (b := 10) (by decide) hdig
  rw [hlen] at hb
  have hc0 : c = 0 := by
    rcases Int.lt_or_le 0 c with h | h
    · have : 10 ^ k ≤ c * 10 ^ k := by
        have := Int.mul_le_mul_of_nonneg_right (show (1 : Int) ≤ c by omega) (Int.le_of_lt (pow_pos' (b := 10) (by decide) k))
        omega
      omega
    · omega
  subst hc0
  have e : val 10 zs = m - n := by omega
  rw [← e]
  exact Num.trim hdig

set_option maxRecDepth 100000 in
set_option maxHeartbeats 8000000 in
theorem rminus_fresh (v u : Value) (xs ys : List Int) (m n : Int) (w : World) (hv : Sl w v xs) (hu : Sl w u ys) (hx : Num 10 xs m) (hy : Num 10 ys n) (hle : n ≤ m) (hlx : xs.length ≤ 100000) :
    Calls Tryz.prog 54 #[v, u] w (Gives w fun r w' => ∃ zs, Sl w' r zs ∧ Num 10 zs (m - n) ∧ Fresh w r) := by
  have hly := hy.len_le (by decide) hx hle
  obtain ⟨a1, b1, o1, c1, rfl, h1, h2, h4⟩ := hv.place
  obtain ⟨a2, b2, o2, c2, rfl, g1, g2, g4⟩ := hu.place
  have H4 := Lib.hid h4
  have G4 := Lib.hid g4
  have H1 := Lib.hid h1
  have G1 := Lib.hid g1
  have HX := Lib.hid hx
  have HY := Lib.hid hy
  clear hv hu h4 g4 h1 g1 hx hy
  go_enter Tryz.func54, Tryz.ntmps54
  go_wp2
  go_loopw [5, 6, 7] (fun o cr i wr => ∃ (k : Nat) (c : Int) (zs : List Int), i = .int .i64 k ∧ cr = .int .i64 c ∧ 0 ≤ c ∧ c ≤ 1 ∧ zs.length = k ∧ Dig 10 zs ∧ Hid (val 10 zs - c * 10 ^ k = sumM xs ys k) ∧
      k ≤ xs.length ∧ wr.ownsRow w.heap.size 3 1 o zs.length (zs.map (Value.int .i64)) ∧ Below w.heap.size w wr)
    (fun _ _ i _ => xs.length - (intOf i).toNat)
  case atStart => exact ⟨0, 0, [], rfl, rfl, by decide, by decide, rfl, Dig.nil _, by show _ = _; simp [val, sumM, sumd], Nat.zero_le _, World.ownsRow_nil _ _ _ _, Below.refl _ _⟩
  case round =>
    obtain ⟨k, c, zs, rfl, rfl, hc0, hc1, hlen, hdig, hS, hk, hown, hB⟩ := hrel
    have x0 := (HX.out.dig.gi (by decide) k).1
    have x1 := (HX.out.dig.gi (by decide) k).2
    have y0 := (HY.out.dig.gi (by decide) k).1
    have y1 := (HY.out.dig.gi (by decide) k).2
    by_cases hk1 : k < xs.length
    · obtain ⟨rfl, h3⟩ := H1.out (by omega)
      have c1 := (hB.cell (p := ⟨b1, o1 + k, none⟩) h3).trans (H4.out k (by omega))
      have i1 : (k : Int) < (xs.length : Int) := by omega
      have Hlen := Lib.hid hlen
      by_cases hk2 : k < ys.length
      · obtain ⟨rfl, g3⟩ := G1.out (by omega)
        have c2 := (hB.cell (p := ⟨b2, o2 + k, none⟩) g3).trans (G4.out k (by omega))
        have i2 : (k : Int) < (ys.length : Int) := by omega
        by_cases hneg : gi xs k - c - gi ys k < 0
        · obtain ⟨d1, d2⟩ := minus_next (x := gi xs k) (y := gi ys k) (n := gi xs k - c - gi ys k) (q := gi xs k - c - gi ys k + 10) (c' := 1) hdig hlen hS rfl rfl (by omega) (by omega) (by omega) (by omega)
          have HA := Lib.hid (And.intro d1 d2)
          skip
          clear hlen d1 d2
          go_wp2_with (at_builtin; refine wp_app_int (gi xs k - c - gi ys k + 10) 44 Tryz.underlying44 rfl _ _ rfl rfl rfl hown (by have := Hlen.out; omega) hB.size ?_; intro g cp w2 hown2 hg2 hb2)
          go_roundw
          case rel => exact ⟨k + 1, 1, zs ++ [gi xs k - c - gi ys k + 10], by go_num, rfl, by decide, by decide, (by rw [List.length_append, Hlen.out]; rfl), HA.out.1, HA.out.2, by omega, (by rw [List.length_append]; exact hown2), hB.trans hb2⟩
          case measure => simp [intOf]; omega
        · obtain ⟨d1, d2⟩ := minus_next (x := gi xs k) (y := gi ys k) (n := gi xs k - c - gi ys k) (q := gi xs k - c - gi ys k) (c' := 0) hdig hlen hS rfl rfl (by omega) (by omega) (by omega) (by omega)
          have HA := Lib.hid (And.intro d1 d2)
          have hnn : 0 ≤ gi xs k - c - gi ys k := by omega
          clear hlen d1 d2 hneg
          go_wp2_with (at_builtin; refine wp_app_int (gi xs k - c - gi ys k) 44 Tryz.underlying44 rfl _ _ rfl rfl rfl hown (by have := Hlen.out; omega) hB.size ?_; intro g cp w2 hown2 hg2 hb2)
          go_roundw
          case rel => exact ⟨k + 1, 0, zs ++ [gi xs k - c - gi ys k], by go_num, rfl, by decide, by decide, (by rw [List.length_append, Hlen.out]; rfl), HA.out.1, HA.out.2, by omega, (by rw [List.length_append]; exact hown2), hB.trans hb2⟩
          case measure => simp [intOf]; omega
      · have hy2 := gi_ge (xs := ys) (i := k) (by omega)
        have hk3 : ys.length ≤ k := by omega
        by_cases hneg : gi xs k - c < 0
        · obtain ⟨d1, d2⟩ := minus_next (x := gi xs k) (y := gi ys k) (n := gi xs k - c) (q := gi xs k - c + 10) (c' := 1) hdig hlen hS rfl rfl (by omega) (by omega) (by omega) (by omega)
          have HA := Lib.hid (And.intro d1 d2)
          skip
          clear hlen d1 d2
          go_wp2_with (at_builtin; refine wp_app_int (gi xs k - c + 10) 44 Tryz.underlying44 rfl _ _ rfl rfl rfl hown (by have := Hlen.out; omega) hB.size ?_; intro g cp w2 hown2 hg2 hb2)
          go_roundw
          case rel => exact ⟨k + 1, 1, zs ++ [gi xs k - c + 10], by go_num, rfl, by decide, by decide, (by rw [List.length_append, Hlen.out]; rfl), HA.out.1, HA.out.2, by omega, (by rw [List.length_append]; exact hown2), hB.trans hb2⟩
          case measure => simp [intOf]; omega
        · obtain ⟨d1, d2⟩ := minus_next (x := gi xs k) (y := gi ys k) (n := gi xs k - c) (q := gi xs k - c) (c' := 0) hdig hlen hS rfl rfl (by omega) (by omega) (by omega) (by omega)
          have HA := Lib.hid (And.intro d1 d2)
          have hnn : 0 ≤ gi xs k - c := by omega
          clear hlen d1 d2 hneg
          go_wp2_with (at_builtin; refine wp_app_int (gi xs k - c) 44 Tryz.underlying44 rfl _ _ rfl rfl rfl hown (by have := Hlen.out; omega) hB.size ?_; intro g cp w2 hown2 hg2 hb2)
          go_roundw
          case rel => exact ⟨k + 1, 0, zs ++ [gi xs k - c], by go_num, rfl, by decide, by decide, (by rw [List.length_append, Hlen.out]; rfl), HA.out.1, HA.out.2, by omega, (by rw [List.length_append]; exact hown2), hB.trans hb2⟩
          case measure => simp [intOf]; omega
    · have hfin := Lib.hid (minus_end HX.out HY.out hle hdig hlen (by omega) (by omega) hc0 hS)
      have hsl := Sl.of_own hown
      have HFr := Lib.hid (Fresh.of_own (w := w) hown (Nat.le_refl _))
      clear hlen hdig hS hown
      go_wp2_with fail
      refine (rtrim_any _ zs _ hsl).mono ?_
      rintro e w2 ⟨⟨v', rfl, hz, hpt⟩, rfl⟩
      have HFr2 := Lib.hid (HFr.out.of_ptr hpt)
      clear hpt HFr
      go_wp2
      go_ret
      exact ⟨⟨_, rfl, _, hz, hfin.out, HFr2.out⟩, hB⟩
theorem rminus_any (v u : Value) (xs ys : List Int) (m n : Int) (w : World) (hv : Sl w v xs) (hu : Sl w u ys) (hx : Num 10 xs m) (hy : Num 10 ys n) (hle : n ≤ m) (hlx : xs.length ≤ 100000) :
    Calls Tryz.prog 54 #[v, u] w (Gives w fun r w' => ∃ zs, Sl w' r zs ∧ Num 10 zs (m - n)) :=
  (rminus_fresh v u xs ys m n w hv hu hx hy hle hlx).mono fun _ _ ⟨⟨r, h1, zs, h2, h3, _⟩, hb⟩ => ⟨⟨r, h1, zs, h2, h3⟩, hb⟩
end Go.Proofs.YtbnilfjhalildaaGreatDoor
