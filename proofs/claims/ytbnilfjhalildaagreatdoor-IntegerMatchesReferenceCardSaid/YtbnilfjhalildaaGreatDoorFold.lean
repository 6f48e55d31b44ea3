/- The contract of fold. -/
import Derived.Test.YtbnilfjhalildaaGreatDoorAt
namespace Go.Proofs.YtbnilfjhalildaaGreatDoor
open Go.RowKit

def nz (v : Value) : Nat := if intOf v = 0 then 0 else 1
theorem nz_le (v : Value) : nz v ≤ 1 := by unfold nz; split <;> omega
theorem nz_meas {a b : Nat} {u v : Value} (h : a < b) : 2 * a + nz u < 2 * b + nz v := by have := nz_le u; omega
theorem fold_next {d : Nat → Int} {k : Nat} {cc q c' : Int} {zs : List Int} (hd : -9999 ≤ d k ∧ d k ≤ 99980001) (hc1 : -1 ≤ cc) (hc2 : cc ≤ 9999) (hlen : zs.length = k) (hdig : Dig 10000 zs)
    (hsum : Hid (val 10000 zs + cc * 10000 ^ k = sumd 10000 d k)) (hq0 : 0 ≤ q) (hq1 : q < 10000) (he : d k + cc = q + 10000 * c') :
    -1 ≤ c' ∧ c' ≤ 9999 ∧ (zs ++ [q]).length = k + 1 ∧ Dig 10000 (zs ++ [q]) ∧ Hid (val 10000 (zs ++ [q]) + c' * 10000 ^ (k + 1) = sumd 10000 d (k + 1)) := by
  refine ⟨by omega, by omega, by simp [hlen], hdig.snoc hq0 hq1, ?_⟩
  show val 10000 (zs ++ [q]) + c' * 10000 ^ (k + 1) = sumd 10000 d (k + 1)
  rw [val_snoc, hlen, sumd, Int.pow_succ]
  exact fold_step _ _ _ _ hsum.out _ _ _ he
theorem fold_carry {d : Nat → Int} {n k : Nat} {cc : Int} {zs : List Int} (hd0 : ∀ k, n ≤ k → d k = 0) (hT : 0 ≤ sumd 10000 d n) (hlen : zs.length = k) (hdig : Dig 10000 zs)
    (hsum : Hid (val 10000 zs + cc * 10000 ^ k = sumd 10000 d k)) (hk : n ≤ k) : 0 ≤ cc := by
  have h := hsum.out
  rw [sumd_more 10000 d n hd0 k hk] at h
  have hb := (val_bounds (show (1 : Int) < 10000 by decide) hdig).2
  rw [hlen] at hb
  by_cases hc : 0 ≤ cc
  · exact hc
  · have : cc * 10000 ^ k ≤ (-1) * 10000 ^ k := Int.mul_le_mul_of_nonneg_right (by omega) (Int.le_of_lt (pow_pos' (by decide) k))
    omega
theorem fold_end {d : Nat → Int} {n k : Nat} {cc : Int} {zs : List Int} (hd0 : ∀ k, n ≤ k → d k = 0) (hsum : Hid (val 10000 zs + cc * 10000 ^ k = sumd 10000 d k)) (hk : n ≤ k) (hc : cc = 0) : val 10000 zs = sumd 10000 d n := by
  have h := hsum.out
  rw [sumd_more 10000 d n hd0 k hk, hc] at h
  simpa using h

set_option maxRecDepth 100000 in
set_option maxHeartbeats 400000 in
theorem fold_any (n : Nat) (f : Nat) (cap : Array Value) (d : Nat → Int) (w : World) (hn : n ≤ 1000000)
    (hd : ∀ k, -9999 ≤ d k ∧ d k ≤ 99980001) (hd0 : ∀ k, n ≤ k → d k = 0) (hT : 0 ≤ sumd 10000 d n)
    (hE : ∀ (args : Array Value) (w : World), (callFunc f args).run Tryz.prog w = .ok (.enter f args) w)
    (hF : ∀ (W : World) (i : Nat), Below w.heap.size w W → Calls Tryz.prog f (#[.int .i64 i] ++ cap) W fun e W' => e = .returned (.int .i64 (d i)) ∧ Below W.heap.size W W') :
    Calls Tryz.prog 68 #[.int .i64 n, .int .i64 0, .func (.func f) #[] cap] w
      (Gives w fun v w' => ∃ zs, Sl w' v zs ∧ Dig 10000 zs ∧ val 10000 zs = sumd 10000 d n ∧ Fresh w v) := by
  obtain ⟨i0, hi, hz0, hz1, hz2⟩ := info_parts info_int
  go_enter Tryz.func68, Tryz.ntmps68
  go_wp2_with (at_make; refine wpList_make_own _ rfl _ _ 48 rfl w.heap.size 3 i0 (.int .i64 0) 1 Tryz.underlying48 hi hz0 hz1 _ _ _ (n + 1) rfl rfl (by omega) (by rw [hz2]; omega) (by unfold maxLen; omega) (Nat.le_refl _) ?_; intro w0 hown0 hgrow0)
  have hb0 : Below w.heap.size w w0 := (Below.refl _ _).grown hgrow0 (Nat.le_refl _) (fun k h => by cases h)
  go_loopw [1, 7, 8] (fun c out i wr => ∃ (k : Nat) (cc : Int) (zs : List Int), i = .int .i64 k ∧ c = .int .i64 cc ∧ -1 ≤ cc ∧ cc ≤ 9999 ∧ k ≤ n + 1 ∧ zs.length = k ∧ Dig 10000 zs ∧
      Hid (val 10000 zs + cc * 10000 ^ k = sumd 10000 d k) ∧ (n < k → Hid (cc = 0)) ∧ wr.ownsRow w.heap.size 3 1 out k (zs.map (Value.int .i64)) ∧ Below w.heap.size w wr)
    (fun c _ i _ => 2 * (n + 2 - (intOf i).toNat) + nz c)
  case atStart => exact ⟨0, 0, [], rfl, rfl, by omega, by omega, by omega, rfl, Dig.nil _, (rfl : val 10000 [] + 0 * 10000 ^ 0 = 0), fun h => by omega, hown0, hb0⟩
  case round =>
    obtain ⟨k, cc, zs, rfl, rfl, hc1, hc2, hk, hlen, hdig, hsum, hz, hown, hnx⟩ := hrel
    have hdk := hd k
    have hcarry := fold_carry hd0 hT hlen hdig hsum
    by_cases hkn : k < n
    · by_cases hlt : d k + cc < 0
      · go_wp2_with fail
        refine (hF wr k hnx).mono ?_
        rintro e W' ⟨rfl, hb⟩
        have hown := own_below hown hb
        go_wp2_with (at_builtin; refine wp_app_int (d k + cc + 10000) 48 Tryz.underlying48 rfl _ _ rfl rfl rfl hown (by omega) (by have := hnx.size; have := hb.size; omega) ?_; intro g cap' w1 hown1 _ hb1)
        obtain ⟨a1, a2, a3, a4, a5⟩ := fold_next (q := d k + cc + 10000) (c' := -1) (hd k) hc1 hc2 hlen hdig hsum (by omega) (by omega) (by omega)
        go_roundw
        case rel => exact ⟨k + 1, -1, zs ++ [d k + cc + 10000], by go_num, rfl, a1, a2, by omega, a3, a4, a5, fun h => by omega, hown1, (hnx.trans (hb.mono hnx.size)).trans hb1⟩
        case measure => exact nz_meas (by simp [intOf]; omega)
  
      · by_cases hge : 10000 ≤ d k + cc
        · go_wp2_with fail
          refine (hF wr k hnx).mono ?_
          rintro e W' ⟨rfl, hb⟩
          have hown := own_below hown hb
          go_wp2_with (at_builtin; refine wp_app_int ((d k + cc) % 10000) 48 Tryz.underlying48 rfl _ _ rfl rfl rfl hown (by omega) (by have := hnx.size; have := hb.size; omega) ?_; intro g cap' w1 hown1 _ hb1)
          obtain ⟨a1, a2, a3, a4, a5⟩ := fold_next (q := (d k + cc) % 10000) (c' := (d k + cc) / 10000) (hd k) hc1 hc2 hlen hdig hsum (by omega) (by omega) (by omega)
          go_roundw
          case rel => exact ⟨k + 1, (d k + cc) / 10000, zs ++ [(d k + cc) % 10000], by go_num, rfl, a1, a2, by omega, a3, a4, a5, fun h => by omega, hown1, (hnx.trans (hb.mono hnx.size)).trans hb1⟩
          case measure => exact nz_meas (by simp [intOf]; omega)
    
        · go_wp2_with fail
          refine (hF wr k hnx).mono ?_
          rintro e W' ⟨rfl, hb⟩
          have hown := own_below hown hb
          go_wp2_with (at_builtin; refine wp_app_int (d k + cc) 48 Tryz.underlying48 rfl _ _ rfl rfl rfl hown (by omega) (by have := hnx.size; have := hb.size; omega) ?_; intro g cap' w1 hown1 _ hb1)
          obtain ⟨a1, a2, a3, a4, a5⟩ := fold_next (q := d k + cc) (c' := 0) (hd k) hc1 hc2 hlen hdig hsum (by omega) (by omega) (by omega)
          go_roundw
          case rel => exact ⟨k + 1, 0, zs ++ [d k + cc], by go_num, rfl, a1, a2, by omega, a3, a4, a5, fun _ => rfl, hown1, (hnx.trans (hb.mono hnx.size)).trans hb1⟩
          case measure => exact nz_meas (by simp [intOf]; omega)
    
    · have hcz := hcarry (by omega)
      by_cases hcc : cc = 0
      · have hcb : (cc != 0) = false := by rw [hcc]; rfl
        have hfin := Lib.hid (fold_end hd0 hsum (by omega) hcc)
        clear hcc
        go_wp2_with fail
        go_ret
        exact ⟨⟨_, rfl, zs, Sl.of_own hown, hdig, hfin.out, Fresh.of_own hown (Nat.le_refl _)⟩, hnx⟩
      · have hcb : (cc != 0) = true := by simp [hcc]
        have hkn' : k ≤ n := by
          by_cases h : n < k
          · exact absurd (hz h).out hcc
          · omega
        have hd00 : d k = 0 := hd0 k (by omega)
        have hnot : ¬ 10000 ≤ d k + cc := by omega
        have hnot2 : ¬ d k + cc < 0 := by omega
        clear hd00
        go_wp2_with fail
        refine (hF wr k hnx).mono ?_
        rintro e W' ⟨rfl, hb⟩
        have hown := own_below hown hb
        go_wp2_with (at_builtin; refine wp_app_int (d k + cc) 48 Tryz.underlying48 rfl _ _ rfl rfl rfl hown (by omega) (by have := hnx.size; have := hb.size; omega) ?_; intro g cap' w1 hown1 _ hb1)
        obtain ⟨a1, a2, a3, a4, a5⟩ := fold_next (q := d k + cc) (c' := 0) (hd k) hc1 hc2 hlen hdig hsum (by omega) (by omega) (by omega)
        go_roundw
        case rel => exact ⟨k + 1, 0, zs ++ [d k + cc], by go_num, rfl, a1, a2, by omega, a3, a4, a5, fun _ => rfl, hown1, (hnx.trans (hb.mono hnx.size)).trans hb1⟩
        case measure => exact nz_meas (by simp [intOf]; omega)
  
end Go.Proofs.YtbnilfjhalildaaGreatDoor
