/- The contracts of number.plus, number.minus and number.by. -/
import Derived.Test.YtbnilfjhalildaaGreatDoorFold
import Derived.RangeFuncBox
import Derived.Shelf.Abstract
namespace Go.Proofs.YtbnilfjhalildaaGreatDoor
open Go.RowKit

theorem at_quiet (v : Value) (xs : List Int) (k n : Nat) (w : World) (h : Sl w v xs) :
    Calls Tryz.prog 70 #[v, .int .i64 k] (w.drewN n) fun e w'' => e = .returned (.int .i64 (gi xs k)) ∧ ∃ m, w'' = w.drewN m :=
  (at_any v xs k _ (h.drewN n) (by omega)).mono fun _ _ ⟨he, hw⟩ => ⟨by rw [he, Int.toNat_natCast], n, hw.symm⟩

set_option maxHeartbeats 400000 in
theorem plus1_any (k p q : Nat) (v u : Value) (xs ys : List Int) (w : World) (hp : w.cell? ⟨p, 0, none⟩ = some v) (hq : w.cell? ⟨q, 0, none⟩ = some u) (hv : Sl w v xs) (hu : Sl w u ys) (hx : Dig 10000 xs) (hy : Dig 10000 ys) :
    Calls Tryz.prog 69 #[.int .i64 k, .pointer (some ⟨p, 0, none⟩), .pointer (some ⟨q, 0, none⟩)] w fun e w' => e = .returned (.int .i64 (gi xs k + gi ys k)) ∧ Below w.heap.size w w' := by
  have bx := hx.gi (by decide) k
  have bY := hy.gi (by decide) k
  have e1 : IntKind.i64.wrap (gi xs k + gi ys k) = gi xs k + gi ys k := IntWalk.i64_in _ (by omega)
  go_enter Tryz.func69, Tryz.ntmps69
  go_wp2
  go_quiet ((first | (go_at_call 70; exact at_quiet _ _ _ _ _ (by assumption))))
  go_wp2
  go_ret
  exact ⟨ret_int rfl, below_drewN _ _⟩
set_option maxHeartbeats 400000 in
theorem minus1_any (k p q : Nat) (v u : Value) (xs ys : List Int) (w : World) (hp : w.cell? ⟨p, 0, none⟩ = some v) (hq : w.cell? ⟨q, 0, none⟩ = some u) (hv : Sl w v xs) (hu : Sl w u ys) (hx : Dig 10000 xs) (hy : Dig 10000 ys) :
    Calls Tryz.prog 71 #[.int .i64 k, .pointer (some ⟨p, 0, none⟩), .pointer (some ⟨q, 0, none⟩)] w fun e w' => e = .returned (.int .i64 (gi xs k - gi ys k)) ∧ Below w.heap.size w w' := by
  have bx := hx.gi (by decide) k
  have bY := hy.gi (by decide) k
  have e1 : IntKind.i64.wrap (gi xs k - gi ys k) = gi xs k - gi ys k := IntWalk.i64_in _ (by omega)
  go_enter Tryz.func71, Tryz.ntmps71
  go_wp2
  go_quiet ((first | (go_at_call 70; exact at_quiet _ _ _ _ _ (by assumption))))
  go_wp2
  go_ret
  exact ⟨ret_int rfl, below_drewN _ _⟩
set_option maxHeartbeats 400000 in
theorem by1_any (k p q : Nat) (v : Value) (n : Int) (xs : List Int) (w : World) (hp : w.cell? ⟨p, 0, none⟩ = some v) (hq : w.cell? ⟨q, 0, none⟩ = some (.int .i64 n)) (hv : Sl w v xs) (hx : Dig 10000 xs) (hn0 : 0 ≤ n) (hn1 : n ≤ 9999) :
    Calls Tryz.prog 84 #[.int .i64 k, .pointer (some ⟨p, 0, none⟩), .pointer (some ⟨q, 0, none⟩)] w fun e w' => e = .returned (.int .i64 (gi xs k * n)) ∧ Below w.heap.size w w' := by
  have bx := hx.gi (by decide) k
  have b1 : 0 ≤ gi xs k * n := Int.mul_nonneg bx.1 hn0
  have b2 : gi xs k * n ≤ 9999 * 9999 := Int.mul_le_mul (by omega) hn1 hn0 (by decide)
  have e1 : IntKind.i64.wrap (gi xs k * n) = gi xs k * n := IntWalk.i64_in _ (by omega)
  go_enter Tryz.func84, Tryz.ntmps84
  go_wp2
  go_quiet ((first | (go_at_call 70; exact at_quiet _ _ _ _ _ (by assumption))))
  go_wp2
  go_ret
  exact ⟨ret_int rfl, below_drewN _ _⟩



theorem plus_fold (n p q : Nat) (v u : Value) (xs ys : List Int) (w : World) (hp : w.cell? ⟨p, 0, none⟩ = some v) (hq : w.cell? ⟨q, 0, none⟩ = some u) (lp : p < w.heap.size) (lq : q < w.heap.size) (hv : Sl w v xs) (hu : Sl w u ys) (hx : Dig 10000 xs) (hy : Dig 10000 ys)
    (h1 : xs.length ≤ n) (h2 : ys.length ≤ n) (hn : n ≤ 1000000) :
    Calls Tryz.prog 68 #[.int .i64 n, .int .i64 0, .func (.func 69) #[] #[.pointer (some ⟨p, 0, none⟩), .pointer (some ⟨q, 0, none⟩)]] w
      (Gives w fun r w' => ∃ zs, Sl w' r zs ∧ Dig 10000 zs ∧ val 10000 zs = val 10000 xs + val 10000 ys ∧ Fresh w r) := by
  have hs : sumd 10000 (fun k => gi xs k + gi ys k) n = val 10000 xs + val 10000 ys := by
    rw [sumd_add, sumd_gi_all _ _ h1, sumd_gi_all _ _ h2]
  have b1 := (val_bounds (show (1 : Int) < 10000 by decide) hx).1
  have b2 := (val_bounds (show (1 : Int) < 10000 by decide) hy).1
  rw [← hs]
  exact fold_any n 69 _ (fun k => gi xs k + gi ys k) w hn (fun k => by have := hx.gi (by decide) k; have := hy.gi (by decide) k; constructor <;> omega) (fun k hk => by rw [gi_ge (by omega), gi_ge (by omega)]; rfl) (by omega)
    (Go.Proofs.enters_of Tryz.func69 (by kernel_rfl) rfl)
    (fun W i hb => plus1_any i p q v u xs ys W ((hb.cell (p := ⟨p, 0, none⟩) lp).trans hp) ((hb.cell (p := ⟨q, 0, none⟩) lq).trans hq) (hv.below hb) (hu.below hb) hx hy)

set_option maxHeartbeats 400000 in
theorem plus_any (v u : Value) (xs ys : List Int) (w : World) (hv : Sl w v xs) (hu : Sl w u ys) (hx : Dig 10000 xs) (hy : Dig 10000 ys) (hlx : xs.length ≤ 100000) (hly : ys.length ≤ 100000) :
    Calls Tryz.prog 43 #[v, u] w (Gives w fun r w' => ∃ zs, Sl w' r zs ∧ Num 10000 zs (val 10000 xs + val 10000 ys) ∧ Fresh w r) := by
  have hb0 : Below w.heap.size w ((w.alloc (.cells #[v] 48)).alloc (.cells #[u] 48)) := ((Below.refl _ _).alloc (Nat.le_refl _) _).alloc (by simp) _
  have hv0 := hv.below hb0
  have hu0 := hu.below hb0
  obtain ⟨a1, c1, rfl⟩ := hv.shape
  obtain ⟨a2, c2, rfl⟩ := hu.shape
  go_enter Tryz.func43, Tryz.ntmps43
  go_wp2_with fail
  all_goals
    refine (plus_fold _ _ _ _ _ xs ys _ (by simp) (by simp) (by simp; omega) (by simp) hv0 hu0 hx hy (by omega) (by omega) (by omega)).mono ?_
    rintro e w1 ⟨⟨r, rfl, zs, hz, hd, hval, hfr⟩, hb⟩
    go_wp2_with (go_at_call 65; refine (trimmed_any _ zs _ hz).mono ?_; rintro e w2 ⟨⟨r2, rfl, hz2, hp2⟩, rfl⟩)
    go_ret
    exact ⟨⟨_, rfl, _, hz2, by rw [← hval]; exact Num.trim hd, (hfr.of_ptr hp2).mono hb0.size⟩, hb0.trans (hb.mono hb0.size)⟩
theorem minus_fold (p q : Nat) (v u : Value) (xs ys : List Int) (w : World) (hp : w.cell? ⟨p, 0, none⟩ = some v) (hq : w.cell? ⟨q, 0, none⟩ = some u) (lp : p < w.heap.size) (lq : q < w.heap.size) (hv : Sl w v xs) (hu : Sl w u ys) (hx : Dig 10000 xs) (hy : Dig 10000 ys)
    (h2 : ys.length ≤ xs.length) (hn : xs.length ≤ 1000000) (hle : val 10000 ys ≤ val 10000 xs) :
    Calls Tryz.prog 68 #[.int .i64 xs.length, .int .i64 0, .func (.func 71) #[] #[.pointer (some ⟨p, 0, none⟩), .pointer (some ⟨q, 0, none⟩)]] w
      (Gives w fun r w' => ∃ zs, Sl w' r zs ∧ Dig 10000 zs ∧ val 10000 zs = val 10000 xs - val 10000 ys ∧ Fresh w r) := by
  have hs : sumd 10000 (fun k => gi xs k - gi ys k) xs.length = val 10000 xs - val 10000 ys := by
    rw [sumd_sub, sumd_gi_all _ _ (Nat.le_refl _), sumd_gi_all _ _ h2]
  rw [← hs]
  exact fold_any xs.length 71 _ (fun k => gi xs k - gi ys k) w hn (fun k => by have := hx.gi (by decide) k; have := hy.gi (by decide) k; constructor <;> omega) (fun k hk => by rw [gi_ge (by omega), gi_ge (by omega)]; rfl) (by omega)
    (Go.Proofs.enters_of Tryz.func71 (by kernel_rfl) rfl)
    (fun W i hb => minus1_any i p q v u xs ys W ((hb.cell (p := ⟨p, 0, none⟩) lp).trans hp) ((hb.cell (p := ⟨q, 0, none⟩) lq).trans hq) (hv.below hb) (hu.below hb) hx hy)

set_option maxHeartbeats 400000 in
theorem minus_any (v u : Value) (xs ys : List Int) (w : World) (hv : Sl w v xs) (hu : Sl w u ys) (hx : Dig 10000 xs) (hy : Dig 10000 ys) (hlx : xs.length ≤ 100000) (hly : ys.length ≤ xs.length) (hle : val 10000 ys ≤ val 10000 xs) :
    Calls Tryz.prog 45 #[v, u] w (Gives w fun r w' => ∃ zs, Sl w' r zs ∧ Num 10000 zs (val 10000 xs - val 10000 ys) ∧ Fresh w r) := by
  have hb0 : Below w.heap.size w ((w.alloc (.cells #[v] 48)).alloc (.cells #[u] 48)) := ((Below.refl _ _).alloc (Nat.le_refl _) _).alloc (by simp) _
  have hv0 := hv.below hb0
  have hu0 := hu.below hb0
  obtain ⟨a1, c1, rfl⟩ := hv.shape
  obtain ⟨a2, c2, rfl⟩ := hu.shape
  go_enter Tryz.func45, Tryz.ntmps45
  go_wp2_with fail
  refine (minus_fold _ _ _ _ xs ys _ (by simp) (by simp) (by simp; omega) (by simp) hv0 hu0 hx hy hly (by omega) hle).mono ?_
  rintro e w1 ⟨⟨r, rfl, zs, hz, hd, hval, hfr⟩, hb⟩
  go_wp2_with (go_at_call 65; refine (trimmed_any _ zs _ hz).mono ?_; rintro e w2 ⟨⟨r2, rfl, hz2, hp2⟩, rfl⟩)
  go_ret
  exact ⟨⟨_, rfl, _, hz2, by rw [← hval]; exact Num.trim hd, (hfr.of_ptr hp2).mono hb0.size⟩, hb0.trans (hb.mono hb0.size)⟩

theorem by_fold (p q : Nat) (v : Value) (n : Int) (xs : List Int) (w : World) (hp : w.cell? ⟨p, 0, none⟩ = some v) (hq : w.cell? ⟨q, 0, none⟩ = some (.int .i64 n)) (lp : p < w.heap.size) (lq : q < w.heap.size) (hv : Sl w v xs) (hx : Dig 10000 xs)
    (hl : xs.length ≤ 1000000) (hn0 : 0 ≤ n) (hn1 : n ≤ 9999) :
    Calls Tryz.prog 68 #[.int .i64 xs.length, .int .i64 0, .func (.func 84) #[] #[.pointer (some ⟨p, 0, none⟩), .pointer (some ⟨q, 0, none⟩)]] w
      (Gives w fun r w' => ∃ zs, Sl w' r zs ∧ Dig 10000 zs ∧ val 10000 zs = val 10000 xs * n ∧ Fresh w r) := by
  have hs : sumd 10000 (fun k => gi xs k * n) xs.length = val 10000 xs * n := by
    rw [sumd_mul, sumd_gi_all _ _ (Nat.le_refl _)]
  have h0 := Int.mul_nonneg (val_bounds (show (1 : Int) < 10000 by decide) hx).1 hn0
  rw [← hs]
  exact fold_any xs.length 84 _ (fun k => gi xs k * n) w hl
    (fun k => by
      have bx := hx.gi (by decide) k
      have b1 : 0 ≤ gi xs k * n := Int.mul_nonneg bx.1 hn0
      have b2 : gi xs k * n ≤ 9999 * 9999 := Int.mul_le_mul (by omega) hn1 hn0 (by decide)
      constructor <;> omega)
    (fun k hk => by rw [gi_ge (by omega), Int.zero_mul]) (by omega)
    (Go.Proofs.enters_of Tryz.func84 (by kernel_rfl) rfl)
    (fun W i hb => by1_any i p q v n xs W ((hb.cell (p := ⟨p, 0, none⟩) lp).trans hp) ((hb.cell (p := ⟨q, 0, none⟩) lq).trans hq) (hv.below hb) hx hn0 hn1)

set_option maxHeartbeats 400000 in
theorem by_any (v : Value) (n : Int) (xs : List Int) (w : World) (hv : Sl w v xs) (hx : Dig 10000 xs) (hlx : xs.length ≤ 100000) (hn0 : 0 ≤ n) (hn1 : n ≤ 9999) :
    Calls Tryz.prog 64 #[v, .int .i64 n] w (Gives w fun r w' => ∃ zs, Sl w' r zs ∧ Num 10000 zs (val 10000 xs * n) ∧ Fresh w r) := by
  have hb0 : Below w.heap.size w ((w.alloc (.cells #[v] 48)).alloc (.cells #[.int .i64 n] 3)) := ((Below.refl _ _).alloc (Nat.le_refl _) _).alloc (by simp) _
  have hv0 := hv.below hb0
  obtain ⟨a1, c1, rfl⟩ := hv.shape
  go_enter Tryz.func64, Tryz.ntmps64
  go_wp2_with fail
  refine (by_fold _ _ _ n xs _ (by simp) (by simp) (by simp; omega) (by simp) hv0 hx (by omega) hn0 hn1).mono ?_
  rintro e w1 ⟨⟨r, rfl, zs, hz, hd, hval, hfr⟩, hb⟩
  go_wp2_with (go_at_call 65; refine (trimmed_any _ zs _ hz).mono ?_; rintro e w2 ⟨⟨r2, rfl, hz2, hp2⟩, rfl⟩)
  go_ret
  exact ⟨⟨_, rfl, _, hz2, by rw [← hval]; exact Num.trim hd, (hfr.of_ptr hp2).mono hb0.size⟩, hb0.trans (hb.mono hb0.size)⟩
end Go.Proofs.YtbnilfjhalildaaGreatDoor
