/- putlogref26: in, times, most, apart, Valid. -/
import Derived.Test.YtebokdboodgkpaaGreatDoorDecK
import Derived.Test.YtebokdboodgkpaaGreatDoorDecH
namespace Go.Proofs.YtebokdboodgkpaaGreatDoor
open Go.RowKit
open DecM (Dt gd gd_mem gd_lt okD okF Ln refD f1 f2 f3 apB Apart mx mostN)
attribute [local go_sem] Oper.semAt_some

theorem in26_any (n lo hi : Int) (w : World) : Calls Tryz.prog 43 #[.int .i64 n, .int .i64 lo, .int .i64 hi] w fun e w' => e = .returned (.bool (decide (lo ≤ n) && decide (n ≤ hi))) ∧ w = w' := by
  by_cases h1 : lo ≤ n <;> by_cases h2 : n ≤ hi
  all_goals
    go_enter Tryz.func43, Tryz.ntmps43
    go_wp2
    go_ret
    exact ⟨ret_bool (by simp [h1, h2]), rfl⟩
theorem in26_t {n lo hi : Int} (h : lo ≤ n ∧ n ≤ hi) (w : World) : Calls Tryz.prog 43 #[.int .i64 n, .int .i64 lo, .int .i64 hi] w fun e w' => e = .returned (.bool true) ∧ w = w' :=
  (in26_any n lo hi w).mono fun _ _ k => ⟨by rw [k.1, decide_eq_true h.1, decide_eq_true h.2]; rfl, k.2⟩
theorem in26_f {n lo hi : Int} (h : ¬ (lo ≤ n ∧ n ≤ hi)) (w : World) : Calls Tryz.prog 43 #[.int .i64 n, .int .i64 lo, .int .i64 hi] w fun e w' => e = .returned (.bool false) ∧ w = w' :=
  (in26_any n lo hi w).mono fun _ _ k => ⟨by rw [k.1, ← Bool.decide_and, decide_eq_false h], k.2⟩
theorem in26_b (n lo hi : Int) (w : World) : Calls Tryz.prog 43 #[.int .i64 n, .int .i64 lo, .int .i64 hi] w (Rets w (.bool (decide (lo ≤ n) && decide (n ≤ hi)))) :=
  (in26_any n lo hi w).mono fun _ _ h => ⟨h.1, by rw [← h.2]; exact Below.refl _ _⟩
theorem mx_bd {n lo hi : Int} (hn : -800000 ≤ n ∧ n ≤ 800000) (hl : -1000000 ≤ lo ∧ lo ≤ 1000000) (hh : -1000000 ≤ hi ∧ hi ≤ 1000000) : -800000000000 ≤ mx n lo hi ∧ mx n lo hi ≤ 800000000000 := by
  unfold mx
  split
  · exact mul_bd 800000 1000000 hn hl
  · exact mul_bd 800000 1000000 hn hh
theorem times26_any (n lo hi : Int) (hn : -800000 ≤ n ∧ n ≤ 800000) (hl : -1000000 ≤ lo ∧ lo ≤ 1000000) (hh : -1000000 ≤ hi ∧ hi ≤ 1000000) (w : World) :
    Calls Tryz.prog 89 #[.int .i64 n, .int .i64 lo, .int .i64 hi] w (Rets w (.int .i64 (mx n lo hi))) := by
  have m1 := mul_bd (a := n) (b := lo) 800000 1000000 hn hl
  have m2 := mul_bd (a := n) (b := hi) 800000 1000000 hn hh
  by_cases h : n < 0
  · have he := Lib.hid (show n * lo = mx n lo hi by unfold mx; rw [if_pos h])
    generalize mx n lo hi = r at *
    have w1 : IntKind.i64.wrap (n * lo) = n * lo := IntWalk.i64_in _ (by omega)
    go_enter Tryz.func89, Tryz.ntmps89
    go_wp2
    go_ret
    exact ⟨ret_int he.out, Below.refl _ _⟩
  · have he := Lib.hid (show n * hi = mx n lo hi by unfold mx; rw [if_neg h])
    generalize mx n lo hi = r at *
    have w1 : IntKind.i64.wrap (n * hi) = n * hi := IntWalk.i64_in _ (by omega)
    go_enter Tryz.func89, Tryz.ntmps89
    go_wp2
    go_ret
    exact ⟨ret_int he.out, Below.refl _ _⟩
theorem kb_then {w W W' : World} (h : Below w.heap.size w W) (hb : Below W.heap.size W W') : Below w.heap.size w W' := kb_call hb h (Nat.le_refl _)
theorem kb3 (w : World) (a b c : Obj) : Below w.heap.size w (((w.alloc a).alloc b).alloc c) := kb_new (kb_new (kb_new (Below.refl _ _) a) b) c
set_option maxRecDepth 100000 in
set_option maxHeartbeats 4000000 in
theorem apart_any (p q r : Dt) (hp : DtOk p) (hq : DtOk q) (hr : DtOk r) (w : World) :
    Calls Tryz.prog 34 #[dtV p, dtV q, dtV r] w (Rets w (.bool (decide (Apart p q r)))) := by
  have ha := Lib.hid (show decide (Apart p q r) = (decide (q.hi * (r.t - p.t) < p.lo * (r.t - q.t) + r.lo * (q.t - p.t)) || decide (q.lo * (r.t - p.t) > p.hi * (r.t - q.t) + r.hi * (q.t - p.t))) by
    rw [Bool.eq_iff_iff, decide_eq_true_iff, Bool.or_eq_true, decide_eq_true_iff, decide_eq_true_iff]; exact Iff.rfl)
  generalize decide (Apart p q r) = res at *
  obtain ⟨pt, pl, ph⟩ := p
  obtain ⟨qt, ql, qh⟩ := q
  obtain ⟨rt, rl, rh⟩ := r
  obtain ⟨⟨a0, a1⟩, ⟨a2, a3⟩, a4, a5⟩ := hp
  obtain ⟨⟨b0, b1⟩, ⟨b2, b3⟩, b4, b5⟩ := hq
  obtain ⟨⟨c0, c1⟩, ⟨c2, c3⟩, c4, c5⟩ := hr
  dsimp only at *
  unfold dtV
  dsimp only
  have w1 : IntKind.i64.wrap (rt - pt) = rt - pt := IntWalk.i64_in _ (by omega)
  have w2 : IntKind.i64.wrap (rt - qt) = rt - qt := IntWalk.i64_in _ (by omega)
  have w3 : IntKind.i64.wrap (qt - pt) = qt - pt := IntWalk.i64_in _ (by omega)
  have m1 := mul_bd (a := pl) (b := rt - qt) 1000000 800000 (by omega) (by omega)
  have m2 := mul_bd (a := rl) (b := qt - pt) 1000000 800000 (by omega) (by omega)
  have m3 := mul_bd (a := ph) (b := rt - qt) 1000000 800000 (by omega) (by omega)
  have m4 := mul_bd (a := rh) (b := qt - pt) 1000000 800000 (by omega) (by omega)
  have m5 := mul_bd (a := qh) (b := rt - pt) 1000000 800000 (by omega) (by omega)
  have m6 := mul_bd (a := ql) (b := rt - pt) 1000000 800000 (by omega) (by omega)
  obtain ⟨z1, e1⟩ : ∃ z, z = pl * (rt - qt) := ⟨_, rfl⟩
  obtain ⟨z2, e2⟩ : ∃ z, z = rl * (qt - pt) := ⟨_, rfl⟩
  obtain ⟨z3, e3⟩ : ∃ z, z = ph * (rt - qt) := ⟨_, rfl⟩
  obtain ⟨z4, e4⟩ : ∃ z, z = rh * (qt - pt) := ⟨_, rfl⟩
  obtain ⟨z5, e5⟩ : ∃ z, z = qh * (rt - pt) := ⟨_, rfl⟩
  obtain ⟨z6, e6⟩ : ∃ z, z = ql * (rt - pt) := ⟨_, rfl⟩
  have v1 : IntKind.i64.wrap (pl * (rt - qt)) = z1 := by rw [e1]; exact IntWalk.i64_in _ (by omega)
  have v2 : IntKind.i64.wrap (rl * (qt - pt)) = z2 := by rw [e2]; exact IntWalk.i64_in _ (by omega)
  have v3 : IntKind.i64.wrap (ph * (rt - qt)) = z3 := by rw [e3]; exact IntWalk.i64_in _ (by omega)
  have v4 : IntKind.i64.wrap (rh * (qt - pt)) = z4 := by rw [e4]; exact IntWalk.i64_in _ (by omega)
  have v5 : IntKind.i64.wrap (qh * (rt - pt)) = z5 := by rw [e5]; exact IntWalk.i64_in _ (by omega)
  have v6 : IntKind.i64.wrap (ql * (rt - pt)) = z6 := by rw [e6]; exact IntWalk.i64_in _ (by omega)
  rw [← e1, ← e2, ← e3, ← e4, ← e5, ← e6] at ha
  rw [← e1] at m1; rw [← e2] at m2; rw [← e3] at m3; rw [← e4] at m4; rw [← e5] at m5; rw [← e6] at m6
  obtain ⟨y1, f1⟩ : ∃ z, z = z1 + z2 := ⟨_, rfl⟩
  obtain ⟨y2, f2⟩ : ∃ z, z = z3 + z4 := ⟨_, rfl⟩
  have u1 : IntKind.i64.wrap (z1 + z2) = y1 := by rw [f1]; exact IntWalk.i64_in _ (by omega)
  have u2 : IntKind.i64.wrap (z3 + z4) = y2 := by rw [f2]; exact IntWalk.i64_in _ (by omega)
  rw [← f1, ← f2] at ha
  clear e1 e2 e3 e4 e5 e6 f1 f2 m1 m2 m3 m4 m5 m6 a0 a1 a2 a3 a4 a5 b0 b1 b2 b3 b4 b5 c0 c1 c2 c3 c4 c5
  by_cases h1 : z5 < y1
  · replace ha := Lib.hid (show res = true by rw [ha.out, decide_eq_true h1]; rfl)
    go_enter Tryz.func34, Tryz.ntmps34
    go_wp2
    go_ret
    exact ⟨ret_bool ha.out.symm, kb3 _ _ _ _⟩
  · by_cases h2 : z6 > y2
    · replace ha := Lib.hid (show res = true by rw [ha.out, decide_eq_false h1, decide_eq_true h2]; rfl)
      go_enter Tryz.func34, Tryz.ntmps34
      go_wp2
      go_ret
      exact ⟨ret_bool ha.out.symm, kb3 _ _ _ _⟩
    · replace ha := Lib.hid (show res = false by rw [ha.out, decide_eq_false h1, decide_eq_false h2]; rfl)
      go_enter Tryz.func34, Tryz.ntmps34
      go_wp2
      go_ret
      exact ⟨ret_bool ha.out.symm, kb3 _ _ _ _⟩
end Go.Proofs.YtebokdboodgkpaaGreatDoor
