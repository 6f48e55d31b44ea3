/- package decay: slices.ContainsFunc over data; lines. -/
import Derived.Test.YtebokdboodgkpaaGreatDoorDecA
import Derived.Test.YtebokdboodgkpaaGreatDoorPkC
namespace Go.Proofs.YtebokdboodgkpaaGreatDoor
open Go.RowKit
open DecM (Dt gd gd_lt gd_mem okF okD Ln)
attribute [local go_sem] Oper.semAt_some

/-- A datum as a value. -/
def dtV (p : Dt) : Value := .agg #[.int .i64 p.t, .int .i64 p.lo, .int .i64 p.hi]
theorem any_step {l : List Dt} {k : Nat} (p : Dt → Bool) (h : k < l.length) : (l.drop k).any p = (p (gd l k) || (l.drop (k + 1)).any p) := by rw [drop_gd h, List.any_cons]
set_option maxRecDepth 100000 in
set_option maxHeartbeats 4000000 in
theorem indexD_any (v : Value) (l : List Dt) (g : Nat) (lb : Array Value) (p : Dt → Bool) (w : World) (h : SlD w v l)
    (hE : ∀ (args : Array Value) (w : World), (callFunc g args).run Tryz.prog w = .ok (.enter g args) w)
    (hF : ∀ (W : World) (x : Dt), x ∈ l → Below w.heap.size w W → Calls Tryz.prog g (#[.agg #[.int .i64 x.t, .int .i64 x.lo, .int .i64 x.hi]] ++ lb) W fun e W' => e = .returned (.bool (p x)) ∧ Below W.heap.size W W') :
    Calls Tryz.prog 73 #[v, .func (.func g) #[] lb] w fun e w' => (∃ z : Int, e = .returned (.int .i64 z) ∧ -1 ≤ z ∧ (0 ≤ z ↔ l.any p = true)) ∧ Below w.heap.size w w' := by
  have hl := h.len_le
  unfold maxLen at hl
  rcases h with ⟨rfl, rfl⟩ | ⟨b, off, cap, rfl, h1, h2, h3, h4⟩
  · go_enter Tryz.func73, Tryz.ntmps73
    go_wp2_with fail
    go_loopw [8] (fun i wr => i = .int .i64 0 ∧ wr = w) (fun _ _ => 0)
    case atStart => exact ⟨rfl, rfl⟩
    case round =>
      obtain ⟨rfl, rfl⟩ := hrel
      go_wp2
      go_ret
      exact ⟨⟨-1, rfl, by omega, by simp⟩, Below.refl _ _⟩
  · go_enter Tryz.func73, Tryz.ntmps73
    go_wp2_with fail
    go_loopw [8] (fun i wr => ∃ (k : Nat), i = .int .i64 k ∧ k ≤ l.length ∧ Hid (l.any p = (l.drop k).any p) ∧ Below w.heap.size w wr)
      (fun i _ => l.length - (intOf i).toNat)
    case atStart => exact ⟨0, rfl, by omega, rfl, Below.refl _ _⟩
    case round =>
      obtain ⟨k, rfl, hk, hp, hB⟩ := hrel
      by_cases hkl : k < l.length
      · obtain ⟨c0, c1, c2⟩ := (h4 k hkl).below hB h3
        rw [any_step p hkl] at hp
        have hFk := hF wr (gd l k) (gd_mem hkl) hB
        cases hpk : p (gd l k) with
        | true =>
          replace hp := Lib.hid (show l.any p = true by rw [hp.out, hpk] <;> rfl)
          rw [hpk] at hFk
          clear hpk
          replace hFk := Lib.hid hFk
          generalize gd l k = x at *
          go_wp2_with fail
          refine hFk.out.mono ?_
          rintro e W' ⟨rfl, hb⟩
          go_wp2
          go_ret
          exact ⟨⟨k, rfl, by omega, by rw [hp.out]; simp⟩, kb_call hb hB (Nat.le_refl _)⟩
        | false =>
          replace hp := Lib.hid (show l.any p = (l.drop (k + 1)).any p by rw [hp.out, hpk] <;> rfl)
          rw [hpk] at hFk
          clear hpk
          replace hFk := Lib.hid hFk
          generalize gd l k = x at *
          go_wp2_with fail
          refine hFk.out.mono ?_
          rintro e W' ⟨rfl, hb⟩
          go_wp2_with fail
          go_roundw
          case rel => exact ⟨k + 1, by go_num, by omega, hp, kb_call hb hB (Nat.le_refl _)⟩
          case measure => simp [intOf]; omega
      · have hp := Lib.hid (show l.any p = false by rw [hp.out, List.drop_eq_nil_of_le (by omega)]; rfl)
        go_wp2
        go_ret
        exact ⟨⟨-1, rfl, by omega, by rw [hp.out]; simp⟩, hB⟩
set_option maxRecDepth 100000 in
set_option maxHeartbeats 4000000 in
/-- slices.ContainsFunc over data. -/
theorem containsD_any (v : Value) (l : List Dt) (g : Nat) (lb : Array Value) (p : Dt → Bool) (w : World) (h : SlD w v l)
    (hE : ∀ (args : Array Value) (w : World), (callFunc g args).run Tryz.prog w = .ok (.enter g args) w)
    (hF : ∀ (W : World) (x : Dt), x ∈ l → Below w.heap.size w W → Calls Tryz.prog g (#[.agg #[.int .i64 x.t, .int .i64 x.lo, .int .i64 x.hi]] ++ lb) W fun e W' => e = .returned (.bool (p x)) ∧ Below W.heap.size W W') :
    Calls Tryz.prog 50 #[v, .func (.func g) #[] lb] w fun e w' => e = .returned (.bool (l.any p)) ∧ Below w.heap.size w w' := by
  have hI := Lib.hid (indexD_any v l g lb p w h hE hF)
  go_enter Tryz.func50, Tryz.ntmps50
  go_wp2_with fail
  refine hI.out.mono ?_
  rintro e w' ⟨⟨z, rfl, hz0, hz⟩, hb⟩
  replace hz := Lib.hid (show decide (0 ≤ z) = l.any p by cases hc : l.any p <;> simp [hc] at hz ⊢ <;> omega)
  go_wp2
  go_ret
  exact ⟨ret_bool hz.out, hb⟩

/-- A line as a value. -/
def lnV (x : Ln) : Value := .agg #[.int .i64 x.t, .int .i64 x.v, .int .i64 x.u, .int .i64 x.w]
def lnC (x : Ln) : Array Value := #[.int .i64 x.t, .int .i64 x.v, .int .i64 x.u, .int .i64 x.w]
/-- A line through data. -/
structure LnOk (x : Ln) : Prop where
  t : 0 ≤ x.t ∧ x.t ≤ 800000
  u : 0 ≤ x.u ∧ x.u ≤ 800000
  v : -1000000 ≤ x.v ∧ x.v ≤ 1000000
  w : -1000000 ≤ x.w ∧ x.w ≤ 1000000
theorem mul_bd {a b : Int} (A B : Nat) (ha : -(A : Int) ≤ a ∧ a ≤ A) (hb : -(B : Int) ≤ b ∧ b ≤ B) : -((A * B : Nat) : Int) ≤ a * b ∧ a * b ≤ ((A * B : Nat) : Int) := by
  have h : (a * b).natAbs ≤ A * B := by rw [Int.natAbs_mul]; exact Nat.mul_le_mul (by omega) (by omega)
  omega
theorem on_bd {x : Ln} (h : LnOk x) {t : Int} (ht : 0 ≤ t ∧ t ≤ 800000) : (-800000000000 ≤ x.v * (x.u - t) ∧ x.v * (x.u - t) ≤ 800000000000) ∧ (-800000000000 ≤ x.w * (t - x.t) ∧ x.w * (t - x.t) ≤ 800000000000) := by
  obtain ⟨h1, h2, h3, h4⟩ := h
  have a := mul_bd (a := x.v) (b := x.u - t) 1000000 800000 (by omega) (by omega)
  have b := mul_bd (a := x.w) (b := t - x.t) 1000000 800000 (by omega) (by omega)
  exact ⟨by omega, by omega⟩
theorem on_le {x : Ln} (h : LnOk x) {t : Int} (ht : 0 ≤ t ∧ t ≤ 800000) : -1600000000000 ≤ x.on t ∧ x.on t ≤ 1600000000000 := by
  have := on_bd h ht
  unfold DecM.Ln.on; omega
set_option maxRecDepth 100000 in
set_option maxHeartbeats 4000000 in
theorem on_any (x : Ln) (t : Int) (h : LnOk x) (ht : 0 ≤ t ∧ t ≤ 800000) (w : World) :
    Calls Tryz.prog 33 #[.agg #[.int .i64 x.t, .int .i64 x.v, .int .i64 x.u, .int .i64 x.w], .int .i64 t] w fun e w' => e = .returned (.int .i64 (x.on t)) ∧ Below w.heap.size w w' := by
  obtain ⟨⟨b1, b2⟩, b3, b4⟩ := on_bd h ht
  obtain ⟨⟨t0, t1⟩, ⟨u0, u1⟩, _, _⟩ := h
  obtain ⟨ht0, ht1⟩ := ht
  have he := Lib.hid (show x.v * (x.u - t) + x.w * (t - x.t) = x.on t from rfl)
  generalize x.on t = r at *
  obtain ⟨p, v, u, q⟩ := x
  dsimp only at *
  have w1 : IntKind.i64.wrap (u - t) = u - t := IntWalk.i64_in _ (by omega)
  have w2 : IntKind.i64.wrap (t - p) = t - p := IntWalk.i64_in _ (by omega)
  have w3 : IntKind.i64.wrap (v * (u - t)) = v * (u - t) := IntWalk.i64_in _ (by omega)
  have w4 : IntKind.i64.wrap (q * (t - p)) = q * (t - p) := IntWalk.i64_in _ (by omega)
  have w5 : IntKind.i64.wrap (v * (u - t) + q * (t - p)) = v * (u - t) + q * (t - p) := IntWalk.i64_in _ (by omega)
  have hB := kb_new (Below.refl w.heap.size w) (.cells #[.int .i64 p, .int .i64 v, .int .i64 u, .int .i64 q] 63)
  go_enter Tryz.func33, Tryz.ntmps33
  go_wp2
  go_ret
  exact ⟨ret_int he.out, hB⟩
end Go.Proofs.YtebokdboodgkpaaGreatDoor
