/- What package rational and its reference return of the same texts. -/
import Derived.Test.YtiekbcbcbgmnmaaGreatDoorFourT
import Derived.Test.YtiekbcbcbgmnmaaGreatDoorRefW
import Derived.Test.YtiekbcbcbgmnmaaGreatDoorCutQ
import Derived.Test.YtiekbcbcbgmnmaaGreatDoorIsQ
namespace Go.Proofs.YtiekbcbcbgmnmaaGreatDoor
open Go.RowKit
attribute [local go_sem] Oper.semAt_some

/-- A text that is read. -/
def Tx (a : ByteArray) : Prop := a.size ≤ 9223372036854775807
abbrev rq (n d : ByteArray) : Value := .agg #[.string n, .string d]
/-- Both return the same, whatever the two fractions are. -/
structure PairC (na da nb db n0 d0 n1 d1 n2 d2 n3 d3 : ByteArray) (e0 e1 e2 e3 c : Int) : Prop where
  four : ∀ W, Env W → Calls Tryz.prog 8 #[rq na da, rq nb db] W (Rets W (Value.tuple #[.agg #[.string n0, .string d0, .string n1, .string d1, .string n2, .string d2, .string n3, .string d3], .agg #[.int .i64 e0, .int .i64 e1, .int .i64 e2, .int .i64 e3]]))
  add : ∀ W, Calls Tryz.prog 9 #[rq na da, rq nb db] W (Rets W (.tuple #[rq n0 d0, .int .i64 e0]))
  sub : ∀ W, Calls Tryz.prog 10 #[rq na da, rq nb db] W (Rets W (.tuple #[rq n1 d1, .int .i64 e1]))
  mul : ∀ W, Calls Tryz.prog 11 #[rq na da, rq nb db] W (Rets W (.tuple #[rq n2 d2, .int .i64 e2]))
  div : ∀ W, Calls Tryz.prog 12 #[rq na da, rq nb db] W (Rets W (.tuple #[rq n3 d3, .int .i64 e3]))
  cmp : ∀ W, Env W → Calls Tryz.prog 13 #[rq na da, rq nb db] W (Rets W (.int .i64 c))
  rcmp : ∀ W, Calls Tryz.prog 14 #[rq na da, rq nb db] W (Rets W (.int .i64 c))
theorem pair_c {na da nb db : ByteArray} (h1 : Tx na) (h2 : Tx da) (h3 : Tx nb) (h4 : Tx db) : ∃ n0 d0 n1 d1 n2 d2 n3 d3 e0 e1 e2 e3 c, PairC na da nb db n0 d0 n1 d1 n2 d2 n3 d3 e0 e1 e2 e3 c := by
  have A := fun W (hE : Env W) => qAdd_any na da nb db W hE
  have A' := fun W => qrAdd_any na da nb db h1 h2 h3 h4 W
  obtain ⟨n0, d0, e0, q0⟩ := qT_shape (rOk na da && rOk nb db && decide (Small (zS na * zS db)) && decide (Small (zS nb * zS da)) && decide (Small (zS na * zS db + zS nb * zS da)) && decide (Small (zS da * zS db)) && decide (zS da * zS db ≠ 0)) (Rat.divInt (zS na * zS db + zS nb * zS da) (zS da * zS db))
  rw [q0] at A A'
  have S := fun W (hE : Env W) => qSub_any na da nb db W hE
  have S' := fun W => qrSub_any na da nb db h1 h2 h3 h4 W
  obtain ⟨n1, d1, e1, q1⟩ := qT_shape (rOk na da && rOk nb db && decide (Small (zS na * zS db)) && decide (Small (zS nb * zS da)) && decide (Small (zS na * zS db - zS nb * zS da)) && decide (Small (zS da * zS db)) && decide (zS da * zS db ≠ 0)) (Rat.divInt (zS na * zS db - zS nb * zS da) (zS da * zS db))
  rw [q1] at S S'
  have M := fun W (hE : Env W) => qMul_any na da nb db W hE
  have M' := fun W => qrMul_any na da nb db h1 h2 h3 h4 W
  obtain ⟨n2, d2, e2, q2⟩ := qT_shape (rOk na da && rOk nb db && decide (Small (zS na * zS nb)) && decide (Small (zS da * zS db)) && decide (zS da * zS db ≠ 0)) (Rat.divInt (zS na * zS nb) (zS da * zS db))
  rw [q2] at M M'
  have D := fun W (hE : Env W) => qDiv_any na da nb db W hE
  have D' := fun W => qrDiv_any na da nb db h1 h2 h3 h4 W
  obtain ⟨n3, d3, e3, q3⟩ := qT_shape (rOk na da && rOk nb db && decide (Small (zS na * zS db)) && decide (Small (zS da * zS nb)) && decide (zS da * zS nb ≠ 0)) (Rat.divInt (zS na * zS db) (zS da * zS nb))
  rw [q3] at D D'
  exact ⟨n0, d0, n1, d1, n2, d2, n3, d3, e0, e1, e2, e3, _, fun W hE => four_gen na da nb db n0 d0 n1 d1 n2 d2 n3 d3 e0 e1 e2 e3 A S M D W hE, A', S', M', D', fun W hE => qcmp_any na da nb db W hE, fun W => qrcmp_any na da nb db h1 h2 h3 h4 W⟩
/-- Both round alike. -/
structure RndC (n d : ByteArray) (k : Int) (s t s' t' : ByteArray) (e e' : Int) : Prop where
  down : ∀ W, Env W → Calls Tryz.prog 16 #[rq n d, .int .i64 k] W (Rets W (.tuple #[rq s t, .int .i64 e]))
  rdown : ∀ W, Calls Tryz.prog 17 #[rq n d, .int .i64 k] W (Rets W (.tuple #[rq s t, .int .i64 e]))
  up : ∀ W, Env W → Calls Tryz.prog 18 #[rq n d, .int .i64 k] W (Rets W (.tuple #[rq s' t', .int .i64 e']))
  rup : ∀ W, Calls Tryz.prog 19 #[rq n d, .int .i64 k] W (Rets W (.tuple #[rq s' t', .int .i64 e']))
theorem rnd_c {n d : ByteArray} (h1 : Tx n) (h2 : Tx d) (k : Int) : ∃ s t s' t' e e', RndC n d k s t s' t' e e' := by
  have A := fun W (hE : Env W) => qDown_any n d k W hE
  have A' := fun W => qrDown_any n d h1 h2 k W
  obtain ⟨s, t, e, q0⟩ := qT_shape (decide (0 ≤ k ∧ k ≤ 30) && rOk n d && decide (Small (zS n * 10 ^ k.toNat))) (Rat.divInt (grd false (zS n * 10 ^ k.toNat) (zS d)) (10 ^ k.toNat))
  rw [q0] at A A'
  have U := fun W (hE : Env W) => qUp_any n d k W hE
  have U' := fun W => qrUp_any n d h1 h2 k W
  obtain ⟨s', t', e', q1⟩ := qT_shape (decide (0 ≤ k ∧ k ≤ 30) && rOk n d && decide (Small (zS n * 10 ^ k.toNat))) (Rat.divInt (grd true (zS n * 10 ^ k.toNat) (zS d)) (10 ^ k.toNat))
  rw [q1] at U U'
  exact ⟨s, t, s', t', e, e', A, A', U, U'⟩
/-- Both make the same fraction, and judge alike. -/
structure MkC (n d : ByteArray) (b : ByteArray) (s t : ByteArray) (e : Int) (v : Bool) : Prop where
  make : ∀ W, Env W → Calls Tryz.prog 20 #[.string n, .string b] W (Rets W (.tuple #[rq s t, .int .i64 e]))
  rmake : ∀ W, Calls Tryz.prog 21 #[.string n, .string b] W (Rets W (.tuple #[rq s t, .int .i64 e]))
  val : ∀ W, Env W → Calls Tryz.prog 22 #[rq n d] W (Rets W (.bool v))
  rval : ∀ W, Calls Tryz.prog 23 #[rq n d] W (Rets W (.bool v))
theorem mk_c {n d b : ByteArray} (h1 : Tx n) (h2 : Tx d) (h3 : Tx b) : ∃ s t e v, MkC n d b s t e v := by
  have A := fun W (hE : Env W) => qmake_any n b W hE
  have A' := fun W => qrmake_any n b h1 h3 W
  obtain ⟨s, t, e, q0⟩ := qT_shape (okS n && okS b && decide (zS b ≠ 0)) (Rat.divInt (zS n) (zS b))
  rw [q0] at A A'
  exact ⟨s, t, e, _, A, A', fun W hE => qvalid_any n d W hE, fun W => qrvalid_any n d h1 h2 W⟩
theorem of_c2 {x y : Int} (hx : Fits x) (hy : Fits y) : ∃ s t e, (∀ W, Env W → Calls Tryz.prog 24 #[.int .i64 x, .int .i64 y] W (Rets W (.tuple #[rq s t, .int .i64 e]))) ∧ (∀ W, Calls Tryz.prog 25 #[.int .i64 x, .int .i64 y] W (Rets W (.tuple #[rq s t, .int .i64 e]))) := by
  have A := fun W (hE : Env W) => qof_any x y hx hy W hE
  have A' := fun W => qrof_any x y hx hy W
  obtain ⟨s, t, e, q0⟩ := qT_shape (decide (y ≠ 0)) (Rat.divInt x y)
  rw [q0] at A A'
  exact ⟨s, t, e, A, A'⟩
end Go.Proofs.YtiekbcbcbgmnmaaGreatDoor
