/- Contracts for the laws of package decay. -/
import Derived.Test.YtebokdboodgkpaaGreatDoorDecY
import Derived.Test.YtebokdboodgkpaaGreatDoorDecU
namespace Go.Proofs.YtebokdboodgkpaaGreatDoor
open Go.RowKit
open DecM (Dt fcst rts okD)
attribute [local go_sem] Oper.semAt_some

theorem SlD.new {W : World} {v : Value} {l : List Dt} (h : SlD W v l) (o : Obj) : SlD (W.alloc o) v l := h.below ((Below.refl _ W).alloc (Nat.le_refl _) o)
theorem ok_fits {l : List Dt} (h : okD l = true) : ∀ d ∈ l, Fits d.t ∧ Fits d.lo ∧ Fits d.hi := fun d hd => by
  have := (DecM.okD_iff.1 h).2.1 d hd
  unfold Fits; omega
/-- A contract of a list of data, in every world where it lies. -/
abbrev OfD (f : FuncId) (l : List Dt) (args : Array Value) (u : Value) : Prop := ∀ v W, Env W → SlD W v l → Calls Tryz.prog f (#[v] ++ args) W (Rets W u)
/-- A contract over two fractions. -/
abbrev OfQ (f : FuncId) (n d n2 d2 : ByteArray) (u : Value) : Prop := ∀ W, Env W → Calls Tryz.prog f #[.agg #[.string n, .string d], .agg #[.string n2, .string d2]] W (Rets W u)
theorem fit_c {l : List Dt} (hok : okD l = true) {p q : Rat} (hp : OkO (some p)) (hq : OkO (some q)) (h : fitO l (some p) (some q) = true) (v : Value) (W : World) (hE : Env W) (hv : SlD W v l) :
    Calls Tryz.prog 24 #[v, .agg #[.string (numS p), .string (denS p)], .agg #[.string (numS q), .string (denS q)]] W (Rets W (.bool true)) := by
  have := dfits_any v l (tN (some p)) (tD (some p)) (tN (some q)) (tD (some q)) (ok_fits hok) W hE hv
  rw [oq_t hp, oq_t hq, h] at this
  exact this
theorem cmp_c {x y : Rat} (hx : OkO (some x)) (hy : OkO (some y)) (W : World) (hE : Env W) :
    Calls Tryz.prog 46 #[.agg #[.string (numS x), .string (denS x)], .agg #[.string (numS y), .string (denS y)]] W (Rets W (.int .i64 (cmpQ x y))) := qcmp_o hx hy W hE
theorem mul_c {k : Nat} {x y : Rat} (hx : BQ k x) (hy : BQ k y) (hk : k + k ≤ 200) (W : World) (hE : Env W) :
    Calls Tryz.prog 53 #[.agg #[.string (numS x), .string (denS x)], .agg #[.string (numS y), .string (denS y)]] W (Rets W (.tuple #[.agg #[.string (numS (x * y)), .string (denS (x * y))], .int .i64 0])) := by
  have := qmul_o (hx.ok (by omega)) (hy.ok (by omega)) W hE
  rw [hx.omul hy hk] at this
  exact this
theorem of_c (n : Int) (hn : Fits n) (W : World) : Calls Tryz.prog 23 #[.int .i64 n, .int .i64 1] W (Rets W (.agg #[.string (numS (n : Rat)), .string (denS (n : Rat))])) := by
  have := of_any n 1 hn (by decide) W
  rw [oOf_one] at this
  exact this
theorem hid_c (x : Nm) (w : World) (h : NmOk w x) : Calls Tryz.prog 6 #[.agg #[.int .i64 x.f, .int .i64 x.s, x.v, .int .i64 x.m]] w (Rets w (.tuple #[.agg #[.string (numS (x.first : Rat)), .string (denS (x.first : Rat))], .agg #[.string (numS ((x.slope : Rat) / 7)), .string (denS ((x.slope : Rat) / 7))]])) := by
  have := hidden_any x w h
  rw [oOf_one, oOf_ratio (by decide), show DecM.ratio x.slope 7 = (x.slope : Rat) / 7 from rfl] at this
  exact this
theorem bq_hid (x : Nm) : BQ 13 (x.first : Rat) ∧ BQ 13 ((x.slope : Rat) / 7) := by
  have h1 := x.first_bd
  have h2 := x.slope_bd
  exact ⟨BQ.int (by omega), bq_ratio (n := x.slope) (d := 7) (by omega) (by decide) (by decide)⟩

end Go.Proofs.YtebokdboodgkpaaGreatDoor
