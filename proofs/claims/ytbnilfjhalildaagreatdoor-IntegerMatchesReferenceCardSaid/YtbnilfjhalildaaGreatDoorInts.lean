/- The contracts of package integer on the texts of integers. -/
import Derived.Test.YtbnilfjhalildaaGreatDoorRoot
import Derived.Test.YtbnilfjhalildaaGreatDoorToInt
import Derived.Test.YtbnilfjhalildaaGreatDoorMade
namespace Go.Proofs.YtbnilfjhalildaaGreatDoor
open Go.RowKit
attribute [local go_sem] Oper.semAt_some

/-- The text of an integer. -/
def I (z : Int) : ByteArray := ⟨(Lib.itoa z).toArray⟩
theorem okS_I {z : Int} (h : Small z) : okS (I z) = true := valid_itoa h.1 h.2
theorem zS_I (z : Int) : zS (I z) = z := (ival_itoa z).1
theorem I_inj {x y : Int} (h : I x = I y) : x = y := by have := congrArg zS h; rwa [zS_I, zS_I] at this
theorem I_zS {s : ByteArray} (h : okS s = true) : s = I (zS s) ∧ Small (zS s) := by
  obtain ⟨h1, h2, h3⟩ := itoa_of_valid h
  refine ⟨?_, h2, h3⟩
  apply ByteArray.ext
  show s.data = (Lib.itoa (ival s.data.toList)).toArray
  rw [← h1]
/-- A literal. -/
theorem lit_I (l : List UInt8) (z : Int) (hv : validB l = true) (hz : ival l = z) : (⟨l.toArray⟩ : ByteArray) = I z := by
  obtain ⟨h1, _, _⟩ := itoa_of_valid hv
  unfold I
  rw [← hz, ← h1]

/-- Integers of at most so many digits. -/
def Bd (k : Nat) (z : Int) : Prop := -(10 ^ k) < z ∧ z < 10 ^ k
theorem Bd.small {k : Nat} {z : Int} (h : Bd k z) (hk : k ≤ 200) : Small z := by
  have := pow_mono (b := 10) (by decide) hk
  unfold Small Big; unfold Bd at h; omega
theorem Bd.mono {j k : Nat} {z : Int} (h : Bd j z) (hk : j ≤ k) : Bd k z := by
  have := pow_mono (b := 10) (by decide) hk
  unfold Bd at *; omega
theorem Bd.add {k : Nat} {x y : Int} (h : Bd k x) (g : Bd k y) : Bd (k + 1) (x + y) := by
  have : (10 : Int) ^ (k + 1) = 10 ^ k * 10 := Int.pow_succ ..
  unfold Bd at *; omega
theorem Bd.sub {k : Nat} {x y : Int} (h : Bd k x) (g : Bd k y) : Bd (k + 1) (x - y) := by
  have : (10 : Int) ^ (k + 1) = 10 ^ k * 10 := Int.pow_succ ..
  unfold Bd at *; omega
theorem Bd.abs {k : Nat} {x : Int} : Bd k x ↔ (x.natAbs : Int) < 10 ^ k := by unfold Bd; omega
theorem Bd.nat {k : Nat} {x : Int} : Bd k x ↔ x.natAbs < 10 ^ k := by
  rw [Bd.abs, show ((10 : Int) ^ k) = ((10 ^ k : Nat) : Int) by simp]; omega
theorem Bd.mul {j k : Nat} {x y : Int} (h : Bd j x) (g : Bd k y) : Bd (j + k) (x * y) := by
  rw [Bd.nat] at *
  rw [Int.natAbs_mul, Nat.pow_add]
  exact Nat.mul_lt_mul'' h g
theorem Bd.neg {k : Nat} {x : Int} (h : Bd k x) : Bd k (-x) := by unfold Bd at *; omega
theorem Bd.ediv {k : Nat} {x y : Int} (h : Bd k x) : Bd k (x / y) := by
  rw [Bd.nat] at *
  exact Nat.lt_of_le_of_lt (Int.natAbs_ediv_le_natAbs x y) h
theorem Bd.emod {k : Nat} {x y : Int} (h : Bd k y) (h0 : y ≠ 0) : Bd k (x % y) := by
  have h1 := Int.emod_nonneg x h0
  have h2 := Int.emod_lt x h0
  unfold Bd at *; omega
theorem Bd.gcd {k : Nat} {x y : Int} (h : Bd k x) (g : Bd k y) : Bd k (gcdZ x y) := by
  rw [Bd.nat] at *
  unfold gcdZ
  rw [Int.natAbs_natCast]
  by_cases h0 : x = 0
  · subst h0; rw [Int.zero_gcd]; exact g
  · exact Nat.lt_of_le_of_lt (Int.gcd_le_natAbs_left y h0) h
theorem Bd.lit {z : Int} (k : Nat) (h : -(10 ^ k) < z ∧ z < 10 ^ k) : Bd k z := h

theorem txt_small {z : Int} (h : Small z) : txt z = Lib.itoa z := if_pos h
theorem erz_small {z : Int} (h : Small z) : erz z = 0 := if_pos h
theorem txt_big {z : Int} (h : ¬ Small z) : txt z = [] := if_neg h
theorem erz_big {z : Int} (h : ¬ Small z) : erz z = 30 := if_neg h
theorem resT_small {z : Int} (h : Small z) : resT true z = .tuple #[.string (I z), .int .i64 0] := by unfold resT; rw [if_pos rfl, txt_small h, erz_small h]; rfl
theorem resT_big {z : Int} (h : ¬ Small z) : resT true z = .tuple #[.string ⟨#[]⟩, .int .i64 30] := by unfold resT; rw [if_pos rfl, txt_big h, erz_big h]

/-- A call that returns a value, and turns nothing that was there. -/
def Rets (w : World) (v : Value) : Ending → World → Prop := fun e w' => e = .returned v ∧ Below w.heap.size w w'
theorem Rets.of {f : FuncId} {args : Array Value} {w : World} {u v : Value} (h : Calls Tryz.prog f args w (Gives w fun r _ => r = u)) (e : u = v) : Calls Tryz.prog f args w (Rets w v) :=
  h.mono fun _ _ ⟨⟨r, h1, h2⟩, hb⟩ => ⟨by rw [h1, h2, e], hb⟩

section
variable {x y : Int} {a b : ByteArray} (ha : a = I x) (hb : b = I y) (hx : Small x) (hy : Small y) (w : World) (hE : Env w)
include ha hb hx hy hE
theorem add_is (z : Int) (c : ByteArray) (hz : z = x + y) (hc : c = I z) (hs : Small z) : Calls Tryz.prog 14 #[.string a, .string b] w (Rets w (.tuple #[.string c, .int .i64 0])) := by
  refine Rets.of (add_any a b w hE) ?_
  rw [ha, hb, okS_I hx, okS_I hy, zS_I, zS_I, ← hz, hc]; exact resT_small hs
theorem add_no (hs : ¬ Small (x + y)) : Calls Tryz.prog 14 #[.string a, .string b] w (Rets w (.tuple #[.string ⟨#[]⟩, .int .i64 30])) := by
  refine Rets.of (add_any a b w hE) ?_
  rw [ha, hb, okS_I hx, okS_I hy, zS_I, zS_I]; exact resT_big hs
theorem sub_is (z : Int) (c : ByteArray) (hz : z = x - y) (hc : c = I z) (hs : Small z) : Calls Tryz.prog 16 #[.string a, .string b] w (Rets w (.tuple #[.string c, .int .i64 0])) := by
  refine Rets.of (sub_any a b w hE) ?_
  rw [ha, hb, okS_I hx, okS_I hy, zS_I, zS_I, ← hz, hc]; exact resT_small hs
theorem sub_no (hs : ¬ Small (x - y)) : Calls Tryz.prog 16 #[.string a, .string b] w (Rets w (.tuple #[.string ⟨#[]⟩, .int .i64 30])) := by
  refine Rets.of (sub_any a b w hE) ?_
  rw [ha, hb, okS_I hx, okS_I hy, zS_I, zS_I]; exact resT_big hs
theorem mul_is (z : Int) (c : ByteArray) (hz : z = x * y) (hc : c = I z) (hs : Small z) : Calls Tryz.prog 15 #[.string a, .string b] w (Rets w (.tuple #[.string c, .int .i64 0])) := by
  refine Rets.of (mul_any a b w hE) ?_
  rw [ha, hb, okS_I hx, okS_I hy, zS_I, zS_I, ← hz, hc]; exact resT_small hs
theorem mul_no (hs : ¬ Small (x * y)) : Calls Tryz.prog 15 #[.string a, .string b] w (Rets w (.tuple #[.string ⟨#[]⟩, .int .i64 30])) := by
  refine Rets.of (mul_any a b w hE) ?_
  rw [ha, hb, okS_I hx, okS_I hy, zS_I, zS_I]; exact resT_big hs
theorem gcd_is (z : Int) (c : ByteArray) (hz : z = gcdZ x y) (hc : c = I z) : Calls Tryz.prog 20 #[.string a, .string b] w (Rets w (.tuple #[.string c, .int .i64 0])) := by
  refine Rets.of (gcd_any a b w hE) ?_
  rw [ha, hb, okS_I hx, okS_I hy, zS_I, zS_I, hc, hz]; exact resT_small (gcdZ_small hx hy)
theorem div_is (q r : Int) (c d : ByteArray) (h0 : y ≠ 0) (hq : q = x / y) (hr : r = x % y) (hc : c = I q) (hd : d = I r) : Calls Tryz.prog 17 #[.string a, .string b] w (Rets w (.tuple #[.string c, .string d, .int .i64 0])) := by
  refine Rets.of (div_any a b w hE) ?_
  rw [ha, hb, okS_I hx, okS_I hy, zS_I, zS_I, hc, hd, hq, hr]
  unfold divT
  rw [if_pos (by simpa using h0)]; rfl
theorem div_no (h0 : y = 0) : Calls Tryz.prog 17 #[.string a, .string b] w (Rets w (.tuple #[.string ⟨#[]⟩, .string ⟨#[]⟩, .int .i64 30])) := by
  refine Rets.of (div_any a b w hE) ?_
  rw [ha, hb, okS_I hx, okS_I hy, zS_I, zS_I, h0]
  unfold divT
  rw [if_neg (by simp)]
end
theorem root_is {x : Int} {a : ByteArray} (ha : a = I x) (hx : Small x) (w : World) (hE : Env w) (r : Int) (c : ByteArray) (h0 : 0 ≤ x) (hr : r = (root x.toNat : Nat)) (hc : c = I r) (hs : Small r) :
    Calls Tryz.prog 21 #[.string a] w (Rets w (.tuple #[.string c, .int .i64 0])) := by
  refine Rets.of (root_any a w hE) ?_
  rw [ha, okS_I hx, zS_I, hc]
  unfold rootT
  rw [show decide (x < 0) = false by simp; omega, ← hr]
  exact resT_small hs
theorem root_no {x : Int} {a : ByteArray} (ha : a = I x) (hx : Small x) (w : World) (hE : Env w) (h0 : x < 0) :
    Calls Tryz.prog 21 #[.string a] w (Rets w (.tuple #[.string ⟨#[]⟩, .int .i64 30])) := by
  refine Rets.of (root_any a w hE) ?_
  rw [ha, okS_I hx, zS_I]
  unfold rootT
  rw [show decide (x < 0) = true by simp; omega]
  rfl
theorem cmp_is {x y : Int} {a b : ByteArray} (ha : a = I x) (hb : b = I y) (hx : Small x) (hy : Small y) (w : World) (c : Int) (hc : c = Lib.compareInt x y) :
    Calls Tryz.prog 18 #[.string a, .string b] w (Rets w (.int .i64 c)) := by
  refine (Compare_any a b w).mono fun _ _ h => ⟨?_, h.2⟩
  rw [h.1, ha, hb]
  unfold cmpS
  rw [okS_I hx, okS_I hy, zS_I, zS_I, hc]; rfl
theorem valid_is {x : Int} {a : ByteArray} (ha : a = I x) (hx : Small x) (w : World) : Calls Tryz.prog 19 #[.string a] w (Rets w (.bool true)) := by
  refine (Valid_any a w).mono fun _ _ h => ⟨?_, h.2⟩
  rw [h.1, ha, okS_I hx]
theorem valid_no (a : ByteArray) (ha : okS a = false) (w : World) : Calls Tryz.prog 19 #[.string a] w (Rets w (.bool false)) := by
  refine (Valid_any a w).mono fun _ _ h => ⟨?_, h.2⟩
  rw [h.1, ha]
theorem toInt_is {x : Int} {a : ByteArray} (ha : a = I x) (hx : Small x) (h : Fits x) (hl : a.size ≤ 1000000) (w : World) (hE : EnvT w) : Calls Tryz.prog 31 #[.string a] w (Rets w (.tuple #[.int .i64 x, .int .i64 0])) := by
  refine Rets.of (toInt_any a hl w hE) ?_
  rw [ha]
  unfold toT
  rw [if_pos ⟨okS_I hx, by rw [zS_I]; exact h⟩, zS_I]
theorem fromInt_is (n : Int) (h : Fits n) (w : World) (hE : Env w) : Calls Tryz.prog 35 #[.int .i64 n] w (Rets w (.string (I n))) := FromInt_any n h.1 h.2 w hE
theorem made_is (s : ByteArray) (hs : s.size ≤ 9223372036854775807) (most : Nat) (hm : most ≤ 200) (w : World) :
    Calls Tryz.prog 13 #[.string s, .int .i64 most] w fun e w' => ∃ z : Int, e = .returned (.string (I z)) ∧ Bd most z ∧ Below w.heap.size w w' :=
  (made_any s hs most hm w).mono fun _ _ ⟨⟨_, h1, z, h2, h3, h4⟩, hb⟩ => ⟨z, by rw [h1, h2]; rfl, ⟨h3, h4⟩, hb⟩
end Go.Proofs.YtbnilfjhalildaaGreatDoor
