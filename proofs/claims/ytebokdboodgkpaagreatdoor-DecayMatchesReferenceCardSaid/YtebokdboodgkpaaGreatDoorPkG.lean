/- PkG: RatM RatV RatW RatR -/
import Derived.Test.YtebokdboodgkpaaGreatDoorPkD
import Derived.Outline
import Derived.Shelf.Abstract
/- Fractions as texts: what stands for a fraction, and what the operations come to (no program of package rational). -/
namespace Go.Proofs.YtebokdboodgkpaaGreatDoor
open Go.RowKit

/-- Whether two texts are a fraction in lowest terms. -/
def rOk (n d : ByteArray) : Bool := okS n && okS d && decide (0 < zS d) && decide (gcdZ (zS n) (zS d) = 1)
/-- The fraction that two texts are. -/
def rv (n d : ByteArray) : Rat := Rat.divInt (zS n) (zS d)
/-- The texts of a fraction. -/
def numS (r : Rat) : ByteArray := I r.num
def denS (r : Rat) : ByteArray := I (r.den : Int)
/-- Whether a fraction has few enough digits. -/
def SmallQ (r : Rat) : Prop := Small r.num ∧ Small (r.den : Int)
instance (r : Rat) : Decidable (SmallQ r) := inferInstanceAs (Decidable (_ ∧ _))
/-- A fraction as a value. -/
def qV (r : Rat) : Value := .agg #[.string (numS r), .string (denS r)]
/-- What an operation returns: a fraction, or an error. -/
def qT (c : Bool) (r : Rat) : Value := if c then .tuple #[.agg #[.string (numS r), .string (denS r)], .int .i64 0] else .tuple #[.agg #[.string ⟨#[]⟩, .string ⟨#[]⟩], .int .i64 40]
theorem qT_false (x y : Rat) : qT false x = qT false y := rfl

theorem gcdZ_pos {x y : Int} (hy : 0 < y) : 0 < gcdZ x y := by
  have := Int.gcd_pos_of_ne_zero_right x (show y ≠ 0 by omega)
  unfold gcdZ; omega
theorem gcdZ_dvd_left (x y : Int) : gcdZ x y ∣ x := Int.gcd_dvd_left ..
theorem gcdZ_dvd_right (x y : Int) : gcdZ x y ∣ y := Int.gcd_dvd_right ..
theorem divInt_parts {x y : Int} (hy : 0 < y) : (Rat.divInt x y).num = x / gcdZ x y ∧ ((Rat.divInt x y).den : Int) = y / gcdZ x y := by
  have e : gcdZ x y = (y.gcd x : Int) := by unfold gcdZ; rw [Int.gcd_comm]
  rw [Rat.num_divInt, Rat.den_divInt, if_neg (by omega), e, Int.sign_eq_one_of_pos hy, Int.one_mul]
  refine ⟨rfl, ?_⟩
  rw [Int.natCast_ediv, Int.natAbs_of_nonneg (by omega)]
theorem rat_den_pos (r : Rat) : (0 : Int) < (r.den : Int) := by have := r.den_pos; omega
theorem rat_gcd (r : Rat) : gcdZ r.num r.den = 1 := by
  have := r.reduced
  unfold gcdZ
  rw [Int.gcd_eq_natAbs_gcd_natAbs, Int.natAbs_natCast]
  rw [Nat.Coprime] at this
  omega
theorem divInt_self_parts (r : Rat) : Rat.divInt r.num r.den = r := Rat.num_divInt_den r
theorem rOk_of {n d : ByteArray} {r : Rat} (hn : n = numS r) (hd : d = denS r) (hs : SmallQ r) : rOk n d = true := by
  unfold rOk numS denS at *
  rw [hn, hd, okS_I hs.1, okS_I hs.2, zS_I, zS_I, rat_gcd]
  simp [r.den_pos]
theorem rv_of {n d : ByteArray} {r : Rat} (hn : n = numS r) (hd : d = denS r) : rv n d = r := by
  unfold rv numS denS at *
  rw [hn, hd, zS_I, zS_I]; exact divInt_self_parts r
theorem rOk_parts {n d : ByteArray} (h : rOk n d = true) : okS n = true ∧ okS d = true ∧ 0 < zS d ∧ gcdZ (zS n) (zS d) = 1 := by
  unfold rOk at h
  simp at h
  exact ⟨h.1.1.1, h.1.1.2, h.1.2, h.2⟩
theorem rv_num {n d : ByteArray} (h : rOk n d = true) : (rv n d).num = zS n ∧ ((rv n d).den : Int) = zS d := by
  obtain ⟨_, _, h0, h1⟩ := rOk_parts h
  have := divInt_parts (x := zS n) h0
  rw [h1, Int.ediv_one, Int.ediv_one] at this
  exact this
theorem rOk_texts {n d : ByteArray} (h : rOk n d = true) : n = numS (rv n d) ∧ d = denS (rv n d) ∧ SmallQ (rv n d) := by
  obtain ⟨h1, h2, _, _⟩ := rOk_parts h
  obtain ⟨e1, e2⟩ := rv_num h
  unfold numS denS SmallQ
  rw [e1, e2]
  exact ⟨(I_zS h1).1, (I_zS h2).1, (I_zS h1).2, (I_zS h2).2⟩
theorem small_neg {z : Int} (h : Small z) : Small (-z) := by unfold Small at *; omega
theorem small_quo {x y : Int} (h : Small x) : Small (x / y) := by
  have h1 := Int.natAbs_ediv_le_natAbs x y
  unfold Small at *; omega
theorem smallQ_divInt {x y : Int} (hx : Small x) (hy : Small y) (h0 : 0 < y) : SmallQ (Rat.divInt x y) := by
  obtain ⟨e1, e2⟩ := divInt_parts (x := x) h0
  unfold SmallQ
  rw [e1, e2]
  exact ⟨small_quo hx, small_quo hy⟩
theorem divInt_neg_neg (x y : Int) : Rat.divInt (-x) (-y) = Rat.divInt x y := Rat.neg_divInt_neg x y
theorem qT_true (r : Rat) : qT true r = .tuple #[.agg #[.string (numS r), .string (denS r)], .int .i64 0] := rfl
theorem one_small : Small 1 := by decide
end Go.Proofs.YtebokdboodgkpaaGreatDoor

/- package rational: Valid. -/
namespace Go.Proofs.YtebokdboodgkpaaGreatDoor
open Go.RowKit
attribute [local go_sem] Oper.semAt_some

theorem cmpS_zero {d : ByteArray} (h : okS d = true) : cmpS d ⟨#[48]⟩ = Lib.compareInt (zS d) 0 := by
  unfold cmpS
  rw [h, show okS ⟨#[48]⟩ = true by decide +kernel, show zS ⟨#[48]⟩ = 0 by decide +kernel]; rfl
theorem str_one {a : ByteArray} {x : Int} (ha : a = I x) : (a.toList == [49]) = decide (x = 1) := by
  rw [toList_I ha]
  have e : Lib.itoa 1 = [49] := by decide +kernel
  rw [← e]
  by_cases h : x = 1
  · rw [h]; simp
  · rw [decide_eq_false h]
    exact beq_eq_false_iff_ne.2 (fun e => h (itoa_inj e))
theorem blk_two {W : World} {B : Nat} {v u : Value} {t : TypeId} (h : Blk W B #[v, u] t) : W.cell? ⟨B, 0, none⟩ = some v ∧ W.cell? ⟨B, 1, none⟩ = some u := ⟨h.cell 0, h.cell 1⟩
/-- A block of two cells that a call begins with. -/
theorem box_two (w : World) (v u : Value) (t : TypeId) : ∃ W, W = w.alloc (.cells #[v, u] t) ∧ Blk W w.heap.size #[v, u] t ∧ Below w.heap.size w W :=
  ⟨_, rfl, Blk.new _ _ _, (Below.refl _ _).alloc (Nat.le_refl _) _⟩

set_option maxRecDepth 100000 in
set_option maxHeartbeats 4000000 in
theorem qvalid_ok (n d : ByteArray) (hn : okS n = true) (hd : okS d = true) (h0 : 0 < zS d) (w : World) (hE : Env w) :
    Calls Tryz.prog 49 #[.agg #[.string n, .string d]] w (Rets w (.bool (decide (gcdZ (zS n) (zS d) = 1)))) := by
  have V1 := fun W => Valid_any n W
  have V2 := fun W => Valid_any d W
  have C1 := fun W => Compare_any d ⟨#[48]⟩ W
  rw [hn] at V1
  rw [hd] at V2
  rw [cmpS_zero hd, compareInt_gt h0] at C1
  obtain ⟨g, Hg⟩ : ∃ g : ByteArray, Hid (g = I (gcdZ (zS n) (zS d))) := ⟨_, rfl⟩
  have G1 := fun W (hE : Env W) => gcd_any n d W hE
  rw [hn, hd, show (true && true) = true from rfl, resT_small (gcdZ_small (I_zS hn).2 (I_zS hd).2), ← Hg.out] at G1
  obtain ⟨W0, hW0, hk0, hB0⟩ := box_two w (.string n) (.string d) 27
  have hs := str_one Hg.out
  generalize decide (gcdZ (zS n) (zS d) = 1) = b at *
  clear hn hd h0
  obtain ⟨c0, c1⟩ := blk_two hk0
  go_enter Tryz.func49, Tryz.ntmps49
  go_wp2_with fail
  rw [← hW0]
  clear hW0
  refine (V1 _).mono ?_
  rintro e w1 ⟨rfl, hb⟩
  have hk1 := hk0.below hb
  have hB1 := kb_call hb hB0 (Nat.le_refl _)
  clear c0 c1 hk0 hB0 hb
  obtain ⟨c0, c1⟩ := blk_two hk1
  go_wp2_with fail
  refine (V2 _).mono ?_
  rintro e w2 ⟨rfl, hb⟩
  have hk2 := hk1.below hb
  have hB2 := kb_call hb hB1 (Nat.le_refl _)
  clear c0 c1 hk1 hB1 hb
  obtain ⟨c0, c1⟩ := blk_two hk2
  go_wp2_with fail
  refine (C1 _).mono ?_
  rintro e w3 ⟨rfl, hb⟩
  have hk3 := hk2.below hb
  have hB3 := kb_call hb hB2 (Nat.le_refl _)
  clear c0 c1 hk2 hB2 hb
  obtain ⟨c0, c1⟩ := blk_two hk3
  go_wp2_with fail
  refine (G1 _ (hE.below hB3 (Nat.le_refl _))).mono ?_
  rintro e w4 ⟨⟨_, rfl, rfl⟩, hb⟩
  have hB4 := kb_call hb hB3 (Nat.le_refl _)
  clear c0 c1 hk3 hB3 hb
  go_wp2
  go_ret
  exact ⟨rfl, hB4⟩

set_option maxRecDepth 100000 in
set_option maxHeartbeats 4000000 in
theorem qvalid_low (n d : ByteArray) (hn : okS n = true) (hd : okS d = true) (h0 : ¬ 0 < zS d) (w : World) :
    Calls Tryz.prog 49 #[.agg #[.string n, .string d]] w (Rets w (.bool false)) := by
  have V1 := fun W => Valid_any n W
  have V2 := fun W => Valid_any d W
  have C1 := fun W => Compare_any d ⟨#[48]⟩ W
  rw [hn] at V1
  rw [hd] at V2
  obtain ⟨c, hc, hc0, _⟩ := cmp_le (x := zS d) (y := 0) (by omega)
  rw [cmpS_zero hd, ← hc] at C1
  obtain ⟨W0, hW0, hk0, hB0⟩ := box_two w (.string n) (.string d) 27
  clear hn hd h0 hc
  obtain ⟨c0, c1⟩ := blk_two hk0
  go_enter Tryz.func49, Tryz.ntmps49
  go_wp2_with fail
  rw [← hW0]
  clear hW0
  refine (V1 _).mono ?_
  rintro e w1 ⟨rfl, hb⟩
  have hk1 := hk0.below hb
  have hB1 := kb_call hb hB0 (Nat.le_refl _)
  clear c0 c1 hk0 hB0 hb
  obtain ⟨c0, c1⟩ := blk_two hk1
  go_wp2_with fail
  refine (V2 _).mono ?_
  rintro e w2 ⟨rfl, hb⟩
  have hk2 := hk1.below hb
  have hB2 := kb_call hb hB1 (Nat.le_refl _)
  clear c0 c1 hk1 hB1 hb
  obtain ⟨c0, c1⟩ := blk_two hk2
  go_wp2_with fail
  refine (C1 _).mono ?_
  rintro e w3 ⟨rfl, hb⟩
  have hB3 := kb_call hb hB2 (Nat.le_refl _)
  clear c0 c1 hk2 hB2 hb
  go_wp2
  go_ret
  exact ⟨rfl, hB3⟩

set_option maxRecDepth 100000 in
set_option maxHeartbeats 4000000 in
theorem qvalid_bad (n d : ByteArray) (h : okS n = false ∨ okS d = false) (w : World) :
    Calls Tryz.prog 49 #[.agg #[.string n, .string d]] w (Rets w (.bool false)) := by
  have V1 := fun W => Valid_any n W
  have V2 := fun W => Valid_any d W
  obtain ⟨W0, hW0, hk0, hB0⟩ := box_two w (.string n) (.string d) 27
  obtain ⟨c0, c1⟩ := blk_two hk0
  cases hn : okS n with
  | false =>
    rw [hn] at V1
    clear h hn V2
    go_enter Tryz.func49, Tryz.ntmps49
    go_wp2_with fail
    rw [← hW0]
    clear hW0
    refine (V1 _).mono ?_
    rintro e w1 ⟨rfl, hb⟩
    have hB1 := kb_call hb hB0 (Nat.le_refl _)
    clear c0 c1 hk0 hB0 hb
    go_wp2
    go_ret
    exact ⟨rfl, hB1⟩
  | true =>
    have hd : okS d = false := by rcases h with h | h; rw [hn] at h; cases h; exact h
    rw [hn] at V1
    rw [hd] at V2
    clear h hn hd
    go_enter Tryz.func49, Tryz.ntmps49
    go_wp2_with fail
    rw [← hW0]
    clear hW0
    refine (V1 _).mono ?_
    rintro e w1 ⟨rfl, hb⟩
    have hk1 := hk0.below hb
    have hB1 := kb_call hb hB0 (Nat.le_refl _)
    clear c0 c1 hk0 hB0 hb
    obtain ⟨c0, c1⟩ := blk_two hk1
    go_wp2_with fail
    refine (V2 _).mono ?_
    rintro e w2 ⟨rfl, hb⟩
    have hB2 := kb_call hb hB1 (Nat.le_refl _)
    clear c0 c1 hk1 hB1 hb
    go_wp2
    go_ret
    exact ⟨rfl, hB2⟩

/-- rational.Valid. -/
theorem qvalid_any (n d : ByteArray) (w : World) (hE : Env w) :
    Calls Tryz.prog 49 #[.agg #[.string n, .string d]] w (Rets w (.bool (rOk n d))) := by
  unfold rOk
  by_cases h : okS n = true ∧ okS d = true
  · rw [h.1, h.2]
    by_cases h0 : 0 < zS d
    · rw [decide_eq_true h0]; exact qvalid_ok n d h.1 h.2 h0 w hE
    · rw [decide_eq_false h0]; exact qvalid_low n d h.1 h.2 h0 w
  · rw [(and_false_of h).1]; exact qvalid_bad n d (and_false_of h).2 w
end Go.Proofs.YtebokdboodgkpaaGreatDoor

/- package rational: the steps of a calculation (work). -/
namespace Go.Proofs.YtebokdboodgkpaaGreatDoor
open Go.RowKit
attribute [local go_sem] Oper.semAt_some

/-- Block B is a calculation. -/
def Wk (W : World) (B : Nat) (bad : Bool) : Prop := Blk W B #[.bool bad] 98
theorem Wk.c0 {W : World} {B : Nat} {bad : Bool} (h : Wk W B bad) : W.cell? ⟨B, 0, none⟩ = some (.bool bad) := Blk.cell h 0
theorem Wk.f0 {W : World} {B : Nat} {bad : Bool} (h : Wk W B bad) : W.frozen? ⟨B, 0, none⟩ = false := Blk.frozen h 0
theorem Wk.below {W W' : World} {B : Nat} {bad : Bool} (h : Wk W B bad) (hb : Below W.heap.size W W') : Wk W' B bad := Blk.below h hb
theorem Wk.set {W : World} {B : Nat} {bad : Bool} (h : Wk W B bad) (c : Bool) : Wk (W.setCell ⟨B, 0, none⟩ (.bool c)) B c := Blk.set h 0 (.bool c)
theorem Wk.lt {W : World} {B : Nat} {bad : Bool} (h : Wk W B bad) : B < W.heap.size := Blk.lt h

/-- What a step leaves: a text, and whether the calculation has failed (c). -/
def DoP (W : World) (B : Nat) (c : Bool) (z : Int) : Ending → World → Prop := fun e w' => ∃ s, e = .returned (.string s) ∧ Wk w' B c ∧ Only [B] W w' ∧ (c = false → s = I z ∧ Small z)

set_option maxRecDepth 100000 in
set_option maxHeartbeats 4000000 in
theorem qdo_bad (v : Value) (a b : ByteArray) (W : World) (B : Nat) (hk : Wk W B true) (z : Int) :
    Calls Tryz.prog 104 #[.pointer (some ⟨B, 0, none⟩), v, .string a, .string b] W (DoP W B true z) := by
  have c0 := hk.c0
  go_enter Tryz.func104, Tryz.ntmps104
  go_wp2
  go_ret
  exact ⟨_, rfl, hk, Only.refl _ _, fun h => by cases h⟩

set_option maxRecDepth 100000 in
set_option maxHeartbeats 4000000 in
theorem qdo_run (f : Nat) (a b s : ByteArray) (er : Int) (W : World) (B : Nat) (hk : Wk W B false)
    (hE : ∀ (args : Array Value) (w : World), (callFunc f args).run Tryz.prog w = .ok (.enter f args) w)
    (hF : Calls Tryz.prog f #[.string a, .string b] W (Rets W (.tuple #[.string s, .int .i64 er]))) :
    Calls Tryz.prog 104 #[.pointer (some ⟨B, 0, none⟩), .func (.func f) #[] #[], .string a, .string b] W fun e w' => e = .returned (.string s) ∧ Wk w' B (er != 0) ∧ Only [B] W w' := by
  have c0 := hk.c0
  have hF := Lib.hid hF
  go_enter Tryz.func104, Tryz.ntmps104
  go_wp2_with fail
  refine hF.out.mono ?_
  rintro e w1 ⟨rfl, hb⟩
  have hk1 := hk.below hb
  have ho : Only [B] W (w1.setCell ⟨B, 0, none⟩ (.bool (er != 0))) := (Only.of_below hb).setCell (by simp) _
  have hk2 := hk1.set (er != 0)
  have c0 := hk1.c0
  have f0 := hk1.f0
  go_wp2
  go_ret
  exact ⟨rfl, hk2, ho⟩

/-- A step: an operation on integers whose result is z. -/
theorem qdo_any (f : Nat) (a b : ByteArray) (z : Int) (bad : Bool) (W : World) (B : Nat) (hk : Wk W B bad)
    (hE : ∀ (args : Array Value) (w : World), (callFunc f args).run Tryz.prog w = .ok (.enter f args) w)
    (hF : bad = false → Calls Tryz.prog f #[.string a, .string b] W (Rets W (resT true z))) :
    Calls Tryz.prog 104 #[.pointer (some ⟨B, 0, none⟩), .func (.func f) #[] #[], .string a, .string b] W (DoP W B (bad || !decide (Small z)) z) := by
  cases bad with
  | true => rw [Bool.true_or]; exact qdo_bad _ a b W B hk z
  | false =>
    rw [Bool.false_or]
    have h := hF rfl
    by_cases hs : Small z
    · rw [resT_small hs] at h
      rw [decide_eq_true hs]
      exact (qdo_run f a b _ _ W B hk hE h).mono fun e w' ⟨h1, h2, h3⟩ => ⟨_, h1, h2, h3, fun _ => ⟨rfl, hs⟩⟩
    · rw [resT_big hs] at h
      rw [decide_eq_false hs]
      exact (qdo_run f a b _ _ W B hk hE h).mono fun e w' ⟨h1, h2, h3⟩ => ⟨_, h1, h2, h3, fun e => by cases e⟩

/-- The texts of two integers, unless the calculation has failed. -/
def Txts (bad : Bool) (a b : ByteArray) (x y : Int) : Prop := bad = false → a = I x ∧ b = I y ∧ Small x ∧ Small y
theorem ent_mul : ∀ (args : Array Value) (w : World), (callFunc 105 args).run Tryz.prog w = .ok (.enter 105 args) w := Go.Proofs.enters_of Tryz.func105 (by kernel_rfl) rfl
theorem ent_add : ∀ (args : Array Value) (w : World), (callFunc 80 args).run Tryz.prog w = .ok (.enter 80 args) w := Go.Proofs.enters_of Tryz.func80 (by kernel_rfl) rfl
theorem ent_sub : ∀ (args : Array Value) (w : World), (callFunc 106 args).run Tryz.prog w = .ok (.enter 106 args) w := Go.Proofs.enters_of Tryz.func106 (by kernel_rfl) rfl
theorem ent_gcd : ∀ (args : Array Value) (w : World), (callFunc 72 args).run Tryz.prog w = .ok (.enter 72 args) w := Go.Proofs.enters_of Tryz.func72 (by kernel_rfl) rfl
theorem ent_quo : ∀ (args : Array Value) (w : World), (callFunc 131 args).run Tryz.prog w = .ok (.enter 131 args) w := Go.Proofs.enters_of Tryz.func131 (by kernel_rfl) rfl

theorem qdo_mul {a b : ByteArray} {x y : Int} {bad : Bool} (h : Txts bad a b x y) (W : World) (hE : Env W) (B : Nat) (hk : Wk W B bad) :
    Calls Tryz.prog 104 #[.pointer (some ⟨B, 0, none⟩), .func (.func 105) #[] #[], .string a, .string b] W (DoP W B (bad || !decide (Small (x * y))) (x * y)) :=
  qdo_any _ a b _ bad W B hk ent_mul fun e => by
    obtain ⟨h1, h2, h3, h4⟩ := h e
    refine Rets.of (mul_any a b W hE) ?_
    rw [h1, h2, okS_I h3, okS_I h4, zS_I, zS_I]; rfl
theorem qdo_add {a b : ByteArray} {x y : Int} {bad : Bool} (h : Txts bad a b x y) (W : World) (hE : Env W) (B : Nat) (hk : Wk W B bad) :
    Calls Tryz.prog 104 #[.pointer (some ⟨B, 0, none⟩), .func (.func 80) #[] #[], .string a, .string b] W (DoP W B (bad || !decide (Small (x + y))) (x + y)) :=
  qdo_any _ a b _ bad W B hk ent_add fun e => by
    obtain ⟨h1, h2, h3, h4⟩ := h e
    refine Rets.of (add_any a b W hE) ?_
    rw [h1, h2, okS_I h3, okS_I h4, zS_I, zS_I]; rfl
theorem qdo_sub {a b : ByteArray} {x y : Int} {bad : Bool} (h : Txts bad a b x y) (W : World) (hE : Env W) (B : Nat) (hk : Wk W B bad) :
    Calls Tryz.prog 104 #[.pointer (some ⟨B, 0, none⟩), .func (.func 106) #[] #[], .string a, .string b] W (DoP W B (bad || !decide (Small (x - y))) (x - y)) :=
  qdo_any _ a b _ bad W B hk ent_sub fun e => by
    obtain ⟨h1, h2, h3, h4⟩ := h e
    refine Rets.of (sub_any a b W hE) ?_
    rw [h1, h2, okS_I h3, okS_I h4, zS_I, zS_I]; rfl
theorem qdo_gcd {a b : ByteArray} {x y : Int} {bad : Bool} (h : Txts bad a b x y) (W : World) (hE : Env W) (B : Nat) (hk : Wk W B bad) :
    Calls Tryz.prog 104 #[.pointer (some ⟨B, 0, none⟩), .func (.func 72) #[] #[], .string a, .string b] W (DoP W B (bad || !decide (Small (gcdZ x y))) (gcdZ x y)) :=
  qdo_any _ a b _ bad W B hk ent_gcd fun e => by
    obtain ⟨h1, h2, h3, h4⟩ := h e
    refine Rets.of (gcd_any a b W hE) ?_
    rw [h1, h2, okS_I h3, okS_I h4, zS_I, zS_I]; rfl

set_option maxRecDepth 100000 in
set_option maxHeartbeats 4000000 in
theorem qquo1_any (a b : ByteArray) (x y : Int) (ha : a = I x) (hb : b = I y) (hx : Small x) (hy : Small y) (h0 : y ≠ 0) (w : World) (hE : Env w) :
    Calls Tryz.prog 131 #[.string a, .string b] w (Rets w (resT true (x / y))) := by
  have D1 := fun W (hE : Env W) => div_is ha hb hx hy W hE (x / y) (x % y) _ _ h0 rfl rfl rfl rfl
  rw [resT_small (small_quo hx)]
  generalize I (x / y) = q at *
  generalize I (x % y) = r at *
  clear ha hb
  go_enter Tryz.func131, Tryz.ntmps131
  go_wp2_with fail
  refine (D1 _ hE).mono ?_
  rintro e w1 ⟨rfl, hb⟩
  go_wp2
  go_ret2
  exact ⟨rfl, hb⟩

set_option maxRecDepth 100000 in
set_option maxHeartbeats 4000000 in
/-- work.mul. -/
theorem qmul_any {a b : ByteArray} {x y : Int} {bad : Bool} (h : Txts bad a b x y) (W : World) (hE : Env W) (B : Nat) (hk : Wk W B bad) :
    Calls Tryz.prog 77 #[.pointer (some ⟨B, 0, none⟩), .string a, .string b] W (DoP W B (bad || !decide (Small (x * y))) (x * y)) := by
  have Q := Lib.hid (qdo_mul h W hE B hk)
  clear h hk
  go_enter Tryz.func77, Tryz.ntmps77
  go_wp2_with fail
  refine Q.out.mono ?_
  rintro e w1 ⟨s, rfl, h1, h2, h3⟩
  go_wp2
  go_ret
  exact ⟨_, rfl, h1, h2, h3⟩

set_option maxRecDepth 100000 in
set_option maxHeartbeats 4000000 in
/-- work.quotient. -/
theorem qquo_any {a b : ByteArray} {x y : Int} {bad : Bool} (h : Txts bad a b x y) (h0 : y ≠ 0) (W : World) (hE : Env W) (B : Nat) (hk : Wk W B bad) :
    Calls Tryz.prog 107 #[.pointer (some ⟨B, 0, none⟩), .string a, .string b] W (DoP W B (bad || !decide (Small (x / y))) (x / y)) := by
  have Q := Lib.hid (qdo_any 131 a b (x / y) bad W B hk ent_quo fun e => qquo1_any a b x y (h e).1 (h e).2.1 (h e).2.2.1 (h e).2.2.2 h0 W hE)
  clear h hk
  go_enter Tryz.func107, Tryz.ntmps107
  go_wp2_with fail
  refine Q.out.mono ?_
  rintro e w1 ⟨s, rfl, h1, h2, h3⟩
  go_wp2
  go_ret
  exact ⟨_, rfl, h1, h2, h3⟩
end Go.Proofs.YtebokdboodgkpaaGreatDoor

/- package rational: reduced. -/
namespace Go.Proofs.YtebokdboodgkpaaGreatDoor
open Go.RowKit
attribute [local go_sem] Oper.semAt_some

theorem DoP.ok {f : FuncId} {args : Array Value} {W : World} {B : Nat} {z : Int} (hs : Small z) (h : Calls Tryz.prog f args W (DoP W B (false || !decide (Small z)) z)) :
    Calls Tryz.prog f args W fun e w' => e = .returned (.string (I z)) ∧ Wk w' B false ∧ Only [B] W w' := by
  rw [decide_eq_true hs] at h
  exact h.mono fun e w' ⟨s, h1, h2, h3, h4⟩ => ⟨by rw [h1, (h4 rfl).1], h2, h3⟩
theorem Blk.only {S : List Nat} {W W' : World} {B : Nat} {cs : Array Value} {t : TypeId} (h : Blk W B cs t) (ho : Only S W W') (hB : B ∉ S) : Blk W' B cs t := (ho.block B h.lt hB).trans h

/-- A calculation within a call that began in w0. -/
structure Cx (w0 W : World) (B : Nat) (bad : Bool) : Prop where
  env : Env w0
  below : Below w0.heap.size w0 W
  le : w0.heap.size ≤ B
  wk : Wk W B bad
theorem Cx.envW {w0 W : World} {B : Nat} {bad : Bool} (h : Cx w0 W B bad) : Env W := h.env.below h.below (Nat.le_refl _)
theorem Cx.next {w0 W W' : World} {B : Nat} {bad c : Bool} (h : Cx w0 W B bad) (hk : Wk W' B c) (ho : Only [B] W W') : Cx w0 W' B c :=
  ⟨h.env, h.below.trans (ho.toBelow h.below.size (fun k hk => by simp at hk; subst hk; exact h.le)), h.le, hk⟩
theorem Cx.call {w0 W W' : World} {B : Nat} {bad : Bool} (h : Cx w0 W B bad) (hb : Below W.heap.size W W') : Cx w0 W' B bad := h.next (h.wk.below hb) (Only.of_below hb)

set_option maxRecDepth 100000 in
set_option maxHeartbeats 4000000 in
theorem qred_bad (a b : ByteArray) (w0 W : World) (B : Nat) (hx : Cx w0 W B true) :
    Calls Tryz.prog 78 #[.pointer (some ⟨B, 0, none⟩), .string a, .string b] W fun e w' => e = .returned (qT false 0) ∧ Only [B] W w' := by
  obtain ⟨_, rfl, hR1, hB1⟩ := box_two W (.string ⟨#[]⟩) (.string ⟨#[]⟩) 27
  have c0 := (hx.call hB1).wk.c0
  have ho := (Only.of_below (S := [B]) hB1).setNew (p := ⟨W.heap.size, 0, none⟩) (Nat.le_refl _) (.string ⟨#[]⟩)
  have ho2 := ho.setNew (p := ⟨W.heap.size, 1, none⟩) (Nat.le_refl _) (.string ⟨#[]⟩)
  go_enter Tryz.func78, Tryz.ntmps78
  go_wp2
  exact bodyPost_ret (v := .tuple #[.agg #[.string ⟨#[]⟩, .string ⟨#[]⟩], .int .i64 40]) (by simp [results, Tryz.results78, go_sem]) rfl ⟨rfl, Only.of_below hB1⟩

theorem lit_zero : (⟨#[48]⟩ : ByteArray) = I 0 := lit_I [48] 0 (by decide +kernel) (by decide +kernel)
theorem toList_zero {a : ByteArray} (h : a = I 0) : (a.toList == [48]) = true := by
  rw [h, ← lit_zero]; decide +kernel
theorem small_zero : Small 0 := by decide

set_option maxRecDepth 100000 in
set_option maxHeartbeats 4000000 in
theorem qred_zero (a b : ByteArray) (hb : b = I 0) (w0 W : World) (B : Nat) (hx : Cx w0 W B false) :
    Calls Tryz.prog 78 #[.pointer (some ⟨B, 0, none⟩), .string a, .string b] W fun e w' => e = .returned (qT false 0) ∧ Only [B] W w' := by
  obtain ⟨_, rfl, hR1, hB1⟩ := box_two W (.string ⟨#[]⟩) (.string ⟨#[]⟩) 27
  have c0 := (hx.call hB1).wk.c0
  have hz := toList_zero hb
  clear hb
  go_enter Tryz.func78, Tryz.ntmps78
  go_wp2
  exact bodyPost_ret (v := .tuple #[.agg #[.string ⟨#[]⟩, .string ⟨#[]⟩], .int .i64 40]) (by simp [results, Tryz.results78, go_sem]) rfl ⟨rfl, Only.of_below hB1⟩

/-- What is left to do of reduced, once the denominator is positive (steps from the greatest common divisor on). -/
theorem qred_after {W : World} {B R : Nat} (hR : Blk W R #[.string ⟨#[]⟩, .string ⟨#[]⟩] 27) (hk : Wk W B false) (p q : ByteArray) :
    ∃ W1, W1 = W.alloc (.cells #[.string p, .string q] 27) ∧ W1.cell? ⟨B, 0, none⟩ = some (.bool false) ∧ W1.cell? ⟨W.heap.size, 0, none⟩ = some (.string p) ∧ W1.cell? ⟨W.heap.size, 1, none⟩ = some (.string q) ∧
      W1.cell? ⟨R, 0, none⟩ = some (.string ⟨#[]⟩) ∧ W1.cell? ⟨R, 1, none⟩ = some (.string ⟨#[]⟩) ∧ W1.frozen? ⟨R, 0, none⟩ = false ∧ W1.frozen? ⟨R, 1, none⟩ = false ∧
      ((W1.setCell ⟨R, 0, none⟩ (.string p)).setCell ⟨R, 1, none⟩ (.string q)).cell? ⟨R, 0, none⟩ = some (.string p) ∧ ((W1.setCell ⟨R, 0, none⟩ (.string p)).setCell ⟨R, 1, none⟩ (.string q)).cell? ⟨R, 1, none⟩ = some (.string q) ∧
      (∀ B' V, Only [B'] V W → V.heap.size ≤ R → Only [B'] V ((W1.setCell ⟨R, 0, none⟩ (.string p)).setCell ⟨R, 1, none⟩ (.string q))) := by
  obtain ⟨_, rfl, h1, hb⟩ := box_two W (.string p) (.string q) 27
  have hR1 := hR.below hb
  have m2 := (hR1.set 0 (.string p)).set 1 (.string q)
  exact ⟨_, rfl, (hk.below hb).c0, (blk_two h1).1, (blk_two h1).2, (blk_two hR1).1, (blk_two hR1).2, hR1.frozen 0, hR1.frozen 1, m2.cell 0, m2.cell 1,
    fun B' V ho hV => ((ho.below hb).setNew (p := ⟨R, 0, none⟩) hV _).setNew (p := ⟨R, 1, none⟩) hV _⟩

set_option maxRecDepth 100000 in
set_option maxHeartbeats 4000000 in
theorem qred_pos {a b : ByteArray} {x y : Int} (ha : a = I x) (hb : b = I y) (hx : Small x) (hy : Small y) (h0 : 0 < y) (w0 W : World) (B : Nat) (hc : Cx w0 W B false) :
    Calls Tryz.prog 78 #[.pointer (some ⟨B, 0, none⟩), .string a, .string b] W fun e w' => e = .returned (qT true (Rat.divInt x y)) ∧ Only [B] W w' := by
  obtain ⟨_, rfl, hR1, hB1⟩ := box_two W (.string ⟨#[]⟩) (.string ⟨#[]⟩) 27
  have hc1 := hc.call hB1
  have hBR : W.heap.size ∉ [B] := by have := hc.wk.lt; simp; omega
  have c0 := hc1.wk.c0
  have hne := str_ne_zero hb (show y ≠ 0 by omega)
  have C1 := fun W => cmp_is hb lit_zero hy small_zero W 1 (compareInt_gt h0).symm
  have hg0 : gcdZ x y ≠ 0 := by have := gcdZ_pos (x := x) h0; omega
  have hgs := gcdZ_small hx hy
  have D1 := fun (W : World) (h : Cx w0 W B false) => DoP.ok hgs (qdo_gcd (bad := false) (fun _ => ⟨ha, hb, hx, hy⟩) W h.envW B h.wk)
  have D2 := fun (W : World) (h : Cx w0 W B false) => DoP.ok (small_quo hx) (qquo_any (y := gcdZ x y) (bad := false) (fun _ => ⟨ha, rfl, hx, hgs⟩) hg0 W h.envW B h.wk)
  have D3 := fun (W : World) (h : Cx w0 W B false) => DoP.ok (small_quo hy) (qquo_any (y := gcdZ x y) (bad := false) (fun _ => ⟨hb, rfl, hy, hgs⟩) hg0 W h.envW B h.wk)
  have HQ := Lib.hid (show qT true (Rat.divInt x y) = .tuple #[.agg #[.string (I (x / gcdZ x y)), .string (I (y / gcdZ x y))], .int .i64 0] by
    rw [qT_true]; unfold numS denS; rw [(divInt_parts h0).1, (divInt_parts h0).2])
  generalize I (gcdZ x y) = g at *
  generalize I (x / gcdZ x y) = p at *
  generalize I (y / gcdZ x y) = q at *
  clear ha hb hg0 h0
  go_enter Tryz.func78, Tryz.ntmps78
  go_wp2_with fail
  refine (C1 _).mono ?_
  rintro e w2 ⟨rfl, hb2⟩
  have hc2 := hc1.call hb2
  have ho2 := (Only.of_below (S := [B]) hB1).below hb2
  have hR2 := hR1.below hb2
  clear hc1 hB1 hR1 hb2 c0 C1
  go_wp2_with fail
  refine (D1 _ hc2).mono ?_
  rintro e w3 ⟨rfl, hk3, ho⟩
  have hc3 := hc2.next hk3 ho
  have ho3 := ho2.trans ho
  have hR3 := hR2.only ho hBR
  clear hc2 ho2 hR2 ho hk3 D1
  go_wp2_with fail
  refine (D2 _ hc3).mono ?_
  rintro e w4 ⟨rfl, hk4, ho⟩
  have hc4 := hc3.next hk4 ho
  have ho4 := ho3.trans ho
  have hR4 := hR3.only ho hBR
  clear hc3 ho3 hR3 ho hk4 D2
  go_wp2_with fail
  refine (D3 _ hc4).mono ?_
  rintro e w5 ⟨rfl, hk5, ho⟩
  have ho5 := ho4.trans ho
  have hR5 := hR4.only ho hBR
  obtain ⟨_, rfl, c0, k0, k1, r0, r1, f0, f1, y0, y1, hfin⟩ := qred_after hR5 hk5 p q
  have hfin := Lib.hid (hfin _ _ ho5 (Nat.le_refl _))
  clear hc4 ho4 hR4 ho hk5 D3 ho5 hR5
  go_wp2
  refine bodyPost_ret (v := .tuple #[.agg #[.string p, .string q], .int .i64 0]) (by simp [results, Tryz.results78, go_sem, y0, y1]) rfl ?_
  exact ⟨congrArg Ending.returned HQ.out.symm, hfin.out⟩

set_option maxRecDepth 100000 in
set_option maxHeartbeats 4000000 in
theorem qred_neg {a b : ByteArray} {x y : Int} (ha : a = I x) (hb : b = I y) (hx : Small x) (hy : Small y) (h0 : y < 0) (w0 W : World) (B : Nat) (hc : Cx w0 W B false) :
    Calls Tryz.prog 78 #[.pointer (some ⟨B, 0, none⟩), .string a, .string b] W fun e w' => e = .returned (qT true (Rat.divInt x y)) ∧ Only [B] W w' := by
  obtain ⟨_, rfl, hR1, hB1⟩ := box_two W (.string ⟨#[]⟩) (.string ⟨#[]⟩) 27
  have hc1 := hc.call hB1
  have hBR : W.heap.size ∉ [B] := by have := hc.wk.lt; simp; omega
  have c0 := hc1.wk.c0
  have hne := str_ne_zero hb (show y ≠ 0 by omega)
  have C1 := fun W => cmp_is hb lit_zero hy small_zero W (-1) (compareInt_lt h0).symm
  have hx' := small_neg hx
  have hy' := small_neg hy
  have h0' : 0 < -y := by omega
  have hg0 : gcdZ (-x) (-y) ≠ 0 := by have := gcdZ_pos (x := -x) h0'; omega
  have hgs := gcdZ_small hx' hy'
  have S1 := fun (W : World) (h : Cx w0 W B false) => DoP.ok (show Small (0 - x) by rw [Int.zero_sub]; exact hx') (qdo_sub (bad := false) (fun _ => ⟨lit_zero, ha, small_zero, hx⟩) W h.envW B h.wk)
  have S2 := fun (W : World) (h : Cx w0 W B false) => DoP.ok (show Small (0 - y) by rw [Int.zero_sub]; exact hy') (qdo_sub (bad := false) (fun _ => ⟨lit_zero, hb, small_zero, hy⟩) W h.envW B h.wk)
  rw [Int.zero_sub] at S1 S2
  have D1 := fun (W : World) (h : Cx w0 W B false) => DoP.ok hgs (qdo_gcd (x := -x) (y := -y) (bad := false) (fun _ => ⟨rfl, rfl, hx', hy'⟩) W h.envW B h.wk)
  have D2 := fun (W : World) (h : Cx w0 W B false) => DoP.ok (small_quo hx') (qquo_any (x := -x) (y := gcdZ (-x) (-y)) (bad := false) (fun _ => ⟨rfl, rfl, hx', hgs⟩) hg0 W h.envW B h.wk)
  have D3 := fun (W : World) (h : Cx w0 W B false) => DoP.ok (small_quo hy') (qquo_any (x := -y) (y := gcdZ (-x) (-y)) (bad := false) (fun _ => ⟨rfl, rfl, hy', hgs⟩) hg0 W h.envW B h.wk)
  have HQ := Lib.hid (show qT true (Rat.divInt x y) = .tuple #[.agg #[.string (I (-x / gcdZ (-x) (-y))), .string (I (-y / gcdZ (-x) (-y)))], .int .i64 0] by
    rw [← divInt_neg_neg, qT_true]; unfold numS denS; rw [(divInt_parts h0').1, (divInt_parts h0').2])
  generalize I (-x / gcdZ (-x) (-y)) = p at *
  generalize I (-y / gcdZ (-x) (-y)) = q at *
  generalize I (gcdZ (-x) (-y)) = g at *
  generalize I (-x) = a' at *
  generalize I (-y) = b' at *
  clear ha hb hg0 h0 h0'
  go_enter Tryz.func78, Tryz.ntmps78
  go_wp2_with fail
  refine (C1 _).mono ?_
  rintro e w2 ⟨rfl, hb2⟩
  have hc2 := hc1.call hb2
  have ho2 := (Only.of_below (S := [B]) hB1).below hb2
  have hR2 := hR1.below hb2
  clear hc1 hB1 hR1 hb2 c0 C1
  go_wp2_with fail
  refine (S1 _ hc2).mono ?_
  rintro e v3 ⟨rfl, hk3, ho⟩
  have hd3 := hc2.next hk3 ho
  have hp3 := ho2.trans ho
  have hS3 := hR2.only ho hBR
  clear hc2 ho2 hR2 ho hk3 S1
  go_wp2_with fail
  refine (S2 _ hd3).mono ?_
  rintro e v4 ⟨rfl, hk4, ho⟩
  have hd4 := hd3.next hk4 ho
  have hp4 := hp3.trans ho
  have hS4 := hS3.only ho hBR
  clear hd3 hp3 hS3 ho hk4 S2
  go_wp2_with fail
  refine (D1 _ hd4).mono ?_
  rintro e w3 ⟨rfl, hk3, ho⟩
  have hc3 := hd4.next hk3 ho
  have ho3 := hp4.trans ho
  have hR3 := hS4.only ho hBR
  clear hd4 hp4 hS4 ho hk3 D1
  go_wp2_with fail
  refine (D2 _ hc3).mono ?_
  rintro e w4 ⟨rfl, hk4, ho⟩
  have hc4 := hc3.next hk4 ho
  have ho4 := ho3.trans ho
  have hR4 := hR3.only ho hBR
  clear hc3 ho3 hR3 ho hk4 D2
  go_wp2_with fail
  refine (D3 _ hc4).mono ?_
  rintro e w5 ⟨rfl, hk5, ho⟩
  have ho5 := ho4.trans ho
  have hR5 := hR4.only ho hBR
  obtain ⟨_, rfl, c0, k0, k1, r0, r1, f0, f1, y0, y1, hfin⟩ := qred_after hR5 hk5 p q
  have hfin := Lib.hid (hfin _ _ ho5 (Nat.le_refl _))
  clear hc4 ho4 hR4 ho hk5 D3 ho5 hR5
  go_wp2
  refine bodyPost_ret (v := .tuple #[.agg #[.string p, .string q], .int .i64 0]) (by simp [results, Tryz.results78, go_sem, y0, y1]) rfl ?_
  exact ⟨congrArg Ending.returned HQ.out.symm, hfin.out⟩

/-- work.reduced. -/
theorem qred_any {a b : ByteArray} {x y : Int} {bad : Bool} (h : Txts bad a b x y) (w0 W : World) (B : Nat) (hc : Cx w0 W B bad) :
    Calls Tryz.prog 78 #[.pointer (some ⟨B, 0, none⟩), .string a, .string b] W fun e w' => e = .returned (qT (!bad && decide (y ≠ 0)) (Rat.divInt x y)) ∧ Only [B] W w' := by
  cases bad with
  | true => rw [Bool.not_true, Bool.false_and, qT_false _ 0]; exact qred_bad a b w0 W B hc
  | false =>
    obtain ⟨h1, h2, h3, h4⟩ := h rfl
    rcases Int.lt_trichotomy y 0 with hy | hy | hy
    · rw [decide_eq_true (show y ≠ 0 by omega)]; exact qred_neg h1 h2 h3 h4 hy w0 W B hc
    · subst hy; rw [decide_eq_false (by simp), show (!false && false) = false from rfl, qT_false _ 0]; exact qred_zero a b h2 w0 W B hc
    · rw [decide_eq_true (show y ≠ 0 by omega)]; exact qred_pos h1 h2 h3 h4 hy w0 W B hc
end Go.Proofs.YtebokdboodgkpaaGreatDoor
