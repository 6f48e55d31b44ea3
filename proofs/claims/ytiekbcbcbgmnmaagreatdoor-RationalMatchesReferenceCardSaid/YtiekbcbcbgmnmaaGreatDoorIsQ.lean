/- package rational on optional fractions whose texts are variables. -/
import Derived.Test.YtiekbcbcbgmnmaaGreatDoorFourQ
import Derived.Test.YtiekbcbcbgmnmaaGreatDoorLongQ
namespace Go.Proofs.YtiekbcbcbgmnmaaGreatDoor
open Go.RowKit
attribute [local go_sem] Oper.semAt_some

/-- Two texts are those of an optional fraction; with an error's number. -/
def Is (o : Option Rat) (n d : ByteArray) : Prop := n = tN o ∧ d = tD o ∧ OkO o
def IsE (o : Option Rat) (n d : ByteArray) (e : Int) : Prop := Is o n d ∧ e = eO o
theorem Is.ok {o : Option Rat} {n d : ByteArray} (h : Is o n d) : OkO o := h.2.2
theorem IsE.is {o : Option Rat} {n d : ByteArray} {e : Int} (h : IsE o n d e) : Is o n d := h.1
theorem isE_mk {o : Option Rat} (h : OkO o) : ∃ n d e, IsE o n d e := ⟨_, _, _, ⟨rfl, rfl, h⟩, rfl⟩
theorem is_mk {o : Option Rat} (h : OkO o) : ∃ n d, Is o n d := ⟨_, _, rfl, rfl, h⟩
theorem Is.eq {o : Option Rat} {n d n' d' : ByteArray} (h : Is o n d) (k : Is o n' d') : n' = n ∧ d' = d := ⟨by rw [k.1, h.1], by rw [k.2.1, h.2.1]⟩
theorem IsE.err {o : Option Rat} {n d : ByteArray} {e : Int} (h : IsE o n d e) : (e = 0 ∧ ∃ r, o = some r) ∨ (e = 40 ∧ o = none) := by
  obtain ⟨_, rfl⟩ := h
  cases o with
  | none => exact .inr ⟨rfl, rfl⟩
  | some r => exact .inl ⟨rfl, r, rfl⟩
theorem IsE.zero {o : Option Rat} {n d : ByteArray} {e : Int} (h : IsE o n d e) (h0 : e = 0) : ∃ r, o = some r := by
  rcases h.err with h | h
  · exact h.2
  · omega
theorem IsE.val {r : Rat} {n d : ByteArray} {e : Int} (h : IsE (some r) n d e) : e = 0 := h.2
theorem IsE.no {n d : ByteArray} {e : Int} (h : IsE none n d e) : e = 40 ∧ n = ⟨#[]⟩ ∧ d = ⟨#[]⟩ := ⟨h.2, h.1.1, h.1.2.1⟩
theorem Is.num {r : Rat} {n d : ByteArray} (h : Is (some r) n d) : n = I r.num ∧ d = I (r.den : Int) := ⟨h.1, h.2.1⟩
theorem Is.ne {r s : Rat} {n d n' d' : ByteArray} (h : Is (some r) n d) (k : Is (some s) n' d') (hne : r ≠ s) : (n.toList == n'.toList) = false ∨ n' = n ∧ (d.toList == d'.toList) = false := by
  by_cases e : r.num = s.num
  · refine .inr ⟨by rw [h.num.1, k.num.1, e], str_ne h.num.2 k.num.2 (fun e2 => hne ?_)⟩
    rw [rat_parts r, rat_parts s, e, e2]
  · exact .inl (str_ne h.num.1 k.num.1 e)
theorem Is.len {r : Rat} {n d : ByteArray} (h : Is (some r) n d) : n.size ≤ 201 ∧ d.size ≤ 201 := by
  have hs := h.ok r rfl
  rw [h.num.1, h.num.2]; exact ⟨I_len hs.1, I_len hs.2⟩

/-- The numbers of the blocks on a list: none of the caller's, each greater than those behind it. -/
structure Asc (w : World) (L : BLs) : Prop where
  ge : ∀ p ∈ L, w.heap.size ≤ p.1
  asc : L.Pairwise (fun p q => q.1 < p.1)
theorem Asc.nil (w : World) : Asc w [] := ⟨(fun p hp => by cases hp), List.Pairwise.nil⟩
theorem Asc.add {w W : World} {L : BLs} (h : Asc w L) (hS : BL w L W) (cs : Array Value) (t : TypeId) : Asc w ((W.heap.size, cs, t) :: L) :=
  ⟨fun p hp => by
    rcases List.mem_cons.1 hp with rfl | hp
    · exact hS.below.size
    · exact h.ge p hp, List.pairwise_cons.2 ⟨fun p hp => hS.lts p hp, h.asc⟩⟩
theorem Asc.put {w : World} {A C : BLs} {B : Nat} {cs ds : Array Value} {t : TypeId} (h : Asc w (A ++ (B, cs, t) :: C)) : Asc w (A ++ (B, ds, t) :: C) := by
  refine ⟨fun p hp => ?_, ?_⟩
  · rcases List.mem_append.1 hp with h1 | h1
    · exact h.ge p (List.mem_append_left _ h1)
    · rcases List.mem_cons.1 h1 with rfl | h1
      · exact h.ge (B, cs, t) (List.mem_append_right _ List.mem_cons_self)
      · exact h.ge p (List.mem_append_right _ (List.mem_cons_of_mem _ h1))
  · have h2 := List.pairwise_append.1 h.asc
    refine List.pairwise_append.2 ⟨h2.1, List.pairwise_cons.2 (List.pairwise_cons.1 h2.2.1), fun p hp q hq => ?_⟩
    rcases List.mem_cons.1 hq with rfl | hq
    · exact h2.2.2 p hp (B, cs, t) List.mem_cons_self
    · exact h2.2.2 p hp q (List.mem_cons_of_mem _ hq)
theorem Asc.ne {w : World} {A C : BLs} {B : Nat} {cs : Array Value} {t : TypeId} (h : Asc w (A ++ (B, cs, t) :: C)) : ∀ p ∈ A ++ C, p.1 ≠ B := by
  intro p hp
  have h2 := List.pairwise_append.1 h.asc
  rcases List.mem_append.1 hp with h1 | h1
  · have : B < p.1 := h2.2.2 p h1 (B, cs, t) List.mem_cons_self
    omega
  · have : p.1 < B := (List.pairwise_cons.1 h2.2.1).1 p h1
    omega
theorem Asc.base {w : World} {A C : BLs} {B : Nat} {cs : Array Value} {t : TypeId} (h : Asc w (A ++ (B, cs, t) :: C)) : w.heap.size ≤ B := h.ge (B, cs, t) (List.mem_append_right _ List.mem_cons_self)
/-- Two cells of a block on the list are set. -/
theorem BL.put {w W : World} {A C : BLs} {B : Nat} {a b : Value} {t : TypeId} (hO : Asc w (A ++ (B, #[a, b], t) :: C)) (h : BL w (A ++ (B, #[a, b], t) :: C) W) (x y : Value) :
    BL w (A ++ (B, #[x, y], t) :: C) ((W.setCell ⟨B, 0, none⟩ x).setCell ⟨B, 1, none⟩ y) := by
  have ho : Only [B] W ((W.setCell ⟨B, 0, none⟩ x).setCell ⟨B, 1, none⟩ y) := ((Only.refl [B] W).setCell (p := ⟨B, 0, none⟩) (by simp) x).setCell (p := ⟨B, 1, none⟩) (by simp) y
  have h1 := (h.drop (M := A ++ C) (fun p hp => by
    rcases List.mem_append.1 hp with h1 | h1
    · exact List.mem_append_left _ h1
    · exact List.mem_append_right _ (List.mem_cons_of_mem _ h1))).only ho (by simpa using hO.base) (fun p hp => by simpa using hO.ne p hp)
  refine ⟨h1.below, fun p hp => ?_⟩
  rcases List.mem_append.1 hp with h2 | h2
  · exact h1.blks p (List.mem_append_left _ h2)
  · rcases List.mem_cons.1 h2 with rfl | h2
    · exact ((h.blks (B, #[a, b], t) (List.mem_append_right _ List.mem_cons_self)).set 0 x).set 1 y
    · exact h1.blks p (List.mem_append_right _ h2)

section
variable {a b : Option Rat} {n1 d1 n2 d2 n d : ByteArray} {e : Int} (h1 : Is a n1 d1) (w : World) (hE : Env w)
include h1 hE
theorem add_v (h2 : Is b n2 d2) (h : IsE (oAdd a b) n d e) :
    Calls Tryz.prog 26 #[.agg #[.string n1, .string d1], .agg #[.string n2, .string d2]] w (Rets w (.tuple #[.agg #[.string n, .string d], .int .i64 e])) :=
  add_lit a b n1 d1 n2 d2 n d e h1.ok h2.ok ⟨h1.1, h1.2.1, h2.1, h2.2.1⟩ ⟨h.1.1, h.1.2.1, h.2⟩ w hE
theorem sub_v (h2 : Is b n2 d2) (h : IsE (oSub a b) n d e) :
    Calls Tryz.prog 32 #[.agg #[.string n1, .string d1], .agg #[.string n2, .string d2]] w (Rets w (.tuple #[.agg #[.string n, .string d], .int .i64 e])) :=
  sub_lit a b n1 d1 n2 d2 n d e h1.ok h2.ok ⟨h1.1, h1.2.1, h2.1, h2.2.1⟩ ⟨h.1.1, h.1.2.1, h.2⟩ w hE
theorem mul_v (h2 : Is b n2 d2) (h : IsE (oMul a b) n d e) :
    Calls Tryz.prog 33 #[.agg #[.string n1, .string d1], .agg #[.string n2, .string d2]] w (Rets w (.tuple #[.agg #[.string n, .string d], .int .i64 e])) :=
  mul_lit a b n1 d1 n2 d2 n d e h1.ok h2.ok ⟨h1.1, h1.2.1, h2.1, h2.2.1⟩ ⟨h.1.1, h.1.2.1, h.2⟩ w hE
theorem div_v (h2 : Is b n2 d2) (h : IsE (oDiv a b) n d e) :
    Calls Tryz.prog 28 #[.agg #[.string n1, .string d1], .agg #[.string n2, .string d2]] w (Rets w (.tuple #[.agg #[.string n, .string d], .int .i64 e])) :=
  div_lit a b n1 d1 n2 d2 n d e h1.ok h2.ok ⟨h1.1, h1.2.1, h2.1, h2.2.1⟩ ⟨h.1.1, h.1.2.1, h.2⟩ w hE
theorem cmp_v (h2 : Is b n2 d2) (c : Int) (hc : c = oCmp a b) :
    Calls Tryz.prog 13 #[.agg #[.string n1, .string d1], .agg #[.string n2, .string d2]] w (Rets w (.int .i64 c)) := by
  rw [h1.1, h1.2.1, h2.1, h2.2.1, hc]; exact qcmp_o h1.ok h2.ok w hE
theorem down_v (k : Int) (h : IsE (oRnd false a k) n d e) :
    Calls Tryz.prog 16 #[.agg #[.string n1, .string d1], .int .i64 k] w (Rets w (.tuple #[.agg #[.string n, .string d], .int .i64 e])) :=
  down_lit a k n1 d1 n d e h1.ok ⟨h1.1, h1.2.1⟩ ⟨h.1.1, h.1.2.1, h.2⟩ w hE
theorem up_v (k : Int) (h : IsE (oRnd true a k) n d e) :
    Calls Tryz.prog 18 #[.agg #[.string n1, .string d1], .int .i64 k] w (Rets w (.tuple #[.agg #[.string n, .string d], .int .i64 e])) :=
  up_lit a k n1 d1 n d e h1.ok ⟨h1.1, h1.2.1⟩ ⟨h.1.1, h.1.2.1, h.2⟩ w hE
theorem valid_v (t : Bool) (ht : t = a.isSome) : Calls Tryz.prog 22 #[.agg #[.string n1, .string d1]] w (Rets w (.bool t)) := by
  rw [h1.1, h1.2.1, ht]; exact qvalid_o h1.ok w hE
theorem four_v {m0 m1 m2 m3 c0 c1 c2 c3 : ByteArray} {e0 e1 e2 e3 : Int} (h2 : Is b n2 d2) (g0 : IsE (oAdd a b) m0 c0 e0) (g1 : IsE (oSub a b) m1 c1 e1) (g2 : IsE (oMul a b) m2 c2 e2) (g3 : IsE (oDiv a b) m3 c3 e3) :
    Calls Tryz.prog 8 #[.agg #[.string n1, .string d1], .agg #[.string n2, .string d2]] w (Rets w (.tuple #[.agg #[.string m0, .string c0, .string m1, .string c1, .string m2, .string c2, .string m3, .string c3], .agg #[.int .i64 e0, .int .i64 e1, .int .i64 e2, .int .i64 e3]])) := by
  rw [h1.1, h1.2.1, h2.1, h2.2.1, g0.1.1, g0.1.2.1, g0.2, g1.1.1, g1.1.2.1, g1.2, g2.1.1, g2.1.2.1, g2.2, g3.1.1, g3.1.2.1, g3.2]
  exact four_o h1.ok h2.ok w hE
end
theorem of_v {x y : Int} {n d : ByteArray} {e : Int} (hx : Fits x) (hy : Fits y) (h : IsE (oOf x y) n d e) (w : World) (hE : Env w) :
    Calls Tryz.prog 24 #[.int .i64 x, .int .i64 y] w (Rets w (.tuple #[.agg #[.string n, .string d], .int .i64 e])) :=
  of_lit x y n d e hx hy ⟨h.1.1, h.1.2.1, h.2⟩ w hE
theorem make_v {x y : Int} {a b n d : ByteArray} {e : Int} (ha : a = I x) (hb : b = I y) (hx : Small x) (hy : Small y) (h : IsE (oOf x y) n d e) (w : World) (hE : Env w) :
    Calls Tryz.prog 20 #[.string a, .string b] w (Rets w (.tuple #[.agg #[.string n, .string d], .int .i64 e])) := by
  have := qmake_any a b w hE
  rw [ha, hb, okS_I hx, okS_I hy, zS_I, zS_I, Bool.true_and, Bool.true_and, qT_oIf] at this
  rw [ha, hb, h.1.1, h.1.2.1, h.2]; exact this
theorem rmul_is {x y : Int} {a b : ByteArray} (ha : a = I x) (hb : b = I y) (hx : Small x) (hy : Small y) (hs : Small (x * y)) (w : World) :
    Calls Tryz.prog 37 #[.string a, .string b] w (Rets w (.tuple #[.string (I (x * y)), .int .i64 0])) := by
  refine Rets.of (rmul_any a b (by rw [ha]; exact I_len' hx) (by rw [hb]; exact I_len' hy) w) ?_
  rw [ha, hb, okS_I hx, okS_I hy, zS_I, zS_I]; exact resT_small hs
theorem is_v {a b : ByteArray} (w : World) : Calls Tryz.prog 27 #[.string a, .string b] w (Rets w (.agg #[.string a, .string b])) := is_any a b w
/-- Small and Long. -/
theorem small_v (x0 x1 : Int) (F0 : Fits x0) (F1 : Fits x1) (w : World) :
    Calls Tryz.prog 7 #[.agg #[.int .i64 x0, .int .i64 x1]] w fun e w' => ∃ r n d, e = .returned (.agg #[.string n, .string d]) ∧ Is (some r) n d ∧ BQ 3 r ∧ Below w.heap.size w w' :=
  (small4_is x0 x1 F0 F1 w).mono fun _ _ ⟨r, h, hq, hb⟩ => ⟨r, _, _, h, ⟨rfl, rfl, hq.ok (by decide)⟩, hq, hb⟩
theorem long_v (x0 x1 x2 x3 : Int) (F0 : Fits x0) (F1 : Fits x1) (F2 : Fits x2) (F3 : Fits x3) (w : World) :
    Calls Tryz.prog 6 #[.agg #[.int .i64 x0, .int .i64 x1, .int .i64 x2, .int .i64 x3]] w fun e w' => ∃ r n d, e = .returned (.agg #[.string n, .string d]) ∧ Is (some r) n d ∧ BQ 100 r ∧ Below w.heap.size w w' :=
  (long4_any x0 x1 x2 x3 F0 F1 F2 F3 w).mono fun _ _ ⟨r, h, hq, hb⟩ => ⟨r, _, _, h, ⟨rfl, rfl, hq.ok (by decide)⟩, hq, hb⟩
end Go.Proofs.YtiekbcbcbgmnmaaGreatDoor
