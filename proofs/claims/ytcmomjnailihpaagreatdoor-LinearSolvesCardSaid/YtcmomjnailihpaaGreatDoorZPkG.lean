/- PkG, PkH, PkI, LaidQ, PkE, PkF, PkJ, Blq, Asq, LwA, Row, Hand -/
import Derived.Test.YtcmomjnailihpaaGreatDoorZPkA
import Derived.Test.YtcmomjnailihpaaGreatDoorZPkB
import Derived.Test.YtcmomjnailihpaaGreatDoorZPkC
import Derived.Test.YtcmomjnailihpaaGreatDoorZPkD
import Derived.Test.YtcmomjnailihpaaGreatDoorZPkL
import Derived.Outline
import Derived.Shelf.Abstract
import Derived.Deep.RegionHeld3
import Derived.Scope
import Derived.ScopeJumps
import Derived.WalkMore
import Derived.BigRegion
import Derived.RegionTactic
import Derived.Shelf.Vars
import Derived.Handed
import Derived.WideShapes
import Derived.Lib.LaidTab
import Derived.Lib.LaidU8
import Derived.OpenShut
import Derived.Lib.SmallJoins
import Derived.Laws.IdiomStrings
import Derived.Deep.DeepCutAuto
import Derived.Laws.Small
import Derived.Deep.MidRow
/- Fractions as texts: what stands for a fraction, and what the operations come to (no program of package rational). -/
namespace Go.Proofs.YtcmomjnailihpaaGreatDoor
open Go.RowKit
def rv (n d : ByteArray) : Rat := Rat.divInt (zS n) (zS d)
def SmallQ (r : Rat) : Prop := Small r.num ∧ Small (r.den : Int)
instance (r : Rat) : Decidable (SmallQ r) := inferInstanceAs (Decidable (_ ∧ _))
theorem divInt_parts {x y : Int} (hy : 0 < y) : (Rat.divInt x y).num = x / gcdZ x y ∧ ((Rat.divInt x y).den : Int) = y / gcdZ x y := by
  have e : gcdZ x y = (y.gcd x : Int) := by unfold gcdZ; rw [Int.gcd_comm]
  rw [Rat.num_divInt, Rat.den_divInt, if_neg (by omega), e, Int.sign_eq_one_of_pos hy, Int.one_mul]
  refine ⟨rfl, ?_⟩
  rw [Int.natCast_ediv, Int.natAbs_of_nonneg (by omega)]
theorem rat_den_pos (r : Rat) : (0 : Int) < (r.den : Int) := by have := r.den_pos; omega
theorem small_neg {z : Int} (h : Small z) : Small (-z) := by unfold Small at *; omega
theorem small_quo {x y : Int} (h : Small x) : Small (x / y) := by
  have h1 := Int.natAbs_ediv_le_natAbs x y
  unfold Small at *; omega
theorem smallQ_divInt {x y : Int} (hx : Small x) (hy : Small y) (h0 : 0 < y) : SmallQ (Rat.divInt x y) := by
  obtain ⟨e1, e2⟩ := divInt_parts (x := x) h0
  unfold SmallQ
  rw [e1, e2]
  exact ⟨small_quo hx, small_quo hy⟩
theorem divInt_neg_neg (x y : Int) : Rat.divInt (-x) (-y) = Rat.divInt x y := Rat.neg_divInt_neg x y
end Go.Proofs.YtcmomjnailihpaaGreatDoor
/- package rational: Valid. -/
namespace Go.Proofs.YtcmomjnailihpaaGreatDoor
open Go.RowKit
attribute [local go_sem] Oper.semAt_some
end Go.Proofs.YtcmomjnailihpaaGreatDoor
/- package rational: the steps of a calculation (work). -/
namespace Go.Proofs.YtcmomjnailihpaaGreatDoor
open Go.RowKit
attribute [local go_sem] Oper.semAt_some
end Go.Proofs.YtcmomjnailihpaaGreatDoor
/- package rational: reduced. -/
namespace Go.Proofs.YtcmomjnailihpaaGreatDoor
open Go.RowKit
attribute [local go_sem] Oper.semAt_some
theorem Blk.only {S : List Nat} {W W' : World} {B : Nat} {cs : Array Value} {t : TypeId} (h : Blk W B cs t) (ho : Only S W W') (hB : B ∉ S) : Blk W' B cs t := (ho.block B h.lt hB).trans h
theorem small_zero : Small 0 := by decide
end Go.Proofs.YtcmomjnailihpaaGreatDoor
/- package rational: check, Make, Of, Mul, Div. -/
namespace Go.Proofs.YtcmomjnailihpaaGreatDoor
open Go.RowKit
attribute [local go_sem] Oper.semAt_some
def RatsAt (W : World) (S : Nat) (l : List (ByteArray × ByteArray)) : Prop := ∀ (j : Nat) (h : j < l.length), W.cell? ⟨S, j * 2, none⟩ = some (.string (l[j]).1) ∧ W.cell? ⟨S, j * 2 + 1, none⟩ = some (.string (l[j]).2)
theorem RatsAt.only {B : List Nat} {W W' : World} {S : Nat} {l : List (ByteArray × ByteArray)} (h : RatsAt W S l) (ho : Only B W W') (hS : S < W.heap.size) (hB : S ∉ B) : RatsAt W' S l := fun j hj =>
  ⟨(ho.cell (p := ⟨S, j * 2, none⟩) hS hB).trans (h j hj).1, (ho.cell (p := ⟨S, j * 2 + 1, none⟩) hS hB).trans (h j hj).2⟩
end Go.Proofs.YtcmomjnailihpaaGreatDoor
/- package rational: Mul, Div. -/
namespace Go.Proofs.YtcmomjnailihpaaGreatDoor
open Go.RowKit
attribute [local go_sem] Oper.semAt_some
end Go.Proofs.YtcmomjnailihpaaGreatDoor
/- package rational: sum, Add, Sub. -/
namespace Go.Proofs.YtcmomjnailihpaaGreatDoor
open Go.RowKit
attribute [local go_sem] Oper.semAt_some
end Go.Proofs.YtcmomjnailihpaaGreatDoor
/- package rational: Compare. -/
namespace Go.Proofs.YtcmomjnailihpaaGreatDoor
open Go.RowKit
attribute [local go_sem] Oper.semAt_some
end Go.Proofs.YtcmomjnailihpaaGreatDoor
/- package rational: round, Down, Up. -/
namespace Go.Proofs.YtcmomjnailihpaaGreatDoor
open Go.RowKit
attribute [local go_sem] Oper.semAt_some
end Go.Proofs.YtcmomjnailihpaaGreatDoor
/- strings.Join of two texts with a stroke between them. -/
namespace Go.Proofs.YtcmomjnailihpaaGreatDoor
open Go.RowKit
attribute [local go_sem] Oper.semAt_some
end Go.Proofs.YtcmomjnailihpaaGreatDoor
/- package rational: Print, Parse. -/
namespace Go.Proofs.YtcmomjnailihpaaGreatDoor
open Go.RowKit
attribute [local go_sem] Oper.semAt_some
structure EnvQ (w : World) : Prop where
  env : Env w
  max : ∃ m, w.cell? ⟨3, 0, none⟩ = some (.int .i64 m)
theorem EnvQ.below {w w' : World} {B : Nat} (h : EnvQ w) (hb : Below B w w') (hB : w.heap.size ≤ B) : EnvQ w' := by
  obtain ⟨m, hm⟩ := h.max
  exact ⟨h.env.below hb hB, m, (hb.cell (p := ⟨3, 0, none⟩) (Nat.lt_of_lt_of_le (World.block_lt_of_cell? w _ hm) hB)).trans hm⟩
end Go.Proofs.YtcmomjnailihpaaGreatDoor
/- package rational: Parse. -/
namespace Go.Proofs.YtcmomjnailihpaaGreatDoor
open Go.RowKit
attribute [local go_sem] Oper.semAt_some
end Go.Proofs.YtcmomjnailihpaaGreatDoor
/- The plain wrap for a row that lists variables, the world's shape kept. -/
namespace Go.Proofs.YtcmomjnailihpaaGreatDoor
open Go.RowKit
section
variable {H : Type} {enc : TypeId × Value → H}
theorem returnsInHanded_laid_shaped {a : Assume} {C : Checked} {os : Os} {f : FuncId} {fn : Func} {s : ChangeSpec} {conds : List PathCond} {apart fresh handsOn again : Bool} {X : World → Array Value → Prop}
    (hX : ∀ (w w' : World) (args : Array Value), w.heap = w'.heap → X w args → X w' args)
    (own : ownKnob C.prog.godebug = none) (started : os.Started) (noInit : C.prog.inits.idxOf? f = none) (hfn : C.prog.funcs[f]? = some fn)
    (witness : ∃ (w : World) (tape : Tape) (i : Input), w.os = os ∧ (w.forCall tape i).Shaped C.prog ∧ i.vars = [] ∧ Input.okWide C.prog (w.forCall tape i) .any w.heap.size f i ∧
      ((s.pre enc C.prog fn conds apart (w.forCall tape i).memory i.args ∧ X (w.forCall tape i).memory i.args) ∧ sizedMet enc C.prog fn (OpenSpec.ofChange s) apart (w.forCall tape i).memory i.args) ∧ a.holds C.prog (lone (Frame.enter C.prog f i.args .normal) [] (w.forCall tape i)))
    (contract : ∀ (W : World) (base : Nat) (args : Array Value) (ds gs : List (DataW H)) (before : List MemPlace),
      (∀ (j : Nat) t v, fn.params[j]? = some t → args[j]? = some v → Value.okWide C.prog W .any base t v) →
      DataW.Whole enc C.prog fn.params.toList s.vars apart W args.toList ds gs before →
      conds.all (PathCond.test C.prog ⟨fn.params.toList, ds, s.plain.varTypes C.prog, gs⟩) = true →
      (DataW.weightsEach C.prog (fn.params.toList ++ s.plain.varTypes C.prog) (ds ++ gs)).all (· ≤ reachBytes) = true → X W args → W.ShapedOpen C.prog →
      a.holds C.prog (lone (Frame.enter C.prog f args .normal) [] W) →
      Calls C.prog f args W fun e W' => ∃ v, e = .returned v ∧ s.post enc C.prog fn apart fresh handsOn again W args v W') :
    ReturnsInHanded a C os f .any (fun w args => (s.pre enc C.prog fn conds apart w args ∧ X w args) ∧ sizedMet enc C.prog fn (OpenSpec.ofChange s) apart w args) (s.post enc C.prog fn apart fresh handsOn again) := by
  refine returnsInHanded_of_calls own started noInit witness ?_
  intro w tape i _ hsh _ hok hpre hholds
  obtain ⟨_, _, _, fn', hfn', _, _, _, _, hval⟩ := hok
  have e : fn' = fn := Option.some.inj (hfn'.symm.trans hfn)
  subst e
  obtain ⟨⟨⟨ds, gs, before, hw, hc⟩, hx⟩, hz⟩ := hpre
  have hw' := DataW.Whole.of_heap (w' := w.forCall tape i) (by rfl) hw
  refine (contract (w.forCall tape i) w.heap.size i.args ds gs before hval hw' hc (hz.weights hw) (hX _ _ _ (by rfl) hx) hsh hholds).mono fun e W' ⟨v, he, hp⟩ => ?_
  subst he
  exact ChangeSpec.post_blind hp
end
theorem max_of_shape {W : World} (h : W.ShapedOpen Tryz.prog) : ∃ m, W.cell? ⟨3, 0, none⟩ = some (.int .i64 m) := Go.Proofs.cell_of_shapedOpen_int (zero := #[.int .i64 0]) (t := 3) h (of_decide_eq_true (by kernel_rfl)) (by kernel_rfl) rfl (by kernel_rfl) (by kernel_rfl) Tryz.underlying3
end Go.Proofs.YtcmomjnailihpaaGreatDoor
namespace Go.Proofs.YtcmomjnailihpaaGreatDoor
open Go.RowKit Go.Lib
theorem gPow : Tryz.prog.globalNamed "internal/strconv.uint64pow10" = some 2 := by kernel_rfl
theorem tabIs_of_reads {P : Program} {W : World} {name : String} {k : IntKind} {zs : List Int} {g : Nat} {t e : TypeId} {n : Nat}
    (hg : P.globalNamed name = some g) (hty : (P.globals[g]?).map (·.type) = some t) (ht : P.underlying t = some (.array n e)) (he : P.underlying e = some (.int k)) (hce : P.cellsOf e = 1) (hct : P.cellsOf t = n)
    (h : VarReads P W name (tabData k zs)) : TabIs P W name k zs := by
  obtain ⟨g', t', cs, fuel, p, hg', ht', hvar, hd⟩ := h
  obtain rfl := Option.some.inj (hg.symm.trans hg')
  obtain rfl := Option.some.inj (hty.symm.trans ht')
  unfold TabIs
  rw [hvar, ← cells_of_tab ht he hce hct hd]
theorem tPow : (Tryz.prog.globals[2]?).map (·.type) = some 167 := by kernel_rfl
theorem cPow : Tryz.prog.cellsOf 167 = 20 := by kernel_rfl
theorem env_of_reads {W : World} (h : VarReads Tryz.prog W "internal/strconv.uint64pow10" (tabData .u64 pow10Tab)) : Env W :=
  ⟨tabIs_of_reads gPow tPow Tryz.underlying167 Tryz.underlying71 (by kernel_rfl) cPow h⟩
theorem envQ_of {W : World} (h : VarReads Tryz.prog W "internal/strconv.uint64pow10" (tabData .u64 pow10Tab)) (hs : W.ShapedOpen Tryz.prog) : EnvQ W := ⟨env_of_reads h, max_of_shape hs⟩
end Go.Proofs.YtcmomjnailihpaaGreatDoor
/- The reference: trim, text, Made. -/
namespace Go.Proofs.YtcmomjnailihpaaGreatDoor
open Go.RowKit
attribute [local go_sem] Oper.semAt_some
end Go.Proofs.YtcmomjnailihpaaGreatDoor
/- The reference: order, plus, minus. -/
namespace Go.Proofs.YtcmomjnailihpaaGreatDoor
open Go.RowKit
attribute [local go_sem] Oper.semAt_some
theorem Sl.cellAt {w : World} {v : Value} {xs : List Int} (h : Sl w v xs) (h0 : xs.length ≠ 0) : ∃ b off cap, v = .slice (some ⟨b, off, none⟩) xs.length cap ∧ xs.length ≤ cap ∧ cap ≤ maxLen ∧ b < w.heap.size ∧ ∀ j, j < xs.length → w.cell? ⟨b, off + j, none⟩ = some (.int .i64 (gi xs j)) := by
  rcases h with ⟨_, rfl⟩ | h
  · exact absurd rfl h0
  · exact h
end Go.Proofs.YtcmomjnailihpaaGreatDoor
/- The reference: plus, minus. -/
namespace Go.Proofs.YtcmomjnailihpaaGreatDoor
open Go.RowKit
attribute [local go_sem] Oper.semAt_some
theorem Sl.place {w : World} {v : Value} {xs : List Int} (h : Sl w v xs) : ∃ (a : Option Addr) (b off cap : Nat), v = .slice a xs.length cap ∧ (0 < xs.length → a = some ⟨b, off, none⟩ ∧ b < w.heap.size) ∧ xs.length ≤ 9223372036854775807 ∧ ∀ j, j < xs.length → w.cell? ⟨b, off + j, none⟩ = some (.int .i64 (gi xs j)) := by
  have hl := h.len_le
  unfold maxLen at hl
  rcases h with ⟨rfl, rfl⟩ | ⟨b, off, cap, rfl, h1, h2, h3, h4⟩
  · exact ⟨none, 0, 0, 0, rfl, fun h => by simp at h, by simp, fun j hj => by simp at hj⟩
  · exact ⟨_, b, off, cap, rfl, fun _ => ⟨rfl, h3⟩, by omega, h4⟩
theorem top_snoc {zs : List Int} {d : Int} (h : d ≠ 0) : Hid (Top (zs ++ [d])) := by
  show Top _
  intro j hj
  have : j = zs.length := by simp at hj; omega
  subst this
  simpa [gi] using h
end Go.Proofs.YtcmomjnailihpaaGreatDoor
/- The reference: Valid, digits, checked. -/
namespace Go.Proofs.YtcmomjnailihpaaGreatDoor
open Go.RowKit
attribute [local go_sem] Oper.semAt_some
theorem byte_eq_no {c : UInt8} (h : c ≠ 45) : ((c.toNat : Int) == 45) = false := by
  refine beq_eq_false_iff_ne.2 (fun e => h (UInt8.toNat_inj.1 ?_))
  have : (45 : UInt8).toNat = 45 := rfl
  omega
def DV (w : World) (r : Value) (z : Int) : Prop := ∃ v xs, r = .tuple #[.bool (decide (z < 0)), v] ∧ Sl w v xs ∧ Num 10 xs z.natAbs
/- putlogref03.checked. -/
end Go.Proofs.YtcmomjnailihpaaGreatDoor
/- The reference: sum, Add, Sub, Compare. -/
namespace Go.Proofs.YtcmomjnailihpaaGreatDoor
open Go.RowKit
attribute [local go_sem] Oper.semAt_some
end Go.Proofs.YtcmomjnailihpaaGreatDoor
/- The reference: times. -/
namespace Go.Proofs.YtcmomjnailihpaaGreatDoor
open Go.RowKit
attribute [local go_sem] Oper.semAt_some
def IB (w : World) (G : Nat) (xs : List Int) : Prop := Blk w G (xs.map (Value.int .i64)).toArray 3
theorem IB.cell {w : World} {G : Nat} {xs : List Int} (h : IB w G xs) {j : Nat} (hj : j < xs.length) : w.cell? ⟨G, j, none⟩ = some (.int .i64 (gi xs j)) := by
  have h' : Blk w G _ _ := h
  rw [h'.cell j]; simp [gi, hj]
theorem IB.frozen {w : World} {G : Nat} {xs : List Int} (h : IB w G xs) (j : Nat) : w.frozen? ⟨G, j, none⟩ = false := Blk.frozen (show Blk w G _ _ from h) j
theorem IB.below {w w' : World} {G : Nat} {xs : List Int} (h : IB w G xs) (hb : Below w.heap.size w w') : IB w' G xs := Blk.below (show Blk w G _ _ from h) hb
theorem IB.lt {w : World} {G : Nat} {xs : List Int} (h : IB w G xs) : G < w.heap.size := Blk.lt (show Blk w G _ _ from h)
theorem IB.set {w : World} {G : Nat} {xs : List Int} (h : IB w G xs) (i : Nat) (y : Int) : IB (w.setCell ⟨G, i, none⟩ (.int .i64 y)) G (xs.set i y) := by
  have := Blk.set (show Blk w G _ _ from h) i (.int .i64 y)
  show Blk _ _ _ _
  rwa [List.setIfInBounds_toArray, ← List.map_set] at this
theorem IB.sl {w : World} {G : Nat} {xs : List Int} (h : IB w G xs) (hl : xs.length ≤ maxLen) : Sl w (.slice (some ⟨G, 0, none⟩) xs.length xs.length) xs :=
  .inr ⟨G, 0, xs.length, rfl, Nat.le_refl _, hl, h.lt, fun j hj => by rw [Nat.zero_add]; exact h.cell hj⟩
end Go.Proofs.YtcmomjnailihpaaGreatDoor
/- The reference: divided, trimmed. -/
namespace Go.Proofs.YtcmomjnailihpaaGreatDoor
open Go.RowKit
attribute [local go_sem] Oper.semAt_some
end Go.Proofs.YtcmomjnailihpaaGreatDoor
/- The reference: Mul, Div, Gcd. -/
namespace Go.Proofs.YtcmomjnailihpaaGreatDoor
open Go.RowKit
attribute [local go_sem] Oper.semAt_some
end Go.Proofs.YtcmomjnailihpaaGreatDoor
/- The reference: Root of whatever text, FromInt, ToInt. -/
namespace Go.Proofs.YtcmomjnailihpaaGreatDoor
open Go.RowKit
attribute [local go_sem] Oper.semAt_some
def FT (zs : List Int) (M N : Int) : Prop := Dig 10 zs ∧ val 10 zs + M * 10 ^ zs.length = N ∧ (M = 0 → Top zs)
theorem FT.start (N : Int) : FT [] N N := ⟨Dig.nil 10, by simp [val], fun _ k hk => by simp at hk⟩
theorem FT.next {zs : List Int} {M N : Int} (h : FT zs M N) (h0 : 0 < M) : FT (zs ++ [M % 10]) (M / 10) N := by
  obtain ⟨h1, h2, h3⟩ := h
  refine ⟨h1.snoc (by omega) (by omega), ?_, fun e => (top_snoc (by omega)).out⟩
  rw [val_snoc, List.length_append, List.length_singleton, Int.pow_succ, ← h2]
  have e : M = M % 10 + 10 * (M / 10) := by omega
  have e2 : M * 10 ^ zs.length = M % 10 * 10 ^ zs.length + 10 * (M / 10) * 10 ^ zs.length := by rw [← Int.add_mul, ← e]
  have e3 : M / 10 * (10 ^ zs.length * 10) = 10 * (M / 10) * 10 ^ zs.length := by
    rw [Int.mul_comm (10 ^ zs.length) 10, ← Int.mul_assoc, Int.mul_comm (M / 10) 10]
  omega
theorem FT.len {zs : List Int} {M N : Int} (h : FT zs M N) (h0 : 0 < M) (hN : N < 10 ^ 20) : zs.length < 20 := by
  obtain ⟨h1, h2, _⟩ := h
  have h3 := (val_bounds (by decide) h1).1
  have h4 := Int.mul_le_mul_of_nonneg_right (show (1 : Int) ≤ M by omega) (Int.le_of_lt (pow_pos' (b := 10) (by decide) zs.length))
  exact pow_lt (b := 10) (by decide) (by omega)
theorem FT.num {zs : List Int} {N : Int} (h : FT zs 0 N) : Num 10 zs N := ⟨h.1, h.2.2 rfl, by have := h.2.1; omega⟩
end Go.Proofs.YtcmomjnailihpaaGreatDoor
/- The reference: ToInt. -/
namespace Go.Proofs.YtcmomjnailihpaaGreatDoor
open Go.RowKit
attribute [local go_sem] Oper.semAt_some
end Go.Proofs.YtcmomjnailihpaaGreatDoor
/- The reference for fractions: Valid, Make, Of. -/
namespace Go.Proofs.YtcmomjnailihpaaGreatDoor
open Go.RowKit
attribute [local go_sem] Oper.semAt_some
section
variable {x y : Int} {a b : ByteArray} (ha : a = I x) (hb : b = I y) (hx : Small x) (hy : Small y) (w : World)
include ha hb hx hy
end
end Go.Proofs.YtcmomjnailihpaaGreatDoor
/- package rational in terms of optional fractions: none is what an error returns. -/
namespace Go.Proofs.YtcmomjnailihpaaGreatDoor
open Go.RowKit
attribute [local go_sem] Oper.semAt_some
def OkO (o : Option Rat) : Prop := ∀ r, o = some r → SmallQ r
theorem OkO.none : OkO none := fun r h => by cases h
theorem OkO.some {r : Rat} (h : SmallQ r) : OkO (some r) := fun s e => by cases e; exact h
def oIf (c : Bool) (r : Rat) : Option Rat := if c then some r else none
theorem OkO.oIf {c : Bool} {r : Rat} (h : c = true → SmallQ r) : OkO (oIf c r) := by
  unfold Proofs.YtcmomjnailihpaaGreatDoor.oIf
  split
  · exact OkO.some (h ‹_›)
  · exact OkO.none
theorem add_divInt (x y : Rat) : Rat.divInt (x.num * y.den + y.num * x.den) (x.den * y.den) = x + y := by
  rw [Rat.add_def', ← Rat.divInt_ofNat, Int.natCast_mul]
theorem sub_divInt (x y : Rat) : Rat.divInt (x.num * y.den - y.num * x.den) (x.den * y.den) = x - y := by
  rw [Rat.sub_def', ← Rat.divInt_ofNat, Int.natCast_mul]
theorem mul_divInt (x y : Rat) : Rat.divInt (x.num * y.num) (x.den * y.den) = x * y := by
  rw [Rat.mul_def', ← Rat.divInt_ofNat, Int.natCast_mul]
def fAdd (x y : Rat) : Bool := decide (Small (x.num * y.den)) && decide (Small (y.num * x.den)) && decide (Small (x.num * y.den + y.num * x.den)) && decide (Small ((x.den : Int) * y.den))
def fSub (x y : Rat) : Bool := decide (Small (x.num * y.den)) && decide (Small (y.num * x.den)) && decide (Small (x.num * y.den - y.num * x.den)) && decide (Small ((x.den : Int) * y.den))
def fMul (x y : Rat) : Bool := decide (Small (x.num * y.num)) && decide (Small ((x.den : Int) * y.den))
def oBin (f : Rat → Rat → Bool) (g : Rat → Rat → Rat) (a b : Option Rat) : Option Rat := match a, b with
  | some x, some y => oIf (f x y) (g x y)
  | _, _ => none
def oAdd := oBin fAdd (· + ·)
def oSub := oBin fSub (· - ·)
def oMul := oBin fMul (· * ·)
theorem small_of_den {x y : Rat} {n : Int} (h : Small n) (hd : Small ((x.den : Int) * y.den)) : SmallQ (Rat.divInt n (x.den * y.den)) :=
  smallQ_divInt h hd (Int.mul_pos (rat_den_pos x) (rat_den_pos y))
theorem OkO.add {a b : Option Rat} : OkO (oAdd a b) := by
  cases a with
  | none => exact OkO.none
  | some x => cases b with
    | none => exact OkO.none
    | some y =>
      refine OkO.oIf fun e => ?_
      unfold fAdd at e
      simp at e
      show SmallQ (x + y)
      rw [← add_divInt]
      exact small_of_den e.1.2 e.2
theorem OkO.sub {a b : Option Rat} : OkO (oSub a b) := by
  cases a with
  | none => exact OkO.none
  | some x => cases b with
    | none => exact OkO.none
    | some y =>
      refine OkO.oIf fun e => ?_
      unfold fSub at e
      simp at e
      show SmallQ (x - y)
      rw [← sub_divInt]
      exact small_of_den e.1.2 e.2
theorem OkO.mul {a b : Option Rat} : OkO (oMul a b) := by
  cases a with
  | none => exact OkO.none
  | some x => cases b with
    | none => exact OkO.none
    | some y =>
      refine OkO.oIf fun e => ?_
      unfold fMul at e
      simp at e
      show SmallQ (x * y)
      rw [← mul_divInt]
      exact small_of_den e.1 e.2
section
variable {a b : Option Rat} (ha : OkO a) (hb : OkO b) (w : World) (hE : Env w)
include ha hb hE
end
def oOf (n d : Int) : Option Rat := oIf (decide (d ≠ 0)) (Rat.divInt n d)
theorem smallQ_of {n d : Int} (hn : Small n) (hd : Small d) (h0 : d ≠ 0) : SmallQ (Rat.divInt n d) := by
  rcases Int.lt_or_gt_of_ne h0 with h | h
  · rw [← divInt_neg_neg]; exact smallQ_divInt (small_neg hn) (small_neg hd) (by omega)
  · exact smallQ_divInt hn hd h
theorem OkO.of {n d : Int} (hn : Small n) (hd : Small d) : OkO (oOf n d) := OkO.oIf fun e => smallQ_of hn hd (by simpa using e)
end Go.Proofs.YtcmomjnailihpaaGreatDoor
/- pick: an arbitrary integer as an index. -/
namespace Go.Proofs.YtcmomjnailihpaaGreatDoor
open Go.RowKit
attribute [local go_sem] Oper.semAt_some
def pkv (c m : Int) : Int := (if c < 0 then -(c + 1) else c) % m
theorem pkv_nonneg {c m : Int} (h : 0 < m) : 0 ≤ pkv c m := Int.emod_nonneg _ (by omega)
theorem pkv_lt {c m : Int} (h : 0 < m) : pkv c m < m := Int.emod_lt_of_pos _ h
structure BL (w : World) (L : List (Nat × Array Value × TypeId)) (W : World) : Prop where
  below : Below w.heap.size w W
  blks : ∀ p ∈ L, Blk W p.1 p.2.1 p.2.2
abbrev BLs := List (Nat × Array Value × TypeId)
theorem BL.start (w : World) : BL w [] w := ⟨Below.refl _ _, fun p h => by cases h⟩
theorem BL.call {w W W' : World} {L : BLs} (h : BL w L W) (hb : Below W.heap.size W W') : BL w L W' :=
  ⟨kb_call hb h.below (Nat.le_refl _), fun p hp => (h.blks p hp).below hb⟩
theorem BL.drew {w W : World} {L : BLs} (h : BL w L W) : BL w L W.drew := h.call (below_drewN W 1)
theorem BL.drewN {w W : World} {L : BLs} (h : BL w L W) (n : Nat) : BL w L (W.drewN n) := h.call (below_drewN W n)
theorem BL.new {w W : World} {L : BLs} (h : BL w L W) (o : Obj) : BL w L (W.alloc o) := h.call ((Below.refl _ _).alloc (Nat.le_refl _) o)
theorem BL.add {w W : World} {L : BLs} (h : BL w L W) (cs : Array Value) (t : TypeId) : BL w ((W.heap.size, cs, t) :: L) (W.alloc (.cells cs t)) := by
  refine ⟨(h.new _).below, fun p hp => ?_⟩
  rcases List.mem_cons.1 hp with rfl | hp
  · exact Blk.new _ _ _
  · exact (h.new _).blks p hp
theorem BL.add' {w W : World} {L : BLs} (h : BL w L W) (cs : Array Value) (t : TypeId) : ∃ W', W' = W.alloc (.cells cs t) ∧ BL w ((W.heap.size, cs, t) :: L) W' ∧ W'.heap.size = W.heap.size + 1 :=
  ⟨_, rfl, h.add cs t, World.size_alloc _ _⟩
theorem BL.lts {w W : World} {L : BLs} (h : BL w L W) : ∀ p ∈ L, p.1 < W.heap.size := fun p hp => (h.blks p hp).lt
theorem BL.drop {w W : World} {L M : BLs} (h : BL w L W) (hm : ∀ p ∈ M, p ∈ L) : BL w M W := ⟨h.below, fun p hp => h.blks p (hm p hp)⟩
theorem BL.cell {w W : World} {L : BLs} (h : BL w L W) (B : Nat) (cs : Array Value) (t : TypeId) (hm : (B, cs, t) ∈ L) (i : Nat) : W.cell? ⟨B, i, none⟩ = cs[i]? := (h.blks _ hm).cell i
theorem BL.frozen {w W : World} {L : BLs} (h : BL w L W) (B : Nat) (cs : Array Value) (t : TypeId) (hm : (B, cs, t) ∈ L) (i : Nat) : W.frozen? ⟨B, i, none⟩ = false := (h.blks _ hm).frozen i
theorem BL.c1 {w W : World} {L : BLs} (h : BL w L W) (B : Nat) (a : Value) (t : TypeId) (hm : (B, #[a], t) ∈ L) : W.cell? ⟨B, 0, none⟩ = some a := h.cell B _ t hm 0
theorem BL.c2 {w W : World} {L : BLs} (h : BL w L W) (B : Nat) (a b : Value) (t : TypeId) (hm : (B, #[a, b], t) ∈ L) : W.cell? ⟨B, 0, none⟩ = some a ∧ W.cell? ⟨B, 1, none⟩ = some b := ⟨h.cell B _ t hm 0, h.cell B _ t hm 1⟩
theorem BL.c4 {w W : World} {L : BLs} (h : BL w L W) (B : Nat) (a b c d : Value) (t : TypeId) (hm : (B, #[a, b, c, d], t) ∈ L) : W.cell? ⟨B, 0, none⟩ = some a ∧ W.cell? ⟨B, 1, none⟩ = some b ∧ W.cell? ⟨B, 2, none⟩ = some c ∧ W.cell? ⟨B, 3, none⟩ = some d :=
  ⟨h.cell B _ t hm 0, h.cell B _ t hm 1, h.cell B _ t hm 2, h.cell B _ t hm 3⟩
theorem BL.c8 {w W : World} {L : BLs} (h : BL w L W) (B : Nat) (a b c d e f g k : Value) (t : TypeId) (hm : (B, #[a, b, c, d, e, f, g, k], t) ∈ L) : W.cell? ⟨B, 0, none⟩ = some a ∧ W.cell? ⟨B, 1, none⟩ = some b ∧ W.cell? ⟨B, 2, none⟩ = some c ∧ W.cell? ⟨B, 3, none⟩ = some d ∧
    W.cell? ⟨B, 4, none⟩ = some e ∧ W.cell? ⟨B, 5, none⟩ = some f ∧ W.cell? ⟨B, 6, none⟩ = some g ∧ W.cell? ⟨B, 7, none⟩ = some k :=
  ⟨h.cell B _ t hm 0, h.cell B _ t hm 1, h.cell B _ t hm 2, h.cell B _ t hm 3, h.cell B _ t hm 4, h.cell B _ t hm 5, h.cell B _ t hm 6, h.cell B _ t hm 7⟩
theorem BL.only {w W W' : World} {L : BLs} {S : List Nat} (h : BL w L W) (ho : Only S W W') (hS : ∀ k ∈ S, w.heap.size ≤ k) (hL : ∀ p ∈ L, p.1 ∉ S) : BL w L W' :=
  ⟨h.below.trans (ho.toBelow h.below.size hS), fun p hp => (h.blks p hp).only ho (hL p hp)⟩
theorem BL.env {w W : World} {L : BLs} (h : BL w L W) (hE : Env w) : Env W := hE.below h.below (Nat.le_refl _)
def BQ (k : Nat) (r : Rat) : Prop := Bd k r.num ∧ Bd k (r.den : Int)
theorem BQ.small {k : Nat} {r : Rat} (h : BQ k r) (hk : k ≤ 200) : SmallQ r := ⟨h.1.small hk, h.2.small hk⟩
theorem BQ.ok {k : Nat} {r : Rat} (h : BQ k r) (hk : k ≤ 200) : OkO (some r) := OkO.some (h.small hk)
theorem BQ.mono {j k : Nat} {r : Rat} (h : BQ j r) (hk : j ≤ k) : BQ k r := ⟨h.1.mono hk, h.2.mono hk⟩
end Go.Proofs.YtcmomjnailihpaaGreatDoor
namespace Go.Proofs.YtcmomjnailihpaaGreatDoor
open Go.RowKit
structure Asc (w : World) (L : BLs) : Prop where
  ge : ∀ p ∈ L, w.heap.size ≤ p.1
  asc : L.Pairwise (fun p q => q.1 < p.1)
theorem Asc.nil (w : World) : Asc w [] := ⟨(fun p hp => by cases hp), List.Pairwise.nil⟩
theorem Asc.add {w W : World} {L : BLs} (h : Asc w L) (hS : BL w L W) (cs : Array Value) (t : TypeId) : Asc w ((W.heap.size, cs, t) :: L) :=
  ⟨fun p hp => by
    rcases List.mem_cons.1 hp with rfl | hp
    · exact hS.below.size
    · exact h.ge p hp, List.pairwise_cons.2 ⟨fun p hp => hS.lts p hp, h.asc⟩⟩
theorem Asc.put {w : World} {A C : BLs} {B : Nat} {cs ds : Array Value} {t : TypeId} (h : Asc w (A ++ (B, cs, t) :: C)) : Asc w (A ++ (B, ds, t) :: C) := by
  refine ⟨fun p hp => ?_, ?_⟩
  · rcases List.mem_append.1 hp with h1 | h1
    · exact h.ge p (List.mem_append_left _ h1)
    · rcases List.mem_cons.1 h1 with rfl | h1
      · exact h.ge (B, cs, t) (List.mem_append_right _ List.mem_cons_self)
      · exact h.ge p (List.mem_append_right _ (List.mem_cons_of_mem _ h1))
  · have h2 := List.pairwise_append.1 h.asc
    refine List.pairwise_append.2 ⟨h2.1, List.pairwise_cons.2 (List.pairwise_cons.1 h2.2.1), fun p hp q hq => ?_⟩
    rcases List.mem_cons.1 hq with rfl | hq
    · exact h2.2.2 p hp (B, cs, t) List.mem_cons_self
    · exact h2.2.2 p hp q (List.mem_cons_of_mem _ hq)
theorem Asc.ne {w : World} {A C : BLs} {B : Nat} {cs : Array Value} {t : TypeId} (h : Asc w (A ++ (B, cs, t) :: C)) : ∀ p ∈ A ++ C, p.1 ≠ B := by
  intro p hp
  have h2 := List.pairwise_append.1 h.asc
  rcases List.mem_append.1 hp with h1 | h1
  · have : B < p.1 := h2.2.2 p h1 (B, cs, t) List.mem_cons_self
    omega
  · have : p.1 < B := (List.pairwise_cons.1 h2.2.1).1 p h1
    omega
theorem Asc.base {w : World} {A C : BLs} {B : Nat} {cs : Array Value} {t : TypeId} (h : Asc w (A ++ (B, cs, t) :: C)) : w.heap.size ≤ B := h.ge (B, cs, t) (List.mem_append_right _ List.mem_cons_self)
theorem BL.put {w W : World} {A C : BLs} {B : Nat} {a b : Value} {t : TypeId} (hO : Asc w (A ++ (B, #[a, b], t) :: C)) (h : BL w (A ++ (B, #[a, b], t) :: C) W) (x y : Value) :
    BL w (A ++ (B, #[x, y], t) :: C) ((W.setCell ⟨B, 0, none⟩ x).setCell ⟨B, 1, none⟩ y) := by
  have ho : Only [B] W ((W.setCell ⟨B, 0, none⟩ x).setCell ⟨B, 1, none⟩ y) := ((Only.refl [B] W).setCell (p := ⟨B, 0, none⟩) (by simp) x).setCell (p := ⟨B, 1, none⟩) (by simp) y
  have h1 := (h.drop (M := A ++ C) (fun p hp => by
    rcases List.mem_append.1 hp with h1 | h1
    · exact List.mem_append_left _ h1
    · exact List.mem_append_right _ (List.mem_cons_of_mem _ h1))).only ho (by simpa using hO.base) (fun p hp => by simpa using hO.ne p hp)
  refine ⟨h1.below, fun p hp => ?_⟩
  rcases List.mem_append.1 hp with h2 | h2
  · exact h1.blks p (List.mem_append_left _ h2)
  · rcases List.mem_cons.1 h2 with rfl | h2
    · exact ((h.blks (B, #[a, b], t) (List.mem_append_right _ List.mem_cons_self)).set 0 x).set 1 y
    · exact h1.blks p (List.mem_append_right _ h2)
theorem BL.putc {w W : World} {A C : BLs} {B : Nat} {cs : Array Value} {t : TypeId} (hO : Asc w (A ++ (B, cs, t) :: C)) (h : BL w (A ++ (B, cs, t) :: C) W) (i : Nat) (x : Value) :
    BL w (A ++ (B, cs.setIfInBounds i x, t) :: C) (W.setCell ⟨B, i, none⟩ x) := by
  have ho : Only [B] W (W.setCell ⟨B, i, none⟩ x) := (Only.refl [B] W).setCell (p := ⟨B, i, none⟩) (by simp) x
  have h1 := (h.drop (M := A ++ C) (fun p hp => by
    rcases List.mem_append.1 hp with h1 | h1
    · exact List.mem_append_left _ h1
    · exact List.mem_append_right _ (List.mem_cons_of_mem _ h1))).only ho (by simpa using hO.base) (fun p hp => by simpa using hO.ne p hp)
  refine ⟨h1.below, fun p hp => ?_⟩
  rcases List.mem_append.1 hp with h2 | h2
  · exact h1.blks p (List.mem_append_left _ h2)
  · rcases List.mem_cons.1 h2 with rfl | h2
    · exact (h.blks (B, cs, t) (List.mem_append_right _ List.mem_cons_self)).set i x
    · exact h1.blks p (List.mem_append_right _ h2)
end Go.Proofs.YtcmomjnailihpaaGreatDoor
namespace Go.Proofs.YtcmomjnailihpaaGreatDoor
open Go.RowKit
open LnM (wd upd)
attribute [local go_sem] Oper.semAt_some
abbrev wc (f : Nat → Int) : Array Value := #[.int .u64 (f 0), .int .u64 (f 1), .int .u64 (f 2), .int .u64 (f 3), .int .u64 (f 4), .int .u64 (f 5), .int .u64 (f 6), .int .u64 (f 7), .int .u64 (f 8), .int .u64 (f 9), .int .u64 (f 10), .int .u64 (f 11)]
theorem wc_get (f : Nat → Int) {i : Nat} (h : i < 12) : (wc f)[i]? = some (.int .u64 (f i)) := by
  match i, h with
  | 0, _ => rfl
  | 1, _ => rfl
  | 2, _ => rfl
  | 3, _ => rfl
  | 4, _ => rfl
  | 5, _ => rfl
  | 6, _ => rfl
  | 7, _ => rfl
  | 8, _ => rfl
  | 9, _ => rfl
  | 10, _ => rfl
  | 11, _ => rfl
theorem wc_set (f : Nat → Int) {i : Nat} (h : i < 12) (v : Int) : (wc f).setIfInBounds i (.int .u64 v) = wc (upd f i v) := by
  match i, h with
  | 0, _ => rfl
  | 1, _ => rfl
  | 2, _ => rfl
  | 3, _ => rfl
  | 4, _ => rfl
  | 5, _ => rfl
  | 6, _ => rfl
  | 7, _ => rfl
  | 8, _ => rfl
  | 9, _ => rfl
  | 10, _ => rfl
  | 11, _ => rfl
theorem wc_congr {f g : Nat → Int} (h : ∀ i, i < 12 → f i = g i) : wc f = wc g := by
  unfold wc
  rw [h 0 (by decide), h 1 (by decide), h 2 (by decide), h 3 (by decide), h 4 (by decide), h 5 (by decide), h 6 (by decide), h 7 (by decide), h 8 (by decide), h 9 (by decide), h 10 (by decide), h 11 (by decide)]
theorem wc_cells {W : World} {B : Nat} {f : Nat → Int} {t : TypeId} (h : Blk W B (wc f) t) : W.cell? ⟨B, 0, none⟩ = some (.int .u64 (f 0)) ∧ W.cell? ⟨B, 1, none⟩ = some (.int .u64 (f 1)) ∧ W.cell? ⟨B, 2, none⟩ = some (.int .u64 (f 2)) ∧ W.cell? ⟨B, 3, none⟩ = some (.int .u64 (f 3)) ∧ W.cell? ⟨B, 4, none⟩ = some (.int .u64 (f 4)) ∧ W.cell? ⟨B, 5, none⟩ = some (.int .u64 (f 5)) ∧ W.cell? ⟨B, 6, none⟩ = some (.int .u64 (f 6)) ∧ W.cell? ⟨B, 7, none⟩ = some (.int .u64 (f 7)) ∧ W.cell? ⟨B, 8, none⟩ = some (.int .u64 (f 8)) ∧ W.cell? ⟨B, 9, none⟩ = some (.int .u64 (f 9)) ∧ W.cell? ⟨B, 10, none⟩ = some (.int .u64 (f 10)) ∧ W.cell? ⟨B, 11, none⟩ = some (.int .u64 (f 11)) := ⟨h.cell 0, h.cell 1, h.cell 2, h.cell 3, h.cell 4, h.cell 5, h.cell 6, h.cell 7, h.cell 8, h.cell 9, h.cell 10, h.cell 11⟩
theorem wc_frozen {W : World} {B : Nat} {f : Nat → Int} {t : TypeId} (h : Blk W B (wc f) t) : W.frozen? ⟨B, 0, none⟩ = false ∧ W.frozen? ⟨B, 1, none⟩ = false ∧ W.frozen? ⟨B, 2, none⟩ = false ∧ W.frozen? ⟨B, 3, none⟩ = false ∧ W.frozen? ⟨B, 4, none⟩ = false ∧ W.frozen? ⟨B, 5, none⟩ = false ∧ W.frozen? ⟨B, 6, none⟩ = false ∧ W.frozen? ⟨B, 7, none⟩ = false ∧ W.frozen? ⟨B, 8, none⟩ = false ∧ W.frozen? ⟨B, 9, none⟩ = false ∧ W.frozen? ⟨B, 10, none⟩ = false ∧ W.frozen? ⟨B, 11, none⟩ = false := ⟨h.frozen 0, h.frozen 1, h.frozen 2, h.frozen 3, h.frozen 4, h.frozen 5, h.frozen 6, h.frozen 7, h.frozen 8, h.frozen 9, h.frozen 10, h.frozen 11⟩
abbrev st12 (W : World) (R : Nat) (f : Nat → Int) : World := ((((((((((((W.setCell ⟨R, 0, none⟩ (.int .u64 (f 0))).setCell ⟨R, 1, none⟩ (.int .u64 (f 1))).setCell ⟨R, 2, none⟩ (.int .u64 (f 2))).setCell ⟨R, 3, none⟩ (.int .u64 (f 3))).setCell ⟨R, 4, none⟩ (.int .u64 (f 4))).setCell ⟨R, 5, none⟩ (.int .u64 (f 5))).setCell ⟨R, 6, none⟩ (.int .u64 (f 6))).setCell ⟨R, 7, none⟩ (.int .u64 (f 7))).setCell ⟨R, 8, none⟩ (.int .u64 (f 8))).setCell ⟨R, 9, none⟩ (.int .u64 (f 9))).setCell ⟨R, 10, none⟩ (.int .u64 (f 10))).setCell ⟨R, 11, none⟩ (.int .u64 (f 11)))
theorem st12_blk {W : World} {R : Nat} {f g : Nat → Int} {t : TypeId} (h : Blk W R (wc g) t) : Blk (st12 W R f) R (wc f) t := by
  have h0 := h.set 0 (.int .u64 (f 0))
  rw [wc_set _ (by decide)] at h0
  have h1 := h0.set 1 (.int .u64 (f 1))
  rw [wc_set _ (by decide)] at h1
  have h2 := h1.set 2 (.int .u64 (f 2))
  rw [wc_set _ (by decide)] at h2
  have h3 := h2.set 3 (.int .u64 (f 3))
  rw [wc_set _ (by decide)] at h3
  have h4 := h3.set 4 (.int .u64 (f 4))
  rw [wc_set _ (by decide)] at h4
  have h5 := h4.set 5 (.int .u64 (f 5))
  rw [wc_set _ (by decide)] at h5
  have h6 := h5.set 6 (.int .u64 (f 6))
  rw [wc_set _ (by decide)] at h6
  have h7 := h6.set 7 (.int .u64 (f 7))
  rw [wc_set _ (by decide)] at h7
  have h8 := h7.set 8 (.int .u64 (f 8))
  rw [wc_set _ (by decide)] at h8
  have h9 := h8.set 9 (.int .u64 (f 9))
  rw [wc_set _ (by decide)] at h9
  have h10 := h9.set 10 (.int .u64 (f 10))
  rw [wc_set _ (by decide)] at h10
  have h11 := h10.set 11 (.int .u64 (f 11))
  rw [wc_set _ (by decide)] at h11
  have e : wc (upd (upd (upd (upd (upd (upd (upd (upd (upd (upd (upd (upd g 0 (f 0)) 1 (f 1)) 2 (f 2)) 3 (f 3)) 4 (f 4)) 5 (f 5)) 6 (f 6)) 7 (f 7)) 8 (f 8)) 9 (f 9)) 10 (f 10)) 11 (f 11)) = wc f := wc_congr fun i hi => by
    match i, hi with
    | 0, _ => simp [upd]
    | 1, _ => simp [upd]
    | 2, _ => simp [upd]
    | 3, _ => simp [upd]
    | 4, _ => simp [upd]
    | 5, _ => simp [upd]
    | 6, _ => simp [upd]
    | 7, _ => simp [upd]
    | 8, _ => simp [upd]
    | 9, _ => simp [upd]
    | 10, _ => simp [upd]
    | 11, _ => simp [upd]
  rw [e] at h11
  exact h11
theorem st12_below {V W : World} {R : Nat} {f : Nat → Int} (h : Below V.heap.size V W) (hR : V.heap.size ≤ R) : Below V.heap.size V (st12 W R f) :=
  h.setCell (p := ⟨R, 0, none⟩) hR _ |>.setCell (p := ⟨R, 1, none⟩) hR _ |>.setCell (p := ⟨R, 2, none⟩) hR _ |>.setCell (p := ⟨R, 3, none⟩) hR _ |>.setCell (p := ⟨R, 4, none⟩) hR _ |>.setCell (p := ⟨R, 5, none⟩) hR _ |>.setCell (p := ⟨R, 6, none⟩) hR _ |>.setCell (p := ⟨R, 7, none⟩) hR _ |>.setCell (p := ⟨R, 8, none⟩) hR _ |>.setCell (p := ⟨R, 9, none⟩) hR _ |>.setCell (p := ⟨R, 10, none⟩) hR _ |>.setCell (p := ⟨R, 11, none⟩) hR _
set_option maxRecDepth 100000 in
set_option maxHeartbeats 4000000 in
theorem wneg_any (f : Nat → Int) (w : World) :
    Calls Tryz.prog 76 #[.agg (wc f)] w (Rets w (.bool (f 11 / 9223372036854775808 == 1))) := by
  go_enter Tryz.func76, Tryz.ntmps76
  go_wp2
  go_ret
  exact ⟨rfl, (Below.refl _ _).alloc (Nat.le_refl _) _⟩
theorem wd_small {n : Int} (hn : Fits n) {j : Nat} (hj : 1 ≤ j) : wd n j = if n < 0 then 18446744073709551615 else 0 := by
  obtain ⟨k, rfl⟩ : ∃ k, j = k + 1 := ⟨j - 1, by omega⟩
  unfold wd
  have hp : (18446744073709551616 : Int) ≤ LnM.P (k + 1) := by
    show _ ≤ (18446744073709551616 : Int) * LnM.P k
    have := LnM.P_pos k
    omega
  unfold Fits at hn
  by_cases h : n < 0
  · rw [if_pos h]
    have : n / LnM.P (k + 1) = -1 := by
      refine Int.le_antisymm (Int.lt_add_one_iff.1 (Int.ediv_lt_of_lt_mul (LnM.P_pos _) (by omega))) (Int.le_ediv_of_mul_le (LnM.P_pos _) (by omega))
    rw [this]; decide
  · rw [if_neg h]
    have : n / LnM.P (k + 1) = 0 := Int.ediv_eq_zero_of_lt (by omega) (by omega)
    rw [this]; decide
theorem wd_zero' (n : Int) : wd n 0 = n % 18446744073709551616 := by unfold wd LnM.P; rw [Int.ediv_one]
set_option maxRecDepth 100000 in
set_option maxHeartbeats 4000000 in
theorem wof_any (n : Int) (hn : Fits n) (w : World) :
    Calls Tryz.prog 75 #[.int .i64 n] w (Rets w (.agg (wc (wd n)))) := by
  obtain ⟨z, hz⟩ : ∃ z : Int, z = if n < 0 then 18446744073709551615 else 0 := ⟨_, rfl⟩
  have hz1 : IntKind.u64.wrap (n / 9223372036854775808) = z := by rw [IntKind.wrap_u64]; unfold Fits at hn; rw [hz]; split <;> omega
  have hz0 : IntKind.u64.wrap n = wd n 0 := by rw [IntKind.wrap_u64, wd_zero']
  have hfin : wc (upd (fun j => if j < 12 then z else 0) 0 (wd n 0)) = wc (wd n) := wc_congr fun i hi => by
    unfold upd
    by_cases h : i = 0
    · subst h; simp
    · simp [h, hi]; rw [wd_small hn (by omega), hz]
  clear hn
  obtain ⟨V1, ev1, S1, zv1⟩ := (BL.start w).add' (wc (fun _ => 0)) 73
  obtain ⟨V2, ev2, S2, zv2⟩ := S1.add' (wc (fun _ => 0)) 73
  rw [zv1] at S2
  have hV : V2 = (w.alloc (.cells (wc (fun _ => 0)) 73)).alloc (.cells (wc (fun _ => 0)) 73) := by rw [ev2, ev1]
  have hS : BL w [(w.heap.size + 1, wc (fun j => if j < 0 then z else 0), 73), (w.heap.size, wc (fun _ => 0), 73)] V2 := S2
  have hO : ∀ f : Nat → Int, Asc w [(w.heap.size + 1, wc f, 73), (w.heap.size, wc (fun _ => 0), 73)] := fun f => ⟨by simp, by simp⟩
  clear ev1 ev2 zv1 zv2 S1 S2
  go_enter Tryz.func75, Tryz.ntmps75
  go_wp2_with fail
  rw [← hV]
  clear hV
  go_loopw [5] (fun o wr => ∃ i : Nat, o = .int .i64 i ∧ i ≤ 12 ∧ BL w [(w.heap.size + 1, wc (fun j => if j < i then z else 0), 73), (w.heap.size, wc (fun _ => 0), 73)] wr) (fun o _ => 12 - (intOf o).toNat)
  case atStart => exact ⟨0, rfl, by omega, hS⟩
  case round =>
    clear hS
    obtain ⟨i, rfl, hi, hS⟩ := hrel
    by_cases hlt : i < 12
    · have hlt' : (i : Int) < 12 := by omega
      have c0 := (hS.cell (w.heap.size + 1) _ _ (.head _) i).trans (wc_get _ hlt)
      have c1 := hS.frozen (w.heap.size + 1) _ _ (.head _) i
      have hS2 := BL.putc (A := []) (hO _) hS i (.int .u64 z)
      rw [wc_set _ hlt] at hS2
      have e : wc (upd (fun j => if j < i then z else 0) i z) = wc (fun j => if j < i + 1 then z else 0) := wc_congr fun j hj => by
        unfold upd
        by_cases h : j = i
        · subst h; simp
        · by_cases h2 : j < i
          · simp [h, h2, show j < i + 1 by omega]
          · simp [h, h2, show ¬ j < i + 1 by omega]
      rw [e] at hS2
      clear hS e hz hfin
      go_wp2_with fail
      go_roundw
      case rel => exact ⟨i + 1, by go_num, by omega, hS2⟩
      case measure => simp [intOf]; omega
    · obtain rfl : i = 12 := by omega
      have c0 := (hS.cell (w.heap.size + 1) _ _ (.head _) 0).trans (wc_get _ (by decide))
      have c1 := hS.frozen (w.heap.size + 1) _ _ (.head _) 0
      have hS2 := BL.putc (A := []) (hO _) hS 0 (.int .u64 (wd n 0))
      rw [wc_set _ (by decide)] at hS2
      rw [show wc (upd (fun j => if j < 12 then z else 0) 0 (wd n 0)) = wc (wd n) from hfin] at hS2
      clear hfin hz
      generalize wd n = f at *
      go_upto_region 8 with fail
      obtain ⟨W, hW⟩ : ∃ W, W = wr.setCell ⟨w.heap.size + 1, 0, none⟩ (.int .u64 (f 0)) := ⟨_, rfl⟩
      rw [← hW] at hS2 ⊢
      clear hS hW c0 c1
      rw [List.nil_append] at hS2
      obtain ⟨k0, k1, k2, k3, k4, k5, k6, k7, k8, k9, k10, k11⟩ := wc_cells (show Blk W (w.heap.size + 1) (wc f) 73 from hS2.blks (w.heap.size + 1, wc f, 73) (.head _))
      have hR : Blk W w.heap.size (wc (fun _ => 0)) 73 := hS2.blks (w.heap.size, wc (fun _ => 0), 73) (.tail _ (.head _))
      obtain ⟨r0, r1, r2, r3, r4, r5, r6, r7, r8, r9, r10, r11⟩ := wc_cells hR
      obtain ⟨q0, q1, q2, q3, q4, q5, q6, q7, q8, q9, q10, q11⟩ := wc_frozen hR
      obtain ⟨y0, y1, y2, y3, y4, y5, y6, y7, y8, y9, y10, y11⟩ := wc_cells (st12_blk (f := f) hR)
      have hfin := Lib.hid (st12_below (f := f) hS2.below (Nat.le_refl w.heap.size))
      clear hR hS2 hO
      dsimp only [st12] at y0 y1 y2 y3 y4 y5 y6 y7 y8 y9 y10 y11 hfin
      go_wp2
      exact bodyPost_ret (v := .agg (wc f)) (by simp [results, Tryz.results75, go_sem, y0, y1, y2, y3, y4, y5, y6, y7, y8, y9, y10, y11]) rfl ⟨rfl, hfin.out⟩
end Go.Proofs.YtcmomjnailihpaaGreatDoor
namespace Go.Proofs.YtcmomjnailihpaaGreatDoor
open Go.RowKit
theorem blk_setCells {B : Nat} {t : TypeId} : ∀ (vs : List Value) (o : Nat) {W : World} {cs : Array Value}, Blk W B cs t → ∃ ds, Blk (W.setCells B o vs) B ds t ∧ ds.size = cs.size ∧ ∀ j, j < cs.size → ds[j]? = if o ≤ j ∧ j < o + vs.length then vs[j - o]? else cs[j]?
  | [], o, W, cs, h => ⟨cs, h, rfl, fun j _ => by rw [if_neg (by simp)]⟩
  | v :: vs, o, W, cs, h => by
    obtain ⟨ds, h1, h2, h3⟩ := blk_setCells vs (o + 1) (h.set o v)
    rw [Array.size_setIfInBounds] at h2 h3
    refine ⟨ds, h1, h2, fun j hj => ?_⟩
    rw [h3 j hj]
    by_cases e : j = o
    · subst e
      rw [if_neg (by omega), if_pos ⟨Nat.le_refl _, by simp⟩, Nat.sub_self, Array.getElem?_setIfInBounds_self_of_lt hj]
      rfl
    · by_cases c : o + 1 ≤ j ∧ j < o + 1 + vs.length
      · rw [if_pos c, if_pos ⟨by omega, by rw [List.length_cons]; omega⟩]
        obtain ⟨k, rfl⟩ : ∃ k, j = o + 1 + k := ⟨j - (o + 1), by omega⟩
        rw [show o + 1 + k - (o + 1) = k by omega, show o + 1 + k - o = k + 1 by omega, List.getElem?_cons_succ]
      · rw [if_neg c, if_neg (by rw [List.length_cons]; omega), Array.getElem?_setIfInBounds_ne (by omega)]
theorem only_setCells {B : Nat} : ∀ (vs : List Value) (o : Nat) (W : World), Only [B] W (W.setCells B o vs)
  | [], _, W => Only.refl _ W
  | v :: vs, o, W => ((Only.refl [B] W).setCell (p := ⟨B, o, none⟩) (by simp) v).trans (only_setCells vs (o + 1) _)
theorem BL.row {w W : World} {A C : BLs} {B : Nat} {cs ds : Array Value} {t : TypeId} (hO : Asc w (A ++ (B, cs, t) :: C)) (h : BL w (A ++ (B, cs, t) :: C) W) (o : Nat) (vs : List Value)
    (hs : ds.size = cs.size) (hd : ∀ j, j < cs.size → ds[j]? = if o ≤ j ∧ j < o + vs.length then vs[j - o]? else cs[j]?) :
    BL w (A ++ (B, ds, t) :: C) (W.setCells B o vs) := by
  have h1 := (h.drop (M := A ++ C) (fun p hp => by
    rcases List.mem_append.1 hp with h1 | h1
    · exact List.mem_append_left _ h1
    · exact List.mem_append_right _ (List.mem_cons_of_mem _ h1))).only (only_setCells vs o W) (by simpa using hO.base) (fun p hp => by simpa using hO.ne p hp)
  obtain ⟨es, b1, b2, b3⟩ := blk_setCells vs o (h.blks (B, cs, t) (List.mem_append_right _ List.mem_cons_self))
  have e : es = ds := Array.ext_getElem? fun j => by
    by_cases hj : j < cs.size
    · rw [b3 j hj, hd j hj]
    · rw [Array.getElem?_eq_none (by rw [b2]; exact Nat.le_of_not_lt hj), Array.getElem?_eq_none (by omega)]
  subst e
  refine ⟨h1.below, fun p hp => ?_⟩
  rcases List.mem_append.1 hp with h2 | h2
  · exact h1.blks p (List.mem_append_left _ h2)
  · rcases List.mem_cons.1 h2 with rfl | h2
    · exact b1
    · exact h1.blks p (List.mem_append_right _ h2)
theorem BL.rowAll {w W : World} {A C : BLs} {B : Nat} {cs : Array Value} {t : TypeId} (hO : Asc w (A ++ (B, cs, t) :: C)) (h : BL w (A ++ (B, cs, t) :: C) W) (vs : List Value) (hs : vs.length = cs.size) :
    BL w (A ++ (B, vs.toArray, t) :: C) (W.setCells B 0 vs) :=
  BL.row hO h 0 vs (by simpa using hs) fun j hj => by rw [if_pos ⟨Nat.zero_le _, by omega⟩, Nat.sub_zero]; simp
theorem BL.range {w W : World} {L : BLs} (h : BL w L W) (B : Nat) (vs : List Value) (t : TypeId) (hm : (B, vs.toArray, t) ∈ L) : W.rangeAt B 0 vs := fun j v hv => by
  rw [Nat.zero_add, h.cell B _ t hm]; simpa using hv
theorem BL.there {w W : World} {L : BLs} (h : BL w L W) (B : Nat) (cs : Array Value) (t : TypeId) (hm : (B, cs, t) ∈ L) (n : Nat) (hn : n = cs.size) : W.there B 0 n := fun j hj => by
  rw [Nat.zero_add, h.cell B _ t hm, h.frozen B _ t hm]
  exact ⟨by rw [Array.getElem?_eq_getElem (by omega)]; rfl, rfl⟩
def wl (f : Nat → Int) : List Value := [.int .u64 (f 0), .int .u64 (f 1), .int .u64 (f 2), .int .u64 (f 3), .int .u64 (f 4), .int .u64 (f 5), .int .u64 (f 6), .int .u64 (f 7), .int .u64 (f 8), .int .u64 (f 9), .int .u64 (f 10), .int .u64 (f 11)]
theorem wl_arr (f : Nat → Int) : (wl f).toArray = wc f := rfl
theorem wl_len (f : Nat → Int) : (wl f).length = 12 := rfl
theorem wl_one (f : Nat → Int) : ∀ v ∈ wl f, v.oneCell' = true := by simp [wl, Value.oneCell']
theorem st12_row (W : World) (B : Nat) (f : Nat → Int) : W.setCells B 0 (wl f) = st12 W B f := rfl
end Go.Proofs.YtcmomjnailihpaaGreatDoor
namespace Go.Proofs.YtcmomjnailihpaaGreatDoor
section
variable {P : Program} {md : Region.Mode} {ops : Array Oper} {Q : Exit → Act → World → Prop} {S : World → Prop} {st : Nat}
def AnyBut (P : Program) (md : Region.Mode) (ops : Array Oper) (Q : Exit → Act → World → Prop) (S : World → Prop) (st : Nat) : Nat → Array Bool → Act → World → Prop
  | 0, l, a, w => Region.ready md ops l = [] ∧ Q .normal a w
  | n + 1, l, a, w => (Region.ready md ops l = [] → Q .normal a w) ∧ ∀ j ∈ Region.ready md ops l, wpOp P ops Q j (fun a' w' => (j ≠ st → S w') ∧ AnyBut P md ops Q S st n (l.setIfInBounds j true) a' w') a w
theorem AnyBut.any : ∀ {n : Nat} {l : Array Bool} {a : Act} {w : World}, AnyBut P md ops Q S st n l a w → wpAny P md ops Q n l a w
  | 0, _, _, _, h => h
  | _ + 1, _, _, _, h => ⟨h.1, fun j hj => wpOp_mono (fun _ _ hk => hk.2.any) (h.2 j hj)⟩
theorem AnyBut.start {id : Nat} {a : Act} {w : World} (hm : P.follows .mixedOrders = true) (h : AnyBut P .any ops Q S st ops.size (Array.replicate ops.size false) a w.drew) : (Code.region id ops true).wp P Q a w :=
  wp_region_any hm h.any
theorem AnyBut.first {i : Nat} {oi os : Oper} {v : Value} (hi : ops[i]? = some oi) (hst : ops[st]? = some os) (hw : os.after.any (fun e => Region.binds md e && e.on == i) = true) (hsel : Region.noSelect ops = true)
    (hQ : ∀ c a w, Q (.panic c) (a.put oi.dst v) w → Q (.panic c) a w) : ∀ (n : Nat) (l : Array Bool) (a : Act) (w : World),
    (∀ j oj, ops[j]? = some oj → j ≠ i → l.getD j true = false → (∀ e ∈ oj.after, Region.binds md e = true → e.on ≠ i) → oi.apart ops oj = true) →
    i ∈ Region.ready md ops l → YieldsIf P ops S oi v a → S w → i ≠ st →
    AnyBut P md ops Q S st n (l.setIfInBounds i true) (a.put oi.dst v) w → AnyBut P md ops Q S st (n + 1) l a w := by
  intro n
  induction n with
  | zero =>
    intro l a w _ hr hy hS _ H
    refine ⟨fun h => (by rw [h] at hr; cases hr), fun j hj => ?_⟩
    by_cases e : j = i
    · subst e; exact hy.wpOp hi hS ⟨fun _ => hS, H⟩
    · have := ready_mono hj e
      rw [H.1] at this
      cases this
  | succ n ih =>
    intro l a w hf hr hy hS his H
    refine ⟨fun h => (by rw [h] at hr; cases hr), fun j hj => ?_⟩
    by_cases e : j = i
    · subst e; exact hy.wpOp hi hS ⟨fun _ => hS, H⟩
    · obtain ⟨un, oj, hoj, hall⟩ := mem_ready.1 hj
      have un0 := (mem_ready.1 hr).1
      have hno : ∀ x ∈ oj.after, Region.binds md x = true → x.on ≠ i := fun x hx hb ex => by
        have l1 := hall x hx hb
        rw [ex] at l1
        rcases Nat.lt_or_ge i l.size with c | c
        · simp [c] at un0 l1; rw [un0] at l1; cases l1
        · simp [Array.getElem?_eq_none c] at l1
      have hjs : j ≠ st := fun ejs => by
        subst ejs
        rw [hst] at hoj
        obtain rfl := Option.some.inj hoj
        obtain ⟨x, hx, hb⟩ := Array.any_eq_true'.1 hw
        simp only [Bool.and_eq_true, beq_iff_eq] at hb
        exact hno x hx hb.1 hb.2
      have h2 := wpOp_putIf hoj (hf j oj hoj e un hno) (fun cs b => Region.noSelect_spec hsel i oi cs b hi) (fun cs b => Region.noSelect_spec hsel j oj cs b hoj) hQ hy (H.2 j (ready_mono hj e))
      refine wpOp_mono (fun a' w' h3 => ⟨h3.2.1, ih _ a' w' (fun k ok hk hki hun hn => hf k ok hk hki ?_ hn) (ready_mono hr (Ne.symm e)) h3.1 (h3.2.1 hjs) his ?_⟩) h2
      · by_cases ejk : j = k
        · subst ejk; exact un
        · rw [getD_set_ne true ejk] at hun; exact hun
      · rw [Array.setIfInBounds_comm _ _ e]; exact h3.2.2
theorem AnyBut.take {i : Nat} {oi os : Oper} {v : Value} {n : Nat} {l : Array Bool} {a : Act} {w : World} (hi : ops[i]? = some oi) (hst : ops[st]? = some os)
    (hw : os.after.any (fun e => Region.binds md e && e.on == i) = true) (hsel : Region.noSelect ops = true) (hf : Region.free md ops l i = true) (hr : (Region.ready md ops l).contains i = true) (his : i ≠ st)
    (hQ : ∀ c a w, Q (.panic c) (a.put oi.dst v) w → Q (.panic c) a w) (hS : S w) (hy : YieldsIf P ops S oi v a)
    (h : AnyBut P md ops Q S st n (l.setIfInBounds i true) (a.put oi.dst v) w) : AnyBut P md ops Q S st (n + 1) l a w :=
  AnyBut.first hi hst hw hsel hQ n l a w (Region.free_spec hi hf) (by simpa using hr) hy hS his h
theorem AnyBut.one {i : Nat} {o : Oper} {n : Nat} {l : Array Bool} {a : Act} {w : World} (hr : Region.ready md ops l = [i]) (ho : ops[i]? = some o)
    (h : ∀ K' : Act → World → Prop, Shut (∀ a w, (i ≠ st → S w) → AnyBut P md ops Q S st n (l.setIfInBounds i true) a w → K' a w) → if Region.wanted o (yielded ops a.tmps) = true then Oper.wp P o a w K' Q else K' (a.put o.dst undef) w) :
    AnyBut P md ops Q S st (n + 1) l a w :=
  ⟨fun h0 => (by rw [hr] at h0; cases h0), fun j hj => by
    rw [hr] at hj
    obtain rfl := List.mem_singleton.1 hj
    exact wpOp_step ho (fun K' hK => h K' (fun a w h1 h2 => hK a w ⟨h1, h2⟩))⟩
theorem AnyBut.done {l : Array Bool} {a : Act} {w : World} (hr : Region.ready md ops l = []) (h : Q .normal a w) : ∀ n, AnyBut P md ops Q S st n l a w
  | 0 => ⟨hr, h⟩
  | _ + 1 => ⟨fun _ => h, by rw [hr]; simp⟩
end
end Go.Proofs.YtcmomjnailihpaaGreatDoor
