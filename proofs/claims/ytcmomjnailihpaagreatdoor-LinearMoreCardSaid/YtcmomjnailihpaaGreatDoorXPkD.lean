/- PkD, PkE, PkF, PkG, PkH, PkI, LaidQ, PkJ, Blq, Asq, LwA, Row, Hand -/
import Derived.Test.YtcmomjnailihpaaGreatDoorXPkC
import Derived.Test.YtcmomjnailihpaaGreatDoorXPkL
import Derived.Lib.UnsafeStr
import Derived.Laws.IdiomStrings
import Derived.Deep.RegionHeld3
import Derived.Deep.DeepCutAuto
import Derived.Laws.Small
import Derived.Outline
import Derived.Shelf.Abstract
import Derived.Scope
import Derived.ScopeJumps
import Derived.WalkMore
import Derived.BigRegion
import Derived.RegionTactic
import Derived.Shelf.Vars
import Derived.Handed
import Derived.WideShapes
import Derived.Lib.LaidTab
import Derived.Lib.LaidU8
import Derived.OpenShut
import Derived.Lib.SmallJoins
import Derived.Deep.MidRow
set_option maxHeartbeats 8000000
set_option maxRecDepth 100000
/- Div. -/
namespace Go.Proofs.YtcmomjnailihpaaGreatDoor
section
open Go.RowKit
attribute [local go_sem] Oper.semAt_some
theorem one_any (w : World) : Calls Tryz.prog 99 #[] w (Gives w fun r w' => ∃ b, r = .slice (some ⟨b, 0, none⟩) 1 1 ∧ Sl w' r [1]) := by
 go_enter Tryz.func99, Tryz.ntmps99
 go_wp2
 go_ret
 exact ⟨⟨_, rfl, _, rfl, Sl.of_own (G8 w 1)⟩, (Below.refl _ _).alloc (Aa _) _⟩
def divT (ok : Bool) (x y : Int) : Value := if ok && decide (y ≠ 0) then .tuple #[.string ⟨(Lib.itoa (x / y)).toArray⟩, .string ⟨(Lib.itoa (x % y)).toArray⟩, .int .i64 0] else .tuple #[.string ⟨#[]⟩, .string ⟨#[]⟩, .int .i64 30]
theorem K0 (a b : ByteArray) (w : World) (hE : Env w) (ha : okS a = true) (hb : okS b = true) (h0 : zS b ≠ 0) (hneg : ¬ (zS a < 0 ∧ 0 < ((zS a).natAbs : Int) % (zS b).natAbs)) :
  Calls Tryz.prog 61 #[.string a, .string b] w (Gives w fun r _ => r = divT true (zS a) (zS b)) := by
 have Ba := BN ha
 have Bb := BN hb
 have Pk := fun W => D5 a b W ha hb
 have hp := FD (zS a) (zS b) h0
 have hsm := DT (x := zS a) (y := zS b) Ba
 have hsm1 := hsm.1
 have hsm2 := hsm.2 h0 Bb
 have hr0 := Int.emod_nonneg (zS a) h0
 have he1 : erz (zS a / zS b) = 0 := if_pos hsm1
 have ht1 : txt (zS a / zS b) = Lib.itoa (zS a / zS b) := if_pos hsm1
 have ht2 : txt (zS a % zS b) = Lib.itoa (zS a % zS b) := if_pos hsm2
 rw [if_neg hneg, if_neg hneg] at hp
 go_enter Tryz.func61, Tryz.ntmps61
 go_wp2_with fail
 refine (Pk _).mono ?_
 rintro e W1 ⟨⟨r, rfl, v, u, rfl, ⟨x, xs, rfl, hx, hnx⟩, ⟨y, ys, rfl, hy, hny⟩⟩, hb1⟩
 have lx := AL hnx (AY Ba)
 have ly := AL hny (AY Bb)
 have hy0 : ((ys.length : Int) == 0) = false := by
  rw [beq_eq_false_iff_ne]
  intro e
  have := (hny.zero_iff (by decide)).1 (List.eq_nil_of_length_eq_zero (by omega))
  omega
 obtain ⟨a1, c1, rfl⟩ := hx.shape
 obtain ⟨a2, c2, rfl⟩ := hy.shape
 have hm : (0 : Int) < (zS b).natAbs := by omega
 have hM := A8 hneg
 clear hneg
 generalize hs : decide (zS a < 0) = s at *
 generalize ht : decide (zS b < 0) = t at *
 obtain ⟨W2, hW2, h1, h2, h3, h4, h5⟩ := Cs W1 s t (.slice a1 xs.length c1) (.slice a2 ys.length c2)
 go_wp2_with fail
 rw [← hW2]
 clear hW2
 refine (EF _ _ xs ys _ _ (hx.below h5) (hy.below h5) hnx.dig hny hm (by omega) (by omega)).mono ?_
 rintro e W3 ⟨⟨r, rfl, r1, r2, qs, rs, rfl, hq, hnq, hr, hnr⟩, hb3⟩
 rw [hnx.val] at hnq hnr
 obtain ⟨a3, c3, rfl⟩ := hq.shape
 obtain ⟨a4, c4, rfl⟩ := hr.shape
 have g1 := An hb3 h1
 have g2 := An hb3 h2
 have g3 := An hb3 h3
 have g4 := An hb3 h4
 have hb13 := Ad hb3 h5 (Aa _)
 have hbw := Ad hb13 hb1 (Aa _)
 have lq : qs.length ≤ 10000 := by
  have := hnq.len_le (by decide) hnx (Int.ediv_le_self _ (by omega))
  omega
 have lr : rs.length ≤ 10000 := by
  have := hnr.len_le (by decide) hny (Int.le_of_lt (Int.emod_lt_of_pos _ hm))
  omega
 have hE3 := hE.below hbw (Aa _)
 have hcond : s = true → ¬ (0 : Int) < (rs.length : Int) := by
  intro hst hl
  subst hst
  have hxn : zS a < 0 := by simpa using hs
  have : ¬ ((zS a).natAbs : Int) % (zS b).natAbs = 0 := fun e => by
   have := (hnr.zero_iff (by decide)).2 e
   rw [this] at hl; simp at hl
  exact hM.out ⟨hxn, by have := hnr.nonneg (by decide); omega⟩
 have hp1 : sgn (!s == t) (((zS a).natAbs : Int) / (zS b).natAbs) = zS a / zS b := hp.1
 have HH := A8 (And.intro hp1 (And.intro hp.2 (And.intro ht1 (And.intro ht2 he1))))
 have Hy0 := A8 h0
 have lx' := lx
 clear hp hp1 hs ht hsm hsm1 hsm2 he1 ht1 ht2 hr0 hy0 lx ly lx' Ba Bb hm h0
 cases s
 ·go_wp2_with fail
  have hp1 : sgn t (((zS a).natAbs : Int) / (zS b).natAbs) = zS a / zS b := by have := HH.out.1; cases t <;> exact this
  have he : erz (sgn t (((zS a).natAbs : Int) / (zS b).natAbs)) = 0 := by rw [hp1]; exact HH.out.2.2.2.2
  have hR : sgn false (((zS a).natAbs : Int) % (zS b).natAbs) = zS a % zS b := HH.out.2.1
  have hfv : (divT true (zS a) (zS b)) = .tuple #[.string ⟨(txt (sgn t (((zS a).natAbs : Int) / (zS b).natAbs))).toArray⟩, .string ⟨(txt (sgn false (((zS a).natAbs : Int) % (zS b).natAbs))).toArray⟩, .int .i64 0] := by
   rw [hp1, hR, HH.out.2.2.1, HH.out.2.2.2.1]; unfold divT; rw [if_pos]; simpa using Hy0.out
  have HF := A8 hfv
  clear hp1 hR hfv
  refine (Bw t _ qs _ W3 hE3 hq hnq lq).mono ?_
  rintro e W4 ⟨rfl, hb4⟩
  rw [he]
  go_wp2_with fail
  refine (Bw false _ rs _ W4 (hE3.below hb4 (Aa _)) (hr.below hb4) hnr lr).mono ?_
  rintro e W5 ⟨rfl, hb5⟩
  go_wp2
  refine bodyPost_ret (v := .tuple #[.string ⟨(txt (sgn t (((zS a).natAbs : Int) / (zS b).natAbs))).toArray⟩, .string ⟨(txt (sgn false (((zS a).natAbs : Int) % (zS b).natAbs))).toArray⟩, .int .i64 0]) (by simp [results, Tryz.results61, go_sem]) rfl ?_
  exact ⟨⟨_, rfl, HF.out.symm⟩, Ad hb5 (Ad hb4 hbw (Aa _)) (Aa _)⟩
 ·have hc2 := hcond rfl
  clear hcond
  go_wp2_with fail
  have hp1 : sgn (!t) (((zS a).natAbs : Int) / (zS b).natAbs) = zS a / zS b := by have := HH.out.1; cases t <;> exact this
  have he : erz (sgn (!t) (((zS a).natAbs : Int) / (zS b).natAbs)) = 0 := by rw [hp1]; exact HH.out.2.2.2.2
  have hR : sgn false (((zS a).natAbs : Int) % (zS b).natAbs) = zS a % zS b := HH.out.2.1
  have hfv : (divT true (zS a) (zS b)) = .tuple #[.string ⟨(txt (sgn (!t) (((zS a).natAbs : Int) / (zS b).natAbs))).toArray⟩, .string ⟨(txt (sgn false (((zS a).natAbs : Int) % (zS b).natAbs))).toArray⟩, .int .i64 0] := by
   rw [hp1, hR, HH.out.2.2.1, HH.out.2.2.2.1]; unfold divT; rw [if_pos]; simpa using Hy0.out
  have HF := A8 hfv
  clear hp1 hR hfv
  refine (Bw (!t) _ qs _ W3 hE3 hq hnq lq).mono ?_
  rintro e W4 ⟨rfl, hb4⟩
  rw [he]
  go_wp2_with fail
  refine (Bw false _ rs _ W4 (hE3.below hb4 (Aa _)) (hr.below hb4) hnr lr).mono ?_
  rintro e W5 ⟨rfl, hb5⟩
  go_wp2
  refine bodyPost_ret (v := .tuple #[.string ⟨(txt (sgn (!t) (((zS a).natAbs : Int) / (zS b).natAbs))).toArray⟩, .string ⟨(txt (sgn false (((zS a).natAbs : Int) % (zS b).natAbs))).toArray⟩, .int .i64 0]) (by simp [results, Tryz.results61, go_sem]) rfl ?_
  exact ⟨⟨_, rfl, HF.out.symm⟩, Ad hb5 (Ad hb4 hbw (Aa _)) (Aa _)⟩
theorem dig_one : Dig 10000 [1] := fun x hx => by simp at hx; subst hx; omega
theorem Ji : val 10000 [1] = 1 := by simp [val]
theorem K2 (a b : ByteArray) (w : World) (hE : Env w) (ha : okS a = true) (hb : okS b = true) (h0 : zS b ≠ 0) (hneg : zS a < 0 ∧ 0 < ((zS a).natAbs : Int) % (zS b).natAbs) :
  Calls Tryz.prog 61 #[.string a, .string b] w (Gives w fun r _ => r = divT true (zS a) (zS b)) := by
 have Ba := BN ha
 have Bb := BN hb
 have Pk := fun W => D5 a b W ha hb
 have hp := FD (zS a) (zS b) h0
 have hsm := DT (x := zS a) (y := zS b) Ba
 have hsm1 := hsm.1
 have hsm2 := hsm.2 h0 Bb
 have hr0 := Int.emod_nonneg (zS a) h0
 have he1 : erz (zS a / zS b) = 0 := if_pos hsm1
 have ht1 : txt (zS a / zS b) = Lib.itoa (zS a / zS b) := if_pos hsm1
 have ht2 : txt (zS a % zS b) = Lib.itoa (zS a % zS b) := if_pos hsm2
 rw [if_pos hneg, if_pos hneg] at hp
 go_enter Tryz.func61, Tryz.ntmps61
 go_wp2_with fail
 refine (Pk _).mono ?_
 rintro e W1 ⟨⟨r, rfl, v, u, rfl, ⟨x, xs, rfl, hx, hnx⟩, ⟨y, ys, rfl, hy, hny⟩⟩, hb1⟩
 have lx := AL hnx (AY Ba)
 have ly := AL hny (AY Bb)
 have hy0 : ((ys.length : Int) == 0) = false := by
  rw [beq_eq_false_iff_ne]
  intro e
  have := (hny.zero_iff (by decide)).1 (List.eq_nil_of_length_eq_zero (by omega))
  omega
 obtain ⟨a1, c1, rfl⟩ := hx.shape
 obtain ⟨a2, c2, rfl⟩ := hy.shape
 have hm : (0 : Int) < (zS b).natAbs := by omega
 have hM := A8 hneg
 clear hneg
 generalize hs : decide (zS a < 0) = s at *
 generalize ht : decide (zS b < 0) = t at *
 obtain ⟨W2, hW2, h1, h2, h3, h4, h5⟩ := Cs W1 s t (.slice a1 xs.length c1) (.slice a2 ys.length c2)
 go_wp2_with fail
 rw [← hW2]
 clear hW2
 refine (EF _ _ xs ys _ _ (hx.below h5) (hy.below h5) hnx.dig hny hm (by omega) (by omega)).mono ?_
 rintro e W3 ⟨⟨r, rfl, r1, r2, qs, rs, rfl, hq, hnq, hr, hnr⟩, hb3⟩
 rw [hnx.val] at hnq hnr
 obtain ⟨a3, c3, rfl⟩ := hq.shape
 obtain ⟨a4, c4, rfl⟩ := hr.shape
 have g1 := An hb3 h1
 have g2 := An hb3 h2
 have g3 := An hb3 h3
 have g4 := An hb3 h4
 have hb13 := Ad hb3 h5 (Aa _)
 have hbw := Ad hb13 hb1 (Aa _)
 have hqs := hnq.len_le (by decide) hnx (Int.ediv_le_self _ (by omega))
 have hrs := hnr.len_le (by decide) hny (Int.le_of_lt (Int.emod_lt_of_pos _ hm))
 have lq1 : qs.length ≤ 100000 := by omega
 have ly1 : ys.length ≤ 100000 := by omega
 have hst : s = true := by rw [← hs]; simp [hM.out.1]
 have hcond : (0 : Int) < (rs.length : Int) := by
  have : rs ≠ [] := fun e => by
   have := (hnr.zero_iff (by decide)).1 e
   have := hM.out.2
   omega
  have := List.length_pos_iff.2 this
  omega
 have hle : val 10000 rs ≤ val 10000 ys := by
  rw [hnr.val, hny.val]; exact Int.le_of_lt (Int.emod_lt_of_pos _ hm)
 subst hst
 have hp1 : sgn (!true == t) (((zS a).natAbs : Int) / (zS b).natAbs + 1) = zS a / zS b := hp.1
 have HH := A8 (And.intro hp1 (And.intro hp.2 (And.intro ht1 (And.intro ht2 he1))))
 have Hy0 := A8 h0
 have lzs : ∀ zs, Num 10000 zs (val 10000 qs + val 10000 [1]) → zs.length ≤ 10000 := fun zs hz => by
  rw [hnq.val, Ji] at hz
  have h1 := hz.length_le (by decide) (m := 51) (by
   have h2 := Int.ediv_le_self ((zS b).natAbs : Int) (a := ((zS a).natAbs : Int)) (by omega)
   have h3 := AY Ba
   have h4 : Big + 1 ≤ (10000 : Int) ^ 51 := by unfold Big; decide
   omega)
  omega
 have lzr : ∀ zr, Num 10000 zr (val 10000 ys - val 10000 rs) → zr.length ≤ 10000 := fun zr hz => by
  have := hz.len_le (by decide) hny (by rw [hny.val, hnr.val]; have := Int.emod_nonneg ((zS a).natAbs : Int) (b := ((zS b).natAbs : Int)) (by omega); omega)
  omega
 clear hp hp1 hs ht hsm hsm1 hsm2 he1 ht1 ht2 hr0 hy0 lx ly Ba Bb hm h0 hqs
 go_wp2_with fail
 have hb0 := AG (Below.refl W3.heap.size W3)
 go_region_held3 (fun w' => w'.cell? ⟨W1.heap.size, 0, none⟩ = some (.bool true) ∧ w'.cell? ⟨W1.heap.size, 1, none⟩ = some (.slice a1 xs.length c1) ∧ w'.cell? ⟨W1.heap.size + 1, 0, none⟩ = some (.bool t) ∧ w'.cell? ⟨W1.heap.size + 1, 1, none⟩ = some (.slice a2 ys.length c2) ∧ Below W3.heap.size W3 w')
  (first | exact EJ hbz3 (by assumption) | exact EJ hbz2 (by assumption) | exact EJ hbz1 ⟨g1, g2, g3, g4, hb0⟩ | exact ⟨g1, g2, g3, g4, hb0⟩ | assumption | go_keep)
  (first | (go_at_call 99; refine (one_any _).mono ?_; rintro e w4 ⟨⟨r, rfl, b1, rfl, hz1⟩, hbz1⟩; have hw4 := Ad hbz1 hb0 (Aa _)) | (go_at_call 98; refine (Du _ _ qs [1] _ (hq.below hw4) hz1 hnq.dig dig_one lq1 (by decide)).mono ?_; rintro e w5 ⟨⟨r, rfl, zs, hz2, hz3, _⟩, hbz2⟩; obtain ⟨a5, c5, rfl⟩ := hz2.shape; have hw5 := Ad hbz2 hw4 (Aa _)) | (go_at_call 100; refine (Co _ _ ys rs _ (hy.below (Ad hw5 hb13 (Aa _))) (hr.below hw5) hny.dig hnr.dig ly1 hrs hle).mono ?_; rintro e w6 ⟨⟨r, rfl, zr, hz6, hz7, _⟩, hbz3⟩; obtain ⟨a6, c6, rfl⟩ := hz6.shape; have hw6 := Ad hbz3 hw5 (Aa _)))
 have hh : w6.cell? ⟨W1.heap.size, 0, none⟩ = some (.bool true) ∧ w6.cell? ⟨W1.heap.size, 1, none⟩ = some (.slice a1 xs.length c1) ∧ w6.cell? ⟨W1.heap.size + 1, 0, none⟩ = some (.bool t) ∧ w6.cell? ⟨W1.heap.size + 1, 1, none⟩ = some (.slice a2 ys.length c2) ∧ Below W3.heap.size W3 w6 := by assumption
 obtain ⟨k1, k2, k3, k4, _⟩ := hh
 have l1 := lzs _ hz3
 have l2 := lzr _ hz7
 have hz26 := hz2.below hbz3
 rw [hnq.val, Ji] at hz3
 rw [hny.val, hnr.val] at hz7
 have hbw6 := Ad hw6 hbw (Aa _)
 have hE6 := hE.below hbw6 (Aa _)
 have hp1 : sgn (!t) (((zS a).natAbs : Int) / (zS b).natAbs + 1) = zS a / zS b := by have := HH.out.1; cases t <;> exact this
 have he : erz (sgn (!t) (((zS a).natAbs : Int) / (zS b).natAbs + 1)) = 0 := by rw [hp1]; exact HH.out.2.2.2.2
 have hR : sgn false (((zS b).natAbs : Int) - ((zS a).natAbs : Int) % (zS b).natAbs) = zS a % zS b := HH.out.2.1
 have hfv : (divT true (zS a) (zS b)) = .tuple #[.string ⟨(txt (sgn (!t) (((zS a).natAbs : Int) / (zS b).natAbs + 1))).toArray⟩, .string ⟨(txt (sgn false (((zS b).natAbs : Int) - ((zS a).natAbs : Int) % (zS b).natAbs))).toArray⟩, .int .i64 0] := by
  rw [hp1, hR, HH.out.2.2.1, HH.out.2.2.2.1]; unfold divT; rw [if_pos]; simpa using Hy0.out
 have HF := A8 hfv
 have He := A8 he
 clear hp1 hR hfv he lzs lzr hle hcond hnq hnr hny hnx g1 g2 g3 g4 h1 h2 h3 h4
 generalize ((zS a).natAbs : Int) / (zS b).natAbs + 1 = Q at *
 generalize ((zS b).natAbs : Int) - ((zS a).natAbs : Int) % (zS b).natAbs = R at *
 go_wp2_with fail
 refine (Bw (!t) _ zs Q w6 hE6 hz26 hz3 l1).mono ?_
 rintro e w7 ⟨rfl, hb7⟩
 rw [He.out]
 go_wp2_with fail
 refine (Bw false _ zr R w7 (hE6.below hb7 (Aa _)) (hz6.below hb7) hz7 l2).mono ?_
 rintro e w8 ⟨rfl, hb8⟩
 go_wp2
 refine bodyPost_ret (v := .tuple #[.string ⟨(txt (sgn (!t) Q)).toArray⟩, .string ⟨(txt (sgn false R)).toArray⟩, .int .i64 0]) (by simp [results, Tryz.results61, go_sem]) rfl ?_
 exact ⟨⟨_, rfl, HF.out.symm⟩, Ad hb8 (Ad hb7 hbw6 (Aa _)) (Aa _)⟩
/- Div, where one of the strings is no integer. -/
theorem div_bad (a b : ByteArray) (w : World) (h : okS a = false ∨ okS b = false) :
  Calls Tryz.prog 61 #[.string a, .string b] w (Gives w fun r _ => r = divT false 0 0) := by
 have Pk := fun W => DA a b W h
 go_enter Tryz.func61, Tryz.ntmps61
 go_wp2_with fail
 refine (Pk _).mono ?_
 rintro e W1 ⟨⟨r, rfl, rfl⟩, hb1⟩
 go_wp2
 refine bodyPost_ret (v := .tuple #[.string ⟨#[]⟩, .string ⟨#[]⟩, .int .i64 30]) (by simp [results, Tryz.results61, go_sem]) rfl ?_
 exact ⟨⟨_, rfl, rfl⟩, Ad (C0 W1 _ _) hb1 (Aa _)⟩
/- Div by zero. -/
theorem L7 (a b : ByteArray) (w : World) (ha : okS a = true) (hb : okS b = true) (h0 : zS b = 0) :
  Calls Tryz.prog 61 #[.string a, .string b] w (Gives w fun r _ => r = divT true (zS a) 0) := by
 have Pk := fun W => D5 a b W ha hb
 rw [h0] at Pk
 go_enter Tryz.func61, Tryz.ntmps61
 go_wp2_with fail
 refine (Pk _).mono ?_
 rintro e W1 ⟨⟨r, rfl, v, u, rfl, ⟨x, xs, rfl, hx, hnx⟩, ⟨y, ys, rfl, hy, hny⟩⟩, hb1⟩
 have e0 : ys = [] := (hny.zero_iff (by decide)).2 rfl
 subst e0
 obtain ⟨a1, c1, rfl⟩ := hx.shape
 obtain ⟨a2, c2, rfl⟩ := hy.shape
 generalize hs : decide (zS a < 0) = s at *
 generalize ht : decide ((0 : Int) < 0) = t at *
 obtain ⟨W2, hW2, h1, h2, h3, h4, h5⟩ := Cs W1 s t (.slice a1 xs.length c1) (.slice a2 ([] : List Int).length c2)
 simp only [List.length_nil] at h4 hW2
 go_wp2_with fail
 rw [← hW2]
 clear hW2 hs ht
 go_wp2
 refine bodyPost_ret (v := .tuple #[.string ⟨#[]⟩, .string ⟨#[]⟩, .int .i64 30]) (by simp [results, Tryz.results61, go_sem]) rfl ?_
 exact ⟨⟨_, rfl, by simp [divT]⟩, Ad h5 hb1 (Aa _)⟩
theorem div_any (a b : ByteArray) (w : World) (hE : Env w) :
  Calls Tryz.prog 61 #[.string a, .string b] w (Gives w fun r _ => r = divT (okS a && okS b) (zS a) (zS b)) := by
 by_cases h : okS a = true ∧ okS b = true
 ·rw [h.1, h.2]
  by_cases h0 : zS b = 0
  ·rw [h0]; exact L7 a b w h.1 h.2 h0
  ·by_cases hneg : zS a < 0 ∧ 0 < ((zS a).natAbs : Int) % (zS b).natAbs
   ·exact K2 a b w hE h.1 h.2 h0 hneg
   ·exact K0 a b w hE h.1 h.2 h0 hneg
 ·rw [(AZ h).1]
  exact (div_bad a b w (AZ h).2).mono fun _ _ h => h
end
end Go.Proofs.YtcmomjnailihpaaGreatDoor
/- Gcd. -/
namespace Go.Proofs.YtcmomjnailihpaaGreatDoor
section
open Go.RowKit
attribute [local go_sem] Oper.semAt_some
def rdSl (w : World) (v : Value) : List Int := match v with
 | .slice (some a) n _ => (List.range n).map fun j => match w.cell? ⟨a.block, a.off + j, none⟩ with
  | some (.int _ z) => z
  | _ => 0
 | _ => []
theorem Sl.rd {w : World} {v : Value} {xs : List Int} (h : Sl w v xs) : rdSl w v = xs := by
 rcases h with ⟨rfl, rfl⟩ | ⟨b, off, cap, rfl, h1, h2, h3, h4⟩
 ·rfl
 ·unfold rdSl
  apply List.ext_getElem
  ·simp
  ·intro i h5 h6
   simp only [List.getElem_map, List.getElem_range]
   rw [h4 i h6, BB h6]
theorem Gm {xs : List Int} {n : Int} (h : Num 10000 xs n) (hn : n < Big) : xs.length ≤ 50 := AL h hn
theorem gcd_ok (a b : ByteArray) (w : World) (hE : Env w) (ha : okS a = true) (hb : okS b = true) :
  Calls Tryz.prog 60 #[.string a, .string b] w (Gives w fun r _ => r = resT true (gcdZ (zS a) (zS b))) := by
 have Ba := BN ha
 have Bb := BN hb
 have Pk := fun W => D5 a b W ha hb
 have G0 := A8 (L6 (zS a) (zS b))
 go_enter Tryz.func60, Tryz.ntmps60
 go_wp2_with fail
 refine (Pk _).mono ?_
 rintro e W1 ⟨⟨r, rfl, v, u, rfl, ⟨x, xs, rfl, hx, hnx⟩, ⟨y, ys, rfl, hy, hny⟩⟩, hb1⟩
 have Bx := AY Ba
 have By := AY Bb
 obtain ⟨a1, c1, rfl⟩ := hx.shape
 obtain ⟨a2, c2, rfl⟩ := hy.shape
 generalize hs : decide (zS a < 0) = s at *
 generalize ht : decide (zS b < 0) = t at *
 obtain ⟨W2, hW2, h1, h2, h3, h4, h5⟩ := Cs W1 s t (.slice a1 xs.length c1) (.slice a2 ys.length c2)
 go_wp2_with fail
 rw [← hW2]
 clear hW2 hs ht
 go_quiet (fail)
 go_wp2_with fail
 have hW : Below w.heap.size w (W2.drewN nq) := Ad (Ac _ _) (Ad h5 hb1 (Aa _)) (Aa _)
 have hx2 := (hx.below h5).drewN nq
 have hy2 := (hy.below h5).drewN nq
 clear h1 h2 h3 h4 h5 hx hy
 go_loopw [9, 10] (fun k l wr => ∃ a3 c3 a4 c4 ks ls m n, k = .slice a3 ks.length c3 ∧ l = .slice a4 ls.length c4 ∧ Sl wr (.slice a3 ks.length c3) ks ∧ Sl wr (.slice a4 ls.length c4) ls ∧ Num 10000 ks m ∧ Num 10000 ls n ∧ m < Big ∧ n < Big ∧
   Hid (gcdZ m n = gcdZ (zS a) (zS b)) ∧ Below w.heap.size w wr)
  (fun _ l wr => (val 10000 (rdSl wr l)).toNat)
 case atStart => exact ⟨_, _, _, _, _, _, _, _, rfl, rfl, hx2, hy2, hnx, hny, Bx, By, G0.out, hW⟩
 case round =>
  clear hx2 hy2 hnx hny Bx By hW G0 Ba Bb
  obtain ⟨a3, c3, a4, c4, ks, ls, m, n, rfl, rfl, hk, hl, hnk, hnl, Bm, Bn, hG, hW⟩ := hrel
  by_cases h0 : 0 < ls.length
  ·have hn0 : 0 < n := by
    have := hnl.nonneg (by decide)
    have h1 : ¬ n = 0 := fun e => by have := (hnl.zero_iff (by decide)).2 e; rw [this] at h0; simp at h0
    omega
   have hm0 := hnk.nonneg (by decide)
   have lk := Gm hnk Bm
   have ll := Gm hnl Bn
   have hrd := A8 hl.rd
   go_wp2_with fail
   refine (EF _ _ ks ls n _ hk hl hnk.dig hnl hn0 (by omega) (by omega)).mono ?_
   rintro e w2 ⟨⟨r, rfl, r1, r2, qs, rs, rfl, hq, hnq, hr, hnr⟩, hb2⟩
   rw [hnk.val] at hnq hnr
   obtain ⟨a5, c5, rfl⟩ := hq.shape
   obtain ⟨a6, c6, rfl⟩ := hr.shape
   have hlt := Int.emod_lt_of_pos m hn0
   have hmod := Int.emod_nonneg m (by omega : n ≠ 0)
   have hl2 := hl.below hb2
   have hrd2 := A8 hr.rd
   have hW2 := Ad hb2 hW (Aa _)
   go_wp2
   go_roundw
   case rel => exact ⟨_, _, _, _, ls, rs, n, m % n, rfl, rfl, hl2, hr, hnl, hnr, Bn, by omega, (JY hm0 hn0).trans hG.out, hW2⟩
   case measure =>
    show (val 10000 (rdSl _ _)).toNat < (val 10000 (rdSl _ _)).toNat
    rw [hrd.out, hrd2.out, hnl.val, hnr.val]
    omega
  ·have e0 : ls = [] := List.eq_nil_of_length_eq_zero (by omega)
   have en := (hnl.zero_iff (by decide)).1 e0
   subst e0 en
   have hm0 := hnk.nonneg (by decide)
   have hf : sgn false m = gcdZ (zS a) (zS b) := by rw [← hG.out, JZ hm0]; rfl
   have HF := A8 hf
   have lk := Gm hnk Bm
   have hE2 := hE.below hW (Aa _)
   clear hf hG
   go_wp2_with fail
   refine (Bw false _ ks m _ hE2 hk hnk (by omega)).mono ?_
   rintro e w2 ⟨rfl, hb2⟩
   rw [HF.out]
   go_wp2
   go_ret2
   exact ⟨⟨_, rfl, rfl⟩, Ad hb2 hW (Aa _)⟩
theorem gcd_bad (a b : ByteArray) (w : World) (h : okS a = false ∨ okS b = false) :
  Calls Tryz.prog 60 #[.string a, .string b] w (Gives w fun r _ => r = resT false 0) := by
 have Pk := fun W => DA a b W h
 go_enter Tryz.func60, Tryz.ntmps60
 go_wp2_with fail
 refine (Pk _).mono ?_
 rintro e W1 ⟨⟨r, rfl, rfl⟩, hb1⟩
 go_wp2
 go_ret2
 exact ⟨⟨_, rfl, rfl⟩, Ad (C0 W1 _ _) hb1 (Aa _)⟩
theorem ID (x y : Int) : resT false x = resT false y := rfl
theorem gcd_any (a b : ByteArray) (w : World) (hE : Env w) :
  Calls Tryz.prog 60 #[.string a, .string b] w (Gives w fun r _ => r = resT (okS a && okS b) (gcdZ (zS a) (zS b))) := by
 by_cases h : okS a = true ∧ okS b = true
 ·rw [h.1, h.2]; exact gcd_ok a b w hE h.1 h.2
 ·rw [(AZ h).1, ID (gcdZ (zS a) (zS b)) 0]; exact gcd_bad a b w (AZ h).2
end
end Go.Proofs.YtcmomjnailihpaaGreatDoor
/- The contracts of package integer on the texts of integers. -/
namespace Go.Proofs.YtcmomjnailihpaaGreatDoor
section
open Go.RowKit
attribute [local go_sem] Oper.semAt_some
def I (z : Int) : ByteArray := ⟨(Lib.itoa z).toArray⟩
theorem BT {z : Int} (h : Small z) : okS (I z) = true := Ip h.1 h.2
theorem C6 (z : Int) : zS (I z) = z := (DQ z).1
def Bd (k : Nat) (z : Int) : Prop := -(10 ^ k) < z ∧ z < 10 ^ k
theorem Bd.small {k : Nat} {z : Int} (h : Bd k z) (hk : k ≤ 200) : Small z := by
 have := CV (b := 10) (by decide) hk
 unfold Small Big; unfold Bd at h; omega
theorem Bd.mono {j k : Nat} {z : Int} (h : Bd j z) (hk : j ≤ k) : Bd k z := by
 have := CV (b := 10) (by decide) hk
 unfold Bd at *; omega
theorem Bd.add {k : Nat} {x y : Int} (h : Bd k x) (g : Bd k y) : Bd (k + 1) (x + y) := by
 have : (10 : Int) ^ (k + 1) = 10 ^ k * 10 := Int.pow_succ ..
 unfold Bd at *; omega
theorem Bd.sub {k : Nat} {x y : Int} (h : Bd k x) (g : Bd k y) : Bd (k + 1) (x - y) := by
 have : (10 : Int) ^ (k + 1) = 10 ^ k * 10 := Int.pow_succ ..
 unfold Bd at *; omega
theorem Bd.abs {k : Nat} {x : Int} : Bd k x ↔ (x.natAbs : Int) < 10 ^ k := by unfold Bd; omega
theorem Bd.nat {k : Nat} {x : Int} : Bd k x ↔ x.natAbs < 10 ^ k := by
 rw [Bd.abs, show ((10 : Int) ^ k) = ((10 ^ k : Nat) : Int) by simp]; omega
theorem Bd.mul {j k : Nat} {x y : Int} (h : Bd j x) (g : Bd k y) : Bd (j + k) (x * y) := by
 rw [Bd.nat] at *
 rw [Int.natAbs_mul, Nat.pow_add]
 exact Nat.mul_lt_mul'' h g
theorem Bd.neg {k : Nat} {x : Int} (h : Bd k x) : Bd k (-x) := by unfold Bd at *; omega
theorem Bd.gcd {k : Nat} {x y : Int} (h : Bd k x) (g : Bd k y) : Bd k (gcdZ x y) := by
 rw [Bd.nat] at *
 unfold gcdZ
 rw [Int.natAbs_natCast]
 by_cases h0 : x = 0
 ·subst h0; rw [Int.zero_gcd]; exact g
 ·exact Nat.lt_of_le_of_lt (Int.gcd_le_natAbs_left y h0) h
theorem FE {z : Int} (h : Small z) : txt z = Lib.itoa z := if_pos h
theorem K3 {z : Int} (h : Small z) : erz z = 0 := if_pos h
theorem txt_big {z : Int} (h : ¬ Small z) : txt z = [] := if_neg h
theorem erz_big {z : Int} (h : ¬ Small z) : erz z = 30 := if_neg h
theorem BF {z : Int} (h : Small z) : resT true z = .tuple #[.string (I z), .int .i64 0] := by unfold resT; rw [if_pos rfl, FE h, K3 h]; rfl
theorem L8 {z : Int} (h : ¬ Small z) : resT true z = .tuple #[.string ⟨#[]⟩, .int .i64 30] := by unfold resT; rw [if_pos rfl, txt_big h, erz_big h]
def Rets (w : World) (v : Value) : Ending → World → Prop := fun e w' => e = .returned v ∧ Below w.heap.size w w'
theorem Rets.of {f : FuncId} {args : Array Value} {w : World} {u v : Value} (h : Calls Tryz.prog f args w (Gives w fun r _ => r = u)) (e : u = v) : Calls Tryz.prog f args w (Rets w v) :=
 h.mono fun _ _ ⟨⟨r, h1, h2⟩, hb⟩ => ⟨by rw [h1, h2, e], hb⟩
section
variable {x y : Int} {a b : ByteArray} (ha : a = I x) (hb : b = I y) (hx : Small x) (hy : Small y) (w : World) (hE : Env w)
include ha hb hx hy hE
end
end
end Go.Proofs.YtcmomjnailihpaaGreatDoor
/- Lists of decimal digits as texts (no program). -/
namespace Go.Proofs.YtcmomjnailihpaaGreatDoor
section
open Go.RowKit
def dig8 (x : Int) : UInt8 := UInt8.ofNat (48 + x.toNat)
theorem DB {x : Int} (h0 : 0 ≤ x) (h1 : x < 10) : ((dig8 x).toNat : Int) = 48 + x := by
 unfold dig8; rw [AS (by omega)]; omega
def digits8 (xs : List Int) : List UInt8 := xs.reverse.map dig8
theorem DC (x : Int) (xs : List Int) : digits8 (x :: xs) = digits8 xs ++ [dig8 x] := by simp [digits8]
theorem Eh (xs : List Int) : (digits8 xs).length = xs.length := by simp [digits8]
theorem H7 {xs : List Int} (h : Dig 10 xs) : ∀ b ∈ digits8 xs, isD b = true := by
 intro b hb
 obtain ⟨x, hx, rfl⟩ := List.mem_map.1 hb
 have h1 := h x (List.mem_reverse.1 hx)
 have := DB h1.1 h1.2
 rw [BK]; omega
theorem H9 {xs : List Int} (h : Dig 10 xs) : (dnum (digits8 xs) : Int) = val 10 xs := by
 induction xs with
 | nil => rfl
 | cons x xs ih =>
  have h1 := h.cons
  have h2 := DB h1.1.1 h1.1.2
  rw [DC, D3, val]
  have := ih h1.2
  omega
theorem Ha {xs : List Int} {n : Int} (h : Num 10 xs n) (h0 : xs ≠ []) : digits8 xs = Lib.decDigits n.toNat ∧ 0 < n := by
 have hn0 : ¬ n = 0 := fun e => h0 ((h.zero_iff (by decide)).2 e)
 have hn := h.nonneg (by decide)
 have e : dnum (digits8 xs) = n.toNat := by have := H9 h.dig; rw [h.val] at this; omega
 refine ⟨?_, by omega⟩
 rw [← e]
 refine (AU _ (H7 h.dig) (fun e => h0 (by have := congrArg List.length e; rw [Eh] at this; exact List.eq_nil_of_length_eq_zero (by simpa using this))) ?_).symm
 intro b hb
 obtain ⟨k, hk⟩ : ∃ k, xs.length = k + 1 := by
  cases xs with
  | nil => exact absurd rfl h0
  | cons x r => exact ⟨r.length, rfl⟩
 have ht := h.top k hk
 have hg := h.dig.gi (by decide) k
 have hb' : b = dig8 (gi xs k) := by
  rw [List.head?_eq_getElem?] at hb
  unfold digits8 at hb
  rw [List.getElem?_map, List.getElem?_reverse (by omega), hk, Nat.add_sub_cancel, Nat.sub_zero] at hb
  rw [BB (by omega)]
  rw [List.getElem?_eq_getElem (by omega)] at hb
  simpa using hb.symm
 subst hb'
 have := DB hg.1 hg.2
 omega
theorem Hb {xs : List Int} {n : Int} (h : Num 10 xs n) (h0 : xs ≠ []) (neg : Bool) : Lib.itoa (sgn neg n) = (if neg then [45] else []) ++ digits8 xs := by
 obtain ⟨e, hp⟩ := Ha h h0
 rw [e]
 cases neg
 ·rw [show sgn false n = n from rfl, Ao (by omega)]; rfl
 ·rw [show sgn true n = -n from rfl, BS (by omega)]
  rw [show (-n).natAbs = n.toNat by omega]; rfl
theorem K4 (neg : Bool) : Lib.itoa (sgn neg 0) = [48] := by
 have : sgn neg 0 = 0 := by cases neg <;> rfl
 rw [this, Ao (by decide)]
 exact Ap (by decide)
theorem Hf {xs : List Int} {k : Nat} (h : k < xs.length) : digits8 (xs.drop k) = digits8 (xs.drop (k + 1)) ++ [dig8 (gi xs k)] := by
 rw [Gj h, DC]
theorem EK (l : List UInt8) (b : UInt8) : Lib.byteCells (l ++ [b]) = Lib.byteCells l ++ [.int .u8 b.toNat] := by simp [Lib.byteCells]
theorem Fu (l : List UInt8) : (Lib.byteCells l).length = l.length := by simp [Lib.byteCells]
end
end Go.Proofs.YtcmomjnailihpaaGreatDoor
/- Facts for the tests of the laws. -/
namespace Go.Proofs.YtcmomjnailihpaaGreatDoor
section
open Go.RowKit
end
end Go.Proofs.YtcmomjnailihpaaGreatDoor
/- The reference: trim, text, Made. -/
namespace Go.Proofs.YtcmomjnailihpaaGreatDoor
section
open Go.RowKit
attribute [local go_sem] Oper.semAt_some
theorem ret_sb {s t : ByteArray} {p q : Bool} (h : s = t) (k : p = q) : Ending.returned (.tuple #[.string s, .bool p]) = .returned (.tuple #[.string t, .bool q]) := by rw [h, k]
theorem info_u8 : (Tryz.prog.info? 5).map (fun i => (i.zero, i.size, i.bytes)) = some (some (.int .u8 0), 1, 1) := by kernel_rfl
theorem K5 {ops : Array Oper} {rest : List Oper} {o : Oper} {a : Act} {Q : Exit → Act → World → Prop} {wr : World} {base : Nat} {v : Value} {n : Nat} {l : List UInt8} (y : Int) (b : UInt8) (hy : y = b.toNat) (t : TypeId)
  (ht : Tryz.prog.underlying t = some (.slice 5)) (hgd : o.guard = none) (s x : Operand) (ho : o.op = .call { callee := .builtin .append, args := #[s, x], argTypes := #[t, t] })
  (hs : a.eval s = v) (hx : a.eval x = .slice (some ⟨wr.heap.size, 0, none⟩) 1 1) (hown : wr.ownsRow base 5 1 v n (Lib.byteCells l)) (hn : n + 1 ≤ 1000000000000) (hbase : base ≤ wr.heap.size)
  (h : ∀ g cap w', w'.ownsRow base 5 1 (.slice (some ⟨g, 0, none⟩) (n + 1) cap) (n + 1) (Lib.byteCells (l ++ [b])) → (wr.alloc (.cells #[.int .u8 y] 5)).grownBy w' v.ownBlock → Below base wr w' → wpList Tryz.prog ops Q rest (a.put o.dst (.slice (some ⟨g, 0, none⟩) (n + 1) cap)) w') :
  wpList Tryz.prog ops Q (o :: rest) a (wr.alloc (.cells #[.int .u8 y] 5)) := by
 obtain ⟨i0, hi, hz0, hz1, hz2⟩ := info_parts info_u8
 refine wpList_append_own _ hgd s x t ho base 5 i0 (.int .u8 0) 1 1 ht hi hz0 hz1 hz2 rfl (by decide) v n _ hs (hown.alloc _) ⟨wr.heap.size, 0, none⟩ 1 1 [.int .u8 y] hx rfl (by intro t u ht; match t, ht with | 0, ht => simp at ht; subst ht; simp [Addr.add]) (by intro u hu; simp at hu; subst hu; rfl) (by unfold maxLen; omega) (by omega) (by simp; omega) ?_
 intro v' w' hown' hgrow hnil
 rcases hown'.2 with ⟨_, h0⟩ | ⟨g, cap, cur, rfl, hg⟩
 ·omega
 ·refine h g cap w' (by rw [EK, ← hy]; exact hown') hgrow ?_
  refine ((Below.refl base wr).alloc hbase _).grown hgrow (by simp; omega) (fun k hk => ?_)
  exact (hown.lt k hk).1
theorem Hg {w : World} {base : Nat} {g cap n : Nat} {l : List UInt8} (hown : w.ownsRow base 5 1 (.slice (some ⟨g, 0, none⟩) n cap) n (Lib.byteCells l)) (t : TypeId) (ht : Tryz.prog.underlying t = some (.slice 5)) :
  (convert t 9 (.slice (some ⟨g, 0, none⟩) n cap)).run Tryz.prog w = .ok (.string ⟨l.toArray⟩) w := by
 have hl : n = l.length := by have := hown.1; rw [Fu] at this; omega
 subst hl
 refine run_convert_bytes_back w t 9 5 _ cap l ht (by kernel_rfl) (by kernel_rfl) ?_
 intro j hj
 exact hown.cells (g := g) rfl j _ (by simp [Lib.byteCells, hj])
theorem K6 (w : World) : (((w.alloc (.cells #[.int .u8 45] 5)).alloc (.cells (#[.int .u8 45] ++ Builtin.zeroCells #[.int .u8 0] ((Question.appendCap 1 0 5).cut (w.tape w.drawn (Question.appendCap 1 0 5)) - 1)) 5)).drew).ownsRow w.heap.size 5 1
  (.slice (some ⟨w.heap.size + 1, 0, none⟩) 1 ((Question.appendCap 1 0 5).cut (w.tape w.drawn (Question.appendCap 1 0 5)))) 1 (Lib.byteCells [45]) := by
 have h1 := grownCap_ge w 1 0 5
 have h2 := grownCap_le_maxLen w 1 0 5 (by unfold maxLen; omega)
 unfold grownCap at h1 h2
 generalize (Question.appendCap 1 0 5).cut (w.tape w.drawn (Question.appendCap 1 0 5)) = C at *
 refine ⟨rfl, .inr ⟨w.heap.size + 1, C, #[.int .u8 45] ++ Builtin.zeroCells #[.int .u8 0] (C - 1), rfl, by omega, ?_, h1, h2, ?_, ?_⟩⟩
 ·have := World.alloc_heap_new (w.alloc (.cells #[.int .u8 45] 5)) (.cells (#[.int .u8 45] ++ Builtin.zeroCells #[.int .u8 0] (C - 1)) 5)
  rw [World.size_alloc] at this
  exact this
 ·rw [Array.size_append, size_zeroCells]; simp; omega
 ·simp [Lib.byteCells]
theorem Hh (w : World) {A B : Obj} : Below w.heap.size w (((w.alloc A).alloc B).drew) := by
 have h := ((Below.refl _ w).alloc (Aa _) A).alloc (by simp) B
 exact ⟨h.os, h.tape, h.output, h.size, h.block⟩
theorem IE (neg : Bool) (v : Value) (w : World) (hv : Sl w v []) :
  Calls Tryz.prog 74 #[.bool neg, v] w fun e w' => e = .returned (.tuple #[.string ⟨#[48]⟩, .bool true]) ∧ Below w.heap.size w w' := by
 obtain ⟨a1, c1, rfl⟩ := hv.shape
 go_enter Tryz.func74, Tryz.ntmps74
 go_wp2
 go_ret2
 exact ⟨rfl, Below.refl _ _⟩
theorem K7 (neg : Bool) (v : Value) (xs : List Int) (n : Int) (w : World) (hv : Sl w v xs) (hn : Num 10 xs n) (hl : xs.length ≤ 1000000) (h0 : xs.length ≠ 0) :
  Calls Tryz.prog 74 #[.bool neg, v] w fun e w' => e = .returned (.tuple #[.string ⟨(Lib.itoa (sgn neg n)).toArray⟩, .bool (decide (xs.length ≤ 200))]) ∧ Below w.heap.size w w' := by
 have Hd := A8 (Hb hn (fun e => h0 (by rw [e]; rfl)) neg)
 have hne : ((xs.length : Int) == 0) = false := by rw [beq_eq_false_iff_ne]; omega
 have Hdig := A8 hn.dig
 rcases hv with ⟨rfl, rfl⟩ | ⟨bb, off, cap, rfl, h1, h2, h3, h4⟩
 ·exact absurd rfl h0
 unfold maxLen at h2
 have H4 := A8 h4
 have Hn0 := A8 h0
 clear h4 h0 hn
 go_enter Tryz.func74, Tryz.ntmps74
 have hb45 : ((45 : UInt8).toNat : Int) = 45 := rfl
 cases neg
 go_wp2
 have hown0 : w.ownsRow w.heap.size 5 1 (.slice none 0 0) ([] : List UInt8).length (Lib.byteCells []) := World.ownsRow_nil _ _ _ _
 have hbw : Below w.heap.size w w := Below.refl _ _
 obtain ⟨l0, hl0, hl1⟩ : ∃ l0 : List UInt8, Hid (l0 = []) ∧ l0.length ≤ 1 := ⟨[], rfl, by simp⟩
 rw [← hl0.out] at hown0
 rotate_left
 go_wp2
 have hown2 := K6 w
 have hbw := Hh w (A := .cells #[.int .u8 45] 5) (B := .cells (#[.int .u8 45] ++ Builtin.zeroCells #[.int .u8 0] ((Question.appendCap 1 0 5).cut (w.tape w.drawn (Question.appendCap 1 0 5)) - 1)) 5)
 generalize (Question.appendCap 1 0 5).cut (w.tape w.drawn (Question.appendCap 1 0 5)) = cp at *
 generalize ((w.alloc (.cells #[.int .u8 45] 5)).alloc (.cells (#[.int .u8 45] ++ Builtin.zeroCells #[.int .u8 0] (cp - 1)) 5)).drew = w2 at *
 obtain ⟨l0, hl0, hl1⟩ : ∃ l0 : List UInt8, Hid (l0 = [45]) ∧ l0.length ≤ 1 := ⟨[45], rfl, by simp⟩
 have hown0 : w2.ownsRow w.heap.size 5 1 (.slice (some ⟨w.heap.size + 1, 0, none⟩) 1 cp) l0.length (Lib.byteCells l0) := by rw [hl0.out]; exact hown2
 clear hown2
 rotate_left
 all_goals
  go_loopw [6, 7] (fun o i wr => ∃ (r : Nat) (q : Int) (l : List UInt8), r ≤ xs.length ∧ i = .int .i64 q ∧ Hid (q = (r : Int) - 1) ∧ wr.ownsRow w.heap.size 5 1 o l.length (Lib.byteCells l) ∧ l.length + r ≤ xs.length + 1 ∧ Hid (l = l0 ++ digits8 (xs.drop r)) ∧ Below w.heap.size w wr)
   (fun _ i _ => (intOf i + 1).toNat)
  case atStart => exact ⟨xs.length, _, l0, Aa _, rfl, rfl, hown0, by omega, (show l0 = l0 ++ digits8 (xs.drop xs.length) by rw [List.drop_length, show digits8 [] = [] from rfl, List.append_nil]), hbw⟩
  case round =>
   clear hown0 hbw
   obtain ⟨r, q, l, hr, rfl, hq, hown, hlen, hL, hB⟩ := hrel
   cases r with
   | zero =>
    obtain rfl : q = -1 := by have := hq.out; omega
    rcases hown.2 with ⟨rfl, h00⟩ | ⟨g, cp, cur, rfl, hg⟩
    ·have := congrArg List.length hL.out
     rw [List.length_append, Eh, List.drop_zero] at this
     exact absurd (by omega : xs.length = 0) Hn0.out
    ·have hcv := Hg hown 132 Tryz.underlying132
     have hfin := Hd.out.trans (show _ = l by rw [hL.out, hl0.out]; rfl)
     have HF := A8 hfin
     clear hfin
     go_wp2
     go_ret2
     exact ⟨ret_sb (by rw [HF.out]) (decide_eq_decide.2 (by omega)), hB⟩
   | succ r =>
    obtain rfl : q = (r : Int) := by have := hq.out; omega
    have hd := Hdig.out.gi (by decide) r
    have hd0 := hd.1
    have hd1 := hd.2
    have hc := (hB.cell (p := ⟨bb, off + r, none⟩) h3).trans (H4.out r (by omega))
    have h8 := DB hd0 hd1
    have H8 := A8 h8.symm
    have hrl : (r : Int) < (xs.length : Int) := by omega
    clear h8 hd
    go_wp2_with (at_builtin; refine K5 (48 + gi xs r) (dig8 (gi xs r)) H8.out 132 Tryz.underlying132 rfl _ _ rfl rfl rfl hown (by omega) hB.size ?_; intro g cp w2 hown2 hg2 hb2)
    go_roundw
    case rel => exact ⟨r, _, l ++ [dig8 (gi xs r)], by omega, rfl, rfl, (by rw [List.length_append]; exact hown2), (by rw [List.length_append]; simp; omega), (show l ++ [dig8 (gi xs r)] = l0 ++ digits8 (xs.drop r) by rw [hL.out, Hf (k := r) (by omega), List.append_assoc]), hB.trans hb2⟩
    case measure => simp [intOf]
theorem FF (neg : Bool) (v : Value) (xs : List Int) (n : Int) (w : World) (hv : Sl w v xs) (hn : Num 10 xs n) (hl : xs.length ≤ 1000000) :
  Calls Tryz.prog 74 #[.bool neg, v] w fun e w' => e = .returned (.tuple #[.string ⟨(Lib.itoa (sgn neg n)).toArray⟩, .bool (decide (xs.length ≤ 200))]) ∧ Below w.heap.size w w' := by
 by_cases h0 : xs.length = 0
 ·obtain rfl := List.eq_nil_of_length_eq_zero h0
  have := (hn.zero_iff (by decide)).1 rfl
  subst this
  rw [K4]
  exact IE neg v w hv
 ·exact K7 neg v xs n w hv hn hl h0
end
end Go.Proofs.YtcmomjnailihpaaGreatDoor
/- The reference: order, plus, minus. -/
namespace Go.Proofs.YtcmomjnailihpaaGreatDoor
section
open Go.RowKit
attribute [local go_sem] Oper.semAt_some
theorem Sl.cellAt {w : World} {v : Value} {xs : List Int} (h : Sl w v xs) (h0 : xs.length ≠ 0) : ∃ b off cap, v = .slice (some ⟨b, off, none⟩) xs.length cap ∧ xs.length ≤ cap ∧ cap ≤ maxLen ∧ b < w.heap.size ∧ ∀ j, j < xs.length → w.cell? ⟨b, off + j, none⟩ = some (.int .i64 (gi xs j)) := by
 rcases h with ⟨_, rfl⟩ | h
 ·exact absurd rfl h0
 ·exact h
end
end Go.Proofs.YtcmomjnailihpaaGreatDoor
/- The reference: plus, minus. -/
namespace Go.Proofs.YtcmomjnailihpaaGreatDoor
section
open Go.RowKit
attribute [local go_sem] Oper.semAt_some
theorem Sl.place {w : World} {v : Value} {xs : List Int} (h : Sl w v xs) : ∃ (a : Option Addr) (b off cap : Nat), v = .slice a xs.length cap ∧ (0 < xs.length → a = some ⟨b, off, none⟩ ∧ b < w.heap.size) ∧ xs.length ≤ 9223372036854775807 ∧ ∀ j, j < xs.length → w.cell? ⟨b, off + j, none⟩ = some (.int .i64 (gi xs j)) := by
 have hl := h.len_le
 unfold maxLen at hl
 rcases h with ⟨rfl, rfl⟩ | ⟨b, off, cap, rfl, h1, h2, h3, h4⟩
 ·exact ⟨none, 0, 0, 0, rfl, fun h => by simp at h, by simp, fun j hj => by simp at hj⟩
 ·exact ⟨_, b, off, cap, rfl, fun _ => ⟨rfl, h3⟩, by omega, h4⟩
theorem L9 {zs : List Int} {d : Int} (h : d ≠ 0) : Hid (Top (zs ++ [d])) := by
 show Top _
 intro j hj
 have : j = zs.length := by simp at hj; omega
 subst this
 simpa [gi] using h
end
end Go.Proofs.YtcmomjnailihpaaGreatDoor
/- The reference: Valid, digits, checked. -/
namespace Go.Proofs.YtcmomjnailihpaaGreatDoor
section
open Go.RowKit
attribute [local go_sem] Oper.semAt_some
theorem IF {c : UInt8} (h : c ≠ 45) : ((c.toNat : Int) == 45) = false := by
 refine beq_eq_false_iff_ne.2 (fun e => h (UInt8.toNat_inj.1 ?_))
 have : (45 : UInt8).toNat = 45 := rfl
 omega
def DV (w : World) (r : Value) (z : Int) : Prop := ∃ v xs, r = .tuple #[.bool (decide (z < 0)), v] ∧ Sl w v xs ∧ Num 10 xs z.natAbs
/- putlogref03.checked. -/
end
end Go.Proofs.YtcmomjnailihpaaGreatDoor
/- The reference: sum, Add, Sub, Compare. -/
namespace Go.Proofs.YtcmomjnailihpaaGreatDoor
section
open Go.RowKit
attribute [local go_sem] Oper.semAt_some
end
end Go.Proofs.YtcmomjnailihpaaGreatDoor
/- The reference: times. -/
namespace Go.Proofs.YtcmomjnailihpaaGreatDoor
section
open Go.RowKit
attribute [local go_sem] Oper.semAt_some
def IB (w : World) (G : Nat) (xs : List Int) : Prop := Blk w G (xs.map (Value.int .i64)).toArray 3
theorem IB.cell {w : World} {G : Nat} {xs : List Int} (h : IB w G xs) {j : Nat} (hj : j < xs.length) : w.cell? ⟨G, j, none⟩ = some (.int .i64 (gi xs j)) := by
 have h' : Blk w G _ _ := h
 rw [h'.cell j]; simp [gi, hj]
theorem IB.frozen {w : World} {G : Nat} {xs : List Int} (h : IB w G xs) (j : Nat) : w.frozen? ⟨G, j, none⟩ = false := Blk.frozen (show Blk w G _ _ from h) j
theorem IB.below {w w' : World} {G : Nat} {xs : List Int} (h : IB w G xs) (hb : Below w.heap.size w w') : IB w' G xs := Blk.below (show Blk w G _ _ from h) hb
theorem IB.lt {w : World} {G : Nat} {xs : List Int} (h : IB w G xs) : G < w.heap.size := Blk.lt (show Blk w G _ _ from h)
theorem IB.set {w : World} {G : Nat} {xs : List Int} (h : IB w G xs) (i : Nat) (y : Int) : IB (w.setCell ⟨G, i, none⟩ (.int .i64 y)) G (xs.set i y) := by
 have := Blk.set (show Blk w G _ _ from h) i (.int .i64 y)
 show Blk _ _ _ _
 rwa [A0, ← List.map_set] at this
theorem IB.sl {w : World} {G : Nat} {xs : List Int} (h : IB w G xs) (hl : xs.length ≤ maxLen) : Sl w (.slice (some ⟨G, 0, none⟩) xs.length xs.length) xs :=
 .inr ⟨G, 0, xs.length, rfl, Aa _, hl, h.lt, fun j hj => by rw [Nat.zero_add]; exact h.cell hj⟩
end
end Go.Proofs.YtcmomjnailihpaaGreatDoor
/- The reference: divided, trimmed. -/
namespace Go.Proofs.YtcmomjnailihpaaGreatDoor
section
open Go.RowKit
attribute [local go_sem] Oper.semAt_some
end
end Go.Proofs.YtcmomjnailihpaaGreatDoor
/- The reference: Mul, Div, Gcd. -/
namespace Go.Proofs.YtcmomjnailihpaaGreatDoor
section
open Go.RowKit
attribute [local go_sem] Oper.semAt_some
end
end Go.Proofs.YtcmomjnailihpaaGreatDoor
/- The reference: Root of whatever text, FromInt, ToInt. -/
namespace Go.Proofs.YtcmomjnailihpaaGreatDoor
section
open Go.RowKit
attribute [local go_sem] Oper.semAt_some
def FT (zs : List Int) (M N : Int) : Prop := Dig 10 zs ∧ val 10 zs + M * 10 ^ zs.length = N ∧ (M = 0 → Top zs)
theorem FT.start (N : Int) : FT [] N N := ⟨Dig.nil 10, by simp [val], fun _ k hk => by simp at hk⟩
theorem FT.next {zs : List Int} {M N : Int} (h : FT zs M N) (h0 : 0 < M) : FT (zs ++ [M % 10]) (M / 10) N := by
 obtain ⟨h1, h2, h3⟩ := h
 refine ⟨h1.snoc (by omega) (by omega), ?_, fun e => (L9 (by omega)).out⟩
 rw [Bt, List.length_append, List.length_singleton, Int.pow_succ, ← h2]
 have e : M = M % 10 + 10 * (M / 10) := by omega
 have e2 : M * 10 ^ zs.length = M % 10 * 10 ^ zs.length + 10 * (M / 10) * 10 ^ zs.length := by rw [← Int.add_mul, ← e]
 have e3 : M / 10 * (10 ^ zs.length * 10) = 10 * (M / 10) * 10 ^ zs.length := by
  rw [Int.mul_comm (10 ^ zs.length) 10, ← Int.mul_assoc, Int.mul_comm (M / 10) 10]
 omega
theorem FT.len {zs : List Int} {M N : Int} (h : FT zs M N) (h0 : 0 < M) (hN : N < 10 ^ 20) : zs.length < 20 := by
 obtain ⟨h1, h2, _⟩ := h
 have h3 := (Ax (by decide) h1).1
 have h4 := Int.mul_le_mul_of_nonneg_right (show (1 : Int) ≤ M by omega) (Int.le_of_lt (B9 (b := 10) (by decide) zs.length))
 exact pow_lt (b := 10) (by decide) (by omega)
theorem FT.num {zs : List Int} {N : Int} (h : FT zs 0 N) : Num 10 zs N := ⟨h.1, h.2.2 rfl, by have := h.2.1; omega⟩
theorem Hi {x k : Int} (h : x < 0) : x.tdiv k = -((-x) / k) := by
 rw [Go.tdiv_eq_if, if_neg (by omega)]
theorem Hj {x k : Int} (h : x < 0) : x.tmod k = -((-x) % k) := by
 rw [Go.tmod_eq_if, if_neg (by omega)]
theorem K8 (n : Int) (h0 : 0 ≤ n) (h1 : n ≤ 9223372036854775807) (w : World) :
  Calls Tryz.prog 33 #[.int .i64 n] w (Gives w fun r _ => r = .string (I n)) := by
 have HS := A8 (show sgn (decide (n < 0)) n = n by rw [decide_eq_false (by omega)]; rfl)
 go_enter Tryz.func33, Tryz.ntmps33
 go_wp2
 go_loopw [3, 4] (fun o m wr => ∃ (M : Int) (zs : List Int), m = .int .i64 M ∧ 0 ≤ M ∧ M ≤ 9223372036854775807 ∧ Hid (FT zs M n) ∧ zs.length ≤ 20 ∧ wr.ownsRow w.heap.size 3 1 o zs.length (zs.map (Value.int .i64)) ∧ Below w.heap.size w wr)
  (fun _ m _ => (intOf m).toNat)
 case atStart => exact ⟨n, [], rfl, h0, h1, FT.start n, by simp, World.ownsRow_nil _ _ _ _, Below.refl _ _⟩
 case round =>
  obtain ⟨M, zs, rfl, hM0, hM1, hF, hlen, hown, hB⟩ := hrel
  by_cases hz : M = 0
  ·subst hz
   have hsl := Sl.of_own hown
   have hnum := hF.out.num
   clear hown
   go_wp2_with fail
   refine (FF _ _ zs _ _ hsl hnum (by omega)).mono ?_
   rintro e w2 ⟨rfl, hb2⟩
   go_wp2
   go_ret
   exact ⟨⟨_, rfl, congrArg (fun z => Value.string ⟨(Lib.itoa z).toArray⟩) HS.out⟩, Ad hb2 hB (Aa _)⟩
  ·have hMp : 0 < M := by omega
   have hl20 := hF.out.len hMp (by omega)
   have HF := A8 (hF.out.next hMp)
   clear hlen
   go_wp2_with (at_builtin; refine AR (M % 10) 22 Tryz.underlying22 rfl _ _ rfl rfl rfl hown (by omega) hB.size ?_; intro g cp w2 hown2 hg2 hb2)
   go_roundw
   case rel => exact ⟨M / 10, zs ++ [M % 10], rfl, by omega, by omega, HF.out, (by rw [List.length_append]; simp; omega), (by rw [List.length_append]; exact hown2), hB.trans hb2⟩
   case measure => simp [intOf]; omega
theorem K9 (n : Int) (h0 : n < 0) (h1 : -9223372036854775808 ≤ n) (w : World) :
  Calls Tryz.prog 33 #[.int .i64 n] w (Gives w fun r _ => r = .string (I n)) := by
 have HS := A8 (show sgn true (-n) = n by show -(-n) = n; omega)
 go_enter Tryz.func33, Tryz.ntmps33
 go_wp2
 go_loopw [3, 4] (fun o m wr => ∃ (M : Int) (zs : List Int), m = .int .i64 M ∧ M ≤ 0 ∧ -9223372036854775808 ≤ M ∧ Hid (FT zs (-M) (-n)) ∧ zs.length ≤ 20 ∧ wr.ownsRow w.heap.size 3 1 o zs.length (zs.map (Value.int .i64)) ∧ Below w.heap.size w wr)
  (fun _ m _ => (-intOf m).toNat)
 case atStart => exact ⟨n, [], rfl, by omega, h1, FT.start (-n), by simp, World.ownsRow_nil _ _ _ _, Below.refl _ _⟩
 case round =>
  obtain ⟨M, zs, rfl, hM0, hM1, hF, hlen, hown, hB⟩ := hrel
  by_cases hz : M = 0
  ·subst hz
   have hsl := Sl.of_own hown
   have hnum := hF.out.num
   clear hown
   go_wp2_with fail
   refine (FF _ _ zs _ _ hsl hnum (by omega)).mono ?_
   rintro e w2 ⟨rfl, hb2⟩
   go_wp2
   go_ret
   exact ⟨⟨_, rfl, congrArg (fun z => Value.string ⟨(Lib.itoa z).toArray⟩) HS.out⟩, Ad hb2 hB (Aa _)⟩
  ·have hMp : 0 < -M := by omega
   have hl20 := hF.out.len hMp (by omega)
   have HF := A8 (hF.out.next hMp)
   have q1 : M.tdiv 10 = -((-M) / 10) := by rw [Hi (by omega)]
   have q2 : M.tmod 10 = -((-M) % 10) := by rw [Hj (by omega)]
   have Q1 := A8 q1
   have Q2 := A8 q2
   have d0 : -9 ≤ M.tmod 10 := by omega
   have d1 : M.tmod 10 ≤ 0 := by omega
   clear hlen q1 q2
   by_cases hd : M.tmod 10 < 0
   ·go_wp2_with (at_builtin; refine AR (-(M.tmod 10)) 22 Tryz.underlying22 rfl _ _ rfl rfl rfl hown (by omega) hB.size ?_; intro g cp w2 hown2 hg2 hb2)
    go_roundw
    case rel => exact ⟨M.tdiv 10, zs ++ [-(M.tmod 10)], rfl, by have := Q1.out; omega, by have := Q1.out; omega, (show FT _ _ _ by rw [Q1.out, Q2.out, Int.neg_neg, Int.neg_neg]; exact HF.out), (by rw [List.length_append]; simp; omega), (by rw [List.length_append]; exact hown2), hB.trans hb2⟩
    case measure => have := Q1.out; simp [intOf]; omega
   ·have hd0 : M.tmod 10 = 0 := by omega
    have HD0 := A8 hd0
    clear hd0
    go_wp2_with (at_builtin; refine AR (M.tmod 10) 22 Tryz.underlying22 rfl _ _ rfl rfl rfl hown (by omega) hB.size ?_; intro g cp w2 hown2 hg2 hb2)
    go_roundw
    case rel => exact ⟨M.tdiv 10, zs ++ [M.tmod 10], rfl, by have := Q1.out; omega, by have := Q1.out; omega, (show FT _ _ _ by
     have e : M.tmod 10 = -M % 10 := by have := Q2.out; have := HD0.out; omega
     rw [Q1.out, e, Int.neg_neg]; exact HF.out), (by rw [List.length_append]; simp; omega), (by rw [List.length_append]; exact hown2), hB.trans hb2⟩
    case measure => have := Q1.out; simp [intOf]; omega
theorem Ka (n : Int) (h0 : -9223372036854775808 ≤ n) (h1 : n ≤ 9223372036854775807) (w : World) :
  Calls Tryz.prog 33 #[.int .i64 n] w (Gives w fun r _ => r = .string (I n)) := by
 by_cases h : n < 0
 ·exact K9 n h h0 w
 ·exact K8 n (by omega) h1 w
end
end Go.Proofs.YtcmomjnailihpaaGreatDoor
/- The reference: ToInt. -/
namespace Go.Proofs.YtcmomjnailihpaaGreatDoor
section
open Go.RowKit
attribute [local go_sem] Oper.semAt_some
end
end Go.Proofs.YtcmomjnailihpaaGreatDoor
/- Fractions as texts: what stands for a fraction, and what the operations come to (no program of package rational). -/
namespace Go.Proofs.YtcmomjnailihpaaGreatDoor
section
open Go.RowKit
def rv (n d : ByteArray) : Rat := Rat.divInt (zS n) (zS d)
def SmallQ (r : Rat) : Prop := Small r.num ∧ Small (r.den : Int)
instance (r : Rat) : Decidable (SmallQ r) := inferInstanceAs (Decidable (_ ∧ _))
theorem Gn {x y : Int} (hy : 0 < y) : (Rat.divInt x y).num = x / gcdZ x y ∧ ((Rat.divInt x y).den : Int) = y / gcdZ x y := by
 have e : gcdZ x y = (y.gcd x : Int) := by unfold gcdZ; rw [Int.gcd_comm]
 rw [Rat.num_divInt, Rat.den_divInt, if_neg (by omega), e, Int.sign_eq_one_of_pos hy, Int.one_mul]
 refine ⟨rfl, ?_⟩
 rw [Int.natCast_ediv, Int.natAbs_of_nonneg (by omega)]
theorem Ei (r : Rat) : (0 : Int) < (r.den : Int) := by have := r.den_pos; omega
theorem FG {z : Int} (h : Small z) : Small (-z) := by unfold Small at *; omega
theorem FH {x y : Int} (h : Small x) : Small (x / y) := by
 have h1 := Int.natAbs_ediv_le_natAbs x y
 unfold Small at *; omega
theorem Cl {x y : Int} (hx : Small x) (hy : Small y) (h0 : 0 < y) : SmallQ (Rat.divInt x y) := by
 obtain ⟨e1, e2⟩ := Gn (x := x) h0
 unfold SmallQ
 rw [e1, e2]
 exact ⟨FH hx, FH hy⟩
theorem EL (x y : Int) : Rat.divInt (-x) (-y) = Rat.divInt x y := Rat.neg_divInt_neg x y
end
end Go.Proofs.YtcmomjnailihpaaGreatDoor
/- package rational: Valid. -/
namespace Go.Proofs.YtcmomjnailihpaaGreatDoor
section
open Go.RowKit
attribute [local go_sem] Oper.semAt_some
end
end Go.Proofs.YtcmomjnailihpaaGreatDoor
/- package rational: the steps of a calculation (work). -/
namespace Go.Proofs.YtcmomjnailihpaaGreatDoor
section
open Go.RowKit
attribute [local go_sem] Oper.semAt_some
end
end Go.Proofs.YtcmomjnailihpaaGreatDoor
/- package rational: reduced. -/
namespace Go.Proofs.YtcmomjnailihpaaGreatDoor
section
open Go.RowKit
attribute [local go_sem] Oper.semAt_some
theorem Blk.only {S : List Nat} {W W' : World} {B : Nat} {cs : Array Value} {t : TypeId} (h : Blk W B cs t) (ho : Only S W W') (hB : B ∉ S) : Blk W' B cs t := (ho.block B h.lt hB).trans h
theorem EM : Small 0 := by decide
end
end Go.Proofs.YtcmomjnailihpaaGreatDoor
/- package rational: check, Make, Of, Mul, Div. -/
namespace Go.Proofs.YtcmomjnailihpaaGreatDoor
section
open Go.RowKit
attribute [local go_sem] Oper.semAt_some
def RatsAt (W : World) (S : Nat) (l : List (ByteArray × ByteArray)) : Prop := ∀ (j : Nat) (h : j < l.length), W.cell? ⟨S, j * 2, none⟩ = some (.string (l[j]).1) ∧ W.cell? ⟨S, j * 2 + 1, none⟩ = some (.string (l[j]).2)
theorem RatsAt.only {B : List Nat} {W W' : World} {S : Nat} {l : List (ByteArray × ByteArray)} (h : RatsAt W S l) (ho : Only B W W') (hS : S < W.heap.size) (hB : S ∉ B) : RatsAt W' S l := fun j hj =>
 ⟨(ho.cell (p := ⟨S, j * 2, none⟩) hS hB).trans (h j hj).1, (ho.cell (p := ⟨S, j * 2 + 1, none⟩) hS hB).trans (h j hj).2⟩
end
end Go.Proofs.YtcmomjnailihpaaGreatDoor
/- package rational: Mul, Div. -/
namespace Go.Proofs.YtcmomjnailihpaaGreatDoor
section
open Go.RowKit
attribute [local go_sem] Oper.semAt_some
end
end Go.Proofs.YtcmomjnailihpaaGreatDoor
/- package rational: sum, Add, Sub. -/
namespace Go.Proofs.YtcmomjnailihpaaGreatDoor
section
open Go.RowKit
attribute [local go_sem] Oper.semAt_some
end
end Go.Proofs.YtcmomjnailihpaaGreatDoor
/- package rational: Compare. -/
namespace Go.Proofs.YtcmomjnailihpaaGreatDoor
section
open Go.RowKit
attribute [local go_sem] Oper.semAt_some
end
end Go.Proofs.YtcmomjnailihpaaGreatDoor
/- package rational: round, Down, Up. -/
namespace Go.Proofs.YtcmomjnailihpaaGreatDoor
section
open Go.RowKit
attribute [local go_sem] Oper.semAt_some
end
end Go.Proofs.YtcmomjnailihpaaGreatDoor
/- strings.Join of two texts with a stroke between them. -/
namespace Go.Proofs.YtcmomjnailihpaaGreatDoor
section
open Go.RowKit
attribute [local go_sem] Oper.semAt_some
end
end Go.Proofs.YtcmomjnailihpaaGreatDoor
/- package rational: Print, Parse. -/
namespace Go.Proofs.YtcmomjnailihpaaGreatDoor
section
open Go.RowKit
attribute [local go_sem] Oper.semAt_some
structure EnvQ (w : World) : Prop where
 env : Env w
 max : ∃ m, w.cell? ⟨3, 0, none⟩ = some (.int .i64 m)
theorem EnvQ.below {w w' : World} {B : Nat} (h : EnvQ w) (hb : Below B w w') (hB : w.heap.size ≤ B) : EnvQ w' := by
 obtain ⟨m, hm⟩ := h.max
 exact ⟨h.env.below hb hB, m, (hb.cell (p := ⟨3, 0, none⟩) (A9 (World.block_lt_of_cell? w _ hm) hB)).trans hm⟩
end
end Go.Proofs.YtcmomjnailihpaaGreatDoor
/- package rational: Parse. -/
namespace Go.Proofs.YtcmomjnailihpaaGreatDoor
section
open Go.RowKit
attribute [local go_sem] Oper.semAt_some
end
end Go.Proofs.YtcmomjnailihpaaGreatDoor
/- The plain wrap for a row that lists variables, the world's shape kept. -/
namespace Go.Proofs.YtcmomjnailihpaaGreatDoor
section
open Go.RowKit
section
variable {H : Type} {enc : TypeId × Value → H}
theorem BW {a : Assume} {C : Checked} {os : Os} {f : FuncId} {fn : Func} {s : ChangeSpec} {conds : List PathCond} {apart fresh handsOn again : Bool} {X : World → Array Value → Prop}
  (hX : ∀ (w w' : World) (args : Array Value), w.heap = w'.heap → X w args → X w' args)
  (own : ownKnob C.prog.godebug = none) (started : os.Started) (noInit : C.prog.inits.idxOf? f = none) (hfn : C.prog.funcs[f]? = some fn)
  (witness : ∃ (w : World) (tape : Tape) (i : Input), w.os = os ∧ (w.forCall tape i).Shaped C.prog ∧ i.vars = [] ∧ Input.okWide C.prog (w.forCall tape i) .any w.heap.size f i ∧
   ((s.pre enc C.prog fn conds apart (w.forCall tape i).memory i.args ∧ X (w.forCall tape i).memory i.args) ∧ sizedMet enc C.prog fn (OpenSpec.ofChange s) apart (w.forCall tape i).memory i.args) ∧ a.holds C.prog (lone (Frame.enter C.prog f i.args .normal) [] (w.forCall tape i)))
  (contract : ∀ (W : World) (base : Nat) (args : Array Value) (ds gs : List (DataW H)) (before : List MemPlace),
   (∀ (j : Nat) t v, fn.params[j]? = some t → args[j]? = some v → Value.okWide C.prog W .any base t v) →
   DataW.Whole enc C.prog fn.params.toList s.vars apart W args.toList ds gs before →
   conds.all (PathCond.test C.prog ⟨fn.params.toList, ds, s.plain.varTypes C.prog, gs⟩) = true →
   (DataW.weightsEach C.prog (fn.params.toList ++ s.plain.varTypes C.prog) (ds ++ gs)).all (· ≤ reachBytes) = true → X W args → W.ShapedOpen C.prog →
   a.holds C.prog (lone (Frame.enter C.prog f args .normal) [] W) →
   Calls C.prog f args W fun e W' => ∃ v, e = .returned v ∧ s.post enc C.prog fn apart fresh handsOn again W args v W') :
  ReturnsInHanded a C os f .any (fun w args => (s.pre enc C.prog fn conds apart w args ∧ X w args) ∧ sizedMet enc C.prog fn (OpenSpec.ofChange s) apart w args) (s.post enc C.prog fn apart fresh handsOn again) := by
 refine returnsInHanded_of_calls own started noInit witness ?_
 intro w tape i _ hsh _ hok hpre hholds
 obtain ⟨_, _, _, fn', hfn', _, _, _, _, hval⟩ := hok
 have e : fn' = fn := Option.some.inj (hfn'.symm.trans hfn)
 subst e
 obtain ⟨⟨⟨ds, gs, before, hw, hc⟩, hx⟩, hz⟩ := hpre
 have hw' := DataW.Whole.of_heap (w' := w.forCall tape i) (by rfl) hw
 refine (contract (w.forCall tape i) w.heap.size i.args ds gs before hval hw' hc (hz.weights hw) (hX _ _ _ (by rfl) hx) hsh hholds).mono fun e W' ⟨v, he, hp⟩ => ?_
 subst he
 exact ChangeSpec.post_blind hp
end
theorem Gp {W : World} (h : W.ShapedOpen Tryz.prog) : ∃ m, W.cell? ⟨3, 0, none⟩ = some (.int .i64 m) := Go.Proofs.cell_of_shapedOpen_int (zero := #[.int .i64 0]) (t := 3) h (of_decide_eq_true (by kernel_rfl)) (by kernel_rfl) rfl (by kernel_rfl) (by kernel_rfl) Tryz.underlying3
end
section
open Go.RowKit Go.Lib
theorem gPow : Tryz.prog.globalNamed "internal/strconv.uint64pow10" = some 2 := by kernel_rfl
theorem Fi {P : Program} {W : World} {name : String} {k : IntKind} {zs : List Int} {g : Nat} {t e : TypeId} {n : Nat}
  (hg : P.globalNamed name = some g) (hty : (P.globals[g]?).map (·.type) = some t) (ht : P.underlying t = some (.array n e)) (he : P.underlying e = some (.int k)) (hce : P.cellsOf e = 1) (hct : P.cellsOf t = n)
  (h : VarReads P W name (tabData k zs)) : TabIs P W name k zs := by
 obtain ⟨g', t', cs, fuel, p, hg', ht', hvar, hd⟩ := h
 obtain rfl := Option.some.inj (hg.symm.trans hg')
 obtain rfl := Option.some.inj (hty.symm.trans ht')
 unfold TabIs
 rw [hvar, ← cells_of_tab ht he hce hct hd]
theorem tPow : (Tryz.prog.globals[2]?).map (·.type) = some 167 := by kernel_rfl
theorem cPow : Tryz.prog.cellsOf 167 = 20 := by kernel_rfl
theorem GH {W : World} (h : VarReads Tryz.prog W "internal/strconv.uint64pow10" (tabData .u64 pow10Tab)) : Env W :=
 ⟨Fi gPow tPow Tryz.underlying167 Tryz.underlying71 (by kernel_rfl) cPow h⟩
theorem envQ_of {W : World} (h : VarReads Tryz.prog W "internal/strconv.uint64pow10" (tabData .u64 pow10Tab)) (hs : W.ShapedOpen Tryz.prog) : EnvQ W := ⟨GH h, Gp hs⟩
end
end Go.Proofs.YtcmomjnailihpaaGreatDoor
/- The reference for fractions: Valid, Make, Of. -/
namespace Go.Proofs.YtcmomjnailihpaaGreatDoor
section
open Go.RowKit
attribute [local go_sem] Oper.semAt_some
section
variable {x y : Int} {a b : ByteArray} (ha : a = I x) (hb : b = I y) (hx : Small x) (hy : Small y) (w : World)
include ha hb hx hy
end
end
end Go.Proofs.YtcmomjnailihpaaGreatDoor
/- package rational in terms of optional fractions: none is what an error returns. -/
namespace Go.Proofs.YtcmomjnailihpaaGreatDoor
section
open Go.RowKit
attribute [local go_sem] Oper.semAt_some
def OkO (o : Option Rat) : Prop := ∀ r, o = some r → SmallQ r
theorem OkO.none : OkO none := fun r h => by cases h
theorem OkO.some {r : Rat} (h : SmallQ r) : OkO (some r) := fun s e => by cases e; exact h
def oIf (c : Bool) (r : Rat) : Option Rat := if c then some r else none
theorem OkO.oIf {c : Bool} {r : Rat} (h : c = true → SmallQ r) : OkO (oIf c r) := by
 unfold Proofs.YtcmomjnailihpaaGreatDoor.oIf
 split
 ·exact OkO.some (h ‹_›)
 ·exact OkO.none
theorem IG (x y : Rat) : Rat.divInt (x.num * y.den + y.num * x.den) (x.den * y.den) = x + y := by
 rw [Rat.add_def', ← Rat.divInt_ofNat, Int.natCast_mul]
theorem IH (x y : Rat) : Rat.divInt (x.num * y.den - y.num * x.den) (x.den * y.den) = x - y := by
 rw [Rat.sub_def', ← Rat.divInt_ofNat, Int.natCast_mul]
theorem II (x y : Rat) : Rat.divInt (x.num * y.num) (x.den * y.den) = x * y := by
 rw [Rat.mul_def', ← Rat.divInt_ofNat, Int.natCast_mul]
def fAdd (x y : Rat) : Bool := decide (Small (x.num * y.den)) && decide (Small (y.num * x.den)) && decide (Small (x.num * y.den + y.num * x.den)) && decide (Small ((x.den : Int) * y.den))
def fSub (x y : Rat) : Bool := decide (Small (x.num * y.den)) && decide (Small (y.num * x.den)) && decide (Small (x.num * y.den - y.num * x.den)) && decide (Small ((x.den : Int) * y.den))
def fMul (x y : Rat) : Bool := decide (Small (x.num * y.num)) && decide (Small ((x.den : Int) * y.den))
def oBin (f : Rat → Rat → Bool) (g : Rat → Rat → Rat) (a b : Option Rat) : Option Rat := match a, b with
 | some x, some y => oIf (f x y) (g x y)
 | _, _ => none
def oAdd := oBin fAdd (· + ·)
def oSub := oBin fSub (· - ·)
def oMul := oBin fMul (· * ·)
theorem CJ {x y : Rat} {n : Int} (h : Small n) (hd : Small ((x.den : Int) * y.den)) : SmallQ (Rat.divInt n (x.den * y.den)) :=
 Cl h hd (Int.mul_pos (Ei x) (Ei y))
theorem OkO.add {a b : Option Rat} : OkO (oAdd a b) := by
 cases a with
 | none => exact OkO.none
 | some x => cases b with
  | none => exact OkO.none
  | some y =>
   refine OkO.oIf fun e => ?_
   unfold fAdd at e
   simp at e
   show SmallQ (x + y)
   rw [← IG]
   exact CJ e.1.2 e.2
theorem OkO.sub {a b : Option Rat} : OkO (oSub a b) := by
 cases a with
 | none => exact OkO.none
 | some x => cases b with
  | none => exact OkO.none
  | some y =>
   refine OkO.oIf fun e => ?_
   unfold fSub at e
   simp at e
   show SmallQ (x - y)
   rw [← IH]
   exact CJ e.1.2 e.2
theorem OkO.mul {a b : Option Rat} : OkO (oMul a b) := by
 cases a with
 | none => exact OkO.none
 | some x => cases b with
  | none => exact OkO.none
  | some y =>
   refine OkO.oIf fun e => ?_
   unfold fMul at e
   simp at e
   show SmallQ (x * y)
   rw [← II]
   exact CJ e.1 e.2
section
variable {a b : Option Rat} (ha : OkO a) (hb : OkO b) (w : World) (hE : Env w)
include ha hb hE
end
def oOf (n d : Int) : Option Rat := oIf (decide (d ≠ 0)) (Rat.divInt n d)
theorem Kd {n d : Int} (hn : Small n) (hd : Small d) (h0 : d ≠ 0) : SmallQ (Rat.divInt n d) := by
 rcases Int.lt_or_gt_of_ne h0 with h | h
 ·rw [← EL]; exact Cl (FG hn) (FG hd) (by omega)
 ·exact Cl hn hd h
theorem OkO.of {n d : Int} (hn : Small n) (hd : Small d) : OkO (oOf n d) := OkO.oIf fun e => Kd hn hd (by simpa using e)
end
end Go.Proofs.YtcmomjnailihpaaGreatDoor
/- pick: an arbitrary integer as an index. -/
namespace Go.Proofs.YtcmomjnailihpaaGreatDoor
section
open Go.RowKit
attribute [local go_sem] Oper.semAt_some
def pkv (c m : Int) : Int := (if c < 0 then -(c + 1) else c) % m
theorem AF {c m : Int} (h : 0 < m) : 0 ≤ pkv c m := Int.emod_nonneg _ (by omega)
theorem Cm {c m : Int} (h : 0 < m) : pkv c m < m := Int.emod_lt_of_pos _ h
structure BL (w : World) (L : List (Nat × Array Value × TypeId)) (W : World) : Prop where
 below : Below w.heap.size w W
 blks : ∀ p ∈ L, Blk W p.1 p.2.1 p.2.2
abbrev BLs := List (Nat × Array Value × TypeId)
theorem BL.start (w : World) : BL w [] w := ⟨Below.refl _ _, fun p h => by cases h⟩
theorem BL.call {w W W' : World} {L : BLs} (h : BL w L W) (hb : Below W.heap.size W W') : BL w L W' :=
 ⟨Ad hb h.below (Aa _), fun p hp => (h.blks p hp).below hb⟩
theorem BL.drew {w W : World} {L : BLs} (h : BL w L W) : BL w L W.drew := h.call (Ac W 1)
theorem BL.drewN {w W : World} {L : BLs} (h : BL w L W) (n : Nat) : BL w L (W.drewN n) := h.call (Ac W n)
theorem BL.new {w W : World} {L : BLs} (h : BL w L W) (o : Obj) : BL w L (W.alloc o) := h.call ((Below.refl _ _).alloc (Aa _) o)
theorem BL.add {w W : World} {L : BLs} (h : BL w L W) (cs : Array Value) (t : TypeId) : BL w ((W.heap.size, cs, t) :: L) (W.alloc (.cells cs t)) := by
 refine ⟨(h.new _).below, fun p hp => ?_⟩
 rcases List.mem_cons.1 hp with rfl | hp
 ·exact Blk.new _ _ _
 ·exact (h.new _).blks p hp
theorem BL.add' {w W : World} {L : BLs} (h : BL w L W) (cs : Array Value) (t : TypeId) : ∃ W', W' = W.alloc (.cells cs t) ∧ BL w ((W.heap.size, cs, t) :: L) W' ∧ W'.heap.size = W.heap.size + 1 :=
 ⟨_, rfl, h.add cs t, World.size_alloc _ _⟩
theorem BL.lts {w W : World} {L : BLs} (h : BL w L W) : ∀ p ∈ L, p.1 < W.heap.size := fun p hp => (h.blks p hp).lt
theorem BL.drop {w W : World} {L M : BLs} (h : BL w L W) (hm : ∀ p ∈ M, p ∈ L) : BL w M W := ⟨h.below, fun p hp => h.blks p (hm p hp)⟩
theorem BL.cell {w W : World} {L : BLs} (h : BL w L W) (B : Nat) (cs : Array Value) (t : TypeId) (hm : (B, cs, t) ∈ L) (i : Nat) : W.cell? ⟨B, i, none⟩ = cs[i]? := (h.blks _ hm).cell i
theorem BL.frozen {w W : World} {L : BLs} (h : BL w L W) (B : Nat) (cs : Array Value) (t : TypeId) (hm : (B, cs, t) ∈ L) (i : Nat) : W.frozen? ⟨B, i, none⟩ = false := (h.blks _ hm).frozen i
theorem BL.c1 {w W : World} {L : BLs} (h : BL w L W) (B : Nat) (a : Value) (t : TypeId) (hm : (B, #[a], t) ∈ L) : W.cell? ⟨B, 0, none⟩ = some a := h.cell B _ t hm 0
theorem BL.c2 {w W : World} {L : BLs} (h : BL w L W) (B : Nat) (a b : Value) (t : TypeId) (hm : (B, #[a, b], t) ∈ L) : W.cell? ⟨B, 0, none⟩ = some a ∧ W.cell? ⟨B, 1, none⟩ = some b := ⟨h.cell B _ t hm 0, h.cell B _ t hm 1⟩
theorem BL.c4 {w W : World} {L : BLs} (h : BL w L W) (B : Nat) (a b c d : Value) (t : TypeId) (hm : (B, #[a, b, c, d], t) ∈ L) : W.cell? ⟨B, 0, none⟩ = some a ∧ W.cell? ⟨B, 1, none⟩ = some b ∧ W.cell? ⟨B, 2, none⟩ = some c ∧ W.cell? ⟨B, 3, none⟩ = some d :=
 ⟨h.cell B _ t hm 0, h.cell B _ t hm 1, h.cell B _ t hm 2, h.cell B _ t hm 3⟩
theorem BL.c8 {w W : World} {L : BLs} (h : BL w L W) (B : Nat) (a b c d e f g k : Value) (t : TypeId) (hm : (B, #[a, b, c, d, e, f, g, k], t) ∈ L) : W.cell? ⟨B, 0, none⟩ = some a ∧ W.cell? ⟨B, 1, none⟩ = some b ∧ W.cell? ⟨B, 2, none⟩ = some c ∧ W.cell? ⟨B, 3, none⟩ = some d ∧
  W.cell? ⟨B, 4, none⟩ = some e ∧ W.cell? ⟨B, 5, none⟩ = some f ∧ W.cell? ⟨B, 6, none⟩ = some g ∧ W.cell? ⟨B, 7, none⟩ = some k :=
 ⟨h.cell B _ t hm 0, h.cell B _ t hm 1, h.cell B _ t hm 2, h.cell B _ t hm 3, h.cell B _ t hm 4, h.cell B _ t hm 5, h.cell B _ t hm 6, h.cell B _ t hm 7⟩
theorem BL.only {w W W' : World} {L : BLs} {S : List Nat} (h : BL w L W) (ho : Only S W W') (hS : ∀ k ∈ S, w.heap.size ≤ k) (hL : ∀ p ∈ L, p.1 ∉ S) : BL w L W' :=
 ⟨h.below.trans (ho.toBelow h.below.size hS), fun p hp => (h.blks p hp).only ho (hL p hp)⟩
theorem BL.env {w W : World} {L : BLs} (h : BL w L W) (hE : Env w) : Env W := hE.below h.below (Aa _)
def BQ (k : Nat) (r : Rat) : Prop := Bd k r.num ∧ Bd k (r.den : Int)
theorem BQ.small {k : Nat} {r : Rat} (h : BQ k r) (hk : k ≤ 200) : SmallQ r := ⟨h.1.small hk, h.2.small hk⟩
theorem BQ.ok {k : Nat} {r : Rat} (h : BQ k r) (hk : k ≤ 200) : OkO (some r) := OkO.some (h.small hk)
theorem BQ.mono {j k : Nat} {r : Rat} (h : BQ j r) (hk : j ≤ k) : BQ k r := ⟨h.1.mono hk, h.2.mono hk⟩
end
section
open Go.RowKit
structure Asc (w : World) (L : BLs) : Prop where
 ge : ∀ p ∈ L, w.heap.size ≤ p.1
 asc : L.Pairwise (fun p q => q.1 < p.1)
theorem Asc.nil (w : World) : Asc w [] := ⟨(fun p hp => by cases hp), List.Pairwise.nil⟩
theorem Asc.add {w W : World} {L : BLs} (h : Asc w L) (hS : BL w L W) (cs : Array Value) (t : TypeId) : Asc w ((W.heap.size, cs, t) :: L) :=
 ⟨fun p hp => by
  rcases List.mem_cons.1 hp with rfl | hp
  ·exact hS.below.size
  ·exact h.ge p hp, List.pairwise_cons.2 ⟨fun p hp => hS.lts p hp, h.asc⟩⟩
theorem Asc.put {w : World} {A C : BLs} {B : Nat} {cs ds : Array Value} {t : TypeId} (h : Asc w (A ++ (B, cs, t) :: C)) : Asc w (A ++ (B, ds, t) :: C) := by
 refine ⟨fun p hp => ?_, ?_⟩
 ·rcases List.mem_append.1 hp with h1 | h1
  ·exact h.ge p (List.mem_append_left _ h1)
  ·rcases List.mem_cons.1 h1 with rfl | h1
   ·exact h.ge (B, cs, t) (List.mem_append_right _ List.mem_cons_self)
   ·exact h.ge p (List.mem_append_right _ (List.mem_cons_of_mem _ h1))
 ·have h2 := List.pairwise_append.1 h.asc
  refine List.pairwise_append.2 ⟨h2.1, List.pairwise_cons.2 (List.pairwise_cons.1 h2.2.1), fun p hp q hq => ?_⟩
  rcases List.mem_cons.1 hq with rfl | hq
  ·exact h2.2.2 p hp (B, cs, t) List.mem_cons_self
  ·exact h2.2.2 p hp q (List.mem_cons_of_mem _ hq)
theorem Asc.ne {w : World} {A C : BLs} {B : Nat} {cs : Array Value} {t : TypeId} (h : Asc w (A ++ (B, cs, t) :: C)) : ∀ p ∈ A ++ C, p.1 ≠ B := by
 intro p hp
 have h2 := List.pairwise_append.1 h.asc
 rcases List.mem_append.1 hp with h1 | h1
 ·have : B < p.1 := h2.2.2 p h1 (B, cs, t) List.mem_cons_self
  omega
 ·have : p.1 < B := (List.pairwise_cons.1 h2.2.1).1 p h1
  omega
theorem Asc.base {w : World} {A C : BLs} {B : Nat} {cs : Array Value} {t : TypeId} (h : Asc w (A ++ (B, cs, t) :: C)) : w.heap.size ≤ B := h.ge (B, cs, t) (List.mem_append_right _ List.mem_cons_self)
theorem BL.put {w W : World} {A C : BLs} {B : Nat} {a b : Value} {t : TypeId} (hO : Asc w (A ++ (B, #[a, b], t) :: C)) (h : BL w (A ++ (B, #[a, b], t) :: C) W) (x y : Value) :
  BL w (A ++ (B, #[x, y], t) :: C) ((W.setCell ⟨B, 0, none⟩ x).setCell ⟨B, 1, none⟩ y) := by
 have ho : Only [B] W ((W.setCell ⟨B, 0, none⟩ x).setCell ⟨B, 1, none⟩ y) := ((Only.refl [B] W).setCell (p := ⟨B, 0, none⟩) (by simp) x).setCell (p := ⟨B, 1, none⟩) (by simp) y
 have h1 := (h.drop (M := A ++ C) (fun p hp => by
  rcases List.mem_append.1 hp with h1 | h1
  ·exact List.mem_append_left _ h1
  ·exact List.mem_append_right _ (List.mem_cons_of_mem _ h1))).only ho (by simpa using hO.base) (fun p hp => by simpa using hO.ne p hp)
 refine ⟨h1.below, fun p hp => ?_⟩
 rcases List.mem_append.1 hp with h2 | h2
 ·exact h1.blks p (List.mem_append_left _ h2)
 ·rcases List.mem_cons.1 h2 with rfl | h2
  ·exact ((h.blks (B, #[a, b], t) (List.mem_append_right _ List.mem_cons_self)).set 0 x).set 1 y
  ·exact h1.blks p (List.mem_append_right _ h2)
theorem BL.putc {w W : World} {A C : BLs} {B : Nat} {cs : Array Value} {t : TypeId} (hO : Asc w (A ++ (B, cs, t) :: C)) (h : BL w (A ++ (B, cs, t) :: C) W) (i : Nat) (x : Value) :
  BL w (A ++ (B, cs.setIfInBounds i x, t) :: C) (W.setCell ⟨B, i, none⟩ x) := by
 have ho : Only [B] W (W.setCell ⟨B, i, none⟩ x) := (Only.refl [B] W).setCell (p := ⟨B, i, none⟩) (by simp) x
 have h1 := (h.drop (M := A ++ C) (fun p hp => by
  rcases List.mem_append.1 hp with h1 | h1
  ·exact List.mem_append_left _ h1
  ·exact List.mem_append_right _ (List.mem_cons_of_mem _ h1))).only ho (by simpa using hO.base) (fun p hp => by simpa using hO.ne p hp)
 refine ⟨h1.below, fun p hp => ?_⟩
 rcases List.mem_append.1 hp with h2 | h2
 ·exact h1.blks p (List.mem_append_left _ h2)
 ·rcases List.mem_cons.1 h2 with rfl | h2
  ·exact (h.blks (B, cs, t) (List.mem_append_right _ List.mem_cons_self)).set i x
  ·exact h1.blks p (List.mem_append_right _ h2)
end
section
open Go.RowKit
open LnM (wd upd)
attribute [local go_sem] Oper.semAt_some
abbrev wc (f : Nat → Int) : Array Value := #[.int .u64 (f 0), .int .u64 (f 1), .int .u64 (f 2), .int .u64 (f 3), .int .u64 (f 4), .int .u64 (f 5), .int .u64 (f 6), .int .u64 (f 7), .int .u64 (f 8), .int .u64 (f 9), .int .u64 (f 10), .int .u64 (f 11)]
theorem B7 (f : Nat → Int) {i : Nat} (h : i < 12) : (wc f)[i]? = some (.int .u64 (f i)) := by
 match i, h with
 | 0, _ => rfl
 | 1, _ => rfl
 | 2, _ => rfl
 | 3, _ => rfl
 | 4, _ => rfl
 | 5, _ => rfl
 | 6, _ => rfl
 | 7, _ => rfl
 | 8, _ => rfl
 | 9, _ => rfl
 | 10, _ => rfl
 | 11, _ => rfl
theorem AN (f : Nat → Int) {i : Nat} (h : i < 12) (v : Int) : (wc f).setIfInBounds i (.int .u64 v) = wc (upd f i v) := by
 match i, h with
 | 0, _ => rfl
 | 1, _ => rfl
 | 2, _ => rfl
 | 3, _ => rfl
 | 4, _ => rfl
 | 5, _ => rfl
 | 6, _ => rfl
 | 7, _ => rfl
 | 8, _ => rfl
 | 9, _ => rfl
 | 10, _ => rfl
 | 11, _ => rfl
theorem Ay {f g : Nat → Int} (h : ∀ i, i < 12 → f i = g i) : wc f = wc g := by
 unfold wc
 rw [h 0 (by decide), h 1 (by decide), h 2 (by decide), h 3 (by decide), h 4 (by decide), h 5 (by decide), h 6 (by decide), h 7 (by decide), h 8 (by decide), h 9 (by decide), h 10 (by decide), h 11 (by decide)]
theorem Ak {W : World} {B : Nat} {f : Nat → Int} {t : TypeId} (h : Blk W B (wc f) t) : W.cell? ⟨B, 0, none⟩ = some (.int .u64 (f 0)) ∧ W.cell? ⟨B, 1, none⟩ = some (.int .u64 (f 1)) ∧ W.cell? ⟨B, 2, none⟩ = some (.int .u64 (f 2)) ∧ W.cell? ⟨B, 3, none⟩ = some (.int .u64 (f 3)) ∧ W.cell? ⟨B, 4, none⟩ = some (.int .u64 (f 4)) ∧ W.cell? ⟨B, 5, none⟩ = some (.int .u64 (f 5)) ∧ W.cell? ⟨B, 6, none⟩ = some (.int .u64 (f 6)) ∧ W.cell? ⟨B, 7, none⟩ = some (.int .u64 (f 7)) ∧ W.cell? ⟨B, 8, none⟩ = some (.int .u64 (f 8)) ∧ W.cell? ⟨B, 9, none⟩ = some (.int .u64 (f 9)) ∧ W.cell? ⟨B, 10, none⟩ = some (.int .u64 (f 10)) ∧ W.cell? ⟨B, 11, none⟩ = some (.int .u64 (f 11)) := ⟨h.cell 0, h.cell 1, h.cell 2, h.cell 3, h.cell 4, h.cell 5, h.cell 6, h.cell 7, h.cell 8, h.cell 9, h.cell 10, h.cell 11⟩
theorem B3 {W : World} {B : Nat} {f : Nat → Int} {t : TypeId} (h : Blk W B (wc f) t) : W.frozen? ⟨B, 0, none⟩ = false ∧ W.frozen? ⟨B, 1, none⟩ = false ∧ W.frozen? ⟨B, 2, none⟩ = false ∧ W.frozen? ⟨B, 3, none⟩ = false ∧ W.frozen? ⟨B, 4, none⟩ = false ∧ W.frozen? ⟨B, 5, none⟩ = false ∧ W.frozen? ⟨B, 6, none⟩ = false ∧ W.frozen? ⟨B, 7, none⟩ = false ∧ W.frozen? ⟨B, 8, none⟩ = false ∧ W.frozen? ⟨B, 9, none⟩ = false ∧ W.frozen? ⟨B, 10, none⟩ = false ∧ W.frozen? ⟨B, 11, none⟩ = false := ⟨h.frozen 0, h.frozen 1, h.frozen 2, h.frozen 3, h.frozen 4, h.frozen 5, h.frozen 6, h.frozen 7, h.frozen 8, h.frozen 9, h.frozen 10, h.frozen 11⟩
abbrev st12 (W : World) (R : Nat) (f : Nat → Int) : World := ((((((((((((W.setCell ⟨R, 0, none⟩ (.int .u64 (f 0))).setCell ⟨R, 1, none⟩ (.int .u64 (f 1))).setCell ⟨R, 2, none⟩ (.int .u64 (f 2))).setCell ⟨R, 3, none⟩ (.int .u64 (f 3))).setCell ⟨R, 4, none⟩ (.int .u64 (f 4))).setCell ⟨R, 5, none⟩ (.int .u64 (f 5))).setCell ⟨R, 6, none⟩ (.int .u64 (f 6))).setCell ⟨R, 7, none⟩ (.int .u64 (f 7))).setCell ⟨R, 8, none⟩ (.int .u64 (f 8))).setCell ⟨R, 9, none⟩ (.int .u64 (f 9))).setCell ⟨R, 10, none⟩ (.int .u64 (f 10))).setCell ⟨R, 11, none⟩ (.int .u64 (f 11)))
theorem AV {W : World} {R : Nat} {f g : Nat → Int} {t : TypeId} (h : Blk W R (wc g) t) : Blk (st12 W R f) R (wc f) t := by
 have h0 := h.set 0 (.int .u64 (f 0))
 rw [AN _ (by decide)] at h0
 have h1 := h0.set 1 (.int .u64 (f 1))
 rw [AN _ (by decide)] at h1
 have h2 := h1.set 2 (.int .u64 (f 2))
 rw [AN _ (by decide)] at h2
 have h3 := h2.set 3 (.int .u64 (f 3))
 rw [AN _ (by decide)] at h3
 have h4 := h3.set 4 (.int .u64 (f 4))
 rw [AN _ (by decide)] at h4
 have h5 := h4.set 5 (.int .u64 (f 5))
 rw [AN _ (by decide)] at h5
 have h6 := h5.set 6 (.int .u64 (f 6))
 rw [AN _ (by decide)] at h6
 have h7 := h6.set 7 (.int .u64 (f 7))
 rw [AN _ (by decide)] at h7
 have h8 := h7.set 8 (.int .u64 (f 8))
 rw [AN _ (by decide)] at h8
 have h9 := h8.set 9 (.int .u64 (f 9))
 rw [AN _ (by decide)] at h9
 have h10 := h9.set 10 (.int .u64 (f 10))
 rw [AN _ (by decide)] at h10
 have h11 := h10.set 11 (.int .u64 (f 11))
 rw [AN _ (by decide)] at h11
 have e : wc (upd (upd (upd (upd (upd (upd (upd (upd (upd (upd (upd (upd g 0 (f 0)) 1 (f 1)) 2 (f 2)) 3 (f 3)) 4 (f 4)) 5 (f 5)) 6 (f 6)) 7 (f 7)) 8 (f 8)) 9 (f 9)) 10 (f 10)) 11 (f 11)) = wc f := Ay fun i hi => by
  match i, hi with
  | 0, _ => simp [upd]
  | 1, _ => simp [upd]
  | 2, _ => simp [upd]
  | 3, _ => simp [upd]
  | 4, _ => simp [upd]
  | 5, _ => simp [upd]
  | 6, _ => simp [upd]
  | 7, _ => simp [upd]
  | 8, _ => simp [upd]
  | 9, _ => simp [upd]
  | 10, _ => simp [upd]
  | 11, _ => simp [upd]
 rw [e] at h11
 exact h11
theorem C8 {V W : World} {R : Nat} {f : Nat → Int} (h : Below V.heap.size V W) (hR : V.heap.size ≤ R) : Below V.heap.size V (st12 W R f) :=
 h.setCell (p := ⟨R, 0, none⟩) hR _ |>.setCell (p := ⟨R, 1, none⟩) hR _ |>.setCell (p := ⟨R, 2, none⟩) hR _ |>.setCell (p := ⟨R, 3, none⟩) hR _ |>.setCell (p := ⟨R, 4, none⟩) hR _ |>.setCell (p := ⟨R, 5, none⟩) hR _ |>.setCell (p := ⟨R, 6, none⟩) hR _ |>.setCell (p := ⟨R, 7, none⟩) hR _ |>.setCell (p := ⟨R, 8, none⟩) hR _ |>.setCell (p := ⟨R, 9, none⟩) hR _ |>.setCell (p := ⟨R, 10, none⟩) hR _ |>.setCell (p := ⟨R, 11, none⟩) hR _
theorem DF (f : Nat → Int) (w : World) :
  Calls Tryz.prog 76 #[.agg (wc f)] w (Rets w (.bool (f 11 / 9223372036854775808 == 1))) := by
 go_enter Tryz.func76, Tryz.ntmps76
 go_wp2
 go_ret
 exact ⟨rfl, (Below.refl _ _).alloc (Aa _) _⟩
theorem Ll {n : Int} (hn : Fits n) {j : Nat} (hj : 1 ≤ j) : wd n j = if n < 0 then 18446744073709551615 else 0 := by
 obtain ⟨k, rfl⟩ : ∃ k, j = k + 1 := ⟨j - 1, by omega⟩
 unfold wd
 have hp : (18446744073709551616 : Int) ≤ LnM.P (k + 1) := by
  show _ ≤ (18446744073709551616 : Int) * LnM.P k
  have := LnM.P_pos k
  omega
 unfold Fits at hn
 by_cases h : n < 0
 ·rw [if_pos h]
  have : n / LnM.P (k + 1) = -1 := by
   refine Int.le_antisymm (Int.lt_add_one_iff.1 (Int.ediv_lt_of_lt_mul (LnM.P_pos _) (by omega))) (Int.le_ediv_of_mul_le (LnM.P_pos _) (by omega))
  rw [this]; decide
 ·rw [if_neg h]
  have : n / LnM.P (k + 1) = 0 := Int.ediv_eq_zero_of_lt (by omega) (by omega)
  rw [this]; decide
theorem Lm (n : Int) : wd n 0 = n % 18446744073709551616 := by unfold wd LnM.P; rw [Int.ediv_one]
theorem DG (n : Int) (hn : Fits n) (w : World) :
  Calls Tryz.prog 75 #[.int .i64 n] w (Rets w (.agg (wc (wd n)))) := by
 obtain ⟨z, hz⟩ : ∃ z : Int, z = if n < 0 then 18446744073709551615 else 0 := ⟨_, rfl⟩
 have hz1 : IntKind.u64.wrap (n / 9223372036854775808) = z := by rw [IntKind.wrap_u64]; unfold Fits at hn; rw [hz]; split <;> omega
 have hz0 : IntKind.u64.wrap n = wd n 0 := by rw [IntKind.wrap_u64, Lm]
 have hfin : wc (upd (fun j => if j < 12 then z else 0) 0 (wd n 0)) = wc (wd n) := Ay fun i hi => by
  unfold upd
  by_cases h : i = 0
  ·subst h; simp
  ·simp [h, hi]; rw [Ll hn (by omega), hz]
 clear hn
 obtain ⟨V1, ev1, S1, zv1⟩ := (BL.start w).add' (wc (fun _ => 0)) 73
 obtain ⟨V2, ev2, S2, zv2⟩ := S1.add' (wc (fun _ => 0)) 73
 rw [zv1] at S2
 have hV : V2 = (w.alloc (.cells (wc (fun _ => 0)) 73)).alloc (.cells (wc (fun _ => 0)) 73) := by rw [ev2, ev1]
 have hS : BL w [(w.heap.size + 1, wc (fun j => if j < 0 then z else 0), 73), (w.heap.size, wc (fun _ => 0), 73)] V2 := S2
 have hO : ∀ f : Nat → Int, Asc w [(w.heap.size + 1, wc f, 73), (w.heap.size, wc (fun _ => 0), 73)] := fun f => ⟨by simp, by simp⟩
 clear ev1 ev2 zv1 zv2 S1 S2
 go_enter Tryz.func75, Tryz.ntmps75
 go_wp2_with fail
 rw [← hV]
 clear hV
 go_loopw [5] (fun o wr => ∃ i : Nat, o = .int .i64 i ∧ i ≤ 12 ∧ BL w [(w.heap.size + 1, wc (fun j => if j < i then z else 0), 73), (w.heap.size, wc (fun _ => 0), 73)] wr) (fun o _ => 12 - (intOf o).toNat)
 case atStart => exact ⟨0, rfl, by omega, hS⟩
 case round =>
  clear hS
  obtain ⟨i, rfl, hi, hS⟩ := hrel
  by_cases hlt : i < 12
  ·have hlt' : (i : Int) < 12 := by omega
   have c0 := (hS.cell (w.heap.size + 1) _ _ (.head _) i).trans (B7 _ hlt)
   have c1 := hS.frozen (w.heap.size + 1) _ _ (.head _) i
   have hS2 := BL.putc (A := []) (hO _) hS i (.int .u64 z)
   rw [AN _ hlt] at hS2
   have e : wc (upd (fun j => if j < i then z else 0) i z) = wc (fun j => if j < i + 1 then z else 0) := Ay fun j hj => by
    unfold upd
    by_cases h : j = i
    ·subst h; simp
    ·by_cases h2 : j < i
     ·simp [h, h2, show j < i + 1 by omega]
     ·simp [h, h2, show ¬ j < i + 1 by omega]
   rw [e] at hS2
   clear hS e hz hfin
   go_wp2_with fail
   go_roundw
   case rel => exact ⟨i + 1, by go_num, by omega, hS2⟩
   case measure => simp [intOf]; omega
  ·obtain rfl : i = 12 := by omega
   have c0 := (hS.cell (w.heap.size + 1) _ _ (.head _) 0).trans (B7 _ (by decide))
   have c1 := hS.frozen (w.heap.size + 1) _ _ (.head _) 0
   have hS2 := BL.putc (A := []) (hO _) hS 0 (.int .u64 (wd n 0))
   rw [AN _ (by decide)] at hS2
   rw [show wc (upd (fun j => if j < 12 then z else 0) 0 (wd n 0)) = wc (wd n) from hfin] at hS2
   clear hfin hz
   generalize wd n = f at *
   go_upto_region 8 with fail
   obtain ⟨W, hW⟩ : ∃ W, W = wr.setCell ⟨w.heap.size + 1, 0, none⟩ (.int .u64 (f 0)) := ⟨_, rfl⟩
   rw [← hW] at hS2 ⊢
   clear hS hW c0 c1
   rw [List.nil_append] at hS2
   obtain ⟨k0, k1, k2, k3, k4, k5, k6, k7, k8, k9, k10, k11⟩ := Ak (show Blk W (w.heap.size + 1) (wc f) 73 from hS2.blks (w.heap.size + 1, wc f, 73) (.head _))
   have hR : Blk W w.heap.size (wc (fun _ => 0)) 73 := hS2.blks (w.heap.size, wc (fun _ => 0), 73) (.tail _ (.head _))
   obtain ⟨r0, r1, r2, r3, r4, r5, r6, r7, r8, r9, r10, r11⟩ := Ak hR
   obtain ⟨q0, q1, q2, q3, q4, q5, q6, q7, q8, q9, q10, q11⟩ := B3 hR
   obtain ⟨y0, y1, y2, y3, y4, y5, y6, y7, y8, y9, y10, y11⟩ := Ak (AV (f := f) hR)
   have hfin := A8 (C8 (f := f) hS2.below (Aa w.heap.size))
   clear hR hS2 hO
   dsimp only [st12] at y0 y1 y2 y3 y4 y5 y6 y7 y8 y9 y10 y11 hfin
   go_wp2
   exact bodyPost_ret (v := .agg (wc f)) (by simp [results, Tryz.results75, go_sem, y0, y1, y2, y3, y4, y5, y6, y7, y8, y9, y10, y11]) rfl ⟨rfl, hfin.out⟩
end
section
open Go.RowKit
theorem CN {B : Nat} {t : TypeId} : ∀ (vs : List Value) (o : Nat) {W : World} {cs : Array Value}, Blk W B cs t → ∃ ds, Blk (W.setCells B o vs) B ds t ∧ ds.size = cs.size ∧ ∀ j, j < cs.size → ds[j]? = if o ≤ j ∧ j < o + vs.length then vs[j - o]? else cs[j]?
 | [], o, W, cs, h => ⟨cs, h, rfl, fun j _ => by rw [if_neg (by simp)]⟩
 | v :: vs, o, W, cs, h => by
  obtain ⟨ds, h1, h2, h3⟩ := CN vs (o + 1) (h.set o v)
  rw [Array.size_setIfInBounds] at h2 h3
  refine ⟨ds, h1, h2, fun j hj => ?_⟩
  rw [h3 j hj]
  by_cases e : j = o
  ·subst e
   rw [if_neg (by omega), if_pos ⟨Aa _, by simp⟩, Nat.sub_self, Array.getElem?_setIfInBounds_self_of_lt hj]
   rfl
  ·by_cases c : o + 1 ≤ j ∧ j < o + 1 + vs.length
   ·rw [if_pos c, if_pos ⟨by omega, by rw [List.length_cons]; omega⟩]
    obtain ⟨k, rfl⟩ : ∃ k, j = o + 1 + k := ⟨j - (o + 1), by omega⟩
    rw [show o + 1 + k - (o + 1) = k by omega, show o + 1 + k - o = k + 1 by omega, List.getElem?_cons_succ]
   ·rw [if_neg c, if_neg (by rw [List.length_cons]; omega), Array.getElem?_setIfInBounds_ne (by omega)]
theorem Af {B : Nat} : ∀ (vs : List Value) (o : Nat) (W : World), Only [B] W (W.setCells B o vs)
 | [], _, W => Only.refl _ W
 | v :: vs, o, W => ((Only.refl [B] W).setCell (p := ⟨B, o, none⟩) (by simp) v).trans (Af vs (o + 1) _)
theorem BL.row {w W : World} {A C : BLs} {B : Nat} {cs ds : Array Value} {t : TypeId} (hO : Asc w (A ++ (B, cs, t) :: C)) (h : BL w (A ++ (B, cs, t) :: C) W) (o : Nat) (vs : List Value)
  (hs : ds.size = cs.size) (hd : ∀ j, j < cs.size → ds[j]? = if o ≤ j ∧ j < o + vs.length then vs[j - o]? else cs[j]?) :
  BL w (A ++ (B, ds, t) :: C) (W.setCells B o vs) := by
 have h1 := (h.drop (M := A ++ C) (fun p hp => by
  rcases List.mem_append.1 hp with h1 | h1
  ·exact List.mem_append_left _ h1
  ·exact List.mem_append_right _ (List.mem_cons_of_mem _ h1))).only (Af vs o W) (by simpa using hO.base) (fun p hp => by simpa using hO.ne p hp)
 obtain ⟨es, b1, b2, b3⟩ := CN vs o (h.blks (B, cs, t) (List.mem_append_right _ List.mem_cons_self))
 have e : es = ds := Array.ext_getElem? fun j => by
  by_cases hj : j < cs.size
  ·rw [b3 j hj, hd j hj]
  ·rw [Array.getElem?_eq_none (by rw [b2]; exact Nat.le_of_not_lt hj), Array.getElem?_eq_none (by omega)]
 subst e
 refine ⟨h1.below, fun p hp => ?_⟩
 rcases List.mem_append.1 hp with h2 | h2
 ·exact h1.blks p (List.mem_append_left _ h2)
 ·rcases List.mem_cons.1 h2 with rfl | h2
  ·exact b1
  ·exact h1.blks p (List.mem_append_right _ h2)
theorem BL.rowAll {w W : World} {A C : BLs} {B : Nat} {cs : Array Value} {t : TypeId} (hO : Asc w (A ++ (B, cs, t) :: C)) (h : BL w (A ++ (B, cs, t) :: C) W) (vs : List Value) (hs : vs.length = cs.size) :
  BL w (A ++ (B, vs.toArray, t) :: C) (W.setCells B 0 vs) :=
 BL.row hO h 0 vs (by simpa using hs) fun j hj => by rw [if_pos ⟨Nat.zero_le _, by omega⟩, Nat.sub_zero]; simp
theorem BL.range {w W : World} {L : BLs} (h : BL w L W) (B : Nat) (vs : List Value) (t : TypeId) (hm : (B, vs.toArray, t) ∈ L) : W.rangeAt B 0 vs := fun j v hv => by
 rw [Nat.zero_add, h.cell B _ t hm]; simpa using hv
theorem BL.there {w W : World} {L : BLs} (h : BL w L W) (B : Nat) (cs : Array Value) (t : TypeId) (hm : (B, cs, t) ∈ L) (n : Nat) (hn : n = cs.size) : W.there B 0 n := fun j hj => by
 rw [Nat.zero_add, h.cell B _ t hm, h.frozen B _ t hm]
 exact ⟨by rw [Array.getElem?_eq_getElem (by omega)]; rfl, rfl⟩
def wl (f : Nat → Int) : List Value := [.int .u64 (f 0), .int .u64 (f 1), .int .u64 (f 2), .int .u64 (f 3), .int .u64 (f 4), .int .u64 (f 5), .int .u64 (f 6), .int .u64 (f 7), .int .u64 (f 8), .int .u64 (f 9), .int .u64 (f 10), .int .u64 (f 11)]
theorem As (f : Nat → Int) : (wl f).toArray = wc f := rfl
theorem E3 (f : Nat → Int) : (wl f).length = 12 := rfl
theorem Dn (f : Nat → Int) : ∀ v ∈ wl f, v.oneCell' = true := by simp [wl, Value.oneCell']
theorem Cu (W : World) (B : Nat) (f : Nat → Int) : W.setCells B 0 (wl f) = st12 W B f := rfl
end
section
section
variable {P : Program} {md : Region.Mode} {ops : Array Oper} {Q : Exit → Act → World → Prop} {S : World → Prop} {st : Nat}
def AnyBut (P : Program) (md : Region.Mode) (ops : Array Oper) (Q : Exit → Act → World → Prop) (S : World → Prop) (st : Nat) : Nat → Array Bool → Act → World → Prop
 | 0, l, a, w => Region.ready md ops l = [] ∧ Q .normal a w
 | n + 1, l, a, w => (Region.ready md ops l = [] → Q .normal a w) ∧ ∀ j ∈ Region.ready md ops l, wpOp P ops Q j (fun a' w' => (j ≠ st → S w') ∧ AnyBut P md ops Q S st n (l.setIfInBounds j true) a' w') a w
theorem AnyBut.any : ∀ {n : Nat} {l : Array Bool} {a : Act} {w : World}, AnyBut P md ops Q S st n l a w → wpAny P md ops Q n l a w
 | 0, _, _, _, h => h
 | _ + 1, _, _, _, h => ⟨h.1, fun j hj => wpOp_mono (fun _ _ hk => hk.2.any) (h.2 j hj)⟩
theorem AnyBut.start {id : Nat} {a : Act} {w : World} (hm : P.follows .mixedOrders = true) (h : AnyBut P .any ops Q S st ops.size (Array.replicate ops.size false) a w.drew) : (Code.region id ops true).wp P Q a w :=
 wp_region_any hm h.any
theorem AnyBut.first {i : Nat} {oi os : Oper} {v : Value} (hi : ops[i]? = some oi) (hst : ops[st]? = some os) (hw : os.after.any (fun e => Region.binds md e && e.on == i) = true) (hsel : Region.noSelect ops = true)
  (hQ : ∀ c a w, Q (.panic c) (a.put oi.dst v) w → Q (.panic c) a w) : ∀ (n : Nat) (l : Array Bool) (a : Act) (w : World),
  (∀ j oj, ops[j]? = some oj → j ≠ i → l.getD j true = false → (∀ e ∈ oj.after, Region.binds md e = true → e.on ≠ i) → oi.apart ops oj = true) →
  i ∈ Region.ready md ops l → YieldsIf P ops S oi v a → S w → i ≠ st →
  AnyBut P md ops Q S st n (l.setIfInBounds i true) (a.put oi.dst v) w → AnyBut P md ops Q S st (n + 1) l a w := by
 intro n
 induction n with
 | zero =>
  intro l a w _ hr hy hS _ H
  refine ⟨fun h => (by rw [h] at hr; cases hr), fun j hj => ?_⟩
  by_cases e : j = i
  ·subst e; exact hy.wpOp hi hS ⟨fun _ => hS, H⟩
  ·have := ready_mono hj e
   rw [H.1] at this
   cases this
 | succ n ih =>
  intro l a w hf hr hy hS his H
  refine ⟨fun h => (by rw [h] at hr; cases hr), fun j hj => ?_⟩
  by_cases e : j = i
  ·subst e; exact hy.wpOp hi hS ⟨fun _ => hS, H⟩
  ·obtain ⟨un, oj, hoj, hall⟩ := mem_ready.1 hj
   have un0 := (mem_ready.1 hr).1
   have hno : ∀ x ∈ oj.after, Region.binds md x = true → x.on ≠ i := fun x hx hb ex => by
    have l1 := hall x hx hb
    rw [ex] at l1
    rcases Nat.lt_or_ge i l.size with c | c
    ·simp [c] at un0 l1; rw [un0] at l1; cases l1
    ·simp [Array.getElem?_eq_none c] at l1
   have hjs : j ≠ st := fun ejs => by
    subst ejs
    rw [hst] at hoj
    obtain rfl := Option.some.inj hoj
    obtain ⟨x, hx, hb⟩ := Array.any_eq_true'.1 hw
    simp only [Bool.and_eq_true, beq_iff_eq] at hb
    exact hno x hx hb.1 hb.2
   have h2 := wpOp_putIf hoj (hf j oj hoj e un hno) (fun cs b => Region.noSelect_spec hsel i oi cs b hi) (fun cs b => Region.noSelect_spec hsel j oj cs b hoj) hQ hy (H.2 j (ready_mono hj e))
   refine wpOp_mono (fun a' w' h3 => ⟨h3.2.1, ih _ a' w' (fun k ok hk hki hun hn => hf k ok hk hki ?_ hn) (ready_mono hr (Ne.symm e)) h3.1 (h3.2.1 hjs) his ?_⟩) h2
   ·by_cases ejk : j = k
    ·subst ejk; exact un
    ·rw [getD_set_ne true ejk] at hun; exact hun
   ·rw [Array.setIfInBounds_comm _ _ e]; exact h3.2.2
theorem AnyBut.take {i : Nat} {oi os : Oper} {v : Value} {n : Nat} {l : Array Bool} {a : Act} {w : World} (hi : ops[i]? = some oi) (hst : ops[st]? = some os)
  (hw : os.after.any (fun e => Region.binds md e && e.on == i) = true) (hsel : Region.noSelect ops = true) (hf : Region.free md ops l i = true) (hr : (Region.ready md ops l).contains i = true) (his : i ≠ st)
  (hQ : ∀ c a w, Q (.panic c) (a.put oi.dst v) w → Q (.panic c) a w) (hS : S w) (hy : YieldsIf P ops S oi v a)
  (h : AnyBut P md ops Q S st n (l.setIfInBounds i true) (a.put oi.dst v) w) : AnyBut P md ops Q S st (n + 1) l a w :=
 AnyBut.first hi hst hw hsel hQ n l a w (Region.free_spec hi hf) (by simpa using hr) hy hS his h
theorem AnyBut.one {i : Nat} {o : Oper} {n : Nat} {l : Array Bool} {a : Act} {w : World} (hr : Region.ready md ops l = [i]) (ho : ops[i]? = some o)
  (h : ∀ K' : Act → World → Prop, Shut (∀ a w, (i ≠ st → S w) → AnyBut P md ops Q S st n (l.setIfInBounds i true) a w → K' a w) → if Region.wanted o (yielded ops a.tmps) = true then Oper.wp P o a w K' Q else K' (a.put o.dst undef) w) :
  AnyBut P md ops Q S st (n + 1) l a w :=
 ⟨fun h0 => (by rw [hr] at h0; cases h0), fun j hj => by
  rw [hr] at hj
  obtain rfl := List.mem_singleton.1 hj
  exact wpOp_step ho (fun K' hK => h K' (fun a w h1 h2 => hK a w ⟨h1, h2⟩))⟩
theorem AnyBut.done {l : Array Bool} {a : Act} {w : World} (hr : Region.ready md ops l = []) (h : Q .normal a w) : ∀ n, AnyBut P md ops Q S st n l a w
 | 0 => ⟨hr, h⟩
 | _ + 1 => ⟨fun _ => h, by rw [hr]; simp⟩
end
section
variable {P : Program} {md : Region.Mode} {ops : Array Oper} {Q : Exit → Act → World → Prop} {S : World → Prop}
theorem tkY (i : Nat) (v : Value) {oi : Oper} {fuel : Nat} {listed : Array Bool} {a : Act} {w : World} (hi : ops[i]? = some oi) (hy : YieldsIf P ops S oi v a) (hS : S w) (h : wpAnyH P md ops Q S fuel (listed.setIfInBounds i true) (a.put oi.dst v) w)
 (hs : Region.noSelect ops = true := by kernel_rfl) (hf : Region.free md ops listed i = true := by kernel_rfl) (hr : (Region.ready md ops listed).contains i = true := by kernel_rfl) (hQ : ∀ c a w, Q (.panic c) (a.put oi.dst v) w → Q (.panic c) a w := by exact fun _ _ _ h => h) :
 wpAnyH P md ops Q S (fuel + 1) listed a w := wpAnyH_take hi hs hf hr hQ hy hS h
theorem tkV (i : Nat) (v : Value) {oi : Oper} {fuel : Nat} {listed : Array Bool} {a : Act} {w : World} (hy : ∀ w, S w → (execOp a.eval oi).run P w = .ok (.value v) w) (hS : S w) (h : wpAnyH P md ops Q S fuel (listed.setIfInBounds i true) (a.put oi.dst v) w)
 (hi : ops[i]? = some oi := by rfl) (hw : Region.wanted oi (yielded ops a.tmps) = true := by rfl) (hs : Region.noSelect ops = true := by kernel_rfl) (hf : Region.free md ops listed i = true := by kernel_rfl) (hr : (Region.ready md ops listed).contains i = true := by kernel_rfl) (hQ : ∀ c a w, Q (.panic c) (a.put oi.dst v) w → Q (.panic c) a w := by exact fun _ _ _ h => h) :
 wpAnyH P md ops Q S (fuel + 1) listed a w := wpAnyH_take hi hs hf hr hQ (.inl ⟨hw, hy⟩) hS h
end
end
end Go.Proofs.YtcmomjnailihpaaGreatDoor
