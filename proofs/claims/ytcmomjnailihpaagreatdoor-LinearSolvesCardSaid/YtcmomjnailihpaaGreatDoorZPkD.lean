/- PkD -/
import Derived.Test.YtcmomjnailihpaaGreatDoorZPkB
import Derived.Test.YtcmomjnailihpaaGreatDoorZPkC
import Derived.Lib.UnsafeStr
/- Div. -/
namespace Go.Proofs.YtcmomjnailihpaaGreatDoor
open Go.RowKit
attribute [local go_sem] Oper.semAt_some
set_option maxRecDepth 100000 in
theorem one_any (w : World) : Calls Tryz.prog 99 #[] w (Gives w fun r w' => ∃ b, r = .slice (some ⟨b, 0, none⟩) 1 1 ∧ Sl w' r [1]) := by
  go_enter Tryz.func99, Tryz.ntmps99
  go_wp2
  go_ret
  exact ⟨⟨_, rfl, _, rfl, Sl.of_own (own_lit w 1)⟩, (Below.refl _ _).alloc (Nat.le_refl _) _⟩
def divT (ok : Bool) (x y : Int) : Value := if ok && decide (y ≠ 0) then .tuple #[.string ⟨(Lib.itoa (x / y)).toArray⟩, .string ⟨(Lib.itoa (x % y)).toArray⟩, .int .i64 0] else .tuple #[.string ⟨#[]⟩, .string ⟨#[]⟩, .int .i64 30]
set_option maxRecDepth 100000 in
set_option maxHeartbeats 8000000 in
theorem div_plain (a b : ByteArray) (w : World) (hE : Env w) (ha : okS a = true) (hb : okS b = true) (h0 : zS b ≠ 0) (hneg : ¬ (zS a < 0 ∧ 0 < ((zS a).natAbs : Int) % (zS b).natAbs)) :
    Calls Tryz.prog 61 #[.string a, .string b] w (Gives w fun r _ => r = divT true (zS a) (zS b)) := by
  have Ba := z_bound ha
  have Bb := z_bound hb
  have Pk := fun W => both_ok a b W ha hb
  have hp := div_parts (zS a) (zS b) h0
  have hsm := div_small (x := zS a) (y := zS b) Ba
  have hsm1 := hsm.1
  have hsm2 := hsm.2 h0 Bb
  have hr0 := Int.emod_nonneg (zS a) h0
  have he1 : erz (zS a / zS b) = 0 := if_pos hsm1
  have ht1 : txt (zS a / zS b) = Lib.itoa (zS a / zS b) := if_pos hsm1
  have ht2 : txt (zS a % zS b) = Lib.itoa (zS a % zS b) := if_pos hsm2
  rw [if_neg hneg, if_neg hneg] at hp
  go_enter Tryz.func61, Tryz.ntmps61
  go_wp2_with fail
  refine (Pk _).mono ?_
  rintro e W1 ⟨⟨r, rfl, v, u, rfl, ⟨x, xs, rfl, hx, hnx⟩, ⟨y, ys, rfl, hy, hny⟩⟩, hb1⟩
  have lx := len_of_big hnx (abs_big Ba)
  have ly := len_of_big hny (abs_big Bb)
  have hy0 : ((ys.length : Int) == 0) = false := by
    rw [beq_eq_false_iff_ne]
    intro e
    have := (hny.zero_iff (by decide)).1 (List.eq_nil_of_length_eq_zero (by omega))
    omega
  obtain ⟨a1, c1, rfl⟩ := hx.shape
  obtain ⟨a2, c2, rfl⟩ := hy.shape
  have hm : (0 : Int) < (zS b).natAbs := by omega
  have hM := Lib.hid hneg
  clear hneg
  generalize hs : decide (zS a < 0) = s at *
  generalize ht : decide (zS b < 0) = t at *
  obtain ⟨W2, hW2, h1, h2, h3, h4, h5⟩ := two_start W1 s t (.slice a1 xs.length c1) (.slice a2 ys.length c2)
  go_wp2_with fail
  rw [← hW2]
  clear hW2
  refine (over_any _ _ xs ys _ _ (hx.below h5) (hy.below h5) hnx.dig hny hm (by omega) (by omega)).mono ?_
  rintro e W3 ⟨⟨r, rfl, r1, r2, qs, rs, rfl, hq, hnq, hr, hnr⟩, hb3⟩
  rw [hnx.val] at hnq hnr
  obtain ⟨a3, c3, rfl⟩ := hq.shape
  obtain ⟨a4, c4, rfl⟩ := hr.shape
  have g1 := cell_kept hb3 h1
  have g2 := cell_kept hb3 h2
  have g3 := cell_kept hb3 h3
  have g4 := cell_kept hb3 h4
  have hb13 := kb_call hb3 h5 (Nat.le_refl _)
  have hbw := kb_call hb13 hb1 (Nat.le_refl _)
  have lq : qs.length ≤ 10000 := by
    have := hnq.len_le (by decide) hnx (Int.ediv_le_self _ (by omega))
    omega
  have lr : rs.length ≤ 10000 := by
    have := hnr.len_le (by decide) hny (Int.le_of_lt (Int.emod_lt_of_pos _ hm))
    omega
  have hE3 := hE.below hbw (Nat.le_refl _)
  have hcond : s = true → ¬ (0 : Int) < (rs.length : Int) := by
    intro hst hl
    subst hst
    have hxn : zS a < 0 := by simpa using hs
    have : ¬ ((zS a).natAbs : Int) % (zS b).natAbs = 0 := fun e => by
      have := (hnr.zero_iff (by decide)).2 e
      rw [this] at hl; simp at hl
    exact hM.out ⟨hxn, by have := hnr.nonneg (by decide); omega⟩
  have hp1 : sgn (!s == t) (((zS a).natAbs : Int) / (zS b).natAbs) = zS a / zS b := hp.1
  have HH := Lib.hid (And.intro hp1 (And.intro hp.2 (And.intro ht1 (And.intro ht2 he1))))
  have Hy0 := Lib.hid h0
  have lx' := lx
  clear hp hp1 hs ht hsm hsm1 hsm2 he1 ht1 ht2 hr0 hy0 lx ly lx' Ba Bb hm h0
  cases s
  · go_wp2_with fail
    have hp1 : sgn t (((zS a).natAbs : Int) / (zS b).natAbs) = zS a / zS b := by have := HH.out.1; cases t <;> exact this
    have he : erz (sgn t (((zS a).natAbs : Int) / (zS b).natAbs)) = 0 := by rw [hp1]; exact HH.out.2.2.2.2
    have hR : sgn false (((zS a).natAbs : Int) % (zS b).natAbs) = zS a % zS b := HH.out.2.1
    have hfv : (divT true (zS a) (zS b)) = .tuple #[.string ⟨(txt (sgn t (((zS a).natAbs : Int) / (zS b).natAbs))).toArray⟩, .string ⟨(txt (sgn false (((zS a).natAbs : Int) % (zS b).natAbs))).toArray⟩, .int .i64 0] := by
      rw [hp1, hR, HH.out.2.2.1, HH.out.2.2.2.1]; unfold divT; rw [if_pos]; simpa using Hy0.out
    have HF := Lib.hid hfv
    clear hp1 hR hfv
    refine (text_any t _ qs _ W3 hE3 hq hnq lq).mono ?_
    rintro e W4 ⟨rfl, hb4⟩
    rw [he]
    go_wp2_with fail
    refine (text_any false _ rs _ W4 (hE3.below hb4 (Nat.le_refl _)) (hr.below hb4) hnr lr).mono ?_
    rintro e W5 ⟨rfl, hb5⟩
    go_wp2
    refine bodyPost_ret (v := .tuple #[.string ⟨(txt (sgn t (((zS a).natAbs : Int) / (zS b).natAbs))).toArray⟩, .string ⟨(txt (sgn false (((zS a).natAbs : Int) % (zS b).natAbs))).toArray⟩, .int .i64 0]) (by simp [results, Tryz.results61, go_sem]) rfl ?_
    exact ⟨⟨_, rfl, HF.out.symm⟩, kb_call hb5 (kb_call hb4 hbw (Nat.le_refl _)) (Nat.le_refl _)⟩
  · have hc2 := hcond rfl
    clear hcond
    go_wp2_with fail
    have hp1 : sgn (!t) (((zS a).natAbs : Int) / (zS b).natAbs) = zS a / zS b := by have := HH.out.1; cases t <;> exact this
    have he : erz (sgn (!t) (((zS a).natAbs : Int) / (zS b).natAbs)) = 0 := by rw [hp1]; exact HH.out.2.2.2.2
    have hR : sgn false (((zS a).natAbs : Int) % (zS b).natAbs) = zS a % zS b := HH.out.2.1
    have hfv : (divT true (zS a) (zS b)) = .tuple #[.string ⟨(txt (sgn (!t) (((zS a).natAbs : Int) / (zS b).natAbs))).toArray⟩, .string ⟨(txt (sgn false (((zS a).natAbs : Int) % (zS b).natAbs))).toArray⟩, .int .i64 0] := by
      rw [hp1, hR, HH.out.2.2.1, HH.out.2.2.2.1]; unfold divT; rw [if_pos]; simpa using Hy0.out
    have HF := Lib.hid hfv
    clear hp1 hR hfv
    refine (text_any (!t) _ qs _ W3 hE3 hq hnq lq).mono ?_
    rintro e W4 ⟨rfl, hb4⟩
    rw [he]
    go_wp2_with fail
    refine (text_any false _ rs _ W4 (hE3.below hb4 (Nat.le_refl _)) (hr.below hb4) hnr lr).mono ?_
    rintro e W5 ⟨rfl, hb5⟩
    go_wp2
    refine bodyPost_ret (v := .tuple #[.string ⟨(txt (sgn (!t) (((zS a).natAbs : Int) / (zS b).natAbs))).toArray⟩, .string ⟨(txt (sgn false (((zS a).natAbs : Int) % (zS b).natAbs))).toArray⟩, .int .i64 0]) (by simp [results, Tryz.results61, go_sem]) rfl ?_
    exact ⟨⟨_, rfl, HF.out.symm⟩, kb_call hb5 (kb_call hb4 hbw (Nat.le_refl _)) (Nat.le_refl _)⟩
theorem dig_one : Dig 10000 [1] := fun x hx => by simp at hx; subst hx; omega
theorem val_one : val 10000 [1] = 1 := by simp [val]
set_option maxRecDepth 100000 in
set_option maxHeartbeats 8000000 in
theorem div_round (a b : ByteArray) (w : World) (hE : Env w) (ha : okS a = true) (hb : okS b = true) (h0 : zS b ≠ 0) (hneg : zS a < 0 ∧ 0 < ((zS a).natAbs : Int) % (zS b).natAbs) :
    Calls Tryz.prog 61 #[.string a, .string b] w (Gives w fun r _ => r = divT true (zS a) (zS b)) := by
  have Ba := z_bound ha
  have Bb := z_bound hb
  have Pk := fun W => both_ok a b W ha hb
  have hp := div_parts (zS a) (zS b) h0
  have hsm := div_small (x := zS a) (y := zS b) Ba
  have hsm1 := hsm.1
  have hsm2 := hsm.2 h0 Bb
  have hr0 := Int.emod_nonneg (zS a) h0
  have he1 : erz (zS a / zS b) = 0 := if_pos hsm1
  have ht1 : txt (zS a / zS b) = Lib.itoa (zS a / zS b) := if_pos hsm1
  have ht2 : txt (zS a % zS b) = Lib.itoa (zS a % zS b) := if_pos hsm2
  rw [if_pos hneg, if_pos hneg] at hp
  go_enter Tryz.func61, Tryz.ntmps61
  go_wp2_with fail
  refine (Pk _).mono ?_
  rintro e W1 ⟨⟨r, rfl, v, u, rfl, ⟨x, xs, rfl, hx, hnx⟩, ⟨y, ys, rfl, hy, hny⟩⟩, hb1⟩
  have lx := len_of_big hnx (abs_big Ba)
  have ly := len_of_big hny (abs_big Bb)
  have hy0 : ((ys.length : Int) == 0) = false := by
    rw [beq_eq_false_iff_ne]
    intro e
    have := (hny.zero_iff (by decide)).1 (List.eq_nil_of_length_eq_zero (by omega))
    omega
  obtain ⟨a1, c1, rfl⟩ := hx.shape
  obtain ⟨a2, c2, rfl⟩ := hy.shape
  have hm : (0 : Int) < (zS b).natAbs := by omega
  have hM := Lib.hid hneg
  clear hneg
  generalize hs : decide (zS a < 0) = s at *
  generalize ht : decide (zS b < 0) = t at *
  obtain ⟨W2, hW2, h1, h2, h3, h4, h5⟩ := two_start W1 s t (.slice a1 xs.length c1) (.slice a2 ys.length c2)
  go_wp2_with fail
  rw [← hW2]
  clear hW2
  refine (over_any _ _ xs ys _ _ (hx.below h5) (hy.below h5) hnx.dig hny hm (by omega) (by omega)).mono ?_
  rintro e W3 ⟨⟨r, rfl, r1, r2, qs, rs, rfl, hq, hnq, hr, hnr⟩, hb3⟩
  rw [hnx.val] at hnq hnr
  obtain ⟨a3, c3, rfl⟩ := hq.shape
  obtain ⟨a4, c4, rfl⟩ := hr.shape
  have g1 := cell_kept hb3 h1
  have g2 := cell_kept hb3 h2
  have g3 := cell_kept hb3 h3
  have g4 := cell_kept hb3 h4
  have hb13 := kb_call hb3 h5 (Nat.le_refl _)
  have hbw := kb_call hb13 hb1 (Nat.le_refl _)
  have hqs := hnq.len_le (by decide) hnx (Int.ediv_le_self _ (by omega))
  have hrs := hnr.len_le (by decide) hny (Int.le_of_lt (Int.emod_lt_of_pos _ hm))
  have lq1 : qs.length ≤ 100000 := by omega
  have ly1 : ys.length ≤ 100000 := by omega
  have hst : s = true := by rw [← hs]; simp [hM.out.1]
  have hcond : (0 : Int) < (rs.length : Int) := by
    have : rs ≠ [] := fun e => by
      have := (hnr.zero_iff (by decide)).1 e
      have := hM.out.2
      omega
    have := List.length_pos_iff.2 this
    omega
  have hle : val 10000 rs ≤ val 10000 ys := by
    rw [hnr.val, hny.val]; exact Int.le_of_lt (Int.emod_lt_of_pos _ hm)
  subst hst
  have hp1 : sgn (!true == t) (((zS a).natAbs : Int) / (zS b).natAbs + 1) = zS a / zS b := hp.1
  have HH := Lib.hid (And.intro hp1 (And.intro hp.2 (And.intro ht1 (And.intro ht2 he1))))
  have Hy0 := Lib.hid h0
  have lzs : ∀ zs, Num 10000 zs (val 10000 qs + val 10000 [1]) → zs.length ≤ 10000 := fun zs hz => by
    rw [hnq.val, val_one] at hz
    have h1 := hz.length_le (by decide) (m := 51) (by
      have h2 := Int.ediv_le_self ((zS b).natAbs : Int) (a := ((zS a).natAbs : Int)) (by omega)
      have h3 := abs_big Ba
      have h4 : Big + 1 ≤ (10000 : Int) ^ 51 := by unfold Big; decide
      omega)
    omega
  have lzr : ∀ zr, Num 10000 zr (val 10000 ys - val 10000 rs) → zr.length ≤ 10000 := fun zr hz => by
    have := hz.len_le (by decide) hny (by rw [hny.val, hnr.val]; have := Int.emod_nonneg ((zS a).natAbs : Int) (b := ((zS b).natAbs : Int)) (by omega); omega)
    omega
  clear hp hp1 hs ht hsm hsm1 hsm2 he1 ht1 ht2 hr0 hy0 lx ly Ba Bb hm h0 hqs
  go_wp2_with fail
  have hb0 := kb_drew (Below.refl W3.heap.size W3)
  go_region_held3 (fun w' => w'.cell? ⟨W1.heap.size, 0, none⟩ = some (.bool true) ∧ w'.cell? ⟨W1.heap.size, 1, none⟩ = some (.slice a1 xs.length c1) ∧ w'.cell? ⟨W1.heap.size + 1, 0, none⟩ = some (.bool t) ∧ w'.cell? ⟨W1.heap.size + 1, 1, none⟩ = some (.slice a2 ys.length c2) ∧ Below W3.heap.size W3 w')
    (first | exact s_call hbz3 (by assumption) | exact s_call hbz2 (by assumption) | exact s_call hbz1 ⟨g1, g2, g3, g4, hb0⟩ | exact ⟨g1, g2, g3, g4, hb0⟩ | assumption | go_keep)
    (first | (go_at_call 99; refine (one_any _).mono ?_; rintro e w4 ⟨⟨r, rfl, b1, rfl, hz1⟩, hbz1⟩; have hw4 := kb_call hbz1 hb0 (Nat.le_refl _)) | (go_at_call 98; refine (plus_any _ _ qs [1] _ (hq.below hw4) hz1 hnq.dig dig_one lq1 (by decide)).mono ?_; rintro e w5 ⟨⟨r, rfl, zs, hz2, hz3, _⟩, hbz2⟩; obtain ⟨a5, c5, rfl⟩ := hz2.shape; have hw5 := kb_call hbz2 hw4 (Nat.le_refl _)) | (go_at_call 100; refine (minus_any _ _ ys rs _ (hy.below (kb_call hw5 hb13 (Nat.le_refl _))) (hr.below hw5) hny.dig hnr.dig ly1 hrs hle).mono ?_; rintro e w6 ⟨⟨r, rfl, zr, hz6, hz7, _⟩, hbz3⟩; obtain ⟨a6, c6, rfl⟩ := hz6.shape; have hw6 := kb_call hbz3 hw5 (Nat.le_refl _)))
  have hh : w6.cell? ⟨W1.heap.size, 0, none⟩ = some (.bool true) ∧ w6.cell? ⟨W1.heap.size, 1, none⟩ = some (.slice a1 xs.length c1) ∧ w6.cell? ⟨W1.heap.size + 1, 0, none⟩ = some (.bool t) ∧ w6.cell? ⟨W1.heap.size + 1, 1, none⟩ = some (.slice a2 ys.length c2) ∧ Below W3.heap.size W3 w6 := by assumption
  obtain ⟨k1, k2, k3, k4, _⟩ := hh
  have l1 := lzs _ hz3
  have l2 := lzr _ hz7
  have hz26 := hz2.below hbz3
  rw [hnq.val, val_one] at hz3
  rw [hny.val, hnr.val] at hz7
  have hbw6 := kb_call hw6 hbw (Nat.le_refl _)
  have hE6 := hE.below hbw6 (Nat.le_refl _)
  have hp1 : sgn (!t) (((zS a).natAbs : Int) / (zS b).natAbs + 1) = zS a / zS b := by have := HH.out.1; cases t <;> exact this
  have he : erz (sgn (!t) (((zS a).natAbs : Int) / (zS b).natAbs + 1)) = 0 := by rw [hp1]; exact HH.out.2.2.2.2
  have hR : sgn false (((zS b).natAbs : Int) - ((zS a).natAbs : Int) % (zS b).natAbs) = zS a % zS b := HH.out.2.1
  have hfv : (divT true (zS a) (zS b)) = .tuple #[.string ⟨(txt (sgn (!t) (((zS a).natAbs : Int) / (zS b).natAbs + 1))).toArray⟩, .string ⟨(txt (sgn false (((zS b).natAbs : Int) - ((zS a).natAbs : Int) % (zS b).natAbs))).toArray⟩, .int .i64 0] := by
    rw [hp1, hR, HH.out.2.2.1, HH.out.2.2.2.1]; unfold divT; rw [if_pos]; simpa using Hy0.out
  have HF := Lib.hid hfv
  have He := Lib.hid he
  clear hp1 hR hfv he lzs lzr hle hcond hnq hnr hny hnx g1 g2 g3 g4 h1 h2 h3 h4
  generalize ((zS a).natAbs : Int) / (zS b).natAbs + 1 = Q at *
  generalize ((zS b).natAbs : Int) - ((zS a).natAbs : Int) % (zS b).natAbs = R at *
  go_wp2_with fail
  refine (text_any (!t) _ zs Q w6 hE6 hz26 hz3 l1).mono ?_
  rintro e w7 ⟨rfl, hb7⟩
  rw [He.out]
  go_wp2_with fail
  refine (text_any false _ zr R w7 (hE6.below hb7 (Nat.le_refl _)) (hz6.below hb7) hz7 l2).mono ?_
  rintro e w8 ⟨rfl, hb8⟩
  go_wp2
  refine bodyPost_ret (v := .tuple #[.string ⟨(txt (sgn (!t) Q)).toArray⟩, .string ⟨(txt (sgn false R)).toArray⟩, .int .i64 0]) (by simp [results, Tryz.results61, go_sem]) rfl ?_
  exact ⟨⟨_, rfl, HF.out.symm⟩, kb_call hb8 (kb_call hb7 hbw6 (Nat.le_refl _)) (Nat.le_refl _)⟩
/- Div, where one of the strings is no integer. -/
set_option maxRecDepth 100000 in
set_option maxHeartbeats 2000000 in
theorem div_bad (a b : ByteArray) (w : World) (h : okS a = false ∨ okS b = false) :
    Calls Tryz.prog 61 #[.string a, .string b] w (Gives w fun r _ => r = divT false 0 0) := by
  have Pk := fun W => both_bad a b W h
  go_enter Tryz.func61, Tryz.ntmps61
  go_wp2_with fail
  refine (Pk _).mono ?_
  rintro e W1 ⟨⟨r, rfl, rfl⟩, hb1⟩
  go_wp2
  refine bodyPost_ret (v := .tuple #[.string ⟨#[]⟩, .string ⟨#[]⟩, .int .i64 30]) (by simp [results, Tryz.results61, go_sem]) rfl ?_
  exact ⟨⟨_, rfl, rfl⟩, kb_call (below_two W1 _ _) hb1 (Nat.le_refl _)⟩
/- Div by zero. -/
set_option maxRecDepth 100000 in
set_option maxHeartbeats 2000000 in
theorem div_zero (a b : ByteArray) (w : World) (ha : okS a = true) (hb : okS b = true) (h0 : zS b = 0) :
    Calls Tryz.prog 61 #[.string a, .string b] w (Gives w fun r _ => r = divT true (zS a) 0) := by
  have Pk := fun W => both_ok a b W ha hb
  rw [h0] at Pk
  go_enter Tryz.func61, Tryz.ntmps61
  go_wp2_with fail
  refine (Pk _).mono ?_
  rintro e W1 ⟨⟨r, rfl, v, u, rfl, ⟨x, xs, rfl, hx, hnx⟩, ⟨y, ys, rfl, hy, hny⟩⟩, hb1⟩
  have e0 : ys = [] := (hny.zero_iff (by decide)).2 rfl
  subst e0
  obtain ⟨a1, c1, rfl⟩ := hx.shape
  obtain ⟨a2, c2, rfl⟩ := hy.shape
  generalize hs : decide (zS a < 0) = s at *
  generalize ht : decide ((0 : Int) < 0) = t at *
  obtain ⟨W2, hW2, h1, h2, h3, h4, h5⟩ := two_start W1 s t (.slice a1 xs.length c1) (.slice a2 ([] : List Int).length c2)
  simp only [List.length_nil] at h4 hW2
  go_wp2_with fail
  rw [← hW2]
  clear hW2 hs ht
  go_wp2
  refine bodyPost_ret (v := .tuple #[.string ⟨#[]⟩, .string ⟨#[]⟩, .int .i64 30]) (by simp [results, Tryz.results61, go_sem]) rfl ?_
  exact ⟨⟨_, rfl, by simp [divT]⟩, kb_call h5 hb1 (Nat.le_refl _)⟩
theorem div_any (a b : ByteArray) (w : World) (hE : Env w) :
    Calls Tryz.prog 61 #[.string a, .string b] w (Gives w fun r _ => r = divT (okS a && okS b) (zS a) (zS b)) := by
  by_cases h : okS a = true ∧ okS b = true
  · rw [h.1, h.2]
    by_cases h0 : zS b = 0
    · rw [h0]; exact div_zero a b w h.1 h.2 h0
    · by_cases hneg : zS a < 0 ∧ 0 < ((zS a).natAbs : Int) % (zS b).natAbs
      · exact div_round a b w hE h.1 h.2 h0 hneg
      · exact div_plain a b w hE h.1 h.2 h0 hneg
  · rw [(and_false_of h).1]
    exact (div_bad a b w (and_false_of h).2).mono fun _ _ h => h
end Go.Proofs.YtcmomjnailihpaaGreatDoor
/- Gcd. -/
namespace Go.Proofs.YtcmomjnailihpaaGreatDoor
open Go.RowKit
attribute [local go_sem] Oper.semAt_some
def rdSl (w : World) (v : Value) : List Int := match v with
  | .slice (some a) n _ => (List.range n).map fun j => match w.cell? ⟨a.block, a.off + j, none⟩ with
    | some (.int _ z) => z
    | _ => 0
  | _ => []
theorem Sl.rd {w : World} {v : Value} {xs : List Int} (h : Sl w v xs) : rdSl w v = xs := by
  rcases h with ⟨rfl, rfl⟩ | ⟨b, off, cap, rfl, h1, h2, h3, h4⟩
  · rfl
  · unfold rdSl
    apply List.ext_getElem
    · simp
    · intro i h5 h6
      simp only [List.getElem_map, List.getElem_range]
      rw [h4 i h6, gi_lt h6]
theorem len_big {xs : List Int} {n : Int} (h : Num 10000 xs n) (hn : n < Big) : xs.length ≤ 50 := len_of_big h hn
set_option maxRecDepth 100000 in
set_option maxHeartbeats 4000000 in
theorem gcd_ok (a b : ByteArray) (w : World) (hE : Env w) (ha : okS a = true) (hb : okS b = true) :
    Calls Tryz.prog 60 #[.string a, .string b] w (Gives w fun r _ => r = resT true (gcdZ (zS a) (zS b))) := by
  have Ba := z_bound ha
  have Bb := z_bound hb
  have Pk := fun W => both_ok a b W ha hb
  have G0 := Lib.hid (gcdZ_abs (zS a) (zS b))
  go_enter Tryz.func60, Tryz.ntmps60
  go_wp2_with fail
  refine (Pk _).mono ?_
  rintro e W1 ⟨⟨r, rfl, v, u, rfl, ⟨x, xs, rfl, hx, hnx⟩, ⟨y, ys, rfl, hy, hny⟩⟩, hb1⟩
  have Bx := abs_big Ba
  have By := abs_big Bb
  obtain ⟨a1, c1, rfl⟩ := hx.shape
  obtain ⟨a2, c2, rfl⟩ := hy.shape
  generalize hs : decide (zS a < 0) = s at *
  generalize ht : decide (zS b < 0) = t at *
  obtain ⟨W2, hW2, h1, h2, h3, h4, h5⟩ := two_start W1 s t (.slice a1 xs.length c1) (.slice a2 ys.length c2)
  go_wp2_with fail
  rw [← hW2]
  clear hW2 hs ht
  go_quiet (fail)
  go_wp2_with fail
  have hW : Below w.heap.size w (W2.drewN nq) := kb_call (below_drewN _ _) (kb_call h5 hb1 (Nat.le_refl _)) (Nat.le_refl _)
  have hx2 := (hx.below h5).drewN nq
  have hy2 := (hy.below h5).drewN nq
  clear h1 h2 h3 h4 h5 hx hy
  go_loopw [9, 10] (fun k l wr => ∃ a3 c3 a4 c4 ks ls m n, k = .slice a3 ks.length c3 ∧ l = .slice a4 ls.length c4 ∧ Sl wr (.slice a3 ks.length c3) ks ∧ Sl wr (.slice a4 ls.length c4) ls ∧ Num 10000 ks m ∧ Num 10000 ls n ∧ m < Big ∧ n < Big ∧
      Hid (gcdZ m n = gcdZ (zS a) (zS b)) ∧ Below w.heap.size w wr)
    (fun _ l wr => (val 10000 (rdSl wr l)).toNat)
  case atStart => exact ⟨_, _, _, _, _, _, _, _, rfl, rfl, hx2, hy2, hnx, hny, Bx, By, G0.out, hW⟩
  case round =>
    clear hx2 hy2 hnx hny Bx By hW G0 Ba Bb
    obtain ⟨a3, c3, a4, c4, ks, ls, m, n, rfl, rfl, hk, hl, hnk, hnl, Bm, Bn, hG, hW⟩ := hrel
    by_cases h0 : 0 < ls.length
    · have hn0 : 0 < n := by
        have := hnl.nonneg (by decide)
        have h1 : ¬ n = 0 := fun e => by have := (hnl.zero_iff (by decide)).2 e; rw [this] at h0; simp at h0
        omega
      have hm0 := hnk.nonneg (by decide)
      have lk := len_big hnk Bm
      have ll := len_big hnl Bn
      have hrd := Lib.hid hl.rd
      go_wp2_with fail
      refine (over_any _ _ ks ls n _ hk hl hnk.dig hnl hn0 (by omega) (by omega)).mono ?_
      rintro e w2 ⟨⟨r, rfl, r1, r2, qs, rs, rfl, hq, hnq, hr, hnr⟩, hb2⟩
      rw [hnk.val] at hnq hnr
      obtain ⟨a5, c5, rfl⟩ := hq.shape
      obtain ⟨a6, c6, rfl⟩ := hr.shape
      have hlt := Int.emod_lt_of_pos m hn0
      have hmod := Int.emod_nonneg m (by omega : n ≠ 0)
      have hl2 := hl.below hb2
      have hrd2 := Lib.hid hr.rd
      have hW2 := kb_call hb2 hW (Nat.le_refl _)
      go_wp2
      go_roundw
      case rel => exact ⟨_, _, _, _, ls, rs, n, m % n, rfl, rfl, hl2, hr, hnl, hnr, Bn, by omega, (gcdZ_step hm0 hn0).trans hG.out, hW2⟩
      case measure =>
        show (val 10000 (rdSl _ _)).toNat < (val 10000 (rdSl _ _)).toNat
        rw [hrd.out, hrd2.out, hnl.val, hnr.val]
        omega
    · have e0 : ls = [] := List.eq_nil_of_length_eq_zero (by omega)
      have en := (hnl.zero_iff (by decide)).1 e0
      subst e0 en
      have hm0 := hnk.nonneg (by decide)
      have hf : sgn false m = gcdZ (zS a) (zS b) := by rw [← hG.out, gcdZ_zero hm0]; rfl
      have HF := Lib.hid hf
      have lk := len_big hnk Bm
      have hE2 := hE.below hW (Nat.le_refl _)
      clear hf hG
      go_wp2_with fail
      refine (text_any false _ ks m _ hE2 hk hnk (by omega)).mono ?_
      rintro e w2 ⟨rfl, hb2⟩
      rw [HF.out]
      go_wp2
      go_ret2
      exact ⟨⟨_, rfl, rfl⟩, kb_call hb2 hW (Nat.le_refl _)⟩
set_option maxRecDepth 100000 in
set_option maxHeartbeats 2000000 in
theorem gcd_bad (a b : ByteArray) (w : World) (h : okS a = false ∨ okS b = false) :
    Calls Tryz.prog 60 #[.string a, .string b] w (Gives w fun r _ => r = resT false 0) := by
  have Pk := fun W => both_bad a b W h
  go_enter Tryz.func60, Tryz.ntmps60
  go_wp2_with fail
  refine (Pk _).mono ?_
  rintro e W1 ⟨⟨r, rfl, rfl⟩, hb1⟩
  go_wp2
  go_ret2
  exact ⟨⟨_, rfl, rfl⟩, kb_call (below_two W1 _ _) hb1 (Nat.le_refl _)⟩
theorem resT_false (x y : Int) : resT false x = resT false y := rfl
theorem gcd_any (a b : ByteArray) (w : World) (hE : Env w) :
    Calls Tryz.prog 60 #[.string a, .string b] w (Gives w fun r _ => r = resT (okS a && okS b) (gcdZ (zS a) (zS b))) := by
  by_cases h : okS a = true ∧ okS b = true
  · rw [h.1, h.2]; exact gcd_ok a b w hE h.1 h.2
  · rw [(and_false_of h).1, resT_false (gcdZ (zS a) (zS b)) 0]; exact gcd_bad a b w (and_false_of h).2
end Go.Proofs.YtcmomjnailihpaaGreatDoor
/- The contracts of package integer on the texts of integers. -/
namespace Go.Proofs.YtcmomjnailihpaaGreatDoor
open Go.RowKit
attribute [local go_sem] Oper.semAt_some
def I (z : Int) : ByteArray := ⟨(Lib.itoa z).toArray⟩
theorem okS_I {z : Int} (h : Small z) : okS (I z) = true := valid_itoa h.1 h.2
theorem zS_I (z : Int) : zS (I z) = z := (ival_itoa z).1
def Bd (k : Nat) (z : Int) : Prop := -(10 ^ k) < z ∧ z < 10 ^ k
theorem Bd.small {k : Nat} {z : Int} (h : Bd k z) (hk : k ≤ 200) : Small z := by
  have := pow_mono (b := 10) (by decide) hk
  unfold Small Big; unfold Bd at h; omega
theorem Bd.mono {j k : Nat} {z : Int} (h : Bd j z) (hk : j ≤ k) : Bd k z := by
  have := pow_mono (b := 10) (by decide) hk
  unfold Bd at *; omega
theorem Bd.add {k : Nat} {x y : Int} (h : Bd k x) (g : Bd k y) : Bd (k + 1) (x + y) := by
  have : (10 : Int) ^ (k + 1) = 10 ^ k * 10 := Int.pow_succ ..
  unfold Bd at *; omega
theorem Bd.sub {k : Nat} {x y : Int} (h : Bd k x) (g : Bd k y) : Bd (k + 1) (x - y) := by
  have : (10 : Int) ^ (k + 1) = 10 ^ k * 10 := Int.pow_succ ..
  unfold Bd at *; omega
theorem Bd.abs {k : Nat} {x : Int} : Bd k x ↔ (x.natAbs : Int) < 10 ^ k := by unfold Bd; omega
theorem Bd.nat {k : Nat} {x : Int} : Bd k x ↔ x.natAbs < 10 ^ k := by
  rw [Bd.abs, show ((10 : Int) ^ k) = ((10 ^ k : Nat) : Int) by simp]; omega
theorem Bd.mul {j k : Nat} {x y : Int} (h : Bd j x) (g : Bd k y) : Bd (j + k) (x * y) := by
  rw [Bd.nat] at *
  rw [Int.natAbs_mul, Nat.pow_add]
  exact Nat.mul_lt_mul'' h g
theorem Bd.neg {k : Nat} {x : Int} (h : Bd k x) : Bd k (-x) := by unfold Bd at *; omega
theorem Bd.gcd {k : Nat} {x y : Int} (h : Bd k x) (g : Bd k y) : Bd k (gcdZ x y) := by
  rw [Bd.nat] at *
  unfold gcdZ
  rw [Int.natAbs_natCast]
  by_cases h0 : x = 0
  · subst h0; rw [Int.zero_gcd]; exact g
  · exact Nat.lt_of_le_of_lt (Int.gcd_le_natAbs_left y h0) h
theorem txt_small {z : Int} (h : Small z) : txt z = Lib.itoa z := if_pos h
theorem erz_small {z : Int} (h : Small z) : erz z = 0 := if_pos h
theorem txt_big {z : Int} (h : ¬ Small z) : txt z = [] := if_neg h
theorem erz_big {z : Int} (h : ¬ Small z) : erz z = 30 := if_neg h
theorem resT_small {z : Int} (h : Small z) : resT true z = .tuple #[.string (I z), .int .i64 0] := by unfold resT; rw [if_pos rfl, txt_small h, erz_small h]; rfl
theorem resT_big {z : Int} (h : ¬ Small z) : resT true z = .tuple #[.string ⟨#[]⟩, .int .i64 30] := by unfold resT; rw [if_pos rfl, txt_big h, erz_big h]
def Rets (w : World) (v : Value) : Ending → World → Prop := fun e w' => e = .returned v ∧ Below w.heap.size w w'
theorem Rets.of {f : FuncId} {args : Array Value} {w : World} {u v : Value} (h : Calls Tryz.prog f args w (Gives w fun r _ => r = u)) (e : u = v) : Calls Tryz.prog f args w (Rets w v) :=
  h.mono fun _ _ ⟨⟨r, h1, h2⟩, hb⟩ => ⟨by rw [h1, h2, e], hb⟩
section
variable {x y : Int} {a b : ByteArray} (ha : a = I x) (hb : b = I y) (hx : Small x) (hy : Small y) (w : World) (hE : Env w)
include ha hb hx hy hE
end
end Go.Proofs.YtcmomjnailihpaaGreatDoor
/- Lists of decimal digits as texts (no program). -/
namespace Go.Proofs.YtcmomjnailihpaaGreatDoor
open Go.RowKit
end Go.Proofs.YtcmomjnailihpaaGreatDoor
/- Facts for the tests of the laws. -/
namespace Go.Proofs.YtcmomjnailihpaaGreatDoor
open Go.RowKit
end Go.Proofs.YtcmomjnailihpaaGreatDoor
