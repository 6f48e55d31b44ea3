/- PkJ: RefQ RatX PickQ -/
import Derived.Test.YtebokdboodgkpaaGreatDoorPkF
import Derived.Test.YtebokdboodgkpaaGreatDoorPkH
import Derived.Test.YtebokdboodgkpaaGreatDoorPkI
import Derived.Test.YtebokdboodgkpaaGreatDoorPkD
/- The reference for fractions: Valid, Make, Of. -/
namespace Go.Proofs.YtebokdboodgkpaaGreatDoor
open Go.RowKit
attribute [local go_sem] Oper.semAt_some

theorem I_len {z : Int} (h : Small z) : (I z).size ≤ 201 := I_size (k := 200) h (by decide)
theorem I_len' {z : Int} (h : Small z) : (I z).size ≤ 9223372036854775807 := Nat.le_trans (I_len h) (by decide)
section
variable {x y : Int} {a b : ByteArray} (ha : a = I x) (hb : b = I y) (hx : Small x) (hy : Small y) (w : World)
include ha hb hx hy
theorem rsub_is (hs : Small (x - y)) : Calls Tryz.prog 84 #[.string a, .string b] w (Rets w (.tuple #[.string (I (x - y)), .int .i64 0])) := by
  refine Rets.of (rsub_any a b (by rw [ha]; exact I_len' hx) (by rw [hb]; exact I_len' hy) w) ?_
  rw [ha, hb, okS_I hx, okS_I hy, zS_I, zS_I]; exact resT_small hs
theorem rgcd_is : Calls Tryz.prog 75 #[.string a, .string b] w (Rets w (.tuple #[.string (I (gcdZ x y)), .int .i64 0])) := by
  refine Rets.of (rgcd_any a b (by rw [ha]; exact I_len' hx) (by rw [hb]; exact I_len' hy) w) ?_
  rw [ha, hb, okS_I hx, okS_I hy, zS_I, zS_I]; exact resT_small (gcdZ_small hx hy)
theorem rdiv_is (h0 : y ≠ 0) : Calls Tryz.prog 68 #[.string a, .string b] w (Rets w (.tuple #[.string (I (x / y)), .string (I (x % y)), .int .i64 0])) := by
  refine Rets.of (rdiv_any a b (by rw [ha]; exact I_len' hx) (by rw [hb]; exact I_len' hy) w) ?_
  rw [ha, hb, okS_I hx, okS_I hy, zS_I, zS_I]
  unfold divT
  rw [if_pos (by simpa using h0)]; rfl
theorem rcmp_is : Calls Tryz.prog 69 #[.string a, .string b] w (Rets w (.int .i64 (Lib.compareInt x y))) := by
  refine (rcmp_any a b (by rw [ha]; exact I_len' hx) (by rw [hb]; exact I_len' hy) w).mono fun _ _ h => ⟨?_, h.2⟩
  rw [h.1, ha, hb]
  unfold cmpS
  rw [okS_I hx, okS_I hy, zS_I, zS_I]; rfl
end

set_option maxRecDepth 100000 in
set_option maxHeartbeats 8000000 in
theorem qrvalid_bad (n d : ByteArray) (hsn : n.size ≤ 9223372036854775807) (hsd : d.size ≤ 9223372036854775807) (h : okS n = false ∨ okS d = false) (w : World) :
    Calls Tryz.prog 52 #[.agg #[.string n, .string d]] w (Rets w (.bool (false))) := by
  have V1 := fun W => rvalid_any n hsn W
  have V2 := fun W => rvalid_any d hsd W
  have hor : okS n = false ∨ okS n = true ∧ okS d = false := by cases hn : okS n with
    | false => exact Or.inl rfl
    | true => rcases h with h | h; rw [hn] at h; cases h; exact Or.inr ⟨rfl, h⟩
  generalize okS n = a at *
  generalize okS d = b at *
  clear h
  obtain ⟨W0, hW0, hk0, hB0⟩ := box_two w (.string n) (.string d) 27
  obtain ⟨c0, c1⟩ := blk_two hk0
  rcases hor with rfl | ⟨rfl, rfl⟩
  all_goals
    go_enter Tryz.func52, Tryz.ntmps52
    go_wp2_with fail
    rw [← hW0]
    clear hW0
    refine (V1 _).mono ?_
    rintro e w1 ⟨rfl, hb⟩
    have hk1 := hk0.below hb
    have hB1 := kb_call hb hB0 (Nat.le_refl _)
    clear c0 c1 hk0 hB0 hb
    obtain ⟨c0, c1⟩ := blk_two hk1
    go_wp2_with fail
    refine (V2 _).mono ?_
    rintro e w2 ⟨rfl, hb⟩
    have hk2 := hk1.below hb
    have hB2 := kb_call hb hB1 (Nat.le_refl _)
    clear c0 c1 hk1 hB1 hb
    obtain ⟨c0, c1⟩ := blk_two hk2
    go_wp2
    go_ret
    exact ⟨rfl, hB2⟩
set_option maxRecDepth 100000 in
set_option maxHeartbeats 8000000 in
theorem qrvalid_low (n d : ByteArray) (hsn : n.size ≤ 9223372036854775807) (hsd : d.size ≤ 9223372036854775807) (hn : okS n = true) (hd : okS d = true) (h0 : ¬ 0 < zS d) (w : World) :
    Calls Tryz.prog 52 #[.agg #[.string n, .string d]] w (Rets w (.bool (false))) := by
  have V1 := fun W => rvalid_any n hsn W
  have V2 := fun W => rvalid_any d hsd W
  have C1 := fun W => rcmp_is (txtS hd) lit_zero (smallS hd) small_zero W
  obtain ⟨c, hc, hc0, _⟩ := cmp_le (x := zS d) (y := 0) (by omega)
  rw [hn] at V1
  rw [hd] at V2
  rw [← hc] at C1
  obtain ⟨W0, hW0, hk0, hB0⟩ := box_two w (.string n) (.string d) 27
  obtain ⟨c0, c1⟩ := blk_two hk0
  clear hn hd h0 hc
  go_enter Tryz.func52, Tryz.ntmps52
  go_wp2_with fail
  rw [← hW0]
  clear hW0
  refine (V1 _).mono ?_
  rintro e w1 ⟨rfl, hb⟩
  have hk1 := hk0.below hb
  have hB1 := kb_call hb hB0 (Nat.le_refl _)
  clear c0 c1 hk0 hB0 hb
  obtain ⟨c0, c1⟩ := blk_two hk1
  go_wp2_with fail
  refine (V2 _).mono ?_
  rintro e w2 ⟨rfl, hb⟩
  have hk2 := hk1.below hb
  have hB2 := kb_call hb hB1 (Nat.le_refl _)
  clear c0 c1 hk1 hB1 hb
  obtain ⟨c0, c1⟩ := blk_two hk2
  go_wp2_with fail
  refine (C1 _).mono ?_
  rintro e w3 ⟨rfl, hb⟩
  have hB3 := kb_call hb hB2 (Nat.le_refl _)
  clear c0 c1 hk2 hB2 hb
  go_wp2
  go_ret
  exact ⟨rfl, hB3⟩
set_option maxRecDepth 100000 in
set_option maxHeartbeats 8000000 in
theorem qrvalid_ok (n d : ByteArray) (hsn : n.size ≤ 9223372036854775807) (hsd : d.size ≤ 9223372036854775807) (hn : okS n = true) (hd : okS d = true) (h0 : 0 < zS d) (w : World) :
    Calls Tryz.prog 52 #[.agg #[.string n, .string d]] w (Rets w (.bool (decide (gcdZ (zS n) (zS d) = 1)))) := by
  have V1 := fun W => rvalid_any n hsn W
  have V2 := fun W => rvalid_any d hsd W
  have C1 := fun W => rcmp_is (txtS hd) lit_zero (smallS hd) small_zero W
  have G1 := fun W => rgcd_is (txtS hn) (txtS hd) (smallS hn) (smallS hd) W
  rw [hn] at V1
  rw [hd] at V2
  rw [compareInt_gt h0] at C1
  obtain ⟨g, Hg⟩ : ∃ g : ByteArray, Hid (g = I (gcdZ (zS n) (zS d))) := ⟨_, rfl⟩
  rw [← Hg.out] at G1
  have hs := str_one Hg.out
  generalize decide (gcdZ (zS n) (zS d) = 1) = b at *
  obtain ⟨W0, hW0, hk0, hB0⟩ := box_two w (.string n) (.string d) 27
  obtain ⟨c0, c1⟩ := blk_two hk0
  clear hn hd h0
  go_enter Tryz.func52, Tryz.ntmps52
  go_wp2_with fail
  rw [← hW0]
  clear hW0
  refine (V1 _).mono ?_
  rintro e w1 ⟨rfl, hb⟩
  have hk1 := hk0.below hb
  have hB1 := kb_call hb hB0 (Nat.le_refl _)
  clear c0 c1 hk0 hB0 hb
  obtain ⟨c0, c1⟩ := blk_two hk1
  go_wp2_with fail
  refine (V2 _).mono ?_
  rintro e w2 ⟨rfl, hb⟩
  have hk2 := hk1.below hb
  have hB2 := kb_call hb hB1 (Nat.le_refl _)
  clear c0 c1 hk1 hB1 hb
  obtain ⟨c0, c1⟩ := blk_two hk2
  go_wp2_with fail
  refine (C1 _).mono ?_
  rintro e w3 ⟨rfl, hb⟩
  have hk3 := hk2.below hb
  have hB3 := kb_call hb hB2 (Nat.le_refl _)
  clear c0 c1 hk2 hB2 hb
  obtain ⟨c0, c1⟩ := blk_two hk3
  go_wp2_with fail
  refine (G1 _).mono ?_
  rintro e w4 ⟨rfl, hb⟩
  have hB4 := kb_call hb hB3 (Nat.le_refl _)
  clear c0 c1 hk3 hB3 hb
  go_wp2
  go_ret
  exact ⟨rfl, hB4⟩
/-- putlogref04.Valid. -/
theorem qrvalid_any (n d : ByteArray) (hsn : n.size ≤ 9223372036854775807) (hsd : d.size ≤ 9223372036854775807) (w : World) :
    Calls Tryz.prog 52 #[.agg #[.string n, .string d]] w (Rets w (.bool (rOk n d))) := by
  unfold rOk
  by_cases h : okS n = true ∧ okS d = true
  · rw [h.1, h.2]
    by_cases h0 : 0 < zS d
    · rw [decide_eq_true h0]; exact qrvalid_ok n d hsn hsd h.1 h.2 h0 w
    · rw [decide_eq_false h0]; exact qrvalid_low n d hsn hsd h.1 h.2 h0 w
  · rw [(and_false_of h).1]; exact qrvalid_bad n d hsn hsd (and_false_of h).2 w

set_option maxRecDepth 100000 in
set_option maxHeartbeats 8000000 in
theorem qrmake_bad (a b : ByteArray) (hsa : a.size ≤ 9223372036854775807) (hsb : b.size ≤ 9223372036854775807) (h : okS a = false ∨ okS b = false) (w : World) :
    Calls Tryz.prog 57 #[.string a, .string b] w (Rets w (qT false 0)) := by
  have V1 := fun W => rvalid_any a hsa W
  have V2 := fun W => rvalid_any b hsb W
  have hor : okS a = false ∨ okS a = true ∧ okS b = false := by cases hn : okS a with
    | false => exact Or.inl rfl
    | true => rcases h with h | h; rw [hn] at h; cases h; exact Or.inr ⟨rfl, h⟩
  generalize okS a = c1 at *
  generalize okS b = c2 at *
  clear h
  rcases hor with rfl | ⟨rfl, rfl⟩
  all_goals
    obtain ⟨W0, hW0, hR0, hB0⟩ := box_two w (.string ⟨#[]⟩) (.string ⟨#[]⟩) 27
    go_enter Tryz.func57, Tryz.ntmps57
    go_wp2_with fail
    rw [← hW0]
    clear hW0
    refine (V1 _).mono ?_
    rintro e w1 ⟨rfl, hb⟩
    have hR1 := hR0.below hb
    have hB1 := kb_call hb hB0 (Nat.le_refl _)
    clear hR0 hB0 hb
    go_wp2_with fail
    refine (V2 _).mono ?_
    rintro e w2 ⟨rfl, hb⟩
    have hR2 := hR1.below hb
    have hB2 := kb_call hb hB1 (Nat.le_refl _)
    clear hR1 hB1 hb
    obtain ⟨k0, k1, q0, q1, y0, y1, hfin⟩ := res_after hR2 ⟨#[]⟩ ⟨#[]⟩
    have hfin := Lib.hid (hfin w hB2 (Nat.le_refl _))
    clear hR2 hB2
    go_wp2
    exact bodyPost_ret (v := .tuple #[.agg #[.string ⟨#[]⟩, .string ⟨#[]⟩], .int .i64 40]) (by simp [results, Tryz.results57, go_sem, y0, y1]) rfl ⟨rfl, hfin.out⟩
set_option maxRecDepth 100000 in
set_option maxHeartbeats 8000000 in
theorem qrmake_zero (a b : ByteArray) (hsa : a.size ≤ 9223372036854775807) (hsb : b.size ≤ 9223372036854775807) (ha : okS a = true) (hb : okS b = true) (h0 : zS b = 0) (w : World) :
    Calls Tryz.prog 57 #[.string a, .string b] w (Rets w (qT false 0)) := by
  have V1 := fun W => rvalid_any a hsa W
  have V2 := fun W => rvalid_any b hsb W
  have hz := toList_zero ((txtS hb).trans (congrArg I h0))
  rw [ha] at V1
  rw [hb] at V2
  clear ha hb h0
  obtain ⟨W0, hW0, hR0, hB0⟩ := box_two w (.string ⟨#[]⟩) (.string ⟨#[]⟩) 27
  go_enter Tryz.func57, Tryz.ntmps57
  go_wp2_with fail
  rw [← hW0]
  clear hW0
  refine (V1 _).mono ?_
  rintro e w1 ⟨rfl, hb⟩
  have hR1 := hR0.below hb
  have hB1 := kb_call hb hB0 (Nat.le_refl _)
  clear hR0 hB0 hb
  go_wp2_with fail
  refine (V2 _).mono ?_
  rintro e w2 ⟨rfl, hb⟩
  have hR2 := hR1.below hb
  have hB2 := kb_call hb hB1 (Nat.le_refl _)
  clear hR1 hB1 hb
  obtain ⟨k0, k1, q0, q1, y0, y1, hfin⟩ := res_after hR2 ⟨#[]⟩ ⟨#[]⟩
  have hfin := Lib.hid (hfin w hB2 (Nat.le_refl _))
  clear hR2 hB2
  go_wp2
  exact bodyPost_ret (v := .tuple #[.agg #[.string ⟨#[]⟩, .string ⟨#[]⟩], .int .i64 40]) (by simp [results, Tryz.results57, go_sem, y0, y1]) rfl ⟨rfl, hfin.out⟩
set_option maxRecDepth 100000 in
set_option maxHeartbeats 8000000 in
theorem qrmake_pos (a b : ByteArray) (hsa : a.size ≤ 9223372036854775807) (hsb : b.size ≤ 9223372036854775807) (ha : okS a = true) (hb : okS b = true) (h0 : 0 < zS b) (w : World) :
    Calls Tryz.prog 57 #[.string a, .string b] w (Rets w (qT true (Rat.divInt (zS a) (zS b)))) := by
  have V1 := fun W => rvalid_any a hsa W
  have V2 := fun W => rvalid_any b hsb W
  have sx := smallS ha
  have sy := smallS hb
  have hne := str_ne_zero (txtS hb) (show zS b ≠ 0 by omega)
  have C1 := fun W => rcmp_is (txtS hb) lit_zero sy small_zero W
  rw [compareInt_gt h0] at C1
  have hg0 : gcdZ (zS a) (zS b) ≠ 0 := by have := gcdZ_pos (x := zS a) h0; omega
  have hgs := gcdZ_small sx sy
  have G1 := fun W => rgcd_is (x := zS a) (y := zS b) (txtS ha) (txtS hb) sx sy W
  have D1 := fun W => rdiv_is (x := zS a) (y := gcdZ (zS a) (zS b)) (txtS ha) rfl sx hgs W hg0
  have D2 := fun W => rdiv_is (x := zS b) (y := gcdZ (zS a) (zS b)) (txtS hb) rfl sy hgs W hg0
  have HQ := Lib.hid (show Value.tuple #[.agg #[.string (I ((zS a) / gcdZ (zS a) (zS b))), .string (I ((zS b) / gcdZ (zS a) (zS b)))], .int .i64 0] = qT true (Rat.divInt (zS a) (zS b)) by
    rw [qT_true]; unfold numS denS; rw [(divInt_parts h0).1, (divInt_parts h0).2])
  rw [ha] at V1
  rw [hb] at V2
  generalize I ((zS a) / gcdZ (zS a) (zS b)) = p at *
  generalize I ((zS b) / gcdZ (zS a) (zS b)) = q at *
  generalize I ((zS a) % gcdZ (zS a) (zS b)) = r1 at *
  generalize I ((zS b) % gcdZ (zS a) (zS b)) = r2 at *
  generalize I (gcdZ (zS a) (zS b)) = g at *
  clear ha hb h0 hg0 
  obtain ⟨W0, hW0, hR0, hB0⟩ := box_two w (.string ⟨#[]⟩) (.string ⟨#[]⟩) 27
  go_enter Tryz.func57, Tryz.ntmps57
  go_wp2_with fail
  rw [← hW0]
  clear hW0
  refine (V1 _).mono ?_
  rintro e w1 ⟨rfl, hb⟩
  have hR1 := hR0.below hb
  have hB1 := kb_call hb hB0 (Nat.le_refl _)
  clear hR0 hB0 hb
  go_wp2_with fail
  refine (V2 _).mono ?_
  rintro e w2 ⟨rfl, hb⟩
  have hR2 := hR1.below hb
  have hB2 := kb_call hb hB1 (Nat.le_refl _)
  clear hR1 hB1 hb
  go_wp2_with fail
  refine (C1 _).mono ?_
  rintro e w3 ⟨rfl, hb⟩
  have hR3 := hR2.below hb
  have hB3 := kb_call hb hB2 (Nat.le_refl _)
  clear hR2 hB2 hb
  go_wp2_with fail
  refine (G1 _).mono ?_
  rintro e w4 ⟨rfl, hb⟩
  have hR4 := hR3.below hb
  have hB4 := kb_call hb hB3 (Nat.le_refl _)
  clear hR3 hB3 hb
  go_wp2_with fail
  refine (D1 _).mono ?_
  rintro e w5 ⟨rfl, hb⟩
  have hR5 := hR4.below hb
  have hB5 := kb_call hb hB4 (Nat.le_refl _)
  clear hR4 hB4 hb
  go_wp2_with fail
  refine (D2 _).mono ?_
  rintro e w6 ⟨rfl, hb⟩
  have hR6 := hR5.below hb
  have hB6 := kb_call hb hB5 (Nat.le_refl _)
  clear hR5 hB5 hb
  obtain ⟨k0, k1, q0, q1, y0, y1, hfin⟩ := res_after hR6 p q
  have hfin := Lib.hid (hfin w hB6 (Nat.le_refl _))
  clear hR6 hB6
  go_wp2
  exact bodyPost_ret (v := .tuple #[.agg #[.string p, .string q], .int .i64 0]) (by simp [results, Tryz.results57, go_sem, y0, y1]) rfl ⟨congrArg Ending.returned HQ.out, hfin.out⟩
set_option maxRecDepth 100000 in
set_option maxHeartbeats 8000000 in
theorem qrmake_neg (a b : ByteArray) (hsa : a.size ≤ 9223372036854775807) (hsb : b.size ≤ 9223372036854775807) (ha : okS a = true) (hb : okS b = true) (h0 : zS b < 0) (w : World) :
    Calls Tryz.prog 57 #[.string a, .string b] w (Rets w (qT true (Rat.divInt (zS a) (zS b)))) := by
  have V1 := fun W => rvalid_any a hsa W
  have V2 := fun W => rvalid_any b hsb W
  have sx := smallS ha
  have sy := smallS hb
  have hne := str_ne_zero (txtS hb) (show zS b ≠ 0 by omega)
  have C1 := fun W => rcmp_is (txtS hb) lit_zero sy small_zero W
  rw [compareInt_lt h0] at C1
  have tx := small_neg sx
  have ty := small_neg sy
  have S1 := fun W => rsub_is lit_zero (txtS ha) small_zero sx W (by rw [Int.zero_sub]; exact tx)
  have S2 := fun W => rsub_is lit_zero (txtS hb) small_zero sy W (by rw [Int.zero_sub]; exact ty)
  rw [Int.zero_sub] at S1 S2
  have h0' : 0 < -zS b := by omega
  have hg0 : gcdZ (-zS a) (-zS b) ≠ 0 := by have := gcdZ_pos (x := -zS a) h0'; omega
  have hgs := gcdZ_small tx ty
  have G1 := fun W => rgcd_is (x := -zS a) (y := -zS b) rfl rfl tx ty W
  have D1 := fun W => rdiv_is (x := -zS a) (y := gcdZ (-zS a) (-zS b)) rfl rfl tx hgs W hg0
  have D2 := fun W => rdiv_is (x := -zS b) (y := gcdZ (-zS a) (-zS b)) rfl rfl ty hgs W hg0
  have HQ := Lib.hid (show Value.tuple #[.agg #[.string (I ((-zS a) / gcdZ (-zS a) (-zS b))), .string (I ((-zS b) / gcdZ (-zS a) (-zS b)))], .int .i64 0] = qT true (Rat.divInt (zS a) (zS b)) by
    rw [← divInt_neg_neg, qT_true]; unfold numS denS; rw [(divInt_parts h0').1, (divInt_parts h0').2])
  rw [ha] at V1
  rw [hb] at V2
  generalize I ((-zS a) / gcdZ (-zS a) (-zS b)) = p at *
  generalize I ((-zS b) / gcdZ (-zS a) (-zS b)) = q at *
  generalize I ((-zS a) % gcdZ (-zS a) (-zS b)) = r1 at *
  generalize I ((-zS b) % gcdZ (-zS a) (-zS b)) = r2 at *
  generalize I (gcdZ (-zS a) (-zS b)) = g at *
  generalize I (-zS a) = a' at *
  generalize I (-zS b) = b' at *
  clear ha hb h0 hg0 h0'
  obtain ⟨W0, hW0, hR0, hB0⟩ := box_two w (.string ⟨#[]⟩) (.string ⟨#[]⟩) 27
  go_enter Tryz.func57, Tryz.ntmps57
  go_wp2_with fail
  rw [← hW0]
  clear hW0
  refine (V1 _).mono ?_
  rintro e w1 ⟨rfl, hb⟩
  have hR1 := hR0.below hb
  have hB1 := kb_call hb hB0 (Nat.le_refl _)
  clear hR0 hB0 hb
  go_wp2_with fail
  refine (V2 _).mono ?_
  rintro e w2 ⟨rfl, hb⟩
  have hR2 := hR1.below hb
  have hB2 := kb_call hb hB1 (Nat.le_refl _)
  clear hR1 hB1 hb
  go_wp2_with fail
  refine (C1 _).mono ?_
  rintro e w3 ⟨rfl, hb⟩
  have hR3 := hR2.below hb
  have hB3 := kb_call hb hB2 (Nat.le_refl _)
  clear hR2 hB2 hb
  go_wp2_with fail
  refine (S1 _).mono ?_
  rintro e w4 ⟨rfl, hb⟩
  have hR4 := hR3.below hb
  have hB4 := kb_call hb hB3 (Nat.le_refl _)
  clear hR3 hB3 hb
  go_wp2_with fail
  refine (S2 _).mono ?_
  rintro e w5 ⟨rfl, hb⟩
  have hR5 := hR4.below hb
  have hB5 := kb_call hb hB4 (Nat.le_refl _)
  clear hR4 hB4 hb
  go_wp2_with fail
  refine (G1 _).mono ?_
  rintro e w6 ⟨rfl, hb⟩
  have hR6 := hR5.below hb
  have hB6 := kb_call hb hB5 (Nat.le_refl _)
  clear hR5 hB5 hb
  go_wp2_with fail
  refine (D1 _).mono ?_
  rintro e w7 ⟨rfl, hb⟩
  have hR7 := hR6.below hb
  have hB7 := kb_call hb hB6 (Nat.le_refl _)
  clear hR6 hB6 hb
  go_wp2_with fail
  refine (D2 _).mono ?_
  rintro e w8 ⟨rfl, hb⟩
  have hR8 := hR7.below hb
  have hB8 := kb_call hb hB7 (Nat.le_refl _)
  clear hR7 hB7 hb
  obtain ⟨k0, k1, q0, q1, y0, y1, hfin⟩ := res_after hR8 p q
  have hfin := Lib.hid (hfin w hB8 (Nat.le_refl _))
  clear hR8 hB8
  go_wp2
  exact bodyPost_ret (v := .tuple #[.agg #[.string p, .string q], .int .i64 0]) (by simp [results, Tryz.results57, go_sem, y0, y1]) rfl ⟨congrArg Ending.returned HQ.out, hfin.out⟩
/-- putlogref04.Make. -/
theorem qrmake_any (a b : ByteArray) (hsa : a.size ≤ 9223372036854775807) (hsb : b.size ≤ 9223372036854775807) (w : World) :
    Calls Tryz.prog 57 #[.string a, .string b] w (Rets w (qT (okS a && okS b && decide (zS b ≠ 0)) (Rat.divInt (zS a) (zS b)))) := by
  by_cases h : okS a = true ∧ okS b = true
  · rw [h.1, h.2]
    rcases Int.lt_trichotomy (zS b) 0 with h0 | h0 | h0
    · rw [decide_eq_true (show zS b ≠ 0 by omega)]; exact qrmake_neg a b hsa hsb h.1 h.2 h0 w
    · rw [decide_eq_false (show ¬ zS b ≠ 0 by omega), show (true && true && false) = false from rfl, qT_false _ 0]; exact qrmake_zero a b hsa hsb h.1 h.2 h0 w
    · rw [decide_eq_true (show zS b ≠ 0 by omega)]; exact qrmake_pos a b hsa hsb h.1 h.2 h0 w
  · rw [(and_false_of h).1, Bool.false_and, qT_false _ 0]; exact qrmake_bad a b hsa hsb (and_false_of h).2 w

set_option maxRecDepth 100000 in
set_option maxHeartbeats 8000000 in
/-- putlogref04.Of. -/
theorem qrof_any (n d : Int) (hn : Fits n) (hd : Fits d) (w : World) :
    Calls Tryz.prog 29 #[.int .i64 n, .int .i64 d] w (Rets w (qT (decide (d ≠ 0)) (Rat.divInt n d))) := by
  have F1 := fun W => Rets.of (rfrom_any n hn.1 hn.2 W) rfl
  have F2 := fun W => Rets.of (rfrom_any d hd.1 hd.2 W) rfl
  have Bn : Bd 20 n := by unfold Fits at hn; unfold Bd; omega
  have Bq : Bd 20 d := by unfold Fits at hd; unfold Bd; omega
  have sn := Bn.small (by decide)
  have sd := Bq.small (by decide)
  have M1 := fun W => qrmake_any (I n) (I d) (I_len' sn) (I_len' sd) W
  rw [okS_I sn, okS_I sd, zS_I, zS_I, show (true && true && decide (d ≠ 0)) = decide (d ≠ 0) from rfl] at M1
  generalize decide (d ≠ 0) = c at *
  obtain ⟨s, t, e, hq⟩ := qT_shape c (Rat.divInt n d)
  rw [hq] at M1 ⊢
  clear hq
  generalize I n = a at *
  generalize I d = b at *
  clear hn hd Bn Bq sn sd
  obtain ⟨W0, hW0, hR0, hB0⟩ := box_two w (.string ⟨#[]⟩) (.string ⟨#[]⟩) 27
  go_enter Tryz.func29, Tryz.ntmps29
  go_wp2_with fail
  rw [← hW0]
  clear hW0
  refine (F1 _).mono ?_
  rintro e w1 ⟨rfl, hb⟩
  have hR1 := hR0.below hb
  have hB1 := kb_call hb hB0 (Nat.le_refl _)
  clear hR0 hB0 hb
  go_wp2_with fail
  refine (F2 _).mono ?_
  rintro e w2 ⟨rfl, hb⟩
  have hR2 := hR1.below hb
  have hB2 := kb_call hb hB1 (Nat.le_refl _)
  clear hR1 hB1 hb
  go_wp2_with fail
  refine (M1 _).mono ?_
  rintro e w3 ⟨rfl, hb⟩
  have hR3 := hR2.below hb
  have hB3 := kb_call hb hB2 (Nat.le_refl _)
  clear hR2 hB2 hb
  obtain ⟨k0, k1, q0, q1, y0, y1, hfin⟩ := res_after hR3 s t
  have hfin := Lib.hid (hfin w hB3 (Nat.le_refl _))
  clear hR3 hB3 M1 F1 F2
  go_wp2
  exact bodyPost_ret (v := .tuple #[.agg #[.string s, .string t], .int .i64 e]) (by simp [results, Tryz.results29, go_sem, y0, y1]) rfl ⟨rfl, hfin.out⟩
end Go.Proofs.YtebokdboodgkpaaGreatDoor

/- package rational in terms of optional fractions: none is what an error returns. -/
namespace Go.Proofs.YtebokdboodgkpaaGreatDoor
open Go.RowKit
attribute [local go_sem] Oper.semAt_some

/-- The texts of what an operation returned. -/
def tN (o : Option Rat) : ByteArray := match o with
  | some r => numS r
  | none => ⟨#[]⟩
def tD (o : Option Rat) : ByteArray := match o with
  | some r => denS r
  | none => ⟨#[]⟩
def eO (o : Option Rat) : Int := match o with
  | some _ => 0
  | none => 40
/-- What an operation returned. -/
def oV (o : Option Rat) : Value := .tuple #[.agg #[.string (tN o), .string (tD o)], .int .i64 (eO o)]
def OkO (o : Option Rat) : Prop := ∀ r, o = some r → SmallQ r
theorem OkO.none : OkO none := fun r h => by cases h
theorem OkO.some {r : Rat} (h : SmallQ r) : OkO (some r) := fun s e => by cases e; exact h
def oIf (c : Bool) (r : Rat) : Option Rat := if c then some r else none
theorem qT_oIf (c : Bool) (r : Rat) : qT c r = oV (oIf c r) := by cases c <;> rfl
theorem OkO.oIf {c : Bool} {r : Rat} (h : c = true → SmallQ r) : OkO (oIf c r) := by
  unfold Proofs.YtebokdboodgkpaaGreatDoor.oIf
  split
  · exact OkO.some (h ‹_›)
  · exact OkO.none
theorem rOk_t {o : Option Rat} (h : OkO o) : rOk (tN o) (tD o) = o.isSome := by
  cases o with
  | none => show rOk ⟨#[]⟩ ⟨#[]⟩ = false; decide +kernel
  | some r => exact rOk_of rfl rfl (h r rfl)
theorem zN (r : Rat) : zS (tN (some r)) = r.num := zS_I _
theorem zD (r : Rat) : zS (tD (some r)) = r.den := zS_I _

theorem rat_parts (r : Rat) : r = Rat.divInt r.num r.den := (divInt_self_parts r).symm
theorem den_ne (r : Rat) : (r.den : Int) ≠ 0 := by have := r.den_pos; omega
theorem add_divInt (x y : Rat) : Rat.divInt (x.num * y.den + y.num * x.den) (x.den * y.den) = x + y := by
  rw [Rat.add_def', ← Rat.divInt_ofNat, Int.natCast_mul]
theorem sub_divInt (x y : Rat) : Rat.divInt (x.num * y.den - y.num * x.den) (x.den * y.den) = x - y := by
  rw [Rat.sub_def', ← Rat.divInt_ofNat, Int.natCast_mul]
theorem mul_divInt (x y : Rat) : Rat.divInt (x.num * y.num) (x.den * y.den) = x * y := by
  rw [Rat.mul_def', ← Rat.divInt_ofNat, Int.natCast_mul]
theorem div_divInt (x y : Rat) : Rat.divInt (x.num * y.den) (x.den * y.num) = x / y := by
  rw [Rat.div_def, Rat.inv_def]
  conv => rhs; rw [rat_parts x]
  rw [Rat.divInt_mul_divInt]

/-- Whether the products of the definition have few enough digits. -/
def fAdd (x y : Rat) : Bool := decide (Small (x.num * y.den)) && decide (Small (y.num * x.den)) && decide (Small (x.num * y.den + y.num * x.den)) && decide (Small ((x.den : Int) * y.den))
def fSub (x y : Rat) : Bool := decide (Small (x.num * y.den)) && decide (Small (y.num * x.den)) && decide (Small (x.num * y.den - y.num * x.den)) && decide (Small ((x.den : Int) * y.den))
def fMul (x y : Rat) : Bool := decide (Small (x.num * y.num)) && decide (Small ((x.den : Int) * y.den))
def fDiv (x y : Rat) : Bool := decide (Small (x.num * y.den)) && decide (Small ((x.den : Int) * y.num)) && decide (y ≠ 0)
def oBin (f : Rat → Rat → Bool) (g : Rat → Rat → Rat) (a b : Option Rat) : Option Rat := match a, b with
  | some x, some y => oIf (f x y) (g x y)
  | _, _ => none
def oAdd := oBin fAdd (· + ·)
def oSub := oBin fSub (· - ·)
def oMul := oBin fMul (· * ·)
def oDiv := oBin fDiv (· / ·)
theorem den_mul_ne (x y : Rat) : (x.den : Int) * y.den ≠ 0 := Int.mul_ne_zero (den_ne x) (den_ne y)
theorem small_of_den {x y : Rat} {n : Int} (h : Small n) (hd : Small ((x.den : Int) * y.den)) : SmallQ (Rat.divInt n (x.den * y.den)) :=
  smallQ_divInt h hd (Int.mul_pos (rat_den_pos x) (rat_den_pos y))
theorem OkO.add {a b : Option Rat} : OkO (oAdd a b) := by
  cases a with
  | none => exact OkO.none
  | some x => cases b with
    | none => exact OkO.none
    | some y =>
      refine OkO.oIf fun e => ?_
      unfold fAdd at e
      simp at e
      show SmallQ (x + y)
      rw [← add_divInt]
      exact small_of_den e.1.2 e.2
theorem OkO.sub {a b : Option Rat} : OkO (oSub a b) := by
  cases a with
  | none => exact OkO.none
  | some x => cases b with
    | none => exact OkO.none
    | some y =>
      refine OkO.oIf fun e => ?_
      unfold fSub at e
      simp at e
      show SmallQ (x - y)
      rw [← sub_divInt]
      exact small_of_den e.1.2 e.2
theorem OkO.mul {a b : Option Rat} : OkO (oMul a b) := by
  cases a with
  | none => exact OkO.none
  | some x => cases b with
    | none => exact OkO.none
    | some y =>
      refine OkO.oIf fun e => ?_
      unfold fMul at e
      simp at e
      show SmallQ (x * y)
      rw [← mul_divInt]
      exact small_of_den e.1 e.2
theorem OkO.div {a b : Option Rat} : OkO (oDiv a b) := by
  cases a with
  | none => exact OkO.none
  | some x => cases b with
    | none => exact OkO.none
    | some y =>
      refine OkO.oIf fun e => ?_
      unfold fDiv at e
      simp at e
      obtain ⟨⟨e1, e2⟩, e3⟩ := e
      show SmallQ (x / y)
      rw [← div_divInt]
      have hy : y.num ≠ 0 := fun h => e3 (Rat.num_eq_zero.1 h)
      rcases Int.lt_or_gt_of_ne hy with h | h
      · rw [← divInt_neg_neg]
        refine smallQ_divInt (small_neg e1) (small_neg e2) ?_
        have := Int.mul_pos (rat_den_pos x) (show 0 < -y.num by omega)
        rw [Int.mul_neg] at this
        exact this
      · exact smallQ_divInt e1 e2 (Int.mul_pos (rat_den_pos x) h)

theorem oAdd_some (x y : Rat) : oAdd (some x) (some y) = oIf (fAdd x y) (x + y) := rfl
theorem oSub_some (x y : Rat) : oSub (some x) (some y) = oIf (fSub x y) (x - y) := rfl
theorem oMul_some (x y : Rat) : oMul (some x) (some y) = oIf (fMul x y) (x * y) := rfl
theorem oDiv_some (x y : Rat) : oDiv (some x) (some y) = oIf (fDiv x y) (x / y) := rfl
theorem qT_none {c : Bool} {r : Rat} (h : c = false) : qT c r = oV none := by rw [h]; rfl
section
variable {a b : Option Rat} (ha : OkO a) (hb : OkO b) (w : World) (hE : Env w)
include ha hb hE
theorem qadd_o : Calls Tryz.prog 54 #[.agg #[.string (tN a), .string (tD a)], .agg #[.string (tN b), .string (tD b)]] w (Rets w (oV (oAdd a b))) := by
  have h := qAdd_any (tN a) (tD a) (tN b) (tD b) w hE
  rw [rOk_t ha, rOk_t hb] at h
  cases a with
  | none => rw [show ((none : Option Rat).isSome && b.isSome) = false from rfl, Bool.false_and, Bool.false_and, Bool.false_and, Bool.false_and, Bool.false_and, qT_none rfl] at h; exact h
  | some x => cases b with
    | none => rw [show ((some x).isSome && (none : Option Rat).isSome) = false from rfl, Bool.false_and, Bool.false_and, Bool.false_and, Bool.false_and, Bool.false_and, qT_none rfl] at h; exact h
    | some y =>
      rw [zN, zN, zD, zD, add_divInt, decide_eq_true (den_mul_ne x y), Bool.and_true, show ((some x).isSome && (some y).isSome) = true from rfl, Bool.true_and, qT_oIf] at h
      rw [oAdd_some]; unfold fAdd; exact h
theorem qmul_o : Calls Tryz.prog 53 #[.agg #[.string (tN a), .string (tD a)], .agg #[.string (tN b), .string (tD b)]] w (Rets w (oV (oMul a b))) := by
  have h := qMul_any (tN a) (tD a) (tN b) (tD b) w hE
  rw [rOk_t ha, rOk_t hb] at h
  cases a with
  | none => rw [show ((none : Option Rat).isSome && b.isSome) = false from rfl, Bool.false_and, Bool.false_and, Bool.false_and, qT_none rfl] at h; exact h
  | some x => cases b with
    | none => rw [show ((some x).isSome && (none : Option Rat).isSome) = false from rfl, Bool.false_and, Bool.false_and, Bool.false_and, qT_none rfl] at h; exact h
    | some y =>
      rw [zN, zN, zD, zD, mul_divInt, decide_eq_true (den_mul_ne x y), Bool.and_true, show ((some x).isSome && (some y).isSome) = true from rfl, Bool.true_and, qT_oIf] at h
      rw [oMul_some]; unfold fMul; exact h
end

/-- The order of two fractions. -/
def cmpQ (x y : Rat) : Int := Lib.compareInt (x.num * y.den) (y.num * x.den)
def oCmp (a b : Option Rat) : Int := match a, b with
  | some x, some y => cmpQ x y
  | _, _ => 0
theorem qcmp_o {a b : Option Rat} (ha : OkO a) (hb : OkO b) (w : World) (hE : Env w) :
    Calls Tryz.prog 46 #[.agg #[.string (tN a), .string (tD a)], .agg #[.string (tN b), .string (tD b)]] w (Rets w (.int .i64 (oCmp a b))) := by
  have h := qcmp_any (tN a) (tD a) (tN b) (tD b) w hE
  rw [rOk_t ha, rOk_t hb] at h
  cases a with
  | none => exact h
  | some x => cases b with
    | none => exact h
    | some y => rw [zN, zN, zD, zD] at h; exact h
theorem cmpQ_lt {x y : Rat} (h : x < y) : cmpQ x y = -1 := compareInt_lt ((Rat.lt_iff x y).1 h)
theorem cmpQ_gt {x y : Rat} (h : y < x) : cmpQ x y = 1 := compareInt_gt ((Rat.lt_iff y x).1 h)
theorem cmpQ_eq (x : Rat) : cmpQ x x = 0 := compareInt_eq _
theorem cmpQ_cases (x y : Rat) : (x < y ∧ cmpQ x y = -1) ∨ (x = y ∧ cmpQ x y = 0) ∨ (y < x ∧ cmpQ x y = 1) := by
  by_cases h : x < y
  · exact .inl ⟨h, cmpQ_lt h⟩
  · by_cases h2 : y < x
    · exact .inr (.inr ⟨h2, cmpQ_gt h2⟩)
    · have e : x = y := Rat.le_antisymm (Rat.not_lt.1 h2) (Rat.not_lt.1 h)
      subst e
      exact .inr (.inl ⟨rfl, cmpQ_eq x⟩)
theorem cmpQ_le {x y : Rat} : cmpQ x y ≤ 0 ↔ x ≤ y := by
  rcases cmpQ_cases x y with ⟨h, e⟩ | ⟨h, e⟩ | ⟨h, e⟩
  · rw [e]; exact ⟨fun _ => Rat.le_of_lt h, fun _ => by decide⟩
  · rw [e, h]; exact ⟨fun _ => Rat.le_refl, fun _ => by decide⟩
  · rw [e]; exact ⟨fun h' => by omega, fun h' => absurd h (Rat.not_lt.2 h')⟩
theorem cmpQ_ge {x y : Rat} : 0 ≤ cmpQ x y ↔ y ≤ x := by
  rcases cmpQ_cases x y with ⟨h, e⟩ | ⟨h, e⟩ | ⟨h, e⟩
  · rw [e]; exact ⟨fun h' => by omega, fun h' => absurd h (Rat.not_lt.2 h')⟩
  · rw [e, h]; exact ⟨fun _ => Rat.le_refl, fun _ => by decide⟩
  · rw [e]; exact ⟨fun _ => Rat.le_of_lt h, fun _ => by decide⟩

/-- A fraction of two integers. -/
def oOf (n d : Int) : Option Rat := oIf (decide (d ≠ 0)) (Rat.divInt n d)
theorem smallQ_of {n d : Int} (hn : Small n) (hd : Small d) (h0 : d ≠ 0) : SmallQ (Rat.divInt n d) := by
  rcases Int.lt_or_gt_of_ne h0 with h | h
  · rw [← divInt_neg_neg]; exact smallQ_divInt (small_neg hn) (small_neg hd) (by omega)
  · exact smallQ_divInt hn hd h
theorem OkO.of {n d : Int} (hn : Small n) (hd : Small d) : OkO (oOf n d) := OkO.oIf fun e => smallQ_of hn hd (by simpa using e)
theorem fits_small {z : Int} (h : Fits z) : Small z := (show Bd 20 z by unfold Fits at h; unfold Bd; omega).small (by decide)
theorem qof_o (n d : Int) (hn : Fits n) (hd : Fits d) (w : World) (hE : Env w) : Calls Tryz.prog 38 #[.int .i64 n, .int .i64 d] w (Rets w (oV (oOf n d))) := by
  have h := qof_any n d hn hd w hE
  rw [qT_oIf] at h; exact h
theorem qrof_o (n d : Int) (hn : Fits n) (hd : Fits d) (w : World) : Calls Tryz.prog 29 #[.int .i64 n, .int .i64 d] w (Rets w (oV (oOf n d))) := by
  have h := qrof_any n d hn hd w
  rw [qT_oIf] at h; exact h

/-- Rounding. -/
def oRnd (up : Bool) (a : Option Rat) (k : Int) : Option Rat := match a with
  | some x => oIf (decide (0 ≤ k ∧ k ≤ 30) && decide (Small (x.num * 10 ^ k.toNat))) (Rat.divInt (grd up (x.num * 10 ^ k.toNat) x.den) (10 ^ k.toNat))
  | none => none
theorem OkO.rnd {up : Bool} {a : Option Rat} {k : Int} : OkO (oRnd up a k) := by
  cases a with
  | none => exact OkO.none
  | some x =>
    refine OkO.oIf fun e => ?_
    simp at e
    exact smallQ_divInt (grd_small e.2 (rat_den_pos x)) (small_pow (by omega)) (pow_pos' (by decide) _)
theorem qvalid_o {a : Option Rat} (ha : OkO a) (w : World) (hE : Env w) :
    Calls Tryz.prog 49 #[.agg #[.string (tN a), .string (tD a)]] w (Rets w (.bool a.isSome)) := by
  have h := qvalid_any (tN a) (tD a) w hE
  rw [rOk_t ha] at h; exact h
end Go.Proofs.YtebokdboodgkpaaGreatDoor

/- pick: an arbitrary integer as an index. -/
namespace Go.Proofs.YtebokdboodgkpaaGreatDoor
open Go.RowKit
attribute [local go_sem] Oper.semAt_some

/-- What pick returns. -/
def pkv (c m : Int) : Int := (if c < 0 then -(c + 1) else c) % m
theorem pkv_nonneg {c m : Int} (h : 0 < m) : 0 ≤ pkv c m := Int.emod_nonneg _ (by omega)
theorem pkv_lt {c m : Int} (h : 0 < m) : pkv c m < m := Int.emod_lt_of_pos _ h
end Go.Proofs.YtebokdboodgkpaaGreatDoor
