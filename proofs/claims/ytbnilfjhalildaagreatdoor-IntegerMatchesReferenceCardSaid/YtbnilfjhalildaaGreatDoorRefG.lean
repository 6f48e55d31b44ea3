/- The reference: divided, trimmed. -/
import Derived.Test.YtbnilfjhalildaaGreatDoorRefF
namespace Go.Proofs.YtbnilfjhalildaaGreatDoor
open Go.RowKit
attribute [local go_sem] Oper.semAt_some

theorem drop_val {xs : List Int} {t : Nat} (h : t < xs.length) : val 10 (xs.drop t) = gi xs t + 10 * val 10 (xs.drop (t + 1)) := by
  rw [drop_gi h]; rfl
theorem drop_set (qs : List Int) (t : Nat) (d : Int) : (qs.set t d).drop (t + 1) = qs.drop (t + 1) := by
  rw [List.drop_set_of_lt (by omega)]
theorem gi_set_self {l : List Int} {i : Nat} (h : i < l.length) (y : Int) : gi (l.set i y) i = y := by simp [gi, h]
theorem set_zero {l : List Int} {i : Nat} (h : gi l i = 0) (hi : i < l.length) : l.set i 0 = l := by
  have e : l[i] = 0 := by rw [← gi_lt hi]; exact h
  rw [← e]; exact List.set_getElem_self hi
/-- One digit more of a quotient. -/
theorem div_step {N x m R d R' Q : Int} (hm : 0 < m) (hR : R = N % m) (hQ : Q = N / m) (h : R' + d * m = R * 10 + x) (h0 : 0 ≤ R') (h1 : R' < m) : R' = (x + 10 * N) % m ∧ d + 10 * Q = (x + 10 * N) / m := by
  have e := Int.emod_add_mul_ediv N m
  have hu := (Int.ediv_emod_unique hm (a := x + 10 * N) (r := R') (q := d + 10 * Q)).2 ⟨by
    rw [Int.mul_add, Int.mul_left_comm, hQ]
    rw [Int.mul_comm d m] at h
    generalize m * (N / m) = P at *
    omega, h0, h1⟩
  exact ⟨hu.2.symm, hu.1.symm⟩
theorem quot_lt9 {R x m d R' : Int} (hm : 0 < m) (hR : R < m) (hx : x < 10) (h : R' + d * m = R * 10 + x) (h0 : m ≤ R') : d < 9 := by
  rcases Int.lt_or_le d 9 with h1 | h1
  · exact h1
  · have := Int.mul_le_mul_of_nonneg_right h1 (Int.le_of_lt hm)
    omega

set_option maxRecDepth 100000 in
set_option maxHeartbeats 8000000 in
theorem divided_any (v u : Value) (xs ys : List Int) (m : Int) (w : World) (hv : Sl w v xs) (hu : Sl w u ys) (hx : Dig 10 xs) (hy : Num 10 ys m) (hm : 0 < m) (hlx : xs.length ≤ 10000) (hly : ys.length ≤ 10000) :
    Calls Tryz.prog 52 #[v, u] w (Gives w fun r w' => ∃ r1 r2 qs rs, r = .tuple #[r1, r2] ∧ Sl w' r1 qs ∧ Num 10 qs (val 10 xs / m) ∧ Sl w' r2 rs ∧ Num 10 rs (val 10 xs % m)) := by
  obtain ⟨a1, b1, o1, c1, rfl, h1, h2, h4⟩ := hv.place
  obtain ⟨a2, c2, rfl⟩ := hu.shape
  have H4 := Lib.hid h4
  have H1 := Lib.hid h1
  have HX := Lib.hid hx
  have HY := Lib.hid hy
  obtain ⟨W1, hmk, hown, hb1⟩ := run_make_int w 44 Tryz.underlying44 .i64 .i64 xs.length (by omega)
  have hib := IB.of_make hown
  have HU := Lib.hid hu
  clear hv hu h4 h1 hx hy hown
  go_enter Tryz.func52, Tryz.ntmps52
  go_wp2
  go_loopw [7, 8] (fun s7 s8 wr => ∃ (t : Nat) (q : Int) (qs rs : List Int) (R : Int) (a3 : Option Addr) (c3 : Nat), s8 = .int .i64 q ∧ Hid (q = (t : Int) - 1) ∧ t ≤ xs.length ∧ s7 = .slice a3 rs.length c3 ∧ Sl wr (.slice a3 rs.length c3) rs ∧ Num 10 rs R ∧ R < m ∧
      IB wr w.heap.size qs ∧ Hid (qs.length = xs.length) ∧ Dig 10 qs ∧ Hid (R = val 10 (xs.drop t) % m) ∧ Hid (val 10 (qs.drop t) = val 10 (xs.drop t) / m) ∧ Hid (∀ j, j < t → gi qs j = 0) ∧ Below w.heap.size w wr)
    (fun _ s8 _ => (intOf s8 + 1).toNat)
  case atStart =>
    refine ⟨xs.length, _, List.replicate xs.length 0, [], 0, none, 0, rfl, rfl, Nat.le_refl _, rfl, Sl.nil _, Num.trim (xs := []) (Dig.nil 10), hm, hib, (show _ = _ by simp), dig_zeros _, ?_, ?_, fun j _ => gi_zeros _ j, hb1⟩
    · show _ = _
      rw [List.drop_length]; rfl
    · show _ = _
      rw [List.drop_length, List.drop_of_length_le (by simp)]; simp [val]
  case round =>
    clear hib hb1 hmk
    obtain ⟨t, q, qs, rs, R, a3, c3, rfl, hq, ht, rfl, hr, hnr, hRm, hib, hlq, hdq, hR, hQ, hZ, hB⟩ := hrel
    cases t with
    | zero =>
      obtain rfl : q = -1 := by have := hq.out; omega
      have hfin := Num.trim hdq
      have e1 := hQ.out
      have e2 := hR.out
      rw [List.drop_zero, List.drop_zero] at e1
      rw [List.drop_zero] at e2
      rw [e1] at hfin
      have HF := Lib.hid hfin
      have HR := Lib.hid (show Num 10 rs (val 10 xs % m) by rw [← e2]; exact hnr)
      have hsl := hib.sl (by rw [hlq.out]; unfold maxLen; omega)
      rw [hlq.out] at hsl
      clear hfin e1 e2
      go_wp2_with fail
      refine (rtrim_any _ qs _ hsl).mono ?_
      rintro e w2 ⟨⟨v', rfl, hz, _⟩, rfl⟩
      go_wp2
      go_ret2
      exact ⟨⟨_, rfl, _, _, _, rs, rfl, hz, HF.out, hr, HR.out⟩, hB⟩
    | succ t =>
      obtain rfl : q = (t : Int) := by have := hq.out; omega
      obtain ⟨rfl, h3⟩ := H1.out (by omega)
      have htl : t < xs.length := by omega
      have i1 : (t : Int) < (xs.length : Int) := by omega
      have i0 : (0 : Int) ≤ (t : Int) := by omega
      have e1 := (hB.cell (p := ⟨b1, o1 + t, none⟩) h3).trans (H4.out t htl)
      have x0 := (HX.out.gi (by decide) t).1
      have x1 := (HX.out.gi (by decide) t).2
      have hR0 := hnr.nonneg (by decide)
      have hlr : rs.length ≤ 10000 := by have := hnr.len_le (by decide) HY.out (Int.le_of_lt hRm); omega
      have HDV := Lib.hid (drop_val htl)
      have hnx : Num 10 (trim (gi xs t :: rs)) (gi xs t + 10 * R) := by
        have := Num.trim (b := 10) (xs := gi xs t :: rs) (fun z hz => by
          rcases List.mem_cons.1 hz with rfl | hz
          · exact ⟨x0, x1⟩
          · exact hnr.dig z hz)
        simpa [val, hnr.val] using this
      generalize hxx : gi xs t = x at *
      have HNX := Lib.hid hnx
      clear hxx hnx
      have Hr := Lib.hid (hr.below ((Below.refl wr.heap.size wr).alloc (Nat.le_refl _) (.cells #[.int .i64 x] 3)))
      go_wp2_with (at_builtin; refine wp_app_sl (base := wr.heap.size) (xs := [x]) (ys := rs) 44 Tryz.underlying44 rfl _ _ rfl rfl rfl (own_lit wr x) Hr.out (by omega) (by decide) (by simp) ?_; intro g cp w2 hown2 hg2 hb2; clear hg2)
      have hb3 : Below wr.heap.size wr w2 := ((Below.refl wr.heap.size wr).alloc (Nat.le_refl _) _).trans hb2
      have hsl2 := Sl.of_own hown2
      clear hb2 hown2 hr Hr
      go_wp2_with fail
      refine (rtrim_any _ (x :: rs) _ hsl2).mono ?_
      rintro e w3 ⟨⟨v', rfl, hz, _⟩, rfl⟩
      obtain ⟨a5, c5, rfl⟩ := hz.shape
      have hib2 := hib.below hb3
      have hB2 := hB.trans (hb3.mono hB.size)
      have HQ0 := Lib.hid (set_zero (hZ.out t (by omega)) (show t < qs.length by have := hlq.out; omega))
      have hR0x : 0 ≤ x + 10 * R := by omega
      generalize trim (x :: rs) = rs0 at *
      clear hib hb3 hsl2 e1 i1 i0 H1 hlr
      go_wp2
      obtain ⟨wo, rfl⟩ : ∃ wo : World, wo = wr := ⟨_, rfl⟩
      have HBo := Lib.hid hB
      clear hB hnr
      go_loopw [7] (fun s7 wr => ∃ (d R1 : Int) (rs1 ps : List Int) (a6 : Option Addr) (c6 : Nat), s7 = .slice a6 rs1.length c6 ∧ Sl wr (.slice a6 rs1.length c6) rs1 ∧ Num 10 rs1 R1 ∧ Hid (R1 + d * m = R * 10 + x) ∧ 0 ≤ d ∧ d ≤ 9 ∧ IB wr w.heap.size ps ∧ Hid (ps = qs.set t d) ∧ Below w.heap.size w wr)
        (fun s7 wr => (val 10 (rdSl wr s7)).toNat)
      case atStart => exact ⟨0, _, rs0, qs, _, _, rfl, hz, HNX.out, (show _ = _ by omega), by decide, by decide, hib2, HQ0.out.symm, hB2⟩
      case round =>
        clear hz hib2 hB2
        obtain ⟨d, R1, rs1, ps, a6, c6, rfl, hr1, hn1, hE1, hd0, hd1, hib, hps, hB⟩ := hrel
        have hy1 := HU.out.below hB
        have hrd := Lib.hid hr1.rd
        have hl1 : rs1.length ≤ 100000 := by
          have h1 := hn1.length_le (by decide) (m := 10001) ?_
          · omega
          · have h2 := HY.out.lt (by decide)
            have h3 := pow_mono (b := 10) (by decide) hly
            have h4 : (10 : Int) ^ 10001 = 10 ^ 10000 * 10 := Int.pow_succ ..
            have h5 := hE1.out
            have h6 := Int.mul_nonneg hd0 (Int.le_of_lt hm)
            generalize (10 : Int) ^ 10000 = P at *
            generalize (10 : Int) ^ 10001 = Q at *
            omega
        go_wp2_with fail
        refine (order_any _ _ rs1 ys _ hr1 hy1).mono ?_
        rintro e w4 ⟨rfl, hb4⟩
        rw [cmpL10 hn1 HY.out]
        have hr4 := hr1.below hb4
        have hy4 := hy1.below hb4
        have hB4 := kb_call hb4 hB (Nat.le_refl _)
        have hib4 := hib.below hb4
        by_cases hle : m ≤ R1
        · have hc := cmp_sign.2 hle
          generalize Lib.compareInt R1 m = c at *
          have hd9 := quot_lt9 hm hRm x1 hE1.out hle
          have htq : t < ps.length := by rw [hps.out, List.length_set]; have := hlq.out; omega
          have htx : (t : Int) < (xs.length : Int) := by omega
          have ht0 : (0 : Int) ≤ (t : Int) := by omega
          have hgd : gi ps t = d := by rw [hps.out]; exact gi_set_self (by have := hlq.out; omega) d
          clear hr1 hy1 hib hB hb4
          go_wp2_with fail
          have hG4 := hib4.lt
          refine (rminus_fresh _ _ rs1 ys R1 m _ hr4 hy4 hn1 HY.out hle hl1).mono ?_
          rintro e w5 ⟨⟨r, rfl, zs, hz, hnz, hfr⟩, hb5⟩
          obtain ⟨a7, c7, rfl⟩ := hz.shape
          have hib5 := hib4.below hb5
          have hB5 := kb_call hb5 hB4 (Nat.le_refl _)
          have e3 := hib5.cell htq
          rw [hgd] at e3
          have e4 := hib5.frozen t
          have hGz : Sl (w5.setCell ⟨w.heap.size, t, none⟩ (.int .i64 (d + 1))) (.slice a7 zs.length c7) zs := hz.only ((Only.refl [w.heap.size] w5).setCell (p := ⟨w.heap.size, t, none⟩) (by simp) _) (fun b o e => by have := hfr b o e; simp; omega)
          have hrd5 := Lib.hid hGz.rd
          clear hgd hr4 hy4 hib4 hB4 hb5
          go_wp2
          go_roundw
          case rel => exact ⟨d + 1, R1 - m, zs, ps.set t (d + 1), _, _, rfl, hGz, hnz, (show _ = _ by rw [Int.add_mul]; have := hE1.out; omega), by omega, by omega, hib5.set t _, (show _ = _ by rw [hps.out, List.set_set]), hB5.setCell (p := ⟨w.heap.size, t, none⟩) (Nat.le_refl _) _⟩
          case measure =>
            show (val 10 (rdSl _ _)).toNat < (val 10 (rdSl _ _)).toNat
            rw [hrd.out, hrd5.out, hnz.val, hn1.val]
            omega
        · have hcl := compareInt_lt (show R1 < m by omega)
          rw [hcl]
          obtain ⟨k1, k2⟩ := div_step hm hR.out hQ.out hE1.out (hn1.nonneg (by decide)) (by omega)
          rw [← HDV.out] at k1 k2
          have htq : t < qs.length := by have := hlq.out; omega
          have K2 := Lib.hid (show val 10 ((qs.set t d).drop t) = val 10 (xs.drop t) / m by
            rw [drop_val (by rw [List.length_set]; exact htq), gi_set_self htq, drop_set, k2])
          have K1 := Lib.hid k1
          have hR1m : R1 < m := by omega
          clear hcl k1 k2 hr1 hy1 hib hB hb4 hle
          rw [hps.out] at hib4
          go_wp2
          go_roundw
          case rel => exact ⟨t, _, qs.set t d, rs1, R1, _, _, rfl, rfl, by omega, rfl, hr4, hn1, hR1m, hib4, (show _ = _ by rw [List.length_set]; exact hlq.out), dig_set hdq t hd0 (by omega), K1, K2, (fun j hj => by rw [gi_set _ (show t ≠ j by omega)]; exact hZ.out j (by omega)), hB4⟩
          case measure => simp [intOf]
end Go.Proofs.YtbnilfjhalildaaGreatDoor
