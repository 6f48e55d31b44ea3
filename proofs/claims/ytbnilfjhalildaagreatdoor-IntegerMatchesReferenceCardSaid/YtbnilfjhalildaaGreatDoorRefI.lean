/- The reference: trimmed, Root. -/
import Derived.Test.YtbnilfjhalildaaGreatDoorRefH
import Derived.Test.YtbnilfjhalildaaGreatDoorRoot
namespace Go.Proofs.YtbnilfjhalildaaGreatDoor
open Go.RowKit
attribute [local go_sem] Oper.semAt_some

/-- []int{} is the call's own. -/
theorem own_none (w : World) : (w.alloc (.cells #[] 3)).ownsRow w.heap.size 3 1 (.slice (some ⟨w.heap.size, 0, none⟩) 0 0) 0 (([] : List Int).map (Value.int .i64)) :=
  ⟨rfl, .inr ⟨w.heap.size, 0, #[], rfl, Nat.le_refl _, World.alloc_heap_new w _, Nat.le_refl _, by unfold maxLen; omega, rfl, rfl⟩⟩

/-- append(own, u...), for slices of integers, of which the first may be empty. -/
theorem wp_app_slv {ops : Array Oper} {rest : List Oper} {o : Oper} {a : Act} {Q : Exit → Act → World → Prop} {w : World} {base : Nat} {v : Value} {k : Nat} {xs ys : List Int} (t : TypeId)
    (ht : Tryz.prog.underlying t = some (.slice 3)) (hgd : o.guard = none) (s x : Operand) (ho : o.op = .call { callee := .builtin .append, args := #[s, x], argTypes := #[t, t] }) {u : Value}
    (hs : a.eval s = v) (hx : a.eval x = u) (hown : w.ownsRow base 3 1 v k (xs.map (Value.int .i64))) (hu : Sl w u ys) (hk : k + ys.length ≤ 1000000000000) (hbase : base ≤ w.heap.size)
    (h : ∀ v' w', Sl w' v' (xs ++ ys) → Below base w w' → wpList Tryz.prog ops Q rest (a.put o.dst v') w') :
    wpList Tryz.prog ops Q (o :: rest) a w := by
  refine wpList_plain hgd fun K hK => ?_
  obtain ⟨i0, hi, hz0, hz1, hz2⟩ := info_parts info_int
  have H : ∃ v' w', (Builtin.append_ #[t, t] o.type #[v, u]).run Tryz.prog w = .ok v' w' ∧ Sl w' v' (xs ++ ys) ∧ Below base w w' := by
    rcases hu with ⟨rfl, rfl⟩ | ⟨b, off, cap, rfl, h1, h2, h3, h4⟩
    · have hr := run_append_owned_none (P := Tryz.prog) (w := w) base t o.type 3 i0 1 ht hi v k _ hown
      exact ⟨v, w, hr, by rw [List.append_nil]; exact Sl.of_own hown, Below.refl _ _⟩
    · obtain ⟨v', w', hrun, r1, r2, r3⟩ := run_append_own (P := Tryz.prog) w base t o.type 3 i0 (.int .i64 0) 1 8 ht hi hz0 hz1 hz2 rfl (by decide) v k _ hown ⟨b, off, none⟩ ys.length cap (ys.map (Value.int .i64)) (by simp) (Sl.news h4) (ints_one ys) (by unfold maxLen; omega) (by omega) hbase
      rw [← List.map_append] at r1
      exact ⟨v', w', hrun, Sl.of_own r1, (Below.refl base w).grown r2 hbase (fun j hj => (hown.lt j hj).1)⟩
  obtain ⟨v', w', hrun, r1, r2⟩ := H
  unfold Oper.wp
  simp [execOp, ho, resolve, invoke, builtin, hs, hx, hrun, Result.andThen]
  exact hK _ _ (h v' w' r1 r2)

set_option maxRecDepth 100000 in
set_option maxHeartbeats 4000000 in
theorem rtrimmed_any (v : Value) (xs : List Int) (w : World) (hv : Sl w v xs) (hl : xs.length ≤ 100000) :
    Calls Tryz.prog 56 #[v] w (Gives w fun r w' => Sl w' r (trim xs)) := by
  have Hr := Lib.hid (hv.below ((Below.refl w.heap.size w).alloc (Nat.le_refl _) (.cells #[] 3)))
  obtain ⟨a1, c1, rfl⟩ := hv.shape
  clear hv
  go_enter Tryz.func56, Tryz.ntmps56
  go_wp2_with (at_builtin; refine wp_app_slv (base := w.heap.size) (xs := []) (ys := xs) 44 Tryz.underlying44 rfl _ _ rfl rfl rfl (own_none w) Hr.out (by omega) (by simp) ?_; intro v' w2 hsl2 hb2)
  have hb3 : Below w.heap.size w w2 := ((Below.refl w.heap.size w).alloc (Nat.le_refl _) _).trans hb2
  clear hb2 Hr
  rw [List.nil_append] at hsl2
  go_wp2_with fail
  refine (rtrim_any _ xs _ hsl2).mono ?_
  rintro e w3 ⟨⟨v'', rfl, hz, _⟩, rfl⟩
  go_wp2
  go_ret
  exact ⟨⟨_, rfl, hz⟩, hb3⟩

/-- The value of a list of which one digit is laid. -/
theorem val_set0 {qs : List Int} {t : Nat} (ht : t < qs.length) (h0 : gi qs t = 0) (d : Int) : val 10 (qs.set t d) = val 10 qs + d * 10 ^ t := by
  rw [val_set 10 qs t d ht, h0]; simp

/-- A number's root, digit by digit: the digits from t on are laid. -/
def RootInv (qs : List Int) (N : Int) (t : Nat) : Prop := val 10 qs * val 10 qs ≤ N ∧ N < (val 10 qs + 10 ^ t) * (val 10 qs + 10 ^ t)

theorem rootInv_start {k l : Nat} {N : Int} (h0 : 0 ≤ N) (h : N < 10 ^ l) (hl : l ≤ k + k) : RootInv (List.replicate k 0) N k := by
  unfold RootInv
  rw [val_zeros]
  have h1 := pow_mono (b := 10) (by decide) hl
  rw [Int.pow_add] at h1
  rw [Int.zero_add]
  exact ⟨by simpa using h0, by omega⟩
theorem rootInv_end {qs : List Int} {N : Int} (hd : Dig 10 qs) (h : RootInv qs N 0) : val 10 qs = (root N.toNat : Nat) := by
  obtain ⟨h1, h2⟩ := h
  have h0 := (val_bounds (by decide) hd).1
  obtain ⟨r, hr⟩ := Int.eq_ofNat_of_zero_le h0
  rw [hr] at h1 h2 ⊢
  obtain ⟨n, rfl⟩ := Int.eq_ofNat_of_zero_le (show 0 ≤ N from Int.le_trans (Int.mul_nonneg (by omega) (by omega)) h1)
  rw [Int.pow_zero] at h2
  have h3 : r * r ≤ n := by
    have : ((r * r : Nat) : Int) ≤ n := by rw [Int.natCast_mul]; exact h1
    omega
  have h4 : n < (r + 1) * (r + 1) := by
    have : (n : Int) < (((r + 1) * (r + 1) : Nat) : Int) := by rw [Int.natCast_mul]; exact h2
    omega
  rw [Int.toNat_natCast, root_unique h3 h4]
/-- All digits below 10: a list with nine at t is the last before the next ten. -/
theorem rootInv_nine {V N P : Int} (h : N < (V + 10 * P) * (V + 10 * P)) : N < ((V + 9 * P) + P) * ((V + 9 * P) + P) := by
  have e : (V + 9 * P) + P = V + 10 * P := by omega
  rw [e]; exact h

/-- The integer in a cell. -/
def cellI (w : World) (p : Addr) : Int := match w.cell? p with | some (.int _ n) => n | _ => 0
theorem cellI_of {w : World} {p : Addr} {n : Int} (h : w.cell? p = some (.int .i64 n)) : cellI w p = n := by unfold cellI; rw [h]

theorem compareInt_le {a b : Int} (h : a ≤ b) : Lib.compareInt a b ≤ 0 := by
  rcases Int.lt_or_eq_of_le h with h | rfl
  · rw [compareInt_lt h]; decide
  · rw [compareInt_eq]; decide
theorem sq_le {V N : Int} {n : Int} (h : Lib.compareInt (V * V) N = n) (h0 : ¬ n > 0) : V * V ≤ N := by
  rcases Int.lt_or_le N (V * V) with hl | hl
  · rw [compareInt_gt hl] at h; omega
  · exact hl

theorem okS_pos {a : ByteArray} (ha : okS a = true) : 0 < a.size := by
  have hv : validB a.data.toList = true := ha
  rw [← data_len]
  cases hl : a.data.toList with
  | nil => rw [hl] at hv; exact absurd hv (by decide)
  | cons _ _ => simp
theorem okS_minus {a : ByteArray} (ha : okS a = true) (hp : 0 < a.size) : decide (a[0] = 45) = decide (zS a < 0) := by
  have hv : validB a.data.toList = true := ha
  obtain ⟨_, _, h3, _⟩ := valid_parts hv
  show _ = decide (ival a.data.toList < 0)
  rw [← h3]
  by_cases hm : a[0] = 45
  · have e := first_eq hp hm
    rw [e, body_minus]; simp [hm]
  · have e : body a.data.toList = a.data.toList := by
      cases hl : a.data.toList with
      | nil => rfl
      | cons c r => exact body_plain r (first_ne hp hm c r hl)
    rw [e]; simp [hm]

set_option maxRecDepth 100000 in
set_option maxHeartbeats 8000000 in
theorem rroot_ok (a : ByteArray) (ha : okS a = true) (h0 : 0 ≤ zS a) (hsa : a.size ≤ 9223372036854775807) (w : World) :
    Calls Tryz.prog 30 #[.string a] w (Gives w fun r _ => r = resT true (root (zS a).toNat : Nat)) := by
  have V1 := fun W => rvalid_any a hsa W
  have D1 := fun W => rdigits_any a ha W
  have Sa := z_bound ha
  rw [ha] at V1
  have hp := okS_pos ha
  have hm : (((a[0]).toNat : Int) == 45) = false := by
    have h1 := okS_minus ha hp
    rw [decide_eq_false (by omega : ¬ zS a < 0)] at h1
    exact byte_eq_no (of_decide_eq_false h1)
  have hpi : (0 : Int) < (a.size : Int) := by omega
  have hAbs : ((zS a).natAbs : Int) = zS a := by omega
  generalize hzz : zS a = N at *
  clear hzz
  go_enter Tryz.func30, Tryz.ntmps30
  go_wp2_with fail
  refine (V1 _).mono ?_
  rintro e w1 ⟨rfl, hb1⟩
  go_wp2_with fail
  refine (D1 _).mono ?_
  rintro e w3 ⟨⟨r, rfl, v, ys, rfl, hy, hny⟩, hb3⟩
  have hB3 := kb_call hb3 hb1 (Nat.le_refl _)
  have ly := len10 hny Sa
  rw [hAbs] at hny
  obtain ⟨a2, c2, rfl⟩ := hy.shape
  clear hb1 hb3
  obtain ⟨k, hk⟩ : ∃ k : Nat, (ys.length + 1) / 2 = k := ⟨_, rfl⟩
  obtain ⟨W1, hmk, hown, hbm⟩ := run_make_int w3 44 Tryz.underlying44 .i64 .i64 k (by omega)
  have hib := IB.of_make hown
  have hki : ((ys.length : Int) + 1) / 2 = (k : Int) := by omega
  have hy1 := hy.below hbm
  have hB1 := hB3.trans (hbm.mono hB3.size)
  have hinv := Lib.hid (rootInv_start (k := k) (hny.nonneg (by decide)) (hny.lt (by decide)) (show ys.length ≤ k + k by omega))
  have hk1 : k ≤ 1000 := by omega
  have HY := Lib.hid hy1
  have HNY := Lib.hid hny
  have hG : w3.heap.size < 0 + (w3.heap.size + 1) := by omega
  have hGw := hB1.size
  obtain ⟨G, hGe⟩ : ∃ G, w3.heap.size = G := ⟨_, rfl⟩
  have hGle : w.heap.size ≤ G := by rw [← hGe]; exact hB3.size
  have hyb := Lib.hid (fun b o e => (hy.ptr_lt b o e : b < w3.heap.size))
  rw [hGe] at hmk hib hyb
  clear hk hB3 hbm hown hy hy1 hny hG hGw
  go_wp2
  clear hki hmk
  go_loopw [7] (fun s7 wr => ∃ (t : Nat) (q : Int) (qs : List Int), s7 = .int .i64 q ∧ Hid (q = (t : Int) - 1) ∧ t ≤ k ∧ IB wr G qs ∧ Hid (qs.length = k) ∧ Dig 10 qs ∧ Hid (RootInv qs N t) ∧ Hid (∀ j, j < t → gi qs j = 0) ∧ Below w.heap.size w wr ∧ Sl wr (.slice a2 ys.length c2) ys)
    (fun s7 _ => (intOf s7 + 1).toNat)
  case atStart => exact ⟨k, _, List.replicate k 0, rfl, rfl, Nat.le_refl _, hib, (show _ = _ by simp), dig_zeros _, hinv, (fun j _ => gi_zeros _ j), hB1, HY.out⟩
  case round =>
    clear hib hB1 hinv HY
    obtain ⟨t, q, qs, rfl, hq, ht, hib, hlq, hdq, hI, hZ, hB, hys⟩ := hrel
    cases t with
    | zero =>
      obtain rfl : q = -1 := by have := hq.out; omega
      have hfin := Num.trim hdq
      rw [rootInv_end hdq hI.out] at hfin
      have HF := Lib.hid hfin
      have hsl := hib.sl (by rw [hlq.out]; unfold maxLen; omega)
      rw [hlq.out] at hsl
      have hfl : (trim qs).length ≤ 1000000 := by have := trim_len qs; have := hlq.out; omega
      clear hfin
      go_wp2_with fail
      refine (rtrim_any _ qs _ hsl).mono ?_
      rintro e w2 ⟨⟨v', rfl, hz, _⟩, rfl⟩
      go_wp2_with fail
      refine (checked_any false _ (trim qs) _ _ hz HF.out hfl).mono ?_
      rintro e w6 ⟨⟨r, rfl, rfl⟩, hb6⟩
      have hfin2 := kb_call hb6 hB (Nat.le_refl _)
      rw [show sgn false ((root N.toNat : Nat) : Int) = ((root N.toNat : Nat) : Int) from rfl]
      obtain ⟨z, hz2⟩ : ∃ z : Int, Hid (((root N.toNat : Nat) : Int) = z) := ⟨_, rfl⟩
      rw [hz2.out]
      cases hs : decide (Small z) with
      | true =>
        rw [res_small (of_decide_eq_true hs)]
        go_wp2
        go_ret2
        exact ⟨⟨_, rfl, by rw [hz2.out]; exact (res_small (of_decide_eq_true hs)).symm⟩, hfin2⟩
      | false =>
        rw [res_big (of_decide_eq_false hs)]
        go_wp2
        go_ret2
        exact ⟨⟨_, rfl, by rw [hz2.out]; exact (res_big (of_decide_eq_false hs)).symm⟩, hfin2⟩
    | succ t =>
      obtain rfl : q = (t : Int) := by have := hq.out; omega
      have htl : t < qs.length := by have := hlq.out; omega
      have i1 : (t : Int) < (k : Int) := by omega
      have i0 : (0 : Int) ≤ (t : Int) := by omega
      have e1 := hib.cell htl
      have e2 := hib.frozen t
      have hg0 := hZ.out t (by omega)
      have hib9 := hib.set t 9
      have hB9 := hB.setCell (p := ⟨G, t, none⟩) hGle (.int .i64 9)
      have hys9 : Sl (wr.setCell ⟨G, t, none⟩ (.int .i64 9)) (.slice a2 ys.length c2) ys := hys.only ((Only.refl [G] wr).setCell (p := ⟨G, t, none⟩) (by simp) _) (fun b o e => by have := hyb.out b o e; simp; omega)
      have hI9 := Lib.hid (rootInv_nine (P := 10 ^ t) (N := N) (V := val 10 qs) (by have := hI.out.2; rw [Int.pow_succ, Int.mul_comm (10 ^ t) 10] at this; exact this))
      rw [hg0] at e1
      have Hg0 := Lib.hid hg0
      have Htl := Lib.hid htl
      clear hib hB hys hq htl hg0
      go_wp2
      go_loopw [] (fun wx => ∃ (d : Int) (ps : List Int), 0 ≤ d ∧ d ≤ 9 ∧ IB wx G ps ∧ Hid (ps = qs.set t d) ∧ Hid (N < ((val 10 qs + d * 10 ^ t) + 10 ^ t) * ((val 10 qs + d * 10 ^ t) + 10 ^ t)) ∧ Below w.heap.size w wx ∧ Sl wx (.slice a2 ys.length c2) ys)
        (fun wx => (cellI wx ⟨G, t, none⟩).toNat)
      case atStart => exact ⟨9, qs.set t 9, by decide, by decide, hib9, rfl, hI9, hB9, hys9⟩
      case round =>
        clear e1 e2 hib9 hB9 hys9 hI9
        obtain ⟨d, ps, hd0, hd9, hib, hps, hIp, hB, hys⟩ := hrel
        have htp : t < ps.length := by rw [hps.out, List.length_set]; exact Htl.out
        have hpl : Hid (ps.length = k) := by show _ = _; rw [hps.out, List.length_set]; exact hlq.out
        have hgd : gi ps t = d := by rw [hps.out]; exact gi_set_self Htl.out d
        have hdp : Dig 10 ps := by rw [hps.out]; exact dig_set hdq t hd0 (by omega)
        have hvp : Hid (val 10 ps = val 10 qs + d * 10 ^ t) := by show _ = _; rw [hps.out]; exact val_set0 Htl.out Hg0.out d
        have e1 := hib.cell htp
        have e2 := hib.frozen t
        rw [hgd] at e1
        by_cases hdpos : 0 < d
        · have hsl := hib.sl (by rw [hpl.out]; unfold maxLen; omega)
          rw [hpl.out] at hsl
          have hnp := Num.trim hdp
          have hlp : (trim ps).length ≤ 10000 := by have := trim_len ps; have := hpl.out; omega
          have HD := Lib.hid hdpos
          have HGD := Lib.hid hgd
          clear e2 hgd
          go_wp2_with fail
          refine (rtrimmed_any _ ps _ hsl (by rw [hpl.out]; omega)).mono ?_
          rintro e w4 ⟨⟨r1, rfl, hz1⟩, hb4⟩
          obtain ⟨a4, c4, rfl⟩ := hz1.shape
          have hsl4 := hsl.below hb4
          go_wp2_with fail
          refine (rtrimmed_any _ ps _ hsl4 (by rw [hpl.out]; omega)).mono ?_
          rintro e w5 ⟨⟨r2, rfl, hz2⟩, hb5⟩
          obtain ⟨a5, c5, rfl⟩ := hz2.shape
          have hz1' := hz1.below hb5
          clear hz1 hsl4
          go_wp2_with fail
          refine (rtimes_any _ _ (trim ps) (trim ps) _ _ _ hz1' hz2 hnp hnp hlp hlp).mono ?_
          rintro e w6 ⟨⟨r3, rfl, zs, hz3, hn3⟩, hb6⟩
          obtain ⟨a6, c6, rfl⟩ := hz3.shape
          have hb64 := kb_call hb6 (kb_call hb5 hb4 (Nat.le_refl _)) (Nat.le_refl _)
          have hys6 := hys.below hb64
          have hib6 := hib.below hb64
          have hB6 := kb_call hb64 hB (Nat.le_refl _)
          clear hz1' hz2 hb4 hb5 hb6 hb64 hsl hys hib hB
          have E1 := Lib.hid e1
          clear e1
          go_wp2_with fail
          refine (order_any _ _ zs ys _ hz3 hys6).mono ?_
          rintro e w7 ⟨rfl, hb7⟩
          rw [cmpL10 hn3 HNY.out]
          have hys7 := hys6.below hb7
          have hib7 := hib6.below hb7
          have hB7 := kb_call hb7 hB6 (Nat.le_refl _)
          have e1 := hib7.cell htp
          have e2 := hib7.frozen t
          rw [HGD.out] at e1
          have hib8 := hib7.set t (d - 1)
          have hB8 := hB7.setCell (p := ⟨G, t, none⟩) hGle (.int .i64 (d - 1))
          have hys8 : Sl (w7.setCell ⟨G, t, none⟩ (.int .i64 (d - 1))) (.slice a2 ys.length c2) ys := hys7.only ((Only.refl [G] w7).setCell (p := ⟨G, t, none⟩) (by simp) _) (fun b o e => by have := hyb.out b o e; simp; omega)
          clear hys6 hib6 hB6 hb7 hz3
          by_cases hc : N < val 10 ps * val 10 ps
          · have hcc := compareInt_gt hc
            rw [hcc]
            have HC := Lib.hid hc
            clear hc hcc hys7 hib7 hB7
            go_wp2
            go_roundw
            case rel => exact ⟨d - 1, ps.set t (d - 1), by omega, by omega, hib8, (show _ = _ by rw [hps.out, List.set_set]), (by
              show _ < _
              have h1 := HC.out
              rw [hvp.out] at h1
              rw [show val 10 qs + (d - 1) * 10 ^ t + 10 ^ t = val 10 qs + d * 10 ^ t by rw [Int.sub_mul]; omega]
              exact h1), hB8, hys8⟩
            case measure =>
              rw [cellI_of E1.out, cellI_of (hib8.cell (j := t) (by rw [List.length_set]; exact htp)), gi_set_self htp]
              have := HD.out
              omega
          · have hcl := compareInt_le (Int.not_lt.1 hc)
            obtain ⟨c, hcc, hc0⟩ : ∃ c, Lib.compareInt (val 10 ps * val 10 ps) N = c ∧ c ≤ 0 := ⟨_, rfl, hcl⟩
            rw [hcc]
            have HI := Lib.hid (show RootInv ps N t from ⟨Int.not_lt.1 hc, by rw [hvp.out]; exact hIp.out⟩)
            clear hc hcl hcc hib8 hB8 hys8 e1 e2
            go_wp2
            go_roundw
            case rel => exact ⟨t, _, ps, rfl, rfl, by omega, hib7, hpl, hdp, HI, (fun j hj => by rw [hps.out, gi_set _ (show t ≠ j by omega)]; exact hZ.out j (by omega)), hB7, hys7⟩
            case measure => simp [intOf]
        · obtain rfl : d = 0 := by omega
          have HI := Lib.hid (show RootInv ps N t from ⟨by
            rw [hvp.out, Int.zero_mul, Int.add_zero]; exact hI.out.1, by rw [hvp.out]; exact hIp.out⟩)
          go_wp2
          go_roundw
          case rel => exact ⟨t, _, ps, rfl, rfl, by omega, hib, hpl, hdp, HI, (fun j hj => by rw [hps.out, gi_set _ (show t ≠ j by omega)]; exact hZ.out j (by omega)), hB, hys⟩
          case measure => simp [intOf]
end Go.Proofs.YtbnilfjhalildaaGreatDoor
