/- The reference: Valid, digits, checked. -/
import Derived.Test.YtbnilfjhalildaaGreatDoorRefC
import Derived.Test.YtbnilfjhalildaaGreatDoorOps
namespace Go.Proofs.YtbnilfjhalildaaGreatDoor
open Go.RowKit
attribute [local go_sem] Oper.semAt_some

/-- What Valid asks of the digits behind the sign. -/
def coreB (l : List UInt8) : Bool := !l.isEmpty && decide (l.length ≤ 200) && l.all isD && (decide (l = [48]) || decide (l.head? ≠ some 48))
theorem data_len (t : ByteArray) : t.data.toList.length = t.size := by rw [Array.length_toList]; rfl
theorem data_get (t : ByteArray) (k : Nat) (h : k < t.size) : t.data.toList[k]'(by rw [data_len]; exact h) = t[k] := rfl
theorem take_all (t : ByteArray) (k : Nat) (h : k < t.size) : (t.data.toList.take (k + 1)).all isD = ((t.data.toList.take k).all isD && isD t[k]) := by
  rw [List.take_succ_eq_append_getElem (by rw [data_len]; exact h), List.all_append, data_get t k h]
  simp
theorem core_bad (t : ByteArray) (k : Nat) (h : k < t.size) (hd : isD t[k] = false) : coreB t.data.toList = false := by
  have : t.data.toList.all isD = false := by
    rw [List.all_eq_false]
    exact ⟨t[k], by rw [← data_get t k h]; exact List.getElem_mem _, by simp [hd]⟩
  unfold coreB
  rw [this]; simp
theorem core_empty (t : ByteArray) (h : t.size = 0) : coreB t.data.toList = false := by
  have : t.data.toList = [] := List.eq_nil_of_length_eq_zero (by rw [data_len]; exact h)
  rw [this]; rfl
theorem core_long (t : ByteArray) (h : 200 < t.size) : coreB t.data.toList = false := by
  unfold coreB
  rw [data_len, decide_eq_false (by omega)]; simp
theorem core_zero (t : ByteArray) (h : t.toList = [48]) : coreB t.data.toList = true := by
  rw [ByteArray.toList_eq] at h
  rw [h]; decide
theorem core_head (t : ByteArray) (h0 : 0 < t.size) (h2 : t.size ≤ 200) (ha : t.data.toList.all isD = true) (hz : ¬ t.toList = [48]) : coreB t.data.toList = (((t[0]).toNat : Int) != 48) := by
  rw [ByteArray.toList_eq] at hz
  have hl := data_len t
  have e : t.data.toList.head? = some t[0] := by rw [List.head?_eq_getElem?, List.getElem?_eq_getElem (by omega), data_get t 0 h0]
  unfold coreB
  rw [e, ha, decide_eq_false hz, decide_eq_true (by omega : t.data.toList.length ≤ 200), byte_ne]
  have : t.data.toList.isEmpty = false := by
    cases hh : t.data.toList with
    | nil => rw [hh] at hl; simp at hl; omega
    | cons _ _ => rfl
  rw [this]
  simp [bne, BEq.beq]

theorem first_ne {t : ByteArray} (h0 : 0 < t.size) (h : t[0] ≠ 45) : ∀ c r, t.data.toList = c :: r → c ≠ 45 := by
  intro c r e hc
  have h1 := data_get t 0 h0
  have h2 : t.data.toList[0]'(by rw [data_len]; exact h0) = c := by simp only [e]; rfl
  rw [h2] at h1
  exact h (h1.symm.trans hc)
theorem first_eq {s : ByteArray} (h0 : 0 < s.size) (h : s[0] = 45) : s.data.toList = 45 :: (s.extract 1 s.size).data.toList := by
  rw [Lib.extract_to_end]
  have h1 := data_get s 0 h0
  rw [← List.drop_zero (l := s.data.toList), List.drop_eq_getElem_cons (by rw [data_len]; exact h0), h1, h]
  rfl
theorem byte_eq_no {c : UInt8} (h : c ≠ 45) : ((c.toNat : Int) == 45) = false := by
  refine beq_eq_false_iff_ne.2 (fun e => h (UInt8.toNat_inj.1 ?_))
  have : (45 : UInt8).toNat = 45 := rfl
  omega
theorem valid_plain {l : List UInt8} (h : ∀ c r, l = c :: r → c ≠ 45) : validB l = coreB l := by
  have e : body l = l := by
    cases l with
    | nil => rfl
    | cons c r => exact body_plain r (h c r rfl)
  unfold validB coreB
  rw [e]
theorem valid_minus {r : List UInt8} : validB (45 :: r) = (!decide (r = [48]) && coreB r) := by
  unfold validB coreB
  rw [body_minus]
  by_cases h : r = [48]
  · subst h; decide
  · simp [h]

set_option maxRecDepth 100000 in
set_option maxHeartbeats 4000000 in
theorem rvalid_plain (t : ByteArray) (h0 : 0 < t.size) (h : t[0] ≠ 45) (hs : t.size ≤ 9223372036854775807) (w : World) : Calls Tryz.prog 33 #[.string t] w fun e w' => e = .returned (.bool (okS t)) ∧ Below w.heap.size w w' := by
  have HC := Lib.hid (show okS t = coreB t.data.toList from valid_plain (first_ne h0 h))
  have hm : (((t[0]).toNat : Int) == 45) = false := byte_eq_no h
  have hpi : (0 : Int) < (t.size : Int) := by omega
  clear h
  go_enter Tryz.func33, Tryz.ntmps33
  go_wp2
  go_loop [3] (fun i => ∃ k : Nat, k ≤ t.size ∧ i = .int .i64 k ∧ Hid ((t.data.toList.take k).all isD = true)) (fun i => t.size - (intOf i).toNat)
  case atStart => exact ⟨0, Nat.zero_le _, rfl, rfl⟩
  case round =>
    obtain ⟨k, hk, rfl, hA⟩ := hrel
    by_cases hlt : k < t.size
    · have hidx : (k : Int) < (t.size : Int) := by omega
      have hstep := take_all t k hlt
      by_cases hd : isD t[k] = true
      · have hd2 := isD_iff.1 hd
        have l1 : (48 : Int) ≤ ((t[k]).toNat : Int) := by omega
        have l2 : ((t[k]).toNat : Int) ≤ 57 := by omega
        have HA := Lib.hid (show (t.data.toList.take (k + 1)).all isD = true by rw [hstep, hA.out, hd]; rfl)
        clear hstep hd hd2
        go_wp2
        go_round
        case rel => exact ⟨k + 1, by omega, by go_num, HA⟩
        case measure => simp [intOf]; omega
      · have hd2 : ¬ (48 ≤ (t[k]).toNat ∧ (t[k]).toNat ≤ 57) := fun h => hd (isD_iff.2 h)
        have HF := Lib.hid (HC.out.trans (core_bad t k hlt (by simpa using hd)))
        have hcs : ((t[k]).toNat : Int) < 48 ∨ (48 : Int) ≤ ((t[k]).toNat : Int) ∧ (57 : Int) < ((t[k]).toNat : Int) := by omega
        clear hstep hd hd2
        rcases hcs with h | ⟨h, h'⟩
        · go_wp2
          go_ret
          exact ⟨ret_bool HF.out.symm, Below.refl _ _⟩
        · go_wp2
          go_ret
          exact ⟨ret_bool HF.out.symm, Below.refl _ _⟩
    · obtain rfl : k = t.size := by omega
      have hall : t.data.toList.all isD = true := by have := hA.out; rwa [List.take_of_length_le (by rw [data_len]; exact Nat.le_refl _)] at this
      clear hA hlt
      by_cases h0 : t.size = 0
      · have HF := Lib.hid (HC.out.trans (core_empty t h0))
        have e0 : t = ⟨#[]⟩ := ByteArray.ext (Array.eq_empty_of_size_eq_zero h0)
        clear HC hall h0
        subst e0
        go_wp2
        go_ret
        exact ⟨ret_bool HF.out.symm, Below.refl _ _⟩
      · have hp : 0 < t.size := by omega
        have hpi : (0 : Int) < (t.size : Int) := by omega
        clear h0
        by_cases h2 : t.size ≤ 200
        · have h2i : (t.size : Int) ≤ 200 := by omega
          by_cases hz : t.toList = [48]
          · have HF := Lib.hid (HC.out.trans (core_zero t hz))
            have hzb : (t.toList == [48]) = true := by rw [hz]; rfl
            clear hz HC hall
            go_wp2
            go_ret
            exact ⟨ret_bool HF.out.symm, Below.refl _ _⟩
          · have hzb : (t.toList == [48]) = false := beq_eq_false_iff_ne.2 hz
            have HF := Lib.hid (HC.out.trans (core_head t hp h2 hall hz))
            clear hz HC hall
            go_wp2
            go_ret
            exact ⟨ret_bool (by rw [HF.out]), Below.refl _ _⟩
        · have h2i : (200 : Int) < (t.size : Int) := by omega
          have HF := Lib.hid (HC.out.trans (core_long t (by omega)))
          clear HC hall h2
          go_wp2
          go_ret
          exact ⟨ret_bool HF.out.symm, Below.refl _ _⟩

set_option maxRecDepth 100000 in
set_option maxHeartbeats 4000000 in
theorem rvalid_empty (w : World) : Calls Tryz.prog 33 #[.string ⟨#[]⟩] w fun e w' => e = .returned (.bool (okS ⟨#[]⟩)) ∧ Below w.heap.size w w' := by
  have HF := Lib.hid (show okS ⟨#[]⟩ = false from rfl)
  go_enter Tryz.func33, Tryz.ntmps33
  go_wp2
  go_loop [3] (fun i => i = .int .i64 0) (fun _ => 0)
  case atStart => rfl
  case round =>
    obtain rfl := hrel
    go_wp2
    go_ret
    exact ⟨ret_bool HF.out.symm, Below.refl _ _⟩

set_option maxRecDepth 100000 in
set_option maxHeartbeats 4000000 in
theorem rvalid_minus (s : ByteArray) (h0 : 0 < s.size) (h : s[0] = 45) (hs : s.size ≤ 9223372036854775807) (w : World) : Calls Tryz.prog 33 #[.string s] w fun e w' => e = .returned (.bool (okS s)) ∧ Below w.heap.size w w' := by
  have hv : okS s = (!decide ((s.extract 1 s.size).data.toList = [48]) && coreB (s.extract 1 s.size).data.toList) := by
    unfold okS
    rw [first_eq h0 h]; exact valid_minus
  have hm : (((s[0]).toNat : Int) == 45) = true := by rw [h]; rfl
  have hpi : (0 : Int) < (s.size : Int) := by omega
  have hts : (s.extract 1 s.size).size ≤ 9223372036854775807 := by simp; omega
  clear h
  by_cases hz : (s.extract 1 s.size).data.toList = [48]
  · have HF := Lib.hid (show okS s = false by rw [hv, decide_eq_true hz]; rfl)
    have hzb : ((s.extract 1 s.size).toList == [48]) = true := by rw [ByteArray.toList_eq, hz]; rfl
    clear hv hz hts
    go_enter Tryz.func33, Tryz.ntmps33
    go_wp2
    go_ret
    exact ⟨ret_bool HF.out.symm, Below.refl _ _⟩
  have HC := Lib.hid (show okS s = coreB (s.extract 1 s.size).data.toList by rw [hv, decide_eq_false hz]; rfl)
  have hzb : ((s.extract 1 s.size).toList == [48]) = false := by rw [ByteArray.toList_eq]; exact beq_eq_false_iff_ne.2 hz
  clear hv hz
  go_enter Tryz.func33, Tryz.ntmps33
  go_wp2
  generalize s.extract 1 s.size = t at *
  clear hzb
  go_loop [3] (fun i => ∃ k : Nat, k ≤ t.size ∧ i = .int .i64 k ∧ Hid ((t.data.toList.take k).all isD = true)) (fun i => t.size - (intOf i).toNat)
  case atStart => exact ⟨0, Nat.zero_le _, rfl, rfl⟩
  case round =>
    obtain ⟨k, hk, rfl, hA⟩ := hrel
    by_cases hlt : k < t.size
    · have hidx : (k : Int) < (t.size : Int) := by omega
      have hstep := take_all t k hlt
      by_cases hd : isD t[k] = true
      · have hd2 := isD_iff.1 hd
        have l1 : (48 : Int) ≤ ((t[k]).toNat : Int) := by omega
        have l2 : ((t[k]).toNat : Int) ≤ 57 := by omega
        have HA := Lib.hid (show (t.data.toList.take (k + 1)).all isD = true by rw [hstep, hA.out, hd]; rfl)
        clear hstep hd hd2
        go_wp2
        go_round
        case rel => exact ⟨k + 1, by omega, by go_num, HA⟩
        case measure => simp [intOf]; omega
      · have hd2 : ¬ (48 ≤ (t[k]).toNat ∧ (t[k]).toNat ≤ 57) := fun h => hd (isD_iff.2 h)
        have HF := Lib.hid (HC.out.trans (core_bad t k hlt (by simpa using hd)))
        have hcs : ((t[k]).toNat : Int) < 48 ∨ (48 : Int) ≤ ((t[k]).toNat : Int) ∧ (57 : Int) < ((t[k]).toNat : Int) := by omega
        clear hstep hd hd2
        rcases hcs with h | ⟨h, h'⟩
        · go_wp2
          go_ret
          exact ⟨ret_bool HF.out.symm, Below.refl _ _⟩
        · go_wp2
          go_ret
          exact ⟨ret_bool HF.out.symm, Below.refl _ _⟩
    · obtain rfl : k = t.size := by omega
      have hall : t.data.toList.all isD = true := by have := hA.out; rwa [List.take_of_length_le (by rw [data_len]; exact Nat.le_refl _)] at this
      clear hA hlt
      by_cases h0 : t.size = 0
      · have HF := Lib.hid (HC.out.trans (core_empty t h0))
        have e0 : t = ⟨#[]⟩ := ByteArray.ext (Array.eq_empty_of_size_eq_zero h0)
        clear HC hall h0
        subst e0
        go_wp2
        go_ret
        exact ⟨ret_bool HF.out.symm, Below.refl _ _⟩
      · have hp : 0 < t.size := by omega
        have hpi : (0 : Int) < (t.size : Int) := by omega
        clear h0
        by_cases h2 : t.size ≤ 200
        · have h2i : (t.size : Int) ≤ 200 := by omega
          by_cases hz : t.toList = [48]
          · have HF := Lib.hid (HC.out.trans (core_zero t hz))
            have hzb : (t.toList == [48]) = true := by rw [hz]; rfl
            clear hz HC hall
            go_wp2
            go_ret
            exact ⟨ret_bool HF.out.symm, Below.refl _ _⟩
          · have hzb : (t.toList == [48]) = false := beq_eq_false_iff_ne.2 hz
            have HF := Lib.hid (HC.out.trans (core_head t hp h2 hall hz))
            clear hz HC hall
            go_wp2
            go_ret
            exact ⟨ret_bool (by rw [HF.out]), Below.refl _ _⟩
        · have h2i : (200 : Int) < (t.size : Int) := by omega
          have HF := Lib.hid (HC.out.trans (core_long t (by omega)))
          clear HC hall h2
          go_wp2
          go_ret
          exact ⟨ret_bool HF.out.symm, Below.refl _ _⟩

/-- putlogref03.Valid. -/
theorem rvalid_any (s : ByteArray) (hs : s.size ≤ 9223372036854775807) (w : World) : Calls Tryz.prog 33 #[.string s] w fun e w' => e = .returned (.bool (okS s)) ∧ Below w.heap.size w w' := by
  by_cases h0 : s.size = 0
  · obtain rfl : s = ⟨#[]⟩ := ByteArray.ext (Array.eq_empty_of_size_eq_zero h0)
    exact rvalid_empty w
  · have hp : 0 < s.size := by omega
    by_cases h : s[0] = 45
    · exact rvalid_minus s hp h hs w
    · exact rvalid_plain s hp h hs w

/-- The digits of a text, the lowest one first. -/
def undig (l : List UInt8) : List Int := l.reverse.map fun b => (b.toNat : Int) - 48
theorem undig_cons (b : UInt8) (l : List UInt8) : undig (b :: l) = undig l ++ [(b.toNat : Int) - 48] := by simp [undig]
theorem undig_len (l : List UInt8) : (undig l).length = l.length := by simp [undig]
theorem undig_dig {l : List UInt8} (h : ∀ b ∈ l, isD b = true) : Dig 10 (undig l) := by
  intro x hx
  obtain ⟨b, hb, rfl⟩ := List.mem_map.1 hx
  have := isD_iff.1 (h b (List.mem_reverse.1 hb))
  omega
theorem undig_val {l : List UInt8} (h : ∀ b ∈ l, isD b = true) : val 10 (undig l) = dnum l := by
  induction l with
  | nil => rfl
  | cons b l ih =>
    have hb := isD_iff.1 (h b (by simp))
    rw [undig_cons, val_snoc, ih (fun c hc => h c (by simp [hc])), undig_len]
    rw [show b :: l = [b] ++ l from rfl, dnum_append]
    have e : dnum [b] = b.toNat - 48 := by simp [dnum, dnF]
    rw [e]
    have e2 : ((b.toNat : Int) - 48) = ((b.toNat - 48 : Nat) : Int) := by omega
    rw [e2]; simp; omega
theorem undig_num {l : List UInt8} (h : ∀ b ∈ l, isD b = true) (h0 : l ≠ []) (hh : ∀ b, l.head? = some b → b.toNat ≠ 48) : Num 10 (undig l) (dnum l) := by
  refine ⟨undig_dig h, ?_, undig_val h⟩
  cases l with
  | nil => exact absurd rfl h0
  | cons b l =>
    rw [undig_cons]
    have hb := isD_iff.1 (h b (by simp))
    have := hh b rfl
    exact (top_snoc (zs := undig l) (d := (b.toNat : Int) - 48) (by omega)).out

/-- What digits returns. -/
def DV (w : World) (r : Value) (z : Int) : Prop := ∃ v xs, r = .tuple #[.bool (decide (z < 0)), v] ∧ Sl w v xs ∧ Num 10 xs z.natAbs
set_option maxRecDepth 100000 in
set_option maxHeartbeats 4000000 in
theorem rdigits_zero (w : World) : Calls Tryz.prog 48 #[.string ⟨#[48]⟩] w (Gives w fun r w' => DV w' r 0) := by
  go_enter Tryz.func48, Tryz.ntmps48
  go_wp2
  go_loop [5, 6] (fun o i => o = .slice none 0 0 ∧ i = .int .i64 0) (fun _ _ => 0)
  case atStart => exact ⟨rfl, rfl⟩
  case round =>
    obtain ⟨rfl, rfl⟩ := hrel
    go_wp2
    go_ret2
    exact ⟨⟨_, rfl, _, [], rfl, Sl.nil _, Num.trim (xs := []) (Dig.nil 10)⟩, Below.refl _ _⟩

set_option maxRecDepth 100000 in
set_option maxHeartbeats 4000000 in
theorem rdigits_pos (t : ByteArray) (z : Int) (hA : ∀ b ∈ t.data.toList, isD b = true) (hN : Num 10 (undig t.data.toList) z.natAbs) (hz : 0 < z) (h0 : 0 < t.size) (h2 : t.size ≤ 200) (h : t[0] ≠ 45) (hne : (t.toList == [48]) = false) (w : World) :
    Calls Tryz.prog 48 #[.string t] w (Gives w fun r w' => DV w' r z) := by
  have HA := Lib.hid hA
  have HN := Lib.hid hN
  have HZ := Lib.hid (show decide (z < 0) = false from decide_eq_false (by omega))
  have hm : (((t[0]).toNat : Int) == 45) = false := byte_eq_no h
  have hpi : (0 : Int) < (t.size : Int) := by omega
  clear h hA hN hz
  go_enter Tryz.func48, Tryz.ntmps48
  go_wp2
  go_loopw [5, 6] (fun o i wr => ∃ (r : Nat) (q : Int) (ds : List Int), r ≤ t.size ∧ i = .int .i64 q ∧ Hid (q = (r : Int) - 1) ∧ Hid (ds = undig (t.data.toList.drop r)) ∧ ds.length + r = t.size ∧ wr.ownsRow w.heap.size 3 1 o ds.length (ds.map (Value.int .i64)) ∧ Below w.heap.size w wr)
    (fun _ i _ => (intOf i + 1).toNat)
  case atStart => exact ⟨t.size, _, [], Nat.le_refl _, rfl, (by show _ = _; omega), (show [] = undig (t.data.toList.drop t.size) by rw [List.drop_of_length_le (by rw [data_len]; exact Nat.le_refl _)]; rfl), by simp, World.ownsRow_nil _ _ _ _, Below.refl _ _⟩
  case round =>
    obtain ⟨r, q, ds, hr, rfl, hq, hD, hlen, hown, hB⟩ := hrel
    cases r with
    | zero =>
      obtain rfl : q = -1 := by have := hq.out; omega
      have hsl := Sl.of_own hown
      have hds := hD.out
      rw [List.drop_zero] at hds
      have HDS := Lib.hid hds
      clear hlen hds hown
      go_wp2
      go_ret2
      exact ⟨⟨_, rfl, _, ds, by rw [HZ.out]; rfl, hsl, by rw [HDS.out]; exact HN.out⟩, hB⟩
    | succ r =>
      obtain rfl : q = (r : Int) := by have := hq.out; omega
      have hlt : r < t.size := by omega
      have hidx : (r : Int) < (t.size : Int) := by omega
      have hd := isD_iff.1 (HA.out t[r] (by rw [← data_get t r hlt]; exact List.getElem_mem _))
      have l1 : (48 : Int) ≤ ((t[r]).toNat : Int) := by omega
      have l2 : ((t[r]).toNat : Int) ≤ 57 := by omega
      have HD2 := Lib.hid (show ds ++ [((t[r]).toNat : Int) - 48] = undig (t.data.toList.drop r) by
        rw [List.drop_eq_getElem_cons (i := r) (by rw [data_len]; exact hlt), data_get t r hlt, undig_cons, ← hD.out])
      have Hlen := Lib.hid hlen
      have hdl : ds.length ≤ 1000 := by omega
      clear hd hlen
      go_wp2_with (at_builtin; refine wp_app_int (((t[r]).toNat : Int) - 48) 44 Tryz.underlying44 rfl _ _ rfl rfl rfl hown (by omega) hB.size ?_; intro g cp w2 hown2 hg2 hb2)
      go_roundw
      case rel => exact ⟨r, _, ds ++ [((t[r]).toNat : Int) - 48], by omega, rfl, rfl, HD2, (by rw [List.length_append]; have := Hlen.out; simp; omega), (by rw [List.length_append]; exact hown2), hB.trans hb2⟩
      case measure => simp [intOf]

set_option maxRecDepth 100000 in
set_option maxHeartbeats 4000000 in
theorem rdigits_neg (s : ByteArray) (z : Int) (hA : ∀ b ∈ (s.extract 1 s.size).data.toList, isD b = true) (hN : Num 10 (undig (s.extract 1 s.size).data.toList) z.natAbs) (hz : z < 0) (h0 : 0 < s.size) (h2 : s.size ≤ 201) (h : s[0] = 45) (hne : ((s.extract 1 s.size).toList == [48]) = false) (w : World) :
    Calls Tryz.prog 48 #[.string s] w (Gives w fun r w' => DV w' r z) := by
  have HA := Lib.hid hA
  have HN := Lib.hid hN
  have HZ := Lib.hid (show decide (z < 0) = true from decide_eq_true (by omega))
  have hm : (((s[0]).toNat : Int) == 45) = true := by rw [h]; rfl
  have hpi : (0 : Int) < (s.size : Int) := by omega
  have hts : (s.extract 1 s.size).size = s.size - 1 := by simp
  have hts2 : (((s.extract 1 s.size).size : Nat) : Int) = (s.size : Int) - 1 := by omega
  clear h hA hN hz
  go_enter Tryz.func48, Tryz.ntmps48
  go_wp2
  generalize s.extract 1 s.size = t at *
  clear hts2
  go_loopw [5, 6] (fun o i wr => ∃ (r : Nat) (q : Int) (ds : List Int), r ≤ t.size ∧ i = .int .i64 q ∧ Hid (q = (r : Int) - 1) ∧ Hid (ds = undig (t.data.toList.drop r)) ∧ ds.length + r = t.size ∧ wr.ownsRow w.heap.size 3 1 o ds.length (ds.map (Value.int .i64)) ∧ Below w.heap.size w wr)
    (fun _ i _ => (intOf i + 1).toNat)
  case atStart => exact ⟨t.size, _, [], Nat.le_refl _, rfl, (by show _ = _; omega), (show [] = undig (t.data.toList.drop t.size) by rw [List.drop_of_length_le (by rw [data_len]; exact Nat.le_refl _)]; rfl), by simp, World.ownsRow_nil _ _ _ _, Below.refl _ _⟩
  case round =>
    obtain ⟨r, q, ds, hr, rfl, hq, hD, hlen, hown, hB⟩ := hrel
    cases r with
    | zero =>
      obtain rfl : q = -1 := by have := hq.out; omega
      have hsl := Sl.of_own hown
      have hds := hD.out
      rw [List.drop_zero] at hds
      have HDS := Lib.hid hds
      clear hlen hds hown
      go_wp2
      go_ret2
      exact ⟨⟨_, rfl, _, ds, by rw [HZ.out]; rfl, hsl, by rw [HDS.out]; exact HN.out⟩, hB⟩
    | succ r =>
      obtain rfl : q = (r : Int) := by have := hq.out; omega
      have hlt : r < t.size := by omega
      have hidx : (r : Int) < (t.size : Int) := by omega
      have hd := isD_iff.1 (HA.out t[r] (by rw [← data_get t r hlt]; exact List.getElem_mem _))
      have l1 : (48 : Int) ≤ ((t[r]).toNat : Int) := by omega
      have l2 : ((t[r]).toNat : Int) ≤ 57 := by omega
      have HD2 := Lib.hid (show ds ++ [((t[r]).toNat : Int) - 48] = undig (t.data.toList.drop r) by
        rw [List.drop_eq_getElem_cons (i := r) (by rw [data_len]; exact hlt), data_get t r hlt, undig_cons, ← hD.out])
      have Hlen := Lib.hid hlen
      have hdl : ds.length ≤ 1000 := by omega
      clear hd hlen
      go_wp2_with (at_builtin; refine wp_app_int (((t[r]).toNat : Int) - 48) 44 Tryz.underlying44 rfl _ _ rfl rfl rfl hown (by omega) hB.size ?_; intro g cp w2 hown2 hg2 hb2)
      go_roundw
      case rel => exact ⟨r, _, ds ++ [((t[r]).toNat : Int) - 48], by omega, rfl, rfl, HD2, (by rw [List.length_append]; have := Hlen.out; simp; omega), (by rw [List.length_append]; exact hown2), hB.trans hb2⟩
      case measure => simp [intOf]

/-- putlogref03.digits, of an integer. -/
theorem rdigits_any (s : ByteArray) (h : okS s = true) (w : World) : Calls Tryz.prog 48 #[.string s] w (Gives w fun r w' => DV w' r (zS s)) := by
  obtain ⟨h1, h2, h3, h4⟩ := valid_parts h
  have hv : validB s.data.toList = true := h
  by_cases hz : zS s = 0
  · have e : s = ⟨#[48]⟩ := by
      have h5 := (itoa_of_valid hv).1
      have h6 : ival s.data.toList = 0 := hz
      rw [h6, show Lib.itoa (0 : Int) = [48] from itoa_zero false] at h5
      exact ByteArray.ext (Array.ext' h5)
    rw [hz, e]
    exact rdigits_zero w
  · have hne : body s.data.toList ≠ [] := fun e => by
      unfold validB at hv
      rw [e] at hv; simp at hv
    have h0 : 0 < s.size := by
      rw [← data_len]
      cases hl : s.data.toList with
      | nil => rw [hl] at hne; exact absurd rfl hne
      | cons _ _ => simp
    have hd0 : dnum (body s.data.toList) ≠ 0 := fun e => by
      rw [e] at h4
      exact hz (by show ival _ = 0; omega)
    have hhead : ∀ b, (body s.data.toList).head? = some b → b.toNat ≠ 48 := by
      intro b hb e
      have hb2 : b = 48 := UInt8.toNat_inj.1 e
      subst hb2
      unfold validB at hv
      rw [hb] at hv
      simp at hv
      have h7 := hv.2
      rw [h7] at hd0
      exact hd0 rfl
    have hN := undig_num h1 hne hhead
    rw [h4] at hN
    have hb48 : body s.data.toList ≠ [48] := fun e => by rw [e] at hd0; exact hd0 rfl
    by_cases hm : s[0] = 45
    · have e := first_eq h0 hm
      have eb : body s.data.toList = (s.extract 1 s.size).data.toList := by rw [e, body_minus]
      rw [eb] at h1 h2 h3 hN hb48
      have hneg : zS s < 0 := by
        have hl : decide ((s.extract 1 s.size).data.toList.length < s.data.toList.length) = true := decide_eq_true (by rw [e]; simp)
        rw [hl] at h3
        exact of_decide_eq_true h3.symm
      rw [data_len] at h2
      refine rdigits_neg s (zS s) h1 hN hneg h0 (by have : (s.extract 1 s.size).size = s.size - 1 := by simp
                                                    omega) hm ?_ w
      rw [ByteArray.toList_eq]; exact beq_eq_false_iff_ne.2 hb48
    · have eb : body s.data.toList = s.data.toList := by
        cases hl : s.data.toList with
        | nil => rfl
        | cons c r => exact body_plain r (first_ne h0 hm c r hl)
      rw [eb] at h1 h2 h3 hN hb48
      have hneg : ¬ zS s < 0 := by
        have hl : decide (s.data.toList.length < s.data.toList.length) = false := decide_eq_false (by omega)
        rw [hl] at h3
        exact of_decide_eq_false h3.symm
      rw [data_len] at h2
      refine rdigits_pos s (zS s) h1 hN (by omega) h0 h2 hm ?_ w
      rw [ByteArray.toList_eq]; exact beq_eq_false_iff_ne.2 hb48

/- putlogref03.checked. -/
set_option maxRecDepth 100000 in
set_option maxHeartbeats 4000000 in
theorem checked_any (neg : Bool) (v : Value) (xs : List Int) (n : Int) (w : World) (hv : Sl w v xs) (hn : Num 10 xs n) (hl : xs.length ≤ 1000000) :
    Calls Tryz.prog 50 #[.bool neg, v] w (Gives w fun r _ => r = resT true (sgn neg n)) := by
  have hs : xs.length ≤ 200 ↔ Small (sgn neg n) := by
    rw [small_iff (hn.nonneg (by decide))]
    constructor
    · intro h; exact Int.lt_of_lt_of_le (hn.lt (by decide)) (by unfold Big; exact pow_mono (by decide) h)
    · intro h; exact hn.length_le (by decide) h
  by_cases h : xs.length ≤ 200
  · have e : resT true (sgn neg n) = .tuple #[.string ⟨(Lib.itoa (sgn neg n)).toArray⟩, .int .i64 0] := by
      unfold resT txt erz; rw [if_pos rfl, if_pos (hs.1 h), if_pos (hs.1 h)]
    have HE := Lib.hid e
    have hd : decide (xs.length ≤ 200) = true := decide_eq_true h
    clear hs e h
    go_enter Tryz.func50, Tryz.ntmps50
    go_wp2_with fail
    refine (rtext_any neg v xs n w hv hn hl).mono ?_
    rintro e w1 ⟨rfl, hb⟩
    rw [hd]
    go_wp2
    go_ret2
    exact ⟨⟨_, rfl, HE.out.symm⟩, hb⟩
  · have e : resT true (sgn neg n) = .tuple #[.string ⟨#[]⟩, .int .i64 30] := by
      unfold resT txt erz; rw [if_pos rfl, if_neg (fun k => h (hs.2 k)), if_neg (fun k => h (hs.2 k))]
    have HE := Lib.hid e
    have hd : decide (xs.length ≤ 200) = false := decide_eq_false h
    clear hs e h
    go_enter Tryz.func50, Tryz.ntmps50
    go_wp2_with fail
    refine (rtext_any neg v xs n w hv hn hl).mono ?_
    rintro e w1 ⟨rfl, hb⟩
    rw [hd]
    go_wp2
    go_ret2
    exact ⟨⟨_, rfl, HE.out.symm⟩, hb⟩

end Go.Proofs.YtbnilfjhalildaaGreatDoor
