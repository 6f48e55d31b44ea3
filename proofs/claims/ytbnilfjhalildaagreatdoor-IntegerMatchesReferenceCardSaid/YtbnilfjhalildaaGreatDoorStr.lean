/- The contracts of integer.isValid and integer.parse. -/
import Derived.Test.YtbnilfjhalildaaGreatDoorDec
import Derived.Test.YtbnilfjhalildaaGreatDoorAt
import Derived.Test.YtbnilfjhalildaaGreatDoorShelf
import Derived.Lib.SmallJoins
namespace Go.Proofs.YtbnilfjhalildaaGreatDoor
open Go.RowKit

theorem prefix_as (s : ByteArray) (d : List UInt8) (h : body s.data.toList = d) (w : World) :
    Calls Tryz.prog 73 #[.string s, .string ⟨#[45]⟩] w fun e w' => e = .returned (.string ⟨d.toArray⟩) ∧ w = w' :=
  (Tryz.strings_TrimPrefix s ⟨#[45]⟩ w).mono fun _ _ ⟨he, hw⟩ => ⟨by rw [he, ← h]; rfl, hw.symm⟩
theorem byte_ne (c : UInt8) : ((c.toNat : Int) != 48) = (c != 48) := by
  have : ∀ k : Fin 256, (((UInt8.ofNat k.val).toNat : Int) != 48) = (UInt8.ofNat k.val != 48) := by decide +kernel
  have h := this ⟨c.toNat, c.toNat_lt⟩
  simpa using h
def tens : List UInt8 := [48, 49, 50, 51, 52, 53, 54, 55, 56, 57]
theorem trim_as (d t : List UInt8) (h : Lib.trimS d tens = t) (hd : d.length ≤ 9223372036854775807) (w : World) :
    Calls Tryz.prog 74 #[.string ⟨d.toArray⟩, .string ⟨#[48, 49, 50, 51, 52, 53, 54, 55, 56, 57]⟩] w fun e w' => e = .returned (.string ⟨t.toArray⟩) ∧ Below w.heap.size w w' :=
  (Any.strings_Trim_laid Tryz.lays160t (by kernel_rfl) ⟨d.toArray⟩ ⟨#[48, 49, 50, 51, 52, 53, 54, 55, 56, 57]⟩ w (by show d.toArray.size ≤ _; simpa using hd) (by decide) (ascii_of_all (by decide))).mono fun _ _ ⟨he, hw⟩ => ⟨by rw [he, ← h]; rfl, hw⟩
theorem tens_all {d : List UInt8} : Lib.trimS d tens = [] ↔ d.all isD = true := by
  rw [trimS_nil, List.all_eq_true]
  unfold tens
  simp only [tens_isD]
theorem body_len (l : List UInt8) : (body l).length ≤ l.length := by
  unfold body Lib.trimPrefix; split
  · simp
  · exact Nat.le_refl _

set_option maxRecDepth 100000 in
set_option maxHeartbeats 1000000 in
theorem isValid_any (s : ByteArray) (w : World) :
    Calls Tryz.prog 47 #[.string s] w fun e w' => e = .returned (.bool (validB s.data.toList)) ∧ Below w.heap.size w w' := by
  have hbl := body_len s.data.toList
  rw [show s.data.toList.length = s.size by rw [Array.length_toList]; rfl] at hbl
  generalize hv : validB s.data.toList = v
  unfold validB at hv
  cases hd : body s.data.toList with
  | nil =>
    rw [hd] at hv
    have Hv := Lib.hid hv
    have Hd := Lib.hid hd
    clear hv hd hbl
    go_enter Tryz.func47, Tryz.ntmps47
    go_wp2_with (go_at_call 73; refine (prefix_as _ _ Hd.out _).mono ?_; rintro e w' ⟨rfl, rfl⟩)
    go_ret
    exact ⟨ret_bool (by rw [← Hv.out]; rfl), Below.refl _ _⟩
  | cons c r =>
    rw [hd] at hv hbl
    by_cases hlen : 200 < r.length + 1
    · have hvf : v = false := by rw [← hv, decide_eq_false (show ¬ (c :: r).length ≤ 200 by simp; omega)]; simp
      subst hvf
      have Hd := Lib.hid hd
      clear hv hd
      go_enter Tryz.func47, Tryz.ntmps47
      go_wp2_with (go_at_call 73; refine (prefix_as _ _ Hd.out _).mono ?_; rintro e w' ⟨rfl, rfl⟩)
      go_ret
      exact ⟨rfl, Below.refl _ _⟩
    · have hlen' : r.length + 1 ≤ 200 := by omega
      cases ht : Lib.trimS (c :: r) tens with
      | cons t ts =>
        have hall : (c :: r).all isD = false := by
          cases h : (c :: r).all isD with
          | false => rfl
          | true => rw [tens_all.2 h] at ht; cases ht
        have hvf : v = false := by rw [← hv, hall]; simp
        subst hvf
        have Hd := Lib.hid hd
        have Ht := Lib.hid ht
        clear hv hd ht hall
        go_enter Tryz.func47, Tryz.ntmps47
        go_wp2_with (first
          | (go_at_call 73; refine (prefix_as _ _ Hd.out _).mono ?_; rintro e w' ⟨rfl, rfl⟩)
          | (go_at_call 74; refine (trim_as _ _ Ht.out (by simp; omega) _).mono ?_; rintro e w2 ⟨rfl, hb2⟩))
        go_ret
        exact ⟨rfl, hb2⟩
      | nil =>
        have hall := tens_all.1 ht
        rw [hall, decide_eq_true (show (c :: r).length ≤ 200 by simp; omega)] at hv
        have Hv := Lib.hid hv
        have Hd := Lib.hid hd
        have Ht := Lib.hid ht
        clear hv hd ht hall
        by_cases h0 : s.data.toList = [48]
        · have hvt : v = true := by rw [← Hv.out, h0]; simp
          subst hvt
          have h0' : s.toList = [48] := (Lib.toList_data s).trans h0
          clear Hv h0
          go_enter Tryz.func47, Tryz.ntmps47
          go_wp2_with (first
            | (go_at_call 73; refine (prefix_as _ _ Hd.out _).mono ?_; rintro e w' ⟨rfl, rfl⟩)
            | (go_at_call 74; refine (trim_as _ _ Ht.out (by simp; omega) _).mono ?_; rintro e w2 ⟨rfl, hb2⟩))
          go_ret
          exact ⟨rfl, hb2⟩
        · have hvc : v = (c != 48) := by rw [← Hv.out, decide_eq_false h0]; simp [bne]; rfl
          have h0' : ¬ s.toList = [48] := fun e => h0 ((Lib.toList_data s).symm.trans e)
          have Hc := Lib.hid hvc
          clear Hv h0 hvc
          go_enter Tryz.func47, Tryz.ntmps47
          go_wp2_with (first
            | (go_at_call 73; refine (prefix_as _ _ Hd.out _).mono ?_; rintro e w' ⟨rfl, rfl⟩)
            | (go_at_call 74; refine (trim_as _ _ Ht.out (by simp; omega) _).mono ?_; rintro e w2 ⟨rfl, hb2⟩))
          go_ret
          refine ⟨ret_bool ?_, hb2⟩
          rw [Hc.out, beq_eq_false_iff_ne.2 h0', Bool.false_or]
          show ((c.toNat : Int) != 48) = (c != 48)
          exact byte_ne c

/-- strconv.Atoi of one to 18 digits. -/
theorem atoi_as (t : ByteArray) (l : List UInt8) (ht : t.data.toList = l) (h0 : l ≠ []) (h : ∀ b ∈ l, isD b = true) (hl : l.length ≤ 18) (w : World) :
    Calls Tryz.prog 57 #[.string t] w fun e w' => e = .returned (.tuple #[.int .i64 (dnum l), .nilIface]) ∧ Below w.heap.size w w' := by
  have ha : Lib.atoi l = some (dnum l : Int) := by
    cases l with
    | nil => exact absurd rfl h0
    | cons b r =>
      have hb := isD_iff.1 (h b (by simp))
      have e1 : (b == 45) = false := beq_eq_false_iff_ne.2 (fun e => by subst e; exact absurd hb.1 (by decide))
      have e2 : (b == 43) = false := beq_eq_false_iff_ne.2 (fun e => by subst e; exact absurd hb.1 (by decide))
      have e3 : Lib.decNat (b :: r) = some (dnum (b :: r)) := by unfold Lib.decNat; rw [if_neg (by simp)]; exact decFrom_dn _ 0 h
      unfold Lib.atoi
      simp only [e1, e2, e3]; rfl
  refine (Tryz.strconv_Atoi t (dnum l) (by rw [show t.size = t.data.toList.length by rw [Array.length_toList]; rfl, ht]; exact hl) (by rw [ht]; exact ha) w).mono ?_
  rintro e w' ⟨rfl, t, rfl⟩
  exact ⟨rfl, Joins.below_bytesWorld _ _ _ _ (Nat.le_refl _)⟩

theorem parse_step {ds : List UInt8} {k f : Nat} {xs : List Int} (hds : ∀ b ∈ ds, isD b = true) (hk : k ≤ ds.length) (hf : f ≤ k) (h4 : k - f ≤ 4) (hz : k - f < 4 → f = 0) (hx : Dig 10000 xs)
    (hv : Hid ((dnum ds : Int) = dnum (ds.take k) * 10000 ^ xs.length + val 10000 xs)) :
    Dig 10000 (xs ++ [(dnum ((ds.take k).drop f) : Int)]) ∧ Hid ((dnum ds : Int) = dnum (ds.take f) * 10000 ^ (xs ++ [(dnum ((ds.take k).drop f) : Int)]).length + val 10000 (xs ++ [(dnum ((ds.take k).drop f) : Int)])) := by
  have hc : ∀ b ∈ (ds.take k).drop f, isD b = true := fun b hb => hds b (List.mem_of_mem_take (List.mem_of_mem_drop hb))
  have hl : ((ds.take k).drop f).length = k - f := by rw [List.length_drop, List.length_take]; omega
  have hlt := dnum_lt hc
  have hp : 10 ^ ((ds.take k).drop f).length ≤ 10 ^ 4 := Nat.pow_le_pow_right (by decide) (by omega)
  have e : ds.take k = ds.take f ++ (ds.take k).drop f := by
    conv => lhs; rw [← List.take_append_drop f (ds.take k)]
    rw [List.take_take, Nat.min_eq_left hf]
  have e2 : (dnum (ds.take k) : Int) = dnum (ds.take f) * 10000 + dnum ((ds.take k).drop f) := by
    conv => lhs; rw [e]
    rw [dnum_append, hl]
    by_cases h : k - f < 4
    · rw [hz h]; simp [dnum, dnF]
    · rw [show k - f = 4 by omega]; omega
  refine ⟨hx.snoc (by omega) (by omega), ?_⟩
  show (dnum ds : Int) = _
  rw [hv.out, e2, val_snoc, List.length_append, Int.add_mul, Int.mul_assoc]
  simp only [List.length_cons, List.length_nil, Nat.zero_add, Int.pow_succ]
  rw [Int.mul_comm 10000]
  omega

set_option maxRecDepth 100000 in
set_option maxHeartbeats 1000000 in
theorem parse_any (s : ByteArray) (ds : List UInt8) (w : World) (hd : body s.data.toList = ds) (hds : ∀ b ∈ ds, isD b = true) (hl : ds.length ≤ 200) :
    Calls Tryz.prog 59 #[.string s] w (Gives w fun r w' => ∃ v xs, r = .agg #[.bool (decide (ds.length < s.size)), v] ∧ Sl w' v xs ∧ Num 10000 xs (dnum ds)) := by
  have Hd := Lib.hid hd
  clear hd
  go_enter Tryz.func59, Tryz.ntmps59
  go_wp2_with (go_at_call 73; refine (prefix_as _ _ Hd.out _).mono ?_; rintro e w' ⟨rfl, rfl⟩)
  go_loopw [3] (fun d wr => ∃ (t : ByteArray) (xs : List Int) (v : Value), d = .string t ∧ t.size ≤ ds.length ∧ Hid (t.data.toList = ds.take t.size) ∧ xs.length + t.size ≤ ds.length ∧ Blk wr (w.heap.size + 1) #[.bool (decide (ds.length < s.size)), v] 50 ∧
      Blk wr w.heap.size #[.bool false, .slice none 0 0] 50 ∧ wr.ownsRow w.heap.size 3 1 v xs.length (xs.map (Value.int .i64)) ∧ Dig 10000 xs ∧ Hid ((dnum ds : Int) = dnum (ds.take t.size) * 10000 ^ xs.length + val 10000 xs) ∧ Below w.heap.size w wr)
    (fun d _ => strLen d)
  case atStart =>
    refine ⟨⟨ds.toArray⟩, [], _, rfl, Nat.le_refl _, (by rw [show (⟨ds.toArray⟩ : ByteArray).size = ds.length from rfl, List.take_length]; rfl), by show [].length + ds.length ≤ _; simp, ?_, (Blk.new w _ _).alloc _, World.ownsRow_nil _ _ _ _, Dig.nil _, ?_, ?_⟩
    · have := Blk.new (w.alloc (.cells #[.bool false, .slice none 0 0] 50)) #[.bool (decide (ds.length < s.size)), .slice none 0 0] 50
      rwa [World.size_alloc] at this
    · show (dnum ds : Int) = dnum (ds.take ds.length) * _ + _
      rw [List.take_length]; simp [val]
    · exact ((Below.refl _ _).alloc (Nat.le_refl _) _).alloc (by simp) _
  case round =>
    obtain ⟨t, xs, v, rfl, hk, htd, hxk, hblk, hblk0, hown, hdig, hv, hnx⟩ := hrel
    have c0 := hblk.cell 0
    have c1 := hblk.cell 1
    have f1 := hblk.frozen 1
    simp only [List.getElem?_toArray, List.getElem?_cons_zero, List.getElem?_cons_succ] at c0 c1
    by_cases hk0 : t.size = 0
    · have Hk0 := Lib.hid hk0
      have hk1 : ¬ 0 < t.size := by omega
      clear hk0
      have e0 := hblk0.cell 0
      have e1 := hblk0.cell 1
      have ef0 := hblk0.frozen 0
      have ef1 := hblk0.frozen 1
      simp only [List.getElem?_toArray, List.getElem?_cons_zero, List.getElem?_cons_succ] at e0 e1
      go_wp2_with (go_at_call 65; refine (trimmed_any _ xs _ (Sl.of_own hown)).mono ?_; rintro e w2 ⟨⟨r2, rfl, hz2, hp2⟩, rfl⟩; obtain ⟨a5, c5, rfl⟩ := hz2.shape)
      have hvs : ∀ n, v ≠ .int .i64 n := by
        rcases hown.2 with ⟨rfl, _⟩ | ⟨g, cap, cur, rfl, _⟩
        · exact fun n e => by cases e
        · exact fun n e => by cases e
      have m1 := hblk0.kept (grown_setCell wr (w.heap.size + 1) 1 (.slice a5 (trim xs).length c5)) (by simp)
      have m2 := m1.set 0 (.bool (decide (ds.length < s.size)))
      have m3 := m2.set 1 (.slice a5 (trim xs).length c5)
      have z1 := ((hz2.setBlk hblk (no_int2 _ _ hvs) 1 (.slice a5 (trim xs).length c5)).setBlk m1 (no_int2 _ _ (fun n e => by cases e)) 0 (.bool (decide (ds.length < s.size)))).setBlk m2 (no_int2 _ _ (fun n e => by cases e)) 1 (.slice a5 (trim xs).length c5)
      have y0 := m3.cell 0
      have y1 := m3.cell 1
      simp only [List.setIfInBounds_toArray, List.set_cons_zero, List.set_cons_succ, List.getElem?_toArray, List.getElem?_cons_zero, List.getElem?_cons_succ] at y0 y1
      refine bodyPost_ret (v := .agg #[.bool (decide (ds.length < s.size)), .slice a5 (trim xs).length c5]) (by simp [results, Tryz.results59, go_sem, y0, y1]) rfl ?_
      refine ⟨⟨_, rfl, _, _, rfl, z1, ?_⟩, ?_⟩
      · have hfin := hv.out
        rw [show ds.take t.size = [] by rw [Hk0.out]; rfl] at hfin
        have e : (dnum ds : Int) = val 10000 xs := by rw [hfin]; simp [dnum, dnF]
        rw [e]; exact Num.trim hdig
      · exact ((hnx.setCell (p := ⟨w.heap.size + 1, 1, none⟩) (by simp) _).setCell (p := ⟨w.heap.size, 0, none⟩) (Nat.le_refl _) _).setCell (p := ⟨w.heap.size, 1, none⟩) (Nat.le_refl _) _
    · have hk1 : 0 < t.size := by omega
      obtain ⟨f, hf⟩ : ∃ f, f = t.size - 4 := ⟨_, rfl⟩
      have hf1 : f ≤ t.size := by omega
      have hf2 : t.size ≤ f + 4 := by omega
      have hf3 : t.size < f + 4 → f = 0 := by omega
      have hmx : max (0 : Int) ((t.size : Int) - 4) = (f : Int) := by omega
      have Hst := Lib.hid (parse_step (k := t.size) (f := f) hds hk hf1 (by omega) (fun h => hf3 (by omega)) hdig hv)
      have hch : ((t.extract f t.size).data.toList) = (ds.take t.size).drop f := by rw [Lib.extract_data, htd.out, List.take_of_length_le (by simp; omega)]
      have hat := fun w0 => atoi_as (t.extract f t.size) _ hch (by intro e; have := congrArg List.length e; simp at this; omega) (fun b hb => hds b (List.mem_of_mem_take (List.mem_of_mem_drop hb))) (by simp; omega) w0
      have Hat := Lib.hid hat
      clear hat hf hk0 hch
      have hf3' := Lib.hid hf3
      clear hf3
      go_wp2_with fail
      refine (Hat.out wr).mono ?_
      rintro e w1 ⟨rfl, hb1⟩
      have k1 := hblk.below hb1
      have k0 := hblk0.below hb1
      have ko := own_below hown hb1
      have g1 := k1.cell 1
      have gf := k1.frozen 1
      simp only [List.getElem?_toArray, List.getElem?_cons_zero, List.getElem?_cons_succ] at g1
      have hnr := k1.not_row (by decide) ko
      have hnr0 := k0.not_row (by decide) ko
      have hz1 : w.heap.size ≤ w1.heap.size := Nat.le_trans hnx.size hb1.size
      generalize hD : (dnum ((ds.take t.size).drop f) : Int) = D at *
      clear hD
      go_wp2_with (at_builtin; refine wp_app_int D 48 Tryz.underlying48 rfl _ _ rfl rfl rfl ko (by omega) hz1 ?_; intro g cap' w2 hown2 hg2 hb2; have k2 := (k1.alloc (.cells #[.int .i64 D] 3)).kept hg2 hnr; have j1 := k2.cell 1; have jf := k2.frozen 1; simp only [List.getElem?_toArray, List.getElem?_cons_zero, List.getElem?_cons_succ] at j1)
      have hex : (t.extract 0 f).data.toList = ds.take f := by rw [Lib.extract_data, htd.out, List.drop_zero, Nat.sub_zero, List.take_take, Nat.min_eq_left hf1]
      have hes : (t.extract 0 f).size = f := by
        have e : (t.extract 0 f).size = (t.extract 0 f).data.toList.length := by rw [Array.length_toList]; rfl
        rw [e, hex, List.length_take]; omega
      have k3 := k2.set 1 (.slice (some ⟨g, 0, none⟩) (xs.length + 1) cap')
      have n2 := (k2.not_row (by decide) hown2)
      refine ⟨⟨t.extract 0 f, xs ++ [D], .slice (some ⟨g, 0, none⟩) (xs.length + 1) cap', rfl, by rw [hes]; omega, by rw [hes]; exact hex, by rw [hes, List.length_append]; simp; omega, k3, ?_, ?_, Hst.out.1, by rw [hes]; exact Hst.out.2, ?_⟩, ?_⟩
      · exact ((k0.alloc (.cells #[.int .i64 D] 3)).kept hg2 hnr0).kept (grown_setCell w2 (w.heap.size + 1) 1 _) (by simp)
      · rw [List.length_append]; exact hown2.kept (grown_setCell w2 (w.heap.size + 1) 1 _) (.inr (Ne.symm n2))
      · exact ((hnx.trans (hb1.mono hnx.size)).trans hb2).setCell (p := ⟨w.heap.size + 1, 1, none⟩) (by simp) _
      · show (t.extract 0 f).size < t.size
        rw [hes]; omega
end Go.Proofs.YtbnilfjhalildaaGreatDoor
