/- signed.text: an integer as a text, or the error 30. -/
import Derived.Test.YtbnilfjhalildaaGreatDoorTxtM
import Derived.Test.YtbnilfjhalildaaGreatDoorBld
import Derived.Lib.SmallJoins
import Derived.Lib.AppendIntMem
namespace Go.Proofs.YtbnilfjhalildaaGreatDoor
open Go.RowKit Go.Shelf
attribute [local go_sem] Oper.semAt_some

/-- What the walks need of the library's variables. -/
structure Env (w : World) : Prop where
  tab : Lib.TabIs Tryz.prog w "internal/strconv.uint64pow10" .u64 Lib.pow10Tab
theorem global_pow : (Tryz.prog.globalNamed "internal/strconv.uint64pow10").isSome = true := by kernel_rfl
theorem Env.below {w w' : World} {B : Nat} (h : Env w) (hb : Below B w w') (hB : w.heap.size ≤ B) : Env w' := by
  obtain ⟨g, hg⟩ := Option.isSome_iff_exists.1 global_pow
  exact ⟨Joins.tab_stays hg h.tab hb hB⟩

theorem itoa_as {n : Int} (h0 : 0 ≤ n) (h1 : n < 10000) {w : World} (hE : Env w) :
    Calls Tryz.prog 58 #[.int .i64 n] w fun e w' => e = .returned (.string ⟨(Lib.decDigits n.toNat).toArray⟩) ∧ Below w.heap.size w w' := by
  refine (Tryz.strconv_Itoa n (by omega) (by omega) w hE.tab).mono ?_
  rintro e w' ⟨rfl, k, os, rfl⟩
  exact ⟨by rw [itoa_nonneg h0], Lib.below_grow _ w (Nat.le_refl _) k os⟩
theorem repeat_as {d : Int} (h0 : 0 ≤ d) (h4 : d ≤ 4) {w : World} :
    Calls Tryz.prog 61 #[.string ⟨#[48]⟩, .int .i64 d] w fun e w' => e = .returned (.string ⟨(List.replicate d.toNat 48).toArray⟩) ∧ Below w.heap.size w w' := by
  obtain ⟨k, rfl⟩ := Int.eq_ofNat_of_zero_le h0
  refine (Tryz.strings_Repeat ⟨#[48]⟩ k w (by omega) (by show 1 * k ≤ _; omega)).mono ?_
  rintro e w' ⟨rfl, hb⟩
  exact ⟨by rw [show ((k : Int)).toNat = k from rfl, ← repeat_zero], hb⟩

theorem Wrote.keeps {base b : Nat} {w w' : World} (h : Wrote base b w w') : KeepsOthers w w' := ⟨h.size, h.others⟩
theorem keeps_below {w w' : World} (h : Below w.heap.size w w') : KeepsOthers w w' := ⟨h.size, fun k _ hk _ => (h.block k (Array.getElem?_eq_some_iff.1 hk).1).trans hk⟩
theorem bytes_append (a b : Array UInt8) : (⟨a⟩ ++ ⟨b⟩ : ByteArray) = ⟨(a.toList ++ b.toList).toArray⟩ := by
  apply ByteArray.ext; simp
theorem bytes_size (l : List UInt8) : (⟨l.toArray⟩ : ByteArray).size = l.length := rfl
theorem Bld.cellsKept {base b : Nat} {l : List UInt8} {W W' : World} (h : Bld base b l W) (k : CellsKept W W') : Bld base b l W' := by
  obtain ⟨p, v, h1, h2, h3⟩ := h
  exact ⟨p, v, k.2 _ _ h1 rfl, h2, k.own h3⟩
theorem Bld.below {base b : Nat} {l : List UInt8} {W W' : World} (h : Bld base b l W) (k : Below W.heap.size W W') : Bld base b l W' := by
  obtain ⟨p, v, h1, h2, h3⟩ := h
  exact ⟨p, v, h1.below k, h2, own_below h3 k⟩
theorem Wrote.only {base b : Nat} {w W W' : World} (h : Wrote base b W W') (hw : w.heap.size ≤ base) (ho : Only [b] w W) : Only [b] w W' :=
  ⟨h.os.trans ho.os, h.tape.trans ho.tape, h.output.trans ho.output, Nat.le_trans ho.size h.size, fun k hk hs => (h.block k (Nat.lt_of_lt_of_le hk hw) (Nat.lt_of_lt_of_le hk ho.size) (by simpa using hs)).trans (ho.block k hk hs)⟩

set_option maxRecDepth 100000 in
set_option maxHeartbeats 1000000 in
theorem text_zero (neg : Bool) (v : Value) (w : World) (hv : Sl w v []) :
    Calls Tryz.prog 40 #[.agg #[.bool neg, v]] w fun e w' => e = .returned (.tuple #[.string ⟨#[48]⟩, .int .i64 0]) ∧ Below w.heap.size w w' := by
  obtain ⟨a1, c1, rfl⟩ := hv.shape
  refine (callsIn_wide (n := 5)).1 ?_
  refine callsIn_of_wp_marks Tryz.func40 rfl trivial ?_ rfl
  simp only [Tryz.ntmps40, List.size_toArray, List.length_cons, List.length_nil, Nat.reduceAdd, Nat.reduceSub, Array.replicate_succ, Array.replicate_zero, List.push_toArray, List.append_toArray, List.nil_append, List.cons_append]
  gi_wp2_with fail
  exact ⟨.tuple #[.string ⟨#[48]⟩, .int .i64 0], by simp [results, Tryz.results40, go_sem], rfl, (Below.refl _ _).alloc (Nat.le_refl _) _⟩

set_option maxRecDepth 100000 in
set_option maxHeartbeats 2000000 in
theorem text_pos (neg : Bool) (v : Value) (xs : List Int) (n : Int) (w : World) (hE : Env w) (hv : Sl w v xs) (hn : Num 10000 xs n) (hl : xs.length ≤ 10000) (h0 : xs.length ≠ 0) :
    Calls Tryz.prog 40 #[.agg #[.bool neg, v]] w fun e w' => e = .returned (.tuple #[.string ⟨(txt (sgn neg n)).toArray⟩, .int .i64 (erz (sgn neg n))]) ∧ Below w.heap.size w w' := by
  have hw0 : Below w.heap.size w (((w.alloc (.cells #[.bool neg, v] 50)).alloc (.cells #[.pointer none, .slice none 0 0] 76)).alloc (.cells #[v] 48)) := (((Below.refl _ _).alloc (Nat.le_refl _) _).alloc (by simp) _).alloc (by simp; omega) _
  have hv0 := hv.below hw0
  have hvp := hv.ptr_lt
  have b1 : Blk (((w.alloc (.cells #[.bool neg, v] 50)).alloc (.cells #[.pointer none, .slice none 0 0] 76)).alloc (.cells #[v] 48)) w.heap.size #[.bool neg, v] 50 := ((Blk.new w _ _).alloc _).alloc _
  have b2 : Blk (((w.alloc (.cells #[.bool neg, v] 50)).alloc (.cells #[.pointer none, .slice none 0 0] 76)).alloc (.cells #[v] 48)) (w.heap.size + 1) #[.pointer none, .slice none 0 0] 76 := by
    have := (Blk.new (w.alloc (.cells #[.bool neg, v] 50)) #[.pointer none, .slice none 0 0] 76).alloc (.cells #[v] 48)
    rwa [World.size_alloc] at this
  have b3 : Boxed (((w.alloc (.cells #[.bool neg, v] 50)).alloc (.cells #[.pointer none, .slice none 0 0] 76)).alloc (.cells #[v] 48)) (w.heap.size + 1 + 1) 48 v := by
    have := Boxed.new ((w.alloc (.cells #[.bool neg, v] 50)).alloc (.cells #[.pointer none, .slice none 0 0] 76)) 48 v
    rwa [World.size_alloc, World.size_alloc] at this
  obtain ⟨a1, c1, rfl⟩ := hv.shape
  have hne : ((xs.length : Int) == 0) = false := by rw [beq_eq_false_iff_ne]; omega
  have Hall := Lib.hid (chunks_all hn h0)
  clear h0
  refine (callsIn_wide (n := 5)).1 ?_
  refine callsIn_of_wp_marks Tryz.func40 rfl trivial ?_ rfl
  simp only [Tryz.ntmps40, List.size_toArray, List.length_cons, List.length_nil, Nat.reduceAdd, Nat.reduceSub, Array.replicate_succ, Array.replicate_zero, List.push_toArray, List.append_toArray, List.nil_append, List.cons_append]
  gi_wp2_with (refine ⟨trivial, ?_⟩; gi_at_call 60; refine (back_in Fence.wide 4 trivial rfl _ _ ⟨_, _, _, rfl⟩).mono ?_; rintro e w' ⟨rfl, rfl⟩)
  have hown0 : ∀ W : World, W.ownsRow (w.heap.size + 1 + 1 + 1) 5 1 (.slice none 0 0) 0 (Lib.byteCells []) := fun W => World.ownsRow_nil _ _ _ _
  have hsz : (((w.alloc (.cells #[.bool neg, .slice a1 xs.length c1] 50)).alloc (.cells #[.pointer none, .slice none 0 0] 76)).alloc (.cells #[.slice a1 xs.length c1] 48)).heap.size = w.heap.size + 1 + 1 + 1 := by simp
  refine wp_back2 (w.heap.size + 1 + 1) [w.heap.size + 1] (.slice a1 xs.length c1) xs rfl b3.cell hv0 (by simp) (fun b o e => by have := hvp b o e; simp; omega) rfl
    (fun pre W => Blk W w.heap.size #[.bool neg, .slice a1 xs.length c1] 50 ∧ Bld (w.heap.size + 1 + 1 + 1) (w.heap.size + 1) (chunks xs pre) W)
    (fun pre W => False)
    (fun pre W W' h k => ⟨k.2 _ _ h.1 rfl, h.2.cellsKept k⟩) (fun pre W W' h k => h)
    ⟨b1, _, _, b2, .inl rfl, hown0 _⟩
    (fun x => { tmps := #[.agg #[.bool neg, .slice a1 xs.length c1], .pointer (some ⟨w.heap.size, 0, none⟩), .string ⟨#[]⟩, .int .i64 0, .pointer (some ⟨w.heap.size + 1, 0, none⟩), .int .i64 (x.1 : Int), .int .i64 (gi xs x.1), undef, undef,
      .pointer (some ⟨w.heap.size, 1, none⟩), .slice a1 xs.length c1, .int .i64 xs.length, .bool false, .pointer (some ⟨w.heap.size, 1, none⟩), .slice a1 xs.length c1, .func (.func 78) #[] #[.pointer (some ⟨w.heap.size + 1 + 1, 0, none⟩)],
      .int .i64 (x.1 : Int), .int .i64 (gi xs x.1), undef, undef, undef, undef, undef, undef, undef, undef, undef, undef, undef, undef, undef, undef, undef, undef, undef, undef, undef, undef, undef, undef, undef, undef, undef], defers := [] }) ?assign ?body ?done ?stop
  case assign =>
    intro l x W K hK
    gi_wp2
    exact hK
  case body =>
    rintro l pre x W ho ⟨h1, h2⟩ hlen
    have hbw : Below w.heap.size w W := hw0.trans (ho.toBelow (by rw [hsz]; omega) (by simp))
    have hEW := hE.below hbw (Nat.le_refl _)
    have hg := gi_nat hn.dig x.1
    have hd4 := decDigits_len4 hg.1
    have hlc := chunks_len hn.dig pre
    have hsw := ho.size
    rw [hsz] at hsw
    have Hit := fun W hE' => itoa_as (n := gi xs x.1) (by omega) (by omega) (w := W) hE'
    generalize hds : Lib.decDigits (gi xs x.1).toNat = ds at *
    have hds2 : (⟨ds.toArray⟩ : ByteArray).size = ds.length := rfl
    have hfin : ∀ W2 W3, Below W.heap.size W W2 → Wrote (w.heap.size + 1 + 1 + 1) (w.heap.size + 1) W2 W3 → Bld (w.heap.size + 1 + 1 + 1) (w.heap.size + 1) (chunks xs (pre ++ [x])) W3 →
        KeepsOthers W W3 ∧ Only [w.heap.size + 1] (((w.alloc (.cells #[.bool neg, .slice a1 xs.length c1] 50)).alloc (.cells #[.pointer none, .slice none 0 0] 76)).alloc (.cells #[.slice a1 xs.length c1] 48)) W3 ∧
        Blk W3 w.heap.size #[.bool neg, .slice a1 xs.length c1] 50 ∧ Bld (w.heap.size + 1 + 1 + 1) (w.heap.size + 1) (chunks xs (pre ++ [x])) W3 := fun W2 W3 hb hwr hbl =>
      ⟨(keeps_below hb).trans hwr.keeps, hwr.only (by rw [hsz]; omega) (ho.below hb), (hwr.block _ (by omega) (h1.below hb).lt (by omega)).trans (h1.below hb), hbl⟩
    by_cases hlast : (x.1 : Int) < (xs.length : Int) - 1
    · have hch : chunk xs x.1 = List.replicate (4 - ds.length) 48 ++ ds := by unfold chunk; rw [if_pos (by omega)]; unfold pad; rw [hds]
      have Hch := Lib.hid hch
      clear hch
      gi_wp2_with (refine ⟨trivial, ?_⟩; gi_at_call 58; refine (CallsIn.inRound l (callsIn_wide.2 (Hit _ hEW))).mono ?_; rintro e W1 ⟨rfl, hb1⟩; have k1 := h1.below hb1; have k2 := h2.below hb1; have g1 := k1.cell 1; simp only [List.getElem?_toArray, List.getElem?_cons_zero, List.getElem?_cons_succ] at g1)
      refine ⟨trivial, (CallsIn.inRound l (callsIn_wide.2 (repeat_as (by omega) (by omega)))).mono ?_⟩
      rintro e W2 ⟨rfl, hb2⟩
      have k3 := k2.below hb2
      gi_wp2_with fail
      simp only [bytes_append]
      refine ⟨trivial, (CallsIn.inRound l (callsIn_wide.2 (writeString_any k3 _ (by rw [bytes_size]; simp; omega) (by have := hb1.size; have := hb2.size; omega)))).mono ?_⟩
      rintro e W3 ⟨rfl, hbl, hwr⟩
      gi_wp2_with fail
      refine hfin _ _ (hb1.trans (hb2.mono hb1.size)) hwr ?_
      rw [chunks_snoc, Hch.out]
      rw [Array.toList_replicate] at hbl
      exact hbl
    · have hch : chunk xs x.1 = ds := by unfold chunk; rw [if_neg (by omega)]; exact hds
      have Hch := Lib.hid hch
      clear hch
      gi_wp2_with (refine ⟨trivial, ?_⟩; gi_at_call 58; refine (CallsIn.inRound l (callsIn_wide.2 (Hit _ hEW))).mono ?_; rintro e W1 ⟨rfl, hb1⟩; have k1 := h1.below hb1; have k2 := h2.below hb1; have g1 := k1.cell 1; simp only [List.getElem?_toArray, List.getElem?_cons_zero, List.getElem?_cons_succ] at g1)
      refine ⟨trivial, (CallsIn.inRound l (callsIn_wide.2 (writeString_any k2 ⟨ds.toArray⟩ (by rw [hds2]; omega) (by have := hb1.size; omega)))).mono ?_⟩
      rintro e W3 ⟨rfl, hbl, hwr⟩
      gi_wp2_with fail
      exact hfin _ _ hb1 hwr (by rw [chunks_snoc, Hch.out]; exact hbl)
  case done =>
    rintro D W hD ho ⟨h1, h2⟩ hK
    rw [Hall.out.1] at h2
    have hpos := Hall.out.2
    have hsw := ho.size
    rw [hsz] at hsw hD
    have hdb := digits_big hpos
    have hsm := small_iff (b := neg) (n := n) (by omega)
    have hin : n.natAbs = n.toNat := by omega
    have hfin : ∀ W1, Below (w.heap.size + 1) W W1 → Below w.heap.size w (W1.putObj D (.deferred none)) := fun W1 hb =>
      hw0.trans ((((ho.toBelow (B := w.heap.size) (by rw [hsz]; omega) (by simp)).trans (hb.mono (by omega)))).grown (grownBy_putObj' W1 D _) (by have := hb.size; omega) (fun k e => by cases e; omega))
    by_cases hc : (200 : Int) < ((Lib.decDigits n.toNat).length : Int)
    · have ht : txt (sgn neg n) = [] ∧ erz (sgn neg n) = 30 := by
        have : ¬ Small (sgn neg n) := by rw [hsm]; exact hdb.1 (by omega)
        exact ⟨if_neg this, if_neg this⟩
      have Ht := Lib.hid ht
      clear ht hsm hdb
      gi_wp2_with (refine ⟨trivial, ?_⟩; gi_at_call 63; refine (callsIn_wide.2 (string_any h2 (by omega) (by omega))).mono ?_; rintro e W1 ⟨rfl, hb1, hk1⟩; have k1 := (hb1.block _ (by omega)).trans h1; have g0 := Blk.cell k1 0; have g1 := Blk.cell k1 1; simp only [List.getElem?_toArray, List.getElem?_cons_zero, List.getElem?_cons_succ] at g0 g1)
      exact ret_marked (hk1.same D _ hK rfl) (v := .tuple #[.string ⟨#[]⟩, .int .i64 30]) (by simp [results, Tryz.results40, go_sem]) ⟨by rw [Ht.out.1, Ht.out.2], hfin _ hb1⟩
    · have ht : txt (sgn neg n) = Lib.itoa (sgn neg n) ∧ erz (sgn neg n) = 0 := by
        have : Small (sgn neg n) := by
          rw [hsm]
          by_cases e : n < Big
          · exact e
          · exact absurd (hdb.2 e) (by omega)
        exact ⟨if_pos this, if_pos this⟩
      clear hsm hdb
      cases neg
      · have hj : Lib.itoa (sgn false n) = Lib.decDigits n.toNat := itoa_nonneg (n := n) (by omega)
        rw [hj] at ht
        have Ht := Lib.hid ht
        clear ht hj
        gi_wp2_with (refine ⟨trivial, ?_⟩; gi_at_call 63; refine (callsIn_wide.2 (string_any h2 (by omega) (by omega))).mono ?_; rintro e W1 ⟨rfl, hb1, hk1⟩; have k1 := (hb1.block _ (by omega)).trans h1; have g0 := Blk.cell k1 0; have g1 := Blk.cell k1 1; simp only [List.getElem?_toArray, List.getElem?_cons_zero, List.getElem?_cons_succ] at g0 g1)
        exact ret_marked (hk1.same D _ hK rfl) (v := .tuple #[.string ⟨(Lib.decDigits n.toNat).toArray⟩, .int .i64 0]) (by simp [results, Tryz.results40, go_sem]) ⟨by rw [Ht.out.1, Ht.out.2], hfin _ hb1⟩
      · have hj : Lib.itoa (sgn true n) = 45 :: Lib.decDigits n.toNat := by
          have e : sgn true n = -n := rfl
          rw [itoa_neg (by rw [e]; omega), e, Int.natAbs_neg, hin]
        rw [hj] at ht
        have Ht := Lib.hid ht
        clear ht hj
        gi_wp2_with (refine ⟨trivial, ?_⟩; gi_at_call 63; refine (callsIn_wide.2 (string_any h2 (by omega) (by omega))).mono ?_; rintro e W1 ⟨rfl, hb1, hk1⟩; have k1 := (hb1.block _ (by omega)).trans h1; have g0 := Blk.cell k1 0; have g1 := Blk.cell k1 1; simp only [List.getElem?_toArray, List.getElem?_cons_zero, List.getElem?_cons_succ] at g0 g1)
        simp only [bytes_append]
        exact ret_marked (hk1.same D _ hK rfl) (v := .tuple #[.string ⟨(45 :: Lib.decDigits n.toNat).toArray⟩, .int .i64 0]) (by simp [results, Tryz.results40, go_sem]) ⟨by rw [Ht.out.1, Ht.out.2], hfin _ hb1⟩
  case stop =>
    rintro D k W hk hD ho h hK
    exact h.elim

theorem text_any (neg : Bool) (v : Value) (xs : List Int) (n : Int) (w : World) (hE : Env w) (hv : Sl w v xs) (hn : Num 10000 xs n) (hl : xs.length ≤ 10000) :
    Calls Tryz.prog 40 #[.agg #[.bool neg, v]] w fun e w' => e = .returned (.tuple #[.string ⟨(txt (sgn neg n)).toArray⟩, .int .i64 (erz (sgn neg n))]) ∧ Below w.heap.size w w' := by
  by_cases h0 : xs.length = 0
  · have h0' := List.eq_nil_of_length_eq_zero h0
    have hz := (hn.zero_iff (by decide)).1 h0'
    subst h0' hz
    have e : sgn neg 0 = 0 := by cases neg <;> rfl
    have hs : Small 0 := by unfold Small Big; decide
    have e1 : txt (sgn neg 0) = [48] := by rw [e]; unfold txt; rw [if_pos hs, itoa_nonneg (by omega), decDigits_small (by decide)]; decide
    have e2 : erz (sgn neg 0) = 0 := by rw [e]; unfold erz; rw [if_pos hs]
    rw [e1, e2]
    exact text_zero neg v w hv
  · exact text_pos neg v xs n w hE hv hn hl h0
end Go.Proofs.YtbnilfjhalildaaGreatDoor
