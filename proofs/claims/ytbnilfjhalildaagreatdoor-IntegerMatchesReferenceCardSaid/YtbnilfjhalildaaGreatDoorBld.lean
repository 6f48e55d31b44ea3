/- strings.Builder: WriteString and String of a builder that the call itself has made. (The shelf's own contract of copyCheck is not laid at this translation: its panicking branch is refused by the loader.) -/
import Derived.Test.YtbnilfjhalildaaGreatDoorLoop
import Derived.Test.YtbnilfjhalildaaGreatDoorShelf
namespace Go.Proofs.YtbnilfjhalildaaGreatDoor
open Go.RowKit

/-- Block b is a builder that has never been copied; its bytes lie in a row of its own, from block base on. -/
def Bld (base b : Nat) (l : List UInt8) (w : World) : Prop :=
  ∃ p v, Blk w b #[p, v] 76 ∧ (p = .pointer none ∨ p = .pointer (some ⟨b, 0, none⟩)) ∧ w.ownsRow base 5 1 v l.length (Lib.byteCells l)
theorem Bld.is {base b : Nat} {l : List UInt8} {w : World} (h : Bld base b l w) {B : Nat} (hB : B ≤ b) (hb : B ≤ base) : Lib.IsBuilder 76 5 B b (Lib.byteCells l) w := by
  obtain ⟨p, v, h1, h2, h3⟩ := h
  have hne := h1.not_row (by decide) h3
  have h3' : w.ownsRow B 5 1 v (Lib.byteCells l).length (Lib.byteCells l) := by
    have e : (Lib.byteCells l).length = l.length := by simp [Lib.byteCells]
    rw [e]
    refine ⟨h3.1, ?_⟩
    rcases h3.2 with h' | ⟨g, cap, cur, rfl, hg, hr⟩
    · exact .inl h'
    · exact .inr ⟨g, cap, cur, rfl, by omega, hr⟩
  rcases h2 with rfl | rfl
  · exact .inl ⟨hB, v, h1, h3', fun e => hne e.symm⟩
  · exact .inr ⟨hB, v, h1, h3', fun e => hne e.symm⟩

theorem info_builder : (Tryz.prog.info? 76).map (fun j => j.size) = some 2 := by kernel_rfl
theorem lies_builder : liesAt Tryz.prog Tryz.prog.depth 76 (2 / Tryz.prog.cellsOf 76) 0 76 1 = true := by kernel_rfl
theorem info_byte : (Tryz.prog.info? 5).map (fun i => (i.zero, i.size, i.bytes)) = some (some (.int .u8 0), 1, 1) := by kernel_rfl

set_option maxHeartbeats 1000000 in
set_option maxRecDepth 100000 in
theorem copyCheck_used (b : Nat) (w : World) (h0 : w.cell? ⟨b, 0, none⟩ = some (.pointer (some ⟨b, 0, none⟩))) :
    Calls Tryz.prog 83 #[.pointer (some ⟨b, 0, none⟩)] w fun e w' => e = .returned (.tuple #[]) ∧ w = w' := by
  obtain ⟨j, hj, _⟩ := Option.map_eq_some_iff.1 info_builder
  go_enter Tryz.func83, Tryz.ntmps83
  go_wp2
  rw [Lib.run_neq_ptr_same w _ Tryz.underlying74 hj]
  go_wp2
  go_end0
  exact ⟨rfl, rfl⟩

set_option maxHeartbeats 1000000 in
set_option maxRecDepth 100000 in
theorem copyCheck_fresh (b : Nat) (w : World) (h0 : w.cell? ⟨b, 0, none⟩ = some (.pointer none)) (hsh : w.shape? b = some (76, 2)) (hfz : w.frozen? ⟨b, 0, none⟩ = false) :
    Calls Tryz.prog 83 #[.pointer (some ⟨b, 0, none⟩)] w fun e w' => e = .returned (.tuple #[]) ∧ w.setCell ⟨b, 0, none⟩ (.pointer (some ⟨b, 0, none⟩)) = w' := by
  obtain ⟨j, hj, hjs⟩ := Option.map_eq_some_iff.1 info_builder
  go_enter Tryz.func83, Tryz.ntmps83
  go_wp2
  rw [Lib.run_to_unsafe w ⟨b, 0, none⟩ Tryz.underlying74 Tryz.underlying115 hj (by rw [hjs]; decide) hsh (Nat.zero_lt_succ 1)]
  simp only [Result.andThen]
  rw [Oper.upon_value]
  go_wp2
  rw [run_callFunc_extern Tryz.func104 (by kernel_rfl) (by kernel_rfl) (by kernel_rfl) (e := Extern.AbiNoEscape.same) (by kernel_rfl)]
  rw [Lib.run_noEscape]
  simp only [Result.andThen]
  rw [Oper.upon_value]
  go_wp2
  rw [Lib.run_from_unsafe w ⟨b, 0, none⟩ Tryz.underlying115 Tryz.underlying74 hj hsh lies_builder]
  simp only [Result.andThen]
  rw [Oper.upon_value]
  go_wp2
  go_end0
  exact ⟨rfl, rfl⟩

/-- What a write to the builder b may turn: b itself, and rows from block base on. -/
structure Wrote (base b : Nat) (w w' : World) : Prop where
  os : w'.os = w.os
  tape : w'.tape = w.tape
  output : w'.output = w.output
  size : w.heap.size ≤ w'.heap.size
  block : ∀ k, k < base → k < w.heap.size → k ≠ b → w'.heap[k]? = w.heap[k]?
  others : ∀ (k : Nat) (o : Obj), w.heap[k]? = some o → o.isCells = false → w'.heap[k]? = some o

theorem copyCheck_any {base b : Nat} {l : List UInt8} {w : World} (h : Bld base b l w) :
    Calls Tryz.prog 83 #[.pointer (some ⟨b, 0, none⟩)] w fun e w' => e = .returned (.tuple #[]) ∧ (∃ v, Blk w' b #[.pointer (some ⟨b, 0, none⟩), v] 76 ∧ w'.ownsRow base 5 1 v l.length (Lib.byteCells l)) ∧ w.grownBy w' (some b) := by
  obtain ⟨p, v, h1, h2, h3⟩ := h
  have c0 := h1.cell 0
  simp only [List.getElem?_toArray, List.getElem?_cons_zero] at c0
  rcases h2 with rfl | rfl
  · refine (copyCheck_fresh b w c0 (by simp [World.shape?, show w.heap[b]? = _ from h1]) (h1.frozen 0)).mono ?_
    rintro e w' ⟨rfl, rfl⟩
    have hne := h1.not_row (by decide) h3
    refine ⟨rfl, ⟨v, ?_, h3.kept (grown_setCell w b 0 _) (.inr (fun e => hne e.symm))⟩, grown_setCell w b 0 _⟩
    have := h1.set 0 (.pointer (some ⟨b, 0, none⟩))
    simpa using this
  · refine (copyCheck_used b w c0).mono ?_
    rintro e w' ⟨rfl, rfl⟩
    exact ⟨rfl, ⟨v, h1, h3⟩, ⟨rfl, rfl, rfl, Nat.le_refl _, fun _ _ _ => rfl⟩⟩

set_option maxHeartbeats 1000000 in
set_option maxRecDepth 100000 in
theorem writeString_any {base b : Nat} {l : List UInt8} {w : World} (h : Bld base b l w) (s : ByteArray) (hlen : l.length + s.size ≤ 1000000) (hbase : base ≤ w.heap.size) :
    Calls Tryz.prog 62 #[.pointer (some ⟨b, 0, none⟩), .string s] w fun e w' => e = .returned (.tuple #[.int .i64 s.size, .nilIface]) ∧ Bld base b (l ++ s.data.toList) w' ∧ Wrote base b w w' := by
  obtain ⟨i0, hi, hz0, hz1, hz2⟩ := info_parts info_byte
  have hbl : b < w.heap.size := by obtain ⟨p, v, h1, _⟩ := h; exact h1.lt
  go_enter Tryz.func62, Tryz.ntmps62
  go_wp2_with (go_at_call 83; refine (copyCheck_any h).mono ?_)
  rintro e w1 ⟨rfl, ⟨v, h1, h3⟩, hg1⟩
  have c1 := h1.cell 1
  simp only [List.getElem?_toArray, List.getElem?_cons_zero, List.getElem?_cons_succ] at c1
  have hs1 := hg1.size
  have hne := h1.not_row (by decide) h3
  have hlb : (Lib.byteCells l).length = l.length := by simp [Lib.byteCells]
  go_wp2_with (at_builtin; refine Lib.wpList_append_own_string _ rfl _ _ 72 9 rfl base 5 i0 Tryz.underlying72 Tryz.underlying9 hi hz0 hz1 hz2 _ _ _ rfl h3 s rfl ?c4 ?c5 ?c6 ?_)
  case c4 => unfold maxLen; omega
  case c5 => omega
  case c6 => omega
  intro v' w2 hown' hgrow _
  have k2 := h1.kept hgrow hne
  have d1 := k2.cell 1
  have f1 := k2.frozen 1
  simp only [List.getElem?_toArray, List.getElem?_cons_zero, List.getElem?_cons_succ] at d1
  have hne2 := k2.not_row (by decide) hown'
  obtain ⟨ao, n', cap, rfl⟩ : ∃ ao n' cap, v' = .slice ao n' cap := by
    rcases hown'.2 with ⟨hv, _⟩ | ⟨g, cap, cur, hv, _⟩
    · exact ⟨_, _, _, hv⟩
    · exact ⟨_, _, _, hv⟩
  go_wp2
  go_ret2
  have e1 : (l ++ s.data.toList).length = l.length + s.size := by rw [List.length_append, Array.length_toList]; rfl
  have e2 : Lib.byteCells (l ++ s.data.toList) = Lib.byteCells l ++ Lib.strCells s := by unfold Lib.byteCells Lib.strCells; rw [List.map_append]
  refine ⟨rfl, ⟨.pointer (some ⟨b, 0, none⟩), .slice ao n' cap, ?_, .inr rfl, ?_⟩, ?_⟩
  · have := k2.set 1 (.slice ao n' cap)
    simpa using this
  · rw [e1, e2]; exact hown'.kept (grown_setCell w2 b 1 _) (.inr (fun e => hne2 e.symm))
  · have g3 := grown_setCell w2 b 1 (.slice ao n' cap)
    have hrow : ∀ k, v.ownBlock = some k → base ≤ k ∧ ∃ o : Obj, w1.heap[k]? = some o ∧ o.isCells = true := fun k hk => by
      refine ⟨(h3.lt k hk).1, ?_⟩
      rcases h3.2 with ⟨rfl, _⟩ | ⟨g, cap', cur, rfl, _, hg, _⟩
      · cases hk
      · cases hk; exact ⟨_, hg, rfl⟩
    refine ⟨g3.os.trans (hgrow.os.trans hg1.os), g3.tape.trans (hgrow.tape.trans hg1.tape), g3.output.trans (hgrow.output.trans hg1.output), Nat.le_trans hs1 (Nat.le_trans hgrow.size g3.size), fun k hk hkw hkb => ?_, fun k o ho hno => ?_⟩
    · rw [g3.block k (Nat.lt_of_lt_of_le (Nat.lt_of_lt_of_le hkw hs1) hgrow.size) (fun e => hkb (Option.some.inj e)), hgrow.block k (Nat.lt_of_lt_of_le hkw hs1) (fun e => by have := (hrow k e.symm).1; omega), hg1.block k hkw (fun e => hkb (Option.some.inj e))]
    · have hkw := (Array.getElem?_eq_some_iff.1 ho).1
      have hkb : k ≠ b := fun e => by
        subst e
        obtain ⟨p, v0, h0, _⟩ := h
        rw [show w.heap[k]? = _ from h0] at ho; cases ho; cases hno
      have a1 := (hg1.block k hkw (fun e => hkb (Option.some.inj e))).trans ho
      have a2 : some k ≠ v.ownBlock := fun e => by
        obtain ⟨_, o', ho', hc⟩ := hrow k e.symm
        rw [a1] at ho'; cases ho'; rw [hno] at hc; cases hc
      rw [g3.block k (Nat.lt_of_lt_of_le (Nat.lt_of_lt_of_le hkw hs1) hgrow.size) (fun e => hkb (Option.some.inj e)), hgrow.block k (Nat.lt_of_lt_of_le hkw hs1) a2, a1]

/-- String() of a builder. -/
theorem string_any {base b : Nat} {l : List UInt8} {w : World} (h : Bld base b l w) (hbb : b ≤ base) (hbw : b ≤ w.heap.size) :
    Calls Tryz.prog 63 #[.pointer (some ⟨b, 0, none⟩)] w fun e w' => e = .returned (.string ⟨l.toArray⟩) ∧ Below b w w' ∧ KeepsOthers w w' := by
  refine (Tryz.Builder_String_any_k b b l w (.of (h.is (Nat.le_refl _) hbb)) hbw).mono ?_
  rintro e w' ⟨rfl, _, hb, hk⟩
  refine ⟨rfl, hb, hb.size, fun k o ho hno => hk k o ho (fun e => ?_) (fun c fz e => by subst e; cases hno)⟩
  cases e
  obtain ⟨p, v, h1, _⟩ := h
  rw [show w.heap[b]? = _ from h1] at ho
  cases ho; cases hno
end Go.Proofs.YtbnilfjhalildaaGreatDoor
