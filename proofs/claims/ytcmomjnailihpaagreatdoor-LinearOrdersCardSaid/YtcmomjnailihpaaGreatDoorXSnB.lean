/- SnB, MdA, MdB, MdC, SnC, Stay, SvL, LnOpen -/
import Derived.Test.YtcmomjnailihpaaGreatDoorXLcK
import Derived.Deep.DeepCutAuto
import Derived.OpenShut
import Derived.ChangeStays
import Derived.ChangeBook
import Derived.ChangeOld
import Derived.ChangeShapes
import Derived.Lib.SmallJoins
import Derived.Laws.IdiomArrays
import Derived.Deep.Strs
set_option maxHeartbeats 8000000
set_option maxRecDepth 100000
namespace Go.Proofs.YtcmomjnailihpaaGreatDoor
section
open Go.RowKit
attribute [local go_sem] Oper.semAt_some
theorem Kj {Q : Exit → Act → World → Prop} {us : List Value} {bV bA bB bC bD bS n1 n2 k1 k2 k3 k4 : Nat} {a1 a2 a3 a4 : Option Addr} {d1 : ByteArray} {w W0 : World} {L : BLs} {R : List RowD}    (x80 : Hid (∀ W, Mem w L R W → W.cell? ⟨bA, 0, none⟩ = some (.bool true))) (x83_0 : Hid (∀ W, Mem w L R W → W.cell? ⟨bA, 1, none⟩ = some (.slice a1 n1 k1))) (x83_1 : Hid (∀ W, Mem w L R W → W.cell? ⟨bA, 2, none⟩ = some (.string d1))) (x84_0 : Hid (∀ W, Mem w L R W → W.cell? ⟨bV, 0, none⟩ = some (.slice (some ⟨bS, 0, none⟩) 2 2))) (x84_1 : Hid (∀ W, Mem w L R W → W.cell? ⟨bV, 1, none⟩ = some (.string ⟨#[50]⟩))) (C85 : Hid (∀ W, Mem w L R W → Calls Tryz.prog 21 #[.agg #[.slice a1 n1 k1, .string d1], .agg #[.slice (some ⟨bS, 0, none⟩) 2 2, .string ⟨#[50]⟩]] W (Rets W (.bool true)))) (x89 : Hid (∀ W, Mem w L R W → W.cell? ⟨bA, 3, none⟩ = some (.slice none 0 0))) (x95 : Hid (∀ W, Mem w L R W → W.cell? ⟨bB, 0, none⟩ = some (.bool false))) (C99 : Hid (∀ W, Mem w L R W → Calls Tryz.prog 34 #[.int .i64 3, .int .i64 4] W fun e W' => ∃ (v99' : Value), e = .returned (.agg #[.int .i64 2, v99']) ∧ SlE W' v99' (twoL 3 4) ∧ Below W.heap.size W W')) (x101 : Hid (∀ W, Mem w L R W → W.cell? ⟨bB, 3, none⟩ = some (.slice a2 n2 k2))) (C102 : Hid (∀ W (v99' : Value), Mem w L R W → SlE W v99' (twoL 3 4) → Calls Tryz.prog 28 #[.agg #[.int .i64 2, v99'], .slice a2 n2 k2] W (Rets W (.bool true)))) (x106 : Hid (∀ W, Mem w L R W → W.cell? ⟨bC, 0, none⟩ = some (.bool true))) (x111 : Hid (∀ W, Mem w L R W → W.cell? ⟨bC, 1, none⟩ = some (.slice a3 0 k3))) (x117 : Hid (∀ W, Mem w L R W → W.cell? ⟨bD, 0, none⟩ = some (.bool false))) (x122 : Hid (∀ W, Mem w L R W → W.cell? ⟨bD, 3, none⟩ = some (.slice a4 1 k4))) (h0 : Hid (Mem w L R W0)) (hN : us.length = 171) (g1 : us[1]? = some (.pointer (some ⟨bV, 0, none⟩))) (g2 : us[2]? = some (.pointer (some ⟨bA, 0, none⟩))) (g4 : us[4]? = some (.pointer (some ⟨bB, 0, none⟩))) (g6 : us[6]? = some (.pointer (some ⟨bC, 0, none⟩))) (g8 : us[8]? = some (.pointer (some ⟨bD, 0, none⟩))) {ops : Array Oper} (ho : getOps Tryz.f9.body 10 = some ops)
  (hQ : ∀ (x : Nat → Value)  (W' : World), x 14 = .bool true → Hid (Mem w L R W') → Q .normal { tmps := (sets [79, 80, 81, 82, 83, 84, 85, 86, 87, 88, 89, 90, 91, 92, 93, 94, 95, 96, 97, 98, 99, 100, 101, 102, 103, 104, 105, 106, 107, 108, 109, 110, 111, 112, 113, 114, 115, 116, 117, 118, 119, 120, 121, 122, 123, 124, 125, 14] x us).toArray, defers := [] } W') :
  (Code.region 10 ops true).wp Tryz.prog Q { tmps := us.toArray, defers := [] } W0 := by
 obtain rfl := Option.some.inj (ho.symm.trans (rfl : getOps Tryz.f9.body 10 = some _))
 clear ho
 replace hQ := A8 hQ
 have hst : MStable ([(20, 99, (fun yv W => ∃ (v99' : Value), yv = .agg #[.int .i64 2, v99'] ∧ SlE W v99' (twoL 3 4)), none)] : ML) := by
  intro p hp yv W W' hb h
  simp only [List.mem_cons, List.not_mem_nil, or_false] at hp
  rcases hp with rfl
  ·obtain ⟨g0, e, h⟩ := h; exact ⟨g0, e, h.below hb⟩
 obtain ⟨Iv, hI⟩ : ∃ Iv : (Nat → Bool) → Act → World → Prop, ∀ l a W, Iv l a W ↔ (Fr us.toArray [79, 80, 81, 82, 83, 84, 85, 86, 87, 88, 89, 90, 91, 92, 93, 94, 95, 96, 97, 98, 99, 100, 101, 102, 103, 104, 105, 106, 107, 108, 109, 110, 111, 112, 113, 114, 115, 116, 117, 118, 119, 120, 121, 122, 123, 124, 125, 14] a ∧ Mem w L R W ∧ Vals [some (79, .pointer (some ⟨bA, 0, none⟩)), some (80, .bool true), some (81, .bool true), some (82, .pointer (some ⟨bA, 1, none⟩)), some (83, .agg #[.slice a1 n1 k1, .string d1]), some (84, .agg #[.slice (some ⟨bS, 0, none⟩) 2 2, .string ⟨#[50]⟩]), some (85, .bool true), some (86, .bool true), some (87, .bool true), some (88, .pointer (some ⟨bA, 3, none⟩)), some (89, .slice none 0 0), some (90, .int .i64 0), some (91, .bool true), some (92, .bool true), some (93, .bool true), some (94, .pointer (some ⟨bB, 0, none⟩)), some (95, .bool false), some (96, .bool true), some (97, .bool true), some (98, .bool true), none, some (100, .pointer (some ⟨bB, 3, none⟩)), some (101, .slice a2 n2 k2), some (102, .bool true), some (103, .bool true), some (104, .bool true), some (105, .pointer (some ⟨bC, 0, none⟩)), some (106, .bool true), some (107, .bool true), some (108, .bool true), some (109, .pointer (some ⟨bC, 1, none⟩)), some (110, .pointer (some ⟨bC, 1, none⟩)), some (111, .slice a3 0 k3), some (112, .int .i64 0), some (113, .bool true), some (114, .bool true), some (115, .bool true), some (116, .pointer (some ⟨bD, 0, none⟩)), some (117, .bool false), some (118, .bool true), some (119, .bool true), some (120, .bool true), some (121, .pointer (some ⟨bD, 3, none⟩)), some (122, .slice a4 1 k4), some (123, .int .i64 1), some (124, .bool true), some (125, .bool true), some (14, .bool true)] l a ∧ Mems ([(20, 99, (fun yv W => ∃ (v99' : Value), yv = .agg #[.int .i64 2, v99'] ∧ SlE W v99' (twoL 3 4)), none)] : ML) l a W ∧ (Mem w L R W)) := ⟨_, fun _ _ _ => Iff.rfl⟩
 refine Ae Iv (by kernel_rfl) (by kernel_rfl) ((hI _ _ _).2 ⟨Fr.start _ _, h0.out.drew, Vals.zero, Mems.zero, h0.out.drew⟩) (Ab (k := 0) ?_ (Ab (k := 1) ?_ (Ab (k := 2) ?_ (Ab (k := 3) ?_ (Ab (k := 4) ?_ (Ab (k := 5) ?_ (Ab (k := 6) ?_ (Ab (k := 7) ?_ (Ab (k := 8) ?_ (Ab (k := 9) ?_ (Ab (k := 10) ?_ (Ab (k := 11) ?_ (Ab (k := 12) ?_ (Ab (k := 13) ?_ (Ab (k := 14) ?_ (Ab (k := 15) ?_ (Ab (k := 16) ?_ (Ab (k := 17) ?_ (Ab (k := 18) ?_ (Ab (k := 19) ?_ (Ab (k := 20) ?_ (Ab (k := 21) ?_ (Ab (k := 22) ?_ (Ab (k := 23) ?_ (Ab (k := 24) ?_ (Ab (k := 25) ?_ (Ab (k := 26) ?_ (Ab (k := 27) ?_ (Ab (k := 28) ?_ (Ab (k := 29) ?_ (Ab (k := 30) ?_ (Ab (k := 31) ?_ (Ab (k := 32) ?_ (Ab (k := 33) ?_ (Ab (k := 34) ?_ (Ab (k := 35) ?_ (Ab (k := 36) ?_ (Ab (k := 37) ?_ (Ab (k := 38) ?_ (Ab (k := 39) ?_ (Ab (k := 40) ?_ (Ab (k := 41) ?_ (Ab (k := 42) ?_ (Ab (k := 43) ?_ (Ab (k := 44) ?_ (Ab (k := 45) ?_ (Ab (k := 46) ?_ (Ab (k := 47) ?_ (Al))))))))))))))))))))))))))))))))))))))))))))))))) ?_
 ·intro l a W hl hw hsh hI' K hK
  obtain ⟨hf, hC, hF, hM, q0⟩ := (hI _ _ _).1 hI'
  have x2 := hf.atl 2 g2 rfl
  refine want rfl ?_
  go_simp
  exact hK.out _ _ ((hI _ _ _).2 ⟨hf.put 79 _ rfl, hC, hF.put (Ac rfl) 0 rfl (hf.ltl hN rfl), hM.put 0 79 _ rfl rfl, q0⟩)
 ·intro l a W hl hw hsh hI' K hK
  obtain ⟨hf, hC, hF, hM, q0⟩ := (hI _ _ _).1 hI'
  have x79 := hF.get 0 rfl (hw 0 (by kernel_rfl))
  refine want rfl ?_
  have k0 := x80.out _ hC
  go_simp
  exact hK.out _ _ ((hI _ _ _).2 ⟨hf.put 80 _ rfl, hC, hF.put (Ac rfl) 1 rfl (hf.ltl hN rfl), hM.put 1 80 _ rfl rfl, q0⟩)
 ·intro l a W hl hw hsh hI' K hK
  obtain ⟨hf, hC, hF, hM, q0⟩ := (hI _ _ _).1 hI'
  have x80 := hF.get 1 rfl (hw 1 (by kernel_rfl))
  refine want rfl ?_
  go_simp
  exact hK.out _ _ ((hI _ _ _).2 ⟨hf.put 81 _ rfl, hC, hF.put (Ac rfl) 2 rfl (hf.ltl hN rfl), hM.put 2 81 _ rfl rfl, q0⟩)
 ·intro l a W hl hw hsh hI' K hK
  obtain ⟨hf, hC, hF, hM, q0⟩ := (hI _ _ _).1 hI'
  have x2 := hf.atl 2 g2 rfl
  have x81 := hF.get 2 rfl (hw 2 (by kernel_rfl))
  refine want (wants rfl rfl x81) ?_
  go_simp
  exact hK.out _ _ ((hI _ _ _).2 ⟨hf.put 82 _ rfl, hC, hF.put (Ac rfl) 3 rfl (hf.ltl hN rfl), hM.put 3 82 _ rfl rfl, q0⟩)
 ·intro l a W hl hw hsh hI' K hK
  obtain ⟨hf, hC, hF, hM, q0⟩ := (hI _ _ _).1 hI'
  have x81 := hF.get 2 rfl (hw 2 (by kernel_rfl))
  have x82 := hF.get 3 rfl (hw 3 (by kernel_rfl))
  refine want (wants rfl rfl x81) ?_
  have k0 := x83_0.out _ hC
  have k1 := x83_1.out _ hC
  go_simp
  exact hK.out _ _ ((hI _ _ _).2 ⟨hf.put 83 _ rfl, hC, hF.put (Ac rfl) 4 rfl (hf.ltl hN rfl), hM.put 4 83 _ rfl rfl, q0⟩)
 ·intro l a W hl hw hsh hI' K hK
  obtain ⟨hf, hC, hF, hM, q0⟩ := (hI _ _ _).1 hI'
  have x1 := hf.atl 1 g1 rfl
  have x81 := hF.get 2 rfl (hw 2 (by kernel_rfl))
  refine want (wants rfl rfl x81) ?_
  have k0 := x84_0.out _ hC
  have k1 := x84_1.out _ hC
  go_simp
  exact hK.out _ _ ((hI _ _ _).2 ⟨hf.put 84 _ rfl, hC, hF.put (Ac rfl) 5 rfl (hf.ltl hN rfl), hM.put 5 84 _ rfl rfl, q0⟩)
 ·intro l a W hl hw hsh hI' K hK
  obtain ⟨hf, hC, hF, hM, q0⟩ := (hI _ _ _).1 hI'
  have x81 := hF.get 2 rfl (hw 2 (by kernel_rfl))
  have x83 := hF.get 4 rfl (hw 4 (by kernel_rfl))
  have x84 := hF.get 5 rfl (hw 5 (by kernel_rfl))
  refine want (wants rfl rfl x81) ?_
  go_simp
  refine Calls.mono (C85.out W hC) ?_
  rintro e W2 ⟨rfl, hb⟩
  exact hK.out _ _ ((hI _ _ _).2 ⟨hf.put 85 _ rfl, hC.call hb, hF.put (Ac rfl) 6 rfl (hf.ltl hN rfl), (hM.put 6 85 _ rfl rfl).world hst hb, q0.call hb⟩)
 ·intro l a W hl hw hsh hI' K hK
  obtain ⟨hf, hC, hF, hM, q0⟩ := (hI _ _ _).1 hI'
  have x81 := hF.get 2 rfl (hw 2 (by kernel_rfl))
  have x85 := hF.get 6 rfl (hw 6 (by kernel_rfl))
  refine want rfl ?_
  go_simp
  exact hK.out _ _ ((hI _ _ _).2 ⟨hf.put 86 _ rfl, hC, hF.put (Ac rfl) 7 rfl (hf.ltl hN rfl), hM.put 7 86 _ rfl rfl, q0⟩)
 ·intro l a W hl hw hsh hI' K hK
  obtain ⟨hf, hC, hF, hM, q0⟩ := (hI _ _ _).1 hI'
  have x86 := hF.get 7 rfl (hw 7 (by kernel_rfl))
  refine want rfl ?_
  go_simp
  exact hK.out _ _ ((hI _ _ _).2 ⟨hf.put 87 _ rfl, hC, hF.put (Ac rfl) 8 rfl (hf.ltl hN rfl), hM.put 8 87 _ rfl rfl, q0⟩)
 ·intro l a W hl hw hsh hI' K hK
  obtain ⟨hf, hC, hF, hM, q0⟩ := (hI _ _ _).1 hI'
  have x2 := hf.atl 2 g2 rfl
  have x87 := hF.get 8 rfl (hw 8 (by kernel_rfl))
  refine want (wants rfl rfl x87) ?_
  go_simp
  exact hK.out _ _ ((hI _ _ _).2 ⟨hf.put 88 _ rfl, hC, hF.put (Ac rfl) 9 rfl (hf.ltl hN rfl), hM.put 9 88 _ rfl rfl, q0⟩)
 ·intro l a W hl hw hsh hI' K hK
  obtain ⟨hf, hC, hF, hM, q0⟩ := (hI _ _ _).1 hI'
  have x87 := hF.get 8 rfl (hw 8 (by kernel_rfl))
  have x88 := hF.get 9 rfl (hw 9 (by kernel_rfl))
  refine want (wants rfl rfl x87) ?_
  have k0 := x89.out _ hC
  go_simp
  exact hK.out _ _ ((hI _ _ _).2 ⟨hf.put 89 _ rfl, hC, hF.put (Ac rfl) 10 rfl (hf.ltl hN rfl), hM.put 10 89 _ rfl rfl, q0⟩)
 ·intro l a W hl hw hsh hI' K hK
  obtain ⟨hf, hC, hF, hM, q0⟩ := (hI _ _ _).1 hI'
  have x87 := hF.get 8 rfl (hw 8 (by kernel_rfl))
  have x89 := hF.get 10 rfl (hw 10 (by kernel_rfl))
  refine want (wants rfl rfl x87) ?_
  go_simp
  exact hK.out _ _ ((hI _ _ _).2 ⟨hf.put 90 _ rfl, hC, hF.put (Ac rfl) 11 rfl (hf.ltl hN rfl), hM.put 11 90 _ rfl rfl, q0⟩)
 ·intro l a W hl hw hsh hI' K hK
  obtain ⟨hf, hC, hF, hM, q0⟩ := (hI _ _ _).1 hI'
  have x87 := hF.get 8 rfl (hw 8 (by kernel_rfl))
  have x90 := hF.get 11 rfl (hw 11 (by kernel_rfl))
  refine want (wants rfl rfl x87) ?_
  go_simp
  exact hK.out _ _ ((hI _ _ _).2 ⟨hf.put 91 _ rfl, hC, hF.put (Ac rfl) 12 rfl (hf.ltl hN rfl), hM.put 12 91 _ rfl rfl, q0⟩)
 ·intro l a W hl hw hsh hI' K hK
  obtain ⟨hf, hC, hF, hM, q0⟩ := (hI _ _ _).1 hI'
  have x87 := hF.get 8 rfl (hw 8 (by kernel_rfl))
  have x91 := hF.get 12 rfl (hw 12 (by kernel_rfl))
  refine want rfl ?_
  go_simp
  exact hK.out _ _ ((hI _ _ _).2 ⟨hf.put 92 _ rfl, hC, hF.put (Ac rfl) 13 rfl (hf.ltl hN rfl), hM.put 13 92 _ rfl rfl, q0⟩)
 ·intro l a W hl hw hsh hI' K hK
  obtain ⟨hf, hC, hF, hM, q0⟩ := (hI _ _ _).1 hI'
  have x92 := hF.get 13 rfl (hw 13 (by kernel_rfl))
  refine want rfl ?_
  go_simp
  exact hK.out _ _ ((hI _ _ _).2 ⟨hf.put 93 _ rfl, hC, hF.put (Ac rfl) 14 rfl (hf.ltl hN rfl), hM.put 14 93 _ rfl rfl, q0⟩)
 ·intro l a W hl hw hsh hI' K hK
  obtain ⟨hf, hC, hF, hM, q0⟩ := (hI _ _ _).1 hI'
  have x4 := hf.atl 4 g4 rfl
  have x93 := hF.get 14 rfl (hw 14 (by kernel_rfl))
  refine want (wants rfl rfl x93) ?_
  go_simp
  exact hK.out _ _ ((hI _ _ _).2 ⟨hf.put 94 _ rfl, hC, hF.put (Ac rfl) 15 rfl (hf.ltl hN rfl), hM.put 15 94 _ rfl rfl, q0⟩)
 ·intro l a W hl hw hsh hI' K hK
  obtain ⟨hf, hC, hF, hM, q0⟩ := (hI _ _ _).1 hI'
  have x93 := hF.get 14 rfl (hw 14 (by kernel_rfl))
  have x94 := hF.get 15 rfl (hw 15 (by kernel_rfl))
  refine want (wants rfl rfl x93) ?_
  have k0 := x95.out _ hC
  go_simp
  exact hK.out _ _ ((hI _ _ _).2 ⟨hf.put 95 _ rfl, hC, hF.put (Ac rfl) 16 rfl (hf.ltl hN rfl), hM.put 16 95 _ rfl rfl, q0⟩)
 ·intro l a W hl hw hsh hI' K hK
  obtain ⟨hf, hC, hF, hM, q0⟩ := (hI _ _ _).1 hI'
  have x93 := hF.get 14 rfl (hw 14 (by kernel_rfl))
  have x95 := hF.get 16 rfl (hw 16 (by kernel_rfl))
  refine want (wants rfl rfl x93) ?_
  go_simp
  exact hK.out _ _ ((hI _ _ _).2 ⟨hf.put 96 _ rfl, hC, hF.put (Ac rfl) 17 rfl (hf.ltl hN rfl), hM.put 17 96 _ rfl rfl, q0⟩)
 ·intro l a W hl hw hsh hI' K hK
  obtain ⟨hf, hC, hF, hM, q0⟩ := (hI _ _ _).1 hI'
  have x93 := hF.get 14 rfl (hw 14 (by kernel_rfl))
  have x96 := hF.get 17 rfl (hw 17 (by kernel_rfl))
  refine want rfl ?_
  go_simp
  exact hK.out _ _ ((hI _ _ _).2 ⟨hf.put 97 _ rfl, hC, hF.put (Ac rfl) 18 rfl (hf.ltl hN rfl), hM.put 18 97 _ rfl rfl, q0⟩)
 ·intro l a W hl hw hsh hI' K hK
  obtain ⟨hf, hC, hF, hM, q0⟩ := (hI _ _ _).1 hI'
  have x97 := hF.get 18 rfl (hw 18 (by kernel_rfl))
  refine want rfl ?_
  go_simp
  exact hK.out _ _ ((hI _ _ _).2 ⟨hf.put 98 _ rfl, hC, hF.put (Ac rfl) 19 rfl (hf.ltl hN rfl), hM.put 19 98 _ rfl rfl, q0⟩)
 ·intro l a W hl hw hsh hI' K hK
  obtain ⟨hf, hC, hF, hM, q0⟩ := (hI _ _ _).1 hI'
  have x98 := hF.get 19 rfl (hw 19 (by kernel_rfl))
  refine want (wants rfl rfl x98) ?_
  go_simp
  refine Calls.mono (C99.out W hC) ?_
  rintro e W2 ⟨v99', rfl, hp, hb⟩
  exact hK.out _ _ ((hI _ _ _).2 ⟨hf.put 99 _ rfl, hC.call hb, hF.other 20 99 _ rfl rfl, (hM.world hst hb).add 0 20 rfl (Ac rfl) (Ac rfl) (hf.ltl hN rfl) ⟨v99', rfl, hp⟩, q0.call hb⟩)
 ·intro l a W hl hw hsh hI' K hK
  obtain ⟨hf, hC, hF, hM, q0⟩ := (hI _ _ _).1 hI'
  have x4 := hf.atl 4 g4 rfl
  have x98 := hF.get 19 rfl (hw 19 (by kernel_rfl))
  refine want (wants rfl rfl x98) ?_
  go_simp
  exact hK.out _ _ ((hI _ _ _).2 ⟨hf.put 100 _ rfl, hC, hF.put (Ac rfl) 21 rfl (hf.ltl hN rfl), hM.put 21 100 _ rfl rfl, q0⟩)
 ·intro l a W hl hw hsh hI' K hK
  obtain ⟨hf, hC, hF, hM, q0⟩ := (hI _ _ _).1 hI'
  have x98 := hF.get 19 rfl (hw 19 (by kernel_rfl))
  have x100 := hF.get 21 rfl (hw 21 (by kernel_rfl))
  refine want (wants rfl rfl x98) ?_
  have k0 := x101.out _ hC
  go_simp
  exact hK.out _ _ ((hI _ _ _).2 ⟨hf.put 101 _ rfl, hC, hF.put (Ac rfl) 22 rfl (hf.ltl hN rfl), hM.put 22 101 _ rfl rfl, q0⟩)
 ·intro l a W hl hw hsh hI' K hK
  obtain ⟨hf, hC, hF, hM, q0⟩ := (hI _ _ _).1 hI'
  have x98 := hF.get 19 rfl (hw 19 (by kernel_rfl))
  obtain ⟨_, x99, v99', rfl, hm20⟩ := hM.get 0 rfl (hw 20 (by kernel_rfl)) rfl
  have x101 := hF.get 22 rfl (hw 22 (by kernel_rfl))
  refine want (wants rfl rfl x98) ?_
  go_simp
  refine Calls.mono (C102.out W v99' hC hm20) ?_
  rintro e W2 ⟨rfl, hb⟩
  exact hK.out _ _ ((hI _ _ _).2 ⟨hf.put 102 _ rfl, hC.call hb, hF.put (Ac rfl) 23 rfl (hf.ltl hN rfl), (hM.put 23 102 _ rfl rfl).world hst hb, q0.call hb⟩)
 ·intro l a W hl hw hsh hI' K hK
  obtain ⟨hf, hC, hF, hM, q0⟩ := (hI _ _ _).1 hI'
  have x98 := hF.get 19 rfl (hw 19 (by kernel_rfl))
  have x102 := hF.get 23 rfl (hw 23 (by kernel_rfl))
  refine want rfl ?_
  go_simp
  exact hK.out _ _ ((hI _ _ _).2 ⟨hf.put 103 _ rfl, hC, hF.put (Ac rfl) 24 rfl (hf.ltl hN rfl), hM.put 24 103 _ rfl rfl, q0⟩)
 ·intro l a W hl hw hsh hI' K hK
  obtain ⟨hf, hC, hF, hM, q0⟩ := (hI _ _ _).1 hI'
  have x103 := hF.get 24 rfl (hw 24 (by kernel_rfl))
  refine want rfl ?_
  go_simp
  exact hK.out _ _ ((hI _ _ _).2 ⟨hf.put 104 _ rfl, hC, hF.put (Ac rfl) 25 rfl (hf.ltl hN rfl), hM.put 25 104 _ rfl rfl, q0⟩)
 ·intro l a W hl hw hsh hI' K hK
  obtain ⟨hf, hC, hF, hM, q0⟩ := (hI _ _ _).1 hI'
  have x6 := hf.atl 6 g6 rfl
  have x104 := hF.get 25 rfl (hw 25 (by kernel_rfl))
  refine want (wants rfl rfl x104) ?_
  go_simp
  exact hK.out _ _ ((hI _ _ _).2 ⟨hf.put 105 _ rfl, hC, hF.put (Ac rfl) 26 rfl (hf.ltl hN rfl), hM.put 26 105 _ rfl rfl, q0⟩)
 ·intro l a W hl hw hsh hI' K hK
  obtain ⟨hf, hC, hF, hM, q0⟩ := (hI _ _ _).1 hI'
  have x104 := hF.get 25 rfl (hw 25 (by kernel_rfl))
  have x105 := hF.get 26 rfl (hw 26 (by kernel_rfl))
  refine want (wants rfl rfl x104) ?_
  have k0 := x106.out _ hC
  go_simp
  exact hK.out _ _ ((hI _ _ _).2 ⟨hf.put 106 _ rfl, hC, hF.put (Ac rfl) 27 rfl (hf.ltl hN rfl), hM.put 27 106 _ rfl rfl, q0⟩)
 ·intro l a W hl hw hsh hI' K hK
  obtain ⟨hf, hC, hF, hM, q0⟩ := (hI _ _ _).1 hI'
  have x104 := hF.get 25 rfl (hw 25 (by kernel_rfl))
  have x106 := hF.get 27 rfl (hw 27 (by kernel_rfl))
  refine want rfl ?_
  go_simp
  exact hK.out _ _ ((hI _ _ _).2 ⟨hf.put 107 _ rfl, hC, hF.put (Ac rfl) 28 rfl (hf.ltl hN rfl), hM.put 28 107 _ rfl rfl, q0⟩)
 ·intro l a W hl hw hsh hI' K hK
  obtain ⟨hf, hC, hF, hM, q0⟩ := (hI _ _ _).1 hI'
  have x107 := hF.get 28 rfl (hw 28 (by kernel_rfl))
  refine want rfl ?_
  go_simp
  exact hK.out _ _ ((hI _ _ _).2 ⟨hf.put 108 _ rfl, hC, hF.put (Ac rfl) 29 rfl (hf.ltl hN rfl), hM.put 29 108 _ rfl rfl, q0⟩)
 ·intro l a W hl hw hsh hI' K hK
  obtain ⟨hf, hC, hF, hM, q0⟩ := (hI _ _ _).1 hI'
  have x6 := hf.atl 6 g6 rfl
  have x108 := hF.get 29 rfl (hw 29 (by kernel_rfl))
  refine want (wants rfl rfl x108) ?_
  go_simp
  exact hK.out _ _ ((hI _ _ _).2 ⟨hf.put 109 _ rfl, hC, hF.put (Ac rfl) 30 rfl (hf.ltl hN rfl), hM.put 30 109 _ rfl rfl, q0⟩)
 ·intro l a W hl hw hsh hI' K hK
  obtain ⟨hf, hC, hF, hM, q0⟩ := (hI _ _ _).1 hI'
  have x108 := hF.get 29 rfl (hw 29 (by kernel_rfl))
  have x109 := hF.get 30 rfl (hw 30 (by kernel_rfl))
  refine want (wants rfl rfl x108) ?_
  go_simp
  exact hK.out _ _ ((hI _ _ _).2 ⟨hf.put 110 _ rfl, hC, hF.put (Ac rfl) 31 rfl (hf.ltl hN rfl), hM.put 31 110 _ rfl rfl, q0⟩)
 ·intro l a W hl hw hsh hI' K hK
  obtain ⟨hf, hC, hF, hM, q0⟩ := (hI _ _ _).1 hI'
  have x108 := hF.get 29 rfl (hw 29 (by kernel_rfl))
  have x110 := hF.get 31 rfl (hw 31 (by kernel_rfl))
  refine want (wants rfl rfl x108) ?_
  have k0 := x111.out _ hC
  go_simp
  exact hK.out _ _ ((hI _ _ _).2 ⟨hf.put 111 _ rfl, hC, hF.put (Ac rfl) 32 rfl (hf.ltl hN rfl), hM.put 32 111 _ rfl rfl, q0⟩)
 ·intro l a W hl hw hsh hI' K hK
  obtain ⟨hf, hC, hF, hM, q0⟩ := (hI _ _ _).1 hI'
  have x108 := hF.get 29 rfl (hw 29 (by kernel_rfl))
  have x111 := hF.get 32 rfl (hw 32 (by kernel_rfl))
  refine want (wants rfl rfl x108) ?_
  go_simp
  exact hK.out _ _ ((hI _ _ _).2 ⟨hf.put 112 _ rfl, hC, hF.put (Ac rfl) 33 rfl (hf.ltl hN rfl), hM.put 33 112 _ rfl rfl, q0⟩)
 ·intro l a W hl hw hsh hI' K hK
  obtain ⟨hf, hC, hF, hM, q0⟩ := (hI _ _ _).1 hI'
  have x108 := hF.get 29 rfl (hw 29 (by kernel_rfl))
  have x112 := hF.get 33 rfl (hw 33 (by kernel_rfl))
  refine want (wants rfl rfl x108) ?_
  go_simp
  exact hK.out _ _ ((hI _ _ _).2 ⟨hf.put 113 _ rfl, hC, hF.put (Ac rfl) 34 rfl (hf.ltl hN rfl), hM.put 34 113 _ rfl rfl, q0⟩)
 ·intro l a W hl hw hsh hI' K hK
  obtain ⟨hf, hC, hF, hM, q0⟩ := (hI _ _ _).1 hI'
  have x108 := hF.get 29 rfl (hw 29 (by kernel_rfl))
  have x113 := hF.get 34 rfl (hw 34 (by kernel_rfl))
  refine want rfl ?_
  go_simp
  exact hK.out _ _ ((hI _ _ _).2 ⟨hf.put 114 _ rfl, hC, hF.put (Ac rfl) 35 rfl (hf.ltl hN rfl), hM.put 35 114 _ rfl rfl, q0⟩)
 ·intro l a W hl hw hsh hI' K hK
  obtain ⟨hf, hC, hF, hM, q0⟩ := (hI _ _ _).1 hI'
  have x114 := hF.get 35 rfl (hw 35 (by kernel_rfl))
  refine want rfl ?_
  go_simp
  exact hK.out _ _ ((hI _ _ _).2 ⟨hf.put 115 _ rfl, hC, hF.put (Ac rfl) 36 rfl (hf.ltl hN rfl), hM.put 36 115 _ rfl rfl, q0⟩)
 ·intro l a W hl hw hsh hI' K hK
  obtain ⟨hf, hC, hF, hM, q0⟩ := (hI _ _ _).1 hI'
  have x8 := hf.atl 8 g8 rfl
  have x115 := hF.get 36 rfl (hw 36 (by kernel_rfl))
  refine want (wants rfl rfl x115) ?_
  go_simp
  exact hK.out _ _ ((hI _ _ _).2 ⟨hf.put 116 _ rfl, hC, hF.put (Ac rfl) 37 rfl (hf.ltl hN rfl), hM.put 37 116 _ rfl rfl, q0⟩)
 ·intro l a W hl hw hsh hI' K hK
  obtain ⟨hf, hC, hF, hM, q0⟩ := (hI _ _ _).1 hI'
  have x115 := hF.get 36 rfl (hw 36 (by kernel_rfl))
  have x116 := hF.get 37 rfl (hw 37 (by kernel_rfl))
  refine want (wants rfl rfl x115) ?_
  have k0 := x117.out _ hC
  go_simp
  exact hK.out _ _ ((hI _ _ _).2 ⟨hf.put 117 _ rfl, hC, hF.put (Ac rfl) 38 rfl (hf.ltl hN rfl), hM.put 38 117 _ rfl rfl, q0⟩)
 ·intro l a W hl hw hsh hI' K hK
  obtain ⟨hf, hC, hF, hM, q0⟩ := (hI _ _ _).1 hI'
  have x115 := hF.get 36 rfl (hw 36 (by kernel_rfl))
  have x117 := hF.get 38 rfl (hw 38 (by kernel_rfl))
  refine want (wants rfl rfl x115) ?_
  go_simp
  exact hK.out _ _ ((hI _ _ _).2 ⟨hf.put 118 _ rfl, hC, hF.put (Ac rfl) 39 rfl (hf.ltl hN rfl), hM.put 39 118 _ rfl rfl, q0⟩)
 ·intro l a W hl hw hsh hI' K hK
  obtain ⟨hf, hC, hF, hM, q0⟩ := (hI _ _ _).1 hI'
  have x115 := hF.get 36 rfl (hw 36 (by kernel_rfl))
  have x118 := hF.get 39 rfl (hw 39 (by kernel_rfl))
  refine want rfl ?_
  go_simp
  exact hK.out _ _ ((hI _ _ _).2 ⟨hf.put 119 _ rfl, hC, hF.put (Ac rfl) 40 rfl (hf.ltl hN rfl), hM.put 40 119 _ rfl rfl, q0⟩)
 ·intro l a W hl hw hsh hI' K hK
  obtain ⟨hf, hC, hF, hM, q0⟩ := (hI _ _ _).1 hI'
  have x119 := hF.get 40 rfl (hw 40 (by kernel_rfl))
  refine want rfl ?_
  go_simp
  exact hK.out _ _ ((hI _ _ _).2 ⟨hf.put 120 _ rfl, hC, hF.put (Ac rfl) 41 rfl (hf.ltl hN rfl), hM.put 41 120 _ rfl rfl, q0⟩)
 ·intro l a W hl hw hsh hI' K hK
  obtain ⟨hf, hC, hF, hM, q0⟩ := (hI _ _ _).1 hI'
  have x8 := hf.atl 8 g8 rfl
  have x120 := hF.get 41 rfl (hw 41 (by kernel_rfl))
  refine want (wants rfl rfl x120) ?_
  go_simp
  exact hK.out _ _ ((hI _ _ _).2 ⟨hf.put 121 _ rfl, hC, hF.put (Ac rfl) 42 rfl (hf.ltl hN rfl), hM.put 42 121 _ rfl rfl, q0⟩)
 ·intro l a W hl hw hsh hI' K hK
  obtain ⟨hf, hC, hF, hM, q0⟩ := (hI _ _ _).1 hI'
  have x120 := hF.get 41 rfl (hw 41 (by kernel_rfl))
  have x121 := hF.get 42 rfl (hw 42 (by kernel_rfl))
  refine want (wants rfl rfl x120) ?_
  have k0 := x122.out _ hC
  go_simp
  exact hK.out _ _ ((hI _ _ _).2 ⟨hf.put 122 _ rfl, hC, hF.put (Ac rfl) 43 rfl (hf.ltl hN rfl), hM.put 43 122 _ rfl rfl, q0⟩)
 ·intro l a W hl hw hsh hI' K hK
  obtain ⟨hf, hC, hF, hM, q0⟩ := (hI _ _ _).1 hI'
  have x120 := hF.get 41 rfl (hw 41 (by kernel_rfl))
  have x122 := hF.get 43 rfl (hw 43 (by kernel_rfl))
  refine want (wants rfl rfl x120) ?_
  go_simp
  exact hK.out _ _ ((hI _ _ _).2 ⟨hf.put 123 _ rfl, hC, hF.put (Ac rfl) 44 rfl (hf.ltl hN rfl), hM.put 44 123 _ rfl rfl, q0⟩)
 ·intro l a W hl hw hsh hI' K hK
  obtain ⟨hf, hC, hF, hM, q0⟩ := (hI _ _ _).1 hI'
  have x120 := hF.get 41 rfl (hw 41 (by kernel_rfl))
  have x123 := hF.get 44 rfl (hw 44 (by kernel_rfl))
  refine want (wants rfl rfl x120) ?_
  go_simp
  exact hK.out _ _ ((hI _ _ _).2 ⟨hf.put 124 _ rfl, hC, hF.put (Ac rfl) 45 rfl (hf.ltl hN rfl), hM.put 45 124 _ rfl rfl, q0⟩)
 ·intro l a W hl hw hsh hI' K hK
  obtain ⟨hf, hC, hF, hM, q0⟩ := (hI _ _ _).1 hI'
  have x120 := hF.get 41 rfl (hw 41 (by kernel_rfl))
  have x124 := hF.get 45 rfl (hw 45 (by kernel_rfl))
  refine want rfl ?_
  go_simp
  exact hK.out _ _ ((hI _ _ _).2 ⟨hf.put 125 _ rfl, hC, hF.put (Ac rfl) 46 rfl (hf.ltl hN rfl), hM.put 46 125 _ rfl rfl, q0⟩)
 ·intro l a W hl hw hsh hI' K hK
  obtain ⟨hf, hC, hF, hM, q0⟩ := (hI _ _ _).1 hI'
  have x125 := hF.get 46 rfl (hw 46 (by kernel_rfl))
  refine want rfl ?_
  go_simp
  exact hK.out _ _ ((hI _ _ _).2 ⟨hf.put 14 _ rfl, hC, hF.put (Ac rfl) 47 rfl (hf.ltl hN rfl), hM.put 47 14 _ rfl rfl, q0⟩)
 ·intro a W hI'
  obtain ⟨hf, hC, hF, hM, q0⟩ := (hI _ _ _).1 hI'
  have hM9 := q0
  have x14 := hF.get 47 rfl (by kernel_rfl)
  have he := hf.eqs
  rw [he]
  exact hQ.out _   _ (by simp [x14]) (A8 hM9)
theorem Kk {Q : Exit → Act → World → Prop} {us : List Value} {bV bS : Nat} {w W0 : World} {L : BLs} {R : List RowD}    (C126 : Hid (∀ W, Mem w L R W → Calls Tryz.prog 34 #[.int .i64 3, .int .i64 1] W fun e W' => ∃ (v126' : Value), e = .returned (.agg #[.int .i64 2, v126']) ∧ SlE W' v126' (twoL 3 1) ∧ Below W.heap.size W W')) (x127_0 : Hid (∀ W, Mem w L R W → W.cell? ⟨bV, 0, none⟩ = some (.slice (some ⟨bS, 0, none⟩) 2 2))) (x127_1 : Hid (∀ W, Mem w L R W → W.cell? ⟨bV, 1, none⟩ = some (.string ⟨#[50]⟩))) (C128 : Hid (∀ W (v126' : Value), Mem w L R W → SlE W v126' (twoL 3 1) → Calls Tryz.prog 19 #[.agg #[.int .i64 2, v126'], .agg #[.slice (some ⟨bS, 0, none⟩) 2 2, .string ⟨#[50]⟩]] W (Rets W (.bool true)))) (C130 : Hid (∀ W, Mem w L R W → Calls Tryz.prog 34 #[.int .i64 3, .int .i64 2] W fun e W' => ∃ (v130' : Value), e = .returned (.agg #[.int .i64 2, v130']) ∧ SlE W' v130' (twoL 3 2) ∧ Below W.heap.size W W')) (x131_0 : Hid (∀ W, Mem w L R W → W.cell? ⟨bV, 0, none⟩ = some (.slice (some ⟨bS, 0, none⟩) 2 2))) (x131_1 : Hid (∀ W, Mem w L R W → W.cell? ⟨bV, 1, none⟩ = some (.string ⟨#[50]⟩))) (C132 : Hid (∀ W (v130' : Value), Mem w L R W → SlE W v130' (twoL 3 2) → Calls Tryz.prog 19 #[.agg #[.int .i64 2, v130'], .agg #[.slice (some ⟨bS, 0, none⟩) 2 2, .string ⟨#[50]⟩]] W (Rets W (.bool false)))) (C136 : Hid (∀ W, Mem w L R W → Calls Tryz.prog 34 #[.int .i64 3, .int .i64 4] W fun e W' => ∃ (v136' : Value), e = .returned (.agg #[.int .i64 2, v136']) ∧ SlE W' v136' (twoL 3 4) ∧ Below W.heap.size W W')) (C138 : Hid (∀ W (v136' : Value) (g137 : Nat), Mem w L R W → SlE W v136' (twoL 3 4) → Blk W g137 #[.string ⟨#[49]⟩, .string ⟨#[45, 49]⟩] 9 → Calls Tryz.prog 28 #[.agg #[.int .i64 2, v136'], .slice (some ⟨g137, 0, none⟩) 2 2] W (Rets W (.bool true)))) (C141 : Hid (∀ W, Mem w L R W → Calls Tryz.prog 34 #[.int .i64 3, .int .i64 4] W fun e W' => ∃ (v141' : Value), e = .returned (.agg #[.int .i64 2, v141']) ∧ SlE W' v141' (twoL 3 4) ∧ Below W.heap.size W W')) (C143 : Hid (∀ W (v141' : Value) (g142 : Nat), Mem w L R W → SlE W v141' (twoL 3 4) → Blk W g142 #[.string ⟨#[45, 49]⟩, .string ⟨#[49]⟩] 9 → Calls Tryz.prog 28 #[.agg #[.int .i64 2, v141'], .slice (some ⟨g142, 0, none⟩) 2 2] W (Rets W (.bool false)))) (C147 : Hid (∀ W, Mem w L R W → Calls Tryz.prog 34 #[.int .i64 3, .int .i64 1] W fun e W' => ∃ (v147' : Value), e = .returned (.agg #[.int .i64 2, v147']) ∧ SlE W' v147' (twoL 3 1) ∧ Below W.heap.size W W')) (C149 : Hid (∀ W (v147' : Value) (g148 : Nat), Mem w L R W → SlE W v147' (twoL 3 1) → Blk W g148 #[.string ⟨#[49]⟩, .string ⟨#[45, 49]⟩] 9 → Calls Tryz.prog 28 #[.agg #[.int .i64 2, v147'], .slice (some ⟨g148, 0, none⟩) 2 2] W (Rets W (.bool false)))) (h0 : Hid (Mem w L R W0)) (hN : us.length = 171) (g1 : us[1]? = some (.pointer (some ⟨bV, 0, none⟩))) {ops : Array Oper} (ho : getOps Tryz.f9.body 11 = some ops)
  (hQ : ∀ (x : Nat → Value)  (W' : World), x 15 = .bool true → Hid (Mem w L R W') → Q .normal { tmps := (sets [126, 127, 128, 129, 130, 131, 132, 133, 134, 135, 136, 137, 138, 139, 140, 141, 142, 143, 144, 145, 146, 147, 148, 149, 150, 151, 15] x us).toArray, defers := [] } W') :
  (Code.region 11 ops true).wp Tryz.prog Q { tmps := us.toArray, defers := [] } W0 := by
 obtain rfl := Option.some.inj (ho.symm.trans (rfl : getOps Tryz.f9.body 11 = some _))
 clear ho
 replace hQ := A8 hQ
 have hst : MStable ([(0, 126, (fun yv W => ∃ (v126' : Value), yv = .agg #[.int .i64 2, v126'] ∧ SlE W v126' (twoL 3 1)), none), (4, 130, (fun yv W => ∃ (v130' : Value), yv = .agg #[.int .i64 2, v130'] ∧ SlE W v130' (twoL 3 2)), none), (10, 136, (fun yv W => ∃ (v136' : Value), yv = .agg #[.int .i64 2, v136'] ∧ SlE W v136' (twoL 3 4)), none), (11, 137, (fun yv W => ∃ (g137 : Nat), yv = .slice (some ⟨g137, 0, none⟩) 2 2 ∧ Blk W g137 #[.string ⟨#[49]⟩, .string ⟨#[45, 49]⟩] 9), none), (15, 141, (fun yv W => ∃ (v141' : Value), yv = .agg #[.int .i64 2, v141'] ∧ SlE W v141' (twoL 3 4)), none), (16, 142, (fun yv W => ∃ (g142 : Nat), yv = .slice (some ⟨g142, 0, none⟩) 2 2 ∧ Blk W g142 #[.string ⟨#[45, 49]⟩, .string ⟨#[49]⟩] 9), none), (21, 147, (fun yv W => ∃ (v147' : Value), yv = .agg #[.int .i64 2, v147'] ∧ SlE W v147' (twoL 3 1)), none), (22, 148, (fun yv W => ∃ (g148 : Nat), yv = .slice (some ⟨g148, 0, none⟩) 2 2 ∧ Blk W g148 #[.string ⟨#[49]⟩, .string ⟨#[45, 49]⟩] 9), none)] : ML) := by
  intro p hp yv W W' hb h
  simp only [List.mem_cons, List.not_mem_nil, or_false] at hp
  rcases hp with rfl | rfl | rfl | rfl | rfl | rfl | rfl | rfl
  ·obtain ⟨g0, e, h⟩ := h; exact ⟨g0, e, h.below hb⟩
  ·obtain ⟨g0, e, h⟩ := h; exact ⟨g0, e, h.below hb⟩
  ·obtain ⟨g0, e, h⟩ := h; exact ⟨g0, e, h.below hb⟩
  ·obtain ⟨g, e, h⟩ := h; exact ⟨g, e, h.below hb⟩
  ·obtain ⟨g0, e, h⟩ := h; exact ⟨g0, e, h.below hb⟩
  ·obtain ⟨g, e, h⟩ := h; exact ⟨g, e, h.below hb⟩
  ·obtain ⟨g0, e, h⟩ := h; exact ⟨g0, e, h.below hb⟩
  ·obtain ⟨g, e, h⟩ := h; exact ⟨g, e, h.below hb⟩
 obtain ⟨Iv, hI⟩ : ∃ Iv : (Nat → Bool) → Act → World → Prop, ∀ l a W, Iv l a W ↔ (Fr us.toArray [126, 127, 128, 129, 130, 131, 132, 133, 134, 135, 136, 137, 138, 139, 140, 141, 142, 143, 144, 145, 146, 147, 148, 149, 150, 151, 15] a ∧ Mem w L R W ∧ Vals [none, some (127, .agg #[.slice (some ⟨bS, 0, none⟩) 2 2, .string ⟨#[50]⟩]), some (128, .bool true), some (129, .bool true), none, some (131, .agg #[.slice (some ⟨bS, 0, none⟩) 2 2, .string ⟨#[50]⟩]), some (132, .bool false), some (133, .bool true), some (134, .bool true), some (135, .bool true), none, none, some (138, .bool true), some (139, .bool true), some (140, .bool true), none, none, some (143, .bool false), some (144, .bool true), some (145, .bool true), some (146, .bool true), none, none, some (149, .bool false), some (150, .bool true), some (151, .bool true), some (15, .bool true)] l a ∧ Mems ([(0, 126, (fun yv W => ∃ (v126' : Value), yv = .agg #[.int .i64 2, v126'] ∧ SlE W v126' (twoL 3 1)), none), (4, 130, (fun yv W => ∃ (v130' : Value), yv = .agg #[.int .i64 2, v130'] ∧ SlE W v130' (twoL 3 2)), none), (10, 136, (fun yv W => ∃ (v136' : Value), yv = .agg #[.int .i64 2, v136'] ∧ SlE W v136' (twoL 3 4)), none), (11, 137, (fun yv W => ∃ (g137 : Nat), yv = .slice (some ⟨g137, 0, none⟩) 2 2 ∧ Blk W g137 #[.string ⟨#[49]⟩, .string ⟨#[45, 49]⟩] 9), none), (15, 141, (fun yv W => ∃ (v141' : Value), yv = .agg #[.int .i64 2, v141'] ∧ SlE W v141' (twoL 3 4)), none), (16, 142, (fun yv W => ∃ (g142 : Nat), yv = .slice (some ⟨g142, 0, none⟩) 2 2 ∧ Blk W g142 #[.string ⟨#[45, 49]⟩, .string ⟨#[49]⟩] 9), none), (21, 147, (fun yv W => ∃ (v147' : Value), yv = .agg #[.int .i64 2, v147'] ∧ SlE W v147' (twoL 3 1)), none), (22, 148, (fun yv W => ∃ (g148 : Nat), yv = .slice (some ⟨g148, 0, none⟩) 2 2 ∧ Blk W g148 #[.string ⟨#[49]⟩, .string ⟨#[45, 49]⟩] 9), none)] : ML) l a W ∧ (Mem w L R W)) := ⟨_, fun _ _ _ => Iff.rfl⟩
 refine Ae Iv (by kernel_rfl) (by kernel_rfl) ((hI _ _ _).2 ⟨Fr.start _ _, h0.out.drew, Vals.zero, Mems.zero, h0.out.drew⟩) (Ab (k := 0) ?_ (Ab (k := 1) ?_ (Ab (k := 2) ?_ (Ab (k := 3) ?_ (Ab (k := 4) ?_ (Ab (k := 5) ?_ (Ab (k := 6) ?_ (Ab (k := 7) ?_ (Ab (k := 8) ?_ (Ab (k := 9) ?_ (Ab (k := 10) ?_ (Ab (k := 11) ?_ (Ab (k := 12) ?_ (Ab (k := 13) ?_ (Ab (k := 14) ?_ (Ab (k := 15) ?_ (Ab (k := 16) ?_ (Ab (k := 17) ?_ (Ab (k := 18) ?_ (Ab (k := 19) ?_ (Ab (k := 20) ?_ (Ab (k := 21) ?_ (Ab (k := 22) ?_ (Ab (k := 23) ?_ (Ab (k := 24) ?_ (Ab (k := 25) ?_ (Ab (k := 26) ?_ (Al)))))))))))))))))))))))))))) ?_
 ·intro l a W hl hw hsh hI' K hK
  obtain ⟨hf, hC, hF, hM, q0⟩ := (hI _ _ _).1 hI'
  refine want rfl ?_
  go_simp
  refine Calls.mono (C126.out W hC) ?_
  rintro e W2 ⟨v126', rfl, hp, hb⟩
  exact hK.out _ _ ((hI _ _ _).2 ⟨hf.put 126 _ rfl, hC.call hb, hF.other 0 126 _ rfl rfl, (hM.world hst hb).add 0 0 rfl (Ac rfl) (Ac rfl) (hf.ltl hN rfl) ⟨v126', rfl, hp⟩, q0.call hb⟩)
 ·intro l a W hl hw hsh hI' K hK
  obtain ⟨hf, hC, hF, hM, q0⟩ := (hI _ _ _).1 hI'
  have x1 := hf.atl 1 g1 rfl
  refine want rfl ?_
  have k0 := x127_0.out _ hC
  have k1 := x127_1.out _ hC
  go_simp
  exact hK.out _ _ ((hI _ _ _).2 ⟨hf.put 127 _ rfl, hC, hF.put (Ac rfl) 1 rfl (hf.ltl hN rfl), hM.put 1 127 _ rfl rfl, q0⟩)
 ·intro l a W hl hw hsh hI' K hK
  obtain ⟨hf, hC, hF, hM, q0⟩ := (hI _ _ _).1 hI'
  obtain ⟨_, x126, v126', rfl, hm0⟩ := hM.get 0 rfl (hw 0 (by kernel_rfl)) rfl
  have x127 := hF.get 1 rfl (hw 1 (by kernel_rfl))
  refine want rfl ?_
  go_simp
  refine Calls.mono (C128.out W v126' hC hm0) ?_
  rintro e W2 ⟨rfl, hb⟩
  exact hK.out _ _ ((hI _ _ _).2 ⟨hf.put 128 _ rfl, hC.call hb, hF.put (Ac rfl) 2 rfl (hf.ltl hN rfl), (hM.put 2 128 _ rfl rfl).world hst hb, q0.call hb⟩)
 ·intro l a W hl hw hsh hI' K hK
  obtain ⟨hf, hC, hF, hM, q0⟩ := (hI _ _ _).1 hI'
  have x128 := hF.get 2 rfl (hw 2 (by kernel_rfl))
  refine want rfl ?_
  go_simp
  exact hK.out _ _ ((hI _ _ _).2 ⟨hf.put 129 _ rfl, hC, hF.put (Ac rfl) 3 rfl (hf.ltl hN rfl), hM.put 3 129 _ rfl rfl, q0⟩)
 ·intro l a W hl hw hsh hI' K hK
  obtain ⟨hf, hC, hF, hM, q0⟩ := (hI _ _ _).1 hI'
  have x129 := hF.get 3 rfl (hw 3 (by kernel_rfl))
  refine want (wants rfl rfl x129) ?_
  go_simp
  refine Calls.mono (C130.out W hC) ?_
  rintro e W2 ⟨v130', rfl, hp, hb⟩
  exact hK.out _ _ ((hI _ _ _).2 ⟨hf.put 130 _ rfl, hC.call hb, hF.other 4 130 _ rfl rfl, (hM.world hst hb).add 1 4 rfl (Ac rfl) (Ac rfl) (hf.ltl hN rfl) ⟨v130', rfl, hp⟩, q0.call hb⟩)
 ·intro l a W hl hw hsh hI' K hK
  obtain ⟨hf, hC, hF, hM, q0⟩ := (hI _ _ _).1 hI'
  have x1 := hf.atl 1 g1 rfl
  have x129 := hF.get 3 rfl (hw 3 (by kernel_rfl))
  refine want (wants rfl rfl x129) ?_
  have k0 := x131_0.out _ hC
  have k1 := x131_1.out _ hC
  go_simp
  exact hK.out _ _ ((hI _ _ _).2 ⟨hf.put 131 _ rfl, hC, hF.put (Ac rfl) 5 rfl (hf.ltl hN rfl), hM.put 5 131 _ rfl rfl, q0⟩)
 ·intro l a W hl hw hsh hI' K hK
  obtain ⟨hf, hC, hF, hM, q0⟩ := (hI _ _ _).1 hI'
  have x129 := hF.get 3 rfl (hw 3 (by kernel_rfl))
  obtain ⟨_, x130, v130', rfl, hm4⟩ := hM.get 1 rfl (hw 4 (by kernel_rfl)) rfl
  have x131 := hF.get 5 rfl (hw 5 (by kernel_rfl))
  refine want (wants rfl rfl x129) ?_
  go_simp
  refine Calls.mono (C132.out W v130' hC hm4) ?_
  rintro e W2 ⟨rfl, hb⟩
  exact hK.out _ _ ((hI _ _ _).2 ⟨hf.put 132 _ rfl, hC.call hb, hF.put (Ac rfl) 6 rfl (hf.ltl hN rfl), (hM.put 6 132 _ rfl rfl).world hst hb, q0.call hb⟩)
 ·intro l a W hl hw hsh hI' K hK
  obtain ⟨hf, hC, hF, hM, q0⟩ := (hI _ _ _).1 hI'
  have x129 := hF.get 3 rfl (hw 3 (by kernel_rfl))
  have x132 := hF.get 6 rfl (hw 6 (by kernel_rfl))
  refine want (wants rfl rfl x129) ?_
  go_simp
  exact hK.out _ _ ((hI _ _ _).2 ⟨hf.put 133 _ rfl, hC, hF.put (Ac rfl) 7 rfl (hf.ltl hN rfl), hM.put 7 133 _ rfl rfl, q0⟩)
 ·intro l a W hl hw hsh hI' K hK
  obtain ⟨hf, hC, hF, hM, q0⟩ := (hI _ _ _).1 hI'
  have x129 := hF.get 3 rfl (hw 3 (by kernel_rfl))
  have x133 := hF.get 7 rfl (hw 7 (by kernel_rfl))
  refine want rfl ?_
  go_simp
  exact hK.out _ _ ((hI _ _ _).2 ⟨hf.put 134 _ rfl, hC, hF.put (Ac rfl) 8 rfl (hf.ltl hN rfl), hM.put 8 134 _ rfl rfl, q0⟩)
 ·intro l a W hl hw hsh hI' K hK
  obtain ⟨hf, hC, hF, hM, q0⟩ := (hI _ _ _).1 hI'
  have x134 := hF.get 8 rfl (hw 8 (by kernel_rfl))
  refine want rfl ?_
  go_simp
  exact hK.out _ _ ((hI _ _ _).2 ⟨hf.put 135 _ rfl, hC, hF.put (Ac rfl) 9 rfl (hf.ltl hN rfl), hM.put 9 135 _ rfl rfl, q0⟩)
 ·intro l a W hl hw hsh hI' K hK
  obtain ⟨hf, hC, hF, hM, q0⟩ := (hI _ _ _).1 hI'
  have x135 := hF.get 9 rfl (hw 9 (by kernel_rfl))
  refine want (wants rfl rfl x135) ?_
  go_simp
  refine Calls.mono (C136.out W hC) ?_
  rintro e W2 ⟨v136', rfl, hp, hb⟩
  exact hK.out _ _ ((hI _ _ _).2 ⟨hf.put 136 _ rfl, hC.call hb, hF.other 10 136 _ rfl rfl, (hM.world hst hb).add 2 10 rfl (Ac rfl) (Ac rfl) (hf.ltl hN rfl) ⟨v136', rfl, hp⟩, q0.call hb⟩)
 ·intro l a W hl hw hsh hI' K hK
  obtain ⟨hf, hC, hF, hM, q0⟩ := (hI _ _ _).1 hI'
  have x135 := hF.get 9 rfl (hw 9 (by kernel_rfl))
  refine want (wants rfl rfl x135) ?_
  go_simp
  exact hK.out _ _ ((hI _ _ _).2 ⟨hf.put 137 _ rfl, hC.new _, hF.other 11 137 _ rfl rfl, (hM.world hst ((Below.refl _ _).alloc (Aa _) _)).add 3 11 rfl (Ac rfl) (Ac rfl) (hf.ltl hN rfl) ⟨_, rfl, Blk.new _ _ _⟩, q0.new _⟩)
 ·intro l a W hl hw hsh hI' K hK
  obtain ⟨hf, hC, hF, hM, q0⟩ := (hI _ _ _).1 hI'
  have x135 := hF.get 9 rfl (hw 9 (by kernel_rfl))
  obtain ⟨_, x136, v136', rfl, hm10⟩ := hM.get 2 rfl (hw 10 (by kernel_rfl)) rfl
  obtain ⟨_, x137, g137, rfl, hb11⟩ := hM.get 3 rfl (hw 11 (by kernel_rfl)) rfl
  refine want (wants rfl rfl x135) ?_
  go_simp
  refine Calls.mono (C138.out W v136' g137 hC hm10 hb11) ?_
  rintro e W2 ⟨rfl, hb⟩
  exact hK.out _ _ ((hI _ _ _).2 ⟨hf.put 138 _ rfl, hC.call hb, hF.put (Ac rfl) 12 rfl (hf.ltl hN rfl), (hM.put 12 138 _ rfl rfl).world hst hb, q0.call hb⟩)
 ·intro l a W hl hw hsh hI' K hK
  obtain ⟨hf, hC, hF, hM, q0⟩ := (hI _ _ _).1 hI'
  have x135 := hF.get 9 rfl (hw 9 (by kernel_rfl))
  have x138 := hF.get 12 rfl (hw 12 (by kernel_rfl))
  refine want rfl ?_
  go_simp
  exact hK.out _ _ ((hI _ _ _).2 ⟨hf.put 139 _ rfl, hC, hF.put (Ac rfl) 13 rfl (hf.ltl hN rfl), hM.put 13 139 _ rfl rfl, q0⟩)
 ·intro l a W hl hw hsh hI' K hK
  obtain ⟨hf, hC, hF, hM, q0⟩ := (hI _ _ _).1 hI'
  have x139 := hF.get 13 rfl (hw 13 (by kernel_rfl))
  refine want rfl ?_
  go_simp
  exact hK.out _ _ ((hI _ _ _).2 ⟨hf.put 140 _ rfl, hC, hF.put (Ac rfl) 14 rfl (hf.ltl hN rfl), hM.put 14 140 _ rfl rfl, q0⟩)
 ·intro l a W hl hw hsh hI' K hK
  obtain ⟨hf, hC, hF, hM, q0⟩ := (hI _ _ _).1 hI'
  have x140 := hF.get 14 rfl (hw 14 (by kernel_rfl))
  refine want (wants rfl rfl x140) ?_
  go_simp
  refine Calls.mono (C141.out W hC) ?_
  rintro e W2 ⟨v141', rfl, hp, hb⟩
  exact hK.out _ _ ((hI _ _ _).2 ⟨hf.put 141 _ rfl, hC.call hb, hF.other 15 141 _ rfl rfl, (hM.world hst hb).add 4 15 rfl (Ac rfl) (Ac rfl) (hf.ltl hN rfl) ⟨v141', rfl, hp⟩, q0.call hb⟩)
 ·intro l a W hl hw hsh hI' K hK
  obtain ⟨hf, hC, hF, hM, q0⟩ := (hI _ _ _).1 hI'
  have x140 := hF.get 14 rfl (hw 14 (by kernel_rfl))
  refine want (wants rfl rfl x140) ?_
  go_simp
  exact hK.out _ _ ((hI _ _ _).2 ⟨hf.put 142 _ rfl, hC.new _, hF.other 16 142 _ rfl rfl, (hM.world hst ((Below.refl _ _).alloc (Aa _) _)).add 5 16 rfl (Ac rfl) (Ac rfl) (hf.ltl hN rfl) ⟨_, rfl, Blk.new _ _ _⟩, q0.new _⟩)
 ·intro l a W hl hw hsh hI' K hK
  obtain ⟨hf, hC, hF, hM, q0⟩ := (hI _ _ _).1 hI'
  have x140 := hF.get 14 rfl (hw 14 (by kernel_rfl))
  obtain ⟨_, x141, v141', rfl, hm15⟩ := hM.get 4 rfl (hw 15 (by kernel_rfl)) rfl
  obtain ⟨_, x142, g142, rfl, hb16⟩ := hM.get 5 rfl (hw 16 (by kernel_rfl)) rfl
  refine want (wants rfl rfl x140) ?_
  go_simp
  refine Calls.mono (C143.out W v141' g142 hC hm15 hb16) ?_
  rintro e W2 ⟨rfl, hb⟩
  exact hK.out _ _ ((hI _ _ _).2 ⟨hf.put 143 _ rfl, hC.call hb, hF.put (Ac rfl) 17 rfl (hf.ltl hN rfl), (hM.put 17 143 _ rfl rfl).world hst hb, q0.call hb⟩)
 ·intro l a W hl hw hsh hI' K hK
  obtain ⟨hf, hC, hF, hM, q0⟩ := (hI _ _ _).1 hI'
  have x140 := hF.get 14 rfl (hw 14 (by kernel_rfl))
  have x143 := hF.get 17 rfl (hw 17 (by kernel_rfl))
  refine want (wants rfl rfl x140) ?_
  go_simp
  exact hK.out _ _ ((hI _ _ _).2 ⟨hf.put 144 _ rfl, hC, hF.put (Ac rfl) 18 rfl (hf.ltl hN rfl), hM.put 18 144 _ rfl rfl, q0⟩)
 ·intro l a W hl hw hsh hI' K hK
  obtain ⟨hf, hC, hF, hM, q0⟩ := (hI _ _ _).1 hI'
  have x140 := hF.get 14 rfl (hw 14 (by kernel_rfl))
  have x144 := hF.get 18 rfl (hw 18 (by kernel_rfl))
  refine want rfl ?_
  go_simp
  exact hK.out _ _ ((hI _ _ _).2 ⟨hf.put 145 _ rfl, hC, hF.put (Ac rfl) 19 rfl (hf.ltl hN rfl), hM.put 19 145 _ rfl rfl, q0⟩)
 ·intro l a W hl hw hsh hI' K hK
  obtain ⟨hf, hC, hF, hM, q0⟩ := (hI _ _ _).1 hI'
  have x145 := hF.get 19 rfl (hw 19 (by kernel_rfl))
  refine want rfl ?_
  go_simp
  exact hK.out _ _ ((hI _ _ _).2 ⟨hf.put 146 _ rfl, hC, hF.put (Ac rfl) 20 rfl (hf.ltl hN rfl), hM.put 20 146 _ rfl rfl, q0⟩)
 ·intro l a W hl hw hsh hI' K hK
  obtain ⟨hf, hC, hF, hM, q0⟩ := (hI _ _ _).1 hI'
  have x146 := hF.get 20 rfl (hw 20 (by kernel_rfl))
  refine want (wants rfl rfl x146) ?_
  go_simp
  refine Calls.mono (C147.out W hC) ?_
  rintro e W2 ⟨v147', rfl, hp, hb⟩
  exact hK.out _ _ ((hI _ _ _).2 ⟨hf.put 147 _ rfl, hC.call hb, hF.other 21 147 _ rfl rfl, (hM.world hst hb).add 6 21 rfl (Ac rfl) (Ac rfl) (hf.ltl hN rfl) ⟨v147', rfl, hp⟩, q0.call hb⟩)
 ·intro l a W hl hw hsh hI' K hK
  obtain ⟨hf, hC, hF, hM, q0⟩ := (hI _ _ _).1 hI'
  have x146 := hF.get 20 rfl (hw 20 (by kernel_rfl))
  refine want (wants rfl rfl x146) ?_
  go_simp
  exact hK.out _ _ ((hI _ _ _).2 ⟨hf.put 148 _ rfl, hC.new _, hF.other 22 148 _ rfl rfl, (hM.world hst ((Below.refl _ _).alloc (Aa _) _)).add 7 22 rfl (Ac rfl) (Ac rfl) (hf.ltl hN rfl) ⟨_, rfl, Blk.new _ _ _⟩, q0.new _⟩)
 ·intro l a W hl hw hsh hI' K hK
  obtain ⟨hf, hC, hF, hM, q0⟩ := (hI _ _ _).1 hI'
  have x146 := hF.get 20 rfl (hw 20 (by kernel_rfl))
  obtain ⟨_, x147, v147', rfl, hm21⟩ := hM.get 6 rfl (hw 21 (by kernel_rfl)) rfl
  obtain ⟨_, x148, g148, rfl, hb22⟩ := hM.get 7 rfl (hw 22 (by kernel_rfl)) rfl
  refine want (wants rfl rfl x146) ?_
  go_simp
  refine Calls.mono (C149.out W v147' g148 hC hm21 hb22) ?_
  rintro e W2 ⟨rfl, hb⟩
  exact hK.out _ _ ((hI _ _ _).2 ⟨hf.put 149 _ rfl, hC.call hb, hF.put (Ac rfl) 23 rfl (hf.ltl hN rfl), (hM.put 23 149 _ rfl rfl).world hst hb, q0.call hb⟩)
 ·intro l a W hl hw hsh hI' K hK
  obtain ⟨hf, hC, hF, hM, q0⟩ := (hI _ _ _).1 hI'
  have x146 := hF.get 20 rfl (hw 20 (by kernel_rfl))
  have x149 := hF.get 23 rfl (hw 23 (by kernel_rfl))
  refine want (wants rfl rfl x146) ?_
  go_simp
  exact hK.out _ _ ((hI _ _ _).2 ⟨hf.put 150 _ rfl, hC, hF.put (Ac rfl) 24 rfl (hf.ltl hN rfl), hM.put 24 150 _ rfl rfl, q0⟩)
 ·intro l a W hl hw hsh hI' K hK
  obtain ⟨hf, hC, hF, hM, q0⟩ := (hI _ _ _).1 hI'
  have x146 := hF.get 20 rfl (hw 20 (by kernel_rfl))
  have x150 := hF.get 24 rfl (hw 24 (by kernel_rfl))
  refine want rfl ?_
  go_simp
  exact hK.out _ _ ((hI _ _ _).2 ⟨hf.put 151 _ rfl, hC, hF.put (Ac rfl) 25 rfl (hf.ltl hN rfl), hM.put 25 151 _ rfl rfl, q0⟩)
 ·intro l a W hl hw hsh hI' K hK
  obtain ⟨hf, hC, hF, hM, q0⟩ := (hI _ _ _).1 hI'
  have x151 := hF.get 25 rfl (hw 25 (by kernel_rfl))
  refine want rfl ?_
  go_simp
  exact hK.out _ _ ((hI _ _ _).2 ⟨hf.put 15 _ rfl, hC, hF.put (Ac rfl) 26 rfl (hf.ltl hN rfl), hM.put 26 15 _ rfl rfl, q0⟩)
 ·intro a W hI'
  obtain ⟨hf, hC, hF, hM, q0⟩ := (hI _ _ _).1 hI'
  have hM9 := q0
  have x15 := hF.get 26 rfl (by kernel_rfl)
  have he := hf.eqs
  rw [he]
  exact hQ.out _   _ (by simp [x15]) (A8 hM9)
theorem Ll {Q : Exit → Act → World → Prop} {u0 u2 u3 u4 u5 u9 u10 u11 u12 u13 u14 u15 u16 u17 u18 u19 u20 u21 u22 u23 u24 u25 u26 u27 u28 u29 u30 u31 u32 u33 u34 u35 u36 u37 u38 u39 u40 u41 u42 u43 u44 u45 u46 u47 u48 u49 u50 u51 u52 u53 u54 u55 u56 u57 u58 u59 u60 u61 u62 u63 u64 u65 u66 u67 u68 u69 u70 u71 u72 u73 u74 u75 u76 u77 u78 u79 u80 u81 u82 u83 u84 : Value} {bN bE : Nat} {v hv : Value} {w W0 : World} {L : BLs} {R : List RowD} {j co at_ hd pr s0 s1 : Int} (hpr : IntKind.i64.wrap (co * hd) = pr) (hsm : IntKind.i64.wrap (s0 + pr) = s1) (hN : Hid (∀ W, Mem w L R W → W.cell? ⟨bN, 3, none⟩ = some hv)) (AT : Hid (∀ W, Mem w L R W → Calls Tryz.prog 36 #[hv, .int .i64 j] W (Rets W (.int .i64 at_)))) (PK : Hid (∀ W, Calls Tryz.prog 35 #[.int .i64 at_, .int .i64 6] W (Rets W (.int .i64 hd)))) (h0 : Hid (Mem w ((bE, #[v, .int .i64 s0], 60) :: L) R W0)) {ops : Array Oper} (ho : getOps Tryz.f11.body 12 = some ops)
  (hQ : ∀ (v47 v48 v49 v50 v51 v52 v53 v54 v55 v56 v57 : Value)  (W' : World), Mem w ((bE, #[v, .int .i64 s1], 60) :: L) R W' → Q .normal { tmps := List.toArray (u0::.pointer (some ⟨bN, 0, none⟩)::u2::u3::u4::u5::.pointer (some ⟨bE, 0, none⟩)::.int .i64 j::.int .i64 co::u9::u10::u11::u12::u13::u14::u15::u16::u17::u18::u19::u20::u21::u22::u23::u24::u25::u26::u27::u28::u29::u30::u31::u32::u33::u34::u35::u36::u37::u38::u39::u40::u41::u42::u43::u44::u45::u46::v47::v48::v49::v50::v51::v52::v53::v54::v55::v56::v57::u58::u59::u60::u61::u62::u63::u64::u65::u66::u67::u68::u69::u70::u71::u72::u73::u74::u75::u76::u77::u78::u79::u80::u81::u82::u83::u84::[]), defers := [] } W') :
  (Code.region 12 ops true).wp Tryz.prog Q { tmps := List.toArray (u0::.pointer (some ⟨bN, 0, none⟩)::u2::u3::u4::u5::.pointer (some ⟨bE, 0, none⟩)::.int .i64 j::.int .i64 co::u9::u10::u11::u12::u13::u14::u15::u16::u17::u18::u19::u20::u21::u22::u23::u24::u25::u26::u27::u28::u29::u30::u31::u32::u33::u34::u35::u36::u37::u38::u39::u40::u41::u42::u43::u44::u45::u46::u47::u48::u49::u50::u51::u52::u53::u54::u55::u56::u57::u58::u59::u60::u61::u62::u63::u64::u65::u66::u67::u68::u69::u70::u71::u72::u73::u74::u75::u76::u77::u78::u79::u80::u81::u82::u83::u84::[]), defers := [] } W0 := by
 obtain rfl := Option.some.inj (ho.symm.trans (rfl : getOps Tryz.f11.body 12 = some _))
 clear ho
 replace hQ := A8 hQ
 obtain ⟨Iv, hI⟩ : ∃ Iv : (Nat → Bool) → Act → World → Prop, ∀ l a W, Iv l a W ↔ (∃ s47 s48 s49 s50 s51 s52 s53 s54 s55 s56 s57 : Value, a = { tmps := List.toArray (u0::.pointer (some ⟨bN, 0, none⟩)::u2::u3::u4::u5::.pointer (some ⟨bE, 0, none⟩)::.int .i64 j::.int .i64 co::u9::u10::u11::u12::u13::u14::u15::u16::u17::u18::u19::u20::u21::u22::u23::u24::u25::u26::u27::u28::u29::u30::u31::u32::u33::u34::u35::u36::u37::u38::u39::u40::u41::u42::u43::u44::u45::u46::s47::s48::s49::s50::s51::s52::s53::s54::s55::s56::s57::u58::u59::u60::u61::u62::u63::u64::u65::u66::u67::u68::u69::u70::u71::u72::u73::u74::u75::u76::u77::u78::u79::u80::u81::u82::u83::u84::[]), defers := [] } ∧ Mem w L R W ∧ Vs [(0, .pointer (some ⟨bE, 1, none⟩), s47), (1, .int .i64 s0, s48), (2, .int .i64 co, s49), (3, .pointer (some ⟨bN, 3, none⟩), s50), (4, hv, s51), (5, .int .i64 j, s52), (6, .int .i64 at_, s53), (7, .int .i64 hd, s54), (8, .int .i64 pr, s55), (9, .int .i64 s1, s56), (10, .pointer (some ⟨bE, 1, none⟩), s57)] l ∧ ((l 11 = false → Blk W bE #[v, .int .i64 s0] 60) ∧ (l 11 = true → Blk W bE #[v, .int .i64 s1] 60))) := ⟨_, fun _ _ _ => Iff.rfl⟩
 refine Ae Iv (by kernel_rfl) (by kernel_rfl) ((hI _ _ _).2 ⟨_, _, _, _, _, _, _, _, _, _, _, rfl, h0.out.tail.drew, Vs.zero, ⟨fun _ => h0.out.drew.blks _ List.mem_cons_self, fun h => off h⟩⟩) (Ab (k := 0) ?_ (Ab (k := 1) ?_ (Ab (k := 2) ?_ (Ab (k := 3) ?_ (Ab (k := 4) ?_ (Ab (k := 5) ?_ (Ab (k := 6) ?_ (Ab (k := 7) ?_ (Ab (k := 8) ?_ (Ab (k := 9) ?_ (Ab (k := 10) ?_ (Ab (k := 11) ?_ (Al))))))))))))) ?_
 ·intro l a W hl hw hsh h K hK
  rw [hI] at h; iterate 11 obtain ⟨_, h⟩ := h
  obtain ⟨rfl, hC, hP, g⟩ := h
  go_simp
  apply hK.out; rw [hI]; iterate 11 apply Exists.intro
  exact ⟨rfl, hC, hP.put 0 rfl rfl rfl, g⟩
 ·intro l a W hl hw hsh h K hK
  rw [hI] at h; iterate 11 obtain ⟨_, h⟩ := h
  obtain ⟨rfl, hC, hP, g⟩ := h
  obtain rfl := hP.get 0 rfl (hw 0 (by kernel_rfl))
  have hst : l 11 = false := by
   cases hc : l 11 with
   | false => rfl
   | true => exact absurd (hsh 9 1 _ rfl (hsh 11 9 _ rfl (hc) (by kernel_rfl)) (by kernel_rfl)) (by simp [hl])
  have x1 := ((g.1 hst).cell 1).trans (show _ = some (Value.int .i64 s0) from rfl)
  go_simp
  apply hK.out; rw [hI]; iterate 11 apply Exists.intro
  exact ⟨rfl, hC, hP.put 1 rfl rfl rfl, g⟩
 ·intro l a W hl hw hsh h K hK
  rw [hI] at h; iterate 11 obtain ⟨_, h⟩ := h
  obtain ⟨rfl, hC, hP, g⟩ := h
  go_simp
  apply hK.out; rw [hI]; iterate 11 apply Exists.intro
  exact ⟨rfl, hC, hP.put 2 rfl rfl rfl, g⟩
 ·intro l a W hl hw hsh h K hK
  rw [hI] at h; iterate 11 obtain ⟨_, h⟩ := h
  obtain ⟨rfl, hC, hP, g⟩ := h
  go_simp
  apply hK.out; rw [hI]; iterate 11 apply Exists.intro
  exact ⟨rfl, hC, hP.put 3 rfl rfl rfl, g⟩
 ·intro l a W hl hw hsh h K hK
  rw [hI] at h; iterate 11 obtain ⟨_, h⟩ := h
  obtain ⟨rfl, hC, hP, g⟩ := h
  obtain rfl := hP.get 3 rfl (hw 3 (by kernel_rfl))
  have x1 := hN.out _ hC
  go_simp
  apply hK.out; rw [hI]; iterate 11 apply Exists.intro
  exact ⟨rfl, hC, hP.put 4 rfl rfl rfl, g⟩
 ·intro l a W hl hw hsh h K hK
  rw [hI] at h; iterate 11 obtain ⟨_, h⟩ := h
  obtain ⟨rfl, hC, hP, g⟩ := h
  go_simp
  apply hK.out; rw [hI]; iterate 11 apply Exists.intro
  exact ⟨rfl, hC, hP.put 5 rfl rfl rfl, g⟩
 ·intro l a W hl hw hsh h K hK
  rw [hI] at h; iterate 11 obtain ⟨_, h⟩ := h
  obtain ⟨rfl, hC, hP, g⟩ := h
  obtain rfl := hP.get 4 rfl (hw 4 (by kernel_rfl))
  obtain rfl := hP.get 5 rfl (hw 5 (by kernel_rfl))
  go_simp
  refine Calls.mono (AT.out W hC) ?_
  rintro e W2 ⟨rfl, hb⟩
  apply hK.out; rw [hI]; iterate 11 apply Exists.intro
  exact ⟨rfl, hC.call hb, hP.put 6 rfl rfl rfl, ⟨fun h => (g.1 h).below hb, fun h => (g.2 h).below hb⟩⟩
 ·intro l a W hl hw hsh h K hK
  rw [hI] at h; iterate 11 obtain ⟨_, h⟩ := h
  obtain ⟨rfl, hC, hP, g⟩ := h
  obtain rfl := hP.get 6 rfl (hw 6 (by kernel_rfl))
  go_simp
  refine Calls.mono (PK.out W) ?_
  rintro e W2 ⟨rfl, hb⟩
  apply hK.out; rw [hI]; iterate 11 apply Exists.intro
  exact ⟨rfl, hC.call hb, hP.put 7 rfl rfl rfl, ⟨fun h => (g.1 h).below hb, fun h => (g.2 h).below hb⟩⟩
 ·intro l a W hl hw hsh h K hK
  rw [hI] at h; iterate 11 obtain ⟨_, h⟩ := h
  obtain ⟨rfl, hC, hP, g⟩ := h
  obtain rfl := hP.get 2 rfl (hw 2 (by kernel_rfl))
  obtain rfl := hP.get 7 rfl (hw 7 (by kernel_rfl))
  go_simp
  apply hK.out; rw [hI]; iterate 11 apply Exists.intro
  exact ⟨rfl, hC, hP.put 8 rfl rfl rfl, g⟩
 ·intro l a W hl hw hsh h K hK
  rw [hI] at h; iterate 11 obtain ⟨_, h⟩ := h
  obtain ⟨rfl, hC, hP, g⟩ := h
  obtain rfl := hP.get 1 rfl (hw 1 (by kernel_rfl))
  obtain rfl := hP.get 8 rfl (hw 8 (by kernel_rfl))
  go_simp
  apply hK.out; rw [hI]; iterate 11 apply Exists.intro
  exact ⟨rfl, hC, hP.put 9 rfl rfl rfl, g⟩
 ·intro l a W hl hw hsh h K hK
  rw [hI] at h; iterate 11 obtain ⟨_, h⟩ := h
  obtain ⟨rfl, hC, hP, g⟩ := h
  go_simp
  apply hK.out; rw [hI]; iterate 11 apply Exists.intro
  exact ⟨rfl, hC, hP.put 10 rfl rfl rfl, g⟩
 ·intro l a W hl hw hsh h K hK
  rw [hI] at h; iterate 11 obtain ⟨_, h⟩ := h
  obtain ⟨rfl, hC, hP, g⟩ := h
  obtain rfl := hP.get 9 rfl (hw 9 (by kernel_rfl))
  obtain rfl := hP.get 10 rfl (hw 10 (by kernel_rfl))
  have x1 := (g.1 hl).cell 1
  have x2 := (g.1 hl).frozen 1
  go_simp
  apply hK.out; rw [hI]; iterate 11 apply Exists.intro
  exact ⟨rfl, h0.out.off hC (g.1 hl) 1 _, hP.skip 11 rfl, ⟨fun h => off h.symm, fun _ => (g.1 hl).set 1 _⟩⟩
 ·intro a W hI'
  have h := (hI _ _ _).1 hI'; clear hI'; iterate 11 obtain ⟨_, h⟩ := h
  obtain ⟨rfl, hC, hP, g⟩ := h
  exact hQ.out _ _ _ _ _ _ _ _ _ _ _ _ (h0.out.join hC (g.2 (by kernel_rfl)))
theorem Lm {Q : Exit → Act → World → Prop} {u0 u2 u3 u4 u5 u7 u8 u9 u10 u11 u12 u13 u14 u15 u16 u17 u18 u19 u20 u21 u22 u23 u24 u25 u26 u27 u28 u29 u30 u31 u32 u33 u34 u35 u36 u37 u38 u39 u40 u41 u42 u43 u44 u45 u46 u47 u48 u49 u50 u51 u52 u53 u54 u55 u56 u57 u58 u59 u60 u61 u62 u63 u64 u65 u66 u67 u68 u69 u70 u71 u72 u73 u74 u75 u76 u77 u78 u79 u80 u81 u82 u83 u84 : Value} {bN bE : Nat} {v : Value} {w W0 : World} {L : BLs} {R : List RowD} {ms mq pk sa s0 s1 : Int} (hmq : IntKind.i64.wrap (ms.tdiv 30) = mq) (hsa : IntKind.i64.wrap (s0 + pk) = sa) (hsm : IntKind.i64.wrap (sa - 20) = s1) (hN : Hid (∀ W, Mem w L R W → W.cell? ⟨bN, 4, none⟩ = some (.int .i64 ms))) (PK : Hid (∀ W, Calls Tryz.prog 35 #[.int .i64 mq, .int .i64 41] W (Rets W (.int .i64 pk)))) (h0 : Hid (Mem w ((bE, #[v, .int .i64 s0], 60) :: L) R W0)) {ops : Array Oper} (ho : getOps Tryz.f11.body 14 = some ops)
  (hQ : ∀ (v69 v70 v71 v72 v73 v74 v75 v76 v77 : Value)  (W' : World), Mem w ((bE, #[v, .int .i64 s1], 60) :: L) R W' → Q .normal { tmps := List.toArray (u0::.pointer (some ⟨bN, 0, none⟩)::u2::u3::u4::u5::.pointer (some ⟨bE, 0, none⟩)::u7::u8::u9::u10::u11::u12::u13::u14::u15::u16::u17::u18::u19::u20::u21::u22::u23::u24::u25::u26::u27::u28::u29::u30::u31::u32::u33::u34::u35::u36::u37::u38::u39::u40::u41::u42::u43::u44::u45::u46::u47::u48::u49::u50::u51::u52::u53::u54::u55::u56::u57::u58::u59::u60::u61::u62::u63::u64::u65::u66::u67::u68::v69::v70::v71::v72::v73::v74::v75::v76::v77::u78::u79::u80::u81::u82::u83::u84::[]), defers := [] } W') :
  (Code.region 14 ops true).wp Tryz.prog Q { tmps := List.toArray (u0::.pointer (some ⟨bN, 0, none⟩)::u2::u3::u4::u5::.pointer (some ⟨bE, 0, none⟩)::u7::u8::u9::u10::u11::u12::u13::u14::u15::u16::u17::u18::u19::u20::u21::u22::u23::u24::u25::u26::u27::u28::u29::u30::u31::u32::u33::u34::u35::u36::u37::u38::u39::u40::u41::u42::u43::u44::u45::u46::u47::u48::u49::u50::u51::u52::u53::u54::u55::u56::u57::u58::u59::u60::u61::u62::u63::u64::u65::u66::u67::u68::u69::u70::u71::u72::u73::u74::u75::u76::u77::u78::u79::u80::u81::u82::u83::u84::[]), defers := [] } W0 := by
 obtain rfl := Option.some.inj (ho.symm.trans (rfl : getOps Tryz.f11.body 14 = some _))
 clear ho
 replace hQ := A8 hQ
 obtain ⟨Iv, hI⟩ : ∃ Iv : (Nat → Bool) → Act → World → Prop, ∀ l a W, Iv l a W ↔ (∃ s69 s70 s71 s72 s73 s74 s75 s76 s77 : Value, a = { tmps := List.toArray (u0::.pointer (some ⟨bN, 0, none⟩)::u2::u3::u4::u5::.pointer (some ⟨bE, 0, none⟩)::u7::u8::u9::u10::u11::u12::u13::u14::u15::u16::u17::u18::u19::u20::u21::u22::u23::u24::u25::u26::u27::u28::u29::u30::u31::u32::u33::u34::u35::u36::u37::u38::u39::u40::u41::u42::u43::u44::u45::u46::u47::u48::u49::u50::u51::u52::u53::u54::u55::u56::u57::u58::u59::u60::u61::u62::u63::u64::u65::u66::u67::u68::s69::s70::s71::s72::s73::s74::s75::s76::s77::u78::u79::u80::u81::u82::u83::u84::[]), defers := [] } ∧ Mem w L R W ∧ Vs [(0, .pointer (some ⟨bE, 1, none⟩), s69), (1, .int .i64 s0, s70), (2, .pointer (some ⟨bN, 4, none⟩), s71), (3, .int .i64 ms, s72), (4, .int .i64 mq, s73), (5, .int .i64 pk, s74), (6, .int .i64 sa, s75), (7, .int .i64 s1, s76), (8, .pointer (some ⟨bE, 1, none⟩), s77)] l ∧ ((l 9 = false → Blk W bE #[v, .int .i64 s0] 60) ∧ (l 9 = true → Blk W bE #[v, .int .i64 s1] 60))) := ⟨_, fun _ _ _ => Iff.rfl⟩
 refine Ae Iv (by kernel_rfl) (by kernel_rfl) ((hI _ _ _).2 ⟨_, _, _, _, _, _, _, _, _, rfl, h0.out.tail.drew, Vs.zero, ⟨fun _ => h0.out.drew.blks _ List.mem_cons_self, fun h => off h⟩⟩) (Ab (k := 0) ?_ (Ab (k := 1) ?_ (Ab (k := 2) ?_ (Ab (k := 3) ?_ (Ab (k := 4) ?_ (Ab (k := 5) ?_ (Ab (k := 6) ?_ (Ab (k := 7) ?_ (Ab (k := 8) ?_ (Ab (k := 9) ?_ (Al))))))))))) ?_
 ·intro l a W hl hw hsh h K hK
  rw [hI] at h; iterate 9 obtain ⟨_, h⟩ := h
  obtain ⟨rfl, hC, hP, g⟩ := h
  go_simp
  apply hK.out; rw [hI]; iterate 9 apply Exists.intro
  exact ⟨rfl, hC, hP.put 0 rfl rfl rfl, g⟩
 ·intro l a W hl hw hsh h K hK
  rw [hI] at h; iterate 9 obtain ⟨_, h⟩ := h
  obtain ⟨rfl, hC, hP, g⟩ := h
  obtain rfl := hP.get 0 rfl (hw 0 (by kernel_rfl))
  have hst : l 9 = false := by
   cases hc : l 9 with
   | false => rfl
   | true => exact absurd (hsh 6 1 _ rfl (hsh 7 6 _ rfl (hsh 9 7 _ rfl (hc) (by kernel_rfl)) (by kernel_rfl)) (by kernel_rfl)) (by simp [hl])
  have x1 := ((g.1 hst).cell 1).trans (show _ = some (Value.int .i64 s0) from rfl)
  go_simp
  apply hK.out; rw [hI]; iterate 9 apply Exists.intro
  exact ⟨rfl, hC, hP.put 1 rfl rfl rfl, g⟩
 ·intro l a W hl hw hsh h K hK
  rw [hI] at h; iterate 9 obtain ⟨_, h⟩ := h
  obtain ⟨rfl, hC, hP, g⟩ := h
  go_simp
  apply hK.out; rw [hI]; iterate 9 apply Exists.intro
  exact ⟨rfl, hC, hP.put 2 rfl rfl rfl, g⟩
 ·intro l a W hl hw hsh h K hK
  rw [hI] at h; iterate 9 obtain ⟨_, h⟩ := h
  obtain ⟨rfl, hC, hP, g⟩ := h
  obtain rfl := hP.get 2 rfl (hw 2 (by kernel_rfl))
  have x1 := hN.out _ hC
  go_simp
  apply hK.out; rw [hI]; iterate 9 apply Exists.intro
  exact ⟨rfl, hC, hP.put 3 rfl rfl rfl, g⟩
 ·intro l a W hl hw hsh h K hK
  rw [hI] at h; iterate 9 obtain ⟨_, h⟩ := h
  obtain ⟨rfl, hC, hP, g⟩ := h
  obtain rfl := hP.get 3 rfl (hw 3 (by kernel_rfl))
  go_simp
  apply hK.out; rw [hI]; iterate 9 apply Exists.intro
  exact ⟨rfl, hC, hP.put 4 rfl rfl rfl, g⟩
 ·intro l a W hl hw hsh h K hK
  rw [hI] at h; iterate 9 obtain ⟨_, h⟩ := h
  obtain ⟨rfl, hC, hP, g⟩ := h
  obtain rfl := hP.get 4 rfl (hw 4 (by kernel_rfl))
  go_simp
  refine Calls.mono (PK.out W) ?_
  rintro e W2 ⟨rfl, hb⟩
  apply hK.out; rw [hI]; iterate 9 apply Exists.intro
  exact ⟨rfl, hC.call hb, hP.put 5 rfl rfl rfl, ⟨fun h => (g.1 h).below hb, fun h => (g.2 h).below hb⟩⟩
 ·intro l a W hl hw hsh h K hK
  rw [hI] at h; iterate 9 obtain ⟨_, h⟩ := h
  obtain ⟨rfl, hC, hP, g⟩ := h
  obtain rfl := hP.get 1 rfl (hw 1 (by kernel_rfl))
  obtain rfl := hP.get 5 rfl (hw 5 (by kernel_rfl))
  go_simp
  apply hK.out; rw [hI]; iterate 9 apply Exists.intro
  exact ⟨rfl, hC, hP.put 6 rfl rfl rfl, g⟩
 ·intro l a W hl hw hsh h K hK
  rw [hI] at h; iterate 9 obtain ⟨_, h⟩ := h
  obtain ⟨rfl, hC, hP, g⟩ := h
  obtain rfl := hP.get 6 rfl (hw 6 (by kernel_rfl))
  go_simp
  apply hK.out; rw [hI]; iterate 9 apply Exists.intro
  exact ⟨rfl, hC, hP.put 7 rfl rfl rfl, g⟩
 ·intro l a W hl hw hsh h K hK
  rw [hI] at h; iterate 9 obtain ⟨_, h⟩ := h
  obtain ⟨rfl, hC, hP, g⟩ := h
  go_simp
  apply hK.out; rw [hI]; iterate 9 apply Exists.intro
  exact ⟨rfl, hC, hP.put 8 rfl rfl rfl, g⟩
 ·intro l a W hl hw hsh h K hK
  rw [hI] at h; iterate 9 obtain ⟨_, h⟩ := h
  obtain ⟨rfl, hC, hP, g⟩ := h
  obtain rfl := hP.get 7 rfl (hw 7 (by kernel_rfl))
  obtain rfl := hP.get 8 rfl (hw 8 (by kernel_rfl))
  have x1 := (g.1 hl).cell 1
  have x2 := (g.1 hl).frozen 1
  go_simp
  apply hK.out; rw [hI]; iterate 9 apply Exists.intro
  exact ⟨rfl, h0.out.off hC (g.1 hl) 1 _, hP.skip 9 rfl, ⟨fun h => off h.symm, fun _ => (g.1 hl).set 1 _⟩⟩
 ·intro a W hI'
  have h := (hI _ _ _).1 hI'; clear hI'; iterate 9 obtain ⟨_, h⟩ := h
  obtain ⟨rfl, hC, hP, g⟩ := h
  exact hQ.out _ _ _ _ _ _ _ _ _ _ (h0.out.join hC (g.2 (by kernel_rfl)))
theorem NumL.sum_small (x : NumL) (i : Nat) {k : Nat} (hk : k ≤ 8) : -360 ≤ x.sum i k ∧ x.sum i k ≤ 360 := by
 obtain ⟨h1, h2⟩ := x.sum_bd i k
 omega
theorem made_l2 {Q : Exit → Act → World → Prop} {u0 u2 u4 u8 u9 u10 u11 u12 u13 u14 u15 u16 u17 u18 u19 u20 u21 u22 u23 u24 u25 u26 u27 u28 u29 u30 u31 u32 u33 u34 u35 u36 u37 u38 u39 u40 u41 u42 u43 u44 u45 u46 u47 u48 u49 u50 u51 u52 u53 u54 u55 u56 u57 u58 u59 u60 u61 u62 u63 u64 u65 u66 u67 u68 u69 u70 u71 u72 u73 u74 u75 u76 u77 u78 u79 u80 u81 u82 u83 u84 : Value} {x : NumL} {bN bS bE i c : Nat} {cv hv : Value} {w W0 : World} {L : BLs} {R : List RowD} (hc : Hid (c = x.c)) (hi : Hid (i ≤ 5)) (hN : Hid (∀ W, Mem w L R W → W.cell? ⟨bN, 2, none⟩ = some cv ∧ W.cell? ⟨bN, 3, none⟩ = some hv)) (hS : Hid (∀ W, Mem w L R W → W.cell? ⟨bS, 0, none⟩ = some (.int .i64 c)))
  (AC : Hid (∀ W, Mem w L R W → ∀ k : Nat, Calls Tryz.prog 36 #[cv, .int .i64 k] W (Rets W (.int .i64 (atv x.coefs k))))) (AH : Hid (∀ W, Mem w L R W → ∀ k : Nat, Calls Tryz.prog 36 #[hv, .int .i64 k] W (Rets W (.int .i64 (atv x.hidden k))))) (hf : Hid (∀ k, Fits (atv x.coefs k) ∧ Fits (atv x.hidden k))) (h0 : Hid (Mem w ((bE, #[.slice none 0 0, .int .i64 0], 60) :: L) R W0)) {body : Code} (hbody : getLoop Tryz.f11.body 2 = some body)
  (hQ : ∀ (vf : Value) (v7 v8 v24 v25 v26 v27 v28 v29 v30 v31 v32 v33 v34 v35 v36 v37 v38 v39 v40 v41 v42 v43 v44 v45 v46 v47 v48 v49 v50 v51 v52 v53 v54 v55 v56 v57 : Value) (W' : World), Hid (Mem w ((bE, #[vf, .int .i64 (x.sum i c)], 60) :: L) (⟨3, 1, vf, c, ((List.range c).map fun k => Value.int .i64 (x.coef i k))⟩ :: R) W') → Q (.exit 2) { tmps := List.toArray (u0::.pointer (some ⟨bN, 0, none⟩)::u2::.pointer (some ⟨bS, 0, none⟩)::u4::.int .i64 i::.pointer (some ⟨bE, 0, none⟩)::v7::v8::u9::u10::u11::u12::u13::u14::u15::u16::u17::u18::u19::u20::u21::u22::u23::v24::v25::v26::v27::v28::v29::v30::v31::v32::v33::v34::v35::v36::v37::v38::v39::v40::v41::v42::v43::v44::v45::v46::v47::v48::v49::v50::v51::v52::v53::v54::v55::v56::v57::u58::u59::u60::u61::u62::u63::u64::u65::u66::u67::u68::u69::u70::u71::u72::u73::u74::u75::u76::u77::u78::u79::u80::u81::u82::u83::u84::[]), defers := [] } W') :
  (Code.loop body).wp Tryz.prog Q { tmps := List.toArray (u0::.pointer (some ⟨bN, 0, none⟩)::u2::.pointer (some ⟨bS, 0, none⟩)::u4::.int .i64 i::.pointer (some ⟨bE, 0, none⟩)::.int .i64 0::u8::u9::u10::u11::u12::u13::u14::u15::u16::u17::u18::u19::u20::u21::u22::u23::u24::u25::u26::u27::u28::u29::u30::u31::u32::u33::u34::u35::u36::u37::u38::u39::u40::u41::u42::u43::u44::u45::u46::u47::u48::u49::u50::u51::u52::u53::u54::u55::u56::u57::u58::u59::u60::u61::u62::u63::u64::u65::u66::u67::u68::u69::u70::u71::u72::u73::u74::u75::u76::u77::u78::u79::u80::u81::u82::u83::u84::[]), defers := [] } W0 := by
 obtain rfl := Option.some.inj (hbody.symm.trans (rfl : getLoop Tryz.f11.body 2 = some _))
 clear hbody
 replace hQ := A8 hQ
 go_loopw [7] (fun s wr => ∃ (j : Nat) (v : Value), s = .int .i64 j ∧ j ≤ c ∧ Hid (Mem w ((bE, #[v, .int .i64 (x.sum i j)], 60) :: L) (⟨3, 1, v, j, ((List.range j).map fun k => Value.int .i64 (x.coef i k))⟩ :: R) wr)) (fun s _ => c - (intOf s).toNat)
 case atStart => exact ⟨0, .slice none 0 0, rfl, by omega, A8 (h0.out.row0 3 1)⟩
 case round =>
  clear h0
  obtain ⟨j, v, rfl, hj, hM⟩ := hrel
  have y0 := hS.out _ hM.out.tail.rtail
  by_cases hjc : j < c
  case neg =>
   have hjc' : ¬ (j : Int) < c := by omega
   obtain rfl : j = c := by omega
   go_wp2_with fail
   exact hQ.out v _ _ _ _ _ _ _ _ _ _ _ _ _ _ _ _ _ _ _ _ _ _ _ _ _ _ _ _ _ _ _ _ _ _ _ _ _ hM
  case pos =>
   have hjc' : (j : Int) < c := by omega
   obtain ⟨y1, _⟩ := hN.out _ hM.out.tail.rtail
   have hcb := x.c_eq
   have hcc := hc.out
   have hii := hi.out
   have hic : i * c ≤ 40 := Nat.le_trans (Nat.mul_le_mul hii (show c ≤ 8 by omega)) (by decide)
   obtain ⟨ic, hic1⟩ : ∃ z, z = i * c := ⟨_, rfl⟩
   have hw1 : IntKind.i64.wrap ((i : Int) * c) = (ic : Int) := by rw [hic1, IntWalk.i64_in _ (by rw [← Int.natCast_mul]; omega)]; simp
   obtain ⟨ij, hij⟩ : ∃ z, z = ic + j := ⟨_, rfl⟩
   have hw2 : IntKind.i64.wrap ((ic : Int) + j) = (ij : Int) := by rw [hij, IntWalk.i64_in _ (by omega)]; simp
   have hco : pkv (atv x.coefs ij) 19 - 9 = x.coef i j := by unfold NumL.coef; rw [hij, hic1, hcc]
   have hcbd := x.coef_bd i j
   have hhbd := x.hid_bd j
   have hpbd := x.prod_bd i j
   have hs0 := x.sum_small i (k := j) (by omega)
   have hs1 := x.sum_small i (k := j + 1) (by omega)
   have hse : x.sum i (j + 1) = x.sum i j + x.coef i j * x.hid j := rfl
   have hxs : ((List.range (j + 1)).map fun k => Value.int .i64 (x.coef i k)) = ((List.range j).map fun k => Value.int .i64 (x.coef i k)) ++ [.int .i64 (x.coef i j)] := by rw [List.range_succ, List.map_append]; rfl
   have hhd : pkv (atv x.hidden j) 6 = x.hid j := rfl
   obtain ⟨fa, fh⟩ : Fits (atv x.coefs ij) ∧ Fits (atv x.hidden j) := ⟨(hf.out ij).1, (hf.out j).2⟩
   obtain ⟨co, hcoe⟩ : ∃ z, z = x.coef i j := ⟨_, rfl⟩
   have hw3 : IntKind.i64.wrap (pkv (atv x.coefs ij) 19 - 9) = co := by rw [hco, hcoe]; exact IntWalk.i64_in _ (by omega)
   have C1 := A8 (AC.out _ hM.out.tail.rtail ij)
   have P1 := A8 (fun W => AB (atv x.coefs ij) 19 fa (by decide) (by decide) W)
   have P2 := A8 (fun W => by have := AB (atv x.hidden j) 6 fh (by decide) (by decide) W; rwa [hhd] at this)
   have hpr : IntKind.i64.wrap (co * x.hid j) = x.coef i j * x.hid j := by rw [hcoe]; exact IntWalk.i64_in _ (by omega)
   have hsm : IntKind.i64.wrap (x.sum i j + x.coef i j * x.hid j) = x.sum i (j + 1) := by rw [hse]; exact IntWalk.i64_in _ (by omega)
   rw [← hcoe] at hxs
   have hxs' := A8 hxs
   have hj8 : j ≤ 8 := by omega
   generalize pkv (atv x.coefs ij) 19 = p1 at *
   generalize atv x.coefs ij = a1 at *
   clear hic hic1 hij hco hcbd hhbd hpbd hs0 hs1 hse hxs hhd fa fh hcc hcoe hcb hii
   replace hpr := A8 hpr
   replace hsm := A8 hsm
   go_wp2_with fail
   refine Calls.mono C1.out ?_
   rintro e w1 ⟨rfl, hb⟩
   replace hM := A8 (hM.out.call hb)
   clear y0 y1 hb
   go_wp2_with fail
   refine Calls.mono (P1.out _) ?_
   rintro e w2 ⟨rfl, hb⟩
   replace hM := A8 (hM.out.call hb)
   clear hb
   have y2 := hM.out.cell bE _ _ (.head _) 0
   go_upto_region 12 with (at_builtin; refine HG rfl rfl (hM.out.new _) rfl rfl ((Blk.new _ _ _).cell 0) (by omega) ?_; intro g2 c2 W8 hM8; have y3 := hM8.cell bE _ _ (.head _) 0; have y4 := hM8.frozen bE _ _ (.head _) 0; replace hM8 := hM8.put0 0 (.slice (some ⟨g2, 0, none⟩) (j + 1) c2))
   refine Ll (bN := bN) (bE := bE) (hv := hv) (w := w) (L := L) (R := ⟨3, 1, _, j + 1, ((List.range j).map fun k => Value.int .i64 (x.coef i k)) ++ [.int .i64 co]⟩ :: R) (j := j) (co := co) (at_ := atv x.hidden j) (hd := x.hid j) (pr := x.coef i j * x.hid j) (s0 := x.sum i j) (s1 := x.sum i (j + 1)) hpr.out hsm.out (A8 fun W hW => (hN.out W hW.rtail).2) (A8 fun W hW => AH.out W hW.rtail j) P2 (A8 (by assumption)) (by kernel_rfl) ?_
   intro z47 z48 z49 z50 z51 z52 z53 z54 z55 z56 z57 W9 hM9
   rw [← hxs'.out] at hM9
   go_wp2_with fail
   go_roundw
   case rel => exact ⟨j + 1, _, by go_num, by omega, A8 hM9⟩
   case measure => simp [intOf]; omega
theorem made_l0 {Q : Exit → Act → World → Prop} {u0 u2 u6 u7 u8 u9 u10 u11 u12 u13 u14 u15 u16 u17 u18 u19 u20 u21 u22 u23 u24 u25 u26 u27 u28 u29 u30 u31 u32 u33 u34 u35 u36 u37 u38 u39 u40 u41 u42 u43 u44 u45 u46 u47 u48 u49 u50 u51 u52 u53 u54 u55 u56 u57 u58 u59 u60 u61 u62 u63 u64 u65 u66 u67 u68 u69 u70 u71 u72 u73 u74 u75 u76 u77 u78 u79 u80 u81 u82 u83 u84 : Value} {x : NumL} {bN bS r c : Nat} {ac ah : Option Addr} {nc cc nh ch : Nat} {w W0 : World} {L : BLs} {R : List RowD} (hc : Hid (c = x.c)) (hr : Hid (r = x.r)) (hN : Hid ((bN, #[.int .i64 x.cols, .int .i64 x.rows, .slice ac nc cc, .slice ah nh ch, .int .i64 x.miss], 24) ∈ L))
  (AC : Hid (∀ W, Below w.heap.size w W → ∀ k : Nat, Calls Tryz.prog 36 #[.slice ac nc cc, .int .i64 k] W (Rets W (.int .i64 (atv x.coefs k))))) (AH : Hid (∀ W, Below w.heap.size w W → ∀ k : Nat, Calls Tryz.prog 36 #[.slice ah nh ch, .int .i64 k] W (Rets W (.int .i64 (atv x.hidden k))))) (hf : Hid (∀ k, Fits (atv x.coefs k) ∧ Fits (atv x.hidden k))) (hm : Hid (Fits x.miss)) (h0 : Hid (Mem w ((bS, #[.int .i64 c, .slice none 0 0], 27) :: L) R W0)) {body : Code} (hbody : getLoop Tryz.f11.body 0 = some body)
  (hQ : ∀ (fs : BLs) (sv : Value) (xs : List Value) (v5 v6 v7 v8 v18 v19 v20 v21 v22 v23 v24 v25 v26 v27 v28 v29 v30 v31 v32 v33 v34 v35 v36 v37 v38 v39 v40 v41 v42 v43 v44 v45 v46 v47 v48 v49 v50 v51 v52 v53 v54 v55 v56 v57 v58 v59 v60 v61 v62 v63 v64 v65 v66 v67 v68 v69 v70 v71 v72 v73 v74 v75 v76 v77 v78 v79 v80 v81 v82 v83 : Value) (W' : World), Hid (Mem w ((bS, #[.int .i64 c, sv], 27) :: (fs ++ L)) (⟨60, 2, sv, r, xs⟩ :: R) W' ∧ EqsAt fs ((List.range r).map x.row) xs) → Q (.exit 0) { tmps := List.toArray (u0::.pointer (some ⟨bN, 0, none⟩)::u2::.pointer (some ⟨bS, 0, none⟩)::.int .i64 r::v5::v6::v7::v8::u9::u10::u11::u12::u13::u14::u15::u16::u17::v18::v19::v20::v21::v22::v23::v24::v25::v26::v27::v28::v29::v30::v31::v32::v33::v34::v35::v36::v37::v38::v39::v40::v41::v42::v43::v44::v45::v46::v47::v48::v49::v50::v51::v52::v53::v54::v55::v56::v57::v58::v59::v60::v61::v62::v63::v64::v65::v66::v67::v68::v69::v70::v71::v72::v73::v74::v75::v76::v77::v78::v79::v80::v81::v82::v83::u84::[]), defers := [] } W') :
  (Code.loop body).wp Tryz.prog Q { tmps := List.toArray (u0::.pointer (some ⟨bN, 0, none⟩)::u2::.pointer (some ⟨bS, 0, none⟩)::.int .i64 r::.int .i64 0::u6::u7::u8::u9::u10::u11::u12::u13::u14::u15::u16::u17::u18::u19::u20::u21::u22::u23::u24::u25::u26::u27::u28::u29::u30::u31::u32::u33::u34::u35::u36::u37::u38::u39::u40::u41::u42::u43::u44::u45::u46::u47::u48::u49::u50::u51::u52::u53::u54::u55::u56::u57::u58::u59::u60::u61::u62::u63::u64::u65::u66::u67::u68::u69::u70::u71::u72::u73::u74::u75::u76::u77::u78::u79::u80::u81::u82::u83::u84::[]), defers := [] } W0 := by
 obtain rfl := Option.some.inj (hbody.symm.trans (rfl : getLoop Tryz.f11.body 0 = some _))
 clear hbody
 replace hQ := A8 hQ
 go_loopw [5] (fun s wr => ∃ (i : Nat) (fs : BLs) (sv : Value) (xs : List Value), s = .int .i64 i ∧ i ≤ r ∧ Hid (Mem w ((bS, #[.int .i64 c, sv], 27) :: (fs ++ L)) (⟨60, 2, sv, i, xs⟩ :: R) wr ∧ EqsAt fs ((List.range i).map x.row) xs)) (fun s _ => r - (intOf s).toNat)
 case atStart => exact ⟨0, [], .slice none 0 0, [], rfl, by omega, A8 ⟨h0.out.row0 60 2, EqsAt.nil _⟩⟩
 case round =>
  clear h0
  obtain ⟨i, fs, sv, xs, rfl, hi, hM⟩ := hrel
  by_cases hir : i < r
  case neg =>
   have hir' : ¬ (i : Int) < r := by omega
   obtain rfl : i = r := by omega
   go_wp2_with fail
   exact hQ.out fs sv xs _ _ _ _ _ _ _ _ _ _ _ _ _ _ _ _ _ _ _ _ _ _ _ _ _ _ _ _ _ _ _ _ _ _ _ _ _ _ _ _ _ _ _ _ _ _ _ _ _ _ _ _ _ _ _ _ _ _ _ _ _ _ _ _ _ _ _ _ _ _ _ hM
  case pos =>
   have hir' : (i : Int) < r := by omega
   obtain ⟨W1, eW, hM1, hB⟩ := hM.out.1.add' #[.slice none 0 0, .int .i64 0] 60
   have hE := A8 hM.out.2
   obtain ⟨B, eB⟩ : ∃ B, B = wr.heap.size := ⟨_, rfl⟩
   rw [← eB] at hM1 hB
   go_upto_region 7 with fail
   rw [← eW, ← eB]
   replace hM1 := A8 hM1
   clear hM eW hB eB
   go_wp2_with fail
   refine made_l2 (x := x) (bN := bN) (bS := bS) (bE := B) (i := i) (c := c) (cv := .slice ac nc cc) (hv := .slice ah nh ch) (w := w) (L := (bS, #[.int .i64 c, sv], 27) :: (fs ++ L)) (R := ⟨60, 2, sv, i, xs⟩ :: R) hc (A8 (by have := x.r_eq; have := hr.out; omega)) (A8 fun W hW => ⟨hW.cell _ _ _ (List.mem_cons_of_mem _ (List.mem_append_right _ hN.out)) 2, hW.cell _ _ _ (List.mem_cons_of_mem _ (List.mem_append_right _ hN.out)) 3⟩) (A8 fun W hW => hW.cell _ _ _ List.mem_cons_self 0) (A8 fun W hW k => AC.out W hW.below k) (A8 fun W hW k => AH.out W hW.below k) hf hM1 (by kernel_rfl) ?_
   intro vf u7 u8 u24 u25 u26 u27 u28 u29 u30 u31 u32 u33 u34 u35 u36 u37 u38 u39 u40 u41 u42 u43 u44 u45 u46 u47 u48 u49 u50 u51 u52 u53 u54 u55 u56 u57 W2 hM2
   clear hM1
   have hxs : ((List.range c).map fun k => Value.int .i64 (x.coef i k)) = ((List.range c).map (x.coef i)).map (Value.int .i64) := by rw [List.map_map]; rfl
   rw [hxs] at hM2
   clear hxs
   have hlen : ((List.range c).map (x.coef i)).length = c := by simp
   obtain ⟨gs, hin, hM3⟩ := hM2.out.freezeI (l := (List.range c).map (x.coef i)) hlen.symm
   obtain ⟨av, cp, rfl⟩ := hin.shape
   rw [hlen] at hin hM3 hM2
   clear hM2 hlen
   replace hin := A8 hin
   have hM3 := A8 hM3
   have hrb := x.r_eq
   have hrr := hr.out
   have hi5 : i ≤ 5 := by omega
   have hr5 : r ≤ 5 := by omega
   replace hrr := A8 hrr
   clear hrb
   have hre : Hid ((List.range (i + 1)).map x.row = (List.range i).map x.row ++ [((List.range c).map (x.coef i), x.val i)]) := A8 (by rw [List.range_succ, List.map_append, hc.out]; rfl)
   have hval : Hid (x.val i = if x.hit i then x.sum i c + pkv (x.miss.tdiv 30) 41 - 20 else x.sum i c) := A8 (by unfold NumL.val; rw [hc.out])
   have hsb := x.sum_small i (k := c) (by have := x.c_eq; have := hc.out; omega)
   have hmb := hm.out
   unfold Fits at hmb
   have hmem : Hid (∀ V, (bN, #[.int .i64 x.cols, .int .i64 x.rows, .slice ac nc cc, .slice ah nh ch, .int .i64 x.miss], 24) ∈ (gs ++ (B, #[.slice av c cp, .int .i64 V], 60) :: (bS, #[.int .i64 c, sv], 27) :: (fs ++ L) : BLs)) := A8 (fun V => List.mem_append_right _ (List.mem_cons_of_mem _ (List.mem_cons_of_mem _ (List.mem_append_right _ hN.out))))
   generalize x.sum i c = s0 at *
   have z0 := hM3.out.cell _ _ _ (hmem.out _) 0
   have z1 := hM3.out.cell _ _ _ (hmem.out _) 1
   have z2 := hM3.out.cell _ _ _ (hmem.out _) 2
   have z3 := hM3.out.cell _ _ _ (hmem.out _) 3
   have z4 := hM3.out.cell _ _ _ (hmem.out _) 4
   have MS := A8 (fun W => Iy x.cols x.rows x.miss (.slice ac nc cc) (.slice ah nh ch) _ _ _ _ _ _ rfl rfl hm.out W)
   have hmd : Fits (x.miss.tdiv 3) := (tdivL3 hm.out).1
   have hmd2 : Fits (x.miss.tdiv 30) := (tdivL30 hm.out).1
   have hq1 : IntKind.i64.wrap (x.miss.tdiv 3) = x.miss.tdiv 3 := (tdivL3 hm.out).2
   have hq2 : IntKind.i64.wrap (x.miss.tdiv 30) = x.miss.tdiv 30 := (tdivL30 hm.out).2
   cases hmis : pkv x.miss 3 == 2
   case false =>
    have hv : Hid (x.val i = s0) := A8 (by rw [hval.out]; unfold NumL.hit NumL.misses; rw [hmis]; rfl)
    rw [hmis] at MS
    clear hmis hval
    go_wp2_with fail
    refine Calls.mono (MS.out _) ?_
    rintro e w3 ⟨rfl, hb⟩
    have hM3 := A8 (hM3.out.call hb)
    clear hb z0 z1 z2 z3 z4 hq1 hq2 hmd hmd2
    have hM6 := A8 (hM3.out.front2)
    have y0 := (hM3.out.cell _ _ _ (List.mem_append_right _ List.mem_cons_self) 0).trans (show _ = some (Value.slice av c cp) from rfl)
    have y1 := (hM3.out.cell _ _ _ (List.mem_append_right _ List.mem_cons_self) 1).trans (show _ = some (Value.int .i64 (s0)) from rfl)
    have y2 := (hM6.out.cell _ _ _ List.mem_cons_self 1).trans (show _ = some sv from rfl)
    clear hM3
    go_upto_region 5 with (at_builtin; refine Ce rfl rfl (hM6.out.new _) rfl rfl ((Blk.new _ _ _).cell 0) ((Blk.new _ _ _).cell 1) rfl rfl (by omega) ?_; intro g2 c2 W8 hM8; have q0 := hM8.cell bS _ _ (.head _) 1; have q1 := hM8.frozen bS _ _ (.head _) 1; replace hM8 := hM8.put0 1 (.slice (some ⟨g2, 0, none⟩) (i + 1) c2))
    go_wp2_with fail
    go_roundw
    case rel => exact ⟨i + 1, gs ++ fs, _, _, by go_num, by omega, A8 ⟨by rw [List.append_assoc]; assumption, by rw [hre.out, hv.out]; exact hE.out.snoc (hin.out.mono (fun p hp => List.mem_append_left _ hp)) (fun p hp => List.mem_append_right _ hp)⟩⟩
    case measure => simp [intOf]; omega
   case true =>
    have P3 := A8 (fun W => AB (x.miss.tdiv 3) r hmd (by omega) (by omega) W)
    have P4 := A8 (fun W => AB (x.miss.tdiv 30) 41 hmd2 (by decide) (by decide) W)
    have hp1 := AG (c := x.miss.tdiv 30) (m := 41) (by decide)
    have hp2 := Ck (c := x.miss.tdiv 30) (m := 41) (by decide)
    have hhit : Hid (x.hit i = ((i : Int) == pkv (x.miss.tdiv 3) r)) := A8 (by unfold NumL.hit NumL.misses; rw [hmis, hrr.out]; rfl)
    rw [hmis] at MS
    clear hmis
    generalize pkv (x.miss.tdiv 3) r = p3 at *
    generalize pkv (x.miss.tdiv 30) 41 = p4 at *
    go_wp2_with fail
    refine Calls.mono (MS.out _) ?_
    rintro e w3 ⟨rfl, hb⟩
    have hM3 := A8 (hM3.out.call hb)
    clear hb z0 z1 z2 z3 z4
    have z4 := hM3.out.cell _ _ _ (hmem.out _) 4
    go_wp2_with fail
    refine Calls.mono (P3.out _) ?_
    rintro e w4 ⟨rfl, hb⟩
    have hM3 := A8 (hM3.out.call hb)
    clear hb z4
    cases heq : (i : Int) == p3
    case false =>
     have hv : Hid (x.val i = s0) := A8 (by rw [hval.out, hhit.out, heq]; rfl)
     clear hval hhit
     have hM6 := A8 (hM3.out.front2)
     have y0 := (hM3.out.cell _ _ _ (List.mem_append_right _ List.mem_cons_self) 0).trans (show _ = some (Value.slice av c cp) from rfl)
     have y1 := (hM3.out.cell _ _ _ (List.mem_append_right _ List.mem_cons_self) 1).trans (show _ = some (Value.int .i64 (s0)) from rfl)
     have y2 := (hM6.out.cell _ _ _ List.mem_cons_self 1).trans (show _ = some sv from rfl)
     clear hM3
     go_upto_region 5 with (at_builtin; refine Ce rfl rfl (hM6.out.new _) rfl rfl ((Blk.new _ _ _).cell 0) ((Blk.new _ _ _).cell 1) rfl rfl (by omega) ?_; intro g2 c2 W8 hM8; have q0 := hM8.cell bS _ _ (.head _) 1; have q1 := hM8.frozen bS _ _ (.head _) 1; replace hM8 := hM8.put0 1 (.slice (some ⟨g2, 0, none⟩) (i + 1) c2))
     go_wp2_with fail
     go_roundw
     case rel => exact ⟨i + 1, gs ++ fs, _, _, by go_num, by omega, A8 ⟨by rw [List.append_assoc]; assumption, by rw [hre.out, hv.out]; exact hE.out.snoc (hin.out.mono (fun p hp => List.mem_append_left _ hp)) (fun p hp => List.mem_append_right _ hp)⟩⟩
     case measure => simp [intOf]; omega
    case true =>
     have hv : Hid (x.val i = s0 + p4 - 20) := A8 (by rw [hval.out, hhit.out, heq]; rfl)
     clear hval hhit
     go_upto_region 14 with fail
     refine Lm (bN := bN) (bE := B) (v := .slice av c cp) (w := w) (L := gs ++ (bS, #[.int .i64 c, sv], 27) :: (fs ++ L)) (R := ⟨60, 2, sv, i, xs⟩ :: R) (ms := x.miss) (mq := x.miss.tdiv 30) (pk := p4) (sa := s0 + p4) (s0 := s0) (s1 := s0 + p4 - 20) hq2 (IntWalk.i64_in _ (by omega)) (IntWalk.i64_in _ (by omega)) (A8 fun W hW => hW.cell _ _ _ (List.mem_append_right _ (List.mem_cons_of_mem _ (List.mem_append_right _ hN.out))) 4) P4 (A8 hM3.out.front) (by kernel_rfl) ?_
     intro z69 z70 z71 z72 z73 z74 z75 z76 z77 W5 hM5
     have hM3 := A8 hM5
     clear hM5
     have hM6 := A8 (hM3.out.tail.front)
     have y0 := (hM3.out.cell _ _ _ List.mem_cons_self 0).trans (show _ = some (Value.slice av c cp) from rfl)
     have y1 := (hM3.out.cell _ _ _ List.mem_cons_self 1).trans (show _ = some (Value.int .i64 (s0 + p4 - 20)) from rfl)
     have y2 := (hM6.out.cell _ _ _ List.mem_cons_self 1).trans (show _ = some sv from rfl)
     clear hM3
     go_upto_region 5 with (at_builtin; refine Ce rfl rfl (hM6.out.new _) rfl rfl ((Blk.new _ _ _).cell 0) ((Blk.new _ _ _).cell 1) rfl rfl (by omega) ?_; intro g2 c2 W8 hM8; have q0 := hM8.cell bS _ _ (.head _) 1; have q1 := hM8.frozen bS _ _ (.head _) 1; replace hM8 := hM8.put0 1 (.slice (some ⟨g2, 0, none⟩) (i + 1) c2))
     go_wp2_with fail
     go_roundw
     case rel => exact ⟨i + 1, gs ++ fs, _, _, by go_num, by omega, A8 ⟨by rw [List.append_assoc]; assumption, by rw [hre.out, hv.out]; exact hE.out.snoc (hin.out.mono (fun p hp => List.mem_append_left _ hp)) (fun p hp => List.mem_append_right _ hp)⟩⟩
     case measure => simp [intOf]; omega
theorem Ln (x : NumL) (vc vh : Value) (w : World) (hc : Sl w vc x.coefs) (hh : Sl w vh x.hidden) (hF : Fits x.cols ∧ Fits x.rows ∧ Fits x.miss) (hf : ∀ k, Fits (atv x.coefs k) ∧ Fits (atv x.hidden k)) :
  Calls Tryz.prog 11 #[.agg #[.int .i64 x.cols, .int .i64 x.rows, vc, vh, .int .i64 x.miss]] w fun e w' => ∃ v, e = .returned (.agg #[.int .i64 x.c, v]) ∧ SlE w' v x.made ∧ Below w.heap.size w w' := by
 obtain ⟨ac, cc, rfl⟩ := hc.shape
 obtain ⟨ah, ch, rfl⟩ := hh.shape
 have HC := A8 hc
 have HH := A8 hh
 have AC := A8 (fun W (hW : Below w.heap.size w W) (k : Nat) => Ej (.slice ac x.coefs.length cc) x.coefs k W (HC.out.below hW))
 have AH := A8 (fun W (hW : Below w.heap.size w W) (k : Nat) => Ej (.slice ah x.hidden.length ch) x.hidden k W (HH.out.below hW))
 replace hf := A8 hf
 have hm := A8 hF.2.2
 have P1 := A8 (fun W => AB x.cols 8 hF.1 (by decide) (by decide) W)
 have P2 := A8 (fun W => AB x.rows 5 hF.2.1 (by decide) (by decide) W)
 have hcq := x.c_eq
 have hrq := x.r_eq
 obtain ⟨c, hc0⟩ : ∃ c, c = x.c := ⟨_, rfl⟩
 obtain ⟨r, hr0⟩ : ∃ r, r = x.r := ⟨_, rfl⟩
 rw [← hc0] at hcq
 rw [← hr0] at hrq
 have hw1 : IntKind.i64.wrap (1 + pkv x.cols 8) = (c : Int) := by rw [← hcq.1]; exact IntWalk.i64_in _ (by omega)
 have hw2 : IntKind.i64.wrap (1 + pkv x.rows 5) = (r : Int) := by rw [← hrq.1]; exact IntWalk.i64_in _ (by omega)
 have hmade : Hid ((List.range r).map x.row = x.made) := A8 (by rw [hr0]; rfl)
 rw [← hc0]
 replace hc0 := A8 hc0
 replace hr0 := A8 hr0
 generalize pkv x.cols 8 = p1 at *
 generalize pkv x.rows 5 = p2 at *
 clear hc hh hF hcq hrq
 generalize x.coefs.length = nc at *
 generalize x.hidden.length = nh at *
 obtain ⟨V1, e1, S1, s1⟩ := (Mem.start w).add' #[.int .i64 x.cols, .int .i64 x.rows, .slice ac nc cc, .slice ah nh ch, .int .i64 x.miss] 24
 obtain ⟨V2, e2, S2, s2⟩ := S1.add' #[.int .i64 0, .slice none 0 0] 27
 rw [s1] at S2
 rw [e1] at e2
 have hM := A8 S2
 have z0 := S2.cell w.heap.size _ _ (.tail _ (.head _)) 0
 have z1 := S2.cell w.heap.size _ _ (.tail _ (.head _)) 1
 clear e1 S1 s1 S2 s2 HC HH
 go_enter Tryz.func11, Tryz.ntmps11
 go_upto_region 1 with fail
 rw [← e2]
 clear e2
 go_wp2_with fail
 refine Calls.mono (P1.out _) ?_
 rintro e w1 ⟨rfl, hb⟩
 replace hM := A8 (hM.out.call hb)
 clear z0 z1 hb
 obtain ⟨V3, e3, S3, s3⟩ := hM.out.add' #[.int .i64 c, .slice none 0 0] 27
 have z1 := S3.cell w.heap.size _ _ (.tail _ (.tail _ (.head _))) 1
 obtain ⟨B, hB⟩ : ∃ B, B = w1.heap.size := ⟨_, rfl⟩
 rw [← hB] at S3
 replace hM := A8 S3
 clear S3 s3
 go_upto_region 2 with fail
 rw [← e3, ← hB]
 clear e3 hB
 go_wp2_with fail
 refine Calls.mono (P2.out _) ?_
 rintro e w2 ⟨rfl, hb⟩
 replace hM := A8 (hM.out.call hb)
 clear z1 hb
 go_wp2_with fail
 refine made_l0 (x := x) (bN := w.heap.size) (bS := B) (r := r) (c := c) (ac := ac) (ah := ah) (nc := nc) (cc := cc) (nh := nh) (ch := ch) (w := w) (L := [(w.heap.size + 1, #[.int .i64 0, .slice none 0 0], 27), (w.heap.size, #[.int .i64 x.cols, .int .i64 x.rows, .slice ac nc cc, .slice ah nh ch, .int .i64 x.miss], 24)]) (R := []) hc0 hr0 (A8 (.tail _ (.head _))) AC AH hf hm hM (by kernel_rfl) ?_
 clear hM
 intro fs sv xs _ _ _ _ _ _ _ _ _ _ _ _ _ _ _ _ _ _ _ _ _ _ _ _ _ _ _ _ _ _ _ _ _ _ _ _ _ _ _ _ _ _ _ _ _ _ _ _ _ _ _ _ _ _ _ _ _ _ _ _ _ _ _ _ _ _ _ _ _ _ W3 hM
 have hF := Mem.front (A := (B, #[.int .i64 c, sv], 27) :: fs) (C := [(w.heap.size, #[.int .i64 x.cols, .int .i64 x.rows, .slice ac nc cc, .slice ah nh ch, .int .i64 x.miss], 24)]) hM.out.1
 have hrl : r = x.made.length := by rw [x.made_len]; exact hr0.out
 have hq := hM.out.2
 rw [hmade.out] at hq
 obtain ⟨a, cp, hsv⟩ := (hq.slE hM.out.1 hrl (fun p hp => List.mem_cons_of_mem _ (List.mem_append_left _ hp))).shape
 have hO := hF.out2 (.int .i64 c) sv
 have hsl := A8 (hq.slE hO hrl (fun p hp => List.mem_cons_of_mem _ (List.mem_append_left _ (List.mem_cons_of_mem _ hp))))
 have hfin := A8 hO.below
 obtain ⟨k0, k1, f0, f1, y0, y1⟩ := Gd (hF.blks _ List.mem_cons_self) (.int .i64 c) sv
 have z0 := (hM.out.1.cell _ _ _ List.mem_cons_self 0).trans (show _ = some (Value.int .i64 c) from rfl)
 have z1 := (hM.out.1.cell _ _ _ List.mem_cons_self 1).trans (show _ = some sv from rfl)
 clear hM hF hO hq
 generalize x.made.length = nm at *
 subst hsv
 replace hrl := A8 hrl
 clear hw1 hw2
 go_wp2
 exact bodyPost_ret (v := .agg #[.int .i64 c, .slice a nm cp]) (by simp [results, Tryz.results11, go_sem, y0, y1]) rfl ⟨_, rfl, hsl.out, hfin.out⟩
theorem same13 {W : World} {v u : Value} (h1 : SlS W v [⟨#[49]⟩, ⟨#[51]⟩]) (h2 : SlS W u [⟨#[49]⟩, ⟨#[51]⟩]) : Calls Tryz.prog 26 #[.agg #[v, .string ⟨#[52]⟩], .agg #[u, .string ⟨#[52]⟩]] W (Rets W (.bool true)) := by
 have := KM v u _ _ ⟨#[52]⟩ ⟨#[52]⟩ W h1 h2
 simpa using this
theorem val11 {W : World} {v : Value} (h : SlE W v (twoL 1 1)) : Calls Tryz.prog 15 #[.agg #[.int .i64 2, v]] W (Rets W (.bool true)) := by
 have := BF 2 v (twoL 1 1) W h
 rwa [vl11] at this
theorem val65 (W : World) : Calls Tryz.prog 15 #[.agg #[.int .i64 65, .slice none 0 0]] W (Rets W (.bool false)) := by
 have := BF 65 _ [] W (SlG.nil W)
 rwa [vl65] at this
theorem Blk.new1 (W : World) (o : Obj) (cs : Array Value) (t : TypeId) : Blk ((W.alloc o).alloc (.cells cs t)) (W.heap.size + 1) cs t := by
 have := Blk.new (W.alloc o) cs t
 rwa [World.size_alloc] at this
theorem Kl (w : World) (hE : Env w) : Calls Tryz.prog 9 #[] w (Rets w (.bool true)) := by
 replace hE := A8 hE
 obtain ⟨V1, bS, e1, b1, S1⟩ := (MS.start w).add' #[.string ⟨#[52]⟩, .string ⟨#[50]⟩] 9
 obtain ⟨V2, bV, e2, b2, S2⟩ := S1.add' #[.slice (some ⟨bS, 0, none⟩) 2 2, .string ⟨#[50]⟩] 30
 have hS := A8 (S2.slice (SlS.of2 (S2.mem.blks _ (.tail _ (.head _)))))
 rw [b1] at e2
 rw [e1] at e2 b2
 rw [World.size_alloc] at b2
 clear S1 S2 e1
 go_enter Tryz.func9, Tryz.ntmps9
 go_upto_region 2 with fail
 rw [← e2, ← b2]
 clear e2 b1 b2
 go_wp2_with fail
 refine Calls.mono (BA 3 1 _) ?_
 rintro e w1 ⟨v1, rfl, hv, hb⟩
 replace hS := A8 (hS.out.call hb)
 clear hb
 go_wp2_with fail
 refine Calls.mono (solve31 v1 _ (hS.out.env hE.out) hv) ?_
 rintro e w2 ⟨a1, l1, d1, k1, rfl, hs1, heq, hb⟩
 clear hv
 replace hS := A8 (hS.out.call hb)
 replace hS := A8 (hS.out.slice hs1)
 clear hb hs1
 replace heq := A8 heq
 obtain ⟨n1, hn1⟩ : ∃ n, n = l1.length := ⟨_, rfl⟩
 rw [← hn1] at hS ⊢
 replace hn1 := A8 hn1
 obtain ⟨W1, bA, e1, b1, S1⟩ := hS.out.add' #[.bool true, .slice a1 n1 k1, .string d1, .slice none 0 0] 38
 replace hS := A8 S1
 clear S1
 go_upto_region 3 with fail
 rw [← e1, ← b1]
 clear e1 b1
 go_wp2_with fail
 refine Calls.mono (BA 3 4 _) ?_
 rintro e w3 ⟨v2, rfl, hv, hb⟩
 replace hS := A8 (hS.out.call hb)
 clear hb
 go_wp2_with fail
 refine Calls.mono (solve34 v2 _ (hS.out.env hE.out) hv) ?_
 rintro e w4 ⟨a2, l2, k2, rfl, hs2, hrf, hb⟩
 clear hv
 replace hS := A8 (hS.out.call hb)
 replace hS := A8 (hS.out.slice hs2)
 clear hb hs2
 replace hrf := A8 hrf
 obtain ⟨n2, hn2⟩ : ∃ n, n = l2.length := ⟨_, rfl⟩
 rw [← hn2] at hS ⊢
 replace hn2 := A8 hn2
 obtain ⟨W1, bB, e1, b1, S1⟩ := hS.out.add' #[.bool false, .slice none 0 0, .string ⟨#[]⟩, .slice a2 n2 k2] 38
 replace hS := A8 S1
 clear S1
 go_upto_region 4 with fail
 rw [← e1, ← b1]
 clear e1 b1
 go_wp2_with fail
 refine Calls.mono (solve00 _ _ ((hS.out.new _).env hE.out) (SlE.of1 (Blk.new _ _ _))) ?_
 rintro e w5 ⟨a3, d3, k3, rfl, hb⟩
 replace hS := A8 (hS.out.new _ |>.call hb)
 clear hb
 obtain ⟨W1, bC, e1, b1, S1⟩ := hS.out.add' #[.bool true, .slice a3 0 k3, .string d3, .slice none 0 0] 38
 replace hS := A8 S1
 clear S1
 go_upto_region 5 with fail
 rw [← e1, ← b1]
 clear e1 b1
 go_wp2_with fail
 refine Calls.mono (solve01 _ _ ((hS.out.new _).env hE.out) (SlE.of1 (Blk.new _ _ _))) ?_
 rintro e w6 ⟨a4, k4, rfl, hb⟩
 replace hS := A8 (hS.out.new _ |>.call hb)
 clear hb
 obtain ⟨W1, bD, e1, b1, S1⟩ := hS.out.add' #[.bool false, .slice none 0 0, .string ⟨#[]⟩, .slice a4 1 k4] 38
 replace hS := A8 S1
 clear S1
 go_upto_region 6 with fail
 rw [← e1, ← b1]
 clear e1 b1
 go_wp2_with fail
 refine Calls.mono (mix_ok { p := 1, q := 3, na := [⟨#[49]⟩, ⟨#[48]⟩], nb := [⟨#[48]⟩, ⟨#[49]⟩], da := ⟨#[49]⟩, db := ⟨#[49]⟩ } _ _ _ (((hS.out.new _).new _).env hE.out) ((SlS.of2 (Blk.new _ _ _)).below ((Below.refl _ _).alloc (Aa _) _)) (SlS.of2 (Blk.new1 _ _ _ _)) (by kernel_rfl)) ?_
 intro e w5 hmx
 unfold MixP at hmx
 rw [mix13] at hmx
 obtain ⟨hb, v5, hs5, rfl⟩ := hmx
 obtain ⟨a5, k5, rfl⟩ := hs5.shape
 replace hS := A8 ((hS.out.new _ |>.new _).call hb)
 replace hS := A8 (hS.out.slice hs5)
 clear hb hs5
 obtain ⟨W1, bM, e1, b1, S1⟩ := hS.out.add' #[.slice a5 2 k5, .string ⟨#[52]⟩] 30
 replace hS := A8 S1
 clear S1
 go_upto_region 7 with fail
 rw [← e1, ← b1]
 clear e1 b1
 go_wp2_with fail
 refine Calls.mono (solve10 _ _ (SlE.of1 (Blk.new _ _ _))) ?_
 rintro e w8 ⟨rfl, hb⟩
 replace hS := A8 (hS.out.new _ |>.call hb)
 clear hb
 obtain ⟨W1, bN, e1, b1, S1⟩ := hS.out.add' #[.bool false, .slice none 0 0, .string ⟨#[]⟩, .slice none 0 0] 38
 replace hS := A8 S1
 clear S1
 go_upto_region 8 with fail
 rw [← e1, ← b1]
 clear e1 b1
 go_upto_region 10 with fail
 have rf := hrf
 clear hrf
 have hn1' := hn1.out
 have hn2' := hn2.out
 subst hn1'
 subst hn2'
 refine Kj (bV := bV) (bA := bA) (bB := bB) (bC := bC) (bD := bD) (bS := bS) (a1 := a1) (n1 := l1.length) (k1 := k1) (a2 := a2) (n2 := l2.length) (k2 := k2) (a3 := a3) (k3 := k3) (a4 := a4) (k4 := k4) (d1 := d1) (w := W1) (W0 := W1) (L := []) (R := []) (A8 fun W hW => (hS.out.call hW.below).cell bA _ _ (.tail _ (.tail _ (.tail _ (.tail _ (.tail _ (.head _)))))) 0) (A8 fun W hW => (hS.out.call hW.below).cell bA _ _ (.tail _ (.tail _ (.tail _ (.tail _ (.tail _ (.head _)))))) 1) (A8 fun W hW => (hS.out.call hW.below).cell bA _ _ (.tail _ (.tail _ (.tail _ (.tail _ (.tail _ (.head _)))))) 2) (A8 fun W hW => (hS.out.call hW.below).cell bV _ _ (.tail _ (.tail _ (.tail _ (.tail _ (.tail _ (.tail _ (.head _))))))) 0) (A8 fun W hW => (hS.out.call hW.below).cell bV _ _ (.tail _ (.tail _ (.tail _ (.tail _ (.tail _ (.tail _ (.head _))))))) 1) (A8 fun W hW => (by have := Ke _ _ l1 _ d1 ⟨#[50]⟩ W ((hS.out.call hW.below).env hE.out) ((hS.out.call hW.below).ss _ (.tail _ (.tail _ (.head _)))) ((hS.out.call hW.below).ss _ (.tail _ (.tail _ (.tail _ (.head _))))); rwa [heq.out] at this)) (A8 fun W hW => (hS.out.call hW.below).cell bA _ _ (.tail _ (.tail _ (.tail _ (.tail _ (.tail _ (.head _)))))) 3) (A8 fun W hW => (hS.out.call hW.below).cell bB _ _ (.tail _ (.tail _ (.tail _ (.tail _ (.head _))))) 0) (A8 fun W hW => (BA 3 4 W)) (A8 fun W hW => (hS.out.call hW.below).cell bB _ _ (.tail _ (.tail _ (.tail _ (.tail _ (.head _))))) 3) (A8 fun W v hW hv => (by have := Cd 2 v _ (twoL 3 4) l2 W ((hS.out.call hW.below).env hE.out) hv ((hS.out.call hW.below).ss _ (.tail _ (.head _))); rwa [rf.out] at this)) (A8 fun W hW => (hS.out.call hW.below).cell bC _ _ (.tail _ (.tail _ (.tail _ (.head _)))) 0) (A8 fun W hW => (hS.out.call hW.below).cell bC _ _ (.tail _ (.tail _ (.tail _ (.head _)))) 1) (A8 fun W hW => (hS.out.call hW.below).cell bD _ _ (.tail _ (.tail _ (.head _))) 0) (A8 fun W hW => (hS.out.call hW.below).cell bD _ _ (.tail _ (.tail _ (.head _))) 3) (A8 (Mem.start W1)) rfl rfl rfl rfl rfl rfl (by kernel_rfl) ?_
 intro xx W2 hx14 hW2
 simp only [sets, List.foldl_cons, List.foldl_nil, A5, A6, hx14]
 replace hS := A8 (hS.out.call hW2.out.below)
 clear hW2 heq rf
 go_upto_region 11 with fail
 refine Kk (bV := bV) (L := []) (R := []) (A8 fun W hW => (BA 3 1 W)) (A8 fun W hW => (hS.out.call hW.below).cell bV _ _ (.tail _ (.tail _ (.tail _ (.tail _ (.tail _ (.tail _ (.head _))))))) 0) (A8 fun W hW => (hS.out.call hW.below).cell bV _ _ (.tail _ (.tail _ (.tail _ (.tail _ (.tail _ (.tail _ (.head _))))))) 1) (A8 fun W v hW hv => (by have := Cw 2 v _ (twoL 3 1) _ ⟨#[50]⟩ W ((hS.out.call hW.below).env hE.out) hv ((hS.out.call hW.below).ss _ (.tail _ (.tail _ (.tail _ (.head _))))); rwa [ck31] at this)) (A8 fun W hW => (BA 3 2 W)) (A8 fun W hW => (hS.out.call hW.below).cell bV _ _ (.tail _ (.tail _ (.tail _ (.tail _ (.tail _ (.tail _ (.head _))))))) 0) (A8 fun W hW => (hS.out.call hW.below).cell bV _ _ (.tail _ (.tail _ (.tail _ (.tail _ (.tail _ (.tail _ (.head _))))))) 1) (A8 fun W v hW hv => (by have := Cw 2 v _ (twoL 3 2) _ ⟨#[50]⟩ W ((hS.out.call hW.below).env hE.out) hv ((hS.out.call hW.below).ss _ (.tail _ (.tail _ (.tail _ (.head _))))); rwa [ck32] at this)) (A8 fun W hW => (BA 3 4 W)) (A8 fun W v g hW hv hg => (by have := Cd 2 v _ (twoL 3 4) _ W ((hS.out.call hW.below).env hE.out) hv (SlS.of2 hg); rwa [rf34] at this)) (A8 fun W hW => (BA 3 4 W)) (A8 fun W v g hW hv hg => (by have := Cd 2 v _ (twoL 3 4) _ W ((hS.out.call hW.below).env hE.out) hv (SlS.of2 hg); rwa [rf34n] at this)) (A8 fun W hW => (BA 3 1 W)) (A8 fun W v g hW hv hg => (by have := Cd 2 v _ (twoL 3 1) _ W ((hS.out.call hW.below).env hE.out) hv (SlS.of2 hg); rwa [rf31n] at this)) (A8 (Mem.start _)) rfl rfl (by kernel_rfl) ?_
 intro xx W3 hx15 hW3
 simp only [sets, List.foldl_cons, List.foldl_nil, A5, A6, hx15]
 replace hS := A8 (hS.out.call hW3.out.below)
 clear hW3
 have z0 := (hS.out.cell bM _ _ (.tail _ (.head _)) 0).trans (show _ = some (Value.slice a5 2 k5) from rfl)
 have z1 := (hS.out.cell bM _ _ (.tail _ (.head _)) 1).trans (show _ = some (Value.string ⟨#[52]⟩) from rfl)
 go_wp2_with fail
 refine Calls.mono (same13 (hS.out.new _ |>.ss _ (.head _)) (SlS.of2 (Blk.new _ _ _))) ?_
 rintro e w9 ⟨rfl, hb⟩
 replace hS := A8 (hS.out.new _ |>.call hb)
 clear hb z0 z1
 go_wp2_with fail
 refine Calls.mono (BA 1 1 _) ?_
 rintro e w10 ⟨v9, rfl, hv, hb⟩
 replace hS := A8 (hS.out.call hb)
 clear hb
 go_wp2_with fail
 refine Calls.mono (val11 hv) ?_
 rintro e w11 ⟨rfl, hb⟩
 clear hv
 replace hS := A8 (hS.out.call hb)
 clear hb
 go_wp2_with fail
 refine Calls.mono (val65 _) ?_
 rintro e w12 ⟨rfl, hb⟩
 replace hS := A8 (hS.out.call hb)
 clear hb
 go_wp2
 go_ret
 exact ⟨rfl, hS.out.mem.below⟩
end
section
open Go.RowKit Go.ChangeShapes
section
variable {H : Type} {enc : TypeId × Value → H} {P : Program}
theorem IV {W W' : World} (hb : Below W.heap.size W W') {p : MemPlace} (h : p.block < W.heap.size) : W.sameAt W' p := by
 cases p with
 | cell b off => exact hb.cell (p := ⟨b, off, none⟩) h
 | map b => exact hb.block b h
theorem Ko (hl : laidOutB P = true) {t : TypeId} (hr : P.readableRec t = true) (hrow : t < P.types.size) (hsz : ∀ u e, InBook P t u → P.underlying u = some (.slice e) → 0 < P.cellsOf e)
  {W W' : World} (hb : Below W.heap.size W W') {v : Value} {d : DataW H} {ps : List MemPlace} (hlt : ∀ p ∈ ps, p.block < W.heap.size) (h : DataW.Trod enc P W 0 (fun _ => true) true t v d ps) :
  DataW.Trod enc P W' 0 (fun b => decide (b < W.heap.size)) true t v d ps := by
 obtain ⟨n, hn⟩ := h
 refine ⟨n, DataW.trod_stays (kids_book hl hr) (fun {u e} hT hu => hsz u e hT hu) (fun e => by cases e) ⟨hrow, book_self t⟩ hn (fun p hp => IV hb (hlt p hp)) (fun p hp => by simpa using hlt p hp)⟩
def rowsB (P : Program) (ts : List TypeId) : Bool := ts.all fun t => P.readableRec t && decide (t < P.types.size) && (P.book t).all fun u => match P.underlying u with
 | some (.slice e) => decide (0 < P.cellsOf e)
 | _ => true
theorem FP (hl : laidOutB P = true) {W W' : World} (hb : Below W.heap.size W W') : ∀ {ts : List TypeId} {vs : List Value} {ds : List (DataW H)} {ps : List MemPlace}, rowsB P ts = true →
  DataW.TrodAll enc P W 0 (fun _ => true) true ts vs ds ps → DataW.TrodAll enc P W' 0 (fun b => decide (b < W.heap.size)) true ts vs ds ps
 | [], [], [], _, _, h => h
 | t :: ts, v :: vs, d :: ds, ps, hr, h => by
  have hlt := h.lt
  obtain ⟨p, q, h1, h2, e⟩ := h
  unfold rowsB at hr
  rw [List.all_cons, Bool.and_eq_true] at hr
  obtain ⟨hr1, hr2⟩ := hr
  simp only [Bool.and_eq_true, decide_eq_true_eq, List.all_eq_true] at hr1
  obtain ⟨⟨r1, r2⟩, r3⟩ := hr1
  refine ⟨p, q, Ko hl r1 r2 (fun u e hT hu => ?_) hb (fun x hx => hlt x (by rw [e]; exact List.mem_append_left _ hx)) h1, FP hl hb hr2 h2, e⟩
  have := r3 u hT.2
  rw [hu] at this
  simpa using this
end
end
section
open Go.RowKit
attribute [local go_sem] Oper.semAt_some
structure NumOk (W : World) (x : NumL) (vc vh : Value) : Prop where
 c : Sl W vc x.coefs
 h : Sl W vh x.hidden
 f : Fits x.cols ∧ Fits x.rows ∧ Fits x.miss
 fc : ∀ z ∈ x.coefs, Fits z
 fh : ∀ z ∈ x.hidden, Fits z
theorem F6 {l : List Int} (h : ∀ z ∈ l, Fits z) (k : Nat) : Fits (atv l k) := by
 unfold atv
 by_cases hk : k % l.length < l.length
 ·rw [BO hk]; exact h _ (List.getElem_mem hk)
 ·rw [Cl (by omega)]; unfold Fits; decide
theorem NumOk.below {W W' : World} {x : NumL} {vc vh : Value} (h : NumOk W x vc vh) (hb : Below W.heap.size W W') : NumOk W' x vc vh := ⟨h.c.below hb, h.h.below hb, h.f, h.fc, h.fh⟩
theorem made_ok {W : World} {x : NumL} {vc vh : Value} (h : NumOk W x vc vh) : Calls Tryz.prog 11 #[.agg #[.int .i64 x.cols, .int .i64 x.rows, vc, vh, .int .i64 x.miss]] W fun e w' => ∃ a cp, e = .returned (.agg #[.int .i64 x.c, .slice a x.r cp]) ∧ SlE w' (.slice a x.r cp) x.made ∧ Below W.heap.size W w' :=
 (Ln x vc vh W h.c h.h h.f (fun k => ⟨F6 h.fc k, F6 h.fh k⟩)).mono fun e w' ⟨v, he, hs, hb⟩ => by
  obtain ⟨a, cp, rfl⟩ := hs.shape
  rw [x.made_len] at hs he
  exact ⟨a, cp, he, hs, hb⟩
theorem C8 (x : NumL) : x.made.length ≤ 8 := by rw [x.made_len]; have := x.r_eq; omega
end
section
open Go.RowKit Go.ChangeShapes Go.WideShapes Go.Deep
theorem Kp {w : World} {b : Nat} {x : TypeId × Nat} (h : w.shape? b = some x) : b < w.heap.size := by
 unfold World.shape? at h
 by_cases hb : b < w.heap.size
 ·exact hb
 ·rw [Array.getElem?_eq_none (by omega)] at h; simp at h
theorem DG {n : Int} (h : (Lit.int .i64 n).wf = true) : Fits n := by simpa [Fits, Lit.wf, IntKind.min, IntKind.max, IntKind.signed, IntKind.bits] using h
section
variable {H : Type} {enc : TypeId × Value → H} {W : World} {sp : Nat → Bool} {held : Bool}
theorem Kq {t e : TypeId} {k b0 fuel : Nat} {v : Value} {y : DataW H × List MemPlace} (hu : Tryz.prog.underlying t = some (.slice e)) (hc : Tryz.prog.cellsOf e = k) (hk : Cell.okWide Tryz.prog W .any b0 t v) (h : DataW.trod enc Tryz.prog W 0 sp held fuel t [v] = some y) :
  v = .slice none 0 0 ∨ ∃ b off len cap, v = .slice (some ⟨b, off, none⟩) len cap ∧ len ≤ cap ∧ cap ≤ maxLen ∧ b < W.heap.size ∧ ∀ i, i < len → ∃ (cs : List Value) (n : Nat) (x : DataW H × List MemPlace), cs.length = k ∧ (∀ (j : Nat) (h : j < cs.length), W.cell? ⟨b, off + i * k + j, none⟩ = some cs[j]) ∧ DataW.trod enc Tryz.prog W 0 sp held n e cs = some x := by
 rcases open_slice hu h with ⟨hcs, _⟩ | ⟨a, len, cap, m, n, D, Pl, hcs, _, hl, hm, hmm, _, hx⟩
 ·left; simpa using hcs
 ·right
  obtain rfl : v = .slice (some a) len cap := by simpa using hcs
  have hk2 : W.has Tryz.prog .any b0 a e cap := by
   simp only [Cell.okWide, hu, Cell.ok] at hk
   exact hk.2.2
  obtain ⟨_, hsp, row, cells, hsh, _⟩ := hk2
  have hlt := Kp hsh
  obtain ⟨b, off, spot⟩ := a
  obtain rfl : spot = none := hsp
  refine ⟨b, off, len, cap, rfl, hl, hm, hlt, fun i hi => ?_⟩
  obtain ⟨cs', h1, h2⟩ := hx i (by rw [hmm]; split <;> omega)
  rw [hc] at h1
  obtain ⟨_, hlen, hcell⟩ := World.cells?_some h1
  refine ⟨cs', n, _, hlen, fun j hj => ?_, h2⟩
  have q := hcell j (by omega)
  rw [add_add, add_plain, ← Nat.add_assoc] at q
  rw [q, List.getElem?_eq_getElem hj]
theorem Lo {t e : TypeId} {b0 : Nat} {v : Value} {d : DataW H} {p : List MemPlace} (hu : Tryz.prog.underlying t = some (.slice e)) (hv : Value.okWide Tryz.prog W .any b0 t v) (h : DataW.Trod enc Tryz.prog W 0 sp held t v d p) : ∃ fuel, Cell.okWide Tryz.prog W .any b0 t v ∧ DataW.trod enc Tryz.prog W 0 sp held fuel t [v] = some (d, p) := by
 obtain ⟨a, len, cap, rfl⟩ := okWide_slice hu hv
 obtain ⟨fuel, hf⟩ := h
 exact ⟨fuel, by simpa [Value.okWide, hu] using hv, hf⟩
theorem Dk {b0 fuel : Nat} {v : Value} {y : DataW H × List MemPlace} (hk : Cell.okWide Tryz.prog W .any b0 22 v) (h : DataW.trod enc Tryz.prog W 0 sp held fuel 22 [v] = some y) : ∃ l : List Int, Sl W v l ∧ ∀ z ∈ l, Fits z := by
 have hi : Tryz.prog.underlying 3 = some (.int .i64) := by kernel_rfl
 rcases Kq Tryz.underlying22 (k := 1) (by kernel_rfl) hk h with rfl | ⟨b, off, len, cap, rfl, hl, hm, hlt, hx⟩
 ·exact ⟨[], Sl.nil W, fun z hz => by cases hz⟩
 ·have each : ∀ i, i < len → ∃ z : Int, W.cell? ⟨b, off + i, none⟩ = some (.int .i64 z) ∧ Fits z := fun i hi' => by
   obtain ⟨cs, n, x, hlen, hcell, ht⟩ := hx i hi'
   match cs, hlen with
   | [c0], _ =>
    obtain ⟨z0, e0, _, f0⟩ := DataW.trod_int hi ht
    have q := hcell 0 (by simp)
    rw [Nat.mul_one] at q
    simp at e0
    subst e0
    exact ⟨z0, q, DG f0⟩
  obtain ⟨q, hq⟩ := choose_lt (α := Int) (h := each)
  refine ⟨(List.range len).map q, .inr ⟨b, off, cap, by simp, by simpa using hl, hm, hlt, fun j hj => ?_⟩, fun d hd => ?_⟩
  ·have hj' : j < len := by simpa using hj
   rw [Li _ hj']; exact (hq j hj').1
  ·obtain ⟨i, hi', rfl⟩ := List.mem_map.1 hd
   exact (hq i (List.mem_range.1 hi')).2
theorem Kr : Tryz.prog.cellTypes Tryz.prog.depth 24 = some [3, 3, 22, 22, 3] := by kernel_rfl
theorem Lp {b0 : Nat} {v : Value} {d : DataW H} {p : List MemPlace} (hv : Value.okWide Tryz.prog W .any b0 24 v) (h : DataW.Trod enc Tryz.prog W 0 sp held 24 v d p) :
  ∃ (x : NumL) (vc vh : Value), v = .agg #[.int .i64 x.cols, .int .i64 x.rows, vc, vh, .int .i64 x.miss] ∧ NumOk W x vc vh := by
 have hi : Tryz.prog.underlying 3 = some (.int .i64) := by kernel_rfl
 simp only [Value.okWide, Tryz.underlying24] at hv
 obtain ⟨cs, rfl, hsz, ts, hts, hlen, hrow⟩ := hv
 rw [Kr] at hts
 cases hts
 obtain ⟨fuel, hf⟩ := h
 have hsz5 : cs.size = 5 := by
  have : Tryz.prog.cellsOf 24 = 5 := by kernel_rfl
  simpa [this] using hsz
 obtain ⟨csl⟩ := cs
 match csl, hsz5 with
 | [c0, c1, c2, c3, c4], _ =>
  obtain ⟨xs, n, _, _, hl, hlen5, hfs⟩ := DataW.trod_struct Tryz.underlying24 hf
  have hc1 : Tryz.prog.cellsOf 3 = 1 := by kernel_rfl
  have hc2 : Tryz.prog.cellsOf 22 = 1 := by kernel_rfl
  have hx5 : xs.length = 5 := hlen5
  match xs, hx5 with
  | [y0, y1, y2, y3, y4], _ =>
  have g0 : DataW.trod enc Tryz.prog W 0 sp held n 3 [c0] = some y0 := by have := hfs 0 _ rfl; simpa [hc1, Value.cells] using this
  have g1 : DataW.trod enc Tryz.prog W 0 sp held n 3 [c1] = some y1 := by have := hfs 1 _ rfl; simpa [hc1, Value.cells] using this
  have g2 : DataW.trod enc Tryz.prog W 0 sp held n 22 [c2] = some y2 := by have := hfs 2 _ rfl; simpa [hc2, Value.cells] using this
  have g3 : DataW.trod enc Tryz.prog W 0 sp held n 22 [c3] = some y3 := by have := hfs 3 _ rfl; simpa [hc2, Value.cells] using this
  have g4 : DataW.trod enc Tryz.prog W 0 sp held n 3 [c4] = some y4 := by have := hfs 4 _ rfl; simpa [hc1, Value.cells] using this
  obtain ⟨z0, e0, _, f0⟩ := DataW.trod_int hi g0
  obtain ⟨z1, e1, _, f1⟩ := DataW.trod_int hi g1
  obtain ⟨z4, e4, _, f4⟩ := DataW.trod_int hi g4
  obtain ⟨u2, hu2, k2⟩ := hrow 2 c2 rfl
  obtain ⟨u3, hu3, k3⟩ := hrow 3 c3 rfl
  cases hu2
  cases hu3
  obtain ⟨lc, hlc, flc⟩ := Dk k2 g2
  obtain ⟨lh, hlh, flh⟩ := Dk k3 g3
  simp at e0 e1 e4
  subst e0; subst e1; subst e4
  exact ⟨⟨z0, z1, lc, lh, z4⟩, c2, c3, rfl, hlc, hlh, ⟨DG f0, DG f1, DG f4⟩, flc, flh⟩
theorem IW {b0 : Nat} {v : Value} {d : DataW H} {p : List MemPlace} (hv : Value.okWide Tryz.prog W .any b0 22 v) (h : DataW.Trod enc Tryz.prog W 0 sp held 22 v d p) : ∃ l : List Int, Sl W v l ∧ ∀ z ∈ l, Fits z := by
 obtain ⟨fuel, h1, h2⟩ := Lo Tryz.underlying22 hv h
 exact Dk h1 h2
end
end
end Go.Proofs.YtcmomjnailihpaaGreatDoor
