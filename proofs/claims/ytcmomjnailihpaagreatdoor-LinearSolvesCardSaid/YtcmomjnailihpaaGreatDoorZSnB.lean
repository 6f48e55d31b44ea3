/- SnB -/
import Derived.Test.YtcmomjnailihpaaGreatDoorZMem
import Derived.Test.YtcmomjnailihpaaGreatDoorZRgI
import Derived.Test.YtcmomjnailihpaaGreatDoorZSvF
namespace Go.Proofs.YtcmomjnailihpaaGreatDoor
open Go.RowKit
attribute [local go_sem] Oper.semAt_some
set_option maxRecDepth 100000 in
set_option maxHeartbeats 8000000 in
theorem sane6_r10 {Q : Exit → Act → World → Prop} {u0 u3 u5 u7 u9 u10 u11 u12 u13 u14 u15 u16 u17 u18 u19 u20 u21 u22 u23 u24 u25 u26 u27 u28 u29 u30 u31 u32 u33 u34 u35 u36 u37 u38 u39 u40 u41 u42 u43 u44 u45 u46 u47 u48 u49 u50 u51 u52 u53 u54 u55 u56 u57 u58 u59 u60 u61 u62 u63 u64 u65 u66 u67 u68 u69 u70 u71 u72 u73 u74 u75 u76 u77 u78 u79 u80 u81 u82 u83 u84 u85 u86 u87 u88 u89 u90 u91 u92 u93 u94 u95 u96 u97 u98 u99 u100 u101 u102 u103 u104 u105 u106 u107 u108 u109 u110 u111 u112 u113 u114 u115 u116 u117 u118 u119 u120 u121 u122 u123 u124 u125 u126 u127 u128 u129 u130 u131 u132 u133 u134 u135 u136 u137 u138 u139 u140 u141 u142 u143 u144 u145 u146 u147 u148 u149 u150 u151 u152 u153 u154 u155 u156 u157 u158 u159 u160 u161 u162 u163 u164 u165 u166 u167 u168 u169 u170 : Value} {bV bA bB bC bD bS n1 n2 k1 k2 k3 k4 : Nat} {a1 a2 a3 a4 : Option Addr} {d1 : ByteArray} {w W0 : World} {L : BLs} {R : List RowD}    (x80 : Hid (∀ W, Mem w L R W → W.cell? ⟨bA, 0, none⟩ = some (.bool true))) (x83_0 : Hid (∀ W, Mem w L R W → W.cell? ⟨bA, 1, none⟩ = some (.slice a1 n1 k1))) (x83_1 : Hid (∀ W, Mem w L R W → W.cell? ⟨bA, 2, none⟩ = some (.string d1))) (x84_0 : Hid (∀ W, Mem w L R W → W.cell? ⟨bV, 0, none⟩ = some (.slice (some ⟨bS, 0, none⟩) 2 2))) (x84_1 : Hid (∀ W, Mem w L R W → W.cell? ⟨bV, 1, none⟩ = some (.string ⟨#[50]⟩))) (C85 : Hid (∀ W, Mem w L R W → Calls Tryz.prog 21 #[.agg #[.slice a1 n1 k1, .string d1], .agg #[.slice (some ⟨bS, 0, none⟩) 2 2, .string ⟨#[50]⟩]] W (Rets W (.bool true)))) (x89 : Hid (∀ W, Mem w L R W → W.cell? ⟨bA, 3, none⟩ = some (.slice none 0 0))) (x95 : Hid (∀ W, Mem w L R W → W.cell? ⟨bB, 0, none⟩ = some (.bool false))) (C99 : Hid (∀ W, Mem w L R W → Calls Tryz.prog 34 #[.int .i64 3, .int .i64 4] W fun e W' => ∃ (v99' : Value), e = .returned (.agg #[.int .i64 2, v99']) ∧ SlE W' v99' (twoL 3 4) ∧ Below W.heap.size W W')) (x101 : Hid (∀ W, Mem w L R W → W.cell? ⟨bB, 3, none⟩ = some (.slice a2 n2 k2))) (C102 : Hid (∀ W (v99' : Value), Mem w L R W → SlE W v99' (twoL 3 4) → Calls Tryz.prog 28 #[.agg #[.int .i64 2, v99'], .slice a2 n2 k2] W (Rets W (.bool true)))) (x106 : Hid (∀ W, Mem w L R W → W.cell? ⟨bC, 0, none⟩ = some (.bool true))) (x111 : Hid (∀ W, Mem w L R W → W.cell? ⟨bC, 1, none⟩ = some (.slice a3 0 k3))) (x117 : Hid (∀ W, Mem w L R W → W.cell? ⟨bD, 0, none⟩ = some (.bool false))) (x122 : Hid (∀ W, Mem w L R W → W.cell? ⟨bD, 3, none⟩ = some (.slice a4 1 k4))) (h0 : Hid (Mem w L R W0)) {ops : Array Oper} (ho : getOps Tryz.f9.body 10 = some ops)
   (hQ : ∀ (v79 v80 v81 v82 v83 v84 v85 v86 v87 v88 v89 v90 v91 v92 v93 v94 v95 v96 v97 v98 v99 v100 v101 v102 v103 v104 v105 v106 v107 v108 v109 v110 v111 v112 v113 v114 v115 v116 v117 v118 v119 v120 v121 v122 v123 v124 v125 : Value)  (W' : World), Hid (Mem w L R W') → Q .normal { tmps := List.toArray (u0::.pointer (some ⟨bV, 0, none⟩)::.pointer (some ⟨bA, 0, none⟩)::u3::.pointer (some ⟨bB, 0, none⟩)::u5::.pointer (some ⟨bC, 0, none⟩)::u7::.pointer (some ⟨bD, 0, none⟩)::u9::u10::u11::u12::u13::.bool true::u15::u16::u17::u18::u19::u20::u21::u22::u23::u24::u25::u26::u27::u28::u29::u30::u31::u32::u33::u34::u35::u36::u37::u38::u39::u40::u41::u42::u43::u44::u45::u46::u47::u48::u49::u50::u51::u52::u53::u54::u55::u56::u57::u58::u59::u60::u61::u62::u63::u64::u65::u66::u67::u68::u69::u70::u71::u72::u73::u74::u75::u76::u77::u78::v79::v80::v81::v82::v83::v84::v85::v86::v87::v88::v89::v90::v91::v92::v93::v94::v95::v96::v97::v98::v99::v100::v101::v102::v103::v104::v105::v106::v107::v108::v109::v110::v111::v112::v113::v114::v115::v116::v117::v118::v119::v120::v121::v122::v123::v124::v125::u126::u127::u128::u129::u130::u131::u132::u133::u134::u135::u136::u137::u138::u139::u140::u141::u142::u143::u144::u145::u146::u147::u148::u149::u150::u151::u152::u153::u154::u155::u156::u157::u158::u159::u160::u161::u162::u163::u164::u165::u166::u167::u168::u169::u170::[]), defers := [] } W') :
   (Code.region 10 ops true).wp Tryz.prog Q { tmps := List.toArray (u0::.pointer (some ⟨bV, 0, none⟩)::.pointer (some ⟨bA, 0, none⟩)::u3::.pointer (some ⟨bB, 0, none⟩)::u5::.pointer (some ⟨bC, 0, none⟩)::u7::.pointer (some ⟨bD, 0, none⟩)::u9::u10::u11::u12::u13::u14::u15::u16::u17::u18::u19::u20::u21::u22::u23::u24::u25::u26::u27::u28::u29::u30::u31::u32::u33::u34::u35::u36::u37::u38::u39::u40::u41::u42::u43::u44::u45::u46::u47::u48::u49::u50::u51::u52::u53::u54::u55::u56::u57::u58::u59::u60::u61::u62::u63::u64::u65::u66::u67::u68::u69::u70::u71::u72::u73::u74::u75::u76::u77::u78::u79::u80::u81::u82::u83::u84::u85::u86::u87::u88::u89::u90::u91::u92::u93::u94::u95::u96::u97::u98::u99::u100::u101::u102::u103::u104::u105::u106::u107::u108::u109::u110::u111::u112::u113::u114::u115::u116::u117::u118::u119::u120::u121::u122::u123::u124::u125::u126::u127::u128::u129::u130::u131::u132::u133::u134::u135::u136::u137::u138::u139::u140::u141::u142::u143::u144::u145::u146::u147::u148::u149::u150::u151::u152::u153::u154::u155::u156::u157::u158::u159::u160::u161::u162::u163::u164::u165::u166::u167::u168::u169::u170::[]), defers := [] } W0 := by
 obtain rfl := Option.some.inj (ho.symm.trans (rfl : getOps Tryz.f9.body 10 = some _))
 clear ho
 replace hQ := Lib.hid hQ
 have hst : MStable ([(20, 99, (fun yv W => ∃ (v99' : Value), yv = .agg #[.int .i64 2, v99'] ∧ SlE W v99' (twoL 3 4)), none)] : ML) := by
   intro p hp yv W W' hb h
   simp only [List.mem_cons, List.not_mem_nil, or_false] at hp
   rcases hp with rfl
   · obtain ⟨g0, e, h⟩ := h; exact ⟨g0, e, h.below hb⟩
 obtain ⟨Iv, hI⟩ : ∃ Iv : (Nat → Bool) → Act → World → Prop, ∀ l a W, Iv l a W ↔ (Fr (List.toArray (u0::.pointer (some ⟨bV, 0, none⟩)::.pointer (some ⟨bA, 0, none⟩)::u3::.pointer (some ⟨bB, 0, none⟩)::u5::.pointer (some ⟨bC, 0, none⟩)::u7::.pointer (some ⟨bD, 0, none⟩)::u9::u10::u11::u12::u13::u14::u15::u16::u17::u18::u19::u20::u21::u22::u23::u24::u25::u26::u27::u28::u29::u30::u31::u32::u33::u34::u35::u36::u37::u38::u39::u40::u41::u42::u43::u44::u45::u46::u47::u48::u49::u50::u51::u52::u53::u54::u55::u56::u57::u58::u59::u60::u61::u62::u63::u64::u65::u66::u67::u68::u69::u70::u71::u72::u73::u74::u75::u76::u77::u78::u79::u80::u81::u82::u83::u84::u85::u86::u87::u88::u89::u90::u91::u92::u93::u94::u95::u96::u97::u98::u99::u100::u101::u102::u103::u104::u105::u106::u107::u108::u109::u110::u111::u112::u113::u114::u115::u116::u117::u118::u119::u120::u121::u122::u123::u124::u125::u126::u127::u128::u129::u130::u131::u132::u133::u134::u135::u136::u137::u138::u139::u140::u141::u142::u143::u144::u145::u146::u147::u148::u149::u150::u151::u152::u153::u154::u155::u156::u157::u158::u159::u160::u161::u162::u163::u164::u165::u166::u167::u168::u169::u170::[])) [79, 80, 81, 82, 83, 84, 85, 86, 87, 88, 89, 90, 91, 92, 93, 94, 95, 96, 97, 98, 99, 100, 101, 102, 103, 104, 105, 106, 107, 108, 109, 110, 111, 112, 113, 114, 115, 116, 117, 118, 119, 120, 121, 122, 123, 124, 125, 14] a ∧ Mem w L R W ∧ Vals [some (79, .pointer (some ⟨bA, 0, none⟩)), some (80, .bool true), some (81, .bool true), some (82, .pointer (some ⟨bA, 1, none⟩)), some (83, .agg #[.slice a1 n1 k1, .string d1]), some (84, .agg #[.slice (some ⟨bS, 0, none⟩) 2 2, .string ⟨#[50]⟩]), some (85, .bool true), some (86, .bool true), some (87, .bool true), some (88, .pointer (some ⟨bA, 3, none⟩)), some (89, .slice none 0 0), some (90, .int .i64 0), some (91, .bool true), some (92, .bool true), some (93, .bool true), some (94, .pointer (some ⟨bB, 0, none⟩)), some (95, .bool false), some (96, .bool true), some (97, .bool true), some (98, .bool true), none, some (100, .pointer (some ⟨bB, 3, none⟩)), some (101, .slice a2 n2 k2), some (102, .bool true), some (103, .bool true), some (104, .bool true), some (105, .pointer (some ⟨bC, 0, none⟩)), some (106, .bool true), some (107, .bool true), some (108, .bool true), some (109, .pointer (some ⟨bC, 1, none⟩)), some (110, .pointer (some ⟨bC, 1, none⟩)), some (111, .slice a3 0 k3), some (112, .int .i64 0), some (113, .bool true), some (114, .bool true), some (115, .bool true), some (116, .pointer (some ⟨bD, 0, none⟩)), some (117, .bool false), some (118, .bool true), some (119, .bool true), some (120, .bool true), some (121, .pointer (some ⟨bD, 3, none⟩)), some (122, .slice a4 1 k4), some (123, .int .i64 1), some (124, .bool true), some (125, .bool true), some (14, .bool true)] l a ∧ Mems ([(20, 99, (fun yv W => ∃ (v99' : Value), yv = .agg #[.int .i64 2, v99'] ∧ SlE W v99' (twoL 3 4)), none)] : ML) l a W ∧ (Mem w L R W)) := ⟨_, fun _ _ _ => Iff.rfl⟩
 refine wp_region_inv Iv (by kernel_rfl) (by kernel_rfl) ((hI _ _ _).2 ⟨Fr.start _ _, h0.out.drew, Vals.zero, Mems.zero, h0.out.drew⟩) (stepsI_cons (k := 0) ?_ (stepsI_cons (k := 1) ?_ (stepsI_cons (k := 2) ?_ (stepsI_cons (k := 3) ?_ (stepsI_cons (k := 4) ?_ (stepsI_cons (k := 5) ?_ (stepsI_cons (k := 6) ?_ (stepsI_cons (k := 7) ?_ (stepsI_cons (k := 8) ?_ (stepsI_cons (k := 9) ?_ (stepsI_cons (k := 10) ?_ (stepsI_cons (k := 11) ?_ (stepsI_cons (k := 12) ?_ (stepsI_cons (k := 13) ?_ (stepsI_cons (k := 14) ?_ (stepsI_cons (k := 15) ?_ (stepsI_cons (k := 16) ?_ (stepsI_cons (k := 17) ?_ (stepsI_cons (k := 18) ?_ (stepsI_cons (k := 19) ?_ (stepsI_cons (k := 20) ?_ (stepsI_cons (k := 21) ?_ (stepsI_cons (k := 22) ?_ (stepsI_cons (k := 23) ?_ (stepsI_cons (k := 24) ?_ (stepsI_cons (k := 25) ?_ (stepsI_cons (k := 26) ?_ (stepsI_cons (k := 27) ?_ (stepsI_cons (k := 28) ?_ (stepsI_cons (k := 29) ?_ (stepsI_cons (k := 30) ?_ (stepsI_cons (k := 31) ?_ (stepsI_cons (k := 32) ?_ (stepsI_cons (k := 33) ?_ (stepsI_cons (k := 34) ?_ (stepsI_cons (k := 35) ?_ (stepsI_cons (k := 36) ?_ (stepsI_cons (k := 37) ?_ (stepsI_cons (k := 38) ?_ (stepsI_cons (k := 39) ?_ (stepsI_cons (k := 40) ?_ (stepsI_cons (k := 41) ?_ (stepsI_cons (k := 42) ?_ (stepsI_cons (k := 43) ?_ (stepsI_cons (k := 44) ?_ (stepsI_cons (k := 45) ?_ (stepsI_cons (k := 46) ?_ (stepsI_cons (k := 47) ?_ (stepsI_nil))))))))))))))))))))))))))))))))))))))))))))))))) ?_
 · intro l a W hl hw hsh hI' K hK
   obtain ⟨hf, hC, hF, hM, q0⟩ := (hI _ _ _).1 hI'
   have x2 := hf.at_ 2 rfl rfl
   refine want rfl ?_
   go_simp
   exact hK.out _ _ ((hI _ _ _).2 ⟨hf.put 79 _ rfl, hC, hF.put (nodup_of rfl) 0 rfl (hf.lt rfl), hM.put 0 79 _ rfl rfl, q0⟩)
 · intro l a W hl hw hsh hI' K hK
   obtain ⟨hf, hC, hF, hM, q0⟩ := (hI _ _ _).1 hI'
   have x79 := hF.get 0 rfl (hw 0 (by kernel_rfl))
   refine want rfl ?_
   have k0 := x80.out _ hC
   go_simp
   exact hK.out _ _ ((hI _ _ _).2 ⟨hf.put 80 _ rfl, hC, hF.put (nodup_of rfl) 1 rfl (hf.lt rfl), hM.put 1 80 _ rfl rfl, q0⟩)
 · intro l a W hl hw hsh hI' K hK
   obtain ⟨hf, hC, hF, hM, q0⟩ := (hI _ _ _).1 hI'
   have x80 := hF.get 1 rfl (hw 1 (by kernel_rfl))
   refine want rfl ?_
   go_simp
   exact hK.out _ _ ((hI _ _ _).2 ⟨hf.put 81 _ rfl, hC, hF.put (nodup_of rfl) 2 rfl (hf.lt rfl), hM.put 2 81 _ rfl rfl, q0⟩)
 · intro l a W hl hw hsh hI' K hK
   obtain ⟨hf, hC, hF, hM, q0⟩ := (hI _ _ _).1 hI'
   have x2 := hf.at_ 2 rfl rfl
   have x81 := hF.get 2 rfl (hw 2 (by kernel_rfl))
   refine want (wants rfl rfl x81) ?_
   go_simp
   exact hK.out _ _ ((hI _ _ _).2 ⟨hf.put 82 _ rfl, hC, hF.put (nodup_of rfl) 3 rfl (hf.lt rfl), hM.put 3 82 _ rfl rfl, q0⟩)
 · intro l a W hl hw hsh hI' K hK
   obtain ⟨hf, hC, hF, hM, q0⟩ := (hI _ _ _).1 hI'
   have x81 := hF.get 2 rfl (hw 2 (by kernel_rfl))
   have x82 := hF.get 3 rfl (hw 3 (by kernel_rfl))
   refine want (wants rfl rfl x81) ?_
   have k0 := x83_0.out _ hC
   have k1 := x83_1.out _ hC
   go_simp
   exact hK.out _ _ ((hI _ _ _).2 ⟨hf.put 83 _ rfl, hC, hF.put (nodup_of rfl) 4 rfl (hf.lt rfl), hM.put 4 83 _ rfl rfl, q0⟩)
 · intro l a W hl hw hsh hI' K hK
   obtain ⟨hf, hC, hF, hM, q0⟩ := (hI _ _ _).1 hI'
   have x1 := hf.at_ 1 rfl rfl
   have x81 := hF.get 2 rfl (hw 2 (by kernel_rfl))
   refine want (wants rfl rfl x81) ?_
   have k0 := x84_0.out _ hC
   have k1 := x84_1.out _ hC
   go_simp
   exact hK.out _ _ ((hI _ _ _).2 ⟨hf.put 84 _ rfl, hC, hF.put (nodup_of rfl) 5 rfl (hf.lt rfl), hM.put 5 84 _ rfl rfl, q0⟩)
 · intro l a W hl hw hsh hI' K hK
   obtain ⟨hf, hC, hF, hM, q0⟩ := (hI _ _ _).1 hI'
   have x81 := hF.get 2 rfl (hw 2 (by kernel_rfl))
   have x83 := hF.get 4 rfl (hw 4 (by kernel_rfl))
   have x84 := hF.get 5 rfl (hw 5 (by kernel_rfl))
   refine want (wants rfl rfl x81) ?_
   go_simp
   refine Calls.mono (C85.out W hC) ?_
   rintro e W2 ⟨rfl, hb⟩
   exact hK.out _ _ ((hI _ _ _).2 ⟨hf.put 85 _ rfl, hC.call hb, hF.put (nodup_of rfl) 6 rfl (hf.lt rfl), (hM.put 6 85 _ rfl rfl).world hst hb, q0.call hb⟩)
 · intro l a W hl hw hsh hI' K hK
   obtain ⟨hf, hC, hF, hM, q0⟩ := (hI _ _ _).1 hI'
   have x81 := hF.get 2 rfl (hw 2 (by kernel_rfl))
   have x85 := hF.get 6 rfl (hw 6 (by kernel_rfl))
   refine want rfl ?_
   go_simp
   exact hK.out _ _ ((hI _ _ _).2 ⟨hf.put 86 _ rfl, hC, hF.put (nodup_of rfl) 7 rfl (hf.lt rfl), hM.put 7 86 _ rfl rfl, q0⟩)
 · intro l a W hl hw hsh hI' K hK
   obtain ⟨hf, hC, hF, hM, q0⟩ := (hI _ _ _).1 hI'
   have x86 := hF.get 7 rfl (hw 7 (by kernel_rfl))
   refine want rfl ?_
   go_simp
   exact hK.out _ _ ((hI _ _ _).2 ⟨hf.put 87 _ rfl, hC, hF.put (nodup_of rfl) 8 rfl (hf.lt rfl), hM.put 8 87 _ rfl rfl, q0⟩)
 · intro l a W hl hw hsh hI' K hK
   obtain ⟨hf, hC, hF, hM, q0⟩ := (hI _ _ _).1 hI'
   have x2 := hf.at_ 2 rfl rfl
   have x87 := hF.get 8 rfl (hw 8 (by kernel_rfl))
   refine want (wants rfl rfl x87) ?_
   go_simp
   exact hK.out _ _ ((hI _ _ _).2 ⟨hf.put 88 _ rfl, hC, hF.put (nodup_of rfl) 9 rfl (hf.lt rfl), hM.put 9 88 _ rfl rfl, q0⟩)
 · intro l a W hl hw hsh hI' K hK
   obtain ⟨hf, hC, hF, hM, q0⟩ := (hI _ _ _).1 hI'
   have x87 := hF.get 8 rfl (hw 8 (by kernel_rfl))
   have x88 := hF.get 9 rfl (hw 9 (by kernel_rfl))
   refine want (wants rfl rfl x87) ?_
   have k0 := x89.out _ hC
   go_simp
   exact hK.out _ _ ((hI _ _ _).2 ⟨hf.put 89 _ rfl, hC, hF.put (nodup_of rfl) 10 rfl (hf.lt rfl), hM.put 10 89 _ rfl rfl, q0⟩)
 · intro l a W hl hw hsh hI' K hK
   obtain ⟨hf, hC, hF, hM, q0⟩ := (hI _ _ _).1 hI'
   have x87 := hF.get 8 rfl (hw 8 (by kernel_rfl))
   have x89 := hF.get 10 rfl (hw 10 (by kernel_rfl))
   refine want (wants rfl rfl x87) ?_
   go_simp
   exact hK.out _ _ ((hI _ _ _).2 ⟨hf.put 90 _ rfl, hC, hF.put (nodup_of rfl) 11 rfl (hf.lt rfl), hM.put 11 90 _ rfl rfl, q0⟩)
 · intro l a W hl hw hsh hI' K hK
   obtain ⟨hf, hC, hF, hM, q0⟩ := (hI _ _ _).1 hI'
   have x87 := hF.get 8 rfl (hw 8 (by kernel_rfl))
   have x90 := hF.get 11 rfl (hw 11 (by kernel_rfl))
   refine want (wants rfl rfl x87) ?_
   go_simp
   exact hK.out _ _ ((hI _ _ _).2 ⟨hf.put 91 _ rfl, hC, hF.put (nodup_of rfl) 12 rfl (hf.lt rfl), hM.put 12 91 _ rfl rfl, q0⟩)
 · intro l a W hl hw hsh hI' K hK
   obtain ⟨hf, hC, hF, hM, q0⟩ := (hI _ _ _).1 hI'
   have x87 := hF.get 8 rfl (hw 8 (by kernel_rfl))
   have x91 := hF.get 12 rfl (hw 12 (by kernel_rfl))
   refine want rfl ?_
   go_simp
   exact hK.out _ _ ((hI _ _ _).2 ⟨hf.put 92 _ rfl, hC, hF.put (nodup_of rfl) 13 rfl (hf.lt rfl), hM.put 13 92 _ rfl rfl, q0⟩)
 · intro l a W hl hw hsh hI' K hK
   obtain ⟨hf, hC, hF, hM, q0⟩ := (hI _ _ _).1 hI'
   have x92 := hF.get 13 rfl (hw 13 (by kernel_rfl))
   refine want rfl ?_
   go_simp
   exact hK.out _ _ ((hI _ _ _).2 ⟨hf.put 93 _ rfl, hC, hF.put (nodup_of rfl) 14 rfl (hf.lt rfl), hM.put 14 93 _ rfl rfl, q0⟩)
 · intro l a W hl hw hsh hI' K hK
   obtain ⟨hf, hC, hF, hM, q0⟩ := (hI _ _ _).1 hI'
   have x4 := hf.at_ 4 rfl rfl
   have x93 := hF.get 14 rfl (hw 14 (by kernel_rfl))
   refine want (wants rfl rfl x93) ?_
   go_simp
   exact hK.out _ _ ((hI _ _ _).2 ⟨hf.put 94 _ rfl, hC, hF.put (nodup_of rfl) 15 rfl (hf.lt rfl), hM.put 15 94 _ rfl rfl, q0⟩)
 · intro l a W hl hw hsh hI' K hK
   obtain ⟨hf, hC, hF, hM, q0⟩ := (hI _ _ _).1 hI'
   have x93 := hF.get 14 rfl (hw 14 (by kernel_rfl))
   have x94 := hF.get 15 rfl (hw 15 (by kernel_rfl))
   refine want (wants rfl rfl x93) ?_
   have k0 := x95.out _ hC
   go_simp
   exact hK.out _ _ ((hI _ _ _).2 ⟨hf.put 95 _ rfl, hC, hF.put (nodup_of rfl) 16 rfl (hf.lt rfl), hM.put 16 95 _ rfl rfl, q0⟩)
 · intro l a W hl hw hsh hI' K hK
   obtain ⟨hf, hC, hF, hM, q0⟩ := (hI _ _ _).1 hI'
   have x93 := hF.get 14 rfl (hw 14 (by kernel_rfl))
   have x95 := hF.get 16 rfl (hw 16 (by kernel_rfl))
   refine want (wants rfl rfl x93) ?_
   go_simp
   exact hK.out _ _ ((hI _ _ _).2 ⟨hf.put 96 _ rfl, hC, hF.put (nodup_of rfl) 17 rfl (hf.lt rfl), hM.put 17 96 _ rfl rfl, q0⟩)
 · intro l a W hl hw hsh hI' K hK
   obtain ⟨hf, hC, hF, hM, q0⟩ := (hI _ _ _).1 hI'
   have x93 := hF.get 14 rfl (hw 14 (by kernel_rfl))
   have x96 := hF.get 17 rfl (hw 17 (by kernel_rfl))
   refine want rfl ?_
   go_simp
   exact hK.out _ _ ((hI _ _ _).2 ⟨hf.put 97 _ rfl, hC, hF.put (nodup_of rfl) 18 rfl (hf.lt rfl), hM.put 18 97 _ rfl rfl, q0⟩)
 · intro l a W hl hw hsh hI' K hK
   obtain ⟨hf, hC, hF, hM, q0⟩ := (hI _ _ _).1 hI'
   have x97 := hF.get 18 rfl (hw 18 (by kernel_rfl))
   refine want rfl ?_
   go_simp
   exact hK.out _ _ ((hI _ _ _).2 ⟨hf.put 98 _ rfl, hC, hF.put (nodup_of rfl) 19 rfl (hf.lt rfl), hM.put 19 98 _ rfl rfl, q0⟩)
 · intro l a W hl hw hsh hI' K hK
   obtain ⟨hf, hC, hF, hM, q0⟩ := (hI _ _ _).1 hI'
   have x98 := hF.get 19 rfl (hw 19 (by kernel_rfl))
   refine want (wants rfl rfl x98) ?_
   go_simp
   refine Calls.mono (C99.out W hC) ?_
   rintro e W2 ⟨v99', rfl, hp, hb⟩
   exact hK.out _ _ ((hI _ _ _).2 ⟨hf.put 99 _ rfl, hC.call hb, hF.other 20 99 _ rfl rfl, (hM.world hst hb).add 0 20 rfl (nodup_of rfl) (nodup_of rfl) (hf.lt rfl) ⟨v99', rfl, hp⟩, q0.call hb⟩)
 · intro l a W hl hw hsh hI' K hK
   obtain ⟨hf, hC, hF, hM, q0⟩ := (hI _ _ _).1 hI'
   have x4 := hf.at_ 4 rfl rfl
   have x98 := hF.get 19 rfl (hw 19 (by kernel_rfl))
   refine want (wants rfl rfl x98) ?_
   go_simp
   exact hK.out _ _ ((hI _ _ _).2 ⟨hf.put 100 _ rfl, hC, hF.put (nodup_of rfl) 21 rfl (hf.lt rfl), hM.put 21 100 _ rfl rfl, q0⟩)
 · intro l a W hl hw hsh hI' K hK
   obtain ⟨hf, hC, hF, hM, q0⟩ := (hI _ _ _).1 hI'
   have x98 := hF.get 19 rfl (hw 19 (by kernel_rfl))
   have x100 := hF.get 21 rfl (hw 21 (by kernel_rfl))
   refine want (wants rfl rfl x98) ?_
   have k0 := x101.out _ hC
   go_simp
   exact hK.out _ _ ((hI _ _ _).2 ⟨hf.put 101 _ rfl, hC, hF.put (nodup_of rfl) 22 rfl (hf.lt rfl), hM.put 22 101 _ rfl rfl, q0⟩)
 · intro l a W hl hw hsh hI' K hK
   obtain ⟨hf, hC, hF, hM, q0⟩ := (hI _ _ _).1 hI'
   have x98 := hF.get 19 rfl (hw 19 (by kernel_rfl))
   obtain ⟨_, x99, v99', rfl, hm20⟩ := hM.get 0 rfl (hw 20 (by kernel_rfl)) rfl
   have x101 := hF.get 22 rfl (hw 22 (by kernel_rfl))
   refine want (wants rfl rfl x98) ?_
   go_simp
   refine Calls.mono (C102.out W v99' hC hm20) ?_
   rintro e W2 ⟨rfl, hb⟩
   exact hK.out _ _ ((hI _ _ _).2 ⟨hf.put 102 _ rfl, hC.call hb, hF.put (nodup_of rfl) 23 rfl (hf.lt rfl), (hM.put 23 102 _ rfl rfl).world hst hb, q0.call hb⟩)
 · intro l a W hl hw hsh hI' K hK
   obtain ⟨hf, hC, hF, hM, q0⟩ := (hI _ _ _).1 hI'
   have x98 := hF.get 19 rfl (hw 19 (by kernel_rfl))
   have x102 := hF.get 23 rfl (hw 23 (by kernel_rfl))
   refine want rfl ?_
   go_simp
   exact hK.out _ _ ((hI _ _ _).2 ⟨hf.put 103 _ rfl, hC, hF.put (nodup_of rfl) 24 rfl (hf.lt rfl), hM.put 24 103 _ rfl rfl, q0⟩)
 · intro l a W hl hw hsh hI' K hK
   obtain ⟨hf, hC, hF, hM, q0⟩ := (hI _ _ _).1 hI'
   have x103 := hF.get 24 rfl (hw 24 (by kernel_rfl))
   refine want rfl ?_
   go_simp
   exact hK.out _ _ ((hI _ _ _).2 ⟨hf.put 104 _ rfl, hC, hF.put (nodup_of rfl) 25 rfl (hf.lt rfl), hM.put 25 104 _ rfl rfl, q0⟩)
 · intro l a W hl hw hsh hI' K hK
   obtain ⟨hf, hC, hF, hM, q0⟩ := (hI _ _ _).1 hI'
   have x6 := hf.at_ 6 rfl rfl
   have x104 := hF.get 25 rfl (hw 25 (by kernel_rfl))
   refine want (wants rfl rfl x104) ?_
   go_simp
   exact hK.out _ _ ((hI _ _ _).2 ⟨hf.put 105 _ rfl, hC, hF.put (nodup_of rfl) 26 rfl (hf.lt rfl), hM.put 26 105 _ rfl rfl, q0⟩)
 · intro l a W hl hw hsh hI' K hK
   obtain ⟨hf, hC, hF, hM, q0⟩ := (hI _ _ _).1 hI'
   have x104 := hF.get 25 rfl (hw 25 (by kernel_rfl))
   have x105 := hF.get 26 rfl (hw 26 (by kernel_rfl))
   refine want (wants rfl rfl x104) ?_
   have k0 := x106.out _ hC
   go_simp
   exact hK.out _ _ ((hI _ _ _).2 ⟨hf.put 106 _ rfl, hC, hF.put (nodup_of rfl) 27 rfl (hf.lt rfl), hM.put 27 106 _ rfl rfl, q0⟩)
 · intro l a W hl hw hsh hI' K hK
   obtain ⟨hf, hC, hF, hM, q0⟩ := (hI _ _ _).1 hI'
   have x104 := hF.get 25 rfl (hw 25 (by kernel_rfl))
   have x106 := hF.get 27 rfl (hw 27 (by kernel_rfl))
   refine want rfl ?_
   go_simp
   exact hK.out _ _ ((hI _ _ _).2 ⟨hf.put 107 _ rfl, hC, hF.put (nodup_of rfl) 28 rfl (hf.lt rfl), hM.put 28 107 _ rfl rfl, q0⟩)
 · intro l a W hl hw hsh hI' K hK
   obtain ⟨hf, hC, hF, hM, q0⟩ := (hI _ _ _).1 hI'
   have x107 := hF.get 28 rfl (hw 28 (by kernel_rfl))
   refine want rfl ?_
   go_simp
   exact hK.out _ _ ((hI _ _ _).2 ⟨hf.put 108 _ rfl, hC, hF.put (nodup_of rfl) 29 rfl (hf.lt rfl), hM.put 29 108 _ rfl rfl, q0⟩)
 · intro l a W hl hw hsh hI' K hK
   obtain ⟨hf, hC, hF, hM, q0⟩ := (hI _ _ _).1 hI'
   have x6 := hf.at_ 6 rfl rfl
   have x108 := hF.get 29 rfl (hw 29 (by kernel_rfl))
   refine want (wants rfl rfl x108) ?_
   go_simp
   exact hK.out _ _ ((hI _ _ _).2 ⟨hf.put 109 _ rfl, hC, hF.put (nodup_of rfl) 30 rfl (hf.lt rfl), hM.put 30 109 _ rfl rfl, q0⟩)
 · intro l a W hl hw hsh hI' K hK
   obtain ⟨hf, hC, hF, hM, q0⟩ := (hI _ _ _).1 hI'
   have x108 := hF.get 29 rfl (hw 29 (by kernel_rfl))
   have x109 := hF.get 30 rfl (hw 30 (by kernel_rfl))
   refine want (wants rfl rfl x108) ?_
   go_simp
   exact hK.out _ _ ((hI _ _ _).2 ⟨hf.put 110 _ rfl, hC, hF.put (nodup_of rfl) 31 rfl (hf.lt rfl), hM.put 31 110 _ rfl rfl, q0⟩)
 · intro l a W hl hw hsh hI' K hK
   obtain ⟨hf, hC, hF, hM, q0⟩ := (hI _ _ _).1 hI'
   have x108 := hF.get 29 rfl (hw 29 (by kernel_rfl))
   have x110 := hF.get 31 rfl (hw 31 (by kernel_rfl))
   refine want (wants rfl rfl x108) ?_
   have k0 := x111.out _ hC
   go_simp
   exact hK.out _ _ ((hI _ _ _).2 ⟨hf.put 111 _ rfl, hC, hF.put (nodup_of rfl) 32 rfl (hf.lt rfl), hM.put 32 111 _ rfl rfl, q0⟩)
 · intro l a W hl hw hsh hI' K hK
   obtain ⟨hf, hC, hF, hM, q0⟩ := (hI _ _ _).1 hI'
   have x108 := hF.get 29 rfl (hw 29 (by kernel_rfl))
   have x111 := hF.get 32 rfl (hw 32 (by kernel_rfl))
   refine want (wants rfl rfl x108) ?_
   go_simp
   exact hK.out _ _ ((hI _ _ _).2 ⟨hf.put 112 _ rfl, hC, hF.put (nodup_of rfl) 33 rfl (hf.lt rfl), hM.put 33 112 _ rfl rfl, q0⟩)
 · intro l a W hl hw hsh hI' K hK
   obtain ⟨hf, hC, hF, hM, q0⟩ := (hI _ _ _).1 hI'
   have x108 := hF.get 29 rfl (hw 29 (by kernel_rfl))
   have x112 := hF.get 33 rfl (hw 33 (by kernel_rfl))
   refine want (wants rfl rfl x108) ?_
   go_simp
   exact hK.out _ _ ((hI _ _ _).2 ⟨hf.put 113 _ rfl, hC, hF.put (nodup_of rfl) 34 rfl (hf.lt rfl), hM.put 34 113 _ rfl rfl, q0⟩)
 · intro l a W hl hw hsh hI' K hK
   obtain ⟨hf, hC, hF, hM, q0⟩ := (hI _ _ _).1 hI'
   have x108 := hF.get 29 rfl (hw 29 (by kernel_rfl))
   have x113 := hF.get 34 rfl (hw 34 (by kernel_rfl))
   refine want rfl ?_
   go_simp
   exact hK.out _ _ ((hI _ _ _).2 ⟨hf.put 114 _ rfl, hC, hF.put (nodup_of rfl) 35 rfl (hf.lt rfl), hM.put 35 114 _ rfl rfl, q0⟩)
 · intro l a W hl hw hsh hI' K hK
   obtain ⟨hf, hC, hF, hM, q0⟩ := (hI _ _ _).1 hI'
   have x114 := hF.get 35 rfl (hw 35 (by kernel_rfl))
   refine want rfl ?_
   go_simp
   exact hK.out _ _ ((hI _ _ _).2 ⟨hf.put 115 _ rfl, hC, hF.put (nodup_of rfl) 36 rfl (hf.lt rfl), hM.put 36 115 _ rfl rfl, q0⟩)
 · intro l a W hl hw hsh hI' K hK
   obtain ⟨hf, hC, hF, hM, q0⟩ := (hI _ _ _).1 hI'
   have x8 := hf.at_ 8 rfl rfl
   have x115 := hF.get 36 rfl (hw 36 (by kernel_rfl))
   refine want (wants rfl rfl x115) ?_
   go_simp
   exact hK.out _ _ ((hI _ _ _).2 ⟨hf.put 116 _ rfl, hC, hF.put (nodup_of rfl) 37 rfl (hf.lt rfl), hM.put 37 116 _ rfl rfl, q0⟩)
 · intro l a W hl hw hsh hI' K hK
   obtain ⟨hf, hC, hF, hM, q0⟩ := (hI _ _ _).1 hI'
   have x115 := hF.get 36 rfl (hw 36 (by kernel_rfl))
   have x116 := hF.get 37 rfl (hw 37 (by kernel_rfl))
   refine want (wants rfl rfl x115) ?_
   have k0 := x117.out _ hC
   go_simp
   exact hK.out _ _ ((hI _ _ _).2 ⟨hf.put 117 _ rfl, hC, hF.put (nodup_of rfl) 38 rfl (hf.lt rfl), hM.put 38 117 _ rfl rfl, q0⟩)
 · intro l a W hl hw hsh hI' K hK
   obtain ⟨hf, hC, hF, hM, q0⟩ := (hI _ _ _).1 hI'
   have x115 := hF.get 36 rfl (hw 36 (by kernel_rfl))
   have x117 := hF.get 38 rfl (hw 38 (by kernel_rfl))
   refine want (wants rfl rfl x115) ?_
   go_simp
   exact hK.out _ _ ((hI _ _ _).2 ⟨hf.put 118 _ rfl, hC, hF.put (nodup_of rfl) 39 rfl (hf.lt rfl), hM.put 39 118 _ rfl rfl, q0⟩)
 · intro l a W hl hw hsh hI' K hK
   obtain ⟨hf, hC, hF, hM, q0⟩ := (hI _ _ _).1 hI'
   have x115 := hF.get 36 rfl (hw 36 (by kernel_rfl))
   have x118 := hF.get 39 rfl (hw 39 (by kernel_rfl))
   refine want rfl ?_
   go_simp
   exact hK.out _ _ ((hI _ _ _).2 ⟨hf.put 119 _ rfl, hC, hF.put (nodup_of rfl) 40 rfl (hf.lt rfl), hM.put 40 119 _ rfl rfl, q0⟩)
 · intro l a W hl hw hsh hI' K hK
   obtain ⟨hf, hC, hF, hM, q0⟩ := (hI _ _ _).1 hI'
   have x119 := hF.get 40 rfl (hw 40 (by kernel_rfl))
   refine want rfl ?_
   go_simp
   exact hK.out _ _ ((hI _ _ _).2 ⟨hf.put 120 _ rfl, hC, hF.put (nodup_of rfl) 41 rfl (hf.lt rfl), hM.put 41 120 _ rfl rfl, q0⟩)
 · intro l a W hl hw hsh hI' K hK
   obtain ⟨hf, hC, hF, hM, q0⟩ := (hI _ _ _).1 hI'
   have x8 := hf.at_ 8 rfl rfl
   have x120 := hF.get 41 rfl (hw 41 (by kernel_rfl))
   refine want (wants rfl rfl x120) ?_
   go_simp
   exact hK.out _ _ ((hI _ _ _).2 ⟨hf.put 121 _ rfl, hC, hF.put (nodup_of rfl) 42 rfl (hf.lt rfl), hM.put 42 121 _ rfl rfl, q0⟩)
 · intro l a W hl hw hsh hI' K hK
   obtain ⟨hf, hC, hF, hM, q0⟩ := (hI _ _ _).1 hI'
   have x120 := hF.get 41 rfl (hw 41 (by kernel_rfl))
   have x121 := hF.get 42 rfl (hw 42 (by kernel_rfl))
   refine want (wants rfl rfl x120) ?_
   have k0 := x122.out _ hC
   go_simp
   exact hK.out _ _ ((hI _ _ _).2 ⟨hf.put 122 _ rfl, hC, hF.put (nodup_of rfl) 43 rfl (hf.lt rfl), hM.put 43 122 _ rfl rfl, q0⟩)
 · intro l a W hl hw hsh hI' K hK
   obtain ⟨hf, hC, hF, hM, q0⟩ := (hI _ _ _).1 hI'
   have x120 := hF.get 41 rfl (hw 41 (by kernel_rfl))
   have x122 := hF.get 43 rfl (hw 43 (by kernel_rfl))
   refine want (wants rfl rfl x120) ?_
   go_simp
   exact hK.out _ _ ((hI _ _ _).2 ⟨hf.put 123 _ rfl, hC, hF.put (nodup_of rfl) 44 rfl (hf.lt rfl), hM.put 44 123 _ rfl rfl, q0⟩)
 · intro l a W hl hw hsh hI' K hK
   obtain ⟨hf, hC, hF, hM, q0⟩ := (hI _ _ _).1 hI'
   have x120 := hF.get 41 rfl (hw 41 (by kernel_rfl))
   have x123 := hF.get 44 rfl (hw 44 (by kernel_rfl))
   refine want (wants rfl rfl x120) ?_
   go_simp
   exact hK.out _ _ ((hI _ _ _).2 ⟨hf.put 124 _ rfl, hC, hF.put (nodup_of rfl) 45 rfl (hf.lt rfl), hM.put 45 124 _ rfl rfl, q0⟩)
 · intro l a W hl hw hsh hI' K hK
   obtain ⟨hf, hC, hF, hM, q0⟩ := (hI _ _ _).1 hI'
   have x120 := hF.get 41 rfl (hw 41 (by kernel_rfl))
   have x124 := hF.get 45 rfl (hw 45 (by kernel_rfl))
   refine want rfl ?_
   go_simp
   exact hK.out _ _ ((hI _ _ _).2 ⟨hf.put 125 _ rfl, hC, hF.put (nodup_of rfl) 46 rfl (hf.lt rfl), hM.put 46 125 _ rfl rfl, q0⟩)
 · intro l a W hl hw hsh hI' K hK
   obtain ⟨hf, hC, hF, hM, q0⟩ := (hI _ _ _).1 hI'
   have x125 := hF.get 46 rfl (hw 46 (by kernel_rfl))
   refine want rfl ?_
   go_simp
   exact hK.out _ _ ((hI _ _ _).2 ⟨hf.put 14 _ rfl, hC, hF.put (nodup_of rfl) 47 rfl (hf.lt rfl), hM.put 47 14 _ rfl rfl, q0⟩)
 · intro a W hI'
   obtain ⟨hf, hC, hF, hM, q0⟩ := (hI _ _ _).1 hI'
   have hM9 := q0
   have x14 := hF.get 47 rfl (by kernel_rfl)
   have he := hf.eq
   obtain ⟨x, hx⟩ : ∃ x : Nat → Value, x = fun n : Nat => a.tmps[n]?.getD undef := ⟨_, rfl⟩
   rw [← hx] at he
   have y14 : x 14 = .bool true := by rw [hx]; simp [x14]
   have e2 : fill [79, 80, 81, 82, 83, 84, 85, 86, 87, 88, 89, 90, 91, 92, 93, 94, 95, 96, 97, 98, 99, 100, 101, 102, 103, 104, 105, 106, 107, 108, 109, 110, 111, 112, 113, 114, 115, 116, 117, 118, 119, 120, 121, 122, 123, 124, 125, 14] x 0 (u0::.pointer (some ⟨bV, 0, none⟩)::.pointer (some ⟨bA, 0, none⟩)::u3::.pointer (some ⟨bB, 0, none⟩)::u5::.pointer (some ⟨bC, 0, none⟩)::u7::.pointer (some ⟨bD, 0, none⟩)::u9::u10::u11::u12::u13::u14::u15::u16::u17::u18::u19::u20::u21::u22::u23::u24::u25::u26::u27::u28::u29::u30::u31::u32::u33::u34::u35::u36::u37::u38::u39::u40::u41::u42::u43::u44::u45::u46::u47::u48::u49::u50::u51::u52::u53::u54::u55::u56::u57::u58::u59::u60::u61::u62::u63::u64::u65::u66::u67::u68::u69::u70::u71::u72::u73::u74::u75::u76::u77::u78::u79::u80::u81::u82::u83::u84::u85::u86::u87::u88::u89::u90::u91::u92::u93::u94::u95::u96::u97::u98::u99::u100::u101::u102::u103::u104::u105::u106::u107::u108::u109::u110::u111::u112::u113::u114::u115::u116::u117::u118::u119::u120::u121::u122::u123::u124::u125::u126::u127::u128::u129::u130::u131::u132::u133::u134::u135::u136::u137::u138::u139::u140::u141::u142::u143::u144::u145::u146::u147::u148::u149::u150::u151::u152::u153::u154::u155::u156::u157::u158::u159::u160::u161::u162::u163::u164::u165::u166::u167::u168::u169::u170::[]) = (u0::.pointer (some ⟨bV, 0, none⟩)::.pointer (some ⟨bA, 0, none⟩)::u3::.pointer (some ⟨bB, 0, none⟩)::u5::.pointer (some ⟨bC, 0, none⟩)::u7::.pointer (some ⟨bD, 0, none⟩)::u9::u10::u11::u12::u13::x 14::u15::u16::u17::u18::u19::u20::u21::u22::u23::u24::u25::u26::u27::u28::u29::u30::u31::u32::u33::u34::u35::u36::u37::u38::u39::u40::u41::u42::u43::u44::u45::u46::u47::u48::u49::u50::u51::u52::u53::u54::u55::u56::u57::u58::u59::u60::u61::u62::u63::u64::u65::u66::u67::u68::u69::u70::u71::u72::u73::u74::u75::u76::u77::u78::x 79::x 80::x 81::x 82::x 83::x 84::x 85::x 86::x 87::x 88::x 89::x 90::x 91::x 92::x 93::x 94::x 95::x 96::x 97::x 98::x 99::x 100::x 101::x 102::x 103::x 104::x 105::x 106::x 107::x 108::x 109::x 110::x 111::x 112::x 113::x 114::x 115::x 116::x 117::x 118::x 119::x 120::x 121::x 122::x 123::x 124::x 125::u126::u127::u128::u129::u130::u131::u132::u133::u134::u135::u136::u137::u138::u139::u140::u141::u142::u143::u144::u145::u146::u147::u148::u149::u150::u151::u152::u153::u154::u155::u156::u157::u158::u159::u160::u161::u162::u163::u164::u165::u166::u167::u168::u169::u170::[]) := by kernel_rfl
   rw [e2, y14] at he
   rw [he]
   exact hQ.out _ _ _ _ _ _ _ _ _ _ _ _ _ _ _ _ _ _ _ _ _ _ _ _ _ _ _ _ _ _ _ _ _ _ _ _ _ _ _ _ _ _ _ _ _ _ _   _ (Lib.hid hM9)
set_option maxRecDepth 100000 in
set_option maxHeartbeats 8000000 in
theorem sane6_r11 {Q : Exit → Act → World → Prop} {u0 u2 u3 u4 u5 u6 u7 u8 u9 u10 u11 u12 u13 u14 u15 u16 u17 u18 u19 u20 u21 u22 u23 u24 u25 u26 u27 u28 u29 u30 u31 u32 u33 u34 u35 u36 u37 u38 u39 u40 u41 u42 u43 u44 u45 u46 u47 u48 u49 u50 u51 u52 u53 u54 u55 u56 u57 u58 u59 u60 u61 u62 u63 u64 u65 u66 u67 u68 u69 u70 u71 u72 u73 u74 u75 u76 u77 u78 u79 u80 u81 u82 u83 u84 u85 u86 u87 u88 u89 u90 u91 u92 u93 u94 u95 u96 u97 u98 u99 u100 u101 u102 u103 u104 u105 u106 u107 u108 u109 u110 u111 u112 u113 u114 u115 u116 u117 u118 u119 u120 u121 u122 u123 u124 u125 u126 u127 u128 u129 u130 u131 u132 u133 u134 u135 u136 u137 u138 u139 u140 u141 u142 u143 u144 u145 u146 u147 u148 u149 u150 u151 u152 u153 u154 u155 u156 u157 u158 u159 u160 u161 u162 u163 u164 u165 u166 u167 u168 u169 u170 : Value} {bV bS : Nat} {w W0 : World} {L : BLs} {R : List RowD}    (C126 : Hid (∀ W, Mem w L R W → Calls Tryz.prog 34 #[.int .i64 3, .int .i64 1] W fun e W' => ∃ (v126' : Value), e = .returned (.agg #[.int .i64 2, v126']) ∧ SlE W' v126' (twoL 3 1) ∧ Below W.heap.size W W')) (x127_0 : Hid (∀ W, Mem w L R W → W.cell? ⟨bV, 0, none⟩ = some (.slice (some ⟨bS, 0, none⟩) 2 2))) (x127_1 : Hid (∀ W, Mem w L R W → W.cell? ⟨bV, 1, none⟩ = some (.string ⟨#[50]⟩))) (C128 : Hid (∀ W (v126' : Value), Mem w L R W → SlE W v126' (twoL 3 1) → Calls Tryz.prog 19 #[.agg #[.int .i64 2, v126'], .agg #[.slice (some ⟨bS, 0, none⟩) 2 2, .string ⟨#[50]⟩]] W (Rets W (.bool true)))) (C130 : Hid (∀ W, Mem w L R W → Calls Tryz.prog 34 #[.int .i64 3, .int .i64 2] W fun e W' => ∃ (v130' : Value), e = .returned (.agg #[.int .i64 2, v130']) ∧ SlE W' v130' (twoL 3 2) ∧ Below W.heap.size W W')) (x131_0 : Hid (∀ W, Mem w L R W → W.cell? ⟨bV, 0, none⟩ = some (.slice (some ⟨bS, 0, none⟩) 2 2))) (x131_1 : Hid (∀ W, Mem w L R W → W.cell? ⟨bV, 1, none⟩ = some (.string ⟨#[50]⟩))) (C132 : Hid (∀ W (v130' : Value), Mem w L R W → SlE W v130' (twoL 3 2) → Calls Tryz.prog 19 #[.agg #[.int .i64 2, v130'], .agg #[.slice (some ⟨bS, 0, none⟩) 2 2, .string ⟨#[50]⟩]] W (Rets W (.bool false)))) (C136 : Hid (∀ W, Mem w L R W → Calls Tryz.prog 34 #[.int .i64 3, .int .i64 4] W fun e W' => ∃ (v136' : Value), e = .returned (.agg #[.int .i64 2, v136']) ∧ SlE W' v136' (twoL 3 4) ∧ Below W.heap.size W W')) (C138 : Hid (∀ W (v136' : Value) (g137 : Nat), Mem w L R W → SlE W v136' (twoL 3 4) → Blk W g137 #[.string ⟨#[49]⟩, .string ⟨#[45, 49]⟩] 9 → Calls Tryz.prog 28 #[.agg #[.int .i64 2, v136'], .slice (some ⟨g137, 0, none⟩) 2 2] W (Rets W (.bool true)))) (C141 : Hid (∀ W, Mem w L R W → Calls Tryz.prog 34 #[.int .i64 3, .int .i64 4] W fun e W' => ∃ (v141' : Value), e = .returned (.agg #[.int .i64 2, v141']) ∧ SlE W' v141' (twoL 3 4) ∧ Below W.heap.size W W')) (C143 : Hid (∀ W (v141' : Value) (g142 : Nat), Mem w L R W → SlE W v141' (twoL 3 4) → Blk W g142 #[.string ⟨#[45, 49]⟩, .string ⟨#[49]⟩] 9 → Calls Tryz.prog 28 #[.agg #[.int .i64 2, v141'], .slice (some ⟨g142, 0, none⟩) 2 2] W (Rets W (.bool false)))) (C147 : Hid (∀ W, Mem w L R W → Calls Tryz.prog 34 #[.int .i64 3, .int .i64 1] W fun e W' => ∃ (v147' : Value), e = .returned (.agg #[.int .i64 2, v147']) ∧ SlE W' v147' (twoL 3 1) ∧ Below W.heap.size W W')) (C149 : Hid (∀ W (v147' : Value) (g148 : Nat), Mem w L R W → SlE W v147' (twoL 3 1) → Blk W g148 #[.string ⟨#[49]⟩, .string ⟨#[45, 49]⟩] 9 → Calls Tryz.prog 28 #[.agg #[.int .i64 2, v147'], .slice (some ⟨g148, 0, none⟩) 2 2] W (Rets W (.bool false)))) (h0 : Hid (Mem w L R W0)) {ops : Array Oper} (ho : getOps Tryz.f9.body 11 = some ops)
   (hQ : ∀ (v126 v127 v128 v129 v130 v131 v132 v133 v134 v135 v136 v137 v138 v139 v140 v141 v142 v143 v144 v145 v146 v147 v148 v149 v150 v151 : Value)  (W' : World), Hid (Mem w L R W') → Q .normal { tmps := List.toArray (u0::.pointer (some ⟨bV, 0, none⟩)::u2::u3::u4::u5::u6::u7::u8::u9::u10::u11::u12::u13::u14::.bool true::u16::u17::u18::u19::u20::u21::u22::u23::u24::u25::u26::u27::u28::u29::u30::u31::u32::u33::u34::u35::u36::u37::u38::u39::u40::u41::u42::u43::u44::u45::u46::u47::u48::u49::u50::u51::u52::u53::u54::u55::u56::u57::u58::u59::u60::u61::u62::u63::u64::u65::u66::u67::u68::u69::u70::u71::u72::u73::u74::u75::u76::u77::u78::u79::u80::u81::u82::u83::u84::u85::u86::u87::u88::u89::u90::u91::u92::u93::u94::u95::u96::u97::u98::u99::u100::u101::u102::u103::u104::u105::u106::u107::u108::u109::u110::u111::u112::u113::u114::u115::u116::u117::u118::u119::u120::u121::u122::u123::u124::u125::v126::v127::v128::v129::v130::v131::v132::v133::v134::v135::v136::v137::v138::v139::v140::v141::v142::v143::v144::v145::v146::v147::v148::v149::v150::v151::u152::u153::u154::u155::u156::u157::u158::u159::u160::u161::u162::u163::u164::u165::u166::u167::u168::u169::u170::[]), defers := [] } W') :
   (Code.region 11 ops true).wp Tryz.prog Q { tmps := List.toArray (u0::.pointer (some ⟨bV, 0, none⟩)::u2::u3::u4::u5::u6::u7::u8::u9::u10::u11::u12::u13::u14::u15::u16::u17::u18::u19::u20::u21::u22::u23::u24::u25::u26::u27::u28::u29::u30::u31::u32::u33::u34::u35::u36::u37::u38::u39::u40::u41::u42::u43::u44::u45::u46::u47::u48::u49::u50::u51::u52::u53::u54::u55::u56::u57::u58::u59::u60::u61::u62::u63::u64::u65::u66::u67::u68::u69::u70::u71::u72::u73::u74::u75::u76::u77::u78::u79::u80::u81::u82::u83::u84::u85::u86::u87::u88::u89::u90::u91::u92::u93::u94::u95::u96::u97::u98::u99::u100::u101::u102::u103::u104::u105::u106::u107::u108::u109::u110::u111::u112::u113::u114::u115::u116::u117::u118::u119::u120::u121::u122::u123::u124::u125::u126::u127::u128::u129::u130::u131::u132::u133::u134::u135::u136::u137::u138::u139::u140::u141::u142::u143::u144::u145::u146::u147::u148::u149::u150::u151::u152::u153::u154::u155::u156::u157::u158::u159::u160::u161::u162::u163::u164::u165::u166::u167::u168::u169::u170::[]), defers := [] } W0 := by
 obtain rfl := Option.some.inj (ho.symm.trans (rfl : getOps Tryz.f9.body 11 = some _))
 clear ho
 replace hQ := Lib.hid hQ
 have hst : MStable ([(0, 126, (fun yv W => ∃ (v126' : Value), yv = .agg #[.int .i64 2, v126'] ∧ SlE W v126' (twoL 3 1)), none), (4, 130, (fun yv W => ∃ (v130' : Value), yv = .agg #[.int .i64 2, v130'] ∧ SlE W v130' (twoL 3 2)), none), (10, 136, (fun yv W => ∃ (v136' : Value), yv = .agg #[.int .i64 2, v136'] ∧ SlE W v136' (twoL 3 4)), none), (11, 137, (fun yv W => ∃ (g137 : Nat), yv = .slice (some ⟨g137, 0, none⟩) 2 2 ∧ Blk W g137 #[.string ⟨#[49]⟩, .string ⟨#[45, 49]⟩] 9), none), (15, 141, (fun yv W => ∃ (v141' : Value), yv = .agg #[.int .i64 2, v141'] ∧ SlE W v141' (twoL 3 4)), none), (16, 142, (fun yv W => ∃ (g142 : Nat), yv = .slice (some ⟨g142, 0, none⟩) 2 2 ∧ Blk W g142 #[.string ⟨#[45, 49]⟩, .string ⟨#[49]⟩] 9), none), (21, 147, (fun yv W => ∃ (v147' : Value), yv = .agg #[.int .i64 2, v147'] ∧ SlE W v147' (twoL 3 1)), none), (22, 148, (fun yv W => ∃ (g148 : Nat), yv = .slice (some ⟨g148, 0, none⟩) 2 2 ∧ Blk W g148 #[.string ⟨#[49]⟩, .string ⟨#[45, 49]⟩] 9), none)] : ML) := by
   intro p hp yv W W' hb h
   simp only [List.mem_cons, List.not_mem_nil, or_false] at hp
   rcases hp with rfl | rfl | rfl | rfl | rfl | rfl | rfl | rfl
   · obtain ⟨g0, e, h⟩ := h; exact ⟨g0, e, h.below hb⟩
   · obtain ⟨g0, e, h⟩ := h; exact ⟨g0, e, h.below hb⟩
   · obtain ⟨g0, e, h⟩ := h; exact ⟨g0, e, h.below hb⟩
   · obtain ⟨g, e, h⟩ := h; exact ⟨g, e, h.below hb⟩
   · obtain ⟨g0, e, h⟩ := h; exact ⟨g0, e, h.below hb⟩
   · obtain ⟨g, e, h⟩ := h; exact ⟨g, e, h.below hb⟩
   · obtain ⟨g0, e, h⟩ := h; exact ⟨g0, e, h.below hb⟩
   · obtain ⟨g, e, h⟩ := h; exact ⟨g, e, h.below hb⟩
 obtain ⟨Iv, hI⟩ : ∃ Iv : (Nat → Bool) → Act → World → Prop, ∀ l a W, Iv l a W ↔ (Fr (List.toArray (u0::.pointer (some ⟨bV, 0, none⟩)::u2::u3::u4::u5::u6::u7::u8::u9::u10::u11::u12::u13::u14::u15::u16::u17::u18::u19::u20::u21::u22::u23::u24::u25::u26::u27::u28::u29::u30::u31::u32::u33::u34::u35::u36::u37::u38::u39::u40::u41::u42::u43::u44::u45::u46::u47::u48::u49::u50::u51::u52::u53::u54::u55::u56::u57::u58::u59::u60::u61::u62::u63::u64::u65::u66::u67::u68::u69::u70::u71::u72::u73::u74::u75::u76::u77::u78::u79::u80::u81::u82::u83::u84::u85::u86::u87::u88::u89::u90::u91::u92::u93::u94::u95::u96::u97::u98::u99::u100::u101::u102::u103::u104::u105::u106::u107::u108::u109::u110::u111::u112::u113::u114::u115::u116::u117::u118::u119::u120::u121::u122::u123::u124::u125::u126::u127::u128::u129::u130::u131::u132::u133::u134::u135::u136::u137::u138::u139::u140::u141::u142::u143::u144::u145::u146::u147::u148::u149::u150::u151::u152::u153::u154::u155::u156::u157::u158::u159::u160::u161::u162::u163::u164::u165::u166::u167::u168::u169::u170::[])) [126, 127, 128, 129, 130, 131, 132, 133, 134, 135, 136, 137, 138, 139, 140, 141, 142, 143, 144, 145, 146, 147, 148, 149, 150, 151, 15] a ∧ Mem w L R W ∧ Vals [none, some (127, .agg #[.slice (some ⟨bS, 0, none⟩) 2 2, .string ⟨#[50]⟩]), some (128, .bool true), some (129, .bool true), none, some (131, .agg #[.slice (some ⟨bS, 0, none⟩) 2 2, .string ⟨#[50]⟩]), some (132, .bool false), some (133, .bool true), some (134, .bool true), some (135, .bool true), none, none, some (138, .bool true), some (139, .bool true), some (140, .bool true), none, none, some (143, .bool false), some (144, .bool true), some (145, .bool true), some (146, .bool true), none, none, some (149, .bool false), some (150, .bool true), some (151, .bool true), some (15, .bool true)] l a ∧ Mems ([(0, 126, (fun yv W => ∃ (v126' : Value), yv = .agg #[.int .i64 2, v126'] ∧ SlE W v126' (twoL 3 1)), none), (4, 130, (fun yv W => ∃ (v130' : Value), yv = .agg #[.int .i64 2, v130'] ∧ SlE W v130' (twoL 3 2)), none), (10, 136, (fun yv W => ∃ (v136' : Value), yv = .agg #[.int .i64 2, v136'] ∧ SlE W v136' (twoL 3 4)), none), (11, 137, (fun yv W => ∃ (g137 : Nat), yv = .slice (some ⟨g137, 0, none⟩) 2 2 ∧ Blk W g137 #[.string ⟨#[49]⟩, .string ⟨#[45, 49]⟩] 9), none), (15, 141, (fun yv W => ∃ (v141' : Value), yv = .agg #[.int .i64 2, v141'] ∧ SlE W v141' (twoL 3 4)), none), (16, 142, (fun yv W => ∃ (g142 : Nat), yv = .slice (some ⟨g142, 0, none⟩) 2 2 ∧ Blk W g142 #[.string ⟨#[45, 49]⟩, .string ⟨#[49]⟩] 9), none), (21, 147, (fun yv W => ∃ (v147' : Value), yv = .agg #[.int .i64 2, v147'] ∧ SlE W v147' (twoL 3 1)), none), (22, 148, (fun yv W => ∃ (g148 : Nat), yv = .slice (some ⟨g148, 0, none⟩) 2 2 ∧ Blk W g148 #[.string ⟨#[49]⟩, .string ⟨#[45, 49]⟩] 9), none)] : ML) l a W ∧ (Mem w L R W)) := ⟨_, fun _ _ _ => Iff.rfl⟩
 refine wp_region_inv Iv (by kernel_rfl) (by kernel_rfl) ((hI _ _ _).2 ⟨Fr.start _ _, h0.out.drew, Vals.zero, Mems.zero, h0.out.drew⟩) (stepsI_cons (k := 0) ?_ (stepsI_cons (k := 1) ?_ (stepsI_cons (k := 2) ?_ (stepsI_cons (k := 3) ?_ (stepsI_cons (k := 4) ?_ (stepsI_cons (k := 5) ?_ (stepsI_cons (k := 6) ?_ (stepsI_cons (k := 7) ?_ (stepsI_cons (k := 8) ?_ (stepsI_cons (k := 9) ?_ (stepsI_cons (k := 10) ?_ (stepsI_cons (k := 11) ?_ (stepsI_cons (k := 12) ?_ (stepsI_cons (k := 13) ?_ (stepsI_cons (k := 14) ?_ (stepsI_cons (k := 15) ?_ (stepsI_cons (k := 16) ?_ (stepsI_cons (k := 17) ?_ (stepsI_cons (k := 18) ?_ (stepsI_cons (k := 19) ?_ (stepsI_cons (k := 20) ?_ (stepsI_cons (k := 21) ?_ (stepsI_cons (k := 22) ?_ (stepsI_cons (k := 23) ?_ (stepsI_cons (k := 24) ?_ (stepsI_cons (k := 25) ?_ (stepsI_cons (k := 26) ?_ (stepsI_nil)))))))))))))))))))))))))))) ?_
 · intro l a W hl hw hsh hI' K hK
   obtain ⟨hf, hC, hF, hM, q0⟩ := (hI _ _ _).1 hI'
   refine want rfl ?_
   go_simp
   refine Calls.mono (C126.out W hC) ?_
   rintro e W2 ⟨v126', rfl, hp, hb⟩
   exact hK.out _ _ ((hI _ _ _).2 ⟨hf.put 126 _ rfl, hC.call hb, hF.other 0 126 _ rfl rfl, (hM.world hst hb).add 0 0 rfl (nodup_of rfl) (nodup_of rfl) (hf.lt rfl) ⟨v126', rfl, hp⟩, q0.call hb⟩)
 · intro l a W hl hw hsh hI' K hK
   obtain ⟨hf, hC, hF, hM, q0⟩ := (hI _ _ _).1 hI'
   have x1 := hf.at_ 1 rfl rfl
   refine want rfl ?_
   have k0 := x127_0.out _ hC
   have k1 := x127_1.out _ hC
   go_simp
   exact hK.out _ _ ((hI _ _ _).2 ⟨hf.put 127 _ rfl, hC, hF.put (nodup_of rfl) 1 rfl (hf.lt rfl), hM.put 1 127 _ rfl rfl, q0⟩)
 · intro l a W hl hw hsh hI' K hK
   obtain ⟨hf, hC, hF, hM, q0⟩ := (hI _ _ _).1 hI'
   obtain ⟨_, x126, v126', rfl, hm0⟩ := hM.get 0 rfl (hw 0 (by kernel_rfl)) rfl
   have x127 := hF.get 1 rfl (hw 1 (by kernel_rfl))
   refine want rfl ?_
   go_simp
   refine Calls.mono (C128.out W v126' hC hm0) ?_
   rintro e W2 ⟨rfl, hb⟩
   exact hK.out _ _ ((hI _ _ _).2 ⟨hf.put 128 _ rfl, hC.call hb, hF.put (nodup_of rfl) 2 rfl (hf.lt rfl), (hM.put 2 128 _ rfl rfl).world hst hb, q0.call hb⟩)
 · intro l a W hl hw hsh hI' K hK
   obtain ⟨hf, hC, hF, hM, q0⟩ := (hI _ _ _).1 hI'
   have x128 := hF.get 2 rfl (hw 2 (by kernel_rfl))
   refine want rfl ?_
   go_simp
   exact hK.out _ _ ((hI _ _ _).2 ⟨hf.put 129 _ rfl, hC, hF.put (nodup_of rfl) 3 rfl (hf.lt rfl), hM.put 3 129 _ rfl rfl, q0⟩)
 · intro l a W hl hw hsh hI' K hK
   obtain ⟨hf, hC, hF, hM, q0⟩ := (hI _ _ _).1 hI'
   have x129 := hF.get 3 rfl (hw 3 (by kernel_rfl))
   refine want (wants rfl rfl x129) ?_
   go_simp
   refine Calls.mono (C130.out W hC) ?_
   rintro e W2 ⟨v130', rfl, hp, hb⟩
   exact hK.out _ _ ((hI _ _ _).2 ⟨hf.put 130 _ rfl, hC.call hb, hF.other 4 130 _ rfl rfl, (hM.world hst hb).add 1 4 rfl (nodup_of rfl) (nodup_of rfl) (hf.lt rfl) ⟨v130', rfl, hp⟩, q0.call hb⟩)
 · intro l a W hl hw hsh hI' K hK
   obtain ⟨hf, hC, hF, hM, q0⟩ := (hI _ _ _).1 hI'
   have x1 := hf.at_ 1 rfl rfl
   have x129 := hF.get 3 rfl (hw 3 (by kernel_rfl))
   refine want (wants rfl rfl x129) ?_
   have k0 := x131_0.out _ hC
   have k1 := x131_1.out _ hC
   go_simp
   exact hK.out _ _ ((hI _ _ _).2 ⟨hf.put 131 _ rfl, hC, hF.put (nodup_of rfl) 5 rfl (hf.lt rfl), hM.put 5 131 _ rfl rfl, q0⟩)
 · intro l a W hl hw hsh hI' K hK
   obtain ⟨hf, hC, hF, hM, q0⟩ := (hI _ _ _).1 hI'
   have x129 := hF.get 3 rfl (hw 3 (by kernel_rfl))
   obtain ⟨_, x130, v130', rfl, hm4⟩ := hM.get 1 rfl (hw 4 (by kernel_rfl)) rfl
   have x131 := hF.get 5 rfl (hw 5 (by kernel_rfl))
   refine want (wants rfl rfl x129) ?_
   go_simp
   refine Calls.mono (C132.out W v130' hC hm4) ?_
   rintro e W2 ⟨rfl, hb⟩
   exact hK.out _ _ ((hI _ _ _).2 ⟨hf.put 132 _ rfl, hC.call hb, hF.put (nodup_of rfl) 6 rfl (hf.lt rfl), (hM.put 6 132 _ rfl rfl).world hst hb, q0.call hb⟩)
 · intro l a W hl hw hsh hI' K hK
   obtain ⟨hf, hC, hF, hM, q0⟩ := (hI _ _ _).1 hI'
   have x129 := hF.get 3 rfl (hw 3 (by kernel_rfl))
   have x132 := hF.get 6 rfl (hw 6 (by kernel_rfl))
   refine want (wants rfl rfl x129) ?_
   go_simp
   exact hK.out _ _ ((hI _ _ _).2 ⟨hf.put 133 _ rfl, hC, hF.put (nodup_of rfl) 7 rfl (hf.lt rfl), hM.put 7 133 _ rfl rfl, q0⟩)
 · intro l a W hl hw hsh hI' K hK
   obtain ⟨hf, hC, hF, hM, q0⟩ := (hI _ _ _).1 hI'
   have x129 := hF.get 3 rfl (hw 3 (by kernel_rfl))
   have x133 := hF.get 7 rfl (hw 7 (by kernel_rfl))
   refine want rfl ?_
   go_simp
   exact hK.out _ _ ((hI _ _ _).2 ⟨hf.put 134 _ rfl, hC, hF.put (nodup_of rfl) 8 rfl (hf.lt rfl), hM.put 8 134 _ rfl rfl, q0⟩)
 · intro l a W hl hw hsh hI' K hK
   obtain ⟨hf, hC, hF, hM, q0⟩ := (hI _ _ _).1 hI'
   have x134 := hF.get 8 rfl (hw 8 (by kernel_rfl))
   refine want rfl ?_
   go_simp
   exact hK.out _ _ ((hI _ _ _).2 ⟨hf.put 135 _ rfl, hC, hF.put (nodup_of rfl) 9 rfl (hf.lt rfl), hM.put 9 135 _ rfl rfl, q0⟩)
 · intro l a W hl hw hsh hI' K hK
   obtain ⟨hf, hC, hF, hM, q0⟩ := (hI _ _ _).1 hI'
   have x135 := hF.get 9 rfl (hw 9 (by kernel_rfl))
   refine want (wants rfl rfl x135) ?_
   go_simp
   refine Calls.mono (C136.out W hC) ?_
   rintro e W2 ⟨v136', rfl, hp, hb⟩
   exact hK.out _ _ ((hI _ _ _).2 ⟨hf.put 136 _ rfl, hC.call hb, hF.other 10 136 _ rfl rfl, (hM.world hst hb).add 2 10 rfl (nodup_of rfl) (nodup_of rfl) (hf.lt rfl) ⟨v136', rfl, hp⟩, q0.call hb⟩)
 · intro l a W hl hw hsh hI' K hK
   obtain ⟨hf, hC, hF, hM, q0⟩ := (hI _ _ _).1 hI'
   have x135 := hF.get 9 rfl (hw 9 (by kernel_rfl))
   refine want (wants rfl rfl x135) ?_
   go_simp
   exact hK.out _ _ ((hI _ _ _).2 ⟨hf.put 137 _ rfl, hC.new _, hF.other 11 137 _ rfl rfl, (hM.world hst ((Below.refl _ _).alloc (Nat.le_refl _) _)).add 3 11 rfl (nodup_of rfl) (nodup_of rfl) (hf.lt rfl) ⟨_, rfl, Blk.new _ _ _⟩, q0.new _⟩)
 · intro l a W hl hw hsh hI' K hK
   obtain ⟨hf, hC, hF, hM, q0⟩ := (hI _ _ _).1 hI'
   have x135 := hF.get 9 rfl (hw 9 (by kernel_rfl))
   obtain ⟨_, x136, v136', rfl, hm10⟩ := hM.get 2 rfl (hw 10 (by kernel_rfl)) rfl
   obtain ⟨_, x137, g137, rfl, hb11⟩ := hM.get 3 rfl (hw 11 (by kernel_rfl)) rfl
   refine want (wants rfl rfl x135) ?_
   go_simp
   refine Calls.mono (C138.out W v136' g137 hC hm10 hb11) ?_
   rintro e W2 ⟨rfl, hb⟩
   exact hK.out _ _ ((hI _ _ _).2 ⟨hf.put 138 _ rfl, hC.call hb, hF.put (nodup_of rfl) 12 rfl (hf.lt rfl), (hM.put 12 138 _ rfl rfl).world hst hb, q0.call hb⟩)
 · intro l a W hl hw hsh hI' K hK
   obtain ⟨hf, hC, hF, hM, q0⟩ := (hI _ _ _).1 hI'
   have x135 := hF.get 9 rfl (hw 9 (by kernel_rfl))
   have x138 := hF.get 12 rfl (hw 12 (by kernel_rfl))
   refine want rfl ?_
   go_simp
   exact hK.out _ _ ((hI _ _ _).2 ⟨hf.put 139 _ rfl, hC, hF.put (nodup_of rfl) 13 rfl (hf.lt rfl), hM.put 13 139 _ rfl rfl, q0⟩)
 · intro l a W hl hw hsh hI' K hK
   obtain ⟨hf, hC, hF, hM, q0⟩ := (hI _ _ _).1 hI'
   have x139 := hF.get 13 rfl (hw 13 (by kernel_rfl))
   refine want rfl ?_
   go_simp
   exact hK.out _ _ ((hI _ _ _).2 ⟨hf.put 140 _ rfl, hC, hF.put (nodup_of rfl) 14 rfl (hf.lt rfl), hM.put 14 140 _ rfl rfl, q0⟩)
 · intro l a W hl hw hsh hI' K hK
   obtain ⟨hf, hC, hF, hM, q0⟩ := (hI _ _ _).1 hI'
   have x140 := hF.get 14 rfl (hw 14 (by kernel_rfl))
   refine want (wants rfl rfl x140) ?_
   go_simp
   refine Calls.mono (C141.out W hC) ?_
   rintro e W2 ⟨v141', rfl, hp, hb⟩
   exact hK.out _ _ ((hI _ _ _).2 ⟨hf.put 141 _ rfl, hC.call hb, hF.other 15 141 _ rfl rfl, (hM.world hst hb).add 4 15 rfl (nodup_of rfl) (nodup_of rfl) (hf.lt rfl) ⟨v141', rfl, hp⟩, q0.call hb⟩)
 · intro l a W hl hw hsh hI' K hK
   obtain ⟨hf, hC, hF, hM, q0⟩ := (hI _ _ _).1 hI'
   have x140 := hF.get 14 rfl (hw 14 (by kernel_rfl))
   refine want (wants rfl rfl x140) ?_
   go_simp
   exact hK.out _ _ ((hI _ _ _).2 ⟨hf.put 142 _ rfl, hC.new _, hF.other 16 142 _ rfl rfl, (hM.world hst ((Below.refl _ _).alloc (Nat.le_refl _) _)).add 5 16 rfl (nodup_of rfl) (nodup_of rfl) (hf.lt rfl) ⟨_, rfl, Blk.new _ _ _⟩, q0.new _⟩)
 · intro l a W hl hw hsh hI' K hK
   obtain ⟨hf, hC, hF, hM, q0⟩ := (hI _ _ _).1 hI'
   have x140 := hF.get 14 rfl (hw 14 (by kernel_rfl))
   obtain ⟨_, x141, v141', rfl, hm15⟩ := hM.get 4 rfl (hw 15 (by kernel_rfl)) rfl
   obtain ⟨_, x142, g142, rfl, hb16⟩ := hM.get 5 rfl (hw 16 (by kernel_rfl)) rfl
   refine want (wants rfl rfl x140) ?_
   go_simp
   refine Calls.mono (C143.out W v141' g142 hC hm15 hb16) ?_
   rintro e W2 ⟨rfl, hb⟩
   exact hK.out _ _ ((hI _ _ _).2 ⟨hf.put 143 _ rfl, hC.call hb, hF.put (nodup_of rfl) 17 rfl (hf.lt rfl), (hM.put 17 143 _ rfl rfl).world hst hb, q0.call hb⟩)
 · intro l a W hl hw hsh hI' K hK
   obtain ⟨hf, hC, hF, hM, q0⟩ := (hI _ _ _).1 hI'
   have x140 := hF.get 14 rfl (hw 14 (by kernel_rfl))
   have x143 := hF.get 17 rfl (hw 17 (by kernel_rfl))
   refine want (wants rfl rfl x140) ?_
   go_simp
   exact hK.out _ _ ((hI _ _ _).2 ⟨hf.put 144 _ rfl, hC, hF.put (nodup_of rfl) 18 rfl (hf.lt rfl), hM.put 18 144 _ rfl rfl, q0⟩)
 · intro l a W hl hw hsh hI' K hK
   obtain ⟨hf, hC, hF, hM, q0⟩ := (hI _ _ _).1 hI'
   have x140 := hF.get 14 rfl (hw 14 (by kernel_rfl))
   have x144 := hF.get 18 rfl (hw 18 (by kernel_rfl))
   refine want rfl ?_
   go_simp
   exact hK.out _ _ ((hI _ _ _).2 ⟨hf.put 145 _ rfl, hC, hF.put (nodup_of rfl) 19 rfl (hf.lt rfl), hM.put 19 145 _ rfl rfl, q0⟩)
 · intro l a W hl hw hsh hI' K hK
   obtain ⟨hf, hC, hF, hM, q0⟩ := (hI _ _ _).1 hI'
   have x145 := hF.get 19 rfl (hw 19 (by kernel_rfl))
   refine want rfl ?_
   go_simp
   exact hK.out _ _ ((hI _ _ _).2 ⟨hf.put 146 _ rfl, hC, hF.put (nodup_of rfl) 20 rfl (hf.lt rfl), hM.put 20 146 _ rfl rfl, q0⟩)
 · intro l a W hl hw hsh hI' K hK
   obtain ⟨hf, hC, hF, hM, q0⟩ := (hI _ _ _).1 hI'
   have x146 := hF.get 20 rfl (hw 20 (by kernel_rfl))
   refine want (wants rfl rfl x146) ?_
   go_simp
   refine Calls.mono (C147.out W hC) ?_
   rintro e W2 ⟨v147', rfl, hp, hb⟩
   exact hK.out _ _ ((hI _ _ _).2 ⟨hf.put 147 _ rfl, hC.call hb, hF.other 21 147 _ rfl rfl, (hM.world hst hb).add 6 21 rfl (nodup_of rfl) (nodup_of rfl) (hf.lt rfl) ⟨v147', rfl, hp⟩, q0.call hb⟩)
 · intro l a W hl hw hsh hI' K hK
   obtain ⟨hf, hC, hF, hM, q0⟩ := (hI _ _ _).1 hI'
   have x146 := hF.get 20 rfl (hw 20 (by kernel_rfl))
   refine want (wants rfl rfl x146) ?_
   go_simp
   exact hK.out _ _ ((hI _ _ _).2 ⟨hf.put 148 _ rfl, hC.new _, hF.other 22 148 _ rfl rfl, (hM.world hst ((Below.refl _ _).alloc (Nat.le_refl _) _)).add 7 22 rfl (nodup_of rfl) (nodup_of rfl) (hf.lt rfl) ⟨_, rfl, Blk.new _ _ _⟩, q0.new _⟩)
 · intro l a W hl hw hsh hI' K hK
   obtain ⟨hf, hC, hF, hM, q0⟩ := (hI _ _ _).1 hI'
   have x146 := hF.get 20 rfl (hw 20 (by kernel_rfl))
   obtain ⟨_, x147, v147', rfl, hm21⟩ := hM.get 6 rfl (hw 21 (by kernel_rfl)) rfl
   obtain ⟨_, x148, g148, rfl, hb22⟩ := hM.get 7 rfl (hw 22 (by kernel_rfl)) rfl
   refine want (wants rfl rfl x146) ?_
   go_simp
   refine Calls.mono (C149.out W v147' g148 hC hm21 hb22) ?_
   rintro e W2 ⟨rfl, hb⟩
   exact hK.out _ _ ((hI _ _ _).2 ⟨hf.put 149 _ rfl, hC.call hb, hF.put (nodup_of rfl) 23 rfl (hf.lt rfl), (hM.put 23 149 _ rfl rfl).world hst hb, q0.call hb⟩)
 · intro l a W hl hw hsh hI' K hK
   obtain ⟨hf, hC, hF, hM, q0⟩ := (hI _ _ _).1 hI'
   have x146 := hF.get 20 rfl (hw 20 (by kernel_rfl))
   have x149 := hF.get 23 rfl (hw 23 (by kernel_rfl))
   refine want (wants rfl rfl x146) ?_
   go_simp
   exact hK.out _ _ ((hI _ _ _).2 ⟨hf.put 150 _ rfl, hC, hF.put (nodup_of rfl) 24 rfl (hf.lt rfl), hM.put 24 150 _ rfl rfl, q0⟩)
 · intro l a W hl hw hsh hI' K hK
   obtain ⟨hf, hC, hF, hM, q0⟩ := (hI _ _ _).1 hI'
   have x146 := hF.get 20 rfl (hw 20 (by kernel_rfl))
   have x150 := hF.get 24 rfl (hw 24 (by kernel_rfl))
   refine want rfl ?_
   go_simp
   exact hK.out _ _ ((hI _ _ _).2 ⟨hf.put 151 _ rfl, hC, hF.put (nodup_of rfl) 25 rfl (hf.lt rfl), hM.put 25 151 _ rfl rfl, q0⟩)
 · intro l a W hl hw hsh hI' K hK
   obtain ⟨hf, hC, hF, hM, q0⟩ := (hI _ _ _).1 hI'
   have x151 := hF.get 25 rfl (hw 25 (by kernel_rfl))
   refine want rfl ?_
   go_simp
   exact hK.out _ _ ((hI _ _ _).2 ⟨hf.put 15 _ rfl, hC, hF.put (nodup_of rfl) 26 rfl (hf.lt rfl), hM.put 26 15 _ rfl rfl, q0⟩)
 · intro a W hI'
   obtain ⟨hf, hC, hF, hM, q0⟩ := (hI _ _ _).1 hI'
   have hM9 := q0
   have x15 := hF.get 26 rfl (by kernel_rfl)
   have he := hf.eq
   obtain ⟨x, hx⟩ : ∃ x : Nat → Value, x = fun n : Nat => a.tmps[n]?.getD undef := ⟨_, rfl⟩
   rw [← hx] at he
   have y15 : x 15 = .bool true := by rw [hx]; simp [x15]
   have e2 : fill [126, 127, 128, 129, 130, 131, 132, 133, 134, 135, 136, 137, 138, 139, 140, 141, 142, 143, 144, 145, 146, 147, 148, 149, 150, 151, 15] x 0 (u0::.pointer (some ⟨bV, 0, none⟩)::u2::u3::u4::u5::u6::u7::u8::u9::u10::u11::u12::u13::u14::u15::u16::u17::u18::u19::u20::u21::u22::u23::u24::u25::u26::u27::u28::u29::u30::u31::u32::u33::u34::u35::u36::u37::u38::u39::u40::u41::u42::u43::u44::u45::u46::u47::u48::u49::u50::u51::u52::u53::u54::u55::u56::u57::u58::u59::u60::u61::u62::u63::u64::u65::u66::u67::u68::u69::u70::u71::u72::u73::u74::u75::u76::u77::u78::u79::u80::u81::u82::u83::u84::u85::u86::u87::u88::u89::u90::u91::u92::u93::u94::u95::u96::u97::u98::u99::u100::u101::u102::u103::u104::u105::u106::u107::u108::u109::u110::u111::u112::u113::u114::u115::u116::u117::u118::u119::u120::u121::u122::u123::u124::u125::u126::u127::u128::u129::u130::u131::u132::u133::u134::u135::u136::u137::u138::u139::u140::u141::u142::u143::u144::u145::u146::u147::u148::u149::u150::u151::u152::u153::u154::u155::u156::u157::u158::u159::u160::u161::u162::u163::u164::u165::u166::u167::u168::u169::u170::[]) = (u0::.pointer (some ⟨bV, 0, none⟩)::u2::u3::u4::u5::u6::u7::u8::u9::u10::u11::u12::u13::u14::x 15::u16::u17::u18::u19::u20::u21::u22::u23::u24::u25::u26::u27::u28::u29::u30::u31::u32::u33::u34::u35::u36::u37::u38::u39::u40::u41::u42::u43::u44::u45::u46::u47::u48::u49::u50::u51::u52::u53::u54::u55::u56::u57::u58::u59::u60::u61::u62::u63::u64::u65::u66::u67::u68::u69::u70::u71::u72::u73::u74::u75::u76::u77::u78::u79::u80::u81::u82::u83::u84::u85::u86::u87::u88::u89::u90::u91::u92::u93::u94::u95::u96::u97::u98::u99::u100::u101::u102::u103::u104::u105::u106::u107::u108::u109::u110::u111::u112::u113::u114::u115::u116::u117::u118::u119::u120::u121::u122::u123::u124::u125::x 126::x 127::x 128::x 129::x 130::x 131::x 132::x 133::x 134::x 135::x 136::x 137::x 138::x 139::x 140::x 141::x 142::x 143::x 144::x 145::x 146::x 147::x 148::x 149::x 150::x 151::u152::u153::u154::u155::u156::u157::u158::u159::u160::u161::u162::u163::u164::u165::u166::u167::u168::u169::u170::[]) := by kernel_rfl
   rw [e2, y15] at he
   rw [he]
   exact hQ.out _ _ _ _ _ _ _ _ _ _ _ _ _ _ _ _ _ _ _ _ _ _ _ _ _ _   _ (Lib.hid hM9)
end Go.Proofs.YtcmomjnailihpaaGreatDoor
