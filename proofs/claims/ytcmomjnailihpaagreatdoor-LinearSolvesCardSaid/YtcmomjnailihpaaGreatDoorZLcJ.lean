/- LcJ -/
import Derived.Test.YtcmomjnailihpaaGreatDoorZLcG
namespace Go.Proofs.YtcmomjnailihpaaGreatDoor
open Go.RowKit
attribute [local go_sem] Oper.semAt_some
set_option maxRecDepth 100000 in
set_option maxHeartbeats 8000000 in
theorem mix_r9 {Q : Exit → Act → World → Prop} {u0 u1 u6 u7 u8 u9 u10 u12 u14 u15 u16 u17 u18 u19 u20 u21 u22 u23 u24 u25 u26 u27 u28 u29 u30 u31 u32 u33 u34 u35 u36 u37 u38 u39 u40 u41 u42 u43 u44 u45 u46 u47 u48 u49 u50 u51 u52 u53 u54 u55 u56 u57 u58 u59 u60 u61 u62 u63 u64 u65 u66 u67 u68 u69 u70 u71 u72 u73 u74 u75 u76 u77 u78 u79 u80 u81 u82 u83 u84 u85 u86 u87 u88 u89 u90 u91 u92 u93 u94 u95 u96 u97 u98 u99 u100 u101 u102 u103 u104 u105 u106 u107 u108 u109 u110 u111 u112 u113 u114 u115 u116 u117 u118 u119 u120 u121 u122 u123 u124 u125 u126 u127 u128 u129 u130 u131 u132 u133 u134 u135 u136 u137 u138 u139 u140 u141 u142 u143 u144 u145 u146 u147 u148 u149 u150 u151 u152 : Value} {p q : Int} {b0 b1 Bk n i ga oa ca gb ob cb : Nat} {fl : Bool} {da db sa sb S : ByteArray} {E : Int} {w0 w : World} (hE : Hid (Env w0)) (h0 : Hid (Below w0.heap.size w0 w ∧ w0.heap.size ≤ Bk)) (hfp : Hid (Fits p ∧ Small p)) (hfq : Hid (Fits q ∧ Small q)) (hd : Hid (okS da = true ∧ okS db = true ∧ okS sa = true ∧ okS sb = true)) (hi : (i : Int) < n) (hi0 : (0 : Int) ≤ i)
    (hcell : Hid (∀ W, Only [Bk] w W → W.cell? ⟨b0, 0, none⟩ = some (.slice (some ⟨ga, oa, none⟩) n ca) ∧ W.cell? ⟨b0, 1, none⟩ = some (.string da) ∧ W.cell? ⟨b1, 0, none⟩ = some (.slice (some ⟨gb, ob, none⟩) n cb) ∧ W.cell? ⟨b1, 1, none⟩ = some (.string db) ∧ W.cell? ⟨ga, oa + i, none⟩ = some (.string sa) ∧ W.cell? ⟨gb, ob + i, none⟩ = some (.string sb))) (hBk : Hid (Bk < w.heap.size)) (hB : Hid (Blk w Bk #[.bool fl] 4))
    (hAd : Hid (resT true (zS (mixS fl [I p, sa, db] 3) + zS (mixS (mixF fl [I p, sa, db] 3) [I q, sb, da] 3)) = .tuple #[.string S, .int .i64 E])) {ops : Array Oper} (ho : getOps Tryz.f23.body 9 = some ops)
    (hQ : ∀ (v69 v70 v71 v72 v73 v74 v75 v76 v77 v78 v79 v80 v81 v82 v83 v84 v85 v86 v87 v88 v89 v90 v91 v92 v93 v68 v94 v95 : Value)  (W' : World), Only [Bk] w W' → Blk W' Bk #[.bool (mixF (mixF fl [I p, sa, db] 3) [I q, sb, da] 3)] 4 → Q .normal { tmps := List.toArray (u0::u1::.int .i64 p::.int .i64 q::.pointer (some ⟨b0, 0, none⟩)::.pointer (some ⟨b1, 0, none⟩)::u6::u7::u8::u9::u10::.func (.func 58) #[] #[.pointer (some ⟨Bk, 0, none⟩)]::u12::.int .i64 i::.string S::.int .i64 E::u16::u17::u18::u19::u20::u21::u22::u23::u24::u25::u26::u27::u28::u29::u30::u31::u32::u33::u34::u35::u36::u37::u38::u39::u40::u41::u42::u43::u44::u45::u46::u47::u48::u49::u50::u51::u52::u53::u54::u55::u56::u57::u58::u59::u60::u61::u62::u63::u64::u65::u66::u67::v68::v69::v70::v71::v72::v73::v74::v75::v76::v77::v78::v79::v80::v81::v82::v83::v84::v85::v86::v87::v88::v89::v90::v91::v92::v93::v94::v95::u96::u97::u98::u99::u100::u101::u102::u103::u104::u105::u106::u107::u108::u109::u110::u111::u112::u113::u114::u115::u116::u117::u118::u119::u120::u121::u122::u123::u124::u125::u126::u127::u128::u129::u130::u131::u132::u133::u134::u135::u136::u137::u138::u139::u140::u141::u142::u143::u144::u145::u146::u147::u148::u149::u150::u151::u152::[]), defers := [] } W') :
    (Code.region 9 ops true).wp Tryz.prog Q { tmps := List.toArray (u0::u1::.int .i64 p::.int .i64 q::.pointer (some ⟨b0, 0, none⟩)::.pointer (some ⟨b1, 0, none⟩)::u6::u7::u8::u9::u10::.func (.func 58) #[] #[.pointer (some ⟨Bk, 0, none⟩)]::u12::.int .i64 i::u14::u15::u16::u17::u18::u19::u20::u21::u22::u23::u24::u25::u26::u27::u28::u29::u30::u31::u32::u33::u34::u35::u36::u37::u38::u39::u40::u41::u42::u43::u44::u45::u46::u47::u48::u49::u50::u51::u52::u53::u54::u55::u56::u57::u58::u59::u60::u61::u62::u63::u64::u65::u66::u67::u68::u69::u70::u71::u72::u73::u74::u75::u76::u77::u78::u79::u80::u81::u82::u83::u84::u85::u86::u87::u88::u89::u90::u91::u92::u93::u94::u95::u96::u97::u98::u99::u100::u101::u102::u103::u104::u105::u106::u107::u108::u109::u110::u111::u112::u113::u114::u115::u116::u117::u118::u119::u120::u121::u122::u123::u124::u125::u126::u127::u128::u129::u130::u131::u132::u133::u134::u135::u136::u137::u138::u139::u140::u141::u142::u143::u144::u145::u146::u147::u148::u149::u150::u151::u152::[]), defers := [] } w := by
  obtain rfl := Option.some.inj (ho.symm.trans (rfl : getOps Tryz.f23.body 9 = some _))
  clear ho
  replace hQ := Lib.hid hQ
  obtain ⟨Iv, hI⟩ : ∃ Iv : (Nat → Bool) → Act → World → Prop, ∀ l a W, Iv l a W ↔ (∃ s69 s70 s71 s72 s73 s74 s75 s76 s77 s78 s79 s80 s81 s82 s83 s84 s85 s86 s87 s88 s89 s90 s91 s92 s93 s68 s94 s95 s14 s15 : Value, a = { tmps := List.toArray (u0::u1::.int .i64 p::.int .i64 q::.pointer (some ⟨b0, 0, none⟩)::.pointer (some ⟨b1, 0, none⟩)::u6::u7::u8::u9::u10::.func (.func 58) #[] #[.pointer (some ⟨Bk, 0, none⟩)]::u12::.int .i64 i::s14::s15::u16::u17::u18::u19::u20::u21::u22::u23::u24::u25::u26::u27::u28::u29::u30::u31::u32::u33::u34::u35::u36::u37::u38::u39::u40::u41::u42::u43::u44::u45::u46::u47::u48::u49::u50::u51::u52::u53::u54::u55::u56::u57::u58::u59::u60::u61::u62::u63::u64::u65::u66::u67::s68::s69::s70::s71::s72::s73::s74::s75::s76::s77::s78::s79::s80::s81::s82::s83::s84::s85::s86::s87::s88::s89::s90::s91::s92::s93::s94::s95::u96::u97::u98::u99::u100::u101::u102::u103::u104::u105::u106::u107::u108::u109::u110::u111::u112::u113::u114::u115::u116::u117::u118::u119::u120::u121::u122::u123::u124::u125::u126::u127::u128::u129::u130::u131::u132::u133::u134::u135::u136::u137::u138::u139::u140::u141::u142::u143::u144::u145::u146::u147::u148::u149::u150::u151::u152::[]), defers := [] } ∧ Only [Bk] w W ∧ Vs [(0, .func (.func 58) #[] #[.pointer (some ⟨Bk, 0, none⟩)], s69), (1, .int .i64 p, s70), (3, .pointer (some ⟨b0, 0, none⟩), s72), (4, .slice (some ⟨ga, oa, none⟩) n ca, s73), (5, .int .i64 i, s74), (6, .pointer (some ⟨ga, oa + i, none⟩), s75), (7, .string sa, s76), (8, .pointer (some ⟨b1, 1, none⟩), s77), (9, .string db, s78), (12, .func (.func 58) #[] #[.pointer (some ⟨Bk, 0, none⟩)], s81), (13, .int .i64 q, s82), (15, .pointer (some ⟨b1, 0, none⟩), s84), (16, .slice (some ⟨gb, ob, none⟩) n cb, s85), (17, .int .i64 i, s86), (18, .pointer (some ⟨gb, ob + i, none⟩), s87), (19, .string sb, s88), (20, .pointer (some ⟨b0, 1, none⟩), s89), (21, .string da, s90), (25, .tuple #[.string S, .int .i64 E], s68), (26, .string S, s94), (27, .int .i64 E, s95), (28, .string S, s14), (29, .int .i64 E, s15)] l ∧ (l 2 = true → .string (I p) = s71) ∧ (l 10 = true → (l 11 = false → ∃ g : Nat, s79 = .slice (some ⟨g, 0, none⟩) 3 3 ∧ (W.cell? ⟨g, 0, none⟩ = some (.string (I p)) ∧ W.cell? ⟨g, 1, none⟩ = some (.string (sa)) ∧ W.cell? ⟨g, 2, none⟩ = some (.string (db))) ∧ g < W.heap.size ∧ g ≠ Bk)) ∧ (l 11 = true → .string (mixS fl [I p, sa, db] 3) = s80) ∧ (l 14 = true → .string (I q) = s83) ∧ (l 22 = true → (l 23 = false → ∃ g : Nat, s91 = .slice (some ⟨g, 0, none⟩) 3 3 ∧ (W.cell? ⟨g, 0, none⟩ = some (.string (I q)) ∧ W.cell? ⟨g, 1, none⟩ = some (.string (sb)) ∧ W.cell? ⟨g, 2, none⟩ = some (.string (da))) ∧ g < W.heap.size ∧ g ≠ Bk)) ∧ (l 23 = true → .string (mixS (mixF fl [I p, sa, db] 3) [I q, sb, da] 3) = s92) ∧ (l 24 = true → .tuple #[.string S, .int .i64 E] = s93) ∧ ((l 11 = false → Blk W Bk #[.bool fl] 4) ∧ (l 11 = true → l 23 = false → Blk W Bk #[.bool (mixF fl [I p, sa, db] 3)] 4) ∧ (l 23 = true → Blk W Bk #[.bool (mixF (mixF fl [I p, sa, db] 3) [I q, sb, da] 3)] 4))) := ⟨_, fun _ _ _ => Iff.rfl⟩
  refine wp_region_inv Iv (by kernel_rfl) (by kernel_rfl) ((hI _ _ _).2 ⟨_, _, _, _, _, _, _, _, _, _, _, _, _, _, _, _, _, _, _, _, _, _, _, _, _, _, _, _, _, _, rfl, (Only.refl [Bk] w).drewN 1, Vs.zero, fun h => off h, fun h => off h, fun h => off h, fun h => off h, fun h => off h, fun h => off h, fun h => off h, ⟨fun _ => hB.out.below (below_drewN w 1), fun h => off h, fun h => off h⟩⟩) (stepsI_cons (k := 0) ?_ (stepsI_cons (k := 1) ?_ (stepsI_cons (k := 2) ?_ (stepsI_cons (k := 3) ?_ (stepsI_cons (k := 4) ?_ (stepsI_cons (k := 5) ?_ (stepsI_cons (k := 6) ?_ (stepsI_cons (k := 7) ?_ (stepsI_cons (k := 8) ?_ (stepsI_cons (k := 9) ?_ (stepsI_cons (k := 10) ?_ (stepsI_cons (k := 11) ?_ (stepsI_cons (k := 12) ?_ (stepsI_cons (k := 13) ?_ (stepsI_cons (k := 14) ?_ (stepsI_cons (k := 15) ?_ (stepsI_cons (k := 16) ?_ (stepsI_cons (k := 17) ?_ (stepsI_cons (k := 18) ?_ (stepsI_cons (k := 19) ?_ (stepsI_cons (k := 20) ?_ (stepsI_cons (k := 21) ?_ (stepsI_cons (k := 22) ?_ (stepsI_cons (k := 23) ?_ (stepsI_cons (k := 24) ?_ (stepsI_cons (k := 25) ?_ (stepsI_cons (k := 26) ?_ (stepsI_cons (k := 27) ?_ (stepsI_cons (k := 28) ?_ (stepsI_cons (k := 29) ?_ (stepsI_nil))))))))))))))))))))))))))))))) ?_
  · intro l a W hl hw hsh hI' K hK
    have h := (hI _ _ _).1 hI'; clear hI'; obtain ⟨s69, s70, s71, s72, s73, s74, s75, s76, h⟩ := h; obtain ⟨s77, s78, s79, s80, s81, s82, s83, s84, h⟩ := h; obtain ⟨s85, s86, s87, s88, s89, s90, s91, s92, h⟩ := h; obtain ⟨s93, s68, s94, s95, s14, s15, h⟩ := h
    obtain ⟨ha, hC, hP, f2, f10, f11, h⟩ := h; obtain ⟨f14, f22, f23, f24, g⟩ := h; subst ha
    go_simp
    refine hK.out _ _ ((hI _ _ _).2 ⟨_, _, _, _, _, _, _, _, _, _, _, _, _, _, _, _, _, _, _, _, _, _, _, _, _, _, _, _, _, _, rfl, hC, hP.put 0 rfl rfl rfl, f2, f10, f11, f14, f22, f23, f24, g⟩)
  · intro l a W hl hw hsh hI' K hK
    have h := (hI _ _ _).1 hI'; clear hI'; obtain ⟨s69, s70, s71, s72, s73, s74, s75, s76, h⟩ := h; obtain ⟨s77, s78, s79, s80, s81, s82, s83, s84, h⟩ := h; obtain ⟨s85, s86, s87, s88, s89, s90, s91, s92, h⟩ := h; obtain ⟨s93, s68, s94, s95, s14, s15, h⟩ := h
    obtain ⟨ha, hC, hP, f2, f10, f11, h⟩ := h; obtain ⟨f14, f22, f23, f24, g⟩ := h; subst ha
    go_simp
    refine hK.out _ _ ((hI _ _ _).2 ⟨_, _, _, _, _, _, _, _, _, _, _, _, _, _, _, _, _, _, _, _, _, _, _, _, _, _, _, _, _, _, rfl, hC, hP.put 1 rfl rfl rfl, f2, f10, f11, f14, f22, f23, f24, g⟩)
  · intro l a W hl hw hsh hI' K hK
    have h := (hI _ _ _).1 hI'; clear hI'; obtain ⟨s69, s70, s71, s72, s73, s74, s75, s76, h⟩ := h; obtain ⟨s77, s78, s79, s80, s81, s82, s83, s84, h⟩ := h; obtain ⟨s85, s86, s87, s88, s89, s90, s91, s92, h⟩ := h; obtain ⟨s93, s68, s94, s95, s14, s15, h⟩ := h
    obtain ⟨ha, hC, hP, f2, f10, f11, h⟩ := h; obtain ⟨f14, f22, f23, f24, g⟩ := h; subst ha
    obtain rfl := hP.get 1 rfl (hw 1 (by kernel_rfl))
    go_simp
    go_at_call 51
    refine Calls.mono (from_I hfp.out.1 _ (hE.out.below (h0.out.1.trans (hC.toBelow h0.out.1.size (by intro x hx; rw [List.mem_singleton.1 hx]; exact h0.out.2))) (Nat.le_refl _))) ?_
    rintro e W2 ⟨rfl, hb⟩
    have hcellx := @above Bk _ _ hb
    have hsz := hb.size
    refine hK.out _ _ ((hI _ _ _).2 ⟨_, _, _, _, _, _, _, _, _, _, _, _, _, _, _, _, _, _, _, _, _, _, _, _, _, _, _, _, _, _, rfl, hC.below hb, hP.skip 2 rfl, fun _ => rfl, (fun h h5 => (let ⟨g, e, ⟨a, b, c⟩, u, v⟩ := f10 h h5; ⟨g, e, ⟨(hcellx g 0 v u).trans a, (hcellx g 1 v u).trans b, (hcellx g 2 v u).trans c⟩, Nat.lt_of_lt_of_le u hsz, v⟩)), f11, f14, (fun h h5 => (let ⟨g, e, ⟨a, b, c⟩, u, v⟩ := f22 h h5; ⟨g, e, ⟨(hcellx g 0 v u).trans a, (hcellx g 1 v u).trans b, (hcellx g 2 v u).trans c⟩, Nat.lt_of_lt_of_le u hsz, v⟩)), f23, f24, ⟨fun h => (g.1 h).below hb, fun h h2 => (g.2.1 h h2).below hb, fun h => (g.2.2 h).below hb⟩⟩)
  · intro l a W hl hw hsh hI' K hK
    have h := (hI _ _ _).1 hI'; clear hI'; obtain ⟨s69, s70, s71, s72, s73, s74, s75, s76, h⟩ := h; obtain ⟨s77, s78, s79, s80, s81, s82, s83, s84, h⟩ := h; obtain ⟨s85, s86, s87, s88, s89, s90, s91, s92, h⟩ := h; obtain ⟨s93, s68, s94, s95, s14, s15, h⟩ := h
    obtain ⟨ha, hC, hP, f2, f10, f11, h⟩ := h; obtain ⟨f14, f22, f23, f24, g⟩ := h; subst ha
    go_simp
    refine hK.out _ _ ((hI _ _ _).2 ⟨_, _, _, _, _, _, _, _, _, _, _, _, _, _, _, _, _, _, _, _, _, _, _, _, _, _, _, _, _, _, rfl, hC, hP.put 2 rfl rfl rfl, f2, f10, f11, f14, f22, f23, f24, g⟩)
  · intro l a W hl hw hsh hI' K hK
    have h := (hI _ _ _).1 hI'; clear hI'; obtain ⟨s69, s70, s71, s72, s73, s74, s75, s76, h⟩ := h; obtain ⟨s77, s78, s79, s80, s81, s82, s83, s84, h⟩ := h; obtain ⟨s85, s86, s87, s88, s89, s90, s91, s92, h⟩ := h; obtain ⟨s93, s68, s94, s95, s14, s15, h⟩ := h
    obtain ⟨ha, hC, hP, f2, f10, f11, h⟩ := h; obtain ⟨f14, f22, f23, f24, g⟩ := h; subst ha
    obtain rfl := hP.get 2 rfl (hw 3 (by kernel_rfl))
    obtain ⟨x0, x1, x2, x3, x4, x5⟩ := hcell.out _ hC
    go_simp
    refine hK.out _ _ ((hI _ _ _).2 ⟨_, _, _, _, _, _, _, _, _, _, _, _, _, _, _, _, _, _, _, _, _, _, _, _, _, _, _, _, _, _, rfl, hC, hP.put 3 rfl rfl rfl, f2, f10, f11, f14, f22, f23, f24, g⟩)
  · intro l a W hl hw hsh hI' K hK
    have h := (hI _ _ _).1 hI'; clear hI'; obtain ⟨s69, s70, s71, s72, s73, s74, s75, s76, h⟩ := h; obtain ⟨s77, s78, s79, s80, s81, s82, s83, s84, h⟩ := h; obtain ⟨s85, s86, s87, s88, s89, s90, s91, s92, h⟩ := h; obtain ⟨s93, s68, s94, s95, s14, s15, h⟩ := h
    obtain ⟨ha, hC, hP, f2, f10, f11, h⟩ := h; obtain ⟨f14, f22, f23, f24, g⟩ := h; subst ha
    go_simp
    refine hK.out _ _ ((hI _ _ _).2 ⟨_, _, _, _, _, _, _, _, _, _, _, _, _, _, _, _, _, _, _, _, _, _, _, _, _, _, _, _, _, _, rfl, hC, hP.put 4 rfl rfl rfl, f2, f10, f11, f14, f22, f23, f24, g⟩)
  · intro l a W hl hw hsh hI' K hK
    have h := (hI _ _ _).1 hI'; clear hI'; obtain ⟨s69, s70, s71, s72, s73, s74, s75, s76, h⟩ := h; obtain ⟨s77, s78, s79, s80, s81, s82, s83, s84, h⟩ := h; obtain ⟨s85, s86, s87, s88, s89, s90, s91, s92, h⟩ := h; obtain ⟨s93, s68, s94, s95, s14, s15, h⟩ := h
    obtain ⟨ha, hC, hP, f2, f10, f11, h⟩ := h; obtain ⟨f14, f22, f23, f24, g⟩ := h; subst ha
    obtain rfl := hP.get 3 rfl (hw 4 (by kernel_rfl))
    obtain rfl := hP.get 4 rfl (hw 5 (by kernel_rfl))
    go_simp
    refine hK.out _ _ ((hI _ _ _).2 ⟨_, _, _, _, _, _, _, _, _, _, _, _, _, _, _, _, _, _, _, _, _, _, _, _, _, _, _, _, _, _, rfl, hC, hP.put 5 rfl rfl rfl, f2, f10, f11, f14, f22, f23, f24, g⟩)
  · intro l a W hl hw hsh hI' K hK
    have h := (hI _ _ _).1 hI'; clear hI'; obtain ⟨s69, s70, s71, s72, s73, s74, s75, s76, h⟩ := h; obtain ⟨s77, s78, s79, s80, s81, s82, s83, s84, h⟩ := h; obtain ⟨s85, s86, s87, s88, s89, s90, s91, s92, h⟩ := h; obtain ⟨s93, s68, s94, s95, s14, s15, h⟩ := h
    obtain ⟨ha, hC, hP, f2, f10, f11, h⟩ := h; obtain ⟨f14, f22, f23, f24, g⟩ := h; subst ha
    obtain rfl := hP.get 5 rfl (hw 6 (by kernel_rfl))
    obtain ⟨x0, x1, x2, x3, x4, x5⟩ := hcell.out _ hC
    go_simp
    refine hK.out _ _ ((hI _ _ _).2 ⟨_, _, _, _, _, _, _, _, _, _, _, _, _, _, _, _, _, _, _, _, _, _, _, _, _, _, _, _, _, _, rfl, hC, hP.put 6 rfl rfl rfl, f2, f10, f11, f14, f22, f23, f24, g⟩)
  · intro l a W hl hw hsh hI' K hK
    have h := (hI _ _ _).1 hI'; clear hI'; obtain ⟨s69, s70, s71, s72, s73, s74, s75, s76, h⟩ := h; obtain ⟨s77, s78, s79, s80, s81, s82, s83, s84, h⟩ := h; obtain ⟨s85, s86, s87, s88, s89, s90, s91, s92, h⟩ := h; obtain ⟨s93, s68, s94, s95, s14, s15, h⟩ := h
    obtain ⟨ha, hC, hP, f2, f10, f11, h⟩ := h; obtain ⟨f14, f22, f23, f24, g⟩ := h; subst ha
    go_simp
    refine hK.out _ _ ((hI _ _ _).2 ⟨_, _, _, _, _, _, _, _, _, _, _, _, _, _, _, _, _, _, _, _, _, _, _, _, _, _, _, _, _, _, rfl, hC, hP.put 7 rfl rfl rfl, f2, f10, f11, f14, f22, f23, f24, g⟩)
  · intro l a W hl hw hsh hI' K hK
    have h := (hI _ _ _).1 hI'; clear hI'; obtain ⟨s69, s70, s71, s72, s73, s74, s75, s76, h⟩ := h; obtain ⟨s77, s78, s79, s80, s81, s82, s83, s84, h⟩ := h; obtain ⟨s85, s86, s87, s88, s89, s90, s91, s92, h⟩ := h; obtain ⟨s93, s68, s94, s95, s14, s15, h⟩ := h
    obtain ⟨ha, hC, hP, f2, f10, f11, h⟩ := h; obtain ⟨f14, f22, f23, f24, g⟩ := h; subst ha
    obtain rfl := hP.get 7 rfl (hw 8 (by kernel_rfl))
    obtain ⟨x0, x1, x2, x3, x4, x5⟩ := hcell.out _ hC
    go_simp
    refine hK.out _ _ ((hI _ _ _).2 ⟨_, _, _, _, _, _, _, _, _, _, _, _, _, _, _, _, _, _, _, _, _, _, _, _, _, _, _, _, _, _, rfl, hC, hP.put 8 rfl rfl rfl, f2, f10, f11, f14, f22, f23, f24, g⟩)
  · intro l a W hl hw hsh hI' K hK
    have h := (hI _ _ _).1 hI'; clear hI'; obtain ⟨s69, s70, s71, s72, s73, s74, s75, s76, h⟩ := h; obtain ⟨s77, s78, s79, s80, s81, s82, s83, s84, h⟩ := h; obtain ⟨s85, s86, s87, s88, s89, s90, s91, s92, h⟩ := h; obtain ⟨s93, s68, s94, s95, s14, s15, h⟩ := h
    obtain ⟨ha, hC, hP, f2, f10, f11, h⟩ := h; obtain ⟨f14, f22, f23, f24, g⟩ := h; subst ha
    obtain rfl := f2 (hw 2 (by kernel_rfl))
    obtain rfl := hP.get 6 rfl (hw 7 (by kernel_rfl))
    obtain rfl := hP.get 8 rfl (hw 9 (by kernel_rfl))
    go_simp
    have hb := (Below.refl W.heap.size W).alloc (Nat.le_refl _) (.cells #[.string (I p), .string (sa), .string (db)] 9)
    have kn := Blk.new W #[.string (I p), .string (sa), .string (db)] 9
    have hcellx := @above Bk _ _ hb
    have hsz := hb.size
    refine hK.out _ _ ((hI _ _ _).2 ⟨_, _, _, _, _, _, _, _, _, _, _, _, _, _, _, _, _, _, _, _, _, _, _, _, _, _, _, _, _, _, rfl, hC.below hb, hP.skip 10 rfl, f2, fun _ _ => ⟨_, rfl, ⟨kn.cell 0, kn.cell 1, kn.cell 2⟩, kn.lt, fun e => by have := Nat.lt_of_lt_of_le hBk.out hC.size; omega⟩, f11, f14, (fun h h5 => (let ⟨g, e, ⟨a, b, c⟩, u, v⟩ := f22 h h5; ⟨g, e, ⟨(hcellx g 0 v u).trans a, (hcellx g 1 v u).trans b, (hcellx g 2 v u).trans c⟩, Nat.lt_of_lt_of_le u hsz, v⟩)), f23, f24, ⟨fun h => (g.1 h).below hb, fun h h2 => (g.2.1 h h2).below hb, fun h => (g.2.2 h).below hb⟩⟩)
  · intro l a W hl hw hsh hI' K hK
    have h := (hI _ _ _).1 hI'; clear hI'; obtain ⟨s69, s70, s71, s72, s73, s74, s75, s76, h⟩ := h; obtain ⟨s77, s78, s79, s80, s81, s82, s83, s84, h⟩ := h; obtain ⟨s85, s86, s87, s88, s89, s90, s91, s92, h⟩ := h; obtain ⟨s93, s68, s94, s95, s14, s15, h⟩ := h
    obtain ⟨ha, hC, hP, f2, f10, f11, h⟩ := h; obtain ⟨f14, f22, f23, f24, g⟩ := h; subst ha
    obtain rfl := hP.get 0 rfl (hw 0 (by kernel_rfl))
    have h23 : l 23 = true → true = false := fun h => absurd (hsh 14 11 _ rfl (hsh 23 14 _ rfl h (by kernel_rfl)) (by kernel_rfl)) (by simp [hl])
    obtain ⟨gl, el, hgc, hgl, hgne⟩ := f10 (hw 10 (by kernel_rfl)) hl
    subst el
    go_simp
    go_at_call 58
    refine Calls.mono (mix1_any [I p, sa, db] gl 0 3 Bk fl W (by simp) (by simp) hgl (cells3 hgc) (oks3 ⟨okS_I hfp.out.2, hd.out.2.2.1, hd.out.2.1⟩) (g.1 hl) hgne w0 hE.out (h0.out.1.trans (hC.toBelow h0.out.1.size (by intro x hx; rw [List.mem_singleton.1 hx]; exact h0.out.2))) h0.out.2) ?_
    rintro e W2 ⟨rfl, hk2, ho2⟩
    have hcellx := beside ho2
    have hsz := ho2.size
    refine hK.out _ _ ((hI _ _ _).2 ⟨_, _, _, _, _, _, _, _, _, _, _, _, _, _, _, _, _, _, _, _, _, _, _, _, _, _, _, _, _, _, rfl, hC.trans ho2, hP.skip 11 rfl, f2, (fun _ h5 => off h5.symm), fun _ => rfl, f14, (fun h h5 => (let ⟨g, e, ⟨a, b, c⟩, u, v⟩ := f22 h h5; ⟨g, e, ⟨(hcellx g 0 v u).trans a, (hcellx g 1 v u).trans b, (hcellx g 2 v u).trans c⟩, Nat.lt_of_lt_of_le u hsz, v⟩)), f23, f24, ⟨fun h => off h.symm, fun _ _ => hk2, fun h => off (h23 h).symm⟩⟩)
  · intro l a W hl hw hsh hI' K hK
    have h := (hI _ _ _).1 hI'; clear hI'; obtain ⟨s69, s70, s71, s72, s73, s74, s75, s76, h⟩ := h; obtain ⟨s77, s78, s79, s80, s81, s82, s83, s84, h⟩ := h; obtain ⟨s85, s86, s87, s88, s89, s90, s91, s92, h⟩ := h; obtain ⟨s93, s68, s94, s95, s14, s15, h⟩ := h
    obtain ⟨ha, hC, hP, f2, f10, f11, h⟩ := h; obtain ⟨f14, f22, f23, f24, g⟩ := h; subst ha
    go_simp
    refine hK.out _ _ ((hI _ _ _).2 ⟨_, _, _, _, _, _, _, _, _, _, _, _, _, _, _, _, _, _, _, _, _, _, _, _, _, _, _, _, _, _, rfl, hC, hP.put 9 rfl rfl rfl, f2, f10, f11, f14, f22, f23, f24, g⟩)
  · intro l a W hl hw hsh hI' K hK
    have h := (hI _ _ _).1 hI'; clear hI'; obtain ⟨s69, s70, s71, s72, s73, s74, s75, s76, h⟩ := h; obtain ⟨s77, s78, s79, s80, s81, s82, s83, s84, h⟩ := h; obtain ⟨s85, s86, s87, s88, s89, s90, s91, s92, h⟩ := h; obtain ⟨s93, s68, s94, s95, s14, s15, h⟩ := h
    obtain ⟨ha, hC, hP, f2, f10, f11, h⟩ := h; obtain ⟨f14, f22, f23, f24, g⟩ := h; subst ha
    go_simp
    refine hK.out _ _ ((hI _ _ _).2 ⟨_, _, _, _, _, _, _, _, _, _, _, _, _, _, _, _, _, _, _, _, _, _, _, _, _, _, _, _, _, _, rfl, hC, hP.put 10 rfl rfl rfl, f2, f10, f11, f14, f22, f23, f24, g⟩)
  · intro l a W hl hw hsh hI' K hK
    have h := (hI _ _ _).1 hI'; clear hI'; obtain ⟨s69, s70, s71, s72, s73, s74, s75, s76, h⟩ := h; obtain ⟨s77, s78, s79, s80, s81, s82, s83, s84, h⟩ := h; obtain ⟨s85, s86, s87, s88, s89, s90, s91, s92, h⟩ := h; obtain ⟨s93, s68, s94, s95, s14, s15, h⟩ := h
    obtain ⟨ha, hC, hP, f2, f10, f11, h⟩ := h; obtain ⟨f14, f22, f23, f24, g⟩ := h; subst ha
    obtain rfl := hP.get 10 rfl (hw 13 (by kernel_rfl))
    go_simp
    go_at_call 51
    refine Calls.mono (from_I hfq.out.1 _ (hE.out.below (h0.out.1.trans (hC.toBelow h0.out.1.size (by intro x hx; rw [List.mem_singleton.1 hx]; exact h0.out.2))) (Nat.le_refl _))) ?_
    rintro e W2 ⟨rfl, hb⟩
    have hcellx := @above Bk _ _ hb
    have hsz := hb.size
    refine hK.out _ _ ((hI _ _ _).2 ⟨_, _, _, _, _, _, _, _, _, _, _, _, _, _, _, _, _, _, _, _, _, _, _, _, _, _, _, _, _, _, rfl, hC.below hb, hP.skip 14 rfl, f2, (fun h h5 => (let ⟨g, e, ⟨a, b, c⟩, u, v⟩ := f10 h h5; ⟨g, e, ⟨(hcellx g 0 v u).trans a, (hcellx g 1 v u).trans b, (hcellx g 2 v u).trans c⟩, Nat.lt_of_lt_of_le u hsz, v⟩)), f11, fun _ => rfl, (fun h h5 => (let ⟨g, e, ⟨a, b, c⟩, u, v⟩ := f22 h h5; ⟨g, e, ⟨(hcellx g 0 v u).trans a, (hcellx g 1 v u).trans b, (hcellx g 2 v u).trans c⟩, Nat.lt_of_lt_of_le u hsz, v⟩)), f23, f24, ⟨fun h => (g.1 h).below hb, fun h h2 => (g.2.1 h h2).below hb, fun h => (g.2.2 h).below hb⟩⟩)
  · intro l a W hl hw hsh hI' K hK
    have h := (hI _ _ _).1 hI'; clear hI'; obtain ⟨s69, s70, s71, s72, s73, s74, s75, s76, h⟩ := h; obtain ⟨s77, s78, s79, s80, s81, s82, s83, s84, h⟩ := h; obtain ⟨s85, s86, s87, s88, s89, s90, s91, s92, h⟩ := h; obtain ⟨s93, s68, s94, s95, s14, s15, h⟩ := h
    obtain ⟨ha, hC, hP, f2, f10, f11, h⟩ := h; obtain ⟨f14, f22, f23, f24, g⟩ := h; subst ha
    go_simp
    refine hK.out _ _ ((hI _ _ _).2 ⟨_, _, _, _, _, _, _, _, _, _, _, _, _, _, _, _, _, _, _, _, _, _, _, _, _, _, _, _, _, _, rfl, hC, hP.put 11 rfl rfl rfl, f2, f10, f11, f14, f22, f23, f24, g⟩)
  · intro l a W hl hw hsh hI' K hK
    have h := (hI _ _ _).1 hI'; clear hI'; obtain ⟨s69, s70, s71, s72, s73, s74, s75, s76, h⟩ := h; obtain ⟨s77, s78, s79, s80, s81, s82, s83, s84, h⟩ := h; obtain ⟨s85, s86, s87, s88, s89, s90, s91, s92, h⟩ := h; obtain ⟨s93, s68, s94, s95, s14, s15, h⟩ := h
    obtain ⟨ha, hC, hP, f2, f10, f11, h⟩ := h; obtain ⟨f14, f22, f23, f24, g⟩ := h; subst ha
    obtain rfl := hP.get 11 rfl (hw 15 (by kernel_rfl))
    obtain ⟨x0, x1, x2, x3, x4, x5⟩ := hcell.out _ hC
    go_simp
    refine hK.out _ _ ((hI _ _ _).2 ⟨_, _, _, _, _, _, _, _, _, _, _, _, _, _, _, _, _, _, _, _, _, _, _, _, _, _, _, _, _, _, rfl, hC, hP.put 12 rfl rfl rfl, f2, f10, f11, f14, f22, f23, f24, g⟩)
  · intro l a W hl hw hsh hI' K hK
    have h := (hI _ _ _).1 hI'; clear hI'; obtain ⟨s69, s70, s71, s72, s73, s74, s75, s76, h⟩ := h; obtain ⟨s77, s78, s79, s80, s81, s82, s83, s84, h⟩ := h; obtain ⟨s85, s86, s87, s88, s89, s90, s91, s92, h⟩ := h; obtain ⟨s93, s68, s94, s95, s14, s15, h⟩ := h
    obtain ⟨ha, hC, hP, f2, f10, f11, h⟩ := h; obtain ⟨f14, f22, f23, f24, g⟩ := h; subst ha
    go_simp
    refine hK.out _ _ ((hI _ _ _).2 ⟨_, _, _, _, _, _, _, _, _, _, _, _, _, _, _, _, _, _, _, _, _, _, _, _, _, _, _, _, _, _, rfl, hC, hP.put 13 rfl rfl rfl, f2, f10, f11, f14, f22, f23, f24, g⟩)
  · intro l a W hl hw hsh hI' K hK
    have h := (hI _ _ _).1 hI'; clear hI'; obtain ⟨s69, s70, s71, s72, s73, s74, s75, s76, h⟩ := h; obtain ⟨s77, s78, s79, s80, s81, s82, s83, s84, h⟩ := h; obtain ⟨s85, s86, s87, s88, s89, s90, s91, s92, h⟩ := h; obtain ⟨s93, s68, s94, s95, s14, s15, h⟩ := h
    obtain ⟨ha, hC, hP, f2, f10, f11, h⟩ := h; obtain ⟨f14, f22, f23, f24, g⟩ := h; subst ha
    obtain rfl := hP.get 12 rfl (hw 16 (by kernel_rfl))
    obtain rfl := hP.get 13 rfl (hw 17 (by kernel_rfl))
    go_simp
    refine hK.out _ _ ((hI _ _ _).2 ⟨_, _, _, _, _, _, _, _, _, _, _, _, _, _, _, _, _, _, _, _, _, _, _, _, _, _, _, _, _, _, rfl, hC, hP.put 14 rfl rfl rfl, f2, f10, f11, f14, f22, f23, f24, g⟩)
  · intro l a W hl hw hsh hI' K hK
    have h := (hI _ _ _).1 hI'; clear hI'; obtain ⟨s69, s70, s71, s72, s73, s74, s75, s76, h⟩ := h; obtain ⟨s77, s78, s79, s80, s81, s82, s83, s84, h⟩ := h; obtain ⟨s85, s86, s87, s88, s89, s90, s91, s92, h⟩ := h; obtain ⟨s93, s68, s94, s95, s14, s15, h⟩ := h
    obtain ⟨ha, hC, hP, f2, f10, f11, h⟩ := h; obtain ⟨f14, f22, f23, f24, g⟩ := h; subst ha
    obtain rfl := hP.get 14 rfl (hw 18 (by kernel_rfl))
    obtain ⟨x0, x1, x2, x3, x4, x5⟩ := hcell.out _ hC
    go_simp
    refine hK.out _ _ ((hI _ _ _).2 ⟨_, _, _, _, _, _, _, _, _, _, _, _, _, _, _, _, _, _, _, _, _, _, _, _, _, _, _, _, _, _, rfl, hC, hP.put 15 rfl rfl rfl, f2, f10, f11, f14, f22, f23, f24, g⟩)
  · intro l a W hl hw hsh hI' K hK
    have h := (hI _ _ _).1 hI'; clear hI'; obtain ⟨s69, s70, s71, s72, s73, s74, s75, s76, h⟩ := h; obtain ⟨s77, s78, s79, s80, s81, s82, s83, s84, h⟩ := h; obtain ⟨s85, s86, s87, s88, s89, s90, s91, s92, h⟩ := h; obtain ⟨s93, s68, s94, s95, s14, s15, h⟩ := h
    obtain ⟨ha, hC, hP, f2, f10, f11, h⟩ := h; obtain ⟨f14, f22, f23, f24, g⟩ := h; subst ha
    go_simp
    refine hK.out _ _ ((hI _ _ _).2 ⟨_, _, _, _, _, _, _, _, _, _, _, _, _, _, _, _, _, _, _, _, _, _, _, _, _, _, _, _, _, _, rfl, hC, hP.put 16 rfl rfl rfl, f2, f10, f11, f14, f22, f23, f24, g⟩)
  · intro l a W hl hw hsh hI' K hK
    have h := (hI _ _ _).1 hI'; clear hI'; obtain ⟨s69, s70, s71, s72, s73, s74, s75, s76, h⟩ := h; obtain ⟨s77, s78, s79, s80, s81, s82, s83, s84, h⟩ := h; obtain ⟨s85, s86, s87, s88, s89, s90, s91, s92, h⟩ := h; obtain ⟨s93, s68, s94, s95, s14, s15, h⟩ := h
    obtain ⟨ha, hC, hP, f2, f10, f11, h⟩ := h; obtain ⟨f14, f22, f23, f24, g⟩ := h; subst ha
    obtain rfl := hP.get 16 rfl (hw 20 (by kernel_rfl))
    obtain ⟨x0, x1, x2, x3, x4, x5⟩ := hcell.out _ hC
    go_simp
    refine hK.out _ _ ((hI _ _ _).2 ⟨_, _, _, _, _, _, _, _, _, _, _, _, _, _, _, _, _, _, _, _, _, _, _, _, _, _, _, _, _, _, rfl, hC, hP.put 17 rfl rfl rfl, f2, f10, f11, f14, f22, f23, f24, g⟩)
  · intro l a W hl hw hsh hI' K hK
    have h := (hI _ _ _).1 hI'; clear hI'; obtain ⟨s69, s70, s71, s72, s73, s74, s75, s76, h⟩ := h; obtain ⟨s77, s78, s79, s80, s81, s82, s83, s84, h⟩ := h; obtain ⟨s85, s86, s87, s88, s89, s90, s91, s92, h⟩ := h; obtain ⟨s93, s68, s94, s95, s14, s15, h⟩ := h
    obtain ⟨ha, hC, hP, f2, f10, f11, h⟩ := h; obtain ⟨f14, f22, f23, f24, g⟩ := h; subst ha
    obtain rfl := f14 (hw 14 (by kernel_rfl))
    obtain rfl := hP.get 15 rfl (hw 19 (by kernel_rfl))
    obtain rfl := hP.get 17 rfl (hw 21 (by kernel_rfl))
    go_simp
    have hb := (Below.refl W.heap.size W).alloc (Nat.le_refl _) (.cells #[.string (I q), .string (sb), .string (da)] 9)
    have kn := Blk.new W #[.string (I q), .string (sb), .string (da)] 9
    have hcellx := @above Bk _ _ hb
    have hsz := hb.size
    refine hK.out _ _ ((hI _ _ _).2 ⟨_, _, _, _, _, _, _, _, _, _, _, _, _, _, _, _, _, _, _, _, _, _, _, _, _, _, _, _, _, _, rfl, hC.below hb, hP.skip 22 rfl, f2, (fun h h5 => (let ⟨g, e, ⟨a, b, c⟩, u, v⟩ := f10 h h5; ⟨g, e, ⟨(hcellx g 0 v u).trans a, (hcellx g 1 v u).trans b, (hcellx g 2 v u).trans c⟩, Nat.lt_of_lt_of_le u hsz, v⟩)), f11, f14, fun _ _ => ⟨_, rfl, ⟨kn.cell 0, kn.cell 1, kn.cell 2⟩, kn.lt, fun e => by have := Nat.lt_of_lt_of_le hBk.out hC.size; omega⟩, f23, f24, ⟨fun h => (g.1 h).below hb, fun h h2 => (g.2.1 h h2).below hb, fun h => (g.2.2 h).below hb⟩⟩)
  · intro l a W hl hw hsh hI' K hK
    have h := (hI _ _ _).1 hI'; clear hI'; obtain ⟨s69, s70, s71, s72, s73, s74, s75, s76, h⟩ := h; obtain ⟨s77, s78, s79, s80, s81, s82, s83, s84, h⟩ := h; obtain ⟨s85, s86, s87, s88, s89, s90, s91, s92, h⟩ := h; obtain ⟨s93, s68, s94, s95, s14, s15, h⟩ := h
    obtain ⟨ha, hC, hP, f2, f10, f11, h⟩ := h; obtain ⟨f14, f22, f23, f24, g⟩ := h; subst ha
    obtain rfl := hP.get 9 rfl (hw 12 (by kernel_rfl))
    have h11 : l 11 = true := hsh 14 11 _ rfl (hw 14 (by kernel_rfl)) (by kernel_rfl)
    obtain ⟨gl, el, hgc, hgl, hgne⟩ := f22 (hw 22 (by kernel_rfl)) hl
    subst el
    go_simp
    go_at_call 58
    refine Calls.mono (mix1_any [I q, sb, da] gl 0 3 Bk (mixF fl [I p, sa, db] 3) W (by simp) (by simp) hgl (cells3 hgc) (oks3 ⟨okS_I hfq.out.2, hd.out.2.2.2, hd.out.1⟩) (g.2.1 h11 hl) hgne w0 hE.out (h0.out.1.trans (hC.toBelow h0.out.1.size (by intro x hx; rw [List.mem_singleton.1 hx]; exact h0.out.2))) h0.out.2) ?_
    rintro e W2 ⟨rfl, hk2, ho2⟩
    have hcellx := beside ho2
    have hsz := ho2.size
    refine hK.out _ _ ((hI _ _ _).2 ⟨_, _, _, _, _, _, _, _, _, _, _, _, _, _, _, _, _, _, _, _, _, _, _, _, _, _, _, _, _, _, rfl, hC.trans ho2, hP.skip 23 rfl, f2, (fun _ h5 => off (h5.symm.trans h11)), f11, f14, (fun _ h5 => off h5.symm), fun _ => rfl, f24, ⟨fun h => off (h.symm.trans h11), fun _ h => off h.symm, fun _ => hk2⟩⟩)
  · intro l a W hl hw hsh hI' K hK
    have h := (hI _ _ _).1 hI'; clear hI'; obtain ⟨s69, s70, s71, s72, s73, s74, s75, s76, h⟩ := h; obtain ⟨s77, s78, s79, s80, s81, s82, s83, s84, h⟩ := h; obtain ⟨s85, s86, s87, s88, s89, s90, s91, s92, h⟩ := h; obtain ⟨s93, s68, s94, s95, s14, s15, h⟩ := h
    obtain ⟨ha, hC, hP, f2, f10, f11, h⟩ := h; obtain ⟨f14, f22, f23, f24, g⟩ := h; subst ha
    obtain rfl := f11 (hw 11 (by kernel_rfl))
    obtain rfl := f23 (hw 23 (by kernel_rfl))
    go_simp
    go_at_call 59
    refine Calls.mono (add_any (mixS fl [I p, sa, db] 3) (mixS (mixF fl [I p, sa, db] 3) [I q, sb, da] 3) _ (hE.out.below (h0.out.1.trans (hC.toBelow h0.out.1.size (by intro x hx; rw [List.mem_singleton.1 hx]; exact h0.out.2))) (Nat.le_refl _))) ?_
    rw [mixS_ok, mixS_ok, Bool.and_self, hAd.out]
    rintro e W2 ⟨⟨v, rfl, rfl⟩, hb⟩
    have hcellx := @above Bk _ _ hb
    have hsz := hb.size
    refine hK.out _ _ ((hI _ _ _).2 ⟨_, _, _, _, _, _, _, _, _, _, _, _, _, _, _, _, _, _, _, _, _, _, _, _, _, _, _, _, _, _, rfl, hC.below hb, hP.skip 24 rfl, f2, (fun h h5 => (let ⟨g, e, ⟨a, b, c⟩, u, v⟩ := f10 h h5; ⟨g, e, ⟨(hcellx g 0 v u).trans a, (hcellx g 1 v u).trans b, (hcellx g 2 v u).trans c⟩, Nat.lt_of_lt_of_le u hsz, v⟩)), f11, f14, (fun h h5 => (let ⟨g, e, ⟨a, b, c⟩, u, v⟩ := f22 h h5; ⟨g, e, ⟨(hcellx g 0 v u).trans a, (hcellx g 1 v u).trans b, (hcellx g 2 v u).trans c⟩, Nat.lt_of_lt_of_le u hsz, v⟩)), f23, fun _ => rfl, ⟨fun h => (g.1 h).below hb, fun h h2 => (g.2.1 h h2).below hb, fun h => (g.2.2 h).below hb⟩⟩)
  · intro l a W hl hw hsh hI' K hK
    have h := (hI _ _ _).1 hI'; clear hI'; obtain ⟨s69, s70, s71, s72, s73, s74, s75, s76, h⟩ := h; obtain ⟨s77, s78, s79, s80, s81, s82, s83, s84, h⟩ := h; obtain ⟨s85, s86, s87, s88, s89, s90, s91, s92, h⟩ := h; obtain ⟨s93, s68, s94, s95, s14, s15, h⟩ := h
    obtain ⟨ha, hC, hP, f2, f10, f11, h⟩ := h; obtain ⟨f14, f22, f23, f24, g⟩ := h; subst ha
    obtain rfl := f24 (hw 24 (by kernel_rfl))
    go_simp
    refine hK.out _ _ ((hI _ _ _).2 ⟨_, _, _, _, _, _, _, _, _, _, _, _, _, _, _, _, _, _, _, _, _, _, _, _, _, _, _, _, _, _, rfl, hC, hP.put 18 rfl rfl rfl, f2, f10, f11, f14, f22, f23, f24, g⟩)
  · intro l a W hl hw hsh hI' K hK
    have h := (hI _ _ _).1 hI'; clear hI'; obtain ⟨s69, s70, s71, s72, s73, s74, s75, s76, h⟩ := h; obtain ⟨s77, s78, s79, s80, s81, s82, s83, s84, h⟩ := h; obtain ⟨s85, s86, s87, s88, s89, s90, s91, s92, h⟩ := h; obtain ⟨s93, s68, s94, s95, s14, s15, h⟩ := h
    obtain ⟨ha, hC, hP, f2, f10, f11, h⟩ := h; obtain ⟨f14, f22, f23, f24, g⟩ := h; subst ha
    obtain rfl := hP.get 18 rfl (hw 25 (by kernel_rfl))
    go_simp
    refine hK.out _ _ ((hI _ _ _).2 ⟨_, _, _, _, _, _, _, _, _, _, _, _, _, _, _, _, _, _, _, _, _, _, _, _, _, _, _, _, _, _, rfl, hC, hP.put 19 rfl rfl rfl, f2, f10, f11, f14, f22, f23, f24, g⟩)
  · intro l a W hl hw hsh hI' K hK
    have h := (hI _ _ _).1 hI'; clear hI'; obtain ⟨s69, s70, s71, s72, s73, s74, s75, s76, h⟩ := h; obtain ⟨s77, s78, s79, s80, s81, s82, s83, s84, h⟩ := h; obtain ⟨s85, s86, s87, s88, s89, s90, s91, s92, h⟩ := h; obtain ⟨s93, s68, s94, s95, s14, s15, h⟩ := h
    obtain ⟨ha, hC, hP, f2, f10, f11, h⟩ := h; obtain ⟨f14, f22, f23, f24, g⟩ := h; subst ha
    obtain rfl := hP.get 18 rfl (hw 25 (by kernel_rfl))
    go_simp
    refine hK.out _ _ ((hI _ _ _).2 ⟨_, _, _, _, _, _, _, _, _, _, _, _, _, _, _, _, _, _, _, _, _, _, _, _, _, _, _, _, _, _, rfl, hC, hP.put 20 rfl rfl rfl, f2, f10, f11, f14, f22, f23, f24, g⟩)
  · intro l a W hl hw hsh hI' K hK
    have h := (hI _ _ _).1 hI'; clear hI'; obtain ⟨s69, s70, s71, s72, s73, s74, s75, s76, h⟩ := h; obtain ⟨s77, s78, s79, s80, s81, s82, s83, s84, h⟩ := h; obtain ⟨s85, s86, s87, s88, s89, s90, s91, s92, h⟩ := h; obtain ⟨s93, s68, s94, s95, s14, s15, h⟩ := h
    obtain ⟨ha, hC, hP, f2, f10, f11, h⟩ := h; obtain ⟨f14, f22, f23, f24, g⟩ := h; subst ha
    obtain rfl := hP.get 19 rfl (hw 26 (by kernel_rfl))
    go_simp
    refine hK.out _ _ ((hI _ _ _).2 ⟨_, _, _, _, _, _, _, _, _, _, _, _, _, _, _, _, _, _, _, _, _, _, _, _, _, _, _, _, _, _, rfl, hC, hP.put 21 rfl rfl rfl, f2, f10, f11, f14, f22, f23, f24, g⟩)
  · intro l a W hl hw hsh hI' K hK
    have h := (hI _ _ _).1 hI'; clear hI'; obtain ⟨s69, s70, s71, s72, s73, s74, s75, s76, h⟩ := h; obtain ⟨s77, s78, s79, s80, s81, s82, s83, s84, h⟩ := h; obtain ⟨s85, s86, s87, s88, s89, s90, s91, s92, h⟩ := h; obtain ⟨s93, s68, s94, s95, s14, s15, h⟩ := h
    obtain ⟨ha, hC, hP, f2, f10, f11, h⟩ := h; obtain ⟨f14, f22, f23, f24, g⟩ := h; subst ha
    obtain rfl := hP.get 20 rfl (hw 27 (by kernel_rfl))
    go_simp
    refine hK.out _ _ ((hI _ _ _).2 ⟨_, _, _, _, _, _, _, _, _, _, _, _, _, _, _, _, _, _, _, _, _, _, _, _, _, _, _, _, _, _, rfl, hC, hP.put 22 rfl rfl rfl, f2, f10, f11, f14, f22, f23, f24, g⟩)
  · intro a W hI'
    have h := (hI _ _ _).1 hI'; clear hI'; obtain ⟨s69, s70, s71, s72, s73, s74, s75, s76, h⟩ := h; obtain ⟨s77, s78, s79, s80, s81, s82, s83, s84, h⟩ := h; obtain ⟨s85, s86, s87, s88, s89, s90, s91, s92, h⟩ := h; obtain ⟨s93, s68, s94, s95, s14, s15, h⟩ := h
    obtain ⟨ha, hC, hP, f2, f10, f11, h⟩ := h; obtain ⟨f14, f22, f23, f24, g⟩ := h; subst ha
    clear f2
    clear f10
    clear f11
    clear f14
    clear f22
    clear f23
    clear f24
    obtain rfl := hP.get 21 rfl (by kernel_rfl)
    obtain rfl := hP.get 22 rfl (by kernel_rfl)
    exact hQ.out _ _ _ _ _ _ _ _ _ _ _ _ _ _ _ _ _ _ _ _ _ _ _ _ _ _ _ _ _ hC (g.2.2 (by kernel_rfl))
end Go.Proofs.YtcmomjnailihpaaGreatDoor
