/- LwU -/
import Derived.Test.YtcmomjnailihpaaGreatDoorZLwO
import Derived.Test.YtcmomjnailihpaaGreatDoorZRgI
namespace Go.Proofs.YtcmomjnailihpaaGreatDoor
open Go.RowKit
open LnM (wd upd)
attribute [local go_sem] Oper.semAt_some
set_option maxRecDepth 100000 in
set_option maxHeartbeats 8000000 in
theorem open_r19 {Q : Exit → Act → World → Prop} {u0 u2 u5 u8 u9 u10 u11 u12 u13 u14 u15 u16 u17 u18 u19 u20 u21 u22 u23 u24 u25 u26 u27 u28 u29 u30 u31 u32 u33 u34 u35 u36 u37 u38 u39 u40 u41 u42 u43 u44 u45 u46 u47 u48 u49 u50 u51 u52 u53 u54 u55 u56 u57 u58 u59 u60 u61 u62 u63 u64 u65 u66 u67 u68 u69 u70 u71 u72 u73 u74 u75 u76 u77 u78 u79 u80 u81 u82 u83 u84 u85 u86 u87 u88 u89 u90 u91 u92 u93 u94 u95 u96 u97 u98 u99 u100 u101 u102 u103 u104 u105 u106 u107 u108 u109 u110 u111 u112 u113 u114 u115 u116 u117 u118 u119 u120 u121 u122 u123 u124 u125 u126 u127 u128 u129 u130 u131 u132 u133 u134 u135 : Value} {tb cb rb xB n cols i q base : Nat} {sg : Int} {rv bv sv : Value} {xr xb xs : List Value} {w : World} (hqe : IntKind.i64.wrap ((cols : Int) + i) = q) (hi : i ≤ 1000) (hbase : base ≤ w.heap.size)
    (hx : Hid (xB < w.heap.size ∧ w.cell? ⟨xB, 0, none⟩ = some (.int .i64 cols) ∧ xB ∉ hotS tb rv bv sv)) (hT : Hid (Blk w tb (tbc (rv) cb n (bv) (sv) 1 cols) 75)) (hO : Hid (Own3 w w base rv bv sv rv i xr bv i xb sv i xs)) {ops : Array Oper} (ho : getOps Tryz.f37.body 19 = some ops)
    (hQ : ∀ (v101 v102 v103 v104 v105 v106 v107 v108 v109 v110 v111 v112 v113 v114 v115 v116 v117 v118 v119 v120 v121 v122 v123 v124 v125 v126 v127 v128 v129 v130 v131 v132 v133 : Value) (gr kr gb kb gs ks : Nat) (W' : World), Only (hotS tb rv bv sv) w W' → Blk W' tb (tbc (.slice (some ⟨gr, 0, none⟩) (i + 1) kr) cb n (.slice (some ⟨gb, 0, none⟩) (i + 1) kb) (.slice (some ⟨gs, 0, none⟩) (i + 1) ks) 1 cols) 75 → Own3 w W' base rv bv sv (.slice (some ⟨gr, 0, none⟩) (i + 1) kr) (i + 1) (xr ++ [.slice (some ⟨rb, 0, none⟩) n n]) (.slice (some ⟨gb, 0, none⟩) (i + 1) kb) (i + 1) (xb ++ [.int .i64 q]) (.slice (some ⟨gs, 0, none⟩) (i + 1) ks) (i + 1) (xs ++ [.int .i64 sg]) → Q .normal { tmps := List.toArray (u0::.pointer (some ⟨xB, 0, none⟩)::u2::.pointer (some ⟨tb, 0, none⟩)::.int .i64 i::u5::.int .i64 sg::.slice (some ⟨rb, 0, none⟩) n n::u8::u9::u10::u11::u12::u13::u14::u15::u16::u17::u18::u19::u20::u21::u22::u23::u24::u25::u26::u27::u28::u29::u30::u31::u32::u33::u34::u35::u36::u37::u38::u39::u40::u41::u42::u43::u44::u45::u46::u47::u48::u49::u50::u51::u52::u53::u54::u55::u56::u57::u58::u59::u60::u61::u62::u63::u64::u65::u66::u67::u68::u69::u70::u71::u72::u73::u74::u75::u76::u77::u78::u79::u80::u81::u82::u83::u84::u85::u86::u87::u88::u89::u90::u91::u92::u93::u94::u95::u96::u97::u98::u99::u100::v101::v102::v103::v104::v105::v106::v107::v108::v109::v110::v111::v112::v113::v114::v115::v116::v117::v118::v119::v120::v121::v122::v123::v124::v125::v126::v127::v128::v129::v130::v131::v132::v133::u134::u135::[]), defers := [] } W') :
    (Code.region 19 ops true).wp Tryz.prog Q { tmps := List.toArray (u0::.pointer (some ⟨xB, 0, none⟩)::u2::.pointer (some ⟨tb, 0, none⟩)::.int .i64 i::u5::.int .i64 sg::.slice (some ⟨rb, 0, none⟩) n n::u8::u9::u10::u11::u12::u13::u14::u15::u16::u17::u18::u19::u20::u21::u22::u23::u24::u25::u26::u27::u28::u29::u30::u31::u32::u33::u34::u35::u36::u37::u38::u39::u40::u41::u42::u43::u44::u45::u46::u47::u48::u49::u50::u51::u52::u53::u54::u55::u56::u57::u58::u59::u60::u61::u62::u63::u64::u65::u66::u67::u68::u69::u70::u71::u72::u73::u74::u75::u76::u77::u78::u79::u80::u81::u82::u83::u84::u85::u86::u87::u88::u89::u90::u91::u92::u93::u94::u95::u96::u97::u98::u99::u100::u101::u102::u103::u104::u105::u106::u107::u108::u109::u110::u111::u112::u113::u114::u115::u116::u117::u118::u119::u120::u121::u122::u123::u124::u125::u126::u127::u128::u129::u130::u131::u132::u133::u134::u135::[]), defers := [] } w := by
  obtain rfl := Option.some.inj (ho.symm.trans (rfl : getOps Tryz.f37.body 19 = some _))
  clear ho
  replace hQ := Lib.hid hQ
  obtain ⟨Iv, hI⟩ : ∃ Iv : (Nat → Bool) → Act → World → Prop, ∀ l a W, Iv l a W ↔ (∃ s101 s102 s103 s104 s105 s106 s107 s108 s109 s110 s111 s112 s113 s114 s115 s116 s117 s118 s119 s120 s121 s122 s123 s124 s125 s126 s127 s128 s129 s130 s131 s132 s133 : Value, a = { tmps := List.toArray (u0::.pointer (some ⟨xB, 0, none⟩)::u2::.pointer (some ⟨tb, 0, none⟩)::.int .i64 i::u5::.int .i64 sg::.slice (some ⟨rb, 0, none⟩) n n::u8::u9::u10::u11::u12::u13::u14::u15::u16::u17::u18::u19::u20::u21::u22::u23::u24::u25::u26::u27::u28::u29::u30::u31::u32::u33::u34::u35::u36::u37::u38::u39::u40::u41::u42::u43::u44::u45::u46::u47::u48::u49::u50::u51::u52::u53::u54::u55::u56::u57::u58::u59::u60::u61::u62::u63::u64::u65::u66::u67::u68::u69::u70::u71::u72::u73::u74::u75::u76::u77::u78::u79::u80::u81::u82::u83::u84::u85::u86::u87::u88::u89::u90::u91::u92::u93::u94::u95::u96::u97::u98::u99::u100::s101::s102::s103::s104::s105::s106::s107::s108::s109::s110::s111::s112::s113::s114::s115::s116::s117::s118::s119::s120::s121::s122::s123::s124::s125::s126::s127::s128::s129::s130::s131::s132::s133::u134::u135::[]), defers := [] } ∧ Only (hotS tb rv bv sv) w W ∧ Vs [(0, .pointer (some ⟨tb, 0, none⟩), s101), (1, .pointer (some ⟨tb, 0, none⟩), s102), (2, .pointer (some ⟨tb, 0, none⟩), s103), (3, .pointer (some ⟨tb, 0, none⟩), s104), (4, .pointer (some ⟨tb, 0, none⟩), s105), (5, .pointer (some ⟨tb, 0, none⟩), s106), (6, rv, s107), (7, .slice (some ⟨rb, 0, none⟩) n n, s108), (10, .pointer (some ⟨tb, 0, none⟩), s111), (11, .pointer (some ⟨tb, 0, none⟩), s112), (12, .pointer (some ⟨tb, 2, none⟩), s113), (13, bv, s114), (14, .pointer (some ⟨xB, 0, none⟩), s115), (15, .int .i64 cols, s116), (16, .int .i64 i, s117), (17, .int .i64 q, s118), (20, .pointer (some ⟨tb, 0, none⟩), s121), (21, .pointer (some ⟨tb, 0, none⟩), s122), (22, .pointer (some ⟨tb, 3, none⟩), s123), (23, sv, s124), (24, .int .i64 sg, s125), (27, .pointer (some ⟨tb, 0, none⟩), s128), (28, .pointer (some ⟨tb, 0, none⟩), s129), (30, .pointer (some ⟨tb, 0, none⟩), s130), (31, .pointer (some ⟨tb, 2, none⟩), s131), (33, .pointer (some ⟨tb, 0, none⟩), s132), (34, .pointer (some ⟨tb, 3, none⟩), s133)] l ∧ (l 8 = true → ∃ g : Nat, s109 = .slice (some ⟨g, 0, none⟩) 1 1 ∧ W.cell? ⟨g, 0, none⟩ = some (.slice (some ⟨rb, 0, none⟩) n n) ∧ w.heap.size ≤ g ∧ g < W.heap.size) ∧ (l 9 = true → ∃ g cap : Nat, s110 = .slice (some ⟨g, 0, none⟩) (i + 1) cap) ∧ (l 18 = true → ∃ g : Nat, s119 = .slice (some ⟨g, 0, none⟩) 1 1 ∧ W.cell? ⟨g, 0, none⟩ = some (.int .i64 q) ∧ w.heap.size ≤ g ∧ g < W.heap.size) ∧ (l 19 = true → ∃ g cap : Nat, s120 = .slice (some ⟨g, 0, none⟩) (i + 1) cap) ∧ (l 25 = true → ∃ g : Nat, s126 = .slice (some ⟨g, 0, none⟩) 1 1 ∧ W.cell? ⟨g, 0, none⟩ = some (.int .i64 sg) ∧ w.heap.size ≤ g ∧ g < W.heap.size) ∧ (l 26 = true → ∃ g cap : Nat, s127 = .slice (some ⟨g, 0, none⟩) (i + 1) cap) ∧ (Blk W tb (tbc (bif l 29 then s110 else rv) cb n (bif l 32 then s120 else bv) (bif l 35 then s127 else sv) 1 cols) 75) ∧ (Own3 w W base rv bv sv (bif l 9 then s110 else rv) (bif l 9 then i + 1 else i) (bif l 9 then xr ++ [.slice (some ⟨rb, 0, none⟩) n n] else xr) (bif l 19 then s120 else bv) (bif l 19 then i + 1 else i) (bif l 19 then xb ++ [.int .i64 q] else xb) (bif l 26 then s127 else sv) (bif l 26 then i + 1 else i) (bif l 26 then xs ++ [.int .i64 sg] else xs))) := ⟨_, fun _ _ _ => Iff.rfl⟩
  refine wp_region_inv Iv (by kernel_rfl) (by kernel_rfl) ((hI _ _ _).2 ⟨_, _, _, _, _, _, _, _, _, _, _, _, _, _, _, _, _, _, _, _, _, _, _, _, _, _, _, _, _, _, _, _, _, rfl, (Only.refl (hotS tb rv bv sv) w).drewN 1, Vs.zero, fun h => off h, fun h => off h, fun h => off h, fun h => off h, fun h => off h, fun h => off h, hT.out.below (below_drewN w 1), hO.out.below (below_drewN w 1)⟩) (stepsI_cons (k := 0) ?_ (stepsI_cons (k := 1) ?_ (stepsI_cons (k := 2) ?_ (stepsI_cons (k := 3) ?_ (stepsI_cons (k := 4) ?_ (stepsI_cons (k := 5) ?_ (stepsI_cons (k := 6) ?_ (stepsI_cons (k := 7) ?_ (stepsI_cons (k := 8) ?_ (stepsI_cons (k := 9) ?_ (stepsI_cons (k := 10) ?_ (stepsI_cons (k := 11) ?_ (stepsI_cons (k := 12) ?_ (stepsI_cons (k := 13) ?_ (stepsI_cons (k := 14) ?_ (stepsI_cons (k := 15) ?_ (stepsI_cons (k := 16) ?_ (stepsI_cons (k := 17) ?_ (stepsI_cons (k := 18) ?_ (stepsI_cons (k := 19) ?_ (stepsI_cons (k := 20) ?_ (stepsI_cons (k := 21) ?_ (stepsI_cons (k := 22) ?_ (stepsI_cons (k := 23) ?_ (stepsI_cons (k := 24) ?_ (stepsI_cons (k := 25) ?_ (stepsI_cons (k := 26) ?_ (stepsI_cons (k := 27) ?_ (stepsI_cons (k := 28) ?_ (stepsI_cons (k := 29) ?_ (stepsI_cons (k := 30) ?_ (stepsI_cons (k := 31) ?_ (stepsI_cons (k := 32) ?_ (stepsI_cons (k := 33) ?_ (stepsI_cons (k := 34) ?_ (stepsI_cons (k := 35) ?_ (stepsI_nil))))))))))))))))))))))))))))))))))))) ?_
  · intro l a W hl hw hsh hI' K hK
    have h := (hI _ _ _).1 hI'; clear hI'; obtain ⟨s101, s102, s103, s104, s105, s106, s107, s108, h⟩ := h; obtain ⟨s109, s110, s111, s112, s113, s114, s115, s116, h⟩ := h; obtain ⟨s117, s118, s119, s120, s121, s122, s123, s124, h⟩ := h; obtain ⟨s125, s126, s127, s128, s129, s130, s131, s132, h⟩ := h; obtain ⟨s133, h⟩ := h
    obtain ⟨ha, hC, hP, f8, f9, f18, h⟩ := h; obtain ⟨f19, f25, f26, T, O⟩ := h; subst ha
    go_simp
    refine hK.out _ _ ((hI _ _ _).2 ⟨_, _, _, _, _, _, _, _, _, _, _, _, _, _, _, _, _, _, _, _, _, _, _, _, _, _, _, _, _, _, _, _, _, rfl, hC, hP.put 0 rfl rfl rfl, f8, f9, f18, f19, f25, f26, T, O⟩)
  · intro l a W hl hw hsh hI' K hK
    have h := (hI _ _ _).1 hI'; clear hI'; obtain ⟨s101, s102, s103, s104, s105, s106, s107, s108, h⟩ := h; obtain ⟨s109, s110, s111, s112, s113, s114, s115, s116, h⟩ := h; obtain ⟨s117, s118, s119, s120, s121, s122, s123, s124, h⟩ := h; obtain ⟨s125, s126, s127, s128, s129, s130, s131, s132, h⟩ := h; obtain ⟨s133, h⟩ := h
    obtain ⟨ha, hC, hP, f8, f9, f18, h⟩ := h; obtain ⟨f19, f25, f26, T, O⟩ := h; subst ha
    go_simp
    refine hK.out _ _ ((hI _ _ _).2 ⟨_, _, _, _, _, _, _, _, _, _, _, _, _, _, _, _, _, _, _, _, _, _, _, _, _, _, _, _, _, _, _, _, _, rfl, hC, hP.put 1 rfl rfl rfl, f8, f9, f18, f19, f25, f26, T, O⟩)
  · intro l a W hl hw hsh hI' K hK
    have h := (hI _ _ _).1 hI'; clear hI'; obtain ⟨s101, s102, s103, s104, s105, s106, s107, s108, h⟩ := h; obtain ⟨s109, s110, s111, s112, s113, s114, s115, s116, h⟩ := h; obtain ⟨s117, s118, s119, s120, s121, s122, s123, s124, h⟩ := h; obtain ⟨s125, s126, s127, s128, s129, s130, s131, s132, h⟩ := h; obtain ⟨s133, h⟩ := h
    obtain ⟨ha, hC, hP, f8, f9, f18, h⟩ := h; obtain ⟨f19, f25, f26, T, O⟩ := h; subst ha
    go_simp
    refine hK.out _ _ ((hI _ _ _).2 ⟨_, _, _, _, _, _, _, _, _, _, _, _, _, _, _, _, _, _, _, _, _, _, _, _, _, _, _, _, _, _, _, _, _, rfl, hC, hP.put 2 rfl rfl rfl, f8, f9, f18, f19, f25, f26, T, O⟩)
  · intro l a W hl hw hsh hI' K hK
    have h := (hI _ _ _).1 hI'; clear hI'; obtain ⟨s101, s102, s103, s104, s105, s106, s107, s108, h⟩ := h; obtain ⟨s109, s110, s111, s112, s113, s114, s115, s116, h⟩ := h; obtain ⟨s117, s118, s119, s120, s121, s122, s123, s124, h⟩ := h; obtain ⟨s125, s126, s127, s128, s129, s130, s131, s132, h⟩ := h; obtain ⟨s133, h⟩ := h
    obtain ⟨ha, hC, hP, f8, f9, f18, h⟩ := h; obtain ⟨f19, f25, f26, T, O⟩ := h; subst ha
    go_simp
    refine hK.out _ _ ((hI _ _ _).2 ⟨_, _, _, _, _, _, _, _, _, _, _, _, _, _, _, _, _, _, _, _, _, _, _, _, _, _, _, _, _, _, _, _, _, rfl, hC, hP.put 3 rfl rfl rfl, f8, f9, f18, f19, f25, f26, T, O⟩)
  · intro l a W hl hw hsh hI' K hK
    have h := (hI _ _ _).1 hI'; clear hI'; obtain ⟨s101, s102, s103, s104, s105, s106, s107, s108, h⟩ := h; obtain ⟨s109, s110, s111, s112, s113, s114, s115, s116, h⟩ := h; obtain ⟨s117, s118, s119, s120, s121, s122, s123, s124, h⟩ := h; obtain ⟨s125, s126, s127, s128, s129, s130, s131, s132, h⟩ := h; obtain ⟨s133, h⟩ := h
    obtain ⟨ha, hC, hP, f8, f9, f18, h⟩ := h; obtain ⟨f19, f25, f26, T, O⟩ := h; subst ha
    obtain rfl := hP.get 3 rfl (hw 3 (by kernel_rfl))
    go_simp
    refine hK.out _ _ ((hI _ _ _).2 ⟨_, _, _, _, _, _, _, _, _, _, _, _, _, _, _, _, _, _, _, _, _, _, _, _, _, _, _, _, _, _, _, _, _, rfl, hC, hP.put 4 rfl rfl rfl, f8, f9, f18, f19, f25, f26, T, O⟩)
  · intro l a W hl hw hsh hI' K hK
    have h := (hI _ _ _).1 hI'; clear hI'; obtain ⟨s101, s102, s103, s104, s105, s106, s107, s108, h⟩ := h; obtain ⟨s109, s110, s111, s112, s113, s114, s115, s116, h⟩ := h; obtain ⟨s117, s118, s119, s120, s121, s122, s123, s124, h⟩ := h; obtain ⟨s125, s126, s127, s128, s129, s130, s131, s132, h⟩ := h; obtain ⟨s133, h⟩ := h
    obtain ⟨ha, hC, hP, f8, f9, f18, h⟩ := h; obtain ⟨f19, f25, f26, T, O⟩ := h; subst ha
    obtain rfl := hP.get 4 rfl (hw 4 (by kernel_rfl))
    go_simp
    refine hK.out _ _ ((hI _ _ _).2 ⟨_, _, _, _, _, _, _, _, _, _, _, _, _, _, _, _, _, _, _, _, _, _, _, _, _, _, _, _, _, _, _, _, _, rfl, hC, hP.put 5 rfl rfl rfl, f8, f9, f18, f19, f25, f26, T, O⟩)
  · intro l a W hl hw hsh hI' K hK
    have h := (hI _ _ _).1 hI'; clear hI'; obtain ⟨s101, s102, s103, s104, s105, s106, s107, s108, h⟩ := h; obtain ⟨s109, s110, s111, s112, s113, s114, s115, s116, h⟩ := h; obtain ⟨s117, s118, s119, s120, s121, s122, s123, s124, h⟩ := h; obtain ⟨s125, s126, s127, s128, s129, s130, s131, s132, h⟩ := h; obtain ⟨s133, h⟩ := h
    obtain ⟨ha, hC, hP, f8, f9, f18, h⟩ := h; obtain ⟨f19, f25, f26, T, O⟩ := h; subst ha
    obtain rfl := hP.get 5 rfl (hw 5 (by kernel_rfl))
    have hst : l 29 = false := by
      cases hc : l 29 with
      | false => rfl
      | true => exact absurd (hsh 9 6 _ rfl (hsh 29 9 _ rfl (hc) (by kernel_rfl)) (by kernel_rfl)) (by simp [hl])
    have x1 : W.cell? ⟨tb, 0, none⟩ = some (rv) := by have := T.cell 0; rw [hst] at this; exact this
    go_simp
    refine hK.out _ _ ((hI _ _ _).2 ⟨_, _, _, _, _, _, _, _, _, _, _, _, _, _, _, _, _, _, _, _, _, _, _, _, _, _, _, _, _, _, _, _, _, rfl, hC, hP.put 6 rfl rfl rfl, f8, f9, f18, f19, f25, f26, T, O⟩)
  · intro l a W hl hw hsh hI' K hK
    have h := (hI _ _ _).1 hI'; clear hI'; obtain ⟨s101, s102, s103, s104, s105, s106, s107, s108, h⟩ := h; obtain ⟨s109, s110, s111, s112, s113, s114, s115, s116, h⟩ := h; obtain ⟨s117, s118, s119, s120, s121, s122, s123, s124, h⟩ := h; obtain ⟨s125, s126, s127, s128, s129, s130, s131, s132, h⟩ := h; obtain ⟨s133, h⟩ := h
    obtain ⟨ha, hC, hP, f8, f9, f18, h⟩ := h; obtain ⟨f19, f25, f26, T, O⟩ := h; subst ha
    go_simp
    refine hK.out _ _ ((hI _ _ _).2 ⟨_, _, _, _, _, _, _, _, _, _, _, _, _, _, _, _, _, _, _, _, _, _, _, _, _, _, _, _, _, _, _, _, _, rfl, hC, hP.put 7 rfl rfl rfl, f8, f9, f18, f19, f25, f26, T, O⟩)
  · intro l a W hl hw hsh hI' K hK
    have h := (hI _ _ _).1 hI'; clear hI'; obtain ⟨s101, s102, s103, s104, s105, s106, s107, s108, h⟩ := h; obtain ⟨s109, s110, s111, s112, s113, s114, s115, s116, h⟩ := h; obtain ⟨s117, s118, s119, s120, s121, s122, s123, s124, h⟩ := h; obtain ⟨s125, s126, s127, s128, s129, s130, s131, s132, h⟩ := h; obtain ⟨s133, h⟩ := h
    obtain ⟨ha, hC, hP, f8, f9, f18, h⟩ := h; obtain ⟨f19, f25, f26, T, O⟩ := h; subst ha
    obtain rfl := hP.get 7 rfl (hw 7 (by kernel_rfl))
    go_simp
    have hb := (Below.refl W.heap.size W).alloc (Nat.le_refl _) (.cells #[.slice (some ⟨rb, 0, none⟩) n n] 70)
    have hcell := new_cell (w := w) hb
    have hsz := hb.size
    refine hK.out _ _ ((hI _ _ _).2 ⟨_, _, _, _, _, _, _, _, _, _, _, _, _, _, _, _, _, _, _, _, _, _, _, _, _, _, _, _, _, _, _, _, _, rfl, hC.below hb, hP.skip 8 rfl, fun _ => ⟨_, rfl, (Blk.new W #[.slice (some ⟨rb, 0, none⟩) n n] 70).cell 0, hC.size, by simp⟩, f9, (fun h => (let ⟨g, e, a, b, c⟩ := f18 h; ⟨g, e, (hcell g 0 b c).trans a, b, Nat.lt_of_lt_of_le c hsz⟩)), f19, (fun h => (let ⟨g, e, a, b, c⟩ := f25 h; ⟨g, e, (hcell g 0 b c).trans a, b, Nat.lt_of_lt_of_le c hsz⟩)), f26, T.below hb, O.below hb⟩)
  · intro l a W hl hw hsh hI' K hK
    have h := (hI _ _ _).1 hI'; clear hI'; obtain ⟨s101, s102, s103, s104, s105, s106, s107, s108, h⟩ := h; obtain ⟨s109, s110, s111, s112, s113, s114, s115, s116, h⟩ := h; obtain ⟨s117, s118, s119, s120, s121, s122, s123, s124, h⟩ := h; obtain ⟨s125, s126, s127, s128, s129, s130, s131, s132, h⟩ := h; obtain ⟨s133, h⟩ := h
    obtain ⟨ha, hC, hP, f8, f9, f18, h⟩ := h; obtain ⟨f19, f25, f26, T, O⟩ := h; subst ha
    obtain rfl := hP.get 6 rfl (hw 6 (by kernel_rfl))
    obtain ⟨g, rfl, hg0, hgw, hgl⟩ := f8 (hw 8 (by kernel_rfl))
    rw [if_pos (by rfl)]
    have hst : l 29 = false := by
      cases hc : l 29 with
      | false => rfl
      | true => exact absurd (hsh 29 9 _ rfl (hc) (by kernel_rfl)) (by simp [hl])
    simp only [hl, cond_false] at O
    rw [hst] at T
    simp only [cond_false] at T
    refine oper_app_own _ 70 (.slice none 0 0) 24 Tryz.underlying69 info_row rfl _ _ rfl rv i xr (by go_simp) O.r g (.slice (some ⟨rb, 0, none⟩) n n) (by go_simp) hg0 rfl (by omega) (by omega) (Nat.le_trans hbase hC.size) ?_
    intro v' W2 hr hg hv
    have hr2 := hr.2
    rcases hr2 with ⟨rfl, h0⟩ | ⟨g2, cap2, cur, rfl, -⟩
    · omega
    have hcell := old_cell (w := w) hg (fun k e => (hO.out.r.lt k e).2)
    have hsz := hg.size
    have T2 := T.kept hg (T.not_row (by decide) O.r)
    have O2 := O.setR hg hr hv
    refine hK.out _ _ ((hI _ _ _).2 ⟨_, _, _, _, _, _, _, _, _, _, _, _, _, _, _, _, _, _, _, _, _, _, _, _, _, _, _, _, _, _, _, _, _, rfl, hC.grown hg (fun k e => .inl (hot_r k e)), hP.skip 9 rfl, (fun h => (let ⟨g, e, a, b, c⟩ := f8 h; ⟨g, e, (hcell g 0 b c).trans a, b, Nat.lt_of_lt_of_le c hsz⟩)), fun _ => ⟨g2, cap2, rfl⟩, (fun h => (let ⟨g, e, a, b, c⟩ := f18 h; ⟨g, e, (hcell g 0 b c).trans a, b, Nat.lt_of_lt_of_le c hsz⟩)), f19, (fun h => (let ⟨g, e, a, b, c⟩ := f25 h; ⟨g, e, (hcell g 0 b c).trans a, b, Nat.lt_of_lt_of_le c hsz⟩)), f26, (by rw [show set1 l 9 29 = false from hst]; exact T2), O2⟩)
  · intro l a W hl hw hsh hI' K hK
    have h := (hI _ _ _).1 hI'; clear hI'; obtain ⟨s101, s102, s103, s104, s105, s106, s107, s108, h⟩ := h; obtain ⟨s109, s110, s111, s112, s113, s114, s115, s116, h⟩ := h; obtain ⟨s117, s118, s119, s120, s121, s122, s123, s124, h⟩ := h; obtain ⟨s125, s126, s127, s128, s129, s130, s131, s132, h⟩ := h; obtain ⟨s133, h⟩ := h
    obtain ⟨ha, hC, hP, f8, f9, f18, h⟩ := h; obtain ⟨f19, f25, f26, T, O⟩ := h; subst ha
    go_simp
    refine hK.out _ _ ((hI _ _ _).2 ⟨_, _, _, _, _, _, _, _, _, _, _, _, _, _, _, _, _, _, _, _, _, _, _, _, _, _, _, _, _, _, _, _, _, rfl, hC, hP.put 8 rfl rfl rfl, f8, f9, f18, f19, f25, f26, T, O⟩)
  · intro l a W hl hw hsh hI' K hK
    have h := (hI _ _ _).1 hI'; clear hI'; obtain ⟨s101, s102, s103, s104, s105, s106, s107, s108, h⟩ := h; obtain ⟨s109, s110, s111, s112, s113, s114, s115, s116, h⟩ := h; obtain ⟨s117, s118, s119, s120, s121, s122, s123, s124, h⟩ := h; obtain ⟨s125, s126, s127, s128, s129, s130, s131, s132, h⟩ := h; obtain ⟨s133, h⟩ := h
    obtain ⟨ha, hC, hP, f8, f9, f18, h⟩ := h; obtain ⟨f19, f25, f26, T, O⟩ := h; subst ha
    obtain rfl := hP.get 8 rfl (hw 10 (by kernel_rfl))
    go_simp
    refine hK.out _ _ ((hI _ _ _).2 ⟨_, _, _, _, _, _, _, _, _, _, _, _, _, _, _, _, _, _, _, _, _, _, _, _, _, _, _, _, _, _, _, _, _, rfl, hC, hP.put 9 rfl rfl rfl, f8, f9, f18, f19, f25, f26, T, O⟩)
  · intro l a W hl hw hsh hI' K hK
    have h := (hI _ _ _).1 hI'; clear hI'; obtain ⟨s101, s102, s103, s104, s105, s106, s107, s108, h⟩ := h; obtain ⟨s109, s110, s111, s112, s113, s114, s115, s116, h⟩ := h; obtain ⟨s117, s118, s119, s120, s121, s122, s123, s124, h⟩ := h; obtain ⟨s125, s126, s127, s128, s129, s130, s131, s132, h⟩ := h; obtain ⟨s133, h⟩ := h
    obtain ⟨ha, hC, hP, f8, f9, f18, h⟩ := h; obtain ⟨f19, f25, f26, T, O⟩ := h; subst ha
    obtain rfl := hP.get 9 rfl (hw 11 (by kernel_rfl))
    go_simp
    refine hK.out _ _ ((hI _ _ _).2 ⟨_, _, _, _, _, _, _, _, _, _, _, _, _, _, _, _, _, _, _, _, _, _, _, _, _, _, _, _, _, _, _, _, _, rfl, hC, hP.put 10 rfl rfl rfl, f8, f9, f18, f19, f25, f26, T, O⟩)
  · intro l a W hl hw hsh hI' K hK
    have h := (hI _ _ _).1 hI'; clear hI'; obtain ⟨s101, s102, s103, s104, s105, s106, s107, s108, h⟩ := h; obtain ⟨s109, s110, s111, s112, s113, s114, s115, s116, h⟩ := h; obtain ⟨s117, s118, s119, s120, s121, s122, s123, s124, h⟩ := h; obtain ⟨s125, s126, s127, s128, s129, s130, s131, s132, h⟩ := h; obtain ⟨s133, h⟩ := h
    obtain ⟨ha, hC, hP, f8, f9, f18, h⟩ := h; obtain ⟨f19, f25, f26, T, O⟩ := h; subst ha
    obtain rfl := hP.get 10 rfl (hw 12 (by kernel_rfl))
    have hst : l 32 = false := by
      cases hc : l 32 with
      | false => rfl
      | true => exact absurd (hsh 19 13 _ rfl (hsh 32 19 _ rfl (hc) (by kernel_rfl)) (by kernel_rfl)) (by simp [hl])
    have x1 : W.cell? ⟨tb, 2, none⟩ = some (bv) := by have := T.cell 2; rw [hst] at this; exact this
    go_simp
    refine hK.out _ _ ((hI _ _ _).2 ⟨_, _, _, _, _, _, _, _, _, _, _, _, _, _, _, _, _, _, _, _, _, _, _, _, _, _, _, _, _, _, _, _, _, rfl, hC, hP.put 11 rfl rfl rfl, f8, f9, f18, f19, f25, f26, T, O⟩)
  · intro l a W hl hw hsh hI' K hK
    have h := (hI _ _ _).1 hI'; clear hI'; obtain ⟨s101, s102, s103, s104, s105, s106, s107, s108, h⟩ := h; obtain ⟨s109, s110, s111, s112, s113, s114, s115, s116, h⟩ := h; obtain ⟨s117, s118, s119, s120, s121, s122, s123, s124, h⟩ := h; obtain ⟨s125, s126, s127, s128, s129, s130, s131, s132, h⟩ := h; obtain ⟨s133, h⟩ := h
    obtain ⟨ha, hC, hP, f8, f9, f18, h⟩ := h; obtain ⟨f19, f25, f26, T, O⟩ := h; subst ha
    go_simp
    refine hK.out _ _ ((hI _ _ _).2 ⟨_, _, _, _, _, _, _, _, _, _, _, _, _, _, _, _, _, _, _, _, _, _, _, _, _, _, _, _, _, _, _, _, _, rfl, hC, hP.put 12 rfl rfl rfl, f8, f9, f18, f19, f25, f26, T, O⟩)
  · intro l a W hl hw hsh hI' K hK
    have h := (hI _ _ _).1 hI'; clear hI'; obtain ⟨s101, s102, s103, s104, s105, s106, s107, s108, h⟩ := h; obtain ⟨s109, s110, s111, s112, s113, s114, s115, s116, h⟩ := h; obtain ⟨s117, s118, s119, s120, s121, s122, s123, s124, h⟩ := h; obtain ⟨s125, s126, s127, s128, s129, s130, s131, s132, h⟩ := h; obtain ⟨s133, h⟩ := h
    obtain ⟨ha, hC, hP, f8, f9, f18, h⟩ := h; obtain ⟨f19, f25, f26, T, O⟩ := h; subst ha
    obtain rfl := hP.get 12 rfl (hw 14 (by kernel_rfl))
    have x1 := (hC.cell (p := ⟨xB, 0, none⟩) hx.out.1 hx.out.2.2).trans hx.out.2.1
    go_simp
    refine hK.out _ _ ((hI _ _ _).2 ⟨_, _, _, _, _, _, _, _, _, _, _, _, _, _, _, _, _, _, _, _, _, _, _, _, _, _, _, _, _, _, _, _, _, rfl, hC, hP.put 13 rfl rfl rfl, f8, f9, f18, f19, f25, f26, T, O⟩)
  · intro l a W hl hw hsh hI' K hK
    have h := (hI _ _ _).1 hI'; clear hI'; obtain ⟨s101, s102, s103, s104, s105, s106, s107, s108, h⟩ := h; obtain ⟨s109, s110, s111, s112, s113, s114, s115, s116, h⟩ := h; obtain ⟨s117, s118, s119, s120, s121, s122, s123, s124, h⟩ := h; obtain ⟨s125, s126, s127, s128, s129, s130, s131, s132, h⟩ := h; obtain ⟨s133, h⟩ := h
    obtain ⟨ha, hC, hP, f8, f9, f18, h⟩ := h; obtain ⟨f19, f25, f26, T, O⟩ := h; subst ha
    go_simp
    refine hK.out _ _ ((hI _ _ _).2 ⟨_, _, _, _, _, _, _, _, _, _, _, _, _, _, _, _, _, _, _, _, _, _, _, _, _, _, _, _, _, _, _, _, _, rfl, hC, hP.put 14 rfl rfl rfl, f8, f9, f18, f19, f25, f26, T, O⟩)
  · intro l a W hl hw hsh hI' K hK
    have h := (hI _ _ _).1 hI'; clear hI'; obtain ⟨s101, s102, s103, s104, s105, s106, s107, s108, h⟩ := h; obtain ⟨s109, s110, s111, s112, s113, s114, s115, s116, h⟩ := h; obtain ⟨s117, s118, s119, s120, s121, s122, s123, s124, h⟩ := h; obtain ⟨s125, s126, s127, s128, s129, s130, s131, s132, h⟩ := h; obtain ⟨s133, h⟩ := h
    obtain ⟨ha, hC, hP, f8, f9, f18, h⟩ := h; obtain ⟨f19, f25, f26, T, O⟩ := h; subst ha
    obtain rfl := hP.get 13 rfl (hw 15 (by kernel_rfl))
    obtain rfl := hP.get 14 rfl (hw 16 (by kernel_rfl))
    go_simp
    refine hK.out _ _ ((hI _ _ _).2 ⟨_, _, _, _, _, _, _, _, _, _, _, _, _, _, _, _, _, _, _, _, _, _, _, _, _, _, _, _, _, _, _, _, _, rfl, hC, hP.put 15 rfl rfl rfl, f8, f9, f18, f19, f25, f26, T, O⟩)
  · intro l a W hl hw hsh hI' K hK
    have h := (hI _ _ _).1 hI'; clear hI'; obtain ⟨s101, s102, s103, s104, s105, s106, s107, s108, h⟩ := h; obtain ⟨s109, s110, s111, s112, s113, s114, s115, s116, h⟩ := h; obtain ⟨s117, s118, s119, s120, s121, s122, s123, s124, h⟩ := h; obtain ⟨s125, s126, s127, s128, s129, s130, s131, s132, h⟩ := h; obtain ⟨s133, h⟩ := h
    obtain ⟨ha, hC, hP, f8, f9, f18, h⟩ := h; obtain ⟨f19, f25, f26, T, O⟩ := h; subst ha
    obtain rfl := hP.get 15 rfl (hw 17 (by kernel_rfl))
    go_simp
    have hb := (Below.refl W.heap.size W).alloc (Nat.le_refl _) (.cells #[.int .i64 q] 3)
    have hcell := new_cell (w := w) hb
    have hsz := hb.size
    refine hK.out _ _ ((hI _ _ _).2 ⟨_, _, _, _, _, _, _, _, _, _, _, _, _, _, _, _, _, _, _, _, _, _, _, _, _, _, _, _, _, _, _, _, _, rfl, hC.below hb, hP.skip 18 rfl, (fun h => (let ⟨g, e, a, b, c⟩ := f8 h; ⟨g, e, (hcell g 0 b c).trans a, b, Nat.lt_of_lt_of_le c hsz⟩)), f9, fun _ => ⟨_, rfl, (Blk.new W #[.int .i64 q] 3).cell 0, hC.size, by simp⟩, f19, (fun h => (let ⟨g, e, a, b, c⟩ := f25 h; ⟨g, e, (hcell g 0 b c).trans a, b, Nat.lt_of_lt_of_le c hsz⟩)), f26, T.below hb, O.below hb⟩)
  · intro l a W hl hw hsh hI' K hK
    have h := (hI _ _ _).1 hI'; clear hI'; obtain ⟨s101, s102, s103, s104, s105, s106, s107, s108, h⟩ := h; obtain ⟨s109, s110, s111, s112, s113, s114, s115, s116, h⟩ := h; obtain ⟨s117, s118, s119, s120, s121, s122, s123, s124, h⟩ := h; obtain ⟨s125, s126, s127, s128, s129, s130, s131, s132, h⟩ := h; obtain ⟨s133, h⟩ := h
    obtain ⟨ha, hC, hP, f8, f9, f18, h⟩ := h; obtain ⟨f19, f25, f26, T, O⟩ := h; subst ha
    obtain rfl := hP.get 11 rfl (hw 13 (by kernel_rfl))
    obtain ⟨g, rfl, hg0, hgw, hgl⟩ := f18 (hw 18 (by kernel_rfl))
    rw [if_pos (by rfl)]
    have hst : l 32 = false := by
      cases hc : l 32 with
      | false => rfl
      | true => exact absurd (hsh 32 19 _ rfl (hc) (by kernel_rfl)) (by simp [hl])
    simp only [hl, cond_false] at O
    rw [hst] at T
    simp only [cond_false] at T
    refine oper_app_own _ 3 (.int .i64 0) 8 Tryz.underlying22 info_int rfl _ _ rfl bv i xb (by go_simp) O.b g (.int .i64 q) (by go_simp) hg0 rfl (by omega) (by omega) (Nat.le_trans hbase hC.size) ?_
    intro v' W2 hr hg hv
    have hr2 := hr.2
    rcases hr2 with ⟨rfl, h0⟩ | ⟨g2, cap2, cur, rfl, -⟩
    · omega
    have hcell := old_cell (w := w) hg (fun k e => (hO.out.b.lt k e).2)
    have hsz := hg.size
    have T2 := T.kept hg (T.not_row (by decide) O.b)
    have O2 := O.setB hg hr hv
    refine hK.out _ _ ((hI _ _ _).2 ⟨_, _, _, _, _, _, _, _, _, _, _, _, _, _, _, _, _, _, _, _, _, _, _, _, _, _, _, _, _, _, _, _, _, rfl, hC.grown hg (fun k e => .inl (hot_b k e)), hP.skip 19 rfl, (fun h => (let ⟨g, e, a, b, c⟩ := f8 h; ⟨g, e, (hcell g 0 b c).trans a, b, Nat.lt_of_lt_of_le c hsz⟩)), f9, (fun h => (let ⟨g, e, a, b, c⟩ := f18 h; ⟨g, e, (hcell g 0 b c).trans a, b, Nat.lt_of_lt_of_le c hsz⟩)), fun _ => ⟨g2, cap2, rfl⟩, (fun h => (let ⟨g, e, a, b, c⟩ := f25 h; ⟨g, e, (hcell g 0 b c).trans a, b, Nat.lt_of_lt_of_le c hsz⟩)), f26, (by rw [show set1 l 19 32 = false from hst]; exact T2), O2⟩)
  · intro l a W hl hw hsh hI' K hK
    have h := (hI _ _ _).1 hI'; clear hI'; obtain ⟨s101, s102, s103, s104, s105, s106, s107, s108, h⟩ := h; obtain ⟨s109, s110, s111, s112, s113, s114, s115, s116, h⟩ := h; obtain ⟨s117, s118, s119, s120, s121, s122, s123, s124, h⟩ := h; obtain ⟨s125, s126, s127, s128, s129, s130, s131, s132, h⟩ := h; obtain ⟨s133, h⟩ := h
    obtain ⟨ha, hC, hP, f8, f9, f18, h⟩ := h; obtain ⟨f19, f25, f26, T, O⟩ := h; subst ha
    go_simp
    refine hK.out _ _ ((hI _ _ _).2 ⟨_, _, _, _, _, _, _, _, _, _, _, _, _, _, _, _, _, _, _, _, _, _, _, _, _, _, _, _, _, _, _, _, _, rfl, hC, hP.put 16 rfl rfl rfl, f8, f9, f18, f19, f25, f26, T, O⟩)
  · intro l a W hl hw hsh hI' K hK
    have h := (hI _ _ _).1 hI'; clear hI'; obtain ⟨s101, s102, s103, s104, s105, s106, s107, s108, h⟩ := h; obtain ⟨s109, s110, s111, s112, s113, s114, s115, s116, h⟩ := h; obtain ⟨s117, s118, s119, s120, s121, s122, s123, s124, h⟩ := h; obtain ⟨s125, s126, s127, s128, s129, s130, s131, s132, h⟩ := h; obtain ⟨s133, h⟩ := h
    obtain ⟨ha, hC, hP, f8, f9, f18, h⟩ := h; obtain ⟨f19, f25, f26, T, O⟩ := h; subst ha
    obtain rfl := hP.get 16 rfl (hw 20 (by kernel_rfl))
    go_simp
    refine hK.out _ _ ((hI _ _ _).2 ⟨_, _, _, _, _, _, _, _, _, _, _, _, _, _, _, _, _, _, _, _, _, _, _, _, _, _, _, _, _, _, _, _, _, rfl, hC, hP.put 17 rfl rfl rfl, f8, f9, f18, f19, f25, f26, T, O⟩)
  · intro l a W hl hw hsh hI' K hK
    have h := (hI _ _ _).1 hI'; clear hI'; obtain ⟨s101, s102, s103, s104, s105, s106, s107, s108, h⟩ := h; obtain ⟨s109, s110, s111, s112, s113, s114, s115, s116, h⟩ := h; obtain ⟨s117, s118, s119, s120, s121, s122, s123, s124, h⟩ := h; obtain ⟨s125, s126, s127, s128, s129, s130, s131, s132, h⟩ := h; obtain ⟨s133, h⟩ := h
    obtain ⟨ha, hC, hP, f8, f9, f18, h⟩ := h; obtain ⟨f19, f25, f26, T, O⟩ := h; subst ha
    obtain rfl := hP.get 17 rfl (hw 21 (by kernel_rfl))
    go_simp
    refine hK.out _ _ ((hI _ _ _).2 ⟨_, _, _, _, _, _, _, _, _, _, _, _, _, _, _, _, _, _, _, _, _, _, _, _, _, _, _, _, _, _, _, _, _, rfl, hC, hP.put 18 rfl rfl rfl, f8, f9, f18, f19, f25, f26, T, O⟩)
  · intro l a W hl hw hsh hI' K hK
    have h := (hI _ _ _).1 hI'; clear hI'; obtain ⟨s101, s102, s103, s104, s105, s106, s107, s108, h⟩ := h; obtain ⟨s109, s110, s111, s112, s113, s114, s115, s116, h⟩ := h; obtain ⟨s117, s118, s119, s120, s121, s122, s123, s124, h⟩ := h; obtain ⟨s125, s126, s127, s128, s129, s130, s131, s132, h⟩ := h; obtain ⟨s133, h⟩ := h
    obtain ⟨ha, hC, hP, f8, f9, f18, h⟩ := h; obtain ⟨f19, f25, f26, T, O⟩ := h; subst ha
    obtain rfl := hP.get 18 rfl (hw 22 (by kernel_rfl))
    have hst : l 35 = false := by
      cases hc : l 35 with
      | false => rfl
      | true => exact absurd (hsh 26 23 _ rfl (hsh 35 26 _ rfl (hc) (by kernel_rfl)) (by kernel_rfl)) (by simp [hl])
    have x1 : W.cell? ⟨tb, 3, none⟩ = some (sv) := by have := T.cell 3; rw [hst] at this; exact this
    go_simp
    refine hK.out _ _ ((hI _ _ _).2 ⟨_, _, _, _, _, _, _, _, _, _, _, _, _, _, _, _, _, _, _, _, _, _, _, _, _, _, _, _, _, _, _, _, _, rfl, hC, hP.put 19 rfl rfl rfl, f8, f9, f18, f19, f25, f26, T, O⟩)
  · intro l a W hl hw hsh hI' K hK
    have h := (hI _ _ _).1 hI'; clear hI'; obtain ⟨s101, s102, s103, s104, s105, s106, s107, s108, h⟩ := h; obtain ⟨s109, s110, s111, s112, s113, s114, s115, s116, h⟩ := h; obtain ⟨s117, s118, s119, s120, s121, s122, s123, s124, h⟩ := h; obtain ⟨s125, s126, s127, s128, s129, s130, s131, s132, h⟩ := h; obtain ⟨s133, h⟩ := h
    obtain ⟨ha, hC, hP, f8, f9, f18, h⟩ := h; obtain ⟨f19, f25, f26, T, O⟩ := h; subst ha
    go_simp
    refine hK.out _ _ ((hI _ _ _).2 ⟨_, _, _, _, _, _, _, _, _, _, _, _, _, _, _, _, _, _, _, _, _, _, _, _, _, _, _, _, _, _, _, _, _, rfl, hC, hP.put 20 rfl rfl rfl, f8, f9, f18, f19, f25, f26, T, O⟩)
  · intro l a W hl hw hsh hI' K hK
    have h := (hI _ _ _).1 hI'; clear hI'; obtain ⟨s101, s102, s103, s104, s105, s106, s107, s108, h⟩ := h; obtain ⟨s109, s110, s111, s112, s113, s114, s115, s116, h⟩ := h; obtain ⟨s117, s118, s119, s120, s121, s122, s123, s124, h⟩ := h; obtain ⟨s125, s126, s127, s128, s129, s130, s131, s132, h⟩ := h; obtain ⟨s133, h⟩ := h
    obtain ⟨ha, hC, hP, f8, f9, f18, h⟩ := h; obtain ⟨f19, f25, f26, T, O⟩ := h; subst ha
    obtain rfl := hP.get 20 rfl (hw 24 (by kernel_rfl))
    go_simp
    have hb := (Below.refl W.heap.size W).alloc (Nat.le_refl _) (.cells #[.int .i64 sg] 3)
    have hcell := new_cell (w := w) hb
    have hsz := hb.size
    refine hK.out _ _ ((hI _ _ _).2 ⟨_, _, _, _, _, _, _, _, _, _, _, _, _, _, _, _, _, _, _, _, _, _, _, _, _, _, _, _, _, _, _, _, _, rfl, hC.below hb, hP.skip 25 rfl, (fun h => (let ⟨g, e, a, b, c⟩ := f8 h; ⟨g, e, (hcell g 0 b c).trans a, b, Nat.lt_of_lt_of_le c hsz⟩)), f9, (fun h => (let ⟨g, e, a, b, c⟩ := f18 h; ⟨g, e, (hcell g 0 b c).trans a, b, Nat.lt_of_lt_of_le c hsz⟩)), f19, fun _ => ⟨_, rfl, (Blk.new W #[.int .i64 sg] 3).cell 0, hC.size, by simp⟩, f26, T.below hb, O.below hb⟩)
  · intro l a W hl hw hsh hI' K hK
    have h := (hI _ _ _).1 hI'; clear hI'; obtain ⟨s101, s102, s103, s104, s105, s106, s107, s108, h⟩ := h; obtain ⟨s109, s110, s111, s112, s113, s114, s115, s116, h⟩ := h; obtain ⟨s117, s118, s119, s120, s121, s122, s123, s124, h⟩ := h; obtain ⟨s125, s126, s127, s128, s129, s130, s131, s132, h⟩ := h; obtain ⟨s133, h⟩ := h
    obtain ⟨ha, hC, hP, f8, f9, f18, h⟩ := h; obtain ⟨f19, f25, f26, T, O⟩ := h; subst ha
    obtain rfl := hP.get 19 rfl (hw 23 (by kernel_rfl))
    obtain ⟨g, rfl, hg0, hgw, hgl⟩ := f25 (hw 25 (by kernel_rfl))
    rw [if_pos (by rfl)]
    have hst : l 35 = false := by
      cases hc : l 35 with
      | false => rfl
      | true => exact absurd (hsh 35 26 _ rfl (hc) (by kernel_rfl)) (by simp [hl])
    simp only [hl, cond_false] at O
    rw [hst] at T
    simp only [cond_false] at T
    refine oper_app_own _ 3 (.int .i64 0) 8 Tryz.underlying22 info_int rfl _ _ rfl sv i xs (by go_simp) O.s g (.int .i64 sg) (by go_simp) hg0 rfl (by omega) (by omega) (Nat.le_trans hbase hC.size) ?_
    intro v' W2 hr hg hv
    have hr2 := hr.2
    rcases hr2 with ⟨rfl, h0⟩ | ⟨g2, cap2, cur, rfl, -⟩
    · omega
    have hcell := old_cell (w := w) hg (fun k e => (hO.out.s.lt k e).2)
    have hsz := hg.size
    have T2 := T.kept hg (T.not_row (by decide) O.s)
    have O2 := O.setS hg hr hv
    refine hK.out _ _ ((hI _ _ _).2 ⟨_, _, _, _, _, _, _, _, _, _, _, _, _, _, _, _, _, _, _, _, _, _, _, _, _, _, _, _, _, _, _, _, _, rfl, hC.grown hg (fun k e => .inl (hot_s k e)), hP.skip 26 rfl, (fun h => (let ⟨g, e, a, b, c⟩ := f8 h; ⟨g, e, (hcell g 0 b c).trans a, b, Nat.lt_of_lt_of_le c hsz⟩)), f9, (fun h => (let ⟨g, e, a, b, c⟩ := f18 h; ⟨g, e, (hcell g 0 b c).trans a, b, Nat.lt_of_lt_of_le c hsz⟩)), f19, (fun h => (let ⟨g, e, a, b, c⟩ := f25 h; ⟨g, e, (hcell g 0 b c).trans a, b, Nat.lt_of_lt_of_le c hsz⟩)), fun _ => ⟨g2, cap2, rfl⟩, (by rw [show set1 l 26 35 = false from hst]; exact T2), O2⟩)
  · intro l a W hl hw hsh hI' K hK
    have h := (hI _ _ _).1 hI'; clear hI'; obtain ⟨s101, s102, s103, s104, s105, s106, s107, s108, h⟩ := h; obtain ⟨s109, s110, s111, s112, s113, s114, s115, s116, h⟩ := h; obtain ⟨s117, s118, s119, s120, s121, s122, s123, s124, h⟩ := h; obtain ⟨s125, s126, s127, s128, s129, s130, s131, s132, h⟩ := h; obtain ⟨s133, h⟩ := h
    obtain ⟨ha, hC, hP, f8, f9, f18, h⟩ := h; obtain ⟨f19, f25, f26, T, O⟩ := h; subst ha
    obtain rfl := hP.get 0 rfl (hw 0 (by kernel_rfl))
    go_simp
    refine hK.out _ _ ((hI _ _ _).2 ⟨_, _, _, _, _, _, _, _, _, _, _, _, _, _, _, _, _, _, _, _, _, _, _, _, _, _, _, _, _, _, _, _, _, rfl, hC, hP.put 21 rfl rfl rfl, f8, f9, f18, f19, f25, f26, T, O⟩)
  · intro l a W hl hw hsh hI' K hK
    have h := (hI _ _ _).1 hI'; clear hI'; obtain ⟨s101, s102, s103, s104, s105, s106, s107, s108, h⟩ := h; obtain ⟨s109, s110, s111, s112, s113, s114, s115, s116, h⟩ := h; obtain ⟨s117, s118, s119, s120, s121, s122, s123, s124, h⟩ := h; obtain ⟨s125, s126, s127, s128, s129, s130, s131, s132, h⟩ := h; obtain ⟨s133, h⟩ := h
    obtain ⟨ha, hC, hP, f8, f9, f18, h⟩ := h; obtain ⟨f19, f25, f26, T, O⟩ := h; subst ha
    obtain rfl := hP.get 21 rfl (hw 27 (by kernel_rfl))
    go_simp
    refine hK.out _ _ ((hI _ _ _).2 ⟨_, _, _, _, _, _, _, _, _, _, _, _, _, _, _, _, _, _, _, _, _, _, _, _, _, _, _, _, _, _, _, _, _, rfl, hC, hP.put 22 rfl rfl rfl, f8, f9, f18, f19, f25, f26, T, O⟩)
  · intro l a W hl hw hsh hI' K hK
    have h := (hI _ _ _).1 hI'; clear hI'; obtain ⟨s101, s102, s103, s104, s105, s106, s107, s108, h⟩ := h; obtain ⟨s109, s110, s111, s112, s113, s114, s115, s116, h⟩ := h; obtain ⟨s117, s118, s119, s120, s121, s122, s123, s124, h⟩ := h; obtain ⟨s125, s126, s127, s128, s129, s130, s131, s132, h⟩ := h; obtain ⟨s133, h⟩ := h
    obtain ⟨ha, hC, hP, f8, f9, f18, h⟩ := h; obtain ⟨f19, f25, f26, T, O⟩ := h; subst ha
    obtain ⟨g, cap, rfl⟩ := f9 (hw 9 (by kernel_rfl))
    obtain rfl := hP.get 22 rfl (hw 28 (by kernel_rfl))
    have x1 := T.cell 0
    have x2 := T.frozen 0
    skip
    go_simp
    have hgr := grown_setCell W tb 0 (.slice (some ⟨g, 0, none⟩) (i + 1) cap)
    have hcell := old_cell (w := w) hgr (fun k e => by cases e; exact hT.out.lt)
    have hsz := hgr.size
    have O2 := O.grown hgr (fun k e => by cases e; exact ⟨fun e => T.not_row (by decide) O.r e.symm, fun e => T.not_row (by decide) O.b e.symm, fun e => T.not_row (by decide) O.s e.symm⟩)
    refine hK.out _ _ ((hI _ _ _).2 ⟨_, _, _, _, _, _, _, _, _, _, _, _, _, _, _, _, _, _, _, _, _, _, _, _, _, _, _, _, _, _, _, _, _, rfl, hC.setCell (by unfold hotS; simp) _, hP.skip 29 rfl, (fun h => (let ⟨g, e, a, b, c⟩ := f8 h; ⟨g, e, (hcell g 0 b c).trans a, b, Nat.lt_of_lt_of_le c hsz⟩)), f9, (fun h => (let ⟨g, e, a, b, c⟩ := f18 h; ⟨g, e, (hcell g 0 b c).trans a, b, Nat.lt_of_lt_of_le c hsz⟩)), f19, (fun h => (let ⟨g, e, a, b, c⟩ := f25 h; ⟨g, e, (hcell g 0 b c).trans a, b, Nat.lt_of_lt_of_le c hsz⟩)), f26, T.set 0 _, O2⟩)
  · intro l a W hl hw hsh hI' K hK
    have h := (hI _ _ _).1 hI'; clear hI'; obtain ⟨s101, s102, s103, s104, s105, s106, s107, s108, h⟩ := h; obtain ⟨s109, s110, s111, s112, s113, s114, s115, s116, h⟩ := h; obtain ⟨s117, s118, s119, s120, s121, s122, s123, s124, h⟩ := h; obtain ⟨s125, s126, s127, s128, s129, s130, s131, s132, h⟩ := h; obtain ⟨s133, h⟩ := h
    obtain ⟨ha, hC, hP, f8, f9, f18, h⟩ := h; obtain ⟨f19, f25, f26, T, O⟩ := h; subst ha
    obtain rfl := hP.get 1 rfl (hw 1 (by kernel_rfl))
    go_simp
    refine hK.out _ _ ((hI _ _ _).2 ⟨_, _, _, _, _, _, _, _, _, _, _, _, _, _, _, _, _, _, _, _, _, _, _, _, _, _, _, _, _, _, _, _, _, rfl, hC, hP.put 23 rfl rfl rfl, f8, f9, f18, f19, f25, f26, T, O⟩)
  · intro l a W hl hw hsh hI' K hK
    have h := (hI _ _ _).1 hI'; clear hI'; obtain ⟨s101, s102, s103, s104, s105, s106, s107, s108, h⟩ := h; obtain ⟨s109, s110, s111, s112, s113, s114, s115, s116, h⟩ := h; obtain ⟨s117, s118, s119, s120, s121, s122, s123, s124, h⟩ := h; obtain ⟨s125, s126, s127, s128, s129, s130, s131, s132, h⟩ := h; obtain ⟨s133, h⟩ := h
    obtain ⟨ha, hC, hP, f8, f9, f18, h⟩ := h; obtain ⟨f19, f25, f26, T, O⟩ := h; subst ha
    obtain rfl := hP.get 23 rfl (hw 30 (by kernel_rfl))
    go_simp
    refine hK.out _ _ ((hI _ _ _).2 ⟨_, _, _, _, _, _, _, _, _, _, _, _, _, _, _, _, _, _, _, _, _, _, _, _, _, _, _, _, _, _, _, _, _, rfl, hC, hP.put 24 rfl rfl rfl, f8, f9, f18, f19, f25, f26, T, O⟩)
  · intro l a W hl hw hsh hI' K hK
    have h := (hI _ _ _).1 hI'; clear hI'; obtain ⟨s101, s102, s103, s104, s105, s106, s107, s108, h⟩ := h; obtain ⟨s109, s110, s111, s112, s113, s114, s115, s116, h⟩ := h; obtain ⟨s117, s118, s119, s120, s121, s122, s123, s124, h⟩ := h; obtain ⟨s125, s126, s127, s128, s129, s130, s131, s132, h⟩ := h; obtain ⟨s133, h⟩ := h
    obtain ⟨ha, hC, hP, f8, f9, f18, h⟩ := h; obtain ⟨f19, f25, f26, T, O⟩ := h; subst ha
    obtain ⟨g, cap, rfl⟩ := f19 (hw 19 (by kernel_rfl))
    obtain rfl := hP.get 24 rfl (hw 31 (by kernel_rfl))
    have x1 := T.cell 2
    have x2 := T.frozen 2
    skip
    go_simp
    have hgr := grown_setCell W tb 2 (.slice (some ⟨g, 0, none⟩) (i + 1) cap)
    have hcell := old_cell (w := w) hgr (fun k e => by cases e; exact hT.out.lt)
    have hsz := hgr.size
    have O2 := O.grown hgr (fun k e => by cases e; exact ⟨fun e => T.not_row (by decide) O.r e.symm, fun e => T.not_row (by decide) O.b e.symm, fun e => T.not_row (by decide) O.s e.symm⟩)
    refine hK.out _ _ ((hI _ _ _).2 ⟨_, _, _, _, _, _, _, _, _, _, _, _, _, _, _, _, _, _, _, _, _, _, _, _, _, _, _, _, _, _, _, _, _, rfl, hC.setCell (by unfold hotS; simp) _, hP.skip 32 rfl, (fun h => (let ⟨g, e, a, b, c⟩ := f8 h; ⟨g, e, (hcell g 0 b c).trans a, b, Nat.lt_of_lt_of_le c hsz⟩)), f9, (fun h => (let ⟨g, e, a, b, c⟩ := f18 h; ⟨g, e, (hcell g 0 b c).trans a, b, Nat.lt_of_lt_of_le c hsz⟩)), f19, (fun h => (let ⟨g, e, a, b, c⟩ := f25 h; ⟨g, e, (hcell g 0 b c).trans a, b, Nat.lt_of_lt_of_le c hsz⟩)), f26, T.set 2 _, O2⟩)
  · intro l a W hl hw hsh hI' K hK
    have h := (hI _ _ _).1 hI'; clear hI'; obtain ⟨s101, s102, s103, s104, s105, s106, s107, s108, h⟩ := h; obtain ⟨s109, s110, s111, s112, s113, s114, s115, s116, h⟩ := h; obtain ⟨s117, s118, s119, s120, s121, s122, s123, s124, h⟩ := h; obtain ⟨s125, s126, s127, s128, s129, s130, s131, s132, h⟩ := h; obtain ⟨s133, h⟩ := h
    obtain ⟨ha, hC, hP, f8, f9, f18, h⟩ := h; obtain ⟨f19, f25, f26, T, O⟩ := h; subst ha
    obtain rfl := hP.get 2 rfl (hw 2 (by kernel_rfl))
    go_simp
    refine hK.out _ _ ((hI _ _ _).2 ⟨_, _, _, _, _, _, _, _, _, _, _, _, _, _, _, _, _, _, _, _, _, _, _, _, _, _, _, _, _, _, _, _, _, rfl, hC, hP.put 25 rfl rfl rfl, f8, f9, f18, f19, f25, f26, T, O⟩)
  · intro l a W hl hw hsh hI' K hK
    have h := (hI _ _ _).1 hI'; clear hI'; obtain ⟨s101, s102, s103, s104, s105, s106, s107, s108, h⟩ := h; obtain ⟨s109, s110, s111, s112, s113, s114, s115, s116, h⟩ := h; obtain ⟨s117, s118, s119, s120, s121, s122, s123, s124, h⟩ := h; obtain ⟨s125, s126, s127, s128, s129, s130, s131, s132, h⟩ := h; obtain ⟨s133, h⟩ := h
    obtain ⟨ha, hC, hP, f8, f9, f18, h⟩ := h; obtain ⟨f19, f25, f26, T, O⟩ := h; subst ha
    obtain rfl := hP.get 25 rfl (hw 33 (by kernel_rfl))
    go_simp
    refine hK.out _ _ ((hI _ _ _).2 ⟨_, _, _, _, _, _, _, _, _, _, _, _, _, _, _, _, _, _, _, _, _, _, _, _, _, _, _, _, _, _, _, _, _, rfl, hC, hP.put 26 rfl rfl rfl, f8, f9, f18, f19, f25, f26, T, O⟩)
  · intro l a W hl hw hsh hI' K hK
    have h := (hI _ _ _).1 hI'; clear hI'; obtain ⟨s101, s102, s103, s104, s105, s106, s107, s108, h⟩ := h; obtain ⟨s109, s110, s111, s112, s113, s114, s115, s116, h⟩ := h; obtain ⟨s117, s118, s119, s120, s121, s122, s123, s124, h⟩ := h; obtain ⟨s125, s126, s127, s128, s129, s130, s131, s132, h⟩ := h; obtain ⟨s133, h⟩ := h
    obtain ⟨ha, hC, hP, f8, f9, f18, h⟩ := h; obtain ⟨f19, f25, f26, T, O⟩ := h; subst ha
    obtain ⟨g, cap, rfl⟩ := f26 (hw 26 (by kernel_rfl))
    obtain rfl := hP.get 26 rfl (hw 34 (by kernel_rfl))
    have x1 := T.cell 3
    have x2 := T.frozen 3
    skip
    go_simp
    have hgr := grown_setCell W tb 3 (.slice (some ⟨g, 0, none⟩) (i + 1) cap)
    have hcell := old_cell (w := w) hgr (fun k e => by cases e; exact hT.out.lt)
    have hsz := hgr.size
    have O2 := O.grown hgr (fun k e => by cases e; exact ⟨fun e => T.not_row (by decide) O.r e.symm, fun e => T.not_row (by decide) O.b e.symm, fun e => T.not_row (by decide) O.s e.symm⟩)
    refine hK.out _ _ ((hI _ _ _).2 ⟨_, _, _, _, _, _, _, _, _, _, _, _, _, _, _, _, _, _, _, _, _, _, _, _, _, _, _, _, _, _, _, _, _, rfl, hC.setCell (by unfold hotS; simp) _, hP.skip 35 rfl, (fun h => (let ⟨g, e, a, b, c⟩ := f8 h; ⟨g, e, (hcell g 0 b c).trans a, b, Nat.lt_of_lt_of_le c hsz⟩)), f9, (fun h => (let ⟨g, e, a, b, c⟩ := f18 h; ⟨g, e, (hcell g 0 b c).trans a, b, Nat.lt_of_lt_of_le c hsz⟩)), f19, (fun h => (let ⟨g, e, a, b, c⟩ := f25 h; ⟨g, e, (hcell g 0 b c).trans a, b, Nat.lt_of_lt_of_le c hsz⟩)), f26, T.set 3 _, O2⟩)
  · intro a W hI'
    have h := (hI _ _ _).1 hI'; clear hI'; obtain ⟨s101, s102, s103, s104, s105, s106, s107, s108, h⟩ := h; obtain ⟨s109, s110, s111, s112, s113, s114, s115, s116, h⟩ := h; obtain ⟨s117, s118, s119, s120, s121, s122, s123, s124, h⟩ := h; obtain ⟨s125, s126, s127, s128, s129, s130, s131, s132, h⟩ := h; obtain ⟨s133, h⟩ := h
    obtain ⟨ha, hC, hP, f8, f9, f18, h⟩ := h; obtain ⟨f19, f25, f26, T, O⟩ := h; subst ha
    clear f8
    obtain ⟨gr, kr, rfl⟩ := f9 (by kernel_rfl)
    clear f18
    obtain ⟨gb, kb, rfl⟩ := f19 (by kernel_rfl)
    clear f25
    obtain ⟨gs, ks, rfl⟩ := f26 (by kernel_rfl)
    exact hQ.out _ _ _ _ _ _ _ _ _ _ _ _ _ _ _ _ _ _ _ _ _ _ _ _ _ _ _ _ _ _ _ _ _ gr kr gb kb gs ks _ hC T O
end Go.Proofs.YtcmomjnailihpaaGreatDoor
