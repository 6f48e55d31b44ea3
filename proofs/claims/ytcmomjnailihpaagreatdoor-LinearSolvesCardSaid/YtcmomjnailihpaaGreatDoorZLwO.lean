/- LwO -/
import Derived.Test.YtcmomjnailihpaaGreatDoorZRgI
namespace Go.Proofs.YtcmomjnailihpaaGreatDoor
open Go.RowKit
open LnM (wd upd)
attribute [local go_sem] Oper.semAt_some
abbrev tbc (rv : Value) (cb n : Nat) (bv sv : Value) (d k : Int) : Array Value := #[rv, .slice (some ⟨cb, 0, none⟩) n n, bv, sv, .int .u64 (wd d 0), .int .u64 (wd d 1), .int .u64 (wd d 2), .int .u64 (wd d 3), .int .u64 (wd d 4), .int .u64 (wd d 5), .int .u64 (wd d 6), .int .u64 (wd d 7), .int .u64 (wd d 8), .int .u64 (wd d 9), .int .u64 (wd d 10), .int .u64 (wd d 11), .int .i64 k]
theorem hu_wide : Tryz.prog.underlying 73 = some (.array 12 71) := Tryz.underlying73
theorem hi_wide (z : Int) : (Tryz.prog.info? 73).map (·.size) = some (wl (wd z)).length := by rw [wl_len]; kernel_rfl
set_option maxRecDepth 100000 in
set_option maxHeartbeats 8000000 in
theorem open_r1 {Q : Exit → Act → World → Prop} {u0 u2 u3 u4 u5 u6 u7 u8 u9 u10 u11 u12 u13 u14 u15 u16 u17 u18 u19 u20 u21 u22 u23 u24 u25 u26 u27 u28 u29 u30 u31 u32 u33 u34 u35 u36 u37 u38 u39 u40 u41 u42 u43 u44 u45 u46 u47 u48 u49 u50 u51 u52 u53 u54 u55 u56 u57 u58 u59 u60 u61 u62 u63 u64 u65 u66 u67 u68 u69 u70 u71 u72 u73 u74 u75 u76 u77 u78 u79 u80 u81 u82 u83 u84 u85 u86 u87 u88 u89 u90 u91 u92 u93 u94 u95 u96 u97 u98 u99 u100 u101 u102 u103 u104 u105 u106 u107 u108 u109 u110 u111 u112 u113 u114 u115 u116 u117 u118 u119 u120 u121 u122 u123 u124 u125 u126 u127 u128 u129 u130 u131 u132 u133 u134 u135 : Value} {cols m xB n : Nat} {ad : Option Addr} {cap : Nat} {wb w : World} {L : BLs} (hS : BL wb L w) (hcell : Hid (∀ W, BL wb L W → W.cell? ⟨xB, 0, none⟩ = some (.int .i64 cols) ∧ W.cell? ⟨xB, 1, none⟩ = some (.slice ad m cap))) (hn : Hid (n = cols + m + 1)) (hn1 : n ≤ 100000) {ops : Array Oper} (ho : getOps Tryz.f37.body 1 = some ops)
    (hQ : ∀ (v11 v12 v13 v14 v15 v16 v17 v18 v19 v20 v21 v22 v23 : Value) (gc gt : Nat) (W' : World), BL wb L W' → RowT W' gc n (fun _ => 0) → Blk W' gt (tbc (.slice none 0 0) gc n (.slice none 0 0) (.slice none 0 0) 1 cols) 75 → wb.heap.size ≤ gc → gc < gt → Q .normal { tmps := List.toArray (u0::.pointer (some ⟨xB, 0, none⟩)::u2::.pointer (some ⟨gt, 0, none⟩)::u4::u5::u6::u7::u8::u9::u10::v11::v12::v13::v14::v15::v16::v17::v18::v19::v20::v21::v22::v23::u24::u25::u26::u27::u28::u29::u30::u31::u32::u33::u34::u35::u36::u37::u38::u39::u40::u41::u42::u43::u44::u45::u46::u47::u48::u49::u50::u51::u52::u53::u54::u55::u56::u57::u58::u59::u60::u61::u62::u63::u64::u65::u66::u67::u68::u69::u70::u71::u72::u73::u74::u75::u76::u77::u78::u79::u80::u81::u82::u83::u84::u85::u86::u87::u88::u89::u90::u91::u92::u93::u94::u95::u96::u97::u98::u99::u100::u101::u102::u103::u104::u105::u106::u107::u108::u109::u110::u111::u112::u113::u114::u115::u116::u117::u118::u119::u120::u121::u122::u123::u124::u125::u126::u127::u128::u129::u130::u131::u132::u133::u134::u135::[]), defers := [] } W') :
    (Code.region 1 ops true).wp Tryz.prog Q { tmps := List.toArray (u0::.pointer (some ⟨xB, 0, none⟩)::u2::u3::u4::u5::u6::u7::u8::u9::u10::u11::u12::u13::u14::u15::u16::u17::u18::u19::u20::u21::u22::u23::u24::u25::u26::u27::u28::u29::u30::u31::u32::u33::u34::u35::u36::u37::u38::u39::u40::u41::u42::u43::u44::u45::u46::u47::u48::u49::u50::u51::u52::u53::u54::u55::u56::u57::u58::u59::u60::u61::u62::u63::u64::u65::u66::u67::u68::u69::u70::u71::u72::u73::u74::u75::u76::u77::u78::u79::u80::u81::u82::u83::u84::u85::u86::u87::u88::u89::u90::u91::u92::u93::u94::u95::u96::u97::u98::u99::u100::u101::u102::u103::u104::u105::u106::u107::u108::u109::u110::u111::u112::u113::u114::u115::u116::u117::u118::u119::u120::u121::u122::u123::u124::u125::u126::u127::u128::u129::u130::u131::u132::u133::u134::u135::[]), defers := [] } w := by
  obtain rfl := Option.some.inj (ho.symm.trans (rfl : getOps Tryz.f37.body 1 = some _))
  clear ho
  replace hQ := Lib.hid hQ
  obtain ⟨Iv, hI⟩ : ∃ Iv : (Nat → Bool) → Act → World → Prop, ∀ l a W, Iv l a W ↔ (∃ s11 s12 s13 s14 s15 s16 s17 s18 s19 s20 s21 s22 s23 s3 : Value, a = { tmps := List.toArray (u0::.pointer (some ⟨xB, 0, none⟩)::u2::s3::u4::u5::u6::u7::u8::u9::u10::s11::s12::s13::s14::s15::s16::s17::s18::s19::s20::s21::s22::s23::u24::u25::u26::u27::u28::u29::u30::u31::u32::u33::u34::u35::u36::u37::u38::u39::u40::u41::u42::u43::u44::u45::u46::u47::u48::u49::u50::u51::u52::u53::u54::u55::u56::u57::u58::u59::u60::u61::u62::u63::u64::u65::u66::u67::u68::u69::u70::u71::u72::u73::u74::u75::u76::u77::u78::u79::u80::u81::u82::u83::u84::u85::u86::u87::u88::u89::u90::u91::u92::u93::u94::u95::u96::u97::u98::u99::u100::u101::u102::u103::u104::u105::u106::u107::u108::u109::u110::u111::u112::u113::u114::u115::u116::u117::u118::u119::u120::u121::u122::u123::u124::u125::u126::u127::u128::u129::u130::u131::u132::u133::u134::u135::[]), defers := [] } ∧ BL wb L W ∧ Vs [(0, .agg (wc (wd 1)), s11), (1, .pointer (some ⟨xB, 0, none⟩), s12), (2, .int .i64 cols, s13), (3, .pointer (some ⟨xB, 0, none⟩), s14), (4, .int .i64 cols, s15), (5, .pointer (some ⟨xB, 1, none⟩), s16), (6, .slice ad m cap, s17), (7, .int .i64 m, s18), (8, .int .i64 ((cols : Int) + m), s19), (9, .int .i64 n, s20)] l ∧ (l 10 = true → ∃ gc : Nat, s21 = .slice (some ⟨gc, 0, none⟩) n n ∧ RowT W gc n (fun _ => 0) ∧ wb.heap.size ≤ gc) ∧ (l 11 = true → ∃ gc : Nat, s22 = .agg (tbc (.slice none 0 0) gc n (.slice none 0 0) (.slice none 0 0) 1 cols) ∧ RowT W gc n (fun _ => 0) ∧ wb.heap.size ≤ gc) ∧ (l 12 = true → ∃ gc gt : Nat, s23 = .pointer (some ⟨gt, 0, none⟩) ∧ RowT W gc n (fun _ => 0) ∧ Blk W gt (tbc (.slice none 0 0) gc n (.slice none 0 0) (.slice none 0 0) 1 cols) 75 ∧ wb.heap.size ≤ gc ∧ gc < gt) ∧ (l 13 = true → ∃ gc gt : Nat, s3 = .pointer (some ⟨gt, 0, none⟩) ∧ RowT W gc n (fun _ => 0) ∧ Blk W gt (tbc (.slice none 0 0) gc n (.slice none 0 0) (.slice none 0 0) 1 cols) 75 ∧ wb.heap.size ≤ gc ∧ gc < gt)) := ⟨_, fun _ _ _ => Iff.rfl⟩
  refine wp_region_inv Iv (by kernel_rfl) (by kernel_rfl) ((hI _ _ _).2 ⟨_, _, _, _, _, _, _, _, _, _, _, _, _, _, rfl, hS.drew, Vs.zero, fun h => off h, fun h => off h, fun h => off h, fun h => off h⟩) (stepsI_cons (k := 0) ?_ (stepsI_cons (k := 1) ?_ (stepsI_cons (k := 2) ?_ (stepsI_cons (k := 3) ?_ (stepsI_cons (k := 4) ?_ (stepsI_cons (k := 5) ?_ (stepsI_cons (k := 6) ?_ (stepsI_cons (k := 7) ?_ (stepsI_cons (k := 8) ?_ (stepsI_cons (k := 9) ?_ (stepsI_cons (k := 10) ?_ (stepsI_cons (k := 11) ?_ (stepsI_cons (k := 12) ?_ (stepsI_cons (k := 13) ?_ (stepsI_nil))))))))))))))) ?_
  · intro l a W hl hw hsh hI' K hK
    have h := (hI _ _ _).1 hI'; clear hI'; obtain ⟨s11, s12, s13, s14, s15, s16, s17, s18, h⟩ := h; obtain ⟨s19, s20, s21, s22, s23, s3, h⟩ := h
    obtain ⟨ha, hC, hP, f10, f11, f12, f13⟩ := h; subst ha
    go_simp
    go_at_call 75
    refine Calls.mono (wof_any 1 (by unfold Fits; omega) _) ?_
    rintro e W2 ⟨rfl, hb⟩
    refine hK.out _ _ ((hI _ _ _).2 ⟨_, _, _, _, _, _, _, _, _, _, _, _, _, _, rfl, hC.call hb, hP.put 0 rfl rfl rfl, (fun h => (let ⟨g, e, a, b⟩ := f10 h; ⟨g, e, a.below hb, b⟩)), (fun h => (let ⟨g, e, a, b⟩ := f11 h; ⟨g, e, a.below hb, b⟩)), (fun h => (let ⟨g, t, e, a, k, b, c⟩ := f12 h; ⟨g, t, e, a.below hb, k.below hb, b, c⟩)), (fun h => (let ⟨g, t, e, a, k, b, c⟩ := f13 h; ⟨g, t, e, a.below hb, k.below hb, b, c⟩))⟩)
  · intro l a W hl hw hsh hI' K hK
    have h := (hI _ _ _).1 hI'; clear hI'; obtain ⟨s11, s12, s13, s14, s15, s16, s17, s18, h⟩ := h; obtain ⟨s19, s20, s21, s22, s23, s3, h⟩ := h
    obtain ⟨ha, hC, hP, f10, f11, f12, f13⟩ := h; subst ha
    go_simp
    refine hK.out _ _ ((hI _ _ _).2 ⟨_, _, _, _, _, _, _, _, _, _, _, _, _, _, rfl, hC, hP.put 1 rfl rfl rfl, f10, f11, f12, f13⟩)
  · intro l a W hl hw hsh hI' K hK
    have h := (hI _ _ _).1 hI'; clear hI'; obtain ⟨s11, s12, s13, s14, s15, s16, s17, s18, h⟩ := h; obtain ⟨s19, s20, s21, s22, s23, s3, h⟩ := h
    obtain ⟨ha, hC, hP, f10, f11, f12, f13⟩ := h; subst ha
    obtain rfl := hP.get 1 rfl (hw 1 (by kernel_rfl))
    obtain ⟨x0, x1⟩ := hcell.out _ hC
    go_simp
    refine hK.out _ _ ((hI _ _ _).2 ⟨_, _, _, _, _, _, _, _, _, _, _, _, _, _, rfl, hC, hP.put 2 rfl rfl rfl, f10, f11, f12, f13⟩)
  · intro l a W hl hw hsh hI' K hK
    have h := (hI _ _ _).1 hI'; clear hI'; obtain ⟨s11, s12, s13, s14, s15, s16, s17, s18, h⟩ := h; obtain ⟨s19, s20, s21, s22, s23, s3, h⟩ := h
    obtain ⟨ha, hC, hP, f10, f11, f12, f13⟩ := h; subst ha
    go_simp
    refine hK.out _ _ ((hI _ _ _).2 ⟨_, _, _, _, _, _, _, _, _, _, _, _, _, _, rfl, hC, hP.put 3 rfl rfl rfl, f10, f11, f12, f13⟩)
  · intro l a W hl hw hsh hI' K hK
    have h := (hI _ _ _).1 hI'; clear hI'; obtain ⟨s11, s12, s13, s14, s15, s16, s17, s18, h⟩ := h; obtain ⟨s19, s20, s21, s22, s23, s3, h⟩ := h
    obtain ⟨ha, hC, hP, f10, f11, f12, f13⟩ := h; subst ha
    obtain rfl := hP.get 3 rfl (hw 3 (by kernel_rfl))
    obtain ⟨x0, x1⟩ := hcell.out _ hC
    go_simp
    refine hK.out _ _ ((hI _ _ _).2 ⟨_, _, _, _, _, _, _, _, _, _, _, _, _, _, rfl, hC, hP.put 4 rfl rfl rfl, f10, f11, f12, f13⟩)
  · intro l a W hl hw hsh hI' K hK
    have h := (hI _ _ _).1 hI'; clear hI'; obtain ⟨s11, s12, s13, s14, s15, s16, s17, s18, h⟩ := h; obtain ⟨s19, s20, s21, s22, s23, s3, h⟩ := h
    obtain ⟨ha, hC, hP, f10, f11, f12, f13⟩ := h; subst ha
    go_simp
    refine hK.out _ _ ((hI _ _ _).2 ⟨_, _, _, _, _, _, _, _, _, _, _, _, _, _, rfl, hC, hP.put 5 rfl rfl rfl, f10, f11, f12, f13⟩)
  · intro l a W hl hw hsh hI' K hK
    have h := (hI _ _ _).1 hI'; clear hI'; obtain ⟨s11, s12, s13, s14, s15, s16, s17, s18, h⟩ := h; obtain ⟨s19, s20, s21, s22, s23, s3, h⟩ := h
    obtain ⟨ha, hC, hP, f10, f11, f12, f13⟩ := h; subst ha
    obtain rfl := hP.get 5 rfl (hw 5 (by kernel_rfl))
    obtain ⟨x0, x1⟩ := hcell.out _ hC
    go_simp
    refine hK.out _ _ ((hI _ _ _).2 ⟨_, _, _, _, _, _, _, _, _, _, _, _, _, _, rfl, hC, hP.put 6 rfl rfl rfl, f10, f11, f12, f13⟩)
  · intro l a W hl hw hsh hI' K hK
    have h := (hI _ _ _).1 hI'; clear hI'; obtain ⟨s11, s12, s13, s14, s15, s16, s17, s18, h⟩ := h; obtain ⟨s19, s20, s21, s22, s23, s3, h⟩ := h
    obtain ⟨ha, hC, hP, f10, f11, f12, f13⟩ := h; subst ha
    obtain rfl := hP.get 6 rfl (hw 6 (by kernel_rfl))
    go_simp
    refine hK.out _ _ ((hI _ _ _).2 ⟨_, _, _, _, _, _, _, _, _, _, _, _, _, _, rfl, hC, hP.put 7 rfl rfl rfl, f10, f11, f12, f13⟩)
  · intro l a W hl hw hsh hI' K hK
    have h := (hI _ _ _).1 hI'; clear hI'; obtain ⟨s11, s12, s13, s14, s15, s16, s17, s18, h⟩ := h; obtain ⟨s19, s20, s21, s22, s23, s3, h⟩ := h
    obtain ⟨ha, hC, hP, f10, f11, f12, f13⟩ := h; subst ha
    obtain rfl := hP.get 4 rfl (hw 4 (by kernel_rfl))
    obtain rfl := hP.get 7 rfl (hw 7 (by kernel_rfl))
    have e1 : IntKind.i64.wrap ((cols : Int) + m) = (cols : Int) + m := IntWalk.i64_in _ (by have := hn.out; omega)
    go_simp
    refine hK.out _ _ ((hI _ _ _).2 ⟨_, _, _, _, _, _, _, _, _, _, _, _, _, _, rfl, hC, hP.put 8 rfl rfl rfl, f10, f11, f12, f13⟩)
  · intro l a W hl hw hsh hI' K hK
    have h := (hI _ _ _).1 hI'; clear hI'; obtain ⟨s11, s12, s13, s14, s15, s16, s17, s18, h⟩ := h; obtain ⟨s19, s20, s21, s22, s23, s3, h⟩ := h
    obtain ⟨ha, hC, hP, f10, f11, f12, f13⟩ := h; subst ha
    obtain rfl := hP.get 8 rfl (hw 8 (by kernel_rfl))
    have e1 : IntKind.i64.wrap ((cols : Int) + m + 1) = n := by rw [IntWalk.i64_in _ (by have := hn.out; omega)]; have := hn.out; omega
    go_simp
    refine hK.out _ _ ((hI _ _ _).2 ⟨_, _, _, _, _, _, _, _, _, _, _, _, _, _, rfl, hC, hP.put 9 rfl rfl rfl, f10, f11, f12, f13⟩)
  · intro l a W hl hw hsh hI' K hK
    have h := (hI _ _ _).1 hI'; clear hI'; obtain ⟨s11, s12, s13, s14, s15, s16, s17, s18, h⟩ := h; obtain ⟨s19, s20, s21, s22, s23, s3, h⟩ := h
    obtain ⟨ha, hC, hP, f10, f11, f12, f13⟩ := h; subst ha
    obtain rfl := hP.get 9 rfl (hw 9 (by kernel_rfl))
    rw [if_pos (by rfl)]
    refine oper_make_row _ _ rfl n (by go_simp) (by go_simp) (by omega) ?_
    intro W2 hr hty hb
    refine hK.out _ _ ((hI _ _ _).2 ⟨_, _, _, _, _, _, _, _, _, _, _, _, _, _, rfl, hC.call hb, hP.skip 10 rfl, fun _ => ⟨_, rfl, ⟨hr, hty⟩, hC.below.size⟩, (fun h => (let ⟨g, e, a, b⟩ := f11 h; ⟨g, e, a.below hb, b⟩)), (fun h => (let ⟨g, t, e, a, k, b, c⟩ := f12 h; ⟨g, t, e, a.below hb, k.below hb, b, c⟩)), (fun h => (let ⟨g, t, e, a, k, b, c⟩ := f13 h; ⟨g, t, e, a.below hb, k.below hb, b, c⟩))⟩)
  · intro l a W hl hw hsh hI' K hK
    have h := (hI _ _ _).1 hI'; clear hI'; obtain ⟨s11, s12, s13, s14, s15, s16, s17, s18, h⟩ := h; obtain ⟨s19, s20, s21, s22, s23, s3, h⟩ := h
    obtain ⟨ha, hC, hP, f10, f11, f12, f13⟩ := h; subst ha
    obtain rfl := hP.get 0 rfl (hw 0 (by kernel_rfl))
    obtain rfl := hP.get 2 rfl (hw 2 (by kernel_rfl))
    obtain ⟨gc, rfl, hr, hge⟩ := f10 (hw 10 (by kernel_rfl))
    go_simp
    refine hK.out _ _ ((hI _ _ _).2 ⟨_, _, _, _, _, _, _, _, _, _, _, _, _, _, rfl, hC, hP.skip 11 rfl, f10, fun _ => ⟨gc, rfl, hr, hge⟩, f12, f13⟩)
  · intro l a W hl hw hsh hI' K hK
    have h := (hI _ _ _).1 hI'; clear hI'; obtain ⟨s11, s12, s13, s14, s15, s16, s17, s18, h⟩ := h; obtain ⟨s19, s20, s21, s22, s23, s3, h⟩ := h
    obtain ⟨ha, hC, hP, f10, f11, f12, f13⟩ := h; subst ha
    obtain ⟨gc, rfl, hr, hge⟩ := f11 (hw 11 (by kernel_rfl))
    go_simp
    have hb := (Below.refl W.heap.size W).alloc (Nat.le_refl _) (.cells (tbc (.slice none 0 0) gc n (.slice none 0 0) (.slice none 0 0) 1 cols) 75)
    refine hK.out _ _ ((hI _ _ _).2 ⟨_, _, _, _, _, _, _, _, _, _, _, _, _, _, rfl, hC.call hb, hP.skip 12 rfl, (fun h => (let ⟨g, e, a, b⟩ := f10 h; ⟨g, e, a.below hb, b⟩)), (fun h => (let ⟨g, e, a, b⟩ := f11 h; ⟨g, e, a.below hb, b⟩)), fun _ => ⟨gc, _, rfl, hr.below hb, Blk.new _ _ _, hge, hr.row.lt⟩, (fun h => (let ⟨g, t, e, a, k, b, c⟩ := f13 h; ⟨g, t, e, a.below hb, k.below hb, b, c⟩))⟩)
  · intro l a W hl hw hsh hI' K hK
    have h := (hI _ _ _).1 hI'; clear hI'; obtain ⟨s11, s12, s13, s14, s15, s16, s17, s18, h⟩ := h; obtain ⟨s19, s20, s21, s22, s23, s3, h⟩ := h
    obtain ⟨ha, hC, hP, f10, f11, f12, f13⟩ := h; subst ha
    obtain ⟨gc, gt, rfl, hr, hk, hge, hlt⟩ := f12 (hw 12 (by kernel_rfl))
    go_simp
    refine hK.out _ _ ((hI _ _ _).2 ⟨_, _, _, _, _, _, _, _, _, _, _, _, _, _, rfl, hC, hP.skip 13 rfl, f10, f11, f12, fun _ => ⟨gc, gt, rfl, hr, hk, hge, hlt⟩⟩)
  · intro a W hI'
    have h := (hI _ _ _).1 hI'; clear hI'; obtain ⟨s11, s12, s13, s14, s15, s16, s17, s18, h⟩ := h; obtain ⟨s19, s20, s21, s22, s23, s3, h⟩ := h
    obtain ⟨ha, hC, hP, f10, f11, f12, f13⟩ := h; subst ha
    clear f10
    clear f11
    clear f12
    obtain ⟨gc, gt, rfl, hr, hk, hge, hlt⟩ := f13 (by kernel_rfl)
    exact hQ.out _ _ _ _ _ _ _ _ _ _ _ _ _ gc gt _ hC hr hk hge hlt
set_option maxRecDepth 100000 in
set_option maxHeartbeats 8000000 in
theorem open_r9 {Q : Exit → Act → World → Prop} {u0 u1 u2 u3 u4 u6 u7 u8 u9 u10 u11 u12 u13 u14 u15 u16 u17 u18 u19 u20 u21 u22 u23 u24 u25 u26 u27 u28 u29 u30 u31 u32 u33 u34 u35 u36 u37 u38 u39 u40 u41 u42 u43 u44 u45 u46 u47 u48 u49 u50 u51 u52 u53 u54 u55 u56 u57 u58 u59 u60 u61 u62 u63 u64 u65 u66 u67 u68 u69 u70 u71 u72 u73 u74 u75 u76 u77 u78 u79 u80 u81 u82 u83 u84 u85 u86 u87 u88 u89 u90 u91 u92 u93 u94 u95 u96 u97 u98 u99 u100 u101 u102 u103 u104 u105 u106 u107 u108 u109 u110 u111 u112 u113 u114 u115 u116 u117 u118 u119 u120 u121 u122 u123 u124 u125 u126 u127 u128 u129 u130 u131 u132 u133 u134 u135 : Value} {bq oq : Nat} {cols cap xE : Nat} {val : Int} {coef : List Int} {wb w : World} {L : BLs} (hS : BL wb L w) (hcell : Hid (∀ W, BL wb L W → W.cell? ⟨xE, 0, none⟩ = some (.slice (some ⟨bq, oq, none⟩) cols cap) ∧ W.cell? ⟨xE, 1, none⟩ = some (.int .i64 val))) (hco : Hid (Sl wb (.slice (some ⟨bq, oq, none⟩) cols cap) coef)) (hlen : Hid (coef.length = cols)) (hcap : (cols : Int) ≤ cap) (hc1 : cols ≤ 100000) (hc0 : (0 : Int) ≤ cols) {ops : Array Oper} (ho : getOps Tryz.f37.body 9 = some ops)
    (hQ : ∀ (v41 v42 v43 v44 v45 v46 v47 v48 v49 v50 v51 v52 : Value) (g cap' : Nat) (W' : World), BL wb L W' → Sl W' (.slice (some ⟨g, 0, none⟩) (cols + 1) cap') (coef ++ [val]) → wb.heap.size ≤ g → Q .normal { tmps := List.toArray (u0::u1::u2::u3::u4::.pointer (some ⟨xE, 0, none⟩)::u6::u7::u8::u9::u10::u11::u12::u13::u14::u15::u16::u17::u18::u19::u20::u21::u22::u23::u24::u25::u26::u27::u28::u29::u30::u31::u32::u33::u34::u35::u36::u37::u38::u39::u40::v41::v42::v43::v44::v45::v46::v47::v48::v49::v50::v51::v52::.slice (some ⟨g, 0, none⟩) (cols + 1) cap'::.int .i64 ((cols + 1 : Nat) : Int)::.int .i64 0::u56::u57::u58::u59::u60::u61::u62::u63::u64::u65::u66::u67::u68::u69::u70::u71::u72::u73::u74::u75::u76::u77::u78::u79::u80::u81::u82::u83::u84::u85::u86::u87::u88::u89::u90::u91::u92::u93::u94::u95::u96::u97::u98::u99::u100::u101::u102::u103::u104::u105::u106::u107::u108::u109::u110::u111::u112::u113::u114::u115::u116::u117::u118::u119::u120::u121::u122::u123::u124::u125::u126::u127::u128::u129::u130::u131::u132::u133::u134::u135::[]), defers := [] } W') :
    (Code.region 9 ops true).wp Tryz.prog Q { tmps := List.toArray (u0::u1::u2::u3::u4::.pointer (some ⟨xE, 0, none⟩)::u6::u7::u8::u9::u10::u11::u12::u13::u14::u15::u16::u17::u18::u19::u20::u21::u22::u23::u24::u25::u26::u27::u28::u29::u30::u31::u32::u33::u34::u35::u36::u37::u38::u39::u40::u41::u42::u43::u44::u45::u46::u47::u48::u49::u50::u51::u52::u53::u54::u55::u56::u57::u58::u59::u60::u61::u62::u63::u64::u65::u66::u67::u68::u69::u70::u71::u72::u73::u74::u75::u76::u77::u78::u79::u80::u81::u82::u83::u84::u85::u86::u87::u88::u89::u90::u91::u92::u93::u94::u95::u96::u97::u98::u99::u100::u101::u102::u103::u104::u105::u106::u107::u108::u109::u110::u111::u112::u113::u114::u115::u116::u117::u118::u119::u120::u121::u122::u123::u124::u125::u126::u127::u128::u129::u130::u131::u132::u133::u134::u135::[]), defers := [] } w := by
  obtain rfl := Option.some.inj (ho.symm.trans (rfl : getOps Tryz.f37.body 9 = some _))
  clear ho
  replace hQ := Lib.hid hQ
  obtain ⟨Iv, hI⟩ : ∃ Iv : (Nat → Bool) → Act → World → Prop, ∀ l a W, Iv l a W ↔ (∃ s41 s42 s43 s44 s45 s46 s47 s48 s49 s50 s51 s52 s53 s54 s55 : Value, a = { tmps := List.toArray (u0::u1::u2::u3::u4::.pointer (some ⟨xE, 0, none⟩)::u6::u7::u8::u9::u10::u11::u12::u13::u14::u15::u16::u17::u18::u19::u20::u21::u22::u23::u24::u25::u26::u27::u28::u29::u30::u31::u32::u33::u34::u35::u36::u37::u38::u39::u40::s41::s42::s43::s44::s45::s46::s47::s48::s49::s50::s51::s52::s53::s54::s55::u56::u57::u58::u59::u60::u61::u62::u63::u64::u65::u66::u67::u68::u69::u70::u71::u72::u73::u74::u75::u76::u77::u78::u79::u80::u81::u82::u83::u84::u85::u86::u87::u88::u89::u90::u91::u92::u93::u94::u95::u96::u97::u98::u99::u100::u101::u102::u103::u104::u105::u106::u107::u108::u109::u110::u111::u112::u113::u114::u115::u116::u117::u118::u119::u120::u121::u122::u123::u124::u125::u126::u127::u128::u129::u130::u131::u132::u133::u134::u135::[]), defers := [] } ∧ BL wb L W ∧ Vs [(0, .pointer (some ⟨xE, 0, none⟩), s41), (1, .slice (some ⟨bq, oq, none⟩) cols cap, s42), (2, .pointer (some ⟨xE, 0, none⟩), s43), (3, .slice (some ⟨bq, oq, none⟩) cols cap, s44), (4, .int .i64 cols, s45), (5, .pointer (some ⟨xE, 0, none⟩), s46), (6, .slice (some ⟨bq, oq, none⟩) cols cap, s47), (7, .int .i64 cols, s48), (8, .slice (some ⟨bq, oq, none⟩) cols cols, s49), (9, .pointer (some ⟨xE, 1, none⟩), s50), (10, .int .i64 val, s51), (14, .int .i64 0, s55)] l ∧ (l 11 = true → ∃ g : Nat, s52 = .slice (some ⟨g, 0, none⟩) 1 1 ∧ W.cell? ⟨g, 0, none⟩ = some (.int .i64 val) ∧ g < W.heap.size) ∧ (l 12 = true → ∃ g cap' : Nat, s53 = .slice (some ⟨g, 0, none⟩) (cols + 1) cap' ∧ Sl W (.slice (some ⟨g, 0, none⟩) (cols + 1) cap') (coef ++ [val]) ∧ wb.heap.size ≤ g) ∧ (l 13 = true → s54 = .int .i64 ((cols + 1 : Nat) : Int))) := ⟨_, fun _ _ _ => Iff.rfl⟩
  refine wp_region_inv Iv (by kernel_rfl) (by kernel_rfl) ((hI _ _ _).2 ⟨_, _, _, _, _, _, _, _, _, _, _, _, _, _, _, rfl, hS.drew, Vs.zero, fun h => off h, fun h => off h, fun h => off h⟩) (stepsI_cons (k := 0) ?_ (stepsI_cons (k := 1) ?_ (stepsI_cons (k := 2) ?_ (stepsI_cons (k := 3) ?_ (stepsI_cons (k := 4) ?_ (stepsI_cons (k := 5) ?_ (stepsI_cons (k := 6) ?_ (stepsI_cons (k := 7) ?_ (stepsI_cons (k := 8) ?_ (stepsI_cons (k := 9) ?_ (stepsI_cons (k := 10) ?_ (stepsI_cons (k := 11) ?_ (stepsI_cons (k := 12) ?_ (stepsI_cons (k := 13) ?_ (stepsI_cons (k := 14) ?_ (stepsI_nil)))))))))))))))) ?_
  · intro l a W hl hw hsh hI' K hK
    have h := (hI _ _ _).1 hI'; clear hI'; obtain ⟨s41, s42, s43, s44, s45, s46, s47, s48, h⟩ := h; obtain ⟨s49, s50, s51, s52, s53, s54, s55, h⟩ := h
    obtain ⟨ha, hC, hP, f11, f12, f13⟩ := h; subst ha
    go_simp
    refine hK.out _ _ ((hI _ _ _).2 ⟨_, _, _, _, _, _, _, _, _, _, _, _, _, _, _, rfl, hC, hP.put 0 rfl rfl rfl, f11, f12, f13⟩)
  · intro l a W hl hw hsh hI' K hK
    have h := (hI _ _ _).1 hI'; clear hI'; obtain ⟨s41, s42, s43, s44, s45, s46, s47, s48, h⟩ := h; obtain ⟨s49, s50, s51, s52, s53, s54, s55, h⟩ := h
    obtain ⟨ha, hC, hP, f11, f12, f13⟩ := h; subst ha
    obtain rfl := hP.get 0 rfl (hw 0 (by kernel_rfl))
    obtain ⟨x0, x1⟩ := hcell.out _ hC
    go_simp
    refine hK.out _ _ ((hI _ _ _).2 ⟨_, _, _, _, _, _, _, _, _, _, _, _, _, _, _, rfl, hC, hP.put 1 rfl rfl rfl, f11, f12, f13⟩)
  · intro l a W hl hw hsh hI' K hK
    have h := (hI _ _ _).1 hI'; clear hI'; obtain ⟨s41, s42, s43, s44, s45, s46, s47, s48, h⟩ := h; obtain ⟨s49, s50, s51, s52, s53, s54, s55, h⟩ := h
    obtain ⟨ha, hC, hP, f11, f12, f13⟩ := h; subst ha
    go_simp
    refine hK.out _ _ ((hI _ _ _).2 ⟨_, _, _, _, _, _, _, _, _, _, _, _, _, _, _, rfl, hC, hP.put 2 rfl rfl rfl, f11, f12, f13⟩)
  · intro l a W hl hw hsh hI' K hK
    have h := (hI _ _ _).1 hI'; clear hI'; obtain ⟨s41, s42, s43, s44, s45, s46, s47, s48, h⟩ := h; obtain ⟨s49, s50, s51, s52, s53, s54, s55, h⟩ := h
    obtain ⟨ha, hC, hP, f11, f12, f13⟩ := h; subst ha
    obtain rfl := hP.get 2 rfl (hw 2 (by kernel_rfl))
    obtain ⟨x0, x1⟩ := hcell.out _ hC
    go_simp
    refine hK.out _ _ ((hI _ _ _).2 ⟨_, _, _, _, _, _, _, _, _, _, _, _, _, _, _, rfl, hC, hP.put 3 rfl rfl rfl, f11, f12, f13⟩)
  · intro l a W hl hw hsh hI' K hK
    have h := (hI _ _ _).1 hI'; clear hI'; obtain ⟨s41, s42, s43, s44, s45, s46, s47, s48, h⟩ := h; obtain ⟨s49, s50, s51, s52, s53, s54, s55, h⟩ := h
    obtain ⟨ha, hC, hP, f11, f12, f13⟩ := h; subst ha
    obtain rfl := hP.get 3 rfl (hw 3 (by kernel_rfl))
    go_simp
    refine hK.out _ _ ((hI _ _ _).2 ⟨_, _, _, _, _, _, _, _, _, _, _, _, _, _, _, rfl, hC, hP.put 4 rfl rfl rfl, f11, f12, f13⟩)
  · intro l a W hl hw hsh hI' K hK
    have h := (hI _ _ _).1 hI'; clear hI'; obtain ⟨s41, s42, s43, s44, s45, s46, s47, s48, h⟩ := h; obtain ⟨s49, s50, s51, s52, s53, s54, s55, h⟩ := h
    obtain ⟨ha, hC, hP, f11, f12, f13⟩ := h; subst ha
    go_simp
    refine hK.out _ _ ((hI _ _ _).2 ⟨_, _, _, _, _, _, _, _, _, _, _, _, _, _, _, rfl, hC, hP.put 5 rfl rfl rfl, f11, f12, f13⟩)
  · intro l a W hl hw hsh hI' K hK
    have h := (hI _ _ _).1 hI'; clear hI'; obtain ⟨s41, s42, s43, s44, s45, s46, s47, s48, h⟩ := h; obtain ⟨s49, s50, s51, s52, s53, s54, s55, h⟩ := h
    obtain ⟨ha, hC, hP, f11, f12, f13⟩ := h; subst ha
    obtain rfl := hP.get 5 rfl (hw 5 (by kernel_rfl))
    obtain ⟨x0, x1⟩ := hcell.out _ hC
    go_simp
    refine hK.out _ _ ((hI _ _ _).2 ⟨_, _, _, _, _, _, _, _, _, _, _, _, _, _, _, rfl, hC, hP.put 6 rfl rfl rfl, f11, f12, f13⟩)
  · intro l a W hl hw hsh hI' K hK
    have h := (hI _ _ _).1 hI'; clear hI'; obtain ⟨s41, s42, s43, s44, s45, s46, s47, s48, h⟩ := h; obtain ⟨s49, s50, s51, s52, s53, s54, s55, h⟩ := h
    obtain ⟨ha, hC, hP, f11, f12, f13⟩ := h; subst ha
    obtain rfl := hP.get 6 rfl (hw 6 (by kernel_rfl))
    go_simp
    refine hK.out _ _ ((hI _ _ _).2 ⟨_, _, _, _, _, _, _, _, _, _, _, _, _, _, _, rfl, hC, hP.put 7 rfl rfl rfl, f11, f12, f13⟩)
  · intro l a W hl hw hsh hI' K hK
    have h := (hI _ _ _).1 hI'; clear hI'; obtain ⟨s41, s42, s43, s44, s45, s46, s47, s48, h⟩ := h; obtain ⟨s49, s50, s51, s52, s53, s54, s55, h⟩ := h
    obtain ⟨ha, hC, hP, f11, f12, f13⟩ := h; subst ha
    obtain rfl := hP.get 1 rfl (hw 1 (by kernel_rfl))
    obtain rfl := hP.get 4 rfl (hw 4 (by kernel_rfl))
    obtain rfl := hP.get 7 rfl (hw 7 (by kernel_rfl))
    go_simp
    refine hK.out _ _ ((hI _ _ _).2 ⟨_, _, _, _, _, _, _, _, _, _, _, _, _, _, _, rfl, hC, hP.put 8 rfl rfl rfl, f11, f12, f13⟩)
  · intro l a W hl hw hsh hI' K hK
    have h := (hI _ _ _).1 hI'; clear hI'; obtain ⟨s41, s42, s43, s44, s45, s46, s47, s48, h⟩ := h; obtain ⟨s49, s50, s51, s52, s53, s54, s55, h⟩ := h
    obtain ⟨ha, hC, hP, f11, f12, f13⟩ := h; subst ha
    go_simp
    refine hK.out _ _ ((hI _ _ _).2 ⟨_, _, _, _, _, _, _, _, _, _, _, _, _, _, _, rfl, hC, hP.put 9 rfl rfl rfl, f11, f12, f13⟩)
  · intro l a W hl hw hsh hI' K hK
    have h := (hI _ _ _).1 hI'; clear hI'; obtain ⟨s41, s42, s43, s44, s45, s46, s47, s48, h⟩ := h; obtain ⟨s49, s50, s51, s52, s53, s54, s55, h⟩ := h
    obtain ⟨ha, hC, hP, f11, f12, f13⟩ := h; subst ha
    obtain rfl := hP.get 9 rfl (hw 9 (by kernel_rfl))
    obtain ⟨x0, x1⟩ := hcell.out _ hC
    go_simp
    refine hK.out _ _ ((hI _ _ _).2 ⟨_, _, _, _, _, _, _, _, _, _, _, _, _, _, _, rfl, hC, hP.put 10 rfl rfl rfl, f11, f12, f13⟩)
  · intro l a W hl hw hsh hI' K hK
    have h := (hI _ _ _).1 hI'; clear hI'; obtain ⟨s41, s42, s43, s44, s45, s46, s47, s48, h⟩ := h; obtain ⟨s49, s50, s51, s52, s53, s54, s55, h⟩ := h
    obtain ⟨ha, hC, hP, f11, f12, f13⟩ := h; subst ha
    obtain rfl := hP.get 10 rfl (hw 10 (by kernel_rfl))
    go_simp
    have hb := (Below.refl W.heap.size W).alloc (Nat.le_refl _) (.cells #[.int .i64 val] 3)
    refine hK.out _ _ ((hI _ _ _).2 ⟨_, _, _, _, _, _, _, _, _, _, _, _, _, _, _, rfl, hC.call hb, hP.skip 11 rfl, fun _ => ⟨_, rfl, (Blk.new W #[.int .i64 val] 3).cell 0, by simp⟩, (fun h => (let ⟨g, c, e, a, b⟩ := f12 h; ⟨g, c, e, a.below hb, b⟩)), f13⟩)
  · intro l a W hl hw hsh hI' K hK
    have h := (hI _ _ _).1 hI'; clear hI'; obtain ⟨s41, s42, s43, s44, s45, s46, s47, s48, h⟩ := h; obtain ⟨s49, s50, s51, s52, s53, s54, s55, h⟩ := h
    obtain ⟨ha, hC, hP, f11, f12, f13⟩ := h; subst ha
    obtain rfl := hP.get 8 rfl (hw 8 (by kernel_rfl))
    obtain ⟨g, rfl, hg, hgl⟩ := f11 (hw 11 (by kernel_rfl))
    rw [if_pos (by rfl)]
    have hco2 : Sl W (.slice (some ⟨bq, oq, none⟩) cols cols) coef := by
      rcases hco.out with ⟨e, rfl⟩ | ⟨b, off, cap2, e, h1, h2, h3, h4⟩
      · cases e
      · cases e; exact .inr ⟨_, _, coef.length, rfl, Nat.le_refl _, by omega, Nat.lt_of_lt_of_le h3 hC.below.size, fun j hj => (hC.below.cell (p := ⟨_, _, none⟩) h3).trans (h4 j hj)⟩
    refine oper_app_full _ Tryz.underlying22 _ _ rfl (some ⟨bq, oq, none⟩) cols coef (by go_simp) hco2 g val (by go_simp) hg (by omega) ?_
    intro g2 cap2 W2 hr hge hb
    refine hK.out _ _ ((hI _ _ _).2 ⟨_, _, _, _, _, _, _, _, _, _, _, _, _, _, _, rfl, hC.call hb, hP.skip 12 rfl, (fun h => (let ⟨g, e, a, b⟩ := f11 h; ⟨g, e, (hb.cell (p := ⟨_, _, none⟩) b).trans a, Nat.lt_of_lt_of_le b hb.size⟩)), fun _ => ⟨g2, cap2, rfl, hr, Nat.le_trans hC.below.size hge⟩, f13⟩)
  · intro l a W hl hw hsh hI' K hK
    have h := (hI _ _ _).1 hI'; clear hI'; obtain ⟨s41, s42, s43, s44, s45, s46, s47, s48, h⟩ := h; obtain ⟨s49, s50, s51, s52, s53, s54, s55, h⟩ := h
    obtain ⟨ha, hC, hP, f11, f12, f13⟩ := h; subst ha
    obtain ⟨g2, cap2, rfl, hr, hge⟩ := f12 (hw 12 (by kernel_rfl))
    go_simp
    refine hK.out _ _ ((hI _ _ _).2 ⟨_, _, _, _, _, _, _, _, _, _, _, _, _, _, _, rfl, hC, hP.skip 13 rfl, f11, f12, fun _ => rfl⟩)
  · intro l a W hl hw hsh hI' K hK
    have h := (hI _ _ _).1 hI'; clear hI'; obtain ⟨s41, s42, s43, s44, s45, s46, s47, s48, h⟩ := h; obtain ⟨s49, s50, s51, s52, s53, s54, s55, h⟩ := h
    obtain ⟨ha, hC, hP, f11, f12, f13⟩ := h; subst ha
    go_simp
    refine hK.out _ _ ((hI _ _ _).2 ⟨_, _, _, _, _, _, _, _, _, _, _, _, _, _, _, rfl, hC, hP.put 11 rfl rfl rfl, f11, f12, f13⟩)
  · intro a W hI'
    have h := (hI _ _ _).1 hI'; clear hI'; obtain ⟨s41, s42, s43, s44, s45, s46, s47, s48, h⟩ := h; obtain ⟨s49, s50, s51, s52, s53, s54, s55, h⟩ := h
    obtain ⟨ha, hC, hP, f11, f12, f13⟩ := h; subst ha
    clear f11
    obtain ⟨g2, cap2, rfl, hr, hge⟩ := f12 (by kernel_rfl)
    obtain rfl := f13 (by kernel_rfl)
    obtain rfl := hP.get 11 rfl (by kernel_rfl)
    exact hQ.out _ _ _ _ _ _ _ _ _ _ _ _ g2 cap2 _ hC hr hge
set_option maxRecDepth 100000 in
set_option maxHeartbeats 8000000 in
theorem open_r9n {Q : Exit → Act → World → Prop} {u0 u1 u2 u3 u4 u6 u7 u8 u9 u10 u11 u12 u13 u14 u15 u16 u17 u18 u19 u20 u21 u22 u23 u24 u25 u26 u27 u28 u29 u30 u31 u32 u33 u34 u35 u36 u37 u38 u39 u40 u41 u42 u43 u44 u45 u46 u47 u48 u49 u50 u51 u52 u53 u54 u55 u56 u57 u58 u59 u60 u61 u62 u63 u64 u65 u66 u67 u68 u69 u70 u71 u72 u73 u74 u75 u76 u77 u78 u79 u80 u81 u82 u83 u84 u85 u86 u87 u88 u89 u90 u91 u92 u93 u94 u95 u96 u97 u98 u99 u100 u101 u102 u103 u104 u105 u106 u107 u108 u109 u110 u111 u112 u113 u114 u115 u116 u117 u118 u119 u120 u121 u122 u123 u124 u125 u126 u127 u128 u129 u130 u131 u132 u133 u134 u135 : Value} {xE : Nat} {val : Int} {coef : List Int} {wb w : World} {L : BLs} (hS : BL wb L w) (hcell : Hid (∀ W, BL wb L W → W.cell? ⟨xE, 0, none⟩ = some (.slice (none) 0 0) ∧ W.cell? ⟨xE, 1, none⟩ = some (.int .i64 val))) (hco : Hid (Sl wb (.slice (none) 0 0) coef)) (hlen : Hid (coef.length = 0)) {ops : Array Oper} (ho : getOps Tryz.f37.body 9 = some ops)
    (hQ : ∀ (v41 v42 v43 v44 v45 v46 v47 v48 v49 v50 v51 v52 : Value) (g cap' : Nat) (W' : World), BL wb L W' → Sl W' (.slice (some ⟨g, 0, none⟩) (0 + 1) cap') (coef ++ [val]) → wb.heap.size ≤ g → Q .normal { tmps := List.toArray (u0::u1::u2::u3::u4::.pointer (some ⟨xE, 0, none⟩)::u6::u7::u8::u9::u10::u11::u12::u13::u14::u15::u16::u17::u18::u19::u20::u21::u22::u23::u24::u25::u26::u27::u28::u29::u30::u31::u32::u33::u34::u35::u36::u37::u38::u39::u40::v41::v42::v43::v44::v45::v46::v47::v48::v49::v50::v51::v52::.slice (some ⟨g, 0, none⟩) (0 + 1) cap'::.int .i64 ((0 + 1 : Nat) : Int)::.int .i64 0::u56::u57::u58::u59::u60::u61::u62::u63::u64::u65::u66::u67::u68::u69::u70::u71::u72::u73::u74::u75::u76::u77::u78::u79::u80::u81::u82::u83::u84::u85::u86::u87::u88::u89::u90::u91::u92::u93::u94::u95::u96::u97::u98::u99::u100::u101::u102::u103::u104::u105::u106::u107::u108::u109::u110::u111::u112::u113::u114::u115::u116::u117::u118::u119::u120::u121::u122::u123::u124::u125::u126::u127::u128::u129::u130::u131::u132::u133::u134::u135::[]), defers := [] } W') :
    (Code.region 9 ops true).wp Tryz.prog Q { tmps := List.toArray (u0::u1::u2::u3::u4::.pointer (some ⟨xE, 0, none⟩)::u6::u7::u8::u9::u10::u11::u12::u13::u14::u15::u16::u17::u18::u19::u20::u21::u22::u23::u24::u25::u26::u27::u28::u29::u30::u31::u32::u33::u34::u35::u36::u37::u38::u39::u40::u41::u42::u43::u44::u45::u46::u47::u48::u49::u50::u51::u52::u53::u54::u55::u56::u57::u58::u59::u60::u61::u62::u63::u64::u65::u66::u67::u68::u69::u70::u71::u72::u73::u74::u75::u76::u77::u78::u79::u80::u81::u82::u83::u84::u85::u86::u87::u88::u89::u90::u91::u92::u93::u94::u95::u96::u97::u98::u99::u100::u101::u102::u103::u104::u105::u106::u107::u108::u109::u110::u111::u112::u113::u114::u115::u116::u117::u118::u119::u120::u121::u122::u123::u124::u125::u126::u127::u128::u129::u130::u131::u132::u133::u134::u135::[]), defers := [] } w := by
  obtain rfl := Option.some.inj (ho.symm.trans (rfl : getOps Tryz.f37.body 9 = some _))
  clear ho
  replace hQ := Lib.hid hQ
  obtain ⟨Iv, hI⟩ : ∃ Iv : (Nat → Bool) → Act → World → Prop, ∀ l a W, Iv l a W ↔ (∃ s41 s42 s43 s44 s45 s46 s47 s48 s49 s50 s51 s52 s53 s54 s55 : Value, a = { tmps := List.toArray (u0::u1::u2::u3::u4::.pointer (some ⟨xE, 0, none⟩)::u6::u7::u8::u9::u10::u11::u12::u13::u14::u15::u16::u17::u18::u19::u20::u21::u22::u23::u24::u25::u26::u27::u28::u29::u30::u31::u32::u33::u34::u35::u36::u37::u38::u39::u40::s41::s42::s43::s44::s45::s46::s47::s48::s49::s50::s51::s52::s53::s54::s55::u56::u57::u58::u59::u60::u61::u62::u63::u64::u65::u66::u67::u68::u69::u70::u71::u72::u73::u74::u75::u76::u77::u78::u79::u80::u81::u82::u83::u84::u85::u86::u87::u88::u89::u90::u91::u92::u93::u94::u95::u96::u97::u98::u99::u100::u101::u102::u103::u104::u105::u106::u107::u108::u109::u110::u111::u112::u113::u114::u115::u116::u117::u118::u119::u120::u121::u122::u123::u124::u125::u126::u127::u128::u129::u130::u131::u132::u133::u134::u135::[]), defers := [] } ∧ BL wb L W ∧ Vs [(0, .pointer (some ⟨xE, 0, none⟩), s41), (1, .slice (none) 0 0, s42), (2, .pointer (some ⟨xE, 0, none⟩), s43), (3, .slice (none) 0 0, s44), (4, .int .i64 0, s45), (5, .pointer (some ⟨xE, 0, none⟩), s46), (6, .slice (none) 0 0, s47), (7, .int .i64 0, s48), (8, .slice (none) 0 0, s49), (9, .pointer (some ⟨xE, 1, none⟩), s50), (10, .int .i64 val, s51), (14, .int .i64 0, s55)] l ∧ (l 11 = true → ∃ g : Nat, s52 = .slice (some ⟨g, 0, none⟩) 1 1 ∧ W.cell? ⟨g, 0, none⟩ = some (.int .i64 val) ∧ g < W.heap.size) ∧ (l 12 = true → ∃ g cap' : Nat, s53 = .slice (some ⟨g, 0, none⟩) (0 + 1) cap' ∧ Sl W (.slice (some ⟨g, 0, none⟩) (0 + 1) cap') (coef ++ [val]) ∧ wb.heap.size ≤ g) ∧ (l 13 = true → s54 = .int .i64 ((0 + 1 : Nat) : Int))) := ⟨_, fun _ _ _ => Iff.rfl⟩
  refine wp_region_inv Iv (by kernel_rfl) (by kernel_rfl) ((hI _ _ _).2 ⟨_, _, _, _, _, _, _, _, _, _, _, _, _, _, _, rfl, hS.drew, Vs.zero, fun h => off h, fun h => off h, fun h => off h⟩) (stepsI_cons (k := 0) ?_ (stepsI_cons (k := 1) ?_ (stepsI_cons (k := 2) ?_ (stepsI_cons (k := 3) ?_ (stepsI_cons (k := 4) ?_ (stepsI_cons (k := 5) ?_ (stepsI_cons (k := 6) ?_ (stepsI_cons (k := 7) ?_ (stepsI_cons (k := 8) ?_ (stepsI_cons (k := 9) ?_ (stepsI_cons (k := 10) ?_ (stepsI_cons (k := 11) ?_ (stepsI_cons (k := 12) ?_ (stepsI_cons (k := 13) ?_ (stepsI_cons (k := 14) ?_ (stepsI_nil)))))))))))))))) ?_
  · intro l a W hl hw hsh hI' K hK
    have h := (hI _ _ _).1 hI'; clear hI'; obtain ⟨s41, s42, s43, s44, s45, s46, s47, s48, h⟩ := h; obtain ⟨s49, s50, s51, s52, s53, s54, s55, h⟩ := h
    obtain ⟨ha, hC, hP, f11, f12, f13⟩ := h; subst ha
    go_simp
    refine hK.out _ _ ((hI _ _ _).2 ⟨_, _, _, _, _, _, _, _, _, _, _, _, _, _, _, rfl, hC, hP.put 0 rfl rfl rfl, f11, f12, f13⟩)
  · intro l a W hl hw hsh hI' K hK
    have h := (hI _ _ _).1 hI'; clear hI'; obtain ⟨s41, s42, s43, s44, s45, s46, s47, s48, h⟩ := h; obtain ⟨s49, s50, s51, s52, s53, s54, s55, h⟩ := h
    obtain ⟨ha, hC, hP, f11, f12, f13⟩ := h; subst ha
    obtain rfl := hP.get 0 rfl (hw 0 (by kernel_rfl))
    obtain ⟨x0, x1⟩ := hcell.out _ hC
    go_simp
    refine hK.out _ _ ((hI _ _ _).2 ⟨_, _, _, _, _, _, _, _, _, _, _, _, _, _, _, rfl, hC, hP.put 1 rfl rfl rfl, f11, f12, f13⟩)
  · intro l a W hl hw hsh hI' K hK
    have h := (hI _ _ _).1 hI'; clear hI'; obtain ⟨s41, s42, s43, s44, s45, s46, s47, s48, h⟩ := h; obtain ⟨s49, s50, s51, s52, s53, s54, s55, h⟩ := h
    obtain ⟨ha, hC, hP, f11, f12, f13⟩ := h; subst ha
    go_simp
    refine hK.out _ _ ((hI _ _ _).2 ⟨_, _, _, _, _, _, _, _, _, _, _, _, _, _, _, rfl, hC, hP.put 2 rfl rfl rfl, f11, f12, f13⟩)
  · intro l a W hl hw hsh hI' K hK
    have h := (hI _ _ _).1 hI'; clear hI'; obtain ⟨s41, s42, s43, s44, s45, s46, s47, s48, h⟩ := h; obtain ⟨s49, s50, s51, s52, s53, s54, s55, h⟩ := h
    obtain ⟨ha, hC, hP, f11, f12, f13⟩ := h; subst ha
    obtain rfl := hP.get 2 rfl (hw 2 (by kernel_rfl))
    obtain ⟨x0, x1⟩ := hcell.out _ hC
    go_simp
    refine hK.out _ _ ((hI _ _ _).2 ⟨_, _, _, _, _, _, _, _, _, _, _, _, _, _, _, rfl, hC, hP.put 3 rfl rfl rfl, f11, f12, f13⟩)
  · intro l a W hl hw hsh hI' K hK
    have h := (hI _ _ _).1 hI'; clear hI'; obtain ⟨s41, s42, s43, s44, s45, s46, s47, s48, h⟩ := h; obtain ⟨s49, s50, s51, s52, s53, s54, s55, h⟩ := h
    obtain ⟨ha, hC, hP, f11, f12, f13⟩ := h; subst ha
    obtain rfl := hP.get 3 rfl (hw 3 (by kernel_rfl))
    go_simp
    refine hK.out _ _ ((hI _ _ _).2 ⟨_, _, _, _, _, _, _, _, _, _, _, _, _, _, _, rfl, hC, hP.put 4 rfl rfl rfl, f11, f12, f13⟩)
  · intro l a W hl hw hsh hI' K hK
    have h := (hI _ _ _).1 hI'; clear hI'; obtain ⟨s41, s42, s43, s44, s45, s46, s47, s48, h⟩ := h; obtain ⟨s49, s50, s51, s52, s53, s54, s55, h⟩ := h
    obtain ⟨ha, hC, hP, f11, f12, f13⟩ := h; subst ha
    go_simp
    refine hK.out _ _ ((hI _ _ _).2 ⟨_, _, _, _, _, _, _, _, _, _, _, _, _, _, _, rfl, hC, hP.put 5 rfl rfl rfl, f11, f12, f13⟩)
  · intro l a W hl hw hsh hI' K hK
    have h := (hI _ _ _).1 hI'; clear hI'; obtain ⟨s41, s42, s43, s44, s45, s46, s47, s48, h⟩ := h; obtain ⟨s49, s50, s51, s52, s53, s54, s55, h⟩ := h
    obtain ⟨ha, hC, hP, f11, f12, f13⟩ := h; subst ha
    obtain rfl := hP.get 5 rfl (hw 5 (by kernel_rfl))
    obtain ⟨x0, x1⟩ := hcell.out _ hC
    go_simp
    refine hK.out _ _ ((hI _ _ _).2 ⟨_, _, _, _, _, _, _, _, _, _, _, _, _, _, _, rfl, hC, hP.put 6 rfl rfl rfl, f11, f12, f13⟩)
  · intro l a W hl hw hsh hI' K hK
    have h := (hI _ _ _).1 hI'; clear hI'; obtain ⟨s41, s42, s43, s44, s45, s46, s47, s48, h⟩ := h; obtain ⟨s49, s50, s51, s52, s53, s54, s55, h⟩ := h
    obtain ⟨ha, hC, hP, f11, f12, f13⟩ := h; subst ha
    obtain rfl := hP.get 6 rfl (hw 6 (by kernel_rfl))
    go_simp
    refine hK.out _ _ ((hI _ _ _).2 ⟨_, _, _, _, _, _, _, _, _, _, _, _, _, _, _, rfl, hC, hP.put 7 rfl rfl rfl, f11, f12, f13⟩)
  · intro l a W hl hw hsh hI' K hK
    have h := (hI _ _ _).1 hI'; clear hI'; obtain ⟨s41, s42, s43, s44, s45, s46, s47, s48, h⟩ := h; obtain ⟨s49, s50, s51, s52, s53, s54, s55, h⟩ := h
    obtain ⟨ha, hC, hP, f11, f12, f13⟩ := h; subst ha
    obtain rfl := hP.get 1 rfl (hw 1 (by kernel_rfl))
    obtain rfl := hP.get 4 rfl (hw 4 (by kernel_rfl))
    obtain rfl := hP.get 7 rfl (hw 7 (by kernel_rfl))
    go_simp
    refine hK.out _ _ ((hI _ _ _).2 ⟨_, _, _, _, _, _, _, _, _, _, _, _, _, _, _, rfl, hC, hP.put 8 rfl rfl rfl, f11, f12, f13⟩)
  · intro l a W hl hw hsh hI' K hK
    have h := (hI _ _ _).1 hI'; clear hI'; obtain ⟨s41, s42, s43, s44, s45, s46, s47, s48, h⟩ := h; obtain ⟨s49, s50, s51, s52, s53, s54, s55, h⟩ := h
    obtain ⟨ha, hC, hP, f11, f12, f13⟩ := h; subst ha
    go_simp
    refine hK.out _ _ ((hI _ _ _).2 ⟨_, _, _, _, _, _, _, _, _, _, _, _, _, _, _, rfl, hC, hP.put 9 rfl rfl rfl, f11, f12, f13⟩)
  · intro l a W hl hw hsh hI' K hK
    have h := (hI _ _ _).1 hI'; clear hI'; obtain ⟨s41, s42, s43, s44, s45, s46, s47, s48, h⟩ := h; obtain ⟨s49, s50, s51, s52, s53, s54, s55, h⟩ := h
    obtain ⟨ha, hC, hP, f11, f12, f13⟩ := h; subst ha
    obtain rfl := hP.get 9 rfl (hw 9 (by kernel_rfl))
    obtain ⟨x0, x1⟩ := hcell.out _ hC
    go_simp
    refine hK.out _ _ ((hI _ _ _).2 ⟨_, _, _, _, _, _, _, _, _, _, _, _, _, _, _, rfl, hC, hP.put 10 rfl rfl rfl, f11, f12, f13⟩)
  · intro l a W hl hw hsh hI' K hK
    have h := (hI _ _ _).1 hI'; clear hI'; obtain ⟨s41, s42, s43, s44, s45, s46, s47, s48, h⟩ := h; obtain ⟨s49, s50, s51, s52, s53, s54, s55, h⟩ := h
    obtain ⟨ha, hC, hP, f11, f12, f13⟩ := h; subst ha
    obtain rfl := hP.get 10 rfl (hw 10 (by kernel_rfl))
    go_simp
    have hb := (Below.refl W.heap.size W).alloc (Nat.le_refl _) (.cells #[.int .i64 val] 3)
    refine hK.out _ _ ((hI _ _ _).2 ⟨_, _, _, _, _, _, _, _, _, _, _, _, _, _, _, rfl, hC.call hb, hP.skip 11 rfl, fun _ => ⟨_, rfl, (Blk.new W #[.int .i64 val] 3).cell 0, by simp⟩, (fun h => (let ⟨g, c, e, a, b⟩ := f12 h; ⟨g, c, e, a.below hb, b⟩)), f13⟩)
  · intro l a W hl hw hsh hI' K hK
    have h := (hI _ _ _).1 hI'; clear hI'; obtain ⟨s41, s42, s43, s44, s45, s46, s47, s48, h⟩ := h; obtain ⟨s49, s50, s51, s52, s53, s54, s55, h⟩ := h
    obtain ⟨ha, hC, hP, f11, f12, f13⟩ := h; subst ha
    obtain rfl := hP.get 8 rfl (hw 8 (by kernel_rfl))
    obtain ⟨g, rfl, hg, hgl⟩ := f11 (hw 11 (by kernel_rfl))
    rw [if_pos (by rfl)]
    have hco2 : Sl W (.slice (none) 0 0) coef := by
      rcases hco.out with ⟨e, rfl⟩ | ⟨b, off, cap2, e, h1, h2, h3, h4⟩
      · exact Sl.nil _
      · cases e
    refine oper_app_full _ Tryz.underlying22 _ _ rfl (none) 0 coef (by go_simp) hco2 g val (by go_simp) hg (by omega) ?_
    intro g2 cap2 W2 hr hge hb
    refine hK.out _ _ ((hI _ _ _).2 ⟨_, _, _, _, _, _, _, _, _, _, _, _, _, _, _, rfl, hC.call hb, hP.skip 12 rfl, (fun h => (let ⟨g, e, a, b⟩ := f11 h; ⟨g, e, (hb.cell (p := ⟨_, _, none⟩) b).trans a, Nat.lt_of_lt_of_le b hb.size⟩)), fun _ => ⟨g2, cap2, rfl, hr, Nat.le_trans hC.below.size hge⟩, f13⟩)
  · intro l a W hl hw hsh hI' K hK
    have h := (hI _ _ _).1 hI'; clear hI'; obtain ⟨s41, s42, s43, s44, s45, s46, s47, s48, h⟩ := h; obtain ⟨s49, s50, s51, s52, s53, s54, s55, h⟩ := h
    obtain ⟨ha, hC, hP, f11, f12, f13⟩ := h; subst ha
    obtain ⟨g2, cap2, rfl, hr, hge⟩ := f12 (hw 12 (by kernel_rfl))
    go_simp
    refine hK.out _ _ ((hI _ _ _).2 ⟨_, _, _, _, _, _, _, _, _, _, _, _, _, _, _, rfl, hC, hP.skip 13 rfl, f11, f12, fun _ => rfl⟩)
  · intro l a W hl hw hsh hI' K hK
    have h := (hI _ _ _).1 hI'; clear hI'; obtain ⟨s41, s42, s43, s44, s45, s46, s47, s48, h⟩ := h; obtain ⟨s49, s50, s51, s52, s53, s54, s55, h⟩ := h
    obtain ⟨ha, hC, hP, f11, f12, f13⟩ := h; subst ha
    go_simp
    refine hK.out _ _ ((hI _ _ _).2 ⟨_, _, _, _, _, _, _, _, _, _, _, _, _, _, _, rfl, hC, hP.put 11 rfl rfl rfl, f11, f12, f13⟩)
  · intro a W hI'
    have h := (hI _ _ _).1 hI'; clear hI'; obtain ⟨s41, s42, s43, s44, s45, s46, s47, s48, h⟩ := h; obtain ⟨s49, s50, s51, s52, s53, s54, s55, h⟩ := h
    obtain ⟨ha, hC, hP, f11, f12, f13⟩ := h; subst ha
    clear f11
    obtain ⟨g2, cap2, rfl, hr, hge⟩ := f12 (by kernel_rfl)
    obtain rfl := f13 (by kernel_rfl)
    obtain rfl := hP.get 11 rfl (by kernel_rfl)
    exact hQ.out _ _ _ _ _ _ _ _ _ _ _ _ g2 cap2 _ hC hr hge
end Go.Proofs.YtcmomjnailihpaaGreatDoor
