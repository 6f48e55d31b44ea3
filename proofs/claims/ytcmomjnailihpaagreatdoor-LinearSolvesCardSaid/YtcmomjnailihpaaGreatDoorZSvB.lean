/- SvB -/
import Derived.Test.YtcmomjnailihpaaGreatDoorZLcR
namespace Go.Proofs.YtcmomjnailihpaaGreatDoor
open Go.RowKit
open LnM (wd upd sm)
attribute [local go_sem] Oper.semAt_some
set_option maxRecDepth 100000 in
set_option maxHeartbeats 8000000 in
theorem solve_r17 {Q : Exit → Act → World → Prop} {u0 u1 u2 u3 u5 u6 u7 u8 u9 u10 u11 u12 u13 u14 u15 u16 u17 u18 u19 u20 u21 u22 u23 u24 u25 u26 u27 u28 u29 u30 u31 u32 u33 u34 u35 u36 u37 u38 u39 u40 u41 u42 u43 u44 u45 u46 u47 u48 u49 u50 u51 u52 u53 u54 u55 u56 u57 u58 u59 u60 u61 u62 u63 u64 u65 u66 u67 u68 u69 u70 u71 u72 u73 u74 u75 u76 u77 u78 u79 u80 u81 u82 u83 u84 u85 u86 u87 u88 u89 u90 u91 u92 u93 u94 u95 u96 u97 u98 u99 u100 u101 u102 u103 u104 u105 u106 u107 u108 u109 u110 u111 u112 u113 u114 u115 u116 u117 u118 u119 u120 u121 u122 u123 : Value} {t : Tb} {F : Nat → Nat → Int} {B : Nat → Nat} {sg : Nat → Int} {d : Int} {w0 w : World} (hE : Hid (Env w0)) (h0 : Hid (Below w0.heap.size w0 w)) (hT : Hid (Tbl w t F B sg d)) (hd : Hid (LnM.Wide d ∧ LnM.Wide (-d))) (hk : t.k ≤ 1000) {ops : Array Oper} (ho : getOps Tryz.f14.body 17 = some ops)
    (hQ : ∀ (v77 v78 v79 v80 v81 v82 v83 v84 v85 v86 v87 v88 v89 : Value) (ga gb : Nat) (W' : World), Below w.heap.size w W' → StrAt W' gb t.k (fun _ => ⟨#[48]⟩) → Blk W' ga (#[.bool true, .slice (some ⟨gb, 0, none⟩) t.k t.k, .string ⟨(Lib.itoa (d)).toArray⟩, .slice none 0 0]) 38 → w.heap.size ≤ ga → w.heap.size ≤ gb → Q .normal { tmps := List.toArray (u0::u1::u2::u3::.pointer (some ⟨t.tb, 0, none⟩)::u5::u6::u7::u8::u9::.pointer (some ⟨ga, 0, none⟩)::u11::u12::u13::u14::u15::u16::u17::u18::u19::u20::u21::u22::u23::u24::u25::u26::u27::u28::u29::u30::u31::u32::u33::u34::u35::u36::u37::u38::u39::u40::u41::u42::u43::u44::u45::u46::u47::u48::u49::u50::u51::u52::u53::u54::u55::u56::u57::u58::u59::u60::u61::u62::u63::u64::u65::u66::u67::u68::u69::u70::u71::u72::u73::u74::u75::u76::v77::v78::v79::v80::v81::v82::v83::v84::v85::v86::v87::v88::v89::u90::u91::u92::u93::u94::u95::u96::u97::u98::u99::u100::u101::u102::u103::u104::u105::u106::u107::u108::u109::u110::u111::u112::u113::u114::u115::u116::u117::u118::u119::u120::u121::u122::u123::[]), defers := [] } W') :
    (Code.region 17 ops true).wp Tryz.prog Q { tmps := List.toArray (u0::u1::u2::u3::.pointer (some ⟨t.tb, 0, none⟩)::u5::u6::u7::u8::u9::u10::u11::u12::u13::u14::u15::u16::u17::u18::u19::u20::u21::u22::u23::u24::u25::u26::u27::u28::u29::u30::u31::u32::u33::u34::u35::u36::u37::u38::u39::u40::u41::u42::u43::u44::u45::u46::u47::u48::u49::u50::u51::u52::u53::u54::u55::u56::u57::u58::u59::u60::u61::u62::u63::u64::u65::u66::u67::u68::u69::u70::u71::u72::u73::u74::u75::u76::u77::u78::u79::u80::u81::u82::u83::u84::u85::u86::u87::u88::u89::u90::u91::u92::u93::u94::u95::u96::u97::u98::u99::u100::u101::u102::u103::u104::u105::u106::u107::u108::u109::u110::u111::u112::u113::u114::u115::u116::u117::u118::u119::u120::u121::u122::u123::[]), defers := [] } w := by
  obtain rfl := Option.some.inj (ho.symm.trans (rfl : getOps Tryz.f14.body 17 = some _))
  clear ho
  replace hQ := Lib.hid hQ
  obtain ⟨Iv, hI⟩ : ∃ Iv : (Nat → Bool) → Act → World → Prop, ∀ l a W, Iv l a W ↔ (∃ s77 s78 s79 s80 s81 s82 s83 s84 s85 s86 s87 s88 s89 s10 : Value, a = { tmps := List.toArray (u0::u1::u2::u3::.pointer (some ⟨t.tb, 0, none⟩)::u5::u6::u7::u8::u9::s10::u11::u12::u13::u14::u15::u16::u17::u18::u19::u20::u21::u22::u23::u24::u25::u26::u27::u28::u29::u30::u31::u32::u33::u34::u35::u36::u37::u38::u39::u40::u41::u42::u43::u44::u45::u46::u47::u48::u49::u50::u51::u52::u53::u54::u55::u56::u57::u58::u59::u60::u61::u62::u63::u64::u65::u66::u67::u68::u69::u70::u71::u72::u73::u74::u75::u76::s77::s78::s79::s80::s81::s82::s83::s84::s85::s86::s87::s88::s89::u90::u91::u92::u93::u94::u95::u96::u97::u98::u99::u100::u101::u102::u103::u104::u105::u106::u107::u108::u109::u110::u111::u112::u113::u114::u115::u116::u117::u118::u119::u120::u121::u122::u123::[]), defers := [] } ∧ Below w.heap.size w W ∧ Vs [(1, .pointer (some ⟨t.tb, 0, none⟩), s78), (2, .pointer (some ⟨t.tb, 0, none⟩), s79), (3, .pointer (some ⟨t.tb, 16, none⟩), s80), (4, .int .i64 t.k, s81), (6, .pointer (some ⟨t.tb, 0, none⟩), s83), (7, .pointer (some ⟨t.tb, 0, none⟩), s84), (8, .pointer (some ⟨t.tb, 4, none⟩), s85), (10, .string ⟨(Lib.itoa (d)).toArray⟩, s87)] l ∧ (l 0 = true → (l 14 = false → ∃ g : Nat, s77 = .slice (some ⟨g, 0, none⟩) 1 1 ∧ W.cell? ⟨g, 0, none⟩ = some (.string ⟨#[48]⟩) ∧ g < W.heap.size)) ∧ (l 5 = true → (l 14 = false → ∃ g : Nat, s82 = .slice (some ⟨g, 0, none⟩) t.k t.k ∧ StrAt W g t.k (fun _ => ⟨#[48]⟩) ∧ w.heap.size ≤ g)) ∧ (l 9 = true → s86 = .agg (wc (wd (d)))) ∧ (l 11 = true → (l 14 = false → ∃ g : Nat, s88 = .agg #[.slice (some ⟨g, 0, none⟩) t.k t.k, .string ⟨(Lib.itoa (d)).toArray⟩] ∧ StrAt W g t.k (fun _ => ⟨#[48]⟩) ∧ w.heap.size ≤ g)) ∧ (l 12 = true → (l 14 = false → ∃ g : Nat, s89 = .agg (#[.bool true, .slice (some ⟨g, 0, none⟩) t.k t.k, .string ⟨(Lib.itoa (d)).toArray⟩, .slice none 0 0]) ∧ StrAt W g t.k (fun _ => ⟨#[48]⟩) ∧ w.heap.size ≤ g)) ∧ (l 13 = true → ∃ g : Nat, s10 = .pointer (some ⟨g, 0, none⟩) ∧ w.heap.size ≤ g ∧ (l 14 = false → Blk W g (#[.bool false, .slice none 0 0, .string ⟨#[]⟩, .slice none 0 0]) 38) ∧ (l 14 = true → ∃ gb : Nat, StrAt W gb t.k (fun _ => ⟨#[48]⟩) ∧ w.heap.size ≤ gb ∧ Blk W g (#[.bool true, .slice (some ⟨gb, 0, none⟩) t.k t.k, .string ⟨(Lib.itoa (d)).toArray⟩, .slice none 0 0]) 38))) := ⟨_, fun _ _ _ => Iff.rfl⟩
  refine wp_region_inv Iv (by kernel_rfl) (by kernel_rfl) ((hI _ _ _).2 ⟨_, _, _, _, _, _, _, _, _, _, _, _, _, _, rfl, below_drewN w 1, Vs.zero, fun h => off h, fun h => off h, fun h => off h, fun h => off h, fun h => off h, fun h => off h⟩) (stepsI_cons (k := 0) ?_ (stepsI_cons (k := 1) ?_ (stepsI_cons (k := 2) ?_ (stepsI_cons (k := 3) ?_ (stepsI_cons (k := 4) ?_ (stepsI_cons (k := 5) ?_ (stepsI_cons (k := 6) ?_ (stepsI_cons (k := 7) ?_ (stepsI_cons (k := 8) ?_ (stepsI_cons (k := 9) ?_ (stepsI_cons (k := 10) ?_ (stepsI_cons (k := 11) ?_ (stepsI_cons (k := 12) ?_ (stepsI_cons (k := 13) ?_ (stepsI_cons (k := 14) ?_ (stepsI_nil)))))))))))))))) ?_
  · intro l a W hl hw hsh hI' K hK
    have h := (hI _ _ _).1 hI'; clear hI'; obtain ⟨s77, s78, s79, s80, s81, s82, s83, s84, h⟩ := h; obtain ⟨s85, s86, s87, s88, s89, s10, h⟩ := h
    obtain ⟨ha, hC, hP, f0, f5, f9, h⟩ := h; obtain ⟨f11, f12, f13⟩ := h; subst ha
    go_simp
    have hb := (Below.refl W.heap.size W).alloc (Nat.le_refl _) (.cells #[.string ⟨#[48]⟩] 9)
    refine hK.out _ _ ((hI _ _ _).2 ⟨_, _, _, _, _, _, _, _, _, _, _, _, _, _, rfl, hC.trans (hb.mono hC.size), hP.skip 0 rfl, fun _ _ => ⟨_, rfl, (Blk.new W #[.string ⟨#[48]⟩] 9).cell 0, by simp⟩, (fun h h14 => (let ⟨g, e, a, b⟩ := f5 h h14; ⟨g, e, a.below hb, b⟩)), f9, (fun h h14 => (let ⟨g, e, a, b⟩ := f11 h h14; ⟨g, e, a.below hb, b⟩)), (fun h h14 => (let ⟨g, e, a, b⟩ := f12 h h14; ⟨g, e, a.below hb, b⟩)), (fun h => (let ⟨g, e, c, a, b⟩ := f13 h; ⟨g, e, c, fun h2 => (a h2).below hb, fun h2 => (let ⟨gb, x, y, z⟩ := b h2; ⟨gb, x.below hb, y, z.below hb⟩)⟩))⟩)
  · intro l a W hl hw hsh hI' K hK
    have h := (hI _ _ _).1 hI'; clear hI'; obtain ⟨s77, s78, s79, s80, s81, s82, s83, s84, h⟩ := h; obtain ⟨s85, s86, s87, s88, s89, s10, h⟩ := h
    obtain ⟨ha, hC, hP, f0, f5, f9, h⟩ := h; obtain ⟨f11, f12, f13⟩ := h; subst ha
    go_simp
    refine hK.out _ _ ((hI _ _ _).2 ⟨_, _, _, _, _, _, _, _, _, _, _, _, _, _, rfl, hC, hP.put 0 rfl rfl rfl, f0, f5, f9, f11, f12, f13⟩)
  · intro l a W hl hw hsh hI' K hK
    have h := (hI _ _ _).1 hI'; clear hI'; obtain ⟨s77, s78, s79, s80, s81, s82, s83, s84, h⟩ := h; obtain ⟨s85, s86, s87, s88, s89, s10, h⟩ := h
    obtain ⟨ha, hC, hP, f0, f5, f9, h⟩ := h; obtain ⟨f11, f12, f13⟩ := h; subst ha
    obtain rfl := hP.get 0 rfl (hw 1 (by kernel_rfl))
    go_simp
    refine hK.out _ _ ((hI _ _ _).2 ⟨_, _, _, _, _, _, _, _, _, _, _, _, _, _, rfl, hC, hP.put 1 rfl rfl rfl, f0, f5, f9, f11, f12, f13⟩)
  · intro l a W hl hw hsh hI' K hK
    have h := (hI _ _ _).1 hI'; clear hI'; obtain ⟨s77, s78, s79, s80, s81, s82, s83, s84, h⟩ := h; obtain ⟨s85, s86, s87, s88, s89, s10, h⟩ := h
    obtain ⟨ha, hC, hP, f0, f5, f9, h⟩ := h; obtain ⟨f11, f12, f13⟩ := h; subst ha
    obtain rfl := hP.get 1 rfl (hw 2 (by kernel_rfl))
    go_simp
    refine hK.out _ _ ((hI _ _ _).2 ⟨_, _, _, _, _, _, _, _, _, _, _, _, _, _, rfl, hC, hP.put 2 rfl rfl rfl, f0, f5, f9, f11, f12, f13⟩)
  · intro l a W hl hw hsh hI' K hK
    have h := (hI _ _ _).1 hI'; clear hI'; obtain ⟨s77, s78, s79, s80, s81, s82, s83, s84, h⟩ := h; obtain ⟨s85, s86, s87, s88, s89, s10, h⟩ := h
    obtain ⟨ha, hC, hP, f0, f5, f9, h⟩ := h; obtain ⟨f11, f12, f13⟩ := h; subst ha
    obtain rfl := hP.get 2 rfl (hw 3 (by kernel_rfl))
    have x1 := (hT.out.below hC).c16
    go_simp
    refine hK.out _ _ ((hI _ _ _).2 ⟨_, _, _, _, _, _, _, _, _, _, _, _, _, _, rfl, hC, hP.put 3 rfl rfl rfl, f0, f5, f9, f11, f12, f13⟩)
  · intro l a W hl hw hsh hI' K hK
    have h := (hI _ _ _).1 hI'; clear hI'; obtain ⟨s77, s78, s79, s80, s81, s82, s83, s84, h⟩ := h; obtain ⟨s85, s86, s87, s88, s89, s10, h⟩ := h
    obtain ⟨ha, hC, hP, f0, f5, f9, h⟩ := h; obtain ⟨f11, f12, f13⟩ := h; subst ha
    obtain rfl := hP.get 3 rfl (hw 4 (by kernel_rfl))
    have hst : l 14 = false := by
      cases hc : l 14 with
      | false => rfl
      | true => exact absurd (hsh 11 5 _ rfl (hsh 12 11 _ rfl (hsh 14 12 _ rfl (hc) (by kernel_rfl)) (by kernel_rfl)) (by kernel_rfl)) (by simp [hl])
    obtain ⟨gl, e77, hg0, hgl⟩ := f0 (hw 0 (by kernel_rfl)) hst
    subst e77
    go_simp
    go_at_call 41
    refine Calls.mono (repeat_any t.k gl 1 ⟨#[48]⟩ _ hg0 hgl hk) ?_
    rintro e W2 ⟨g, rfl, hgw, hrep, hb⟩
    refine hK.out _ _ ((hI _ _ _).2 ⟨_, _, _, _, _, _, _, _, _, _, _, _, _, _, rfl, hC.trans (hb.mono hC.size), hP.skip 5 rfl, (fun h h14 => (let ⟨g, e, a, b⟩ := f0 h h14; ⟨g, e, (hb.cell (p := ⟨_, _, none⟩) b).trans a, Nat.lt_of_lt_of_le b hb.size⟩)), fun _ _ => ⟨g, rfl, hrep.str, Nat.le_trans hC.size hgw⟩, f9, (fun h h14 => (let ⟨g, e, a, b⟩ := f11 h h14; ⟨g, e, a.below hb, b⟩)), (fun h h14 => (let ⟨g, e, a, b⟩ := f12 h h14; ⟨g, e, a.below hb, b⟩)), (fun h => (let ⟨g, e, c, a, b⟩ := f13 h; ⟨g, e, c, fun h2 => (a h2).below hb, fun h2 => (let ⟨gb, x, y, z⟩ := b h2; ⟨gb, x.below hb, y, z.below hb⟩)⟩))⟩)
  · intro l a W hl hw hsh hI' K hK
    have h := (hI _ _ _).1 hI'; clear hI'; obtain ⟨s77, s78, s79, s80, s81, s82, s83, s84, h⟩ := h; obtain ⟨s85, s86, s87, s88, s89, s10, h⟩ := h
    obtain ⟨ha, hC, hP, f0, f5, f9, h⟩ := h; obtain ⟨f11, f12, f13⟩ := h; subst ha
    go_simp
    refine hK.out _ _ ((hI _ _ _).2 ⟨_, _, _, _, _, _, _, _, _, _, _, _, _, _, rfl, hC, hP.put 4 rfl rfl rfl, f0, f5, f9, f11, f12, f13⟩)
  · intro l a W hl hw hsh hI' K hK
    have h := (hI _ _ _).1 hI'; clear hI'; obtain ⟨s77, s78, s79, s80, s81, s82, s83, s84, h⟩ := h; obtain ⟨s85, s86, s87, s88, s89, s10, h⟩ := h
    obtain ⟨ha, hC, hP, f0, f5, f9, h⟩ := h; obtain ⟨f11, f12, f13⟩ := h; subst ha
    obtain rfl := hP.get 4 rfl (hw 6 (by kernel_rfl))
    go_simp
    refine hK.out _ _ ((hI _ _ _).2 ⟨_, _, _, _, _, _, _, _, _, _, _, _, _, _, rfl, hC, hP.put 5 rfl rfl rfl, f0, f5, f9, f11, f12, f13⟩)
  · intro l a W hl hw hsh hI' K hK
    have h := (hI _ _ _).1 hI'; clear hI'; obtain ⟨s77, s78, s79, s80, s81, s82, s83, s84, h⟩ := h; obtain ⟨s85, s86, s87, s88, s89, s10, h⟩ := h
    obtain ⟨ha, hC, hP, f0, f5, f9, h⟩ := h; obtain ⟨f11, f12, f13⟩ := h; subst ha
    obtain rfl := hP.get 5 rfl (hw 7 (by kernel_rfl))
    go_simp
    refine hK.out _ _ ((hI _ _ _).2 ⟨_, _, _, _, _, _, _, _, _, _, _, _, _, _, rfl, hC, hP.put 6 rfl rfl rfl, f0, f5, f9, f11, f12, f13⟩)
  · intro l a W hl hw hsh hI' K hK
    have h := (hI _ _ _).1 hI'; clear hI'; obtain ⟨s77, s78, s79, s80, s81, s82, s83, s84, h⟩ := h; obtain ⟨s85, s86, s87, s88, s89, s10, h⟩ := h
    obtain ⟨ha, hC, hP, f0, f5, f9, h⟩ := h; obtain ⟨f11, f12, f13⟩ := h; subst ha
    obtain rfl := hP.get 6 rfl (hw 8 (by kernel_rfl))
    rw [if_pos (by rfl)]
    have hrng := (hT.out.below hC).den
    refine wp_load_mid _ _ rfl _ _ rfl (wl (wd (d))) _ hrng hu_wide rfl (hi_wide _) ?_
    refine hK.out _ _ ((hI _ _ _).2 ⟨_, _, _, _, _, _, _, _, _, _, _, _, _, _, rfl, hC, hP.skip 9 rfl, f0, f5, fun _ => rfl, f11, f12, f13⟩)
  · intro l a W hl hw hsh hI' K hK
    have h := (hI _ _ _).1 hI'; clear hI'; obtain ⟨s77, s78, s79, s80, s81, s82, s83, s84, h⟩ := h; obtain ⟨s85, s86, s87, s88, s89, s10, h⟩ := h
    obtain ⟨ha, hC, hP, f0, f5, f9, h⟩ := h; obtain ⟨f11, f12, f13⟩ := h; subst ha
    obtain rfl := f9 (hw 9 (by kernel_rfl))
    go_simp
    go_at_call 40
    refine Calls.mono (wtext_any d hd.out.1 hd.out.2 _ (hE.out.below (h0.out.trans (hC.mono h0.out.size)) (Nat.le_refl _))) ?_
    rintro e W2 ⟨rfl, hb⟩
    refine hK.out _ _ ((hI _ _ _).2 ⟨_, _, _, _, _, _, _, _, _, _, _, _, _, _, rfl, hC.trans (hb.mono hC.size), hP.put 7 rfl rfl rfl, (fun h h14 => (let ⟨g, e, a, b⟩ := f0 h h14; ⟨g, e, (hb.cell (p := ⟨_, _, none⟩) b).trans a, Nat.lt_of_lt_of_le b hb.size⟩)), (fun h h14 => (let ⟨g, e, a, b⟩ := f5 h h14; ⟨g, e, a.below hb, b⟩)), f9, (fun h h14 => (let ⟨g, e, a, b⟩ := f11 h h14; ⟨g, e, a.below hb, b⟩)), (fun h h14 => (let ⟨g, e, a, b⟩ := f12 h h14; ⟨g, e, a.below hb, b⟩)), (fun h => (let ⟨g, e, c, a, b⟩ := f13 h; ⟨g, e, c, fun h2 => (a h2).below hb, fun h2 => (let ⟨gb, x, y, z⟩ := b h2; ⟨gb, x.below hb, y, z.below hb⟩)⟩))⟩)
  · intro l a W hl hw hsh hI' K hK
    have h := (hI _ _ _).1 hI'; clear hI'; obtain ⟨s77, s78, s79, s80, s81, s82, s83, s84, h⟩ := h; obtain ⟨s85, s86, s87, s88, s89, s10, h⟩ := h
    obtain ⟨ha, hC, hP, f0, f5, f9, h⟩ := h; obtain ⟨f11, f12, f13⟩ := h; subst ha
    obtain rfl := hP.get 7 rfl (hw 10 (by kernel_rfl))
    have hst : l 14 = false := by
      cases hc : l 14 with
      | false => rfl
      | true => exact absurd (hsh 12 11 _ rfl (hsh 14 12 _ rfl (hc) (by kernel_rfl)) (by kernel_rfl)) (by simp [hl])
    obtain ⟨gb, e82, hrb, hgb⟩ := f5 (hw 5 (by kernel_rfl)) hst
    subst e82
    go_simp
    refine hK.out _ _ ((hI _ _ _).2 ⟨_, _, _, _, _, _, _, _, _, _, _, _, _, _, rfl, hC, hP.skip 11 rfl, f0, f5, f9, fun _ _ => ⟨gb, rfl, hrb, hgb⟩, f12, f13⟩)
  · intro l a W hl hw hsh hI' K hK
    have h := (hI _ _ _).1 hI'; clear hI'; obtain ⟨s77, s78, s79, s80, s81, s82, s83, s84, h⟩ := h; obtain ⟨s85, s86, s87, s88, s89, s10, h⟩ := h
    obtain ⟨ha, hC, hP, f0, f5, f9, h⟩ := h; obtain ⟨f11, f12, f13⟩ := h; subst ha
    have hst : l 14 = false := by
      cases hc : l 14 with
      | false => rfl
      | true => exact absurd (hsh 14 12 _ rfl (hc) (by kernel_rfl)) (by simp [hl])
    obtain ⟨gb, e88, hrb, hgb⟩ := f11 (hw 11 (by kernel_rfl)) hst
    subst e88
    go_simp
    refine hK.out _ _ ((hI _ _ _).2 ⟨_, _, _, _, _, _, _, _, _, _, _, _, _, _, rfl, hC, hP.skip 12 rfl, f0, f5, f9, f11, fun _ _ => ⟨gb, rfl, hrb, hgb⟩, f13⟩)
  · intro l a W hl hw hsh hI' K hK
    have h := (hI _ _ _).1 hI'; clear hI'; obtain ⟨s77, s78, s79, s80, s81, s82, s83, s84, h⟩ := h; obtain ⟨s85, s86, s87, s88, s89, s10, h⟩ := h
    obtain ⟨ha, hC, hP, f0, f5, f9, h⟩ := h; obtain ⟨f11, f12, f13⟩ := h; subst ha
    have hst : l 14 = false := by
      cases hc : l 14 with
      | false => rfl
      | true => exact absurd (hsh 14 13 _ rfl hc (by kernel_rfl)) (by simp [hl])
    go_simp
    have hb := (Below.refl W.heap.size W).alloc (Nat.le_refl _) (.cells (#[.bool false, .slice none 0 0, .string ⟨#[]⟩, .slice none 0 0]) 38)
    refine hK.out _ _ ((hI _ _ _).2 ⟨_, _, _, _, _, _, _, _, _, _, _, _, _, _, rfl, hC.trans (hb.mono hC.size), hP.skip 13 rfl, (fun h h14 => (let ⟨g, e, a, b⟩ := f0 h h14; ⟨g, e, (hb.cell (p := ⟨_, _, none⟩) b).trans a, Nat.lt_of_lt_of_le b hb.size⟩)), (fun h h14 => (let ⟨g, e, a, b⟩ := f5 h h14; ⟨g, e, a.below hb, b⟩)), f9, (fun h h14 => (let ⟨g, e, a, b⟩ := f11 h h14; ⟨g, e, a.below hb, b⟩)), (fun h h14 => (let ⟨g, e, a, b⟩ := f12 h h14; ⟨g, e, a.below hb, b⟩)), fun _ => ⟨_, rfl, hC.size, fun _ => Blk.new _ _ _, fun h2 => off (hst.symm.trans h2)⟩⟩)
  · intro l a W hl hw hsh hI' K hK
    have h := (hI _ _ _).1 hI'; clear hI'; obtain ⟨s77, s78, s79, s80, s81, s82, s83, s84, h⟩ := h; obtain ⟨s85, s86, s87, s88, s89, s10, h⟩ := h
    obtain ⟨ha, hC, hP, f0, f5, f9, h⟩ := h; obtain ⟨f11, f12, f13⟩ := h; subst ha
    obtain ⟨ga, rfl, hga, hg0, hg1⟩ := f13 (hw 13 (by kernel_rfl))
    obtain ⟨gb, e89, hrb, hgb⟩ := f12 (hw 12 (by kernel_rfl)) hl
    subst e89
    have hne : 0 < t.k → gb ≠ ga := fun hk0 e => by
      have h14 := hg0 hl
      have := (hrb.cell 0 hk0).1; rw [e, h14.cell] at this; simp at this
    have hG := hg0 hl
    obtain ⟨x0, x1, x2, x3⟩ := (⟨hG.cell 0, hG.cell 1, hG.cell 2, hG.cell 3⟩ : _ ∧ _ ∧ _ ∧ _)
    obtain ⟨y0, y1, y2, y3⟩ := (⟨hG.frozen 0, hG.frozen 1, hG.frozen 2, hG.frozen 3⟩ : _ ∧ _ ∧ _ ∧ _)
    skip
    go_simp
    have hG2 := (((hG.set 0 (.bool true)).set 1 (.slice (some ⟨gb, 0, none⟩) t.k t.k)).set 2 (.string ⟨(Lib.itoa (d)).toArray⟩)).set 3 (.slice none 0 0)
    have hon : Only [ga] W ((((W.setCell ⟨ga, 0, none⟩ (.bool true)).setCell ⟨ga, 1, none⟩ (.slice (some ⟨gb, 0, none⟩) t.k t.k)).setCell ⟨ga, 2, none⟩ (.string ⟨(Lib.itoa (d)).toArray⟩)).setCell ⟨ga, 3, none⟩ (.slice none 0 0)) := ((((Only.refl [ga] W).setCell (p := ⟨ga, 0, none⟩) (by simp) _).setCell (p := ⟨ga, 1, none⟩) (by simp) _).setCell (p := ⟨ga, 2, none⟩) (by simp) _).setCell (p := ⟨ga, 3, none⟩) (by simp) _
    have hsb := (⟨Nat.lt_of_lt_of_le hrb.lt hon.size, fun j hj => (hrb.only hon (by intro e; rw [List.mem_singleton] at e; exact hne (by omega) e)).cell j hj⟩ : StrAt _ gb t.k (fun _ => ⟨#[48]⟩))
    refine hK.out _ _ ((hI _ _ _).2 ⟨_, _, _, _, _, _, _, _, _, _, _, _, _, _, rfl, hC.trans (hon.toBelow hC.size (by intro b hb; rw [List.mem_singleton.1 hb]; exact hga)), hP.skip 14 rfl, (fun _ h2 => off h2.symm), (fun _ h2 => off h2.symm), f9, (fun _ h2 => off h2.symm), (fun _ h2 => off h2.symm), (fun _ => ⟨ga, rfl, hga, fun h2 => off h2.symm, fun _ => ⟨gb, hsb, hgb, hG2⟩⟩)⟩)
  · intro a W hI'
    have h := (hI _ _ _).1 hI'; clear hI'; obtain ⟨s77, s78, s79, s80, s81, s82, s83, s84, h⟩ := h; obtain ⟨s85, s86, s87, s88, s89, s10, h⟩ := h
    obtain ⟨ha, hC, hP, f0, f5, f9, h⟩ := h; obtain ⟨f11, f12, f13⟩ := h; subst ha
    clear f0
    clear f5
    clear f9
    clear f11
    clear f12
    obtain ⟨ga, rfl, hga, hg0, hg1⟩ := f13 (by kernel_rfl)
    obtain ⟨gb, hsb, hgb, hG⟩ := hg1 (by kernel_rfl)
    exact hQ.out _ _ _ _ _ _ _ _ _ _ _ _ _ ga gb _ hC hsb hG hga hgb
set_option maxRecDepth 100000 in
set_option maxHeartbeats 8000000 in
theorem solve_r22 {Q : Exit → Act → World → Prop} {u0 u1 u2 u3 u6 u7 u8 u9 u13 u14 u15 u16 u17 u18 u19 u20 u21 u22 u23 u24 u25 u26 u27 u28 u29 u30 u31 u32 u33 u34 u35 u36 u37 u38 u39 u40 u41 u42 u43 u44 u45 u46 u47 u48 u49 u50 u51 u52 u53 u54 u55 u56 u57 u58 u59 u60 u61 u62 u63 u64 u65 u66 u67 u68 u69 u70 u71 u72 u73 u74 u75 u76 u77 u78 u79 u80 u81 u82 u83 u84 u85 u86 u87 u88 u89 u90 u91 u92 u93 u94 u95 u96 u97 u98 u99 u100 u101 u102 u103 u104 u105 u106 u107 u108 u109 u110 u111 u112 u113 u114 u115 u116 u117 u118 u119 u120 u121 u122 u123 : Value} {t : Tb} {F : Nat → Nat → Int} {B : Nat → Nat} {sg : Nat → Int} {d : Int} {ga nb i q la : Nat} {f : Nat → ByteArray} {w0 w : World} (hE : Hid (Env w0)) (h0 : Hid (Below w0.heap.size w0 w ∧ w0.heap.size ≤ nb)) (hT : Hid (Tbl w t F B sg d)) (him : i < t.m) (him' : (i : Int) < t.m) (hi0 : (0 : Int) ≤ i) (hla : la < t.n) (hla' : (la : Int) < t.n) (hla0 : (0 : Int) ≤ la) (hq : q < t.k) (hq' : (q : Int) < t.k) (hq0 : (0 : Int) ≤ q) (hz : Hid (LnM.Wide (F i la) ∧ LnM.Wide (-(F i la))))
    (hA : Hid (ga < w.heap.size ∧ w.cell? ⟨ga, 1, none⟩ = some (.slice (some ⟨nb, 0, none⟩) t.k t.k) ∧ ga ≠ nb)) (hN : Hid (StrAt w nb t.k f)) (hnt : Hid (nb ≠ t.tb ∧ nb ≠ t.xb ∧ nb ≠ t.R i)) (hm0 : 0 < t.m) {ops : Array Oper} (ho : getOps Tryz.f14.body 22 = some ops)
    (hQ : ∀ (v106 v107 v108 v109 v110 v111 v112 v113 v114 v115 v116 v117 v118 v119 v120 v121 : Value)  (W' : World), Only [nb] w W' → StrAt W' nb t.k (upd f q ⟨(Lib.itoa (F i la)).toArray⟩) → Q .normal { tmps := List.toArray (u0::u1::u2::u3::.pointer (some ⟨t.tb, 0, none⟩)::.int .i64 la::u6::u7::u8::u9::.pointer (some ⟨ga, 0, none⟩)::.int .i64 i::.int .i64 q::u13::u14::u15::u16::u17::u18::u19::u20::u21::u22::u23::u24::u25::u26::u27::u28::u29::u30::u31::u32::u33::u34::u35::u36::u37::u38::u39::u40::u41::u42::u43::u44::u45::u46::u47::u48::u49::u50::u51::u52::u53::u54::u55::u56::u57::u58::u59::u60::u61::u62::u63::u64::u65::u66::u67::u68::u69::u70::u71::u72::u73::u74::u75::u76::u77::u78::u79::u80::u81::u82::u83::u84::u85::u86::u87::u88::u89::u90::u91::u92::u93::u94::u95::u96::u97::u98::u99::u100::u101::u102::u103::u104::u105::v106::v107::v108::v109::v110::v111::v112::v113::v114::v115::v116::v117::v118::v119::v120::v121::u122::u123::[]), defers := [] } W') :
    (Code.region 22 ops true).wp Tryz.prog Q { tmps := List.toArray (u0::u1::u2::u3::.pointer (some ⟨t.tb, 0, none⟩)::.int .i64 la::u6::u7::u8::u9::.pointer (some ⟨ga, 0, none⟩)::.int .i64 i::.int .i64 q::u13::u14::u15::u16::u17::u18::u19::u20::u21::u22::u23::u24::u25::u26::u27::u28::u29::u30::u31::u32::u33::u34::u35::u36::u37::u38::u39::u40::u41::u42::u43::u44::u45::u46::u47::u48::u49::u50::u51::u52::u53::u54::u55::u56::u57::u58::u59::u60::u61::u62::u63::u64::u65::u66::u67::u68::u69::u70::u71::u72::u73::u74::u75::u76::u77::u78::u79::u80::u81::u82::u83::u84::u85::u86::u87::u88::u89::u90::u91::u92::u93::u94::u95::u96::u97::u98::u99::u100::u101::u102::u103::u104::u105::u106::u107::u108::u109::u110::u111::u112::u113::u114::u115::u116::u117::u118::u119::u120::u121::u122::u123::[]), defers := [] } w := by
  obtain rfl := Option.some.inj (ho.symm.trans (rfl : getOps Tryz.f14.body 22 = some _))
  clear ho
  replace hQ := Lib.hid hQ
  obtain ⟨Iv, hI⟩ : ∃ Iv : (Nat → Bool) → Act → World → Prop, ∀ l a W, Iv l a W ↔ (∃ s106 s107 s108 s109 s110 s111 s112 s113 s114 s115 s116 s117 s118 s119 s120 s121 : Value, a = { tmps := List.toArray (u0::u1::u2::u3::.pointer (some ⟨t.tb, 0, none⟩)::.int .i64 la::u6::u7::u8::u9::.pointer (some ⟨ga, 0, none⟩)::.int .i64 i::.int .i64 q::u13::u14::u15::u16::u17::u18::u19::u20::u21::u22::u23::u24::u25::u26::u27::u28::u29::u30::u31::u32::u33::u34::u35::u36::u37::u38::u39::u40::u41::u42::u43::u44::u45::u46::u47::u48::u49::u50::u51::u52::u53::u54::u55::u56::u57::u58::u59::u60::u61::u62::u63::u64::u65::u66::u67::u68::u69::u70::u71::u72::u73::u74::u75::u76::u77::u78::u79::u80::u81::u82::u83::u84::u85::u86::u87::u88::u89::u90::u91::u92::u93::u94::u95::u96::u97::u98::u99::u100::u101::u102::u103::u104::u105::s106::s107::s108::s109::s110::s111::s112::s113::s114::s115::s116::s117::s118::s119::s120::s121::u122::u123::[]), defers := [] } ∧ Only [nb] w W ∧ Vs [(0, .pointer (some ⟨ga, 1, none⟩), s106), (1, .pointer (some ⟨ga, 1, none⟩), s107), (2, .slice (some ⟨nb, 0, none⟩) t.k t.k, s108), (3, .int .i64 q, s109), (4, .pointer (some ⟨t.tb, 0, none⟩), s110), (5, .pointer (some ⟨t.tb, 0, none⟩), s111), (6, .pointer (some ⟨t.tb, 0, none⟩), s112), (7, .slice (some ⟨t.xb, 0, none⟩) t.m t.cx, s113), (8, .int .i64 i, s114), (9, .pointer (some ⟨t.xb, i, none⟩), s115), (10, .slice (some ⟨t.R i, 0, none⟩) t.n t.n, s116), (11, .int .i64 la, s117), (12, .pointer (some ⟨t.R i, la * 12, none⟩), s118), (14, .string ⟨(Lib.itoa (F i la)).toArray⟩, s120), (15, .pointer (some ⟨nb, q, none⟩), s121)] l ∧ (l 13 = true → s119 = .agg (wc (wd (F i la)))) ∧ ((l 16 = false → StrAt W nb t.k f) ∧ (l 16 = true → StrAt W nb t.k (upd f q ⟨(Lib.itoa (F i la)).toArray⟩)))) := ⟨_, fun _ _ _ => Iff.rfl⟩
  refine wp_region_inv Iv (by kernel_rfl) (by kernel_rfl) ((hI _ _ _).2 ⟨_, _, _, _, _, _, _, _, _, _, _, _, _, _, _, _, rfl, (Only.refl [nb] w).drewN 1, Vs.zero, fun h => off h, ⟨fun _ => hN.out.below (below_drewN w 1), fun h => off h⟩⟩) (stepsI_cons (k := 0) ?_ (stepsI_cons (k := 1) ?_ (stepsI_cons (k := 2) ?_ (stepsI_cons (k := 3) ?_ (stepsI_cons (k := 4) ?_ (stepsI_cons (k := 5) ?_ (stepsI_cons (k := 6) ?_ (stepsI_cons (k := 7) ?_ (stepsI_cons (k := 8) ?_ (stepsI_cons (k := 9) ?_ (stepsI_cons (k := 10) ?_ (stepsI_cons (k := 11) ?_ (stepsI_cons (k := 12) ?_ (stepsI_cons (k := 13) ?_ (stepsI_cons (k := 14) ?_ (stepsI_cons (k := 15) ?_ (stepsI_cons (k := 16) ?_ (stepsI_nil)))))))))))))))))) ?_
  · intro l a W hl hw hsh hI' K hK
    have h := (hI _ _ _).1 hI'; clear hI'; obtain ⟨s106, s107, s108, s109, s110, s111, s112, s113, h⟩ := h; obtain ⟨s114, s115, s116, s117, s118, s119, s120, s121, h⟩ := h
    obtain ⟨ha, hC, hP, f13, g⟩ := h; subst ha
    go_simp
    refine hK.out _ _ ((hI _ _ _).2 ⟨_, _, _, _, _, _, _, _, _, _, _, _, _, _, _, _, rfl, hC, hP.put 0 rfl rfl rfl, f13, g⟩)
  · intro l a W hl hw hsh hI' K hK
    have h := (hI _ _ _).1 hI'; clear hI'; obtain ⟨s106, s107, s108, s109, s110, s111, s112, s113, h⟩ := h; obtain ⟨s114, s115, s116, s117, s118, s119, s120, s121, h⟩ := h
    obtain ⟨ha, hC, hP, f13, g⟩ := h; subst ha
    obtain rfl := hP.get 0 rfl (hw 0 (by kernel_rfl))
    go_simp
    refine hK.out _ _ ((hI _ _ _).2 ⟨_, _, _, _, _, _, _, _, _, _, _, _, _, _, _, _, rfl, hC, hP.put 1 rfl rfl rfl, f13, g⟩)
  · intro l a W hl hw hsh hI' K hK
    have h := (hI _ _ _).1 hI'; clear hI'; obtain ⟨s106, s107, s108, s109, s110, s111, s112, s113, h⟩ := h; obtain ⟨s114, s115, s116, s117, s118, s119, s120, s121, h⟩ := h
    obtain ⟨ha, hC, hP, f13, g⟩ := h; subst ha
    obtain rfl := hP.get 1 rfl (hw 1 (by kernel_rfl))
    have x1 := (hC.cell (p := ⟨ga, 1, none⟩) hA.out.1 (by simpa using hA.out.2.2)).trans hA.out.2.1
    go_simp
    refine hK.out _ _ ((hI _ _ _).2 ⟨_, _, _, _, _, _, _, _, _, _, _, _, _, _, _, _, rfl, hC, hP.put 2 rfl rfl rfl, f13, g⟩)
  · intro l a W hl hw hsh hI' K hK
    have h := (hI _ _ _).1 hI'; clear hI'; obtain ⟨s106, s107, s108, s109, s110, s111, s112, s113, h⟩ := h; obtain ⟨s114, s115, s116, s117, s118, s119, s120, s121, h⟩ := h
    obtain ⟨ha, hC, hP, f13, g⟩ := h; subst ha
    go_simp
    refine hK.out _ _ ((hI _ _ _).2 ⟨_, _, _, _, _, _, _, _, _, _, _, _, _, _, _, _, rfl, hC, hP.put 3 rfl rfl rfl, f13, g⟩)
  · intro l a W hl hw hsh hI' K hK
    have h := (hI _ _ _).1 hI'; clear hI'; obtain ⟨s106, s107, s108, s109, s110, s111, s112, s113, h⟩ := h; obtain ⟨s114, s115, s116, s117, s118, s119, s120, s121, h⟩ := h
    obtain ⟨ha, hC, hP, f13, g⟩ := h; subst ha
    go_simp
    refine hK.out _ _ ((hI _ _ _).2 ⟨_, _, _, _, _, _, _, _, _, _, _, _, _, _, _, _, rfl, hC, hP.put 4 rfl rfl rfl, f13, g⟩)
  · intro l a W hl hw hsh hI' K hK
    have h := (hI _ _ _).1 hI'; clear hI'; obtain ⟨s106, s107, s108, s109, s110, s111, s112, s113, h⟩ := h; obtain ⟨s114, s115, s116, s117, s118, s119, s120, s121, h⟩ := h
    obtain ⟨ha, hC, hP, f13, g⟩ := h; subst ha
    obtain rfl := hP.get 4 rfl (hw 4 (by kernel_rfl))
    go_simp
    refine hK.out _ _ ((hI _ _ _).2 ⟨_, _, _, _, _, _, _, _, _, _, _, _, _, _, _, _, rfl, hC, hP.put 5 rfl rfl rfl, f13, g⟩)
  · intro l a W hl hw hsh hI' K hK
    have h := (hI _ _ _).1 hI'; clear hI'; obtain ⟨s106, s107, s108, s109, s110, s111, s112, s113, h⟩ := h; obtain ⟨s114, s115, s116, s117, s118, s119, s120, s121, h⟩ := h
    obtain ⟨ha, hC, hP, f13, g⟩ := h; subst ha
    obtain rfl := hP.get 5 rfl (hw 5 (by kernel_rfl))
    go_simp
    refine hK.out _ _ ((hI _ _ _).2 ⟨_, _, _, _, _, _, _, _, _, _, _, _, _, _, _, _, rfl, hC, hP.put 6 rfl rfl rfl, f13, g⟩)
  · intro l a W hl hw hsh hI' K hK
    have h := (hI _ _ _).1 hI'; clear hI'; obtain ⟨s106, s107, s108, s109, s110, s111, s112, s113, h⟩ := h; obtain ⟨s114, s115, s116, s117, s118, s119, s120, s121, h⟩ := h
    obtain ⟨ha, hC, hP, f13, g⟩ := h; subst ha
    obtain rfl := hP.get 6 rfl (hw 6 (by kernel_rfl))
    have x1 := (hC.cell (p := ⟨t.tb, 0, none⟩) hT.out.lt (by simpa using hnt.out.1.symm)).trans hT.out.c0
    rw [sl_pos hm0] at x1
    go_simp
    refine hK.out _ _ ((hI _ _ _).2 ⟨_, _, _, _, _, _, _, _, _, _, _, _, _, _, _, _, rfl, hC, hP.put 7 rfl rfl rfl, f13, g⟩)
  · intro l a W hl hw hsh hI' K hK
    have h := (hI _ _ _).1 hI'; clear hI'; obtain ⟨s106, s107, s108, s109, s110, s111, s112, s113, h⟩ := h; obtain ⟨s114, s115, s116, s117, s118, s119, s120, s121, h⟩ := h
    obtain ⟨ha, hC, hP, f13, g⟩ := h; subst ha
    go_simp
    refine hK.out _ _ ((hI _ _ _).2 ⟨_, _, _, _, _, _, _, _, _, _, _, _, _, _, _, _, rfl, hC, hP.put 8 rfl rfl rfl, f13, g⟩)
  · intro l a W hl hw hsh hI' K hK
    have h := (hI _ _ _).1 hI'; clear hI'; obtain ⟨s106, s107, s108, s109, s110, s111, s112, s113, h⟩ := h; obtain ⟨s114, s115, s116, s117, s118, s119, s120, s121, h⟩ := h
    obtain ⟨ha, hC, hP, f13, g⟩ := h; subst ha
    obtain rfl := hP.get 7 rfl (hw 7 (by kernel_rfl))
    obtain rfl := hP.get 8 rfl (hw 8 (by kernel_rfl))
    go_simp
    refine hK.out _ _ ((hI _ _ _).2 ⟨_, _, _, _, _, _, _, _, _, _, _, _, _, _, _, _, rfl, hC, hP.put 9 rfl rfl rfl, f13, g⟩)
  · intro l a W hl hw hsh hI' K hK
    have h := (hI _ _ _).1 hI'; clear hI'; obtain ⟨s106, s107, s108, s109, s110, s111, s112, s113, h⟩ := h; obtain ⟨s114, s115, s116, s117, s118, s119, s120, s121, h⟩ := h
    obtain ⟨ha, hC, hP, f13, g⟩ := h; subst ha
    obtain rfl := hP.get 9 rfl (hw 9 (by kernel_rfl))
    have x1 := (hC.cell (p := ⟨t.xb, i, none⟩) (hT.out.lx hm0) (by simpa using hnt.out.2.1.symm)).trans (hT.out.xs i him)
    go_simp
    refine hK.out _ _ ((hI _ _ _).2 ⟨_, _, _, _, _, _, _, _, _, _, _, _, _, _, _, _, rfl, hC, hP.put 10 rfl rfl rfl, f13, g⟩)
  · intro l a W hl hw hsh hI' K hK
    have h := (hI _ _ _).1 hI'; clear hI'; obtain ⟨s106, s107, s108, s109, s110, s111, s112, s113, h⟩ := h; obtain ⟨s114, s115, s116, s117, s118, s119, s120, s121, h⟩ := h
    obtain ⟨ha, hC, hP, f13, g⟩ := h; subst ha
    go_simp
    refine hK.out _ _ ((hI _ _ _).2 ⟨_, _, _, _, _, _, _, _, _, _, _, _, _, _, _, _, rfl, hC, hP.put 11 rfl rfl rfl, f13, g⟩)
  · intro l a W hl hw hsh hI' K hK
    have h := (hI _ _ _).1 hI'; clear hI'; obtain ⟨s106, s107, s108, s109, s110, s111, s112, s113, h⟩ := h; obtain ⟨s114, s115, s116, s117, s118, s119, s120, s121, h⟩ := h
    obtain ⟨ha, hC, hP, f13, g⟩ := h; subst ha
    obtain rfl := hP.get 10 rfl (hw 10 (by kernel_rfl))
    obtain rfl := hP.get 11 rfl (hw 11 (by kernel_rfl))
    go_simp
    refine hK.out _ _ ((hI _ _ _).2 ⟨_, _, _, _, _, _, _, _, _, _, _, _, _, _, _, _, rfl, hC, hP.put 12 rfl rfl rfl, f13, g⟩)
  · intro l a W hl hw hsh hI' K hK
    have h := (hI _ _ _).1 hI'; clear hI'; obtain ⟨s106, s107, s108, s109, s110, s111, s112, s113, h⟩ := h; obtain ⟨s114, s115, s116, s117, s118, s119, s120, s121, h⟩ := h
    obtain ⟨ha, hC, hP, f13, g⟩ := h; subst ha
    obtain rfl := hP.get 12 rfl (hw 12 (by kernel_rfl))
    rw [if_pos (by rfl)]
    have hrng := ((hT.out.grid.row i (by omega)).only hC (by simpa using hnt.out.2.2.symm)).rd la hla
    refine wp_load_mid _ _ rfl _ _ rfl (wl (wd (F i la))) _ hrng hu_wide rfl (hi_wide _) ?_
    refine hK.out _ _ ((hI _ _ _).2 ⟨_, _, _, _, _, _, _, _, _, _, _, _, _, _, _, _, rfl, hC, hP.skip 13 rfl, fun _ => rfl, g⟩)
  · intro l a W hl hw hsh hI' K hK
    have h := (hI _ _ _).1 hI'; clear hI'; obtain ⟨s106, s107, s108, s109, s110, s111, s112, s113, h⟩ := h; obtain ⟨s114, s115, s116, s117, s118, s119, s120, s121, h⟩ := h
    obtain ⟨ha, hC, hP, f13, g⟩ := h; subst ha
    obtain rfl := f13 (hw 13 (by kernel_rfl))
    go_simp
    go_at_call 40
    refine Calls.mono (wtext_any (F i la) hz.out.1 hz.out.2 _ (hE.out.below (h0.out.1.trans (hC.toBelow h0.out.1.size (by intro b hb; rw [List.mem_singleton.1 hb]; exact h0.out.2))) (Nat.le_refl _))) ?_
    rintro e W2 ⟨rfl, hb⟩
    refine hK.out _ _ ((hI _ _ _).2 ⟨_, _, _, _, _, _, _, _, _, _, _, _, _, _, _, _, rfl, hC.below hb, hP.put 13 rfl rfl rfl, f13, ⟨fun h => (g.1 h).below hb, fun h => (g.2 h).below hb⟩⟩)
  · intro l a W hl hw hsh hI' K hK
    have h := (hI _ _ _).1 hI'; clear hI'; obtain ⟨s106, s107, s108, s109, s110, s111, s112, s113, h⟩ := h; obtain ⟨s114, s115, s116, s117, s118, s119, s120, s121, h⟩ := h
    obtain ⟨ha, hC, hP, f13, g⟩ := h; subst ha
    obtain rfl := hP.get 2 rfl (hw 2 (by kernel_rfl))
    obtain rfl := hP.get 3 rfl (hw 3 (by kernel_rfl))
    go_simp
    refine hK.out _ _ ((hI _ _ _).2 ⟨_, _, _, _, _, _, _, _, _, _, _, _, _, _, _, _, rfl, hC, hP.put 14 rfl rfl rfl, f13, g⟩)
  · intro l a W hl hw hsh hI' K hK
    have h := (hI _ _ _).1 hI'; clear hI'; obtain ⟨s106, s107, s108, s109, s110, s111, s112, s113, h⟩ := h; obtain ⟨s114, s115, s116, s117, s118, s119, s120, s121, h⟩ := h
    obtain ⟨ha, hC, hP, f13, g⟩ := h; subst ha
    obtain rfl := hP.get 13 rfl (hw 14 (by kernel_rfl))
    obtain rfl := hP.get 14 rfl (hw 15 (by kernel_rfl))
    have hG := g.1 hl
    obtain ⟨x1, x2⟩ := hG.cell q hq
    go_simp
    refine hK.out _ _ ((hI _ _ _).2 ⟨_, _, _, _, _, _, _, _, _, _, _, _, _, _, _, _, rfl, hC.setCell (by simp) _, hP.skip 16 rfl, f13, ⟨fun h => off h.symm, fun _ => hG.set hq _⟩⟩)
  · intro a W hI'
    have h := (hI _ _ _).1 hI'; clear hI'; obtain ⟨s106, s107, s108, s109, s110, s111, s112, s113, h⟩ := h; obtain ⟨s114, s115, s116, s117, s118, s119, s120, s121, h⟩ := h
    obtain ⟨ha, hC, hP, f13, g⟩ := h; subst ha
    obtain ⟨ga, rfl, hga, hg0, hg1⟩ := f13 (by kernel_rfl)
    exact hQ.out _ _ _ _ _ _ _ _ _ _ _ _ _ _ _ _ _ hC (g.2 (by kernel_rfl))
end Go.Proofs.YtcmomjnailihpaaGreatDoor
