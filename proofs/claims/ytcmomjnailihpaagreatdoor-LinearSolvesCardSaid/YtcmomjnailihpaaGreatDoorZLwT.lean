/- LwT, OpA -/
import Derived.Test.YtcmomjnailihpaaGreatDoorZLwO
import Derived.Test.YtcmomjnailihpaaGreatDoorZRgI
namespace Go.Proofs.YtcmomjnailihpaaGreatDoor
open Go.RowKit
open LnM (wd upd)
attribute [local go_sem] Oper.semAt_some
set_option maxRecDepth 100000 in
set_option maxHeartbeats 8000000 in
theorem open_r16 {Q : Exit → Act → World → Prop} {u0 u1 u2 u4 u5 u6 u8 u9 u11 u12 u13 u14 u15 u16 u17 u18 u19 u20 u21 u22 u23 u24 u25 u26 u27 u28 u29 u30 u31 u32 u33 u34 u35 u36 u37 u38 u39 u40 u41 u42 u43 u44 u45 u46 u47 u48 u49 u50 u51 u52 u53 u54 u55 u56 u57 u58 u59 u60 u61 u62 u63 u64 u65 u66 u67 u68 u69 u70 u71 u72 u73 u74 u75 u76 u77 u78 u79 u80 u81 u82 u83 u84 u85 u86 u87 u88 u89 u90 u91 u92 u93 u94 u95 u96 u97 u98 u99 u100 u101 u102 u103 u104 u105 u106 u107 u108 u109 u110 u111 u112 u113 u114 u115 u116 u117 u118 u119 u120 u121 u122 u123 u124 u125 u126 u127 u128 u129 u130 u131 u132 u133 u134 u135 : Value} {tb cb rb n q : Nat} {G Fr : Nat → Int} {w : World} (hq : q < n) (hqi : (q : Int) < n) (hq0 : (0 : Int) ≤ q) (h1 : Hid (tb < w.heap.size ∧ w.cell? ⟨tb, 1, none⟩ = some (.slice (some ⟨cb, 0, none⟩) n n))) (hG : Hid (RowT w cb n G)) (hF : Hid (RowT w rb n Fr)) (htc : Hid (tb ≠ cb)) (hrc : Hid (rb ≠ cb)) {ops : Array Oper} (ho : getOps Tryz.f37.body 16 = some ops)
    (hQ : ∀ (v75 v76 v77 v78 v79 v80 v81 v82 v83 v84 v85 v86 v87 v88 v89 v90 v91 v92 : Value)  (W' : World), Only [cb] w W' → RowT W' cb n (upd G q (G q - Fr q)) → Q .normal { tmps := List.toArray (u0::u1::u2::.pointer (some ⟨tb, 0, none⟩)::u4::u5::u6::.slice (some ⟨rb, 0, none⟩) n n::u8::u9::.int .i64 q::u11::u12::u13::u14::u15::u16::u17::u18::u19::u20::u21::u22::u23::u24::u25::u26::u27::u28::u29::u30::u31::u32::u33::u34::u35::u36::u37::u38::u39::u40::u41::u42::u43::u44::u45::u46::u47::u48::u49::u50::u51::u52::u53::u54::u55::u56::u57::u58::u59::u60::u61::u62::u63::u64::u65::u66::u67::u68::u69::u70::u71::u72::u73::u74::v75::v76::v77::v78::v79::v80::v81::v82::v83::v84::v85::v86::v87::v88::v89::v90::v91::v92::u93::u94::u95::u96::u97::u98::u99::u100::u101::u102::u103::u104::u105::u106::u107::u108::u109::u110::u111::u112::u113::u114::u115::u116::u117::u118::u119::u120::u121::u122::u123::u124::u125::u126::u127::u128::u129::u130::u131::u132::u133::u134::u135::[]), defers := [] } W') :
    (Code.region 16 ops true).wp Tryz.prog Q { tmps := List.toArray (u0::u1::u2::.pointer (some ⟨tb, 0, none⟩)::u4::u5::u6::.slice (some ⟨rb, 0, none⟩) n n::u8::u9::.int .i64 q::u11::u12::u13::u14::u15::u16::u17::u18::u19::u20::u21::u22::u23::u24::u25::u26::u27::u28::u29::u30::u31::u32::u33::u34::u35::u36::u37::u38::u39::u40::u41::u42::u43::u44::u45::u46::u47::u48::u49::u50::u51::u52::u53::u54::u55::u56::u57::u58::u59::u60::u61::u62::u63::u64::u65::u66::u67::u68::u69::u70::u71::u72::u73::u74::u75::u76::u77::u78::u79::u80::u81::u82::u83::u84::u85::u86::u87::u88::u89::u90::u91::u92::u93::u94::u95::u96::u97::u98::u99::u100::u101::u102::u103::u104::u105::u106::u107::u108::u109::u110::u111::u112::u113::u114::u115::u116::u117::u118::u119::u120::u121::u122::u123::u124::u125::u126::u127::u128::u129::u130::u131::u132::u133::u134::u135::[]), defers := [] } w := by
  obtain rfl := Option.some.inj (ho.symm.trans (rfl : getOps Tryz.f37.body 16 = some _))
  clear ho
  replace hQ := Lib.hid hQ
  obtain ⟨Iv, hI⟩ : ∃ Iv : (Nat → Bool) → Act → World → Prop, ∀ l a W, Iv l a W ↔ (∃ s75 s76 s77 s78 s79 s80 s81 s82 s83 s84 s85 s86 s87 s88 s89 s90 s91 s92 : Value, a = { tmps := List.toArray (u0::u1::u2::.pointer (some ⟨tb, 0, none⟩)::u4::u5::u6::.slice (some ⟨rb, 0, none⟩) n n::u8::u9::.int .i64 q::u11::u12::u13::u14::u15::u16::u17::u18::u19::u20::u21::u22::u23::u24::u25::u26::u27::u28::u29::u30::u31::u32::u33::u34::u35::u36::u37::u38::u39::u40::u41::u42::u43::u44::u45::u46::u47::u48::u49::u50::u51::u52::u53::u54::u55::u56::u57::u58::u59::u60::u61::u62::u63::u64::u65::u66::u67::u68::u69::u70::u71::u72::u73::u74::s75::s76::s77::s78::s79::s80::s81::s82::s83::s84::s85::s86::s87::s88::s89::s90::s91::s92::u93::u94::u95::u96::u97::u98::u99::u100::u101::u102::u103::u104::u105::u106::u107::u108::u109::u110::u111::u112::u113::u114::u115::u116::u117::u118::u119::u120::u121::u122::u123::u124::u125::u126::u127::u128::u129::u130::u131::u132::u133::u134::u135::[]), defers := [] } ∧ Only [cb] w W ∧ Vs [(0, .pointer (some ⟨tb, 0, none⟩), s75), (1, .pointer (some ⟨tb, 0, none⟩), s76), (2, .pointer (some ⟨tb, 1, none⟩), s77), (3, .slice (some ⟨cb, 0, none⟩) n n, s78), (4, .int .i64 q, s79), (5, .pointer (some ⟨tb, 0, none⟩), s80), (6, .pointer (some ⟨tb, 0, none⟩), s81), (7, .pointer (some ⟨tb, 1, none⟩), s82), (8, .slice (some ⟨cb, 0, none⟩) n n, s83), (9, .int .i64 q, s84), (10, .pointer (some ⟨cb, q * 12, none⟩), s85), (12, .slice (some ⟨rb, 0, none⟩) n n, s87), (13, .int .i64 q, s88), (14, .pointer (some ⟨rb, q * 12, none⟩), s89), (16, .agg (wc (wd (G q - Fr q))), s91), (17, .pointer (some ⟨cb, q * 12, none⟩), s92)] l ∧ (l 11 = true → s86 = .agg (wc (wd (G q)))) ∧ (l 15 = true → s90 = .agg (wc (wd (Fr q)))) ∧ ((l 18 = false → RowT W cb n G) ∧ (l 18 = true → RowT W cb n (upd G q (G q - Fr q))))) := ⟨_, fun _ _ _ => Iff.rfl⟩
  refine wp_region_inv Iv (by kernel_rfl) (by kernel_rfl) ((hI _ _ _).2 ⟨_, _, _, _, _, _, _, _, _, _, _, _, _, _, _, _, _, _, rfl, (Only.refl [cb] w).drewN 1, Vs.zero, fun h => off h, fun h => off h, ⟨fun _ => hG.out.below (below_drewN w 1), fun h => off h⟩⟩) (stepsI_cons (k := 0) ?_ (stepsI_cons (k := 1) ?_ (stepsI_cons (k := 2) ?_ (stepsI_cons (k := 3) ?_ (stepsI_cons (k := 4) ?_ (stepsI_cons (k := 5) ?_ (stepsI_cons (k := 6) ?_ (stepsI_cons (k := 7) ?_ (stepsI_cons (k := 8) ?_ (stepsI_cons (k := 9) ?_ (stepsI_cons (k := 10) ?_ (stepsI_cons (k := 11) ?_ (stepsI_cons (k := 12) ?_ (stepsI_cons (k := 13) ?_ (stepsI_cons (k := 14) ?_ (stepsI_cons (k := 15) ?_ (stepsI_cons (k := 16) ?_ (stepsI_cons (k := 17) ?_ (stepsI_cons (k := 18) ?_ (stepsI_nil)))))))))))))))))))) ?_
  · intro l a W hl hw hsh hI' K hK
    have h := (hI _ _ _).1 hI'; clear hI'; obtain ⟨s75, s76, s77, s78, s79, s80, s81, s82, h⟩ := h; obtain ⟨s83, s84, s85, s86, s87, s88, s89, s90, h⟩ := h; obtain ⟨s91, s92, h⟩ := h
    obtain ⟨ha, hC, hP, f11, f15, g⟩ := h; subst ha
    go_simp
    refine hK.out _ _ ((hI _ _ _).2 ⟨_, _, _, _, _, _, _, _, _, _, _, _, _, _, _, _, _, _, rfl, hC, hP.put 0 rfl rfl rfl, f11, f15, g⟩)
  · intro l a W hl hw hsh hI' K hK
    have h := (hI _ _ _).1 hI'; clear hI'; obtain ⟨s75, s76, s77, s78, s79, s80, s81, s82, h⟩ := h; obtain ⟨s83, s84, s85, s86, s87, s88, s89, s90, h⟩ := h; obtain ⟨s91, s92, h⟩ := h
    obtain ⟨ha, hC, hP, f11, f15, g⟩ := h; subst ha
    obtain rfl := hP.get 0 rfl (hw 0 (by kernel_rfl))
    go_simp
    refine hK.out _ _ ((hI _ _ _).2 ⟨_, _, _, _, _, _, _, _, _, _, _, _, _, _, _, _, _, _, rfl, hC, hP.put 1 rfl rfl rfl, f11, f15, g⟩)
  · intro l a W hl hw hsh hI' K hK
    have h := (hI _ _ _).1 hI'; clear hI'; obtain ⟨s75, s76, s77, s78, s79, s80, s81, s82, h⟩ := h; obtain ⟨s83, s84, s85, s86, s87, s88, s89, s90, h⟩ := h; obtain ⟨s91, s92, h⟩ := h
    obtain ⟨ha, hC, hP, f11, f15, g⟩ := h; subst ha
    obtain rfl := hP.get 1 rfl (hw 1 (by kernel_rfl))
    go_simp
    refine hK.out _ _ ((hI _ _ _).2 ⟨_, _, _, _, _, _, _, _, _, _, _, _, _, _, _, _, _, _, rfl, hC, hP.put 2 rfl rfl rfl, f11, f15, g⟩)
  · intro l a W hl hw hsh hI' K hK
    have h := (hI _ _ _).1 hI'; clear hI'; obtain ⟨s75, s76, s77, s78, s79, s80, s81, s82, h⟩ := h; obtain ⟨s83, s84, s85, s86, s87, s88, s89, s90, h⟩ := h; obtain ⟨s91, s92, h⟩ := h
    obtain ⟨ha, hC, hP, f11, f15, g⟩ := h; subst ha
    obtain rfl := hP.get 2 rfl (hw 2 (by kernel_rfl))
    have x1 := (hC.cell (p := ⟨tb, 1, none⟩) h1.out.1 (by simpa using htc.out)).trans h1.out.2
    go_simp
    refine hK.out _ _ ((hI _ _ _).2 ⟨_, _, _, _, _, _, _, _, _, _, _, _, _, _, _, _, _, _, rfl, hC, hP.put 3 rfl rfl rfl, f11, f15, g⟩)
  · intro l a W hl hw hsh hI' K hK
    have h := (hI _ _ _).1 hI'; clear hI'; obtain ⟨s75, s76, s77, s78, s79, s80, s81, s82, h⟩ := h; obtain ⟨s83, s84, s85, s86, s87, s88, s89, s90, h⟩ := h; obtain ⟨s91, s92, h⟩ := h
    obtain ⟨ha, hC, hP, f11, f15, g⟩ := h; subst ha
    go_simp
    refine hK.out _ _ ((hI _ _ _).2 ⟨_, _, _, _, _, _, _, _, _, _, _, _, _, _, _, _, _, _, rfl, hC, hP.put 4 rfl rfl rfl, f11, f15, g⟩)
  · intro l a W hl hw hsh hI' K hK
    have h := (hI _ _ _).1 hI'; clear hI'; obtain ⟨s75, s76, s77, s78, s79, s80, s81, s82, h⟩ := h; obtain ⟨s83, s84, s85, s86, s87, s88, s89, s90, h⟩ := h; obtain ⟨s91, s92, h⟩ := h
    obtain ⟨ha, hC, hP, f11, f15, g⟩ := h; subst ha
    go_simp
    refine hK.out _ _ ((hI _ _ _).2 ⟨_, _, _, _, _, _, _, _, _, _, _, _, _, _, _, _, _, _, rfl, hC, hP.put 5 rfl rfl rfl, f11, f15, g⟩)
  · intro l a W hl hw hsh hI' K hK
    have h := (hI _ _ _).1 hI'; clear hI'; obtain ⟨s75, s76, s77, s78, s79, s80, s81, s82, h⟩ := h; obtain ⟨s83, s84, s85, s86, s87, s88, s89, s90, h⟩ := h; obtain ⟨s91, s92, h⟩ := h
    obtain ⟨ha, hC, hP, f11, f15, g⟩ := h; subst ha
    obtain rfl := hP.get 5 rfl (hw 5 (by kernel_rfl))
    go_simp
    refine hK.out _ _ ((hI _ _ _).2 ⟨_, _, _, _, _, _, _, _, _, _, _, _, _, _, _, _, _, _, rfl, hC, hP.put 6 rfl rfl rfl, f11, f15, g⟩)
  · intro l a W hl hw hsh hI' K hK
    have h := (hI _ _ _).1 hI'; clear hI'; obtain ⟨s75, s76, s77, s78, s79, s80, s81, s82, h⟩ := h; obtain ⟨s83, s84, s85, s86, s87, s88, s89, s90, h⟩ := h; obtain ⟨s91, s92, h⟩ := h
    obtain ⟨ha, hC, hP, f11, f15, g⟩ := h; subst ha
    obtain rfl := hP.get 6 rfl (hw 6 (by kernel_rfl))
    go_simp
    refine hK.out _ _ ((hI _ _ _).2 ⟨_, _, _, _, _, _, _, _, _, _, _, _, _, _, _, _, _, _, rfl, hC, hP.put 7 rfl rfl rfl, f11, f15, g⟩)
  · intro l a W hl hw hsh hI' K hK
    have h := (hI _ _ _).1 hI'; clear hI'; obtain ⟨s75, s76, s77, s78, s79, s80, s81, s82, h⟩ := h; obtain ⟨s83, s84, s85, s86, s87, s88, s89, s90, h⟩ := h; obtain ⟨s91, s92, h⟩ := h
    obtain ⟨ha, hC, hP, f11, f15, g⟩ := h; subst ha
    obtain rfl := hP.get 7 rfl (hw 7 (by kernel_rfl))
    have x1 := (hC.cell (p := ⟨tb, 1, none⟩) h1.out.1 (by simpa using htc.out)).trans h1.out.2
    go_simp
    refine hK.out _ _ ((hI _ _ _).2 ⟨_, _, _, _, _, _, _, _, _, _, _, _, _, _, _, _, _, _, rfl, hC, hP.put 8 rfl rfl rfl, f11, f15, g⟩)
  · intro l a W hl hw hsh hI' K hK
    have h := (hI _ _ _).1 hI'; clear hI'; obtain ⟨s75, s76, s77, s78, s79, s80, s81, s82, h⟩ := h; obtain ⟨s83, s84, s85, s86, s87, s88, s89, s90, h⟩ := h; obtain ⟨s91, s92, h⟩ := h
    obtain ⟨ha, hC, hP, f11, f15, g⟩ := h; subst ha
    go_simp
    refine hK.out _ _ ((hI _ _ _).2 ⟨_, _, _, _, _, _, _, _, _, _, _, _, _, _, _, _, _, _, rfl, hC, hP.put 9 rfl rfl rfl, f11, f15, g⟩)
  · intro l a W hl hw hsh hI' K hK
    have h := (hI _ _ _).1 hI'; clear hI'; obtain ⟨s75, s76, s77, s78, s79, s80, s81, s82, h⟩ := h; obtain ⟨s83, s84, s85, s86, s87, s88, s89, s90, h⟩ := h; obtain ⟨s91, s92, h⟩ := h
    obtain ⟨ha, hC, hP, f11, f15, g⟩ := h; subst ha
    obtain rfl := hP.get 8 rfl (hw 8 (by kernel_rfl))
    obtain rfl := hP.get 9 rfl (hw 9 (by kernel_rfl))
    go_simp
    refine hK.out _ _ ((hI _ _ _).2 ⟨_, _, _, _, _, _, _, _, _, _, _, _, _, _, _, _, _, _, rfl, hC, hP.put 10 rfl rfl rfl, f11, f15, g⟩)
  · intro l a W hl hw hsh hI' K hK
    have h := (hI _ _ _).1 hI'; clear hI'; obtain ⟨s75, s76, s77, s78, s79, s80, s81, s82, h⟩ := h; obtain ⟨s83, s84, s85, s86, s87, s88, s89, s90, h⟩ := h; obtain ⟨s91, s92, h⟩ := h
    obtain ⟨ha, hC, hP, f11, f15, g⟩ := h; subst ha
    obtain rfl := hP.get 10 rfl (hw 10 (by kernel_rfl))
    rw [if_pos (by rfl)]
    have hst : l 18 = false := by
      cases hc : l 18 with
      | false => rfl
      | true => exact absurd (hsh 16 11 _ rfl (hsh 18 16 _ rfl hc (by kernel_rfl)) (by kernel_rfl)) (by simp [hl])
    have hrng := (g.1 hst).row.rd q hq
    refine wp_load_mid _ _ rfl _ _ rfl (wl (wd (G q))) _ hrng hu_wide rfl (hi_wide _) ?_
    refine hK.out _ _ ((hI _ _ _).2 ⟨_, _, _, _, _, _, _, _, _, _, _, _, _, _, _, _, _, _, rfl, hC, hP.skip 11 rfl, fun _ => rfl, f15, g⟩)
  · intro l a W hl hw hsh hI' K hK
    have h := (hI _ _ _).1 hI'; clear hI'; obtain ⟨s75, s76, s77, s78, s79, s80, s81, s82, h⟩ := h; obtain ⟨s83, s84, s85, s86, s87, s88, s89, s90, h⟩ := h; obtain ⟨s91, s92, h⟩ := h
    obtain ⟨ha, hC, hP, f11, f15, g⟩ := h; subst ha
    go_simp
    refine hK.out _ _ ((hI _ _ _).2 ⟨_, _, _, _, _, _, _, _, _, _, _, _, _, _, _, _, _, _, rfl, hC, hP.put 11 rfl rfl rfl, f11, f15, g⟩)
  · intro l a W hl hw hsh hI' K hK
    have h := (hI _ _ _).1 hI'; clear hI'; obtain ⟨s75, s76, s77, s78, s79, s80, s81, s82, h⟩ := h; obtain ⟨s83, s84, s85, s86, s87, s88, s89, s90, h⟩ := h; obtain ⟨s91, s92, h⟩ := h
    obtain ⟨ha, hC, hP, f11, f15, g⟩ := h; subst ha
    go_simp
    refine hK.out _ _ ((hI _ _ _).2 ⟨_, _, _, _, _, _, _, _, _, _, _, _, _, _, _, _, _, _, rfl, hC, hP.put 12 rfl rfl rfl, f11, f15, g⟩)
  · intro l a W hl hw hsh hI' K hK
    have h := (hI _ _ _).1 hI'; clear hI'; obtain ⟨s75, s76, s77, s78, s79, s80, s81, s82, h⟩ := h; obtain ⟨s83, s84, s85, s86, s87, s88, s89, s90, h⟩ := h; obtain ⟨s91, s92, h⟩ := h
    obtain ⟨ha, hC, hP, f11, f15, g⟩ := h; subst ha
    obtain rfl := hP.get 11 rfl (hw 12 (by kernel_rfl))
    obtain rfl := hP.get 12 rfl (hw 13 (by kernel_rfl))
    go_simp
    refine hK.out _ _ ((hI _ _ _).2 ⟨_, _, _, _, _, _, _, _, _, _, _, _, _, _, _, _, _, _, rfl, hC, hP.put 13 rfl rfl rfl, f11, f15, g⟩)
  · intro l a W hl hw hsh hI' K hK
    have h := (hI _ _ _).1 hI'; clear hI'; obtain ⟨s75, s76, s77, s78, s79, s80, s81, s82, h⟩ := h; obtain ⟨s83, s84, s85, s86, s87, s88, s89, s90, h⟩ := h; obtain ⟨s91, s92, h⟩ := h
    obtain ⟨ha, hC, hP, f11, f15, g⟩ := h; subst ha
    obtain rfl := hP.get 13 rfl (hw 14 (by kernel_rfl))
    rw [if_pos (by rfl)]
    have hrng := (hF.out.only hC (by simpa using hrc.out)).row.rd q hq
    refine wp_load_mid _ _ rfl _ _ rfl (wl (wd (Fr q))) _ hrng hu_wide rfl (hi_wide _) ?_
    refine hK.out _ _ ((hI _ _ _).2 ⟨_, _, _, _, _, _, _, _, _, _, _, _, _, _, _, _, _, _, rfl, hC, hP.skip 15 rfl, f11, fun _ => rfl, g⟩)
  · intro l a W hl hw hsh hI' K hK
    have h := (hI _ _ _).1 hI'; clear hI'; obtain ⟨s75, s76, s77, s78, s79, s80, s81, s82, h⟩ := h; obtain ⟨s83, s84, s85, s86, s87, s88, s89, s90, h⟩ := h; obtain ⟨s91, s92, h⟩ := h
    obtain ⟨ha, hC, hP, f11, f15, g⟩ := h; subst ha
    obtain rfl := f11 (hw 11 (by kernel_rfl))
    obtain rfl := f15 (hw 15 (by kernel_rfl))
    go_simp
    go_at_call 39
    refine Calls.mono (wminus_any (G q) (Fr q) _) ?_
    rintro e W2 ⟨rfl, hb⟩
    refine hK.out _ _ ((hI _ _ _).2 ⟨_, _, _, _, _, _, _, _, _, _, _, _, _, _, _, _, _, _, rfl, hC.below hb, hP.put 14 rfl rfl rfl, f11, f15, ⟨fun h => (g.1 h).below hb, fun h => (g.2 h).below hb⟩⟩)
  · intro l a W hl hw hsh hI' K hK
    have h := (hI _ _ _).1 hI'; clear hI'; obtain ⟨s75, s76, s77, s78, s79, s80, s81, s82, h⟩ := h; obtain ⟨s83, s84, s85, s86, s87, s88, s89, s90, h⟩ := h; obtain ⟨s91, s92, h⟩ := h
    obtain ⟨ha, hC, hP, f11, f15, g⟩ := h; subst ha
    obtain rfl := hP.get 3 rfl (hw 3 (by kernel_rfl))
    obtain rfl := hP.get 4 rfl (hw 4 (by kernel_rfl))
    go_simp
    refine hK.out _ _ ((hI _ _ _).2 ⟨_, _, _, _, _, _, _, _, _, _, _, _, _, _, _, _, _, _, rfl, hC, hP.put 15 rfl rfl rfl, f11, f15, g⟩)
  · intro l a W hl hw hsh hI' K hK
    have h := (hI _ _ _).1 hI'; clear hI'; obtain ⟨s75, s76, s77, s78, s79, s80, s81, s82, h⟩ := h; obtain ⟨s83, s84, s85, s86, s87, s88, s89, s90, h⟩ := h; obtain ⟨s91, s92, h⟩ := h
    obtain ⟨ha, hC, hP, f11, f15, g⟩ := h; subst ha
    obtain rfl := hP.get 14 rfl (hw 16 (by kernel_rfl))
    obtain rfl := hP.get 15 rfl (hw 17 (by kernel_rfl))
    rw [if_pos (by rfl)]
    have hst : l 18 = false := hl
    have hG1 := g.1 hst
    refine wp_store_mid _ _ _ rfl _ _ (wl (wd (G q - Fr q))).toArray rfl rfl (by rw [List.size_toArray]; exact hG1.row.wr q hq) (by rw [List.size_toArray]; exact hi_wide _) (all_oneCell_toArray (wl_one _)) ?_
    rw [List.toList_toArray]
    refine hK.out _ _ ((hI _ _ _).2 ⟨_, _, _, _, _, _, _, _, _, _, _, _, _, _, _, _, _, _, rfl, hC.trans (only_setCells _ _ _), hP.skip 18 rfl, f11, f15, ⟨fun h => off h.symm, fun _ => hG1.set hq _⟩⟩)
  · intro a W hI'
    have h := (hI _ _ _).1 hI'; clear hI'; obtain ⟨s75, s76, s77, s78, s79, s80, s81, s82, h⟩ := h; obtain ⟨s83, s84, s85, s86, s87, s88, s89, s90, h⟩ := h; obtain ⟨s91, s92, h⟩ := h
    obtain ⟨ha, hC, hP, f11, f15, g⟩ := h; subst ha
    clear f11
    clear f15
    exact hQ.out _ _ _ _ _ _ _ _ _ _ _ _ _ _ _ _ _ _ _ hC (g.2 (by kernel_rfl))
set_option maxRecDepth 100000 in
set_option maxHeartbeats 8000000 in
theorem open_r18 {Q : Exit → Act → World → Prop} {u0 u2 u3 u5 u6 u8 u9 u10 u11 u12 u13 u14 u15 u16 u17 u18 u19 u20 u21 u22 u23 u24 u25 u26 u27 u28 u29 u30 u31 u32 u33 u34 u35 u36 u37 u38 u39 u40 u41 u42 u43 u44 u45 u46 u47 u48 u49 u50 u51 u52 u53 u54 u55 u56 u57 u58 u59 u60 u61 u62 u63 u64 u65 u66 u67 u68 u69 u70 u71 u72 u73 u74 u75 u76 u77 u78 u79 u80 u81 u82 u83 u84 u85 u86 u87 u88 u89 u90 u91 u92 u93 u94 u95 u96 u97 u98 u99 u100 u101 u102 u103 u104 u105 u106 u107 u108 u109 u110 u111 u112 u113 u114 u115 u116 u117 u118 u119 u120 u121 u122 u123 u124 u125 u126 u127 u128 u129 u130 u131 u132 u133 u134 u135 : Value} {xB rb n cols i q : Nat} {Fr : Nat → Int} {w : World} (hqe : IntKind.i64.wrap ((cols : Int) + i) = q) (hq : q < n) (hqi : (q : Int) < n) (hq0 : (0 : Int) ≤ q) (h1 : Hid (xB < w.heap.size ∧ w.cell? ⟨xB, 0, none⟩ = some (.int .i64 cols))) (hF : Hid (RowT w rb n Fr)) (hxr : Hid (xB ≠ rb)) {ops : Array Oper} (ho : getOps Tryz.f37.body 18 = some ops)
    (hQ : ∀ (v94 v95 v96 v97 v98 v99 v100 : Value)  (W' : World), Only [rb] w W' → RowT W' rb n (upd Fr q 1) → Q .normal { tmps := List.toArray (u0::.pointer (some ⟨xB, 0, none⟩)::u2::u3::.int .i64 i::u5::u6::.slice (some ⟨rb, 0, none⟩) n n::u8::u9::u10::u11::u12::u13::u14::u15::u16::u17::u18::u19::u20::u21::u22::u23::u24::u25::u26::u27::u28::u29::u30::u31::u32::u33::u34::u35::u36::u37::u38::u39::u40::u41::u42::u43::u44::u45::u46::u47::u48::u49::u50::u51::u52::u53::u54::u55::u56::u57::u58::u59::u60::u61::u62::u63::u64::u65::u66::u67::u68::u69::u70::u71::u72::u73::u74::u75::u76::u77::u78::u79::u80::u81::u82::u83::u84::u85::u86::u87::u88::u89::u90::u91::u92::u93::v94::v95::v96::v97::v98::v99::v100::u101::u102::u103::u104::u105::u106::u107::u108::u109::u110::u111::u112::u113::u114::u115::u116::u117::u118::u119::u120::u121::u122::u123::u124::u125::u126::u127::u128::u129::u130::u131::u132::u133::u134::u135::[]), defers := [] } W') :
    (Code.region 18 ops true).wp Tryz.prog Q { tmps := List.toArray (u0::.pointer (some ⟨xB, 0, none⟩)::u2::u3::.int .i64 i::u5::u6::.slice (some ⟨rb, 0, none⟩) n n::u8::u9::u10::u11::u12::u13::u14::u15::u16::u17::u18::u19::u20::u21::u22::u23::u24::u25::u26::u27::u28::u29::u30::u31::u32::u33::u34::u35::u36::u37::u38::u39::u40::u41::u42::u43::u44::u45::u46::u47::u48::u49::u50::u51::u52::u53::u54::u55::u56::u57::u58::u59::u60::u61::u62::u63::u64::u65::u66::u67::u68::u69::u70::u71::u72::u73::u74::u75::u76::u77::u78::u79::u80::u81::u82::u83::u84::u85::u86::u87::u88::u89::u90::u91::u92::u93::u94::u95::u96::u97::u98::u99::u100::u101::u102::u103::u104::u105::u106::u107::u108::u109::u110::u111::u112::u113::u114::u115::u116::u117::u118::u119::u120::u121::u122::u123::u124::u125::u126::u127::u128::u129::u130::u131::u132::u133::u134::u135::[]), defers := [] } w := by
  obtain rfl := Option.some.inj (ho.symm.trans (rfl : getOps Tryz.f37.body 18 = some _))
  clear ho
  replace hQ := Lib.hid hQ
  obtain ⟨Iv, hI⟩ : ∃ Iv : (Nat → Bool) → Act → World → Prop, ∀ l a W, Iv l a W ↔ (∃ s94 s95 s96 s97 s98 s99 s100 : Value, a = { tmps := List.toArray (u0::.pointer (some ⟨xB, 0, none⟩)::u2::u3::.int .i64 i::u5::u6::.slice (some ⟨rb, 0, none⟩) n n::u8::u9::u10::u11::u12::u13::u14::u15::u16::u17::u18::u19::u20::u21::u22::u23::u24::u25::u26::u27::u28::u29::u30::u31::u32::u33::u34::u35::u36::u37::u38::u39::u40::u41::u42::u43::u44::u45::u46::u47::u48::u49::u50::u51::u52::u53::u54::u55::u56::u57::u58::u59::u60::u61::u62::u63::u64::u65::u66::u67::u68::u69::u70::u71::u72::u73::u74::u75::u76::u77::u78::u79::u80::u81::u82::u83::u84::u85::u86::u87::u88::u89::u90::u91::u92::u93::s94::s95::s96::s97::s98::s99::s100::u101::u102::u103::u104::u105::u106::u107::u108::u109::u110::u111::u112::u113::u114::u115::u116::u117::u118::u119::u120::u121::u122::u123::u124::u125::u126::u127::u128::u129::u130::u131::u132::u133::u134::u135::[]), defers := [] } ∧ Only [rb] w W ∧ Vs [(0, .slice (some ⟨rb, 0, none⟩) n n, s94), (1, .pointer (some ⟨xB, 0, none⟩), s95), (2, .int .i64 cols, s96), (3, .int .i64 i, s97), (4, .int .i64 q, s98), (5, .agg (wc (wd 1)), s99), (6, .pointer (some ⟨rb, q * 12, none⟩), s100)] l ∧ ((l 7 = false → RowT W rb n Fr) ∧ (l 7 = true → RowT W rb n (upd Fr q 1)))) := ⟨_, fun _ _ _ => Iff.rfl⟩
  refine wp_region_inv Iv (by kernel_rfl) (by kernel_rfl) ((hI _ _ _).2 ⟨_, _, _, _, _, _, _, rfl, (Only.refl [rb] w).drewN 1, Vs.zero, ⟨fun _ => hF.out.below (below_drewN w 1), fun h => off h⟩⟩) (stepsI_cons (k := 0) ?_ (stepsI_cons (k := 1) ?_ (stepsI_cons (k := 2) ?_ (stepsI_cons (k := 3) ?_ (stepsI_cons (k := 4) ?_ (stepsI_cons (k := 5) ?_ (stepsI_cons (k := 6) ?_ (stepsI_cons (k := 7) ?_ (stepsI_nil))))))))) ?_
  · intro l a W hl hw hsh hI' K hK
    have h := (hI _ _ _).1 hI'; clear hI'; obtain ⟨s94, s95, s96, s97, s98, s99, s100, h⟩ := h
    obtain ⟨ha, hC, hP, g⟩ := h; subst ha
    go_simp
    refine hK.out _ _ ((hI _ _ _).2 ⟨_, _, _, _, _, _, _, rfl, hC, hP.put 0 rfl rfl rfl, g⟩)
  · intro l a W hl hw hsh hI' K hK
    have h := (hI _ _ _).1 hI'; clear hI'; obtain ⟨s94, s95, s96, s97, s98, s99, s100, h⟩ := h
    obtain ⟨ha, hC, hP, g⟩ := h; subst ha
    go_simp
    refine hK.out _ _ ((hI _ _ _).2 ⟨_, _, _, _, _, _, _, rfl, hC, hP.put 1 rfl rfl rfl, g⟩)
  · intro l a W hl hw hsh hI' K hK
    have h := (hI _ _ _).1 hI'; clear hI'; obtain ⟨s94, s95, s96, s97, s98, s99, s100, h⟩ := h
    obtain ⟨ha, hC, hP, g⟩ := h; subst ha
    obtain rfl := hP.get 1 rfl (hw 1 (by kernel_rfl))
    have x1 := (hC.cell (p := ⟨xB, 0, none⟩) h1.out.1 (by simpa using hxr.out)).trans h1.out.2
    go_simp
    refine hK.out _ _ ((hI _ _ _).2 ⟨_, _, _, _, _, _, _, rfl, hC, hP.put 2 rfl rfl rfl, g⟩)
  · intro l a W hl hw hsh hI' K hK
    have h := (hI _ _ _).1 hI'; clear hI'; obtain ⟨s94, s95, s96, s97, s98, s99, s100, h⟩ := h
    obtain ⟨ha, hC, hP, g⟩ := h; subst ha
    go_simp
    refine hK.out _ _ ((hI _ _ _).2 ⟨_, _, _, _, _, _, _, rfl, hC, hP.put 3 rfl rfl rfl, g⟩)
  · intro l a W hl hw hsh hI' K hK
    have h := (hI _ _ _).1 hI'; clear hI'; obtain ⟨s94, s95, s96, s97, s98, s99, s100, h⟩ := h
    obtain ⟨ha, hC, hP, g⟩ := h; subst ha
    obtain rfl := hP.get 2 rfl (hw 2 (by kernel_rfl))
    obtain rfl := hP.get 3 rfl (hw 3 (by kernel_rfl))
    go_simp
    refine hK.out _ _ ((hI _ _ _).2 ⟨_, _, _, _, _, _, _, rfl, hC, hP.put 4 rfl rfl rfl, g⟩)
  · intro l a W hl hw hsh hI' K hK
    have h := (hI _ _ _).1 hI'; clear hI'; obtain ⟨s94, s95, s96, s97, s98, s99, s100, h⟩ := h
    obtain ⟨ha, hC, hP, g⟩ := h; subst ha
    go_simp
    go_at_call 75
    refine Calls.mono (wof_any 1 (by unfold Fits; omega) _) ?_
    rintro e W2 ⟨rfl, hb⟩
    refine hK.out _ _ ((hI _ _ _).2 ⟨_, _, _, _, _, _, _, rfl, hC.below hb, hP.put 5 rfl rfl rfl, ⟨fun h => (g.1 h).below hb, fun h => (g.2 h).below hb⟩⟩)
  · intro l a W hl hw hsh hI' K hK
    have h := (hI _ _ _).1 hI'; clear hI'; obtain ⟨s94, s95, s96, s97, s98, s99, s100, h⟩ := h
    obtain ⟨ha, hC, hP, g⟩ := h; subst ha
    obtain rfl := hP.get 0 rfl (hw 0 (by kernel_rfl))
    obtain rfl := hP.get 4 rfl (hw 4 (by kernel_rfl))
    go_simp
    refine hK.out _ _ ((hI _ _ _).2 ⟨_, _, _, _, _, _, _, rfl, hC, hP.put 6 rfl rfl rfl, g⟩)
  · intro l a W hl hw hsh hI' K hK
    have h := (hI _ _ _).1 hI'; clear hI'; obtain ⟨s94, s95, s96, s97, s98, s99, s100, h⟩ := h
    obtain ⟨ha, hC, hP, g⟩ := h; subst ha
    obtain rfl := hP.get 5 rfl (hw 5 (by kernel_rfl))
    obtain rfl := hP.get 6 rfl (hw 6 (by kernel_rfl))
    rw [if_pos (by rfl)]
    have hG1 := g.1 hl
    refine wp_store_mid _ _ _ rfl _ _ (wl (wd 1)).toArray rfl rfl (by rw [List.size_toArray]; exact hG1.row.wr q hq) (by rw [List.size_toArray]; exact hi_wide _) (all_oneCell_toArray (wl_one _)) ?_
    rw [List.toList_toArray]
    refine hK.out _ _ ((hI _ _ _).2 ⟨_, _, _, _, _, _, _, rfl, hC.trans (only_setCells _ _ _), hP.skip 7 rfl, ⟨fun h => off h.symm, fun _ => hG1.set hq _⟩⟩)
  · intro a W hI'
    have h := (hI _ _ _).1 hI'; clear hI'; obtain ⟨s94, s95, s96, s97, s98, s99, s100, h⟩ := h
    obtain ⟨ha, hC, hP, g⟩ := h; subst ha
    exact hQ.out _ _ _ _ _ _ _ _ hC (g.2 (by kernel_rfl))
end Go.Proofs.YtcmomjnailihpaaGreatDoor
namespace Go.Proofs.YtcmomjnailihpaaGreatDoor
open Go.RowKit
open LnM (wd upd sm)
attribute [local go_sem] Oper.semAt_some
def rowOf (rows : List (List Int × Int)) (i : Nat) : List Int × Int := rows[i]?.getD ([], 0)
def sgnOf (rows : List (List Int × Int)) (i : Nat) : Int := if (rowOf rows i).2 < 0 then -1 else 1
def sysOf (cols : Nat) (rows : List (List Int × Int)) : LnM.Sys where
  m := rows.length
  n := cols
  S := fun i j => if j < cols then sgnOf rows i * gi (rowOf rows i).1 j else if j < cols + rows.length then (if i = j - cols then 1 else 0) else sgnOf rows i * (rowOf rows i).2
theorem sys_ok (cols : Nat) (rows : List (List Int × Int)) : (sysOf cols rows).Ok := by
  refine ⟨fun i _ l hl => ?_, fun i _ => ?_⟩
  · show (if cols + l < cols then _ else if cols + l < cols + rows.length then (if i = cols + l - cols then (1 : Int) else 0) else _) = _
    have hl' : l < rows.length := hl
    rw [if_neg (by omega), if_pos (by omega), Nat.add_sub_cancel_left]
  · show 0 ≤ (if cols + rows.length < cols then _ else if cols + rows.length < cols + rows.length then _ else _)
    rw [if_neg (by omega), if_neg (by omega)]
    unfold sgnOf
    split <;> omega
def qOf (s : LnM.Sys) (c : Nat) : Nat := if c = s.n then s.n + s.m else c
def rowF (s : LnM.Sys) (i c j : Nat) : Int := if (j < s.n ∧ j < c) ∨ (j = s.n + s.m ∧ s.n < c) then s.S i j else 0
def costF (s : LnM.Sys) (i j : Nat) : Int := if j < s.n ∨ j = s.n + s.m then -sm i (fun r => s.S r j) else 0
theorem rowF_zero (s : LnM.Sys) (i j : Nat) : rowF s i 0 j = 0 := if_neg (by omega)
theorem qOf_lt {s : LnM.Sys} {c : Nat} (h : c ≤ s.n) : qOf s c < s.n + s.m + 1 := by unfold qOf; split <;> omega
theorem rowF_q {s : LnM.Sys} {i c : Nat} (h : c ≤ s.n) : rowF s i c (qOf s c) = 0 := by
  unfold rowF qOf
  split <;> exact if_neg (by omega)
theorem rowF_step {s : LnM.Sys} {i c : Nat} (h : c ≤ s.n) {j : Nat} (hj : j < s.n + s.m + 1) : upd (rowF s i c) (qOf s c) (s.S i (qOf s c)) j = rowF s i (c + 1) j := by
  unfold upd
  by_cases e : j = qOf s c
  · subst e
    rw [if_pos rfl]
    unfold rowF
    rw [if_pos]
    unfold qOf
    split <;> omega
  · rw [if_neg e]
    unfold rowF
    unfold qOf at e
    by_cases hc : c = s.n
    · rw [if_pos hc] at e
      by_cases h1 : (j < s.n ∧ j < c) ∨ (j = s.n + s.m ∧ s.n < c)
      · rw [if_pos h1, if_pos (by omega)]
      · rw [if_neg h1, if_neg (by omega)]
    · rw [if_neg hc] at e
      by_cases h1 : (j < s.n ∧ j < c) ∨ (j = s.n + s.m ∧ s.n < c)
      · rw [if_pos h1, if_pos (by omega)]
      · rw [if_neg h1, if_neg (by omega)]
theorem rowF_full {s : LnM.Sys} (ho : s.Ok) {i : Nat} (hi : i < s.m) {j : Nat} (hj : j < s.n + s.m + 1) : upd (rowF s i (s.n + 1)) (s.n + i) 1 j = s.S i j := by
  unfold upd
  by_cases e : j = s.n + i
  · subst e; rw [if_pos rfl, ho.unit i hi i hi, if_pos rfl]
  · rw [if_neg e]
    unfold rowF
    by_cases h1 : (j < s.n ∧ j < s.n + 1) ∨ (j = s.n + s.m ∧ s.n < s.n + 1)
    · rw [if_pos h1]
    · rw [if_neg h1]
      obtain ⟨l, rfl⟩ : ∃ l, j = s.n + l := ⟨j - s.n, by omega⟩
      rw [ho.unit i hi l (by omega), if_neg (by omega)]
theorem costF_zero (s : LnM.Sys) (j : Nat) : costF s 0 j = 0 := by unfold costF; split <;> rfl
theorem costF_step {s : LnM.Sys} {i c : Nat} (h : c ≤ s.n) {j : Nat} (hj : j < s.n + s.m + 1) :
    upd (fun j => costF s i j - rowF s i c j) (qOf s c) (costF s i (qOf s c) - rowF s i c (qOf s c) - s.S i (qOf s c)) j = costF s i j - rowF s i (c + 1) j := by
  rw [← rowF_step h hj, rowF_q h]
  unfold upd
  by_cases e : j = qOf s c
  · subst e; rw [if_pos rfl, if_pos rfl]; omega
  · rw [if_neg e, if_neg e]
theorem rowF_step' {s : LnM.Sys} {i c q : Nat} {z : Int} (hq : q = qOf s c) (hz : z = s.S i q) (h : c ≤ s.n) {j : Nat} (hj : j < s.n + s.m + 1) : upd (rowF s i c) q z j = rowF s i (c + 1) j := by
  subst hz; subst hq; exact rowF_step h hj
theorem costF_step' {s : LnM.Sys} {i c q : Nat} {z : Int} (hq : q = qOf s c) (hz : z = s.S i q) (h : c ≤ s.n) {j : Nat} (hj : j < s.n + s.m + 1) : upd (fun j => costF s i j - rowF s i c j) q (costF s i q - rowF s i c q - z) j = costF s i j - rowF s i (c + 1) j := by
  subst hz; subst hq; exact costF_step h hj
theorem costF_full {s : LnM.Sys} {i j : Nat} : costF s i j - rowF s i (s.n + 1) j = costF s (i + 1) j := by
  unfold costF rowF
  by_cases h : j < s.n ∨ j = s.n + s.m
  · rw [if_pos h, if_pos h, if_pos (by omega)]
    show _ = -(sm i (fun r => s.S r j) + s.S i j)
    omega
  · rw [if_neg h, if_neg h, if_neg (by omega)]; rfl
theorem costF_end {s : LnM.Sys} (ho : s.Ok) {j : Nat} (hj : j < s.n + s.m + 1) : costF s s.m j = s.C s.B0 j := by
  have hsum : sm s.m (fun i => s.c (s.B0 i) * s.T s.B0 i j) = sm s.m (fun i => s.S i j) := LnM.sm_congr fun i hi => by
    rw [LnM.T_B0 ho hi]
    have : s.c (s.B0 i) = 1 := by unfold LnM.Sys.c LnM.Sys.B0; rw [if_pos (by omega)]
    rw [this, Int.one_mul]
  unfold LnM.Sys.C
  rw [LnM.d_B0 ho, Int.one_mul, hsum]
  unfold costF LnM.Sys.c
  by_cases h : j < s.n ∨ j = s.n + s.m
  · rw [if_pos h, if_neg (by omega)]; omega
  · rw [if_neg h, if_pos (by omega)]
    obtain ⟨l, rfl⟩ : ∃ l, j = s.n + l := ⟨j - s.n, by omega⟩
    have hl : l < s.m := by omega
    rw [LnM.sm_single hl (fun i hi hne => by rw [ho.unit i hi l hl, if_neg hne]), ho.unit l hl l hl, if_pos rfl]; omega
set_option maxRecDepth 100000 in
set_option maxHeartbeats 8000000 in
theorem open_l2 {Q : Exit → Act → World → Prop} {u0 u2 u4 u5 u8 u9 u10 u11 u12 u13 u14 u15 u16 u17 u18 u19 u20 u21 u22 u23 u24 u25 u26 u27 u28 u29 u30 u31 u32 u33 u34 u35 u36 u37 u38 u39 u40 u41 u42 u43 u44 u45 u46 u47 u48 u49 u50 u51 u52 u56 u57 u58 u59 u60 u61 u62 u63 u64 u65 u66 u67 u68 u69 u70 u71 u72 u73 u74 u75 u76 u77 u78 u79 u80 u81 u82 u83 u84 u85 u86 u87 u88 u89 u90 u91 u92 u93 u94 u95 u96 u97 u98 u99 u100 u101 u102 u103 u104 u105 u106 u107 u108 u109 u110 u111 u112 u113 u114 u115 u116 u117 u118 u119 u120 u121 u122 u123 u124 u125 u126 u127 u128 u129 u130 u131 u132 u133 u134 u135 : Value} {xB tb rb cb g cols cap' n i : Nat} {sg c1 : Int} (hc1 : Hid (c1 = (cols : Int) + 1)) {es : List Int} {s : LnM.Sys} {w : World} (hsn : Hid (s.n = cols)) (hn : Hid (n = s.n + s.m + 1)) (hn1 : n ≤ 100000) (hes : Hid (es.length = cols + 1)) (hSl : Hid (Sl w (.slice (some ⟨g, 0, none⟩) (cols + 1) cap') es))
    (hbd : Hid (∀ c, c ≤ cols → IntKind.i64.wrap (sg * gi es c) = s.S i (qOf s c) ∧ Fits (s.S i (qOf s c)))) (hx : Hid (xB < w.heap.size ∧ w.cell? ⟨xB, 0, none⟩ = some (.int .i64 cols) ∧ xB ≠ rb ∧ xB ≠ cb))
    (ht : Hid (tb < w.heap.size ∧ w.cell? ⟨tb, 1, none⟩ = some (.slice (some ⟨cb, 0, none⟩) n n) ∧ tb ≠ rb ∧ tb ≠ cb)) (hrc : Hid (rb ≠ cb)) (hg : Hid (g ≠ rb ∧ g ≠ cb))
    (hR : Hid (RowT w rb n (rowF s i 0))) (hC : Hid (RowT w cb n (fun j => costF s i j - rowF s i 0 j))) {body : Code} (hbody : getLoop Tryz.f37.body 2 = some body)
    (hQ : ∀ (v8 v9 v10 v55 v56 v57 v58 v59 v60 v61 v62 v63 v64 v65 v66 v67 v68 v69 v70 v71 v72 v73 v74 v75 v76 v77 v78 v79 v80 v81 v82 v83 v84 v85 v86 v87 v88 v89 v90 v91 v92 v93 : Value) (W' : World), Only [rb, cb] w W' → RowT W' rb n (rowF s i (cols + 1)) → RowT W' cb n (fun j => costF s i j - rowF s i (cols + 1) j) → Q (.exit 2) { tmps := List.toArray (u0::.pointer (some ⟨xB, 0, none⟩)::u2::.pointer (some ⟨tb, 0, none⟩)::u4::u5::.int .i64 sg::.slice (some ⟨rb, 0, none⟩) n n::v8::v9::v10::u11::u12::u13::u14::u15::u16::u17::u18::u19::u20::u21::u22::u23::u24::u25::u26::u27::u28::u29::u30::u31::u32::u33::u34::u35::u36::u37::u38::u39::u40::u41::u42::u43::u44::u45::u46::u47::u48::u49::u50::u51::u52::.slice (some ⟨g, 0, none⟩) (cols + 1) cap'::.int .i64 c1::v55::v56::v57::v58::v59::v60::v61::v62::v63::v64::v65::v66::v67::v68::v69::v70::v71::v72::v73::v74::v75::v76::v77::v78::v79::v80::v81::v82::v83::v84::v85::v86::v87::v88::v89::v90::v91::v92::v93::u94::u95::u96::u97::u98::u99::u100::u101::u102::u103::u104::u105::u106::u107::u108::u109::u110::u111::u112::u113::u114::u115::u116::u117::u118::u119::u120::u121::u122::u123::u124::u125::u126::u127::u128::u129::u130::u131::u132::u133::u134::u135::[]), defers := [] } W') :
    (Code.loop body).wp Tryz.prog Q { tmps := List.toArray (u0::.pointer (some ⟨xB, 0, none⟩)::u2::.pointer (some ⟨tb, 0, none⟩)::u4::u5::.int .i64 sg::.slice (some ⟨rb, 0, none⟩) n n::u8::u9::u10::u11::u12::u13::u14::u15::u16::u17::u18::u19::u20::u21::u22::u23::u24::u25::u26::u27::u28::u29::u30::u31::u32::u33::u34::u35::u36::u37::u38::u39::u40::u41::u42::u43::u44::u45::u46::u47::u48::u49::u50::u51::u52::.slice (some ⟨g, 0, none⟩) (cols + 1) cap'::.int .i64 c1::.int .i64 0::u56::u57::u58::u59::u60::u61::u62::u63::u64::u65::u66::u67::u68::u69::u70::u71::u72::u73::u74::u75::u76::u77::u78::u79::u80::u81::u82::u83::u84::u85::u86::u87::u88::u89::u90::u91::u92::u93::u94::u95::u96::u97::u98::u99::u100::u101::u102::u103::u104::u105::u106::u107::u108::u109::u110::u111::u112::u113::u114::u115::u116::u117::u118::u119::u120::u121::u122::u123::u124::u125::u126::u127::u128::u129::u130::u131::u132::u133::u134::u135::[]), defers := [] } w := by
  obtain rfl := Option.some.inj (hbody.symm.trans (rfl : getLoop Tryz.f37.body 2 = some _))
  clear hbody
  replace hQ := Lib.hid hQ
  go_loopw [55] (fun o wr => ∃ c : Nat, o = .int .i64 c ∧ c ≤ cols + 1 ∧ Hid (Only [rb, cb] w wr) ∧ Hid (RowT wr rb n (rowF s i c)) ∧ Hid (RowT wr cb n (fun j => costF s i j - rowF s i c j))) (fun o _ => cols + 1 - (intOf o).toNat)
  case atStart => exact ⟨0, rfl, by omega, Lib.hid (Only.refl _ _), hR, hC⟩
  case round =>
    clear hR hC
    obtain ⟨c, rfl, hc, hO, hR, hC⟩ := hrel
    by_cases hcl : c < cols + 1
    case neg =>
      obtain rfl : c = cols + 1 := by omega
      have h1 : ¬ ((cols : Int) + 1) < c1 := by rw [hc1.out]; omega
      have h1b : ¬ ((cols + 1 : Nat) : Int) < c1 := by rw [hc1.out]; omega
      go_wp2_with fail
      exact hQ.out _ _ _ _ _ _ _ _ _ _ _ _ _ _ _ _ _ _ _ _ _ _ _ _ _ _ _ _ _ _ _ _ _ _ _ _ _ _ _ _ _ _ _ hO.out hR.out hC.out
    case pos =>
      have hcn : c < n := by have := hn.out; have := hsn.out; omega
      have h1 : (c : Int) < c1 := by rw [hc1.out]; omega
      have h2 : (c : Int) < (cols : Int) + 1 := by omega
      have h0 : (0 : Int) ≤ c := by omega
      have x0 : wr.cell? ⟨g, c, none⟩ = some (.int .i64 (gi es c)) := by
        rcases hSl.out with ⟨e, _⟩ | ⟨b, off, cap, e, k1, k2, k3, k4⟩
        · cases e
        · rw [hes.out] at e
          cases e
          have := (hO.out.cell (p := ⟨g, 0 + c, none⟩) k3 (by simpa using hg.out)).trans (k4 c (by rw [hes.out]; omega))
          rwa [Nat.zero_add] at this
      have x1 := (hO.out.cell (p := ⟨xB, 0, none⟩) hx.out.1 (by simpa using hx.out.2.2)).trans hx.out.2.1
      obtain ⟨hz, hzf⟩ := hbd.out c (by omega)
      obtain ⟨q, hq⟩ : ∃ q, q = qOf s c := ⟨_, rfl⟩
      have hqn : q < n := by rw [hq, hn.out]; exact qOf_lt (by rw [hsn.out]; omega)
      rw [← hq] at hz hzf
      obtain ⟨z, hzz⟩ : ∃ z, z = s.S i q := ⟨_, rfl⟩
      rw [← hzz] at hz hzf
      generalize gi es c = e at *
      have hqi : (q : Int) < n := by omega
      have hq0 : (0 : Int) ≤ q := by omega
      have hq' := Lib.hid hq
      have hzz' := Lib.hid hzz
      replace hzf := Lib.hid hzf
      clear hzz
      by_cases hcc : c = cols
      · have hw1 : IntKind.i64.wrap ((n : Int) - 1) = q := by
          rw [IntWalk.i64_in _ (by omega)]
          have : q = s.n + s.m := by rw [hq, hcc]; unfold qOf; rw [if_pos hsn.out.symm]
          have := hn.out
          omega
        have hce : ((c : Int) == (cols : Int)) = true := by simp [hcc]
        replace hcc := Lib.hid hcc
        clear hq
        go_wp2_with fail
        refine Calls.mono (wof_any z hzf.out _) ?_
        rintro e2 w1 ⟨rfl, hb⟩
        have hO1 := Lib.hid (hO.out.below hb)
        have R1 := Lib.hid (hR.out.below hb)
        have C1 := Lib.hid (hC.out.below hb)
        clear x0 x1 hb
        obtain ⟨b0, b1, b2, b3, b4, b5, b6, b7, b8, b9, b10, b11⟩ := range_cells (R1.out.row.rd q hqn)
        have f0 : w1.frozen? ⟨rb, q * 12, none⟩ = false := (R1.out.row.wr q hqn 0 (by decide)).2
        have f1 : w1.frozen? ⟨rb, q * 12 + 1, none⟩ = false := (R1.out.row.wr q hqn 1 (by decide)).2
        have f2 : w1.frozen? ⟨rb, q * 12 + 2, none⟩ = false := (R1.out.row.wr q hqn 2 (by decide)).2
        have f3 : w1.frozen? ⟨rb, q * 12 + 3, none⟩ = false := (R1.out.row.wr q hqn 3 (by decide)).2
        have f4 : w1.frozen? ⟨rb, q * 12 + 4, none⟩ = false := (R1.out.row.wr q hqn 4 (by decide)).2
        have f5 : w1.frozen? ⟨rb, q * 12 + 5, none⟩ = false := (R1.out.row.wr q hqn 5 (by decide)).2
        have f6 : w1.frozen? ⟨rb, q * 12 + 6, none⟩ = false := (R1.out.row.wr q hqn 6 (by decide)).2
        have f7 : w1.frozen? ⟨rb, q * 12 + 7, none⟩ = false := (R1.out.row.wr q hqn 7 (by decide)).2
        have f8 : w1.frozen? ⟨rb, q * 12 + 8, none⟩ = false := (R1.out.row.wr q hqn 8 (by decide)).2
        have f9 : w1.frozen? ⟨rb, q * 12 + 9, none⟩ = false := (R1.out.row.wr q hqn 9 (by decide)).2
        have f10 : w1.frozen? ⟨rb, q * 12 + 10, none⟩ = false := (R1.out.row.wr q hqn 10 (by decide)).2
        have f11 : w1.frozen? ⟨rb, q * 12 + 11, none⟩ = false := (R1.out.row.wr q hqn 11 (by decide)).2
        have R2 := R1.out.set hqn z
        go_upto_region 16 with fail
        obtain ⟨W2, hW2⟩ : ∃ W2, W2 = w1.setCells rb (q * 12) (wl (wd z)) := ⟨_, rfl⟩
        have hOs := only_setCells (B := rb) (wl (wd z)) (q * 12) w1
        rw [← hW2] at R2 hOs
        rw [show ((((((((((((w1.setCell ⟨rb, q * 12, none⟩ (.int .u64 (wd z 0))).setCell ⟨rb, q * 12 + 1, none⟩ (.int .u64 (wd z 1))).setCell ⟨rb, q * 12 + 2, none⟩ (.int .u64 (wd z 2))).setCell ⟨rb, q * 12 + 3, none⟩ (.int .u64 (wd z 3))).setCell ⟨rb, q * 12 + 4, none⟩ (.int .u64 (wd z 4))).setCell ⟨rb, q * 12 + 5, none⟩ (.int .u64 (wd z 5))).setCell ⟨rb, q * 12 + 6, none⟩ (.int .u64 (wd z 6))).setCell ⟨rb, q * 12 + 7, none⟩ (.int .u64 (wd z 7))).setCell ⟨rb, q * 12 + 8, none⟩ (.int .u64 (wd z 8))).setCell ⟨rb, q * 12 + 9, none⟩ (.int .u64 (wd z 9))).setCell ⟨rb, q * 12 + 10, none⟩ (.int .u64 (wd z 10))).setCell ⟨rb, q * 12 + 11, none⟩ (.int .u64 (wd z 11))) = W2 from hW2.symm]
        clear hW2 b0 f0 b1 f1 b2 f2 b3 f3 b4 f4 b5 f5 b6 f6 b7 f7 b8 f8 b9 f9 b10 f10 b11 f11
        have C2 := C1.out.only hOs (by simpa using (fun e => hrc.out e.symm))
        have hO2 := Lib.hid (hO1.out.trans (hOs.mono (T := [rb, cb]) (by simp)))
        have t1 := Lib.hid (⟨Nat.lt_of_lt_of_le ht.out.1 hO2.out.size, (hO2.out.cell (p := ⟨tb, 1, none⟩) ht.out.1 (by simpa using ht.out.2.2)).trans ht.out.2.1⟩ : tb < W2.heap.size ∧ W2.cell? ⟨tb, 1, none⟩ = some (.slice (some ⟨cb, 0, none⟩) n n))
        refine open_r16 hqn hqi hq0 t1 (Lib.hid C2) (Lib.hid R2) (Lib.hid ht.out.2.2.2) hrc (by kernel_rfl) ?_
        intro v75 v76 v77 v78 v79 v80 v81 v82 v83 v84 v85 v86 v87 v88 v89 v90 v91 v92 W3 hO3 C3
        have R3 := R2.only hO3 (by simpa using hrc.out)
        rw [LnM.upd_same] at C3
        have hOf := Lib.hid (hO2.out.trans (hO3.mono (T := [rb, cb]) (by simp)))
        have Rf := Lib.hid (R3.congr (g := rowF s i (c + 1)) (fun j hj => rowF_step' (c := c) hq'.out hzz'.out (by rw [hsn.out]; omega) (by rw [← hn.out]; exact hj)))
        have Cf := Lib.hid (C3.congr (g := fun j => costF s i j - rowF s i (c + 1) j) (fun j hj => costF_step' (c := c) hq'.out hzz'.out (by rw [hsn.out]; omega) (by rw [← hn.out]; exact hj)))
        clear R2 C2 R3 C3 hO3 t1 hO2 R1 C1 hO1 hR hC hO
        go_wp2_with fail
        go_roundw
        case rel => exact ⟨c + 1, by go_num, by omega, hOf, Rf, Cf⟩
        case measure => simp [intOf]; omega
      · have hce : ((c : Int) == (cols : Int)) = false := by simp; omega
        have hqc : q = c := by rw [hq]; unfold qOf; rw [if_neg (by rw [hsn.out]; exact hcc)]
        subst hqc
        clear hq
        go_wp2_with fail
        refine Calls.mono (wof_any z hzf.out _) ?_
        rintro e2 w1 ⟨rfl, hb⟩
        have hO1 := Lib.hid (hO.out.below hb)
        have R1 := Lib.hid (hR.out.below hb)
        have C1 := Lib.hid (hC.out.below hb)
        clear x0 x1 hb
        obtain ⟨b0, b1, b2, b3, b4, b5, b6, b7, b8, b9, b10, b11⟩ := range_cells (R1.out.row.rd q hqn)
        have f0 : w1.frozen? ⟨rb, q * 12, none⟩ = false := (R1.out.row.wr q hqn 0 (by decide)).2
        have f1 : w1.frozen? ⟨rb, q * 12 + 1, none⟩ = false := (R1.out.row.wr q hqn 1 (by decide)).2
        have f2 : w1.frozen? ⟨rb, q * 12 + 2, none⟩ = false := (R1.out.row.wr q hqn 2 (by decide)).2
        have f3 : w1.frozen? ⟨rb, q * 12 + 3, none⟩ = false := (R1.out.row.wr q hqn 3 (by decide)).2
        have f4 : w1.frozen? ⟨rb, q * 12 + 4, none⟩ = false := (R1.out.row.wr q hqn 4 (by decide)).2
        have f5 : w1.frozen? ⟨rb, q * 12 + 5, none⟩ = false := (R1.out.row.wr q hqn 5 (by decide)).2
        have f6 : w1.frozen? ⟨rb, q * 12 + 6, none⟩ = false := (R1.out.row.wr q hqn 6 (by decide)).2
        have f7 : w1.frozen? ⟨rb, q * 12 + 7, none⟩ = false := (R1.out.row.wr q hqn 7 (by decide)).2
        have f8 : w1.frozen? ⟨rb, q * 12 + 8, none⟩ = false := (R1.out.row.wr q hqn 8 (by decide)).2
        have f9 : w1.frozen? ⟨rb, q * 12 + 9, none⟩ = false := (R1.out.row.wr q hqn 9 (by decide)).2
        have f10 : w1.frozen? ⟨rb, q * 12 + 10, none⟩ = false := (R1.out.row.wr q hqn 10 (by decide)).2
        have f11 : w1.frozen? ⟨rb, q * 12 + 11, none⟩ = false := (R1.out.row.wr q hqn 11 (by decide)).2
        have R2 := R1.out.set hqn z
        go_upto_region 16 with fail
        obtain ⟨W2, hW2⟩ : ∃ W2, W2 = w1.setCells rb (q * 12) (wl (wd z)) := ⟨_, rfl⟩
        have hOs := only_setCells (B := rb) (wl (wd z)) (q * 12) w1
        rw [← hW2] at R2 hOs
        rw [show ((((((((((((w1.setCell ⟨rb, q * 12, none⟩ (.int .u64 (wd z 0))).setCell ⟨rb, q * 12 + 1, none⟩ (.int .u64 (wd z 1))).setCell ⟨rb, q * 12 + 2, none⟩ (.int .u64 (wd z 2))).setCell ⟨rb, q * 12 + 3, none⟩ (.int .u64 (wd z 3))).setCell ⟨rb, q * 12 + 4, none⟩ (.int .u64 (wd z 4))).setCell ⟨rb, q * 12 + 5, none⟩ (.int .u64 (wd z 5))).setCell ⟨rb, q * 12 + 6, none⟩ (.int .u64 (wd z 6))).setCell ⟨rb, q * 12 + 7, none⟩ (.int .u64 (wd z 7))).setCell ⟨rb, q * 12 + 8, none⟩ (.int .u64 (wd z 8))).setCell ⟨rb, q * 12 + 9, none⟩ (.int .u64 (wd z 9))).setCell ⟨rb, q * 12 + 10, none⟩ (.int .u64 (wd z 10))).setCell ⟨rb, q * 12 + 11, none⟩ (.int .u64 (wd z 11))) = W2 from hW2.symm]
        clear hW2 b0 f0 b1 f1 b2 f2 b3 f3 b4 f4 b5 f5 b6 f6 b7 f7 b8 f8 b9 f9 b10 f10 b11 f11
        have C2 := C1.out.only hOs (by simpa using (fun e => hrc.out e.symm))
        have hO2 := Lib.hid (hO1.out.trans (hOs.mono (T := [rb, cb]) (by simp)))
        have t1 := Lib.hid (⟨Nat.lt_of_lt_of_le ht.out.1 hO2.out.size, (hO2.out.cell (p := ⟨tb, 1, none⟩) ht.out.1 (by simpa using ht.out.2.2)).trans ht.out.2.1⟩ : tb < W2.heap.size ∧ W2.cell? ⟨tb, 1, none⟩ = some (.slice (some ⟨cb, 0, none⟩) n n))
        refine open_r16 hqn hqi hq0 t1 (Lib.hid C2) (Lib.hid R2) (Lib.hid ht.out.2.2.2) hrc (by kernel_rfl) ?_
        intro v75 v76 v77 v78 v79 v80 v81 v82 v83 v84 v85 v86 v87 v88 v89 v90 v91 v92 W3 hO3 C3
        have R3 := R2.only hO3 (by simpa using hrc.out)
        rw [LnM.upd_same] at C3
        have hOf := Lib.hid (hO2.out.trans (hO3.mono (T := [rb, cb]) (by simp)))
        have Rf := Lib.hid (R3.congr (g := rowF s i (q + 1)) (fun j hj => rowF_step' (c := q) hq'.out hzz'.out (by rw [hsn.out]; omega) (by rw [← hn.out]; exact hj)))
        have Cf := Lib.hid (C3.congr (g := fun j => costF s i j - rowF s i (q + 1) j) (fun j hj => costF_step' (c := q) hq'.out hzz'.out (by rw [hsn.out]; omega) (by rw [← hn.out]; exact hj)))
        clear R2 C2 R3 C3 hO3 t1 hO2 R1 C1 hO1 hR hC hO
        go_wp2_with fail
        go_roundw
        case rel => exact ⟨q + 1, by go_num, by omega, hOf, Rf, Cf⟩
        case measure => simp [intOf]; omega
end Go.Proofs.YtcmomjnailihpaaGreatDoor
