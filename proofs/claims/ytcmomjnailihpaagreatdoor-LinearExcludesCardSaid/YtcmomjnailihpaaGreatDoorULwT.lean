/- LwT, OpA, LwU, OpB, OpC -/
import Derived.Test.YtcmomjnailihpaaGreatDoorURgI
import Derived.Deep.DeepCutAuto
set_option maxHeartbeats 8000000
set_option maxRecDepth 100000
namespace Go.Proofs.YtcmomjnailihpaaGreatDoor
section
open Go.RowKit
open LnM (wd upd)
attribute [local go_sem] Oper.semAt_some
theorem Ie {Q:Exit→Act→World→Prop} {u0 u1 u2 u4 u5 u6 u8 u9 u11 u12 u13 u14 u15 u16 u17 u18 u19 u20 u21 u22 u23 u24 u25 u26 u27 u28 u29 u30 u31 u32 u33 u34 u35 u36 u37 u38 u39 u40 u41 u42 u43 u44 u45 u46 u47 u48 u49 u50 u51 u52 u53 u54 u55 u56 u57 u58 u59 u60 u61 u62 u63 u64 u65 u66 u67 u68 u69 u70 u71 u72 u73 u74 u75 u76 u77 u78 u79 u80 u81 u82 u83 u84 u85 u86 u87 u88 u89 u90 u91 u92 u93 u94 u95 u96 u97 u98 u99 u100 u101 u102 u103 u104 u105 u106 u107 u108 u109 u110 u111 u112 u113 u114 u115 u116 u117 u118 u119 u120 u121 u122 u123 u124 u125 u126 u127 u128 u129 u130 u131 u132 u133 u134 u135:Value} {tb cb rb n q:Nat} {G Fr:Nat→Int} {w:World} (hq:q<n) (hqi:(q:Int)<n) (hq0:(0:Int)≤q) (h1:Hid (tb<w.heap.size∧w.cell? ⟨tb,1,none⟩=some (.slice (some ⟨cb,0,none⟩) n n))) (hG:Hid (RowT w cb n G)) (hF:Hid (RowT w rb n Fr)) (htc:Hid (tb≠cb)) (hrc:Hid (rb≠cb)) {ops:Array Oper} (ho:getOps Tryz.f37.body 16=some ops)
  (hQ:∀ (v75 v76 v77 v78 v79 v80 v81 v82 v83 v84 v85 v86 v87 v88 v89 v90 v91 v92:Value)  (W':World),Only [cb] w W'→RowT W' cb n (upd G q (G q-Fr q))→Q .normal { tmps:=List.toArray (u0::u1::u2::.pointer (some ⟨tb,0,none⟩)::u4::u5::u6::.slice (some ⟨rb,0,none⟩) n n::u8::u9::.int .i64 q::u11::u12::u13::u14::u15::u16::u17::u18::u19::u20::u21::u22::u23::u24::u25::u26::u27::u28::u29::u30::u31::u32::u33::u34::u35::u36::u37::u38::u39::u40::u41::u42::u43::u44::u45::u46::u47::u48::u49::u50::u51::u52::u53::u54::u55::u56::u57::u58::u59::u60::u61::u62::u63::u64::u65::u66::u67::u68::u69::u70::u71::u72::u73::u74::v75::v76::v77::v78::v79::v80::v81::v82::v83::v84::v85::v86::v87::v88::v89::v90::v91::v92::u93::u94::u95::u96::u97::u98::u99::u100::u101::u102::u103::u104::u105::u106::u107::u108::u109::u110::u111::u112::u113::u114::u115::u116::u117::u118::u119::u120::u121::u122::u123::u124::u125::u126::u127::u128::u129::u130::u131::u132::u133::u134::u135::[]),defers:=[] } W') :
  (Code.region 16 ops true).wp Tryz.prog Q { tmps:=List.toArray (u0::u1::u2::.pointer (some ⟨tb,0,none⟩)::u4::u5::u6::.slice (some ⟨rb,0,none⟩) n n::u8::u9::.int .i64 q::u11::u12::u13::u14::u15::u16::u17::u18::u19::u20::u21::u22::u23::u24::u25::u26::u27::u28::u29::u30::u31::u32::u33::u34::u35::u36::u37::u38::u39::u40::u41::u42::u43::u44::u45::u46::u47::u48::u49::u50::u51::u52::u53::u54::u55::u56::u57::u58::u59::u60::u61::u62::u63::u64::u65::u66::u67::u68::u69::u70::u71::u72::u73::u74::u75::u76::u77::u78::u79::u80::u81::u82::u83::u84::u85::u86::u87::u88::u89::u90::u91::u92::u93::u94::u95::u96::u97::u98::u99::u100::u101::u102::u103::u104::u105::u106::u107::u108::u109::u110::u111::u112::u113::u114::u115::u116::u117::u118::u119::u120::u121::u122::u123::u124::u125::u126::u127::u128::u129::u130::u131::u132::u133::u134::u135::[]),defers:=[] } w:=by
 obtain rfl:=Option.some.inj (ho.symm.trans (rfl:getOps Tryz.f37.body 16=some _))
 clear ho
 replace hQ:=A8 hQ
 obtain ⟨Iv,hI⟩:∃ Iv:(Nat→Bool)→Act→World→Prop,∀ l a W,Iv l a W↔(∃ s75 s76 s77 s78 s79 s80 s81 s82 s83 s84 s85 s86 s87 s88 s89 s90 s91 s92:Value,a={ tmps:=List.toArray (u0::u1::u2::.pointer (some ⟨tb,0,none⟩)::u4::u5::u6::.slice (some ⟨rb,0,none⟩) n n::u8::u9::.int .i64 q::u11::u12::u13::u14::u15::u16::u17::u18::u19::u20::u21::u22::u23::u24::u25::u26::u27::u28::u29::u30::u31::u32::u33::u34::u35::u36::u37::u38::u39::u40::u41::u42::u43::u44::u45::u46::u47::u48::u49::u50::u51::u52::u53::u54::u55::u56::u57::u58::u59::u60::u61::u62::u63::u64::u65::u66::u67::u68::u69::u70::u71::u72::u73::u74::s75::s76::s77::s78::s79::s80::s81::s82::s83::s84::s85::s86::s87::s88::s89::s90::s91::s92::u93::u94::u95::u96::u97::u98::u99::u100::u101::u102::u103::u104::u105::u106::u107::u108::u109::u110::u111::u112::u113::u114::u115::u116::u117::u118::u119::u120::u121::u122::u123::u124::u125::u126::u127::u128::u129::u130::u131::u132::u133::u134::u135::[]),defers:=[] }∧Only [cb] w W∧Vs [(0,.pointer (some ⟨tb,0,none⟩),s75),(1,.pointer (some ⟨tb,0,none⟩),s76),(2,.pointer (some ⟨tb,1,none⟩),s77),(3,.slice (some ⟨cb,0,none⟩) n n,s78),(4,.int .i64 q,s79),(5,.pointer (some ⟨tb,0,none⟩),s80),(6,.pointer (some ⟨tb,0,none⟩),s81),(7,.pointer (some ⟨tb,1,none⟩),s82),(8,.slice (some ⟨cb,0,none⟩) n n,s83),(9,.int .i64 q,s84),(10,.pointer (some ⟨cb,q*12,none⟩),s85),(12,.slice (some ⟨rb,0,none⟩) n n,s87),(13,.int .i64 q,s88),(14,.pointer (some ⟨rb,q*12,none⟩),s89),(16,.agg (wc (wd (G q-Fr q))),s91),(17,.pointer (some ⟨cb,q*12,none⟩),s92)] l∧(l 11=true→s86=.agg (wc (wd (G q))))∧(l 15=true→s90=.agg (wc (wd (Fr q))))∧((l 18=false→RowT W cb n G)∧(l 18=true→RowT W cb n (upd G q (G q-Fr q))))):=⟨_,fun _ _ _=>Iff.rfl⟩
 refine Ak Iv (by kernel_rfl) (by kernel_rfl) ((hI _ _ _).2 ⟨_,_,_,_,_,_,_,_,_,_,_,_,_,_,_,_,_,_,rfl,(Only.refl [cb] w).drewN 1,Vs.zero,fun h=>off h,fun h=>off h,⟨fun _=>hG.out.below (Ac w 1),fun h=>off h⟩⟩) (Ab (k:=0) ?_ (Ab (k:=1) ?_ (Ab (k:=2) ?_ (Ab (k:=3) ?_ (Ab (k:=4) ?_ (Ab (k:=5) ?_ (Ab (k:=6) ?_ (Ab (k:=7) ?_ (Ab (k:=8) ?_ (Ab (k:=9) ?_ (Ab (k:=10) ?_ (Ab (k:=11) ?_ (Ab (k:=12) ?_ (Ab (k:=13) ?_ (Ab (k:=14) ?_ (Ab (k:=15) ?_ (Ab (k:=16) ?_ (Ab (k:=17) ?_ (Ab (k:=18) ?_ (Af)))))))))))))))))))) ?_
 ·intro l a W hl hw hsh h K hK
  rw [hI] at h;iterate 18 obtain ⟨_,h⟩:=h
  obtain ⟨rfl,hC,hP,f11,f15,g⟩:=h
  go_simp
  apply hK.out;rw [hI];iterate 18 apply Exists.intro
  exact ⟨rfl,hC,hP.put 0 rfl rfl rfl,f11,f15,g⟩
 ·intro l a W hl hw hsh h K hK
  rw [hI] at h;iterate 18 obtain ⟨_,h⟩:=h
  obtain ⟨rfl,hC,hP,f11,f15,g⟩:=h
  obtain rfl:=hP.get 0 rfl (hw 0 (by kernel_rfl))
  go_simp
  apply hK.out;rw [hI];iterate 18 apply Exists.intro
  exact ⟨rfl,hC,hP.put 1 rfl rfl rfl,f11,f15,g⟩
 ·intro l a W hl hw hsh h K hK
  rw [hI] at h;iterate 18 obtain ⟨_,h⟩:=h
  obtain ⟨rfl,hC,hP,f11,f15,g⟩:=h
  obtain rfl:=hP.get 1 rfl (hw 1 (by kernel_rfl))
  go_simp
  apply hK.out;rw [hI];iterate 18 apply Exists.intro
  exact ⟨rfl,hC,hP.put 2 rfl rfl rfl,f11,f15,g⟩
 ·intro l a W hl hw hsh h K hK
  rw [hI] at h;iterate 18 obtain ⟨_,h⟩:=h
  obtain ⟨rfl,hC,hP,f11,f15,g⟩:=h
  obtain rfl:=hP.get 2 rfl (hw 2 (by kernel_rfl))
  have x1:=(hC.cell (p:=⟨tb,1,none⟩) h1.out.1 (by simpa using htc.out)).trans h1.out.2
  go_simp
  apply hK.out;rw [hI];iterate 18 apply Exists.intro
  exact ⟨rfl,hC,hP.put 3 rfl rfl rfl,f11,f15,g⟩
 ·intro l a W hl hw hsh h K hK
  rw [hI] at h;iterate 18 obtain ⟨_,h⟩:=h
  obtain ⟨rfl,hC,hP,f11,f15,g⟩:=h
  go_simp
  apply hK.out;rw [hI];iterate 18 apply Exists.intro
  exact ⟨rfl,hC,hP.put 4 rfl rfl rfl,f11,f15,g⟩
 ·intro l a W hl hw hsh h K hK
  rw [hI] at h;iterate 18 obtain ⟨_,h⟩:=h
  obtain ⟨rfl,hC,hP,f11,f15,g⟩:=h
  go_simp
  apply hK.out;rw [hI];iterate 18 apply Exists.intro
  exact ⟨rfl,hC,hP.put 5 rfl rfl rfl,f11,f15,g⟩
 ·intro l a W hl hw hsh h K hK
  rw [hI] at h;iterate 18 obtain ⟨_,h⟩:=h
  obtain ⟨rfl,hC,hP,f11,f15,g⟩:=h
  obtain rfl:=hP.get 5 rfl (hw 5 (by kernel_rfl))
  go_simp
  apply hK.out;rw [hI];iterate 18 apply Exists.intro
  exact ⟨rfl,hC,hP.put 6 rfl rfl rfl,f11,f15,g⟩
 ·intro l a W hl hw hsh h K hK
  rw [hI] at h;iterate 18 obtain ⟨_,h⟩:=h
  obtain ⟨rfl,hC,hP,f11,f15,g⟩:=h
  obtain rfl:=hP.get 6 rfl (hw 6 (by kernel_rfl))
  go_simp
  apply hK.out;rw [hI];iterate 18 apply Exists.intro
  exact ⟨rfl,hC,hP.put 7 rfl rfl rfl,f11,f15,g⟩
 ·intro l a W hl hw hsh h K hK
  rw [hI] at h;iterate 18 obtain ⟨_,h⟩:=h
  obtain ⟨rfl,hC,hP,f11,f15,g⟩:=h
  obtain rfl:=hP.get 7 rfl (hw 7 (by kernel_rfl))
  have x1:=(hC.cell (p:=⟨tb,1,none⟩) h1.out.1 (by simpa using htc.out)).trans h1.out.2
  go_simp
  apply hK.out;rw [hI];iterate 18 apply Exists.intro
  exact ⟨rfl,hC,hP.put 8 rfl rfl rfl,f11,f15,g⟩
 ·intro l a W hl hw hsh h K hK
  rw [hI] at h;iterate 18 obtain ⟨_,h⟩:=h
  obtain ⟨rfl,hC,hP,f11,f15,g⟩:=h
  go_simp
  apply hK.out;rw [hI];iterate 18 apply Exists.intro
  exact ⟨rfl,hC,hP.put 9 rfl rfl rfl,f11,f15,g⟩
 ·intro l a W hl hw hsh h K hK
  rw [hI] at h;iterate 18 obtain ⟨_,h⟩:=h
  obtain ⟨rfl,hC,hP,f11,f15,g⟩:=h
  obtain rfl:=hP.get 8 rfl (hw 8 (by kernel_rfl))
  obtain rfl:=hP.get 9 rfl (hw 9 (by kernel_rfl))
  go_simp
  apply hK.out;rw [hI];iterate 18 apply Exists.intro
  exact ⟨rfl,hC,hP.put 10 rfl rfl rfl,f11,f15,g⟩
 ·intro l a W hl hw hsh h K hK
  rw [hI] at h;iterate 18 obtain ⟨_,h⟩:=h
  obtain ⟨rfl,hC,hP,f11,f15,g⟩:=h
  obtain rfl:=hP.get 10 rfl (hw 10 (by kernel_rfl))
  rw [if_pos (by rfl)]
  have hst:l 18=false:=by
   cases hc:l 18 with
   | false=>rfl
   | true=>exact absurd (hsh 16 11 _ rfl (hsh 18 16 _ rfl hc (by kernel_rfl)) (by kernel_rfl)) (by simp [hl])
  have hrng:=(g.1 hst).row.rd q hq
  refine wp_load_mid _ _ rfl _ _ rfl (wl (wd (G q))) _ hrng CP rfl (BO _) ?_
  apply hK.out;rw [hI];iterate 18 apply Exists.intro
  exact ⟨rfl,hC,hP.skip 11 rfl,fun _=>rfl,f15,g⟩
 ·intro l a W hl hw hsh h K hK
  rw [hI] at h;iterate 18 obtain ⟨_,h⟩:=h
  obtain ⟨rfl,hC,hP,f11,f15,g⟩:=h
  go_simp
  apply hK.out;rw [hI];iterate 18 apply Exists.intro
  exact ⟨rfl,hC,hP.put 11 rfl rfl rfl,f11,f15,g⟩
 ·intro l a W hl hw hsh h K hK
  rw [hI] at h;iterate 18 obtain ⟨_,h⟩:=h
  obtain ⟨rfl,hC,hP,f11,f15,g⟩:=h
  go_simp
  apply hK.out;rw [hI];iterate 18 apply Exists.intro
  exact ⟨rfl,hC,hP.put 12 rfl rfl rfl,f11,f15,g⟩
 ·intro l a W hl hw hsh h K hK
  rw [hI] at h;iterate 18 obtain ⟨_,h⟩:=h
  obtain ⟨rfl,hC,hP,f11,f15,g⟩:=h
  obtain rfl:=hP.get 11 rfl (hw 12 (by kernel_rfl))
  obtain rfl:=hP.get 12 rfl (hw 13 (by kernel_rfl))
  go_simp
  apply hK.out;rw [hI];iterate 18 apply Exists.intro
  exact ⟨rfl,hC,hP.put 13 rfl rfl rfl,f11,f15,g⟩
 ·intro l a W hl hw hsh h K hK
  rw [hI] at h;iterate 18 obtain ⟨_,h⟩:=h
  obtain ⟨rfl,hC,hP,f11,f15,g⟩:=h
  obtain rfl:=hP.get 13 rfl (hw 14 (by kernel_rfl))
  rw [if_pos (by rfl)]
  have hrng:=(hF.out.only hC (by simpa using hrc.out)).row.rd q hq
  refine wp_load_mid _ _ rfl _ _ rfl (wl (wd (Fr q))) _ hrng CP rfl (BO _) ?_
  apply hK.out;rw [hI];iterate 18 apply Exists.intro
  exact ⟨rfl,hC,hP.skip 15 rfl,f11,fun _=>rfl,g⟩
 ·intro l a W hl hw hsh h K hK
  rw [hI] at h;iterate 18 obtain ⟨_,h⟩:=h
  obtain ⟨rfl,hC,hP,f11,f15,g⟩:=h
  obtain rfl:=f11 (hw 11 (by kernel_rfl))
  obtain rfl:=f15 (hw 15 (by kernel_rfl))
  go_simp
  go_at_call 39
  refine Calls.mono (Bj (G q) (Fr q) _) ?_
  rintro e W2 ⟨rfl,hb⟩
  apply hK.out;rw [hI];iterate 18 apply Exists.intro
  exact ⟨rfl,hC.below hb,hP.put 14 rfl rfl rfl,f11,f15,⟨fun h=>(g.1 h).below hb,fun h=>(g.2 h).below hb⟩⟩
 ·intro l a W hl hw hsh h K hK
  rw [hI] at h;iterate 18 obtain ⟨_,h⟩:=h
  obtain ⟨rfl,hC,hP,f11,f15,g⟩:=h
  obtain rfl:=hP.get 3 rfl (hw 3 (by kernel_rfl))
  obtain rfl:=hP.get 4 rfl (hw 4 (by kernel_rfl))
  go_simp
  apply hK.out;rw [hI];iterate 18 apply Exists.intro
  exact ⟨rfl,hC,hP.put 15 rfl rfl rfl,f11,f15,g⟩
 ·intro l a W hl hw hsh h K hK
  rw [hI] at h;iterate 18 obtain ⟨_,h⟩:=h
  obtain ⟨rfl,hC,hP,f11,f15,g⟩:=h
  obtain rfl:=hP.get 14 rfl (hw 16 (by kernel_rfl))
  obtain rfl:=hP.get 15 rfl (hw 17 (by kernel_rfl))
  rw [if_pos (by rfl)]
  have hst:l 18=false:=hl
  have hG1:=g.1 hst
  refine wp_store_mid _ _ _ rfl _ _ (wl (wd (G q-Fr q))).toArray rfl rfl (by rw [List.size_toArray];exact hG1.row.wr q hq) (by rw [List.size_toArray];exact BO _) (all_oneCell_toArray (Dn _)) ?_
  rw [List.toList_toArray]
  apply hK.out;rw [hI];iterate 18 apply Exists.intro
  exact ⟨rfl,hC.trans (Ag _ _ _),hP.skip 18 rfl,f11,f15,⟨fun h=>off h.symm,fun _=>hG1.set hq _⟩⟩
 ·intro a W hI'
  have h:=(hI _ _ _).1 hI';clear hI';iterate 18 obtain ⟨_,h⟩:=h
  obtain ⟨rfl,hC,hP,f11,f15,g⟩:=h
  clear f11
  clear f15
  exact hQ.out _ _ _ _ _ _ _ _ _ _ _ _ _ _ _ _ _ _ _ hC (g.2 (by kernel_rfl))
theorem LU {Q:Exit→Act→World→Prop} {u0 u2 u3 u5 u6 u8 u9 u10 u11 u12 u13 u14 u15 u16 u17 u18 u19 u20 u21 u22 u23 u24 u25 u26 u27 u28 u29 u30 u31 u32 u33 u34 u35 u36 u37 u38 u39 u40 u41 u42 u43 u44 u45 u46 u47 u48 u49 u50 u51 u52 u53 u54 u55 u56 u57 u58 u59 u60 u61 u62 u63 u64 u65 u66 u67 u68 u69 u70 u71 u72 u73 u74 u75 u76 u77 u78 u79 u80 u81 u82 u83 u84 u85 u86 u87 u88 u89 u90 u91 u92 u93 u94 u95 u96 u97 u98 u99 u100 u101 u102 u103 u104 u105 u106 u107 u108 u109 u110 u111 u112 u113 u114 u115 u116 u117 u118 u119 u120 u121 u122 u123 u124 u125 u126 u127 u128 u129 u130 u131 u132 u133 u134 u135:Value} {xB rb n cols i q:Nat} {Fr:Nat→Int} {w:World} (hqe:IntKind.i64.wrap ((cols:Int)+i)=q) (hq:q<n) (hqi:(q:Int)<n) (hq0:(0:Int)≤q) (h1:Hid (xB<w.heap.size∧w.cell? ⟨xB,0,none⟩=some (.int .i64 cols))) (hF:Hid (RowT w rb n Fr)) (hxr:Hid (xB≠rb)) {ops:Array Oper} (ho:getOps Tryz.f37.body 18=some ops)
  (hQ:∀ (v94 v95 v96 v97 v98 v99 v100:Value)  (W':World),Only [rb] w W'→RowT W' rb n (upd Fr q 1)→Q .normal { tmps:=List.toArray (u0::.pointer (some ⟨xB,0,none⟩)::u2::u3::.int .i64 i::u5::u6::.slice (some ⟨rb,0,none⟩) n n::u8::u9::u10::u11::u12::u13::u14::u15::u16::u17::u18::u19::u20::u21::u22::u23::u24::u25::u26::u27::u28::u29::u30::u31::u32::u33::u34::u35::u36::u37::u38::u39::u40::u41::u42::u43::u44::u45::u46::u47::u48::u49::u50::u51::u52::u53::u54::u55::u56::u57::u58::u59::u60::u61::u62::u63::u64::u65::u66::u67::u68::u69::u70::u71::u72::u73::u74::u75::u76::u77::u78::u79::u80::u81::u82::u83::u84::u85::u86::u87::u88::u89::u90::u91::u92::u93::v94::v95::v96::v97::v98::v99::v100::u101::u102::u103::u104::u105::u106::u107::u108::u109::u110::u111::u112::u113::u114::u115::u116::u117::u118::u119::u120::u121::u122::u123::u124::u125::u126::u127::u128::u129::u130::u131::u132::u133::u134::u135::[]),defers:=[] } W') :
  (Code.region 18 ops true).wp Tryz.prog Q { tmps:=List.toArray (u0::.pointer (some ⟨xB,0,none⟩)::u2::u3::.int .i64 i::u5::u6::.slice (some ⟨rb,0,none⟩) n n::u8::u9::u10::u11::u12::u13::u14::u15::u16::u17::u18::u19::u20::u21::u22::u23::u24::u25::u26::u27::u28::u29::u30::u31::u32::u33::u34::u35::u36::u37::u38::u39::u40::u41::u42::u43::u44::u45::u46::u47::u48::u49::u50::u51::u52::u53::u54::u55::u56::u57::u58::u59::u60::u61::u62::u63::u64::u65::u66::u67::u68::u69::u70::u71::u72::u73::u74::u75::u76::u77::u78::u79::u80::u81::u82::u83::u84::u85::u86::u87::u88::u89::u90::u91::u92::u93::u94::u95::u96::u97::u98::u99::u100::u101::u102::u103::u104::u105::u106::u107::u108::u109::u110::u111::u112::u113::u114::u115::u116::u117::u118::u119::u120::u121::u122::u123::u124::u125::u126::u127::u128::u129::u130::u131::u132::u133::u134::u135::[]),defers:=[] } w:=by
 obtain rfl:=Option.some.inj (ho.symm.trans (rfl:getOps Tryz.f37.body 18=some _))
 clear ho
 replace hQ:=A8 hQ
 obtain ⟨Iv,hI⟩:∃ Iv:(Nat→Bool)→Act→World→Prop,∀ l a W,Iv l a W↔(∃ s94 s95 s96 s97 s98 s99 s100:Value,a={ tmps:=List.toArray (u0::.pointer (some ⟨xB,0,none⟩)::u2::u3::.int .i64 i::u5::u6::.slice (some ⟨rb,0,none⟩) n n::u8::u9::u10::u11::u12::u13::u14::u15::u16::u17::u18::u19::u20::u21::u22::u23::u24::u25::u26::u27::u28::u29::u30::u31::u32::u33::u34::u35::u36::u37::u38::u39::u40::u41::u42::u43::u44::u45::u46::u47::u48::u49::u50::u51::u52::u53::u54::u55::u56::u57::u58::u59::u60::u61::u62::u63::u64::u65::u66::u67::u68::u69::u70::u71::u72::u73::u74::u75::u76::u77::u78::u79::u80::u81::u82::u83::u84::u85::u86::u87::u88::u89::u90::u91::u92::u93::s94::s95::s96::s97::s98::s99::s100::u101::u102::u103::u104::u105::u106::u107::u108::u109::u110::u111::u112::u113::u114::u115::u116::u117::u118::u119::u120::u121::u122::u123::u124::u125::u126::u127::u128::u129::u130::u131::u132::u133::u134::u135::[]),defers:=[] }∧Only [rb] w W∧Vs [(0,.slice (some ⟨rb,0,none⟩) n n,s94),(1,.pointer (some ⟨xB,0,none⟩),s95),(2,.int .i64 cols,s96),(3,.int .i64 i,s97),(4,.int .i64 q,s98),(5,.agg (wc (wd 1)),s99),(6,.pointer (some ⟨rb,q*12,none⟩),s100)] l∧((l 7=false→RowT W rb n Fr)∧(l 7=true→RowT W rb n (upd Fr q 1)))):=⟨_,fun _ _ _=>Iff.rfl⟩
 refine Ak Iv (by kernel_rfl) (by kernel_rfl) ((hI _ _ _).2 ⟨_,_,_,_,_,_,_,rfl,(Only.refl [rb] w).drewN 1,Vs.zero,⟨fun _=>hF.out.below (Ac w 1),fun h=>off h⟩⟩) (Ab (k:=0) ?_ (Ab (k:=1) ?_ (Ab (k:=2) ?_ (Ab (k:=3) ?_ (Ab (k:=4) ?_ (Ab (k:=5) ?_ (Ab (k:=6) ?_ (Ab (k:=7) ?_ (Af))))))))) ?_
 ·intro l a W hl hw hsh h K hK
  rw [hI] at h;iterate 7 obtain ⟨_,h⟩:=h
  obtain ⟨rfl,hC,hP,g⟩:=h
  go_simp
  apply hK.out;rw [hI];iterate 7 apply Exists.intro
  exact ⟨rfl,hC,hP.put 0 rfl rfl rfl,g⟩
 ·intro l a W hl hw hsh h K hK
  rw [hI] at h;iterate 7 obtain ⟨_,h⟩:=h
  obtain ⟨rfl,hC,hP,g⟩:=h
  go_simp
  apply hK.out;rw [hI];iterate 7 apply Exists.intro
  exact ⟨rfl,hC,hP.put 1 rfl rfl rfl,g⟩
 ·intro l a W hl hw hsh h K hK
  rw [hI] at h;iterate 7 obtain ⟨_,h⟩:=h
  obtain ⟨rfl,hC,hP,g⟩:=h
  obtain rfl:=hP.get 1 rfl (hw 1 (by kernel_rfl))
  have x1:=(hC.cell (p:=⟨xB,0,none⟩) h1.out.1 (by simpa using hxr.out)).trans h1.out.2
  go_simp
  apply hK.out;rw [hI];iterate 7 apply Exists.intro
  exact ⟨rfl,hC,hP.put 2 rfl rfl rfl,g⟩
 ·intro l a W hl hw hsh h K hK
  rw [hI] at h;iterate 7 obtain ⟨_,h⟩:=h
  obtain ⟨rfl,hC,hP,g⟩:=h
  go_simp
  apply hK.out;rw [hI];iterate 7 apply Exists.intro
  exact ⟨rfl,hC,hP.put 3 rfl rfl rfl,g⟩
 ·intro l a W hl hw hsh h K hK
  rw [hI] at h;iterate 7 obtain ⟨_,h⟩:=h
  obtain ⟨rfl,hC,hP,g⟩:=h
  obtain rfl:=hP.get 2 rfl (hw 2 (by kernel_rfl))
  obtain rfl:=hP.get 3 rfl (hw 3 (by kernel_rfl))
  go_simp
  apply hK.out;rw [hI];iterate 7 apply Exists.intro
  exact ⟨rfl,hC,hP.put 4 rfl rfl rfl,g⟩
 ·intro l a W hl hw hsh h K hK
  rw [hI] at h;iterate 7 obtain ⟨_,h⟩:=h
  obtain ⟨rfl,hC,hP,g⟩:=h
  go_simp
  go_at_call 75
  refine Calls.mono (DH 1 (by unfold Fits;omega) _) ?_
  rintro e W2 ⟨rfl,hb⟩
  apply hK.out;rw [hI];iterate 7 apply Exists.intro
  exact ⟨rfl,hC.below hb,hP.put 5 rfl rfl rfl,⟨fun h=>(g.1 h).below hb,fun h=>(g.2 h).below hb⟩⟩
 ·intro l a W hl hw hsh h K hK
  rw [hI] at h;iterate 7 obtain ⟨_,h⟩:=h
  obtain ⟨rfl,hC,hP,g⟩:=h
  obtain rfl:=hP.get 0 rfl (hw 0 (by kernel_rfl))
  obtain rfl:=hP.get 4 rfl (hw 4 (by kernel_rfl))
  go_simp
  apply hK.out;rw [hI];iterate 7 apply Exists.intro
  exact ⟨rfl,hC,hP.put 6 rfl rfl rfl,g⟩
 ·intro l a W hl hw hsh h K hK
  rw [hI] at h;iterate 7 obtain ⟨_,h⟩:=h
  obtain ⟨rfl,hC,hP,g⟩:=h
  obtain rfl:=hP.get 5 rfl (hw 5 (by kernel_rfl))
  obtain rfl:=hP.get 6 rfl (hw 6 (by kernel_rfl))
  rw [if_pos (by rfl)]
  have hG1:=g.1 hl
  refine wp_store_mid _ _ _ rfl _ _ (wl (wd 1)).toArray rfl rfl (by rw [List.size_toArray];exact hG1.row.wr q hq) (by rw [List.size_toArray];exact BO _) (all_oneCell_toArray (Dn _)) ?_
  rw [List.toList_toArray]
  apply hK.out;rw [hI];iterate 7 apply Exists.intro
  exact ⟨rfl,hC.trans (Ag _ _ _),hP.skip 7 rfl,⟨fun h=>off h.symm,fun _=>hG1.set hq _⟩⟩
 ·intro a W hI'
  have h:=(hI _ _ _).1 hI';clear hI';iterate 7 obtain ⟨_,h⟩:=h
  obtain ⟨rfl,hC,hP,g⟩:=h
  exact hQ.out _ _ _ _ _ _ _ _ hC (g.2 (by kernel_rfl))
end
section
open Go.RowKit
open LnM (wd upd sm)
attribute [local go_sem] Oper.semAt_some
def rowOf (rows:List (List Int×Int)) (i:Nat):List Int×Int:=rows[i]?.getD ([],0)
def sgnOf (rows:List (List Int×Int)) (i:Nat):Int:=if (rowOf rows i).2<0 then -1 else 1
def sysOf (cols:Nat) (rows:List (List Int×Int)):LnM.Sys where
 m:=rows.length
 n:=cols
 S:=fun i j=>if j<cols then sgnOf rows i*gi (rowOf rows i).1 j else if j<cols+rows.length then (if i=j-cols then 1 else 0) else sgnOf rows i*(rowOf rows i).2
theorem Jm (cols:Nat) (rows:List (List Int×Int)):(sysOf cols rows).Ok:=by
 refine ⟨fun i _ l hl=>?_,fun i _=>?_⟩
 ·show (if cols+l<cols then _ else if cols+l<cols+rows.length then (if i=cols+l-cols then (1:Int) else 0) else _)=_
  have hl':l<rows.length:=hl
  rw [if_neg (by omega),if_pos (by omega),Nat.add_sub_cancel_left]
 ·show 0≤(if cols+rows.length<cols then _ else if cols+rows.length<cols+rows.length then _ else _)
  rw [if_neg (by omega),if_neg (by omega)]
  unfold sgnOf
  split <;> omega
def qOf (s:LnM.Sys) (c:Nat):Nat:=if c=s.n then s.n+s.m else c
def rowF (s:LnM.Sys) (i c j:Nat):Int:=if (j<s.n∧j<c)∨(j=s.n+s.m∧s.n<c) then s.S i j else 0
def costF (s:LnM.Sys) (i j:Nat):Int:=if j<s.n∨j=s.n+s.m then -sm i (fun r=>s.S r j) else 0
theorem G7 (s:LnM.Sys) (i j:Nat):rowF s i 0 j=0:=if_neg (by omega)
theorem qOf_lt {s:LnM.Sys} {c:Nat} (h:c≤s.n):qOf s c<s.n+s.m+1:=by unfold qOf;split <;> omega
theorem rowF_q {s:LnM.Sys} {i c:Nat} (h:c≤s.n):rowF s i c (qOf s c)=0:=by
 unfold rowF qOf
 split <;> exact if_neg (by omega)
theorem G8 {s:LnM.Sys} {i c:Nat} (h:c≤s.n) {j:Nat} (hj:j<s.n+s.m+1):upd (rowF s i c) (qOf s c) (s.S i (qOf s c)) j=rowF s i (c+1) j:=by
 unfold upd
 by_cases e:j=qOf s c
 ·subst e
  rw [if_pos rfl]
  unfold rowF
  rw [if_pos]
  unfold qOf
  split <;> omega
 ·rw [if_neg e]
  unfold rowF
  unfold qOf at e
  by_cases hc:c=s.n
  ·rw [if_pos hc] at e
   by_cases h1:(j<s.n∧j<c)∨(j=s.n+s.m∧s.n<c)
   ·rw [if_pos h1,if_pos (by omega)]
   ·rw [if_neg h1,if_neg (by omega)]
  ·rw [if_neg hc] at e
   by_cases h1:(j<s.n∧j<c)∨(j=s.n+s.m∧s.n<c)
   ·rw [if_pos h1,if_pos (by omega)]
   ·rw [if_neg h1,if_neg (by omega)]
theorem KN {s:LnM.Sys} (ho:s.Ok) {i:Nat} (hi:i<s.m) {j:Nat} (hj:j<s.n+s.m+1):upd (rowF s i (s.n+1)) (s.n+i) 1 j=s.S i j:=by
 unfold upd
 by_cases e:j=s.n+i
 ·subst e;rw [if_pos rfl,ho.unit i hi i hi,if_pos rfl]
 ·rw [if_neg e]
  unfold rowF
  by_cases h1:(j<s.n∧j<s.n+1)∨(j=s.n+s.m∧s.n<s.n+1)
  ·rw [if_pos h1]
  ·rw [if_neg h1]
   obtain ⟨l,rfl⟩:∃ l,j=s.n+l:=⟨j-s.n,by omega⟩
   rw [ho.unit i hi l (by omega),if_neg (by omega)]
theorem Jn (s:LnM.Sys) (j:Nat):costF s 0 j=0:=by unfold costF;split <;> rfl
theorem Jo {s:LnM.Sys} {i c:Nat} (h:c≤s.n) {j:Nat} (hj:j<s.n+s.m+1) :
  upd (fun j=>costF s i j-rowF s i c j) (qOf s c) (costF s i (qOf s c)-rowF s i c (qOf s c)-s.S i (qOf s c)) j=costF s i j-rowF s i (c+1) j:=by
 rw [←G8 h hj,rowF_q h]
 unfold upd
 by_cases e:j=qOf s c
 ·subst e;rw [if_pos rfl,if_pos rfl];omega
 ·rw [if_neg e,if_neg e]
theorem F8 {s:LnM.Sys} {i c q:Nat} {z:Int} (hq:q=qOf s c) (hz:z=s.S i q) (h:c≤s.n) {j:Nat} (hj:j<s.n+s.m+1):upd (rowF s i c) q z j=rowF s i (c+1) j:=by
 subst hz;subst hq;exact G8 h hj
theorem Em {s:LnM.Sys} {i c q:Nat} {z:Int} (hq:q=qOf s c) (hz:z=s.S i q) (h:c≤s.n) {j:Nat} (hj:j<s.n+s.m+1):upd (fun j=>costF s i j-rowF s i c j) q (costF s i q-rowF s i c q-z) j=costF s i j-rowF s i (c+1) j:=by
 subst hz;subst hq;exact Jo h hj
theorem Jp {s:LnM.Sys} {i j:Nat}:costF s i j-rowF s i (s.n+1) j=costF s (i+1) j:=by
 unfold costF rowF
 by_cases h:j<s.n∨j=s.n+s.m
 ·rw [if_pos h,if_pos h,if_pos (by omega)]
  show _=-(sm i (fun r=>s.S r j)+s.S i j)
  omega
 ·rw [if_neg h,if_neg h,if_neg (by omega)];rfl
theorem KO {s:LnM.Sys} (ho:s.Ok) {j:Nat} (hj:j<s.n+s.m+1):costF s s.m j=s.C s.B0 j:=by
 have hsum:sm s.m (fun i=>s.c (s.B0 i)*s.T s.B0 i j)=sm s.m (fun i=>s.S i j):=LnM.sm_congr fun i hi=>by
  rw [LnM.T_B0 ho hi]
  have:s.c (s.B0 i)=1:=by unfold LnM.Sys.c LnM.Sys.B0;rw [if_pos (by omega)]
  rw [this,Int.one_mul]
 unfold LnM.Sys.C
 rw [LnM.d_B0 ho,Int.one_mul,hsum]
 unfold costF LnM.Sys.c
 by_cases h:j<s.n∨j=s.n+s.m
 ·rw [if_pos h,if_neg (by omega)];omega
 ·rw [if_neg h,if_pos (by omega)]
  obtain ⟨l,rfl⟩:∃ l,j=s.n+l:=⟨j-s.n,by omega⟩
  have hl:l<s.m:=by omega
  rw [LnM.sm_single hl (fun i hi hne=>by rw [ho.unit i hi l hl,if_neg hne]),ho.unit l hl l hl,if_pos rfl];omega
theorem open_l2 {Q:Exit→Act→World→Prop} {u0 u2 u4 u5 u8 u9 u10 u11 u12 u13 u14 u15 u16 u17 u18 u19 u20 u21 u22 u23 u24 u25 u26 u27 u28 u29 u30 u31 u32 u33 u34 u35 u36 u37 u38 u39 u40 u41 u42 u43 u44 u45 u46 u47 u48 u49 u50 u51 u52 u56 u57 u58 u59 u60 u61 u62 u63 u64 u65 u66 u67 u68 u69 u70 u71 u72 u73 u74 u75 u76 u77 u78 u79 u80 u81 u82 u83 u84 u85 u86 u87 u88 u89 u90 u91 u92 u93 u94 u95 u96 u97 u98 u99 u100 u101 u102 u103 u104 u105 u106 u107 u108 u109 u110 u111 u112 u113 u114 u115 u116 u117 u118 u119 u120 u121 u122 u123 u124 u125 u126 u127 u128 u129 u130 u131 u132 u133 u134 u135:Value} {xB tb rb cb g cols cap' n i:Nat} {sg c1:Int} (hc1:Hid (c1=(cols:Int)+1)) {es:List Int} {s:LnM.Sys} {w:World} (hsn:Hid (s.n=cols)) (hn:Hid (n=s.n+s.m+1)) (hn1:n≤100000) (hes:Hid (es.length=cols+1)) (hSl:Hid (Sl w (.slice (some ⟨g,0,none⟩) (cols+1) cap') es))
  (hbd:Hid (∀ c,c≤cols→IntKind.i64.wrap (sg*gi es c)=s.S i (qOf s c)∧Fits (s.S i (qOf s c)))) (hx:Hid (xB<w.heap.size∧w.cell? ⟨xB,0,none⟩=some (.int .i64 cols)∧xB≠rb∧xB≠cb))
  (ht:Hid (tb<w.heap.size∧w.cell? ⟨tb,1,none⟩=some (.slice (some ⟨cb,0,none⟩) n n)∧tb≠rb∧tb≠cb)) (hrc:Hid (rb≠cb)) (hg:Hid (g≠rb∧g≠cb))
  (hR:Hid (RowT w rb n (rowF s i 0))) (hC:Hid (RowT w cb n (fun j=>costF s i j-rowF s i 0 j))) {body:Code} (hbody:getLoop Tryz.f37.body 2=some body)
  (hQ:∀ (v8 v9 v10 v55 v56 v57 v58 v59 v60 v61 v62 v63 v64 v65 v66 v67 v68 v69 v70 v71 v72 v73 v74 v75 v76 v77 v78 v79 v80 v81 v82 v83 v84 v85 v86 v87 v88 v89 v90 v91 v92 v93:Value) (W':World),Only [rb,cb] w W'→RowT W' rb n (rowF s i (cols+1))→RowT W' cb n (fun j=>costF s i j-rowF s i (cols+1) j)→Q (.exit 2) { tmps:=List.toArray (u0::.pointer (some ⟨xB,0,none⟩)::u2::.pointer (some ⟨tb,0,none⟩)::u4::u5::.int .i64 sg::.slice (some ⟨rb,0,none⟩) n n::v8::v9::v10::u11::u12::u13::u14::u15::u16::u17::u18::u19::u20::u21::u22::u23::u24::u25::u26::u27::u28::u29::u30::u31::u32::u33::u34::u35::u36::u37::u38::u39::u40::u41::u42::u43::u44::u45::u46::u47::u48::u49::u50::u51::u52::.slice (some ⟨g,0,none⟩) (cols+1) cap'::.int .i64 c1::v55::v56::v57::v58::v59::v60::v61::v62::v63::v64::v65::v66::v67::v68::v69::v70::v71::v72::v73::v74::v75::v76::v77::v78::v79::v80::v81::v82::v83::v84::v85::v86::v87::v88::v89::v90::v91::v92::v93::u94::u95::u96::u97::u98::u99::u100::u101::u102::u103::u104::u105::u106::u107::u108::u109::u110::u111::u112::u113::u114::u115::u116::u117::u118::u119::u120::u121::u122::u123::u124::u125::u126::u127::u128::u129::u130::u131::u132::u133::u134::u135::[]),defers:=[] } W') :
  (Code.loop body).wp Tryz.prog Q { tmps:=List.toArray (u0::.pointer (some ⟨xB,0,none⟩)::u2::.pointer (some ⟨tb,0,none⟩)::u4::u5::.int .i64 sg::.slice (some ⟨rb,0,none⟩) n n::u8::u9::u10::u11::u12::u13::u14::u15::u16::u17::u18::u19::u20::u21::u22::u23::u24::u25::u26::u27::u28::u29::u30::u31::u32::u33::u34::u35::u36::u37::u38::u39::u40::u41::u42::u43::u44::u45::u46::u47::u48::u49::u50::u51::u52::.slice (some ⟨g,0,none⟩) (cols+1) cap'::.int .i64 c1::.int .i64 0::u56::u57::u58::u59::u60::u61::u62::u63::u64::u65::u66::u67::u68::u69::u70::u71::u72::u73::u74::u75::u76::u77::u78::u79::u80::u81::u82::u83::u84::u85::u86::u87::u88::u89::u90::u91::u92::u93::u94::u95::u96::u97::u98::u99::u100::u101::u102::u103::u104::u105::u106::u107::u108::u109::u110::u111::u112::u113::u114::u115::u116::u117::u118::u119::u120::u121::u122::u123::u124::u125::u126::u127::u128::u129::u130::u131::u132::u133::u134::u135::[]),defers:=[] } w:=by
 obtain rfl:=Option.some.inj (hbody.symm.trans (rfl:getLoop Tryz.f37.body 2=some _))
 clear hbody
 replace hQ:=A8 hQ
 go_loopw [55] (fun o wr=>∃ c:Nat,o=.int .i64 c∧c≤cols+1∧Hid (Only [rb,cb] w wr)∧Hid (RowT wr rb n (rowF s i c))∧Hid (RowT wr cb n (fun j=>costF s i j-rowF s i c j))) (fun o _=>cols+1-(intOf o).toNat)
 case atStart=>exact ⟨0,rfl,by omega,A8 (Only.refl _ _),hR,hC⟩
 case round =>
  clear hR hC
  obtain ⟨c,rfl,hc,hO,hR,hC⟩:=hrel
  by_cases hcl:c<cols+1
  case neg =>
   obtain rfl:c=cols+1:=by omega
   have h1:¬ ((cols:Int)+1)<c1:=by rw [hc1.out];omega
   have h1b:¬ ((cols+1:Nat):Int)<c1:=by rw [hc1.out];omega
   go_wp2_with fail
   exact hQ.out _ _ _ _ _ _ _ _ _ _ _ _ _ _ _ _ _ _ _ _ _ _ _ _ _ _ _ _ _ _ _ _ _ _ _ _ _ _ _ _ _ _ _ hO.out hR.out hC.out
  case pos =>
   have hcn:c<n:=by have:=hn.out;have:=hsn.out;omega
   have h1:(c:Int)<c1:=by rw [hc1.out];omega
   have h2:(c:Int)<(cols:Int)+1:=by omega
   have h0:(0:Int)≤c:=by omega
   have x0:wr.cell? ⟨g,c,none⟩=some (.int .i64 (gi es c)):=by
    rcases hSl.out with ⟨e,_⟩ | ⟨b,off,cap,e,k1,k2,k3,k4⟩
    ·cases e
    ·rw [hes.out] at e
     cases e
     have:=(hO.out.cell (p:=⟨g,0+c,none⟩) k3 (by simpa using hg.out)).trans (k4 c (by rw [hes.out];omega))
     rwa [Nat.zero_add] at this
   have x1:=(hO.out.cell (p:=⟨xB,0,none⟩) hx.out.1 (by simpa using hx.out.2.2)).trans hx.out.2.1
   obtain ⟨hz,hzf⟩:=hbd.out c (by omega)
   obtain ⟨q,hq⟩:∃ q,q=qOf s c:=⟨_,rfl⟩
   have hqn:q<n:=by rw [hq,hn.out];exact qOf_lt (by rw [hsn.out];omega)
   rw [←hq] at hz hzf
   obtain ⟨z,hzz⟩:∃ z,z=s.S i q:=⟨_,rfl⟩
   rw [←hzz] at hz hzf
   generalize gi es c=e at *
   have hqi:(q:Int)<n:=by omega
   have hq0:(0:Int)≤q:=by omega
   have hq':=A8 hq
   have hzz':=A8 hzz
   replace hzf:=A8 hzf
   clear hzz
   by_cases hcc:c=cols
   ·have hw1:IntKind.i64.wrap ((n:Int)-1)=q:=by
     rw [IntWalk.i64_in _ (by omega)]
     have:q=s.n+s.m:=by rw [hq,hcc];unfold qOf;rw [if_pos hsn.out.symm]
     have:=hn.out
     omega
    have hce:((c:Int)==(cols:Int))=true:=by simp [hcc]
    replace hcc:=A8 hcc
    clear hq
    go_wp2_with fail
    refine Calls.mono (DH z hzf.out _) ?_
    rintro e2 w1 ⟨rfl,hb⟩
    have hO1:=A8 (hO.out.below hb)
    have R1:=A8 (hR.out.below hb)
    have C1:=A8 (hC.out.below hb)
    clear x0 x1 hb
    obtain ⟨b0,b1,b2,b3,b4,b5,b6,b7,b8,b9,b10,b11⟩:=Ax (R1.out.row.rd q hqn)
    have f0:w1.frozen? ⟨rb,q*12,none⟩=false:=(R1.out.row.wr q hqn 0 (by decide)).2
    have f1:w1.frozen? ⟨rb,q*12+1,none⟩=false:=(R1.out.row.wr q hqn 1 (by decide)).2
    have f2:w1.frozen? ⟨rb,q*12+2,none⟩=false:=(R1.out.row.wr q hqn 2 (by decide)).2
    have f3:w1.frozen? ⟨rb,q*12+3,none⟩=false:=(R1.out.row.wr q hqn 3 (by decide)).2
    have f4:w1.frozen? ⟨rb,q*12+4,none⟩=false:=(R1.out.row.wr q hqn 4 (by decide)).2
    have f5:w1.frozen? ⟨rb,q*12+5,none⟩=false:=(R1.out.row.wr q hqn 5 (by decide)).2
    have f6:w1.frozen? ⟨rb,q*12+6,none⟩=false:=(R1.out.row.wr q hqn 6 (by decide)).2
    have f7:w1.frozen? ⟨rb,q*12+7,none⟩=false:=(R1.out.row.wr q hqn 7 (by decide)).2
    have f8:w1.frozen? ⟨rb,q*12+8,none⟩=false:=(R1.out.row.wr q hqn 8 (by decide)).2
    have f9:w1.frozen? ⟨rb,q*12+9,none⟩=false:=(R1.out.row.wr q hqn 9 (by decide)).2
    have f10:w1.frozen? ⟨rb,q*12+10,none⟩=false:=(R1.out.row.wr q hqn 10 (by decide)).2
    have f11:w1.frozen? ⟨rb,q*12+11,none⟩=false:=(R1.out.row.wr q hqn 11 (by decide)).2
    have R2:=R1.out.set hqn z
    go_upto_region 16 with fail
    obtain ⟨W2,hW2⟩:∃ W2,W2=w1.setCells rb (q*12) (wl (wd z)):=⟨_,rfl⟩
    have hOs:=Ag (B:=rb) (wl (wd z)) (q*12) w1
    rw [←hW2] at R2 hOs
    rw [show ((((((((((((w1.setCell ⟨rb,q*12,none⟩ (.int .u64 (wd z 0))).setCell ⟨rb,q*12+1,none⟩ (.int .u64 (wd z 1))).setCell ⟨rb,q*12+2,none⟩ (.int .u64 (wd z 2))).setCell ⟨rb,q*12+3,none⟩ (.int .u64 (wd z 3))).setCell ⟨rb,q*12+4,none⟩ (.int .u64 (wd z 4))).setCell ⟨rb,q*12+5,none⟩ (.int .u64 (wd z 5))).setCell ⟨rb,q*12+6,none⟩ (.int .u64 (wd z 6))).setCell ⟨rb,q*12+7,none⟩ (.int .u64 (wd z 7))).setCell ⟨rb,q*12+8,none⟩ (.int .u64 (wd z 8))).setCell ⟨rb,q*12+9,none⟩ (.int .u64 (wd z 9))).setCell ⟨rb,q*12+10,none⟩ (.int .u64 (wd z 10))).setCell ⟨rb,q*12+11,none⟩ (.int .u64 (wd z 11)))=W2 from hW2.symm]
    clear hW2 b0 f0 b1 f1 b2 f2 b3 f3 b4 f4 b5 f5 b6 f6 b7 f7 b8 f8 b9 f9 b10 f10 b11 f11
    have C2:=C1.out.only hOs (by simpa using (fun e=>hrc.out e.symm))
    have hO2:=A8 (hO1.out.trans (hOs.mono (T:=[rb,cb]) (by simp)))
    have t1:=A8 (⟨A9 ht.out.1 hO2.out.size,(hO2.out.cell (p:=⟨tb,1,none⟩) ht.out.1 (by simpa using ht.out.2.2)).trans ht.out.2.1⟩:tb<W2.heap.size∧W2.cell? ⟨tb,1,none⟩=some (.slice (some ⟨cb,0,none⟩) n n))
    refine Ie hqn hqi hq0 t1 (A8 C2) (A8 R2) (A8 ht.out.2.2.2) hrc (by kernel_rfl) ?_
    intro v75 v76 v77 v78 v79 v80 v81 v82 v83 v84 v85 v86 v87 v88 v89 v90 v91 v92 W3 hO3 C3
    have R3:=R2.only hO3 (by simpa using hrc.out)
    rw [LnM.upd_same] at C3
    have hOf:=A8 (hO2.out.trans (hO3.mono (T:=[rb,cb]) (by simp)))
    have Rf:=A8 (R3.congr (g:=rowF s i (c+1)) (fun j hj=>F8 (c:=c) hq'.out hzz'.out (by rw [hsn.out];omega) (by rw [←hn.out];exact hj)))
    have Cf:=A8 (C3.congr (g:=fun j=>costF s i j-rowF s i (c+1) j) (fun j hj=>Em (c:=c) hq'.out hzz'.out (by rw [hsn.out];omega) (by rw [←hn.out];exact hj)))
    clear R2 C2 R3 C3 hO3 t1 hO2 R1 C1 hO1 hR hC hO
    go_wp2_with fail
    go_roundw
    case rel=>exact ⟨c+1,by go_num,by omega,hOf,Rf,Cf⟩
    case measure=>simp [intOf];omega
   ·have hce:((c:Int)==(cols:Int))=false:=by simp;omega
    have hqc:q=c:=by rw [hq];unfold qOf;rw [if_neg (by rw [hsn.out];exact hcc)]
    subst hqc
    clear hq
    go_wp2_with fail
    refine Calls.mono (DH z hzf.out _) ?_
    rintro e2 w1 ⟨rfl,hb⟩
    have hO1:=A8 (hO.out.below hb)
    have R1:=A8 (hR.out.below hb)
    have C1:=A8 (hC.out.below hb)
    clear x0 x1 hb
    obtain ⟨b0,b1,b2,b3,b4,b5,b6,b7,b8,b9,b10,b11⟩:=Ax (R1.out.row.rd q hqn)
    have f0:w1.frozen? ⟨rb,q*12,none⟩=false:=(R1.out.row.wr q hqn 0 (by decide)).2
    have f1:w1.frozen? ⟨rb,q*12+1,none⟩=false:=(R1.out.row.wr q hqn 1 (by decide)).2
    have f2:w1.frozen? ⟨rb,q*12+2,none⟩=false:=(R1.out.row.wr q hqn 2 (by decide)).2
    have f3:w1.frozen? ⟨rb,q*12+3,none⟩=false:=(R1.out.row.wr q hqn 3 (by decide)).2
    have f4:w1.frozen? ⟨rb,q*12+4,none⟩=false:=(R1.out.row.wr q hqn 4 (by decide)).2
    have f5:w1.frozen? ⟨rb,q*12+5,none⟩=false:=(R1.out.row.wr q hqn 5 (by decide)).2
    have f6:w1.frozen? ⟨rb,q*12+6,none⟩=false:=(R1.out.row.wr q hqn 6 (by decide)).2
    have f7:w1.frozen? ⟨rb,q*12+7,none⟩=false:=(R1.out.row.wr q hqn 7 (by decide)).2
    have f8:w1.frozen? ⟨rb,q*12+8,none⟩=false:=(R1.out.row.wr q hqn 8 (by decide)).2
    have f9:w1.frozen? ⟨rb,q*12+9,none⟩=false:=(R1.out.row.wr q hqn 9 (by decide)).2
    have f10:w1.frozen? ⟨rb,q*12+10,none⟩=false:=(R1.out.row.wr q hqn 10 (by decide)).2
    have f11:w1.frozen? ⟨rb,q*12+11,none⟩=false:=(R1.out.row.wr q hqn 11 (by decide)).2
    have R2:=R1.out.set hqn z
    go_upto_region 16 with fail
    obtain ⟨W2,hW2⟩:∃ W2,W2=w1.setCells rb (q*12) (wl (wd z)):=⟨_,rfl⟩
    have hOs:=Ag (B:=rb) (wl (wd z)) (q*12) w1
    rw [←hW2] at R2 hOs
    rw [show ((((((((((((w1.setCell ⟨rb,q*12,none⟩ (.int .u64 (wd z 0))).setCell ⟨rb,q*12+1,none⟩ (.int .u64 (wd z 1))).setCell ⟨rb,q*12+2,none⟩ (.int .u64 (wd z 2))).setCell ⟨rb,q*12+3,none⟩ (.int .u64 (wd z 3))).setCell ⟨rb,q*12+4,none⟩ (.int .u64 (wd z 4))).setCell ⟨rb,q*12+5,none⟩ (.int .u64 (wd z 5))).setCell ⟨rb,q*12+6,none⟩ (.int .u64 (wd z 6))).setCell ⟨rb,q*12+7,none⟩ (.int .u64 (wd z 7))).setCell ⟨rb,q*12+8,none⟩ (.int .u64 (wd z 8))).setCell ⟨rb,q*12+9,none⟩ (.int .u64 (wd z 9))).setCell ⟨rb,q*12+10,none⟩ (.int .u64 (wd z 10))).setCell ⟨rb,q*12+11,none⟩ (.int .u64 (wd z 11)))=W2 from hW2.symm]
    clear hW2 b0 f0 b1 f1 b2 f2 b3 f3 b4 f4 b5 f5 b6 f6 b7 f7 b8 f8 b9 f9 b10 f10 b11 f11
    have C2:=C1.out.only hOs (by simpa using (fun e=>hrc.out e.symm))
    have hO2:=A8 (hO1.out.trans (hOs.mono (T:=[rb,cb]) (by simp)))
    have t1:=A8 (⟨A9 ht.out.1 hO2.out.size,(hO2.out.cell (p:=⟨tb,1,none⟩) ht.out.1 (by simpa using ht.out.2.2)).trans ht.out.2.1⟩:tb<W2.heap.size∧W2.cell? ⟨tb,1,none⟩=some (.slice (some ⟨cb,0,none⟩) n n))
    refine Ie hqn hqi hq0 t1 (A8 C2) (A8 R2) (A8 ht.out.2.2.2) hrc (by kernel_rfl) ?_
    intro v75 v76 v77 v78 v79 v80 v81 v82 v83 v84 v85 v86 v87 v88 v89 v90 v91 v92 W3 hO3 C3
    have R3:=R2.only hO3 (by simpa using hrc.out)
    rw [LnM.upd_same] at C3
    have hOf:=A8 (hO2.out.trans (hO3.mono (T:=[rb,cb]) (by simp)))
    have Rf:=A8 (R3.congr (g:=rowF s i (q+1)) (fun j hj=>F8 (c:=q) hq'.out hzz'.out (by rw [hsn.out];omega) (by rw [←hn.out];exact hj)))
    have Cf:=A8 (C3.congr (g:=fun j=>costF s i j-rowF s i (q+1) j) (fun j hj=>Em (c:=q) hq'.out hzz'.out (by rw [hsn.out];omega) (by rw [←hn.out];exact hj)))
    clear R2 C2 R3 C3 hO3 t1 hO2 R1 C1 hO1 hR hC hO
    go_wp2_with fail
    go_roundw
    case rel=>exact ⟨q+1,by go_num,by omega,hOf,Rf,Cf⟩
    case measure=>simp [intOf];omega
end
section
open Go.RowKit
open LnM (wd upd)
attribute [local go_sem] Oper.semAt_some
theorem LX {Q:Exit→Act→World→Prop} {u0 u2 u5 u8 u9 u10 u11 u12 u13 u14 u15 u16 u17 u18 u19 u20 u21 u22 u23 u24 u25 u26 u27 u28 u29 u30 u31 u32 u33 u34 u35 u36 u37 u38 u39 u40 u41 u42 u43 u44 u45 u46 u47 u48 u49 u50 u51 u52 u53 u54 u55 u56 u57 u58 u59 u60 u61 u62 u63 u64 u65 u66 u67 u68 u69 u70 u71 u72 u73 u74 u75 u76 u77 u78 u79 u80 u81 u82 u83 u84 u85 u86 u87 u88 u89 u90 u91 u92 u93 u94 u95 u96 u97 u98 u99 u100 u101 u102 u103 u104 u105 u106 u107 u108 u109 u110 u111 u112 u113 u114 u115 u116 u117 u118 u119 u120 u121 u122 u123 u124 u125 u126 u127 u128 u129 u130 u131 u132 u133 u134 u135:Value} {tb cb rb xB n cols i q base:Nat} {sg:Int} {rv bv sv:Value} {xr xb xs:List Value} {w:World} (hqe:IntKind.i64.wrap ((cols:Int)+i)=q) (hi:i≤1000) (hbase:base≤w.heap.size)
  (hx:Hid (xB<w.heap.size∧w.cell? ⟨xB,0,none⟩=some (.int .i64 cols)∧xB∉hotS tb rv bv sv)) (hT:Hid (Blk w tb (tbc (rv) cb n (bv) (sv) 1 cols) 75)) (hO:Hid (Own3 w w base rv bv sv rv i xr bv i xb sv i xs)) {ops:Array Oper} (ho:getOps Tryz.f37.body 19=some ops)
  (hQ:∀ (v101 v102 v103 v104 v105 v106 v107 v108 v109 v110 v111 v112 v113 v114 v115 v116 v117 v118 v119 v120 v121 v122 v123 v124 v125 v126 v127 v128 v129 v130 v131 v132 v133:Value) (gr kr gb kb gs ks:Nat) (W':World),Only (hotS tb rv bv sv) w W'→Blk W' tb (tbc (.slice (some ⟨gr,0,none⟩) (i+1) kr) cb n (.slice (some ⟨gb,0,none⟩) (i+1) kb) (.slice (some ⟨gs,0,none⟩) (i+1) ks) 1 cols) 75→Own3 w W' base rv bv sv (.slice (some ⟨gr,0,none⟩) (i+1) kr) (i+1) (xr++[.slice (some ⟨rb,0,none⟩) n n]) (.slice (some ⟨gb,0,none⟩) (i+1) kb) (i+1) (xb++[.int .i64 q]) (.slice (some ⟨gs,0,none⟩) (i+1) ks) (i+1) (xs++[.int .i64 sg])→Q .normal { tmps:=List.toArray (u0::.pointer (some ⟨xB,0,none⟩)::u2::.pointer (some ⟨tb,0,none⟩)::.int .i64 i::u5::.int .i64 sg::.slice (some ⟨rb,0,none⟩) n n::u8::u9::u10::u11::u12::u13::u14::u15::u16::u17::u18::u19::u20::u21::u22::u23::u24::u25::u26::u27::u28::u29::u30::u31::u32::u33::u34::u35::u36::u37::u38::u39::u40::u41::u42::u43::u44::u45::u46::u47::u48::u49::u50::u51::u52::u53::u54::u55::u56::u57::u58::u59::u60::u61::u62::u63::u64::u65::u66::u67::u68::u69::u70::u71::u72::u73::u74::u75::u76::u77::u78::u79::u80::u81::u82::u83::u84::u85::u86::u87::u88::u89::u90::u91::u92::u93::u94::u95::u96::u97::u98::u99::u100::v101::v102::v103::v104::v105::v106::v107::v108::v109::v110::v111::v112::v113::v114::v115::v116::v117::v118::v119::v120::v121::v122::v123::v124::v125::v126::v127::v128::v129::v130::v131::v132::v133::u134::u135::[]),defers:=[] } W') :
  (Code.region 19 ops true).wp Tryz.prog Q { tmps:=List.toArray (u0::.pointer (some ⟨xB,0,none⟩)::u2::.pointer (some ⟨tb,0,none⟩)::.int .i64 i::u5::.int .i64 sg::.slice (some ⟨rb,0,none⟩) n n::u8::u9::u10::u11::u12::u13::u14::u15::u16::u17::u18::u19::u20::u21::u22::u23::u24::u25::u26::u27::u28::u29::u30::u31::u32::u33::u34::u35::u36::u37::u38::u39::u40::u41::u42::u43::u44::u45::u46::u47::u48::u49::u50::u51::u52::u53::u54::u55::u56::u57::u58::u59::u60::u61::u62::u63::u64::u65::u66::u67::u68::u69::u70::u71::u72::u73::u74::u75::u76::u77::u78::u79::u80::u81::u82::u83::u84::u85::u86::u87::u88::u89::u90::u91::u92::u93::u94::u95::u96::u97::u98::u99::u100::u101::u102::u103::u104::u105::u106::u107::u108::u109::u110::u111::u112::u113::u114::u115::u116::u117::u118::u119::u120::u121::u122::u123::u124::u125::u126::u127::u128::u129::u130::u131::u132::u133::u134::u135::[]),defers:=[] } w:=by
 obtain rfl:=Option.some.inj (ho.symm.trans (rfl:getOps Tryz.f37.body 19=some _))
 clear ho
 replace hQ:=A8 hQ
 obtain ⟨Iv,hI⟩:∃ Iv:(Nat→Bool)→Act→World→Prop,∀ l a W,Iv l a W↔(∃ s101 s102 s103 s104 s105 s106 s107 s108 s109 s110 s111 s112 s113 s114 s115 s116 s117 s118 s119 s120 s121 s122 s123 s124 s125 s126 s127 s128 s129 s130 s131 s132 s133:Value,a={ tmps:=List.toArray (u0::.pointer (some ⟨xB,0,none⟩)::u2::.pointer (some ⟨tb,0,none⟩)::.int .i64 i::u5::.int .i64 sg::.slice (some ⟨rb,0,none⟩) n n::u8::u9::u10::u11::u12::u13::u14::u15::u16::u17::u18::u19::u20::u21::u22::u23::u24::u25::u26::u27::u28::u29::u30::u31::u32::u33::u34::u35::u36::u37::u38::u39::u40::u41::u42::u43::u44::u45::u46::u47::u48::u49::u50::u51::u52::u53::u54::u55::u56::u57::u58::u59::u60::u61::u62::u63::u64::u65::u66::u67::u68::u69::u70::u71::u72::u73::u74::u75::u76::u77::u78::u79::u80::u81::u82::u83::u84::u85::u86::u87::u88::u89::u90::u91::u92::u93::u94::u95::u96::u97::u98::u99::u100::s101::s102::s103::s104::s105::s106::s107::s108::s109::s110::s111::s112::s113::s114::s115::s116::s117::s118::s119::s120::s121::s122::s123::s124::s125::s126::s127::s128::s129::s130::s131::s132::s133::u134::u135::[]),defers:=[] }∧Only (hotS tb rv bv sv) w W∧Vs [(0,.pointer (some ⟨tb,0,none⟩),s101),(1,.pointer (some ⟨tb,0,none⟩),s102),(2,.pointer (some ⟨tb,0,none⟩),s103),(3,.pointer (some ⟨tb,0,none⟩),s104),(4,.pointer (some ⟨tb,0,none⟩),s105),(5,.pointer (some ⟨tb,0,none⟩),s106),(6,rv,s107),(7,.slice (some ⟨rb,0,none⟩) n n,s108),(10,.pointer (some ⟨tb,0,none⟩),s111),(11,.pointer (some ⟨tb,0,none⟩),s112),(12,.pointer (some ⟨tb,2,none⟩),s113),(13,bv,s114),(14,.pointer (some ⟨xB,0,none⟩),s115),(15,.int .i64 cols,s116),(16,.int .i64 i,s117),(17,.int .i64 q,s118),(20,.pointer (some ⟨tb,0,none⟩),s121),(21,.pointer (some ⟨tb,0,none⟩),s122),(22,.pointer (some ⟨tb,3,none⟩),s123),(23,sv,s124),(24,.int .i64 sg,s125),(27,.pointer (some ⟨tb,0,none⟩),s128),(28,.pointer (some ⟨tb,0,none⟩),s129),(30,.pointer (some ⟨tb,0,none⟩),s130),(31,.pointer (some ⟨tb,2,none⟩),s131),(33,.pointer (some ⟨tb,0,none⟩),s132),(34,.pointer (some ⟨tb,3,none⟩),s133)] l∧(l 8=true→∃ g:Nat,s109=.slice (some ⟨g,0,none⟩) 1 1∧W.cell? ⟨g,0,none⟩=some (.slice (some ⟨rb,0,none⟩) n n)∧w.heap.size≤g∧g<W.heap.size)∧(l 9=true→∃ g cap:Nat,s110=.slice (some ⟨g,0,none⟩) (i+1) cap)∧(l 18=true→∃ g:Nat,s119=.slice (some ⟨g,0,none⟩) 1 1∧W.cell? ⟨g,0,none⟩=some (.int .i64 q)∧w.heap.size≤g∧g<W.heap.size)∧(l 19=true→∃ g cap:Nat,s120=.slice (some ⟨g,0,none⟩) (i+1) cap)∧(l 25=true→∃ g:Nat,s126=.slice (some ⟨g,0,none⟩) 1 1∧W.cell? ⟨g,0,none⟩=some (.int .i64 sg)∧w.heap.size≤g∧g<W.heap.size)∧(l 26=true→∃ g cap:Nat,s127=.slice (some ⟨g,0,none⟩) (i+1) cap)∧(Blk W tb (tbc (bif l 29 then s110 else rv) cb n (bif l 32 then s120 else bv) (bif l 35 then s127 else sv) 1 cols) 75)∧(Own3 w W base rv bv sv (bif l 9 then s110 else rv) (bif l 9 then i+1 else i) (bif l 9 then xr++[.slice (some ⟨rb,0,none⟩) n n] else xr) (bif l 19 then s120 else bv) (bif l 19 then i+1 else i) (bif l 19 then xb++[.int .i64 q] else xb) (bif l 26 then s127 else sv) (bif l 26 then i+1 else i) (bif l 26 then xs++[.int .i64 sg] else xs))):=⟨_,fun _ _ _=>Iff.rfl⟩
 refine Ak Iv (by kernel_rfl) (by kernel_rfl) ((hI _ _ _).2 ⟨_,_,_,_,_,_,_,_,_,_,_,_,_,_,_,_,_,_,_,_,_,_,_,_,_,_,_,_,_,_,_,_,_,rfl,(Only.refl (hotS tb rv bv sv) w).drewN 1,Vs.zero,fun h=>off h,fun h=>off h,fun h=>off h,fun h=>off h,fun h=>off h,fun h=>off h,hT.out.below (Ac w 1),hO.out.below (Ac w 1)⟩) (Ab (k:=0) ?_ (Ab (k:=1) ?_ (Ab (k:=2) ?_ (Ab (k:=3) ?_ (Ab (k:=4) ?_ (Ab (k:=5) ?_ (Ab (k:=6) ?_ (Ab (k:=7) ?_ (Ab (k:=8) ?_ (Ab (k:=9) ?_ (Ab (k:=10) ?_ (Ab (k:=11) ?_ (Ab (k:=12) ?_ (Ab (k:=13) ?_ (Ab (k:=14) ?_ (Ab (k:=15) ?_ (Ab (k:=16) ?_ (Ab (k:=17) ?_ (Ab (k:=18) ?_ (Ab (k:=19) ?_ (Ab (k:=20) ?_ (Ab (k:=21) ?_ (Ab (k:=22) ?_ (Ab (k:=23) ?_ (Ab (k:=24) ?_ (Ab (k:=25) ?_ (Ab (k:=26) ?_ (Ab (k:=27) ?_ (Ab (k:=28) ?_ (Ab (k:=29) ?_ (Ab (k:=30) ?_ (Ab (k:=31) ?_ (Ab (k:=32) ?_ (Ab (k:=33) ?_ (Ab (k:=34) ?_ (Ab (k:=35) ?_ (Af))))))))))))))))))))))))))))))))))))) ?_
 ·intro l a W hl hw hsh h K hK
  rw [hI] at h;iterate 33 obtain ⟨_,h⟩:=h
  obtain ⟨rfl,hC,hP,f8,f9,f18,h⟩:=h;obtain ⟨f19,f25,f26,T,O⟩:=h
  go_simp
  apply hK.out;rw [hI];iterate 33 apply Exists.intro
  exact ⟨rfl,hC,hP.put 0 rfl rfl rfl,f8,f9,f18,f19,f25,f26,T,O⟩
 ·intro l a W hl hw hsh h K hK
  rw [hI] at h;iterate 33 obtain ⟨_,h⟩:=h
  obtain ⟨rfl,hC,hP,f8,f9,f18,h⟩:=h;obtain ⟨f19,f25,f26,T,O⟩:=h
  go_simp
  apply hK.out;rw [hI];iterate 33 apply Exists.intro
  exact ⟨rfl,hC,hP.put 1 rfl rfl rfl,f8,f9,f18,f19,f25,f26,T,O⟩
 ·intro l a W hl hw hsh h K hK
  rw [hI] at h;iterate 33 obtain ⟨_,h⟩:=h
  obtain ⟨rfl,hC,hP,f8,f9,f18,h⟩:=h;obtain ⟨f19,f25,f26,T,O⟩:=h
  go_simp
  apply hK.out;rw [hI];iterate 33 apply Exists.intro
  exact ⟨rfl,hC,hP.put 2 rfl rfl rfl,f8,f9,f18,f19,f25,f26,T,O⟩
 ·intro l a W hl hw hsh h K hK
  rw [hI] at h;iterate 33 obtain ⟨_,h⟩:=h
  obtain ⟨rfl,hC,hP,f8,f9,f18,h⟩:=h;obtain ⟨f19,f25,f26,T,O⟩:=h
  go_simp
  apply hK.out;rw [hI];iterate 33 apply Exists.intro
  exact ⟨rfl,hC,hP.put 3 rfl rfl rfl,f8,f9,f18,f19,f25,f26,T,O⟩
 ·intro l a W hl hw hsh h K hK
  rw [hI] at h;iterate 33 obtain ⟨_,h⟩:=h
  obtain ⟨rfl,hC,hP,f8,f9,f18,h⟩:=h;obtain ⟨f19,f25,f26,T,O⟩:=h
  obtain rfl:=hP.get 3 rfl (hw 3 (by kernel_rfl))
  go_simp
  apply hK.out;rw [hI];iterate 33 apply Exists.intro
  exact ⟨rfl,hC,hP.put 4 rfl rfl rfl,f8,f9,f18,f19,f25,f26,T,O⟩
 ·intro l a W hl hw hsh h K hK
  rw [hI] at h;iterate 33 obtain ⟨_,h⟩:=h
  obtain ⟨rfl,hC,hP,f8,f9,f18,h⟩:=h;obtain ⟨f19,f25,f26,T,O⟩:=h
  obtain rfl:=hP.get 4 rfl (hw 4 (by kernel_rfl))
  go_simp
  apply hK.out;rw [hI];iterate 33 apply Exists.intro
  exact ⟨rfl,hC,hP.put 5 rfl rfl rfl,f8,f9,f18,f19,f25,f26,T,O⟩
 ·intro l a W hl hw hsh h K hK
  rw [hI] at h;iterate 33 obtain ⟨_,h⟩:=h
  obtain ⟨rfl,hC,hP,f8,f9,f18,h⟩:=h;obtain ⟨f19,f25,f26,T,O⟩:=h
  obtain rfl:=hP.get 5 rfl (hw 5 (by kernel_rfl))
  have hst:l 29=false:=by
   cases hc:l 29 with
   | false=>rfl
   | true=>exact absurd (hsh 9 6 _ rfl (hsh 29 9 _ rfl (hc) (by kernel_rfl)) (by kernel_rfl)) (by simp [hl])
  have x1:W.cell? ⟨tb,0,none⟩=some (rv):=by have:=T.cell 0;rw [hst] at this;exact this
  go_simp
  apply hK.out;rw [hI];iterate 33 apply Exists.intro
  exact ⟨rfl,hC,hP.put 6 rfl rfl rfl,f8,f9,f18,f19,f25,f26,T,O⟩
 ·intro l a W hl hw hsh h K hK
  rw [hI] at h;iterate 33 obtain ⟨_,h⟩:=h
  obtain ⟨rfl,hC,hP,f8,f9,f18,h⟩:=h;obtain ⟨f19,f25,f26,T,O⟩:=h
  go_simp
  apply hK.out;rw [hI];iterate 33 apply Exists.intro
  exact ⟨rfl,hC,hP.put 7 rfl rfl rfl,f8,f9,f18,f19,f25,f26,T,O⟩
 ·intro l a W hl hw hsh h K hK
  rw [hI] at h;iterate 33 obtain ⟨_,h⟩:=h
  obtain ⟨rfl,hC,hP,f8,f9,f18,h⟩:=h;obtain ⟨f19,f25,f26,T,O⟩:=h
  obtain rfl:=hP.get 7 rfl (hw 7 (by kernel_rfl))
  go_simp
  have hb:=(Below.refl W.heap.size W).alloc (Aa _) (.cells #[.slice (some ⟨rb,0,none⟩) n n] 70)
  have hcell:=F7 (w:=w) hb
  have hsz:=hb.size
  apply hK.out;rw [hI];iterate 33 apply Exists.intro
  exact ⟨rfl,hC.below hb,hP.skip 8 rfl,fun _=>⟨_,rfl,(Blk.new W #[.slice (some ⟨rb,0,none⟩) n n] 70).cell 0,hC.size,by simp⟩,f9,(fun h=>(let ⟨g,e,a,b,c⟩:=f18 h;⟨g,e,(hcell g 0 b c).trans a,b,A9 c hsz⟩)),f19,(fun h=>(let ⟨g,e,a,b,c⟩:=f25 h;⟨g,e,(hcell g 0 b c).trans a,b,A9 c hsz⟩)),f26,T.below hb,O.below hb⟩
 ·intro l a W hl hw hsh h K hK
  rw [hI] at h;iterate 33 obtain ⟨_,h⟩:=h
  obtain ⟨rfl,hC,hP,f8,f9,f18,h⟩:=h;obtain ⟨f19,f25,f26,T,O⟩:=h
  obtain rfl:=hP.get 6 rfl (hw 6 (by kernel_rfl))
  obtain ⟨g,rfl,hg0,hgw,hgl⟩:=f8 (hw 8 (by kernel_rfl))
  rw [if_pos (by rfl)]
  have hst:l 29=false:=by
   cases hc:l 29 with
   | false=>rfl
   | true=>exact absurd (hsh 29 9 _ rfl (hc) (by kernel_rfl)) (by simp [hl])
  simp only [hl,cond_false] at O
  rw [hst] at T
  simp only [cond_false] at T
  refine AP _ 70 (.slice none 0 0) 24 Tryz.underlying69 I7 rfl _ _ rfl rv i xr (by go_simp) O.r g (.slice (some ⟨rb,0,none⟩) n n) (by go_simp) hg0 rfl (by omega) (by omega) (Nat.le_trans hbase hC.size) ?_
  intro v' W2 hr hg hv
  have hr2:=hr.2
  rcases hr2 with ⟨rfl,h0⟩ | ⟨g2,cap2,cur,rfl,-⟩
  ·omega
  have hcell:=Ct (w:=w) hg (fun k e=>(hO.out.r.lt k e).2)
  have hsz:=hg.size
  have T2:=T.kept hg (T.not_row (by decide) O.r)
  have O2:=O.setR hg hr hv
  apply hK.out;rw [hI];iterate 33 apply Exists.intro
  exact ⟨rfl,hC.grown hg (fun k e=>.inl (hot_r k e)),hP.skip 9 rfl,(fun h=>(let ⟨g,e,a,b,c⟩:=f8 h;⟨g,e,(hcell g 0 b c).trans a,b,A9 c hsz⟩)),fun _=>⟨g2,cap2,rfl⟩,(fun h=>(let ⟨g,e,a,b,c⟩:=f18 h;⟨g,e,(hcell g 0 b c).trans a,b,A9 c hsz⟩)),f19,(fun h=>(let ⟨g,e,a,b,c⟩:=f25 h;⟨g,e,(hcell g 0 b c).trans a,b,A9 c hsz⟩)),f26,(by rw [show set1 l 9 29=false from hst];exact T2),O2⟩
 ·intro l a W hl hw hsh h K hK
  rw [hI] at h;iterate 33 obtain ⟨_,h⟩:=h
  obtain ⟨rfl,hC,hP,f8,f9,f18,h⟩:=h;obtain ⟨f19,f25,f26,T,O⟩:=h
  go_simp
  apply hK.out;rw [hI];iterate 33 apply Exists.intro
  exact ⟨rfl,hC,hP.put 8 rfl rfl rfl,f8,f9,f18,f19,f25,f26,T,O⟩
 ·intro l a W hl hw hsh h K hK
  rw [hI] at h;iterate 33 obtain ⟨_,h⟩:=h
  obtain ⟨rfl,hC,hP,f8,f9,f18,h⟩:=h;obtain ⟨f19,f25,f26,T,O⟩:=h
  obtain rfl:=hP.get 8 rfl (hw 10 (by kernel_rfl))
  go_simp
  apply hK.out;rw [hI];iterate 33 apply Exists.intro
  exact ⟨rfl,hC,hP.put 9 rfl rfl rfl,f8,f9,f18,f19,f25,f26,T,O⟩
 ·intro l a W hl hw hsh h K hK
  rw [hI] at h;iterate 33 obtain ⟨_,h⟩:=h
  obtain ⟨rfl,hC,hP,f8,f9,f18,h⟩:=h;obtain ⟨f19,f25,f26,T,O⟩:=h
  obtain rfl:=hP.get 9 rfl (hw 11 (by kernel_rfl))
  go_simp
  apply hK.out;rw [hI];iterate 33 apply Exists.intro
  exact ⟨rfl,hC,hP.put 10 rfl rfl rfl,f8,f9,f18,f19,f25,f26,T,O⟩
 ·intro l a W hl hw hsh h K hK
  rw [hI] at h;iterate 33 obtain ⟨_,h⟩:=h
  obtain ⟨rfl,hC,hP,f8,f9,f18,h⟩:=h;obtain ⟨f19,f25,f26,T,O⟩:=h
  obtain rfl:=hP.get 10 rfl (hw 12 (by kernel_rfl))
  have hst:l 32=false:=by
   cases hc:l 32 with
   | false=>rfl
   | true=>exact absurd (hsh 19 13 _ rfl (hsh 32 19 _ rfl (hc) (by kernel_rfl)) (by kernel_rfl)) (by simp [hl])
  have x1:W.cell? ⟨tb,2,none⟩=some (bv):=by have:=T.cell 2;rw [hst] at this;exact this
  go_simp
  apply hK.out;rw [hI];iterate 33 apply Exists.intro
  exact ⟨rfl,hC,hP.put 11 rfl rfl rfl,f8,f9,f18,f19,f25,f26,T,O⟩
 ·intro l a W hl hw hsh h K hK
  rw [hI] at h;iterate 33 obtain ⟨_,h⟩:=h
  obtain ⟨rfl,hC,hP,f8,f9,f18,h⟩:=h;obtain ⟨f19,f25,f26,T,O⟩:=h
  go_simp
  apply hK.out;rw [hI];iterate 33 apply Exists.intro
  exact ⟨rfl,hC,hP.put 12 rfl rfl rfl,f8,f9,f18,f19,f25,f26,T,O⟩
 ·intro l a W hl hw hsh h K hK
  rw [hI] at h;iterate 33 obtain ⟨_,h⟩:=h
  obtain ⟨rfl,hC,hP,f8,f9,f18,h⟩:=h;obtain ⟨f19,f25,f26,T,O⟩:=h
  obtain rfl:=hP.get 12 rfl (hw 14 (by kernel_rfl))
  have x1:=(hC.cell (p:=⟨xB,0,none⟩) hx.out.1 hx.out.2.2).trans hx.out.2.1
  go_simp
  apply hK.out;rw [hI];iterate 33 apply Exists.intro
  exact ⟨rfl,hC,hP.put 13 rfl rfl rfl,f8,f9,f18,f19,f25,f26,T,O⟩
 ·intro l a W hl hw hsh h K hK
  rw [hI] at h;iterate 33 obtain ⟨_,h⟩:=h
  obtain ⟨rfl,hC,hP,f8,f9,f18,h⟩:=h;obtain ⟨f19,f25,f26,T,O⟩:=h
  go_simp
  apply hK.out;rw [hI];iterate 33 apply Exists.intro
  exact ⟨rfl,hC,hP.put 14 rfl rfl rfl,f8,f9,f18,f19,f25,f26,T,O⟩
 ·intro l a W hl hw hsh h K hK
  rw [hI] at h;iterate 33 obtain ⟨_,h⟩:=h
  obtain ⟨rfl,hC,hP,f8,f9,f18,h⟩:=h;obtain ⟨f19,f25,f26,T,O⟩:=h
  obtain rfl:=hP.get 13 rfl (hw 15 (by kernel_rfl))
  obtain rfl:=hP.get 14 rfl (hw 16 (by kernel_rfl))
  go_simp
  apply hK.out;rw [hI];iterate 33 apply Exists.intro
  exact ⟨rfl,hC,hP.put 15 rfl rfl rfl,f8,f9,f18,f19,f25,f26,T,O⟩
 ·intro l a W hl hw hsh h K hK
  rw [hI] at h;iterate 33 obtain ⟨_,h⟩:=h
  obtain ⟨rfl,hC,hP,f8,f9,f18,h⟩:=h;obtain ⟨f19,f25,f26,T,O⟩:=h
  obtain rfl:=hP.get 15 rfl (hw 17 (by kernel_rfl))
  go_simp
  have hb:=(Below.refl W.heap.size W).alloc (Aa _) (.cells #[.int .i64 q] 3)
  have hcell:=F7 (w:=w) hb
  have hsz:=hb.size
  apply hK.out;rw [hI];iterate 33 apply Exists.intro
  exact ⟨rfl,hC.below hb,hP.skip 18 rfl,(fun h=>(let ⟨g,e,a,b,c⟩:=f8 h;⟨g,e,(hcell g 0 b c).trans a,b,A9 c hsz⟩)),f9,fun _=>⟨_,rfl,(Blk.new W #[.int .i64 q] 3).cell 0,hC.size,by simp⟩,f19,(fun h=>(let ⟨g,e,a,b,c⟩:=f25 h;⟨g,e,(hcell g 0 b c).trans a,b,A9 c hsz⟩)),f26,T.below hb,O.below hb⟩
 ·intro l a W hl hw hsh h K hK
  rw [hI] at h;iterate 33 obtain ⟨_,h⟩:=h
  obtain ⟨rfl,hC,hP,f8,f9,f18,h⟩:=h;obtain ⟨f19,f25,f26,T,O⟩:=h
  obtain rfl:=hP.get 11 rfl (hw 13 (by kernel_rfl))
  obtain ⟨g,rfl,hg0,hgw,hgl⟩:=f18 (hw 18 (by kernel_rfl))
  rw [if_pos (by rfl)]
  have hst:l 32=false:=by
   cases hc:l 32 with
   | false=>rfl
   | true=>exact absurd (hsh 32 19 _ rfl (hc) (by kernel_rfl)) (by simp [hl])
  simp only [hl,cond_false] at O
  rw [hst] at T
  simp only [cond_false] at T
  refine AP _ 3 (.int .i64 0) 8 Tryz.underlying22 Bt rfl _ _ rfl bv i xb (by go_simp) O.b g (.int .i64 q) (by go_simp) hg0 rfl (by omega) (by omega) (Nat.le_trans hbase hC.size) ?_
  intro v' W2 hr hg hv
  have hr2:=hr.2
  rcases hr2 with ⟨rfl,h0⟩ | ⟨g2,cap2,cur,rfl,-⟩
  ·omega
  have hcell:=Ct (w:=w) hg (fun k e=>(hO.out.b.lt k e).2)
  have hsz:=hg.size
  have T2:=T.kept hg (T.not_row (by decide) O.b)
  have O2:=O.setB hg hr hv
  apply hK.out;rw [hI];iterate 33 apply Exists.intro
  exact ⟨rfl,hC.grown hg (fun k e=>.inl (hot_b k e)),hP.skip 19 rfl,(fun h=>(let ⟨g,e,a,b,c⟩:=f8 h;⟨g,e,(hcell g 0 b c).trans a,b,A9 c hsz⟩)),f9,(fun h=>(let ⟨g,e,a,b,c⟩:=f18 h;⟨g,e,(hcell g 0 b c).trans a,b,A9 c hsz⟩)),fun _=>⟨g2,cap2,rfl⟩,(fun h=>(let ⟨g,e,a,b,c⟩:=f25 h;⟨g,e,(hcell g 0 b c).trans a,b,A9 c hsz⟩)),f26,(by rw [show set1 l 19 32=false from hst];exact T2),O2⟩
 ·intro l a W hl hw hsh h K hK
  rw [hI] at h;iterate 33 obtain ⟨_,h⟩:=h
  obtain ⟨rfl,hC,hP,f8,f9,f18,h⟩:=h;obtain ⟨f19,f25,f26,T,O⟩:=h
  go_simp
  apply hK.out;rw [hI];iterate 33 apply Exists.intro
  exact ⟨rfl,hC,hP.put 16 rfl rfl rfl,f8,f9,f18,f19,f25,f26,T,O⟩
 ·intro l a W hl hw hsh h K hK
  rw [hI] at h;iterate 33 obtain ⟨_,h⟩:=h
  obtain ⟨rfl,hC,hP,f8,f9,f18,h⟩:=h;obtain ⟨f19,f25,f26,T,O⟩:=h
  obtain rfl:=hP.get 16 rfl (hw 20 (by kernel_rfl))
  go_simp
  apply hK.out;rw [hI];iterate 33 apply Exists.intro
  exact ⟨rfl,hC,hP.put 17 rfl rfl rfl,f8,f9,f18,f19,f25,f26,T,O⟩
 ·intro l a W hl hw hsh h K hK
  rw [hI] at h;iterate 33 obtain ⟨_,h⟩:=h
  obtain ⟨rfl,hC,hP,f8,f9,f18,h⟩:=h;obtain ⟨f19,f25,f26,T,O⟩:=h
  obtain rfl:=hP.get 17 rfl (hw 21 (by kernel_rfl))
  go_simp
  apply hK.out;rw [hI];iterate 33 apply Exists.intro
  exact ⟨rfl,hC,hP.put 18 rfl rfl rfl,f8,f9,f18,f19,f25,f26,T,O⟩
 ·intro l a W hl hw hsh h K hK
  rw [hI] at h;iterate 33 obtain ⟨_,h⟩:=h
  obtain ⟨rfl,hC,hP,f8,f9,f18,h⟩:=h;obtain ⟨f19,f25,f26,T,O⟩:=h
  obtain rfl:=hP.get 18 rfl (hw 22 (by kernel_rfl))
  have hst:l 35=false:=by
   cases hc:l 35 with
   | false=>rfl
   | true=>exact absurd (hsh 26 23 _ rfl (hsh 35 26 _ rfl (hc) (by kernel_rfl)) (by kernel_rfl)) (by simp [hl])
  have x1:W.cell? ⟨tb,3,none⟩=some (sv):=by have:=T.cell 3;rw [hst] at this;exact this
  go_simp
  apply hK.out;rw [hI];iterate 33 apply Exists.intro
  exact ⟨rfl,hC,hP.put 19 rfl rfl rfl,f8,f9,f18,f19,f25,f26,T,O⟩
 ·intro l a W hl hw hsh h K hK
  rw [hI] at h;iterate 33 obtain ⟨_,h⟩:=h
  obtain ⟨rfl,hC,hP,f8,f9,f18,h⟩:=h;obtain ⟨f19,f25,f26,T,O⟩:=h
  go_simp
  apply hK.out;rw [hI];iterate 33 apply Exists.intro
  exact ⟨rfl,hC,hP.put 20 rfl rfl rfl,f8,f9,f18,f19,f25,f26,T,O⟩
 ·intro l a W hl hw hsh h K hK
  rw [hI] at h;iterate 33 obtain ⟨_,h⟩:=h
  obtain ⟨rfl,hC,hP,f8,f9,f18,h⟩:=h;obtain ⟨f19,f25,f26,T,O⟩:=h
  obtain rfl:=hP.get 20 rfl (hw 24 (by kernel_rfl))
  go_simp
  have hb:=(Below.refl W.heap.size W).alloc (Aa _) (.cells #[.int .i64 sg] 3)
  have hcell:=F7 (w:=w) hb
  have hsz:=hb.size
  apply hK.out;rw [hI];iterate 33 apply Exists.intro
  exact ⟨rfl,hC.below hb,hP.skip 25 rfl,(fun h=>(let ⟨g,e,a,b,c⟩:=f8 h;⟨g,e,(hcell g 0 b c).trans a,b,A9 c hsz⟩)),f9,(fun h=>(let ⟨g,e,a,b,c⟩:=f18 h;⟨g,e,(hcell g 0 b c).trans a,b,A9 c hsz⟩)),f19,fun _=>⟨_,rfl,(Blk.new W #[.int .i64 sg] 3).cell 0,hC.size,by simp⟩,f26,T.below hb,O.below hb⟩
 ·intro l a W hl hw hsh h K hK
  rw [hI] at h;iterate 33 obtain ⟨_,h⟩:=h
  obtain ⟨rfl,hC,hP,f8,f9,f18,h⟩:=h;obtain ⟨f19,f25,f26,T,O⟩:=h
  obtain rfl:=hP.get 19 rfl (hw 23 (by kernel_rfl))
  obtain ⟨g,rfl,hg0,hgw,hgl⟩:=f25 (hw 25 (by kernel_rfl))
  rw [if_pos (by rfl)]
  have hst:l 35=false:=by
   cases hc:l 35 with
   | false=>rfl
   | true=>exact absurd (hsh 35 26 _ rfl (hc) (by kernel_rfl)) (by simp [hl])
  simp only [hl,cond_false] at O
  rw [hst] at T
  simp only [cond_false] at T
  refine AP _ 3 (.int .i64 0) 8 Tryz.underlying22 Bt rfl _ _ rfl sv i xs (by go_simp) O.s g (.int .i64 sg) (by go_simp) hg0 rfl (by omega) (by omega) (Nat.le_trans hbase hC.size) ?_
  intro v' W2 hr hg hv
  have hr2:=hr.2
  rcases hr2 with ⟨rfl,h0⟩ | ⟨g2,cap2,cur,rfl,-⟩
  ·omega
  have hcell:=Ct (w:=w) hg (fun k e=>(hO.out.s.lt k e).2)
  have hsz:=hg.size
  have T2:=T.kept hg (T.not_row (by decide) O.s)
  have O2:=O.setS hg hr hv
  apply hK.out;rw [hI];iterate 33 apply Exists.intro
  exact ⟨rfl,hC.grown hg (fun k e=>.inl (hot_s k e)),hP.skip 26 rfl,(fun h=>(let ⟨g,e,a,b,c⟩:=f8 h;⟨g,e,(hcell g 0 b c).trans a,b,A9 c hsz⟩)),f9,(fun h=>(let ⟨g,e,a,b,c⟩:=f18 h;⟨g,e,(hcell g 0 b c).trans a,b,A9 c hsz⟩)),f19,(fun h=>(let ⟨g,e,a,b,c⟩:=f25 h;⟨g,e,(hcell g 0 b c).trans a,b,A9 c hsz⟩)),fun _=>⟨g2,cap2,rfl⟩,(by rw [show set1 l 26 35=false from hst];exact T2),O2⟩
 ·intro l a W hl hw hsh h K hK
  rw [hI] at h;iterate 33 obtain ⟨_,h⟩:=h
  obtain ⟨rfl,hC,hP,f8,f9,f18,h⟩:=h;obtain ⟨f19,f25,f26,T,O⟩:=h
  obtain rfl:=hP.get 0 rfl (hw 0 (by kernel_rfl))
  go_simp
  apply hK.out;rw [hI];iterate 33 apply Exists.intro
  exact ⟨rfl,hC,hP.put 21 rfl rfl rfl,f8,f9,f18,f19,f25,f26,T,O⟩
 ·intro l a W hl hw hsh h K hK
  rw [hI] at h;iterate 33 obtain ⟨_,h⟩:=h
  obtain ⟨rfl,hC,hP,f8,f9,f18,h⟩:=h;obtain ⟨f19,f25,f26,T,O⟩:=h
  obtain rfl:=hP.get 21 rfl (hw 27 (by kernel_rfl))
  go_simp
  apply hK.out;rw [hI];iterate 33 apply Exists.intro
  exact ⟨rfl,hC,hP.put 22 rfl rfl rfl,f8,f9,f18,f19,f25,f26,T,O⟩
 ·intro l a W hl hw hsh h K hK
  rw [hI] at h;iterate 33 obtain ⟨_,h⟩:=h
  obtain ⟨rfl,hC,hP,f8,f9,f18,h⟩:=h;obtain ⟨f19,f25,f26,T,O⟩:=h
  obtain ⟨g,cap,rfl⟩:=f9 (hw 9 (by kernel_rfl))
  obtain rfl:=hP.get 22 rfl (hw 28 (by kernel_rfl))
  have x1:=T.cell 0
  have x2:=T.frozen 0
  skip
  go_simp
  have hgr:=Aj W tb 0 (.slice (some ⟨g,0,none⟩) (i+1) cap)
  have hcell:=Ct (w:=w) hgr (fun k e=>by cases e;exact hT.out.lt)
  have hsz:=hgr.size
  have O2:=O.grown hgr (fun k e=>by cases e;exact ⟨fun e=>T.not_row (by decide) O.r e.symm,fun e=>T.not_row (by decide) O.b e.symm,fun e=>T.not_row (by decide) O.s e.symm⟩)
  apply hK.out;rw [hI];iterate 33 apply Exists.intro
  exact ⟨rfl,hC.setCell (by unfold hotS;simp) _,hP.skip 29 rfl,(fun h=>(let ⟨g,e,a,b,c⟩:=f8 h;⟨g,e,(hcell g 0 b c).trans a,b,A9 c hsz⟩)),f9,(fun h=>(let ⟨g,e,a,b,c⟩:=f18 h;⟨g,e,(hcell g 0 b c).trans a,b,A9 c hsz⟩)),f19,(fun h=>(let ⟨g,e,a,b,c⟩:=f25 h;⟨g,e,(hcell g 0 b c).trans a,b,A9 c hsz⟩)),f26,T.set 0 _,O2⟩
 ·intro l a W hl hw hsh h K hK
  rw [hI] at h;iterate 33 obtain ⟨_,h⟩:=h
  obtain ⟨rfl,hC,hP,f8,f9,f18,h⟩:=h;obtain ⟨f19,f25,f26,T,O⟩:=h
  obtain rfl:=hP.get 1 rfl (hw 1 (by kernel_rfl))
  go_simp
  apply hK.out;rw [hI];iterate 33 apply Exists.intro
  exact ⟨rfl,hC,hP.put 23 rfl rfl rfl,f8,f9,f18,f19,f25,f26,T,O⟩
 ·intro l a W hl hw hsh h K hK
  rw [hI] at h;iterate 33 obtain ⟨_,h⟩:=h
  obtain ⟨rfl,hC,hP,f8,f9,f18,h⟩:=h;obtain ⟨f19,f25,f26,T,O⟩:=h
  obtain rfl:=hP.get 23 rfl (hw 30 (by kernel_rfl))
  go_simp
  apply hK.out;rw [hI];iterate 33 apply Exists.intro
  exact ⟨rfl,hC,hP.put 24 rfl rfl rfl,f8,f9,f18,f19,f25,f26,T,O⟩
 ·intro l a W hl hw hsh h K hK
  rw [hI] at h;iterate 33 obtain ⟨_,h⟩:=h
  obtain ⟨rfl,hC,hP,f8,f9,f18,h⟩:=h;obtain ⟨f19,f25,f26,T,O⟩:=h
  obtain ⟨g,cap,rfl⟩:=f19 (hw 19 (by kernel_rfl))
  obtain rfl:=hP.get 24 rfl (hw 31 (by kernel_rfl))
  have x1:=T.cell 2
  have x2:=T.frozen 2
  skip
  go_simp
  have hgr:=Aj W tb 2 (.slice (some ⟨g,0,none⟩) (i+1) cap)
  have hcell:=Ct (w:=w) hgr (fun k e=>by cases e;exact hT.out.lt)
  have hsz:=hgr.size
  have O2:=O.grown hgr (fun k e=>by cases e;exact ⟨fun e=>T.not_row (by decide) O.r e.symm,fun e=>T.not_row (by decide) O.b e.symm,fun e=>T.not_row (by decide) O.s e.symm⟩)
  apply hK.out;rw [hI];iterate 33 apply Exists.intro
  exact ⟨rfl,hC.setCell (by unfold hotS;simp) _,hP.skip 32 rfl,(fun h=>(let ⟨g,e,a,b,c⟩:=f8 h;⟨g,e,(hcell g 0 b c).trans a,b,A9 c hsz⟩)),f9,(fun h=>(let ⟨g,e,a,b,c⟩:=f18 h;⟨g,e,(hcell g 0 b c).trans a,b,A9 c hsz⟩)),f19,(fun h=>(let ⟨g,e,a,b,c⟩:=f25 h;⟨g,e,(hcell g 0 b c).trans a,b,A9 c hsz⟩)),f26,T.set 2 _,O2⟩
 ·intro l a W hl hw hsh h K hK
  rw [hI] at h;iterate 33 obtain ⟨_,h⟩:=h
  obtain ⟨rfl,hC,hP,f8,f9,f18,h⟩:=h;obtain ⟨f19,f25,f26,T,O⟩:=h
  obtain rfl:=hP.get 2 rfl (hw 2 (by kernel_rfl))
  go_simp
  apply hK.out;rw [hI];iterate 33 apply Exists.intro
  exact ⟨rfl,hC,hP.put 25 rfl rfl rfl,f8,f9,f18,f19,f25,f26,T,O⟩
 ·intro l a W hl hw hsh h K hK
  rw [hI] at h;iterate 33 obtain ⟨_,h⟩:=h
  obtain ⟨rfl,hC,hP,f8,f9,f18,h⟩:=h;obtain ⟨f19,f25,f26,T,O⟩:=h
  obtain rfl:=hP.get 25 rfl (hw 33 (by kernel_rfl))
  go_simp
  apply hK.out;rw [hI];iterate 33 apply Exists.intro
  exact ⟨rfl,hC,hP.put 26 rfl rfl rfl,f8,f9,f18,f19,f25,f26,T,O⟩
 ·intro l a W hl hw hsh h K hK
  rw [hI] at h;iterate 33 obtain ⟨_,h⟩:=h
  obtain ⟨rfl,hC,hP,f8,f9,f18,h⟩:=h;obtain ⟨f19,f25,f26,T,O⟩:=h
  obtain ⟨g,cap,rfl⟩:=f26 (hw 26 (by kernel_rfl))
  obtain rfl:=hP.get 26 rfl (hw 34 (by kernel_rfl))
  have x1:=T.cell 3
  have x2:=T.frozen 3
  skip
  go_simp
  have hgr:=Aj W tb 3 (.slice (some ⟨g,0,none⟩) (i+1) cap)
  have hcell:=Ct (w:=w) hgr (fun k e=>by cases e;exact hT.out.lt)
  have hsz:=hgr.size
  have O2:=O.grown hgr (fun k e=>by cases e;exact ⟨fun e=>T.not_row (by decide) O.r e.symm,fun e=>T.not_row (by decide) O.b e.symm,fun e=>T.not_row (by decide) O.s e.symm⟩)
  apply hK.out;rw [hI];iterate 33 apply Exists.intro
  exact ⟨rfl,hC.setCell (by unfold hotS;simp) _,hP.skip 35 rfl,(fun h=>(let ⟨g,e,a,b,c⟩:=f8 h;⟨g,e,(hcell g 0 b c).trans a,b,A9 c hsz⟩)),f9,(fun h=>(let ⟨g,e,a,b,c⟩:=f18 h;⟨g,e,(hcell g 0 b c).trans a,b,A9 c hsz⟩)),f19,(fun h=>(let ⟨g,e,a,b,c⟩:=f25 h;⟨g,e,(hcell g 0 b c).trans a,b,A9 c hsz⟩)),f26,T.set 3 _,O2⟩
 ·intro a W hI'
  have h:=(hI _ _ _).1 hI';clear hI';iterate 33 obtain ⟨_,h⟩:=h
  obtain ⟨rfl,hC,hP,f8,f9,f18,h⟩:=h;obtain ⟨f19,f25,f26,T,O⟩:=h
  clear f8
  obtain ⟨gr,kr,rfl⟩:=f9 (by kernel_rfl)
  clear f18
  obtain ⟨gb,kb,rfl⟩:=f19 (by kernel_rfl)
  clear f25
  obtain ⟨gs,ks,rfl⟩:=f26 (by kernel_rfl)
  exact hQ.out _ _ _ _ _ _ _ _ _ _ _ _ _ _ _ _ _ _ _ _ _ _ _ _ _ _ _ _ _ _ _ _ _ gr kr gb kb gs ks _ hC T O
end
section
open Go.RowKit
open LnM (wd upd sm)
attribute [local go_sem] Oper.semAt_some
theorem Cu {W W':World} {base:Nat} {e:TypeId} {v:Value} {n:Nat} {xs:List Value} {S:List Nat} (h:W.ownsRow base e 1 v n xs) (ho:Only S W W') (hS:∀ b,v.ownBlock=some b→b∉S):W'.ownsRow base e 1 v n xs:=by
 refine ⟨h.1,?_⟩
 rcases h.2 with h0 | ⟨g,cap,cur,rfl,hb,hg,r⟩
 ·exact .inl h0
 ·exact .inr ⟨g,cap,cur,rfl,hb,(ho.block g (Array.getElem?_eq_some_iff.1 hg).1 (hS g rfl)).trans hg,r⟩
def rowsL (R:Nat→Nat) (n i:Nat):List Value:=(List.range i).map fun j=>.slice (some ⟨R j,0,none⟩) n n
def basL (cols i:Nat):List Value:=(List.range i).map fun j=>.int .i64 ((cols+j:Nat):Int)
def sgL (rows:List (List Int×Int)) (i:Nat):List Value:=(List.range i).map fun j=>.int .i64 (sgnOf rows j)
theorem Jq (R:Nat→Nat) (n i rb:Nat) (h:R i=rb):rowsL R n i++[.slice (some ⟨rb,0,none⟩) n n]=rowsL R n (i+1):=by unfold rowsL;rw [List.range_succ,List.map_append,←h];rfl
theorem If {R R':Nat→Nat} {n i:Nat} (h:∀ j,j<i→R j=R' j):rowsL R n i=rowsL R' n i:=List.map_congr_left fun j hj=>by rw [h j (List.mem_range.1 hj)]
theorem KP (cols i:Nat):basL cols i++[.int .i64 ((cols+i:Nat):Int)]=basL cols (i+1):=by unfold basL;rw [List.range_succ,List.map_append];rfl
theorem LW (rows:List (List Int×Int)) (i:Nat):sgL rows i++[.int .i64 (sgnOf rows i)]=sgL rows (i+1):=by unfold sgL;rw [List.range_succ,List.map_append];rfl
structure OpS (w W:World) (s:LnM.Sys) (rows:List (List Int×Int)) (xB tb cb n cols base i:Nat) (v:Value) (R:Nat→Nat) (rv bv sv:Value):Prop where
 below:Below w.heap.size w W
 xl:xB<W.heap.size
 x0:W.cell? ⟨xB,0,none⟩=some (.int .i64 cols)
 x1:W.cell? ⟨xB,1,none⟩=some v
 tbl:Blk W tb (tbc rv cb n bv sv 1 cols) 75
 cost:RowT W cb n (costF s i)
 grid:∀ j,j<i→RowT W (R j) n (s.S j)
 own:Own3 W W base rv bv sv rv i (rowsL R n i) bv i (basL cols i) sv i (sgL rows i)
 ge:∀ j,j<i→base≤R j
 inj:∀ j k,j<i→k<i→R j=R k→j=k
 rc:∀ j,j<i→R j≠cb
 rt:∀ j,j<i→R j≠tb
 nl:i=0→rv=.slice none 0 0∧bv=.slice none 0 0∧sv=.slice none 0 0
theorem Own3.re {w0 W:World} {base:Nat} {rv bv sv cr cb cs:Value} {nr nb ns:Nat} {xr xb xs:List Value} (h:Own3 w0 W base rv bv sv cr nr xr cb nb xb cs ns xs):Own3 W W base cr cb cs cr nr xr cb nb xb cs ns xs :=
 ⟨h.r,h.b,h.s,Aa _,fun _ e=>.inl e,fun _ e=>.inl e,fun _ e=>.inl e,h.bs⟩
theorem Own3.only {w0 W W':World} {base:Nat} {rv bv sv cr cb cs:Value} {nr nb ns:Nat} {xr xb xs:List Value} (h:Own3 w0 W base rv bv sv cr nr xr cb nb xb cs ns xs) {S:List Nat} (ho:Only S W W')
  (hS:∀ b∈S,cr.ownBlock≠some b∧cb.ownBlock≠some b∧cs.ownBlock≠some b):Own3 w0 W' base rv bv sv cr nr xr cb nb xb cs ns xs :=
 ⟨Cu h.r ho fun b e hb=>(hS b hb).1 e,Cu h.b ho fun b e hb=>(hS b hb).2.1 e,Cu h.s ho fun b e hb=>(hS b hb).2.2 e,Nat.le_trans h.le ho.size,h.fr,h.fb,h.fs,h.bs⟩
theorem OpS.later {w W W':World} {s:LnM.Sys} {rows:List (List Int×Int)} {xB tb cb n cols base i:Nat} {v:Value} {R:Nat→Nat} {rv bv sv:Value} (h:OpS w W s rows xB tb cb n cols base i v R rv bv sv) (hb:Below W.heap.size W W'):OpS w W' s rows xB tb cb n cols base i v R rv bv sv :=
 ⟨Ad hb h.below (Aa _),A9 h.xl hb.size,(hb.cell (p:=⟨_,_,none⟩) h.xl).trans h.x0,(hb.cell (p:=⟨_,_,none⟩) h.xl).trans h.x1,h.tbl.below hb,h.cost.below hb,fun j hj=>(h.grid j hj).below hb,(h.own.below hb).re,h.ge,h.inj,h.rc,h.rt,h.nl⟩
theorem OpS.round {w W W1 W2 W3:World} {s:LnM.Sys} {rows:List (List Int×Int)} {xB tb cb n cols base i rb:Nat} {v:Value} {R:Nat→Nat} {rv bv sv rv' bv' sv':Value} (h:OpS w W s rows xB tb cb n cols base i v R rv bv sv)
  (ok:s.Ok) (hsn:s.n=cols) (hn:n=s.n+s.m+1) (him:i<s.m) (hbase:w.heap.size≤xB∧xB<base) (htb:base≤tb) (hcb:base≤cb) (htc:tb≠cb) (hrbt:rb≠tb) (hrbc:rb≠cb) (hrbR:∀ j,j<i→R j≠rb) (hrbo:rv.ownBlock≠some rb∧bv.ownBlock≠some rb∧sv.ownBlock≠some rb) (hrb:base≤rb)
  (o1:Only [rb,cb] W W1) (r1:RowT W1 rb n (rowF s i (cols+1))) (c1:RowT W1 cb n (fun j=>costF s i j-rowF s i (cols+1) j)) (o2:Only [rb] W1 W2) (r2:RowT W2 rb n (upd (rowF s i (cols+1)) (cols+i) 1))
  (o3:Only (hotS tb rv bv sv) W2 W3) (t3:Blk W3 tb (tbc rv' cb n bv' sv' 1 cols) 75)
  (w3:Own3 W2 W3 base rv bv sv rv' (i+1) (rowsL R n i++[.slice (some ⟨rb,0,none⟩) n n]) bv' (i+1) (basL cols i++[.int .i64 ((cols+i:Nat):Int)]) sv' (i+1) (sgL rows i++[.int .i64 (sgnOf rows i)])) :
  OpS w W3 s rows xB tb cb n cols base (i+1) v (upd R i rb) rv' bv' sv':=by
 have nr:=fun {f:Nat→Int} {b:Nat} {W':World} (hr:RowT W' b n f) (ho:Own3 W' W' base rv bv sv rv i (rowsL R n i) bv i (basL cols i) sv i (sgL rows i)) (hne:b≠tb)=>(show b∉hotS tb rv bv sv from by
  unfold hotS
  simp only [List.mem_cons,List.mem_append,Option.mem_toList,not_or]
  exact ⟨hne,fun e=>hr.not_own ho.r (by decide) e,fun e=>hr.not_own ho.b (by decide) e,fun e=>hr.not_own ho.s (by decide) e⟩)
 have cown:=fun {W':World} (hr:RowT W' cb n (fun j=>costF s i j-rowF s i (cols+1) j)) (ho:Own3 W' W' base rv bv sv rv i (rowsL R n i) bv i (basL cols i) sv i (sgL rows i))=>(⟨hr.not_own ho.r (by decide),hr.not_own ho.b (by decide),hr.not_own ho.s (by decide)⟩:rv.ownBlock≠some cb∧bv.ownBlock≠some cb∧sv.ownBlock≠some cb)
 have co0:rv.ownBlock≠some cb∧bv.ownBlock≠some cb∧sv.ownBlock≠some cb:=⟨h.cost.not_own h.own.r (by decide),h.cost.not_own h.own.b (by decide),h.cost.not_own h.own.s (by decide)⟩
 have ow1:=(h.own.only o1 (fun b hb=>by
  simp only [List.mem_cons,List.not_mem_nil,or_false] at hb
  rcases hb with rfl | rfl
  ·exact hrbo
  ·exact co0)).re
 have ow2:=(ow1.only o2 (fun b hb=>by
  simp only [List.mem_cons,List.not_mem_nil,or_false] at hb
  subst hb
  exact hrbo)).re
 have g1:∀ j,j<i→RowT W1 (R j) n (s.S j):=fun j hj=>(h.grid j hj).only o1 (by simp only [List.mem_cons,List.not_mem_nil,or_false,not_or];exact ⟨hrbR j hj,h.rc j hj⟩)
 have g2:∀ j,j<i→RowT W2 (R j) n (s.S j):=fun j hj=>(g1 j hj).only o2 (by simpa using hrbR j hj)
 have g3:∀ j,j<i→RowT W3 (R j) n (s.S j):=fun j hj=>(g2 j hj).only o3 (nr (g2 j hj) ow2 (h.rt j hj))
 have c2:=c1.only o2 (by simpa using hrbc.symm)
 have c3:=c2.only o3 (nr c2 ow2 htc.symm)
 have r3:=r2.only o3 (nr r2 ow2 hrbt)
 have xne:xB≠rb∧xB≠cb∧xB≠tb:=⟨by omega,by omega,by omega⟩
 have xn3:xB∉hotS tb rv bv sv:=by
  unfold hotS
  simp only [List.mem_cons,List.mem_append,Option.mem_toList,not_or]
  refine ⟨xne.2.2,fun e=>?_,fun e=>?_,fun e=>?_⟩
  ·have:=(ow2.r.lt xB e).1;omega
  ·have:=(ow2.b.lt xB e).1;omega
  ·have:=(ow2.s.lt xB e).1;omega
 have xl1:=A9 h.xl o1.size
 have xl2:=A9 xl1 o2.size
 have xc:=fun (k:Nat)=>((o3.cell (p:=⟨xB,k,none⟩) xl2 xn3).trans (o2.cell (p:=⟨xB,k,none⟩) xl1 (by simpa using xne.1))).trans (o1.cell (p:=⟨xB,k,none⟩) h.xl (by simp only [List.mem_cons,List.not_mem_nil,or_false,not_or];exact ⟨xne.1,xne.2.1⟩))
 refine ⟨?_,A9 xl2 o3.size,(xc 0).trans h.x0,(xc 1).trans h.x1,t3,c3.congr fun j hj=>?_,fun j hj=>?_,?_,fun j hj=>?_,fun j k hj hk e=>?_,fun j hj=>?_,fun j hj=>?_,fun e=>absurd e (by omega)⟩
 ·have hs0:=h.below.size
  refine ((h.below.trans (o1.toBelow hs0 ?_)).trans (o2.toBelow (Nat.le_trans hs0 o1.size) ?_)).trans (o3.toBelow (Nat.le_trans hs0 (Nat.le_trans o1.size o2.size)) ?_)
  ·intro b hb
   simp only [List.mem_cons,List.not_mem_nil,or_false] at hb
   omega
  ·intro b hb
   simp only [List.mem_cons,List.not_mem_nil,or_false] at hb
   omega
  ·intro b hb
   unfold hotS at hb
   simp only [List.mem_cons,List.mem_append,Option.mem_toList] at hb
   rcases hb with rfl | e | e | e
   ·omega
   ·have:=(ow2.r.lt b e).1;omega
   ·have:=(ow2.b.lt b e).1;omega
   ·have:=(ow2.s.lt b e).1;omega
 ·show costF s i j-rowF s i (cols+1) j=_
  rw [←hsn];exact Jp
 ·by_cases e:j=i
  ·subst e
   rw [LnM.upd_same]
   exact r3.congr fun k hk=>by rw [←hsn];exact KN ok him (by omega)
  ·rw [LnM.upd_ne _ _ e];exact g3 j (by omega)
 ·have hw:=w3.re
  rw [If (R':=upd R i rb) (fun j hj=>(LnM.upd_ne _ _ (by omega)).symm),Jq (upd R i rb) n i rb (LnM.upd_same _ _ _),KP,LW] at hw
  exact hw
 ·by_cases e:j=i
  ·subst e;rw [LnM.upd_same];exact hrb
  ·rw [LnM.upd_ne _ _ e];exact h.ge j (by omega)
 ·by_cases ej:j=i
  ·by_cases ek:k=i
   ·omega
   ·rw [ej,LnM.upd_same,LnM.upd_ne _ _ ek] at e
    exact absurd e.symm (hrbR k (by omega))
  ·by_cases ek:k=i
   ·rw [ek,LnM.upd_same,LnM.upd_ne _ _ ej] at e
    exact absurd e (hrbR j (by omega))
   ·rw [LnM.upd_ne _ _ ej,LnM.upd_ne _ _ ek] at e
    exact h.inj j k (by omega) (by omega) e
 ·by_cases e:j=i
  ·subst e;rw [LnM.upd_same];exact hrbc
  ·rw [LnM.upd_ne _ _ e];exact h.rc j (by omega)
 ·by_cases e:j=i
  ·subst e;rw [LnM.upd_same];exact hrbt
  ·rw [LnM.upd_ne _ _ e];exact h.rt j (by omega)
theorem F9 {W:World} {base:Nat} {e:TypeId} {v:Value} {n:Nat} {xs:List Value} (h:W.ownsRow base e 1 v n xs) (h0:0<n):∃ b c,v=.slice (some ⟨b,0,none⟩) n c∧v.ownBlock=some b∧base≤b∧b<W.heap.size∧n≤c∧∀ j u,xs[j]? = some u→W.cell? ⟨b,j,none⟩=some u∧W.frozen? ⟨b,j,none⟩=false:=by
 have h':=h
 rcases h.2 with ⟨rfl,rfl⟩ | ⟨g,cap,cur,rfl,hb,hg,hn,_⟩
 ·omega
 ·refine ⟨g,cap,rfl,rfl,hb,(Array.getElem?_eq_some_iff.1 hg).1,hn,fun j u hj=>⟨?_,by simp [World.frozen?,hg]⟩⟩
  have:=h'.cells (g:=g) rfl j u hj
  rwa [AE,Nat.zero_add] at this
theorem tbc_den {W:World} {tb:Nat} {rv bv sv:Value} {cb n:Nat} {d k:Int} {t:TypeId} (h:Blk W tb (tbc rv cb n bv sv d k) t):W.rangeAt tb 4 (wl (wd d))∧W.there tb 4 12:=by
 have hc:∀ j,j<12→(tbc rv cb n bv sv d k)[4+j]? = some (.int .u64 (wd d j)):=fun j hj=>by
  match j,hj with
  | 0,_=>rfl
  | 1,_=>rfl
  | 2,_=>rfl
  | 3,_=>rfl
  | 4,_=>rfl
  | 5,_=>rfl
  | 6,_=>rfl
  | 7,_=>rfl
  | 8,_=>rfl
  | 9,_=>rfl
  | 10,_=>rfl
  | 11,_=>rfl
 refine ⟨fun j v hv=>?_,fun j hj=>⟨?_,h.frozen _⟩⟩
 ·have hj:j<12:=by have:=(List.getElem?_eq_some_iff.1 hv).1;rwa [E3] at this
  rw [h.cell,hc j hj,←hv]
  have:=Bc (wd d) hj
  rw [←Aw,List.getElem?_toArray] at this
  exact this.symm
 ·rw [h.cell,hc j hj];rfl
theorem OpS.table {w W:World} {s:LnM.Sys} {rows:List (List Int×Int)} {xB tb cb n cols base:Nat} {v:Value} {R:Nat→Nat} {rv bv sv:Value} (h:OpS w W s rows xB tb cb n cols base s.m v R rv bv sv) (ok:s.Ok) (hsn:s.n=cols) (hn:n=s.n+s.m+1)
  (hb:w.heap.size≤base) (hbW:base≤W.heap.size) (htb:base≤tb) (hcb:base≤cb) (htc:tb≠cb):∃ t:Tb,t.tb=tb∧t.m=s.m∧t.n=n∧t.k=cols∧t.Dis w.heap.size∧Tbl W t (tabF s s.B0) s.B0 (sgnOf rows) 1:=by
 have key:∃ xb cx bb cB sb cS,rv=sl s.m xb cx∧bv=sl s.m bb cB∧sv=sl s.m sb cS∧base≤xb∧base≤bb∧base≤sb∧(0<s.m→xb<W.heap.size∧bb<W.heap.size∧sb<W.heap.size)∧s.m≤cx∧xb≠tb∧bb≠tb∧sb≠tb∧xb≠bb∧bb≠sb ∧
   xb≠cb∧bb≠cb∧sb≠cb∧(∀ j,j<s.m→R j≠xb∧R j≠bb∧R j≠sb)∧(∀ j,j<s.m→W.cell? ⟨xb,j,none⟩=some (.slice (some ⟨R j,0,none⟩) n n)∧(W.cell? ⟨bb,j,none⟩=some (.int .i64 ((cols+j:Nat):Int))∧W.frozen? ⟨bb,j,none⟩=false)∧W.cell? ⟨sb,j,none⟩=some (.int .i64 (sgnOf rows j))):=by
  have htl:=h.tbl.lt
  have hcl:=h.cost.row.lt
  by_cases hm:s.m=0
  ·obtain ⟨rfl,rfl,rfl⟩:=h.nl hm
   refine ⟨W.heap.size,0,W.heap.size+1,0,W.heap.size+2,0,?_,?_,?_,hbW,by omega,by omega,fun h0=>by omega,by omega,by omega,by omega,by omega,by omega,by omega,by omega,by omega,by omega,fun j hj=>by omega,fun j hj=>by omega⟩ <;> unfold sl <;> rw [hm] <;> rfl
  ·obtain ⟨xb,cx,er,obr,hxb,hxl,hxc,hxx⟩:=F9 h.own.r (by omega)
   obtain ⟨bb,cB,eb,obb,hbb,hbl,hbc,hbx⟩:=F9 h.own.b (by omega)
   obtain ⟨sb,cS,es,obs,hsb,hsl,hsc,hsx⟩:=F9 h.own.s (by omega)
   have tr:=fun e=>h.tbl.not_row (by decide) h.own.r (e:some tb=rv.ownBlock)
   have tB:=fun e=>h.tbl.not_row (by decide) h.own.b (e:some tb=bv.ownBlock)
   have tS:=fun e=>h.tbl.not_row (by decide) h.own.s (e:some tb=sv.ownBlock)
   have cr:=h.cost.not_own h.own.r (by decide)
   have cB':=h.cost.not_own h.own.b (by decide)
   have cS':=h.cost.not_own h.own.s (by decide)
   refine ⟨xb,cx,bb,cB,sb,cS,by rw [BI (by omega)];exact er,by rw [BI (by omega)];exact eb,by rw [BI (by omega)];exact es,hxb,hbb,hsb,fun _=>⟨hxl,hbl,hsl⟩,hxc,?_,?_,?_,?_,?_,?_,?_,?_,fun j hj=>⟨?_,?_,?_⟩,fun j hj=>⟨(hxx j _ ?_).1,hbx j _ ?_,(hsx j _ ?_).1⟩⟩
   ·rintro rfl;exact tr obr.symm
   ·rintro rfl;exact tB obb.symm
   ·rintro rfl;exact tS obs.symm
   ·rintro rfl;exact Cs h.own.r h.own.b CZ xb obr obb
   ·rintro rfl;exact h.own.bs bb obb obs
   ·rintro rfl;exact cr obr
   ·rintro rfl;exact cB' obb
   ·rintro rfl;exact cS' obs
   ·rintro e;exact (h.grid j hj).not_own h.own.r (by decide) (by rw [e];exact obr)
   ·rintro e;exact (h.grid j hj).not_own h.own.b (by decide) (by rw [e];exact obb)
   ·rintro e;exact (h.grid j hj).not_own h.own.s (by decide) (by rw [e];exact obs)
   ·unfold rowsL;rw [List.getElem?_map,List.getElem?_range hj];rfl
   ·unfold basL;rw [List.getElem?_map,List.getElem?_range hj];rfl
   ·unfold sgL;rw [List.getElem?_map,List.getElem?_range hj];rfl
 obtain ⟨xb,cx,bb,cB,sb,cS,rfl,rfl,rfl,k1,k2,k3,k4,k5,k6,k7,k8,k9,k10,k11,k12,k13,k14,k15⟩:=key
 obtain ⟨d1,d2⟩:=tbc_den h.tbl
 have hup:∀ j,j<s.m→upd R s.m cb j=R j:=fun j hj=>LnM.upd_ne _ _ (by omega)
 refine ⟨⟨tb,xb,bb,sb,upd R s.m cb,s.m,n,cols,cx,cB,cS⟩,rfl,rfl,rfl,rfl,?_,?_⟩
 ·have ne:=fun (i:Nat) (hi:i<s.m+1) (x:Nat) (h1:cb≠x) (h2:∀ j,j<s.m→R j≠x)=>(show upd R s.m cb i≠x from by
   by_cases e:i=s.m
   ·subst e;rw [LnM.upd_same];exact h1
   ·rw [LnM.upd_ne _ _ e];exact h2 i (by omega))
  refine ⟨fun i j hi hj e=>?_,fun i hi=>ne i hi tb (by omega) h.rt,fun i hi=>ne i hi xb k11.symm (fun j hj=>(k14 j hj).1),fun i hi=>ne i hi bb k12.symm (fun j hj=>(k14 j hj).2.1),fun i hi=>ne i hi sb k13.symm (fun j hj=>(k14 j hj).2.2),k6.symm,k7.symm,k8.symm,k9,k10,fun i hi=>?_,by show w.heap.size≤tb;omega,by show w.heap.size≤xb;omega,by show w.heap.size≤bb;omega,by show w.heap.size≤sb;omega⟩
  ·dsimp only at hi hj e
   by_cases ei:i=s.m
   ·by_cases ej:j=s.m
    ·omega
    ·rw [ei,LnM.upd_same,LnM.upd_ne _ _ ej] at e
     exact absurd e.symm (h.rc j (by omega))
   ·by_cases ej:j=s.m
    ·rw [ej,LnM.upd_same,LnM.upd_ne _ _ ei] at e
     exact absurd e (h.rc i (by omega))
    ·rw [LnM.upd_ne _ _ ei,LnM.upd_ne _ _ ej] at e
     exact h.inj i j (by omega) (by omega) e
  ·show w.heap.size≤upd R s.m cb i
   by_cases e:i=s.m
   ·subst e;rw [LnM.upd_same];omega
   ·rw [LnM.upd_ne _ _ e];have:=h.ge i (by dsimp only at hi;omega);omega
 ·refine ⟨h.tbl.lt,fun hm=>(k4 hm).1,fun hm=>(k4 hm).2.1,fun hm=>(k4 hm).2.2,h.tbl.cell 0,?_,h.tbl.cell 2,h.tbl.cell 3,d1,d2,h.tbl.cell 16,k5,fun i hi=>?_,⟨fun i hi=>?_⟩,fun i hi=>?_,fun i hi=>(k15 i hi).2.2⟩
  ·show W.cell? ⟨tb,1,none⟩=some (.slice (some ⟨upd R s.m cb s.m,0,none⟩) n n)
   rw [LnM.upd_same];exact h.tbl.cell 1
  ·show W.cell? ⟨xb,i,none⟩=some (.slice (some ⟨upd R s.m cb i,0,none⟩) n n)
   rw [hup i hi];exact (k15 i hi).1
  ·show RowAt W (upd R s.m cb i) n (tabF s s.B0 i)
   by_cases e:i=s.m
   ·subst e
    rw [LnM.upd_same]
    exact h.cost.row.congr fun j hj=>by unfold tabF;rw [if_neg (by omega)];exact KO ok (by omega)
   ·have hi':i<s.m:=by dsimp only at hi;omega
    rw [hup i hi']
    exact (h.grid i hi').row.congr fun j hj=>by unfold tabF;rw [if_pos hi',LnM.T_B0 ok hi']
  ·have:=(k15 i hi).2.1
   rwa [←hsn] at this
theorem LY {Q:Exit→Act→World→Prop} {u0 u1 u2 u3 u4 u6 u7 u8 u9 u10 u11 u12 u13 u14 u15 u16 u17 u18 u19 u20 u21 u22 u23 u24 u25 u26 u27 u28 u29 u30 u31 u32 u33 u34 u35 u36 u37 u38 u39 u40 u41 u42 u43 u44 u45 u46 u47 u48 u49 u50 u51 u52 u53 u54 u55 u56 u57 u58 u59 u60 u61 u62 u63 u64 u65 u66 u67 u68 u69 u70 u71 u72 u73 u74 u75 u76 u77 u78 u79 u80 u81 u82 u83 u84 u85 u86 u87 u88 u89 u90 u91 u92 u93 u94 u95 u96 u97 u98 u99 u100 u101 u102 u103 u104 u105 u106 u107 u108 u109 u110 u111 u112 u113 u114 u115 u116 u117 u118 u119 u120 u121 u122 u123 u124 u125 u126 u127 u128 u129 u130 u131 u132 u133 u134 u135:Value} {ac:Option Addr} {cols cp xE:Nat} {val:Int} {coef:List Int} {wb w:World} {L:BLs} (hS:BL wb L w) (hcell:Hid (∀ W,BL wb L W→W.cell? ⟨xE,0,none⟩=some (.slice ac cols cp)∧W.cell? ⟨xE,1,none⟩=some (.int .i64 val)))
  (hco:Hid (Sl wb (.slice ac cols cp) coef)) (hlen:Hid (coef.length=cols)) (hc1:cols≤100000) {ops:Array Oper} (ho:getOps Tryz.f37.body 9=some ops)
  (hQ:∀ (v41 v42 v43 v44 v45 v46 v47 v48 v49 v50 v51 v52:Value) (g cap':Nat) (W':World),BL wb L W'→Sl W' (.slice (some ⟨g,0,none⟩) (cols+1) cap') (coef++[val])→wb.heap.size≤g→Q .normal { tmps:=List.toArray (u0::u1::u2::u3::u4::.pointer (some ⟨xE,0,none⟩)::u6::u7::u8::u9::u10::u11::u12::u13::u14::u15::u16::u17::u18::u19::u20::u21::u22::u23::u24::u25::u26::u27::u28::u29::u30::u31::u32::u33::u34::u35::u36::u37::u38::u39::u40::v41::v42::v43::v44::v45::v46::v47::v48::v49::v50::v51::v52::.slice (some ⟨g,0,none⟩) (cols+1) cap'::.int .i64 ((cols+1:Nat):Int)::.int .i64 0::u56::u57::u58::u59::u60::u61::u62::u63::u64::u65::u66::u67::u68::u69::u70::u71::u72::u73::u74::u75::u76::u77::u78::u79::u80::u81::u82::u83::u84::u85::u86::u87::u88::u89::u90::u91::u92::u93::u94::u95::u96::u97::u98::u99::u100::u101::u102::u103::u104::u105::u106::u107::u108::u109::u110::u111::u112::u113::u114::u115::u116::u117::u118::u119::u120::u121::u122::u123::u124::u125::u126::u127::u128::u129::u130::u131::u132::u133::u134::u135::[]),defers:=[] } W') :
  (Code.region 9 ops true).wp Tryz.prog Q { tmps:=List.toArray (u0::u1::u2::u3::u4::.pointer (some ⟨xE,0,none⟩)::u6::u7::u8::u9::u10::u11::u12::u13::u14::u15::u16::u17::u18::u19::u20::u21::u22::u23::u24::u25::u26::u27::u28::u29::u30::u31::u32::u33::u34::u35::u36::u37::u38::u39::u40::u41::u42::u43::u44::u45::u46::u47::u48::u49::u50::u51::u52::u53::u54::u55::u56::u57::u58::u59::u60::u61::u62::u63::u64::u65::u66::u67::u68::u69::u70::u71::u72::u73::u74::u75::u76::u77::u78::u79::u80::u81::u82::u83::u84::u85::u86::u87::u88::u89::u90::u91::u92::u93::u94::u95::u96::u97::u98::u99::u100::u101::u102::u103::u104::u105::u106::u107::u108::u109::u110::u111::u112::u113::u114::u115::u116::u117::u118::u119::u120::u121::u122::u123::u124::u125::u126::u127::u128::u129::u130::u131::u132::u133::u134::u135::[]),defers:=[] } w:=by
 rcases hco.out with ⟨e,e2⟩ | ⟨b,off,cap,e,h1,h2,h3,h4⟩
 ·cases e
  exact LT hS hcell hco hlen ho hQ
 ·cases e
  exact open_r9 hS hcell hco hlen (by omega) hc1 (by omega) ho hQ
theorem OpS.mid {w W W1 W2:World} {s:LnM.Sys} {rows:List (List Int×Int)} {xB tb cb n cols base i rb:Nat} {v:Value} {R:Nat→Nat} {rv bv sv:Value} (h:OpS w W s rows xB tb cb n cols base i v R rv bv sv)
  (hbase:xB<base) (htb:base≤tb) (hcb:base≤cb) (htc:tb≠cb) (hrbt:rb≠tb) (hrbo:rv.ownBlock≠some rb∧bv.ownBlock≠some rb∧sv.ownBlock≠some rb) (hrb:base≤rb) (o1:Only [rb,cb] W W1) (o2:Only [rb] W1 W2) :
  (xB<W2.heap.size∧W2.cell? ⟨xB,0,none⟩=some (.int .i64 cols)∧xB∉hotS tb rv bv sv)∧Blk W2 tb (tbc rv cb n bv sv 1 cols) 75∧Own3 W2 W2 base rv bv sv rv i (rowsL R n i) bv i (basL cols i) sv i (sgL rows i):=by
 have co0:rv.ownBlock≠some cb∧bv.ownBlock≠some cb∧sv.ownBlock≠some cb:=⟨h.cost.not_own h.own.r (by decide),h.cost.not_own h.own.b (by decide),h.cost.not_own h.own.s (by decide)⟩
 have ow1:=(h.own.only o1 (fun b hb=>by
  simp only [List.mem_cons,List.not_mem_nil,or_false] at hb
  rcases hb with rfl | rfl
  ·exact hrbo
  ·exact co0)).re
 have ow2:=(ow1.only o2 (fun b hb=>by
  simp only [List.mem_cons,List.not_mem_nil,or_false] at hb
  subst hb
  exact hrbo)).re
 have xne:xB≠rb∧xB≠cb∧xB≠tb:=⟨by omega,by omega,by omega⟩
 have xl1:=A9 h.xl o1.size
 have tl1:=A9 h.tbl.lt o1.size
 refine ⟨⟨A9 xl1 o2.size,((o2.cell (p:=⟨xB,0,none⟩) xl1 (by simpa using xne.1)).trans (o1.cell (p:=⟨xB,0,none⟩) h.xl (by simp only [List.mem_cons,List.not_mem_nil,or_false,not_or];exact ⟨xne.1,xne.2.1⟩))).trans h.x0,?_⟩,?_,ow2⟩
 ·unfold hotS
  simp only [List.mem_cons,List.mem_append,Option.mem_toList,not_or]
  refine ⟨xne.2.2,fun e=>?_,fun e=>?_,fun e=>?_⟩
  ·have:=(ow2.r.lt xB e).1;omega
  ·have:=(ow2.b.lt xB e).1;omega
  ·have:=(ow2.s.lt xB e).1;omega
 ·exact (o2.block tb tl1 (by simpa using hrbt.symm)).trans ((o1.block tb h.tbl.lt (by simp only [List.mem_cons,List.not_mem_nil,or_false,not_or];exact ⟨hrbt.symm,htc⟩)).trans h.tbl)
theorem gi_last (l:List Int) (x:Int):gi (l++[x]) l.length=x:=by simp [gi]
theorem gi_init {l:List Int} {c:Nat} (h:c<l.length) (x:Int):gi (l++[x]) c=gi l c:=by simp [gi,List.getElem?_append_left h]
theorem LZ {cols:Nat} {rows:List (List Int×Int)} {i:Nat} (hl:(rowOf rows i).1.length=cols) {c:Nat} (hc:c≤cols):sgnOf rows i*gi ((rowOf rows i).1++[(rowOf rows i).2]) c=(sysOf cols rows).S i (qOf (sysOf cols rows) c):=by
 show _=(sysOf cols rows).S i (if c=cols then cols+rows.length else c)
 by_cases e:c=cols
 ·rw [if_pos e,e,←hl,gi_last,hl]
  show _=(if cols+rows.length<cols then _ else if cols+rows.length<cols+rows.length then _ else _)
  rw [if_neg (by omega),if_neg (by omega)]
 ·rw [if_neg e,gi_init (by omega)]
  show _=(if c<cols then _ else _)
  rw [if_pos (by omega)]
theorem DK (rows:List (List Int×Int)) (i:Nat):sgnOf rows i=1∨sgnOf rows i=-1:=by unfold sgnOf;split <;> simp
theorem M0 {l:List Int} {B:Int} (hB:0≤B) (h:∀ x∈l,-B≤x∧x≤B) (c:Nat):-B≤gi l c∧gi l c≤B:=by
 by_cases hc:c<l.length
 ·rw [Bo hc];exact h _ (List.getElem_mem hc)
 ·rw [BT (by omega)];omega
theorem M3 (cols:Nat) (rows:List (List Int×Int)) (v:Value) (w:World) (h:SlE w v rows) (hc:cols≤1000) (hm:rows.length≤1000) (hlen:∀ r∈rows,r.1.length=cols)
  (hbd:∀ r∈rows,(∀ x∈r.1,-1000000000≤x∧x≤1000000000)∧-1000000000≤r.2∧r.2≤1000000000) :
  Calls Tryz.prog 37 #[.agg #[.int .i64 cols,v]] w fun e w'=>∃ t:Tb,e=.returned (.pointer (some ⟨t.tb,0,none⟩))∧t.m=rows.length∧t.n=cols+rows.length+1∧t.k=cols∧t.Dis w.heap.size∧Tbl w' t (tabF (sysOf cols rows) (sysOf cols rows).B0) (sysOf cols rows).B0 (sgnOf rows) 1∧Below w.heap.size w w':=by
 obtain ⟨ad,cap,rfl⟩:=h.shape
 have H:=A8 h
 obtain ⟨s,hs⟩:∃ s,s=sysOf cols rows:=⟨_,rfl⟩
 have ok:Hid s.Ok:=A8 (by rw [hs];exact Jm cols rows)
 have hsn:Hid (s.n=cols):=A8 (by rw [hs];rfl)
 have hsm:Hid (s.m=rows.length):=A8 (by rw [hs];rfl)
 have hrow:Hid (∀ i,i<rows.length→rows[i]? = some (rowOf rows i)∧(rowOf rows i).1.length=cols∧∀ c,c≤cols→IntKind.i64.wrap (sgnOf rows i*gi ((rowOf rows i).1++[(rowOf rows i).2]) c)=s.S i (qOf s c)∧Fits (s.S i (qOf s c))):=A8 (fun i hi=>by
  have e:rows[i]? = some (rowOf rows i):=by unfold rowOf;rw [List.getElem?_eq_getElem hi];rfl
  have hmem:rowOf rows i∈rows:=List.mem_of_getElem? e
  refine ⟨e,hlen _ hmem,fun c hcc=>?_⟩
  rw [hs,←LZ (hlen _ hmem) hcc]
  obtain ⟨b1,b2⟩:=hbd _ hmem
  have b3:=M0 (B:=1000000000) (by decide) (l:=(rowOf rows i).1++[(rowOf rows i).2]) (fun x hx=>by
   rcases List.mem_append.1 hx with h1 | h1
   ·exact b1 x h1
   ·rw [List.mem_singleton.1 h1];exact b2) c
  have:-1000000000≤sgnOf rows i*gi ((rowOf rows i).1++[(rowOf rows i).2]) c∧sgnOf rows i*gi ((rowOf rows i).1++[(rowOf rows i).2]) c≤1000000000:=by
   rcases DK rows i with e | e <;> rw [e] <;> omega
  exact ⟨IntWalk.i64_in _ (by omega),by unfold Fits;omega⟩)
 obtain ⟨m,hmm⟩:∃ m,m=rows.length:=⟨_,rfl⟩
 obtain ⟨n,hn⟩:∃ n,n=cols+m+1:=⟨_,rfl⟩
 rw [←hmm] at hm hsm hrow ⊢
 have hnn:Hid (n=s.n+s.m+1):=A8 (by rw [hsn.out,hsm.out];exact hn)
 have hn1:n≤100000:=by omega
 rw [←hs]
 have hs':=A8 hs
 replace hmm:=A8 hmm
 replace hn:=A8 hn
 clear h hlen hbd hs
 obtain ⟨V1,hV,S1,zv1⟩:=(BL.start w).add' #[.int .i64 cols,.slice ad m cap] 27
 have zz:=A8 zv1
 clear zv1
 go_enter Tryz.func37,Tryz.ntmps37
 go_upto_region 1 with fail
 rw [←hV]
 clear hV
 refine open_r1 (wb:=V1) (cols:=cols) (m:=m) (n:=n) ⟨Below.refl _ _,S1.blks⟩ (A8 (fun W hW=>hW.c2 w.heap.size _ _ _ (.head _))) hn hn1 (by kernel_rfl) ?_
 intro v11 v12 v13 v14 v15 v16 v17 v18 v19 v20 v21 v22 v23 gc gt W1 hS1 hr hk hge hlt
 have O0:OpS w W1 s rows w.heap.size gt gc n cols (w.heap.size+1) 0 (.slice ad m cap) (fun _=>0) (.slice none 0 0) (.slice none 0 0) (.slice none 0 0) :=
  ⟨S1.below.trans (hS1.below.mono S1.below.size),(hS1.lts _ (.head _)),(hS1.c2 w.heap.size _ _ _ (.head _)).1,(hS1.c2 w.heap.size _ _ _ (.head _)).2,hk,hr.congr (fun j _=>(Jn s j).symm),fun j hj=>absurd hj (by omega),
   ⟨World.ownsRow_nil _ _ _ _,World.ownsRow_nil _ _ _ _,World.ownsRow_nil _ _ _ _,Aa _,fun _ e=>.inl e,fun _ e=>.inl e,fun _ e=>.inl e,fun g e=>by cases e⟩,fun j hj=>absurd hj (by omega),fun j k hj=>absurd hj (by omega),fun j hj=>absurd hj (by omega),fun j hj=>absurd hj (by omega),fun _=>⟨rfl,rfl,rfl⟩⟩
 have hgc:w.heap.size+1≤gc:=by rw [←zz.out];exact hge
 have x1:=O0.x1
 replace O0:=A8 O0
 clear hS1 hr hk hge S1
 go_wp2_with fail
 clear x1
 go_loopw [27] (fun o wr=>∃ (i:Nat) (R:Nat→Nat) (rv bv sv:Value),o=.int .i64 i∧i≤m∧Hid (OpS w wr s rows w.heap.size gt gc n cols (w.heap.size+1) i (.slice ad m cap) R rv bv sv)) (fun o _=>m-(intOf o).toNat)
 case atStart=>exact ⟨0,_,_,_,_,rfl,by omega,O0⟩
 case round =>
  clear O0
  obtain ⟨i,R,rv,bv,sv,rfl,him,O⟩:=hrel
  by_cases hi:i<m
  case neg =>
   have hi':¬ (i:Int)<m:=by omega
   obtain rfl:i=m:=by omega
   go_wp2
   go_ret
   have e:s.m=i:=hsm.out
   obtain ⟨t,t1,t2,t3,t4,t5,t6⟩:=OpS.table (e ▸ O.out) ok.out hsn.out (by rw [e];exact hnn.out.trans (by rw [e])) (Nat.le_succ _) (Nat.le_trans hgc (Nat.le_of_lt O.out.cost.row.lt)) (by omega) hgc (by omega)
   exact ⟨t,by rw [t1];rfl,by rw [t2];exact hsm.out,by rw [t3];exact hn.out,t4,t5,t6,O.out.below⟩
  case pos =>
   have hi':(i:Int)<m:=by omega
   have hi0:(0:Int)≤i:=by omega
   obtain ⟨hri,hrl,hre⟩:=hrow.out i hi
   obtain ⟨b,off,had,h3,h4⟩:∃ b off,ad=some ⟨b,off,none⟩∧b<w.heap.size∧CEq w b (off+i*2) (rowOf rows i):=by
    rcases H.out with ⟨e,e2⟩ | ⟨b,off,cap',e,h1,h2,h3,h4⟩
    ·rw [e2] at hri;cases hri
    ·cases e;exact ⟨b,off,rfl,h3,h4 i _ hri⟩
   subst had
   obtain ⟨cv,hcv,hcs,hval⟩:=h4
   obtain ⟨ac,cp,rfl⟩:=hcs.shape
   rw [hrl] at hcv hcs
   have y0:=(O.out.below.cell (p:=⟨b,off+i*2,none⟩) h3).trans hcv
   have y1:=(O.out.below.cell (p:=⟨b,off+i*2+1,none⟩) h3).trans hval
   obtain ⟨sg,hsg⟩:∃ sg,sg=sgnOf rows i:=⟨_,rfl⟩
   have hsgv:Hid (sg=if (rowOf rows i).2<0 then -1 else 1):=A8 hsg
   rw [←hsg] at hre
   obtain ⟨coef,hcoef⟩:∃ l,l=(rowOf rows i).1:=⟨_,rfl⟩
   obtain ⟨val,hvale⟩:∃ x,x=(rowOf rows i).2:=⟨_,rfl⟩
   rw [←hcoef,←hvale] at hre
   rw [←hcoef] at hcs hrl
   rw [←hvale] at y1 hsgv
   replace hre:=A8 hre
   replace hrl:=A8 hrl
   have hcsW:=A8 (hcs.below O.out.below)
   replace hsg:=A8 hsg
   clear hri h3 hcv hcs hval hcoef hvale
   go_upto_region 5 with fail
   clear y0 y1
   obtain ⟨W5,hW5,S5,z5⟩:=(BL.start wr).add' #[.slice ac cols cp,.int .i64 val] 60
   rw [←hW5]
   have hE0:=S5.c2 wr.heap.size _ _ _ (.head _)
   obtain ⟨y0,y1⟩:=hE0
   have hb5:Below wr.heap.size wr W5:=S5.below
   have O5:=A8 (O.out.later hb5)
   replace hcsW:=A8 (hcsW.out.below hb5)
   have kE:=A8 (S5.blks _ (.head _))
   replace z5:=A8 z5
   clear hW5 S5
   go_upto_if 34 with (fail)
   go_cut [6] (fun sx wx=>sx=.int .i64 sg∧W5=wx)
   case first =>
    by_cases hneg:val<0
    ·have e1:sg=-1:=by rw [hsgv.out,if_pos hneg]
     go_wp2_with fail
     go_meet
     exact ⟨by rw [e1],rfl⟩
    ·have e1:sg=1:=by rw [hsgv.out,if_neg hneg]
     go_wp2_with fail
     go_meet
     exact ⟨by rw [e1],rfl⟩
   case rest =>
    obtain ⟨rfl,rfl⟩:=hcut
    have x8:W5.cell? ⟨gt,1,none⟩=some (.slice (some ⟨gc,0,none⟩) n n):=O5.out.tbl.cell 1
    have gtl:gt<W5.heap.size:=O5.out.tbl.lt
    have gcl:gc<W5.heap.size:=O5.out.cost.row.lt
    have xl5:w.heap.size+1<W5.heap.size:=by have:=O.out.xl;have:=z5.out;omega
    obtain ⟨W8,hmk,hrow8,hty8,hb8⟩:=DI W5 n (by omega)
    have R8:=A8 (⟨hrow8,hty8⟩:RowT W8 W5.heap.size n (fun _=>0))
    have own5:=(⟨fun e=>by have:=(O5.out.own.r.lt _ e).2;omega,fun e=>by have:=(O5.out.own.b.lt _ e).2;omega,fun e=>by have:=(O5.out.own.s.lt _ e).2;omega⟩:rv.ownBlock≠some W5.heap.size∧bv.ownBlock≠some W5.heap.size∧sv.ownBlock≠some W5.heap.size)
    have ne5:∀ j,j<i→R j≠W5.heap.size:=fun j hj e=>by have:=(O5.out.grid j hj).row.lt;omega
    replace own5:=A8 own5
    replace ne5:=A8 ne5
    clear hrow8 hty8
    go_upto_region 9 with fail
    clear x8 hmk y0 y1
    have O8:=A8 (O5.out.later hb8)
    have kE8:=kE.out.below hb8
    generalize hrbe:W5.heap.size=rb at *
    refine LY (wb:=W8) (coef:=coef) (val:=val) (L:=[(wr.heap.size,#[.slice ac cols cp,.int .i64 val],60)]) ⟨Below.refl _ _,fun p hp=>by rcases List.mem_cons.1 hp with rfl | hp;exact kE8;cases hp⟩ (A8 (fun W hW=>hW.c2 wr.heap.size _ _ _ (.head _))) (A8 (hcsW.out.below (hrbe ▸ hb8))) hrl (by omega) (by kernel_rfl) ?_
    intro v41 v42 v43 v44 v45 v46 v47 v48 v49 v50 v51 v52 g capg W9 hS9 hSl hg8
    have O9:=A8 (O8.out.later hS9.below)
    have R9:=A8 ((R8.out.below hS9.below).congr (g:=rowF s i 0) (fun j _=>(G7 s i j).symm))
    have C9:=A8 (O9.out.cost.congr (g:=fun j=>costF s i j-rowF s i 0 j) (fun j _=>by rw [G7,Int.sub_zero]))
    have hrb8:rb<W8.heap.size:=R8.out.row.lt
    replace hSl:=A8 hSl
    clear hS9 kE8
    go_wp2_with fail
    refine open_l2 (es:=coef++[val]) (s:=s) (i:=i) (A8 (by omega)) hsn hnn hn1 (A8 (by rw [List.length_append,hrl.out];rfl)) hSl hre (A8 ⟨O9.out.xl,O9.out.x0,by omega,by omega⟩) (A8 ⟨O9.out.tbl.lt,O9.out.tbl.cell 1,by omega,by omega⟩) (A8 (by omega)) (A8 ⟨by omega,by omega⟩) R9 C9 (by kernel_rfl) ?_
    intro u8 u9 u10 u55 u56 u57 u58 u59 u60 u61 u62 u63 u64 u65 u66 u67 u68 u69 u70 u71 u72 u73 u74 u75 u76 u77 u78 u79 u80 u81 u82 u83 u84 u85 u86 u87 u88 u89 u90 u91 u92 u93 W10 hO10 R10 C10
    clear R9 C9 hSl
    have hO10':=A8 hO10
    have x10:=(⟨A9 O9.out.xl hO10.size,(hO10.cell (p:=⟨w.heap.size,0,none⟩) O9.out.xl (by simp only [List.mem_cons,List.not_mem_nil,or_false,not_or];exact ⟨by omega,by omega⟩)).trans O9.out.x0⟩:w.heap.size<W10.heap.size∧W10.cell? ⟨w.heap.size,0,none⟩=some (.int .i64 cols))
    replace x10:=A8 x10
    clear hO10
    go_upto_region 18 with fail
    have hcin:cols+i<n:=by have:=hn.out;omega
    refine LU (q:=cols+i) (cols:=cols) (i:=i) (Fr:=rowF s i (cols+1)) (by rw [IntWalk.i64_in _ (by omega)];omega) hcin (by omega) (by omega) x10 (A8 R10) (A8 (by omega)) (by kernel_rfl) ?_
    intro v94 v95 v96 v97 v98 v99 v100 W11 hO11 R11
    obtain ⟨m1,m2,m3⟩:=O9.out.mid (by omega) (by omega) hgc (by omega) (by omega) own5.out (by omega) hO10'.out hO11
    have hO11':=A8 hO11
    have R11':=A8 R11
    have bs11:w.heap.size+1≤W11.heap.size:=m1.1
    replace m1:=A8 m1
    replace m2:=A8 m2
    replace m3:=A8 m3
    clear hO11 R11
    go_upto_region 19 with fail
    refine LX (q:=cols+i) (cols:=cols) (i:=i) (by rw [IntWalk.i64_in _ (by omega)];omega) (by omega) bs11 m1 m2 m3 (by kernel_rfl) ?_
    intro v101 v102 v103 v104 v105 v106 v107 v108 v109 v110 v111 v112 v113 v114 v115 v116 v117 v118 v119 v120 v121 v122 v123 v124 v125 v126 v127 v128 v129 v130 v131 v132 v133 gr kr gb kb gs ks W12 hO12 T12 own12
    rw [hsg.out] at own12
    have O12:=A8 (O9.out.round ok.out hsn.out hnn.out (by rw [hsm.out];exact hi) ⟨Aa _,Nat.lt_succ_self _⟩ (by omega) hgc (by omega) (by omega) (by omega) ne5.out own5.out (by omega) hO10'.out R10 C10 hO11'.out R11'.out hO12 T12 own12)
    clear hO12 T12 own12 m1 m2 m3 R10 C10
    go_wp2_with fail
    go_roundw
    case rel=>exact ⟨i+1,_,_,_,_,by go_num,by omega,O12⟩
    case measure=>simp [intOf];omega
end
end Go.Proofs.YtcmomjnailihpaaGreatDoor
