/- SvB, LwS, SvC -/
import Derived.Test.YtcmomjnailihpaaGreatDoorULcR
import Derived.Deep.LoopGhost
import Derived.Scope
import Derived.WalkMore
set_option maxHeartbeats 8000000
set_option maxRecDepth 100000
namespace Go.Proofs.YtcmomjnailihpaaGreatDoor
section
open Go.RowKit
open LnM (wd upd sm)
attribute [local go_sem] Oper.semAt_some
theorem KS {Q:Exit→Act→World→Prop} {u0 u1 u2 u3 u5 u6 u7 u8 u9 u10 u11 u12 u13 u14 u15 u16 u17 u18 u19 u20 u21 u22 u23 u24 u25 u26 u27 u28 u29 u30 u31 u32 u33 u34 u35 u36 u37 u38 u39 u40 u41 u42 u43 u44 u45 u46 u47 u48 u49 u50 u51 u52 u53 u54 u55 u56 u57 u58 u59 u60 u61 u62 u63 u64 u65 u66 u67 u68 u69 u70 u71 u72 u73 u74 u75 u76 u77 u78 u79 u80 u81 u82 u83 u84 u85 u86 u87 u88 u89 u90 u91 u92 u93 u94 u95 u96 u97 u98 u99 u100 u101 u102 u103 u104 u105 u106 u107 u108 u109 u110 u111 u112 u113 u114 u115 u116 u117 u118 u119 u120 u121 u122 u123:Value} {t:Tb} {F:Nat→Nat→Int} {B:Nat→Nat} {sg:Nat→Int} {d:Int} {w0 w:World} (hE:Hid (Env w0)) (h0:Hid (Below w0.heap.size w0 w)) (hT:Hid (Tbl w t F B sg d)) (hd:Hid (LnM.Wide d∧LnM.Wide (-d))) (hk:t.k≤1000) {ops:Array Oper} (ho:getOps Tryz.f14.body 17=some ops)
  (hQ:∀ (v77 v78 v79 v80 v81 v82 v83 v84 v85 v86 v87 v88 v89:Value) (ga gb:Nat) (W':World),Below w.heap.size w W'→StrAt W' gb t.k (fun _=>⟨#[48]⟩)→Blk W' ga (#[.bool true,.slice (some ⟨gb,0,none⟩) t.k t.k,.string ⟨(Lib.itoa (d)).toArray⟩,.slice none 0 0]) 38→w.heap.size≤ga→w.heap.size≤gb→Q .normal { tmps:=List.toArray (u0::u1::u2::u3::.pointer (some ⟨t.tb,0,none⟩)::u5::u6::u7::u8::u9::.pointer (some ⟨ga,0,none⟩)::u11::u12::u13::u14::u15::u16::u17::u18::u19::u20::u21::u22::u23::u24::u25::u26::u27::u28::u29::u30::u31::u32::u33::u34::u35::u36::u37::u38::u39::u40::u41::u42::u43::u44::u45::u46::u47::u48::u49::u50::u51::u52::u53::u54::u55::u56::u57::u58::u59::u60::u61::u62::u63::u64::u65::u66::u67::u68::u69::u70::u71::u72::u73::u74::u75::u76::v77::v78::v79::v80::v81::v82::v83::v84::v85::v86::v87::v88::v89::u90::u91::u92::u93::u94::u95::u96::u97::u98::u99::u100::u101::u102::u103::u104::u105::u106::u107::u108::u109::u110::u111::u112::u113::u114::u115::u116::u117::u118::u119::u120::u121::u122::u123::[]),defers:=[] } W') :
  (Code.region 17 ops true).wp Tryz.prog Q { tmps:=List.toArray (u0::u1::u2::u3::.pointer (some ⟨t.tb,0,none⟩)::u5::u6::u7::u8::u9::u10::u11::u12::u13::u14::u15::u16::u17::u18::u19::u20::u21::u22::u23::u24::u25::u26::u27::u28::u29::u30::u31::u32::u33::u34::u35::u36::u37::u38::u39::u40::u41::u42::u43::u44::u45::u46::u47::u48::u49::u50::u51::u52::u53::u54::u55::u56::u57::u58::u59::u60::u61::u62::u63::u64::u65::u66::u67::u68::u69::u70::u71::u72::u73::u74::u75::u76::u77::u78::u79::u80::u81::u82::u83::u84::u85::u86::u87::u88::u89::u90::u91::u92::u93::u94::u95::u96::u97::u98::u99::u100::u101::u102::u103::u104::u105::u106::u107::u108::u109::u110::u111::u112::u113::u114::u115::u116::u117::u118::u119::u120::u121::u122::u123::[]),defers:=[] } w:=by
 obtain rfl:=Option.some.inj (ho.symm.trans (rfl:getOps Tryz.f14.body 17=some _))
 clear ho
 replace hQ:=A8 hQ
 obtain ⟨Iv,hI⟩:∃ Iv:(Nat→Bool)→Act→World→Prop,∀ l a W,Iv l a W↔(∃ s77 s78 s79 s80 s81 s82 s83 s84 s85 s86 s87 s88 s89 s10:Value,a={ tmps:=List.toArray (u0::u1::u2::u3::.pointer (some ⟨t.tb,0,none⟩)::u5::u6::u7::u8::u9::s10::u11::u12::u13::u14::u15::u16::u17::u18::u19::u20::u21::u22::u23::u24::u25::u26::u27::u28::u29::u30::u31::u32::u33::u34::u35::u36::u37::u38::u39::u40::u41::u42::u43::u44::u45::u46::u47::u48::u49::u50::u51::u52::u53::u54::u55::u56::u57::u58::u59::u60::u61::u62::u63::u64::u65::u66::u67::u68::u69::u70::u71::u72::u73::u74::u75::u76::s77::s78::s79::s80::s81::s82::s83::s84::s85::s86::s87::s88::s89::u90::u91::u92::u93::u94::u95::u96::u97::u98::u99::u100::u101::u102::u103::u104::u105::u106::u107::u108::u109::u110::u111::u112::u113::u114::u115::u116::u117::u118::u119::u120::u121::u122::u123::[]),defers:=[] }∧Below w.heap.size w W∧Vs [(1,.pointer (some ⟨t.tb,0,none⟩),s78),(2,.pointer (some ⟨t.tb,0,none⟩),s79),(3,.pointer (some ⟨t.tb,16,none⟩),s80),(4,.int .i64 t.k,s81),(6,.pointer (some ⟨t.tb,0,none⟩),s83),(7,.pointer (some ⟨t.tb,0,none⟩),s84),(8,.pointer (some ⟨t.tb,4,none⟩),s85),(10,.string ⟨(Lib.itoa (d)).toArray⟩,s87)] l∧(l 0=true→(l 14=false→∃ g:Nat,s77=.slice (some ⟨g,0,none⟩) 1 1∧W.cell? ⟨g,0,none⟩=some (.string ⟨#[48]⟩)∧g<W.heap.size))∧(l 5=true→(l 14=false→∃ g:Nat,s82=.slice (some ⟨g,0,none⟩) t.k t.k∧StrAt W g t.k (fun _=>⟨#[48]⟩)∧w.heap.size≤g))∧(l 9=true→s86=.agg (wc (wd (d))))∧(l 11=true→(l 14=false→∃ g:Nat,s88=.agg #[.slice (some ⟨g,0,none⟩) t.k t.k,.string ⟨(Lib.itoa (d)).toArray⟩]∧StrAt W g t.k (fun _=>⟨#[48]⟩)∧w.heap.size≤g))∧(l 12=true→(l 14=false→∃ g:Nat,s89=.agg (#[.bool true,.slice (some ⟨g,0,none⟩) t.k t.k,.string ⟨(Lib.itoa (d)).toArray⟩,.slice none 0 0])∧StrAt W g t.k (fun _=>⟨#[48]⟩)∧w.heap.size≤g))∧(l 13=true→∃ g:Nat,s10=.pointer (some ⟨g,0,none⟩)∧w.heap.size≤g∧(l 14=false→Blk W g (#[.bool false,.slice none 0 0,.string ⟨#[]⟩,.slice none 0 0]) 38)∧(l 14=true→∃ gb:Nat,StrAt W gb t.k (fun _=>⟨#[48]⟩)∧w.heap.size≤gb∧Blk W g (#[.bool true,.slice (some ⟨gb,0,none⟩) t.k t.k,.string ⟨(Lib.itoa (d)).toArray⟩,.slice none 0 0]) 38))):=⟨_,fun _ _ _=>Iff.rfl⟩
 refine Ak Iv (by kernel_rfl) (by kernel_rfl) ((hI _ _ _).2 ⟨_,_,_,_,_,_,_,_,_,_,_,_,_,_,rfl,Ac w 1,Vs.zero,fun h=>off h,fun h=>off h,fun h=>off h,fun h=>off h,fun h=>off h,fun h=>off h⟩) (Ab (k:=0) ?_ (Ab (k:=1) ?_ (Ab (k:=2) ?_ (Ab (k:=3) ?_ (Ab (k:=4) ?_ (Ab (k:=5) ?_ (Ab (k:=6) ?_ (Ab (k:=7) ?_ (Ab (k:=8) ?_ (Ab (k:=9) ?_ (Ab (k:=10) ?_ (Ab (k:=11) ?_ (Ab (k:=12) ?_ (Ab (k:=13) ?_ (Ab (k:=14) ?_ (Af)))))))))))))))) ?_
 ·intro l a W hl hw hsh h K hK
  rw [hI] at h;iterate 14 obtain ⟨_,h⟩:=h
  obtain ⟨rfl,hC,hP,f0,f5,f9,h⟩:=h;obtain ⟨f11,f12,f13⟩:=h
  go_simp
  have hb:=(Below.refl W.heap.size W).alloc (Aa _) (.cells #[.string ⟨#[48]⟩] 9)
  apply hK.out;rw [hI];iterate 14 apply Exists.intro
  exact ⟨rfl,hC.trans (hb.mono hC.size),hP.skip 0 rfl,fun _ _=>⟨_,rfl,(Blk.new W #[.string ⟨#[48]⟩] 9).cell 0,by simp⟩,(fun h h14=>(let ⟨g,e,a,b⟩:=f5 h h14;⟨g,e,a.below hb,b⟩)),f9,(fun h h14=>(let ⟨g,e,a,b⟩:=f11 h h14;⟨g,e,a.below hb,b⟩)),(fun h h14=>(let ⟨g,e,a,b⟩:=f12 h h14;⟨g,e,a.below hb,b⟩)),(fun h=>(let ⟨g,e,c,a,b⟩:=f13 h;⟨g,e,c,fun h2=>(a h2).below hb,fun h2=>(let ⟨gb,x,y,z⟩:=b h2;⟨gb,x.below hb,y,z.below hb⟩)⟩))⟩
 ·intro l a W hl hw hsh h K hK
  rw [hI] at h;iterate 14 obtain ⟨_,h⟩:=h
  obtain ⟨rfl,hC,hP,f0,f5,f9,h⟩:=h;obtain ⟨f11,f12,f13⟩:=h
  go_simp
  apply hK.out;rw [hI];iterate 14 apply Exists.intro
  exact ⟨rfl,hC,hP.put 0 rfl rfl rfl,f0,f5,f9,f11,f12,f13⟩
 ·intro l a W hl hw hsh h K hK
  rw [hI] at h;iterate 14 obtain ⟨_,h⟩:=h
  obtain ⟨rfl,hC,hP,f0,f5,f9,h⟩:=h;obtain ⟨f11,f12,f13⟩:=h
  obtain rfl:=hP.get 0 rfl (hw 1 (by kernel_rfl))
  go_simp
  apply hK.out;rw [hI];iterate 14 apply Exists.intro
  exact ⟨rfl,hC,hP.put 1 rfl rfl rfl,f0,f5,f9,f11,f12,f13⟩
 ·intro l a W hl hw hsh h K hK
  rw [hI] at h;iterate 14 obtain ⟨_,h⟩:=h
  obtain ⟨rfl,hC,hP,f0,f5,f9,h⟩:=h;obtain ⟨f11,f12,f13⟩:=h
  obtain rfl:=hP.get 1 rfl (hw 2 (by kernel_rfl))
  go_simp
  apply hK.out;rw [hI];iterate 14 apply Exists.intro
  exact ⟨rfl,hC,hP.put 2 rfl rfl rfl,f0,f5,f9,f11,f12,f13⟩
 ·intro l a W hl hw hsh h K hK
  rw [hI] at h;iterate 14 obtain ⟨_,h⟩:=h
  obtain ⟨rfl,hC,hP,f0,f5,f9,h⟩:=h;obtain ⟨f11,f12,f13⟩:=h
  obtain rfl:=hP.get 2 rfl (hw 3 (by kernel_rfl))
  have x1:=(hT.out.below hC).c16
  go_simp
  apply hK.out;rw [hI];iterate 14 apply Exists.intro
  exact ⟨rfl,hC,hP.put 3 rfl rfl rfl,f0,f5,f9,f11,f12,f13⟩
 ·intro l a W hl hw hsh h K hK
  rw [hI] at h;iterate 14 obtain ⟨_,h⟩:=h
  obtain ⟨rfl,hC,hP,f0,f5,f9,h⟩:=h;obtain ⟨f11,f12,f13⟩:=h
  obtain rfl:=hP.get 3 rfl (hw 4 (by kernel_rfl))
  have hst:l 14=false:=by
   cases hc:l 14 with
   | false=>rfl
   | true=>exact absurd (hsh 11 5 _ rfl (hsh 12 11 _ rfl (hsh 14 12 _ rfl (hc) (by kernel_rfl)) (by kernel_rfl)) (by kernel_rfl)) (by simp [hl])
  obtain ⟨gl,e77,hg0,hgl⟩:=f0 (hw 0 (by kernel_rfl)) hst
  subst e77
  go_simp
  go_at_call 41
  refine Calls.mono (Jr t.k gl 1 ⟨#[48]⟩ _ hg0 hgl hk) ?_
  rintro e W2 ⟨g,rfl,hgw,hrep,hb⟩
  apply hK.out;rw [hI];iterate 14 apply Exists.intro
  exact ⟨rfl,hC.trans (hb.mono hC.size),hP.skip 5 rfl,(fun h h14=>(let ⟨g,e,a,b⟩:=f0 h h14;⟨g,e,(hb.cell (p:=⟨_,_,none⟩) b).trans a,A9 b hb.size⟩)),fun _ _=>⟨g,rfl,hrep.str,Nat.le_trans hC.size hgw⟩,f9,(fun h h14=>(let ⟨g,e,a,b⟩:=f11 h h14;⟨g,e,a.below hb,b⟩)),(fun h h14=>(let ⟨g,e,a,b⟩:=f12 h h14;⟨g,e,a.below hb,b⟩)),(fun h=>(let ⟨g,e,c,a,b⟩:=f13 h;⟨g,e,c,fun h2=>(a h2).below hb,fun h2=>(let ⟨gb,x,y,z⟩:=b h2;⟨gb,x.below hb,y,z.below hb⟩)⟩))⟩
 ·intro l a W hl hw hsh h K hK
  rw [hI] at h;iterate 14 obtain ⟨_,h⟩:=h
  obtain ⟨rfl,hC,hP,f0,f5,f9,h⟩:=h;obtain ⟨f11,f12,f13⟩:=h
  go_simp
  apply hK.out;rw [hI];iterate 14 apply Exists.intro
  exact ⟨rfl,hC,hP.put 4 rfl rfl rfl,f0,f5,f9,f11,f12,f13⟩
 ·intro l a W hl hw hsh h K hK
  rw [hI] at h;iterate 14 obtain ⟨_,h⟩:=h
  obtain ⟨rfl,hC,hP,f0,f5,f9,h⟩:=h;obtain ⟨f11,f12,f13⟩:=h
  obtain rfl:=hP.get 4 rfl (hw 6 (by kernel_rfl))
  go_simp
  apply hK.out;rw [hI];iterate 14 apply Exists.intro
  exact ⟨rfl,hC,hP.put 5 rfl rfl rfl,f0,f5,f9,f11,f12,f13⟩
 ·intro l a W hl hw hsh h K hK
  rw [hI] at h;iterate 14 obtain ⟨_,h⟩:=h
  obtain ⟨rfl,hC,hP,f0,f5,f9,h⟩:=h;obtain ⟨f11,f12,f13⟩:=h
  obtain rfl:=hP.get 5 rfl (hw 7 (by kernel_rfl))
  go_simp
  apply hK.out;rw [hI];iterate 14 apply Exists.intro
  exact ⟨rfl,hC,hP.put 6 rfl rfl rfl,f0,f5,f9,f11,f12,f13⟩
 ·intro l a W hl hw hsh h K hK
  rw [hI] at h;iterate 14 obtain ⟨_,h⟩:=h
  obtain ⟨rfl,hC,hP,f0,f5,f9,h⟩:=h;obtain ⟨f11,f12,f13⟩:=h
  obtain rfl:=hP.get 6 rfl (hw 8 (by kernel_rfl))
  rw [if_pos (by rfl)]
  have hrng:=(hT.out.below hC).den
  refine wp_load_mid _ _ rfl _ _ rfl (wl (wd (d))) _ hrng CP rfl (BO _) ?_
  apply hK.out;rw [hI];iterate 14 apply Exists.intro
  exact ⟨rfl,hC,hP.skip 9 rfl,f0,f5,fun _=>rfl,f11,f12,f13⟩
 ·intro l a W hl hw hsh h K hK
  rw [hI] at h;iterate 14 obtain ⟨_,h⟩:=h
  obtain ⟨rfl,hC,hP,f0,f5,f9,h⟩:=h;obtain ⟨f11,f12,f13⟩:=h
  obtain rfl:=f9 (hw 9 (by kernel_rfl))
  go_simp
  go_at_call 40
  refine Calls.mono (E5 d hd.out.1 hd.out.2 _ (hE.out.below (h0.out.trans (hC.mono h0.out.size)) (Aa _))) ?_
  rintro e W2 ⟨rfl,hb⟩
  apply hK.out;rw [hI];iterate 14 apply Exists.intro
  exact ⟨rfl,hC.trans (hb.mono hC.size),hP.put 7 rfl rfl rfl,(fun h h14=>(let ⟨g,e,a,b⟩:=f0 h h14;⟨g,e,(hb.cell (p:=⟨_,_,none⟩) b).trans a,A9 b hb.size⟩)),(fun h h14=>(let ⟨g,e,a,b⟩:=f5 h h14;⟨g,e,a.below hb,b⟩)),f9,(fun h h14=>(let ⟨g,e,a,b⟩:=f11 h h14;⟨g,e,a.below hb,b⟩)),(fun h h14=>(let ⟨g,e,a,b⟩:=f12 h h14;⟨g,e,a.below hb,b⟩)),(fun h=>(let ⟨g,e,c,a,b⟩:=f13 h;⟨g,e,c,fun h2=>(a h2).below hb,fun h2=>(let ⟨gb,x,y,z⟩:=b h2;⟨gb,x.below hb,y,z.below hb⟩)⟩))⟩
 ·intro l a W hl hw hsh h K hK
  rw [hI] at h;iterate 14 obtain ⟨_,h⟩:=h
  obtain ⟨rfl,hC,hP,f0,f5,f9,h⟩:=h;obtain ⟨f11,f12,f13⟩:=h
  obtain rfl:=hP.get 7 rfl (hw 10 (by kernel_rfl))
  have hst:l 14=false:=by
   cases hc:l 14 with
   | false=>rfl
   | true=>exact absurd (hsh 12 11 _ rfl (hsh 14 12 _ rfl (hc) (by kernel_rfl)) (by kernel_rfl)) (by simp [hl])
  obtain ⟨gb,e82,hrb,hgb⟩:=f5 (hw 5 (by kernel_rfl)) hst
  subst e82
  go_simp
  apply hK.out;rw [hI];iterate 14 apply Exists.intro
  exact ⟨rfl,hC,hP.skip 11 rfl,f0,f5,f9,fun _ _=>⟨gb,rfl,hrb,hgb⟩,f12,f13⟩
 ·intro l a W hl hw hsh h K hK
  rw [hI] at h;iterate 14 obtain ⟨_,h⟩:=h
  obtain ⟨rfl,hC,hP,f0,f5,f9,h⟩:=h;obtain ⟨f11,f12,f13⟩:=h
  have hst:l 14=false:=by
   cases hc:l 14 with
   | false=>rfl
   | true=>exact absurd (hsh 14 12 _ rfl (hc) (by kernel_rfl)) (by simp [hl])
  obtain ⟨gb,e88,hrb,hgb⟩:=f11 (hw 11 (by kernel_rfl)) hst
  subst e88
  go_simp
  apply hK.out;rw [hI];iterate 14 apply Exists.intro
  exact ⟨rfl,hC,hP.skip 12 rfl,f0,f5,f9,f11,fun _ _=>⟨gb,rfl,hrb,hgb⟩,f13⟩
 ·intro l a W hl hw hsh h K hK
  rw [hI] at h;iterate 14 obtain ⟨_,h⟩:=h
  obtain ⟨rfl,hC,hP,f0,f5,f9,h⟩:=h;obtain ⟨f11,f12,f13⟩:=h
  have hst:l 14=false:=by
   cases hc:l 14 with
   | false=>rfl
   | true=>exact absurd (hsh 14 13 _ rfl hc (by kernel_rfl)) (by simp [hl])
  go_simp
  have hb:=(Below.refl W.heap.size W).alloc (Aa _) (.cells (#[.bool false,.slice none 0 0,.string ⟨#[]⟩,.slice none 0 0]) 38)
  apply hK.out;rw [hI];iterate 14 apply Exists.intro
  exact ⟨rfl,hC.trans (hb.mono hC.size),hP.skip 13 rfl,(fun h h14=>(let ⟨g,e,a,b⟩:=f0 h h14;⟨g,e,(hb.cell (p:=⟨_,_,none⟩) b).trans a,A9 b hb.size⟩)),(fun h h14=>(let ⟨g,e,a,b⟩:=f5 h h14;⟨g,e,a.below hb,b⟩)),f9,(fun h h14=>(let ⟨g,e,a,b⟩:=f11 h h14;⟨g,e,a.below hb,b⟩)),(fun h h14=>(let ⟨g,e,a,b⟩:=f12 h h14;⟨g,e,a.below hb,b⟩)),fun _=>⟨_,rfl,hC.size,fun _=>Blk.new _ _ _,fun h2=>off (hst.symm.trans h2)⟩⟩
 ·intro l a W hl hw hsh h K hK
  rw [hI] at h;iterate 14 obtain ⟨_,h⟩:=h
  obtain ⟨rfl,hC,hP,f0,f5,f9,h⟩:=h;obtain ⟨f11,f12,f13⟩:=h
  obtain ⟨ga,rfl,hga,hg0,hg1⟩:=f13 (hw 13 (by kernel_rfl))
  obtain ⟨gb,e89,hrb,hgb⟩:=f12 (hw 12 (by kernel_rfl)) hl
  subst e89
  have hne:0<t.k→gb≠ga:=fun hk0 e=>by
   have h14:=hg0 hl
   have:=(hrb.cell 0 hk0).1;rw [e,h14.cell] at this;simp at this
  have hG:=hg0 hl
  obtain ⟨x0,x1,x2,x3⟩:=(⟨hG.cell 0,hG.cell 1,hG.cell 2,hG.cell 3⟩:_∧_∧_∧_)
  obtain ⟨y0,y1,y2,y3⟩:=(⟨hG.frozen 0,hG.frozen 1,hG.frozen 2,hG.frozen 3⟩:_∧_∧_∧_)
  skip
  go_simp
  have hG2:=(((hG.set 0 (.bool true)).set 1 (.slice (some ⟨gb,0,none⟩) t.k t.k)).set 2 (.string ⟨(Lib.itoa (d)).toArray⟩)).set 3 (.slice none 0 0)
  have hon:Only [ga] W ((((W.setCell ⟨ga,0,none⟩ (.bool true)).setCell ⟨ga,1,none⟩ (.slice (some ⟨gb,0,none⟩) t.k t.k)).setCell ⟨ga,2,none⟩ (.string ⟨(Lib.itoa (d)).toArray⟩)).setCell ⟨ga,3,none⟩ (.slice none 0 0)):=((((Only.refl [ga] W).setCell (p:=⟨ga,0,none⟩) (by simp) _).setCell (p:=⟨ga,1,none⟩) (by simp) _).setCell (p:=⟨ga,2,none⟩) (by simp) _).setCell (p:=⟨ga,3,none⟩) (by simp) _
  have hsb:=(⟨A9 hrb.lt hon.size,fun j hj=>(hrb.only hon (by intro e;rw [List.mem_singleton] at e;exact hne (by omega) e)).cell j hj⟩:StrAt _ gb t.k (fun _=>⟨#[48]⟩))
  apply hK.out;rw [hI];iterate 14 apply Exists.intro
  exact ⟨rfl,hC.trans (hon.toBelow hC.size (by intro b hb;rw [List.mem_singleton.1 hb];exact hga)),hP.skip 14 rfl,(fun _ h2=>off h2.symm),(fun _ h2=>off h2.symm),f9,(fun _ h2=>off h2.symm),(fun _ h2=>off h2.symm),(fun _=>⟨ga,rfl,hga,fun h2=>off h2.symm,fun _=>⟨gb,hsb,hgb,hG2⟩⟩)⟩
 ·intro a W hI'
  have h:=(hI _ _ _).1 hI';clear hI';iterate 14 obtain ⟨_,h⟩:=h
  obtain ⟨rfl,hC,hP,f0,f5,f9,h⟩:=h;obtain ⟨f11,f12,f13⟩:=h
  clear f0
  clear f5
  clear f9
  clear f11
  clear f12
  obtain ⟨ga,rfl,hga,hg0,hg1⟩:=f13 (by kernel_rfl)
  obtain ⟨gb,hsb,hgb,hG⟩:=hg1 (by kernel_rfl)
  exact hQ.out _ _ _ _ _ _ _ _ _ _ _ _ _ ga gb _ hC hsb hG hga hgb
theorem KT {Q:Exit→Act→World→Prop} {u0 u1 u2 u3 u6 u7 u8 u9 u13 u14 u15 u16 u17 u18 u19 u20 u21 u22 u23 u24 u25 u26 u27 u28 u29 u30 u31 u32 u33 u34 u35 u36 u37 u38 u39 u40 u41 u42 u43 u44 u45 u46 u47 u48 u49 u50 u51 u52 u53 u54 u55 u56 u57 u58 u59 u60 u61 u62 u63 u64 u65 u66 u67 u68 u69 u70 u71 u72 u73 u74 u75 u76 u77 u78 u79 u80 u81 u82 u83 u84 u85 u86 u87 u88 u89 u90 u91 u92 u93 u94 u95 u96 u97 u98 u99 u100 u101 u102 u103 u104 u105 u106 u107 u108 u109 u110 u111 u112 u113 u114 u115 u116 u117 u118 u119 u120 u121 u122 u123:Value} {t:Tb} {F:Nat→Nat→Int} {B:Nat→Nat} {sg:Nat→Int} {d:Int} {ga nb i q la:Nat} {f:Nat→ByteArray} {w0 w:World} (hE:Hid (Env w0)) (h0:Hid (Below w0.heap.size w0 w∧w0.heap.size≤nb)) (hT:Hid (Tbl w t F B sg d)) (him:i<t.m) (him':(i:Int)<t.m) (hi0:(0:Int)≤i) (hla:la<t.n) (hla':(la:Int)<t.n) (hla0:(0:Int)≤la) (hq:q<t.k) (hq':(q:Int)<t.k) (hq0:(0:Int)≤q) (hz:Hid (LnM.Wide (F i la)∧LnM.Wide (-(F i la))))
  (hA:Hid (ga<w.heap.size∧w.cell? ⟨ga,1,none⟩=some (.slice (some ⟨nb,0,none⟩) t.k t.k)∧ga≠nb)) (hN:Hid (StrAt w nb t.k f)) (hnt:Hid (nb≠t.tb∧nb≠t.xb∧nb≠t.R i)) (hm0:0<t.m) {ops:Array Oper} (ho:getOps Tryz.f14.body 22=some ops)
  (hQ:∀ (v106 v107 v108 v109 v110 v111 v112 v113 v114 v115 v116 v117 v118 v119 v120 v121:Value)  (W':World),Only [nb] w W'→StrAt W' nb t.k (upd f q ⟨(Lib.itoa (F i la)).toArray⟩)→Q .normal { tmps:=List.toArray (u0::u1::u2::u3::.pointer (some ⟨t.tb,0,none⟩)::.int .i64 la::u6::u7::u8::u9::.pointer (some ⟨ga,0,none⟩)::.int .i64 i::.int .i64 q::u13::u14::u15::u16::u17::u18::u19::u20::u21::u22::u23::u24::u25::u26::u27::u28::u29::u30::u31::u32::u33::u34::u35::u36::u37::u38::u39::u40::u41::u42::u43::u44::u45::u46::u47::u48::u49::u50::u51::u52::u53::u54::u55::u56::u57::u58::u59::u60::u61::u62::u63::u64::u65::u66::u67::u68::u69::u70::u71::u72::u73::u74::u75::u76::u77::u78::u79::u80::u81::u82::u83::u84::u85::u86::u87::u88::u89::u90::u91::u92::u93::u94::u95::u96::u97::u98::u99::u100::u101::u102::u103::u104::u105::v106::v107::v108::v109::v110::v111::v112::v113::v114::v115::v116::v117::v118::v119::v120::v121::u122::u123::[]),defers:=[] } W') :
  (Code.region 22 ops true).wp Tryz.prog Q { tmps:=List.toArray (u0::u1::u2::u3::.pointer (some ⟨t.tb,0,none⟩)::.int .i64 la::u6::u7::u8::u9::.pointer (some ⟨ga,0,none⟩)::.int .i64 i::.int .i64 q::u13::u14::u15::u16::u17::u18::u19::u20::u21::u22::u23::u24::u25::u26::u27::u28::u29::u30::u31::u32::u33::u34::u35::u36::u37::u38::u39::u40::u41::u42::u43::u44::u45::u46::u47::u48::u49::u50::u51::u52::u53::u54::u55::u56::u57::u58::u59::u60::u61::u62::u63::u64::u65::u66::u67::u68::u69::u70::u71::u72::u73::u74::u75::u76::u77::u78::u79::u80::u81::u82::u83::u84::u85::u86::u87::u88::u89::u90::u91::u92::u93::u94::u95::u96::u97::u98::u99::u100::u101::u102::u103::u104::u105::u106::u107::u108::u109::u110::u111::u112::u113::u114::u115::u116::u117::u118::u119::u120::u121::u122::u123::[]),defers:=[] } w:=by
 obtain rfl:=Option.some.inj (ho.symm.trans (rfl:getOps Tryz.f14.body 22=some _))
 clear ho
 replace hQ:=A8 hQ
 obtain ⟨Iv,hI⟩:∃ Iv:(Nat→Bool)→Act→World→Prop,∀ l a W,Iv l a W↔(∃ s106 s107 s108 s109 s110 s111 s112 s113 s114 s115 s116 s117 s118 s119 s120 s121:Value,a={ tmps:=List.toArray (u0::u1::u2::u3::.pointer (some ⟨t.tb,0,none⟩)::.int .i64 la::u6::u7::u8::u9::.pointer (some ⟨ga,0,none⟩)::.int .i64 i::.int .i64 q::u13::u14::u15::u16::u17::u18::u19::u20::u21::u22::u23::u24::u25::u26::u27::u28::u29::u30::u31::u32::u33::u34::u35::u36::u37::u38::u39::u40::u41::u42::u43::u44::u45::u46::u47::u48::u49::u50::u51::u52::u53::u54::u55::u56::u57::u58::u59::u60::u61::u62::u63::u64::u65::u66::u67::u68::u69::u70::u71::u72::u73::u74::u75::u76::u77::u78::u79::u80::u81::u82::u83::u84::u85::u86::u87::u88::u89::u90::u91::u92::u93::u94::u95::u96::u97::u98::u99::u100::u101::u102::u103::u104::u105::s106::s107::s108::s109::s110::s111::s112::s113::s114::s115::s116::s117::s118::s119::s120::s121::u122::u123::[]),defers:=[] }∧Only [nb] w W∧Vs [(0,.pointer (some ⟨ga,1,none⟩),s106),(1,.pointer (some ⟨ga,1,none⟩),s107),(2,.slice (some ⟨nb,0,none⟩) t.k t.k,s108),(3,.int .i64 q,s109),(4,.pointer (some ⟨t.tb,0,none⟩),s110),(5,.pointer (some ⟨t.tb,0,none⟩),s111),(6,.pointer (some ⟨t.tb,0,none⟩),s112),(7,.slice (some ⟨t.xb,0,none⟩) t.m t.cx,s113),(8,.int .i64 i,s114),(9,.pointer (some ⟨t.xb,i,none⟩),s115),(10,.slice (some ⟨t.R i,0,none⟩) t.n t.n,s116),(11,.int .i64 la,s117),(12,.pointer (some ⟨t.R i,la*12,none⟩),s118),(14,.string ⟨(Lib.itoa (F i la)).toArray⟩,s120),(15,.pointer (some ⟨nb,q,none⟩),s121)] l∧(l 13=true→s119=.agg (wc (wd (F i la))))∧((l 16=false→StrAt W nb t.k f)∧(l 16=true→StrAt W nb t.k (upd f q ⟨(Lib.itoa (F i la)).toArray⟩)))):=⟨_,fun _ _ _=>Iff.rfl⟩
 refine Ak Iv (by kernel_rfl) (by kernel_rfl) ((hI _ _ _).2 ⟨_,_,_,_,_,_,_,_,_,_,_,_,_,_,_,_,rfl,(Only.refl [nb] w).drewN 1,Vs.zero,fun h=>off h,⟨fun _=>hN.out.below (Ac w 1),fun h=>off h⟩⟩) (Ab (k:=0) ?_ (Ab (k:=1) ?_ (Ab (k:=2) ?_ (Ab (k:=3) ?_ (Ab (k:=4) ?_ (Ab (k:=5) ?_ (Ab (k:=6) ?_ (Ab (k:=7) ?_ (Ab (k:=8) ?_ (Ab (k:=9) ?_ (Ab (k:=10) ?_ (Ab (k:=11) ?_ (Ab (k:=12) ?_ (Ab (k:=13) ?_ (Ab (k:=14) ?_ (Ab (k:=15) ?_ (Ab (k:=16) ?_ (Af)))))))))))))))))) ?_
 ·intro l a W hl hw hsh h K hK
  rw [hI] at h;iterate 16 obtain ⟨_,h⟩:=h
  obtain ⟨rfl,hC,hP,f13,g⟩:=h
  go_simp
  apply hK.out;rw [hI];iterate 16 apply Exists.intro
  exact ⟨rfl,hC,hP.put 0 rfl rfl rfl,f13,g⟩
 ·intro l a W hl hw hsh h K hK
  rw [hI] at h;iterate 16 obtain ⟨_,h⟩:=h
  obtain ⟨rfl,hC,hP,f13,g⟩:=h
  obtain rfl:=hP.get 0 rfl (hw 0 (by kernel_rfl))
  go_simp
  apply hK.out;rw [hI];iterate 16 apply Exists.intro
  exact ⟨rfl,hC,hP.put 1 rfl rfl rfl,f13,g⟩
 ·intro l a W hl hw hsh h K hK
  rw [hI] at h;iterate 16 obtain ⟨_,h⟩:=h
  obtain ⟨rfl,hC,hP,f13,g⟩:=h
  obtain rfl:=hP.get 1 rfl (hw 1 (by kernel_rfl))
  have x1:=(hC.cell (p:=⟨ga,1,none⟩) hA.out.1 (by simpa using hA.out.2.2)).trans hA.out.2.1
  go_simp
  apply hK.out;rw [hI];iterate 16 apply Exists.intro
  exact ⟨rfl,hC,hP.put 2 rfl rfl rfl,f13,g⟩
 ·intro l a W hl hw hsh h K hK
  rw [hI] at h;iterate 16 obtain ⟨_,h⟩:=h
  obtain ⟨rfl,hC,hP,f13,g⟩:=h
  go_simp
  apply hK.out;rw [hI];iterate 16 apply Exists.intro
  exact ⟨rfl,hC,hP.put 3 rfl rfl rfl,f13,g⟩
 ·intro l a W hl hw hsh h K hK
  rw [hI] at h;iterate 16 obtain ⟨_,h⟩:=h
  obtain ⟨rfl,hC,hP,f13,g⟩:=h
  go_simp
  apply hK.out;rw [hI];iterate 16 apply Exists.intro
  exact ⟨rfl,hC,hP.put 4 rfl rfl rfl,f13,g⟩
 ·intro l a W hl hw hsh h K hK
  rw [hI] at h;iterate 16 obtain ⟨_,h⟩:=h
  obtain ⟨rfl,hC,hP,f13,g⟩:=h
  obtain rfl:=hP.get 4 rfl (hw 4 (by kernel_rfl))
  go_simp
  apply hK.out;rw [hI];iterate 16 apply Exists.intro
  exact ⟨rfl,hC,hP.put 5 rfl rfl rfl,f13,g⟩
 ·intro l a W hl hw hsh h K hK
  rw [hI] at h;iterate 16 obtain ⟨_,h⟩:=h
  obtain ⟨rfl,hC,hP,f13,g⟩:=h
  obtain rfl:=hP.get 5 rfl (hw 5 (by kernel_rfl))
  go_simp
  apply hK.out;rw [hI];iterate 16 apply Exists.intro
  exact ⟨rfl,hC,hP.put 6 rfl rfl rfl,f13,g⟩
 ·intro l a W hl hw hsh h K hK
  rw [hI] at h;iterate 16 obtain ⟨_,h⟩:=h
  obtain ⟨rfl,hC,hP,f13,g⟩:=h
  obtain rfl:=hP.get 6 rfl (hw 6 (by kernel_rfl))
  have x1:=(hC.cell (p:=⟨t.tb,0,none⟩) hT.out.lt (by simpa using hnt.out.1.symm)).trans hT.out.c0
  rw [BI hm0] at x1
  go_simp
  apply hK.out;rw [hI];iterate 16 apply Exists.intro
  exact ⟨rfl,hC,hP.put 7 rfl rfl rfl,f13,g⟩
 ·intro l a W hl hw hsh h K hK
  rw [hI] at h;iterate 16 obtain ⟨_,h⟩:=h
  obtain ⟨rfl,hC,hP,f13,g⟩:=h
  go_simp
  apply hK.out;rw [hI];iterate 16 apply Exists.intro
  exact ⟨rfl,hC,hP.put 8 rfl rfl rfl,f13,g⟩
 ·intro l a W hl hw hsh h K hK
  rw [hI] at h;iterate 16 obtain ⟨_,h⟩:=h
  obtain ⟨rfl,hC,hP,f13,g⟩:=h
  obtain rfl:=hP.get 7 rfl (hw 7 (by kernel_rfl))
  obtain rfl:=hP.get 8 rfl (hw 8 (by kernel_rfl))
  go_simp
  apply hK.out;rw [hI];iterate 16 apply Exists.intro
  exact ⟨rfl,hC,hP.put 9 rfl rfl rfl,f13,g⟩
 ·intro l a W hl hw hsh h K hK
  rw [hI] at h;iterate 16 obtain ⟨_,h⟩:=h
  obtain ⟨rfl,hC,hP,f13,g⟩:=h
  obtain rfl:=hP.get 9 rfl (hw 9 (by kernel_rfl))
  have x1:=(hC.cell (p:=⟨t.xb,i,none⟩) (hT.out.lx hm0) (by simpa using hnt.out.2.1.symm)).trans (hT.out.xs i him)
  go_simp
  apply hK.out;rw [hI];iterate 16 apply Exists.intro
  exact ⟨rfl,hC,hP.put 10 rfl rfl rfl,f13,g⟩
 ·intro l a W hl hw hsh h K hK
  rw [hI] at h;iterate 16 obtain ⟨_,h⟩:=h
  obtain ⟨rfl,hC,hP,f13,g⟩:=h
  go_simp
  apply hK.out;rw [hI];iterate 16 apply Exists.intro
  exact ⟨rfl,hC,hP.put 11 rfl rfl rfl,f13,g⟩
 ·intro l a W hl hw hsh h K hK
  rw [hI] at h;iterate 16 obtain ⟨_,h⟩:=h
  obtain ⟨rfl,hC,hP,f13,g⟩:=h
  obtain rfl:=hP.get 10 rfl (hw 10 (by kernel_rfl))
  obtain rfl:=hP.get 11 rfl (hw 11 (by kernel_rfl))
  go_simp
  apply hK.out;rw [hI];iterate 16 apply Exists.intro
  exact ⟨rfl,hC,hP.put 12 rfl rfl rfl,f13,g⟩
 ·intro l a W hl hw hsh h K hK
  rw [hI] at h;iterate 16 obtain ⟨_,h⟩:=h
  obtain ⟨rfl,hC,hP,f13,g⟩:=h
  obtain rfl:=hP.get 12 rfl (hw 12 (by kernel_rfl))
  rw [if_pos (by rfl)]
  have hrng:=((hT.out.grid.row i (by omega)).only hC (by simpa using hnt.out.2.2.symm)).rd la hla
  refine wp_load_mid _ _ rfl _ _ rfl (wl (wd (F i la))) _ hrng CP rfl (BO _) ?_
  apply hK.out;rw [hI];iterate 16 apply Exists.intro
  exact ⟨rfl,hC,hP.skip 13 rfl,fun _=>rfl,g⟩
 ·intro l a W hl hw hsh h K hK
  rw [hI] at h;iterate 16 obtain ⟨_,h⟩:=h
  obtain ⟨rfl,hC,hP,f13,g⟩:=h
  obtain rfl:=f13 (hw 13 (by kernel_rfl))
  go_simp
  go_at_call 40
  refine Calls.mono (E5 (F i la) hz.out.1 hz.out.2 _ (hE.out.below (h0.out.1.trans (hC.toBelow h0.out.1.size (by intro b hb;rw [List.mem_singleton.1 hb];exact h0.out.2))) (Aa _))) ?_
  rintro e W2 ⟨rfl,hb⟩
  apply hK.out;rw [hI];iterate 16 apply Exists.intro
  exact ⟨rfl,hC.below hb,hP.put 13 rfl rfl rfl,f13,⟨fun h=>(g.1 h).below hb,fun h=>(g.2 h).below hb⟩⟩
 ·intro l a W hl hw hsh h K hK
  rw [hI] at h;iterate 16 obtain ⟨_,h⟩:=h
  obtain ⟨rfl,hC,hP,f13,g⟩:=h
  obtain rfl:=hP.get 2 rfl (hw 2 (by kernel_rfl))
  obtain rfl:=hP.get 3 rfl (hw 3 (by kernel_rfl))
  go_simp
  apply hK.out;rw [hI];iterate 16 apply Exists.intro
  exact ⟨rfl,hC,hP.put 14 rfl rfl rfl,f13,g⟩
 ·intro l a W hl hw hsh h K hK
  rw [hI] at h;iterate 16 obtain ⟨_,h⟩:=h
  obtain ⟨rfl,hC,hP,f13,g⟩:=h
  obtain rfl:=hP.get 13 rfl (hw 14 (by kernel_rfl))
  obtain rfl:=hP.get 14 rfl (hw 15 (by kernel_rfl))
  have hG:=g.1 hl
  obtain ⟨x1,x2⟩:=hG.cell q hq
  go_simp
  apply hK.out;rw [hI];iterate 16 apply Exists.intro
  exact ⟨rfl,hC.setCell (by simp) _,hP.skip 16 rfl,f13,⟨fun h=>off h.symm,fun _=>hG.set hq _⟩⟩
 ·intro a W hI'
  have h:=(hI _ _ _).1 hI';clear hI';iterate 16 obtain ⟨_,h⟩:=h
  obtain ⟨rfl,hC,hP,f13,g⟩:=h
  obtain ⟨ga,rfl,hga,hg0,hg1⟩:=f13 (by kernel_rfl)
  exact hQ.out _ _ _ _ _ _ _ _ _ _ _ _ _ _ _ _ _ hC (g.2 (by kernel_rfl))
end
section
open Go.RowKit
open LnM (wd upd)
attribute [local go_sem] Oper.semAt_some
structure SysWd (s:LnM.Sys):Prop where
 d:∀ B,s.Inv B→LnM.Wide (s.d B)
 T:∀ B,s.Inv B→∀ i,i<s.m→∀ j,j≤s.n+s.m→LnM.Wide (s.T B i j)
 C:∀ B,s.Inv B→∀ j,j≤s.n+s.m→LnM.Wide (s.C B j)
 two:∀ B,s.Inv B→∀ i r k,i<s.m→r<s.m→k≤s.n+s.m→LnM.Wide (s.T B i (s.n+s.m)*s.T B r k-s.T B r (s.n+s.m)*s.T B i k)
 dT:∀ B r k,s.Inv B→s.Leave B k r→k<s.n→∀ i,i<s.m→∀ j,j≤s.n+s.m→LnM.Wide (s.d B*s.T (upd B r k) i j)
 dC:∀ B r k,s.Inv B→s.Leave B k r→k<s.n→∀ j,j≤s.n+s.m→LnM.Wide (s.d B*s.C (upd B r k) j)
theorem KV (t:Tb) (base:Nat) (s:LnM.Sys) (hwd:SysWd s) (B:Nat→Nat) (sg:Nat→Int) (r k:Nat) (hI:s.Inv B) (hl:s.Leave B k r) (hk:k<s.n) (hm:t.m=s.m) (hn:t.n=s.n+s.m+1) (hd:t.Dis base) (hm1:t.m≤100000) (hn1:t.n≤100000)
  (w:World) (h:Tbl w t (tabF s B) B sg (s.d B)) (hbs:base≤w.heap.size) :
  Calls Tryz.prog 77 #[.pointer (some ⟨t.tb,0,none⟩),.int .i64 r,.int .i64 k] w fun e w'=>e=.returned (.tuple #[])∧Tbl w' t (tabF s (upd B r k)) (upd B r k) sg (s.d (upd B r k))∧Below base w w':=by
 have hr:=hl.lt
 have hP:=KU t base (tabF s B) (tabF s (upd B r k)) B sg (s.d B) r k w h hd hbs (by omega) (by omega) hm1 hn1 hI.dpos (hwd.d B hI) (fun i hi hir j hj=>?_) (fun j hj=>?_)
 ·have e:tabF s B r k=s.d (upd B r k):=by unfold tabF;rw [if_pos hr,LnM.pivot_d]
  rwa [e] at hP
 ·unfold tabF
  by_cases him:i<s.m
  ·simp only [if_pos hr,if_pos him]
   have hj':j≤s.n+s.m:=by rw [hn] at hj;omega
   exact ⟨(LnM.pivot_T hI hr him hir hj').symm,hwd.dT B r k hI hl hk i him j hj'⟩
  ·simp only [if_pos hr,if_neg him]
   have hj':j≤s.n+s.m:=by rw [hn] at hj;omega
   exact ⟨(LnM.pivot_C hI hr hk hj').symm,hwd.dC B r k hI hl hk j hj'⟩
 ·unfold tabF
  rw [if_pos hr,if_pos hr,LnM.pivot_row]
theorem run_any (t:Tb) (base:Nat) (s:LnM.Sys) (hwd:SysWd s) (B:Nat→Nat) (sg:Nat→Int) (hI:s.Inv B) (hm:t.m=s.m) (hn:t.n=s.n+s.m+1) (hkn:t.k=s.n) (hd:t.Dis base) (hm1:t.m≤100000) (hn1:t.n≤100000)
  (w:World) (h:Tbl w t (tabF s B) B sg (s.d B)) (hbs:base≤w.heap.size) :
  Calls Tryz.prog 38 #[.pointer (some ⟨t.tb,0,none⟩)] w fun e w'=>e=.returned (.tuple #[])∧(∃ B',s.Inv B'∧(∀ k,k<s.n→0≤s.C B' k)∧Tbl w' t (tabF s B') B' sg (s.d B'))∧Below base w w':=by
 obtain ⟨c,Kc,Rc,L,h0,hch,hend⟩:=LnM.run_ends hI
 rw [←h0] at h
 have PV:=A8 (fun B r k hI hl hk W h hb=>KV t base s hwd B sg r k hI hl hk hm hn hd hm1 hn1 W h hb)
 have LV:=A8 (fun B k (hI:s.Inv B) (hk:k<s.n) (hm0:0<s.m) W (h:Tbl W t (tabF s B) B sg (s.d B))=>Ic t s (tabF s B) B sg (s.d B) k W h hm hn (fun i hi j hj=>if_pos hi) (by omega) hm0 hm1 hn1 (fun i hi=>hwd.T B hI i hi k (by omega)) (fun i r hi hr=>hwd.two B hI i r k hi hr (by omega)))
 have H:=A8 h
 have hwd':=A8 hwd
 have hch':=A8 hch
 have hend':=A8 hend
 have hd':=A8 hd
 replace hm:=A8 hm
 replace hn:=A8 hn
 have hkn':=A8 hkn
 clear h hwd hch hend hI h0 hd hkn
 go_enter Tryz.func38,Tryz.ntmps38
 refine wp_scope_straight ?_
 go_wp2_with fail
 refine wp_label ?_
 go_wp2_with fail
 go_loopg [] L (fun q wr=>∃ l,l+q=L∧Hid (Tbl wr t (tabF s (c l)) (c l) sg (s.d (c l)))∧Below base w wr)
 case atStart=>exact ⟨0,by omega,H,(Below.refl _ _).mono hbs⟩
 case round =>
  rename World=>Wo
  obtain ⟨l,hlk,hT,hB⟩:=hrel
  have hI:=A8 (hch'.out.invs (l:=l) (by omega))
  have hbo:base≤Wo.heap.size:=Nat.le_trans hbs hB.size
  have c16:=hT.out.c16
  rw [hkn'.out] at c16
  go_wp2_with fail
  clear c16
  go_loopw [7] (fun o wr2=>∃ k:Nat,o=.int .i64 k∧k≤s.n∧Hid (∀ j,j<k→0≤s.C (c l) j)∧Below Wo.heap.size Wo wr2) (fun o _=>s.n-(intOf o).toNat)
  case atStart=>exact ⟨0,rfl,by omega,A8 (fun j hj=>by omega),Below.refl _ _⟩
  case round =>
   obtain ⟨k,rfl,hk,hfi,hB2⟩:=hrel
   by_cases hkn:k<s.n
   ·have hkn':(k:Int)<s.n:=by omega
    have hk0:(0:Int)≤k:=by omega
    have hkt:k<t.n:=by have:=hn.out;omega
    have hkt':(k:Int)<t.n:=by omega
    have HT:=A8 (hT.out.below hB2)
    have c1:=HT.out.c1
    obtain ⟨b0,b1,b2,b3,b4,b5,b6,b7,b8,b9,b10,b11⟩:=Ax ((HT.out.grid.row t.m (by omega)).rd k hkt)
    rw [show tabF s (c l) t.m k=s.C (c l) k from if_neg (by have:=hm.out;omega)] at b0 b1 b2 b3 b4 b5 b6 b7 b8 b9 b10 b11
    have hvw:=hwd'.out.C (c l) hI.out k (by omega)
    obtain ⟨v,hv⟩:∃ v,v=s.C (c l) k:=⟨_,rfl⟩
    rw [←hv] at b0 b1 b2 b3 b4 b5 b6 b7 b8 b9 b10 b11 hvw
    have NG:=fun W=>F6 hvw W
    replace hv:=A8 hv
    by_cases hneg:v<0
    ·rw [show decide (v<0)=true by simp [hneg]] at NG
     have he:s.Enter (c l) k:=⟨hkn,by rw [←hv.out];exact hneg,hfi.out⟩
     obtain ⟨i0,hi0,hp0⟩:=LnM.exists_pos he
     have hlL:l<L:=by
      refine Nat.lt_of_not_le fun hle=>?_
      have e:l=L:=by omega
      have:=hend'.out k hkn
      rw [←e,←hv.out] at this
      omega
     have hKk:Kc l=k:=LnM.enter_unique (hch'.out.enter l hlL) he
     have hRr:=hch'.out.leave l hlL
     rw [hKk] at hRr
     have hnx:=hch'.out.next l hlL
     rw [hKk] at hnx
     replace hRr:=A8 hRr
     replace hnx:=A8 hnx
     replace hp0:=A8 hp0
     generalize wd v=f at *
     clear hneg hvw he hKk
     replace NG:=A8 NG
     go_wp2_with fail
     refine Calls.mono (NG.out _) ?_
     rintro e w1 ⟨rfl,hb⟩
     have H1:=A8 (HT.out.below hb)
     have hB3:Below base Wo w1:=(hB2.mono hbo).trans (hb.mono (Nat.le_trans hbo hB2.size))
     clear b0 b1 b2 b3 b4 b5 b6 b7 b8 b9 b10 b11 c1 NG hb
     go_wp2_with fail
     refine Calls.mono (LV.out (c l) k hI.out hkn (by omega) _ H1.out) ?_
     rintro e w2 ⟨⟨bz,rfl,hbz⟩,hb⟩
     have H2:=A8 (H1.out.below hb)
     have hB4:Below base Wo w2:=hB3.trans (hb.mono (Nat.le_trans hbo hB3.size))
     clear hb
     rcases hbz with ⟨rfl,hno⟩ | ⟨r,rfl,hl⟩
     ·exact absurd hp0.out (Int.not_lt.2 (hno i0 hi0))
     have hle:=LnM.leaveTo_all hl
     have hrr:Rc l=r:=LnM.leave_unique hI.out hRr.out hle
     have PVr:=A8 (PV.out (c l) r k hI.out hle hkn w2 H2.out (Nat.le_trans hbo hB4.size))
     rw [hrr] at hnx
     clear hl hle hrr
     go_wp2_with fail
     refine Calls.mono PVr.out ?_
     rintro e w3 ⟨rfl,H3,hb⟩
     rw [←hnx.out] at H3
     have hB5:Below base w w3:=hB.trans (hB4.trans hb)
     clear hb
     go_wp2_with fail
     go_roundg (gk-1)
     case rel=>exact ⟨l+1,by omega,A8 H3,hB5⟩
     case measure=>omega
    ·rw [show decide (v<0)=false by simp;omega] at NG
     have hfi2:=A8 (show ∀ j,j<k+1→0≤s.C (c l) j from fun j hj=>by
      by_cases e:j=k
      ·subst e;rw [←hv.out];omega
      ·exact hfi.out j (by omega))
     generalize wd v=f at *
     clear hneg hvw hfi
     replace NG:=A8 NG
     go_wp2_with fail
     refine Calls.mono (NG.out _) ?_
     rintro e w1 ⟨rfl,hb⟩
     have hB3:Below Wo.heap.size Wo w1:=hB2.trans (hb.mono hB2.size)
     clear b0 b1 b2 b3 b4 b5 b6 b7 b8 b9 b10 b11 c1 NG hb
     go_wp2_with fail
     go_roundw
     case rel=>exact ⟨k+1,by go_num,by omega,hfi2,hB3⟩
     case measure=>simp [intOf];omega
   ·have hkn':¬ (k:Int)<s.n:=by omega
    obtain rfl:k=s.n:=by omega
    have HT:=A8 (hT.out.below hB2)
    have hB3:Below base w wr:=hB.trans (hB2.mono hbo)
    go_wp2
    exact bodyPost_ret (v:=.tuple #[]) (by simp [results,Tryz.results38,go_sem]) rfl ⟨rfl,⟨c l,hI.out,hfi.out,HT.out⟩,hB3⟩
end
section
open Go.RowKit
open LnM (wd upd sm)
attribute [local go_sem] Oper.semAt_some
abbrev I10 (z:Int):ByteArray:=⟨(Lib.itoa z).toArray⟩
theorem M4:I10 0=⟨#[48]⟩:=by unfold I10;rw [Ao (by decide),Ap (by decide)];rfl
structure SysTx (s:LnM.Sys):Prop where
 d:∀ B,s.Inv B→LnM.Wide (s.d B)∧LnM.Wide (-(s.d B))
 T:∀ B,s.Inv B→∀ i,i<s.m→LnM.Wide (s.T B i (s.n+s.m))∧LnM.Wide (-(s.T B i (s.n+s.m)))
 w:∀ B,s.Inv B→∀ i,i<s.m→LnM.Wide (s.w B i)∧LnM.Wide (-(s.w B i))
def numF (s:LnM.Sys) (B:Nat→Nat) (i k:Nat):ByteArray:=I10 (sm i (fun j=>if B j=k then s.T B j (s.n+s.m) else 0))
theorem KW (s:LnM.Sys) (B:Nat→Nat) (k:Nat):numF s B 0 k=⟨#[48]⟩:=M4
theorem M5 {s:LnM.Sys} {B:Nat→Nat} (h:s.Inv B) {i:Nat} (hi:i<s.m) (k:Nat):upd (numF s B i) (B i) (I10 (s.T B i (s.n+s.m))) k=numF s B (i+1) k:=by
 unfold upd numF
 show _=I10 (sm i (fun j=>if B j=k then s.T B j (s.n+s.m) else 0)+(if B i=k then s.T B i (s.n+s.m) else 0))
 by_cases e:k=B i
 ·rw [if_pos e,if_pos e.symm]
  rw [LnM.sm_zero (fun j hj=>if_neg (fun e2=>by have:=h.dist (by omega) hi (e2.trans e);omega)),Int.zero_add]
 ·rw [if_neg e,if_neg (Ne.symm e),Int.add_zero]
theorem KX {s:LnM.Sys} {B:Nat→Nat} {i k:Nat} (h:B i≠k):numF s B i k=numF s B (i+1) k:=by
 unfold numF
 show _=I10 (sm i (fun j=>if B j=k then s.T B j (s.n+s.m) else 0)+(if B i=k then s.T B i (s.n+s.m) else 0))
 rw [if_neg h,Int.add_zero]
theorem AQ {cols:Int} {rows:List (List Int×Int)} (h:validL cols rows=true):0≤cols∧cols≤64∧rows.length≤18∧∀ r∈rows,(r.1.length:Int)=cols∧(∀ x∈r.1,-30000≤x∧x≤30000)∧-1000000000≤r.2∧r.2≤1000000000:=by
 unfold validL at h
 simp only [Bool.and_eq_true,decide_eq_true_eq,Bool.not_eq_true',List.any_eq_false] at h
 obtain ⟨⟨⟨h1,h2⟩,h3⟩,h4⟩:=h
 refine ⟨h1,h2,h3,fun r hr=>?_⟩
 have:=h4 r hr
 unfold badE at this
 simp only [Bool.or_eq_true,Bool.not_eq_true',not_or,Bool.not_eq_false,beq_iff_eq,Bool.and_eq_true,decide_eq_true_eq,List.any_eq_true,not_exists,not_and] at this
 refine ⟨this.1.1,fun x hx=>?_,this.2⟩
 have h5:=this.1.2 x hx
 unfold largeB at h5
 simpa using h5
theorem CQ {w W:World} {b:Nat} (h:Blk W b #[.bool false,.slice none 0 0,.string ⟨#[]⟩,.slice none 0 0] 38) (hb:w.heap.size≤b) (hW:Below w.heap.size w W) (a c d e:Value) :
  let V:=(((W.setCell ⟨b,0,none⟩ a).setCell ⟨b,1,none⟩ c).setCell ⟨b,2,none⟩ d).setCell ⟨b,3,none⟩ e
  (V.cell? ⟨b,0,none⟩=some a∧V.cell? ⟨b,1,none⟩=some c∧V.cell? ⟨b,2,none⟩=some d∧V.cell? ⟨b,3,none⟩=some e)∧Below w.heap.size w V∧Only [b] W V:=by
 have hB:=(((h.set 0 a).set 1 c).set 2 d).set 3 e
 have hon:Only [b] W ((((W.setCell ⟨b,0,none⟩ a).setCell ⟨b,1,none⟩ c).setCell ⟨b,2,none⟩ d).setCell ⟨b,3,none⟩ e):=((((Only.refl [b] W).setCell (p:=⟨b,0,none⟩) (by simp) _).setCell (p:=⟨b,1,none⟩) (by simp) _).setCell (p:=⟨b,2,none⟩) (by simp) _).setCell (p:=⟨b,3,none⟩) (by simp) _
 exact ⟨⟨hB.cell 0,hB.cell 1,hB.cell 2,hB.cell 3⟩,hW.trans (hon.toBelow hW.size (by intro x hx;rw [List.mem_singleton.1 hx];exact hb)),hon⟩
theorem KY (cols:Int) (v:Value) (rows:List (List Int×Int)) (w:World) (h:SlE w v rows) (hv:validL cols rows=false) :
  Calls Tryz.prog 14 #[.agg #[.int .i64 cols,v]] w (Rets w (.tuple #[.agg #[.bool false,.slice none 0 0,.string ⟨#[]⟩,.slice none 0 0],.int .i64 60])):=by
 obtain ⟨a,cap,rfl⟩:=h.shape
 have H:=A8 h
 have VA:=A8 (fun W (hW:SlE W (.slice a rows.length cap) rows)=>BG cols _ rows W hW)
 rw [hv] at VA
 clear h hv
 generalize rows.length=n at *
 obtain ⟨V1,e1,S1,z1⟩:=(BL.start w).add' #[.int .i64 cols,.slice a n cap] 27
 obtain ⟨V2,e2,hS,z2⟩:=S1.add' #[.bool false,.slice none 0 0,.string ⟨#[]⟩,.slice none 0 0] 38
 rw [z1] at hS
 have hV:V2=(w.alloc (.cells #[.int .i64 cols,.slice a n cap] 27)).alloc (.cells #[.bool false,.slice none 0 0,.string ⟨#[]⟩,.slice none 0 0] 38):=by rw [e2,e1]
 have zz:=A8 (show V2.heap.size=w.heap.size+2 by rw [z2,z1])
 clear e1 e2 S1 z1 z2
 obtain ⟨x0,x1⟩:=hS.c2 w.heap.size _ _ _ (.tail _ (.head _))
 go_enter Tryz.func14,Tryz.ntmps14
 go_upto_region 1 with fail
 rw [←hV]
 clear hV
 go_wp2_with fail
 refine Calls.mono (VA.out _ (H.out.below hS.below)) ?_
 rintro e w1 ⟨rfl,hb⟩
 replace hS:=hS.call hb
 have hsv:=A8 hb.size
 clear x0 x1 hb
 obtain ⟨y0,y1,y2,y3⟩:=hS.c4 (w.heap.size+1) _ _ _ _ _ (.head _)
 have hB:=hS.blks _ (.head _)
 have f0:=hB.frozen 0
 have f1:=hB.frozen 1
 have f2:=hB.frozen 2
 have f3:=hB.frozen 3
 obtain ⟨⟨k0,k1,k2,k3⟩,hfin,-⟩:=CQ hB (Nat.le_succ _) hS.below (.bool false) (.slice none 0 0) (.string ⟨#[]⟩) (.slice none 0 0)
 have hfin:=A8 hfin
 clear hS hB
 dsimp only at f0 f1 f2 f3 k0 k1 k2 k3
 go_wp2
 exact bodyPost_ret (v:=.tuple #[.agg #[.bool false,.slice none 0 0,.string ⟨#[]⟩,.slice none 0 0],.int .i64 60]) (by simp [results,Tryz.results14,go_sem,k0,k1,k2,k3]) rfl ⟨rfl,hfin.out⟩
theorem M6 (cols : Nat) (v : Value) (rows : List (List Int × Int)) (w : World) (hE : Env w) (h : SlE w v rows) (hv : validL cols rows = true) (hwd : SysWd (sysOf cols rows)) (htx : SysTx (sysOf cols rows)) :
   Calls Tryz.prog 14 #[.agg #[.int .i64 cols, v]] w fun e w' => ∃ B, (sysOf cols rows).Inv B ∧ (∀ k, k < cols → 0 ≤ (sysOf cols rows).C B k) ∧ Below w.heap.size w w' ∧
     (((sysOf cols rows).C B (cols + rows.length) = 0 ∧ ∃ nv, e = .returned (.tuple #[.agg #[.bool true, nv, .string (I10 ((sysOf cols rows).d B)), .slice none 0 0], .int .i64 0]) ∧ SlS w' nv ((List.range cols).map fun k => I10 ((sysOf cols rows).x B k))) ∨
      ((sysOf cols rows).C B (cols + rows.length) ≠ 0 ∧ ∃ wv, e = .returned (.tuple #[.agg #[.bool false, .slice none 0 0, .string ⟨#[]⟩, wv], .int .i64 0]) ∧ SlS w' wv ((List.range rows.length).map fun i => I10 (sgnOf rows i * (sysOf cols rows).w B i)))) := by
 obtain ⟨p1, p2, p3, p4⟩ := AQ hv
 obtain ⟨a, cap, rfl⟩ := h.shape
 have H := A8 h
 have VA := A8 (fun W (hW : SlE W (.slice a rows.length cap) rows) => BG cols _ rows W hW)
 rw [hv] at VA
 have OP := A8 (fun W (hW : SlE W (.slice a rows.length cap) rows) => M3 cols rows _ W hW (by omega) (by omega) (fun r hr => by have := (p4 r hr).1; omega) (fun r hr => ⟨fun x hx => by have := (p4 r hr).2.1 x hx; omega, (p4 r hr).2.2⟩))
 have ok := Jm cols rows
 obtain ⟨s, hs⟩ : ∃ s, s = sysOf cols rows := ⟨_, rfl⟩
 have hsn : s.n = cols := by rw [hs]; rfl
 have hsm : s.m = rows.length := by rw [hs]; rfl
 rw [← hs] at OP ok hwd htx ⊢
 have hsg := A8 (fun i => DK rows i)
 generalize sgnOf rows = sg at *
 generalize rows.length = n at *
 have c64 : cols ≤ 64 := by omega
 replace ok := A8 ok
 replace hwd := A8 hwd
 replace htx := A8 htx
 replace hsn := A8 hsn
 replace hsm := A8 hsm
 replace hE := A8 hE
 clear h hv p1 p2 p4 hs
 obtain ⟨V1, e1, S1, z1⟩ := (BL.start w).add' #[.int .i64 cols, .slice a n cap] 27
 obtain ⟨V2, e2, hS, z2⟩ := S1.add' #[.bool false, .slice none 0 0, .string ⟨#[]⟩, .slice none 0 0] 38
 rw [z1] at hS
 have hV : V2 = (w.alloc (.cells #[.int .i64 cols, .slice a n cap] 27)).alloc (.cells #[.bool false, .slice none 0 0, .string ⟨#[]⟩, .slice none 0 0] 38) := by rw [e2, e1]
 have zz := A8 (show V2.heap.size = w.heap.size + 2 by rw [z2, z1])
 clear e1 e2 S1 z1 z2
 obtain ⟨x0, x1⟩ := hS.c2 w.heap.size _ _ _ (.tail _ (.head _))
 go_enter Tryz.func14, Tryz.ntmps14
 go_upto_region 1 with fail
 rw [← hV]
 clear hV
 go_wp2_with fail
 refine Calls.mono (VA.out _ (H.out.below hS.below)) ?_
 rintro e w1 ⟨rfl, hb⟩
 replace hS := hS.call hb
 have hsv := A8 hb.size
 clear x0 x1 hb
 obtain ⟨x0, x1⟩ := hS.c2 w.heap.size _ _ _ (.tail _ (.head _))
 go_wp2_with fail
 refine Calls.mono (OP.out _ (H.out.below hS.below)) ?_
 rintro e w2 ⟨t, rfl, t1, t2, t3, t4, t5, hb2⟩
 clear x0 x1
 replace t1 := A8 t1
 replace t2 := A8 t2
 replace t3 := A8 t3
 replace t4 := A8 t4
 replace t5 := A8 t5
 go_wp2_with fail
 refine Calls.mono (run_any t w1.heap.size s hwd.out s.B0 sg (LnM.inv_B0 ok.out) (by rw [t1.out, hsm.out]) (by rw [t2.out, hsn.out, hsm.out]) (by rw [t3.out, hsn.out]) t4.out (by rw [t1.out]; omega) (by rw [t2.out]; omega) w2 (by rw [LnM.d_B0 ok.out]; exact t5.out) hb2.size) ?_
 rintro e w3 ⟨rfl, ⟨B, hI, hfe, hT⟩, hb3⟩
 replace hS := hS.call (hb2.trans hb3)
 have hszw : w1.heap.size ≤ w3.heap.size := Nat.le_trans hb2.size hb3.size
 have hsz1 : w.heap.size + 2 ≤ w1.heap.size := by rw [← zz.out]; exact hsv.out
 replace hT := A8 hT
 replace hI := A8 hI
 replace hfe := A8 hfe
 clear t5 hb2 hb3 H VA OP
 have hms : t.m = s.m := by rw [t1.out, hsm.out]
 have hns : t.n = s.n + s.m + 1 := by rw [t2.out, hsn.out, hsm.out]
 have hks : t.k = s.n := by rw [t3.out, hsn.out]
 have htm1 : t.m ≤ 18 := by rw [t1.out]; exact p3
 have htk1 : t.k ≤ 64 := by rw [t3.out]; exact c64
 have htn1 : t.n ≤ 1000 := by rw [t2.out]; omega
 obtain ⟨la, hla⟩ : ∃ la, la = s.n + s.m := ⟨_, rfl⟩
 have hlan : la < t.n := by omega
 have hla' : (la : Int) < t.n := by omega
 have hla0 : (0 : Int) ≤ la := by omega
 have hw1 : IntKind.i64.wrap ((t.n : Int) - 1) = la := by rw [IntWalk.i64_in _ (by omega)]; omega
 have hcw := hwd.out.C B hI.out la (by omega)
 have hlac : la = cols + n := by rw [hla, hsn.out, hsm.out]
 have hFc : ∀ j, tabF s B t.m j = s.C B j := fun j => by unfold tabF; rw [if_neg (by omega)]
 have hFr : ∀ i, i < t.m → ∀ j, tabF s B i j = s.T B i j := fun i hi j => by unfold tabF; rw [if_pos (by omega)]
 have c1 := hT.out.c1
 obtain ⟨b0, b1, b2, b3, b4, b5, b6, b7, b8, b9, b10, b11⟩ := Ax ((hT.out.grid.row t.m (by omega)).rd la hlan)
 rw [hFc la] at b0 b1 b2 b3 b4 b5 b6 b7 b8 b9 b10 b11
 obtain ⟨z, hz⟩ : ∃ z, z = s.C B la := ⟨_, rfl⟩
 rw [← hz] at b0 b1 b2 b3 b4 b5 b6 b7 b8 b9 b10 b11 hcw
 have EQ := fun W => AO hcw (b := decide (z = 0)) rfl W
 obtain ⟨fz, hfz⟩ : ∃ f, f = wd z := ⟨_, rfl⟩
 rw [← hfz] at b0 b1 b2 b3 b4 b5 b6 b7 b8 b9 b10 b11 EQ
 dsimp only [wc] at EQ
 replace hz := A8 hz
 replace hla := A8 hla
 replace hlac := A8 hlac
 replace hns := A8 hns
 replace hms := A8 hms
 replace hks := A8 hks
 replace hFc := A8 hFc
 replace hFr := A8 hFr
 have tbl3 : t.tb < w3.heap.size := hT.out.lt
 clear hcw hfz
 by_cases hz0 : z = 0
 case neg =>
   rw [show decide (z = 0) = false by simp [hz0]] at EQ
   have hm0 : 0 < t.m := by
     refine Nat.pos_of_ne_zero fun e => hz0 ?_
     have e2 : s.m = 0 := by rw [← hms.out]; exact e
     rw [hz.out, hla.out, LnM.C_val, e2]; rfl
   have hm0' : ¬ (t.m : Int) = 0 := by omega
   go_upto_region 7 with fail
   clear b0 b1 b2 b3 b4 b5 b6 b7 b8 b9 b10 b11 c1 EQ
   replace hz0 := A8 hz0
   go_upto_region 8 with fail
   obtain ⟨X, hX⟩ : ∃ X, X = w3.heap.size := ⟨_, rfl⟩
   obtain ⟨W4, hW4, S4, z4⟩ := (BL.start w3).add' #[.bool false, .slice none 0 0, .string ⟨#[]⟩, .slice none 0 0] 38
   rw [← hW4]
   rw [← hX] at S4 ⊢
   have c3 : W4.cell? ⟨t.tb, 3, none⟩ = some (sl t.m t.sb t.cs) := (hT.out.below S4.below).c3
   rw [BI hm0] at c3
   have hb4 := S4.below
   have kX := A8 (S4.blks _ (.head _))
   have hX' := A8 hX
   have hX1 : w1.heap.size ≤ X := by omega
   clear hW4 S4 hX
   go_wp2_with fail
   clear c3
   go_loopw [41] (fun o wr => ∃ (i : Nat) (wv : Value), o = .int .i64 i ∧ i ≤ t.m ∧ Hid (Below w3.heap.size w3 wr) ∧ Hid (Blk wr X #[.bool false, .slice none 0 0, .string ⟨#[]⟩, wv] 38) ∧ Hid (wr.ownsRow w3.heap.size 9 1 wv i ((List.range i).map fun j => .string (I10 (sg j * s.w B j))))) (fun o _ => t.m - (intOf o).toNat)
   case atStart => exact ⟨0, _, rfl, by omega, A8 hb4, kX, A8 (World.ownsRow_nil _ _ _ _)⟩
   case round =>
     clear hb4 kX z4
     obtain ⟨i, wv, rfl, him, hB, kX, own⟩ := hrel
     by_cases hi : i < t.m
     case pos =>
       have hi' : (i : Int) < t.m := by omega
       have hi0 : (0 : Int) ≤ i := by omega
       have hTr := A8 (hT.out.below hB.out)
       have y0 := hTr.out.sgn i hi
       obtain ⟨si, hsi⟩ : ∃ si, si = sg i := ⟨_, rfl⟩
       rw [← hsi] at y0
       have hsgi := hsg.out i
       rw [← hsi] at hsgi
       replace hsi := A8 hsi
       go_upto_region 11 with fail
       clear y0
       refine KR (i := i) (q := cols + i) hTr (by rw [hks.out, hsn.out, IntWalk.i64_in _ (by omega)]; omega) (by rw [hns.out, hsn.out, ← hms.out]; omega) (by have : cols + i < t.n := (by rw [hns.out, hsn.out, ← hms.out]; omega); omega) (by omega) (by kernel_rfl) ?_
       intro v46 v47 v48 v49 v50 v51 v52 v53 v54 v55 v56 v57 v58 v59 v60 v61 v62 g W5 hb5 kG hgw
       have kX5 := A8 (kX.out.below hb5)
       have own5 := A8 (As own.out hb5)
       have hB5 := A8 (hB.out.trans (hb5.mono hB.out.size))
       have hwt := htx.out.w B hI.out i (by rw [← hms.out]; exact hi)
       have hD : Hid (tabF s B t.m (cols + i) - s.d B = s.w B i) := A8 (by rw [hFc.out]; unfold LnM.Sys.w; rw [hsn.out])
       obtain ⟨D, hDD⟩ : ∃ D, D = tabF s B t.m (cols + i) - s.d B := ⟨_, rfl⟩
       rw [← hDD] at kG
       rw [← hDD] at hD
       clear hDD hb5
       have hsz5 : w3.heap.size ≤ W5.heap.size := hB5.out.size
       have hX5 : w3.heap.size ≤ X := by rw [hX'.out]; exact Aa _
       have hgw3 : w3.heap.size ≤ g := Nat.le_trans hB.out.size hgw
       have hBw5 := A8 (hS.below.trans (hB5.out.mono hS.below.size))
       rcases hsgi with e1 | e1
       · rw [e1]
         have he : Hid (s.w B i = sg i * s.w B i) := A8 (by rw [← hsi.out, e1, Int.one_mul])
         clear e1
         go_upto_region 14 with fail
         refine Ga (base := w3.heap.size) (z := D) (w0 := w) hE (A8 ⟨hBw5.out, hS.below.size, hsz5, hX5⟩) (A8 (by rw [hD.out]; exact hwt)) (by have := t1.out; omega) kX5 (A8 kG) own5 (by kernel_rfl) ?_
         intro v68 v69 v70 v71 v72 v73 v74 ga cap W6 hO6 kX6 own6
         have hB6 := A8 (hB5.out.trans (hO6.toBelow hsz5 (by
           intro k hk
           rcases List.mem_cons.1 hk with rfl | hk
           · exact hX5
           · exact (own5.out.lt k (by simpa using hk)).1)))
         have own7 : Hid (W6.ownsRow w3.heap.size 9 1 (.slice (some ⟨ga, 0, none⟩) (i + 1) cap) (i + 1) ((List.range (i + 1)).map fun j => .string (I10 (sg j * s.w B j)))) := A8 (by
           rw [List.range_succ, List.map_append]
           show W6.ownsRow _ _ 1 _ _ (_ ++ [Value.string (I10 (sg i * s.w B i))])
           rw [← he.out, ← hD.out]; exact own6)
         replace kX6 := A8 kX6
         clear hO6 own6 kG
         go_wp2_with fail
         go_roundw
         case rel => exact ⟨i + 1, _, by go_num, by omega, hB6, kX6, own7⟩
         case measure => simp [intOf]; omega
       · rw [e1]
         have he : Hid (-(s.w B i) = sg i * s.w B i) := A8 (by rw [← hsi.out, e1]; omega)
         clear e1
         obtain ⟨E, hEE⟩ : ∃ E, E = 0 - D := ⟨_, rfl⟩
         have MI := A8 (fun W => (by have := Bj 0 D W; rw [← hEE] at this; rwa [show wc (wd 0) = wc (fun _ => 0) from Az fun i _ => LnM.wd_zero i] at this : Calls Tryz.prog 39 #[.agg (wc (fun _ => 0)), .agg (wc (wd D))] W (Rets W (.agg (wc (wd E))))))
         replace hEE := A8 hEE
         obtain ⟨y0, y1, y2, y3, y4, y5, y6, y7, y8, y9, y10, y11⟩ := Al kG
         go_wp2_with fail
         refine Calls.mono (MI.out _) ?_
         rintro e w6 ⟨rfl, hb6⟩
         clear y0 y1 y2 y3 y4 y5 y6 y7 y8 y9 y10 y11
         replace kG := kG.below hb6
         replace kX5 := A8 (kX5.out.below hb6)
         replace own5 := A8 (As own5.out hb6)
         replace hB5 := A8 (hB5.out.trans (hb6.mono hsz5))
         replace hBw5 := A8 (hS.below.trans (hB5.out.mono hS.below.size))
         replace hsz5 : w3.heap.size ≤ w6.heap.size := hB5.out.size
         clear hb6
         obtain ⟨y0, y1, y2, y3, y4, y5, y6, y7, y8, y9, y10, y11⟩ := Al kG
         obtain ⟨q0, q1, q2, q3, q4, q5, q6, q7, q8, q9, q10, q11⟩ := B7 kG
         go_upto_region 14 with fail
         clear y0 y1 y2 y3 y4 y5 y6 y7 y8 y9 y10 y11 q0 q1 q2 q3 q4 q5 q6 q7 q8 q9 q10 q11
         have kG7 := AY (f := wd E) kG
         have hO7 : Only [g] w6 (st12 w6 g (wd E)) := by rw [← Cr]; exact Ag _ _ _
         obtain ⟨W7, hW7⟩ : ∃ W7, W7 = st12 w6 g (wd E) := ⟨_, rfl⟩
         rw [← hW7] at kG7 hO7
         rw [show ((((((((((((w6.setCell ⟨g, 0, none⟩ (.int .u64 (wd E 0))).setCell ⟨g, 1, none⟩ (.int .u64 (wd E 1))).setCell ⟨g, 2, none⟩ (.int .u64 (wd E 2))).setCell ⟨g, 3, none⟩ (.int .u64 (wd E 3))).setCell ⟨g, 4, none⟩ (.int .u64 (wd E 4))).setCell ⟨g, 5, none⟩ (.int .u64 (wd E 5))).setCell ⟨g, 6, none⟩ (.int .u64 (wd E 6))).setCell ⟨g, 7, none⟩ (.int .u64 (wd E 7))).setCell ⟨g, 8, none⟩ (.int .u64 (wd E 8))).setCell ⟨g, 9, none⟩ (.int .u64 (wd E 9))).setCell ⟨g, 10, none⟩ (.int .u64 (wd E 10))).setCell ⟨g, 11, none⟩ (.int .u64 (wd E 11))) = W7 from hW7.symm]
         clear hW7
         have gne : X ≠ g := fun e => by
           have h1 := kX5.out
           rw [e] at h1
           have := h1.symm.trans kG
           simp at this
         have kX7 := A8 ((hO7.block X kX5.out.lt (by simpa using gne)).trans kX5.out : Blk W7 X #[.bool false, .slice none 0 0, .string ⟨#[]⟩, wv] 38)
         have own7 := A8 (Cu own5.out hO7 (fun b e hb => by rw [List.mem_singleton.1 hb] at e; exact kG.not_row (by decide) own5.out e.symm))
         have hB7 := A8 (hB5.out.trans (hO7.toBelow hsz5 (by intro x hx; rw [List.mem_singleton.1 hx]; exact hgw3)))
         have hBw7 := A8 (hS.below.trans (hB7.out.mono hS.below.size))
         have hsz7 : w3.heap.size ≤ W7.heap.size := hB7.out.size
         clear hO7 kG kX5 own5 hB5 hBw5 hsz5
         refine Ga (base := w3.heap.size) (z := E) (w0 := w) hE (A8 ⟨hBw7.out, hS.below.size, hsz7, hX5⟩) (A8 (by rw [hEE.out, hD.out, Int.zero_sub, Int.neg_neg]; exact ⟨hwt.2, hwt.1⟩)) (by have := t1.out; omega) kX7 (A8 kG7) own7 (by kernel_rfl) ?_
         intro v68 v69 v70 v71 v72 v73 v74 ga cap W8 hO8 kX8 own8
         have hB8 := A8 (hB7.out.trans (hO8.toBelow hsz7 (by
           intro k hk
           rcases List.mem_cons.1 hk with rfl | hk
           · exact hX5
           · exact (own7.out.lt k (by simpa using hk)).1)))
         have own9 : Hid (W8.ownsRow w3.heap.size 9 1 (.slice (some ⟨ga, 0, none⟩) (i + 1) cap) (i + 1) ((List.range (i + 1)).map fun j => .string (I10 (sg j * s.w B j)))) := A8 (by
           rw [List.range_succ, List.map_append]
           show W8.ownsRow _ _ 1 _ _ (_ ++ [Value.string (I10 (sg i * s.w B i))])
           rw [← he.out, ← hD.out, ← Int.zero_sub, ← hEE.out]; exact own8)
         replace kX8 := A8 kX8
         clear hO8 own8 kG7
         go_wp2_with fail
         go_roundw
         case rel => exact ⟨i + 1, _, by go_num, by omega, hB8, kX8, own9⟩
         case measure => simp [intOf]; omega
     case neg =>
       have hi' : ¬ (i : Int) < t.m := by omega
       obtain rfl : i = t.m := by omega
       have hBl := A8 (hS.below.trans (hB.out.mono hS.below.size))
       have hBr := (hS.blks _ (.head _)).below (hB.out.mono (Aa _))
       obtain ⟨ga, cap, rfl⟩ : ∃ ga cap, wv = .slice (some ⟨ga, 0, none⟩) t.m cap := by
         rcases own.out.2 with ⟨e, h0⟩ | ⟨g, cp, cur, e, -⟩
         · omega
         · exact ⟨g, cp, e⟩
       obtain ⟨y0, y1, y2, y3⟩ := (⟨kX.out.cell 0, kX.out.cell 1, kX.out.cell 2, kX.out.cell 3⟩ : _ ∧ _ ∧ _ ∧ _)
       obtain ⟨q0, q1, q2, q3⟩ := (⟨hBr.cell 0, hBr.cell 1, hBr.cell 2, hBr.cell 3⟩ : _ ∧ _ ∧ _ ∧ _)
       have f0 := hBr.frozen 0
       have f1 := hBr.frozen 1
       have f2 := hBr.frozen 2
       have f3 := hBr.frozen 3
       obtain ⟨⟨k0, k1, k2, k3⟩, hfin, hon⟩ := CQ hBr (Nat.le_succ _) hBl.out (.bool false) (.slice none 0 0) (.string ⟨#[]⟩) (.slice (some ⟨ga, 0, none⟩) t.m cap)
       have ownf := Cu own.out hon (fun b e hb => by
         have h1 := (own.out.lt b e).1
         have h2 := List.mem_singleton.1 hb
         dsimp only at h2
         omega)
       have hsl : Hid (SlS _ (.slice (some ⟨ga, 0, none⟩) t.m cap) ((List.range t.m).map fun j => I10 (sg j * s.w B j))) := A8 (SlS.of_own (by rw [List.map_map]; exact ownf))
       have hfin := A8 hfin
       clear hBr kX own hon ownf
       dsimp only at f0 f1 f2 f3 k0 k1 k2 k3 q0 q1 q2 q3
       go_wp2
       exact bodyPost_ret (v := .tuple #[.agg #[.bool false, .slice none 0 0, .string ⟨#[]⟩, .slice (some ⟨ga, 0, none⟩) t.m cap], .int .i64 0]) (by simp [results, Tryz.results14, go_sem, k0, k1, k2, k3]) rfl
         ⟨B, hI.out, fun k hk => hfe.out k (by rw [hsn.out]; exact hk), hfin.out, .inr ⟨by rw [← hlac.out, ← hz.out]; exact hz0.out, _, rfl, by rw [← t1.out]; exact hsl.out⟩⟩
 case pos =>
   rw [show decide (z = 0) = true by simp [hz0]] at EQ
   replace hz0 := A8 hz0
   go_upto_region 17 with fail
   clear b0 b1 b2 b3 b4 b5 b6 b7 b8 b9 b10 b11 c1 EQ
   refine KS (w0 := w) hE (A8 hS.below) hT (A8 (htx.out.d B hI.out)) (by omega) (by kernel_rfl) ?_
   intro v77 v78 v79 v80 v81 v82 v83 v84 v85 v86 v87 v88 v89 ga gb W4 hb4 hN kA hga hgb
   have hT4 := A8 (hT.out.below hb4)
   obtain ⟨ao, cc, hsl⟩ : ∃ ao cc, sl t.m t.bb t.cb = .slice ao t.m cc := ⟨_, _, rfl⟩
   have c2 := hT4.out.c2
   rw [hsl] at c2
   obtain ⟨S, hSm, hSg⟩ : ∃ S : List Nat, (∀ x ∈ S, x = gb ∧ 0 < t.k) ∧ (0 < t.k → S = [gb]) := by
     by_cases h0 : 0 < t.k
     · exact ⟨[gb], fun x hx => ⟨List.mem_singleton.1 hx, h0⟩, fun _ => rfl⟩
     · exact ⟨[], fun x hx => (by cases hx), fun h => absurd h h0⟩
   have hne : 0 < t.k → ga ≠ gb := fun hk0 e => by
     have := (hN.cell 0 hk0).1
     rw [← e, kA.cell] at this; simp at this
   have N0 := A8 (hN.congr (g := numF s B 0) (fun j _ => (KW s B j).symm))
   replace kA := A8 kA
   replace hsl := A8 hsl
   replace hSm := A8 hSm
   replace hSg := A8 hSg
   replace hne := A8 hne
   replace hb4 := A8 hb4
   clear hN
   go_wp2_with fail
   clear c2
   go_loopw [95] (fun o wr => ∃ i : Nat, o = .int .i64 i ∧ i ≤ t.m ∧ Hid (Only S W4 wr) ∧ Hid (StrAt wr gb t.k (numF s B i))) (fun o _ => t.m - (intOf o).toNat)
   case atStart => exact ⟨0, rfl, by omega, A8 (Only.refl _ _), N0⟩
   case round =>
     clear N0
     obtain ⟨i, rfl, him, hO, hN⟩ := hrel
     have hBr := A8 (hb4.out.trans (hO.out.toBelow hb4.out.size (by intro x hx; rw [(hSm.out x hx).1]; exact hgb)))
     by_cases hi : i < t.m
     case pos =>
       have hi' : (i : Int) < t.m := by omega
       have hi0 : (0 : Int) ≤ i := by omega
       have hm0 : 0 < t.m := by omega
       have hsl' := hsl.out
       rw [BI hm0] at hsl'
       cases hsl'
       have hTr := A8 (hT.out.below hBr.out)
       have y0 := (hTr.out.bas i hi).1
       have y1 := hTr.out.c16
       obtain ⟨q, hq⟩ : ∃ q, q = B i := ⟨_, rfl⟩
       rw [← hq] at y0
       replace hq := A8 hq
       by_cases hqk : q < t.k
       · have hqk' : (q : Int) < t.k := by omega
         have gbl : w3.heap.size ≤ gb := hgb
         go_upto_region 22 with fail
         clear y0 y1
         refine KT (w0 := w) (la := la) hE (A8 ⟨hS.below.trans (hBr.out.mono hS.below.size), Nat.le_trans hS.below.size hgb⟩) hTr hi hi' hi0 hlan hla' hla0 hqk hqk' (by omega) (A8 (by rw [hFr.out i hi, hla.out]; exact htx.out.T B hI.out i (by rw [← hms.out]; exact hi))) (A8 ⟨A9 kA.out.lt hO.out.size, (hO.out.cell (p := ⟨ga, 1, none⟩) kA.out.lt (fun hx => hne.out (by omega) (hSm.out _ hx).1)).trans (kA.out.cell 1), hne.out (by omega)⟩) hN (A8 ⟨by have := hT.out.lt; omega, by have := hT.out.lx hm0; omega, by have := (hT.out.grid.row i (by omega)).lt; omega⟩) hm0 (by kernel_rfl) ?_
         intro v106 v107 v108 v109 v110 v111 v112 v113 v114 v115 v116 v117 v118 v119 v120 v121 W5 hO5 hN5
         have hO6 := A8 (hO.out.trans (by rw [hSg.out (by omega)]; exact hO5))
         have hN6 := A8 (hN5.congr (g := numF s B (i + 1)) (fun j _ => by rw [hFr.out i hi, hla.out, hq.out]; exact M5 hI.out (by rw [← hms.out]; exact hi) j))
         clear hO5 hN5
         go_wp2_with fail
         go_roundw
         case rel => exact ⟨i + 1, by go_num, by omega, hO6, hN6⟩
         case measure => simp [intOf]; omega
       · have hqk' : ¬ (q : Int) < t.k := by omega
         have hN6 := A8 (hN.out.congr (g := numF s B (i + 1)) (fun j hj => KX (by rw [← hq.out]; omega)))
         go_wp2_with fail
         go_roundw
         case rel => exact ⟨i + 1, by go_num, by omega, hO, hN6⟩
         case measure => simp [intOf]; omega
     case neg =>
       have hi' : ¬ (i : Int) < t.m := by omega
       obtain rfl : i = t.m := by omega
       have hBl := A8 (hS.below.trans (hBr.out.mono hS.below.size))
       have hBz := (hS.blks _ (.head _)).below (hBr.out.mono (Aa _))
       have kAr : Blk wr ga #[.bool true, .slice (some ⟨gb, 0, none⟩) t.k t.k, .string (I10 (s.d B)), .slice none 0 0] 38 := (hO.out.block ga kA.out.lt (fun hx => hne.out (hSm.out _ hx).2 (hSm.out _ hx).1)).trans kA.out
       obtain ⟨y0, y1, y2, y3⟩ := (⟨kAr.cell 0, kAr.cell 1, kAr.cell 2, kAr.cell 3⟩ : _ ∧ _ ∧ _ ∧ _)
       obtain ⟨q0, q1, q2, q3⟩ := (⟨hBz.cell 0, hBz.cell 1, hBz.cell 2, hBz.cell 3⟩ : _ ∧ _ ∧ _ ∧ _)
       have f0 := hBz.frozen 0
       have f1 := hBz.frozen 1
       have f2 := hBz.frozen 2
       have f3 := hBz.frozen 3
       obtain ⟨⟨k0, k1, k2, k3⟩, hfin, hon⟩ := CQ hBz (Nat.le_succ _) hBl.out (.bool true) (.slice (some ⟨gb, 0, none⟩) t.k t.k) (.string (I10 (s.d B))) (.slice none 0 0)
       have Nf := hN.out.only hon (by intro e; have := List.mem_singleton.1 e; dsimp only at this; omega)
       have hsf : Hid (SlS _ (.slice (some ⟨gb, 0, none⟩) t.k t.k) ((List.range t.k).map (numF s B t.m))) := A8 (Nf.sl (by unfold maxLen; omega))
       have hfin := A8 hfin
       clear hBz kAr hon Nf
       dsimp only at f0 f1 f2 f3 k0 k1 k2 k3 q0 q1 q2 q3 y0 y1 y2 y3
       go_wp2
       exact bodyPost_ret (v := .tuple #[.agg #[.bool true, .slice (some ⟨gb, 0, none⟩) t.k t.k, .string (I10 (s.d B)), .slice none 0 0], .int .i64 0]) (by simp [results, Tryz.results14, go_sem, k0, k1, k2, k3]) rfl
         ⟨B, hI.out, fun k hk => hfe.out k (by rw [hsn.out]; exact hk), hfin.out, .inl ⟨by rw [← hlac.out, ← hz.out]; exact hz0.out, _, rfl, by
           have e : numF s B t.m = fun k => I10 (s.x B k) := by funext k; unfold numF LnM.Sys.x; rw [hms.out]
           rw [← t3.out, ← e]; exact hsf.out⟩⟩
end
end Go.Proofs.YtcmomjnailihpaaGreatDoor
