/- LwU, OpB, OpC -/
import Derived.Test.YtioamkekjjkigaaGreatDoorYLwO
import Derived.Deep.DeepCutAuto
set_option maxHeartbeats 8000000
set_option maxRecDepth 100000
namespace Go.Proofs.YtioamkekjjkigaaGreatDoor
section
open Go.RowKit
open LnM (wd DL)
attribute [local go_sem] Oper.semAt_some
theorem US {Q:Exit->Act->World->Prop} {u0 u2 u5 u8 u9 u10 u11 u12 u13 u14 u15 u16 u17 u18 u19 u20 u21 u22 u23 u24 u25 u26 u27 u28 u29 u30 u31 u32 u33 u34 u35 u36 u37 u38 u39 u40 u41 u42 u43 u44 u45 u46 u47 u48 u49 u50 u51 u52 u53 u54 u55 u56 u57 u58 u59 u60 u61 u62 u63 u64 u65 u66 u67 u68 u69 u70 u71 u72 u73 u74 u75 u76 u77 u78 u79 u80 u81 u82 u83 u84 u85 u86 u87 u88 u89 u90 u91 u92 u93 u94 u95 u96 u97 u98 u99 u100 u101 u102 u103 u104 u105 u106 u107 u108 u109 u110 u111 u112 u113 u114 u115 u116 u117 u118 u119 u120 u121 u122 u123 u124 u125 u126 u127 u128 u129 u130 u131 u132 u133 u134 u135:Value} {tb cb rb xB n cols i q base:Nat} {sg:Int} {rv bv sv:Value} {xr xb xs:List Value} {w:World} (hqe:IntKind.i64.wrap ((cols:Int)+i)=q) (hi:i<=1000) (hbase:base<=w.heap.size)
  (hx:Hid (xB<w.heap.size/\w.cell? ⟨xB,0,none⟩=some (.int .i64 cols)/\xB∉Hm tb rv bv sv)) (hT:Hid (Ds w tb (Tk (rv) cb n (bv) (sv) 1 cols) 68)) (hO:Hid (Gf w w base rv bv sv rv i xr bv i xb sv i xs)) {ops:Array Oper} (ho:Dt Tryz.f30.body 19=some ops)
  (hQ:∀ (v101 v102 v103 v104 v105 v106 v107 v108 v109 v110 v111 v112 v113 v114 v115 v116 v117 v118 v119 v120 v121 v122 v123 v124 v125 v126 v127 v128 v129 v130 v131 v132 v133:Value) (gr kr gb kb gs ks:Nat) (W':World),Dr (Hm tb rv bv sv) w W'->Ds W' tb (Tk (.slice (some ⟨gr,0,none⟩) (i+1) kr) cb n (.slice (some ⟨gb,0,none⟩) (i+1) kb) (.slice (some ⟨gs,0,none⟩) (i+1) ks) 1 cols) 68->Gf w W' base rv bv sv (.slice (some ⟨gr,0,none⟩) (i+1) kr) (i+1) (xr++[.slice (some ⟨rb,0,none⟩) n n]) (.slice (some ⟨gb,0,none⟩) (i+1) kb) (i+1) (xb++[.int .i64 q]) (.slice (some ⟨gs,0,none⟩) (i+1) ks) (i+1) (xs++[.int .i64 sg])->Q .normal { tmps:=List.toArray (u0::.pointer (some ⟨xB,0,none⟩)::u2::.pointer (some ⟨tb,0,none⟩)::.int .i64 i::u5::.int .i64 sg::.slice (some ⟨rb,0,none⟩) n n::u8::u9::u10::u11::u12::u13::u14::u15::u16::u17::u18::u19::u20::u21::u22::u23::u24::u25::u26::u27::u28::u29::u30::u31::u32::u33::u34::u35::u36::u37::u38::u39::u40::u41::u42::u43::u44::u45::u46::u47::u48::u49::u50::u51::u52::u53::u54::u55::u56::u57::u58::u59::u60::u61::u62::u63::u64::u65::u66::u67::u68::u69::u70::u71::u72::u73::u74::u75::u76::u77::u78::u79::u80::u81::u82::u83::u84::u85::u86::u87::u88::u89::u90::u91::u92::u93::u94::u95::u96::u97::u98::u99::u100::v101::v102::v103::v104::v105::v106::v107::v108::v109::v110::v111::v112::v113::v114::v115::v116::v117::v118::v119::v120::v121::v122::v123::v124::v125::v126::v127::v128::v129::v130::v131::v132::v133::u134::u135::[]),defers:=[] } W') :
  (Code.region 19 ops true).wp Tryz.prog Q { tmps:=List.toArray (u0::.pointer (some ⟨xB,0,none⟩)::u2::.pointer (some ⟨tb,0,none⟩)::.int .i64 i::u5::.int .i64 sg::.slice (some ⟨rb,0,none⟩) n n::u8::u9::u10::u11::u12::u13::u14::u15::u16::u17::u18::u19::u20::u21::u22::u23::u24::u25::u26::u27::u28::u29::u30::u31::u32::u33::u34::u35::u36::u37::u38::u39::u40::u41::u42::u43::u44::u45::u46::u47::u48::u49::u50::u51::u52::u53::u54::u55::u56::u57::u58::u59::u60::u61::u62::u63::u64::u65::u66::u67::u68::u69::u70::u71::u72::u73::u74::u75::u76::u77::u78::u79::u80::u81::u82::u83::u84::u85::u86::u87::u88::u89::u90::u91::u92::u93::u94::u95::u96::u97::u98::u99::u100::u101::u102::u103::u104::u105::u106::u107::u108::u109::u110::u111::u112::u113::u114::u115::u116::u117::u118::u119::u120::u121::u122::u123::u124::u125::u126::u127::u128::u129::u130::u131::u132::u133::u134::u135::[]),defers:=[] } w:=by
 obtain rfl:=B4 (ho.symm.trans (rfl:Dt Tryz.f30.body 19=some _))
 clear ho
 replace hQ:=A8 hQ
 obtain ⟨Iv,hI⟩:∃ Iv:(Nat->Bool)->Act->World->Prop,∀ l a W,Iv l a W↔(∃ s101 s102 s103 s104 s105 s106 s107 s108 s109 s110 s111 s112 s113 s114 s115 s116 s117 s118 s119 s120 s121 s122 s123 s124 s125 s126 s127 s128 s129 s130 s131 s132 s133:Value,a={ tmps:=List.toArray (u0::.pointer (some ⟨xB,0,none⟩)::u2::.pointer (some ⟨tb,0,none⟩)::.int .i64 i::u5::.int .i64 sg::.slice (some ⟨rb,0,none⟩) n n::u8::u9::u10::u11::u12::u13::u14::u15::u16::u17::u18::u19::u20::u21::u22::u23::u24::u25::u26::u27::u28::u29::u30::u31::u32::u33::u34::u35::u36::u37::u38::u39::u40::u41::u42::u43::u44::u45::u46::u47::u48::u49::u50::u51::u52::u53::u54::u55::u56::u57::u58::u59::u60::u61::u62::u63::u64::u65::u66::u67::u68::u69::u70::u71::u72::u73::u74::u75::u76::u77::u78::u79::u80::u81::u82::u83::u84::u85::u86::u87::u88::u89::u90::u91::u92::u93::u94::u95::u96::u97::u98::u99::u100::s101::s102::s103::s104::s105::s106::s107::s108::s109::s110::s111::s112::s113::s114::s115::s116::s117::s118::s119::s120::s121::s122::s123::s124::s125::s126::s127::s128::s129::s130::s131::s132::s133::u134::u135::[]),defers:=[] }/\Dr (Hm tb rv bv sv) w W/\Vs [(0,.pointer (some ⟨tb,0,none⟩),s101),(1,.pointer (some ⟨tb,0,none⟩),s102),(2,.pointer (some ⟨tb,0,none⟩),s103),(3,.pointer (some ⟨tb,0,none⟩),s104),(4,.pointer (some ⟨tb,0,none⟩),s105),(5,.pointer (some ⟨tb,0,none⟩),s106),(6,rv,s107),(7,.slice (some ⟨rb,0,none⟩) n n,s108),(10,.pointer (some ⟨tb,0,none⟩),s111),(11,.pointer (some ⟨tb,0,none⟩),s112),(12,.pointer (some ⟨tb,2,none⟩),s113),(13,bv,s114),(14,.pointer (some ⟨xB,0,none⟩),s115),(15,.int .i64 cols,s116),(16,.int .i64 i,s117),(17,.int .i64 q,s118),(20,.pointer (some ⟨tb,0,none⟩),s121),(21,.pointer (some ⟨tb,0,none⟩),s122),(22,.pointer (some ⟨tb,3,none⟩),s123),(23,sv,s124),(24,.int .i64 sg,s125),(27,.pointer (some ⟨tb,0,none⟩),s128),(28,.pointer (some ⟨tb,0,none⟩),s129),(30,.pointer (some ⟨tb,0,none⟩),s130),(31,.pointer (some ⟨tb,2,none⟩),s131),(33,.pointer (some ⟨tb,0,none⟩),s132),(34,.pointer (some ⟨tb,3,none⟩),s133)] l/\(l 8=true->∃ g:Nat,s109=.slice (some ⟨g,0,none⟩) 1 1/\W.cell? ⟨g,0,none⟩=some (.slice (some ⟨rb,0,none⟩) n n)/\w.heap.size<=g/\g<W.heap.size)/\(l 9=true->∃ g cap:Nat,s110=.slice (some ⟨g,0,none⟩) (i+1) cap)/\(l 18=true->∃ g:Nat,s119=.slice (some ⟨g,0,none⟩) 1 1/\W.cell? ⟨g,0,none⟩=some (.int .i64 q)/\w.heap.size<=g/\g<W.heap.size)/\(l 19=true->∃ g cap:Nat,s120=.slice (some ⟨g,0,none⟩) (i+1) cap)/\(l 25=true->∃ g:Nat,s126=.slice (some ⟨g,0,none⟩) 1 1/\W.cell? ⟨g,0,none⟩=some (.int .i64 sg)/\w.heap.size<=g/\g<W.heap.size)/\(l 26=true->∃ g cap:Nat,s127=.slice (some ⟨g,0,none⟩) (i+1) cap)/\(Ds W tb (Tk (bif l 29 then s110 else rv) cb n (bif l 32 then s120 else bv) (bif l 35 then s127 else sv) 1 cols) 68)/\(Gf w W base rv bv sv (bif l 9 then s110 else rv) (bif l 9 then i+1 else i) (bif l 9 then xr++[.slice (some ⟨rb,0,none⟩) n n] else xr) (bif l 19 then s120 else bv) (bif l 19 then i+1 else i) (bif l 19 then xb++[.int .i64 q] else xb) (bif l 26 then s127 else sv) (bif l 26 then i+1 else i) (bif l 26 then xs++[.int .i64 sg] else xs))):=⟨_,fun _ _ _=>B6⟩
 refine DW Iv Ab Ab ((hI _ _ _).2 ⟨_,_,_,_,_,_,_,_,_,_,_,_,_,_,_,_,_,_,_,_,_,_,_,_,_,_,_,_,_,_,_,_,_,rfl,(Dr.refl (Hm tb rv bv sv) w).drewN 1,Vs.zero,fun h=>off h,fun h=>off h,fun h=>off h,fun h=>off h,fun h=>off h,fun h=>off h,hT.out.below (Dq w 1),hO.out.below (Dq w 1)⟩) (Dk (k:=0) ?_ (Dk (k:=1) ?_ (Dk (k:=2) ?_ (Dk (k:=3) ?_ (Dk (k:=4) ?_ (Dk (k:=5) ?_ (Dk (k:=6) ?_ (Dk (k:=7) ?_ (Dk (k:=8) ?_ (Dk (k:=9) ?_ (Dk (k:=10) ?_ (Dk (k:=11) ?_ (Dk (k:=12) ?_ (Dk (k:=13) ?_ (Dk (k:=14) ?_ (Dk (k:=15) ?_ (Dk (k:=16) ?_ (Dk (k:=17) ?_ (Dk (k:=18) ?_ (Dk (k:=19) ?_ (Dk (k:=20) ?_ (Dk (k:=21) ?_ (Dk (k:=22) ?_ (Dk (k:=23) ?_ (Dk (k:=24) ?_ (Dk (k:=25) ?_ (Dk (k:=26) ?_ (Dk (k:=27) ?_ (Dk (k:=28) ?_ (Dk (k:=29) ?_ (Dk (k:=30) ?_ (Dk (k:=31) ?_ (Dk (k:=32) ?_ (Dk (k:=33) ?_ (Dk (k:=34) ?_ (Dk (k:=35) ?_ (Du))))))))))))))))))))))))))))))))))))) ?_
 ·intro l a W hl hw hsh h K hK
  rw [hI] at h;iterate 33 obtain ⟨_,h⟩:=h
  obtain ⟨rfl,hC,hP,f8,f9,f18,h⟩:=h;obtain ⟨f19,f25,f26,T,O⟩:=h;go_simp;apply hK.out;rw [hI];iterate 33 apply Exists.intro
  exact ⟨rfl,hC,hP.put 0 rfl rfl rfl,f8,f9,f18,f19,f25,f26,T,O⟩
 ·intro l a W hl hw hsh h K hK
  rw [hI] at h;iterate 33 obtain ⟨_,h⟩:=h
  obtain ⟨rfl,hC,hP,f8,f9,f18,h⟩:=h;obtain ⟨f19,f25,f26,T,O⟩:=h;go_simp;apply hK.out;rw [hI];iterate 33 apply Exists.intro
  exact ⟨rfl,hC,hP.put 1 rfl rfl rfl,f8,f9,f18,f19,f25,f26,T,O⟩
 ·intro l a W hl hw hsh h K hK
  rw [hI] at h;iterate 33 obtain ⟨_,h⟩:=h
  obtain ⟨rfl,hC,hP,f8,f9,f18,h⟩:=h;obtain ⟨f19,f25,f26,T,O⟩:=h;go_simp;apply hK.out;rw [hI];iterate 33 apply Exists.intro
  exact ⟨rfl,hC,hP.put 2 rfl rfl rfl,f8,f9,f18,f19,f25,f26,T,O⟩
 ·intro l a W hl hw hsh h K hK
  rw [hI] at h;iterate 33 obtain ⟨_,h⟩:=h
  obtain ⟨rfl,hC,hP,f8,f9,f18,h⟩:=h;obtain ⟨f19,f25,f26,T,O⟩:=h;go_simp;apply hK.out;rw [hI];iterate 33 apply Exists.intro
  exact ⟨rfl,hC,hP.put 3 rfl rfl rfl,f8,f9,f18,f19,f25,f26,T,O⟩
 ·intro l a W hl hw hsh h K hK
  rw [hI] at h;iterate 33 obtain ⟨_,h⟩:=h
  obtain ⟨rfl,hC,hP,f8,f9,f18,h⟩:=h;obtain ⟨f19,f25,f26,T,O⟩:=h;obtain rfl:=hP.get 3 rfl (hw 3 Ab);go_simp;apply hK.out;rw [hI];iterate 33 apply Exists.intro
  exact ⟨rfl,hC,hP.put 4 rfl rfl rfl,f8,f9,f18,f19,f25,f26,T,O⟩
 ·intro l a W hl hw hsh h K hK
  rw [hI] at h;iterate 33 obtain ⟨_,h⟩:=h
  obtain ⟨rfl,hC,hP,f8,f9,f18,h⟩:=h;obtain ⟨f19,f25,f26,T,O⟩:=h;obtain rfl:=hP.get 4 rfl (hw 4 Ab);go_simp;apply hK.out;rw [hI];iterate 33 apply Exists.intro
  exact ⟨rfl,hC,hP.put 5 rfl rfl rfl,f8,f9,f18,f19,f25,f26,T,O⟩
 ·intro l a W hl hw hsh h K hK
  rw [hI] at h;iterate 33 obtain ⟨_,h⟩:=h
  obtain ⟨rfl,hC,hP,f8,f9,f18,h⟩:=h;obtain ⟨f19,f25,f26,T,O⟩:=h;obtain rfl:=hP.get 5 rfl (hw 5 Ab);have hst:l 29=false:=by
   cases hc:l 29 with
   | false=>rfl
   | true=>exact absurd (hsh 9 6 _ rfl (hsh 29 9 _ rfl (hc) Ab) Ab) (by simp [hl])
  have x1:W.cell? ⟨tb,0,none⟩=some (rv):=by have:=T.cell 0;rw [hst] at this;exact this
  go_simp;apply hK.out;rw [hI];iterate 33 apply Exists.intro
  exact ⟨rfl,hC,hP.put 6 rfl rfl rfl,f8,f9,f18,f19,f25,f26,T,O⟩
 ·intro l a W hl hw hsh h K hK
  rw [hI] at h;iterate 33 obtain ⟨_,h⟩:=h
  obtain ⟨rfl,hC,hP,f8,f9,f18,h⟩:=h;obtain ⟨f19,f25,f26,T,O⟩:=h;go_simp;apply hK.out;rw [hI];iterate 33 apply Exists.intro
  exact ⟨rfl,hC,hP.put 7 rfl rfl rfl,f8,f9,f18,f19,f25,f26,T,O⟩
 ·intro l a W hl hw hsh h K hK
  rw [hI] at h;iterate 33 obtain ⟨_,h⟩:=h
  obtain ⟨rfl,hC,hP,f8,f9,f18,h⟩:=h;obtain ⟨f19,f25,f26,T,O⟩:=h;obtain rfl:=hP.get 7 rfl (hw 7 Ab);go_simp;have hb:=(Below.refl W.heap.size W).alloc (Aa _) (.cells #[.slice (some ⟨rb,0,none⟩) n n] 63);have hcell:=M0 (w:=w) hb;have hsz:=hb.size;apply hK.out;rw [hI];iterate 33 apply Exists.intro
  exact ⟨rfl,hC.below hb,hP.skip 8 rfl,fun _=>⟨_,rfl,(Ds.new W #[.slice (some ⟨rb,0,none⟩) n n] 63).cell 0,hC.size,Af⟩,f9,(fun h=>(let ⟨g,e,a,b,c⟩:=f18 h;⟨g,e,(hcell g 0 b c).trans a,b,A9 c hsz⟩)),f19,(fun h=>(let ⟨g,e,a,b,c⟩:=f25 h;⟨g,e,(hcell g 0 b c).trans a,b,A9 c hsz⟩)),f26,T.below hb,O.below hb⟩
 ·intro l a W hl hw hsh h K hK
  rw [hI] at h;iterate 33 obtain ⟨_,h⟩:=h
  obtain ⟨rfl,hC,hP,f8,f9,f18,h⟩:=h;obtain ⟨f19,f25,f26,T,O⟩:=h;obtain rfl:=hP.get 6 rfl (hw 6 Ab);obtain ⟨g,rfl,hg0,hgw,hgl⟩:=f8 (hw 8 Ab);rw [AU (by rfl)];have hst:l 29=false:=by
   cases hc:l 29 with
   | false=>rfl
   | true=>exact absurd (hsh 29 9 _ rfl (hc) Ab) (by simp [hl])
  simp only [hl,Co] at O;rw [hst] at T;simp only [Co] at T;refine F9 _ 63 (.slice none 0 0) 24 Tryz.underlying62 Pz rfl _ _ rfl rv i xr (by go_simp) O.r g (.slice (some ⟨rb,0,none⟩) n n) (by go_simp) hg0 rfl Ad Ad (Bc hbase hC.size) ?_;intro v' W2 hr hg hv;have hr2:=hr.2;rcases hr2 with ⟨rfl,h0⟩ | ⟨g2,cap2,cur,rfl,-⟩
  ·omega
  have hcell:=I2 (w:=w) hg (fun k e=>(hO.out.r.lt k e).2);have hsz:=hg.size;have T2:=T.kept hg (T.not_row Ae O.r);have O2:=O.setR hg hr hv;apply hK.out;rw [hI];iterate 33 apply Exists.intro
  exact ⟨rfl,hC.grown hg (fun k e=>.inl (hot_r k e)),hP.skip 9 rfl,(fun h=>(let ⟨g,e,a,b,c⟩:=f8 h;⟨g,e,(hcell g 0 b c).trans a,b,A9 c hsz⟩)),fun _=>⟨g2,cap2,rfl⟩,(fun h=>(let ⟨g,e,a,b,c⟩:=f18 h;⟨g,e,(hcell g 0 b c).trans a,b,A9 c hsz⟩)),f19,(fun h=>(let ⟨g,e,a,b,c⟩:=f25 h;⟨g,e,(hcell g 0 b c).trans a,b,A9 c hsz⟩)),f26,(by rw [show Ex l 9 29=false from hst];exact T2),O2⟩
 ·intro l a W hl hw hsh h K hK
  rw [hI] at h;iterate 33 obtain ⟨_,h⟩:=h
  obtain ⟨rfl,hC,hP,f8,f9,f18,h⟩:=h;obtain ⟨f19,f25,f26,T,O⟩:=h;go_simp;apply hK.out;rw [hI];iterate 33 apply Exists.intro
  exact ⟨rfl,hC,hP.put 8 rfl rfl rfl,f8,f9,f18,f19,f25,f26,T,O⟩
 ·intro l a W hl hw hsh h K hK
  rw [hI] at h;iterate 33 obtain ⟨_,h⟩:=h
  obtain ⟨rfl,hC,hP,f8,f9,f18,h⟩:=h;obtain ⟨f19,f25,f26,T,O⟩:=h;obtain rfl:=hP.get 8 rfl (hw 10 Ab);go_simp;apply hK.out;rw [hI];iterate 33 apply Exists.intro
  exact ⟨rfl,hC,hP.put 9 rfl rfl rfl,f8,f9,f18,f19,f25,f26,T,O⟩
 ·intro l a W hl hw hsh h K hK
  rw [hI] at h;iterate 33 obtain ⟨_,h⟩:=h
  obtain ⟨rfl,hC,hP,f8,f9,f18,h⟩:=h;obtain ⟨f19,f25,f26,T,O⟩:=h;obtain rfl:=hP.get 9 rfl (hw 11 Ab);go_simp;apply hK.out;rw [hI];iterate 33 apply Exists.intro
  exact ⟨rfl,hC,hP.put 10 rfl rfl rfl,f8,f9,f18,f19,f25,f26,T,O⟩
 ·intro l a W hl hw hsh h K hK
  rw [hI] at h;iterate 33 obtain ⟨_,h⟩:=h
  obtain ⟨rfl,hC,hP,f8,f9,f18,h⟩:=h;obtain ⟨f19,f25,f26,T,O⟩:=h;obtain rfl:=hP.get 10 rfl (hw 12 Ab);have hst:l 32=false:=by
   cases hc:l 32 with
   | false=>rfl
   | true=>exact absurd (hsh 19 13 _ rfl (hsh 32 19 _ rfl (hc) Ab) Ab) (by simp [hl])
  have x1:W.cell? ⟨tb,2,none⟩=some (bv):=by have:=T.cell 2;rw [hst] at this;exact this
  go_simp;apply hK.out;rw [hI];iterate 33 apply Exists.intro
  exact ⟨rfl,hC,hP.put 11 rfl rfl rfl,f8,f9,f18,f19,f25,f26,T,O⟩
 ·intro l a W hl hw hsh h K hK
  rw [hI] at h;iterate 33 obtain ⟨_,h⟩:=h
  obtain ⟨rfl,hC,hP,f8,f9,f18,h⟩:=h;obtain ⟨f19,f25,f26,T,O⟩:=h;go_simp;apply hK.out;rw [hI];iterate 33 apply Exists.intro
  exact ⟨rfl,hC,hP.put 12 rfl rfl rfl,f8,f9,f18,f19,f25,f26,T,O⟩
 ·intro l a W hl hw hsh h K hK
  rw [hI] at h;iterate 33 obtain ⟨_,h⟩:=h
  obtain ⟨rfl,hC,hP,f8,f9,f18,h⟩:=h;obtain ⟨f19,f25,f26,T,O⟩:=h;obtain rfl:=hP.get 12 rfl (hw 14 Ab);have x1:=(hC.cell (p:=⟨xB,0,none⟩) hx.out.1 hx.out.2.2).trans hx.out.2.1;go_simp;apply hK.out;rw [hI];iterate 33 apply Exists.intro
  exact ⟨rfl,hC,hP.put 13 rfl rfl rfl,f8,f9,f18,f19,f25,f26,T,O⟩
 ·intro l a W hl hw hsh h K hK
  rw [hI] at h;iterate 33 obtain ⟨_,h⟩:=h
  obtain ⟨rfl,hC,hP,f8,f9,f18,h⟩:=h;obtain ⟨f19,f25,f26,T,O⟩:=h;go_simp;apply hK.out;rw [hI];iterate 33 apply Exists.intro
  exact ⟨rfl,hC,hP.put 14 rfl rfl rfl,f8,f9,f18,f19,f25,f26,T,O⟩
 ·intro l a W hl hw hsh h K hK
  rw [hI] at h;iterate 33 obtain ⟨_,h⟩:=h
  obtain ⟨rfl,hC,hP,f8,f9,f18,h⟩:=h;obtain ⟨f19,f25,f26,T,O⟩:=h;obtain rfl:=hP.get 13 rfl (hw 15 Ab);obtain rfl:=hP.get 14 rfl (hw 16 Ab);go_simp;apply hK.out;rw [hI];iterate 33 apply Exists.intro
  exact ⟨rfl,hC,hP.put 15 rfl rfl rfl,f8,f9,f18,f19,f25,f26,T,O⟩
 ·intro l a W hl hw hsh h K hK
  rw [hI] at h;iterate 33 obtain ⟨_,h⟩:=h
  obtain ⟨rfl,hC,hP,f8,f9,f18,h⟩:=h;obtain ⟨f19,f25,f26,T,O⟩:=h;obtain rfl:=hP.get 15 rfl (hw 17 Ab);go_simp;have hb:=(Below.refl W.heap.size W).alloc (Aa _) (.cells #[.int .i64 q] 3);have hcell:=M0 (w:=w) hb;have hsz:=hb.size;apply hK.out;rw [hI];iterate 33 apply Exists.intro
  exact ⟨rfl,hC.below hb,hP.skip 18 rfl,(fun h=>(let ⟨g,e,a,b,c⟩:=f8 h;⟨g,e,(hcell g 0 b c).trans a,b,A9 c hsz⟩)),f9,fun _=>⟨_,rfl,(Ds.new W #[.int .i64 q] 3).cell 0,hC.size,Af⟩,f19,(fun h=>(let ⟨g,e,a,b,c⟩:=f25 h;⟨g,e,(hcell g 0 b c).trans a,b,A9 c hsz⟩)),f26,T.below hb,O.below hb⟩
 ·intro l a W hl hw hsh h K hK
  rw [hI] at h;iterate 33 obtain ⟨_,h⟩:=h
  obtain ⟨rfl,hC,hP,f8,f9,f18,h⟩:=h;obtain ⟨f19,f25,f26,T,O⟩:=h;obtain rfl:=hP.get 11 rfl (hw 13 Ab);obtain ⟨g,rfl,hg0,hgw,hgl⟩:=f18 (hw 18 Ab);rw [AU (by rfl)];have hst:l 32=false:=by
   cases hc:l 32 with
   | false=>rfl
   | true=>exact absurd (hsh 32 19 _ rfl (hc) Ab) (by simp [hl])
  simp only [hl,Co] at O;rw [hst] at T;simp only [Co] at T;refine F9 _ 3 (.int .i64 0) 8 Tryz.underlying22 FJ rfl _ _ rfl bv i xb (by go_simp) O.b g (.int .i64 q) (by go_simp) hg0 rfl Ad Ad (Bc hbase hC.size) ?_;intro v' W2 hr hg hv;have hr2:=hr.2;rcases hr2 with ⟨rfl,h0⟩ | ⟨g2,cap2,cur,rfl,-⟩
  ·omega
  have hcell:=I2 (w:=w) hg (fun k e=>(hO.out.b.lt k e).2);have hsz:=hg.size;have T2:=T.kept hg (T.not_row Ae O.b);have O2:=O.setB hg hr hv;apply hK.out;rw [hI];iterate 33 apply Exists.intro
  exact ⟨rfl,hC.grown hg (fun k e=>.inl (hot_b k e)),hP.skip 19 rfl,(fun h=>(let ⟨g,e,a,b,c⟩:=f8 h;⟨g,e,(hcell g 0 b c).trans a,b,A9 c hsz⟩)),f9,(fun h=>(let ⟨g,e,a,b,c⟩:=f18 h;⟨g,e,(hcell g 0 b c).trans a,b,A9 c hsz⟩)),fun _=>⟨g2,cap2,rfl⟩,(fun h=>(let ⟨g,e,a,b,c⟩:=f25 h;⟨g,e,(hcell g 0 b c).trans a,b,A9 c hsz⟩)),f26,(by rw [show Ex l 19 32=false from hst];exact T2),O2⟩
 ·intro l a W hl hw hsh h K hK
  rw [hI] at h;iterate 33 obtain ⟨_,h⟩:=h
  obtain ⟨rfl,hC,hP,f8,f9,f18,h⟩:=h;obtain ⟨f19,f25,f26,T,O⟩:=h;go_simp;apply hK.out;rw [hI];iterate 33 apply Exists.intro
  exact ⟨rfl,hC,hP.put 16 rfl rfl rfl,f8,f9,f18,f19,f25,f26,T,O⟩
 ·intro l a W hl hw hsh h K hK
  rw [hI] at h;iterate 33 obtain ⟨_,h⟩:=h
  obtain ⟨rfl,hC,hP,f8,f9,f18,h⟩:=h;obtain ⟨f19,f25,f26,T,O⟩:=h;obtain rfl:=hP.get 16 rfl (hw 20 Ab);go_simp;apply hK.out;rw [hI];iterate 33 apply Exists.intro
  exact ⟨rfl,hC,hP.put 17 rfl rfl rfl,f8,f9,f18,f19,f25,f26,T,O⟩
 ·intro l a W hl hw hsh h K hK
  rw [hI] at h;iterate 33 obtain ⟨_,h⟩:=h
  obtain ⟨rfl,hC,hP,f8,f9,f18,h⟩:=h;obtain ⟨f19,f25,f26,T,O⟩:=h;obtain rfl:=hP.get 17 rfl (hw 21 Ab);go_simp;apply hK.out;rw [hI];iterate 33 apply Exists.intro
  exact ⟨rfl,hC,hP.put 18 rfl rfl rfl,f8,f9,f18,f19,f25,f26,T,O⟩
 ·intro l a W hl hw hsh h K hK
  rw [hI] at h;iterate 33 obtain ⟨_,h⟩:=h
  obtain ⟨rfl,hC,hP,f8,f9,f18,h⟩:=h;obtain ⟨f19,f25,f26,T,O⟩:=h;obtain rfl:=hP.get 18 rfl (hw 22 Ab);have hst:l 35=false:=by
   cases hc:l 35 with
   | false=>rfl
   | true=>exact absurd (hsh 26 23 _ rfl (hsh 35 26 _ rfl (hc) Ab) Ab) (by simp [hl])
  have x1:W.cell? ⟨tb,3,none⟩=some (sv):=by have:=T.cell 3;rw [hst] at this;exact this
  go_simp;apply hK.out;rw [hI];iterate 33 apply Exists.intro
  exact ⟨rfl,hC,hP.put 19 rfl rfl rfl,f8,f9,f18,f19,f25,f26,T,O⟩
 ·intro l a W hl hw hsh h K hK
  rw [hI] at h;iterate 33 obtain ⟨_,h⟩:=h
  obtain ⟨rfl,hC,hP,f8,f9,f18,h⟩:=h;obtain ⟨f19,f25,f26,T,O⟩:=h;go_simp;apply hK.out;rw [hI];iterate 33 apply Exists.intro
  exact ⟨rfl,hC,hP.put 20 rfl rfl rfl,f8,f9,f18,f19,f25,f26,T,O⟩
 ·intro l a W hl hw hsh h K hK
  rw [hI] at h;iterate 33 obtain ⟨_,h⟩:=h
  obtain ⟨rfl,hC,hP,f8,f9,f18,h⟩:=h;obtain ⟨f19,f25,f26,T,O⟩:=h;obtain rfl:=hP.get 20 rfl (hw 24 Ab);go_simp;have hb:=(Below.refl W.heap.size W).alloc (Aa _) (.cells #[.int .i64 sg] 3);have hcell:=M0 (w:=w) hb;have hsz:=hb.size;apply hK.out;rw [hI];iterate 33 apply Exists.intro
  exact ⟨rfl,hC.below hb,hP.skip 25 rfl,(fun h=>(let ⟨g,e,a,b,c⟩:=f8 h;⟨g,e,(hcell g 0 b c).trans a,b,A9 c hsz⟩)),f9,(fun h=>(let ⟨g,e,a,b,c⟩:=f18 h;⟨g,e,(hcell g 0 b c).trans a,b,A9 c hsz⟩)),f19,fun _=>⟨_,rfl,(Ds.new W #[.int .i64 sg] 3).cell 0,hC.size,Af⟩,f26,T.below hb,O.below hb⟩
 ·intro l a W hl hw hsh h K hK
  rw [hI] at h;iterate 33 obtain ⟨_,h⟩:=h
  obtain ⟨rfl,hC,hP,f8,f9,f18,h⟩:=h;obtain ⟨f19,f25,f26,T,O⟩:=h;obtain rfl:=hP.get 19 rfl (hw 23 Ab);obtain ⟨g,rfl,hg0,hgw,hgl⟩:=f25 (hw 25 Ab);rw [AU (by rfl)];have hst:l 35=false:=by
   cases hc:l 35 with
   | false=>rfl
   | true=>exact absurd (hsh 35 26 _ rfl (hc) Ab) (by simp [hl])
  simp only [hl,Co] at O;rw [hst] at T;simp only [Co] at T;refine F9 _ 3 (.int .i64 0) 8 Tryz.underlying22 FJ rfl _ _ rfl sv i xs (by go_simp) O.s g (.int .i64 sg) (by go_simp) hg0 rfl Ad Ad (Bc hbase hC.size) ?_;intro v' W2 hr hg hv;have hr2:=hr.2;rcases hr2 with ⟨rfl,h0⟩ | ⟨g2,cap2,cur,rfl,-⟩
  ·omega
  have hcell:=I2 (w:=w) hg (fun k e=>(hO.out.s.lt k e).2);have hsz:=hg.size;have T2:=T.kept hg (T.not_row Ae O.s);have O2:=O.setS hg hr hv;apply hK.out;rw [hI];iterate 33 apply Exists.intro
  exact ⟨rfl,hC.grown hg (fun k e=>.inl (hot_s k e)),hP.skip 26 rfl,(fun h=>(let ⟨g,e,a,b,c⟩:=f8 h;⟨g,e,(hcell g 0 b c).trans a,b,A9 c hsz⟩)),f9,(fun h=>(let ⟨g,e,a,b,c⟩:=f18 h;⟨g,e,(hcell g 0 b c).trans a,b,A9 c hsz⟩)),f19,(fun h=>(let ⟨g,e,a,b,c⟩:=f25 h;⟨g,e,(hcell g 0 b c).trans a,b,A9 c hsz⟩)),fun _=>⟨g2,cap2,rfl⟩,(by rw [show Ex l 26 35=false from hst];exact T2),O2⟩
 ·intro l a W hl hw hsh h K hK
  rw [hI] at h;iterate 33 obtain ⟨_,h⟩:=h
  obtain ⟨rfl,hC,hP,f8,f9,f18,h⟩:=h;obtain ⟨f19,f25,f26,T,O⟩:=h;obtain rfl:=hP.get 0 rfl (hw 0 Ab);go_simp;apply hK.out;rw [hI];iterate 33 apply Exists.intro
  exact ⟨rfl,hC,hP.put 21 rfl rfl rfl,f8,f9,f18,f19,f25,f26,T,O⟩
 ·intro l a W hl hw hsh h K hK
  rw [hI] at h;iterate 33 obtain ⟨_,h⟩:=h
  obtain ⟨rfl,hC,hP,f8,f9,f18,h⟩:=h;obtain ⟨f19,f25,f26,T,O⟩:=h;obtain rfl:=hP.get 21 rfl (hw 27 Ab);go_simp;apply hK.out;rw [hI];iterate 33 apply Exists.intro
  exact ⟨rfl,hC,hP.put 22 rfl rfl rfl,f8,f9,f18,f19,f25,f26,T,O⟩
 ·intro l a W hl hw hsh h K hK
  rw [hI] at h;iterate 33 obtain ⟨_,h⟩:=h
  obtain ⟨rfl,hC,hP,f8,f9,f18,h⟩:=h;obtain ⟨f19,f25,f26,T,O⟩:=h;obtain ⟨g,cap,rfl⟩:=f9 (hw 9 Ab);obtain rfl:=hP.get 22 rfl (hw 28 Ab);have x1:=T.cell 0;have x2:=T.frozen 0;skip;go_simp;have hgr:=DE W tb 0 (.slice (some ⟨g,0,none⟩) (i+1) cap);have hcell:=I2 (w:=w) hgr (fun k e=>by cases e;exact hT.out.lt);have hsz:=hgr.size;have O2:=O.grown hgr (fun k e=>by cases e;exact ⟨fun e=>T.not_row Ae O.r e.symm,fun e=>T.not_row Ae O.b e.symm,fun e=>T.not_row Ae O.s e.symm⟩);apply hK.out;rw [hI];iterate 33 apply Exists.intro
  exact ⟨rfl,hC.setCell (by unfold Hm;simp) _,hP.skip 29 rfl,(fun h=>(let ⟨g,e,a,b,c⟩:=f8 h;⟨g,e,(hcell g 0 b c).trans a,b,A9 c hsz⟩)),f9,(fun h=>(let ⟨g,e,a,b,c⟩:=f18 h;⟨g,e,(hcell g 0 b c).trans a,b,A9 c hsz⟩)),f19,(fun h=>(let ⟨g,e,a,b,c⟩:=f25 h;⟨g,e,(hcell g 0 b c).trans a,b,A9 c hsz⟩)),f26,T.set 0 _,O2⟩
 ·intro l a W hl hw hsh h K hK
  rw [hI] at h;iterate 33 obtain ⟨_,h⟩:=h
  obtain ⟨rfl,hC,hP,f8,f9,f18,h⟩:=h;obtain ⟨f19,f25,f26,T,O⟩:=h;obtain rfl:=hP.get 1 rfl (hw 1 Ab);go_simp;apply hK.out;rw [hI];iterate 33 apply Exists.intro
  exact ⟨rfl,hC,hP.put 23 rfl rfl rfl,f8,f9,f18,f19,f25,f26,T,O⟩
 ·intro l a W hl hw hsh h K hK
  rw [hI] at h;iterate 33 obtain ⟨_,h⟩:=h
  obtain ⟨rfl,hC,hP,f8,f9,f18,h⟩:=h;obtain ⟨f19,f25,f26,T,O⟩:=h;obtain rfl:=hP.get 23 rfl (hw 30 Ab);go_simp;apply hK.out;rw [hI];iterate 33 apply Exists.intro
  exact ⟨rfl,hC,hP.put 24 rfl rfl rfl,f8,f9,f18,f19,f25,f26,T,O⟩
 ·intro l a W hl hw hsh h K hK
  rw [hI] at h;iterate 33 obtain ⟨_,h⟩:=h
  obtain ⟨rfl,hC,hP,f8,f9,f18,h⟩:=h;obtain ⟨f19,f25,f26,T,O⟩:=h;obtain ⟨g,cap,rfl⟩:=f19 (hw 19 Ab);obtain rfl:=hP.get 24 rfl (hw 31 Ab);have x1:=T.cell 2;have x2:=T.frozen 2;skip;go_simp;have hgr:=DE W tb 2 (.slice (some ⟨g,0,none⟩) (i+1) cap);have hcell:=I2 (w:=w) hgr (fun k e=>by cases e;exact hT.out.lt);have hsz:=hgr.size;have O2:=O.grown hgr (fun k e=>by cases e;exact ⟨fun e=>T.not_row Ae O.r e.symm,fun e=>T.not_row Ae O.b e.symm,fun e=>T.not_row Ae O.s e.symm⟩);apply hK.out;rw [hI];iterate 33 apply Exists.intro
  exact ⟨rfl,hC.setCell (by unfold Hm;simp) _,hP.skip 32 rfl,(fun h=>(let ⟨g,e,a,b,c⟩:=f8 h;⟨g,e,(hcell g 0 b c).trans a,b,A9 c hsz⟩)),f9,(fun h=>(let ⟨g,e,a,b,c⟩:=f18 h;⟨g,e,(hcell g 0 b c).trans a,b,A9 c hsz⟩)),f19,(fun h=>(let ⟨g,e,a,b,c⟩:=f25 h;⟨g,e,(hcell g 0 b c).trans a,b,A9 c hsz⟩)),f26,T.set 2 _,O2⟩
 ·intro l a W hl hw hsh h K hK
  rw [hI] at h;iterate 33 obtain ⟨_,h⟩:=h
  obtain ⟨rfl,hC,hP,f8,f9,f18,h⟩:=h;obtain ⟨f19,f25,f26,T,O⟩:=h;obtain rfl:=hP.get 2 rfl (hw 2 Ab);go_simp;apply hK.out;rw [hI];iterate 33 apply Exists.intro
  exact ⟨rfl,hC,hP.put 25 rfl rfl rfl,f8,f9,f18,f19,f25,f26,T,O⟩
 ·intro l a W hl hw hsh h K hK
  rw [hI] at h;iterate 33 obtain ⟨_,h⟩:=h
  obtain ⟨rfl,hC,hP,f8,f9,f18,h⟩:=h;obtain ⟨f19,f25,f26,T,O⟩:=h;obtain rfl:=hP.get 25 rfl (hw 33 Ab);go_simp;apply hK.out;rw [hI];iterate 33 apply Exists.intro
  exact ⟨rfl,hC,hP.put 26 rfl rfl rfl,f8,f9,f18,f19,f25,f26,T,O⟩
 ·intro l a W hl hw hsh h K hK
  rw [hI] at h;iterate 33 obtain ⟨_,h⟩:=h
  obtain ⟨rfl,hC,hP,f8,f9,f18,h⟩:=h;obtain ⟨f19,f25,f26,T,O⟩:=h;obtain ⟨g,cap,rfl⟩:=f26 (hw 26 Ab);obtain rfl:=hP.get 26 rfl (hw 34 Ab);have x1:=T.cell 3;have x2:=T.frozen 3;skip;go_simp;have hgr:=DE W tb 3 (.slice (some ⟨g,0,none⟩) (i+1) cap);have hcell:=I2 (w:=w) hgr (fun k e=>by cases e;exact hT.out.lt);have hsz:=hgr.size;have O2:=O.grown hgr (fun k e=>by cases e;exact ⟨fun e=>T.not_row Ae O.r e.symm,fun e=>T.not_row Ae O.b e.symm,fun e=>T.not_row Ae O.s e.symm⟩);apply hK.out;rw [hI];iterate 33 apply Exists.intro
  exact ⟨rfl,hC.setCell (by unfold Hm;simp) _,hP.skip 35 rfl,(fun h=>(let ⟨g,e,a,b,c⟩:=f8 h;⟨g,e,(hcell g 0 b c).trans a,b,A9 c hsz⟩)),f9,(fun h=>(let ⟨g,e,a,b,c⟩:=f18 h;⟨g,e,(hcell g 0 b c).trans a,b,A9 c hsz⟩)),f19,(fun h=>(let ⟨g,e,a,b,c⟩:=f25 h;⟨g,e,(hcell g 0 b c).trans a,b,A9 c hsz⟩)),f26,T.set 3 _,O2⟩
 ·intro a W hI'
  have h:=(hI _ _ _).1 hI';clear hI';iterate 33 obtain ⟨_,h⟩:=h
  obtain ⟨rfl,hC,hP,f8,f9,f18,h⟩:=h;obtain ⟨f19,f25,f26,T,O⟩:=h;clear f8;obtain ⟨gr,kr,rfl⟩:=f9 Ab;clear f18;obtain ⟨gb,kb,rfl⟩:=f19 Ab;clear f25;obtain ⟨gs,ks,rfl⟩:=f26 Ab;exact hQ.out _ _ _ _ _ _ _ _ _ _ _ _ _ _ _ _ _ _ _ _ _ _ _ _ _ _ _ _ _ _ _ _ _ gr kr gb kb gs ks _ hC T O
end
section
open Go.RowKit
open LnM (wd DL sm)
attribute [local go_sem] Oper.semAt_some
theorem I3 {W W':World} {base:Nat} {e:TypeId} {v:Value} {n:Nat} {xs:List Value} {S:List Nat} (h:W.ownsRow base e 1 v n xs) (ho:Dr S W W') (hS:∀ b,v.ownBlock=some b->b∉S):W'.ownsRow base e 1 v n xs:=by
 refine ⟨h.1,?_⟩;rcases h.2 with h0 | ⟨g,cap,cur,rfl,hb,hg,r⟩
 ·exact .inl h0
 ·exact .inr ⟨g,cap,cur,rfl,hb,(ho.block g (BO.1 hg).1 (hS g rfl)).trans hg,r⟩
def IO (R:Nat->Nat) (n i:Nat):List Value:=(List.range i).map fun j=>.slice (some ⟨R j,0,none⟩) n n
def Oa (cols i:Nat):List Value:=(List.range i).map fun j=>.int .i64 ((cols+j:Nat):Int)
def sgL (rows:List (List Int×Int)) (i:Nat):List Value:=(List.range i).map fun j=>.int .i64 (El rows j)
theorem QX (R:Nat->Nat) (n i rb:Nat) (h:R i=rb):IO R n i++[.slice (some ⟨rb,0,none⟩) n n]=IO R n (i+1):=by unfold IO;rw [AZ,Bg,<-h];rfl
theorem PM {R R':Nat->Nat} {n i:Nat} (h:∀ j,j<i->R j=R' j):IO R n i=IO R' n i:=List.map_congr_left fun j hj=>by rw [h j (AB.1 hj)]
theorem Tn (cols i:Nat):Oa cols i++[.int .i64 ((cols+i:Nat):Int)]=Oa cols (i+1):=by unfold Oa;rw [AZ,Bg];rfl
theorem UR (rows:List (List Int×Int)) (i:Nat):sgL rows i++[.int .i64 (El rows i)]=sgL rows (i+1):=by unfold sgL;rw [AZ,Bg];rfl
structure To (w W:World) (s:LnM.Sys) (rows:List (List Int×Int)) (xB tb cb n cols base i:Nat) (v:Value) (R:Nat->Nat) (rv bv sv:Value):Prop where
 below:Below w.heap.size w W
 xl:xB<W.heap.size
 x0:W.cell? ⟨xB,0,none⟩=some (.int .i64 cols)
 x1:W.cell? ⟨xB,1,none⟩=some v
 tbl:Ds W tb (Tk rv cb n bv sv 1 cols) 68
 cost:Ez W cb n (Ft s i)
 grid:∀ j,j<i->Ez W (R j) n (s.S j)
 own:Gf W W base rv bv sv rv i (IO R n i) bv i (Oa cols i) sv i (sgL rows i)
 ge:∀ j,j<i->base<=R j
 inj:∀ j k,j<i->k<i->R j=R k->j=k
 rc:∀ j,j<i->R j≠cb
 rt:∀ j,j<i->R j≠tb
 nl:i=0->rv=.slice none 0 0/\bv=.slice none 0 0/\sv=.slice none 0 0
theorem Gf.re {w0 W:World} {base:Nat} {rv bv sv cr cb cs:Value} {nr nb ns:Nat} {xr xb xs:List Value} (h:Gf w0 W base rv bv sv cr nr xr cb nb xb cs ns xs):Gf W W base cr cb cs cr nr xr cb nb xb cs ns xs :=
 ⟨h.r,h.b,h.s,Aa _,fun _ e=>.inl e,fun _ e=>.inl e,fun _ e=>.inl e,h.bs⟩
theorem Gf.only {w0 W W':World} {base:Nat} {rv bv sv cr cb cs:Value} {nr nb ns:Nat} {xr xb xs:List Value} (h:Gf w0 W base rv bv sv cr nr xr cb nb xb cs ns xs) {S:List Nat} (ho:Dr S W W')
  (hS:∀ b∈S,cr.ownBlock≠some b/\cb.ownBlock≠some b/\cs.ownBlock≠some b):Gf w0 W' base rv bv sv cr nr xr cb nb xb cs ns xs :=
 ⟨I3 h.r ho fun b e hb=>(hS b hb).1 e,I3 h.b ho fun b e hb=>(hS b hb).2.1 e,I3 h.s ho fun b e hb=>(hS b hb).2.2 e,Bc h.le ho.size,h.fr,h.fb,h.fs,h.bs⟩
theorem To.later {w W W':World} {s:LnM.Sys} {rows:List (List Int×Int)} {xB tb cb n cols base i:Nat} {v:Value} {R:Nat->Nat} {rv bv sv:Value} (h:To w W s rows xB tb cb n cols base i v R rv bv sv) (hb:Below W.heap.size W W'):To w W' s rows xB tb cb n cols base i v R rv bv sv :=
 ⟨Dn hb h.below (Aa _),A9 h.xl hb.size,(hb.cell (p:=⟨_,_,none⟩) h.xl).trans h.x0,(hb.cell (p:=⟨_,_,none⟩) h.xl).trans h.x1,h.tbl.below hb,h.cost.below hb,fun j hj=>(h.grid j hj).below hb,(h.own.below hb).re,h.ge,h.inj,h.rc,h.rt,h.nl⟩
theorem To.round {w W W1 W2 W3:World} {s:LnM.Sys} {rows:List (List Int×Int)} {xB tb cb n cols base i rb:Nat} {v:Value} {R:Nat->Nat} {rv bv sv rv' bv' sv':Value} (h:To w W s rows xB tb cb n cols base i v R rv bv sv)
  (ok:s.Ok) (hsn:s.n=cols) (hn:n=s.n+s.m+1) (him:i<s.m) (hbase:w.heap.size<=xB/\xB<base) (htb:base<=tb) (hcb:base<=cb) (htc:tb≠cb) (hrbt:rb≠tb) (hrbc:rb≠cb) (hrbR:∀ j,j<i->R j≠rb) (hrbo:rv.ownBlock≠some rb/\bv.ownBlock≠some rb/\sv.ownBlock≠some rb) (hrb:base<=rb)
  (o1:Dr [rb,cb] W W1) (r1:Ez W1 rb n (Fi s i (cols+1))) (c1:Ez W1 cb n (fun j=>Ft s i j-Fi s i (cols+1) j)) (o2:Dr [rb] W1 W2) (r2:Ez W2 rb n (DL (Fi s i (cols+1)) (cols+i) 1))
  (o3:Dr (Hm tb rv bv sv) W2 W3) (t3:Ds W3 tb (Tk rv' cb n bv' sv' 1 cols) 68)
  (w3:Gf W2 W3 base rv bv sv rv' (i+1) (IO R n i++[.slice (some ⟨rb,0,none⟩) n n]) bv' (i+1) (Oa cols i++[.int .i64 ((cols+i:Nat):Int)]) sv' (i+1) (sgL rows i++[.int .i64 (El rows i)])) :
  To w W3 s rows xB tb cb n cols base (i+1) v (DL R i rb) rv' bv' sv':=by
 have nr:=fun {f:Nat->Int} {b:Nat} {W':World} (hr:Ez W' b n f) (ho:Gf W' W' base rv bv sv rv i (IO R n i) bv i (Oa cols i) sv i (sgL rows i)) (hne:b≠tb)=>(show b∉Hm tb rv bv sv from by
  unfold Hm;simp only [Aw,Bz,Cn,not_or];exact ⟨hne,fun e=>hr.not_own ho.r Ae e,fun e=>hr.not_own ho.b Ae e,fun e=>hr.not_own ho.s Ae e⟩)
 have cown:=fun {W':World} (hr:Ez W' cb n (fun j=>Ft s i j-Fi s i (cols+1) j)) (ho:Gf W' W' base rv bv sv rv i (IO R n i) bv i (Oa cols i) sv i (sgL rows i))=>(⟨hr.not_own ho.r Ae,hr.not_own ho.b Ae,hr.not_own ho.s Ae⟩:rv.ownBlock≠some cb/\bv.ownBlock≠some cb/\sv.ownBlock≠some cb)
 have co0:rv.ownBlock≠some cb/\bv.ownBlock≠some cb/\sv.ownBlock≠some cb:=⟨h.cost.not_own h.own.r Ae,h.cost.not_own h.own.b Ae,h.cost.not_own h.own.s Ae⟩
 have ow1:=(h.own.only o1 (fun b hb=>by
  simp only [Aw,Bj,Bl] at hb;rcases hb with rfl | rfl
  ·exact hrbo
  ·exact co0)).re
 have ow2:=(ow1.only o2 (fun b hb=>by
  simp only [Aw,Bj,Bl] at hb;subst hb;exact hrbo)).re
 have g1:∀ j,j<i->Ez W1 (R j) n (s.S j):=fun j hj=>(h.grid j hj).only o1 (by simp only [Aw,Bj,Bl,not_or];exact ⟨hrbR j hj,h.rc j hj⟩)
 have g2:∀ j,j<i->Ez W2 (R j) n (s.S j):=fun j hj=>(g1 j hj).only o2 (by simpa using hrbR j hj)
 have g3:∀ j,j<i->Ez W3 (R j) n (s.S j):=fun j hj=>(g2 j hj).only o3 (nr (g2 j hj) ow2 (h.rt j hj))
 have c2:=c1.only o2 (by simpa using hrbc.symm)
 have c3:=c2.only o3 (nr c2 ow2 htc.symm)
 have r3:=r2.only o3 (nr r2 ow2 hrbt)
 have xne:xB≠rb/\xB≠cb/\xB≠tb:=⟨Ad,Ad,Ad⟩
 have xn3:xB∉Hm tb rv bv sv:=by
  unfold Hm;simp only [Aw,Bz,Cn,not_or];refine ⟨xne.2.2,fun e=>?_,fun e=>?_,fun e=>?_⟩
  ·have:=(ow2.r.lt xB e).1;omega
  ·have:=(ow2.b.lt xB e).1;omega
  ·have:=(ow2.s.lt xB e).1;omega
 have xl1:=A9 h.xl o1.size
 have xl2:=A9 xl1 o2.size
 have xc:=fun (k:Nat)=>((o3.cell (p:=⟨xB,k,none⟩) xl2 xn3).trans (o2.cell (p:=⟨xB,k,none⟩) xl1 (by simpa using xne.1))).trans (o1.cell (p:=⟨xB,k,none⟩) h.xl (by simp only [Aw,Bj,Bl,not_or];exact ⟨xne.1,xne.2.1⟩))
 refine ⟨?_,A9 xl2 o3.size,(xc 0).trans h.x0,(xc 1).trans h.x1,t3,c3.congr fun j hj=>?_,fun j hj=>?_,?_,fun j hj=>?_,fun j k hj hk e=>?_,fun j hj=>?_,fun j hj=>?_,fun e=>absurd e Ad⟩
 ·have hs0:=h.below.size
  refine ((h.below.trans (o1.toBelow hs0 ?_)).trans (o2.toBelow (Bc hs0 o1.size) ?_)).trans (o3.toBelow (Bc hs0 (Bc o1.size o2.size)) ?_)
  ·intro b hb
   simp only [Aw,Bj,Bl] at hb;omega
  ·intro b hb
   simp only [Aw,Bj,Bl] at hb;omega
  ·intro b hb
   unfold Hm at hb;simp only [Aw,Bz,Cn] at hb;rcases hb with rfl | e | e | e
   ·omega
   ·have:=(ow2.r.lt b e).1;omega
   ·have:=(ow2.b.lt b e).1;omega
   ·have:=(ow2.s.lt b e).1;omega
 ·show Ft s i j-Fi s i (cols+1) j=_
  rw [<-hsn];exact QW
 ·by_cases e:j=i
  ·subst e
   rw [LnM.upd_same];exact r3.congr fun k hk=>by rw [<-hsn];exact Tl ok him Ad
  ·rw [LnM.upd_ne _ _ e];exact g3 j Ad
 ·have hw:=w3.re
  rw [PM (R':=DL R i rb) (fun j hj=>(LnM.upd_ne _ _ Ad).symm),QX (DL R i rb) n i rb (LnM.upd_same _ _ _),Tn,UR] at hw;exact hw
 ·by_cases e:j=i
  ·subst e;rw [LnM.upd_same];exact hrb
  ·rw [LnM.upd_ne _ _ e];exact h.ge j Ad
 ·by_cases ej:j=i
  ·by_cases ek:k=i
   ·omega
   ·rw [ej,LnM.upd_same,LnM.upd_ne _ _ ek] at e
    exact absurd e.symm (hrbR k Ad)
  ·by_cases ek:k=i
   ·rw [ek,LnM.upd_same,LnM.upd_ne _ _ ej] at e
    exact absurd e (hrbR j Ad)
   ·rw [LnM.upd_ne _ _ ej,LnM.upd_ne _ _ ek] at e
    exact h.inj j k Ad Ad e
 ·by_cases e:j=i
  ·subst e;rw [LnM.upd_same];exact hrbc
  ·rw [LnM.upd_ne _ _ e];exact h.rc j Ad
 ·by_cases e:j=i
  ·subst e;rw [LnM.upd_same];exact hrbt
  ·rw [LnM.upd_ne _ _ e];exact h.rt j Ad
theorem M4 {W:World} {base:Nat} {e:TypeId} {v:Value} {n:Nat} {xs:List Value} (h:W.ownsRow base e 1 v n xs) (h0:0<n):∃ b c,v=.slice (some ⟨b,0,none⟩) n c/\v.ownBlock=some b/\base<=b/\b<W.heap.size/\n<=c/\∀ j u,xs[j]? = some u->W.cell? ⟨b,j,none⟩=some u/\W.frozen? ⟨b,j,none⟩=false:=by
 have h':=h;rcases h.2 with ⟨rfl,rfl⟩ | ⟨g,cap,cur,rfl,hb,hg,hn,_⟩
 ·omega
 ·refine ⟨g,cap,rfl,rfl,hb,(BO.1 hg).1,hn,fun j u hj=>⟨?_,by simp [World.frozen?,hg]⟩⟩
  have:=h'.cells (g:=g) rfl j u hj;rwa [Es,BN] at this
theorem tbc_den {W:World} {tb:Nat} {rv bv sv:Value} {cb n:Nat} {d k:Int} {t:TypeId} (h:Ds W tb (Tk rv cb n bv sv d k) t):W.rangeAt tb 4 (wl (wd d))/\W.there tb 4 12:=by
 have hc:∀ j,j<12->(Tk rv cb n bv sv d k)[4+j]? = some (.int .u64 (wd d j)):=fun j hj=>by
  match j,hj with
  | 0,_=>rfl
  | 1,_=>rfl
  | 2,_=>rfl
  | 3,_=>rfl
  | 4,_=>rfl
  | 5,_=>rfl
  | 6,_=>rfl
  | 7,_=>rfl
  | 8,_=>rfl
  | 9,_=>rfl
  | 10,_=>rfl
  | 11,_=>rfl
 refine ⟨fun j v hv=>?_,fun j hj=>⟨?_,h.frozen _⟩⟩
 ·have hj:j<12:=by have:=(BR.1 hv).1;rwa [Kz] at this
  rw [h.cell,hc j hj,<-hv];have:=FC (wd d) hj;rw [<-Ej,Ck] at this;exact this.symm
 ·rw [h.cell,hc j hj];rfl
theorem To.table {w W:World} {s:LnM.Sys} {rows:List (List Int×Int)} {xB tb cb n cols base:Nat} {v:Value} {R:Nat->Nat} {rv bv sv:Value} (h:To w W s rows xB tb cb n cols base s.m v R rv bv sv) (ok:s.Ok) (hsn:s.n=cols) (hn:n=s.n+s.m+1)
  (hb:w.heap.size<=base) (hbW:base<=W.heap.size) (htb:base<=tb) (hcb:base<=cb) (htc:tb≠cb):∃ t:Tb,t.tb=tb/\t.m=s.m/\t.n=n/\t.k=cols/\t.Dis w.heap.size/\K4 W t (GH s s.B0) s.B0 (El rows) 1:=by
 have key:∃ xb cx bb cB sb cS,rv=sl s.m xb cx/\bv=sl s.m bb cB/\sv=sl s.m sb cS/\base<=xb/\base<=bb/\base<=sb/\(0<s.m->xb<W.heap.size/\bb<W.heap.size/\sb<W.heap.size)/\s.m<=cx/\xb≠tb/\bb≠tb/\sb≠tb/\xb≠bb/\bb≠sb /\
   xb≠cb/\bb≠cb/\sb≠cb/\(∀ j,j<s.m->R j≠xb/\R j≠bb/\R j≠sb)/\(∀ j,j<s.m->W.cell? ⟨xb,j,none⟩=some (.slice (some ⟨R j,0,none⟩) n n)/\(W.cell? ⟨bb,j,none⟩=some (.int .i64 ((cols+j:Nat):Int))/\W.frozen? ⟨bb,j,none⟩=false)/\W.cell? ⟨sb,j,none⟩=some (.int .i64 (El rows j))):=by
  have htl:=h.tbl.lt
  have hcl:=h.cost.row.lt
  by_cases hm:s.m=0
  ·obtain ⟨rfl,rfl,rfl⟩:=h.nl hm
   refine ⟨W.heap.size,0,W.heap.size+1,0,W.heap.size+2,0,?_,?_,?_,hbW,Ad,Ad,fun h0=>by omega,Ad,Ad,Ad,Ad,Ad,Ad,Ad,Ad,Ad,fun j hj=>by omega,fun j hj=>by omega⟩ <;> unfold sl <;> rw [hm] <;> rfl
  ·obtain ⟨xb,cx,er,obr,hxb,hxl,hxc,hxx⟩:=M4 h.own.r Ad
   obtain ⟨bb,cB,eb,obb,hbb,hbl,hbc,hbx⟩:=M4 h.own.b Ad;obtain ⟨sb,cS,es,obs,hsb,hsl,hsc,hsx⟩:=M4 h.own.s Ad;have tr:=fun e=>h.tbl.not_row Ae h.own.r (e:some tb=rv.ownBlock)
   have tB:=fun e=>h.tbl.not_row Ae h.own.b (e:some tb=bv.ownBlock)
   have tS:=fun e=>h.tbl.not_row Ae h.own.s (e:some tb=sv.ownBlock)
   have cr:=h.cost.not_own h.own.r Ae;have cB':=h.cost.not_own h.own.b Ae;have cS':=h.cost.not_own h.own.s Ae;refine ⟨xb,cx,bb,cB,sb,cS,by rw [Gq Ad];exact er,by rw [Gq Ad];exact eb,by rw [Gq Ad];exact es,hxb,hbb,hsb,fun _=>⟨hxl,hbl,hsl⟩,hxc,?_,?_,?_,?_,?_,?_,?_,?_,fun j hj=>⟨?_,?_,?_⟩,fun j hj=>⟨(hxx j _ ?_).1,hbx j _ ?_,(hsx j _ ?_).1⟩⟩
   ·rintro rfl;exact tr obr.symm
   ·rintro rfl;exact tB obb.symm
   ·rintro rfl;exact tS obs.symm
   ·rintro rfl;exact HQ h.own.r h.own.b IM xb obr obb
   ·rintro rfl;exact h.own.bs bb obb obs
   ·rintro rfl;exact cr obr
   ·rintro rfl;exact cB' obb
   ·rintro rfl;exact cS' obs
   ·rintro e;exact (h.grid j hj).not_own h.own.r Ae (by rw [e];exact obr)
   ·rintro e;exact (h.grid j hj).not_own h.own.b Ae (by rw [e];exact obb)
   ·rintro e;exact (h.grid j hj).not_own h.own.s Ae (by rw [e];exact obs)
   ·unfold IO;rw [AQ,AR hj];rfl
   ·unfold Oa;rw [AQ,AR hj];rfl
   ·unfold sgL;rw [AQ,AR hj];rfl
 obtain ⟨xb,cx,bb,cB,sb,cS,rfl,rfl,rfl,k1,k2,k3,k4,k5,k6,k7,k8,k9,k10,k11,k12,k13,k14,k15⟩:=key
 obtain ⟨d1,d2⟩:=tbc_den h.tbl
 have hup:∀ j,j<s.m->DL R s.m cb j=R j:=fun j hj=>LnM.upd_ne _ _ Ad
 refine ⟨⟨tb,xb,bb,sb,DL R s.m cb,s.m,n,cols,cx,cB,cS⟩,rfl,rfl,rfl,rfl,?_,?_⟩
 ·have ne:=fun (i:Nat) (hi:i<s.m+1) (x:Nat) (h1:cb≠x) (h2:∀ j,j<s.m->R j≠x)=>(show DL R s.m cb i≠x from by
   by_cases e:i=s.m
   ·subst e;rw [LnM.upd_same];exact h1
   ·rw [LnM.upd_ne _ _ e];exact h2 i Ad)
  refine ⟨fun i j hi hj e=>?_,fun i hi=>ne i hi tb Ad h.rt,fun i hi=>ne i hi xb k11.symm (fun j hj=>(k14 j hj).1),fun i hi=>ne i hi bb k12.symm (fun j hj=>(k14 j hj).2.1),fun i hi=>ne i hi sb k13.symm (fun j hj=>(k14 j hj).2.2),k6.symm,k7.symm,k8.symm,k9,k10,fun i hi=>?_,by show w.heap.size<=tb;omega,by show w.heap.size<=xb;omega,by show w.heap.size<=bb;omega,by show w.heap.size<=sb;omega⟩
  ·dsimp only at hi hj e
   by_cases ei:i=s.m
   ·by_cases ej:j=s.m
    ·omega
    ·rw [ei,LnM.upd_same,LnM.upd_ne _ _ ej] at e
     exact absurd e.symm (h.rc j Ad)
   ·by_cases ej:j=s.m
    ·rw [ej,LnM.upd_same,LnM.upd_ne _ _ ei] at e
     exact absurd e (h.rc i Ad)
    ·rw [LnM.upd_ne _ _ ei,LnM.upd_ne _ _ ej] at e
     exact h.inj i j Ad Ad e
  ·show w.heap.size<=DL R s.m cb i
   by_cases e:i=s.m
   ·subst e;rw [LnM.upd_same];omega
   ·rw [LnM.upd_ne _ _ e];have:=h.ge i (by dsimp only at hi;omega);omega
 ·refine ⟨h.tbl.lt,fun hm=>(k4 hm).1,fun hm=>(k4 hm).2.1,fun hm=>(k4 hm).2.2,h.tbl.cell 0,?_,h.tbl.cell 2,h.tbl.cell 3,d1,d2,h.tbl.cell 16,k5,fun i hi=>?_,⟨fun i hi=>?_⟩,fun i hi=>?_,fun i hi=>(k15 i hi).2.2⟩
  ·show W.cell? ⟨tb,1,none⟩=some (.slice (some ⟨DL R s.m cb s.m,0,none⟩) n n)
   rw [LnM.upd_same];exact h.tbl.cell 1
  ·show W.cell? ⟨xb,i,none⟩=some (.slice (some ⟨DL R s.m cb i,0,none⟩) n n)
   rw [hup i hi];exact (k15 i hi).1
  ·show G8 W (DL R s.m cb i) n (GH s s.B0 i)
   by_cases e:i=s.m
   ·subst e
    rw [LnM.upd_same];exact h.cost.row.congr fun j hj=>by unfold GH;rw [AP Ad];exact Tm ok Ad
   ·have hi':i<s.m:=by dsimp only at hi;omega
    rw [hup i hi'];exact (h.grid i hi').row.congr fun j hj=>by unfold GH;rw [AU hi',LnM.T_B0 ok hi']
  ·have:=(k15 i hi).2.1
   rwa [<-hsn] at this
theorem UT {Q:Exit->Act->World->Prop} {u0 u1 u2 u3 u4 u6 u7 u8 u9 u10 u11 u12 u13 u14 u15 u16 u17 u18 u19 u20 u21 u22 u23 u24 u25 u26 u27 u28 u29 u30 u31 u32 u33 u34 u35 u36 u37 u38 u39 u40 u41 u42 u43 u44 u45 u46 u47 u48 u49 u50 u51 u52 u53 u54 u55 u56 u57 u58 u59 u60 u61 u62 u63 u64 u65 u66 u67 u68 u69 u70 u71 u72 u73 u74 u75 u76 u77 u78 u79 u80 u81 u82 u83 u84 u85 u86 u87 u88 u89 u90 u91 u92 u93 u94 u95 u96 u97 u98 u99 u100 u101 u102 u103 u104 u105 u106 u107 u108 u109 u110 u111 u112 u113 u114 u115 u116 u117 u118 u119 u120 u121 u122 u123 u124 u125 u126 u127 u128 u129 u130 u131 u132 u133 u134 u135:Value} {ac:Option Addr} {cols cp xE:Nat} {val:Int} {coef:List Int} {wb w:World} {L:Ei} (hS:BL wb L w) (hcell:Hid (∀ W,BL wb L W->W.cell? ⟨xE,0,none⟩=some (.slice ac cols cp)/\W.cell? ⟨xE,1,none⟩=some (.int .i64 val)))
  (hco:Hid (IE wb (.slice ac cols cp) coef)) (hlen:Hid (coef.length=cols)) (hc1:cols<=100000) {ops:Array Oper} (ho:Dt Tryz.f30.body 9=some ops)
  (hQ:∀ (v41 v42 v43 v44 v45 v46 v47 v48 v49 v50 v51 v52:Value) (g cap':Nat) (W':World),BL wb L W'->Sl W' (.slice (some ⟨g,0,none⟩) (cols+1) cap') (coef++[val])->wb.heap.size<=g->Q .normal { tmps:=List.toArray (u0::u1::u2::u3::u4::.pointer (some ⟨xE,0,none⟩)::u6::u7::u8::u9::u10::u11::u12::u13::u14::u15::u16::u17::u18::u19::u20::u21::u22::u23::u24::u25::u26::u27::u28::u29::u30::u31::u32::u33::u34::u35::u36::u37::u38::u39::u40::v41::v42::v43::v44::v45::v46::v47::v48::v49::v50::v51::v52::.slice (some ⟨g,0,none⟩) (cols+1) cap'::.int .i64 ((cols+1:Nat):Int)::.int .i64 0::u56::u57::u58::u59::u60::u61::u62::u63::u64::u65::u66::u67::u68::u69::u70::u71::u72::u73::u74::u75::u76::u77::u78::u79::u80::u81::u82::u83::u84::u85::u86::u87::u88::u89::u90::u91::u92::u93::u94::u95::u96::u97::u98::u99::u100::u101::u102::u103::u104::u105::u106::u107::u108::u109::u110::u111::u112::u113::u114::u115::u116::u117::u118::u119::u120::u121::u122::u123::u124::u125::u126::u127::u128::u129::u130::u131::u132::u133::u134::u135::[]),defers:=[] } W') :
  (Code.region 9 ops true).wp Tryz.prog Q { tmps:=List.toArray (u0::u1::u2::u3::u4::.pointer (some ⟨xE,0,none⟩)::u6::u7::u8::u9::u10::u11::u12::u13::u14::u15::u16::u17::u18::u19::u20::u21::u22::u23::u24::u25::u26::u27::u28::u29::u30::u31::u32::u33::u34::u35::u36::u37::u38::u39::u40::u41::u42::u43::u44::u45::u46::u47::u48::u49::u50::u51::u52::u53::u54::u55::u56::u57::u58::u59::u60::u61::u62::u63::u64::u65::u66::u67::u68::u69::u70::u71::u72::u73::u74::u75::u76::u77::u78::u79::u80::u81::u82::u83::u84::u85::u86::u87::u88::u89::u90::u91::u92::u93::u94::u95::u96::u97::u98::u99::u100::u101::u102::u103::u104::u105::u106::u107::u108::u109::u110::u111::u112::u113::u114::u115::u116::u117::u118::u119::u120::u121::u122::u123::u124::u125::u126::u127::u128::u129::u130::u131::u132::u133::u134::u135::[]),defers:=[] } w:=by
 cases ac with
 | none =>
  rcases hco.out with ⟨⟨_,e⟩,e2⟩ | ⟨b,off,cap,e,h1,h2,h3,h4⟩
  ·cases e
   exact UP hS hcell hco hlen ho hQ
  ·cases e
 | some aq =>
  have hcp:(cols:Int)<=cp:=by
   rcases hco.out with ⟨⟨_,e⟩,e2⟩ | ⟨b,off,cap,e,h1,h2,h3,h4⟩
   ·cases e;omega
   ·cases e;omega
  exact open_r9 hS hcell hco hlen hcp hc1 Ad ho hQ
theorem To.mid {w W W1 W2:World} {s:LnM.Sys} {rows:List (List Int×Int)} {xB tb cb n cols base i rb:Nat} {v:Value} {R:Nat->Nat} {rv bv sv:Value} (h:To w W s rows xB tb cb n cols base i v R rv bv sv)
  (hbase:xB<base) (htb:base<=tb) (hcb:base<=cb) (htc:tb≠cb) (hrbt:rb≠tb) (hrbo:rv.ownBlock≠some rb/\bv.ownBlock≠some rb/\sv.ownBlock≠some rb) (hrb:base<=rb) (o1:Dr [rb,cb] W W1) (o2:Dr [rb] W1 W2) :
  (xB<W2.heap.size/\W2.cell? ⟨xB,0,none⟩=some (.int .i64 cols)/\xB∉Hm tb rv bv sv)/\Ds W2 tb (Tk rv cb n bv sv 1 cols) 68/\Gf W2 W2 base rv bv sv rv i (IO R n i) bv i (Oa cols i) sv i (sgL rows i):=by
 have co0:rv.ownBlock≠some cb/\bv.ownBlock≠some cb/\sv.ownBlock≠some cb:=⟨h.cost.not_own h.own.r Ae,h.cost.not_own h.own.b Ae,h.cost.not_own h.own.s Ae⟩
 have ow1:=(h.own.only o1 (fun b hb=>by
  simp only [Aw,Bj,Bl] at hb;rcases hb with rfl | rfl
  ·exact hrbo
  ·exact co0)).re
 have ow2:=(ow1.only o2 (fun b hb=>by
  simp only [Aw,Bj,Bl] at hb;subst hb;exact hrbo)).re
 have xne:xB≠rb/\xB≠cb/\xB≠tb:=⟨Ad,Ad,Ad⟩
 have xl1:=A9 h.xl o1.size
 have tl1:=A9 h.tbl.lt o1.size
 refine ⟨⟨A9 xl1 o2.size,((o2.cell (p:=⟨xB,0,none⟩) xl1 (by simpa using xne.1)).trans (o1.cell (p:=⟨xB,0,none⟩) h.xl (by simp only [Aw,Bj,Bl,not_or];exact ⟨xne.1,xne.2.1⟩))).trans h.x0,?_⟩,?_,ow2⟩
 ·unfold Hm
  simp only [Aw,Bz,Cn,not_or];refine ⟨xne.2.2,fun e=>?_,fun e=>?_,fun e=>?_⟩
  ·have:=(ow2.r.lt xB e).1;omega
  ·have:=(ow2.b.lt xB e).1;omega
  ·have:=(ow2.s.lt xB e).1;omega
 ·exact (o2.block tb tl1 (by simpa using hrbt.symm)).trans ((o1.block tb h.tbl.lt (by simp only [Aw,Bj,Bl,not_or];exact ⟨hrbt.symm,htc⟩)).trans h.tbl)
theorem gi_last (l:List Int) (x:Int):gi (l++[x]) l.length=x:=by simp [gi]
theorem gi_init {l:List Int} {c:Nat} (h:c<l.length) (x:Int):gi (l++[x]) c=gi l c:=by simp [gi,BV h]
theorem UU {cols:Nat} {rows:List (List Int×Int)} {i:Nat} (hl:(Dl rows i).1.length=cols) {c:Nat} (hc:c<=cols):El rows i*gi ((Dl rows i).1++[(Dl rows i).2]) c=(DZ cols rows).S i (Li (DZ cols rows) c):=by
 show _=(DZ cols rows).S i (if c=cols then cols+rows.length else c);by_cases e:c=cols
 ·rw [AU e,e,<-hl,gi_last,hl]
  show _=(if cols+rows.length<cols then _ else if cols+rows.length<cols+rows.length then _ else _);rw [AP Ad,AP Ad]
 ·rw [AP e,gi_init Ad]
  show _=(if c<cols then _ else _);rw [AU Ad]
theorem K6 (rows:List (List Int×Int)) (i:Nat):El rows i=1∨El rows i=-1:=by unfold El;split <;> simp
theorem PN {l:List Int} {B:Int} (hB:0<=B) (h:∀ x∈l,-B<=x/\x<=B) (c:Nat):-B<=gi l c/\gi l c<=B:=by
 by_cases hc:c<l.length
 ·rw [FE hc];exact h _ (AN hc)
 ·rw [Gl Ad];omega
theorem UV (cols:Nat) (rows:List (List Int×Int)) (v:Value) (w:World) (h:EX w v rows) (hc:cols<=1000) (hm:rows.length<=1000) (hlen:∀ r∈rows,r.1.length=cols)
  (hbd:∀ r∈rows,(∀ x∈r.1,-1000000000<=x/\x<=1000000000)/\-1000000000<=r.2/\r.2<=1000000000) :
  Calls Tryz.prog 30 #[.agg #[.int .i64 cols,v]] w fun e w'=>∃ t:Tb,e=.returned (.pointer (some ⟨t.tb,0,none⟩))/\t.m=rows.length/\t.n=cols+rows.length+1/\t.k=cols/\t.Dis w.heap.size/\K4 w' t (GH (DZ cols rows) (DZ cols rows).B0) (DZ cols rows).B0 (El rows) 1/\Below w.heap.size w w':=by
 obtain ⟨ad,cap,rfl⟩:=h.shape
 have H:=A8 h
 obtain ⟨s,hs⟩:∃ s,s=DZ cols rows:=⟨_,rfl⟩
 have ok:Hid s.Ok:=A8 (by rw [hs];exact QT cols rows)
 have hsn:Hid (s.n=cols):=A8 (by rw [hs];rfl)
 have hsm:Hid (s.m=rows.length):=A8 (by rw [hs];rfl)
 have hrow:Hid (∀ i,i<rows.length->rows[i]? = some (Dl rows i)/\(Dl rows i).1.length=cols/\∀ c,c<=cols->IntKind.i64.wrap (El rows i*gi ((Dl rows i).1++[(Dl rows i).2]) c)=s.S i (Li s c)/\Dy (s.S i (Li s c))):=A8 (fun i hi=>by
  have e:rows[i]? = some (Dl rows i):=by unfold Dl;rw [Ax hi];rfl
  have hmem:Dl rows i∈rows:=Ay e;refine ⟨e,hlen _ hmem,fun c hcc=>?_⟩;rw [hs,<-UU (hlen _ hmem) hcc];obtain ⟨b1,b2⟩:=hbd _ hmem;have b3:=PN (B:=1000000000) Ae (l:=(Dl rows i).1++[(Dl rows i).2]) (fun x hx=>by
   rcases Bz.1 hx with h1 | h1
   ·exact b1 x h1
   ·rw [B3.1 h1];exact b2) c
  have:-1000000000<=El rows i*gi ((Dl rows i).1++[(Dl rows i).2]) c/\El rows i*gi ((Dl rows i).1++[(Dl rows i).2]) c<=1000000000:=by
   rcases K6 rows i with e | e <;> rw [e] <;> omega
  exact ⟨BT _ Ad,by unfold Dy;omega⟩)
 obtain ⟨m,hmm⟩:∃ m,m=rows.length:=⟨_,rfl⟩
 obtain ⟨n,hn⟩:∃ n,n=cols+m+1:=⟨_,rfl⟩
 rw [<-hmm] at hm hsm hrow |-
 have hnn:Hid (n=s.n+s.m+1):=A8 (by rw [hsn.out,hsm.out];exact hn)
 have hn1:n<=100000:=by omega
 rw [<-hs]
 have hs':=A8 hs
 replace hmm:=A8 hmm
 replace hn:=A8 hn
 clear h hlen hbd hs
 obtain ⟨V1,hV,S1,zv1⟩:=(BL.start w).add' #[.int .i64 cols,.slice ad m cap] 27
 have zz:=A8 zv1
 clear zv1
 go_enter Tryz.func30,Tryz.ntmps30
 go_upto_region 1 with fail
 rw [<-hV]
 clear hV
 refine open_r1 (wb:=V1) (cols:=cols) (m:=m) (n:=n) ⟨Below.refl _ _,S1.blks⟩ (A8 (fun W hW=>hW.c2 w.heap.size _ _ _ Ah)) hn hn1 Ab ?_
 intro v11 v12 v13 v14 v15 v16 v17 v18 v19 v20 v21 v22 v23 gc gt W1 hS1 hr hk hge hlt
 have O0:To w W1 s rows w.heap.size gt gc n cols (w.heap.size+1) 0 (.slice ad m cap) (fun _=>0) (.slice none 0 0) (.slice none 0 0) (.slice none 0 0) :=
  ⟨S1.below.trans (hS1.below.mono S1.below.size),(hS1.lts _ Ah),(hS1.c2 w.heap.size _ _ _ Ah).1,(hS1.c2 w.heap.size _ _ _ Ah).2,hk,hr.congr (fun j _=>(QU s j).symm),fun j hj=>absurd hj Ad,
   ⟨World.ownsRow_nil _ _ _ _,World.ownsRow_nil _ _ _ _,World.ownsRow_nil _ _ _ _,Aa _,fun _ e=>.inl e,fun _ e=>.inl e,fun _ e=>.inl e,fun g e=>by cases e⟩,fun j hj=>absurd hj Ad,fun j k hj=>absurd hj Ad,fun j hj=>absurd hj Ad,fun j hj=>absurd hj Ad,fun _=>⟨rfl,rfl,rfl⟩⟩
 have hgc:w.heap.size+1<=gc:=by rw [<-zz.out];exact hge
 have x1:=O0.x1
 replace O0:=A8 O0
 clear hS1 hr hk hge S1
 go_wp2_with fail
 clear x1
 go_loopw [27] (fun o wr=>∃ (i:Nat) (R:Nat->Nat) (rv bv sv:Value),o=.int .i64 i/\i<=m/\Hid (To w wr s rows w.heap.size gt gc n cols (w.heap.size+1) i (.slice ad m cap) R rv bv sv)) (fun o _=>m-(intOf o).toNat)
 case atStart=>exact ⟨0,_,_,_,_,rfl,Ad,O0⟩
 case round =>
  clear O0;obtain ⟨i,R,rv,bv,sv,rfl,him,O⟩:=hrel;by_cases hi:i<m;case neg =>
   have hi':¬ (i:Int)<m:=by omega
   obtain rfl:i=m:=by omega
   go_wp2;go_ret;have e:s.m=i:=hsm.out;obtain ⟨t,t1,t2,t3,t4,t5,t6⟩:=To.table (e ▸ O.out) ok.out hsn.out (by rw [e];exact hnn.out.trans (by rw [e])) (Cr _) (Bc hgc (Nat.le_of_lt O.out.cost.row.lt)) Ad hgc Ad;exact ⟨t,by rw [t1];rfl,by rw [t2];exact hsm.out,by rw [t3];exact hn.out,t4,t5,t6,O.out.below⟩
  case pos =>
   have hi':(i:Int)<m:=by omega
   have hi0:(0:Int)<=i:=by omega
   obtain ⟨hri,hrl,hre⟩:=hrow.out i hi;obtain ⟨b,off,had,h3,h4⟩:∃ b off,ad=some ⟨b,off,none⟩/\b<w.heap.size/\CEq w b (off+i*2) (Dl rows i):=by
    rcases H.out with ⟨e,e2⟩ | ⟨b,off,cap',e,h1,h2,h3,h4⟩
    ·rw [e2] at hri;cases hri
    ·cases e;exact ⟨b,off,rfl,h3,h4 i _ hri⟩
   subst had;obtain ⟨cv,hcv,hcs,hval⟩:=h4;obtain ⟨ac,cp,rfl⟩:=hcs.shape;rw [hrl] at hcv hcs;have y0:=(O.out.below.cell (p:=⟨b,off+i*2,none⟩) h3).trans hcv;have y1:=(O.out.below.cell (p:=⟨b,off+i*2+1,none⟩) h3).trans hval;obtain ⟨sg,hsg⟩:∃ sg,sg=El rows i:=⟨_,rfl⟩;have hsgv:Hid (sg=if (Dl rows i).2<0 then -1 else 1):=A8 hsg;rw [<-hsg] at hre;obtain ⟨coef,hcoef⟩:∃ l,l=(Dl rows i).1:=⟨_,rfl⟩;obtain ⟨val,hvale⟩:∃ x,x=(Dl rows i).2:=⟨_,rfl⟩;rw [<-hcoef,<-hvale] at hre;rw [<-hcoef] at hcs hrl;rw [<-hvale] at y1 hsgv;replace hre:=A8 hre;replace hrl:=A8 hrl;have hcsW:=A8 (hcs.below O.out.below);replace hsg:=A8 hsg;clear hri h3 hcv hcs hval hcoef hvale;go_upto_region 5 with fail;clear y0 y1;obtain ⟨W5,hW5,S5,z5⟩:=(BL.start wr).add' #[.slice ac cols cp,.int .i64 val] 57;rw [<-hW5];have hE0:=S5.c2 wr.heap.size _ _ _ Ah;obtain ⟨y0,y1⟩:=hE0;have hb5:Below wr.heap.size wr W5:=S5.below;have O5:=A8 (O.out.later hb5);replace hcsW:=A8 (hcsW.out.below hb5);have kE:=A8 (S5.blks _ Ah);replace z5:=A8 z5;clear hW5 S5;go_upto_if 34 with (fail);go_cut [6] (fun sx wx=>sx=.int .i64 sg/\W5=wx);case first =>
    by_cases hneg:val<0
    ·have e1:sg=-1:=by rw [hsgv.out,AU hneg]
     go_wp2_with fail;go_meet;exact ⟨by rw [e1],rfl⟩
    ·have e1:sg=1:=by rw [hsgv.out,AP hneg]
     go_wp2_with fail;go_meet;exact ⟨by rw [e1],rfl⟩
   case rest =>
    obtain ⟨rfl,rfl⟩:=hcut;have x8:W5.cell? ⟨gt,1,none⟩=some (.slice (some ⟨gc,0,none⟩) n n):=O5.out.tbl.cell 1;have gtl:gt<W5.heap.size:=O5.out.tbl.lt;have gcl:gc<W5.heap.size:=O5.out.cost.row.lt;have xl5:w.heap.size+1<W5.heap.size:=by have:=O.out.xl;have:=z5.out;omega
    obtain ⟨W8,hmk,hrow8,hty8,hb8⟩:=K5 W5 n Ad;have R8:=A8 (⟨hrow8,hty8⟩:Ez W8 W5.heap.size n (fun _=>0));have own5:=(⟨fun e=>by have:=(O5.out.own.r.lt _ e).2;omega,fun e=>by have:=(O5.out.own.b.lt _ e).2;omega,fun e=>by have:=(O5.out.own.s.lt _ e).2;omega⟩:rv.ownBlock≠some W5.heap.size/\bv.ownBlock≠some W5.heap.size/\sv.ownBlock≠some W5.heap.size);have ne5:∀ j,j<i->R j≠W5.heap.size:=fun j hj e=>by have:=(O5.out.grid j hj).row.lt;omega
    replace own5:=A8 own5;replace ne5:=A8 ne5;clear hrow8 hty8;go_upto_region 9 with fail;clear x8 hmk y0 y1;have O8:=A8 (O5.out.later hb8);have kE8:=kE.out.below hb8;generalize hrbe:W5.heap.size=rb at *
    refine UT (wb:=W8) (coef:=coef) (val:=val) (L:=[(wr.heap.size,#[.slice ac cols cp,.int .i64 val],57)]) ⟨Below.refl _ _,fun p hp=>by rcases Aw.1 hp with rfl | hp;exact kE8;cases hp⟩ (A8 (fun W hW=>hW.c2 wr.heap.size _ _ _ Ah)) (A8 (hcsW.out.below (hrbe ▸ hb8))) hrl Ad Ab ?_;intro v41 v42 v43 v44 v45 v46 v47 v48 v49 v50 v51 v52 g capg W9 hS9 hSl hg8;have O9:=A8 (O8.out.later hS9.below);have R9:=A8 ((R8.out.below hS9.below).congr (g:=Fi s i 0) (fun j _=>(Na s i j).symm));have C9:=A8 (O9.out.cost.congr (g:=fun j=>Ft s i j-Fi s i 0 j) (fun j _=>by rw [Na,Int.sub_zero]));have hrb8:rb<W8.heap.size:=R8.out.row.lt;replace hSl:=A8 hSl;clear hS9 kE8;go_wp2_with fail;refine open_l2 (es:=coef++[val]) (s:=s) (i:=i) (A8 Ad) hsn hnn hn1 (A8 (by rw [Ci,hrl.out];rfl)) hSl hre (A8 ⟨O9.out.xl,O9.out.x0,Ad,Ad⟩) (A8 ⟨O9.out.tbl.lt,O9.out.tbl.cell 1,Ad,Ad⟩) (A8 Ad) (A8 ⟨Ad,Ad⟩) R9 C9 Ab ?_;intro u8 u9 u10 u55 u56 u57 u58 u59 u60 u61 u62 u63 u64 u65 u66 u67 u68 u69 u70 u71 u72 u73 u74 u75 u76 u77 u78 u79 u80 u81 u82 u83 u84 u85 u86 u87 u88 u89 u90 u91 u92 u93 W10 hO10 R10 C10;clear R9 C9 hSl;have hO10':=A8 hO10;have x10:=(⟨A9 O9.out.xl hO10.size,(hO10.cell (p:=⟨w.heap.size,0,none⟩) O9.out.xl (by simp only [Aw,Bj,Bl,not_or];exact ⟨Ad,Ad⟩)).trans O9.out.x0⟩:w.heap.size<W10.heap.size/\W10.cell? ⟨w.heap.size,0,none⟩=some (.int .i64 cols));replace x10:=A8 x10;clear hO10;go_upto_region 18 with fail;have hcin:cols+i<n:=by have:=hn.out;omega
    refine UQ (q:=cols+i) (cols:=cols) (i:=i) (Fr:=Fi s i (cols+1)) (by rw [BT _ Ad];omega) hcin Ad Ad x10 (A8 R10) (A8 Ad) Ab ?_;intro v94 v95 v96 v97 v98 v99 v100 W11 hO11 R11;obtain ⟨m1,m2,m3⟩:=O9.out.mid Ad Ad hgc Ad Ad own5.out Ad hO10'.out hO11;have hO11':=A8 hO11;have R11':=A8 R11;have bs11:w.heap.size+1<=W11.heap.size:=m1.1;replace m1:=A8 m1;replace m2:=A8 m2;replace m3:=A8 m3;clear hO11 R11;go_upto_region 19 with fail;refine US (q:=cols+i) (cols:=cols) (i:=i) (by rw [BT _ Ad];omega) Ad bs11 m1 m2 m3 Ab ?_;intro v101 v102 v103 v104 v105 v106 v107 v108 v109 v110 v111 v112 v113 v114 v115 v116 v117 v118 v119 v120 v121 v122 v123 v124 v125 v126 v127 v128 v129 v130 v131 v132 v133 gr kr gb kb gs ks W12 hO12 T12 own12;rw [hsg.out] at own12;have O12:=A8 (O9.out.round ok.out hsn.out hnn.out (by rw [hsm.out];exact hi) ⟨Aa _,Nat.lt_succ_self _⟩ Ad hgc Ad Ad Ad ne5.out own5.out Ad hO10'.out R10 C10 hO11'.out R11'.out hO12 T12 own12);clear hO12 T12 own12 m1 m2 m3 R10 C10;go_wp2_with fail;go_roundw;case rel=>exact ⟨i+1,_,_,_,_,by go_num,Ad,O12⟩
    case measure=>simp [intOf];omega
end
end Go.Proofs.YtioamkekjjkigaaGreatDoor
