/- LwO, LwT, OpA -/
import Derived.Test.YtioamkekjjkigaaGreatDoorYLwR
set_option maxHeartbeats 8000000
set_option maxRecDepth 100000
namespace Go.Proofs.YtioamkekjjkigaaGreatDoor
section
open Go.RowKit
open LnM (wd DL)
attribute [local go_sem] Oper.semAt_some
theorem Tj (a:Addr):a.add 0=a:=rfl
attribute [local go_sem] Tj
abbrev Tk (rv:Value) (cb n:Nat) (bv sv:Value) (d k:Int):Array Value:=#[rv,.slice (some ⟨cb,0,none⟩) n n,bv,sv,.int .u64 (wd d 0),.int .u64 (wd d 1),.int .u64 (wd d 2),.int .u64 (wd d 3),.int .u64 (wd d 4),.int .u64 (wd d 5),.int .u64 (wd d 6),.int .u64 (wd d 7),.int .u64 (wd d 8),.int .u64 (wd d 9),.int .u64 (wd d 10),.int .u64 (wd d 11),.int .i64 k]
theorem Io:Tryz.prog.underlying 66=some (.array 12 64):=Tryz.underlying66
theorem Gu (z:Int):(Tryz.prog.info? 66).map (·.size)=some (wl (wd z)).length:=by rw [Kz];kernel_rfl
theorem open_r1 {Q:Exit->Act->World->Prop} {u0 u2 u3 u4 u5 u6 u7 u8 u9 u10 u11 u12 u13 u14 u15 u16 u17 u18 u19 u20 u21 u22 u23 u24 u25 u26 u27 u28 u29 u30 u31 u32 u33 u34 u35 u36 u37 u38 u39 u40 u41 u42 u43 u44 u45 u46 u47 u48 u49 u50 u51 u52 u53 u54 u55 u56 u57 u58 u59 u60 u61 u62 u63 u64 u65 u66 u67 u68 u69 u70 u71 u72 u73 u74 u75 u76 u77 u78 u79 u80 u81 u82 u83 u84 u85 u86 u87 u88 u89 u90 u91 u92 u93 u94 u95 u96 u97 u98 u99 u100 u101 u102 u103 u104 u105 u106 u107 u108 u109 u110 u111 u112 u113 u114 u115 u116 u117 u118 u119 u120 u121 u122 u123 u124 u125 u126 u127 u128 u129 u130 u131 u132 u133 u134 u135:Value} {cols m xB n:Nat} {ad:Option Addr} {cap:Nat} {wb w:World} {L:Ei} (hS:BL wb L w) (hcell:Hid (∀ W,BL wb L W->W.cell? ⟨xB,0,none⟩=some (.int .i64 cols)/\W.cell? ⟨xB,1,none⟩=some (.slice ad m cap))) (hn:Hid (n=cols+m+1)) (hn1:n<=100000) {ops:Array Oper} (ho:Dt Tryz.f30.body 1=some ops)
  (hQ:∀ (v11 v12 v13 v14 v15 v16 v17 v18 v19 v20 v21 v22 v23:Value) (gc gt:Nat) (W':World),BL wb L W'->Ez W' gc n (fun _=>0)->Ds W' gt (Tk (.slice none 0 0) gc n (.slice none 0 0) (.slice none 0 0) 1 cols) 68->wb.heap.size<=gc->gc<gt->Q .normal { tmps:=List.toArray (u0::.pointer (some ⟨xB,0,none⟩)::u2::.pointer (some ⟨gt,0,none⟩)::u4::u5::u6::u7::u8::u9::u10::v11::v12::v13::v14::v15::v16::v17::v18::v19::v20::v21::v22::v23::u24::u25::u26::u27::u28::u29::u30::u31::u32::u33::u34::u35::u36::u37::u38::u39::u40::u41::u42::u43::u44::u45::u46::u47::u48::u49::u50::u51::u52::u53::u54::u55::u56::u57::u58::u59::u60::u61::u62::u63::u64::u65::u66::u67::u68::u69::u70::u71::u72::u73::u74::u75::u76::u77::u78::u79::u80::u81::u82::u83::u84::u85::u86::u87::u88::u89::u90::u91::u92::u93::u94::u95::u96::u97::u98::u99::u100::u101::u102::u103::u104::u105::u106::u107::u108::u109::u110::u111::u112::u113::u114::u115::u116::u117::u118::u119::u120::u121::u122::u123::u124::u125::u126::u127::u128::u129::u130::u131::u132::u133::u134::u135::[]),defers:=[] } W') :
  (Code.region 1 ops true).wp Tryz.prog Q { tmps:=List.toArray (u0::.pointer (some ⟨xB,0,none⟩)::u2::u3::u4::u5::u6::u7::u8::u9::u10::u11::u12::u13::u14::u15::u16::u17::u18::u19::u20::u21::u22::u23::u24::u25::u26::u27::u28::u29::u30::u31::u32::u33::u34::u35::u36::u37::u38::u39::u40::u41::u42::u43::u44::u45::u46::u47::u48::u49::u50::u51::u52::u53::u54::u55::u56::u57::u58::u59::u60::u61::u62::u63::u64::u65::u66::u67::u68::u69::u70::u71::u72::u73::u74::u75::u76::u77::u78::u79::u80::u81::u82::u83::u84::u85::u86::u87::u88::u89::u90::u91::u92::u93::u94::u95::u96::u97::u98::u99::u100::u101::u102::u103::u104::u105::u106::u107::u108::u109::u110::u111::u112::u113::u114::u115::u116::u117::u118::u119::u120::u121::u122::u123::u124::u125::u126::u127::u128::u129::u130::u131::u132::u133::u134::u135::[]),defers:=[] } w:=by
 obtain rfl:=B4 (ho.symm.trans (rfl:Dt Tryz.f30.body 1=some _))
 clear ho
 replace hQ:=A8 hQ
 obtain ⟨Iv,hI⟩:∃ Iv:(Nat->Bool)->Act->World->Prop,∀ l a W,Iv l a W↔(∃ s11 s12 s13 s14 s15 s16 s17 s18 s19 s20 s21 s22 s23 s3:Value,a={ tmps:=List.toArray (u0::.pointer (some ⟨xB,0,none⟩)::u2::s3::u4::u5::u6::u7::u8::u9::u10::s11::s12::s13::s14::s15::s16::s17::s18::s19::s20::s21::s22::s23::u24::u25::u26::u27::u28::u29::u30::u31::u32::u33::u34::u35::u36::u37::u38::u39::u40::u41::u42::u43::u44::u45::u46::u47::u48::u49::u50::u51::u52::u53::u54::u55::u56::u57::u58::u59::u60::u61::u62::u63::u64::u65::u66::u67::u68::u69::u70::u71::u72::u73::u74::u75::u76::u77::u78::u79::u80::u81::u82::u83::u84::u85::u86::u87::u88::u89::u90::u91::u92::u93::u94::u95::u96::u97::u98::u99::u100::u101::u102::u103::u104::u105::u106::u107::u108::u109::u110::u111::u112::u113::u114::u115::u116::u117::u118::u119::u120::u121::u122::u123::u124::u125::u126::u127::u128::u129::u130::u131::u132::u133::u134::u135::[]),defers:=[] }/\BL wb L W/\Vs [(0,.agg (wc (wd 1)),s11),(1,.pointer (some ⟨xB,0,none⟩),s12),(2,.int .i64 cols,s13),(3,.pointer (some ⟨xB,0,none⟩),s14),(4,.int .i64 cols,s15),(5,.pointer (some ⟨xB,1,none⟩),s16),(6,.slice ad m cap,s17),(7,.int .i64 m,s18),(8,.int .i64 ((cols:Int)+m),s19),(9,.int .i64 n,s20)] l/\(l 10=true->∃ gc:Nat,s21=.slice (some ⟨gc,0,none⟩) n n/\Ez W gc n (fun _=>0)/\wb.heap.size<=gc)/\(l 11=true->∃ gc:Nat,s22=.agg (Tk (.slice none 0 0) gc n (.slice none 0 0) (.slice none 0 0) 1 cols)/\Ez W gc n (fun _=>0)/\wb.heap.size<=gc)/\(l 12=true->∃ gc gt:Nat,s23=.pointer (some ⟨gt,0,none⟩)/\Ez W gc n (fun _=>0)/\Ds W gt (Tk (.slice none 0 0) gc n (.slice none 0 0) (.slice none 0 0) 1 cols) 68/\wb.heap.size<=gc/\gc<gt)/\(l 13=true->∃ gc gt:Nat,s3=.pointer (some ⟨gt,0,none⟩)/\Ez W gc n (fun _=>0)/\Ds W gt (Tk (.slice none 0 0) gc n (.slice none 0 0) (.slice none 0 0) 1 cols) 68/\wb.heap.size<=gc/\gc<gt)):=⟨_,fun _ _ _=>B6⟩
 refine DW Iv Ab Ab ((hI _ _ _).2 ⟨_,_,_,_,_,_,_,_,_,_,_,_,_,_,rfl,hS.drew,Vs.zero,fun h=>off h,fun h=>off h,fun h=>off h,fun h=>off h⟩) (Dk (k:=0) ?_ (Dk (k:=1) ?_ (Dk (k:=2) ?_ (Dk (k:=3) ?_ (Dk (k:=4) ?_ (Dk (k:=5) ?_ (Dk (k:=6) ?_ (Dk (k:=7) ?_ (Dk (k:=8) ?_ (Dk (k:=9) ?_ (Dk (k:=10) ?_ (Dk (k:=11) ?_ (Dk (k:=12) ?_ (Dk (k:=13) ?_ (Du))))))))))))))) ?_
 ·intro l a W hl hw hsh h K hK
  rw [hI] at h;iterate 14 obtain ⟨_,h⟩:=h
  obtain ⟨rfl,hC,hP,f10,f11,f12,f13⟩:=h;go_simp;go_at_call 68;refine Calls.mono (K0 1 (by unfold Dy;omega) _) ?_;rintro e W2 ⟨rfl,hb⟩;apply hK.out;rw [hI];iterate 14 apply Exists.intro
  exact ⟨rfl,hC.call hb,hP.put 0 rfl rfl rfl,(fun h=>(let ⟨g,e,a,b⟩:=f10 h;⟨g,e,a.below hb,b⟩)),(fun h=>(let ⟨g,e,a,b⟩:=f11 h;⟨g,e,a.below hb,b⟩)),(fun h=>(let ⟨g,t,e,a,k,b,c⟩:=f12 h;⟨g,t,e,a.below hb,k.below hb,b,c⟩)),(fun h=>(let ⟨g,t,e,a,k,b,c⟩:=f13 h;⟨g,t,e,a.below hb,k.below hb,b,c⟩))⟩
 ·intro l a W hl hw hsh h K hK
  rw [hI] at h;iterate 14 obtain ⟨_,h⟩:=h
  obtain ⟨rfl,hC,hP,f10,f11,f12,f13⟩:=h;go_simp;apply hK.out;rw [hI];iterate 14 apply Exists.intro
  exact ⟨rfl,hC,hP.put 1 rfl rfl rfl,f10,f11,f12,f13⟩
 ·intro l a W hl hw hsh h K hK
  rw [hI] at h;iterate 14 obtain ⟨_,h⟩:=h
  obtain ⟨rfl,hC,hP,f10,f11,f12,f13⟩:=h;obtain rfl:=hP.get 1 rfl (hw 1 Ab);obtain ⟨x0,x1⟩:=hcell.out _ hC;go_simp;apply hK.out;rw [hI];iterate 14 apply Exists.intro
  exact ⟨rfl,hC,hP.put 2 rfl rfl rfl,f10,f11,f12,f13⟩
 ·intro l a W hl hw hsh h K hK
  rw [hI] at h;iterate 14 obtain ⟨_,h⟩:=h
  obtain ⟨rfl,hC,hP,f10,f11,f12,f13⟩:=h;go_simp;apply hK.out;rw [hI];iterate 14 apply Exists.intro
  exact ⟨rfl,hC,hP.put 3 rfl rfl rfl,f10,f11,f12,f13⟩
 ·intro l a W hl hw hsh h K hK
  rw [hI] at h;iterate 14 obtain ⟨_,h⟩:=h
  obtain ⟨rfl,hC,hP,f10,f11,f12,f13⟩:=h;obtain rfl:=hP.get 3 rfl (hw 3 Ab);obtain ⟨x0,x1⟩:=hcell.out _ hC;go_simp;apply hK.out;rw [hI];iterate 14 apply Exists.intro
  exact ⟨rfl,hC,hP.put 4 rfl rfl rfl,f10,f11,f12,f13⟩
 ·intro l a W hl hw hsh h K hK
  rw [hI] at h;iterate 14 obtain ⟨_,h⟩:=h
  obtain ⟨rfl,hC,hP,f10,f11,f12,f13⟩:=h;go_simp;apply hK.out;rw [hI];iterate 14 apply Exists.intro
  exact ⟨rfl,hC,hP.put 5 rfl rfl rfl,f10,f11,f12,f13⟩
 ·intro l a W hl hw hsh h K hK
  rw [hI] at h;iterate 14 obtain ⟨_,h⟩:=h
  obtain ⟨rfl,hC,hP,f10,f11,f12,f13⟩:=h;obtain rfl:=hP.get 5 rfl (hw 5 Ab);obtain ⟨x0,x1⟩:=hcell.out _ hC;go_simp;apply hK.out;rw [hI];iterate 14 apply Exists.intro
  exact ⟨rfl,hC,hP.put 6 rfl rfl rfl,f10,f11,f12,f13⟩
 ·intro l a W hl hw hsh h K hK
  rw [hI] at h;iterate 14 obtain ⟨_,h⟩:=h
  obtain ⟨rfl,hC,hP,f10,f11,f12,f13⟩:=h;obtain rfl:=hP.get 6 rfl (hw 6 Ab);go_simp;apply hK.out;rw [hI];iterate 14 apply Exists.intro
  exact ⟨rfl,hC,hP.put 7 rfl rfl rfl,f10,f11,f12,f13⟩
 ·intro l a W hl hw hsh h K hK
  rw [hI] at h;iterate 14 obtain ⟨_,h⟩:=h
  obtain ⟨rfl,hC,hP,f10,f11,f12,f13⟩:=h;obtain rfl:=hP.get 4 rfl (hw 4 Ab);obtain rfl:=hP.get 7 rfl (hw 7 Ab);have e1:IntKind.i64.wrap ((cols:Int)+m)=(cols:Int)+m:=BT _ (by have:=hn.out;omega);go_simp;apply hK.out;rw [hI];iterate 14 apply Exists.intro
  exact ⟨rfl,hC,hP.put 8 rfl rfl rfl,f10,f11,f12,f13⟩
 ·intro l a W hl hw hsh h K hK
  rw [hI] at h;iterate 14 obtain ⟨_,h⟩:=h
  obtain ⟨rfl,hC,hP,f10,f11,f12,f13⟩:=h;obtain rfl:=hP.get 8 rfl (hw 8 Ab);have e1:IntKind.i64.wrap ((cols:Int)+m+1)=n:=by rw [BT _ (by have:=hn.out;omega)];have:=hn.out;omega
  go_simp;apply hK.out;rw [hI];iterate 14 apply Exists.intro
  exact ⟨rfl,hC,hP.put 9 rfl rfl rfl,f10,f11,f12,f13⟩
 ·intro l a W hl hw hsh h K hK
  rw [hI] at h;iterate 14 obtain ⟨_,h⟩:=h
  obtain ⟨rfl,hC,hP,f10,f11,f12,f13⟩:=h;obtain rfl:=hP.get 9 rfl (hw 9 Ab);rw [AU (by rfl)];refine MC _ _ rfl n (by go_simp) (by go_simp) Ad ?_;intro W2 hr hty hb;apply hK.out;rw [hI];iterate 14 apply Exists.intro
  exact ⟨rfl,hC.call hb,hP.skip 10 rfl,fun _=>⟨_,rfl,⟨hr,hty⟩,hC.below.size⟩,(fun h=>(let ⟨g,e,a,b⟩:=f11 h;⟨g,e,a.below hb,b⟩)),(fun h=>(let ⟨g,t,e,a,k,b,c⟩:=f12 h;⟨g,t,e,a.below hb,k.below hb,b,c⟩)),(fun h=>(let ⟨g,t,e,a,k,b,c⟩:=f13 h;⟨g,t,e,a.below hb,k.below hb,b,c⟩))⟩
 ·intro l a W hl hw hsh h K hK
  rw [hI] at h;iterate 14 obtain ⟨_,h⟩:=h
  obtain ⟨rfl,hC,hP,f10,f11,f12,f13⟩:=h;obtain rfl:=hP.get 0 rfl (hw 0 Ab);obtain rfl:=hP.get 2 rfl (hw 2 Ab);obtain ⟨gc,rfl,hr,hge⟩:=f10 (hw 10 Ab);go_simp;apply hK.out;rw [hI];iterate 14 apply Exists.intro
  exact ⟨rfl,hC,hP.skip 11 rfl,f10,fun _=>⟨gc,rfl,hr,hge⟩,f12,f13⟩
 ·intro l a W hl hw hsh h K hK
  rw [hI] at h;iterate 14 obtain ⟨_,h⟩:=h
  obtain ⟨rfl,hC,hP,f10,f11,f12,f13⟩:=h;obtain ⟨gc,rfl,hr,hge⟩:=f11 (hw 11 Ab);go_simp;have hb:=(Below.refl W.heap.size W).alloc (Aa _) (.cells (Tk (.slice none 0 0) gc n (.slice none 0 0) (.slice none 0 0) 1 cols) 68);apply hK.out;rw [hI];iterate 14 apply Exists.intro
  exact ⟨rfl,hC.call hb,hP.skip 12 rfl,(fun h=>(let ⟨g,e,a,b⟩:=f10 h;⟨g,e,a.below hb,b⟩)),(fun h=>(let ⟨g,e,a,b⟩:=f11 h;⟨g,e,a.below hb,b⟩)),fun _=>⟨gc,_,rfl,hr.below hb,Ds.new _ _ _,hge,hr.row.lt⟩,(fun h=>(let ⟨g,t,e,a,k,b,c⟩:=f13 h;⟨g,t,e,a.below hb,k.below hb,b,c⟩))⟩
 ·intro l a W hl hw hsh h K hK
  rw [hI] at h;iterate 14 obtain ⟨_,h⟩:=h
  obtain ⟨rfl,hC,hP,f10,f11,f12,f13⟩:=h;obtain ⟨gc,gt,rfl,hr,hk,hge,hlt⟩:=f12 (hw 12 Ab);go_simp;apply hK.out;rw [hI];iterate 14 apply Exists.intro
  exact ⟨rfl,hC,hP.skip 13 rfl,f10,f11,f12,fun _=>⟨gc,gt,rfl,hr,hk,hge,hlt⟩⟩
 ·intro a W hI'
  have h:=(hI _ _ _).1 hI';clear hI';iterate 14 obtain ⟨_,h⟩:=h
  obtain ⟨rfl,hC,hP,f10,f11,f12,f13⟩:=h;clear f10;clear f11;clear f12;obtain ⟨gc,gt,rfl,hr,hk,hge,hlt⟩:=f13 Ab;exact hQ.out _ _ _ _ _ _ _ _ _ _ _ _ _ gc gt _ hC hr hk hge hlt
theorem open_r9 {Q:Exit->Act->World->Prop} {u0 u1 u2 u3 u4 u6 u7 u8 u9 u10 u11 u12 u13 u14 u15 u16 u17 u18 u19 u20 u21 u22 u23 u24 u25 u26 u27 u28 u29 u30 u31 u32 u33 u34 u35 u36 u37 u38 u39 u40 u41 u42 u43 u44 u45 u46 u47 u48 u49 u50 u51 u52 u53 u54 u55 u56 u57 u58 u59 u60 u61 u62 u63 u64 u65 u66 u67 u68 u69 u70 u71 u72 u73 u74 u75 u76 u77 u78 u79 u80 u81 u82 u83 u84 u85 u86 u87 u88 u89 u90 u91 u92 u93 u94 u95 u96 u97 u98 u99 u100 u101 u102 u103 u104 u105 u106 u107 u108 u109 u110 u111 u112 u113 u114 u115 u116 u117 u118 u119 u120 u121 u122 u123 u124 u125 u126 u127 u128 u129 u130 u131 u132 u133 u134 u135:Value} {aq:Addr} {cols cap xE:Nat} {val:Int} {coef:List Int} {wb w:World} {L:Ei} (hS:BL wb L w) (hcell:Hid (∀ W,BL wb L W->W.cell? ⟨xE,0,none⟩=some (.slice (some aq) cols cap)/\W.cell? ⟨xE,1,none⟩=some (.int .i64 val))) (hco:Hid (IE wb (.slice (some aq) cols cap) coef)) (hlen:Hid (coef.length=cols)) (hcap:(cols:Int)<=cap) (hc1:cols<=100000) (hc0:(0:Int)<=cols) {ops:Array Oper} (ho:Dt Tryz.f30.body 9=some ops)
  (hQ:∀ (v41 v42 v43 v44 v45 v46 v47 v48 v49 v50 v51 v52:Value) (g cap':Nat) (W':World),BL wb L W'->Sl W' (.slice (some ⟨g,0,none⟩) (cols+1) cap') (coef++[val])->wb.heap.size<=g->Q .normal { tmps:=List.toArray (u0::u1::u2::u3::u4::.pointer (some ⟨xE,0,none⟩)::u6::u7::u8::u9::u10::u11::u12::u13::u14::u15::u16::u17::u18::u19::u20::u21::u22::u23::u24::u25::u26::u27::u28::u29::u30::u31::u32::u33::u34::u35::u36::u37::u38::u39::u40::v41::v42::v43::v44::v45::v46::v47::v48::v49::v50::v51::v52::.slice (some ⟨g,0,none⟩) (cols+1) cap'::.int .i64 ((cols+1:Nat):Int)::.int .i64 0::u56::u57::u58::u59::u60::u61::u62::u63::u64::u65::u66::u67::u68::u69::u70::u71::u72::u73::u74::u75::u76::u77::u78::u79::u80::u81::u82::u83::u84::u85::u86::u87::u88::u89::u90::u91::u92::u93::u94::u95::u96::u97::u98::u99::u100::u101::u102::u103::u104::u105::u106::u107::u108::u109::u110::u111::u112::u113::u114::u115::u116::u117::u118::u119::u120::u121::u122::u123::u124::u125::u126::u127::u128::u129::u130::u131::u132::u133::u134::u135::[]),defers:=[] } W') :
  (Code.region 9 ops true).wp Tryz.prog Q { tmps:=List.toArray (u0::u1::u2::u3::u4::.pointer (some ⟨xE,0,none⟩)::u6::u7::u8::u9::u10::u11::u12::u13::u14::u15::u16::u17::u18::u19::u20::u21::u22::u23::u24::u25::u26::u27::u28::u29::u30::u31::u32::u33::u34::u35::u36::u37::u38::u39::u40::u41::u42::u43::u44::u45::u46::u47::u48::u49::u50::u51::u52::u53::u54::u55::u56::u57::u58::u59::u60::u61::u62::u63::u64::u65::u66::u67::u68::u69::u70::u71::u72::u73::u74::u75::u76::u77::u78::u79::u80::u81::u82::u83::u84::u85::u86::u87::u88::u89::u90::u91::u92::u93::u94::u95::u96::u97::u98::u99::u100::u101::u102::u103::u104::u105::u106::u107::u108::u109::u110::u111::u112::u113::u114::u115::u116::u117::u118::u119::u120::u121::u122::u123::u124::u125::u126::u127::u128::u129::u130::u131::u132::u133::u134::u135::[]),defers:=[] } w:=by
 obtain rfl:=B4 (ho.symm.trans (rfl:Dt Tryz.f30.body 9=some _))
 clear ho
 replace hQ:=A8 hQ
 obtain ⟨Iv,hI⟩:∃ Iv:(Nat->Bool)->Act->World->Prop,∀ l a W,Iv l a W↔(∃ s41 s42 s43 s44 s45 s46 s47 s48 s49 s50 s51 s52 s53 s54 s55:Value,a={ tmps:=List.toArray (u0::u1::u2::u3::u4::.pointer (some ⟨xE,0,none⟩)::u6::u7::u8::u9::u10::u11::u12::u13::u14::u15::u16::u17::u18::u19::u20::u21::u22::u23::u24::u25::u26::u27::u28::u29::u30::u31::u32::u33::u34::u35::u36::u37::u38::u39::u40::s41::s42::s43::s44::s45::s46::s47::s48::s49::s50::s51::s52::s53::s54::s55::u56::u57::u58::u59::u60::u61::u62::u63::u64::u65::u66::u67::u68::u69::u70::u71::u72::u73::u74::u75::u76::u77::u78::u79::u80::u81::u82::u83::u84::u85::u86::u87::u88::u89::u90::u91::u92::u93::u94::u95::u96::u97::u98::u99::u100::u101::u102::u103::u104::u105::u106::u107::u108::u109::u110::u111::u112::u113::u114::u115::u116::u117::u118::u119::u120::u121::u122::u123::u124::u125::u126::u127::u128::u129::u130::u131::u132::u133::u134::u135::[]),defers:=[] }/\BL wb L W/\Vs [(0,.pointer (some ⟨xE,0,none⟩),s41),(1,.slice (some aq) cols cap,s42),(2,.pointer (some ⟨xE,0,none⟩),s43),(3,.slice (some aq) cols cap,s44),(4,.int .i64 cols,s45),(5,.pointer (some ⟨xE,0,none⟩),s46),(6,.slice (some aq) cols cap,s47),(7,.int .i64 cols,s48),(8,.slice (some aq) cols cols,s49),(9,.pointer (some ⟨xE,1,none⟩),s50),(10,.int .i64 val,s51),(14,.int .i64 0,s55)] l/\(l 11=true->∃ g:Nat,s52=.slice (some ⟨g,0,none⟩) 1 1/\W.cell? ⟨g,0,none⟩=some (.int .i64 val)/\g<W.heap.size)/\(l 12=true->∃ g cap':Nat,s53=.slice (some ⟨g,0,none⟩) (cols+1) cap'/\Sl W (.slice (some ⟨g,0,none⟩) (cols+1) cap') (coef++[val])/\wb.heap.size<=g)/\(l 13=true->s54=.int .i64 ((cols+1:Nat):Int))):=⟨_,fun _ _ _=>B6⟩
 refine DW Iv Ab Ab ((hI _ _ _).2 ⟨_,_,_,_,_,_,_,_,_,_,_,_,_,_,_,rfl,hS.drew,Vs.zero,fun h=>off h,fun h=>off h,fun h=>off h⟩) (Dk (k:=0) ?_ (Dk (k:=1) ?_ (Dk (k:=2) ?_ (Dk (k:=3) ?_ (Dk (k:=4) ?_ (Dk (k:=5) ?_ (Dk (k:=6) ?_ (Dk (k:=7) ?_ (Dk (k:=8) ?_ (Dk (k:=9) ?_ (Dk (k:=10) ?_ (Dk (k:=11) ?_ (Dk (k:=12) ?_ (Dk (k:=13) ?_ (Dk (k:=14) ?_ (Du)))))))))))))))) ?_
 ·intro l a W hl hw hsh h K hK
  rw [hI] at h;iterate 15 obtain ⟨_,h⟩:=h
  obtain ⟨rfl,hC,hP,f11,f12,f13⟩:=h;go_simp;apply hK.out;rw [hI];iterate 15 apply Exists.intro
  exact ⟨rfl,hC,hP.put 0 rfl rfl rfl,f11,f12,f13⟩
 ·intro l a W hl hw hsh h K hK
  rw [hI] at h;iterate 15 obtain ⟨_,h⟩:=h
  obtain ⟨rfl,hC,hP,f11,f12,f13⟩:=h;obtain rfl:=hP.get 0 rfl (hw 0 Ab);obtain ⟨x0,x1⟩:=hcell.out _ hC;go_simp;apply hK.out;rw [hI];iterate 15 apply Exists.intro
  exact ⟨rfl,hC,hP.put 1 rfl rfl rfl,f11,f12,f13⟩
 ·intro l a W hl hw hsh h K hK
  rw [hI] at h;iterate 15 obtain ⟨_,h⟩:=h
  obtain ⟨rfl,hC,hP,f11,f12,f13⟩:=h;go_simp;apply hK.out;rw [hI];iterate 15 apply Exists.intro
  exact ⟨rfl,hC,hP.put 2 rfl rfl rfl,f11,f12,f13⟩
 ·intro l a W hl hw hsh h K hK
  rw [hI] at h;iterate 15 obtain ⟨_,h⟩:=h
  obtain ⟨rfl,hC,hP,f11,f12,f13⟩:=h;obtain rfl:=hP.get 2 rfl (hw 2 Ab);obtain ⟨x0,x1⟩:=hcell.out _ hC;go_simp;apply hK.out;rw [hI];iterate 15 apply Exists.intro
  exact ⟨rfl,hC,hP.put 3 rfl rfl rfl,f11,f12,f13⟩
 ·intro l a W hl hw hsh h K hK
  rw [hI] at h;iterate 15 obtain ⟨_,h⟩:=h
  obtain ⟨rfl,hC,hP,f11,f12,f13⟩:=h;obtain rfl:=hP.get 3 rfl (hw 3 Ab);go_simp;apply hK.out;rw [hI];iterate 15 apply Exists.intro
  exact ⟨rfl,hC,hP.put 4 rfl rfl rfl,f11,f12,f13⟩
 ·intro l a W hl hw hsh h K hK
  rw [hI] at h;iterate 15 obtain ⟨_,h⟩:=h
  obtain ⟨rfl,hC,hP,f11,f12,f13⟩:=h;go_simp;apply hK.out;rw [hI];iterate 15 apply Exists.intro
  exact ⟨rfl,hC,hP.put 5 rfl rfl rfl,f11,f12,f13⟩
 ·intro l a W hl hw hsh h K hK
  rw [hI] at h;iterate 15 obtain ⟨_,h⟩:=h
  obtain ⟨rfl,hC,hP,f11,f12,f13⟩:=h;obtain rfl:=hP.get 5 rfl (hw 5 Ab);obtain ⟨x0,x1⟩:=hcell.out _ hC;go_simp;apply hK.out;rw [hI];iterate 15 apply Exists.intro
  exact ⟨rfl,hC,hP.put 6 rfl rfl rfl,f11,f12,f13⟩
 ·intro l a W hl hw hsh h K hK
  rw [hI] at h;iterate 15 obtain ⟨_,h⟩:=h
  obtain ⟨rfl,hC,hP,f11,f12,f13⟩:=h;obtain rfl:=hP.get 6 rfl (hw 6 Ab);go_simp;apply hK.out;rw [hI];iterate 15 apply Exists.intro
  exact ⟨rfl,hC,hP.put 7 rfl rfl rfl,f11,f12,f13⟩
 ·intro l a W hl hw hsh h K hK
  rw [hI] at h;iterate 15 obtain ⟨_,h⟩:=h
  obtain ⟨rfl,hC,hP,f11,f12,f13⟩:=h;obtain rfl:=hP.get 1 rfl (hw 1 Ab);obtain rfl:=hP.get 4 rfl (hw 4 Ab);obtain rfl:=hP.get 7 rfl (hw 7 Ab);go_simp;apply hK.out;rw [hI];iterate 15 apply Exists.intro
  exact ⟨rfl,hC,hP.put 8 rfl rfl rfl,f11,f12,f13⟩
 ·intro l a W hl hw hsh h K hK
  rw [hI] at h;iterate 15 obtain ⟨_,h⟩:=h
  obtain ⟨rfl,hC,hP,f11,f12,f13⟩:=h;go_simp;apply hK.out;rw [hI];iterate 15 apply Exists.intro
  exact ⟨rfl,hC,hP.put 9 rfl rfl rfl,f11,f12,f13⟩
 ·intro l a W hl hw hsh h K hK
  rw [hI] at h;iterate 15 obtain ⟨_,h⟩:=h
  obtain ⟨rfl,hC,hP,f11,f12,f13⟩:=h;obtain rfl:=hP.get 9 rfl (hw 9 Ab);obtain ⟨x0,x1⟩:=hcell.out _ hC;go_simp;apply hK.out;rw [hI];iterate 15 apply Exists.intro
  exact ⟨rfl,hC,hP.put 10 rfl rfl rfl,f11,f12,f13⟩
 ·intro l a W hl hw hsh h K hK
  rw [hI] at h;iterate 15 obtain ⟨_,h⟩:=h
  obtain ⟨rfl,hC,hP,f11,f12,f13⟩:=h;obtain rfl:=hP.get 10 rfl (hw 10 Ab);go_simp;have hb:=(Below.refl W.heap.size W).alloc (Aa _) (.cells #[.int .i64 val] 3);apply hK.out;rw [hI];iterate 15 apply Exists.intro
  exact ⟨rfl,hC.call hb,hP.skip 11 rfl,fun _=>⟨_,rfl,(Ds.new W #[.int .i64 val] 3).cell 0,Af⟩,(fun h=>(let ⟨g,c,e,a,b⟩:=f12 h;⟨g,c,e,a.below hb,b⟩)),f13⟩
 ·intro l a W hl hw hsh h K hK
  rw [hI] at h;iterate 15 obtain ⟨_,h⟩:=h
  obtain ⟨rfl,hC,hP,f11,f12,f13⟩:=h;obtain rfl:=hP.get 8 rfl (hw 8 Ab);obtain ⟨g,rfl,hg,hgl⟩:=f11 (hw 11 Ab);rw [AU (by rfl)];have hco2:IE W (.slice (some aq) cols cols) coef:=by
   rcases hco.out with ⟨⟨_,e⟩,e2⟩ | ⟨b,off,cap2,e,h1,h2,h3,h4⟩
   ·cases e;exact .inl ⟨⟨_,rfl⟩,e2⟩
   ·cases e;exact .inr ⟨_,_,coef.length,rfl,Aa _,Ad,A9 h3 hC.below.size,fun j hj=>(hC.below.cell (p:=⟨_,_,none⟩) h3).trans (h4 j hj)⟩
  refine Jl _ Tryz.underlying22 _ _ rfl (some aq) cols coef (by go_simp) hco2 g val (by go_simp) hg Ad ?_;intro g2 cap2 W2 hr hge hb;apply hK.out;rw [hI];iterate 15 apply Exists.intro
  exact ⟨rfl,hC.call hb,hP.skip 12 rfl,(fun h=>(let ⟨g,e,a,b⟩:=f11 h;⟨g,e,(hb.cell (p:=⟨_,_,none⟩) b).trans a,A9 b hb.size⟩)),fun _=>⟨g2,cap2,rfl,hr,Bc hC.below.size hge⟩,f13⟩
 ·intro l a W hl hw hsh h K hK
  rw [hI] at h;iterate 15 obtain ⟨_,h⟩:=h
  obtain ⟨rfl,hC,hP,f11,f12,f13⟩:=h;obtain ⟨g2,cap2,rfl,hr,hge⟩:=f12 (hw 12 Ab);go_simp;apply hK.out;rw [hI];iterate 15 apply Exists.intro
  exact ⟨rfl,hC,hP.skip 13 rfl,f11,f12,fun _=>rfl⟩
 ·intro l a W hl hw hsh h K hK
  rw [hI] at h;iterate 15 obtain ⟨_,h⟩:=h
  obtain ⟨rfl,hC,hP,f11,f12,f13⟩:=h;go_simp;apply hK.out;rw [hI];iterate 15 apply Exists.intro
  exact ⟨rfl,hC,hP.put 11 rfl rfl rfl,f11,f12,f13⟩
 ·intro a W hI'
  have h:=(hI _ _ _).1 hI';clear hI';iterate 15 obtain ⟨_,h⟩:=h
  obtain ⟨rfl,hC,hP,f11,f12,f13⟩:=h;clear f11;obtain ⟨g2,cap2,rfl,hr,hge⟩:=f12 Ab;obtain rfl:=f13 Ab;obtain rfl:=hP.get 11 rfl Ab;exact hQ.out _ _ _ _ _ _ _ _ _ _ _ _ g2 cap2 _ hC hr hge
theorem UP {Q:Exit->Act->World->Prop} {u0 u1 u2 u3 u4 u6 u7 u8 u9 u10 u11 u12 u13 u14 u15 u16 u17 u18 u19 u20 u21 u22 u23 u24 u25 u26 u27 u28 u29 u30 u31 u32 u33 u34 u35 u36 u37 u38 u39 u40 u41 u42 u43 u44 u45 u46 u47 u48 u49 u50 u51 u52 u53 u54 u55 u56 u57 u58 u59 u60 u61 u62 u63 u64 u65 u66 u67 u68 u69 u70 u71 u72 u73 u74 u75 u76 u77 u78 u79 u80 u81 u82 u83 u84 u85 u86 u87 u88 u89 u90 u91 u92 u93 u94 u95 u96 u97 u98 u99 u100 u101 u102 u103 u104 u105 u106 u107 u108 u109 u110 u111 u112 u113 u114 u115 u116 u117 u118 u119 u120 u121 u122 u123 u124 u125 u126 u127 u128 u129 u130 u131 u132 u133 u134 u135:Value} {xE:Nat} {val:Int} {coef:List Int} {wb w:World} {L:Ei} (hS:BL wb L w) (hcell:Hid (∀ W,BL wb L W->W.cell? ⟨xE,0,none⟩=some (.slice (none) 0 0)/\W.cell? ⟨xE,1,none⟩=some (.int .i64 val))) (hco:Hid (IE wb (.slice (none) 0 0) coef)) (hlen:Hid (coef.length=0)) {ops:Array Oper} (ho:Dt Tryz.f30.body 9=some ops)
  (hQ:∀ (v41 v42 v43 v44 v45 v46 v47 v48 v49 v50 v51 v52:Value) (g cap':Nat) (W':World),BL wb L W'->Sl W' (.slice (some ⟨g,0,none⟩) (0+1) cap') (coef++[val])->wb.heap.size<=g->Q .normal { tmps:=List.toArray (u0::u1::u2::u3::u4::.pointer (some ⟨xE,0,none⟩)::u6::u7::u8::u9::u10::u11::u12::u13::u14::u15::u16::u17::u18::u19::u20::u21::u22::u23::u24::u25::u26::u27::u28::u29::u30::u31::u32::u33::u34::u35::u36::u37::u38::u39::u40::v41::v42::v43::v44::v45::v46::v47::v48::v49::v50::v51::v52::.slice (some ⟨g,0,none⟩) (0+1) cap'::.int .i64 ((0+1:Nat):Int)::.int .i64 0::u56::u57::u58::u59::u60::u61::u62::u63::u64::u65::u66::u67::u68::u69::u70::u71::u72::u73::u74::u75::u76::u77::u78::u79::u80::u81::u82::u83::u84::u85::u86::u87::u88::u89::u90::u91::u92::u93::u94::u95::u96::u97::u98::u99::u100::u101::u102::u103::u104::u105::u106::u107::u108::u109::u110::u111::u112::u113::u114::u115::u116::u117::u118::u119::u120::u121::u122::u123::u124::u125::u126::u127::u128::u129::u130::u131::u132::u133::u134::u135::[]),defers:=[] } W') :
  (Code.region 9 ops true).wp Tryz.prog Q { tmps:=List.toArray (u0::u1::u2::u3::u4::.pointer (some ⟨xE,0,none⟩)::u6::u7::u8::u9::u10::u11::u12::u13::u14::u15::u16::u17::u18::u19::u20::u21::u22::u23::u24::u25::u26::u27::u28::u29::u30::u31::u32::u33::u34::u35::u36::u37::u38::u39::u40::u41::u42::u43::u44::u45::u46::u47::u48::u49::u50::u51::u52::u53::u54::u55::u56::u57::u58::u59::u60::u61::u62::u63::u64::u65::u66::u67::u68::u69::u70::u71::u72::u73::u74::u75::u76::u77::u78::u79::u80::u81::u82::u83::u84::u85::u86::u87::u88::u89::u90::u91::u92::u93::u94::u95::u96::u97::u98::u99::u100::u101::u102::u103::u104::u105::u106::u107::u108::u109::u110::u111::u112::u113::u114::u115::u116::u117::u118::u119::u120::u121::u122::u123::u124::u125::u126::u127::u128::u129::u130::u131::u132::u133::u134::u135::[]),defers:=[] } w:=by
 obtain rfl:=B4 (ho.symm.trans (rfl:Dt Tryz.f30.body 9=some _))
 clear ho
 replace hQ:=A8 hQ
 obtain ⟨Iv,hI⟩:∃ Iv:(Nat->Bool)->Act->World->Prop,∀ l a W,Iv l a W↔(∃ s41 s42 s43 s44 s45 s46 s47 s48 s49 s50 s51 s52 s53 s54 s55:Value,a={ tmps:=List.toArray (u0::u1::u2::u3::u4::.pointer (some ⟨xE,0,none⟩)::u6::u7::u8::u9::u10::u11::u12::u13::u14::u15::u16::u17::u18::u19::u20::u21::u22::u23::u24::u25::u26::u27::u28::u29::u30::u31::u32::u33::u34::u35::u36::u37::u38::u39::u40::s41::s42::s43::s44::s45::s46::s47::s48::s49::s50::s51::s52::s53::s54::s55::u56::u57::u58::u59::u60::u61::u62::u63::u64::u65::u66::u67::u68::u69::u70::u71::u72::u73::u74::u75::u76::u77::u78::u79::u80::u81::u82::u83::u84::u85::u86::u87::u88::u89::u90::u91::u92::u93::u94::u95::u96::u97::u98::u99::u100::u101::u102::u103::u104::u105::u106::u107::u108::u109::u110::u111::u112::u113::u114::u115::u116::u117::u118::u119::u120::u121::u122::u123::u124::u125::u126::u127::u128::u129::u130::u131::u132::u133::u134::u135::[]),defers:=[] }/\BL wb L W/\Vs [(0,.pointer (some ⟨xE,0,none⟩),s41),(1,.slice (none) 0 0,s42),(2,.pointer (some ⟨xE,0,none⟩),s43),(3,.slice (none) 0 0,s44),(4,.int .i64 0,s45),(5,.pointer (some ⟨xE,0,none⟩),s46),(6,.slice (none) 0 0,s47),(7,.int .i64 0,s48),(8,.slice (none) 0 0,s49),(9,.pointer (some ⟨xE,1,none⟩),s50),(10,.int .i64 val,s51),(14,.int .i64 0,s55)] l/\(l 11=true->∃ g:Nat,s52=.slice (some ⟨g,0,none⟩) 1 1/\W.cell? ⟨g,0,none⟩=some (.int .i64 val)/\g<W.heap.size)/\(l 12=true->∃ g cap':Nat,s53=.slice (some ⟨g,0,none⟩) (0+1) cap'/\Sl W (.slice (some ⟨g,0,none⟩) (0+1) cap') (coef++[val])/\wb.heap.size<=g)/\(l 13=true->s54=.int .i64 ((0+1:Nat):Int))):=⟨_,fun _ _ _=>B6⟩
 refine DW Iv Ab Ab ((hI _ _ _).2 ⟨_,_,_,_,_,_,_,_,_,_,_,_,_,_,_,rfl,hS.drew,Vs.zero,fun h=>off h,fun h=>off h,fun h=>off h⟩) (Dk (k:=0) ?_ (Dk (k:=1) ?_ (Dk (k:=2) ?_ (Dk (k:=3) ?_ (Dk (k:=4) ?_ (Dk (k:=5) ?_ (Dk (k:=6) ?_ (Dk (k:=7) ?_ (Dk (k:=8) ?_ (Dk (k:=9) ?_ (Dk (k:=10) ?_ (Dk (k:=11) ?_ (Dk (k:=12) ?_ (Dk (k:=13) ?_ (Dk (k:=14) ?_ (Du)))))))))))))))) ?_
 ·intro l a W hl hw hsh h K hK
  rw [hI] at h;iterate 15 obtain ⟨_,h⟩:=h
  obtain ⟨rfl,hC,hP,f11,f12,f13⟩:=h;go_simp;apply hK.out;rw [hI];iterate 15 apply Exists.intro
  exact ⟨rfl,hC,hP.put 0 rfl rfl rfl,f11,f12,f13⟩
 ·intro l a W hl hw hsh h K hK
  rw [hI] at h;iterate 15 obtain ⟨_,h⟩:=h
  obtain ⟨rfl,hC,hP,f11,f12,f13⟩:=h;obtain rfl:=hP.get 0 rfl (hw 0 Ab);obtain ⟨x0,x1⟩:=hcell.out _ hC;go_simp;apply hK.out;rw [hI];iterate 15 apply Exists.intro
  exact ⟨rfl,hC,hP.put 1 rfl rfl rfl,f11,f12,f13⟩
 ·intro l a W hl hw hsh h K hK
  rw [hI] at h;iterate 15 obtain ⟨_,h⟩:=h
  obtain ⟨rfl,hC,hP,f11,f12,f13⟩:=h;go_simp;apply hK.out;rw [hI];iterate 15 apply Exists.intro
  exact ⟨rfl,hC,hP.put 2 rfl rfl rfl,f11,f12,f13⟩
 ·intro l a W hl hw hsh h K hK
  rw [hI] at h;iterate 15 obtain ⟨_,h⟩:=h
  obtain ⟨rfl,hC,hP,f11,f12,f13⟩:=h;obtain rfl:=hP.get 2 rfl (hw 2 Ab);obtain ⟨x0,x1⟩:=hcell.out _ hC;go_simp;apply hK.out;rw [hI];iterate 15 apply Exists.intro
  exact ⟨rfl,hC,hP.put 3 rfl rfl rfl,f11,f12,f13⟩
 ·intro l a W hl hw hsh h K hK
  rw [hI] at h;iterate 15 obtain ⟨_,h⟩:=h
  obtain ⟨rfl,hC,hP,f11,f12,f13⟩:=h;obtain rfl:=hP.get 3 rfl (hw 3 Ab);go_simp;apply hK.out;rw [hI];iterate 15 apply Exists.intro
  exact ⟨rfl,hC,hP.put 4 rfl rfl rfl,f11,f12,f13⟩
 ·intro l a W hl hw hsh h K hK
  rw [hI] at h;iterate 15 obtain ⟨_,h⟩:=h
  obtain ⟨rfl,hC,hP,f11,f12,f13⟩:=h;go_simp;apply hK.out;rw [hI];iterate 15 apply Exists.intro
  exact ⟨rfl,hC,hP.put 5 rfl rfl rfl,f11,f12,f13⟩
 ·intro l a W hl hw hsh h K hK
  rw [hI] at h;iterate 15 obtain ⟨_,h⟩:=h
  obtain ⟨rfl,hC,hP,f11,f12,f13⟩:=h;obtain rfl:=hP.get 5 rfl (hw 5 Ab);obtain ⟨x0,x1⟩:=hcell.out _ hC;go_simp;apply hK.out;rw [hI];iterate 15 apply Exists.intro
  exact ⟨rfl,hC,hP.put 6 rfl rfl rfl,f11,f12,f13⟩
 ·intro l a W hl hw hsh h K hK
  rw [hI] at h;iterate 15 obtain ⟨_,h⟩:=h
  obtain ⟨rfl,hC,hP,f11,f12,f13⟩:=h;obtain rfl:=hP.get 6 rfl (hw 6 Ab);go_simp;apply hK.out;rw [hI];iterate 15 apply Exists.intro
  exact ⟨rfl,hC,hP.put 7 rfl rfl rfl,f11,f12,f13⟩
 ·intro l a W hl hw hsh h K hK
  rw [hI] at h;iterate 15 obtain ⟨_,h⟩:=h
  obtain ⟨rfl,hC,hP,f11,f12,f13⟩:=h;obtain rfl:=hP.get 1 rfl (hw 1 Ab);obtain rfl:=hP.get 4 rfl (hw 4 Ab);obtain rfl:=hP.get 7 rfl (hw 7 Ab);go_simp;apply hK.out;rw [hI];iterate 15 apply Exists.intro
  exact ⟨rfl,hC,hP.put 8 rfl rfl rfl,f11,f12,f13⟩
 ·intro l a W hl hw hsh h K hK
  rw [hI] at h;iterate 15 obtain ⟨_,h⟩:=h
  obtain ⟨rfl,hC,hP,f11,f12,f13⟩:=h;go_simp;apply hK.out;rw [hI];iterate 15 apply Exists.intro
  exact ⟨rfl,hC,hP.put 9 rfl rfl rfl,f11,f12,f13⟩
 ·intro l a W hl hw hsh h K hK
  rw [hI] at h;iterate 15 obtain ⟨_,h⟩:=h
  obtain ⟨rfl,hC,hP,f11,f12,f13⟩:=h;obtain rfl:=hP.get 9 rfl (hw 9 Ab);obtain ⟨x0,x1⟩:=hcell.out _ hC;go_simp;apply hK.out;rw [hI];iterate 15 apply Exists.intro
  exact ⟨rfl,hC,hP.put 10 rfl rfl rfl,f11,f12,f13⟩
 ·intro l a W hl hw hsh h K hK
  rw [hI] at h;iterate 15 obtain ⟨_,h⟩:=h
  obtain ⟨rfl,hC,hP,f11,f12,f13⟩:=h;obtain rfl:=hP.get 10 rfl (hw 10 Ab);go_simp;have hb:=(Below.refl W.heap.size W).alloc (Aa _) (.cells #[.int .i64 val] 3);apply hK.out;rw [hI];iterate 15 apply Exists.intro
  exact ⟨rfl,hC.call hb,hP.skip 11 rfl,fun _=>⟨_,rfl,(Ds.new W #[.int .i64 val] 3).cell 0,Af⟩,(fun h=>(let ⟨g,c,e,a,b⟩:=f12 h;⟨g,c,e,a.below hb,b⟩)),f13⟩
 ·intro l a W hl hw hsh h K hK
  rw [hI] at h;iterate 15 obtain ⟨_,h⟩:=h
  obtain ⟨rfl,hC,hP,f11,f12,f13⟩:=h;obtain rfl:=hP.get 8 rfl (hw 8 Ab);obtain ⟨g,rfl,hg,hgl⟩:=f11 (hw 11 Ab);rw [AU (by rfl)];have hco2:IE W (.slice (none) 0 0) coef:=by
   rcases hco.out with ⟨⟨_,e⟩,e2⟩ | ⟨b,off,cap2,e,h1,h2,h3,h4⟩
   ·cases e;exact .inl ⟨⟨_,rfl⟩,e2⟩
   ·cases e
  refine Jl _ Tryz.underlying22 _ _ rfl (none) 0 coef (by go_simp) hco2 g val (by go_simp) hg Ad ?_;intro g2 cap2 W2 hr hge hb;apply hK.out;rw [hI];iterate 15 apply Exists.intro
  exact ⟨rfl,hC.call hb,hP.skip 12 rfl,(fun h=>(let ⟨g,e,a,b⟩:=f11 h;⟨g,e,(hb.cell (p:=⟨_,_,none⟩) b).trans a,A9 b hb.size⟩)),fun _=>⟨g2,cap2,rfl,hr,Bc hC.below.size hge⟩,f13⟩
 ·intro l a W hl hw hsh h K hK
  rw [hI] at h;iterate 15 obtain ⟨_,h⟩:=h
  obtain ⟨rfl,hC,hP,f11,f12,f13⟩:=h;obtain ⟨g2,cap2,rfl,hr,hge⟩:=f12 (hw 12 Ab);go_simp;apply hK.out;rw [hI];iterate 15 apply Exists.intro
  exact ⟨rfl,hC,hP.skip 13 rfl,f11,f12,fun _=>rfl⟩
 ·intro l a W hl hw hsh h K hK
  rw [hI] at h;iterate 15 obtain ⟨_,h⟩:=h
  obtain ⟨rfl,hC,hP,f11,f12,f13⟩:=h;go_simp;apply hK.out;rw [hI];iterate 15 apply Exists.intro
  exact ⟨rfl,hC,hP.put 11 rfl rfl rfl,f11,f12,f13⟩
 ·intro a W hI'
  have h:=(hI _ _ _).1 hI';clear hI';iterate 15 obtain ⟨_,h⟩:=h
  obtain ⟨rfl,hC,hP,f11,f12,f13⟩:=h;clear f11;obtain ⟨g2,cap2,rfl,hr,hge⟩:=f12 Ab;obtain rfl:=f13 Ab;obtain rfl:=hP.get 11 rfl Ab;exact hQ.out _ _ _ _ _ _ _ _ _ _ _ _ g2 cap2 _ hC hr hge
theorem PJ {Q:Exit->Act->World->Prop} {u0 u1 u2 u4 u5 u6 u8 u9 u11 u12 u13 u14 u15 u16 u17 u18 u19 u20 u21 u22 u23 u24 u25 u26 u27 u28 u29 u30 u31 u32 u33 u34 u35 u36 u37 u38 u39 u40 u41 u42 u43 u44 u45 u46 u47 u48 u49 u50 u51 u52 u53 u54 u55 u56 u57 u58 u59 u60 u61 u62 u63 u64 u65 u66 u67 u68 u69 u70 u71 u72 u73 u74 u75 u76 u77 u78 u79 u80 u81 u82 u83 u84 u85 u86 u87 u88 u89 u90 u91 u92 u93 u94 u95 u96 u97 u98 u99 u100 u101 u102 u103 u104 u105 u106 u107 u108 u109 u110 u111 u112 u113 u114 u115 u116 u117 u118 u119 u120 u121 u122 u123 u124 u125 u126 u127 u128 u129 u130 u131 u132 u133 u134 u135:Value} {tb cb rb n q:Nat} {G Fr:Nat->Int} {w:World} (hq:q<n) (hqi:(q:Int)<n) (hq0:(0:Int)<=q) (h1:Hid (tb<w.heap.size/\w.cell? ⟨tb,1,none⟩=some (.slice (some ⟨cb,0,none⟩) n n))) (hG:Hid (Ez w cb n G)) (hF:Hid (Ez w rb n Fr)) (htc:Hid (tb≠cb)) (hrc:Hid (rb≠cb)) {ops:Array Oper} (ho:Dt Tryz.f30.body 16=some ops)
  (hQ:∀ (v75 v76 v77 v78 v79 v80 v81 v82 v83 v84 v85 v86 v87 v88 v89 v90 v91 v92:Value)  (W':World),Dr [cb] w W'->Ez W' cb n (DL G q (G q-Fr q))->Q .normal { tmps:=List.toArray (u0::u1::u2::.pointer (some ⟨tb,0,none⟩)::u4::u5::u6::.slice (some ⟨rb,0,none⟩) n n::u8::u9::.int .i64 q::u11::u12::u13::u14::u15::u16::u17::u18::u19::u20::u21::u22::u23::u24::u25::u26::u27::u28::u29::u30::u31::u32::u33::u34::u35::u36::u37::u38::u39::u40::u41::u42::u43::u44::u45::u46::u47::u48::u49::u50::u51::u52::u53::u54::u55::u56::u57::u58::u59::u60::u61::u62::u63::u64::u65::u66::u67::u68::u69::u70::u71::u72::u73::u74::v75::v76::v77::v78::v79::v80::v81::v82::v83::v84::v85::v86::v87::v88::v89::v90::v91::v92::u93::u94::u95::u96::u97::u98::u99::u100::u101::u102::u103::u104::u105::u106::u107::u108::u109::u110::u111::u112::u113::u114::u115::u116::u117::u118::u119::u120::u121::u122::u123::u124::u125::u126::u127::u128::u129::u130::u131::u132::u133::u134::u135::[]),defers:=[] } W') :
  (Code.region 16 ops true).wp Tryz.prog Q { tmps:=List.toArray (u0::u1::u2::.pointer (some ⟨tb,0,none⟩)::u4::u5::u6::.slice (some ⟨rb,0,none⟩) n n::u8::u9::.int .i64 q::u11::u12::u13::u14::u15::u16::u17::u18::u19::u20::u21::u22::u23::u24::u25::u26::u27::u28::u29::u30::u31::u32::u33::u34::u35::u36::u37::u38::u39::u40::u41::u42::u43::u44::u45::u46::u47::u48::u49::u50::u51::u52::u53::u54::u55::u56::u57::u58::u59::u60::u61::u62::u63::u64::u65::u66::u67::u68::u69::u70::u71::u72::u73::u74::u75::u76::u77::u78::u79::u80::u81::u82::u83::u84::u85::u86::u87::u88::u89::u90::u91::u92::u93::u94::u95::u96::u97::u98::u99::u100::u101::u102::u103::u104::u105::u106::u107::u108::u109::u110::u111::u112::u113::u114::u115::u116::u117::u118::u119::u120::u121::u122::u123::u124::u125::u126::u127::u128::u129::u130::u131::u132::u133::u134::u135::[]),defers:=[] } w:=by
 obtain rfl:=B4 (ho.symm.trans (rfl:Dt Tryz.f30.body 16=some _))
 clear ho
 replace hQ:=A8 hQ
 obtain ⟨Iv,hI⟩:∃ Iv:(Nat->Bool)->Act->World->Prop,∀ l a W,Iv l a W↔(∃ s75 s76 s77 s78 s79 s80 s81 s82 s83 s84 s85 s86 s87 s88 s89 s90 s91 s92:Value,a={ tmps:=List.toArray (u0::u1::u2::.pointer (some ⟨tb,0,none⟩)::u4::u5::u6::.slice (some ⟨rb,0,none⟩) n n::u8::u9::.int .i64 q::u11::u12::u13::u14::u15::u16::u17::u18::u19::u20::u21::u22::u23::u24::u25::u26::u27::u28::u29::u30::u31::u32::u33::u34::u35::u36::u37::u38::u39::u40::u41::u42::u43::u44::u45::u46::u47::u48::u49::u50::u51::u52::u53::u54::u55::u56::u57::u58::u59::u60::u61::u62::u63::u64::u65::u66::u67::u68::u69::u70::u71::u72::u73::u74::s75::s76::s77::s78::s79::s80::s81::s82::s83::s84::s85::s86::s87::s88::s89::s90::s91::s92::u93::u94::u95::u96::u97::u98::u99::u100::u101::u102::u103::u104::u105::u106::u107::u108::u109::u110::u111::u112::u113::u114::u115::u116::u117::u118::u119::u120::u121::u122::u123::u124::u125::u126::u127::u128::u129::u130::u131::u132::u133::u134::u135::[]),defers:=[] }/\Dr [cb] w W/\Vs [(0,.pointer (some ⟨tb,0,none⟩),s75),(1,.pointer (some ⟨tb,0,none⟩),s76),(2,.pointer (some ⟨tb,1,none⟩),s77),(3,.slice (some ⟨cb,0,none⟩) n n,s78),(4,.int .i64 q,s79),(5,.pointer (some ⟨tb,0,none⟩),s80),(6,.pointer (some ⟨tb,0,none⟩),s81),(7,.pointer (some ⟨tb,1,none⟩),s82),(8,.slice (some ⟨cb,0,none⟩) n n,s83),(9,.int .i64 q,s84),(10,.pointer (some ⟨cb,q*12,none⟩),s85),(12,.slice (some ⟨rb,0,none⟩) n n,s87),(13,.int .i64 q,s88),(14,.pointer (some ⟨rb,q*12,none⟩),s89),(16,.agg (wc (wd (G q-Fr q))),s91),(17,.pointer (some ⟨cb,q*12,none⟩),s92)] l/\(l 11=true->s86=.agg (wc (wd (G q))))/\(l 15=true->s90=.agg (wc (wd (Fr q))))/\((l 18=false->Ez W cb n G)/\(l 18=true->Ez W cb n (DL G q (G q-Fr q))))):=⟨_,fun _ _ _=>B6⟩
 refine DW Iv Ab Ab ((hI _ _ _).2 ⟨_,_,_,_,_,_,_,_,_,_,_,_,_,_,_,_,_,_,rfl,(Dr.refl [cb] w).drewN 1,Vs.zero,fun h=>off h,fun h=>off h,⟨fun _=>hG.out.below (Dq w 1),fun h=>off h⟩⟩) (Dk (k:=0) ?_ (Dk (k:=1) ?_ (Dk (k:=2) ?_ (Dk (k:=3) ?_ (Dk (k:=4) ?_ (Dk (k:=5) ?_ (Dk (k:=6) ?_ (Dk (k:=7) ?_ (Dk (k:=8) ?_ (Dk (k:=9) ?_ (Dk (k:=10) ?_ (Dk (k:=11) ?_ (Dk (k:=12) ?_ (Dk (k:=13) ?_ (Dk (k:=14) ?_ (Dk (k:=15) ?_ (Dk (k:=16) ?_ (Dk (k:=17) ?_ (Dk (k:=18) ?_ (Du)))))))))))))))))))) ?_
 ·intro l a W hl hw hsh h K hK
  rw [hI] at h;iterate 18 obtain ⟨_,h⟩:=h
  obtain ⟨rfl,hC,hP,f11,f15,g⟩:=h;go_simp;apply hK.out;rw [hI];iterate 18 apply Exists.intro
  exact ⟨rfl,hC,hP.put 0 rfl rfl rfl,f11,f15,g⟩
 ·intro l a W hl hw hsh h K hK
  rw [hI] at h;iterate 18 obtain ⟨_,h⟩:=h
  obtain ⟨rfl,hC,hP,f11,f15,g⟩:=h;obtain rfl:=hP.get 0 rfl (hw 0 Ab);go_simp;apply hK.out;rw [hI];iterate 18 apply Exists.intro
  exact ⟨rfl,hC,hP.put 1 rfl rfl rfl,f11,f15,g⟩
 ·intro l a W hl hw hsh h K hK
  rw [hI] at h;iterate 18 obtain ⟨_,h⟩:=h
  obtain ⟨rfl,hC,hP,f11,f15,g⟩:=h;obtain rfl:=hP.get 1 rfl (hw 1 Ab);go_simp;apply hK.out;rw [hI];iterate 18 apply Exists.intro
  exact ⟨rfl,hC,hP.put 2 rfl rfl rfl,f11,f15,g⟩
 ·intro l a W hl hw hsh h K hK
  rw [hI] at h;iterate 18 obtain ⟨_,h⟩:=h
  obtain ⟨rfl,hC,hP,f11,f15,g⟩:=h;obtain rfl:=hP.get 2 rfl (hw 2 Ab);have x1:=(hC.cell (p:=⟨tb,1,none⟩) h1.out.1 (by simpa using htc.out)).trans h1.out.2;go_simp;apply hK.out;rw [hI];iterate 18 apply Exists.intro
  exact ⟨rfl,hC,hP.put 3 rfl rfl rfl,f11,f15,g⟩
 ·intro l a W hl hw hsh h K hK
  rw [hI] at h;iterate 18 obtain ⟨_,h⟩:=h
  obtain ⟨rfl,hC,hP,f11,f15,g⟩:=h;go_simp;apply hK.out;rw [hI];iterate 18 apply Exists.intro
  exact ⟨rfl,hC,hP.put 4 rfl rfl rfl,f11,f15,g⟩
 ·intro l a W hl hw hsh h K hK
  rw [hI] at h;iterate 18 obtain ⟨_,h⟩:=h
  obtain ⟨rfl,hC,hP,f11,f15,g⟩:=h;go_simp;apply hK.out;rw [hI];iterate 18 apply Exists.intro
  exact ⟨rfl,hC,hP.put 5 rfl rfl rfl,f11,f15,g⟩
 ·intro l a W hl hw hsh h K hK
  rw [hI] at h;iterate 18 obtain ⟨_,h⟩:=h
  obtain ⟨rfl,hC,hP,f11,f15,g⟩:=h;obtain rfl:=hP.get 5 rfl (hw 5 Ab);go_simp;apply hK.out;rw [hI];iterate 18 apply Exists.intro
  exact ⟨rfl,hC,hP.put 6 rfl rfl rfl,f11,f15,g⟩
 ·intro l a W hl hw hsh h K hK
  rw [hI] at h;iterate 18 obtain ⟨_,h⟩:=h
  obtain ⟨rfl,hC,hP,f11,f15,g⟩:=h;obtain rfl:=hP.get 6 rfl (hw 6 Ab);go_simp;apply hK.out;rw [hI];iterate 18 apply Exists.intro
  exact ⟨rfl,hC,hP.put 7 rfl rfl rfl,f11,f15,g⟩
 ·intro l a W hl hw hsh h K hK
  rw [hI] at h;iterate 18 obtain ⟨_,h⟩:=h
  obtain ⟨rfl,hC,hP,f11,f15,g⟩:=h;obtain rfl:=hP.get 7 rfl (hw 7 Ab);have x1:=(hC.cell (p:=⟨tb,1,none⟩) h1.out.1 (by simpa using htc.out)).trans h1.out.2;go_simp;apply hK.out;rw [hI];iterate 18 apply Exists.intro
  exact ⟨rfl,hC,hP.put 8 rfl rfl rfl,f11,f15,g⟩
 ·intro l a W hl hw hsh h K hK
  rw [hI] at h;iterate 18 obtain ⟨_,h⟩:=h
  obtain ⟨rfl,hC,hP,f11,f15,g⟩:=h;go_simp;apply hK.out;rw [hI];iterate 18 apply Exists.intro
  exact ⟨rfl,hC,hP.put 9 rfl rfl rfl,f11,f15,g⟩
 ·intro l a W hl hw hsh h K hK
  rw [hI] at h;iterate 18 obtain ⟨_,h⟩:=h
  obtain ⟨rfl,hC,hP,f11,f15,g⟩:=h;obtain rfl:=hP.get 8 rfl (hw 8 Ab);obtain rfl:=hP.get 9 rfl (hw 9 Ab);go_simp;apply hK.out;rw [hI];iterate 18 apply Exists.intro
  exact ⟨rfl,hC,hP.put 10 rfl rfl rfl,f11,f15,g⟩
 ·intro l a W hl hw hsh h K hK
  rw [hI] at h;iterate 18 obtain ⟨_,h⟩:=h
  obtain ⟨rfl,hC,hP,f11,f15,g⟩:=h;obtain rfl:=hP.get 10 rfl (hw 10 Ab);rw [AU (by rfl)];have hst:l 18=false:=by
   cases hc:l 18 with
   | false=>rfl
   | true=>exact absurd (hsh 16 11 _ rfl (hsh 18 16 _ rfl hc Ab) Ab) (by simp [hl])
  have hrng:=(g.1 hst).row.rd q hq;refine wp_load_mid _ _ rfl _ _ rfl (wl (wd (G q))) _ hrng Io rfl (Gu _) ?_;apply hK.out;rw [hI];iterate 18 apply Exists.intro
  exact ⟨rfl,hC,hP.skip 11 rfl,fun _=>rfl,f15,g⟩
 ·intro l a W hl hw hsh h K hK
  rw [hI] at h;iterate 18 obtain ⟨_,h⟩:=h
  obtain ⟨rfl,hC,hP,f11,f15,g⟩:=h;go_simp;apply hK.out;rw [hI];iterate 18 apply Exists.intro
  exact ⟨rfl,hC,hP.put 11 rfl rfl rfl,f11,f15,g⟩
 ·intro l a W hl hw hsh h K hK
  rw [hI] at h;iterate 18 obtain ⟨_,h⟩:=h
  obtain ⟨rfl,hC,hP,f11,f15,g⟩:=h;go_simp;apply hK.out;rw [hI];iterate 18 apply Exists.intro
  exact ⟨rfl,hC,hP.put 12 rfl rfl rfl,f11,f15,g⟩
 ·intro l a W hl hw hsh h K hK
  rw [hI] at h;iterate 18 obtain ⟨_,h⟩:=h
  obtain ⟨rfl,hC,hP,f11,f15,g⟩:=h;obtain rfl:=hP.get 11 rfl (hw 12 Ab);obtain rfl:=hP.get 12 rfl (hw 13 Ab);go_simp;apply hK.out;rw [hI];iterate 18 apply Exists.intro
  exact ⟨rfl,hC,hP.put 13 rfl rfl rfl,f11,f15,g⟩
 ·intro l a W hl hw hsh h K hK
  rw [hI] at h;iterate 18 obtain ⟨_,h⟩:=h
  obtain ⟨rfl,hC,hP,f11,f15,g⟩:=h;obtain rfl:=hP.get 13 rfl (hw 14 Ab);rw [AU (by rfl)];have hrng:=(hF.out.only hC (by simpa using hrc.out)).row.rd q hq;refine wp_load_mid _ _ rfl _ _ rfl (wl (wd (Fr q))) _ hrng Io rfl (Gu _) ?_;apply hK.out;rw [hI];iterate 18 apply Exists.intro
  exact ⟨rfl,hC,hP.skip 15 rfl,f11,fun _=>rfl,g⟩
 ·intro l a W hl hw hsh h K hK
  rw [hI] at h;iterate 18 obtain ⟨_,h⟩:=h
  obtain ⟨rfl,hC,hP,f11,f15,g⟩:=h;obtain rfl:=f11 (hw 11 Ab);obtain rfl:=f15 (hw 15 Ab);go_simp;go_at_call 32;refine Calls.mono (FY (G q) (Fr q) _) ?_;rintro e W2 ⟨rfl,hb⟩;apply hK.out;rw [hI];iterate 18 apply Exists.intro
  exact ⟨rfl,hC.below hb,hP.put 14 rfl rfl rfl,f11,f15,⟨fun h=>(g.1 h).below hb,fun h=>(g.2 h).below hb⟩⟩
 ·intro l a W hl hw hsh h K hK
  rw [hI] at h;iterate 18 obtain ⟨_,h⟩:=h
  obtain ⟨rfl,hC,hP,f11,f15,g⟩:=h;obtain rfl:=hP.get 3 rfl (hw 3 Ab);obtain rfl:=hP.get 4 rfl (hw 4 Ab);go_simp;apply hK.out;rw [hI];iterate 18 apply Exists.intro
  exact ⟨rfl,hC,hP.put 15 rfl rfl rfl,f11,f15,g⟩
 ·intro l a W hl hw hsh h K hK
  rw [hI] at h;iterate 18 obtain ⟨_,h⟩:=h
  obtain ⟨rfl,hC,hP,f11,f15,g⟩:=h;obtain rfl:=hP.get 14 rfl (hw 16 Ab);obtain rfl:=hP.get 15 rfl (hw 17 Ab);rw [AU (by rfl)];have hst:l 18=false:=hl;have hG1:=g.1 hst;refine wp_store_mid _ _ _ rfl _ _ (wl (wd (G q-Fr q))).toArray rfl rfl (by rw [BH];exact hG1.row.wr q hq) (by rw [BH];exact Gu _) (all_oneCell_toArray (JC _)) ?_;rw [Cm];apply hK.out;rw [hI];iterate 18 apply Exists.intro
  exact ⟨rfl,hC.trans (Dx _ _ _),hP.skip 18 rfl,f11,f15,⟨fun h=>off h.symm,fun _=>hG1.set hq _⟩⟩
 ·intro a W hI'
  have h:=(hI _ _ _).1 hI';clear hI';iterate 18 obtain ⟨_,h⟩:=h
  obtain ⟨rfl,hC,hP,f11,f15,g⟩:=h;clear f11;clear f15;exact hQ.out _ _ _ _ _ _ _ _ _ _ _ _ _ _ _ _ _ _ _ hC (g.2 Ab)
theorem UQ {Q:Exit->Act->World->Prop} {u0 u2 u3 u5 u6 u8 u9 u10 u11 u12 u13 u14 u15 u16 u17 u18 u19 u20 u21 u22 u23 u24 u25 u26 u27 u28 u29 u30 u31 u32 u33 u34 u35 u36 u37 u38 u39 u40 u41 u42 u43 u44 u45 u46 u47 u48 u49 u50 u51 u52 u53 u54 u55 u56 u57 u58 u59 u60 u61 u62 u63 u64 u65 u66 u67 u68 u69 u70 u71 u72 u73 u74 u75 u76 u77 u78 u79 u80 u81 u82 u83 u84 u85 u86 u87 u88 u89 u90 u91 u92 u93 u94 u95 u96 u97 u98 u99 u100 u101 u102 u103 u104 u105 u106 u107 u108 u109 u110 u111 u112 u113 u114 u115 u116 u117 u118 u119 u120 u121 u122 u123 u124 u125 u126 u127 u128 u129 u130 u131 u132 u133 u134 u135:Value} {xB rb n cols i q:Nat} {Fr:Nat->Int} {w:World} (hqe:IntKind.i64.wrap ((cols:Int)+i)=q) (hq:q<n) (hqi:(q:Int)<n) (hq0:(0:Int)<=q) (h1:Hid (xB<w.heap.size/\w.cell? ⟨xB,0,none⟩=some (.int .i64 cols))) (hF:Hid (Ez w rb n Fr)) (hxr:Hid (xB≠rb)) {ops:Array Oper} (ho:Dt Tryz.f30.body 18=some ops)
  (hQ:∀ (v94 v95 v96 v97 v98 v99 v100:Value)  (W':World),Dr [rb] w W'->Ez W' rb n (DL Fr q 1)->Q .normal { tmps:=List.toArray (u0::.pointer (some ⟨xB,0,none⟩)::u2::u3::.int .i64 i::u5::u6::.slice (some ⟨rb,0,none⟩) n n::u8::u9::u10::u11::u12::u13::u14::u15::u16::u17::u18::u19::u20::u21::u22::u23::u24::u25::u26::u27::u28::u29::u30::u31::u32::u33::u34::u35::u36::u37::u38::u39::u40::u41::u42::u43::u44::u45::u46::u47::u48::u49::u50::u51::u52::u53::u54::u55::u56::u57::u58::u59::u60::u61::u62::u63::u64::u65::u66::u67::u68::u69::u70::u71::u72::u73::u74::u75::u76::u77::u78::u79::u80::u81::u82::u83::u84::u85::u86::u87::u88::u89::u90::u91::u92::u93::v94::v95::v96::v97::v98::v99::v100::u101::u102::u103::u104::u105::u106::u107::u108::u109::u110::u111::u112::u113::u114::u115::u116::u117::u118::u119::u120::u121::u122::u123::u124::u125::u126::u127::u128::u129::u130::u131::u132::u133::u134::u135::[]),defers:=[] } W') :
  (Code.region 18 ops true).wp Tryz.prog Q { tmps:=List.toArray (u0::.pointer (some ⟨xB,0,none⟩)::u2::u3::.int .i64 i::u5::u6::.slice (some ⟨rb,0,none⟩) n n::u8::u9::u10::u11::u12::u13::u14::u15::u16::u17::u18::u19::u20::u21::u22::u23::u24::u25::u26::u27::u28::u29::u30::u31::u32::u33::u34::u35::u36::u37::u38::u39::u40::u41::u42::u43::u44::u45::u46::u47::u48::u49::u50::u51::u52::u53::u54::u55::u56::u57::u58::u59::u60::u61::u62::u63::u64::u65::u66::u67::u68::u69::u70::u71::u72::u73::u74::u75::u76::u77::u78::u79::u80::u81::u82::u83::u84::u85::u86::u87::u88::u89::u90::u91::u92::u93::u94::u95::u96::u97::u98::u99::u100::u101::u102::u103::u104::u105::u106::u107::u108::u109::u110::u111::u112::u113::u114::u115::u116::u117::u118::u119::u120::u121::u122::u123::u124::u125::u126::u127::u128::u129::u130::u131::u132::u133::u134::u135::[]),defers:=[] } w:=by
 obtain rfl:=B4 (ho.symm.trans (rfl:Dt Tryz.f30.body 18=some _))
 clear ho
 replace hQ:=A8 hQ
 obtain ⟨Iv,hI⟩:∃ Iv:(Nat->Bool)->Act->World->Prop,∀ l a W,Iv l a W↔(∃ s94 s95 s96 s97 s98 s99 s100:Value,a={ tmps:=List.toArray (u0::.pointer (some ⟨xB,0,none⟩)::u2::u3::.int .i64 i::u5::u6::.slice (some ⟨rb,0,none⟩) n n::u8::u9::u10::u11::u12::u13::u14::u15::u16::u17::u18::u19::u20::u21::u22::u23::u24::u25::u26::u27::u28::u29::u30::u31::u32::u33::u34::u35::u36::u37::u38::u39::u40::u41::u42::u43::u44::u45::u46::u47::u48::u49::u50::u51::u52::u53::u54::u55::u56::u57::u58::u59::u60::u61::u62::u63::u64::u65::u66::u67::u68::u69::u70::u71::u72::u73::u74::u75::u76::u77::u78::u79::u80::u81::u82::u83::u84::u85::u86::u87::u88::u89::u90::u91::u92::u93::s94::s95::s96::s97::s98::s99::s100::u101::u102::u103::u104::u105::u106::u107::u108::u109::u110::u111::u112::u113::u114::u115::u116::u117::u118::u119::u120::u121::u122::u123::u124::u125::u126::u127::u128::u129::u130::u131::u132::u133::u134::u135::[]),defers:=[] }/\Dr [rb] w W/\Vs [(0,.slice (some ⟨rb,0,none⟩) n n,s94),(1,.pointer (some ⟨xB,0,none⟩),s95),(2,.int .i64 cols,s96),(3,.int .i64 i,s97),(4,.int .i64 q,s98),(5,.agg (wc (wd 1)),s99),(6,.pointer (some ⟨rb,q*12,none⟩),s100)] l/\((l 7=false->Ez W rb n Fr)/\(l 7=true->Ez W rb n (DL Fr q 1)))):=⟨_,fun _ _ _=>B6⟩
 refine DW Iv Ab Ab ((hI _ _ _).2 ⟨_,_,_,_,_,_,_,rfl,(Dr.refl [rb] w).drewN 1,Vs.zero,⟨fun _=>hF.out.below (Dq w 1),fun h=>off h⟩⟩) (Dk (k:=0) ?_ (Dk (k:=1) ?_ (Dk (k:=2) ?_ (Dk (k:=3) ?_ (Dk (k:=4) ?_ (Dk (k:=5) ?_ (Dk (k:=6) ?_ (Dk (k:=7) ?_ (Du))))))))) ?_
 ·intro l a W hl hw hsh h K hK
  rw [hI] at h;iterate 7 obtain ⟨_,h⟩:=h
  obtain ⟨rfl,hC,hP,g⟩:=h;go_simp;apply hK.out;rw [hI];iterate 7 apply Exists.intro
  exact ⟨rfl,hC,hP.put 0 rfl rfl rfl,g⟩
 ·intro l a W hl hw hsh h K hK
  rw [hI] at h;iterate 7 obtain ⟨_,h⟩:=h
  obtain ⟨rfl,hC,hP,g⟩:=h;go_simp;apply hK.out;rw [hI];iterate 7 apply Exists.intro
  exact ⟨rfl,hC,hP.put 1 rfl rfl rfl,g⟩
 ·intro l a W hl hw hsh h K hK
  rw [hI] at h;iterate 7 obtain ⟨_,h⟩:=h
  obtain ⟨rfl,hC,hP,g⟩:=h;obtain rfl:=hP.get 1 rfl (hw 1 Ab);have x1:=(hC.cell (p:=⟨xB,0,none⟩) h1.out.1 (by simpa using hxr.out)).trans h1.out.2;go_simp;apply hK.out;rw [hI];iterate 7 apply Exists.intro
  exact ⟨rfl,hC,hP.put 2 rfl rfl rfl,g⟩
 ·intro l a W hl hw hsh h K hK
  rw [hI] at h;iterate 7 obtain ⟨_,h⟩:=h
  obtain ⟨rfl,hC,hP,g⟩:=h;go_simp;apply hK.out;rw [hI];iterate 7 apply Exists.intro
  exact ⟨rfl,hC,hP.put 3 rfl rfl rfl,g⟩
 ·intro l a W hl hw hsh h K hK
  rw [hI] at h;iterate 7 obtain ⟨_,h⟩:=h
  obtain ⟨rfl,hC,hP,g⟩:=h;obtain rfl:=hP.get 2 rfl (hw 2 Ab);obtain rfl:=hP.get 3 rfl (hw 3 Ab);go_simp;apply hK.out;rw [hI];iterate 7 apply Exists.intro
  exact ⟨rfl,hC,hP.put 4 rfl rfl rfl,g⟩
 ·intro l a W hl hw hsh h K hK
  rw [hI] at h;iterate 7 obtain ⟨_,h⟩:=h
  obtain ⟨rfl,hC,hP,g⟩:=h;go_simp;go_at_call 68;refine Calls.mono (K0 1 (by unfold Dy;omega) _) ?_;rintro e W2 ⟨rfl,hb⟩;apply hK.out;rw [hI];iterate 7 apply Exists.intro
  exact ⟨rfl,hC.below hb,hP.put 5 rfl rfl rfl,⟨fun h=>(g.1 h).below hb,fun h=>(g.2 h).below hb⟩⟩
 ·intro l a W hl hw hsh h K hK
  rw [hI] at h;iterate 7 obtain ⟨_,h⟩:=h
  obtain ⟨rfl,hC,hP,g⟩:=h;obtain rfl:=hP.get 0 rfl (hw 0 Ab);obtain rfl:=hP.get 4 rfl (hw 4 Ab);go_simp;apply hK.out;rw [hI];iterate 7 apply Exists.intro
  exact ⟨rfl,hC,hP.put 6 rfl rfl rfl,g⟩
 ·intro l a W hl hw hsh h K hK
  rw [hI] at h;iterate 7 obtain ⟨_,h⟩:=h
  obtain ⟨rfl,hC,hP,g⟩:=h;obtain rfl:=hP.get 5 rfl (hw 5 Ab);obtain rfl:=hP.get 6 rfl (hw 6 Ab);rw [AU (by rfl)];have hG1:=g.1 hl;refine wp_store_mid _ _ _ rfl _ _ (wl (wd 1)).toArray rfl rfl (by rw [BH];exact hG1.row.wr q hq) (by rw [BH];exact Gu _) (all_oneCell_toArray (JC _)) ?_;rw [Cm];apply hK.out;rw [hI];iterate 7 apply Exists.intro
  exact ⟨rfl,hC.trans (Dx _ _ _),hP.skip 7 rfl,⟨fun h=>off h.symm,fun _=>hG1.set hq _⟩⟩
 ·intro a W hI'
  have h:=(hI _ _ _).1 hI';clear hI';iterate 7 obtain ⟨_,h⟩:=h
  obtain ⟨rfl,hC,hP,g⟩:=h;exact hQ.out _ _ _ _ _ _ _ _ hC (g.2 Ab)
end
section
open Go.RowKit
open LnM (wd DL sm)
attribute [local go_sem] Oper.semAt_some
def Dl (rows:List (List Int×Int)) (i:Nat):List Int×Int:=rows[i]?.getD ([],0)
def El (rows:List (List Int×Int)) (i:Nat):Int:=if (Dl rows i).2<0 then -1 else 1
def DZ (cols:Nat) (rows:List (List Int×Int)):LnM.Sys where
 m:=rows.length
 n:=cols
 S:=fun i j=>if j<cols then El rows i*gi (Dl rows i).1 j else if j<cols+rows.length then (if i=j-cols then 1 else 0) else El rows i*(Dl rows i).2
theorem QT (cols:Nat) (rows:List (List Int×Int)):(DZ cols rows).Ok:=by
 refine ⟨fun i _ l hl=>?_,fun i _=>?_⟩
 ·show (if cols+l<cols then _ else if cols+l<cols+rows.length then (if i=cols+l-cols then (1:Int) else 0) else _)=_
  have hl':l<rows.length:=hl;rw [AP Ad,AU Ad,Nat.add_sub_cancel_left]
 ·show 0<=(if cols+rows.length<cols then _ else if cols+rows.length<cols+rows.length then _ else _)
  rw [AP Ad,AP Ad];unfold El;split <;> omega
def Li (s:LnM.Sys) (c:Nat):Nat:=if c=s.n then s.n+s.m else c
def Fi (s:LnM.Sys) (i c j:Nat):Int:=if (j<s.n/\j<c)∨(j=s.n+s.m/\s.n<c) then s.S i j else 0
def Ft (s:LnM.Sys) (i j:Nat):Int:=if j<s.n∨j=s.n+s.m then -sm i (fun r=>s.S r j) else 0
theorem Na (s:LnM.Sys) (i j:Nat):Fi s i 0 j=0:=AP Ad
theorem qOf_lt {s:LnM.Sys} {c:Nat} (h:c<=s.n):Li s c<s.n+s.m+1:=by unfold Li;split <;> omega
theorem rowF_q {s:LnM.Sys} {i c:Nat} (h:c<=s.n):Fi s i c (Li s c)=0:=by
 unfold Fi Li;split <;> exact AP Ad
theorem Nb {s:LnM.Sys} {i c:Nat} (h:c<=s.n) {j:Nat} (hj:j<s.n+s.m+1):DL (Fi s i c) (Li s c) (s.S i (Li s c)) j=Fi s i (c+1) j:=by
 unfold DL;by_cases e:j=Li s c
 ·subst e
  rw [AU rfl];unfold Fi;rw [AU];unfold Li;split <;> omega
 ·rw [AP e]
  unfold Fi;unfold Li at e;by_cases hc:c=s.n
  ·rw [AU hc] at e
   by_cases h1:(j<s.n/\j<c)∨(j=s.n+s.m/\s.n<c)
   ·rw [AU h1,AU Ad]
   ·rw [AP h1,AP Ad]
  ·rw [AP hc] at e
   by_cases h1:(j<s.n/\j<c)∨(j=s.n+s.m/\s.n<c)
   ·rw [AU h1,AU Ad]
   ·rw [AP h1,AP Ad]
theorem Tl {s:LnM.Sys} (ho:s.Ok) {i:Nat} (hi:i<s.m) {j:Nat} (hj:j<s.n+s.m+1):DL (Fi s i (s.n+1)) (s.n+i) 1 j=s.S i j:=by
 unfold DL;by_cases e:j=s.n+i
 ·subst e;rw [AU rfl,ho.unit i hi i hi,AU rfl]
 ·rw [AP e]
  unfold Fi;by_cases h1:(j<s.n/\j<s.n+1)∨(j=s.n+s.m/\s.n<s.n+1)
  ·rw [AU h1]
  ·rw [AP h1]
   obtain ⟨l,rfl⟩:∃ l,j=s.n+l:=⟨j-s.n,Ad⟩;rw [ho.unit i hi l Ad,AP Ad]
theorem QU (s:LnM.Sys) (j:Nat):Ft s 0 j=0:=by unfold Ft;split <;> rfl
theorem QV {s:LnM.Sys} {i c:Nat} (h:c<=s.n) {j:Nat} (hj:j<s.n+s.m+1) :
  DL (fun j=>Ft s i j-Fi s i c j) (Li s c) (Ft s i (Li s c)-Fi s i c (Li s c)-s.S i (Li s c)) j=Ft s i j-Fi s i (c+1) j:=by
 rw [<-Nb h hj,rowF_q h]
 unfold DL
 by_cases e:j=Li s c
 ·subst e;rw [AU rfl,AU rfl];omega
 ·rw [AP e,AP e]
theorem M3 {s:LnM.Sys} {i c q:Nat} {z:Int} (hq:q=Li s c) (hz:z=s.S i q) (h:c<=s.n) {j:Nat} (hj:j<s.n+s.m+1):DL (Fi s i c) q z j=Fi s i (c+1) j:=by
 subst hz;subst hq;exact Nb h hj
theorem L2 {s:LnM.Sys} {i c q:Nat} {z:Int} (hq:q=Li s c) (hz:z=s.S i q) (h:c<=s.n) {j:Nat} (hj:j<s.n+s.m+1):DL (fun j=>Ft s i j-Fi s i c j) q (Ft s i q-Fi s i c q-z) j=Ft s i j-Fi s i (c+1) j:=by
 subst hz;subst hq;exact QV h hj
theorem QW {s:LnM.Sys} {i j:Nat}:Ft s i j-Fi s i (s.n+1) j=Ft s (i+1) j:=by
 unfold Ft Fi;by_cases h:j<s.n∨j=s.n+s.m
 ·rw [AU h,AU h,AU Ad]
  show _=-(sm i (fun r=>s.S r j)+s.S i j);omega
 ·rw [AP h,AP h,AP Ad];rfl
theorem Tm {s:LnM.Sys} (ho:s.Ok) {j:Nat} (hj:j<s.n+s.m+1):Ft s s.m j=s.C s.B0 j:=by
 have hsum:sm s.m (fun i=>s.c (s.B0 i)*s.T s.B0 i j)=sm s.m (fun i=>s.S i j):=LnM.sm_congr fun i hi=>by
  rw [LnM.T_B0 ho hi];have:s.c (s.B0 i)=1:=by unfold LnM.Sys.c LnM.Sys.B0;rw [AU Ad]
  rw [this,B7]
 unfold LnM.Sys.C;rw [LnM.d_B0 ho,B7,hsum];unfold Ft LnM.Sys.c;by_cases h:j<s.n∨j=s.n+s.m
 ·rw [AU h,AP Ad];omega
 ·rw [AP h,AU Ad]
  obtain ⟨l,rfl⟩:∃ l,j=s.n+l:=⟨j-s.n,Ad⟩;have hl:l<s.m:=by omega
  rw [LnM.sm_single hl (fun i hi hne=>by rw [ho.unit i hi l hl,AP hne]),ho.unit l hl l hl,AU rfl];omega
theorem open_l2 {Q:Exit->Act->World->Prop} {u0 u2 u4 u5 u8 u9 u10 u11 u12 u13 u14 u15 u16 u17 u18 u19 u20 u21 u22 u23 u24 u25 u26 u27 u28 u29 u30 u31 u32 u33 u34 u35 u36 u37 u38 u39 u40 u41 u42 u43 u44 u45 u46 u47 u48 u49 u50 u51 u52 u56 u57 u58 u59 u60 u61 u62 u63 u64 u65 u66 u67 u68 u69 u70 u71 u72 u73 u74 u75 u76 u77 u78 u79 u80 u81 u82 u83 u84 u85 u86 u87 u88 u89 u90 u91 u92 u93 u94 u95 u96 u97 u98 u99 u100 u101 u102 u103 u104 u105 u106 u107 u108 u109 u110 u111 u112 u113 u114 u115 u116 u117 u118 u119 u120 u121 u122 u123 u124 u125 u126 u127 u128 u129 u130 u131 u132 u133 u134 u135:Value} {xB tb rb cb g cols cap' n i:Nat} {sg c1:Int} (hc1:Hid (c1=(cols:Int)+1)) {es:List Int} {s:LnM.Sys} {w:World} (hsn:Hid (s.n=cols)) (hn:Hid (n=s.n+s.m+1)) (hn1:n<=100000) (hes:Hid (es.length=cols+1)) (hSl:Hid (Sl w (.slice (some ⟨g,0,none⟩) (cols+1) cap') es))
  (hbd:Hid (∀ c,c<=cols->IntKind.i64.wrap (sg*gi es c)=s.S i (Li s c)/\Dy (s.S i (Li s c)))) (hx:Hid (xB<w.heap.size/\w.cell? ⟨xB,0,none⟩=some (.int .i64 cols)/\xB≠rb/\xB≠cb))
  (ht:Hid (tb<w.heap.size/\w.cell? ⟨tb,1,none⟩=some (.slice (some ⟨cb,0,none⟩) n n)/\tb≠rb/\tb≠cb)) (hrc:Hid (rb≠cb)) (hg:Hid (g≠rb/\g≠cb))
  (hR:Hid (Ez w rb n (Fi s i 0))) (hC:Hid (Ez w cb n (fun j=>Ft s i j-Fi s i 0 j))) {body:Code} (hbody:EN Tryz.f30.body 2=some body)
  (hQ:∀ (v8 v9 v10 v55 v56 v57 v58 v59 v60 v61 v62 v63 v64 v65 v66 v67 v68 v69 v70 v71 v72 v73 v74 v75 v76 v77 v78 v79 v80 v81 v82 v83 v84 v85 v86 v87 v88 v89 v90 v91 v92 v93:Value) (W':World),Dr [rb,cb] w W'->Ez W' rb n (Fi s i (cols+1))->Ez W' cb n (fun j=>Ft s i j-Fi s i (cols+1) j)->Q (.exit 2) { tmps:=List.toArray (u0::.pointer (some ⟨xB,0,none⟩)::u2::.pointer (some ⟨tb,0,none⟩)::u4::u5::.int .i64 sg::.slice (some ⟨rb,0,none⟩) n n::v8::v9::v10::u11::u12::u13::u14::u15::u16::u17::u18::u19::u20::u21::u22::u23::u24::u25::u26::u27::u28::u29::u30::u31::u32::u33::u34::u35::u36::u37::u38::u39::u40::u41::u42::u43::u44::u45::u46::u47::u48::u49::u50::u51::u52::.slice (some ⟨g,0,none⟩) (cols+1) cap'::.int .i64 c1::v55::v56::v57::v58::v59::v60::v61::v62::v63::v64::v65::v66::v67::v68::v69::v70::v71::v72::v73::v74::v75::v76::v77::v78::v79::v80::v81::v82::v83::v84::v85::v86::v87::v88::v89::v90::v91::v92::v93::u94::u95::u96::u97::u98::u99::u100::u101::u102::u103::u104::u105::u106::u107::u108::u109::u110::u111::u112::u113::u114::u115::u116::u117::u118::u119::u120::u121::u122::u123::u124::u125::u126::u127::u128::u129::u130::u131::u132::u133::u134::u135::[]),defers:=[] } W') :
  (Code.loop body).wp Tryz.prog Q { tmps:=List.toArray (u0::.pointer (some ⟨xB,0,none⟩)::u2::.pointer (some ⟨tb,0,none⟩)::u4::u5::.int .i64 sg::.slice (some ⟨rb,0,none⟩) n n::u8::u9::u10::u11::u12::u13::u14::u15::u16::u17::u18::u19::u20::u21::u22::u23::u24::u25::u26::u27::u28::u29::u30::u31::u32::u33::u34::u35::u36::u37::u38::u39::u40::u41::u42::u43::u44::u45::u46::u47::u48::u49::u50::u51::u52::.slice (some ⟨g,0,none⟩) (cols+1) cap'::.int .i64 c1::.int .i64 0::u56::u57::u58::u59::u60::u61::u62::u63::u64::u65::u66::u67::u68::u69::u70::u71::u72::u73::u74::u75::u76::u77::u78::u79::u80::u81::u82::u83::u84::u85::u86::u87::u88::u89::u90::u91::u92::u93::u94::u95::u96::u97::u98::u99::u100::u101::u102::u103::u104::u105::u106::u107::u108::u109::u110::u111::u112::u113::u114::u115::u116::u117::u118::u119::u120::u121::u122::u123::u124::u125::u126::u127::u128::u129::u130::u131::u132::u133::u134::u135::[]),defers:=[] } w:=by
 obtain rfl:=B4 (hbody.symm.trans (rfl:EN Tryz.f30.body 2=some _))
 clear hbody
 replace hQ:=A8 hQ
 go_loopw [55] (fun o wr=>∃ c:Nat,o=.int .i64 c/\c<=cols+1/\Hid (Dr [rb,cb] w wr)/\Hid (Ez wr rb n (Fi s i c))/\Hid (Ez wr cb n (fun j=>Ft s i j-Fi s i c j))) (fun o _=>cols+1-(intOf o).toNat)
 case atStart=>exact ⟨0,rfl,Ad,A8 (Dr.refl _ _),hR,hC⟩
 case round =>
  clear hR hC;obtain ⟨c,rfl,hc,hO,hR,hC⟩:=hrel;by_cases hcl:c<cols+1;case neg =>
   obtain rfl:c=cols+1:=by omega
   have h1:¬ ((cols:Int)+1)<c1:=by rw [hc1.out];omega
   have h1b:¬ ((cols+1:Nat):Int)<c1:=by rw [hc1.out];omega
   go_wp2_with fail;exact hQ.out _ _ _ _ _ _ _ _ _ _ _ _ _ _ _ _ _ _ _ _ _ _ _ _ _ _ _ _ _ _ _ _ _ _ _ _ _ _ _ _ _ _ _ hO.out hR.out hC.out
  case pos =>
   have hcn:c<n:=by have:=hn.out;have:=hsn.out;omega
   have h1:(c:Int)<c1:=by rw [hc1.out];omega
   have h2:(c:Int)<(cols:Int)+1:=by omega
   have h0:(0:Int)<=c:=by omega
   have x0:wr.cell? ⟨g,c,none⟩=some (.int .i64 (gi es c)):=by
    rcases hSl.out with ⟨e,_⟩ | ⟨b,off,cap,e,k1,k2,k3,k4⟩
    ·cases e
    ·rw [hes.out] at e
     cases e;have:=(hO.out.cell (p:=⟨g,0+c,none⟩) k3 (by simpa using hg.out)).trans (k4 c (by rw [hes.out];omega));rwa [BN] at this
   have x1:=(hO.out.cell (p:=⟨xB,0,none⟩) hx.out.1 (by simpa using hx.out.2.2)).trans hx.out.2.1;obtain ⟨hz,hzf⟩:=hbd.out c Ad;obtain ⟨q,hq⟩:∃ q,q=Li s c:=⟨_,rfl⟩;have hqn:q<n:=by rw [hq,hn.out];exact qOf_lt (by rw [hsn.out];omega)
   rw [<-hq] at hz hzf;obtain ⟨z,hzz⟩:∃ z,z=s.S i q:=⟨_,rfl⟩;rw [<-hzz] at hz hzf;generalize gi es c=e at *
   have hqi:(q:Int)<n:=by omega
   have hq0:(0:Int)<=q:=by omega
   have hq':=A8 hq;have hzz':=A8 hzz;replace hzf:=A8 hzf;clear hzz;by_cases hcc:c=cols
   ·have hw1:IntKind.i64.wrap ((n:Int)-1)=q:=by
     rw [BT _ Ad];have:q=s.n+s.m:=by rw [hq,hcc];unfold Li;rw [AU hsn.out.symm]
     have:=hn.out;omega
    have hce:((c:Int)==(cols:Int))=true:=by simp [hcc]
    replace hcc:=A8 hcc
    clear hq
    go_wp2_with fail
    refine Calls.mono (K0 z hzf.out _) ?_
    rintro e2 w1 ⟨rfl,hb⟩
    have hO1:=A8 (hO.out.below hb)
    have R1:=A8 (hR.out.below hb)
    have C1:=A8 (hC.out.below hb)
    clear x0 x1 hb
    obtain ⟨b0,b1,b2,b3,b4,b5,b6,b7,b8,b9,b10,b11⟩:=Eo (R1.out.row.rd q hqn)
    have f0:w1.frozen? ⟨rb,q*12,none⟩=false:=(R1.out.row.wr q hqn 0 Ae).2
    have f1:w1.frozen? ⟨rb,q*12+1,none⟩=false:=(R1.out.row.wr q hqn 1 Ae).2
    have f2:w1.frozen? ⟨rb,q*12+2,none⟩=false:=(R1.out.row.wr q hqn 2 Ae).2
    have f3:w1.frozen? ⟨rb,q*12+3,none⟩=false:=(R1.out.row.wr q hqn 3 Ae).2
    have f4:w1.frozen? ⟨rb,q*12+4,none⟩=false:=(R1.out.row.wr q hqn 4 Ae).2
    have f5:w1.frozen? ⟨rb,q*12+5,none⟩=false:=(R1.out.row.wr q hqn 5 Ae).2
    have f6:w1.frozen? ⟨rb,q*12+6,none⟩=false:=(R1.out.row.wr q hqn 6 Ae).2
    have f7:w1.frozen? ⟨rb,q*12+7,none⟩=false:=(R1.out.row.wr q hqn 7 Ae).2
    have f8:w1.frozen? ⟨rb,q*12+8,none⟩=false:=(R1.out.row.wr q hqn 8 Ae).2
    have f9:w1.frozen? ⟨rb,q*12+9,none⟩=false:=(R1.out.row.wr q hqn 9 Ae).2
    have f10:w1.frozen? ⟨rb,q*12+10,none⟩=false:=(R1.out.row.wr q hqn 10 Ae).2
    have f11:w1.frozen? ⟨rb,q*12+11,none⟩=false:=(R1.out.row.wr q hqn 11 Ae).2
    have R2:=R1.out.set hqn z
    go_upto_region 16 with fail
    obtain ⟨W2,hW2⟩:∃ W2,W2=w1.setCells rb (q*12) (wl (wd z)):=⟨_,rfl⟩
    have hOs:=Dx (B:=rb) (wl (wd z)) (q*12) w1
    rw [<-hW2] at R2 hOs
    rw [show ((((((((((((w1.setCell ⟨rb,q*12,none⟩ (.int .u64 (wd z 0))).setCell ⟨rb,q*12+1,none⟩ (.int .u64 (wd z 1))).setCell ⟨rb,q*12+2,none⟩ (.int .u64 (wd z 2))).setCell ⟨rb,q*12+3,none⟩ (.int .u64 (wd z 3))).setCell ⟨rb,q*12+4,none⟩ (.int .u64 (wd z 4))).setCell ⟨rb,q*12+5,none⟩ (.int .u64 (wd z 5))).setCell ⟨rb,q*12+6,none⟩ (.int .u64 (wd z 6))).setCell ⟨rb,q*12+7,none⟩ (.int .u64 (wd z 7))).setCell ⟨rb,q*12+8,none⟩ (.int .u64 (wd z 8))).setCell ⟨rb,q*12+9,none⟩ (.int .u64 (wd z 9))).setCell ⟨rb,q*12+10,none⟩ (.int .u64 (wd z 10))).setCell ⟨rb,q*12+11,none⟩ (.int .u64 (wd z 11)))=W2 from hW2.symm]
    clear hW2 b0 f0 b1 f1 b2 f2 b3 f3 b4 f4 b5 f5 b6 f6 b7 f7 b8 f8 b9 f9 b10 f10 b11 f11
    have C2:=C1.out.only hOs (by simpa using (fun e=>hrc.out e.symm))
    have hO2:=A8 (hO1.out.trans (hOs.mono (T:=[rb,cb]) Af))
    have t1:=A8 (⟨A9 ht.out.1 hO2.out.size,(hO2.out.cell (p:=⟨tb,1,none⟩) ht.out.1 (by simpa using ht.out.2.2)).trans ht.out.2.1⟩:tb<W2.heap.size/\W2.cell? ⟨tb,1,none⟩=some (.slice (some ⟨cb,0,none⟩) n n))
    refine PJ hqn hqi hq0 t1 (A8 C2) (A8 R2) (A8 ht.out.2.2.2) hrc Ab ?_
    intro v75 v76 v77 v78 v79 v80 v81 v82 v83 v84 v85 v86 v87 v88 v89 v90 v91 v92 W3 hO3 C3
    have R3:=R2.only hO3 (by simpa using hrc.out)
    rw [LnM.upd_same] at C3
    have hOf:=A8 (hO2.out.trans (hO3.mono (T:=[rb,cb]) Af))
    have Rf:=A8 (R3.congr (g:=Fi s i (c+1)) (fun j hj=>M3 (c:=c) hq'.out hzz'.out (by rw [hsn.out];omega) (by rw [<-hn.out];exact hj)))
    have Cf:=A8 (C3.congr (g:=fun j=>Ft s i j-Fi s i (c+1) j) (fun j hj=>L2 (c:=c) hq'.out hzz'.out (by rw [hsn.out];omega) (by rw [<-hn.out];exact hj)))
    clear R2 C2 R3 C3 hO3 t1 hO2 R1 C1 hO1 hR hC hO
    go_wp2_with fail
    go_roundw
    case rel=>exact ⟨c+1,by go_num,Ad,hOf,Rf,Cf⟩
    case measure=>simp [intOf];omega
   ·have hce:((c:Int)==(cols:Int))=false:=by simp;omega
    have hqc:q=c:=by rw [hq];unfold Li;rw [AP (by rw [hsn.out];exact hcc)]
    subst hqc;clear hq;go_wp2_with fail;refine Calls.mono (K0 z hzf.out _) ?_;rintro e2 w1 ⟨rfl,hb⟩;have hO1:=A8 (hO.out.below hb);have R1:=A8 (hR.out.below hb);have C1:=A8 (hC.out.below hb);clear x0 x1 hb;obtain ⟨b0,b1,b2,b3,b4,b5,b6,b7,b8,b9,b10,b11⟩:=Eo (R1.out.row.rd q hqn);have f0:w1.frozen? ⟨rb,q*12,none⟩=false:=(R1.out.row.wr q hqn 0 Ae).2;have f1:w1.frozen? ⟨rb,q*12+1,none⟩=false:=(R1.out.row.wr q hqn 1 Ae).2;have f2:w1.frozen? ⟨rb,q*12+2,none⟩=false:=(R1.out.row.wr q hqn 2 Ae).2;have f3:w1.frozen? ⟨rb,q*12+3,none⟩=false:=(R1.out.row.wr q hqn 3 Ae).2;have f4:w1.frozen? ⟨rb,q*12+4,none⟩=false:=(R1.out.row.wr q hqn 4 Ae).2;have f5:w1.frozen? ⟨rb,q*12+5,none⟩=false:=(R1.out.row.wr q hqn 5 Ae).2;have f6:w1.frozen? ⟨rb,q*12+6,none⟩=false:=(R1.out.row.wr q hqn 6 Ae).2;have f7:w1.frozen? ⟨rb,q*12+7,none⟩=false:=(R1.out.row.wr q hqn 7 Ae).2;have f8:w1.frozen? ⟨rb,q*12+8,none⟩=false:=(R1.out.row.wr q hqn 8 Ae).2;have f9:w1.frozen? ⟨rb,q*12+9,none⟩=false:=(R1.out.row.wr q hqn 9 Ae).2;have f10:w1.frozen? ⟨rb,q*12+10,none⟩=false:=(R1.out.row.wr q hqn 10 Ae).2;have f11:w1.frozen? ⟨rb,q*12+11,none⟩=false:=(R1.out.row.wr q hqn 11 Ae).2;have R2:=R1.out.set hqn z;go_upto_region 16 with fail;obtain ⟨W2,hW2⟩:∃ W2,W2=w1.setCells rb (q*12) (wl (wd z)):=⟨_,rfl⟩;have hOs:=Dx (B:=rb) (wl (wd z)) (q*12) w1;rw [<-hW2] at R2 hOs;rw [show ((((((((((((w1.setCell ⟨rb,q*12,none⟩ (.int .u64 (wd z 0))).setCell ⟨rb,q*12+1,none⟩ (.int .u64 (wd z 1))).setCell ⟨rb,q*12+2,none⟩ (.int .u64 (wd z 2))).setCell ⟨rb,q*12+3,none⟩ (.int .u64 (wd z 3))).setCell ⟨rb,q*12+4,none⟩ (.int .u64 (wd z 4))).setCell ⟨rb,q*12+5,none⟩ (.int .u64 (wd z 5))).setCell ⟨rb,q*12+6,none⟩ (.int .u64 (wd z 6))).setCell ⟨rb,q*12+7,none⟩ (.int .u64 (wd z 7))).setCell ⟨rb,q*12+8,none⟩ (.int .u64 (wd z 8))).setCell ⟨rb,q*12+9,none⟩ (.int .u64 (wd z 9))).setCell ⟨rb,q*12+10,none⟩ (.int .u64 (wd z 10))).setCell ⟨rb,q*12+11,none⟩ (.int .u64 (wd z 11)))=W2 from hW2.symm];clear hW2 b0 f0 b1 f1 b2 f2 b3 f3 b4 f4 b5 f5 b6 f6 b7 f7 b8 f8 b9 f9 b10 f10 b11 f11;have C2:=C1.out.only hOs (by simpa using (fun e=>hrc.out e.symm));have hO2:=A8 (hO1.out.trans (hOs.mono (T:=[rb,cb]) Af));have t1:=A8 (⟨A9 ht.out.1 hO2.out.size,(hO2.out.cell (p:=⟨tb,1,none⟩) ht.out.1 (by simpa using ht.out.2.2)).trans ht.out.2.1⟩:tb<W2.heap.size/\W2.cell? ⟨tb,1,none⟩=some (.slice (some ⟨cb,0,none⟩) n n));refine PJ hqn hqi hq0 t1 (A8 C2) (A8 R2) (A8 ht.out.2.2.2) hrc Ab ?_;intro v75 v76 v77 v78 v79 v80 v81 v82 v83 v84 v85 v86 v87 v88 v89 v90 v91 v92 W3 hO3 C3;have R3:=R2.only hO3 (by simpa using hrc.out);rw [LnM.upd_same] at C3;have hOf:=A8 (hO2.out.trans (hO3.mono (T:=[rb,cb]) Af));have Rf:=A8 (R3.congr (g:=Fi s i (q+1)) (fun j hj=>M3 (c:=q) hq'.out hzz'.out (by rw [hsn.out];omega) (by rw [<-hn.out];exact hj)));have Cf:=A8 (C3.congr (g:=fun j=>Ft s i j-Fi s i (q+1) j) (fun j hj=>L2 (c:=q) hq'.out hzz'.out (by rw [hsn.out];omega) (by rw [<-hn.out];exact hj)));clear R2 C2 R3 C3 hO3 t1 hO2 R1 C1 hO1 hR hC hO;go_wp2_with fail;go_roundw;case rel=>exact ⟨q+1,by go_num,Ad,hOf,Rf,Cf⟩
    case measure=>simp [intOf];omega
end
end Go.Proofs.YtioamkekjjkigaaGreatDoor
