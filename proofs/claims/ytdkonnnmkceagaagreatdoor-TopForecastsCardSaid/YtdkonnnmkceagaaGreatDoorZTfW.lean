/- TfW, Stay, OpG, StOpen -/
import Derived.Test.YtdkonnnmkceagaaGreatDoorZClX
import Derived.Test.YtdkonnnmkceagaaGreatDoorZDecH
import Derived.OpenShut
import Derived.ChangeStays
import Derived.ChangeBook
import Derived.ChangeOld
import Derived.ChangeShapes
import Derived.Lib.SmallJoins
import Derived.Laws.IdiomArrays
import Derived.Deep.Strs
set_option maxHeartbeats 8000000
set_option maxRecDepth 100000
namespace Go.Proofs.YtdkonnnmkceagaaGreatDoor
section
open Go.RowKit
open Clk
open DecM (Dt Gn Fi)
attribute [local go_sem] Oper.semAt_some
structure KM where
 dr:Int
 st:Int
 tl:Int
 rt:Int
 fi:Int
 rates:List Int
 qs:List Tri
 ms:List Sm
structure TP (w:World) (x:KM) (ra re sa:Value):Prop where
 ra:Sl w ra x.rates
 re:Jo w re x.qs
 sa:Nl w sa x.ms
 f1:CI x.dr
 f2:CI x.st
 f3:CI x.tl
 f4:CI x.rt
 f5:CI x.fi
 hf:∀ i,CI (gi x.rates i)
 hq:TF x.qs
 hm:∀ i,CI (CW x.ms i).loc/\CI (CW x.ms i).val
theorem P7 (z:Int) (hz:CI z) (W:World):Calls Tryz.prog 4 #[.int .i64 z,.int .i64 1] W (CM W (.tuple #[.agg #[.string (F4 z),.string (F5 z)],.int .i64 0])):=by
 have:=SM z 1 hz (by unfold CI;omega) W;rw [JE] at this;exact this
theorem of_lit (W:World):Calls Tryz.prog 4 #[.int .i64 16,.int .i64 1] W (CM W (.tuple #[.agg #[.string ⟨#[49,54]⟩,.string ⟨#[49]⟩],.int .i64 0])):=by
 have:=SM 16 1 (by unfold CI;omega) (by unfold CI;omega) W;rwa [show oV (oOf 16 1)=.tuple #[.agg #[.string ⟨#[49,54]⟩,.string ⟨#[49]⟩],.int .i64 0] by kernel_rfl] at this
theorem sl_one {W:World} {B:Nat} {z:Int} {t:TypeId} (h:CO W B #[.int .i64 z] t):Sl W (.slice (some ⟨B,0,none⟩) 1 1) [z]:=by
 refine .inr ⟨B,0,1,rfl,Af,by unfold maxLen;omega,h.lt,fun j hj=>?_⟩;match j,hj with
 | 0,_=>exact h.cell 0
def KM.v0 (x:KM):Int:=DB x.fi 2001-1000
def KM.rate (x:KM):Int:=DB x.rt 21
def KM.each (x:KM) (step:Int):Int:=DB step (2*DB x.rt 21+1)-DB x.rt 21
theorem tf_l0 {Q:Exit->Act->World->Prop} {us:List Value} {bG n svk:Nat} {sva:Option Addr} {rv gv:Value} {d tol rr v0 each:Int} {lo hi:Int->Int} {secs:List Int} {L:Ec} {w W0:World} (HS:Hid (Sl w (.slice sva n svk) secs)) (hn:Hid (n=secs.length)) (hG:Hid ((bG,#[.int .i64 d,rv,.int .i64 tol,.int .i64 rr,gv],42)∈L)) (hvb:Hid (∀ s:Int,0<=s->s<=450->-1000000<=lo s/\lo s<=v0+each*s/\v0+each*s<=hi s/\hi s<=1000000)) (PT:Hid (∀ i W,Calls Tryz.prog 8 #[.int .i64 (gi secs i),.int .i64 50] W fun e w'=>e=.returned (.int .i64 (DB (gi secs i) 50))/\W=w'))
  (BD:Hid (∀ (s:Int) W,Below w.heap.size w W->0<=s/\s<=450->Calls Tryz.prog 9 #[.agg #[.int .i64 d,rv,.int .i64 tol,.int .i64 rr,gv],.int .i64 s] W (CM W (.tuple #[.int .i64 (lo s),.int .i64 (hi s),.int .i64 0])))) (hM:Hid (CE w L [] W0)) {body:Code} (hbody:H6 Tryz.f3.body 0=some body) (hN:us.length=186) (g2:us[2]? = some (.slice sva n svk)) (g9:us[9]? = some (.slice none 0 0)) (g15:us[15]? = some (.pointer (some ⟨bG,0,none⟩))) (g22:us[22]? = some (.int .i64 0)) (g23:us[23]? = some (.int .i64 0))
  (hQ:∀ (fr:Nat->Value) (W':World),Hid (∃ (a:Int) (ds:List Dt),ds.length<=8/\a<=1000/\Me v0 each ds a/\CE w L [⟨28,3,fr 9,ds.length,NN ds⟩] W')->Q (.exit 0) { tmps:=(Dp [8,9,22,23,24,25,26,79,80,81,82,83,84,85,86,87,88,89,90,91,92,93,94,95,96,97,98,99,100,101,102,103,104,105,106,107,108,109,110,111,112] fr us).toArray,defers:=[] } W') :
  (Code.loop body).wp Tryz.prog Q { tmps:=us.toArray,defers:=[] } W0:=by
 obtain rfl:=AL (hbody.symm.trans (rfl:H6 Tryz.f3.body 0=some _))
 clear hbody
 obtain ⟨u,rfl⟩:=OC hN
 clear hN
 replace g2:=Ey g2
 replace g9:=Ey g9
 replace g15:=Ey g15
 replace g22:=Ey g22
 replace g23:=Ey g23
 simp only [lit,Nat.reduceAdd,g2,g9,g15,g22,g23] at hQ |-
 clear g2 g9 g15 g22 g23
 replace hQ:=A8 hQ
 have hM0:=A8 (hM.out.row0 28 3)
 clear hM
 go_loopw [9,22,23] (fun l a o wr=>∃ (i:Nat) (t:Int) (ds:List Dt),a=.int .i64 t/\o=.int .i64 i/\i<=8/\0<=t/\t<=50*i/\ds.length=i/\Hid (Me v0 each ds t)/\Hid (CE w L [⟨28,3,l,ds.length,NN ds⟩] wr)) (fun _ _ o _=>8-(intOf o).toNat)
 case atStart=>exact ⟨0,0,[],rfl,rfl,Ad,Ad,Ad,rfl,A8 (Me.nil _ _ _),hM0⟩
 case round =>
  clear hM0;obtain ⟨i,t,ds,rfl,rfl,hi8,ht0,ht1,hdl,hT,hM⟩:=hrel;by_cases hin:i<n/\i<8;case neg =>
   rcases (show (¬ (i:Int)<n)∨((i:Int)<n/\¬ (i:Int)<8) by omega) with g1 | ⟨g1,g2⟩;all_goals
    clear hin
    go_wp2_with fail
    exact lexit [8,9,22,23,24,25,26,79,80,81,82,83,84,85,86,87,88,89,90,91,92,93,94,95,96,97,98,99,100,101,102,103,104,105,106,107,108,109,110,111,112] (hQ.out _ _ (A8 ⟨t,ds,Ad,Ad,hT.out,hM.out⟩)) Ab
  case pos =>
   obtain ⟨hin,hi8⟩:=hin;have g1:(i:Int)<n:=by omega
   have g2:(i:Int)<8:=by omega
   have hi0:(0:Int)<=i:=by omega
   obtain ⟨b,off,ea,hbw,c0⟩:∃ b off,sva=some ⟨b,off,none⟩/\b<w.heap.size/\w.cell? ⟨b,off+i,none⟩=some (.int .i64 (gi secs i)):=by
    rcases HS.out with ⟨e,e2⟩ | ⟨b,off,cap',e,h1,h2,h3,h4⟩
    ·have:=hn.out;rw [e2] at this;simp at this;omega
    ·cases e
     exact ⟨b,off,rfl,h3,h4 i (by rw [<-hn.out];exact hin)⟩
   subst ea;have d0:=hM.out.old hbw c0;have P0:=A8 (PT.out i);have b1:=CP (c:=gi secs i) (m:=50) Ad;have b2:=Ds (c:=gi secs i) (m:=50) Ad;generalize DB (gi secs i) 50=p0 at *
   generalize gi secs i=g0 at *
   obtain ⟨t',ht'⟩:∃ t',t+1+p0=t':=⟨_,rfl⟩;have u0:IntKind.i64.wrap (t+1)=t+1:=Bz _ Ad;have u1:IntKind.i64.wrap (t+1+p0)=t':=by rw [ht'];exact Bz _ Ad
   have t0:t<t'/\1<=t'/\t'<=50*(i+1)/\t'<=450:=by omega
   replace ht':=A8 ht';have hv:=hvb.out t' Ad t0.2.2.2;have BDt:=A8 (fun W (hb:Below w.heap.size w W)=>BD.out t' W hb ⟨Ad,t0.2.2.2⟩);have hTs:=A8 (hT.out.snoc ⟨t',lo t',hi t'⟩ t0.1 t0.2.1 hv.1 hv.2.1 hv.2.2.1 hv.2.2.2);generalize lo t'=lw at *
   generalize hi t'=hg at *
   have hd8:ds.length<=8:=by omega
   replace hdl:=A8 hdl;go_wp2_with fail;refine Calls.mono (P0.out _) ?_;rintro e w1 ⟨rfl,rfl⟩;clear P0 d0;have y0:=(hM.out.cell bG _ _ hG.out 0).trans (show _=some (Value.int .i64 d) from rfl);have y1:=(hM.out.cell bG _ _ hG.out 1).trans (show _=some rv from rfl);have y2:=(hM.out.cell bG _ _ hG.out 2).trans (show _=some (Value.int .i64 tol) from rfl);have y3:=(hM.out.cell bG _ _ hG.out 3).trans (show _=some (Value.int .i64 rr) from rfl);have y4:=(hM.out.cell bG _ _ hG.out 4).trans (show _=some gv from rfl);go_wp2_with fail;refine Calls.mono (BDt.out _ hM.out.below) ?_;rintro e w2 ⟨rfl,hb⟩;replace hM:=A8 (hM.out.call hb);clear BDt hb y0 y1 y2 y3 y4 u0 u1 hv;go_wp2_with (at_builtin;refine GO (m:=1) (k:=3) rfl rfl Ab Ab (hM.out.new _) rfl rfl (CO.new _ _ _) rfl rfl Ad Ae Ae ?_;intro g2 c2 W8 hM8);go_roundw;case rel=>exact ⟨i+1,t',ds++[⟨t',lw,hg⟩],rfl,by go_num,Ad,Ad,Ad,by simp [hdl.out],hTs,by rw [BP,TL];exact A8 hM8⟩
   case measure=>simp [intOf];omega
theorem tf_row (x:KM) (ra re sp sa vs:Value) (step t:Int) (secs:List Int) (w:World) (hx:TP w x ra re sa) (hst:CI step) (hs:Sl w vs secs) (hsf:∀ i,CI (gi secs i)) (ht:CI t) (hE:Dv w) :
  Calls Tryz.prog 3 #[.agg #[.int .i64 x.dr,.int .i64 x.st,ra,re,.int .i64 x.tl,.int .i64 x.rt,.int .i64 x.fi,sp,sa],.int .i64 step,vs,.int .i64 t] w (CM w (.bool true)):=by
 obtain ⟨sva,svk,rfl⟩:=hs.shape
 obtain ⟨V1,bS,e1,eS,S1⟩:=(CE.start w).addB #[.int .i64 x.dr,.int .i64 x.st,ra,re,.int .i64 x.tl,.int .i64 x.rt,.int .i64 x.fi,sp,sa] 26
 have hM:=A8 S1
 clear S1
 go_enter Tryz.func3,Tryz.ntmps3
 go_upto_region 1 with fail
 rw [<-e1,<-eS]
 clear e1 eS
 obtain ⟨V1,b1,e1,eS,S1⟩:=hM.out.addB #[.int .i64 0,.int .i64 0,.int .i64 2,.int .i64 10,.int .i64 4,.int .i64 6,.int .i64 20,.int .i64 9,.int .i64 10] 28
 replace hM:=A8 S1
 clear S1
 go_upto_region 2 with fail
 rw [<-e1,<-eS]
 clear e1 eS
 go_wp2_with fail
 refine Calls.mono (of_lit _) ?_
 rintro e w1 ⟨rfl,hb⟩
 replace hM:=A8 (hM.out.call hb)
 clear hb
 obtain ⟨V1,b10,e1,eS,S1⟩:=hM.out.addB #[.string ⟨#[49,54]⟩,.string ⟨#[49]⟩] 31
 replace hM:=A8 S1
 clear S1
 go_upto_region 3 with fail
 rw [<-e1,<-eS]
 clear e1 eS
 go_wp2_with fail
 refine Calls.mono (exF40 _ _ (hM.out.env hE) (exS1 (hM.out.blks _ Ai))) ?_
 rintro e w2 ⟨rfl,hb⟩
 replace hM:=A8 (hM.out.call hb)
 clear hb
 go_upto_region 4 with fail
 obtain ⟨V1,b12,e1,eS,S1⟩:=hM.out.addB #[.string ⟨#[49,54]⟩,.string ⟨#[49]⟩] 31
 obtain ⟨V2,b13,e2,eO,S2⟩:=S1.addB #[.string ⟨#[50,48]⟩,.string ⟨#[49]⟩] 31
 replace hM:=A8 S2
 rw [e1] at e2 eO
 clear S1 S2 e1
 have hO:b13=w2.heap.size+1:=by rw [eO];exact AP _ _
 clear eO
 rw [<-e2,<-hO,<-eS]
 clear e2 hO eS
 have y0:=(hM.out.cell b12 _ _ Ai 0).trans (show _=some (Value.string ⟨#[49,54]⟩) from rfl)
 have y1:=(hM.out.cell b12 _ _ Ai 1).trans (show _=some (Value.string ⟨#[49]⟩) from rfl)
 have y2:=(hM.out.cell b10 _ _ Aj 0).trans (show _=some (Value.string ⟨#[49,54]⟩) from rfl)
 have y3:=(hM.out.cell b10 _ _ Aj 1).trans (show _=some (Value.string ⟨#[49]⟩) from rfl)
 go_upto_region 6 with fail
 clear y0 y1 y2 y3
 --@1
 obtain ⟨ra2,re2,sa2,f1,f2,f3,f4,f5,hf,hq,hm⟩:=hx
 have MD:=A8 (fun sv W (hb:Below w.heap.size w W) (hp:Sl W sv [step])=>P3 x.dr x.st x.tl x.rt x.fi step ra re sv sa x.rates x.qs x.ms W (ra2.below hb) (re2.below hb) hp (sa2.below hb) f1 f2 f3 f4 f5 hst hf hq hm)
 have VL:=A8 (fun (tt:Int) sv W (hp:Sl W sv [step]) (ht:0<=tt/\tt<=1000)=>Lg x.dr x.st x.tl x.rt x.fi step tt ra re sv sa W hp f4 f5 hst ht)
 have a1:=CP (c:=x.tl) (m:=31) Ad
 have a2:=Ds (c:=x.tl) (m:=31) Ad
 have a5:=CP (c:=x.rt) (m:=21) Ad
 have a6:=Ds (c:=x.rt) (m:=21) Ad
 have a7:=CP (c:=x.fi) (m:=2001) Ad
 have a8:=Ds (c:=x.fi) (m:=2001) Ad
 have a11:=CP (c:=step) (m:=2*DB x.rt 21+1) Ad
 have a12:=Ds (c:=step) (m:=2*DB x.rt 21+1) Ad
 obtain ⟨each,he⟩:∃ each,DB step (2*DB x.rt 21+1)-DB x.rt 21=each:=⟨_,rfl⟩
 obtain ⟨v0,hv0⟩:∃ v0,DB x.fi 2001-1000=v0:=⟨_,rfl⟩
 have a13:-DB x.rt 21<=each/\each<=DB x.rt 21:=by omega
 have a14:-1000<=v0/\v0<=1000:=by omega
 rw [he,hv0] at MD VL
 have hvb:Hid (∀ t:Int,0<=t->t<=450->-10000<=v0+each*t/\v0+each*t<=10000):=A8 fun t t0 t1=>TE a14.1 a14.2 a13.1 a13.2 Ad t0 t1
 have ha15:-20<=each/\each<=20:=by omega
 generalize DB x.rt 21=rr at *
 generalize DB x.tl 31=tol at *
 generalize DB x.dr 101=d at *
 clear he hv0 a7 a8 a11 a12 ra2 re2 sa2 f1 f2 f3 f4 f5 hf hq hm
 obtain ⟨dr,st,tl,rt,fi,rates,qs,ms⟩:=x
 dsimp only at hM MD VL |-
 unfold M9 at MD VL
 have VA:=A8 (fun sv W (hp:Sl W sv [step])=>by have:=VL.out 0 sv W hp Ad;rwa [Int.mul_zero,Int.add_zero] at this)
 have VB:=A8 (fun sv W (hp:Sl W sv [step])=>by have:=VL.out 1 sv W hp Ad;rwa [Ca] at this)
 clear VL
 obtain ⟨V1,bI,e1,eS,S1⟩:=hM.out.addB #[.int .i64 step] 3
 have y7:=(S1.cell bS _ _ (.tail _ (.tail _ Ak)) 7).trans (show _=some sp from rfl)
 have z7:=S1.frozen bS _ _ (.tail _ (.tail _ Ak)) 7
 rw [e1] at y7 z7
 replace hM:=A8 (S1.put (A:=[_,_,_,_,_]) 7 (.slice (some ⟨bI,0,none⟩) 1 1))
 clear S1
 go_upto_region 7 with fail
 rw [<-e1,<-eS]
 clear e1 eS y7 z7
 obtain ⟨V2,hV2⟩:∃ V2,V2=V1.setCell ⟨bS,7,none⟩ (.slice (some ⟨bI,0,none⟩) 1 1):=⟨_,rfl⟩
 rw [<-hV2] at hM |-
 clear hV2
 have IX:=A8 (fun (W:World) (hb:Below V2.heap.size V2 W)=>(sl_one (hM.out.blks _ Ah)).below hb)
 have y0:=(hM.out.cell bS _ _ (.tail _ (.tail _ Ak)) 0).trans (show _=some (.int .i64 dr:Value) from rfl)
 have y1:=(hM.out.cell bS _ _ (.tail _ (.tail _ Ak)) 1).trans (show _=some (.int .i64 st:Value) from rfl)
 have y2:=(hM.out.cell bS _ _ (.tail _ (.tail _ Ak)) 2).trans (show _=some (ra:Value) from rfl)
 have y3:=(hM.out.cell bS _ _ (.tail _ (.tail _ Ak)) 3).trans (show _=some (re:Value) from rfl)
 have y4:=(hM.out.cell bS _ _ (.tail _ (.tail _ Ak)) 4).trans (show _=some (.int .i64 tl:Value) from rfl)
 have y5:=(hM.out.cell bS _ _ (.tail _ (.tail _ Ak)) 5).trans (show _=some (.int .i64 rt:Value) from rfl)
 have y6:=(hM.out.cell bS _ _ (.tail _ (.tail _ Ak)) 6).trans (show _=some (.int .i64 fi:Value) from rfl)
 have y7:=(hM.out.cell bS _ _ (.tail _ (.tail _ Ak)) 7).trans (show _=some (.slice (some ⟨bI,0,none⟩) 1 1:Value) from rfl)
 have y8:=(hM.out.cell bS _ _ (.tail _ (.tail _ Ak)) 8).trans (show _=some (sa:Value) from rfl)
 go_wp2_with fail
 refine Calls.mono (MD.out _ _ hM.out.below (IX.out _ (Below.refl _ _))) ?_
 rintro e w3 ⟨rv,gv,rs,ss,rfl,hr1,hr2,hG,hF,hb⟩
 replace hr1:=GN hr1 hM.out.below.size
 replace hr2:=GN hr2 hM.out.below.size
 replace hM:=A8 (((hM.out.call hb).adoptRow hr1 (by intro p hp;simp only [BK,BC,As,AQ,or_false] at hp;rcases hp with rfl | rfl | rfl | rfl | rfl | rfl <;> first | exact (show (3:TypeId)≠89 from by decide) | exact (show (31:TypeId)≠89 from by decide) | exact (show (28:TypeId)≠89 from by decide) | exact (show (26:TypeId)≠89 from by decide)) (fun _ h=>by cases h)).adoptRow hr2 (by intro p hp;simp only [BK,BC,As,AQ,or_false] at hp;rcases hp with rfl | rfl | rfl | rfl | rfl | rfl <;> first | exact (show (3:TypeId)≠66 from by decide) | exact (show (31:TypeId)≠66 from by decide) | exact (show (28:TypeId)≠66 from by decide) | exact (show (26:TypeId)≠66 from by decide)) (by intro r hr;obtain rfl:=AK.1 hr;exact (show (89:TypeId)≠66 from by decide)))
 replace IX:=A8 (fun (W:World) (hb2:Below w3.heap.size w3 W)=>IX.out W (hb.trans (hb2.mono hb.size)))
 clear hb y0 y1 y2 y3 y4 y5 y6 y7 y8 MD
 obtain ⟨ga,gk,rfl⟩:=(NL.of_own hr1).shape
 obtain ⟨gb,gl,rfl⟩:=(Nl.of_own hr2).shape
 have BX:=A8 (fun (s:Int) W (g1:W.ownsRow w.heap.size 89 3 (.slice ga rs.length gk) rs.length (Fw rs)) (g2:W.ownsRow w.heap.size 66 2 (.slice gb ss.length gl) ss.length (GQ ss)) (h:0<=s/\s<=450)=>OR d tol rr s _ _ rs ss W (hG.ok (NL.of_own g1) (Nl.of_own g2)) Ad (by have h1:=hvb.out s h.1 h.2;have:=hF.look s Ad;omega))
 have hvl:Hid (∀ s:Int,0<=s->s<=450->-1000000<=(E7 d tol rr s rs ss).lo/\(E7 d tol rr s rs ss).lo<=v0+each*s/\v0+each*s<=(E7 d tol rr s rs ss).hi/\(E7 d tol rr s rs ss).hi<=1000000):=A8 fun s h0 h1=>by have h1:=hvb.out s h0 h1;have:=hF.look s Ad;omega
 obtain ⟨lo,hlo⟩:∃ lo:Int->Int,∀ s,(E7 d tol rr s rs ss).lo=lo s:=⟨_,fun _=>rfl⟩
 obtain ⟨hi,hhi⟩:∃ hi:Int->Int,∀ s,(E7 d tol rr s rs ss).hi=hi s:=⟨_,fun _=>rfl⟩
 simp only [hlo,hhi] at BX hvl
 have BD:=A8 (fun (s:Int) W (hb:Below w3.heap.size w3 W) (h:0<=s/\s<=450)=>BX.out s W (DE hr1 hb) (DE hr2 hb) h)
 clear hlo hhi hG hF hr1 hr2
 generalize rs.length=rn at *
 generalize ss.length=sn at *
 have hs3:=A8 (CE.start w3)
 obtain ⟨V1,bG,e1,eS,S1⟩:=hs3.out.addB #[.int .i64 d,.slice ga rn gk,.int .i64 tol,.int .i64 rr,.slice gb sn gl] 42
 replace hs3:=A8 S1
 clear S1
 go_upto_region 8 with fail
 rw [<-e1,<-eS]
 clear e1 eS
 --@2
 have y0:=((hM.out.call hs3.out.below).cell bS _ _ (.tail _ (.tail _ Ak)) 0).trans (show _=some (.int .i64 dr:Value) from rfl)
 have y1:=((hM.out.call hs3.out.below).cell bS _ _ (.tail _ (.tail _ Ak)) 1).trans (show _=some (.int .i64 st:Value) from rfl)
 have y2:=((hM.out.call hs3.out.below).cell bS _ _ (.tail _ (.tail _ Ak)) 2).trans (show _=some (ra:Value) from rfl)
 have y3:=((hM.out.call hs3.out.below).cell bS _ _ (.tail _ (.tail _ Ak)) 3).trans (show _=some (re:Value) from rfl)
 have y4:=((hM.out.call hs3.out.below).cell bS _ _ (.tail _ (.tail _ Ak)) 4).trans (show _=some (.int .i64 tl:Value) from rfl)
 have y5:=((hM.out.call hs3.out.below).cell bS _ _ (.tail _ (.tail _ Ak)) 5).trans (show _=some (.int .i64 rt:Value) from rfl)
 have y6:=((hM.out.call hs3.out.below).cell bS _ _ (.tail _ (.tail _ Ak)) 6).trans (show _=some (.int .i64 fi:Value) from rfl)
 have y7:=((hM.out.call hs3.out.below).cell bS _ _ (.tail _ (.tail _ Ak)) 7).trans (show _=some (.slice (some ⟨bI,0,none⟩) 1 1:Value) from rfl)
 have y8:=((hM.out.call hs3.out.below).cell bS _ _ (.tail _ (.tail _ Ak)) 8).trans (show _=some (sa:Value) from rfl)
 go_wp2_with fail
 refine Calls.mono (VA.out _ _ (IX.out _ hs3.out.below)) ?_
 rintro e w4 ⟨rfl,hb⟩
 replace hs3:=A8 (hs3.out.call hb)
 clear hb y0 y1 y2 y3 y4 y5 y6 y7 y8 VA
 have y0:=((hM.out.call hs3.out.below).cell bS _ _ (.tail _ (.tail _ Ak)) 0).trans (show _=some (.int .i64 dr:Value) from rfl)
 have y1:=((hM.out.call hs3.out.below).cell bS _ _ (.tail _ (.tail _ Ak)) 1).trans (show _=some (.int .i64 st:Value) from rfl)
 have y2:=((hM.out.call hs3.out.below).cell bS _ _ (.tail _ (.tail _ Ak)) 2).trans (show _=some (ra:Value) from rfl)
 have y3:=((hM.out.call hs3.out.below).cell bS _ _ (.tail _ (.tail _ Ak)) 3).trans (show _=some (re:Value) from rfl)
 have y4:=((hM.out.call hs3.out.below).cell bS _ _ (.tail _ (.tail _ Ak)) 4).trans (show _=some (.int .i64 tl:Value) from rfl)
 have y5:=((hM.out.call hs3.out.below).cell bS _ _ (.tail _ (.tail _ Ak)) 5).trans (show _=some (.int .i64 rt:Value) from rfl)
 have y6:=((hM.out.call hs3.out.below).cell bS _ _ (.tail _ (.tail _ Ak)) 6).trans (show _=some (.int .i64 fi:Value) from rfl)
 have y7:=((hM.out.call hs3.out.below).cell bS _ _ (.tail _ (.tail _ Ak)) 7).trans (show _=some (.slice (some ⟨bI,0,none⟩) 1 1:Value) from rfl)
 have y8:=((hM.out.call hs3.out.below).cell bS _ _ (.tail _ (.tail _ Ak)) 8).trans (show _=some (sa:Value) from rfl)
 have u0:IntKind.i64.wrap (v0+each-v0)=each:=by rw [show v0+each-v0=each by omega];exact Bz _ Ad
 go_wp2_with fail
 refine Calls.mono (VB.out _ _ (IX.out _ hs3.out.below)) ?_
 rintro e w5 ⟨rfl,hb⟩
 replace hs3:=A8 (hs3.out.call hb)
 clear hb y0 y1 y2 y3 y4 y5 y6 y7 y8 VB IX
 go_wp2_with fail
 refine Calls.mono (P7 v0 (by unfold CI;omega) _) ?_
 rintro e w6 ⟨rfl,hb⟩
 replace hs3:=A8 (hs3.out.call hb)
 clear hb
 obtain ⟨V1,b18,e1,eS,S1⟩:=hs3.out.addB #[.string (F4 v0),.string (F5 v0)] 31
 replace hs3:=A8 S1
 clear S1
 go_upto_region 11 with fail
 rw [<-e1,<-eS]
 clear e1 eS
 go_wp2_with fail
 refine Calls.mono (P7 each (by unfold CI;omega) _) ?_
 rintro e w7 ⟨rfl,hb⟩
 replace hs3:=A8 (hs3.out.call hb)
 clear hb u0
 obtain ⟨V1,b20,e1,eS,S1⟩:=hs3.out.addB #[.string (F4 each),.string (F5 each)] 31
 replace hs3:=A8 S1
 clear S1
 go_upto_region 12 with fail
 rw [<-e1,<-eS]
 clear e1 eS
 have HS:=A8 (hs.below (hM.out.below))
 obtain ⟨n,hn⟩:∃ n,n=secs.length:=⟨_,rfl⟩
 rw [<-hn] at HS |-
 replace hn:=A8 hn
 have PT:=A8 (fun i W=>Je (gi secs i) 50 (hsf i) Ad Ad W)
 have PS:=A8 (fun W=>Je t 400 ht Ad Ad W)
 have p1:=CP (c:=t) (m:=400) Ad
 have p2:=Ds (c:=t) (m:=400) Ad
 generalize DB t 400=s at *
 clear hs hsf ht hst
 go_wp2_with fail
 refine tf_l0 (bG:=bG) (rv:=.slice ga rn gk) (gv:=.slice gb sn gl) (d:=d) (tol:=tol) (rr:=rr) (v0:=v0) (each:=each) (lo:=lo) (hi:=hi) (secs:=secs) (w:=w3) HS hn (A8 Aj) hvl PT BD hs3 Ab rfl rfl rfl rfl rfl rfl ?_
 intro fr W' hpost
 simp only [Dp,BN,BO,A5,A6]
 obtain ⟨a,ds,hdl,ha,hT,hM4⟩:=hpost.out
 replace hM4:=A8 hM4
 clear hpost hs3 HS PT
 generalize fr 9=lv at *
 have hsd:=A8 (fun W (hb:Below w3.heap.size w3 W) (h:Below W'.heap.size W' W)=>(Gp.of_own hM4.out.own0).below h)
 --@3
 obtain ⟨la,lk,hlv⟩:∃ a k,lv=.slice a ds.length k:=by
  rcases hM4.out.own0.2 with ⟨e,h0⟩ | ⟨g,cap,cur,e,_⟩
  ·exact ⟨none,0,by rw [e,h0]⟩
  ·exact ⟨_,_,e⟩
 have hVB:=hvb.out s p1 Ad
 have hBs:=hvl.out s p1 Ad
 have RF:=A8 (fun W (h:Gp W lv ds)=>by have:=P4 lv ds W h;unfold RefP at this;rwa [hT.ref hdl ha] at this)
 have FT:=A8 (fun W (h:Gp W lv ds) (hE:Dv W)=>by
  have:=Rq lv ds (tN (some (v0:Rat))) (tD (some (v0:Rat))) (tN (some (each:Rat))) (tD (some (each:Rat))) (fun d hd=>by have:=hT.bd d hd;unfold CI;omega) W hE h;rwa [oq_t ((BQ.int Ad).ok Ad),oq_t ((BQ.int Ad).ok Ad),hT.fits hdl ha Ad Ad] at this)
 have FC:=A8 (fun W (h:Gp W lv ds) (hE:Dv W)=>Iz lv ds s W hE h)
 have hcs:=hT.cast hdl ha (s:=s) Ad
 have BDs:=A8 (fun W g1 g2=>BX.out s W g1 g2 Ad)
 have hms:-20*s<=each*s/\each*s<=20*s:=⟨Az Ad p1,Az Ad p1⟩
 have u1:IntKind.i64.wrap (each*s)=each*s:=Bz _ Ad
 generalize lo s=ls at *
 generalize hi s=hgs at *
 clear BD BX hvl hvb hms hn hT ha
 obtain ⟨V,hV⟩:∃ V,V=v0+each*s:=⟨_,rfl⟩
 rw [<-hV] at hVB hBs hcs
 have u2:IntKind.i64.wrap (v0+each*s)=V:=by rw [<-hV];exact Bz _ Ad
 replace hV:=A8 hV
 subst hlv
 have LV:=hM4
 go_wp2_with fail
 refine Calls.mono (RF.out _ (hsd.out _ hM4.out.below (Below.refl _ _))) ?_
 rintro e w8 ⟨v,rfl,_,hb⟩
 replace hsd:=A8 (fun (W:World) (h1:Below w3.heap.size w3 W) (h2:Below w8.heap.size w8 W)=>hsd.out W h1 (hb.trans (h2.mono hb.size)))
 replace hM4:=A8 (hM4.out.call hb)
 clear hb RF LV
 have y0:=(hM4.out.cell b18 _ _ Ai 0).trans (show _=some (Value.string (F4 v0)) from rfl)
 have y1:=(hM4.out.cell b18 _ _ Ai 1).trans (show _=some (Value.string (F5 v0)) from rfl)
 have y2:=(hM4.out.cell b20 _ _ Ah 0).trans (show _=some (Value.string (F4 each)) from rfl)
 have y3:=(hM4.out.cell b20 _ _ Ah 1).trans (show _=some (Value.string (F5 each)) from rfl)
 go_wp2_with fail
 refine Calls.mono (FT.out _ (hsd.out _ hM4.out.below (Below.refl _ _)) (hE.below (hM.out.call hM4.out.below).below (Aa _))) ?_
 rintro e w9 ⟨rfl,hb⟩
 replace hsd:=A8 (fun (W:World) (h1:Below w3.heap.size w3 W) (h2:Below w9.heap.size w9 W)=>hsd.out W h1 (hb.trans (h2.mono hb.size)))
 replace hM4:=A8 (hM4.out.call hb)
 clear hb FT y0 y1 y2 y3
 go_wp2_with fail
 refine Calls.mono (PS.out _) ?_
 rintro e wq ⟨rfl,rfl⟩
 clear PS
 go_wp2_with fail
 refine Calls.mono (P7 V (by unfold CI;omega) _) ?_
 rintro e w10 ⟨rfl,hb⟩
 replace hsd:=A8 (fun (W:World) (h1:Below w3.heap.size w3 W) (h2:Below w10.heap.size w10 W)=>hsd.out W h1 (hb.trans (h2.mono hb.size)))
 replace hM4:=A8 (hM4.out.call hb)
 clear hb
 obtain ⟨V1,b30,e1,eS,S1⟩:=hM4.out.addB #[.string (F4 V),.string (F5 V)] 31
 have hb5:Below w10.heap.size w10 V1:=by rw [e1];exact (Below.refl _ _).alloc (Aa _) _
 replace hsd:=A8 (fun (W:World) (h1:Below w3.heap.size w3 W) (h2:Below V1.heap.size V1 W)=>hsd.out W h1 (hb5.trans (h2.mono hb5.size)))
 replace hM4:=A8 S1
 clear S1 hb5
 go_upto_region 27 with fail
 rw [<-e1,<-eS]
 clear e1 eS
 --@4
 rcases hcs with ⟨hc,hl2⟩ | ⟨xl,xh,hc,hx1,hx2⟩
 ·rw [hc] at FC
  unfold fV at FC;dsimp only at FC;go_wp2_with fail;refine Calls.mono (FC.out _ (hsd.out _ hM4.out.below (Below.refl _ _)) (hE.below (hM.out.call hM4.out.below).below (Aa _))) ?_;rintro e w11 ⟨rfl,hb⟩;have hC:=A8 (hM.out.within (hM4.out.call hb));clear hb FC hM hM4;--@5
  obtain ⟨V1,b32,e1,eS,S1⟩:=hC.out.addB #[.string ⟨#[]⟩,.string ⟨#[]⟩] 31;have S2:=(S1.put (A:=[_,_,_,_,_,_,_]) 0 (.string ⟨#[]⟩)).put (A:=[_,_,_,_,_,_,_]) 1 (.string ⟨#[]⟩);have S3:=S2.put0 0 (.string ⟨#[]⟩);have S4:=A8 (S3.put0 1 (.string ⟨#[]⟩));have y0:=(S1.cell b12 _ _ (.tail _ (.tail _ (.tail _ (.tail _ Ak)))) 0).trans (show _=some (Value.string ⟨#[49,54]⟩) from rfl);have y1:=(S1.cell b12 _ _ (.tail _ (.tail _ (.tail _ (.tail _ Ak)))) 1).trans (show _=some (Value.string ⟨#[49]⟩) from rfl);have z0:=S1.frozen b12 _ _ (.tail _ (.tail _ (.tail _ (.tail _ Ak)))) 0;have z1:=S1.frozen b12 _ _ (.tail _ (.tail _ (.tail _ (.tail _ Ak)))) 1;have y2:=(S2.cell b32 _ _ Ah 0).trans (show _=some (Value.string ⟨#[]⟩) from rfl);have z2:=S2.frozen b32 _ _ Ah 0;have y3:=(S3.cell b32 _ _ Ah 1).trans (show _=some (Value.string ⟨#[]⟩) from rfl);have z3:=S3.frozen b32 _ _ Ah 1;rw [e1] at y0 y1 z0 z1;rw [e1,eS] at y2 z2 y3 z3;clear S1 S2 S3;go_upto_region 28 with fail;clear y0 y1 y2 y3 z0 z1 z2 z3;rw [<-e1,<-eS];clear e1 eS;obtain ⟨V3,hV3⟩:∃ V3,V3=((((V1.setCell ⟨b12,0,none⟩ (.string ⟨#[]⟩)).setCell ⟨b12,1,none⟩ (.string ⟨#[]⟩)).setCell ⟨b32,0,none⟩ (.string ⟨#[]⟩)).setCell ⟨b32,1,none⟩ (.string ⟨#[]⟩)):=⟨_,rfl⟩;rw [<-hV3] at S4 |-;clear hV3;have q0:=(S4.out.cell bG _ _ (.tail _ Ak) 0).trans (show _=some (Value.int .i64 d) from rfl);have q1:=(S4.out.cell bG _ _ (.tail _ Ak) 1).trans (show _=some (Value.slice ga rn gk) from rfl);have q2:=(S4.out.cell bG _ _ (.tail _ Ak) 2).trans (show _=some (Value.int .i64 tol) from rfl);have q3:=(S4.out.cell bG _ _ (.tail _ Ak) 3).trans (show _=some (Value.int .i64 rr) from rfl);have q4:=(S4.out.cell bG _ _ (.tail _ Ak) 4).trans (show _=some (Value.slice gb sn gl) from rfl);go_wp2_with fail;refine Calls.mono (BDs.out _ (S4.out.own Aj) (S4.out.own Ai)) ?_;rintro e w12 ⟨rfl,hb⟩;replace S4:=A8 (S4.out.call hb);clear hb BDs q0 q1 q2 q3 q4;have hl3:(ds.length:Int)<2:=by omega
  have g1:¬ V<ls:=by omega
  have g2:¬ hgs<V:=by omega
  --@6
  go_wp2;go_ret;exact ⟨rfl,S4.out.below⟩
 ·rw [hc] at FC
  unfold fV at FC;dsimp only at FC;have hq:=fcst_bq hc;have CA:=A8 (fun W (hE:Dv W)=>LY (hq.1.ok Ad) ((BQ.int (z:=V) Ad).ok Ad) W hE);have CB:=A8 (fun W (hE:Dv W)=>LY ((BQ.int (z:=V) Ad).ok Ad) (hq.2.ok Ad) W hE);have g3:=PG.2 hx1;have g4:=PG.2 hx2;dsimp only [tN,tD,oCmp] at CA CB;generalize Hb xl V=c1 at *
  generalize Hb (V:Rat) xh=c2 at *
  generalize F4 xl=nl at *
  generalize F5 xl=dl at *
  generalize F4 xh=nh at *
  generalize F5 xh=dh at *
  clear hq hc hx1 hx2;go_wp2_with fail;refine Calls.mono (FC.out _ (hsd.out _ hM4.out.below (Below.refl _ _)) (hE.below (hM.out.call hM4.out.below).below (Aa _))) ?_;rintro e w11 ⟨rfl,hb⟩;have hC:=A8 (hM.out.within (hM4.out.call hb));clear hb FC hM hM4;--@7
  obtain ⟨V1,b32,e1,eS,S1⟩:=hC.out.addB #[.string ⟨#[]⟩,.string ⟨#[]⟩] 31;have S2:=(S1.put (A:=[_,_,_,_,_,_,_]) 0 (.string nl)).put (A:=[_,_,_,_,_,_,_]) 1 (.string dl);have S3:=S2.put0 0 (.string nh);have S4:=A8 (S3.put0 1 (.string dh));have y0:=(S1.cell b12 _ _ (.tail _ (.tail _ (.tail _ (.tail _ Ak)))) 0).trans (show _=some (Value.string ⟨#[49,54]⟩) from rfl);have y1:=(S1.cell b12 _ _ (.tail _ (.tail _ (.tail _ (.tail _ Ak)))) 1).trans (show _=some (Value.string ⟨#[49]⟩) from rfl);have z0:=S1.frozen b12 _ _ (.tail _ (.tail _ (.tail _ (.tail _ Ak)))) 0;have z1:=S1.frozen b12 _ _ (.tail _ (.tail _ (.tail _ (.tail _ Ak)))) 1;have y2:=(S2.cell b32 _ _ Ah 0).trans (show _=some (Value.string ⟨#[]⟩) from rfl);have z2:=S2.frozen b32 _ _ Ah 0;have y3:=(S3.cell b32 _ _ Ah 1).trans (show _=some (Value.string ⟨#[]⟩) from rfl);have z3:=S3.frozen b32 _ _ Ah 1;rw [e1] at y0 y1 z0 z1;rw [e1,eS] at y2 z2 y3 z3;clear S1 S2 S3;go_upto_region 28 with fail;clear y0 y1 y2 y3 z0 z1 z2 z3;rw [<-e1,<-eS];clear e1 eS;obtain ⟨V3,hV3⟩:∃ V3,V3=((((V1.setCell ⟨b12,0,none⟩ (.string nl)).setCell ⟨b12,1,none⟩ (.string dl)).setCell ⟨b32,0,none⟩ (.string nh)).setCell ⟨b32,1,none⟩ (.string dh)):=⟨_,rfl⟩;rw [<-hV3] at S4 |-;clear hV3;have q0:=(S4.out.cell bG _ _ (.tail _ Ak) 0).trans (show _=some (Value.int .i64 d) from rfl);have q1:=(S4.out.cell bG _ _ (.tail _ Ak) 1).trans (show _=some (Value.slice ga rn gk) from rfl);have q2:=(S4.out.cell bG _ _ (.tail _ Ak) 2).trans (show _=some (Value.int .i64 tol) from rfl);have q3:=(S4.out.cell bG _ _ (.tail _ Ak) 3).trans (show _=some (Value.int .i64 rr) from rfl);have q4:=(S4.out.cell bG _ _ (.tail _ Ak) 4).trans (show _=some (Value.slice gb sn gl) from rfl);go_wp2_with fail;refine Calls.mono (BDs.out _ (S4.out.own Aj) (S4.out.own Ai)) ?_;rintro e w12 ⟨rfl,hb⟩;replace S4:=A8 (S4.out.call hb);clear hb BDs q0 q1 q2 q3 q4;have g1:¬ V<ls:=by omega
  have g2:¬ hgs<V:=by omega
  have y0:=(S4.out.cell b12 _ _ (.tail _ (.tail _ (.tail _ (.tail _ Ak)))) 0).trans (show _=some (Value.string nl) from rfl);have y1:=(S4.out.cell b12 _ _ (.tail _ (.tail _ (.tail _ (.tail _ Ak)))) 1).trans (show _=some (Value.string dl) from rfl);have y2:=(S4.out.cell b30 _ _ Ai 0).trans (show _=some (Value.string (F4 V)) from rfl);have y3:=(S4.out.cell b30 _ _ Ai 1).trans (show _=some (Value.string (F5 V)) from rfl);--@8
  go_wp2_with fail;refine Calls.mono (CA.out _ (S4.out.env hE)) ?_;rintro e w13 ⟨rfl,hb⟩;replace S4:=A8 (S4.out.call hb);clear hb CA y0 y1 y2 y3;have y2:=(S4.out.cell b30 _ _ Ai 0).trans (show _=some (Value.string (F4 V)) from rfl);have y3:=(S4.out.cell b30 _ _ Ai 1).trans (show _=some (Value.string (F5 V)) from rfl);have y4:=(S4.out.cell b32 _ _ Ah 0).trans (show _=some (Value.string nh) from rfl);have y5:=(S4.out.cell b32 _ _ Ah 1).trans (show _=some (Value.string dh) from rfl);go_wp2_with fail;refine Calls.mono (CB.out _ (S4.out.env hE)) ?_;rintro e w14 ⟨rfl,hb⟩;replace S4:=A8 (S4.out.call hb);clear hb CB y2 y3 y4 y5;go_wp2;go_ret;exact ⟨rfl,S4.out.below⟩
end
section
open Go.RowKit Go.ChangeShapes
section
variable {H:Type} {enc:TypeId×Value->H} {P:Program}
theorem P8 {W W':World} (hb:Below W.heap.size W W') {p:MemPlace} (h:p.block<W.heap.size):W.sameAt W' p:=by
 cases p with
 | cell b off=>exact hb.cell (p:=⟨b,off,none⟩) h
 | map b=>exact hb.block b h
theorem Rr (hl:laidOutB P=true) {t:TypeId} (hr:P.readableRec t=true) (hrow:t<P.types.size) (hsz:∀ u e,InBook P t u->P.underlying u=some (.slice e)->0<P.cellsOf e)
  {W W':World} (hb:Below W.heap.size W W') {v:Value} {d:DataW H} {ps:List MemPlace} (hlt:∀ p∈ps,p.block<W.heap.size) (h:DataW.Trod enc P W 0 (fun _=>true) true t v d ps) :
  DataW.Trod enc P W' 0 (fun b=>decide (b<W.heap.size)) true t v d ps:=by
 obtain ⟨n,hn⟩:=h
 refine ⟨n,DataW.trod_stays (kids_book hl hr) (fun {u e} hT hu=>hsz u e hT hu) (fun e=>by cases e) ⟨hrow,book_self t⟩ hn (fun p hp=>P8 hb (hlt p hp)) (fun p hp=>by simpa using hlt p hp)⟩
def rowsB (P:Program) (ts:List TypeId):Bool:=ts.all fun t=>P.readableRec t&&decide (t<P.types.size)&&(P.book t).all fun u=>match P.underlying u with
 | some (.slice e)=>decide (0<P.cellsOf e)
 | _=>true
theorem Lr (hl:laidOutB P=true) {W W':World} (hb:Below W.heap.size W W'):∀ {ts:List TypeId} {vs:List Value} {ds:List (DataW H)} {ps:List MemPlace},rowsB P ts=true ->
  DataW.TrodAll enc P W 0 (fun _=>true) true ts vs ds ps->DataW.TrodAll enc P W' 0 (fun b=>decide (b<W.heap.size)) true ts vs ds ps
 | [],[],[],_,_,h=>h
 | t :: ts,v :: vs,d :: ds,ps,hr,h=>by
  have hlt:=h.lt;obtain ⟨p,q,h1,h2,e⟩:=h;unfold rowsB at hr;rw [List.all_cons,Ao] at hr;obtain ⟨hr1,hr2⟩:=hr;simp only [Ao,Ap,Ax] at hr1;obtain ⟨⟨r1,r2⟩,r3⟩:=hr1;refine ⟨p,q,Rr hl r1 r2 (fun u e hT hu=>?_) hb (fun x hx=>hlt x (by rw [e];exact AY _ hx)) h1,Lr hl hb hr2 h2,e⟩;have:=r3 u hT.2;rw [hu] at this;simpa using this
end
end
section
open Go.RowKit Go.ChangeShapes Go.WideShapes Go.Deep
theorem Rs {w:World} {b:Nat} {x:TypeId×Nat} (h:w.shape? b=some x):b<w.heap.size:=by
 unfold World.shape? at h;by_cases hb:b<w.heap.size
 ·exact hb
 ·rw [Array.getElem?_eq_none Ad] at h;simp at h
theorem Fx {n:Int} (h:(Lit.int .i64 n).wf=true):CI n:=by simpa [CI,Lit.wf,IntKind.min,IntKind.max,IntKind.signed,IntKind.bits] using h
section
variable {H:Type} {enc:TypeId×Value->H} {W:World} {sp:Nat->Bool} {held:Bool}
theorem Ls {t e:TypeId} {k b0 fuel:Nat} {v:Value} {y:DataW H×List MemPlace} (hu:Tryz.prog.underlying t=some (.slice e)) (hc:Tryz.prog.cellsOf e=k) (hk:Cell.okWide Tryz.prog W .any b0 t v) (h:DataW.trod enc Tryz.prog W 0 sp held fuel t [v]=some y) :
  v=.slice none 0 0∨∃ b off len cap,v=.slice (some ⟨b,off,none⟩) len cap/\len<=cap/\cap<=maxLen/\b<W.heap.size/\∀ i,i<len->∃ (cs:List Value) (n:Nat) (x:DataW H×List MemPlace),cs.length=k/\(∀ (j:Nat) (h:j<cs.length),W.cell? ⟨b,off+i*k+j,none⟩=some cs[j])/\DataW.trod enc Tryz.prog W 0 sp held n e cs=some x:=by
 rcases open_slice hu h with ⟨hcs,_⟩ | ⟨a,len,cap,m,n,D,Pl,hcs,_,hl,hm,hmm,_,hx⟩
 ·left;simpa using hcs
 ·right
  obtain rfl:v=.slice (some a) len cap:=by simpa using hcs
  have hk2:W.has Tryz.prog .any b0 a e cap:=by
   simp only [Cell.okWide,hu,Cell.ok] at hk;exact hk.2.2
  obtain ⟨_,hsp,row,cells,hsh,_⟩:=hk2;have hlt:=Rs hsh;obtain ⟨b,off,spot⟩:=a;obtain rfl:spot=none:=hsp;refine ⟨b,off,len,cap,rfl,hl,hm,hlt,fun i hi=>?_⟩;obtain ⟨cs',h1,h2⟩:=hx i (by rw [hmm];split <;> omega);rw [hc] at h1;obtain ⟨_,hlen,hcell⟩:=World.cells?_some h1;refine ⟨cs',n,_,hlen,fun j hj=>?_,h2⟩;have q:=hcell j Ad;rw [add_add,add_plain,<-Nat.add_assoc] at q;rw [q,Au hj]
theorem Rt {t e:TypeId} {b0:Nat} {v:Value} {d:DataW H} {p:List MemPlace} (hu:Tryz.prog.underlying t=some (.slice e)) (hv:Value.okWide Tryz.prog W .any b0 t v) (h:DataW.Trod enc Tryz.prog W 0 sp held t v d p):∃ fuel,Cell.okWide Tryz.prog W .any b0 t v/\DataW.trod enc Tryz.prog W 0 sp held fuel t [v]=some (d,p):=by
 obtain ⟨a,len,cap,rfl⟩:=okWide_slice hu hv;obtain ⟨fuel,hf⟩:=h;exact ⟨fuel,by simpa [Value.okWide,hu] using hv,hf⟩
theorem NI {α:Type} [Inhabited α] {t e:TypeId} {k b0 fuel:Nat} {v:Value} {y:DataW H×List MemPlace} (C:World->Nat->Nat->α->Prop) (F:α->Prop) (hu:Tryz.prog.underlying t=some (.slice e)) (hc:Tryz.prog.cellsOf e=k) (hk:Cell.okWide Tryz.prog W .any b0 t v) (h:DataW.trod enc Tryz.prog W 0 sp held fuel t [v]=some y)
  (hE:∀ (cs:List Value) (n:Nat) (x:DataW H×List MemPlace) (b o:Nat),cs.length=k->(∀ j,j<k->W.cell? ⟨b,o+j,none⟩=cs[j]?)->DataW.trod enc Tryz.prog W 0 sp held n e cs=some x->∃ a,C W b o a/\F a):∃ l:List α,IA k C W v l/\∀ a∈l,F a:=by
 rcases Ls hu hc hk h with rfl | ⟨b,off,len,cap,rfl,hl,hm,hlt,hx⟩
 ·exact ⟨[],IA.nil W,fun z hz=>by cases hz⟩
 ·have each:∀ i,i<len->∃ a:α,C W b (off+i*k) a/\F a:=fun i hi'=>by
   obtain ⟨cs,n,x,hlen,hcell,ht⟩:=hx i hi';exact hE cs n x b (off+i*k) hlen (fun j hj=>by rw [hcell j Ad,Au]) ht
  obtain ⟨q,hq⟩:=choose_lt (α:=α) (h:=each)
  refine ⟨(List.range len).map q,.inr ⟨b,off,cap,Af,by simpa using hl,hm,hlt,fun j x hj=>?_⟩,fun d hd=>?_⟩
  ·have hj':j<len:=by have:=(Bv.1 hj).1;simpa using this
   rw [AG,List.getElem?_range hj'] at hj;cases hj;exact (hq j hj').1
  ·obtain ⟨i,hi',rfl⟩:=AJ.1 hd
   exact (hq i (Aw.1 hi')).2
theorem Kw {t:TypeId} {n fuel:Nat} {cs:List Value} {x:DataW H×List MemPlace} (hu:Tryz.prog.underlying t=some (.array n 3)) (hl:cs.length=n) (h:DataW.trod enc Tryz.prog W 0 sp held fuel t cs=some x):∃ zs:List Int,cs=zs.map (Value.int .i64)/\∀ z∈zs,CI z:=by
 have hi:Tryz.prog.underlying 3=some (.int .i64):=by kernel_rfl
 have hc1:Tryz.prog.cellsOf 3=1:=by kernel_rfl
 obtain ⟨xs,m,_,_,hlen,hxs,hget⟩:=DataW.trod_array hu h;rw [hc1] at hget;have key:∀ i,i<n->∃ z,cs[i]? = some (.int .i64 z)/\CI z:=by
  intro i hi';have h1:=hget i hi';rw [Au Ad] at h1;obtain ⟨z,h2,_,h3⟩:=DataW.trod_int hi h1;refine ⟨z,?_,Fx h3⟩;rw [Nat.mul_one] at h2;have:=Bk (fun l=>l[0]?) h2;simpa using this
 obtain ⟨q,hq⟩:=choose_lt (α:=Int) (h:=key);refine ⟨(List.range n).map q,List.ext_getElem? fun i=>?_,fun z hz=>?_⟩
 ·rcases Nat.lt_or_ge i n with hi' | hi'
  ·rw [(hq i hi').1,List.map_map,AG,List.getElem?_range hi'];rfl
  ·rw [BB Ad,BB (by simp;omega)]
 ·obtain ⟨i,hi',rfl⟩:=AJ.1 hz
  exact (hq i (Aw.1 hi')).2
theorem Kx {b0 fuel:Nat} {v:Value} {y:DataW H×List MemPlace} (hk:Cell.okWide Tryz.prog W .any b0 22 v) (h:DataW.trod enc Tryz.prog W 0 sp held fuel 22 [v]=some y):∃ l:List Int,Sl W v l/\∀ z∈l,CI z:=by
 have hi:Tryz.prog.underlying 3=some (.int .i64):=by kernel_rfl
 rcases Ls Tryz.underlying22 (k:=1) Ab hk h with rfl | ⟨b,off,len,cap,rfl,hl,hm,hlt,hx⟩
 ·exact ⟨[],Sl.nil W,fun z hz=>by cases hz⟩
 ·have each:∀ i,i<len->∃ z:Int,W.cell? ⟨b,off+i,none⟩=some (.int .i64 z)/\CI z:=fun i hi'=>by
   obtain ⟨cs,n,x,hlen,hcell,ht⟩:=hx i hi';match cs,hlen with
   | [c0],_ =>
    obtain ⟨z0,e0,_,f0⟩:=DataW.trod_int hi ht;have q:=hcell 0 Af;rw [Nat.mul_one] at q;simp at e0;subst e0;exact ⟨z0,q,Fx f0⟩
  obtain ⟨q,hq⟩:=choose_lt (α:=Int) (h:=each)
  refine ⟨(List.range len).map q,.inr ⟨b,off,cap,Af,by simpa using hl,hm,hlt,fun j hj=>?_⟩,fun d hd=>?_⟩
  ·have hj':j<len:=by simpa using hj
   have e:gi ((List.range len).map q) j=q j:=by simp [gi,hj']
   rw [e];exact (hq j hj').1
  ·obtain ⟨i,hi',rfl⟩:=AJ.1 hd
   exact (hq i (Aw.1 hi')).2
theorem NJ {b0:Nat} {v:Value} {d:DataW H} {p:List MemPlace} (hv:Value.okWide Tryz.prog W .any b0 22 v) (h:DataW.Trod enc Tryz.prog W 0 sp held 22 v d p):∃ l:List Int,Sl W v l/\∀ z∈l,CI z:=by
 obtain ⟨fuel,h1,h2⟩:=Rt Tryz.underlying22 hv h;exact Kx h1 h2
end
end
section
open Go.RowKit Go.ChangeShapes Go.WideShapes Go.Deep
open Clk
instance:Inhabited Tri:=⟨⟨0,0,0⟩⟩
instance:Inhabited Sm:=⟨⟨0,0⟩⟩
section
variable {H:Type} {enc:TypeId×Value->H} {W:World} {sp:Nat->Bool} {held:Bool}
theorem P9 {b0 fuel:Nat} {v:Value} {y:DataW H×List MemPlace} (hk:Cell.okWide Tryz.prog W .any b0 23 v) (h:DataW.trod enc Tryz.prog W 0 sp held fuel 23 [v]=some y):∃ l:List Tri,Jo W v l/\∀ q∈l,CI q.a/\CI q.b/\CI q.c :=
 NI (e:=60) (k:=3) NB (fun q=>CI q.a/\CI q.b/\CI q.c) Ab Ab hk h fun cs n x b o hl hc ht=>by
  obtain ⟨zs,rfl,hz⟩:=Kw (n:=3) Ab hl ht;match zs,hl with
  | [z0,z1,z2],_=>exact ⟨⟨z0,z1,z2⟩,⟨hc 0 Ae,hc 1 Ae,hc 2 Ae⟩,hz _ Af,hz _ Af,hz _ Af⟩
theorem Ru {b0 fuel:Nat} {v:Value} {y:DataW H×List MemPlace} (hk:Cell.okWide Tryz.prog W .any b0 24 v) (h:DataW.trod enc Tryz.prog W 0 sp held fuel 24 [v]=some y):∃ l:List Sm,Nl W v l/\∀ q∈l,CI q.loc/\CI q.val :=
 NI (e:=63) (k:=2) CSm (fun q=>CI q.loc/\CI q.val) Ab Ab hk h fun cs n x b o hl hc ht=>by
  obtain ⟨zs,rfl,hz⟩:=Kw (n:=2) Ab hl ht;match zs,hl with
  | [z0,z1],_=>exact ⟨⟨z0,z1⟩,⟨hc 0 Ae,hc 1 Ae⟩,hz _ Af,hz _ Af⟩
theorem Fk:CI 0:=by unfold CI;decide
theorem Pc {l:List Tri} (h:∀ q∈l,CI q.a/\CI q.b/\CI q.c):TF l:=fun i=>by
 rcases Nat.lt_or_ge i l.length with hi | hi
 ·have:=Iu hi;exact h _ (Av this)
 ·have e:CX l i=⟨0,0,0⟩:=by unfold CX;rw [List.getD_eq_getElem?_getD,BB hi];rfl
  rw [e];exact ⟨Fk,Fk,Fk⟩
theorem Rv {l:List Sm} (h:∀ q∈l,CI q.loc/\CI q.val):∀ i,CI (CW l i).loc/\CI (CW l i).val:=fun i=>by
 rcases Nat.lt_or_ge i l.length with hi | hi
 ·have:=FK hi;exact h _ (Av this)
 ·have e:CW l i=⟨0,0⟩:=by unfold CW;rw [List.getD_eq_getElem?_getD,BB hi];rfl
  rw [e];exact ⟨Fk,Fk⟩
theorem Q6 {l:List Int} (h:∀ z∈l,CI z):∀ i,CI (gi l i):=fun i=>by
 rcases Nat.lt_or_ge i l.length with hi | hi
 ·have e:gi l i=l[i]:=by simp [gi,hi]
  rw [e];exact h _ (AC hi)
 ·have e:gi l i=0:=by simp [gi,Nat.not_lt.2 hi]
  rw [e];exact Fk
theorem Rw:Tryz.prog.cellTypes Tryz.prog.depth 26=some [3,3,22,23,3,3,3,22,24]:=by kernel_rfl
theorem Pd {b0:Nat} {v:Value} {d:DataW H} {p:List MemPlace} (hv:Value.okWide Tryz.prog W .any b0 26 v) (h:DataW.Trod enc Tryz.prog W 0 sp held 26 v d p) :
  ∃ (x:KM) (ra re s2 sa:Value),v=.agg #[.int .i64 x.dr,.int .i64 x.st,ra,re,.int .i64 x.tl,.int .i64 x.rt,.int .i64 x.fi,s2,sa]/\TP W x ra re sa:=by
 have hi:Tryz.prog.underlying 3=some (.int .i64):=by kernel_rfl
 simp only [Value.okWide,Tryz.underlying26] at hv
 obtain ⟨cs,rfl,hsz,ts,hts,hlen,hrow⟩:=hv
 rw [Rw] at hts
 cases hts
 obtain ⟨fuel,hf⟩:=h
 have hsz9:cs.size=9:=by
  have:Tryz.prog.cellsOf 26=9:=by kernel_rfl
  simpa [this] using hsz
 obtain ⟨csl⟩:=cs
 match csl,hsz9 with
 | [c0,c1,c2,c3,c4,c5,c6,c7,c8],_ =>
  obtain ⟨xs,n,_,_,hl,hlen9,hfs⟩:=DataW.trod_struct Tryz.underlying26 hf;have hc1:Tryz.prog.cellsOf 3=1:=by kernel_rfl
  have hc2:Tryz.prog.cellsOf 22=1:=by kernel_rfl
  have hc3:Tryz.prog.cellsOf 23=1:=by kernel_rfl
  have hc4:Tryz.prog.cellsOf 24=1:=by kernel_rfl
  have hx9:xs.length=9:=hlen9;match xs,hx9 with
  | [y0,y1,y2,y3,y4,y5,y6,y7,y8],_ =>
  have g0:DataW.trod enc Tryz.prog W 0 sp held n 3 [c0]=some y0:=by have:=hfs 0 _ rfl;simpa [hc1,hc2,hc3,hc4,Value.cells] using this
  have g1:DataW.trod enc Tryz.prog W 0 sp held n 3 [c1]=some y1:=by have:=hfs 1 _ rfl;simpa [hc1,hc2,hc3,hc4,Value.cells] using this
  have g2:DataW.trod enc Tryz.prog W 0 sp held n 22 [c2]=some y2:=by have:=hfs 2 _ rfl;simpa [hc1,hc2,hc3,hc4,Value.cells] using this
  have g3:DataW.trod enc Tryz.prog W 0 sp held n 23 [c3]=some y3:=by have:=hfs 3 _ rfl;simpa [hc1,hc2,hc3,hc4,Value.cells] using this
  have g4:DataW.trod enc Tryz.prog W 0 sp held n 3 [c4]=some y4:=by have:=hfs 4 _ rfl;simpa [hc1,hc2,hc3,hc4,Value.cells] using this
  have g5:DataW.trod enc Tryz.prog W 0 sp held n 3 [c5]=some y5:=by have:=hfs 5 _ rfl;simpa [hc1,hc2,hc3,hc4,Value.cells] using this
  have g6:DataW.trod enc Tryz.prog W 0 sp held n 3 [c6]=some y6:=by have:=hfs 6 _ rfl;simpa [hc1,hc2,hc3,hc4,Value.cells] using this
  have g7:DataW.trod enc Tryz.prog W 0 sp held n 22 [c7]=some y7:=by have:=hfs 7 _ rfl;simpa [hc1,hc2,hc3,hc4,Value.cells] using this
  have g8:DataW.trod enc Tryz.prog W 0 sp held n 24 [c8]=some y8:=by have:=hfs 8 _ rfl;simpa [hc1,hc2,hc3,hc4,Value.cells] using this
  obtain ⟨z0,e0,_,f0⟩:=DataW.trod_int hi g0;obtain ⟨z1,e1,_,f1⟩:=DataW.trod_int hi g1;obtain ⟨z4,e4,_,f4⟩:=DataW.trod_int hi g4;obtain ⟨z5,e5,_,f5⟩:=DataW.trod_int hi g5;obtain ⟨z6,e6,_,f6⟩:=DataW.trod_int hi g6;obtain ⟨u2,hu2,k2⟩:=hrow 2 c2 rfl;cases hu2;obtain ⟨u3,hu3,k3⟩:=hrow 3 c3 rfl;cases hu3;obtain ⟨u8,hu8,k8⟩:=hrow 8 c8 rfl;cases hu8;obtain ⟨l2,hl2,fl2⟩:=Kx k2 g2;obtain ⟨l3,hl3,fl3⟩:=P9 k3 g3;obtain ⟨l8,hl8,fl8⟩:=Ru k8 g8;simp at e0 e1 e4 e5 e6;subst e0;subst e1;subst e4;subst e5;subst e6;exact ⟨⟨z0,z1,z4,z5,z6,l2,l3,l8⟩,c2,c3,c7,c8,rfl,hl2,hl3,hl8,Fx f0,Fx f1,Fx f4,Fx f5,Fx f6,Q6 fl2,Pc fl3,Rv fl8⟩
end
theorem tf_law (x:KM) (ra re s2 sa:Value) (step:Int) (vs:Value) (secs:List Int) (t:Int) (w:World) (hx:TP w x ra re sa) (hst:CI step) (hs:Sl w vs secs) (hsf:∀ z∈secs,CI z) (ht:CI t) (hE:QM w) :
  Calls Tryz.prog 3 #[.agg #[.int .i64 x.dr,.int .i64 x.st,ra,re,.int .i64 x.tl,.int .i64 x.rt,.int .i64 x.fi,s2,sa],.int .i64 step,vs,.int .i64 t] w (CM w (.bool true)) :=
 tf_row x ra re s2 sa vs step t secs w hx hst hs (Q6 hsf) ht hE.env
end
end Go.Proofs.YtdkonnnmkceagaaGreatDoor
