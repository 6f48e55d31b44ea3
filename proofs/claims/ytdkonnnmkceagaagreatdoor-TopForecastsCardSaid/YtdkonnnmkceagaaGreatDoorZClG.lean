/- ClG, ClH, ClI, ClJ -/
import Derived.Test.YtdkonnnmkceagaaGreatDoorZClP
import Derived.Test.YtdkonnnmkceagaaGreatDoorZDecE
set_option maxHeartbeats 16000000
set_option maxRecDepth 100000
namespace Go.Proofs.YtdkonnnmkceagaaGreatDoor
section
open Go.RowKit
open Clk
attribute [local go_sem] Oper.semAt_some
structure Clk.Bnd where
 lo:Int
 hi:Int
 un:Int
 ov:Int
def Kj (l:Int) (b:Bnd):Bool:=decide (b.lo<l) || (decide (l=b.lo)&&decide (b.un<0))
def Is (h:Int) (b:Bnd):Bool:=decide (h<b.hi) || (decide (h=b.hi)&&decide (b.ov<0))
def stepB (ix l h:Int) (b:Bnd):Bnd:=⟨if Kj l b then l else b.lo,if Is h b then h else b.hi,if Kj l b then ix else b.un,if Is h b then ix else b.ov⟩
theorem SY {Q:Exit->Act->World->Prop} {us:List Value} {bO bF bB:Nat} {ix fl fh fi la lo hi un ov q:Int} {w W0:World} {L:Ec} {R:List E9}     (h0:Hid (CE w ((bO,#[.int .i64 0,.int .i64 0,.int .i64 0,.int .i64 0],68) :: (bF,#[.int .i64 ix,.int .i64 fl,.int .i64 fh,.int .i64 fi,.int .i64 la],127) :: (bB,#[.int .i64 lo,.int .i64 hi,.int .i64 un,.int .i64 ov],68) :: L) R W0)) (hN:us.length=57) (g4:us[4]? = some (.pointer (some ⟨bB,0,none⟩))) (g5:us[5]? = some (.pointer (some ⟨bF,0,none⟩))) (g7:us[7]? = some (.int .i64 q)) {ops:Array Oper} (ho:D8 Tryz.f74.body 3=some ops)
  (hQ:∀ (x:Nat->Value)  (W':World),Hid (CE w ((bO,#[.int .i64 0,.int .i64 0,.int .i64 0,.int .i64 0],68) :: (bF,#[.int .i64 ix,.int .i64 fl,.int .i64 fh,.int .i64 fi,.int .i64 la],127) :: (bB,#[.int .i64 q,.int .i64 hi,.int .i64 ix,.int .i64 ov],68) :: L) R W')->Q .normal { tmps:=(Dp [31,32,33,34,35] x us).toArray,defers:=[] } W') :
  (Code.region 3 ops true).wp Tryz.prog Q { tmps:=us.toArray,defers:=[] } W0:=by
 obtain rfl:=AL (ho.symm.trans (rfl:D8 Tryz.f74.body 3=some _))
 clear ho
 replace hQ:=A8 hQ
 let Fl:Unit->FL:=fun g=>[some (31,.int .i64 q),some (32,.pointer (some ⟨bF,0,none⟩)),some (33,.int .i64 ix),some (34,.pointer (some ⟨bB,0,none⟩)),none,some (35,.pointer (some ⟨bB,2,none⟩)),none]
 let Ml:Unit->ML:=fun g=>[]
 let Sl_:Unit->List (World->Prop):=fun g=>[fun W=>CE w ((bO,#[.int .i64 0,.int .i64 0,.int .i64 0,.int .i64 0],68) :: (bF,#[.int .i64 ix,.int .i64 fl,.int .i64 fh,.int .i64 fi,.int .i64 la],127) :: (bB,#[.int .i64 lo,.int .i64 hi,.int .i64 un,.int .i64 ov],68) :: L) R W,fun W=>CE w ((bO,#[.int .i64 0,.int .i64 0,.int .i64 0,.int .i64 0],68) :: (bF,#[.int .i64 ix,.int .i64 fl,.int .i64 fh,.int .i64 fi,.int .i64 la],127) :: (bB,#[.int .i64 q,.int .i64 hi,.int .i64 un,.int .i64 ov],68) :: L) R W,fun W=>CE w ((bO,#[.int .i64 0,.int .i64 0,.int .i64 0,.int .i64 0],68) :: (bF,#[.int .i64 ix,.int .i64 fl,.int .i64 fh,.int .i64 fi,.int .i64 la],127) :: (bB,#[.int .i64 q,.int .i64 hi,.int .i64 ix,.int .i64 ov],68) :: L) R W]
 have St:Hn 57 [31,32,33,34,35] [] Fl Ml (CE w L R) Sl_:=⟨fun _=>by kernel_rfl,fun _=>rfl,fun _ _ hb h=>h.call hb,fun g=>(fun _ h=>by cases h),fun g=>BH.2 ⟨fun W W' hb h=>h.call hb,BH.2 ⟨fun W W' hb h=>h.call hb,BH.2 ⟨fun W W' hb h=>h.call hb,(fun _ h=>by cases h)⟩⟩⟩⟩
 refine EN St us [4,6] () hN h0.out.tail.tail.tail.drew h0.out.drew ?_ ?_
 refine sV St ?_ (fun z=>z.u g7)
 refine sV St ?_ (fun z=>z.u g5)
 refine CD (stV St 2 rfl rfl rfl (fun _=>rfl) fun g T E W hl hw hs z K J=>by
  have x32:=z.x 1 hw rfl;have k0:W.cell? ⟨bF,0,none⟩=some (.int .i64 ix:Value):=z.ld 2 0 1 hl hw hs rfl Ab ⟨fun s=>CE.cell (s) _ _ _ Ai 0,fun s=>CE.cell (s) _ _ _ Ai 0⟩;go_simp;exact J) ?_
 refine sV St ?_ (fun z=>z.u g4)
 refine CD (stE 4 0 (.inl rfl) rfl rfl (fun _=>rfl) Ab (fun _=>by kernel_rfl) fun g T E W hl hw hs z q K J=>by
  have x31:=z.x 0 hw rfl;have x34:=z.x 3 hw rfl;have hM0:CE _ _ _ _:=q;have y0:=hM0.cell _ _ _ Aj 0;have w0:=hM0.frozen _ _ _ Aj 0;go_simp;exact J _ ((hM0.put (A:=[_,_]) 0 _).tail.tail.tail) (hM0.put (A:=[_,_]) 0 _)) ?_
 refine sV St ?_ (fun z=>z.u g4)
 refine CD (stE 6 1 (.inl rfl) rfl rfl (fun _=>rfl) Ab (fun _=>by kernel_rfl) fun g T E W hl hw hs z q K J=>by
  have x33:=z.x 2 hw rfl;have x35:=z.x 5 hw rfl;have hM0:CE _ _ _ _:=q;have y0:=hM0.cell _ _ _ Aj 2;have w0:=hM0.frozen _ _ _ Aj 2;go_simp;exact J _ ((hM0.put (A:=[_,_]) 2 _).tail.tail.tail) (hM0.put (A:=[_,_]) 2 _)) ?_
 ·exact D5
 ·intro g a W z q
  have hM9:CE _ _ _ _:=q;rw [z.f.eqs];exact hQ.out _   _  (A8 hM9)
theorem Nm {Q:Exit->Act->World->Prop} {us:List Value} {bO bF bB:Nat} {ix fl fh fi la lo hi un ov q:Int} {w W0:World} {L:Ec} {R:List E9}     (h0:Hid (CE w ((bO,#[.int .i64 0,.int .i64 0,.int .i64 0,.int .i64 0],68) :: (bF,#[.int .i64 ix,.int .i64 fl,.int .i64 fh,.int .i64 fi,.int .i64 la],127) :: (bB,#[.int .i64 lo,.int .i64 hi,.int .i64 un,.int .i64 ov],68) :: L) R W0)) (hN:us.length=57) (g4:us[4]? = some (.pointer (some ⟨bB,0,none⟩))) (g5:us[5]? = some (.pointer (some ⟨bF,0,none⟩))) (g8:us[8]? = some (.int .i64 q)) {ops:Array Oper} (ho:D8 Tryz.f74.body 5=some ops)
  (hQ:∀ (x:Nat->Value)  (W':World),Hid (CE w ((bO,#[.int .i64 0,.int .i64 0,.int .i64 0,.int .i64 0],68) :: (bF,#[.int .i64 ix,.int .i64 fl,.int .i64 fh,.int .i64 fi,.int .i64 la],127) :: (bB,#[.int .i64 lo,.int .i64 q,.int .i64 un,.int .i64 ix],68) :: L) R W')->Q .normal { tmps:=(Dp [51,52,53,54,55] x us).toArray,defers:=[] } W') :
  (Code.region 5 ops true).wp Tryz.prog Q { tmps:=us.toArray,defers:=[] } W0:=by
 obtain rfl:=AL (ho.symm.trans (rfl:D8 Tryz.f74.body 5=some _))
 clear ho
 replace hQ:=A8 hQ
 let Fl:Unit->FL:=fun g=>[some (51,.int .i64 q),some (52,.pointer (some ⟨bF,0,none⟩)),some (53,.int .i64 ix),some (54,.pointer (some ⟨bB,1,none⟩)),none,some (55,.pointer (some ⟨bB,3,none⟩)),none]
 let Ml:Unit->ML:=fun g=>[]
 let Sl_:Unit->List (World->Prop):=fun g=>[fun W=>CE w ((bO,#[.int .i64 0,.int .i64 0,.int .i64 0,.int .i64 0],68) :: (bF,#[.int .i64 ix,.int .i64 fl,.int .i64 fh,.int .i64 fi,.int .i64 la],127) :: (bB,#[.int .i64 lo,.int .i64 hi,.int .i64 un,.int .i64 ov],68) :: L) R W,fun W=>CE w ((bO,#[.int .i64 0,.int .i64 0,.int .i64 0,.int .i64 0],68) :: (bF,#[.int .i64 ix,.int .i64 fl,.int .i64 fh,.int .i64 fi,.int .i64 la],127) :: (bB,#[.int .i64 lo,.int .i64 q,.int .i64 un,.int .i64 ov],68) :: L) R W,fun W=>CE w ((bO,#[.int .i64 0,.int .i64 0,.int .i64 0,.int .i64 0],68) :: (bF,#[.int .i64 ix,.int .i64 fl,.int .i64 fh,.int .i64 fi,.int .i64 la],127) :: (bB,#[.int .i64 lo,.int .i64 q,.int .i64 un,.int .i64 ix],68) :: L) R W]
 have St:Hn 57 [51,52,53,54,55] [] Fl Ml (CE w L R) Sl_:=⟨fun _=>by kernel_rfl,fun _=>rfl,fun _ _ hb h=>h.call hb,fun g=>(fun _ h=>by cases h),fun g=>BH.2 ⟨fun W W' hb h=>h.call hb,BH.2 ⟨fun W W' hb h=>h.call hb,BH.2 ⟨fun W W' hb h=>h.call hb,(fun _ h=>by cases h)⟩⟩⟩⟩
 refine EN St us [4,6] () hN h0.out.tail.tail.tail.drew h0.out.drew ?_ ?_
 refine sV St ?_ (fun z=>z.u g8)
 refine sV St ?_ (fun z=>z.u g5)
 refine CD (stV St 2 rfl rfl rfl (fun _=>rfl) fun g T E W hl hw hs z K J=>by
  have x52:=z.x 1 hw rfl;have k0:W.cell? ⟨bF,0,none⟩=some (.int .i64 ix:Value):=z.ld 2 0 1 hl hw hs rfl Ab ⟨fun s=>CE.cell (s) _ _ _ Ai 0,fun s=>CE.cell (s) _ _ _ Ai 0⟩;go_simp;exact J) ?_
 refine sV St ?_ (fun z=>z.u g4)
 refine CD (stE 4 0 (.inl rfl) rfl rfl (fun _=>rfl) Ab (fun _=>by kernel_rfl) fun g T E W hl hw hs z q K J=>by
  have x51:=z.x 0 hw rfl;have x54:=z.x 3 hw rfl;have hM0:CE _ _ _ _:=q;have y0:=hM0.cell _ _ _ Aj 1;have w0:=hM0.frozen _ _ _ Aj 1;go_simp;exact J _ ((hM0.put (A:=[_,_]) 1 _).tail.tail.tail) (hM0.put (A:=[_,_]) 1 _)) ?_
 refine sV St ?_ (fun z=>z.u g4)
 refine CD (stE 6 1 (.inl rfl) rfl rfl (fun _=>rfl) Ab (fun _=>by kernel_rfl) fun g T E W hl hw hs z q K J=>by
  have x53:=z.x 2 hw rfl;have x55:=z.x 5 hw rfl;have hM0:CE _ _ _ _:=q;have y0:=hM0.cell _ _ _ Aj 3;have w0:=hM0.frozen _ _ _ Aj 3;go_simp;exact J _ ((hM0.put (A:=[_,_]) 3 _).tail.tail.tail) (hM0.put (A:=[_,_]) 3 _)) ?_
 ·exact D5
 ·intro g a W z q
  have hM9:CE _ _ _ _:=q;rw [z.f.eqs];exact hQ.out _   _  (A8 hM9)
theorem QU (f:Fc) (b:Bnd) (bR bT:Nat) (rate s:Int) (w:World) (k1:CO w bR #[.int .i64 rate] 3) (k2:CO w bT #[.int .i64 s] 3) (hl:-2000000<=f.lo/\f.lo<=2000000) (hh:-2000000<=f.hi/\f.hi<=2000000) (hf:-200000000000<=f.fi/\f.fi<=200000000000) (ha:-200000000000<=f.la/\f.la<=200000000000) (hs:0<=s/\s<=10000000) (hr:0<=rate/\rate<=1000) :
  Calls Tryz.prog 74 #[.agg #[.int .i64 b.lo,.int .i64 b.hi,.int .i64 b.un,.int .i64 b.ov],.agg f.cells,.pointer (some ⟨bR,0,none⟩),.pointer (some ⟨bT,0,none⟩)] w (CM w
   (.agg #[.int .i64 (stepB f.ix (f.lo-DZ rate s f.fi f.la) (f.hi+DZ rate s f.fi f.la) b).lo,.int .i64 (stepB f.ix (f.lo-DZ rate s f.fi f.la) (f.hi+DZ rate s f.fi f.la) b).hi,.int .i64 (stepB f.ix (f.lo-DZ rate s f.fi f.la) (f.hi+DZ rate s f.fi f.la) b).un,.int .i64 (stepB f.ix (f.lo-DZ rate s f.fi f.la) (f.hi+DZ rate s f.fi f.la) b).ov])):=by
 obtain ⟨ix,fl,fh,fi,la⟩:=f
 obtain ⟨lo,hi,un,ov⟩:=b
 dsimp only [Clk.Fc.cells] at hl hh hf ha |-
 have FA:=A8 (fun W=>fat_any ix fl fh fi la rate s W hl hh hf ha hs hr)
 have z1:=k1.cell 0
 have z2:=k2.cell 0
 simp only [BR,Cm] at z1 z2
 have l1:=Ck w _ z1
 have l2:=Ck w _ z2
 obtain ⟨V1,bB,e1,eB,S1⟩:=(CE.start w).addB #[.int .i64 lo,.int .i64 hi,.int .i64 un,.int .i64 ov] 68
 obtain ⟨V2,bF,e2,eF,S2⟩:=S1.addB #[.int .i64 ix,.int .i64 fl,.int .i64 fh,.int .i64 fi,.int .i64 la] 127
 obtain ⟨V3,bO,e3,eO,S3⟩:=S2.addB #[.int .i64 0,.int .i64 0,.int .i64 0,.int .i64 0] 68
 have hM:=A8 S3
 rw [e1] at e2 eF
 rw [e2] at e3 eO
 clear S1 S2 S3 e1 e2 k1 k2 hl hh hf ha hs hr
 have hF:bF=w.heap.size+1:=by rw [eF];exact AP _ _
 have hO:bO=w.heap.size+1+1:=by rw [eO,AP,AP]
 clear eO eF
 replace z1:=hM.out.old l1 z1
 replace z2:=hM.out.old l2 z2
 generalize fl-DZ rate s fi la=qL at *
 generalize fh+DZ rate s fi la=qH at *
 have E1:=A8 (show (stepB ix qL qH ⟨lo,hi,un,ov⟩).lo=if Kj qL ⟨lo,hi,un,ov⟩ then qL else lo from rfl)
 have E2:=A8 (show (stepB ix qL qH ⟨lo,hi,un,ov⟩).hi=if Is qH ⟨lo,hi,un,ov⟩ then qH else hi from rfl)
 have E3:=A8 (show (stepB ix qL qH ⟨lo,hi,un,ov⟩).un=if Kj qL ⟨lo,hi,un,ov⟩ then ix else un from rfl)
 have E4:=A8 (show (stepB ix qL qH ⟨lo,hi,un,ov⟩).ov=if Is qH ⟨lo,hi,un,ov⟩ then ix else ov from rfl)
 generalize (stepB ix qL qH ⟨lo,hi,un,ov⟩).lo=p1 at *
 generalize (stepB ix qL qH ⟨lo,hi,un,ov⟩).hi=p2 at *
 generalize (stepB ix qL qH ⟨lo,hi,un,ov⟩).un=p3 at *
 generalize (stepB ix qL qH ⟨lo,hi,un,ov⟩).ov=p4 at *
 go_enter Tryz.func74,Tryz.ntmps74
 go_upto_region 1 with fail
 rw [<-e3,<-hO,<-hF,<-eB]
 clear e3 hF hO eB
 have y0:=(hM.out.cell bF _ _ Ai 0).trans (show _=some (Value.int .i64 ix) from rfl)
 have y1:=(hM.out.cell bF _ _ Ai 1).trans (show _=some (Value.int .i64 fl) from rfl)
 have y2:=(hM.out.cell bF _ _ Ai 2).trans (show _=some (Value.int .i64 fh) from rfl)
 have y3:=(hM.out.cell bF _ _ Ai 3).trans (show _=some (Value.int .i64 fi) from rfl)
 have y4:=(hM.out.cell bF _ _ Ai 4).trans (show _=some (Value.int .i64 la) from rfl)
 go_wp2_with fail
 refine Calls.mono (FA.out _) ?_
 rintro e w1 ⟨rfl,hb⟩
 replace hM:=A8 (hM.out.call hb)
 clear y0 y1 y2 y3 y4 hb FA z1 z2 l1 l2
 go_upto_region 2 with fail
 go_cut [30] (fun p wx=>p=.bool (Kj qL ⟨lo,hi,un,ov⟩)/\Hid (CE w [(bO,#[.int .i64 0,.int .i64 0,.int .i64 0,.int .i64 0],68),(bF,#[.int .i64 ix,.int .i64 fl,.int .i64 fh,.int .i64 fi,.int .i64 la],127),(bB,#[.int .i64 lo,.int .i64 hi,.int .i64 un,.int .i64 ov],68)] [] wx))
 case first =>
  have y0:=(hM.out.cell bB _ _ Aj 0).trans (show _=some (Value.int .i64 lo) from rfl);have y2:=(hM.out.cell bB _ _ Aj 2).trans (show _=some (Value.int .i64 un) from rfl);by_cases g1:lo<qL
  ·have g6:Kj qL ⟨lo,hi,un,ov⟩=true:=by simp [Kj,Is,g1]
   go_wp2_with fail;go_meet;exact ⟨by rw [g6],hM⟩
  ·by_cases g2:qL=lo
   ·by_cases g5:un<0
    ·have g6:Kj qL ⟨lo,hi,un,ov⟩=true:=by simp [Kj,Is,g2,g5]
     have g3:(qL==lo)=true:=by simp [g2]
     clear g2;go_wp2_with fail;go_meet;exact ⟨by rw [g6],hM⟩
    ·have g6:Kj qL ⟨lo,hi,un,ov⟩=false:=by simp [Kj,Is,g2,g5]
     have g3:(qL==lo)=true:=by simp [g2]
     clear g2;go_wp2_with fail;go_meet;exact ⟨by rw [g6],hM⟩
   ·have g6:Kj qL ⟨lo,hi,un,ov⟩=false:=by simp [Kj,Is,g2];omega
    have g3:(qL==lo)=false:=by simp [g2]
    clear g2;go_wp2_with fail;go_meet;exact ⟨by rw [g6],hM⟩
 case rest =>
  clear hM;obtain ⟨rfl,hM⟩:=hcut;generalize Kj qL ⟨lo,hi,un,ov⟩=pU at *
  cases pU;case false =>
   obtain rfl:=(E1.out.trans (AF Ae)).symm;obtain rfl:=(E3.out.trans (AF Ae)).symm;clear E1 E3;go_upto_region 4 with fail;go_cut [50] (fun p wx=>p=.bool (Is qH ⟨lo,hi,un,ov⟩)/\Hid (CE w [(bO,#[.int .i64 0,.int .i64 0,.int .i64 0,.int .i64 0],68),(bF,#[.int .i64 ix,.int .i64 fl,.int .i64 fh,.int .i64 fi,.int .i64 la],127),(bB,#[.int .i64 lo,.int .i64 hi,.int .i64 un,.int .i64 ov],68)] [] wx));case first =>
    have y0:=(hM.out.cell bB _ _ Aj 1).trans (show _=some (Value.int .i64 hi) from rfl);have y2:=(hM.out.cell bB _ _ Aj 3).trans (show _=some (Value.int .i64 ov) from rfl);by_cases g1:qH<hi
    ·have g6:Is qH ⟨lo,hi,un,ov⟩=true:=by simp [Kj,Is,g1]
     go_wp2_with fail;go_meet;exact ⟨by rw [g6],hM⟩
    ·by_cases g2:qH=hi
     ·by_cases g5:ov<0
      ·have g6:Is qH ⟨lo,hi,un,ov⟩=true:=by simp [Kj,Is,g2,g5]
       have g3:(qH==hi)=true:=by simp [g2]
       clear g2;go_wp2_with fail;go_meet;exact ⟨by rw [g6],hM⟩
      ·have g6:Is qH ⟨lo,hi,un,ov⟩=false:=by simp [Kj,Is,g2,g5]
       have g3:(qH==hi)=true:=by simp [g2]
       clear g2;go_wp2_with fail;go_meet;exact ⟨by rw [g6],hM⟩
     ·have g6:Is qH ⟨lo,hi,un,ov⟩=false:=by simp [Kj,Is,g2];omega
      have g3:(qH==hi)=false:=by simp [g2]
      clear g2;go_wp2_with fail;go_meet;exact ⟨by rw [g6],hM⟩
   case rest =>
    clear hM;obtain ⟨rfl,hM⟩:=hcut;generalize Is qH ⟨lo,hi,un,ov⟩=pO at *
    cases pO;case false =>
     obtain rfl:=(E2.out.trans (AF Ae)).symm;obtain rfl:=(E4.out.trans (AF Ae)).symm;clear E2 E4;go_upto_region 6 with fail;obtain ⟨k0,k1,k2,k3,c0,c1,c2,c3,hB⟩:=Gb (hM.out.blks _ Ah) (.int .i64 lo) (.int .i64 hi) (.int .i64 un) (.int .i64 ov);have r0:=hB.cell 0;have r1:=hB.cell 1;have r2:=hB.cell 2;have r3:=hB.cell 3;simp only [BR,Cm,Cn] at r0 r1 r2 r3;have y0:=(hM.out.cell bB _ _ Aj 0).trans (show _=some (Value.int .i64 lo) from rfl);have y1:=(hM.out.cell bB _ _ Aj 1).trans (show _=some (Value.int .i64 hi) from rfl);have y2:=(hM.out.cell bB _ _ Aj 2).trans (show _=some (Value.int .i64 un) from rfl);have y3:=(hM.out.cell bB _ _ Aj 3).trans (show _=some (Value.int .i64 ov) from rfl);have hfin:=A8 (hM.out.out4 (.int .i64 lo) (.int .i64 hi) (.int .i64 un) (.int .i64 ov)).below;clear hM hB;go_wp2_with fail;exact bodyPost_ret (v:=.agg #[.int .i64 lo,.int .i64 hi,.int .i64 un,.int .i64 ov]) (by simp [results,Tryz.results74,go_sem,r0,r1,r2,r3]) rfl ⟨rfl,hfin.out⟩
    case true =>
     obtain rfl:=(E2.out.trans (AI rfl)).symm;obtain rfl:=(E4.out.trans (AI rfl)).symm;clear E2 E4;go_upto_region 5 with fail;refine Nm (bO:=bO) (bF:=bF) (bB:=bB) (ix:=ix) (fl:=fl) (fh:=fh) (fi:=fi) (la:=la) (lo:=lo) (hi:=hi) (un:=un) (ov:=ov) (q:=qH) hM rfl rfl rfl rfl Ab ?_;intro xx W' hM;simp only [Dp,BN,BO,A5,A6];go_upto_region 6 with fail;obtain ⟨k0,k1,k2,k3,c0,c1,c2,c3,hB⟩:=Gb (hM.out.blks _ Ah) (.int .i64 lo) (.int .i64 qH) (.int .i64 un) (.int .i64 ix);have r0:=hB.cell 0;have r1:=hB.cell 1;have r2:=hB.cell 2;have r3:=hB.cell 3;simp only [BR,Cm,Cn] at r0 r1 r2 r3;have y0:=(hM.out.cell bB _ _ Aj 0).trans (show _=some (Value.int .i64 lo) from rfl);have y1:=(hM.out.cell bB _ _ Aj 1).trans (show _=some (Value.int .i64 qH) from rfl);have y2:=(hM.out.cell bB _ _ Aj 2).trans (show _=some (Value.int .i64 un) from rfl);have y3:=(hM.out.cell bB _ _ Aj 3).trans (show _=some (Value.int .i64 ix) from rfl);have hfin:=A8 (hM.out.out4 (.int .i64 lo) (.int .i64 qH) (.int .i64 un) (.int .i64 ix)).below;clear hM hB;go_wp2_with fail;exact bodyPost_ret (v:=.agg #[.int .i64 lo,.int .i64 qH,.int .i64 un,.int .i64 ix]) (by simp [results,Tryz.results74,go_sem,r0,r1,r2,r3]) rfl ⟨rfl,hfin.out⟩
  case true =>
   obtain rfl:=(E1.out.trans (AI rfl)).symm;obtain rfl:=(E3.out.trans (AI rfl)).symm;clear E1 E3;go_upto_region 3 with fail;refine SY (bO:=bO) (bF:=bF) (bB:=bB) (ix:=ix) (fl:=fl) (fh:=fh) (fi:=fi) (la:=la) (lo:=lo) (hi:=hi) (un:=un) (ov:=ov) (q:=qL) hM rfl rfl rfl rfl Ab ?_;intro xx W' hM;simp only [Dp,BN,BO,A5,A6];go_upto_region 4 with fail;go_cut [50] (fun p wx=>p=.bool (Is qH ⟨lo,hi,un,ov⟩)/\Hid (CE w [(bO,#[.int .i64 0,.int .i64 0,.int .i64 0,.int .i64 0],68),(bF,#[.int .i64 ix,.int .i64 fl,.int .i64 fh,.int .i64 fi,.int .i64 la],127),(bB,#[.int .i64 qL,.int .i64 hi,.int .i64 ix,.int .i64 ov],68)] [] wx));case first =>
    have y0:=(hM.out.cell bB _ _ Aj 1).trans (show _=some (Value.int .i64 hi) from rfl);have y2:=(hM.out.cell bB _ _ Aj 3).trans (show _=some (Value.int .i64 ov) from rfl);by_cases g1:qH<hi
    ·have g6:Is qH ⟨lo,hi,un,ov⟩=true:=by simp [Kj,Is,g1]
     go_wp2_with fail;go_meet;exact ⟨by rw [g6],hM⟩
    ·by_cases g2:qH=hi
     ·by_cases g5:ov<0
      ·have g6:Is qH ⟨lo,hi,un,ov⟩=true:=by simp [Kj,Is,g2,g5]
       have g3:(qH==hi)=true:=by simp [g2]
       clear g2;go_wp2_with fail;go_meet;exact ⟨by rw [g6],hM⟩
      ·have g6:Is qH ⟨lo,hi,un,ov⟩=false:=by simp [Kj,Is,g2,g5]
       have g3:(qH==hi)=true:=by simp [g2]
       clear g2;go_wp2_with fail;go_meet;exact ⟨by rw [g6],hM⟩
     ·have g6:Is qH ⟨lo,hi,un,ov⟩=false:=by simp [Kj,Is,g2];omega
      have g3:(qH==hi)=false:=by simp [g2]
      clear g2;go_wp2_with fail;go_meet;exact ⟨by rw [g6],hM⟩
   case rest =>
    clear hM;obtain ⟨rfl,hM⟩:=hcut;generalize Is qH ⟨lo,hi,un,ov⟩=pO at *
    cases pO;case false =>
     obtain rfl:=(E2.out.trans (AF Ae)).symm;obtain rfl:=(E4.out.trans (AF Ae)).symm;clear E2 E4;go_upto_region 6 with fail;obtain ⟨k0,k1,k2,k3,c0,c1,c2,c3,hB⟩:=Gb (hM.out.blks _ Ah) (.int .i64 qL) (.int .i64 hi) (.int .i64 ix) (.int .i64 ov);have r0:=hB.cell 0;have r1:=hB.cell 1;have r2:=hB.cell 2;have r3:=hB.cell 3;simp only [BR,Cm,Cn] at r0 r1 r2 r3;have y0:=(hM.out.cell bB _ _ Aj 0).trans (show _=some (Value.int .i64 qL) from rfl);have y1:=(hM.out.cell bB _ _ Aj 1).trans (show _=some (Value.int .i64 hi) from rfl);have y2:=(hM.out.cell bB _ _ Aj 2).trans (show _=some (Value.int .i64 ix) from rfl);have y3:=(hM.out.cell bB _ _ Aj 3).trans (show _=some (Value.int .i64 ov) from rfl);have hfin:=A8 (hM.out.out4 (.int .i64 qL) (.int .i64 hi) (.int .i64 ix) (.int .i64 ov)).below;clear hM hB;go_wp2_with fail;exact bodyPost_ret (v:=.agg #[.int .i64 qL,.int .i64 hi,.int .i64 ix,.int .i64 ov]) (by simp [results,Tryz.results74,go_sem,r0,r1,r2,r3]) rfl ⟨rfl,hfin.out⟩
    case true =>
     obtain rfl:=(E2.out.trans (AI rfl)).symm;obtain rfl:=(E4.out.trans (AI rfl)).symm;clear E2 E4;go_upto_region 5 with fail;refine Nm (bO:=bO) (bF:=bF) (bB:=bB) (ix:=ix) (fl:=fl) (fh:=fh) (fi:=fi) (la:=la) (lo:=qL) (hi:=hi) (un:=ix) (ov:=ov) (q:=qH) hM rfl rfl rfl rfl Ab ?_;intro xx W' hM;simp only [Dp,BN,BO,A5,A6];go_upto_region 6 with fail;obtain ⟨k0,k1,k2,k3,c0,c1,c2,c3,hB⟩:=Gb (hM.out.blks _ Ah) (.int .i64 qL) (.int .i64 qH) (.int .i64 ix) (.int .i64 ix);have r0:=hB.cell 0;have r1:=hB.cell 1;have r2:=hB.cell 2;have r3:=hB.cell 3;simp only [BR,Cm,Cn] at r0 r1 r2 r3;have y0:=(hM.out.cell bB _ _ Aj 0).trans (show _=some (Value.int .i64 qL) from rfl);have y1:=(hM.out.cell bB _ _ Aj 1).trans (show _=some (Value.int .i64 qH) from rfl);have y2:=(hM.out.cell bB _ _ Aj 2).trans (show _=some (Value.int .i64 ix) from rfl);have y3:=(hM.out.cell bB _ _ Aj 3).trans (show _=some (Value.int .i64 ix) from rfl);have hfin:=A8 (hM.out.out4 (.int .i64 qL) (.int .i64 qH) (.int .i64 ix) (.int .i64 ix)).below;clear hM hB;go_wp2_with fail;exact bodyPost_ret (v:=.agg #[.int .i64 qL,.int .i64 qH,.int .i64 ix,.int .i64 ix]) (by simp [results,Tryz.results74,go_sem,r0,r1,r2,r3]) rfl ⟨rfl,hfin.out⟩
end
section
open Go.RowKit Go.Shelf
open Clk
attribute [local go_sem] Oper.semAt_some
def DQ (d tol:Int) (rs:List Rd) (ss:List Sm) (i:Nat):Fc:=⟨i,(CW ss i).val-tol,(CW ss i).val+tol,EP d (CW ss i).loc rs 0,DM d (CW ss i).loc rs 10000000⟩
def fcV (d tol:Int) (rs:List Rd) (ss:List Sm) {n:Nat} (i:Fin n):Array Value:=#[.agg (DQ d tol rs ss i.1).cells]
structure Ep (w:World) (bG:Nat) (d tol rate:Int) (rv sv:Value) (rs:List Rd) (ss:List Sm):Prop where
 box:CO w bG #[.int .i64 d,rv,.int .i64 tol,.int .i64 rate,sv] 42
 r:NL w rv rs
 s:Nl w sv ss
 dB:0<=d/\d<=100
 tB:0<=tol/\tol<=1000
 rOk:J7 rs
 sOk:PR ss
 win:∀ i,i<ss.length->EP d (CW ss i).loc rs 0<=DM d (CW ss i).loc rs 10000000
theorem Ep.below {w W:World} {bG:Nat} {d tol rate:Int} {rv sv:Value} {rs:List Rd} {ss:List Sm} (h:Ep w bG d tol rate rv sv rs ss) (hb:Below w.heap.size w W):Ep W bG d tol rate rv sv rs ss :=
 ⟨h.box.below hb,h.r.below hb,h.s.below hb,h.dB,h.tB,h.rOk,h.sOk,h.win⟩
theorem Nr (l bG:Nat) (d tol rate:Int) (rv sv:Value) (rs:List Rd) (ss:List Sm) (n₀ n:Nat) (hn:n=ss.length) (J Jx:List (Fin n)->World->Prop)
  (W:World) (hW:n₀<=W.heap.size) (hG:∀ W',Below n₀ W W'->Ep W' bG d tol rate rv sv rs ss) (hJ:AbidesFrom W.heap.size J)
  (hY:∀ pre x W,J pre W->pre.length<n->YieldAt Fence.wide 3 Tryz.prog l (fcV d tol rs ss x) W fun e W' =>
   (e=.returned (.bool true)/\J (pre++[x]) W'/\Below n₀ W W')∨(e=.returned (.bool false)/\Jx (pre++[x]) W'))
  (h0:J [] W) :
  CallsIn Fence.wide 4 Tryz.prog 76 #[.func (.yield l) #[] #[],.pointer (some ⟨bG,0,none⟩)] W fun e W'=>(∃ v,e=.returned v) /\
   ((∃ ys:List (Fin n),ys.map (·.1)=List.range n/\J ys W')∨(∃ pre,True/\Jx pre W')):=by
 have g0:=hG W (Below.refl _ _)
 have hd:=g0.dB
 have ht:=g0.tB
 have hn24:n<=24:=by rw [hn];exact g0.sOk.len
 have hss:=A8 g0.sOk
 have hwin:=A8 g0.win
 have hrs:=A8 g0.rOk
 obtain ⟨a,cap,hsv⟩:=g0.s.shape
 obtain ⟨ra,rcap,hrv⟩:=g0.r.shape
 clear g0
 replace hG:=A8 hG
 replace hn:=A8 hn
 subst hsv
 subst hrv
 refine callsIn_of_wp Tryz.func76 rfl trivial ?_ rfl
 simp only [Tryz.ntmps76,Bg,C4,Cf,Nat.reduceAdd,Nat.reduceSub,Cg,Ch,Ci,Cj,BC,BK]
 rw [<-hn.out] at hG
 have x4:=((hG.out _ (Below.refl _ _)).box.cell 4).trans (show _=some (Value.slice a n cap) from rfl)
 gi_wp2
 clear x4
 gi_loopw [11] (fun o wr=>∃ (i:Nat) (pre:List (Fin n)),o=.int .i64 i/\i<=n/\W.heap.size<=wr.heap.size/\J pre wr/\Hid (pre.map (·.1)=List.range i)/\Below n₀ W wr)
  (fun o _=>n-(intOf o).toNat)
 case atStart=>exact ⟨0,[],rfl,Ad,Aa _,h0,A8 rfl,Below.refl _ _⟩
 case round =>
  clear h0;obtain ⟨i,pre,rfl,hi,hle,hJs,hpre,hB⟩:=hrel;by_cases hin:i<n;case neg =>
   have hin':¬ (i:Int)<n:=by omega
   obtain rfl:i=n:=by omega
   gi_wp2;go_end0;exact ⟨⟨_,rfl⟩,.inl ⟨pre,hpre.out,hJs⟩⟩
  case pos =>
   have hin':(i:Int)<n:=by omega
   have hi0:(0:Int)<=i:=by omega
   obtain ⟨k1,k2,k3,k4⟩:=hss.out.at_ i (by rw [<-hn.out];exact hin);have k5:=hss.out.pos i (by rw [<-hn.out];exact hin);have hwn:=hwin.out i (by rw [<-hn.out];exact hin);obtain ⟨b,off,ea,hbw,c0,c1⟩:∃ b off,a=some ⟨b,off,none⟩/\b<wr.heap.size/\CSm wr b (off+i*2) (CW ss i):=by
    rcases (hG.out wr hB).s with ⟨e,e2⟩ | ⟨b,off,cap',e,h1,h2,h3,h4⟩
    ·have:=hn.out;rw [e2] at this;simp at this;omega
    ·cases e
     exact ⟨b,off,rfl,h3,h4 i _ (FK (by rw [<-hn.out];exact hin))⟩
   subst ea;have hfc:Hid (fcV d tol rs ss (⟨i,hin⟩:Fin n)=#[.agg #[.int .i64 i,.int .i64 ((CW ss i).val-tol),.int .i64 ((CW ss i).val+tol),.int .i64 (EP d (CW ss i).loc rs 0),.int .i64 (DM d (CW ss i).loc rs 10000000)]]):=A8 rfl;have AT:=A8 (fun W (hW:Below n₀ wr W)=>cat_any d (CW ss i).loc _ rs W (hG.out W (hB.trans hW)).r hd ⟨k5,k2⟩ hrs.out hwn);generalize EP d (CW ss i).loc rs 0=qa at *
   generalize DM d (CW ss i).loc rs 10000000=qb at *
   generalize (CW ss i).loc=z1 at *
   generalize (CW ss i).val=z2 at *
   clear k1 hwn;have w1:IntKind.i64.wrap (z2-tol)=z2-tol:=Bz _ Ad;have w2:IntKind.i64.wrap (z2+tol)=z2+tol:=Bz _ Ad;have hb1:=Es (Below.refl wr.heap.size wr) (.cells #[.int .i64 z1,.int .i64 z2] 66);have kp:=CO.new wr #[.int .i64 z1,.int .i64 z2] 66;have hJ1:=hJ _ _ _ _ hJs (Db hb1) (fun r e=>by cases e);have hle1:=AN hle hb1.size;have hB1:Below n₀ W (wr.alloc (.cells #[.int .i64 z1,.int .i64 z2] 66)):=hB.trans (hb1.mono (AN hW hle));have hwV:Below n₀ wr (wr.alloc (.cells #[.int .i64 z1,.int .i64 z2] 66)):=hb1.mono (AN hW hle);have kg:=(hG.out _ hB1).box;have hlen:pre.length<n:=by
    have:=Bk List.length hpre.out;simp at this;omega
   have y0:=kp.cell 0;have g0:=kg.cell 0;have g1:=kg.cell 1;simp only [BR,Cm,Cn] at y0 g0 g1;gi_wp2_with (refine ⟨trivial,?_⟩;gi_at_call 77;refine (callsIn_wide.2 (AT.out _ hwV)).mono ?_;rintro e W4 ⟨rfl,hb4⟩;have hJ4:=hJ _ _ _ _ hJ1 (Db hb4) (fun r e=>by cases e);have kp4:=kp.below hb4;have kg4:=kg.below hb4;have v1:=kp4.cell 1;have v2:=kg4.cell 2;simp only [BR,Cm,Cn] at v1 v2;obtain ⟨fn,tmps,assign,body,hy,hRd⟩:=hY pre ⟨i,hin⟩ W4 hJ4 hlen;rw [hfc.out] at hy);refine hRd.mono ?_;rintro e W5 (⟨rfl,hJ5,hk5⟩ | ⟨rfl,hJx5⟩)
   ·gi_wp2
    go_roundw;case rel =>
     have hx:Below n₀ W W5:=(hB1.trans (hb4.mono (AN (AN hW hle) hb1.size))).trans hk5;exact ⟨i+1,pre++[⟨i,hin⟩],by go_num,Ad,AN (AN hle1 hb4.size) hk5.size,hJ5,A8 (by rw [AO,hpre.out,List.range_succ];rfl),hx⟩
    case measure=>simp [intOf];omega
   ·gi_wp2
    refine bodyPost_ret (results_none rfl _ _ _) rfl ?_;exact ⟨⟨_,rfl⟩,.inr ⟨_,trivial,hJx5⟩⟩
theorem OM (d tol rate:Int) (rv sv:Value) (w:World) (hr:∃ a l c,rv=.slice a l c) (hs:∃ a l c,sv=.slice a l c) :
  CallsIn Fence.wide 4 Tryz.prog 47 #[.agg #[.int .i64 d,rv,.int .i64 tol,.int .i64 rate,sv]] w fun e w'=>e=.returned (.func (.func 76) #[] #[.pointer (some ⟨w.heap.size,0,none⟩)])/\w.alloc (.cells #[.int .i64 d,rv,.int .i64 tol,.int .i64 rate,sv] 42)=w':=by
 obtain ⟨a,ln,cap,rfl⟩:=hr
 obtain ⟨a',ln',cap',rfl⟩:=hs
 refine callsIn_of_wp Tryz.func47 rfl trivial ?_ rfl
 simp only [Tryz.ntmps47,Bg,C4,Cf,Nat.reduceAdd,Nat.reduceSub,Cg,Ch,Ci,Cj,BC,BK]
 gi_wp2
 go_ret
 exact ⟨rfl,rfl⟩
theorem KK (bG:Nat) (d tol rate:Int) (rv sv:Value) (rs:List Rd) (ss:List Sm) (n₀:Nat) (w:World) (hw:n₀<=w.heap.size) (hG:∀ W',Below n₀ w W'->Ep W' bG d tol rate rv sv rs ss) :
  SeqStopsK Fence.wide 4 Tryz.prog 76 #[.pointer (some ⟨bG,0,none⟩)] (fcV d tol rs ss (n:=ss.length)) (Below n₀) (fun ys=>ys.map (·.1)=List.range ss.length) (fun _=>True) ss.length w:=fun l J Jx W hW hJ _ hY h0 =>
 Nr l bG d tol rate rv sv rs ss n₀ ss.length rfl J Jx W (AN hw hW.size) (fun W' hb=>hG W' ((hW.mono hw).trans hb)) hJ hY h0
theorem PX (d loc:Int):∀ (rs:List Rd) (a:Int),a<=EP d loc rs a
 | [],_=>Cc _
 | r :: rs,a=>Int.le_trans Ad (PX d loc rs (max a (NP d loc r)))
theorem Nu (d loc:Int):∀ (rs:List Rd) (a:Int),DM d loc rs a<=a
 | [],_=>Cc _
 | r :: rs,a=>Int.le_trans (Nu d loc rs (min a (NQ d loc r))) Ad
def Clk.Bnd.cells (b:Bnd):Array Value:=#[.int .i64 b.lo,.int .i64 b.hi,.int .i64 b.un,.int .i64 b.ov]
def smF (d tol rate s:Int) (rs:List Rd) (ss:List Sm) (b:Bnd) (i:Nat):Bnd:=stepB (DQ d tol rs ss i).ix ((DQ d tol rs ss i).lo-DZ rate s (DQ d tol rs ss i).fi (DQ d tol rs ss i).la) ((DQ d tol rs ss i).hi+DZ rate s (DQ d tol rs ss i).fi (DQ d tol rs ss i).la) b
def JC (d tol rate s:Int) (rs:List Rd) (ss:List Sm) (b0:Bnd) (l:List Nat):Bnd:=l.foldl (smF d tol rate s rs ss) b0
theorem Tr (d tol rate s:Int) (rs:List Rd) (ss:List Sm) (b0:Bnd) (l:List Nat) (i:Nat):JC d tol rate s rs ss b0 (l++[i])=smF d tol rate s rs ss (JC d tol rate s rs ss b0 l) i:=by
 unfold JC;rw [Cl];rfl
abbrev fnL (bR bT:Nat):Value:=.func (.func 74) #[] #[.pointer (some ⟨bR,0,none⟩),.pointer (some ⟨bT,0,none⟩)]
structure FI (W0:World) (B0 B1 B2 bR bT:Nat) (b:Bnd) (W:World):Prop where
 o:CO W B0 b.cells 68
 f:CO W B1 #[fnL bR bT] 131
 r:CO W B2 #[.int .i64 0,.int .i64 0,.int .i64 0,.int .i64 0] 68
 only:CG [B0] W0 W
theorem FI.cells {W0:World} {B0 B1 B2 bR bT:Nat} {b:Bnd} {W W':World} (h:FI W0 B0 B1 B2 bR bT b W) (k:CS W W') (ho:CG [B0] W0 W'):FI W0 B0 B1 B2 bR bT b W' :=
 ⟨k.blk h.o,k.blk h.f,k.blk h.r,ho⟩
theorem FI.call {W0:World} {B0 B1 B2 bR bT:Nat} {b:Bnd} {W W':World} (h:FI W0 B0 B1 B2 bR bT b W) (hb:Below W.heap.size W W'):FI W0 B0 B1 B2 bR bT b W' :=
 ⟨h.o.below hb,h.f.below hb,h.r.below hb,h.only.below hb⟩
theorem OP (bG bR bT:Nat) (d tol rate s:Int) (rv sv:Value) (rs:List Rd) (ss:List Sm) (b0:Bnd) (w:World) (hG:Ep w bG d tol rate rv sv rs ss) (k1:CO w bR #[.int .i64 rate] 3) (k2:CO w bT #[.int .i64 s] 3) (hs:0<=s/\s<=10000000) (hr:0<=rate/\rate<=1000) :
  Calls Tryz.prog 72 #[.agg b0.cells,.func (.func 76) #[] #[.pointer (some ⟨bG,0,none⟩)],fnL bR bT] w (CM w (.agg (JC d tol rate s rs ss b0 (List.range ss.length)).cells)):=by
 obtain ⟨U0,e0,S0,z0⟩:=(BL.start w).add' b0.cells 68
 obtain ⟨U1,e1,S1,z1⟩:=S0.add' #[fnL bR bT] 131
 obtain ⟨U2,e2,S2,z2⟩:=S1.add' #[.int .i64 0,.int .i64 0,.int .i64 0,.int .i64 0] 68
 rw [z0] at S1
 rw [z1,z0] at S2
 have hV:U2=((w.alloc (.cells b0.cells 68)).alloc (.cells #[fnL bR bT] 131)).alloc (.cells #[.int .i64 0,.int .i64 0,.int .i64 0,.int .i64 0] 68):=by rw [e2,e1,e0]
 rw [z1,z0] at z2
 clear e0 e1 e2 z0 z1 S0 S1
 have hb2:=S2.below
 have kb0:=S2.blks _ Aj
 have kb1:=S2.blks _ Ai
 have kb2:=S2.blks _ Ah
 dsimp only at kb0 kb1 kb2
 have hGW:∀ W',Below w.heap.size U2 W'->Ep W' bG d tol rate rv sv rs ss:=fun W' h=>hG.below (hb2.trans h)
 clear S2
 have hF:∀ i:Fin ss.length,-2000000<=(DQ d tol rs ss i.1).lo/\(DQ d tol rs ss i.1).lo<=2000000/\-2000000<=(DQ d tol rs ss i.1).hi/\(DQ d tol rs ss i.1).hi<=2000000/\-200000000000<=(DQ d tol rs ss i.1).fi/\(DQ d tol rs ss i.1).fi<=200000000000/\-200000000000<=(DQ d tol rs ss i.1).la/\(DQ d tol rs ss i.1).la<=200000000000:=fun i=>by
  obtain ⟨_,_,v1,v2⟩:=hG.sOk.at_ i.1 i.2;have:=hG.tB;have h1:=PX d (CW ss i.1).loc rs 0;have h2:=Nu d (CW ss i.1).loc rs 10000000;have h3:=hG.win i.1 i.2;unfold DQ;dsimp only;omega
 refine (callsIn_wide (n:=5)).1 ?_
 refine callsIn_of_wp_marks Tryz.func72 rfl trivial ?_ rfl
 simp only [Tryz.ntmps72,Bg,C4,Cf,Nat.reduceAdd,Nat.reduceSub,Cg,Ch,Ci,Cj,BC,BK]
 have hbc:b0.cells=#[.int .i64 b0.lo,.int .i64 b0.hi,.int .i64 b0.un,.int .i64 b0.ov]:=rfl
 rw [hbc] at hV |-
 gi_wp2
 rw [<-hV]
 clear hV hbc
 refine wpIn_rangeFunc_ownH (F:=Fence.wide) (n:=5) (gf:=76) (lb:=#[.pointer (some ⟨bG,0,none⟩)]) (N:=ss.length) rfl Ae rfl trivial (Go.Proofs.enters_of Tryz.func76 Ab rfl)
  (KK bG d tol rate rv sv rs ss w.heap.size U2 hb2.size hGW) (fun h k=>h.trans k) (fun W l o o' h1 h2 h3 h4=>belowK_b (w:=U2) hb2.size W l o o' h1 h2 h3 h4) (Below.refl _ _) (fun _=>rfl)
  (fun (pre:List (Fin ss.length)) W=>FI U2 w.heap.size (w.heap.size+1) (w.heap.size+1+1) bR bT (JC d tol rate s rs ss b0 (pre.map Fin.val)) W) (fun _ _ _=>False)
  (fun s_ A B row hs hg hr=>hs.cells (Dh hg (fun r e=>(hr r e).2)) (F9 (S:=[w.heap.size]) (w:=U2) s_ A B row hs.only hg hr)) (fun _ _ _ _ _ hs _ _=>hs)
  ⟨kb0,kb1,kb2,CG.refl _ _⟩
  (fun x a' W=>∃ Bx,U2.heap.size<=Bx/\CO W Bx (DQ d tol rs ss x.1).cells 127/\a'={ tmps:=#[.agg #[.int .i64 b0.lo,.int .i64 b0.hi,.int .i64 b0.un,.int .i64 b0.ov],.func (.func 76) #[] #[.pointer (some ⟨bG,0,none⟩)],fnL bR bT,.pointer (some ⟨w.heap.size,0,none⟩),undef,.pointer (some ⟨w.heap.size+1,0,none⟩),.pointer (some ⟨w.heap.size+1+1,0,none⟩),.pointer (some ⟨Bx,0,none⟩),
   .func (.func 76) #[] #[.pointer (some ⟨bG,0,none⟩)],.agg (DQ d tol rs ss x.1).cells,undef,undef,undef,undef,undef],defers:=[] })
  (fun x a' u A B row ⟨Bx,h1,h2,h3⟩ hg hr=>⟨Bx,h1,(Dh hg (fun r e=>(hr r e).2)).blk h2,h3⟩) ?assign ?body ?done ?stop
 case assign =>
  intro l pre x W K hi hK;unfold fcV;have hfc:(DQ d tol rs ss x.1).cells=#[.int .i64 (DQ d tol rs ss x.1).ix,.int .i64 (DQ d tol rs ss x.1).lo,.int .i64 (DQ d tol rs ss x.1).hi,.int .i64 (DQ d tol rs ss x.1).fi,.int .i64 (DQ d tol rs ss x.1).la]:=rfl;rw [hfc] at hK |-;gi_wp2;exact hK _ _ ((KeepsOthers.alloc _ _).from _) ((Es (Below.refl _ _) _).mono (AN hb2.size hi.only.size)) (hi.call (Es (Below.refl _ _) _)) ⟨W.heap.size,hi.only.size,CO.new _ _ _,rfl⟩
 case body =>
  rintro l pre x a' W hl ⟨r,hr_⟩ hi ⟨Bx,hBx,kx,rfl⟩ hlen;have hWb:Below w.heap.size w W:=hb2.trans (hi.only.toBelow hb2.size Af);obtain ⟨f1,f2,f3,f4,f5,f6,f7,f8⟩:=hF x;have LS:=A8 (QU (DQ d tol rs ss x.1) (JC d tol rate s rs ss b0 (pre.map Fin.val)) bR bT rate s W (k1.below hWb) (k2.below hWb) ⟨f1,f2⟩ ⟨f3,f4⟩ ⟨f5,f6⟩ ⟨f7,f8⟩ hs hr);have hsn:JC d tol rate s rs ss b0 ((pre++[x]).map Fin.val)=smF d tol rate s rs ss (JC d tol rate s rs ss b0 (pre.map Fin.val)) x.1:=by rw [AO,List.map_cons,List.map_nil,Tr]
  replace hsn:=A8 hsn;clear kb0 kb1 kb2 hr_ hl hlen f1 f2 f3 f4 f5 f6 f7 f8 hF hGW hG k1 k2;obtain ⟨lo',hi',un',ov',hb'⟩:∃ lo' hi' un' ov',(⟨lo',hi',un',ov'⟩:Bnd)=smF d tol rate s rs ss (JC d tol rate s rs ss b0 (pre.map Fin.val)) x.1:=⟨_,_,_,_,rfl⟩;replace LS:Hid (Calls Tryz.prog 74 #[.agg #[.int .i64 (JC d tol rate s rs ss b0 (pre.map Fin.val)).lo,.int .i64 (JC d tol rate s rs ss b0 (pre.map Fin.val)).hi,.int .i64 (JC d tol rate s rs ss b0 (pre.map Fin.val)).un,.int .i64 (JC d tol rate s rs ss b0 (pre.map Fin.val)).ov],.agg (DQ d tol rs ss x.1).cells,.pointer (some ⟨bR,0,none⟩),.pointer (some ⟨bT,0,none⟩)] W (CM W (.agg (Clk.Bnd.cells ⟨lo',hi',un',ov'⟩)))):=A8 (by rw [hb'];exact LS.out);rw [<-hb'] at hsn;clear hb';have ko:=hi.o;have kf:=hi.f;generalize JC d tol rate s rs ss b0 (pre.map Fin.val)=b at *
  generalize DQ d tol rs ss x.1=fc at *
  obtain ⟨blo,bhi,bun,bov⟩:=b;obtain ⟨fx,fl,fh,fi,fa⟩:=fc;dsimp only [Clk.Bnd.cells,Clk.Fc.cells] at ko kx LS |-;have x0:=kx.cell 0;have x1:=kx.cell 1;have x2:=kx.cell 2;have x3:=kx.cell 3;have x4:=kx.cell 4;have o0:=ko.cell 0;have o1:=ko.cell 1;have o2:=ko.cell 2;have o3:=ko.cell 3;have i0:=kf.cell 0;simp only [BR,Cm,Cn] at x0 x1 x2 x3 x4 o0 o1 o2 o3 i0;clear ko kf;gi_wp2_with (refine ⟨trivial,?_⟩;gi_at_call 74;refine (CallsIn.inRound l (callsIn_wide.2 LS.out)).mono ?_;rintro e w' ⟨rfl,hbb⟩;have hI:=hi.call hbb;have ko:=hI.o;dsimp only [Clk.Bnd.cells] at ko;have o0:=ko.cell 0;have o1:=ko.cell 1;have o2:=ko.cell 2;have o3:=ko.cell 3;have f0:=ko.frozen 0;have f1:=ko.frozen 1;have f2:=ko.frozen 2;have f3:=ko.frozen 3;simp only [BR,Cm,Cn] at o0 o1 o2 o3);have ho:=(((((CG.refl [w.heap.size] w').setCell (p:=⟨w.heap.size,0,none⟩) Af (.int .i64 lo')).setCell (p:=⟨w.heap.size,1,none⟩) Af (.int .i64 hi')).setCell (p:=⟨w.heap.size,2,none⟩) Af (.int .i64 un')).setCell (p:=⟨w.heap.size,3,none⟩) Af (.int .i64 ov'));have kn:=((((ko.set 0 (.int .i64 lo')).set 1 (.int .i64 hi')).set 2 (.int .i64 un')).set 3 (.int .i64 ov'));simp only [A0,A6,A5] at kn;have hI2:FI U2 w.heap.size (w.heap.size+1) (w.heap.size+1+1) bR bT (JC d tol rate s rs ss b0 ((pre++[x]).map Fin.val)) ((((w'.setCell ⟨w.heap.size,0,none⟩ (.int .i64 lo')).setCell ⟨w.heap.size,1,none⟩ (.int .i64 hi')).setCell ⟨w.heap.size,2,none⟩ (.int .i64 un')).setCell ⟨w.heap.size,3,none⟩ (.int .i64 ov')):=by
   rw [hsn.out];exact ⟨kn,hI.f.only ho (by simp <;> omega),hI.r.only ho (by simp <;> omega),hI.only.trans ho⟩
  refine ⟨(((KeepsOthers.of_grownBy (Db hbb) (fun j o e=>by cases e)).trans ((((KeepsOthers.setCell _ _ _).trans (KeepsOthers.setCell _ _ _)).trans (KeepsOthers.setCell _ _ _)).trans (KeepsOthers.setCell _ _ _))).from _),(hbb.mono (AN hb2.size hi.only.size)).trans (ho.toBelow (AN (AN hb2.size hi.only.size) hbb.size) Af),hI2⟩
 case done =>
  rintro D xs W hD hxs hi hK;have hxs':xs.map Fin.val=List.range ss.length:=hxs;rw [hxs'] at hi;generalize JC d tol rate s rs ss b0 (List.range ss.length)=b at *
  obtain ⟨a,b,c,d_⟩:=b;have ko:=hi.o;dsimp only [Clk.Bnd.cells] at ko |-;have o0:=ko.cell 0;have o1:=ko.cell 1;have o2:=ko.cell 2;have o3:=ko.cell 3;have r0:=hi.r.cell 0;have r1:=hi.r.cell 1;have r2:=hi.r.cell 2;have r3:=hi.r.cell 3;have f0:=hi.r.frozen 0;have f1:=hi.r.frozen 1;have f2:=hi.r.frozen 2;have f3:=hi.r.frozen 3;simp only [BR,Cm,Cn] at o0 o1 o2 o3 r0 r1 r2 r3;clear kb0 kb1 kb2 hGW hG hF;gi_wp2;have kr:=((((hi.r.set 0 (.int .i64 a)).set 1 (.int .i64 b)).set 2 (.int .i64 c)).set 3 (.int .i64 d_));simp only [A0,A6,A5] at kr;have ho:=(((((hi.only.mono (T:=[w.heap.size+1+1,w.heap.size]) Af).setCell (p:=⟨w.heap.size+1+1,0,none⟩) Af (.int .i64 a)).setCell (p:=⟨w.heap.size+1+1,1,none⟩) Af (.int .i64 b)).setCell (p:=⟨w.heap.size+1+1,2,none⟩) Af (.int .i64 c)).setCell (p:=⟨w.heap.size+1+1,3,none⟩) Af (.int .i64 d_));have hK':=((((KeepsOthers.setCell W ⟨w.heap.size+1+1,0,none⟩ (.int .i64 a)).trans (KeepsOthers.setCell _ ⟨w.heap.size+1+1,1,none⟩ (.int .i64 b))).trans (KeepsOthers.setCell _ ⟨w.heap.size+1+1,2,none⟩ (.int .i64 c))).trans (KeepsOthers.setCell _ ⟨w.heap.size+1+1,3,none⟩ (.int .i64 d_))).same D _ hK rfl;have kf:=(CS.putObj (.deferred none) hK' rfl).blk kr;have q0:=kf.cell 0;have q1:=kf.cell 1;have q2:=kf.cell 2;have q3:=kf.cell 3;simp only [BR,Cm,Cn] at q0 q1 q2 q3;exact DW hK' (v:=.agg #[.int .i64 a,.int .i64 b,.int .i64 c,.int .i64 d_]) (by simp [results,Tryz.results72,go_sem,q0,q1,q2,q3])
   ⟨rfl,hb2.trans ((ho.putObj hD _).toBelow hb2.size (by simp;omega))⟩
 case stop =>
  rintro D c pre W hD _ h;exact h.elim
def E7 (d tol rate s:Int) (rs:List Rd) (ss:List Sm):Bnd:=JC d tol rate s rs ss ⟨-1000000,1000000,-1,-1⟩ (List.range ss.length)
theorem Ts (bG:Nat) (d tol rate s:Int) (rv sv:Value) (rs:List Rd) (ss:List Sm) (w:World) (hG:Ep w bG d tol rate rv sv rs ss) (hs:0<=s/\s<=10000000) (hr:0<=rate/\rate<=1000) :
  Calls Tryz.prog 46 #[.func (.func 76) #[] #[.pointer (some ⟨bG,0,none⟩)],.int .i64 rate,.int .i64 s] w (CM w (.agg (E7 d tol rate s rs ss).cells)):=by
 obtain ⟨V1,bR,e1,eR,S1⟩:=(CE.start w).addB #[.int .i64 rate] 3
 obtain ⟨V2,bT,e2,eT,S2⟩:=S1.addB #[.int .i64 s] 3
 obtain ⟨V3,bO,e3,eO,S3⟩:=S2.addB #[.int .i64 0,.int .i64 0,.int .i64 0,.int .i64 0] 68
 have hM:=A8 S3
 rw [e1] at e2 eT
 rw [e2] at e3 eO
 clear S1 S2 S3 e1 e2
 have hT:bT=w.heap.size+1:=by rw [eT];exact AP _ _
 have hO:bO=w.heap.size+1+1:=by rw [eO,AP,AP]
 clear eO eT
 have EV:=A8 (fun W=>Ki W)
 have FO:=A8 (fun W (hb:Below w.heap.size w W) (k1:CO W bR #[.int .i64 rate] 3) (k2:CO W bT #[.int .i64 s] 3)=>OP bG bR bT d tol rate s rv sv rs ss ⟨-1000000,1000000,-1,-1⟩ W (hG.below hb) k1 k2 hs hr)
 have hres:Hid (E7 d tol rate s rs ss=JC d tol rate s rs ss ⟨-1000000,1000000,-1,-1⟩ (List.range ss.length)):=A8 rfl
 clear hG
 generalize JC d tol rate s rs ss ⟨-1000000,1000000,-1,-1⟩ (List.range ss.length)=b at *
 rw [hres.out]
 clear hres
 obtain ⟨p,q,u,v⟩:=b
 dsimp only [Clk.Bnd.cells] at FO |-
 go_enter Tryz.func46,Tryz.ntmps46
 go_upto_region 1 with fail
 rw [<-e3,<-hO,<-hT,<-eR]
 clear e3 hO hT eR
 go_wp2_with fail
 refine Calls.mono (EV.out _) ?_
 rintro e w1 ⟨rfl,hb⟩
 replace hM:=A8 (hM.out.call hb)
 clear hb EV
 go_wp2_with fail
 refine Calls.mono (FO.out _ hM.out.below (hM.out.blks _ Aj) (hM.out.blks _ Ai)) ?_
 rintro e w2 ⟨rfl,hb⟩
 replace hM:=A8 (hM.out.call hb)
 clear hb FO
 obtain ⟨k0,k1,k2,k3,c0,c1,c2,c3,hB⟩:=Gb (hM.out.blks _ Ah) (.int .i64 p) (.int .i64 q) (.int .i64 u) (.int .i64 v)
 have r0:=hB.cell 0
 have r1:=hB.cell 1
 have r2:=hB.cell 2
 have r3:=hB.cell 3
 simp only [BR,Cm,Cn] at r0 r1 r2 r3
 have hfin:=A8 (hM.out.out4 (.int .i64 p) (.int .i64 q) (.int .i64 u) (.int .i64 v)).below
 clear hM hB
 go_wp2
 exact bodyPost_ret (v:=.agg #[.int .i64 p,.int .i64 q,.int .i64 u,.int .i64 v]) (by simp [results,Tryz.results46,go_sem,r0,r1,r2,r3]) rfl ⟨rfl,hfin.out⟩
end
end Go.Proofs.YtdkonnnmkceagaaGreatDoor
