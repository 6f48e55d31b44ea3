/- ClT, ClU, ClW -/
import Derived.Test.YtdkonnnmkceagaaGreatDoorZMemN
set_option maxHeartbeats 8000000
set_option maxRecDepth 100000
namespace Go.Proofs.YtdkonnnmkceagaaGreatDoor
section
open Go.RowKit
open Clk
attribute [local go_sem] Oper.semAt_some
theorem Tx {Q:Exit->Act->World->Prop} {us:List Value} {bS bT oT kT:Nat} {q rr i sv pk:Int} {w W0:World} {L:Ec} {R:List E9} {r36:Int} {r37:Int} {r39:Int} {r41:Int}   (x27:Dd w L R bS 7 (.slice (some ⟨bT,oT,none⟩) 1 kT)) (x34:Dd w L R bT (oT) (.int .i64 sv)) (h36:IntKind.i64.wrap (2*rr)=r36) (h37:IntKind.i64.wrap (r36+1)=r37) (C38:Ho w L R 18 #[.int .i64 sv,.int .i64 r37] (.int .i64 pk)) (h39:IntKind.i64.wrap (q+pk)=r39) (h41:IntKind.i64.wrap (r39-rr)=r41) (h0:Hid (CE w L R W0)) (hN:us.length=43) (g2:us[2]? = some (.pointer (some ⟨bS,0,none⟩))) (g5:us[5]? = some (.int .i64 q)) (g6:us[6]? = some (.int .i64 rr)) (g7:us[7]? = some (.int .i64 i)) {ops:Array Oper} (ho:D8 Tryz.f7.body 6=some ops)
  (hQ:∀ (x:Nat->Value)  (W':World),x 5=.int .i64 r41->Hid (CE w L R W')->Q .normal { tmps:=(Dp [25,26,27,28,29,30,31,32,33,34,35,36,37,38,39,40,41,5] x us).toArray,defers:=[] } W') :
  (Code.region 6 ops true).wp Tryz.prog Q { tmps:=us.toArray,defers:=[] } W0:=by
 obtain rfl:=AL (ho.symm.trans (rfl:D8 Tryz.f7.body 6=some _))
 clear ho
 replace hQ:=A8 hQ
 let Fl:Unit->FL:=fun g=>[some (25,.int .i64 q),some (26,.pointer (some ⟨bS,7,none⟩)),some (27,.slice (some ⟨bT,oT,none⟩) 1 kT),some (28,.int .i64 i),some (29,.pointer (some ⟨bS,7,none⟩)),some (30,.slice (some ⟨bT,oT,none⟩) 1 kT),some (31,.int .i64 1),some (32,.int .i64 0),some (33,.pointer (some ⟨bT,oT,none⟩)),some (34,.int .i64 sv),some (35,.int .i64 rr),some (36,.int .i64 r36),some (37,.int .i64 r37),some (38,.int .i64 pk),some (39,.int .i64 r39),some (40,.int .i64 rr),some (41,.int .i64 r41),some (5,.int .i64 r41)]
 let Ml:Unit->ML:=fun g=>[]
 let Sl_:Unit->List (World->Prop):=fun g=>[fun W=>CE w L R W]
 have St:Hn 43 [25,26,27,28,29,30,31,32,33,34,35,36,37,38,39,40,41,5] [] Fl Ml (CE w L R) Sl_:=⟨fun _=>by kernel_rfl,fun _=>rfl,fun _ _ hb h=>h.call hb,fun g=>(fun _ h=>by cases h),fun g=>BH.2 ⟨fun W W' hb h=>h.call hb,(fun _ h=>by cases h)⟩⟩
 refine EN St us [] () hN h0.out.drew h0.out.drew ?_ ?_
 refine sV St ?_ (fun z=>z.w g5)
 refine sV St ?_ (fun z=>z.u g2)
 refine sV St ?_ (fun z=>z.x 1 rfl) (fun z=>x27 _ z.c)
 refine sV St ?_ (fun z=>z.u g7)
 refine sV St ?_ (fun z=>z.u g2)
 refine sV St ?_ (fun z=>z.x 4 rfl) (fun z=>x27 _ z.c)
 refine sV St ?_ (fun z=>z.x 5 rfl)
 refine sV St ?_ (fun z=>z.x 3 rfl) (fun z=>z.x 6 rfl)
 refine sV St ?_ (fun z=>z.x 2 rfl) (fun z=>z.x 7 rfl)
 refine sV St ?_ (fun z=>z.x 8 rfl) (fun z=>x34 _ z.c)
 refine sV St ?_ (fun z=>z.u g6)
 refine sV St ?_ (fun z=>z.x 10 rfl)
 refine sV St ?_ (fun z=>z.x 11 rfl)
 refine sC St ?_ (fun z=>C38 _ z.c) (fun z=>z.x 9 rfl) (fun z=>z.x 12 rfl)
 refine sV St ?_ (fun z=>z.x 0 rfl) (fun z=>z.x 13 rfl)
 refine sV St ?_ (fun z=>z.u g6)
 refine sV St ?_ (fun z=>z.x 14 rfl) (fun z=>z.x 15 rfl)
 refine sV St ?_ (fun z=>z.x 16 rfl)
 ·exact D5
 ·intro g a W z q
  have hM9:CE _ _ _ _:=q;have x5:=z.v.get 17 rfl Ab;rw [z.f.eqs];exact hQ.out _   _ (by simp [x5]) (A8 hM9)
theorem Lg (dr st tl rt fi stp t:Int) (ra re pv sa:Value) (w:World) (h:Sl w pv [stp]) (h1:CI rt) (h2:CI fi) (h3:CI stp) (ht:0<=t/\t<=1000) :
  Calls Tryz.prog 7 #[.agg (M9 dr st tl rt fi ra re pv sa),.int .i64 t] w (CM w (.int .i64 (DB fi 2001-1000+(DB stp (2*DB rt 21+1)-DB rt 21)*t))):=by
 obtain ⟨bT,oT,kT,rfl,hbw,c0⟩:∃ b off cap,pv=.slice (some ⟨b,off,none⟩) 1 cap/\b<w.heap.size/\w.cell? ⟨b,off,none⟩=some (.int .i64 stp):=by
  rcases h with ⟨_,e⟩ | ⟨b,off,cap,e,h1,h2,h3,h4⟩
  ·cases e
  ·exact ⟨b,off,cap,e,h3,h4 0 Af⟩
 have P1:=A8 (fun W=>EB fi 2001 h2 Ad Ad W)
 have RA:=A8 (fun W=>Nx dr st tl rt fi ra re (.slice (some ⟨bT,oT,none⟩) 1 kT) sa W h1)
 have b1:=CP (c:=rt) (m:=21) Ad
 have b2:=Ds (c:=rt) (m:=21) Ad
 have b3:=CP (c:=fi) (m:=2001) Ad
 have b4:=Ds (c:=fi) (m:=2001) Ad
 generalize DB rt 21=r at *
 generalize DB fi 2001=f at *
 have P2:=A8 (fun W=>EB stp (2*r+1) h3 Ad Ad W)
 have b5:=CP (c:=stp) (m:=2*r+1) Ad
 have b6:=Ds (c:=stp) (m:=2*r+1) Ad
 generalize DB stp (2*r+1)=pk at *
 clear h h1 h2 h3
 unfold M9 at RA |-
 obtain ⟨V1,bS,e1,eS,S1⟩:=(CE.start w).addB #[.int .i64 dr,.int .i64 st,ra,re,.int .i64 tl,.int .i64 rt,.int .i64 fi,.slice (some ⟨bT,oT,none⟩) 1 kT,sa] 26
 have hM:=A8 S1
 clear S1
 have w1:IntKind.i64.wrap (2*r)=2*r:=Bz _ Ad
 have w2:IntKind.i64.wrap (2*r+1)=2*r+1:=Bz _ Ad
 have w3:IntKind.i64.wrap (f-1000)=f-1000:=Bz _ Ad
 obtain ⟨ev,hev⟩:∃ ev,ev=f-1000+(pk-r)*t:=⟨_,rfl⟩
 rw [<-hev]
 replace hev:=A8 hev
 go_enter Tryz.func7,Tryz.ntmps7
 go_upto_region 1 with fail
 rw [<-e1,<-eS]
 clear e1 eS
 have x6:=(hM.out.cell bS _ _ Ah 6).trans (show _=some (Value.int .i64 fi) from rfl)
 go_wp2_with fail
 refine Calls.mono (P1.out _) ?_
 rintro e wB ⟨rfl,rfl⟩
 clear P1
 go_upto_region 2 with fail
 have x0:=(hM.out.cell bS _ _ Ah 0).trans (show _=some (Value.int .i64 dr) from rfl)
 have x1:=(hM.out.cell bS _ _ Ah 1).trans (show _=some (Value.int .i64 st) from rfl)
 have x2:=(hM.out.cell bS _ _ Ah 2).trans (show _=some ra from rfl)
 have x3:=(hM.out.cell bS _ _ Ah 3).trans (show _=some re from rfl)
 have x4:=(hM.out.cell bS _ _ Ah 4).trans (show _=some (Value.int .i64 tl) from rfl)
 have x5:=(hM.out.cell bS _ _ Ah 5).trans (show _=some (Value.int .i64 rt) from rfl)
 have x7:=(hM.out.cell bS _ _ Ah 7).trans (show _=some (Value.slice (some ⟨bT,oT,none⟩) 1 kT) from rfl)
 have x8:=(hM.out.cell bS _ _ Ah 8).trans (show _=some sa from rfl)
 go_wp2_with fail
 refine Calls.mono (RA.out _) ?_
 rintro e wA ⟨rfl,hb⟩
 replace hM:=A8 (hM.out.call hb)
 clear x0 x1 x2 x3 x4 x5 x6 x7 x8 hb RA
 go_wp2_with fail
 go_loopw [5,7] (fun q o wr=>∃ i:Nat,q=.int .i64 (f-1000+(pk-r)*i)/\o=.int .i64 i/\(i:Int)<=t/\Hid (CE w [(bS,#[.int .i64 dr,.int .i64 st,ra,re,.int .i64 tl,.int .i64 rt,.int .i64 fi,.slice (some ⟨bT,oT,none⟩) 1 kT,sa],26)] [] wr)) (fun _ o _=>t.toNat-(intOf o).toNat)
 case atStart=>exact ⟨0,Af,rfl,Ad,hM⟩
 case round =>
  clear hM;obtain ⟨i,rfl,rfl,hi,hM⟩:=hrel;have x7:=(hM.out.cell bS _ _ Ah 7).trans (show _=some (Value.slice (some ⟨bT,oT,none⟩) 1 kT) from rfl);by_cases hin:(i:Int)<t;case neg =>
   have hit:(i:Int)=t:=by omega
   have hv:f-1000+(pk-r)*(i:Int)=ev:=by rw [hit,hev.out]
   rw [hv];have hfin:=A8 hM.out.below;clear hM hit hv;go_wp2;go_ret;exact ⟨rfl,hfin.out⟩
  case pos =>
   have hm1:-(20*i:Int)<=(pk-r)*i/\(pk-r)*i<=20*(i:Int):=by
    have h4:=Az (show -20<=pk-r by omega) (show (0:Int)<=i by omega);have h5:=Az (show pk-r<=20 by omega) (show (0:Int)<=i by omega);omega
   have hnx:Hid (f-1000+(pk-r)*((i+1:Nat):Int)=f-1000+(pk-r)*(i:Int)+pk-r):=A8 (by
    rw [show ((i+1:Nat):Int)=(i:Int)+1 by omega,C8];omega)
   generalize (pk-r)*(i:Int)=y at *
   have e1:IntKind.i64.wrap (f-1000+y+pk)=f-1000+y+pk:=Bz _ Ad;have e2:IntKind.i64.wrap (f-1000+y+pk-r)=f-1000+y+pk-r:=Bz _ Ad;go_upto_region 6 with fail;refine Tx (bS:=bS) (bT:=bT) (oT:=oT) (kT:=kT) (q:=f-1000+y) (rr:=r) (i:=i) (sv:=stp) (pk:=pk) (fun W hW=>hW.cell _ _ _ Ah 7) (fun W hW=>hW.old hbw c0) w1 w2 (fun W hW=>(P2.out W).mono fun e W' ⟨he,hw'⟩=>⟨he,by subst hw';exact Below.refl _ _⟩) e1 e2 hM rfl rfl rfl rfl rfl Ab ?_;intro xx W' hx5 hM';simp only [Dp,BN,BO,A5,A6,hx5];clear hx5 x7 hM;go_wp2_with fail;go_roundw;case rel=>exact ⟨i+1,by rw [hnx.out],by go_num,Ad,hM'⟩
   case measure=>simp [intOf];omega
end
section
open Go.RowKit
attribute [local go_sem] Oper.semAt_some
theorem Ty {Q:Exit->Act->World->Prop} {us:List Value} {bR oR nR kR i:Nat} {rv:Value} {dr st t a1 a2 lo p1 p2 lw:Int} {w W0:World} {L:Ec} {R:List E9} {r51:Int} {r60:Int} (hi0:(0:Int)<=i) (hin:(i:Int)<nR)  (C43:Ho w L R 22 #[.int .i64 dr,.int .i64 st,rv,.int .i64 t] (.int .i64 lo)) (x49:Dd w L R bR (oR+i*3+1) (.int .i64 a1)) (C50:Ho w L R 43 #[.int .i64 a1,.int .i64 51] (.int .i64 p1)) (h51:IntKind.i64.wrap (t-p1)=r51) (h52:max r51 0=lw) (x58:Dd w L R bR (oR+i*3+2) (.int .i64 a2)) (C59:Ho w L R 43 #[.int .i64 a2,.int .i64 51] (.int .i64 p2)) (h60:IntKind.i64.wrap (t+p2)=r60) (h0:Hid (CE w L R W0)) (hN:us.length=86) (g0:us[0]? = some (.int .i64 dr)) (g1:us[1]? = some (.int .i64 st)) (g2:us[2]? = some (rv)) (g3:us[3]? = some (.slice (some ⟨bR,oR,none⟩) nR kR)) (g10:us[10]? = some (.int .i64 t)) (g11:us[11]? = some (.int .i64 i)) {ops:Array Oper} (ho:D8 Tryz.f19.body 9=some ops)
  (hQ:∀ (x:Nat->Value) (b12:Nat) (W':World),x 12=.pointer (some ⟨b12,0,none⟩)->Hid (CE w ((b12,#[.int .i64 lo,.int .i64 lw,.int .i64 r60],89) :: L) R W')->Q .normal { tmps:=(Dp [39,40,41,42,43,44,45,46,47,48,49,50,51,52,53,54,55,56,57,58,59,60,61,12] x us).toArray,defers:=[] } W') :
  (Code.region 9 ops true).wp Tryz.prog Q { tmps:=us.toArray,defers:=[] } W0:=by
 obtain rfl:=AL (ho.symm.trans (rfl:D8 Tryz.f19.body 9=some _))
 clear ho
 replace hQ:=A8 hQ
 let Fl:Nat->FL:=fun g=>[some (39,.int .i64 dr),some (40,.int .i64 st),some (41,rv),some (42,.int .i64 t),some (43,.int .i64 lo),some (44,.int .i64 t),some (45,.slice (some ⟨bR,oR,none⟩) nR kR),some (46,.int .i64 i),some (47,.pointer (some ⟨bR,oR+i*3,none⟩)),some (48,.pointer (some ⟨bR,oR+i*3+1,none⟩)),some (49,.int .i64 a1),some (50,.int .i64 p1),some (51,.int .i64 r51),some (52,.int .i64 lw),some (53,.int .i64 t),some (54,.slice (some ⟨bR,oR,none⟩) nR kR),some (55,.int .i64 i),some (56,.pointer (some ⟨bR,oR+i*3,none⟩)),some (57,.pointer (some ⟨bR,oR+i*3+2,none⟩)),some (58,.int .i64 a2),some (59,.int .i64 p2),some (60,.int .i64 r60),some (61,.agg #[.int .i64 lo,.int .i64 lw,.int .i64 r60]),some (12,.pointer (some ⟨g,0,none⟩)),none]
 let Ml:Nat->ML:=fun g=>[(23,12,(fun _ W=>OQ w L R [] g #[.int .i64 0,.int .i64 0,.int .i64 0] 89 W),some 24)]
 let Sl_:Nat->List (World->Prop):=fun g=>[fun W=>CE w L R W,fun W=>CE w ((g,#[.int .i64 lo,.int .i64 lw,.int .i64 r60],89) :: L) R W]
 have St:Hn 86 [39,40,41,42,43,44,45,46,47,48,49,50,51,52,53,54,55,56,57,58,59,60,61,12] [23] Fl Ml (CE w L R) Sl_:=⟨fun _=>by kernel_rfl,fun _=>rfl,fun _ _ hb h=>h.call hb,fun g=>BH.2 ⟨fun yv W W' hb=>fun h=>h.below hb,(fun _ h=>by cases h)⟩,fun g=>BH.2 ⟨fun W W' hb h=>h.call hb,BH.2 ⟨fun W W' hb h=>h.call hb,(fun _ h=>by cases h)⟩⟩⟩
 refine EN St us [24] 0 hN h0.out.drew h0.out.drew ?_ ?_
 refine sV St ?_ (fun z=>z.u g0)
 refine sV St ?_ (fun z=>z.u g1)
 refine sV St ?_ (fun z=>z.u g2)
 refine sV St ?_ (fun z=>z.u g10)
 refine sC St ?_ (fun z=>C43 _ z.c) (fun z=>z.x 0 rfl) (fun z=>z.x 1 rfl) (fun z=>z.x 2 rfl) (fun z=>z.x 3 rfl)
 refine sV St ?_ (fun z=>z.u g10)
 refine sV St ?_ (fun z=>z.u g3)
 refine sV St ?_ (fun z=>z.u g11)
 refine sV St ?_ (fun z=>z.x 6 rfl) (fun z=>z.x 7 rfl)
 refine sV St ?_ (fun z=>z.x 8 rfl)
 refine sV St ?_ (fun z=>z.x 9 rfl) (fun z=>x49 _ z.c)
 refine sC St ?_ (fun z=>C50 _ z.c) (fun z=>z.x 10 rfl)
 refine sV St ?_ (fun z=>z.x 5 rfl) (fun z=>z.x 11 rfl)
 refine sV St ?_ (fun z=>z.x 12 rfl)
 refine sV St ?_ (fun z=>z.u g10)
 refine sV St ?_ (fun z=>z.u g3)
 refine sV St ?_ (fun z=>z.u g11)
 refine sV St ?_ (fun z=>z.x 15 rfl) (fun z=>z.x 16 rfl)
 refine sV St ?_ (fun z=>z.x 17 rfl)
 refine sV St ?_ (fun z=>z.x 18 rfl) (fun z=>x58 _ z.c)
 refine sC St ?_ (fun z=>C59 _ z.c) (fun z=>z.x 19 rfl)
 refine sV St ?_ (fun z=>z.x 14 rfl) (fun z=>z.x 20 rfl)
 refine sV St ?_ (fun z=>z.x 4 rfl) (fun z=>z.x 13 rfl) (fun z=>z.x 21 rfl)
 refine CD (stA St 23 0 0 rfl rfl (.inl rfl) rfl (fun _=>rfl) (fun _=>rfl) Ab fun g T E W hl hw hs z K J=>by
  have hi:∀ q∈([]:List Nat),q<W.heap.size:=fun _ h=>by cases h
  have hC:=z.c;go_simp;exact J W.heap.size _ ((Below.refl _ _).alloc (Aa _) _) Ab rfl rfl (OQ.of _ _ hC hi)) ?_
 refine CD (stE 24 0 (.inl rfl) rfl rfl (fun _=>rfl) Ab (fun _=>by kernel_rfl) fun g T E W hl hw hs z q K J=>by
  have x12:=z.x 23 hw rfl;have x61:=z.x 22 hw rfl;have hM0:CE _ _ _ _:=q;obtain ⟨_,_,hn23⟩:=z.y 0 hl hw hs rfl;replace hM0:=hM0.adopt hn23 (fun p hp=>.inl (hn23.L p hp)) (fun p hp=>.inl (hn23.R p hp));have y0:=hM0.cell _ _ _ Ah 0;have w0:=hM0.frozen _ _ _ Ah 0;have y1:=hM0.cell _ _ _ Ah 1;have w1:=hM0.frozen _ _ _ Ah 1;have y2:=hM0.cell _ _ _ Ah 2;have w2:=hM0.frozen _ _ _ Ah 2;go_simp;exact J _ ((((hM0.put0 0 _).put0 1 _).put0 2 _).tail) (((hM0.put0 0 _).put0 1 _).put0 2 _)) ?_
 ·exact D5
 ·intro g a W z q
  have hM9:CE _ _ _ _:=q;have x12:=z.v.get 23 rfl Ab;rw [z.f.eqs];exact hQ.out _ g  _ (by simp [x12]) (A8 hM9)
theorem OT {Q:Exit->Act->World->Prop} {us:List Value} {bC bE:Nat} {w W0:World} {L:Ec} {R:List E9}     (h0:Hid (CE w L R W0)) (hN:us.length=86) (g13:us[13]? = some (.int .i64 0)) {ops:Array Oper} (ho:D8 Tryz.f19.body 11=some ops)
  (hQ:∀ (x:Nat->Value)  (W':World),x 78=.bool true->Hid (CE w L R W')->Q .normal { tmps:=(Dp [65,66,67,68,69,70,71,72,73,74,75,76,77,78] x us).toArray,defers:=[] } W') :
  (Code.region 11 ops true).wp Tryz.prog Q { tmps:=us.toArray,defers:=[] } W0:=by
 obtain rfl:=AL (ho.symm.trans (rfl:D8 Tryz.f19.body 11=some _))
 clear ho
 replace hQ:=A8 hQ
 let Fl:Unit->FL:=fun g=>[some (65,.int .i64 0),some (66,.bool true),some (67,.bool true),none,none,none,none,none,none,none,none,none,none,some (78,.bool true)]
 let Ml:Unit->ML:=fun g=>[]
 let Sl_:Unit->List (World->Prop):=fun g=>[fun W=>CE w L R W]
 have St:Hn 86 [65,66,67,68,69,70,71,72,73,74,75,76,77,78] [] Fl Ml (CE w L R) Sl_:=⟨fun _=>by kernel_rfl,fun _=>rfl,fun _ _ hb h=>h.call hb,fun g=>(fun _ h=>by cases h),fun g=>BH.2 ⟨fun W W' hb h=>h.call hb,(fun _ h=>by cases h)⟩⟩
 refine EN St us [] () hN h0.out.drew h0.out.drew ?_ ?_
 refine sV St ?_ (fun z=>z.u g13)
 refine sV St ?_ (fun z=>z.x 0 rfl)
 refine sV St ?_ (fun z=>z.x 1 rfl)
 refine sK ?_ 2
 refine sK ?_ 2
 refine sK ?_ 2
 refine sK ?_ 2
 refine sK ?_ 2
 refine sK ?_ 2
 refine sK ?_ 2
 refine sK ?_ 2
 refine sK ?_ 2
 refine sK ?_ 2
 refine sV St ?_ (fun z=>z.x 2 rfl)
 ·exact D5
 ·intro g a W z q
  have hM9:CE _ _ _ _:=q;have x78:=z.v.get 13 rfl Ab;rw [z.f.eqs];exact hQ.out _   _ (by simp [x78]) (A8 hM9)
theorem OU {Q:Exit->Act->World->Prop} {us:List Value} {bC bE gb n cap n1:Nat} {la lo:Int} {ok:Bool} {w W0:World} {L:Ec} {R:List E9}  (hn0:(0:Int)<=n1) (hn1:(n1:Int)<n)  (h66:((n:Int)==0)=false) (x69:Dd w L R bC 1 (.slice (some ⟨gb,0,none⟩) n cap)) (h71:IntKind.i64.wrap ((n:Int)-1)=n1) (x74:Dd w L R gb (n1*3) (.int .i64 la)) (x76:Dd w L R bE 0 (.int .i64 lo)) (h77:decide (la<lo)=ok) (h0:Hid (CE w L R W0)) (hN:us.length=86) (g9:us[9]? = some (.pointer (some ⟨bC,0,none⟩))) (g12:us[12]? = some (.pointer (some ⟨bE,0,none⟩))) (g13:us[13]? = some (.int .i64 n)) {ops:Array Oper} (ho:D8 Tryz.f19.body 11=some ops)
  (hQ:∀ (x:Nat->Value)  (W':World),x 78=.bool ok->Hid (CE w L R W')->Q .normal { tmps:=(Dp [65,66,67,68,69,70,71,72,73,74,75,76,77,78] x us).toArray,defers:=[] } W') :
  (Code.region 11 ops true).wp Tryz.prog Q { tmps:=us.toArray,defers:=[] } W0:=by
 obtain rfl:=AL (ho.symm.trans (rfl:D8 Tryz.f19.body 11=some _))
 clear ho
 replace hQ:=A8 hQ
 let Fl:Unit->FL:=fun g=>[some (65,.int .i64 n),some (66,.bool false),some (67,.bool false),some (68,.pointer (some ⟨bC,1,none⟩)),some (69,.slice (some ⟨gb,0,none⟩) n cap),some (70,.int .i64 n),some (71,.int .i64 n1),some (72,.pointer (some ⟨gb,n1*3,none⟩)),some (73,.pointer (some ⟨gb,n1*3,none⟩)),some (74,.int .i64 la),some (75,.pointer (some ⟨bE,0,none⟩)),some (76,.int .i64 lo),some (77,.bool ok),some (78,.bool ok)]
 let Ml:Unit->ML:=fun g=>[]
 let Sl_:Unit->List (World->Prop):=fun g=>[fun W=>CE w L R W]
 have St:Hn 86 [65,66,67,68,69,70,71,72,73,74,75,76,77,78] [] Fl Ml (CE w L R) Sl_:=⟨fun _=>by kernel_rfl,fun _=>rfl,fun _ _ hb h=>h.call hb,fun g=>(fun _ h=>by cases h),fun g=>BH.2 ⟨fun W W' hb h=>h.call hb,(fun _ h=>by cases h)⟩⟩
 refine EN St us [] () hN h0.out.drew h0.out.drew ?_ ?_
 refine sV St ?_ (fun z=>z.u g13)
 refine sV St ?_ (fun z=>z.x 0 rfl)
 refine sV St ?_ (fun z=>z.x 1 rfl)
 refine sG St ?_ 2 (fun z=>z.u g9)
 refine sG St ?_ 2 (fun z=>z.x 3 rfl) (fun z=>x69 _ z.c)
 refine sG St ?_ 2 (fun z=>z.u g13)
 refine sG St ?_ 2 (fun z=>z.x 5 rfl)
 refine sG St ?_ 2 (fun z=>z.x 4 rfl) (fun z=>z.x 6 rfl)
 refine sG St ?_ 2 (fun z=>z.x 7 rfl)
 refine sG St ?_ 2 (fun z=>z.x 8 rfl) (fun z=>x74 _ z.c)
 refine sG St ?_ 2 (fun z=>z.u g12)
 refine sG St ?_ 2 (fun z=>z.x 10 rfl) (fun z=>x76 _ z.c)
 refine sG St ?_ 2 (fun z=>z.x 9 rfl) (fun z=>z.x 11 rfl)
 refine sV St ?_ (fun z=>z.x 2 rfl) (fun z=>z.x 12 rfl)
 ·exact D5
 ·intro g a W z q
  have hM9:CE _ _ _ _:=q;have x78:=z.v.get 13 rfl Ab;rw [z.f.eqs];exact hQ.out _   _ (by simp [x78]) (A8 hM9)
end
section
open Go.RowKit
open Clk
attribute [local go_sem] Oper.semAt_some
def NB (W:World) (b o:Nat) (r:Tri):Prop:=W.cell? ⟨b,o,none⟩=some (.int .i64 r.a)/\W.cell? ⟨b,o+1,none⟩=some (.int .i64 r.b)/\W.cell? ⟨b,o+2,none⟩=some (.int .i64 r.c)
theorem NB.stable:IM NB:=fun h hb ⟨h1,h2,h3⟩=>⟨(hb.cell (p:=⟨_,_,none⟩) h).trans h1,(hb.cell (p:=⟨_,_,none⟩) h).trans h2,(hb.cell (p:=⟨_,_,none⟩) h).trans h3⟩
abbrev Jo (W:World) (v:Value) (l:List Tri):Prop:=IA 3 NB W v l
theorem Jo.below {W W':World} {v:Value} {l:List Tri} (h:Jo W v l) (hb:Below W.heap.size W W'):Jo W' v l:=IA.below (C:=NB) (fun h1 h2 h3=>NB.stable h1 h2 h3) h hb
def Fw (rs:List Rd):List Value:=rs.flatMap fun r=>[.int .i64 r.loc,.int .i64 r.lo,.int .i64 r.hi]
def TA (w:World) (d s0:Int) (c:Nat->Int) (n:Nat) (e:Ending) (W':World):Prop:=∃ (v:Value) (rs:List Rd),e=.returned (.agg #[.int .i64 d,v])/\W'.ownsRow w.heap.size 89 3 v rs.length (Fw rs)/\Jn s0 c n rs/\rs.length<=12/\Below w.heap.size w W'
theorem Lj (rs:List Rd) (r:Rd):Fw (rs++[r])=Fw rs++[.int .i64 r.loc,.int .i64 r.lo,.int .i64 r.hi]:=by unfold Fw;rw [List.flatMap_append];simp
theorem Jf:∀ ds:List Rd,(Fw ds).length=ds.length*3
 | []=>rfl
 | p :: ds=>by
  have:=Jf ds;unfold Fw at this |-;rw [List.flatMap_cons,BP,this];simp;omega
theorem Kr:∀ (ds:List Rd) (j:Nat),j<ds.length->(Fw ds)[j*3]? = some (.int .i64 (Dn ds j).loc)/\(Fw ds)[j*3+1]? = some (.int .i64 (Dn ds j).lo)/\(Fw ds)[j*3+2]? = some (.int .i64 (Dn ds j).hi)
 | [],j,h=>by cases h
 | p :: ds,0,_=>by simp [Fw,Dn]
 | p :: ds,j+1,h=>by
  have ih:=Kr ds j (by simpa using h);have e:Fw (p :: ds)=[.int .i64 p.loc,.int .i64 p.lo,.int .i64 p.hi]++Fw ds:=rfl;have g:Dn (p :: ds) (j+1)=Dn ds j:=rfl;rw [e,g,show (j+1)*3=3+j*3 by omega,show 3+j*3+1=3+(j*3+1) by omega,show 3+j*3+2=3+(j*3+2) by omega];have key:∀ i,([.int .i64 p.loc,.int .i64 p.lo,.int .i64 p.hi]++Fw ds:List Value)[3+i]? = (Fw ds)[i]? := fun i=>by
   rw [BA Af];simp
  rw [key,key,key];exact ih
theorem NL.of_own {w:World} {base n:Nat} {e:TypeId} {v:Value} {ds:List Rd} (h:w.ownsRow base e 3 v n (Fw ds)):NL w v ds:=by
 have hl:n=ds.length:=by have:=h.1;rw [Jf] at this;omega
 subst hl;rcases h.2 with ⟨rfl,h0⟩ | ⟨g,cap,cur,rfl,hb,hg,hn,hm,hs,ht⟩
 ·exact .inl ⟨rfl,AS h0⟩
 ·refine .inr ⟨g,0,cap,rfl,hn,hm,(Bu.1 hg).1,fun j y hy=>?_⟩
  have hj:j<ds.length:=(Bv.1 hy).1;rw [FJ hj] at hy;obtain rfl:=AL hy;obtain ⟨k0,k1,k2⟩:=Kr ds j hj;have c0:=h.cells (g:=g) rfl (j*3) _ k0;have c1:=h.cells (g:=g) rfl (j*3+1) _ k1;have c2:=h.cells (g:=g) rfl (j*3+2) _ k2;rw [E5] at c0 c1 c2;exact ⟨c0,c1,c2⟩
theorem Jg {ops:Array Oper} {rest:List Oper} {o:Oper} {a:Act} {Q:Exit->Act->World->Prop} {w0 w:World} {L:Ec} {R:List E9} {v:Value} {n:Nat} {xs:List Value} {g:Nat} {s x:Operand} (hgd:o.guard=none) (ho:o.op=.call { callee:=.builtin .append,args:=#[s,x],argTypes:=#[37,37] }) (hM:CE w0 L (⟨89,3,v,n,xs⟩ :: R) w) (hs:a.eval s=v)
  {u1 u2 u3:Value} (hx:a.eval x=.slice (some ⟨g,0,none⟩) 1 1) (hu1:w.cell? ⟨g,0,none⟩=some u1) (hu2:w.cell? ⟨g,1,none⟩=some u2) (hu3:w.cell? ⟨g,2,none⟩=some u3) (h1:u1.oneCell'=true) (h2:u2.oneCell'=true) (h3:u3.oneCell'=true) (hn:n<=1000000)
  (h:∀ g' cap w',CE w0 L (⟨89,3,.slice (some ⟨g',0,none⟩) (n+1) cap,n+1,xs++[u1,u2,u3]⟩ :: R) w'->wpList Tryz.prog ops Q rest (a.put o.dst (.slice (some ⟨g',0,none⟩) (n+1) cap)) w'):wpList Tryz.prog ops Q (o :: rest) a w :=
 KL hgd 37 Ab s x ho v n xs hs hM.own0 g u1 u2 u3 hx hu1 hu2 hu3 h1 h2 h3 hn hM.below.size fun g' cap w' r1 r2 r3=>h g' cap w' (hM.app0 r2 r1 r3)
theorem Ri (dr st:Int) (rv qv:Value) (rates:List Int) (qs:List Tri) (w:World) (h:Sl w rv rates) (hq:Jo w qv qs) (h1:CI dr) (h2:CI st) (hf:∀ i,CI (gi rates i)) (hqf:∀ i,CI (CX qs i).a/\CI (CX qs i).b/\CI (CX qs i).c) :
  Calls Tryz.prog 19 #[.int .i64 dr,.int .i64 st,rv,qv] w (TA w (DB dr 101) (DB st 1000) (Dq (DB dr 101) rates) (min rates.length 20)):=by
 obtain ⟨ra,rcap,rfl⟩:=h.shape
 obtain ⟨qa,qcap,rfl⟩:=hq.shape
 have P1:=A8 (fun W=>EU dr 101 h1 Ad Ad W)
 have SH:=A8 (fun t W (hb:Below w.heap.size w W) (ht:0<=t/\t<=1000000)=>Lf dr st t _ rates W (h.below hb) h1 h2 hf ht)
 have PA:=A8 (fun i W=>EU (CX qs i).a 3000 (hqf i).1 Ad Ad W)
 have PB:=A8 (fun i W=>EU (CX qs i).b 51 (hqf i).2.1 Ad Ad W)
 have PC:=A8 (fun i W=>EU (CX qs i).c 51 (hqf i).2.2 Ad Ad W)
 have HQ:=A8 hq
 have b1:=CP (c:=dr) (m:=101) Ad
 have b2:=Ds (c:=dr) (m:=101) Ad
 generalize DB dr 101=d at *
 obtain ⟨V1,bO,e1,eO,S1⟩:=(CE.start w).addB #[.int .i64 0,.slice none 0 0] 39
 have hM:=A8 S1
 clear S1
 go_enter Tryz.func19,Tryz.ntmps19
 go_upto_region 1 with fail
 rw [<-e1,<-eO]
 clear e1 eO
 go_wp2_with fail
 refine Calls.mono (P1.out _) ?_
 rintro e w1 ⟨rfl,rfl⟩
 clear P1
 obtain ⟨V2,bC,e2,eC,S2⟩:=hM.out.addB #[.int .i64 d,.slice none 0 0] 39
 replace hM:=A8 (S2.row0 89 3)
 clear S2
 go_upto_region 2 with fail
 rw [<-e2,<-eC]
 clear e2 eC
 obtain ⟨pf,hpf⟩:∃ pf:Nat->Int,pf=fun j=>DB (CX qs j).a 3000:=⟨_,rfl⟩
 have hpi:Hid (∀ i,DB (CX qs i).a 3000=pf i):=A8 (fun i=>by rw [hpf])
 clear hpf
 obtain ⟨nq,hnq⟩:∃ n,n=qs.length:=⟨_,rfl⟩
 have hql:=hq.len_le
 unfold maxLen at hql
 rw [<-hnq] at HQ hql |-
 replace hnq:=A8 hnq
 clear h hq h1 h2 hf hqf
 go_wp2_with fail
 go_loopw [10] (fun o wr=>∃ (t:Nat) (v:Value) (rs:List Rd),o=.int .i64 t/\t<=3000/\Hid (Jn (DB st 1000) (Dq d rates) (min rates.length 20) rs)/\rs.length<=Rh pf (min nq 12) t 0/\Hid (CE w [(bC,#[.int .i64 d,v],39),(bO,#[.int .i64 0,.slice none 0 0],39)] [⟨89,3,v,List.length rs,Fw rs⟩] wr)) (fun o _=>3000-(intOf o).toNat)
 case atStart=>exact ⟨0,_,[],rfl,Ad,A8 (Jn.nil _ _ _),Af,hM⟩
 case round =>
  clear hM;obtain ⟨t,v,rs,rfl,htl,hR,hcn,hM⟩:=hrel;by_cases htn:t<3000;case neg =>
   have ht':¬ (t:Int)<3000:=by omega
   have hle:=Tz pf (min nq 12) t 0;have hsl:=NL.of_own hM.out.own0;obtain ⟨va,vc,rfl⟩:=hsl.shape;have y0:=(hM.out.cell bC _ _ Ah 0).trans (show _=some (Value.int .i64 d) from rfl);have y1:=(hM.out.cell bC _ _ Ah 1).trans (show _=some (Value.slice va rs.length vc) from rfl);have hO:=hM.out.blks _ Ai;obtain ⟨k0,k1,k2,k3,k4,k5⟩:=PH hO (.int .i64 d) (.slice va rs.length vc);have hbl:=(((hO.set 0 (.int .i64 d)).set 1 (.slice va rs.length vc)));have hfin:Hid (((wr.setCell ⟨bO,0,none⟩ (.int .i64 d)).setCell ⟨bO,1,none⟩ (.slice va rs.length vc)).ownsRow w.heap.size 89 3 (.slice va rs.length vc) rs.length (Fw rs)/\Below w.heap.size w ((wr.setCell ⟨bO,0,none⟩ (.int .i64 d)).setCell ⟨bO,1,none⟩ (.slice va rs.length vc))):=A8 (by
    have hX:=(((hM.out.perm (.swap _ _ _)).put0 0 (.int .i64 d)).put0 1 (.slice va rs.length vc));exact ⟨hX.own0,hX.below⟩)
   clear hM hO hbl hsl;go_wp2;exact bodyPost_ret (v:=.agg #[.int .i64 d,.slice va rs.length vc]) (by simp [results,Tryz.results19,go_sem,k4,k5]) rfl ⟨_,rs,rfl,hfin.out.1,hR.out,Ad,hfin.out.2⟩
  case pos =>
   have ht':(t:Int)<3000:=by omega
   go_wp2_with fail;go_loopw [11] (fun o wr=>∃ (i:Nat) (v:Value) (rs:List Rd),o=.int .i64 i/\i<=min nq 12/\Hid (Jn (DB st 1000) (Dq d rates) (min rates.length 20) rs)/\rs.length<=Rh pf (min nq 12) t i/\Hid (CE w [(bC,#[.int .i64 d,v],39),(bO,#[.int .i64 0,.slice none 0 0],39)] [⟨89,3,v,List.length rs,Fw rs⟩] wr)) (fun o _=>12-(intOf o).toNat);case atStart=>exact ⟨0,v,rs,rfl,Ad,hR,hcn,hM⟩
   case round =>
    clear hM hR hcn;obtain ⟨i,v,rs,rfl,hil,hR,hcn,hM⟩:=hrel;by_cases hin:i<nq/\i<12;case neg =>
     have hcn2:rs.length<=Rh pf (min nq 12) ((t+1:Nat):Int) 0:=by
      have:=cnt_end pf (min nq 12) t;rw [show i=min nq 12 by omega] at hcn;rw [show ((t+1:Nat):Int)=(t:Int)+1 by omega];omega
     rcases (show (¬ (i:Int)<nq)∨((i:Int)<nq/\¬ (i:Int)<12) by omega) with g1 | ⟨g1,g2⟩;all_goals
      clear hin
      go_wp2_with fail
      go_roundw
      case rel=>exact ⟨t+1,v,rs,by go_num,Ad,hR,hcn2,hM⟩
      case measure=>simp [intOf];omega
    case pos =>
     obtain ⟨hin,hi12⟩:=hin;have g1:(i:Int)<nq:=by omega
     have g2:(i:Int)<12:=by omega
     have hi0:(0:Int)<=i:=by omega
     obtain ⟨b,off,ea,hbw,c0,c1,c2⟩:∃ b off,qa=some ⟨b,off,none⟩/\b<w.heap.size/\NB w b (off+i*3) (CX qs i):=by
      rcases HQ.out with ⟨e,e2⟩ | ⟨b,off,cap',e,h1,h2,h3,h4⟩
      ·have:=hnq.out;rw [e2] at this;simp at this;omega
      ·cases e
       exact ⟨b,off,rfl,h3,h4 i _ (Iu (by rw [<-hnq.out];exact hin))⟩
     subst ea;have P0:=A8 (PA.out i);rw [hpi.out] at P0;have d0:=hM.out.old hbw c0;by_cases hpt:pf i=t;case neg =>
      have hne:(pf i==(t:Int))=false:=by simp [hpt]
      have hcn2:rs.length<=Rh pf (min nq 12) t (i+1):=by rw [Nz,AF hpt];exact hcn
      generalize pf i=pv at *
      generalize (CX qs i).a=ga at *
      clear hpt;go_wp2_with fail;refine Calls.mono (P0.out _) ?_;rintro e w1 ⟨rfl,rfl⟩;clear P0 d0;go_wp2_with fail;go_roundw;case rel=>exact ⟨i+1,v,rs,by go_num,Ad,hR,hcn2,hM⟩
      case measure=>simp [intOf];omega
     case pos =>
      rw [hpt] at P0;have e1:=hM.out.old hbw c1;have e2:=hM.out.old hbw c2;have pB:=A8 (PB.out i);have pC:=A8 (PC.out i);have n1:=CP (c:=(CX qs i).b) (m:=51) Ad;have n2:=Ds (c:=(CX qs i).b) (m:=51) Ad;have n3:=CP (c:=(CX qs i).c) (m:=51) Ad;have n4:=Ds (c:=(CX qs i).c) (m:=51) Ad;generalize DB (CX qs i).b 51=p1 at *
      generalize DB (CX qs i).c 51=p2 at *
      have SHt:=A8 (fun W (hb:Below w.heap.size w W)=>SH.out t W hb Ad);have hsh:Hid (I6 (DB st 1000) (Dq d rates) (min rates.length 20) ⟨DD (DB st 1000) (Dq d rates) (min rates.length 20) t,max ((t:Int)-p1) 0,(t:Int)+p2⟩):=A8 ⟨t,Ad,rfl,by show max ((t:Int)-p1) 0<=t;omega,by show (t:Int)<=t+p2;omega⟩;have hs0:0<=DD (DB st 1000) (Dq d rates) (min rates.length 20) t/\DD (DB st 1000) (Dq d rates) (min rates.length 20) t<=10000000:=by
       have q1:=CP (c:=st) (m:=1000) Ad;have q2:=Ds (c:=st) (m:=1000) Ad;obtain ⟨q3,q4⟩:=Jp (c:=Dq d rates) b1 (Gd b1 rates) (Cc 0) (show (0:Int)<=t by omega) (min rates.length 20);rw [IC] at q3 q4;have q5:=BF (show 0<=1000-d by omega) (show (0:Int)<=(t:Int)-0 by omega);have q6:=Az (show 1000+d<=1100 by omega) (show (0:Int)<=(t:Int)-0 by omega);unfold DD;omega
      have hcn2:rs.length+1<=Rh pf (min nq 12) t (i+1):=by rw [Nz,AI hpt];omega
      have hcl:=Tz pf (min nq 12) t (i+1);generalize DD (DB st 1000) (Dq d rates) (min rates.length 20) t=lo at *
      have u1:IntKind.i64.wrap ((t:Int)-p1)=t-p1:=Bz _ Ad;have u2:IntKind.i64.wrap ((t:Int)+p2)=t+p2:=Bz _ Ad;go_wp2_with fail;refine Calls.mono (P0.out _) ?_;rintro e w1 ⟨rfl,rfl⟩;clear P0 d0;go_upto_region 9 with fail;refine Ty (bR:=b) (oR:=off) (nR:=nq) (kR:=qcap) (i:=i) (rv:=.slice ra rates.length rcap) (dr:=dr) (st:=st) (t:=t) (a1:=(CX qs i).b) (a2:=(CX qs i).c) (lo:=lo) (p1:=p1) (p2:=p2) (lw:=max ((t:Int)-p1) 0) hi0 g1 (fun W hW=>SHt.out W hW.below) (fun W hW=>hW.old hbw c1) (fun W hW=>(pB.out W).mono fun e W' ⟨he,hw'⟩=>⟨he,by subst hw';exact Below.refl _ _⟩) u1 rfl (fun W hW=>hW.old hbw c2) (fun W hW=>(pC.out W).mono fun e W' ⟨he,hw'⟩=>⟨he,by subst hw';exact Below.refl _ _⟩) u2 hM rfl rfl rfl rfl rfl rfl rfl Ab ?_;intro xx bE W' hx12 hM9;simp only [Dp,BN,BO,A5,A6,hx12];clear hx12 hM SHt pB pC e1 e2;have hM:=hM9;clear hM9;have hlw0:(0:Int)<=max ((t:Int)-p1) 0:=by omega
      have hlw1:max ((t:Int)-p1) 0<=(t:Int)+p2:=by omega
      obtain ⟨va,vc,hv⟩:=(NL.of_own hM.out.own0).shape;by_cases hz:rs.length=0
      ·obtain rfl:=AS hz
       have hprev:Hm [] (List.length ([]:List Rd))<lo:=by show (-1:Int)<lo;omega
       subst hv;have y1:=(hM.out.cell bC _ _ Ai 1).trans (show _=some (Value.slice va 0 vc) from rfl);go_upto_region 11 with fail;refine OT (bC:=bC) (bE:=bE) hM rfl rfl Ab ?_;intro xx W' hx78 hM;simp only [Dp,BN,BO,A5,A6,hx78];clear hx78 y1;have z0:=(hM.out.cell bE _ _ Ah 0).trans (show _=some (Value.int .i64 lo) from rfl);have z1:=(hM.out.cell bE _ _ Ah 1).trans (show _=some (Value.int .i64 (max ((t:Int)-p1) 0)) from rfl);have z2:=(hM.out.cell bE _ _ Ah 2).trans (show _=some (Value.int .i64 ((t:Int)+p2)) from rfl);have z3:=(hM.out.cell bC _ _ Ai 1).trans (show _=some (Value.slice va 0 vc) from rfl);have hMt:=A8 hM.out.tail;generalize Value.slice va 0 vc=V at *
       generalize max ((t:Int)-p1) 0=lw at *
       clear hM;go_wp2_with (at_builtin;refine Jg rfl rfl (hMt.out.new _) rfl rfl ((CO.new _ _ _).cell 0) ((CO.new _ _ _).cell 1) ((CO.new _ _ _).cell 2) rfl rfl rfl (by first | omega | simp) ?_;intro g2 c2 W8 hM8;have q1:=hM8.cell bC _ _ Ah 1;have q2:=hM8.frozen bC _ _ Ah 1;replace hM8:=hM8.put0 1 (.slice (some ⟨g2,0,none⟩) (List.length ([]:List Rd)+1) c2));go_roundw;case rel=>exact ⟨i+1,_,([]:List Rd)++[⟨lo,lw,(t:Int)+p2⟩],by go_num,Ad,A8 (hR.out.snoc ⟨lo,lw,(t:Int)+p2⟩ hprev hs0.1 hs0.2 hlw0 hlw1 (by show (t:Int)+p2<=10000000;omega) hsh.out),by rw [BP];exact hcn2,by rw [BP,Lj];exact A8 hM8⟩
       case measure=>simp [intOf];omega
      ·obtain ⟨gb,rfl⟩:∃ gb,va=some ⟨gb,0,none⟩:=by
        rcases hM.out.own0.2 with ⟨e,h0⟩ | ⟨g,cap,cur,e,_⟩
        ·exact absurd h0 hz
        ·rw [hv] at e;cases e;exact ⟨g,rfl⟩
       subst hv
       obtain ⟨n1,hn1⟩:∃ n1,rs.length=n1+1:=⟨rs.length-1,Ad⟩
       have k0:=(Kr rs n1 Ad).1
       have h71:IntKind.i64.wrap ((rs.length:Int)-1)=n1:=by rw [show (rs.length:Int)-1=n1 by omega];exact Bz _ Ad
       have hn2:(n1:Int)<rs.length:=by omega
       replace hn1:=A8 hn1
       have hrow:∀ W,CE w [(bE,#[.int .i64 lo,.int .i64 (max ((t:Int)-p1) 0),.int .i64 ((t:Int)+p2)],89),(bC,#[.int .i64 d,.slice (some ⟨gb,0,none⟩) rs.length vc],39),(bO,#[.int .i64 0,.slice none 0 0],39)] [⟨89,3,(.slice (some ⟨gb,0,none⟩) rs.length vc),List.length rs,Fw rs⟩] W->W.cell? ⟨gb,n1*3,none⟩=some (.int .i64 (Dn rs n1).loc):=fun W hW=>by
        have:=hW.own0.cells (g:=gb) rfl (n1*3) _ k0;rw [E5,Br] at this;exact this
       obtain ⟨ok,hok⟩:∃ ok,decide ((Dn rs n1).loc<lo)=ok:=⟨_,rfl⟩
       have y1:=(hM.out.cell bC _ _ Ai 1).trans (show _=some (Value.slice (some ⟨gb,0,none⟩) rs.length vc) from rfl)
       have m1:((rs.length:Int)==0)=false:=by rw [Am];omega
       go_upto_region 11 with fail
       refine OU (bC:=bC) (bE:=bE) (gb:=gb) (n:=rs.length) (cap:=vc) (n1:=n1) (la:=(Dn rs n1).loc) (lo:=lo) (ok:=ok) Ad hn2 m1 (fun W hW=>hW.cell _ _ _ Ai 1) h71 hrow (fun W hW=>hW.cell _ _ _ Ah 0) hok hM rfl rfl rfl rfl Ab ?_
       intro xx W' hx78 hM
       simp only [Dp,BN,BO,A5,A6,hx78]
       clear hx78 y1 m1 hrow h71 hn2
       cases ok
       case false =>
        go_wp2_with fail;go_roundw;case rel=>exact ⟨i+1,_,rs,by go_num,Ad,hR,Ad,A8 hM.out.tail⟩
        case measure=>simp [intOf];omega
       case true =>
        have hprev:Hm rs rs.length<lo:=by rw [hn1.out];exact BS hok
        clear k0;have z0:=(hM.out.cell bE _ _ Ah 0).trans (show _=some (Value.int .i64 lo) from rfl);have z1:=(hM.out.cell bE _ _ Ah 1).trans (show _=some (Value.int .i64 (max ((t:Int)-p1) 0)) from rfl);have z2:=(hM.out.cell bE _ _ Ah 2).trans (show _=some (Value.int .i64 ((t:Int)+p2)) from rfl);have z3:=(hM.out.cell bC _ _ Ai 1).trans (show _=some (Value.slice (some ⟨gb,0,none⟩) rs.length vc) from rfl);have hMt:=A8 hM.out.tail;generalize Value.slice (some ⟨gb,0,none⟩) rs.length vc=V at *
        generalize max ((t:Int)-p1) 0=lw at *
        clear hM;go_wp2_with (at_builtin;refine Jg rfl rfl (hMt.out.new _) rfl rfl ((CO.new _ _ _).cell 0) ((CO.new _ _ _).cell 1) ((CO.new _ _ _).cell 2) rfl rfl rfl (by first | omega | simp) ?_;intro g2 c2 W8 hM8;have q1:=hM8.cell bC _ _ Ah 1;have q2:=hM8.frozen bC _ _ Ah 1;replace hM8:=hM8.put0 1 (.slice (some ⟨g2,0,none⟩) (List.length rs+1) c2));go_roundw;case rel=>exact ⟨i+1,_,rs++[⟨lo,lw,(t:Int)+p2⟩],by go_num,Ad,A8 (hR.out.snoc ⟨lo,lw,(t:Int)+p2⟩ hprev hs0.1 hs0.2 hlw0 hlw1 (by show (t:Int)+p2<=10000000;omega) hsh.out),by rw [BP];exact hcn2,by rw [BP,Lj];exact A8 hM8⟩
        case measure=>simp [intOf];omega
end
end Go.Proofs.YtdkonnnmkceagaaGreatDoor
