/- LwE, Tab, LwP, Mkw, LwI, LwQ -/
import Derived.Test.YtioamkekjjkigaaGreatDoorYLwB
import Derived.Deep.RegionHeld3
import Derived.Deep.QuietTactic
import Derived.BigQuiet
import Derived.Lib.Zigzag
import Derived.ArgAppend
import Derived.Deep.DeepCutAuto
import Derived.Laws.StructEq
set_option maxHeartbeats 8000000
set_option maxRecDepth 100000
namespace Go.Proofs.YtioamkekjjkigaaGreatDoor
section
open Go.RowKit
open LnM (wd DL)
attribute [local go_sem] Oper.semAt_some
theorem BL.put12 {w W:World} {A C:Ei} {B:Nat} {g f:Nat->Int} {t:TypeId} (hO:JB w (A++(B,wc g,t) :: C)) (h:BL w (A++(B,wc g,t) :: C) W):BL w (A++(B,wc f,t) :: C) (Jg W B f):=BL.rowAll hO h (wl f) rfl
def UJ (W:World) (B:Nat):Nat:=match W.cell? ⟨B,0,none⟩ with
 | some (.int _ n)=>n.toNat
 | _=>0
theorem Px {W:World} {B z:Nat} (h:W.cell? ⟨B,0,none⟩=some (.int .i64 z)):UJ W B=z:=by unfold UJ;rw [h];simp
theorem O4 (d:Int) (hd:0<d) (hw:LnM.Wide d) (w:World) :
  Calls Tryz.prog 102 #[.agg (wc (wd d))] w fun e w'=>∃ (z:Nat) (o:Int) (B1 B2:Nat),e=.returned (.func (.func 128) #[] #[.pointer (some ⟨B1,0,none⟩),.pointer (some ⟨B2,0,none⟩)])/\d=2 ^ z*o/\o % 2=1/\z<768/\w.heap.size<=B1/\w.heap.size<=B2 /\
   Ds w' B1 #[.int .i64 z] 3/\Ds w' B2 (wc (wd (LnM.inv o 8))) 66/\Below w.heap.size w w':=by
 obtain ⟨V1,ev1,S1,zv1⟩:=(BL.start w).add' (wc (wd d)) 66
 obtain ⟨V2,ev2,S2,zv2⟩:=S1.add' (#[.int .i64 0]) 3
 rw [zv1] at S2
 have hV:V2=((w.alloc (.cells (wc (wd d)) 66)).alloc (.cells (#[.int .i64 0]) 3)):=by rw [ev2,ev1]
 have hS:BL w [(w.heap.size+1,#[.int .i64 0],3),(w.heap.size,wc (wd d),66)] V2:=S2
 clear ev1 ev2 zv1 zv2 S1 S2
 have hO:∀ z:Int,JB w [(w.heap.size+1,#[.int .i64 z],3),(w.heap.size,wc (wd d),66)]:=fun z=>⟨Af,Af⟩
 go_enter Tryz.func102,Tryz.ntmps102
 go_wp2_with fail
 rw [<-hV]
 clear hV
 go_loopw [] (fun wr=>∃ z:Nat,(∃ o,d=2 ^ z*o)/\BL w [(w.heap.size+1,#[.int .i64 (z:Int)],3),(w.heap.size,wc (wd d),66)] wr) (fun wr=>768-UJ wr (w.heap.size+1))
 case atStart=>exact ⟨0,⟨d,Af⟩,hS⟩
 case round =>
  clear hS;obtain ⟨z,hdv,hS⟩:=hrel;have hz:=LnM.zeros_lt hd hw hdv;have c0:=hS.c1 (w.heap.size+1) _ _ Ah;have hN:=Px c0;have b1:=LnM.wd_bit d (z / 64) (z % 64) (Nat.mod_lt _ Ae);rw [show 64*(z / 64)+z % 64=z by omega] at b1;obtain ⟨u,hu⟩:∃ u,u=z / 64:=⟨_,rfl⟩;obtain ⟨r,hr⟩:∃ r,r=z % 64:=⟨_,rfl⟩;rw [<-hu,<-hr] at b1;have hu':u<12:=by omega
  have hr':r<64:=by omega
  have hui:(u:Int)<12:=by omega
  have c1:=(hS.cell w.heap.size _ _ Ai u).trans (FC (wd d) hu');have d3:(z:Int).tdiv 64=u:=by rw [C5 Ad];omega
  have d4:(z:Int).tmod 64=r:=by rw [Bi Ad];omega
  have d8:IntKind.i64.wrap (u:Int)=u:=BT _ Ad;have d9:IntKind.i64.wrap (r:Int)=r:=BT _ Ad;have hx:=LnM.wd_bd d u;have hp:=LnM.two_pos r;have ha:=Go.Lib.u64_and1 (wd d u / 2 ^ r) (Ct hx.1 Ad) (Int.lt_of_le_of_lt (CA _ hx.1) hx.2);rw [b1] at ha;clear hu hr;generalize wd d u=x at *
  clear hx hp b1;by_cases hbit:d / 2 ^ z % 2=0
  ·rw [hbit] at ha
   have hdv2:=A8 (LnM.zeros_step hdv hbit);clear hdv hbit;have hz1:IntKind.i64.wrap ((z:Int)+1)=((z+1:Nat):Int):=by rw [BT _ Ad];omega
   go_upto_region 2 with fail;go_quiet (fail);replace hS:=hS.drewN nq;clear c0 c1;have c0:=hS.c1 (w.heap.size+1) _ _ Ah;have c1:=hS.frozen (w.heap.size+1) _ _ Ah 0;have hS2:=A8 (BL.putc (A:=[]) (hO _) hS 0 (.int .i64 ((z+1:Nat):Int)));have hN2:=A8 (Px (hS2.out.c1 (w.heap.size+1) _ _ Ah));clear hS;obtain ⟨z1,ez1⟩:∃ z1,z1=z+1:=⟨_,rfl⟩;rw [<-ez1] at hz1 hS2 hN2 hdv2;replace ez1:=A8 ez1;go_wp2_with fail;go_roundw;case rel=>exact ⟨z1,hdv2.out,hS2.out⟩
   case measure=>rw [hN2.out,hN,ez1.out];omega
  ·have hb1:d / 2 ^ z % 2=1:=by omega
   rw [hb1] at ha;obtain ⟨o,rfl⟩:=hdv;rw [Int.mul_ediv_cancel_left _ (LnM.pow_ne z)] at hb1;have SH:=LX (2 ^ z*o) hw z Ad;rw [Int.mul_ediv_cancel_left _ (LnM.pow_ne z)] at SH;clear hbit hN hw hd;replace hb1:=A8 hb1;generalize hD:(2:Int) ^ z*o=D at *
   replace hD:=A8 hD;generalize hf:wd D=f at *
   clear hf;generalize hg:wd o=g at *
   replace hg:=A8 hg;replace SH:=A8 SH;go_upto_region 2 with fail;go_quiet (fail);replace hS:=hS.drewN nq;clear c0 c1 ha;have c0:=hS.c1 (w.heap.size+1) _ _ Ah;obtain ⟨a0,a1,a2,a3,a4,a5,a6,a7,a8,a9,a10,a11⟩:=DN (show Ds _ (w.heap.size) (wc f) 66 from hS.blks (w.heap.size,wc f,66) Ai);go_wp2_with fail;refine Calls.mono (SH.out _) ?_;rintro e w1 ⟨rfl,hb⟩;replace hS:=hS.call hb;clear hb;clear a0 a1 a2 a3 a4 a5 a6 a7 a8 a9 a10 a11;clear c0;obtain ⟨q0,q1,q2,q3,q4,q5,q6,q7,q8,q9,q10,q11⟩:=Fy (show Ds _ (w.heap.size) (wc f) 66 from hS.blks (w.heap.size,wc f,66) Ai);obtain ⟨a0,a1,a2,a3,a4,a5,a6,a7,a8,a9,a10,a11⟩:=DN (show Ds _ (w.heap.size) (wc f) 66 from hS.blks (w.heap.size,wc f,66) Ai);have hO2:=hO z;have hS2:=A8 (show BL w [(w.heap.size+1,#[.int .i64 z],3),(w.heap.size,wc g,66)] (Jg w1 w.heap.size g) from BL.put12 (A:=[(w.heap.size+1,#[.int .i64 z],3)]) (C:=[]) (hO _) hS);go_upto_region 5 with fail;clear q0 q1 q2 q3 q4 q5 q6 q7 q8 q9 q10 q11 a0 a1 a2 a3 a4 a5 a6 a7 a8 a9 a10 a11;obtain ⟨W2,hW2⟩:∃ W2,W2=Jg w1 w.heap.size g:=⟨_,rfl⟩;rw [<-hW2] at hS2;dsimp only [Jg] at hW2;rw [<-hW2];clear hW2 hS hO2;replace hS:=hS2.out;clear hS2;obtain ⟨a0,a1,a2,a3,a4,a5,a6,a7,a8,a9,a10,a11⟩:=DN (show Ds _ (w.heap.size) (wc g) 66 from hS.blks (w.heap.size,wc g,66) Ai);have hO3:=(show JB w [(w.heap.size+1,#[.int .i64 z],3),(w.heap.size,wc g,66)] from ⟨Af,Af⟩).add hS (wc g) 66;have hS3:=hS.add (wc g) 66;obtain ⟨B,hB⟩:∃ B,B=W2.heap.size:=⟨_,rfl⟩;rw [<-hB] at hS3 hO3;have hO4:∀ cs:Array Value,JB w [(B,cs,66),(w.heap.size+1,#[.int .i64 z],3),(w.heap.size,wc g,66)]:=fun cs=>JB.put (A:=[]) hO3
   go_upto_region 6 with fail;clear a0 a1 a2 a3 a4 a5 a6 a7 a8 a9 a10 a11;rw [<-hB];obtain ⟨W3,hW3⟩:∃ W3,W3=W2.alloc (.cells (wc g) 66):=⟨_,rfl⟩;rw [<-hW3] at hS3;rw [<-hW3];clear hW3 hS hO3 hB;replace hS:=hS3;clear hS3;go_wp2_with fail;rw [<-hg.out] at hS;go_loopw [20] (fun s wr=>∃ k:Nat,s=.int .i64 k/\k<=8/\BL w [(B,wc (wd (LnM.inv o k)),66),(w.heap.size+1,#[.int .i64 z],3),(w.heap.size,wc (wd o),66)] wr) (fun s _=>8-(intOf s).toNat);case atStart=>exact ⟨0,rfl,Ad,hS⟩
   case round =>
    clear hS;obtain ⟨k,rfl,hk,hS⟩:=hrel;rw [hg.out] at hS;by_cases hk8:k<8
    ·have hk8':(k:Int)<8:=by omega
     have T1:=FZ o (LnM.inv o k);have MI:=FY 2 (o*LnM.inv o k);have T2:=FZ (LnM.inv o k) (2-o*LnM.inv o k);have OF:=fun W=>K0 2 Ae W
     rw [show LnM.inv o k*(2-o*LnM.inv o k)=LnM.inv o (k+1) from rfl] at T2;rw [hg.out] at T1;obtain ⟨f5,hf5⟩:∃ f5,wd (LnM.inv o (k+1))=f5:=⟨_,rfl⟩;rw [hf5] at T2;rw [<-Ej,<-Ej,<-Ej] at T1 T2 MI;simp only [<-Ej] at OF;obtain ⟨c1,e1⟩:∃ c1,c1=wl (wd (LnM.inv o k)):=⟨_,rfl⟩;obtain ⟨c2,e2⟩:∃ c2,c2=wl (wd 2):=⟨_,rfl⟩;obtain ⟨c3,e3⟩:∃ c3,c3=wl (wd (o*LnM.inv o k)):=⟨_,rfl⟩;obtain ⟨c4,e4⟩:∃ c4,c4=wl (wd (2-o*LnM.inv o k)):=⟨_,rfl⟩;obtain ⟨c5,e5⟩:∃ c5,c5=wl f5:=⟨_,rfl⟩;obtain ⟨cg,eg⟩:∃ cg,cg=wl g:=⟨_,rfl⟩;rw [<-e1] at T1 T2;rw [<-e2] at MI OF;rw [<-e3] at T1 MI;rw [<-e4] at MI T2;rw [<-e5] at T2;rw [<-eg] at T1;rw [<-Ej,<-Ej,<-e1,<-eg] at hS;have l1:c1.length=12:=by rw [e1];rfl
     have lg:cg.length=12:=by rw [eg];rfl
     have l5:c5.length=12:=by rw [e5];rfl
     have o5:∀ v∈c5,v.oneCell'=true:=by rw [e5];exact JC _
     have u1:(Tryz.prog.info? 66).map (·.size)=some c1.length:=by rw [l1];kernel_rfl
     have ug:(Tryz.prog.info? 66).map (·.size)=some cg.length:=by rw [lg];kernel_rfl
     have u5:(Tryz.prog.info? 66).map (·.size)=some c5.length:=by rw [l5];kernel_rfl
     have hu:=Tryz.underlying66;have hO5:=hO4;rw [<-Ej,<-eg] at hO5;clear e1 e2 e3 e4;replace T1:=A8 T1;replace T2:=A8 T2;replace MI:=A8 MI;replace OF:=A8 OF;replace hf5:=A8 hf5;replace e5:=A8 e5;replace eg:=A8 eg;go_upto_region 8 with fail;replace hS:=hS.drew;have hC:=A8 (show ∀ W',BL w [(B,c1.toArray,66),(w.heap.size+1,#[.int .i64 z],3),(w.heap.size,cg.toArray,66)] W'->(W'.rangeAt B 0 c1/\W'.rangeAt (w.heap.size) 0 cg) from fun W' h=>⟨h.range B c1 66 Ah,h.range (w.heap.size) cg 66 Aj⟩);refine Dv.start (S:=fun w'=>w'.rangeAt B 0 c1/\w'.rangeAt (w.heap.size) 0 cg) (st:=7) Ab ?_;refine Dv.take (i:=0) (v:=.agg (c1).toArray) rfl rfl Ab Ab Ab Ab Ae (fun _ _ _ h=>h) (hC.out _ hS) (yieldsIf_load_mid (by rfl) _ _ rfl _ _ rfl _ _ (fun w' hw=>hw.1) hu rfl u1) ?_;try simp only [Act.put]
     try simp only [A0]
     try simp only [A5]
     try simp only [A6]
     refine Dv.take (i:=2) (v:=.agg (cg).toArray) rfl rfl Ab Ab Ab Ab Ae (fun _ _ _ h=>h) (hC.out _ hS) (yieldsIf_load_mid (by rfl) _ _ rfl _ _ rfl _ _ (fun w' hw=>hw.2) hu rfl ug) ?_;try simp only [Act.put]
     try simp only [A0]
     try simp only [A5]
     try simp only [A6]
     refine Dv.take (i:=3) (v:=.agg (c1).toArray) rfl rfl Ab Ab Ab Ab Ae (fun _ _ _ h=>h) (hC.out _ hS) (yieldsIf_load_mid (by rfl) _ _ rfl _ _ rfl _ _ (fun w' hw=>hw.1) hu rfl u1) ?_;try simp only [Act.put]
     try simp only [A0]
     try simp only [A5]
     try simp only [A6]
     refine Dv.one (i:=1) Ab rfl (fun K hK=>?_);go_simp;go_at_call 68;with_reducible refine Calls.mono (OF.out _) ?_
     rintro e w2 ⟨rfl,hb⟩;replace hS:=hS.call hb;clear hb;refine hK.out _ _ (fun _=>hC.out _ hS) ?_;clear hK K;try simp only [Act.put]
     try simp only [A0]
     try simp only [A5]
     try simp only [A6]
     refine Dv.one (i:=4) Ab rfl (fun K hK=>?_);go_simp;go_at_call 103;with_reducible refine Calls.mono (T1.out _) ?_
     rintro e w3 ⟨rfl,hb⟩;replace hS:=hS.call hb;clear hb;refine hK.out _ _ (fun _=>hC.out _ hS) ?_;clear hK K;try simp only [Act.put]
     try simp only [A0]
     try simp only [A5]
     try simp only [A6]
     refine Dv.one (i:=5) Ab rfl (fun K hK=>?_);go_simp;go_at_call 32;with_reducible refine Calls.mono (MI.out _) ?_
     rintro e w4 ⟨rfl,hb⟩;replace hS:=hS.call hb;clear hb;refine hK.out _ _ (fun _=>hC.out _ hS) ?_;clear hK K;try simp only [Act.put]
     try simp only [A0]
     try simp only [A5]
     try simp only [A6]
     refine Dv.one (i:=6) Ab rfl (fun K hK=>?_);go_simp;go_at_call 103;with_reducible refine Calls.mono (T2.out _) ?_
     rintro e w5 ⟨rfl,hb⟩;replace hS:=hS.call hb;clear hb;refine hK.out _ _ (fun _=>hC.out _ hS) ?_;clear hK K;try simp only [Act.put]
     try simp only [A0]
     try simp only [A5]
     try simp only [A6]
     refine Dv.one (i:=7) Ab rfl (fun K hK=>?_);rw [AU (by rfl)];refine wp_store_mid _ _ _ rfl _ _ (List.toArray _) rfl rfl (by rw [BH];exact (by simp only [l5];exact hS.there B c1.toArray 66 Ah 12 (by simp [l1]))) (by rw [BH];exact u5) (all_oneCell_toArray o5) ?_;refine hK.out _ _ (fun h=>absurd rfl h) ?_;clear hK K;try simp only [Act.put]
     try simp only [Cm]
     refine Dv.done Ab ?_ _;go_wp2_with fail;go_roundw;case rel=>refine ⟨k+1,by go_num,Ad,?_⟩;rw [hf5.out,<-Ej,<-e5.out,hg.out,<-Ej,<-eg.out];exact BL.rowAll (A:=[]) (C:=[(w.heap.size+1,#[.int .i64 z],3),(w.heap.size,cg.toArray,66)]) (hO5 _) hS _ (by simp [l1,l5])
     case measure=>simp [intOf];omega
    ·obtain rfl:k=8:=by omega
     go_wp2;go_ret;exact ⟨z,o,w.heap.size+1,B,rfl,rfl,hb1.out,hz,Ad,(hO4 #[]).ge (B,_,_) Ah,hS.blks (w.heap.size+1,#[.int .i64 z],3) Ai,hS.blks (B,wc (wd (LnM.inv o 8)),66) Ah,hS.below⟩
theorem Py (z:Nat) (hz:z<768) (o:Int) (ho:o % 2=1) (y:Int) (hy:LnM.Wide (2 ^ z*o*y)) (B1 B2:Nat) (w:World) (h1:Ds w B1 #[.int .i64 z] 3) (h2:Ds w B2 (wc (wd (LnM.inv o 8))) 66) :
  Calls Tryz.prog 128 #[.agg (wc (wd (2 ^ z*o*y))),.pointer (some ⟨B1,0,none⟩),.pointer (some ⟨B2,0,none⟩)] w (DR w (.agg (wc (wd y)))):=by
 have SH:=LX (2 ^ z*o*y) hy z Ad
 have TI:=FZ (2 ^ z*o*y / 2 ^ z) (LnM.inv o 8)
 rw [Eu (f:=wd (2 ^ z*o*y / 2 ^ z*LnM.inv o 8)) (g:=wd y) (fun i hi=>LnM.divide_eq ho z y i hi)] at TI
 clear hy
 generalize wd (2 ^ z*o*y / 2 ^ z)=f1 at *
 generalize wd (2 ^ z*o*y)=f0 at *
 generalize wd (LnM.inv o 8)=f2 at *
 generalize wd y=f3 at *
 rw [<-Ej,<-Ej] at SH
 rw [<-Ej,<-Ej,<-Ej] at TI
 rw [<-Ej] at h2 |-
 obtain ⟨c0,e0⟩:∃ c0,c0=wl f0:=⟨_,rfl⟩
 obtain ⟨c1,e1⟩:∃ c1,c1=wl f1:=⟨_,rfl⟩
 obtain ⟨c2,e2⟩:∃ c2,c2=wl f2:=⟨_,rfl⟩
 obtain ⟨c3,e3⟩:∃ c3,c3=wl f3:=⟨_,rfl⟩
 rw [<-e0,<-e1] at SH
 rw [<-e1,<-e2,<-e3] at TI
 rw [<-e2] at h2
 rw [<-e0]
 have l0:c0.length=12:=by rw [e0];rfl
 have l2:c2.length=12:=by rw [e2];rfl
 have l3:c3.length=12:=by rw [e3];rfl
 have o3:∀ v∈c3,v.oneCell'=true:=by rw [e3];exact JC _
 have u0:(Tryz.prog.info? 66).map (·.size)=some c0.length:=by rw [l0];kernel_rfl
 have u2:(Tryz.prog.info? 66).map (·.size)=some c2.length:=by rw [l2];kernel_rfl
 have u3:(Tryz.prog.info? 66).map (·.size)=some c3.length:=by rw [l3];kernel_rfl
 have hu:=Tryz.underlying66
 clear e0 e1 e2
 replace e3:=A8 e3
 replace SH:=A8 SH
 replace TI:=A8 TI
 have S0:BL w [(B2,c2.toArray,66),(B1,#[.int .i64 z],3)] w:=⟨Below.refl _ _,fun p hp=>by rcases Aw.1 hp with rfl | hp;exact h2;rcases Aw.1 hp with rfl | hp;exact h1;cases hp⟩
 clear h1 h2
 obtain ⟨V1,ev1,S1,zv1⟩:=S0.add' (c0.toArray) 66
 obtain ⟨V2,ev2,S2,zv2⟩:=S1.add' (wc (fun _=>0)) 66
 rw [zv1] at S2
 have hV:V2=((w.alloc (.cells (c0.toArray) 66)).alloc (.cells (wc (fun _=>0)) 66)):=by rw [ev2,ev1]
 have hS:BL w [(w.heap.size+1,wc (fun _=>0),66),(w.heap.size,c0.toArray,66),(B2,c2.toArray,66),(B1,#[.int .i64 z],3)] V2:=S2
 clear ev1 ev2 zv1 zv2 S1 S2
 go_enter Tryz.func128,Tryz.ntmps128
 go_upto_region 1 with fail
 rw [<-hV]
 clear hV
 replace hS:=hS.drew
 clear S0
 have hC:=A8 (show ∀ W',BL w [(w.heap.size+1,wc (fun _=>0),66),(w.heap.size,c0.toArray,66),(B2,c2.toArray,66),(B1,#[.int .i64 z],3)] W'->(W'.rangeAt (w.heap.size) 0 c0/\W'.rangeAt B2 0 c2/\W'.cell? ⟨B1,0,none⟩=some (.int .i64 z)) from fun W' h=>⟨h.range (w.heap.size) c0 66 Ai,h.range B2 c2 66 Aj,h.c1 B1 _ _ Ak⟩)
 refine Dv.start (S:=fun w'=>w'.rangeAt (w.heap.size) 0 c0/\w'.rangeAt B2 0 c2/\w'.cell? ⟨B1,0,none⟩=some (.int .i64 z)) (st:=5) Ab ?_
 refine Dv.take (i:=0) (v:=.agg (c0).toArray) rfl rfl Ab Ab Ab Ab Ae (fun _ _ _ h=>h) (hC.out _ hS) (yieldsIf_load_mid (by rfl) _ _ rfl _ _ rfl _ _ (fun w' hw=>hw.1) hu rfl u0) ?_
 try simp only [Act.put]
 try simp only [A0]
 try simp only [A5]
 try simp only [A6]
 refine Dv.take (i:=1) (v:=.int .i64 z) rfl rfl Ab Ab Ab Ab Ae (fun _ _ _ h=>h) (hC.out _ hS) (Or.inl ⟨by rfl,fun w' hw=>?_⟩) ?_
 ·dsimp only at hw;go_simp
 try simp only [Act.put]
 try simp only [A0]
 try simp only [A5]
 try simp only [A6]
 refine Dv.take (i:=3) (v:=.agg (c2).toArray) rfl rfl Ab Ab Ab Ab Ae (fun _ _ _ h=>h) (hC.out _ hS) (yieldsIf_load_mid (by rfl) _ _ rfl _ _ rfl _ _ (fun w' hw=>hw.2.1) hu rfl u2) ?_
 try simp only [Act.put]
 try simp only [A0]
 try simp only [A5]
 try simp only [A6]
 refine Dv.one (i:=2) Ab rfl (fun K hK=>?_)
 go_simp
 go_at_call 127
 with_reducible refine Calls.mono (SH.out _) ?_
 rintro e w1 ⟨rfl,hb⟩
 replace hS:=hS.call hb
 clear hb
 refine hK.out _ _ (fun _=>hC.out _ hS) ?_
 clear hK K
 try simp only [Act.put]
 try simp only [A0]
 try simp only [A5]
 try simp only [A6]
 refine Dv.one (i:=4) Ab rfl (fun K hK=>?_)
 go_simp
 go_at_call 103
 with_reducible refine Calls.mono (TI.out _) ?_
 rintro e w2 ⟨rfl,hb⟩
 replace hS:=hS.call hb
 clear hb
 refine hK.out _ _ (fun _=>hC.out _ hS) ?_
 clear hK K
 try simp only [Act.put]
 try simp only [A0]
 try simp only [A5]
 try simp only [A6]
 refine Dv.one (i:=5) Ab rfl (fun K hK=>?_)
 rw [AU (by rfl)]
 refine wp_store_mid _ _ _ rfl _ _ (List.toArray _) rfl rfl (by rw [BH];exact (by simp only [BH,l3];exact hS.there (w.heap.size+1) (wc (fun _=>0)) 66 Ah 12 rfl)) (by rw [BH];exact u3) (all_oneCell_toArray o3) ?_
 refine hK.out _ _ (fun h=>absurd rfl h) ?_
 clear hK K
 try simp only [Act.put]
 try simp only [Cm]
 refine Dv.done Ab ?_ _
 replace hS:=hS.drop (M:=[(w.heap.size+1,wc (fun _=>0),66),(w.heap.size,c0.toArray,66)]) (fun p hp=>by rcases Aw.1 hp with rfl | hp;exact .head _;rcases Aw.1 hp with rfl | hp;exact .tail _ Ah;cases hp)
 have hS9:=BL.rowAll (A:=[]) (C:=[(w.heap.size,c0.toArray,66)]) ⟨Af,Af⟩ hS c3 (by simp [l3])
 generalize w2.setCells (w.heap.size+1) 0 c3=W9 at hS9 |-
 rw [e3.out,Ej] at hS9
 obtain ⟨y0,y1,y2,y3,y4,y5,y6,y7,y8,y9,y10,y11⟩:=DN (show Ds W9 (w.heap.size+1) (wc f3) 66 from hS9.blks (w.heap.size+1,wc f3,66) Ah)
 have hfin:=A8 hS9.below
 clear hS9 hS hC TI SH
 go_wp2
 exact bodyPost_ret (v:=.agg (wc f3)) (by simp [results,Tryz.results128,go_sem,y0,y1,y2,y3,y4,y5,y6,y7,y8,y9,y10,y11]) rfl ⟨rfl,hfin.out⟩
theorem Dw {W W':World} {b:Nat} (e:W'.heap[b]? = W.heap[b]?) (o:Nat):W'.cell? ⟨b,o,none⟩=W.cell? ⟨b,o,none⟩:=by simp [World.cell?,e]
theorem EF {W W':World} {b:Nat} (e:W'.heap[b]? = W.heap[b]?) (o:Nat):W'.frozen? ⟨b,o,none⟩=W.frozen? ⟨b,o,none⟩:=by simp [World.frozen?,e]
structure G8 (W:World) (b n:Nat) (f:Nat->Int):Prop where
 lt:b<W.heap.size
 rd:∀ j,j<n->W.rangeAt b (j*12) (wl (wd (f j)))
 wr:∀ j,j<n->W.there b (j*12) 12
theorem G8.same {W W':World} {b n:Nat} {f:Nat->Int} (h:G8 W b n f) (hs:W.heap.size<=W'.heap.size) (e:W'.heap[b]? = W.heap[b]?):G8 W' b n f :=
 ⟨A9 h.lt hs,fun j hj i v hv=>(Dw e _).trans (h.rd j hj i v hv),fun j hj i hi=>by rw [Dw e,EF e];exact h.wr j hj i hi⟩
theorem G8.below {W W':World} {b n:Nat} {f:Nat->Int} (h:G8 W b n f) (hb:Below W.heap.size W W'):G8 W' b n f:=h.same hb.size (hb.block b h.lt)
theorem G8.only {W W':World} {b n:Nat} {f:Nat->Int} {S:List Nat} (h:G8 W b n f) (ho:Dr S W W') (hS:b∉S):G8 W' b n f:=h.same ho.size (ho.block b h.lt hS)
theorem G8.congr {W:World} {b n:Nat} {f g:Nat->Int} (h:G8 W b n f) (e:∀ j,j<n->f j=g j):G8 W b n g:=⟨h.lt,fun j hj=>by rw [<-e j hj];exact h.rd j hj,h.wr⟩
theorem G8.set {W:World} {b n:Nat} {f:Nat->Int} (h:G8 W b n f) {j:Nat} (hj:j<n) (v:Int):G8 (W.setCells b (j*12) (wl (wd v))) b n (DL f j v):=by
 refine ⟨A9 h.lt (Dx _ _ _).size,fun i hi=>?_,fun i hi=>World.there_setCells (h.wr i hi) _ _ _⟩;by_cases e:i=j
 ·subst e
  rw [LnM.upd_same];exact World.rangeAt_setCells_same W b (i*12) _ (h.wr i hi)
 ·rw [LnM.upd_ne _ _ e]
  refine World.rangeAt_setCells_apart (h.rd i hi) _ _ _ (.inr ?_);rw [Kz,Kz];omega
structure K3 (W:World) (R:Nat->Nat) (m n:Nat) (F:Nat->Nat->Int):Prop where
 row:∀ i,i<m->G8 W (R i) n (F i)
theorem K3.below {W W':World} {R:Nat->Nat} {m n:Nat} {F:Nat->Nat->Int} (h:K3 W R m n F) (hb:Below W.heap.size W W'):K3 W' R m n F:=⟨fun i hi=>(h.row i hi).below hb⟩
theorem K3.set {W:World} {R:Nat->Nat} {m n:Nat} {F:Nat->Nat->Int} (h:K3 W R m n F) (hR:∀ i j,i<m->j<m->R i=R j->i=j) {i:Nat} (hi:i<m) {j:Nat} (hj:j<n) (v:Int) :
  K3 (W.setCells (R i) (j*12) (wl (wd v))) R m n (DL F i (DL (F i) j v)):=by
 refine ⟨fun k hk=>?_⟩
 by_cases e:k=i
 ·subst e;rw [LnM.upd_same];exact (h.row k hk).set hj v
 ·rw [LnM.upd_ne _ _ e]
  exact (h.row k hk).only (Dx _ _ W) (by simpa using fun e2=>e (hR k i hk hi e2))
theorem K3.congr {W:World} {R:Nat->Nat} {m n:Nat} {F G:Nat->Nat->Int} (h:K3 W R m n F) (e:∀ i,i<m->∀ j,j<n->F i j=G i j):K3 W R m n G:=⟨fun i hi=>(h.row i hi).congr (e i hi)⟩
theorem Pz:(Tryz.prog.info? 63).map (fun i=>(i.zero,i.size,i.bytes))=some (some (.slice none 0 0),1,24):=by kernel_rfl
theorem O6 {o:Oper} {a:Act} {K:Act->World->Prop} {Q:Exit->Act->World->Prop} {w:World} (t:TypeId)
  (ht:Tryz.prog.underlying t=some (.slice 63)) (s x:Operand) (ho:o.op=.call { callee:=.builtin .append,args:=#[s,x],argTypes:=#[t,t] })
  (ao:Option Addr) (n:Nat) (olds:List Value) (hs:a.eval s=.slice ao n n) (hnone:ao=none->n=0) (hlo:olds.length=n) (holds:∀ b,ao=some b->∀ j u,olds[j]? = some u->w.cell? (b.add j)=some u)
  (g:Nat) (u:Value) (hx:a.eval x=.slice (some ⟨g,0,none⟩) 1 1) (hu:w.cell? ⟨g,0,none⟩=some u) (h1:u.oneCell'=true) (hn:n<=1000000)
  (h:∀ g' cap w',(∀ j y,(olds++[u])[j]? = some y->w'.cell? ⟨g',j,none⟩=some y)->w.heap.size<=g'->g'<w'.heap.size->n+1<=cap->cap<=maxLen->Below w.heap.size w w'->K (a.put o.dst (.slice (some ⟨g',0,none⟩) (n+1) cap)) w') :
  Oper.wp Tryz.prog o a w K Q:=by
 obtain ⟨i0,hi,hz0,hz1,hz2⟩:=info_parts Pz
 have hnews:∀ j y,[u][j]? = some y->w.cell? ((⟨g,0,none⟩:Addr).add j)=some y:=fun j y hj=>by
  match j,hj with
  | 0,hj=>cases hj;rw [Es];exact hu
 have H:∃ v' w',(Builtin.append_ #[t,t] o.type #[.slice ao n n,.slice (some ⟨g,0,none⟩) 1 1]).run Tryz.prog w=.ok v' w'/\w'.ownsRow w.heap.size 63 1 v' (n+1) (olds++[u])/\w.grownBy w' none:=by
  cases ao with
  | some b=>exact run_append_arg_grows (P:=Tryz.prog) w t o.type 63 i0 (.slice none 0 0) 1 24 ht hi hz0 hz1 hz2 rfl Ae b n n olds Ad (holds b rfl) ⟨g,0,none⟩ 1 1 [u] rfl hnews Ad (by unfold maxLen;omega) Ad
  | none =>
   obtain rfl:=hnone rfl;obtain rfl:olds=[]:=Bo hlo;obtain ⟨v',w',hrun,r1,r2,_⟩:=run_append_own (P:=Tryz.prog) w w.heap.size t o.type 63 i0 (.slice none 0 0) 1 24 ht hi hz0 hz1 hz2 rfl Ae (.slice none 0 0) 0 [] (World.ownsRow_nil w _ _ 1) ⟨g,0,none⟩ 1 1 [u] rfl hnews (by intro y hy;simp at hy;subst hy;exact h1) (by unfold maxLen;omega) Ad (Aa _);exact ⟨v',w',hrun,r1,r2⟩
 obtain ⟨v',w',hrun,r1,r2⟩:=H
 rcases r1.2 with ⟨rfl,h0⟩ | ⟨g',cap,cur,rfl,hb,hg,hn',hm,hsz,htk⟩
 ·omega
 unfold Oper.wp
 simp [execOp,ho,resolve,invoke,builtin,hs,hx,hrun,Result.andThen]
 refine h g' cap w' (fun j y hj=>?_) hb (BO.1 hg).1 hn' hm ⟨r2.os,r2.tape,r2.output,r2.size,fun k hk=>r2.block k hk Af⟩
 have:=r1.cells (g:=g') rfl j y hj
 rwa [Es,BN] at this
def sl (m b c:Nat):Value:=.slice (if m=0 then none else some ⟨b,0,none⟩) m (if m=0 then 0 else c)
theorem Gq {m:Nat} (h:0<m) (b c:Nat):sl m b c=.slice (some ⟨b,0,none⟩) m c:=by unfold sl;rw [AP Ad,AP Ad]
structure Tb where
 tb:Nat
 xb:Nat
 bb:Nat
 sb:Nat
 R:Nat->Nat
 m:Nat
 n:Nat
 k:Nat
 cx:Nat
 cb:Nat
 cs:Nat
structure Tb.Dis (t:Tb) (base:Nat):Prop where
 inj:∀ i j,i<t.m+1->j<t.m+1->t.R i=t.R j->i=j
 rt:∀ i,i<t.m+1->t.R i≠t.tb
 rx:∀ i,i<t.m+1->t.R i≠t.xb
 rb:∀ i,i<t.m+1->t.R i≠t.bb
 rs:∀ i,i<t.m+1->t.R i≠t.sb
 tx:t.tb≠t.xb
 tb':t.tb≠t.bb
 ts:t.tb≠t.sb
 xb':t.xb≠t.bb
 bs:t.bb≠t.sb
 geR:∀ i,i<t.m+1->base<=t.R i
 get:base<=t.tb
 gex:base<=t.xb
 geb:base<=t.bb
 ges:base<=t.sb
structure K4 (W:World) (t:Tb) (F:Nat->Nat->Int) (B:Nat->Nat) (sg:Nat->Int) (d:Int):Prop where
 lt:t.tb<W.heap.size
 lx:0<t.m->t.xb<W.heap.size
 lb:0<t.m->t.bb<W.heap.size
 ls:0<t.m->t.sb<W.heap.size
 c0:W.cell? ⟨t.tb,0,none⟩=some (sl t.m t.xb t.cx)
 c1:W.cell? ⟨t.tb,1,none⟩=some (.slice (some ⟨t.R t.m,0,none⟩) t.n t.n)
 c2:W.cell? ⟨t.tb,2,none⟩=some (sl t.m t.bb t.cb)
 c3:W.cell? ⟨t.tb,3,none⟩=some (sl t.m t.sb t.cs)
 den:W.rangeAt t.tb 4 (wl (wd d))
 wden:W.there t.tb 4 12
 c16:W.cell? ⟨t.tb,16,none⟩=some (.int .i64 t.k)
 mx:t.m<=t.cx
 xs:∀ i,i<t.m->W.cell? ⟨t.xb,i,none⟩=some (.slice (some ⟨t.R i,0,none⟩) t.n t.n)
 grid:K3 W t.R (t.m+1) t.n F
 bas:∀ i,i<t.m->W.cell? ⟨t.bb,i,none⟩=some (.int .i64 (B i))/\W.frozen? ⟨t.bb,i,none⟩=false
 sgn:∀ i,i<t.m->W.cell? ⟨t.sb,i,none⟩=some (.int .i64 (sg i))
theorem Eo {W:World} {b o:Nat} {f:Nat->Int} (h:W.rangeAt b o (wl f)):W.cell? ⟨b,o,none⟩=some (.int .u64 (f 0))/\W.cell? ⟨b,o+1,none⟩=some (.int .u64 (f 1))/\W.cell? ⟨b,o+2,none⟩=some (.int .u64 (f 2))/\W.cell? ⟨b,o+3,none⟩=some (.int .u64 (f 3))/\W.cell? ⟨b,o+4,none⟩=some (.int .u64 (f 4))/\W.cell? ⟨b,o+5,none⟩=some (.int .u64 (f 5))/\W.cell? ⟨b,o+6,none⟩=some (.int .u64 (f 6))/\W.cell? ⟨b,o+7,none⟩=some (.int .u64 (f 7))/\W.cell? ⟨b,o+8,none⟩=some (.int .u64 (f 8))/\W.cell? ⟨b,o+9,none⟩=some (.int .u64 (f 9))/\W.cell? ⟨b,o+10,none⟩=some (.int .u64 (f 10))/\W.cell? ⟨b,o+11,none⟩=some (.int .u64 (f 11)) :=
 ⟨h 0 _ rfl,h 1 _ rfl,h 2 _ rfl,h 3 _ rfl,h 4 _ rfl,h 5 _ rfl,h 6 _ rfl,h 7 _ rfl,h 8 _ rfl,h 9 _ rfl,h 10 _ rfl,h 11 _ rfl⟩
theorem K4.same {W W':World} {t:Tb} {F:Nat->Nat->Int} {B:Nat->Nat} {sg:Nat->Int} {d:Int} (h:K4 W t F B sg d) (hs:W.heap.size<=W'.heap.size) (e1:W'.heap[t.tb]? = W.heap[t.tb]?)
  (e2:0<t.m->W'.heap[t.xb]? = W.heap[t.xb]?) (e3:0<t.m->W'.heap[t.bb]? = W.heap[t.bb]?) (e4:0<t.m->W'.heap[t.sb]? = W.heap[t.sb]?) {G:Nat->Nat->Int} (hg:K3 W' t.R (t.m+1) t.n G):K4 W' t G B sg d :=
 ⟨A9 h.lt hs,fun hm=>A9 (h.lx hm) hs,fun hm=>A9 (h.lb hm) hs,fun hm=>A9 (h.ls hm) hs,
  (Dw e1 _).trans h.c0,(Dw e1 _).trans h.c1,(Dw e1 _).trans h.c2,(Dw e1 _).trans h.c3,fun i v hv=>(Dw e1 _).trans (h.den i v hv),
  fun i hi=>by rw [Dw e1,EF e1];exact h.wden i hi,(Dw e1 _).trans h.c16,h.mx,fun i hi=>(Dw (e2 Ad) _).trans (h.xs i hi),hg,
  fun i hi=>by rw [Dw (e3 Ad),EF (e3 Ad)];exact h.bas i hi,fun i hi=>(Dw (e4 Ad) _).trans (h.sgn i hi)⟩
theorem K4.below {W W':World} {t:Tb} {F:Nat->Nat->Int} {B:Nat->Nat} {sg:Nat->Int} {d:Int} (h:K4 W t F B sg d) (hb:Below W.heap.size W W'):K4 W' t F B sg d :=
 h.same hb.size (hb.block _ h.lt) (fun hm=>hb.block _ (h.lx hm)) (fun hm=>hb.block _ (h.lb hm)) (fun hm=>hb.block _ (h.ls hm)) (h.grid.below hb)
theorem K4.setDen {W:World} {t:Tb} {F:Nat->Nat->Int} {B:Nat->Nat} {sg:Nat->Int} {d:Int} (h:K4 W t F B sg d) {base:Nat} (hd:t.Dis base) (d':Int):K4 (W.setCells t.tb 4 (wl (wd d'))) t F B sg d':=by
 have ho:=Dx (B:=t.tb) (wl (wd d')) 4 W;have oth:∀ b,b<W.heap.size->t.tb≠b->(W.setCells t.tb 4 (wl (wd d'))).heap[b]? = W.heap[b]? := fun b hb hne=>ho.block b hb (by simpa using fun e=>hne e.symm)
 have out:∀ o,(o<4∨16<=o)->(W.setCells t.tb 4 (wl (wd d'))).cell? ⟨t.tb,o,none⟩=W.cell? ⟨t.tb,o,none⟩:=fun o hoo=>World.cell?_setCells_out t.tb _ 4 W ⟨t.tb,o,none⟩ (fun _ _=>by rw [Kz];show o<4∨4+12<=o;omega)
 have hs:=ho.size;refine ⟨A9 h.lt hs,fun hm=>A9 (h.lx hm) hs,fun hm=>A9 (h.lb hm) hs,fun hm=>A9 (h.ls hm) hs,
  (out 0 Ad).trans h.c0,(out 1 Ad).trans h.c1,(out 2 Ad).trans h.c2,(out 3 Ad).trans h.c3,World.rangeAt_setCells_same W t.tb 4 _ h.wden,World.there_setCells h.wden _ _ _,(out 16 Ad).trans h.c16,h.mx,
  fun i hi=>(Dw (oth _ (h.lx Ad) hd.tx) _).trans (h.xs i hi),⟨fun i hi=>(h.grid.row i hi).only ho (by simpa using hd.rt i hi)⟩,
  fun i hi=>by rw [Dw (oth _ (h.lb Ad) hd.tb'),EF (oth _ (h.lb Ad) hd.tb')];exact h.bas i hi,fun i hi=>(Dw (oth _ (h.ls Ad) hd.ts) _).trans (h.sgn i hi)⟩
theorem K4.setBas {W:World} {t:Tb} {F:Nat->Nat->Int} {B:Nat->Nat} {sg:Nat->Int} {d:Int} (h:K4 W t F B sg d) {base:Nat} (hd:t.Dis base) {r:Nat} (hr:r<t.m) (k:Nat):K4 (W.setCell ⟨t.bb,r,none⟩ (.int .i64 k)) t F (DL B r k) sg d:=by
 have ho:Dr [t.bb] W (W.setCell ⟨t.bb,r,none⟩ (.int .i64 k)):=(Dr.refl [t.bb] W).setCell (p:=⟨t.bb,r,none⟩) Af _;have oth:∀ b,b<W.heap.size->b≠t.bb->(W.setCell ⟨t.bb,r,none⟩ (.int .i64 k)).heap[b]? = W.heap[b]? := fun b hb hne=>ho.block b hb (by simpa using hne)
 have hm:0<t.m:=by omega
 have hs:=ho.size;refine ⟨A9 h.lt hs,fun hm=>A9 (h.lx hm) hs,fun hm=>A9 (h.lb hm) hs,fun hm=>A9 (h.ls hm) hs,
  (Dw (oth _ h.lt hd.tb') _).trans h.c0,(Dw (oth _ h.lt hd.tb') _).trans h.c1,(Dw (oth _ h.lt hd.tb') _).trans h.c2,(Dw (oth _ h.lt hd.tb') _).trans h.c3,
  fun i v hv=>(Dw (oth _ h.lt hd.tb') _).trans (h.den i v hv),fun i hi=>by rw [Dw (oth _ h.lt hd.tb'),EF (oth _ h.lt hd.tb')];exact h.wden i hi,(Dw (oth _ h.lt hd.tb') _).trans h.c16,h.mx,
  fun i hi=>(Dw (oth _ (h.lx hm) hd.xb') _).trans (h.xs i hi),⟨fun i hi=>(h.grid.row i hi).only ho (by simpa using hd.rb i hi)⟩,fun i hi=>?_,fun i hi=>(Dw (oth _ (h.ls hm) hd.bs.symm) _).trans (h.sgn i hi)⟩
 obtain ⟨q1,q2⟩:=h.bas i hi;refine ⟨?_,(World.frozen?_setCell _ _ _ _).trans q2⟩;by_cases e:i=r
 ·subst e
  rw [LnM.upd_same];exact World.cell?_setCell_same _ _ _ q1
 ·rw [LnM.upd_ne _ _ e]
  exact (World.cell?_setCell_other _ _ _ _ (by intro h;cases h;exact e rfl)).trans q1
def Tb.rows (t:Tb):List Nat:=(List.range (t.m+1)).map t.R
theorem Tb.mem_rows {t:Tb} {b:Nat}:b∈t.rows↔∃ i,i<t.m+1/\t.R i=b:=by unfold Tb.rows;simp [AV,AB]
theorem Tb.row_mem {t:Tb} {i:Nat} (h:i<t.m+1):t.R i∈t.rows:=Tb.mem_rows.2 ⟨i,h,rfl⟩
theorem Dr.weak {S S':List Nat} {w w':World} (h:Dr S w w') (hs:∀ b∈S,b∈S'):Dr S' w w':=⟨h.os,h.tape,h.output,h.size,fun k hk hn=>h.block k hk (fun hm=>hn (hs k hm))⟩
theorem Dr.row {t:Tb} {w W:World} (h:Dr t.rows w W) {i:Nat} (hi:i<t.m+1) (o:Nat) (vs:List Value):Dr t.rows w (W.setCells (t.R i) o vs) :=
 h.trans ((Dx vs o W).weak (by intro b hb;rw [B3.1 hb];exact Tb.row_mem hi))
theorem K4.only {W W':World} {t:Tb} {F G:Nat->Nat->Int} {B:Nat->Nat} {sg:Nat->Int} {d:Int} (h:K4 W t F B sg d) {base:Nat} (hd:t.Dis base) (ho:Dr t.rows W W') (hg:K3 W' t.R (t.m+1) t.n G):K4 W' t G B sg d:=by
 have no:∀ b,(∀ i,i<t.m+1->t.R i≠b)->b∉t.rows:=fun b hb hm=>by
  obtain ⟨i,hi,e⟩:=Tb.mem_rows.1 hm;exact hb i hi e
 exact h.same ho.size (ho.block _ h.lt (no _ hd.rt)) (fun hm=>ho.block _ (h.lx hm) (no _ hd.rx)) (fun hm=>ho.block _ (h.lb hm) (no _ hd.rb)) (fun hm=>ho.block _ (h.ls hm) (no _ hd.rs)) hg
theorem Tb.rows_ge {t:Tb} {base:Nat} (hd:t.Dis base):∀ b∈t.rows,base<=b:=fun b hb=>by
 obtain ⟨i,hi,rfl⟩:=Tb.mem_rows.1 hb;exact hd.geR i hi
theorem Te:(Tryz.prog.info? 66).map (fun i=>(i.zero,i.size,i.bytes))=some (some (.agg (wc fun _=>0)),12,96):=by kernel_rfl
theorem QP {k:Nat} (h:k<12):(wc fun _=>0)[k]! = .int .u64 0:=by
 have:=FC (fun _=>0) h;rw [getElem!_pos _ k (by simpa using h)];have e:=Cl (xs:=wc fun _=>0) (i:=k) (by simpa using h);rw [e] at this;exact B4 this
theorem wl_zero {i:Nat} {v:Value} (h:(wl (wd 0))[i]? = some v):v=.int .u64 0/\i<12:=by
 have hi:i<12:=by
  have:=(BR.1 h).1;rwa [Kz] at this
 refine ⟨?_,hi⟩;have e:=FC (wd 0) hi;rw [<-Ej,Ck,h,LnM.wd_zero] at e;exact B4 e
theorem K5 (w:World) (n:Nat) (hn:n<=1000000):∃ w',(Instr.makeSlice 63 (.int .i64 (n:Int)) (.int .i64 (n:Int))).run Tryz.prog w=.ok (.slice (some ⟨w.heap.size,0,none⟩) n n) w' /\
  G8 w' w.heap.size n (fun _=>0)/\(∃ cs,Ds w' w.heap.size cs 66)/\Below w.heap.size w w':=by
 obtain ⟨i0,hi,hz0,hz1,hz2⟩:=info_parts Te
 obtain ⟨w',hrun,r1,r2⟩:=run_make_full (P:=Tryz.prog) w w.heap.size 63 66 i0 (.agg (wc (fun _=>0))) 12 Tryz.underlying63 hi hz0 hz1 .i64 .i64 n (by rw [hz2];omega) (by unfold maxLen;omega) (Aa _)
 have hcell:∀ k,k<n*12->w'.cell? ⟨w.heap.size,k,none⟩=some (.int .u64 0):=fun k hk=>by
  have:=r1.cells (g:=w.heap.size) rfl k (.int .u64 0) (by
   show (madeCells (wc fun _=>0) (n*12)).toList[k]? = _;rw [BU];unfold madeCells;rw [Array.getElem?_map,Array.getElem?_range,AU hk];show some ((wc fun _=>0)[k % 12]!)=_;rw [QP (Nat.mod_lt _ Ae)])
  rwa [Es,BN] at this
 have hblk:∃ cs:Array Value,w'.heap[w.heap.size]? = some (.cells cs 66 (0,0)):=by
  rcases r1.2 with ⟨e,_⟩ | ⟨g,cap,cur,e,hb,hg,_⟩
  ·cases e
  ·cases e;exact ⟨cur,hg⟩
 obtain ⟨cs,hcs⟩:=hblk
 refine ⟨w',hrun,⟨(BO.1 hcs).1,fun j hj i v hv=>?_,fun j hj i hi12=>?_⟩,⟨cs,hcs⟩,(Below.refl _ _).grown r2 (Aa _) (fun k e=>by cases e)⟩
 ·obtain ⟨rfl,hi12⟩:=wl_zero hv
  exact hcell _ Ad
 ·refine ⟨by rw [hcell _ Ad];rfl,?_⟩
  simp [World.frozen?,hcs]
theorem MC {o:Oper} {a:Act} {K:Act->World->Prop} {Q:Exit->Act->World->Prop} {w:World} (l c:Operand) (ho:o.op=Op.makeSlice 63 l c) (n:Nat) (hl:a.eval l=.int .i64 n) (hc:a.eval c=.int .i64 n) (hn:n<=1000000)
  (h:∀ w',G8 w' w.heap.size n (fun _=>0)->(∃ cs,Ds w' w.heap.size cs 66)->Below w.heap.size w w'->K (a.put o.dst (.slice (some ⟨w.heap.size,0,none⟩) n n)) w') :
  Oper.wp Tryz.prog o a w K Q:=by
 obtain ⟨w',hrun,h1,h2,h3⟩:=K5 w n hn
 unfold Oper.wp
 simp [execOp,ho,hl,hc,hrun,Result.andThen]
 exact h w' h1 h2 h3
end
section
open Go.RowKit Go.Shelf
open LnM (wd DL)
attribute [local go_sem] Oper.semAt_some
theorem IK:(Tryz.prog.info? 9).map (fun i=>(i.zero,i.size,i.bytes))=some (some (.string ⟨#[]⟩),1,16):=by kernel_rfl
theorem UM (es:List ByteArray):∀ u∈es.map Value.string,u.oneCell'=true:=by
 intro u hu;obtain ⟨s,_,rfl⟩:=AV.1 hu;rfl
theorem own_ptr {w:World} {base:Nat} {e:TypeId} {k n:Nat} {v:Value} {xs:List Value} (h:w.ownsRow base e k v n xs):∀ b o,v.ptr? = some (b,o)->base<=b:=by
 intro b o hb;rcases h.2 with ⟨rfl,_⟩ | ⟨g,cap,cur,rfl,hg,_⟩
 ·cases hb
 ·cases hb;exact hg
theorem DS.setFar {w:World} {v:Value} {l:List ByteArray} (h:DS w v l) {B:Nat} (hB:∀ b o,v.ptr? = some (b,o)->B<b) (i:Nat) (x:Value):DS (w.setCell ⟨B,i,none⟩ x) v l:=by
 rcases h with h | ⟨b,off,cap,rfl,h1,h2,h3,h4⟩
 ·exact .inl h
 ·have hb:=hB b off rfl
  refine .inr ⟨b,off,cap,rfl,h1,h2,by simpa [World.setCell] using h3,fun j y hj=>?_⟩;exact (World.cell?_setCell_far w ⟨B,i,none⟩ ⟨b,off+j*1,none⟩ x (by show B≠b;omega)).trans (h4 j y hj)
theorem L0 {ops:Array Oper} {rest:List Oper} {o:Oper} {a:Act} {Q:Exit->Act->World->Prop} {w:World} {s0:ByteArray} {es:List ByteArray} (t:TypeId)
  (ht:Tryz.prog.underlying t=some (.slice 9)) (hgd:o.guard=none) (s x:Operand) (ho:o.op=.call { callee:=.builtin .append,args:=#[s,x],argTypes:=#[t,t] }) {u:Value}
  (hs:a.eval s=.slice (some ⟨w.heap.size,0,none⟩) 1 1) (hx:a.eval x=u) (hu:DS w u es) (hk:es.length<=1000000)
  (h:∀ v' w',DS w' v' (s0 :: es)->(∀ b o,v'.ptr? = some (b,o)->w.heap.size<=b)->Below w.heap.size w w'->wpList Tryz.prog ops Q rest (a.put o.dst v') w') :
  wpList Tryz.prog ops Q (o :: rest) a (w.alloc (.cells #[.string s0] 9)):=by
 refine wpList_plain hgd fun K hK=>?_
 obtain ⟨i0,hi,hz0,hz1,hz2⟩:=info_parts IK
 have hb0:Below w.heap.size w (w.alloc (.cells #[.string s0] 9)):=(Below.refl _ _).alloc (Aa _) _
 have hown:(w.alloc (.cells #[.string s0] 9)).ownsRow w.heap.size 9 1 (.slice (some ⟨w.heap.size,0,none⟩) 1 1) 1 ([s0].map Value.string) :=
  ⟨rfl,.inr ⟨w.heap.size,1,#[.string s0],rfl,Aa _,heap_alloc_new w _,Aa _,by unfold maxLen;omega,rfl,rfl⟩⟩
 have H:∃ v' w',(Builtin.append_ #[t,t] o.type #[.slice (some ⟨w.heap.size,0,none⟩) 1 1,u]).run Tryz.prog (w.alloc (.cells #[.string s0] 9))=.ok v' w'/\DS w' v' (s0 :: es)/\(∀ b o,v'.ptr? = some (b,o)->w.heap.size<=b)/\Below w.heap.size w w':=by
  rcases hu.below hb0 with ⟨rfl,rfl⟩ | ⟨b,off,cap,rfl,h1,h2,h3,h4⟩
  ·have hr:=run_append_owned_none (P:=Tryz.prog) (w:=w.alloc (.cells #[.string s0] 9)) w.heap.size t o.type 9 i0 1 ht hi _ 1 _ hown
   exact ⟨_,_,hr,DS.of_own hown,(fun b o e=>by cases e;exact Aa _),hb0⟩
  ·obtain ⟨v',w',hrun,r1,r2,r3⟩:=run_append_own (P:=Tryz.prog) (w.alloc (.cells #[.string s0] 9)) w.heap.size t o.type 9 i0 (.string ⟨#[]⟩) 1 16 ht hi hz0 hz1 hz2 rfl Ae _ 1 _ hown ⟨b,off,none⟩ es.length cap (es.map Value.string) Af
    (by
     intro j u hj;rw [Es];rw [AQ] at hj;cases e:es[j]? with
     | none=>rw [e] at hj;cases hj
     | some y =>
      rw [e] at hj;cases hj;have:=h4 j y e;rwa [AY] at this) (UM es) (by unfold maxLen;omega) Ad (by rw [Bh];omega)
   rw [<-Bg] at r1
   exact ⟨v',w',hrun,DS.of_own r1,own_ptr r1,(hb0.grown r2 (by rw [Bh];omega) (fun j hj=>(hown.lt j hj).1))⟩
 obtain ⟨v',w',hrun,r1,r0,r2⟩:=H
 unfold Oper.wp
 simp [execOp,ho,resolve,invoke,builtin,hs,hx,hrun,Result.andThen]
 exact hK _ _ (h v' w' r1 r0 r2)
theorem repeat18 {d:Nat} (h:d<=18) {w:World} :
  Calls Tryz.prog 75 #[.string ⟨#[48]⟩,.int .i64 d] w fun e w'=>e=.returned (.string ⟨(List.replicate d 48).toArray⟩)/\Below w.heap.size w w':=by
 refine (Tryz.strings_Repeat ⟨#[48]⟩ d w Ad (by show 1*d<=_;omega)).mono ?_
 rintro e w' ⟨rfl,hb⟩
 exact ⟨by rw [<-KU],hb⟩
theorem PF (f g:Nat->Int) (W:World):(Op.equalIn 10000 66 (.agg (wc f)) (.agg (wc g))).run Tryz.prog W=.ok ((List.range' 0 12 1).all fun i=>f i==g i) W:=by
 have he:=Tryz.underlying64;have hp:∀ (h:Nat->Int) (i:Nat),i<12->(part 64 (wc h) (i*1)).run Tryz.prog W=.ok (.int .u64 (h i)) W:=fun h i hi=>by
  have:=FC h hi;rw [AY];simp [part,isAgg,run_underlying he,this]
 rw [show (10000:Nat)=9998+2 from rfl,Op.equalIn];simp only [Sem.run_bind,run_underlying Tryz.underlying66,Result.andThen_ok,Tryz.sizeOf64,Std.Legacy.Range.forIn_eq_forIn_range',Std.Legacy.Range.size,Nat.sub_zero,Nat.add_sub_cancel,Nat.div_one];have hl:∀ i∈List.range' 0 12 1,i<12:=fun i hi=>by simpa using (List.mem_range'_1.1 hi).2
 generalize List.range' 0 12 1=l at hl |-;induction l with
 | nil=>simp
 | cons i l ih =>
  have hi:i<12:=hl i Af;have pe:(Op.equalIn (9998+1) 64 (.int .u64 (f i)) (.int .u64 (g i))).run Tryz.prog W=.ok (f i==g i) W:=run_equalIn_int W 9998 64 .u64 .u64 _ _ he;simp only [List.forIn_cons,Sem.run_bind,hp f i hi,hp g i hi,pe,Result.andThen_ok,List.all_cons];cases hc:(f i==g i) with
  | true=>simpa using ih (fun x hx=>hl x (Bw _ hx))
  | false=>simp
theorem Th (f g:Nat->Int):((List.range' 0 12 1).all fun i=>f i==g i)=true↔∀ i,i<12->f i=g i:=by
 rw [AE];constructor
 ·intro h i hi
  simpa using h i (by simp [List.mem_range'_1];omega)
 ·intro h i hi
  simpa using h i (by simpa using (List.mem_range'_1.1 hi).2)
theorem F8 {z:Int} (hz:LnM.Wide z) {b:Bool} (hb:b=decide (z=0)) (W:World):(Op.equalIn 10000 66 (.agg (wc (wd z))) (.agg (wc (fun _=>0)))).run Tryz.prog W=.ok b W:=by
 rw [PF,hb];congr 1;rw [Bool.eq_iff_iff,Th,CB];constructor
 ·intro h
  exact LnM.wide_eq hz LnM.wide_zero fun i hi=>by rw [h i hi,LnM.wd_zero]
 ·rintro rfl i _
  exact LnM.wd_zero i
theorem Ti {a n A:Nat} (ha:a≠0) (h:a*1000000000000000000 ^ n<=A) (hA:LnM.Wide (A:Int)):n<=12:=Nat.le_of_not_lt fun hn=>by
 have h1:(1000000000000000000:Nat) ^ 13<=1000000000000000000 ^ n:=CD Ae hn;have h2:1*(1000000000000000000:Nat) ^ n<=a*1000000000000000000 ^ n:=BF _ Ad;have h3:LnM.P 12<=((1000000000000000000 ^ 13:Nat):Int):=by decide +kernel
 have h4:=hA.2;generalize (1000000000000000000:Nat) ^ 13=M at *
 have h6:M<=A:=by omega
 omega
theorem UN {a:Nat} (h:LnM.Wide (a:Int)) (g:Nat):LnM.Wide ((a / g:Nat):Int):=by
 have h1:a / g<=a:=Nat.div_le_self _ _;generalize a / g=q at *
 have h2:=h.2;have:=LnM.P_pos 12;exact ⟨Ad,Ad⟩
def QS (A a:Nat) (J:List ByteArray):Prop:=(A=0/\J=[]/\a=0)∨LnM.Left A a (HO J)
theorem QS.start (A:Nat):QS A A []:=by
 by_cases h:A=0
 ·exact .inl ⟨h,rfl,h⟩
 ·exact .inr (LnM.left_start h)
theorem QS.step {A a:Nat} {J:List ByteArray} (h:QS A a J) (ha:a≠0):QS A (a / 1000000000000000000) ((⟨(LnM.grp a).toArray⟩:ByteArray) :: J):=by
 rcases h with ⟨_,_,h⟩ | h
 ·exact absurd h ha
 ·refine .inr ?_
  rw [N9];exact LnM.left_step h ha
theorem grp_len (a:Nat):(LnM.grp a).length<=18:=by
 have h:a % 1000000000000000000<1000000000000000000:=Nat.mod_lt _ Ae;unfold LnM.grp;split
 ·exact (LnM.decDigits_len18 h).2
 ·rw [LnM.pad18_len h];exact Aa _
theorem UO {a:Int} (i:Nat):(18446744073709551616*((a / LnM.P (i+1)) % 1000000000000000000)+wd a i) / 1000000000000000000=wd (a / 1000000000000000000) i/\(18446744073709551616*((a / LnM.P (i+1)) % 1000000000000000000)+wd a i) % 1000000000000000000=(a / LnM.P i) % 1000000000000000000:=by
 obtain ⟨h1,h2⟩:=LnM.wd_div (a:=a) (g:=1000000000000000000) Ae i;have h3:=LnM.wd_bd a i;refine ⟨?_,h2.symm⟩;rw [h1];unfold LnM.W64 at *
 omega
theorem KB (z:Int) (hz:LnM.Wide z) (hz2:LnM.Wide (-z)) (w:World) (hE:Fp w) :
  Calls Tryz.prog 33 #[.agg (wc (wd z))] w (DR w (.string ⟨(Lib.itoa z).toArray⟩)):=by
 have hsg:=LnM.wd_neg hz
 obtain ⟨nA,hA⟩:∃ nA:Nat,nA=z.natAbs:=⟨_,rfl⟩
 have hAw:LnM.Wide (nA:Int):=by
  by_cases h:z<0
  ·rw [show (nA:Int)=-z by omega];exact hz2
  ·rw [show (nA:Int)=z by omega];exact hz
 obtain ⟨sb,hsb⟩:∃ sb,sb=decide (z<0):=⟨_,rfl⟩
 obtain ⟨sg,hsgn⟩:∃ sg:ByteArray,sg=if z<0 then ⟨#[45]⟩ else ⟨#[]⟩:=⟨_,rfl⟩
 have NEG:∀ W,Calls Tryz.prog 69 #[.agg (wc (wd z))] W (DR W (.bool sb)):=fun W=>by
  have:=JZ (wd z) W;rwa [show (wd z 11 / 9223372036854775808==1)=sb by rw [hsb];by_cases h:z<0 <;> simp [h,hsg]] at this
 have MI:=fun W=>FY 0 z W
 rw [Eu (f:=wd 0) (g:=fun _=>0) (fun i _=>LnM.wd_zero i)] at MI
 have hout:(Lib.itoa z)=(sg.data.toList++Lib.decDigits nA):=by
  rw [hsgn,hA];by_cases h:z<0
  ·rw [AU h,Gb h];rfl
  ·rw [AP h,DP Ad,show z.toNat=z.natAbs by omega];rfl
 rw [hout]
 obtain ⟨V1,ev1,S1,zv1⟩:=(BL.start w).add' (wc (wd z)) 66
 have hV:V1=(w.alloc (.cells (wc (wd z)) 66)):=by rw [ev1]
 have hS:BL w [(w.heap.size,wc (wd z),66)] V1:=S1
 clear ev1 zv1 S1
 replace NEG:=A8 NEG
 replace MI:=A8 MI
 replace hout:=A8 hout
 replace hsgn:=A8 hsgn
 replace hsb:=A8 hsb
 replace hA:=A8 hA
 replace hAw:=A8 hAw
 replace hsg:=A8 hsg
 replace hz:=A8 hz
 obtain ⟨a0,a1,a2,a3,a4,a5,a6,a7,a8,a9,a10,a11⟩:=DN (show Ds _ (w.heap.size) (wc (wd z)) 66 from hS.blks (w.heap.size,wc (wd z),66) Ah)
 go_enter Tryz.func33,Tryz.ntmps33
 go_upto_region 2 with fail
 rw [<-hV]
 clear hV
 go_wp2_with fail
 refine Calls.mono (NEG.out _) ?_
 rintro e w1 ⟨rfl,hb⟩
 replace hS:=hS.call hb
 clear hb
 clear a0 a1 a2 a3 a4 a5 a6 a7 a8 a9 a10 a11
 go_upto_if 9 with (fail)
 go_cut [3] (fun s wx=>s=.string sg/\BL w [(w.heap.size,wc (wd nA),66)] wx)
 case first =>
  by_cases hneg:z<0
  ·obtain rfl:sb=true:=by rw [hsb.out];simp [hneg]
   have e1:wc (wd (0-z))=wc (wd nA):=by rw [show 0-z=(nA:Int) by have:=hA.out;omega]
   have e2:sg=⟨#[45]⟩:=by rw [hsgn.out,AU hneg]
   clear hneg hout hsgn hsb hA hAw hsg hz NEG;subst e2;obtain ⟨a0,a1,a2,a3,a4,a5,a6,a7,a8,a9,a10,a11⟩:=DN (show Ds _ (w.heap.size) (wc (wd z)) 66 from hS.blks (w.heap.size,wc (wd z),66) Ah);obtain ⟨q0,q1,q2,q3,q4,q5,q6,q7,q8,q9,q10,q11⟩:=Fy (show Ds _ (w.heap.size) (wc (wd z)) 66 from hS.blks (w.heap.size,wc (wd z),66) Ah);go_wp2_with fail;refine Calls.mono (MI.out _) ?_;rintro e w2 ⟨rfl,hb⟩;replace hS:=hS.call hb;clear hb;clear a0 a1 a2 a3 a4 a5 a6 a7 a8 a9 a10 a11 q0 q1 q2 q3 q4 q5 q6 q7 q8 q9 q10 q11;rw [e1];generalize wd nA=f at *
   clear e1;obtain ⟨a0,a1,a2,a3,a4,a5,a6,a7,a8,a9,a10,a11⟩:=DN (show Ds _ (w.heap.size) (wc (wd z)) 66 from hS.blks (w.heap.size,wc (wd z),66) Ah);obtain ⟨q0,q1,q2,q3,q4,q5,q6,q7,q8,q9,q10,q11⟩:=Fy (show Ds _ (w.heap.size) (wc (wd z)) 66 from hS.blks (w.heap.size,wc (wd z),66) Ah);have hS2:=A8 (show BL w [(w.heap.size,wc f,66)] (Jg w2 w.heap.size f) from BL.put12 (A:=[]) (C:=[]) ⟨Af,Af⟩ hS);dsimp only [Jg] at hS2;go_wp2_with fail;go_meet;exact ⟨rfl,hS2.out⟩
  ·obtain rfl:sb=false:=by rw [hsb.out];simp [hneg]
   have e1:wd z=wd nA:=by rw [show z=(nA:Int) by have:=hA.out;omega]
   have e2:sg=⟨#[]⟩:=by rw [hsgn.out,AP hneg]
   rw [e1] at hS;subst e2;clear e1 hout hsgn hsb hA hAw hsg hz NEG MI;go_wp2_with fail;go_meet;exact ⟨rfl,hS⟩
 case rest =>
  have hs0:=A8 (show nA=0->sg=⟨#[]⟩ from fun h=>by rw [hsgn.out,AP (by have:=hA.out;omega)]);have hsz1:sg.size<=1:=by rw [hsgn.out];split <;> decide
  clear NEG MI hS hsgn hsb hsg hz hA hz2;rename World=>wc0
  obtain ⟨rfl,hS⟩:=hcut;go_wp2_with fail;clear hout;go_loopw [4] (fun g wr=>∃ (a:Nat) (J:List ByteArray),Hid (QS nA a J)/\Hid (a*1000000000000000000 ^ J.length<=nA)/\Hid (∀ s∈J,s.size<=18)/\Hid (J=[]->g=.slice none 0 0)/\Hid (LnM.Wide (a:Int))/\J.length<=13/\Hid (∀ b o,g.ptr? = some (b,o)->w.heap.size<b)/\DS wr g J/\BL w [(w.heap.size,wc (wd a),66)] wr) (fun g _=>20-Lp g);case atStart=>exact ⟨nA,[],A8 (QS.start nA),A8 Af,A8 (fun s h=>by cases h),A8 (fun _=>rfl),hAw,Af,A8 (fun b o e=>by cases e),JJ.nil _,hS⟩
  case round =>
   clear hS;obtain ⟨a,J,hL,hbd,hsz,hnil,haw,h13,hpt,hJ,hS⟩:=hrel;by_cases ha:a=0
   ·subst ha
    have EQ:=fun W=>F8 (z:=((0:Nat):Int)) haw.out (b:=true) Af W
    obtain ⟨a0,a1,a2,a3,a4,a5,a6,a7,a8,a9,a10,a11⟩:=DN (show Ds _ (w.heap.size) (wc (wd ((0:Nat):Int))) 66 from hS.blks (w.heap.size,wc (wd ((0:Nat):Int)),66) Ah);generalize wd ((0:Nat):Int)=f at *
    dsimp only [wc] at EQ;by_cases hJ0:J=[]
    ·obtain rfl:=hnil.out hJ0
     have hz0:nA=0:=by
      rcases hL.out with ⟨h,_⟩ | h
      ·exact h
      ·have:=LnM.left_end h
       rw [hJ0] at this;exact absurd (show Lib.decDigits nA=[] from this) (DO nA).2.2.1
     have hfin:(⟨(sg.data.toList++Lib.decDigits nA).toArray⟩:ByteArray)=⟨#[48]⟩:=by rw [hs0.out hz0,hz0];decide +kernel
     replace hfin:=A8 hfin;clear hz0 hJ0 hL hbd hsz hnil haw hJ;have NB:∀ W,(binOp .eql 28 (.slice none 0 0) (.slice none 0 0)).run Tryz.prog W=.ok (.bool true) W:=fun W=>by kernel_rfl
     go_wp2;go_ret;exact ⟨by rw [hfin.out];rfl,hS.below⟩
    ·have hdig:Lib.decDigits nA=HO J:=by
      rcases hL.out with ⟨_,h,_⟩ | h
      ·exact absurd h hJ0
      ·exact LnM.left_end h
     have h1:1<=J.length:=by
      cases J with
      | nil=>exact absurd rfl hJ0
      | cons=>simp
     have h50:J.length<=50:=by omega
     have JN:=fun (v:Value) W (h:DS W v J)=>UL v J W h h1 h50 (fun s hs=>Bc (hsz.out s hs) Ae)
     have hcl:(HO J).length<=50000:=Bc (PE (fun s hs=>Bc (hsz.out s hs) Ae)) Ad
     replace hdig:=A8 hdig
     obtain ⟨jt,hjt⟩:∃ jt:ByteArray,jt=⟨(HO J).toArray⟩:=⟨_,rfl⟩
     have hjs:jt.size<=50000:=by rw [hjt,GY];exact hcl
     rw [<-hjt] at JN
     have hfin:(⟨(sg.data.toList++HO J).toArray⟩:ByteArray)=sg++jt:=by rw [hjt,show sg=⟨sg.data⟩ from rfl,GL]
     replace hfin:=A8 hfin
     replace JN:=A8 JN
     rcases hJ with ⟨_,h⟩ | ⟨gb,off,cap,rfl,g1,g2,g3,g4⟩
     ·exact absurd h hJ0
     have hJ:=A8 (show DS wr _ J from .inr ⟨gb,off,cap,rfl,g1,g2,g3,g4⟩)
     clear hcl hjt hJ0 hL hbd hsz hnil haw g4
     have NB:∀ W,(binOp .eql 28 (.slice (some ⟨gb,off,none⟩) J.length cap) (.slice none 0 0)).run Tryz.prog W=.ok (.bool false) W:=fun W=>by kernel_rfl
     go_wp2_with fail
     refine Calls.mono (JN.out _ _ hJ.out) ?_
     rintro e w2 ⟨rfl,hb⟩
     replace hS:=hS.call hb
     clear hb
     go_wp2
     go_ret
     exact ⟨by rw [hdig.out,hfin.out];rfl,hS.below⟩
   ·have hln:=Ti ha hbd.out hAw.out
    have hdm:a / 1000000000000000000*1000000000000000000<=a:=Nat.div_mul_le_self _ _;have hbd2:=A8 (show a / 1000000000000000000*1000000000000000000 ^ (J.length+1)<=nA by
     rw [Nat.pow_succ,Nat.mul_comm (1000000000000000000 ^ J.length),<-Nat.mul_assoc];exact Bc (BF _ hdm) hbd.out)
    have hL2:=A8 (hL.out.step ha);have haw2:=A8 (UN haw.out 1000000000000000000);have EQ:=fun W=>F8 haw.out (b:=false) (by simp [ha]) W
    have EQ2:=fun W=>F8 haw2.out (b:=decide (a / 1000000000000000000=0)) (by simp;omega) W
    have hdw:=A8 (fun i=>UO (a:=(a:Int)) i);have he0:((a:Int) / LnM.P 12) % 1000000000000000000=0:=by
     rw [CF Ad (by have:=haw.out.2;have:=LnM.P_pos 12;omega)];rfl
    have he1:((a:Int) / LnM.P 0) % 1000000000000000000=((a % 1000000000000000000:Nat):Int):=by
     show ((a:Int) / 1) % 1000000000000000000=_;rw [Int.ediv_one];omega
    have heq:((a:Int) / 1000000000000000000)=((a / 1000000000000000000:Nat):Int):=by omega
    have FU:=A8 (fun W hE=>PD (a % 1000000000000000000) (Nat.lt_trans (Nat.mod_lt _ Ae) Ae) W hE);obtain ⟨ag,cap,rfl⟩:=hJ.shape;obtain ⟨a0,a1,a2,a3,a4,a5,a6,a7,a8,a9,a10,a11⟩:=DN (show Ds _ (w.heap.size) (wc (wd a)) 66 from hS.blks (w.heap.size,wc (wd a),66) Ah);dsimp only [wc] at EQ;clear hdm hbd hL;go_wp2_with fail;clear a0 a1 a2 a3 a4 a5 a6 a7 a8 a9 a10 a11;clear EQ;go_loopw [5,6] (fun r i wr2=>∃ (k:Nat) (m:Int),r=.int .u64 (((a:Int) / LnM.P k) % 1000000000000000000)/\i=.int .i64 m/\m=(k:Int)-1/\k<=12/\DS wr2 (.slice ag J.length cap) J/\BL w [(w.heap.size,wc (fun j=>if k<=j then wd ((a:Int) / 1000000000000000000) j else wd (a:Int) j),66)] wr2) (fun _ i _=>(intOf i+1).toNat);case atStart=>exact ⟨12,11,by rw [he0],rfl,Ad,Ad,hJ,by rw [Eu (f:=fun j=>if 12<=j then wd ((a:Int) / 1000000000000000000) j else wd (a:Int) j) (g:=wd (a:Int)) (fun i hi=>AP Ad)];exact hS⟩
    case round =>
     clear hS hJ;obtain ⟨k,m,rfl,rfl,hm,hk,hJ,hS⟩:=hrel;rcases k with _ | i
     ·obtain rfl:m=-1:=by omega
      clear hm hk hdw he0;rw [he1];rw [Eu (f:=fun j=>if 0<=j then wd ((a:Int) / 1000000000000000000) j else wd (a:Int) j) (g:=wd ((a / 1000000000000000000:Nat):Int)) (fun i hi=>by rw [AU (AO _),heq])] at hS;clear he1 heq;go_wp2_with fail;refine Calls.mono (FU.out _ (hS.env hE)) ?_;rintro e w2 ⟨rfl,hb⟩;replace hS:=hS.call hb;replace hJ:=hJ.below hb;clear hb FU;have hd18:=LnM.decDigits_len18 (show a % 1000000000000000000<1000000000000000000 from Nat.mod_lt _ Ae);obtain ⟨s,hs⟩:∃ s:ByteArray,s=⟨(Lib.decDigits (a % 1000000000000000000)).toArray⟩:=⟨_,rfl⟩;have hss:s.size=(Lib.decDigits (a % 1000000000000000000)).length:=by rw [hs,GY]
      rw [<-hs];have hs18:s.size<=18:=by omega
      obtain ⟨gt,hgt⟩:∃ gt:ByteArray,gt=⟨(LnM.grp a).toArray⟩:=⟨_,rfl⟩;have hg18:gt.size<=18:=by rw [hgt,GY];exact grp_len a
      rw [<-hgt] at hL2;have hsz2:=A8 (show ∀ x∈gt :: J,x.size<=18 from fun x hx=>by
       rcases Aw.1 hx with rfl | hx
       ·exact hg18
       ·exact hsz.out x hx)
      obtain ⟨a0,a1,a2,a3,a4,a5,a6,a7,a8,a9,a10,a11⟩:=DN (show Ds _ (w.heap.size) (wc (wd ((a / 1000000000000000000:Nat):Int))) 66 from hS.blks (w.heap.size,wc (wd ((a / 1000000000000000000:Nat):Int)),66) Ah);by_cases hq:a / 1000000000000000000=0
      ·rw [show decide (a / 1000000000000000000=0)=true from AF hq] at EQ2
       have hgs:gt=s:=by rw [hgt,hs];unfold LnM.grp;rw [AU hq]
       subst hgs;clear hs hgt hss hd18 hq;obtain ⟨f,hf⟩:∃ f,f=wd ((a / 1000000000000000000:Nat):Int):=⟨_,rfl⟩;rw [<-hf] at EQ2 hS;rw [<-hf] at a0 a1 a2 a3 a4 a5 a6 a7 a8 a9 a10 a11;replace hf:=A8 hf;dsimp only [wc] at EQ2;go_upto_region 14 with fail;have hlt9:=A8 (hS.lts _ Ah);go_wp2_with (at_builtin;refine L0 (s0:=gt) 28 Tryz.underlying28 rfl _ _ rfl rfl rfl hJ Ad ?_;intro v' w9 hJ9 hp9 hb9);replace hS:=hS.call hb9;obtain ⟨ag9,cap9,rfl⟩:=hJ9.shape;go_wp2_with fail;go_roundw;case rel=>exact ⟨a / 1000000000000000000,gt :: J,hL2,hbd2,hsz2,A8 (fun h=>by cases h),haw2,by rw [CG];omega,A8 (fun b o e=>A9 hlt9.out (hp9 b o e)),hJ9,by rw [<-hf.out];exact hS⟩
       case measure=>simp [Lp];omega
      ·rw [show decide (a / 1000000000000000000=0)=false from Al hq] at EQ2
       have RP:=A8 (fun W=>repeat18 (d:=18-s.size) Ad (w:=W));obtain ⟨z0,hz0⟩:∃ z0:ByteArray,z0=⟨(List.replicate (18-s.size) 48).toArray⟩:=⟨_,rfl⟩;have hz0s:z0.size<=18:=by rw [hz0,GY,Ch];omega
       rw [<-hz0] at RP;have hgs:z0++s=gt:=by
        rw [hgt,hz0,hs,GL];unfold LnM.grp;rw [AP hq];unfold LnM.pad18;rw [<-hs,hss]
       have hw18:IntKind.i64.wrap (18-(s.size:Int))=((18-s.size:Nat):Int):=by rw [BT _ Ad];omega
       clear hs hgt hss hd18 hq hz0;obtain ⟨f,hf⟩:∃ f,f=wd ((a / 1000000000000000000:Nat):Int):=⟨_,rfl⟩;rw [<-hf] at EQ2 hS;rw [<-hf] at a0 a1 a2 a3 a4 a5 a6 a7 a8 a9 a10 a11;replace hf:=A8 hf;dsimp only [wc] at EQ2;go_wp2_with fail;refine Calls.mono (RP.out _) ?_;rintro e w3 ⟨rfl,hb⟩;replace hS:=hS.call hb;replace hJ:=hJ.below hb;clear hb RP;go_upto_region 14 with fail;clear hgs;have hlt9:=A8 (hS.lts _ Ah);go_wp2_with (at_builtin;refine L0 (s0:=gt) 28 Tryz.underlying28 rfl _ _ rfl rfl rfl hJ Ad ?_;intro v' w9 hJ9 hp9 hb9);replace hS:=hS.call hb9;obtain ⟨ag9,cap9,rfl⟩:=hJ9.shape;go_wp2_with fail;go_roundw;case rel=>exact ⟨a / 1000000000000000000,gt :: J,hL2,hbd2,hsz2,A8 (fun h=>by cases h),haw2,by rw [CG];omega,A8 (fun b o e=>A9 hlt9.out (hp9 b o e)),hJ9,by rw [<-hf.out];exact hS⟩
       case measure=>simp [Lp];omega
     ·obtain rfl:m=(i:Int):=by omega
      clear hm he0 he1 heq FU EQ2;have hi12:i<12:=by omega
      have hii:(i:Int)<12:=by omega
      have c0:=(hS.cell w.heap.size _ _ Ah i).trans (FC _ hi12);rw [AP Ad] at c0;obtain ⟨e1,e2⟩:=hdw.out i;have D:=fun W=>Tg (((a:Int) / LnM.P (i+1)) % 1000000000000000000) (wd (a:Int) i) ⟨Cy _ Ae,Cu _ Ae⟩ (LnM.wd_bd _ _) W
      rw [e1,e2] at D;clear e1 e2;obtain ⟨h,hh⟩:∃ h,h=((a:Int) / LnM.P (i+1)) % 1000000000000000000:=⟨_,rfl⟩;obtain ⟨l,hl⟩:∃ l,l=wd (a:Int) i:=⟨_,rfl⟩;obtain ⟨qw,hqw⟩:∃ qw,qw=wd ((a:Int) / 1000000000000000000) i:=⟨_,rfl⟩;obtain ⟨rw',hrw⟩:∃ rw',rw'=((a:Int) / LnM.P i) % 1000000000000000000:=⟨_,rfl⟩;rw [<-hh,<-hl,<-hqw,<-hrw] at D;rw [<-hl] at c0;rw [<-hh];clear hh hl;replace hqw:=A8 hqw;replace hrw:=A8 hrw;replace D:=A8 D;go_wp2_with fail;refine Calls.mono (D.out _) ?_;rintro e w2 ⟨rfl,hb⟩;replace hS:=hS.call hb;replace hJ:=hJ.below hb;clear hb c0;have c0:=(hS.cell w.heap.size _ _ Ah i).trans (FC _ hi12);have c1:=hS.frozen w.heap.size _ _ Ah i;have hS2:=BL.putc (A:=[]) (C:=[]) ⟨Af,Af⟩ hS i (.int .u64 qw);rw [F7 _ hi12,Eu (f:=DL (fun j=>if i+1<=j then wd ((a:Int) / 1000000000000000000) j else wd (a:Int) j) i qw) (g:=fun j=>if i<=j then wd ((a:Int) / 1000000000000000000) j else wd (a:Int) j) (fun j hj=>by
       unfold DL;dsimp only;by_cases h:j=i
       ·subst h;rw [AU rfl,AU (Aa _),hqw.out]
       ·by_cases h2:i<=j
        ·rw [AP h,AU Ad,AU h2]
        ·rw [AP h,AP Ad,AP h2])] at hS2
      replace hS2:=A8 hS2;have hJ2:=A8 (hJ.setFar hpt.out i (.int .u64 qw));have hw1:IntKind.i64.wrap ((i:Int)-1)=(i:Int)-1:=BT _ Ad;clear hS;go_wp2_with fail;go_roundw;case rel=>exact ⟨i,(i:Int)-1,by rw [hrw.out],rfl,Ad,Ad,hJ2.out,hS2.out⟩
      case measure=>simp [intOf]
end
section
open Go.RowKit
open LnM (wd DL)
attribute [local go_sem] Oper.semAt_some
theorem Tu (t:Tb) (base:Nat) (F F':Nat->Nat->Int) (B:Nat->Nat) (sg:Nat->Int) (d:Int) (r k:Nat) (w:World) (h:K4 w t F B sg d) (hd:t.Dis base) (hbs:base<=w.heap.size) (hr:r<t.m) (hk:k<t.n)
  (hm1:t.m<=100000) (hn1:t.n<=100000) (hd0:0<d) (hdw:LnM.Wide d)
  (hex:∀ i,i<t.m+1->i≠r->∀ j,j<t.n->F i j*F r k-F i k*F r j=d*F' i j/\LnM.Wide (d*F' i j)) (hrr:∀ j,j<t.n->F' r j=F r j) :
  Calls Tryz.prog 70 #[.pointer (some ⟨t.tb,0,none⟩),.int .i64 r,.int .i64 k] w fun e w'=>e=.returned (.tuple #[])/\K4 w' t F' (DL B r k) sg (F r k)/\Below base w w':=by
 have hm0:0<t.m:=by omega
 have DV:=A8 (fun W=>O4 d hd0 hdw W)
 have xlt:=h.lx hm0
 obtain ⟨a0,a1,a2,a3,a4,a5,a6,a7,a8,a9,a10,a11⟩:=Eo h.den
 have H:=A8 h
 clear h
 have hr0:(0:Int)<=r:=by omega
 have hr1:(r:Int)<t.m:=by omega
 have hk0:(0:Int)<=k:=by omega
 have hk1:(k:Int)<t.n:=by omega
 go_enter Tryz.func70,Tryz.ntmps70
 go_wp2_with fail
 refine Calls.mono (DV.out _) ?_
 rintro e w1 ⟨z,od,B1,B2,rfl,hdo,hodd,hz,g1,g2,k1,k2,hb1⟩
 clear a0 a1 a2 a3 a4 a5 a6 a7 a8 a9 a10 a11 DV
 have H1:=A8 (H.out.below hb1)
 have c0:=H1.out.c0
 rw [Gq hm0] at c0
 have x0:=H1.out.xs r hr
 obtain ⟨b0,b1',b2,b3,b4,b5,b6,b7,b8,b9,b10,b11⟩:=Eo ((H1.out.grid.row r Ad).rd k hk)
 obtain ⟨pv,hpv⟩:∃ pv,pv=wd (F r k):=⟨_,rfl⟩
 rw [<-hpv] at b0 b1' b2 b3 b4 b5 b6 b7 b8 b9 b10 b11
 replace hpv:=A8 hpv
 go_upto_region 2 with fail
 obtain ⟨W2,hW2⟩:∃ W2,W2=w1.alloc (.cells (wc pv) 66):=⟨_,rfl⟩
 rw [<-hW2]
 have hb2:Below w1.heap.size w1 W2:=by rw [hW2];exact (Below.refl _ _).alloc (Aa _) _
 have hz2:W2.heap.size=w1.heap.size+1:=by rw [hW2];exact Bh _ _
 have kp:Ds W2 w1.heap.size (wc pv) 66:=by rw [hW2];exact Ds.new _ _ _
 have k1:=k1.below hb2
 have k2:=k2.below hb2
 obtain ⟨pb,hpb⟩:∃ pb,pb=w1.heap.size:=⟨_,rfl⟩
 rw [<-hpb] at kp hz2 |-
 have H2:=A8 (H1.out.below hb2)
 have hB2:Below base w W2:=by
  have e1:Below base w w1:=hb1.mono hbs;exact e1.trans (hb2.mono (Bc hbs hb1.size))
 have gp:w.heap.size<=pb:=by rw [hpb];exact hb1.size
 clear b0 b1' b2 b3 b4 b5 b6 b7 b8 b9 b10 b11 hW2 c0 x0 hb1 hpb hb2 hz2 H1
 replace hdo:=A8 hdo
 obtain ⟨M,hM⟩:∃ M,M=t.m+1:=⟨_,rfl⟩
 replace hM:=A8 hM
 have hC:=A8 (show ∀ W',Below W2.heap.size W2 W'->(W'.cell? ⟨t.tb,0,none⟩=some (.slice (some ⟨t.xb,0,none⟩) t.m t.cx)/\W'.cell? ⟨t.tb,1,none⟩=some (.slice (some ⟨t.R t.m,0,none⟩) t.n t.n)) from fun W' hb=>by
  have e:=(H2.out.below hb).c0;rw [Gq hm0] at e;exact ⟨e,(H2.out.below hb).c1⟩)
 have hmc:(t.m:Int)<=t.cx:=by have:=H2.out.mx;omega
 have hm00:(0:Int)<=t.m:=by omega
 have hbd:=Dq W2 1
 have hba:Below W2.heap.size W2 (W2.drew.alloc (.cells #[.slice (some ⟨t.R t.m,0,none⟩) t.n t.n] 63)):=Below.alloc (Dq W2 1) (Aa _) _
 refine wp_region_held_drew (S:=fun w'=>w'.cell? ⟨t.tb,0,none⟩=some (.slice (some ⟨t.xb,0,none⟩) t.m t.cx)/\w'.cell? ⟨t.tb,1,none⟩=some (.slice (some ⟨t.R t.m,0,none⟩) t.n t.n)) Ab (hC.out _ hbd) (fun hHeld=>?_)
 refine tkV 0 (.pointer (some ⟨t.tb,0,none⟩)) (fun w' hw=>?_) hHeld ?_
 ·go_simp
 try simp only [A7,A3,Act.put,A0,A5,A6]
 refine tkV 1 (.pointer (some ⟨t.tb,0,none⟩)) (fun w' hw=>?_) hHeld ?_
 ·go_simp
 try simp only [Ag,Act.put]
 refine tkV 2 (.pointer (some ⟨t.tb,0,none⟩)) (fun w' hw=>?_) hHeld ?_
 ·go_simp
 try simp only [Ag,Act.put]
 refine tkV 3 (.slice (some ⟨t.xb,0,none⟩) t.m t.cx) (fun w' hw=>?_) hHeld ?_
 ·go_simp
 try simp only [Ag,Act.put]
 refine tkV 4 (.pointer (some ⟨t.tb,0,none⟩)) (fun w' hw=>?_) hHeld ?_
 ·go_simp
 try simp only [Ag,Act.put]
 refine tkV 5 (.pointer (some ⟨t.tb,0,none⟩)) (fun w' hw=>?_) hHeld ?_
 ·go_simp
 try simp only [Ag,Act.put]
 refine tkV 6 (.pointer (some ⟨t.tb,0,none⟩)) (fun w' hw=>?_) hHeld ?_
 ·go_simp
 try simp only [Ag,Act.put]
 refine tkV 7 (.slice (some ⟨t.xb,0,none⟩) t.m t.cx) (fun w' hw=>?_) hHeld ?_
 ·go_simp
 try simp only [Ag,Act.put]
 refine tkV 8 (.int .i64 t.m) (fun w' hw=>?_) hHeld ?_
 ·go_simp
 try simp only [Ag,Act.put]
 refine tkV 9 (.pointer (some ⟨t.tb,0,none⟩)) (fun w' hw=>?_) hHeld ?_
 ·go_simp
 try simp only [Ag,Act.put]
 refine tkV 10 (.pointer (some ⟨t.tb,0,none⟩)) (fun w' hw=>?_) hHeld ?_
 ·go_simp
 try simp only [Ag,Act.put]
 refine tkV 11 (.pointer (some ⟨t.tb,0,none⟩)) (fun w' hw=>?_) hHeld ?_
 ·go_simp
 try simp only [Ag,Act.put]
 refine tkV 12 (.slice (some ⟨t.xb,0,none⟩) t.m t.cx) (fun w' hw=>?_) hHeld ?_
 ·go_simp
 try simp only [Ag,Act.put]
 refine tkV 13 (.int .i64 t.m) (fun w' hw=>?_) hHeld ?_
 ·go_simp
 try simp only [Ag,Act.put]
 refine tkV 14 (.slice (some ⟨t.xb,0,none⟩) t.m t.m) (fun w' hw=>?_) hHeld ?_
 ·go_simp
 try simp only [Ag,Act.put]
 refine tkV 15 (.pointer (some ⟨t.tb,0,none⟩)) (fun w' hw=>?_) hHeld ?_
 ·go_simp
 try simp only [Ag,Act.put]
 refine tkV 16 (.pointer (some ⟨t.tb,0,none⟩)) (fun w' hw=>?_) hHeld ?_
 ·go_simp
 try simp only [Ag,Act.put]
 refine tkV 17 (.pointer (some ⟨t.tb,1,none⟩)) (fun w' hw=>?_) hHeld ?_
 ·go_simp
 try simp only [Ag,Act.put]
 refine tkV 18 (.slice (some ⟨t.R t.m,0,none⟩) t.n t.n) (fun w' hw=>?_) hHeld ?_
 ·go_simp
 try simp only [Ag,Act.put]
 refine tkV 22 (.int .i64 0) (fun w' hw=>?_) hHeld ?_
 ·go_simp
 try simp only [Ag,Act.put]
 refine wpAnyH_ready (rs:=[19]) Ab Af ?_
 refine AllReadyH.cons rfl (fun K hK=>?_) AllReadyH.nil
 go_simp
 refine hK.out _ _ (hC.out _ hba) (fun hHeld=>?_)
 clear hK K
 try simp only [Ag,Act.put]
 refine wpAnyH_ready (rs:=[20]) Ab Af ?_
 refine AllReadyH.cons rfl (fun K hK=>?_) AllReadyH.nil
 simp only [A7,A4,A3]
 rw [AU (by rfl)]
 refine O6 62 Tryz.underlying62 _ _ rfl (some ⟨t.xb,0,none⟩) t.m ((List.range t.m).map fun i=>.slice (some ⟨t.R i,0,none⟩) t.n t.n) rfl (fun h=>by cases h) Af (fun b e j u hj=>?_) W2.heap.size (.slice (some ⟨t.R t.m,0,none⟩) t.n t.n) rfl ((Ds.new W2.drew _ _).cell 0) rfl Ad ?_
 ·cases e
  rw [Es,BN];rw [AQ] at hj;by_cases hjm:j<t.m
  ·rw [AR hjm] at hj
   cases hj;exact (H2.out.below hba).xs j hjm
  ·rw [BX (by simp;omega)] at hj
   cases hj
 intro ab cap W3 hcel hge hlt hcap hmax hb3
 have hb23:=hba.trans (hb3.mono hba.size)
 rw [show t.m+1=M from hM.out.symm]
 refine hK.out _ _ (hC.out _ hb23) (fun hHeld=>?_)
 clear hK K
 try simp only [Act.put,A0,A5,A6]
 refine tkV 21 (.int .i64 M) (fun w' hw=>?_) hHeld ?_
 ·go_simp
 try simp only [Ag,Act.put]
 refine wpAnyH_done Ab ?_ _
 clear hHeld
 have hcel':∀ i,i<M->W3.cell? ⟨ab,i,none⟩=some (.slice (some ⟨t.R i,0,none⟩) t.n t.n):=fun i hi=>by
  refine hcel i _ ?_;have hl:((List.range t.m).map fun i=>Value.slice (some ⟨t.R i,0,none⟩) t.n t.n).length=t.m:=by simp
  by_cases him:i<t.m
  ·rw [BV (by rw [hl];exact him),AQ,AR him];rfl
  ·obtain rfl:i=t.m:=by have:=hM.out;omega
   rw [BW (by rw [hl];exact Aa _),hl,Nat.sub_self];rfl
 have H3:=A8 (H2.out.below hb23)
 have kp3:=kp.below hb23
 have k13:=k1.below hb23
 have k23:=k2.below hb23
 have hB3:Below base w W3:=hB2.trans (hb23.mono (Bc hbs hB2.size))
 have nr:∀ b,w.heap.size<=b->b∉t.rows:=fun b hb hm=>by
  obtain ⟨i,hi,e⟩:=Tb.mem_rows.1 hm;have:=(H.out.grid.row i hi).lt;omega
 have gab:w.heap.size<=ab:=by
  have h1:w.heap.size<=W2.heap.size:=hB2.size;exact Bc (Bc h1 hba.size) hge
 have lpb:=kp3.lt
 have lB1:=k13.lt
 have lB2:=k23.lt
 clear hcel hge hcap hmax hb3 hb23 hba hbd hC kp k1 k2 H2 hB2
 replace hcel':=A8 hcel'
 replace nr:=A8 nr
 replace hex:=A8 hex
 replace hrr:=A8 hrr
 replace hd:=A8 hd
 go_wp2_with fail
 have h0:=H3.out.grid.congr (G:=fun a j=>if a<0/\a≠r then F' a j else F a j) (fun a ha j hj=>by rw [AP (fun h=>absurd h.1 (Nat.not_lt_zero _))])
 go_loopw [49] (fun s wr=>∃ i:Nat,s=.int .i64 i/\i<=M/\Dr t.rows W3 wr/\K3 wr t.R (t.m+1) t.n (fun a j=>if a<i/\a≠r then F' a j else F a j)) (fun s _=>M-(intOf s).toNat)
 case atStart=>exact ⟨0,rfl,Ad,Dr.refl _ _,h0⟩
 case round =>
  clear h0;obtain ⟨i,rfl,hi,hOn,hG⟩:=hrel;by_cases hiM:i<M
  ·have hiM':(i:Int)<M:=by omega
   have hi0:(0:Int)<=i:=by omega
   have him:i<t.m+1:=by have:=hM.out;omega
   have y0:wr.cell? ⟨ab,i,none⟩=some (.slice (some ⟨t.R i,0,none⟩) t.n t.n):=(Dw (hOn.block _ hlt (nr.out _ gab)) _).trans (hcel'.out i hiM);by_cases hir:i=r
   ·have hG2:=A8 (hG.congr (G:=fun a j=>if a<i+1/\a≠r then F' a j else F a j) (fun a ha j hj=>by
     by_cases e:a=r
     ·rw [AP (fun h=>h.2 e),AP (fun h=>h.2 e)]
     ·by_cases c:a<i
      ·rw [AU ⟨c,e⟩,AU ⟨Ad,e⟩]
      ·rw [AP (fun h=>c h.1),AP (fun h=>by have:=h.1;omega)]))
    subst hir
    clear hG
    go_wp2_with fail
    go_roundw
    case rel=>exact ⟨i+1,by go_num,Ad,hOn,hG2.out⟩
    case measure=>simp [intOf];omega
   ·have hbr:((i:Int)==(r:Int))=false:=by simp;omega
    obtain ⟨b0,b1,b2,b3,b4,b5,b6,b7,b8,b9,b10,b11⟩:=Eo ((hG.row i him).rd k hk);obtain ⟨fv,hfv⟩:∃ fv,fv=wd (F i k):=⟨_,rfl⟩;rw [show (if i<i/\i≠r then F' i k else F i k)=F i k from AP (fun h=>Nat.lt_irrefl _ h.1),<-hfv] at b0 b1 b2 b3 b4 b5 b6 b7 b8 b9 b10 b11;replace hfv:=A8 hfv;go_upto_region 7 with fail;clear b0 b1 b2 b3 b4 b5 b6 b7 b8 b9 b10 b11 y0;obtain ⟨W4,hW4⟩:∃ W4,W4=wr.alloc (.cells (wc fv) 66):=⟨_,rfl⟩;rw [<-hW4];have hb4:Below wr.heap.size wr W4:=by rw [hW4];exact (Below.refl _ _).alloc (Aa _) _
    have kf:Ds W4 wr.heap.size (wc fv) 66:=by rw [hW4];exact Ds.new _ _ _
    obtain ⟨fb,hfb⟩:∃ fb,fb=wr.heap.size:=⟨_,rfl⟩;rw [<-hfb] at kf |-;have lfb:=kf.lt;have gfb:w.heap.size<=fb:=by
     rw [hfb];exact Bc (Bc gab (Nat.le_of_lt hlt)) hOn.size
    have hG4:=(hG.below hb4).congr (G:=fun a b=>if a=i then (if b<0 then F' a b else F a b) else if a<i/\a≠r then F' a b else F a b) (fun a ha b hb=>by
     by_cases e:a=i
     ·subst e;rw [AU rfl,AP (fun h=>Nat.lt_irrefl _ h.1),AP (Nat.not_lt_zero _)]
     ·rw [AP e])
    have hOn4:Dr t.rows W3 W4:=hOn.below hb4;clear hG hOn hb4 hW4 hfb;go_wp2_with fail;go_loopw [63] (fun s wr2=>∃ j:Nat,s=.int .i64 j/\j<=t.n/\Dr t.rows W4 wr2/\K3 wr2 t.R (t.m+1) t.n (fun a b=>if a=i then (if b<j then F' a b else F a b) else if a<i/\a≠r then F' a b else F a b)) (fun s _=>t.n-(intOf s).toNat);case atStart=>exact ⟨0,rfl,Ad,Dr.refl _ _,hG4⟩
    case round =>
     clear hG4;obtain ⟨j,rfl,hj,hOn5,hG⟩:=hrel;by_cases hjn:j<t.n
     ·have hjn':(j:Int)<t.n:=by omega
      have hj0:(0:Int)<=j:=by omega
      obtain ⟨he1,he2⟩:=hex.out i him hir j hjn;have hOn6:Dr t.rows W3 wr:=hOn4.trans hOn5;have q1:wr.cell? ⟨t.tb,0,none⟩=some (.slice (some ⟨t.xb,0,none⟩) t.m t.cx):=by
       have e:=H3.out.c0;rw [Gq hm0] at e;exact (Dw (hOn6.block _ H3.out.lt (fun hm=>by obtain ⟨a,ha,e⟩:=Tb.mem_rows.1 hm;exact hd.out.rt a ha e)) _).trans e
      have q2:wr.cell? ⟨t.xb,r,none⟩=some (.slice (some ⟨t.R r,0,none⟩) t.n t.n) :=
       (Dw (hOn6.block _ (H3.out.lx hm0) (fun hm=>by obtain ⟨a,ha,e⟩:=Tb.mem_rows.1 hm;exact hd.out.rx a ha e)) _).trans (H3.out.xs r hr)
      have q3:wr.rangeAt (t.R i) (j*12) (wl (wd (F i j))):=by
       have:=(hG.row i him).rd j hjn;rwa [AU rfl,AP (Nat.lt_irrefl _)] at this
      have q4:wr.rangeAt (t.R r) (j*12) (wl (wd (F r j))):=by
       have:=(hG.row r Ad).rd j hjn;rwa [AP (fun e=>hir e.symm),AP (fun h=>h.2 rfl)] at this
      have q5:Ds wr pb (wc pv) 66:=(hOn6.block _ lpb (nr.out _ gp)).trans kp3;have q6:Ds wr B1 #[.int .i64 z] 3:=(hOn6.block _ lB1 (nr.out _ g1)).trans k13;have q7:Ds wr B2 (wc (wd (LnM.inv od 8))) 66:=(hOn6.block _ lB2 (nr.out _ g2)).trans k23;have q8:Ds wr fb (wc fv) 66:=(hOn5.block _ lfb (nr.out _ gfb)).trans kf;have q9:=(hG.row i him).wr j hjn;have q0:=(hG.row i him).lt;have T1:=FZ (F i j) (F r k);have T2:=FZ (F i k) (F r j);have MI:=FY (F i j*F r k) (F i k*F r j);rw [he1] at MI;rw [hdo.out] at MI;have DV:=fun W k1 k2=>Py z hz od hodd (F' i j) (by rw [<-hdo.out];exact he2) B1 B2 W k1 k2
      rw [<-hpv.out] at T1;rw [<-hfv.out] at T2;rw [<-Ej,<-Ej,<-Ej] at T1 T2 MI;have DV2:∀ W,Ds W B1 #[.int .i64 z] 3->Ds W B2 (wc (wd (LnM.inv od 8))) 66->Calls Tryz.prog 128 #[.agg (wl (wd (2 ^ z*od*F' i j))).toArray,.pointer (some ⟨B1,0,none⟩),.pointer (some ⟨B2,0,none⟩)] W (DR W (.agg (wl (wd (F' i j))).toArray)):=DV;clear DV;obtain ⟨ca,ea⟩:∃ c,c=wl (wd (F i j)):=⟨_,rfl⟩;obtain ⟨cp,ep⟩:∃ c,c=wl pv:=⟨_,rfl⟩;obtain ⟨cf,ef⟩:∃ c,c=wl fv:=⟨_,rfl⟩;obtain ⟨cr,er⟩:∃ c,c=wl (wd (F r j)):=⟨_,rfl⟩;obtain ⟨c1,e1⟩:∃ c,c=wl (wd (F i j*F r k)):=⟨_,rfl⟩;obtain ⟨c2,e2⟩:∃ c,c=wl (wd (F i k*F r j)):=⟨_,rfl⟩;obtain ⟨c3,e3⟩:∃ c,c=wl (wd (2 ^ z*od*F' i j)):=⟨_,rfl⟩;obtain ⟨c5,e5⟩:∃ c,c=wl (wd (F' i j)):=⟨_,rfl⟩;rw [<-ea,<-ep,<-e1] at T1;rw [<-ef,<-er,<-e2] at T2;rw [<-e1,<-e2,<-e3] at MI;rw [<-e3,<-e5] at DV2;rw [<-ea] at q3;rw [<-er] at q4;rw [<-Ej,<-ep] at q5;rw [<-Ej,<-ef] at q8;have la:ca.length=12:=by rw [ea];rfl
      have lp:cp.length=12:=by rw [ep];rfl
      have lf:cf.length=12:=by rw [ef];rfl
      have lr:cr.length=12:=by rw [er];rfl
      have l5:c5.length=12:=by rw [e5];rfl
      have o5:∀ v∈c5,v.oneCell'=true:=by rw [e5];exact JC _
      have ua:(Tryz.prog.info? 66).map (·.size)=some ca.length:=by rw [la];kernel_rfl
      have up:(Tryz.prog.info? 66).map (·.size)=some cp.length:=by rw [lp];kernel_rfl
      have uf:(Tryz.prog.info? 66).map (·.size)=some cf.length:=by rw [lf];kernel_rfl
      have ur:(Tryz.prog.info? 66).map (·.size)=some cr.length:=by rw [lr];kernel_rfl
      have u5:(Tryz.prog.info? 66).map (·.size)=some c5.length:=by rw [l5];kernel_rfl
      have hu:=Tryz.underlying66;have hC:=A8 (show ∀ W',Below wr.heap.size wr W'->(W'.rangeAt (t.R i) (j*12) ca/\W'.rangeAt pb 0 cp/\W'.rangeAt fb 0 cf/\W'.rangeAt (t.R r) (j*12) cr/\W'.cell? ⟨t.tb,0,none⟩=some (.slice (some ⟨t.xb,0,none⟩) t.m t.cx)/\W'.cell? ⟨t.xb,r,none⟩=some (.slice (some ⟨t.R r,0,none⟩) t.n t.n)) from fun W' hb=>by
       have hrl:=(hG.row r Ad).lt;refine ⟨fun a v hv=>(hb.cell (p:=⟨_,_,none⟩) q0).trans (q3 a v hv),?_,?_,fun a v hv=>(hb.cell (p:=⟨_,_,none⟩) hrl).trans (q4 a v hv),(hb.cell (p:=⟨_,_,none⟩) (A9 H3.out.lt hOn6.size)).trans q1,(hb.cell (p:=⟨_,_,none⟩) (A9 (H3.out.lx hm0) hOn6.size)).trans q2⟩
       ·exact (BL.range (w:=wr) (L:=[(pb,cp.toArray,66)]) ⟨hb,fun p hp=>by rcases Aw.1 hp with rfl | hp;exact q5.below hb;cases hp⟩ pb cp 66 Ah)
       ·exact (BL.range (w:=wr) (L:=[(fb,cf.toArray,66)]) ⟨hb,fun p hp=>by rcases Aw.1 hp with rfl | hp;exact q8.below hb;cases hp⟩ fb cf 66 Ah))
      have hQ:=A8 (And.intro q6 q7);have hth:=A8 (show ∀ W',Below wr.heap.size wr W'->W'.there (t.R i) (j*12) c5.length from fun W' hb=>by
       rw [l5];exact fun a ha=>by
        have e:=hb.block _ q0;rw [Dw e,EF e];exact q9 a ha)
      have hGo:=A8 hG;have hOo:=A8 hOn5;replace T1:=A8 T1;replace T2:=A8 T2;replace MI:=A8 MI;replace DV2:=A8 DV2;replace e5:=A8 e5;clear he1 he2 hOn6 q1 q2 q3 q4 q5 q6 q7 q8 q9 ea ep ef er e1 e2 e3 hG hOn5;go_upto_region 10 with fail;have hb:=Dq wr 1;refine Dv.start (S:=fun w'=>w'.rangeAt (t.R i) (j*12) ca/\w'.rangeAt pb 0 cp/\w'.rangeAt fb 0 cf/\w'.rangeAt (t.R r) (j*12) cr/\w'.cell? ⟨t.tb,0,none⟩=some (.slice (some ⟨t.xb,0,none⟩) t.m t.cx)/\w'.cell? ⟨t.xb,r,none⟩=some (.slice (some ⟨t.R r,0,none⟩) t.n t.n)) (st:=24) Ab ?_;refine Dv.take (i:=0) (v:=.slice (some ⟨t.R i,0,none⟩) t.n t.n) rfl rfl Ab Ab Ab Ab Ae (fun _ _ _ h=>h) (hC.out _ hb) (Or.inl ⟨by rfl,fun w' hw=>?_⟩) ?_
      ·go_simp
      try simp only [A7,A3,Act.put,A0,A5,A6]
      refine Dv.take (i:=1) (v:=.int .i64 j) rfl rfl Ab Ab Ab Ab Ae (fun _ _ _ h=>h) (hC.out _ hb) (Or.inl ⟨by rfl,fun w' hw=>?_⟩) ?_
      ·go_simp
      try simp only [Ag,Act.put]
      refine Dv.take (i:=2) (v:=.func (.func 128) #[] #[.pointer (some ⟨B1,0,none⟩),.pointer (some ⟨B2,0,none⟩)]) rfl rfl Ab Ab Ab Ab Ae (fun _ _ _ h=>h) (hC.out _ hb) (Or.inl ⟨by rfl,fun w' hw=>?_⟩) ?_
      ·go_simp
      try simp only [Ag,Act.put]
      refine Dv.take (i:=3) (v:=.slice (some ⟨t.R i,0,none⟩) t.n t.n) rfl rfl Ab Ab Ab Ab Ae (fun _ _ _ h=>h) (hC.out _ hb) (Or.inl ⟨by rfl,fun w' hw=>?_⟩) ?_
      ·go_simp
      try simp only [Ag,Act.put]
      refine Dv.take (i:=4) (v:=.int .i64 j) rfl rfl Ab Ab Ab Ab Ae (fun _ _ _ h=>h) (hC.out _ hb) (Or.inl ⟨by rfl,fun w' hw=>?_⟩) ?_
      ·go_simp
      try simp only [Ag,Act.put]
      refine Dv.take (i:=5) (v:=.pointer (some ⟨t.R i,j*12,none⟩)) rfl rfl Ab Ab Ab Ab Ae (fun _ _ _ h=>h) (hC.out _ hb) (Or.inl ⟨by rfl,fun w' hw=>?_⟩) ?_
      ·go_simp
      try simp only [Ag,Act.put]
      refine Dv.take (i:=6) (v:=.agg (ca).toArray) rfl rfl Ab Ab Ab Ab Ae (fun _ _ _ h=>h) (hC.out _ hb) (yieldsIf_load_mid (by rfl) _ _ rfl _ _ rfl _ _ (fun w' hw=>hw.1) hu rfl ua) ?_;try simp only [Ag,Act.put]
      refine Dv.take (i:=7) (v:=.agg (cp).toArray) rfl rfl Ab Ab Ab Ab Ae (fun _ _ _ h=>h) (hC.out _ hb) (yieldsIf_load_mid (by rfl) _ _ rfl _ _ rfl _ _ (fun w' hw=>hw.2.1) hu rfl up) ?_;try simp only [Ag,Act.put]
      refine Dv.take (i:=9) (v:=.agg (cf).toArray) rfl rfl Ab Ab Ab Ab Ae (fun _ _ _ h=>h) (hC.out _ hb) (yieldsIf_load_mid (by rfl) _ _ rfl _ _ rfl _ _ (fun w' hw=>hw.2.2.1) hu rfl uf) ?_;try simp only [Ag,Act.put]
      refine Dv.take (i:=10) (v:=.pointer (some ⟨t.tb,0,none⟩)) rfl rfl Ab Ab Ab Ab Ae (fun _ _ _ h=>h) (hC.out _ hb) (Or.inl ⟨by rfl,fun w' hw=>?_⟩) ?_
      ·go_simp
      try simp only [Ag,Act.put]
      refine Dv.take (i:=11) (v:=.pointer (some ⟨t.tb,0,none⟩)) rfl rfl Ab Ab Ab Ab Ae (fun _ _ _ h=>h) (hC.out _ hb) (Or.inl ⟨by rfl,fun w' hw=>?_⟩) ?_
      ·go_simp
      try simp only [Ag,Act.put]
      refine Dv.take (i:=12) (v:=.pointer (some ⟨t.tb,0,none⟩)) rfl rfl Ab Ab Ab Ab Ae (fun _ _ _ h=>h) (hC.out _ hb) (Or.inl ⟨by rfl,fun w' hw=>?_⟩) ?_
      ·go_simp
      try simp only [Ag,Act.put]
      refine Dv.take (i:=13) (v:=.slice (some ⟨t.xb,0,none⟩) t.m t.cx) rfl rfl Ab Ab Ab Ab Ae (fun _ _ _ h=>h) (hC.out _ hb) (Or.inl ⟨by rfl,fun w' hw=>?_⟩) ?_
      ·go_simp
      try simp only [Ag,Act.put]
      refine Dv.take (i:=14) (v:=.int .i64 r) rfl rfl Ab Ab Ab Ab Ae (fun _ _ _ h=>h) (hC.out _ hb) (Or.inl ⟨by rfl,fun w' hw=>?_⟩) ?_
      ·go_simp
      try simp only [Ag,Act.put]
      refine Dv.take (i:=15) (v:=.pointer (some ⟨t.xb,r,none⟩)) rfl rfl Ab Ab Ab Ab Ae (fun _ _ _ h=>h) (hC.out _ hb) (Or.inl ⟨by rfl,fun w' hw=>?_⟩) ?_
      ·go_simp
      try simp only [Ag,Act.put]
      refine Dv.take (i:=16) (v:=.slice (some ⟨t.R r,0,none⟩) t.n t.n) rfl rfl Ab Ab Ab Ab Ae (fun _ _ _ h=>h) (hC.out _ hb) (Or.inl ⟨by rfl,fun w' hw=>?_⟩) ?_
      ·go_simp
      try simp only [Ag,Act.put]
      refine Dv.take (i:=17) (v:=.int .i64 j) rfl rfl Ab Ab Ab Ab Ae (fun _ _ _ h=>h) (hC.out _ hb) (Or.inl ⟨by rfl,fun w' hw=>?_⟩) ?_
      ·go_simp
      try simp only [Ag,Act.put]
      refine Dv.take (i:=18) (v:=.pointer (some ⟨t.R r,j*12,none⟩)) rfl rfl Ab Ab Ab Ab Ae (fun _ _ _ h=>h) (hC.out _ hb) (Or.inl ⟨by rfl,fun w' hw=>?_⟩) ?_
      ·go_simp
      try simp only [Ag,Act.put]
      refine Dv.take (i:=19) (v:=.agg (cr).toArray) rfl rfl Ab Ab Ab Ab Ae (fun _ _ _ h=>h) (hC.out _ hb) (yieldsIf_load_mid (by rfl) _ _ rfl _ _ rfl _ _ (fun w' hw=>hw.2.2.2.1) hu rfl ur) ?_;try simp only [Ag,Act.put]
      refine Dv.one (i:=8) Ab rfl (fun K hK=>?_);go_simp;go_at_call 103;with_reducible refine Calls.mono (T1.out _) ?_
      rintro e wx1 ⟨rfl,hbx⟩;replace hb:=hb.trans (hbx.mono hb.size);clear hbx;refine hK.out _ _ (fun _=>hC.out _ hb) ?_;clear hK K;try simp only [Ag,Act.put]
      refine Dv.one (i:=20) Ab rfl (fun K hK=>?_);go_simp;go_at_call 103;with_reducible refine Calls.mono (T2.out _) ?_
      rintro e wx2 ⟨rfl,hbx⟩;replace hb:=hb.trans (hbx.mono hb.size);clear hbx;refine hK.out _ _ (fun _=>hC.out _ hb) ?_;clear hK K;try simp only [Ag,Act.put]
      refine Dv.one (i:=21) Ab rfl (fun K hK=>?_);go_simp;go_at_call 32;with_reducible refine Calls.mono (MI.out _) ?_
      rintro e wx3 ⟨rfl,hbx⟩;replace hb:=hb.trans (hbx.mono hb.size);clear hbx;refine hK.out _ _ (fun _=>hC.out _ hb) ?_;clear hK K;try simp only [Ag,Act.put]
      refine Dv.one (i:=22) Ab rfl (fun K hK=>?_);go_simp;go_at_call 128;with_reducible refine Calls.mono (DV2.out _ (hQ.out.1.below hb) (hQ.out.2.below hb)) ?_
      rintro e wx4 ⟨rfl,hbx⟩;replace hb:=hb.trans (hbx.mono hb.size);clear hbx;refine hK.out _ _ (fun _=>hC.out _ hb) ?_;clear hK K;try simp only [Ag,Act.put]
      refine Dv.take (i:=23) (v:=.pointer (some ⟨t.R i,j*12,none⟩)) rfl rfl Ab Ab Ab Ab Ae (fun _ _ _ h=>h) (hC.out _ hb) (Or.inl ⟨by rfl,fun w' hw=>?_⟩) ?_
      ·go_simp
      try simp only [Ag,Act.put]
      refine Dv.one (i:=24) Ab rfl (fun K hK=>?_);rw [AU (by rfl)];refine wp_store_mid _ _ _ rfl _ _ (List.toArray _) rfl rfl (by rw [BH];exact hth.out _ hb) (by rw [BH];exact u5) (all_oneCell_toArray o5) ?_;refine hK.out _ _ (fun h=>absurd rfl h) ?_;clear hK K;try simp only [A7,A4,A3,Act.put]
      try simp only [Cm]
      refine Dv.done Ab ?_ _;have hGn:=A8 (((hGo.out.below hb).set hd.out.inj him hjn (F' i j)).congr (G:=fun a b=>if a=i then (if b<j+1 then F' a b else F a b) else if a<i/\a≠r then F' a b else F a b) (fun a ha b hb=>by
       by_cases e:a=i
       ·subst e
        rw [LnM.upd_same];unfold DL;dsimp only;by_cases e2:b=j
        ·subst e2;rw [AU rfl,AU rfl,AU Ad]
        ·by_cases e3:b<j
         ·rw [AP e2,AU rfl,AU rfl,AU e3,AU Ad]
         ·rw [AP e2,AU rfl,AU rfl,AP e3,AP Ad]
       ·rw [LnM.upd_ne _ _ e,AP e,AP e]))
      rw [<-e5.out] at hGn;have hOnn:=A8 ((hOo.out.below hb).row him (j*12) c5);clear hGo hOo;go_wp2_with fail;go_roundw;case rel=>exact ⟨j+1,by go_num,Ad,hOnn.out,hGn.out⟩
      case measure=>simp [intOf];omega
     ·have hjn':¬ (j:Int)<t.n:=by omega
      have hGn:=A8 (hG.congr (G:=fun a b=>if a<i+1/\a≠r then F' a b else F a b) (fun a ha b hb=>by
       by_cases e:a=i
       ·subst e
        rw [AU rfl,AU Ad,AU ⟨Ad,hir⟩]
       ·rw [AP e]
        by_cases e2:a=r
        ·rw [AP (fun h=>h.2 e2),AP (fun h=>h.2 e2)]
        ·by_cases e3:a<i
         ·rw [AU ⟨e3,e2⟩,AU ⟨Ad,e2⟩]
         ·rw [AP (fun h=>e3 h.1),AP (fun h=>by have:=h.1;omega)]))
      have hOnn:=A8 (hOn4.trans hOn5);clear hG hOn4 hOn5 hjn;go_wp2_with fail;go_roundw;case rel=>exact ⟨i+1,by go_num,Ad,hOnn.out,hGn.out⟩
      case measure=>simp [intOf];omega
  ·obtain rfl:i=M:=by omega
   have hiM':¬ (i:Int)<i:=by omega
   have T4:=A8 (H3.out.only hd.out hOn (hG.congr (G:=F') (fun a ha b hb=>by
    by_cases e:a=r
    ·subst e;rw [AP (fun h=>h.2 rfl),hrr.out b hb]
    ·rw [AU ⟨by have:=hM.out;omega,e⟩])))
   have kp4:Ds wr pb (wc pv) 66:=(hOn.block _ lpb (nr.out _ gp)).trans kp3;have hB4:Below base w wr:=hB3.trans (hOn.toBelow (Bc hbs (Bc gab (Nat.le_of_lt hlt))) (Tb.rows_ge hd.out));obtain ⟨a0,a1,a2,a3,a4,a5,a6,a7,a8,a9,a10,a11⟩:=DN kp4;obtain ⟨b0,b1,b2,b3,b4,b5,b6,b7,b8,b9,b10,b11⟩:=Eo T4.out.den;have wd4:=T4.out.wden;have f0:wr.frozen? ⟨t.tb,4,none⟩=false:=(wd4 0 Ae).2;have f1:wr.frozen? ⟨t.tb,5,none⟩=false:=(wd4 1 Ae).2;have f2:wr.frozen? ⟨t.tb,6,none⟩=false:=(wd4 2 Ae).2;have f3:wr.frozen? ⟨t.tb,7,none⟩=false:=(wd4 3 Ae).2;have f4:wr.frozen? ⟨t.tb,8,none⟩=false:=(wd4 4 Ae).2;have f5:wr.frozen? ⟨t.tb,9,none⟩=false:=(wd4 5 Ae).2;have f6:wr.frozen? ⟨t.tb,10,none⟩=false:=(wd4 6 Ae).2;have f7:wr.frozen? ⟨t.tb,11,none⟩=false:=(wd4 7 Ae).2;have f8:wr.frozen? ⟨t.tb,12,none⟩=false:=(wd4 8 Ae).2;have f9:wr.frozen? ⟨t.tb,13,none⟩=false:=(wd4 9 Ae).2;have f10:wr.frozen? ⟨t.tb,14,none⟩=false:=(wd4 10 Ae).2;have f11:wr.frozen? ⟨t.tb,15,none⟩=false:=(wd4 11 Ae).2;simp only [Nat.reduceAdd] at b0 b1 b2 b3 b4 b5 b6 b7 b8 b9 b10 b11;clear hG hOn kp4 wd4 hex hrr hiM hi;have T5:=T4.out.setDen hd.out (F r k);rw [<-hpv.out] at T5;have hB5:Below base w (wr.setCells t.tb 4 (wl pv)):=hB4.trans ((Dx (wl pv) 4 wr).toBelow (Bc hbs hB4.size) (by intro b hb;rw [B3.1 hb];exact hd.out.get));go_upto_region 14 with fail;obtain ⟨W5,hW5⟩:∃ W5,W5=wr.setCells t.tb 4 (wl pv):=⟨_,rfl⟩;rw [<-hW5] at T5 hB5;rw [show ((((((((((((wr.setCell ⟨t.tb,4,none⟩ (.int .u64 (pv 0))).setCell ⟨t.tb,5,none⟩ (.int .u64 (pv 1))).setCell ⟨t.tb,6,none⟩ (.int .u64 (pv 2))).setCell ⟨t.tb,7,none⟩ (.int .u64 (pv 3))).setCell ⟨t.tb,8,none⟩ (.int .u64 (pv 4))).setCell ⟨t.tb,9,none⟩ (.int .u64 (pv 5))).setCell ⟨t.tb,10,none⟩ (.int .u64 (pv 6))).setCell ⟨t.tb,11,none⟩ (.int .u64 (pv 7))).setCell ⟨t.tb,12,none⟩ (.int .u64 (pv 8))).setCell ⟨t.tb,13,none⟩ (.int .u64 (pv 9))).setCell ⟨t.tb,14,none⟩ (.int .u64 (pv 10))).setCell ⟨t.tb,15,none⟩ (.int .u64 (pv 11)))=W5 from hW5.symm];clear hW5 a0 b0 f0 a1 b1 f1 a2 b2 f2 a3 b3 f3 a4 b4 f4 a5 b5 f5 a6 b6 f6 a7 b7 f7 a8 b8 f8 a9 b9 f9 a10 b10 f10 a11 b11 f11;have c2:=T5.c2;rw [Gq hm0] at c2;obtain ⟨d1,d2⟩:=T5.bas r hr;have T6:=A8 (T5.setBas hd.out hr k);have hB6:Below base w (W5.setCell ⟨t.bb,r,none⟩ (.int .i64 k)):=hB5.setCell (p:=⟨t.bb,r,none⟩) hd.out.geb _;replace hB6:=A8 hB6;go_wp2;go_end0;exact ⟨rfl,T6.out,hB6.out⟩
end
end Go.Proofs.YtioamkekjjkigaaGreatDoor
