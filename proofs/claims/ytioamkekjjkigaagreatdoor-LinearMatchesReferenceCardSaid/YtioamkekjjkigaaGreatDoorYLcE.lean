/- LcE, LcF, SvD, SvE, LcG, LcH, LcI, LcJ -/
import Derived.Test.YtioamkekjjkigaaGreatDoorYLcR
import Derived.Deep.RegionHeld3
set_option maxHeartbeats 8000000
set_option maxRecDepth 100000
namespace Go.Proofs.YtioamkekjjkigaaGreatDoor
section
open Go.RowKit
open LnM (sm)
attribute [local go_sem] Oper.semAt_some
def Fu (cols:Int) (rows:List (List Int×Int)) (nums:List ByteArray) (den:ByteArray):Bool :=
 Ea cols rows&&DX nums den&&((nums.length:Int)==cols)&&rows.all (fun r=>decide (DF nums (gi r.1) nums.length=zS den*r.2))
theorem I_inj6 {a b:Int} (h:I a=I b):a=b:=by rw [<-Ee a,h,Ee]
theorem I_eq (a b:Int):((I a).toList==(I b).toList)=decide (a=b):=by
 by_cases h:a=b
 ·subst h;simp
 ·rw [Al h,Am]
  intro e;refine h (I_inj6 ?_);rw [ByteArray.toList_eq,ByteArray.toList_eq] at e;exact Ao (Array.toList_inj.1 e)
theorem Ep {l:List ByteArray} {den:ByteArray} (h:DX l den=true):l.length<=64/\(∀ i,i<l.length->DK (DH l i)=true/\Bd 100 (zS (DH l i))/\0<=zS (DH l i))/\DK den=true/\Bd 100 (zS den)/\0<zS den:=by
 unfold DX at h;simp only [Ap,Aq,Ar] at h;obtain ⟨⟨h1,h2⟩,h3,h4⟩:=h;unfold numB at h3;simp only [Ap,Aq] at h3;refine ⟨h1,fun i hi=>?_,h3.1,h3.2,h4⟩;rw [As] at h2;have:=h2 _ (Ja hi);unfold GN numB at this;simp only [Au,Ar,Bool.and_eq_false_imp,Aq,decide_eq_false_iff_not,not_or] at this;obtain ⟨t1,t2⟩:=this;refine ⟨?_,?_,Ad⟩
 ·refine Av fun hc=>t1 fun hk=>absurd hk hc
 ·exact Av fun hc=>t1 fun _=>hc
theorem PP (coef:List Int) (cv:Value) (val:Int) (Be:Nat) (w:World) (h:IE w cv coef) (k:Ds w Be #[cv,.int .i64 val] 57) (i:Nat) (hi:i<coef.length) :
  Calls Tryz.prog 47 #[.int .i64 i,.pointer (some ⟨Be,0,none⟩)] w (DR w (.int .i64 (gi coef i))):=by
 rcases h with ⟨⟨_,rfl⟩,rfl⟩ | ⟨b,off,cap,rfl,h1,h2,h3,h4⟩
 ·simp at hi
 ·have x0:=h4 i hi
  have y0:w.cell? ⟨Be,0,none⟩=some (.slice (some ⟨b,off,none⟩) coef.length cap):=k.cell 0;have hi':(i:Int)<coef.length:=by omega
  have hi0:(0:Int)<=i:=by omega
  generalize gi coef i=z at *
  generalize coef.length=n at *
  clear h4 k;go_enter Tryz.func47,Tryz.ntmps47;go_wp2;go_ret;exact ⟨rfl,Below.refl _ _⟩
theorem Ra (nums:List ByteArray) (den:ByteArray) (nv:Value) (coef:List Int) (cv:Value) (val:Int) (Bv:Nat) (w:World) (hE:Fp w) (hN:DS w nv nums) (h:IE w cv coef) (k:Ds w Bv #[nv,.string den] 30)
  (hlen:coef.length=nums.length) (hn:nums.length<=64) (hok:∀ i,i<nums.length->DK (DH nums i)=true/\Bd 100 (zS (DH nums i))) (hc:∀ x∈coef,-30000<=x/\x<=30000) (hd:DK den=true/\Bd 100 (zS den)) (hv:-1000000000<=val/\val<=1000000000) :
  Calls Tryz.prog 43 #[.agg #[cv,.int .i64 val],.pointer (some ⟨Bv,0,none⟩)] w (DR w (.bool (!decide (DF nums (gi coef) nums.length=zS den*val)))):=by
 obtain ⟨V,hV,hS,z1⟩:=(show BL w [(Bv,#[nv,.string den],30)] w from ⟨Below.refl _ _,fun p hp=>by rcases Aw.1 hp with rfl | hp;exact k;cases hp⟩).add' #[cv,.int .i64 val] 57
 have hcb:=PN (B:=30000) Ae hc
 have SU:=A8 (fun W (hW:BL w [(w.heap.size,#[cv,.int .i64 val],57),(Bv,#[nv,.string den],30)] W)=>M8 nv nums 47 #[.pointer (some ⟨w.heap.size,0,none⟩)] (gi coef) W (hW.env hE) (hN.below hW.below) Ad (fun i hi=>⟨(hok i hi).1,(hok i hi).2,bd11 (by have:=hcb i;omega)⟩) (Go.Proofs.enters_of Tryz.func47 Ab rfl)
  (fun W' i hi hb=>PP coef cv val w.heap.size W' ((h.below hW.below).below hb) ((hW.blks _ Ah).below hb) i Ad))
 have hvf:Dy val:=by unfold Dy;omega
 have hpr:Do (zS den*val):=(hd.2.mul (bd11 (x:=val) Ad)).small Ae
 have FI:=A8 (fun W (hW:Fp W)=>Oc hvf W hW)
 have MU:=A8 (fun W (hW:Fp W)=>mul_I hd.1 ((bd11 (x:=val) Ad).small Ae) hpr W hW)
 have hfe:=I_eq (DF nums (gi coef) nums.length) (zS den*val)
 generalize decide (DF nums (gi coef) nums.length=zS den*val)=bb at *
 generalize I (DF nums (gi coef) nums.length)=sx at *
 generalize I (zS den*val)=px at *
 generalize I val=vx at *
 obtain ⟨a,cap,rfl⟩:=hN.shape
 obtain ⟨a2,cap2,rfl⟩:=h.shape
 generalize nums.length=n at *
 generalize coef.length=m at *
 replace hE:=A8 hE
 clear hlen hn hok hc hd hv hcb hvf hpr k hN h z1
 go_enter Tryz.func43,Tryz.ntmps43
 go_upto_region 1 with fail
 rw [<-hV]
 clear hV
 have hC:=A8 (show ∀ w',BL w [(w.heap.size,#[.slice a2 m cap2,.int .i64 val],57),(Bv,#[.slice a n cap,.string den],30)] w'->(w'.cell? ⟨w.heap.size,0,none⟩=some (.slice a2 m cap2)/\w'.cell? ⟨w.heap.size,1,none⟩=some (.int .i64 val)/\w'.cell? ⟨Bv,0,none⟩=some (.slice a n cap)/\w'.cell? ⟨Bv,1,none⟩=some (.string den)) from fun W' h=>⟨h.cell _ _ _ Ah 0,h.cell _ _ _ Ah 1,h.cell _ _ _ Ai 0,h.cell _ _ _ Ai 1⟩)
 obtain ⟨x0,x1,x2,x3⟩:=hC.out _ hS
 replace hS:=hS.drew
 go_region_held3 (fun w'=>w'.cell? ⟨w.heap.size,0,none⟩=some (.slice a2 m cap2)/\w'.cell? ⟨w.heap.size,1,none⟩=some (.int .i64 val)/\w'.cell? ⟨Bv,0,none⟩=some (.slice a n cap)/\w'.cell? ⟨Bv,1,none⟩=some (.string den))
  (first | with_reducible exact hC.out _ hS | go_keep)
  (first | (go_at_call 45;(with_reducible refine Calls.mono (FI.out _ (hS.env hE.out)) ?_);rintro e w' ⟨rfl,hb⟩;replace hS:=hS.call hb;clear hb) | (go_at_call 44;(with_reducible refine Calls.mono (MU.out _ (hS.env hE.out)) ?_);rintro e w' ⟨rfl,hb⟩;replace hS:=hS.call hb;clear hb))
 all_goals (clear x0 x1 x2 x3)
 obtain ⟨x0,x1,x2,x3⟩:=hC.out _ hS
 go_wp2_with fail
 refine Calls.mono (SU.out _ hS) ?_
 rintro e w4 ⟨rfl,hb⟩
 replace hS:=hS.call hb
 go_wp2
 go_ret
 exact ⟨Dm Af,hS.below⟩
theorem KC (cols:Int) (rv nv:Value) (rows:List (List Int×Int)) (nums:List ByteArray) (den:ByteArray) (w:World) (hE:Fp w) (hR:EX w rv rows) (hN:DS w nv nums) :
  Calls Tryz.prog 14 #[.agg #[.int .i64 cols,rv],.agg #[nv,.string den]] w (DR w (.bool (Fu cols rows nums den))):=by
 obtain ⟨ar,capr,rfl⟩:=hR.shape
 obtain ⟨an,capn,rfl⟩:=hN.shape
 have HR:=A8 hR
 have HN:=A8 hN
 have VA:=A8 (fun W (hW:EX W (.slice ar rows.length capr) rows)=>G5 cols _ rows W hW)
 have FO:=A8 (fun W (hW:DS W (.slice an nums.length capn) nums)=>Fa _ nums den W hW)
 unfold Fu
 cases hv:Ea cols rows
 ·rw [hv] at VA
  clear hv hR hN;generalize rows.length=nr at *
  generalize nums.length=nn at *
  obtain ⟨V1,e1,S1,z1⟩:=(BL.start w).add' #[.int .i64 cols,.slice ar nr capr] 27;obtain ⟨V2,e2,hS,z2⟩:=S1.add' #[.slice an nn capn,.string den] 30;rw [z1] at hS;have hV:V2=(w.alloc (.cells #[.int .i64 cols,.slice ar nr capr] 27)).alloc (.cells #[.slice an nn capn,.string den] 30):=by rw [e2,e1]
  clear e1 e2 S1 z1 z2;obtain ⟨x0,x1⟩:=hS.c2 w.heap.size _ _ _ Ai;obtain ⟨y0,y1⟩:=hS.c2 (w.heap.size+1) _ _ _ Ah;go_enter Tryz.func14,Tryz.ntmps14;go_upto_region 1 with fail;rw [<-hV];clear hV;go_wp2_with fail;refine Calls.mono (VA.out _ (HR.out.below hS.below)) ?_;rintro e w1 ⟨rfl,hb⟩;replace hS:=hS.call hb;clear x0 x1 y0 y1 hb;obtain ⟨x0,x1⟩:=hS.c2 w.heap.size _ _ _ Ai;obtain ⟨y0,y1⟩:=hS.c2 (w.heap.size+1) _ _ _ Ah;go_wp2;go_ret;exact ⟨Dm Af,hS.below⟩
 cases hf:DX nums den
 ·rw [hv] at VA
  rw [hf] at FO;clear hv hf hR hN;generalize rows.length=nr at *
  generalize nums.length=nn at *
  obtain ⟨V1,e1,S1,z1⟩:=(BL.start w).add' #[.int .i64 cols,.slice ar nr capr] 27;obtain ⟨V2,e2,hS,z2⟩:=S1.add' #[.slice an nn capn,.string den] 30;rw [z1] at hS;have hV:V2=(w.alloc (.cells #[.int .i64 cols,.slice ar nr capr] 27)).alloc (.cells #[.slice an nn capn,.string den] 30):=by rw [e2,e1]
  clear e1 e2 S1 z1 z2;obtain ⟨x0,x1⟩:=hS.c2 w.heap.size _ _ _ Ai;obtain ⟨y0,y1⟩:=hS.c2 (w.heap.size+1) _ _ _ Ah;go_enter Tryz.func14,Tryz.ntmps14;go_upto_region 1 with fail;rw [<-hV];clear hV;go_wp2_with fail;refine Calls.mono (VA.out _ (HR.out.below hS.below)) ?_;rintro e w1 ⟨rfl,hb⟩;replace hS:=hS.call hb;clear x0 x1 y0 y1 hb;obtain ⟨x0,x1⟩:=hS.c2 w.heap.size _ _ _ Ai;obtain ⟨y0,y1⟩:=hS.c2 (w.heap.size+1) _ _ _ Ah;go_wp2_with fail;refine Calls.mono (FO.out _ (HN.out.below hS.below)) ?_;rintro e w2 ⟨rfl,hb⟩;replace hS:=hS.call hb;clear x0 x1 y0 y1 hb;obtain ⟨x0,x1⟩:=hS.c2 w.heap.size _ _ _ Ai;obtain ⟨y0,y1⟩:=hS.c2 (w.heap.size+1) _ _ _ Ah;go_wp2;go_ret;exact ⟨Dm Af,hS.below⟩
 by_cases hl:(nums.length:Int)=cols
 ·have hl1:((nums.length:Int)==cols)=true:=by simp [hl]
  have hl2:((nums.length:Int) != cols)=false:=by simp [hl]
  obtain ⟨p1,p2,p3,p4⟩:=EH hv;obtain ⟨q1,q2,q3,q4,q5⟩:=Ep hf;have CE:=A8 (fun W (hW:BL w [(w.heap.size+1,#[.slice an nums.length capn,.string den],30),(w.heap.size,#[.int .i64 cols,.slice ar rows.length capr],27)] W)=>Jn (.slice ar rows.length capr) rows 43 #[.pointer (some ⟨w.heap.size+1,0,none⟩)] (fun r=>!decide (DF nums (gi r.1) nums.length=zS den*r.2)) W (hR.below hW.below) (Go.Proofs.enters_of Tryz.func43 Ab rfl)
   (fun W' x v hx hb hv'=>Ra nums den (.slice an nums.length capn) x.1 v x.2 (w.heap.size+1) W' ((hW.call hb).env hE) ((hN.below hW.below).below hb) hv' ((hW.blks _ Ah).below hb) (by have:=(p4 x hx).1;omega) q1 (fun i hi=>⟨(q2 i hi).1,(q2 i hi).2.1⟩) (p4 x hx).2.1 ⟨q3,q4⟩ (p4 x hx).2.2))
  rw [hv] at VA;rw [hf] at FO;rw [hl1];have hall:(!rows.any fun r=>!decide (DF nums (gi r.1) nums.length=zS den*r.2))=rows.all (fun r=>decide (DF nums (gi r.1) nums.length=zS den*r.2)):=by
   rw [List.not_any_eq_all_not];simp
  rw [<-hall];clear hall;generalize (rows.any fun r=>!decide (DF nums (gi r.1) nums.length=zS den*r.2))=bb at *
  clear hv hf hR hN p4 q2 hl;generalize rows.length=nr at *
  generalize nums.length=nn at *
  obtain ⟨V1,e1,S1,z1⟩:=(BL.start w).add' #[.int .i64 cols,.slice ar nr capr] 27;obtain ⟨V2,e2,hS,z2⟩:=S1.add' #[.slice an nn capn,.string den] 30;rw [z1] at hS;have hV:V2=(w.alloc (.cells #[.int .i64 cols,.slice ar nr capr] 27)).alloc (.cells #[.slice an nn capn,.string den] 30):=by rw [e2,e1]
  clear e1 e2 S1 z1 z2;obtain ⟨x0,x1⟩:=hS.c2 w.heap.size _ _ _ Ai;obtain ⟨y0,y1⟩:=hS.c2 (w.heap.size+1) _ _ _ Ah;go_enter Tryz.func14,Tryz.ntmps14;go_upto_region 1 with fail;rw [<-hV];clear hV;go_wp2_with fail;refine Calls.mono (VA.out _ (HR.out.below hS.below)) ?_;rintro e w1 ⟨rfl,hb⟩;replace hS:=hS.call hb;clear x0 x1 y0 y1 hb;obtain ⟨x0,x1⟩:=hS.c2 w.heap.size _ _ _ Ai;obtain ⟨y0,y1⟩:=hS.c2 (w.heap.size+1) _ _ _ Ah;go_wp2_with fail;refine Calls.mono (FO.out _ (HN.out.below hS.below)) ?_;rintro e w2 ⟨rfl,hb⟩;replace hS:=hS.call hb;clear x0 x1 y0 y1 hb;obtain ⟨x0,x1⟩:=hS.c2 w.heap.size _ _ _ Ai;obtain ⟨y0,y1⟩:=hS.c2 (w.heap.size+1) _ _ _ Ah;go_wp2_with fail;refine Calls.mono (CE.out _ hS) ?_;rintro e w3 ⟨rfl,hb⟩;replace hS:=hS.call hb;go_wp2;go_ret;exact ⟨Dm Af,hS.below⟩
 ·have hl1:((nums.length:Int)==cols)=false:=by simp [hl]
  have hl2:((nums.length:Int) != cols)=true:=by simp [hl]
  rw [hv] at VA;rw [hf] at FO;rw [hl1];clear hv hf hR hN hl;generalize rows.length=nr at *
  generalize nums.length=nn at *
  obtain ⟨V1,e1,S1,z1⟩:=(BL.start w).add' #[.int .i64 cols,.slice ar nr capr] 27;obtain ⟨V2,e2,hS,z2⟩:=S1.add' #[.slice an nn capn,.string den] 30;rw [z1] at hS;have hV:V2=(w.alloc (.cells #[.int .i64 cols,.slice ar nr capr] 27)).alloc (.cells #[.slice an nn capn,.string den] 30):=by rw [e2,e1]
  clear e1 e2 S1 z1 z2;obtain ⟨x0,x1⟩:=hS.c2 w.heap.size _ _ _ Ai;obtain ⟨y0,y1⟩:=hS.c2 (w.heap.size+1) _ _ _ Ah;go_enter Tryz.func14,Tryz.ntmps14;go_upto_region 1 with fail;rw [<-hV];clear hV;go_wp2_with fail;refine Calls.mono (VA.out _ (HR.out.below hS.below)) ?_;rintro e w1 ⟨rfl,hb⟩;replace hS:=hS.call hb;clear x0 x1 y0 y1 hb;obtain ⟨x0,x1⟩:=hS.c2 w.heap.size _ _ _ Ai;obtain ⟨y0,y1⟩:=hS.c2 (w.heap.size+1) _ _ _ Ah;go_wp2_with fail;refine Calls.mono (FO.out _ (HN.out.below hS.below)) ?_;rintro e w2 ⟨rfl,hb⟩;replace hS:=hS.call hb;clear x0 x1 y0 y1 hb;obtain ⟨x0,x1⟩:=hS.c2 w.heap.size _ _ _ Ai;obtain ⟨y0,y1⟩:=hS.c2 (w.heap.size+1) _ _ _ Ah;go_wp2;go_ret;exact ⟨Dm Af,hS.below⟩
def Em (cols:Int) (rows:List (List Int×Int)) (ws:List ByteArray):Bool :=
 Ea cols rows&&((ws.length:Int)==rows.length)&&!(ws.any fun s=>!numB s)&&(List.range cols.toNat).all (fun k=>decide (0<=DF ws (fun i=>gi (Dl rows i).1 k) ws.length))&&decide (DF ws (fun i=>(Dl rows i).2) ws.length<0)
theorem Fe {rows:List (List Int×Int)} {i:Nat} (h:i<rows.length):rows[i]? = some (Dl rows i):=by unfold Dl;rw [Ax h];rfl
theorem Ga {rows:List (List Int×Int)} {i:Nat} (h:i<rows.length):Dl rows i∈rows:=Ay (Fe h)
theorem Ni {z:Int} (h:Do z):∃ s,s=I z/\∃ h0:0<s.size,(((s[0]).toNat:Int)==45)=decide (z<0):=by
 refine ⟨I z,rfl,?_⟩;have:=H5 (Eh h);rwa [Ee] at this
theorem UZ (cols:Int) (rows:List (List Int×Int)) (rv:Value) (Bs Bk k:Nat) (w:World) (h:EX w rv rows) (k1:Ds w Bs #[.int .i64 cols,rv] 27) (k2:Ds w Bk #[.int .i64 k] 3) (i:Nat) (hi:i<rows.length) (hk:k<(Dl rows i).1.length) :
  Calls Tryz.prog 64 #[.int .i64 i,.pointer (some ⟨Bs,0,none⟩),.pointer (some ⟨Bk,0,none⟩)] w (DR w (.int .i64 (gi (Dl rows i).1 k))):=by
 rcases h with ⟨rfl,rfl⟩ | ⟨b,off,cap,rfl,h1,h2,h3,h4⟩
 ·simp at hi
 ·obtain ⟨cv,c0,hcs,c1⟩:=h4 i _ (Fe hi)
  rcases hcs with ⟨⟨_,rfl⟩,e2⟩ | ⟨b2,off2,cap2,rfl,g1,g2,g3,g4⟩
  ·rw [e2] at hk;simp at hk
  ·have d0:=g4 k hk
   have x0:w.cell? ⟨Bs,1,none⟩=some (.slice (some ⟨b,off,none⟩) rows.length cap):=k1.cell 1;have x1:w.cell? ⟨Bk,0,none⟩=some (.int .i64 k):=k2.cell 0;have hi':(i:Int)<rows.length:=by omega
   have hk':(k:Int)<(Dl rows i).1.length:=by omega
   have hi0:(0:Int)<=i:=by omega
   have hk0:(0:Int)<=k:=by omega
   generalize gi (Dl rows i).1 k=z at *
   generalize (Dl rows i).1.length=nc at *
   clear h4 g4 k1 k2 c1;have hC:=A8 (show ∀ w',Below w.heap.size w w'->True from fun _ _=>trivial);go_enter Tryz.func64,Tryz.ntmps64;go_upto_region 1 with fail;go_region_held3 (fun w'=>w'.cell? ⟨Bs,1,none⟩=some (.slice (some ⟨b,off,none⟩) rows.length cap)/\w'.cell? ⟨Bk,0,none⟩=some (.int .i64 k)/\w'.cell? ⟨b,off+i*2,none⟩=some (.slice (some ⟨b2,off2,none⟩) nc cap2)/\w'.cell? ⟨b2,off2+k,none⟩=some (.int .i64 z))
    (first | go_keep)
    (fail)
   all_goals go_wp2
   all_goals go_ret
   all_goals exact ⟨rfl,Dq w 1⟩
theorem V6 (cols:Int) (rows:List (List Int×Int)) (rv:Value) (Bs:Nat) (w:World) (h:EX w rv rows) (k1:Ds w Bs #[.int .i64 cols,rv] 27) (i:Nat) (hi:i<rows.length) :
  Calls Tryz.prog 65 #[.int .i64 i,.pointer (some ⟨Bs,0,none⟩)] w (DR w (.int .i64 (Dl rows i).2)):=by
 rcases h with ⟨rfl,rfl⟩ | ⟨b,off,cap,rfl,h1,h2,h3,h4⟩
 ·simp at hi
 ·obtain ⟨cv,c0,hcs,c1⟩:=h4 i _ (Fe hi)
  have x0:w.cell? ⟨Bs,1,none⟩=some (.slice (some ⟨b,off,none⟩) rows.length cap):=k1.cell 1;have hi':(i:Int)<rows.length:=by omega
  have hi0:(0:Int)<=i:=by omega
  generalize (Dl rows i).2=z at *
  clear h4 k1 hcs;go_enter Tryz.func65,Tryz.ntmps65;go_wp2;go_ret;exact ⟨rfl,Below.refl _ _⟩
theorem V7 (s:ByteArray) (w:World):Calls Tryz.prog 63 #[.string s] w (DR w (.bool (!numB s))):=by
 have IN:=A8 (fun W=>Ip s W);generalize numB s=b at *
 go_enter Tryz.func63,Tryz.ntmps63;go_wp2_with fail;refine Calls.mono (IN.out _) ?_;rintro e w1 ⟨rfl,hb⟩;go_wp2;go_ret;exact ⟨rfl,hb⟩
theorem GA (cols:Int) (rv wv:Value) (rows:List (List Int×Int)) (ws:List ByteArray) (w:World) (hE:Fp w) (hR:EX w rv rows) (hW:DS w wv ws) :
  Calls Tryz.prog 23 #[.agg #[.int .i64 cols,rv],wv] w (DR w (.bool (Em cols rows ws))):=by
 obtain ⟨ar,capr,rfl⟩:=hR.shape
 obtain ⟨aw,capw,rfl⟩:=hW.shape
 have hlw:ws.length<=maxLen:=hW.len_le
 unfold maxLen at hlw
 have HR:=A8 hR
 have HW:=A8 hW
 have VA:=A8 (fun W (hW:EX W (.slice ar rows.length capr) rows)=>G5 cols _ rows W hW)
 have CS:=A8 (fun W (hW:DS W (.slice aw ws.length capw) ws)=>Jm _ ws 63 #[] (fun s=>!numB s) W hW (Go.Proofs.enters_of Tryz.func63 Ab rfl) (fun W x _ _=>by rw [Array.append_empty];exact V7 x W))
 unfold Em
 cases hv:Ea cols rows
 ·rw [hv] at VA
  clear hv hR hW;generalize rows.length=nr at *
  generalize ws.length=nw at *
  obtain ⟨V,hV,hS,z1⟩:=(BL.start w).add' #[.int .i64 cols,.slice ar nr capr] 27;clear z1;obtain ⟨x0,x1⟩:=hS.c2 w.heap.size _ _ _ Ah;go_enter Tryz.func23,Tryz.ntmps23;go_upto_region 1 with fail;rw [<-hV];clear hV;go_wp2_with fail;refine Calls.mono (VA.out _ (HR.out.below hS.below)) ?_;rintro e w1 ⟨rfl,hb⟩;replace hS:=hS.call hb;clear x0 x1 hb;obtain ⟨x0,x1⟩:=hS.c2 w.heap.size _ _ _ Ah;go_wp2;go_ret;exact ⟨Dm Af,hS.below⟩
 by_cases hl:ws.length=rows.length
 case neg =>
  have hl1:((ws.length:Int)==rows.length)=false:=by simp;omega
  have hl2:((ws.length:Int) != rows.length)=true:=by simp;omega
  rw [hv] at VA;rw [hl1];clear hv hR hW hl;generalize rows.length=nr at *
  generalize ws.length=nw at *
  obtain ⟨V,hV,hS,z1⟩:=(BL.start w).add' #[.int .i64 cols,.slice ar nr capr] 27;clear z1;obtain ⟨x0,x1⟩:=hS.c2 w.heap.size _ _ _ Ah;go_enter Tryz.func23,Tryz.ntmps23;go_upto_region 1 with fail;rw [<-hV];clear hV;go_wp2_with fail;refine Calls.mono (VA.out _ (HR.out.below hS.below)) ?_;rintro e w1 ⟨rfl,hb⟩;replace hS:=hS.call hb;clear x0 x1 hb;obtain ⟨x0,x1⟩:=hS.c2 w.heap.size _ _ _ Ah;go_wp2;go_ret;exact ⟨Dm Af,hS.below⟩
 case pos =>
  have hl1:((ws.length:Int)==rows.length)=true:=by simp [hl]
  have hl2:((ws.length:Int) != rows.length)=false:=by simp [hl]
  rw [hl1];cases ha:(ws.any fun s=>!numB s);case true =>
   rw [hv] at VA;rw [ha] at CS;clear hv hR hW hl ha;generalize rows.length=nr at *
   generalize ws.length=nw at *
   obtain ⟨V,hV,hS,z1⟩:=(BL.start w).add' #[.int .i64 cols,.slice ar nr capr] 27;clear z1;obtain ⟨x0,x1⟩:=hS.c2 w.heap.size _ _ _ Ah;go_enter Tryz.func23,Tryz.ntmps23;go_upto_region 1 with fail;rw [<-hV];clear hV;go_wp2_with fail;refine Calls.mono (VA.out _ (HR.out.below hS.below)) ?_;rintro e w1 ⟨rfl,hb⟩;replace hS:=hS.call hb;clear x0 x1 hb;obtain ⟨x0,x1⟩:=hS.c2 w.heap.size _ _ _ Ah;go_wp2_with fail;refine Calls.mono (CS.out _ (HW.out.below hS.below)) ?_;rintro e w2 ⟨rfl,hb⟩;replace hS:=hS.call hb;clear x0 x1 hb;obtain ⟨x0,x1⟩:=hS.c2 w.heap.size _ _ _ Ah;go_wp2;go_ret;exact ⟨Dm Af,hS.below⟩
  case false =>
   obtain ⟨p1,p2,p3,p4⟩:=EH hv;obtain ⟨nc,hnc⟩:∃ nc:Nat,cols=nc:=⟨cols.toNat,Ad⟩;subst hnc;have hnum:∀ i,i<ws.length->DK (DH ws i)=true/\Bd 100 (zS (DH ws i)):=fun i hi=>by
    rw [As] at ha;have:=ha _ (Ja hi);simp only [Ar,Bool.not_eq_false] at this;unfold numB at this;simpa using this
   have hb2:∀ (k i:Nat),i<ws.length->DK (DH ws i)=true/\Bd 100 (zS (DH ws i))/\Bd 11 (gi (Dl rows i).1 k):=fun k i hi=>⟨(hnum i hi).1,(hnum i hi).2,bd11 (by have:=PN (B:=30000) Ae (p4 _ (Ga (by omega:i<rows.length))).2.1 k;omega)⟩
   have hb3:∀ i,i<ws.length->DK (DH ws i)=true/\Bd 100 (zS (DH ws i))/\Bd 11 (Dl rows i).2:=fun i hi=>⟨(hnum i hi).1,(hnum i hi).2,bd11 (by have:=(p4 _ (Ga (by omega:i<rows.length))).2.2;omega)⟩
   have S2:=A8 (fun (k Bk:Nat) (hk:k<nc) W (hS:BL w [(Bk,#[.int .i64 k],3),(w.heap.size,#[.int .i64 (nc:Int),.slice ar rows.length capr],27)] W)=>M8 (.slice aw ws.length capw) ws 64 #[.pointer (some ⟨w.heap.size,0,none⟩),.pointer (some ⟨Bk,0,none⟩)] (fun i=>gi (Dl rows i).1 k) W (hS.env hE) (hW.below hS.below) Ad (hb2 k) (Go.Proofs.enters_of Tryz.func64 Ab rfl)
    (fun W' i hi hb=>UZ nc rows _ w.heap.size Bk k W' ((hR.below hS.below).below hb) ((hS.blks _ Ai).below hb) ((hS.blks _ Ah).below hb) i Ad (by have:=(p4 _ (Ga (by omega:i<rows.length))).1;omega)))
   have S3:=A8 (fun W (hS:BL w [(w.heap.size,#[.int .i64 (nc:Int),.slice ar rows.length capr],27)] W)=>M8 (.slice aw ws.length capw) ws 65 #[.pointer (some ⟨w.heap.size,0,none⟩)] (fun i=>(Dl rows i).2) W (hS.env hE) (hW.below hS.below) Ad hb3 (Go.Proofs.enters_of Tryz.func65 Ab rfl)
    (fun W' i hi hb=>V6 nc rows _ w.heap.size W' ((hR.below hS.below).below hb) ((hS.blks _ Ah).below hb) i Ad))
   have G2:=A8 (fun k=>Ni (z:=DF ws (fun i=>gi (Dl rows i).1 k) ws.length) (sum_small Ad (fun i hi=>(hb2 k i hi).2)));have G3:=Ni (z:=DF ws (fun i=>(Dl rows i).2) ws.length) (sum_small Ad (fun i hi=>(hb3 i hi).2));rw [show ((nc:Int)).toNat=nc from Az nc];obtain ⟨F,hF⟩:∃ F:Nat->Int,F=fun k=>DF ws (fun i=>gi (Dl rows i).1 k) ws.length:=⟨_,rfl⟩
   have hF':∀ k,DF ws (fun i=>gi (Dl rows i).1 k) ws.length=F k:=fun k=>by rw [hF]
   simp only [hF'] at S2 G2 |-;generalize DF ws (fun i=>(Dl rows i).2) ws.length=z3 at *
   have hpost:Hid (∀ (b:Bool) k,(b=false/\k<nc/\F k<0)∨(b=decide (z3<0)/\∀ j,j<nc->0<=F j)->((true&&true&&!false&&(List.range nc).all (fun k=>decide (0<=F k))&&decide (z3<0))=b)):=A8 (fun b k h=>by
    rcases h with ⟨rfl,h1,h2⟩ | ⟨rfl,h1⟩
    ·have:(List.range nc).all (fun k=>decide (0<=F k))=false:=by
      rw [AA];exact ⟨k,AB.2 h1,by simp;omega⟩
     rw [this];simp
    ·have:(List.range nc).all (fun k=>decide (0<=F k))=true:=by
      rw [AE];intro j hj;exact AF (h1 j (AB.1 hj))
     rw [this];simp)
   rw [hv] at VA;rw [ha] at CS;clear hv hR hW hl ha hnum hb2 hb3 p4 hF hF';generalize rows.length=nr at *
   generalize ws.length=nw at *
   obtain ⟨V,hV,hS,z1⟩:=(BL.start w).add' #[.int .i64 (nc:Int),.slice ar nr capr] 27;clear z1;obtain ⟨x0,x1⟩:=hS.c2 w.heap.size _ _ _ Ah;go_enter Tryz.func23,Tryz.ntmps23;go_upto_region 1 with fail;rw [<-hV];clear hV;go_wp2_with fail;refine Calls.mono (VA.out _ (HR.out.below hS.below)) ?_;rintro e w1 ⟨rfl,hb⟩;replace hS:=hS.call hb;clear x0 x1 hb;obtain ⟨x0,x1⟩:=hS.c2 w.heap.size _ _ _ Ah;go_wp2_with fail;refine Calls.mono (CS.out _ (HW.out.below hS.below)) ?_;rintro e w2 ⟨rfl,hb⟩;replace hS:=hS.call hb;clear x0 x1 hb;obtain ⟨x0,x1⟩:=hS.c2 w.heap.size _ _ _ Ah;go_wp2_with fail;clear x0 x1;go_loopw [23] (fun o wr=>∃ k:Nat,o=.int .i64 k/\k<=nc/\Hid (∀ j,j<k->0<=F j)/\BL w [(w.heap.size,#[.int .i64 (nc:Int),.slice ar nr capr],27)] wr) (fun o _=>nc-(intOf o).toNat);case atStart=>exact ⟨0,rfl,Ad,A8 (fun j hj=>absurd hj Ad),hS⟩
   case round =>
    clear hS;obtain ⟨k,rfl,hk,hall,hS⟩:=hrel;by_cases hkn:k<nc;case pos =>
     have hkn':(k:Int)<nc:=by omega
     go_upto_region 6 with fail;obtain ⟨W5,hW5,S5,z5⟩:=hS.add' #[.int .i64 k] 3;rw [<-hW5];clear hW5 z5;have hSU:=A8 (S2.out k _ hkn W5 S5);obtain ⟨sx,hsx,h0,hfb⟩:=G2.out k;rw [<-hsx] at hSU;clear hsx;by_cases hneg:F k<0
     ·rw [AF hneg] at hfb
      go_wp2_with fail;refine Calls.mono hSU.out ?_;rintro e w6 ⟨rfl,hb⟩;have hBf:=(S5.call hb).below;go_wp2;go_ret;exact ⟨Dm (hpost.out false k (.inl ⟨rfl,hkn,hneg⟩)).symm,hBf⟩
     ·rw [Al hneg] at hfb
      go_wp2_with fail;refine Calls.mono hSU.out ?_;rintro e w6 ⟨rfl,hb⟩;have S6:=(S5.call hb).drop (M:=[(w.heap.size,#[.int .i64 (nc:Int),.slice ar nr capr],27)]) (fun p hp=>.tail _ hp);have hall2:=A8 (show ∀ j,j<k+1->0<=F j from fun j hj=>by
       by_cases e:j=k
       ·subst e;omega
       ·exact hall.out j Ad)
      clear hb S5 hS hneg hall;go_wp2_with fail;go_roundw;case rel=>exact ⟨k+1,by go_num,Ad,hall2,S6⟩
      case measure=>simp [intOf];omega
    case neg =>
     have hkn':¬ (k:Int)<nc:=by omega
     obtain rfl:k=nc:=by omega
     have hSU:=A8 (S3.out wr hS);obtain ⟨sx,hsx,h0,hfb⟩:=G3;rw [<-hsx] at hSU;clear hsx;obtain ⟨b3,hb3⟩:∃ b,b=decide (z3<0):=⟨_,rfl⟩;rw [<-hb3] at hfb;have hb3':=A8 hb3;clear hb3;go_wp2_with fail;refine Calls.mono hSU.out ?_;rintro e w6 ⟨rfl,hb⟩;have hBf:=(hS.call hb).below;go_wp2;go_ret;exact ⟨Dm (by rw [hpost.out b3 0 (.inr ⟨hb3'.out,hall.out⟩)]),hBf⟩
end
section
namespace LnM
def Kb:Int:=10 ^ 98
theorem Lk {z:Int} (h:(z.natAbs:Int)<=19*(Kb*Kb)):Wide z:=by
 have hp:2*(19*(Kb*Kb))<P 12:=by unfold Kb;decide
 unfold Wide;omega
theorem Kb_pos:1<=Kb:=by unfold Kb;decide
theorem KK:Kb<=Kb*Kb:=by unfold Kb;decide
theorem JD {a b x y:Int} (ha:(a.natAbs:Int)<=x) (hb:(b.natAbs:Int)<=y):((a*b).natAbs:Int)<=x*y:=by
 rw [Int.natAbs_mul,AG];exact AI ha hb Ad Ad
structure Sys.Low (s:Sys):Prop where
 m:s.m<=18
 d:∀ B,s.Inv B->((s.d B).natAbs:Int)<=Kb
 T:∀ B,s.Inv B->∀ i,i<s.m->∀ j,j<=s.n+s.m->((s.T B i j).natAbs:Int)<=Kb
theorem Sys.Low.C {s:Sys} (h:s.Low) {B:Nat->Nat} (hI:s.Inv B) {j:Nat} (hj:j<=s.n+s.m):((s.C B j).natAbs:Int)<=19*Kb:=by
 have h1:=bd_C (s:=s) (X:=Kb) (B:=B) (j:=j) (h.d B hI) (fun i hi=>h.T B hI i hi j hj);have h2:=h.m;have h3:((s.m:Int)+1)*Kb<=19*Kb:=AJ Ad (by have:=Kb_pos;omega);omega
theorem Sys.Low.of_bd {s:Sys} {A V:Int} (h:s.Bd A V) (hm:s.m<=18) (h1:A ^ s.m<=Kb) (h2:0<s.m->A ^ (s.m-1)*V<=Kb):s.Low:=by
 refine ⟨hm,fun B hI=>AK (bd_d h hI.bas) h1,fun B hI i hi j hj=>?_⟩;by_cases e:j=s.n+s.m
 ·subst e;exact AK (bd_Tv h hI.bas hi) (h2 Ad)
 ·exact AK (bd_T h hI.bas hi Ad) h1
end LnM
open LnM
theorem low_wd {s:LnM.Sys} (h:s.Low):S7 s:=by
 have k0:=Kb_pos;have kk:=KK;have w1:∀ {z:Int},(z.natAbs:Int)<=19*Kb->Wide z:=fun hz=>Lk Ad
 have w2:∀ {a b:Int},(a.natAbs:Int)<=Kb->(b.natAbs:Int)<=19*Kb->Wide (a*b):=fun {a b} ha hb=>Lk (by
  have:=JD ha hb;rw [show Kb*(19*Kb)=19*(Kb*Kb) by rw [<-AL,AM Kb 19,AL]] at this;exact this)
 refine ⟨fun B hI=>w1 (by have:=h.d B hI;omega),fun B hI i hi j hj=>w1 (by have:=h.T B hI i hi j hj;omega),fun B hI j hj=>w1 (h.C hI hj),fun B hI i r k hi hr hk=>?_,fun B r k hI hl hk i hi j hj=>?_,fun B r k hI hl hk j hj=>?_⟩
 ·have a1:=JD (h.T B hI i hi _ (Aa _)) (h.T B hI r hr k hk)
  have a2:=JD (h.T B hI r hr _ (Aa _)) (h.T B hI i hi k hk);refine Lk ?_;generalize s.T B i (s.n+s.m)*s.T B r k=a at *
  generalize s.T B r (s.n+s.m)*s.T B i k=b at *
  generalize Kb*Kb=q at *
  omega
 ·exact w2 (h.d B hI) (by have:=h.T _ (hI.pivot hk hl) i hi j hj;omega)
 ·exact w2 (h.d B hI) (h.C (hI.pivot hk hl) hj)
theorem low_tx {s:LnM.Sys} (h:s.Low):SysTx s:=by
 have k0:=Kb_pos;have kk:=KK;have w1:∀ {z:Int},(z.natAbs:Int)<=20*Kb->Wide z:=fun hz=>Lk (by
  have:(2:Int)*Kb<=Kb*Kb:=by unfold Kb;decide
  omega)
 have w2:∀ {z:Int},(z.natAbs:Int)<=20*Kb->Wide z/\Wide (-z):=fun hz=>⟨w1 hz,w1 (by rw [Int.natAbs_neg];exact hz)⟩
 refine ⟨fun B hI=>w2 (by have:=h.d B hI;omega),fun B hI i hi=>w2 (by have:=h.T B hI i hi _ (Aa _);omega),fun B hI i hi=>w2 ?_⟩;have h1:=h.d B hI;have h2:=h.C hI (j:=s.n+i) Ad;unfold LnM.Sys.w;omega
theorem sys_low {cols:Nat} {rows:List (List Int×Int)} {K V:Nat} (hm:rows.length<=18) (hK:1<=K) (hc:∀ r∈rows,∀ x∈r.1,x.natAbs<=K) (hv:∀ r∈rows,r.2.natAbs<=V)
  (h1:((rows.length*K:Nat):Int) ^ rows.length<=Kb) (h2:0<rows.length->((rows.length*K:Nat):Int) ^ (rows.length-1)*((rows.length*V:Nat):Int)<=Kb):(DZ cols rows).Low:=by
 by_cases h0:rows.length=0
 ·refine ⟨hm,fun B _=>?_,fun B _ i hi=>?_⟩
  ·have e:(DZ cols rows).m=0:=h0
   unfold LnM.Sys.d;rw [e];show (((1:Int).natAbs:Nat):Int)<=Kb;have:=Kb_pos;simpa using this
  ·have:i<rows.length:=hi
   omega
 have hrow:∀ i,i<rows.length->Dl rows i∈rows:=fun i hi=>by
  unfold Dl;rw [Ax hi];exact AN hi
 have hgi:∀ i,i<rows.length->∀ j,(gi (Dl rows i).1 j).natAbs<=K:=fun i hi j=>by
  by_cases hj:j<(Dl rows i).1.length
  ·rw [FE hj];exact hc _ (hrow i hi) _ (AN hj)
  ·rw [Gl Ad];simp
 have hsg:∀ i (z:Int),(El rows i*z).natAbs=z.natAbs:=fun i z=>by
  rcases K6 rows i with e | e <;> rw [e] <;> simp
 have hsum:∀ (f:Nat->Int) (X m:Nat),(∀ i,i<m->(f i).natAbs<=X)->sm m (fun i=>((f i).natAbs:Int))<=((m*X:Nat):Int):=fun f X m=>by
  induction m with
  | zero=>intro _;simp [sm]
  | succ m ih =>
   intro h;have a:=ih (fun i hi=>h i Ad);have b:=h m Ad;rw [sm,Nat.succ_mul];omega
 refine LnM.Sys.Low.of_bd (A:=((rows.length*K:Nat):Int)) (V:=((rows.length*V:Nat):Int)) ⟨?_,fun j hj=>?_,?_⟩ hm h1 h2
 ·have:1<=rows.length*K:=Nat.mul_pos Ad hK
  omega
 ·refine hsum _ K rows.length fun i hi=>?_
  show (if j<cols then El rows i*gi (Dl rows i).1 j else if j<cols+rows.length then (if i=j-cols then (1:Int) else 0) else El rows i*(Dl rows i).2).natAbs<=K;have hj':j<cols+rows.length:=hj;split
  ·rw [hsg];exact hgi i hi j
  ·split
   ·exact hK
   ·exact AO _
 ·refine hsum _ V rows.length fun i hi=>?_
  show (if cols+rows.length<cols then _ else if cols+rows.length<cols+rows.length then _ else El rows i*(Dl rows i).2).natAbs<=V;rw [AP Ad,AP Ad,hsg];exact hv _ (hrow i hi)
end
section
open LnM (sm)
def Rb (cols:Nat) (rows:List (List Int×Int)) (B:Nat->Nat):List ByteArray:=(List.range cols).map fun k=>L3 ((DZ cols rows).x B k)
def Rd (cols:Nat) (rows:List (List Int×Int)) (B:Nat->Nat):List ByteArray:=(List.range rows.length).map fun i=>L3 (El rows i*(DZ cols rows).w B i)
theorem PQ (z:Int):L3 z=I z:=rfl
theorem bd100 {z:Int} (h:(z.natAbs:Int)<=20*LnM.Kb):Bd 100 z:=by
 have:(20:Int)*LnM.Kb<10 ^ 100:=by unfold LnM.Kb;decide
 unfold Bd;generalize (10:Int) ^ 100=q at *
 omega
theorem S8 {n:Nat} (f:Nat->ByteArray) {i:Nat} (h:i<n):DH ((List.range n).map f) i=f i:=by
 unfold DH;rw [AQ,AR h];rfl
theorem Ll {z:Int} (h:Bd 100 z):numB (L3 z)=true:=by
 rw [PQ];unfold numB;rw [Eh (h.small Ae),Ee,AS];exact AF h
theorem x_low {s:LnM.Sys} (h:s.Low) {B:Nat->Nat} (hI:s.Inv B) (k:Nat):((s.x B k).natAbs:Int)<=LnM.Kb:=by
 have k0:=LnM.Kb_pos;unfold LnM.Sys.x;by_cases hk:∃ i,i<s.m/\B i=k
 ·obtain ⟨i,hi,rfl⟩:=hk
  rw [LnM.sm_single hi (fun j hj hne=>AP (fun e=>hne (hI.dist hj hi e))),AU rfl];exact h.T B hI i hi _ (Aa _)
 ·rw [LnM.sm_zero (fun j hj=>AP (fun e=>hk ⟨j,hj,e⟩))]
  simp;omega
theorem M9 {rows:List (List Int×Int)} {i:Nat} {a b:Int} (h:El rows i*a=El rows i*b):a=b:=by
 rcases K6 rows i with e | e <;> rw [e] at h <;> omega
theorem sys_S {cols:Nat} {rows:List (List Int×Int)} (i:Nat) {k:Nat} (hk:k<cols):(DZ cols rows).S i k=El rows i*gi (Dl rows i).1 k:=by
 show (if k<cols then _ else _)=_;rw [AU hk]
theorem sys_V {cols:Nat} {rows:List (List Int×Int)} (i:Nat):(DZ cols rows).S i (cols+rows.length)=El rows i*(Dl rows i).2:=by
 show (if cols+rows.length<cols then _ else if cols+rows.length<cols+rows.length then _ else _)=_;rw [AP Ad,AP Ad]
theorem Ty {cols:Nat} {rows:List (List Int×Int)} (hv:Ea cols rows=true) (hl:(DZ cols rows).Low) {B:Nat->Nat} (hI:(DZ cols rows).Inv B) (h0:(DZ cols rows).C B (cols+rows.length)=0) :
  Fu cols rows (Rb cols rows B) (L3 ((DZ cols rows).d B))=true:=by
 obtain ⟨p1,p2,p3,p4⟩:=EH hv
 obtain ⟨s1,s2⟩:=LnM.solves hI h0
 have hd:Bd 100 ((DZ cols rows).d B):=bd100 (by have:=hl.d B hI;have:=LnM.Kb_pos;omega)
 have hx:∀ k,Bd 100 ((DZ cols rows).x B k):=fun k=>bd100 (by have:=x_low hl hI k;have:=LnM.Kb_pos;omega)
 have hzd:zS (L3 ((DZ cols rows).d B))=(DZ cols rows).d B:=by rw [PQ,Ee]
 have hlen:(Rb cols rows B).length=cols:=by unfold Rb;simp
 have hform:DX (Rb cols rows B) (L3 ((DZ cols rows).d B))=true:=by
  unfold DX;rw [Ll hd,hzd,AF hI.dpos,hlen,AF Ad];have:(Rb cols rows B).any GN=false:=by
   rw [As];intro t ht;unfold Rb at ht;obtain ⟨k,_,rfl⟩:=AV.1 ht;unfold GN;rw [Ll (hx k),PQ,Ee];have:=s1 k;simp;omega
  rw [this];rfl
 unfold Fu
 rw [hv,hform,hlen]
 simp only [Bool.and_true,beq_self_eq_true,AS]
 rw [AE]
 intro r hr
 obtain ⟨i,hi,rfl⟩:=AW.1 hr
 have hrow:Dl rows i=rows[i]:=by unfold Dl;rw [Ax hi];rfl
 rw [<-hrow,Aq,hzd]
 have e:=s2 i hi
 refine M9 (rows:=rows) (i:=i) ?_
 have e2:(DZ cols rows).S i ((DZ cols rows).n+(DZ cols rows).m)=El rows i*(Dl rows i).2:=sys_V i
 rw [e2] at e
 rw [show El rows i*((DZ cols rows).d B*(Dl rows i).2)=(DZ cols rows).d B*(El rows i*(Dl rows i).2) by rw [<-AL,AM (El rows i),AL],<-e]
 unfold DF
 rw [<-LnM.sm_mul]
 refine LnM.sm_congr fun k hk=>?_
 have hk':k<cols:=hk
 rw [sys_S i hk']
 unfold Rb
 rw [S8 _ hk',PQ,Ee,<-AL,<-AL,AM (El rows i)]
theorem PS {cols:Nat} {rows:List (List Int×Int)} (hv:Ea cols rows=true) (hl:(DZ cols rows).Low) {B:Nat->Nat} (hI:(DZ cols rows).Inv B) (hend:∀ k,k<cols->0<=(DZ cols rows).C B k) (h0:(DZ cols rows).C B (cols+rows.length)≠0) :
  Em cols rows (Rd cols rows B)=true:=by
 obtain ⟨s1,s2⟩:=LnM.refutes (QT cols rows) hI hend h0
 have hw:∀ i,i<rows.length->Bd 100 (El rows i*(DZ cols rows).w B i):=fun i hi=>bd100 (by
  have h1:=hl.d B hI;have h2:=hl.C hI (j:=cols+i) (by show cols+i<=cols+rows.length;omega);have e:(El rows i*(DZ cols rows).w B i).natAbs=((DZ cols rows).w B i).natAbs:=by rcases K6 rows i with e | e <;> rw [e] <;> simp
  rw [e];show ((((DZ cols rows).C B (cols+i)-(DZ cols rows).d B).natAbs:Nat):Int)<=_;omega)
 have hlen:(Rd cols rows B).length=rows.length:=by unfold Rd;simp
 have hany:((Rd cols rows B).any fun s=>!numB s)=false:=by
  rw [As];intro t ht;unfold Rd at ht;obtain ⟨k,hk,rfl⟩:=AV.1 ht;rw [Ll (hw k (AB.1 hk))];decide
 have hsum:∀ (f:Nat->Int) (j:Nat),(∀ i,i<rows.length->(DZ cols rows).S i j=El rows i*f i)->DF (Rd cols rows B) f rows.length=sm rows.length (fun l=>(DZ cols rows).w B l*(DZ cols rows).S l j):=fun f j hj=>by
  unfold DF;refine LnM.sm_congr fun i hi=>?_
  rw [hj i hi];unfold Rd;rw [S8 _ hi,PQ,Ee,AM (El rows i),AL]
 unfold Em
 rw [hv,hlen,hany,hsum (fun i=>(Dl rows i).2) (cols+rows.length) (fun i _=>sys_V i)]
 simp only [AS,beq_self_eq_true,Bool.not_false,Ap,Aq,AE]
 refine ⟨fun k hk=>?_,s2⟩
 have hk':k<cols:=by simpa using hk
 rw [hsum (fun i=>gi (Dl rows i).1 k) k (fun i _=>sys_S i hk')]
 exact s1 k hk'
theorem low_num {m:Nat} (h:m<=8):((m*30000:Nat):Int) ^ m<=LnM.Kb/\((m*30000:Nat):Int) ^ (m-1)*((m*1000000000:Nat):Int)<=LnM.Kb:=by
 unfold LnM.Kb;match m,h with
 | 0,_=>decide
 | 1,_=>decide
 | 2,_=>decide
 | 3,_=>decide
 | 4,_=>decide
 | 5,_=>decide
 | 6,_=>decide
 | 7,_=>decide
 | 8,_=>decide
theorem low8 {cols:Nat} {rows:List (List Int×Int)} (hv:Ea cols rows=true) (h8:rows.length<=8):(DZ cols rows).Low:=by
 obtain ⟨_,_,_,p4⟩:=EH hv;obtain ⟨h1,h2⟩:=low_num h8;exact sys_low (K:=30000) (V:=1000000000) Ad Ae (fun r hr x hx=>by have:=(p4 r hr).2.1 x hx;omega) (fun r hr=>by have:=(p4 r hr).2.2;omega) h1 (fun _=>h2)
end
section
open Go.RowKit
open LnM (sm)
attribute [local go_sem] Oper.semAt_some
def Iy (na:List ByteArray) (da:ByteArray) (nb:List ByteArray) (db:ByteArray):Bool :=
 DX na da&&DX nb db&&((na.length:Int)==nb.length)&&(List.range na.length).all (fun i=>decide (zS (DH na i)*zS db=zS (DH nb i)*zS da))
theorem mul_T {a b:ByteArray} (ha:DK a=true) (hb:DK b=true) (hp:Do (zS a*zS b)) (W:World) (hW:Fp W):Calls Tryz.prog 44 #[.string a,.string b] W (DR W (.tuple #[.string (I (zS a*zS b)),.int .i64 0])):=by
 have:=Lh a b W hW;rw [ha,hb,AX,F6 hp] at this;exact this.mono fun e w' h=>by
  obtain ⟨⟨r,h1,h2⟩,hb⟩:=h;exact ⟨by rw [h1,h2],hb⟩
theorem KI (va vb:Value) (na nb:List ByteArray) (da db:ByteArray) (w:World) (hE:Fp w) (hA:DS w va na) (hB:DS w vb nb) :
  Calls Tryz.prog 16 #[.agg #[va,.string da],.agg #[vb,.string db]] w (DR w (.bool (Iy na da nb db))):=by
 obtain ⟨aa,ca,rfl⟩:=hA.shape
 obtain ⟨ab,cb,rfl⟩:=hB.shape
 have HA:=A8 hA
 have HB:=A8 hB
 have FA:=A8 (fun W (hW:DS W (.slice aa na.length ca) na)=>Fa _ na da W hW)
 have FB:=A8 (fun W (hW:DS W (.slice ab nb.length cb) nb)=>Fa _ nb db W hW)
 unfold Iy
 cases hf:DX na da
 ·rw [hf] at FA
  clear hf hA hB;generalize na.length=la at *
  generalize nb.length=lb at *
  obtain ⟨V1,e1,S1,z1⟩:=(BL.start w).add' #[.slice aa la ca,.string da] 30;obtain ⟨V2,e2,hS,z2⟩:=S1.add' #[.slice ab lb cb,.string db] 30;rw [z1] at hS;have hV:V2=(w.alloc (.cells #[.slice aa la ca,.string da] 30)).alloc (.cells #[.slice ab lb cb,.string db] 30):=by rw [e2,e1]
  clear e1 e2 S1 z1 z2;obtain ⟨x0,x1⟩:=hS.c2 w.heap.size _ _ _ Ai;obtain ⟨y0,y1⟩:=hS.c2 (w.heap.size+1) _ _ _ Ah;go_enter Tryz.func16,Tryz.ntmps16;go_upto_region 1 with fail;rw [<-hV];clear hV;go_wp2_with fail;refine Calls.mono (FA.out _ (HA.out.below hS.below)) ?_;rintro e w1 ⟨rfl,hb⟩;replace hS:=hS.call hb;clear x0 x1 y0 y1 hb;obtain ⟨x0,x1⟩:=hS.c2 w.heap.size _ _ _ Ai;obtain ⟨y0,y1⟩:=hS.c2 (w.heap.size+1) _ _ _ Ah;go_wp2;go_ret;exact ⟨Dm Af,hS.below⟩
 cases hg:DX nb db
 ·rw [hf] at FA
  rw [hg] at FB;clear hf hg hA hB;generalize na.length=la at *
  generalize nb.length=lb at *
  obtain ⟨V1,e1,S1,z1⟩:=(BL.start w).add' #[.slice aa la ca,.string da] 30;obtain ⟨V2,e2,hS,z2⟩:=S1.add' #[.slice ab lb cb,.string db] 30;rw [z1] at hS;have hV:V2=(w.alloc (.cells #[.slice aa la ca,.string da] 30)).alloc (.cells #[.slice ab lb cb,.string db] 30):=by rw [e2,e1]
  clear e1 e2 S1 z1 z2;obtain ⟨x0,x1⟩:=hS.c2 w.heap.size _ _ _ Ai;obtain ⟨y0,y1⟩:=hS.c2 (w.heap.size+1) _ _ _ Ah;go_enter Tryz.func16,Tryz.ntmps16;go_upto_region 1 with fail;rw [<-hV];clear hV;go_wp2_with fail;refine Calls.mono (FA.out _ (HA.out.below hS.below)) ?_;rintro e w1 ⟨rfl,hb⟩;replace hS:=hS.call hb;clear x0 x1 y0 y1 hb;obtain ⟨x0,x1⟩:=hS.c2 w.heap.size _ _ _ Ai;obtain ⟨y0,y1⟩:=hS.c2 (w.heap.size+1) _ _ _ Ah;go_wp2_with fail;refine Calls.mono (FB.out _ (HB.out.below hS.below)) ?_;rintro e w2 ⟨rfl,hb⟩;replace hS:=hS.call hb;clear x0 x1 y0 y1 hb;obtain ⟨x0,x1⟩:=hS.c2 w.heap.size _ _ _ Ai;obtain ⟨y0,y1⟩:=hS.c2 (w.heap.size+1) _ _ _ Ah;go_wp2;go_ret;exact ⟨Dm Af,hS.below⟩
 by_cases hl:na.length=nb.length
 case neg =>
  have hl1:((na.length:Int)==nb.length)=false:=by simp;omega
  have hl2:((na.length:Int) != nb.length)=true:=by simp;omega
  rw [hf] at FA;rw [hg] at FB;rw [hl1];clear hf hg hA hB hl;generalize na.length=la at *
  generalize nb.length=lb at *
  obtain ⟨V1,e1,S1,z1⟩:=(BL.start w).add' #[.slice aa la ca,.string da] 30;obtain ⟨V2,e2,hS,z2⟩:=S1.add' #[.slice ab lb cb,.string db] 30;rw [z1] at hS;have hV:V2=(w.alloc (.cells #[.slice aa la ca,.string da] 30)).alloc (.cells #[.slice ab lb cb,.string db] 30):=by rw [e2,e1]
  clear e1 e2 S1 z1 z2;obtain ⟨x0,x1⟩:=hS.c2 w.heap.size _ _ _ Ai;obtain ⟨y0,y1⟩:=hS.c2 (w.heap.size+1) _ _ _ Ah;go_enter Tryz.func16,Tryz.ntmps16;go_upto_region 1 with fail;rw [<-hV];clear hV;go_wp2_with fail;refine Calls.mono (FA.out _ (HA.out.below hS.below)) ?_;rintro e w1 ⟨rfl,hb⟩;replace hS:=hS.call hb;clear x0 x1 y0 y1 hb;obtain ⟨x0,x1⟩:=hS.c2 w.heap.size _ _ _ Ai;obtain ⟨y0,y1⟩:=hS.c2 (w.heap.size+1) _ _ _ Ah;go_wp2_with fail;refine Calls.mono (FB.out _ (HB.out.below hS.below)) ?_;rintro e w2 ⟨rfl,hb⟩;replace hS:=hS.call hb;clear x0 x1 y0 y1 hb;obtain ⟨x0,x1⟩:=hS.c2 w.heap.size _ _ _ Ai;obtain ⟨y0,y1⟩:=hS.c2 (w.heap.size+1) _ _ _ Ah;go_wp2;go_ret;exact ⟨Dm Af,hS.below⟩
 case pos =>
  have hl1:((na.length:Int)==nb.length)=true:=by simp [hl]
  have hl2:((na.length:Int) != nb.length)=false:=by simp [hl]
  obtain ⟨p1,p2,p3,p4,p5⟩:=Ep hf;obtain ⟨q1,q2,q3,q4,q5⟩:=Ep hg;rw [hf] at FA;rw [hg] at FB;rw [hl1];have hps:Hid (∀ i,i<na.length->DK (DH na i)=true/\DK (DH nb i)=true/\DK da=true/\DK db=true/\Do (zS (DH na i)*zS db)/\Do (zS (DH nb i)*zS da)):=A8 (fun i hi =>
   ⟨(p2 i hi).1,(q2 i Ad).1,p3,q3,((p2 i hi).2.1.mul q4).small Ae,((q2 i Ad).2.1.mul p4).small Ae⟩)
  have hpost:Hid (∀ (b:Bool) k,(b=false/\k<na.length/\zS (DH na k)*zS db≠zS (DH nb k)*zS da)∨(b=true/\∀ j,j<na.length->zS (DH na j)*zS db=zS (DH nb j)*zS da)->((true&&true&&true&&(List.range na.length).all (fun i=>decide (zS (DH na i)*zS db=zS (DH nb i)*zS da)))=b)):=A8 (fun b k h=>by
   rcases h with ⟨rfl,h1,h2⟩ | ⟨rfl,h1⟩
   ·have:(List.range na.length).all (fun i=>decide (zS (DH na i)*zS db=zS (DH nb i)*zS da))=false:=by
     rw [AA];exact ⟨k,AB.2 h1,by simp [h2]⟩
    rw [this];rfl
   ·have:(List.range na.length).all (fun i=>decide (zS (DH na i)*zS db=zS (DH nb i)*zS da))=true:=by
     rw [AE];intro j hj;exact AF (h1 j (AB.1 hj))
    rw [this];rfl)
  have hlh:=A8 hl;replace hE:=A8 hE;clear hf hg hA hB hl p2 q2 p3 q3 p4 q4 p5 q5;obtain ⟨la,hla⟩:∃ n,n=na.length:=⟨_,rfl⟩;obtain ⟨lb,hlb⟩:∃ n,n=nb.length:=⟨_,rfl⟩;rw [<-hla] at HA FA hl1 hl2 p1 hps hpost hlh |-;rw [<-hlb] at HB FB hl1 hl2 q1 hlh |-;replace hla:=A8 hla;replace hlb:=A8 hlb;obtain ⟨V1,e1,S1,z1⟩:=(BL.start w).add' #[.slice aa la ca,.string da] 30;obtain ⟨V2,e2,hS,z2⟩:=S1.add' #[.slice ab lb cb,.string db] 30;rw [z1] at hS;have hV:V2=(w.alloc (.cells #[.slice aa la ca,.string da] 30)).alloc (.cells #[.slice ab lb cb,.string db] 30):=by rw [e2,e1]
  clear e1 e2 S1 z1 z2;obtain ⟨x0,x1⟩:=hS.c2 w.heap.size _ _ _ Ai;obtain ⟨y0,y1⟩:=hS.c2 (w.heap.size+1) _ _ _ Ah;go_enter Tryz.func16,Tryz.ntmps16;go_upto_region 1 with fail;rw [<-hV];clear hV;go_wp2_with fail;refine Calls.mono (FA.out _ (HA.out.below hS.below)) ?_;rintro e w1 ⟨rfl,hb⟩;replace hS:=hS.call hb;clear x0 x1 y0 y1 hb;obtain ⟨x0,x1⟩:=hS.c2 w.heap.size _ _ _ Ai;obtain ⟨y0,y1⟩:=hS.c2 (w.heap.size+1) _ _ _ Ah;go_wp2_with fail;refine Calls.mono (FB.out _ (HB.out.below hS.below)) ?_;rintro e w2 ⟨rfl,hb⟩;replace hS:=hS.call hb;clear x0 x1 y0 y1 hb;obtain ⟨x0,x1⟩:=hS.c2 w.heap.size _ _ _ Ai;obtain ⟨y0,y1⟩:=hS.c2 (w.heap.size+1) _ _ _ Ah;go_wp2_with fail;clear x0 x1 y0 y1;go_loopw [30] (fun o wr=>∃ k:Nat,o=.int .i64 k/\k<=la/\Hid (∀ j,j<k->zS (DH na j)*zS db=zS (DH nb j)*zS da)/\BL w [(w.heap.size+1,#[.slice ab lb cb,.string db],30),(w.heap.size,#[.slice aa la ca,.string da],30)] wr) (fun o _=>la-(intOf o).toNat);case atStart=>exact ⟨0,rfl,Ad,A8 (fun j hj=>absurd hj Ad),hS⟩
  case round =>
   clear hS;obtain ⟨i,rfl,hi,hall,hS⟩:=hrel;by_cases hil:i<la;case neg =>
    have hil':¬ (i:Int)<la:=by omega
    obtain rfl:i=la:=by omega
    go_wp2;go_ret;exact ⟨Dm (hpost.out true 0 (.inr ⟨rfl,hall.out⟩)).symm,hS.below⟩
   case pos =>
    have hil':(i:Int)<la:=by omega
    have hil2:(i:Int)<lb:=by have:=hlh.out;omega
    have hi0:(0:Int)<=i:=by omega
    obtain ⟨k1,k2,k3,k4,k5,k6⟩:=hps.out i hil;obtain ⟨ba,oa,ea,hba,xa⟩:∃ b off,aa=some ⟨b,off,none⟩/\b<w.heap.size/\w.cell? ⟨b,off+i,none⟩=some (.string (DH na i)):=by
     rcases HA.out with ⟨e,e2⟩ | ⟨b,off,cap',e,h1,h2,h3,h4⟩
     ·have:=hla.out;rw [e2] at this;simp at this;omega
     ·cases e
      have:=h4 i _ (FD (by rw [<-hla.out];exact hil));rw [AY] at this;exact ⟨b,off,rfl,h3,this⟩
    obtain ⟨bb,ob,eb,hbb,xb⟩:∃ b off,ab=some ⟨b,off,none⟩/\b<w.heap.size/\w.cell? ⟨b,off+i,none⟩=some (.string (DH nb i)):=by
     rcases HB.out with ⟨e,e2⟩ | ⟨b,off,cap',e,h1,h2,h3,h4⟩
     ·have:=hlb.out;rw [e2] at this;simp at this;omega
     ·cases e
      have:=h4 i _ (FD (by rw [<-hlb.out];omega));rw [AY] at this;exact ⟨b,off,rfl,h3,this⟩
    subst ea;subst eb;have M1:=A8 (fun W (hW:Fp W)=>mul_T k1 k4 k5 W hW);have M2:=A8 (fun W (hW:Fp W)=>mul_T k2 k3 k6 W hW);have hfe:=I_eq (zS (DH na i)*zS db) (zS (DH nb i)*zS da);obtain ⟨sa,hsa⟩:∃ s,s=DH na i:=⟨_,rfl⟩;obtain ⟨sb,hsb⟩:∃ s,s=DH nb i:=⟨_,rfl⟩;rw [<-hsa] at xa M1 hfe;rw [<-hsb] at xb M2 hfe;obtain ⟨px,hpx⟩:∃ s,s=I (zS sa*zS db):=⟨_,rfl⟩;obtain ⟨py,hpy⟩:∃ s,s=I (zS sb*zS da):=⟨_,rfl⟩;rw [<-hpx] at M1 hfe;rw [<-hpy] at M2 hfe;replace hsa:=A8 hsa;replace hsb:=A8 hsb;have hC:=A8 (show ∀ W,BL w [(w.heap.size+1,#[.slice (some ⟨bb,ob,none⟩) lb cb,.string db],30),(w.heap.size,#[.slice (some ⟨ba,oa,none⟩) la ca,.string da],30)] W->(W.cell? ⟨w.heap.size,0,none⟩=some (.slice (some ⟨ba,oa,none⟩) la ca)/\W.cell? ⟨w.heap.size,1,none⟩=some (.string da)/\W.cell? ⟨w.heap.size+1,0,none⟩=some (.slice (some ⟨bb,ob,none⟩) lb cb)/\W.cell? ⟨w.heap.size+1,1,none⟩=some (.string db)/\W.cell? ⟨ba,oa+i,none⟩=some (.string sa)/\W.cell? ⟨bb,ob+i,none⟩=some (.string sb)) from fun W h=>⟨h.cell _ _ _ Ai 0,h.cell _ _ _ Ai 1,h.cell _ _ _ Ah 0,h.cell _ _ _ Ah 1,(h.below.cell (p:=⟨_,_,none⟩) hba).trans xa,(h.below.cell (p:=⟨_,_,none⟩) hbb).trans xb⟩);clear k1 k2 k3 k4 k5 k6 hpx hpy xa xb;go_upto_region 6 with fail;obtain ⟨x0,x1,x2,x3,x4,x5⟩:=hC.out _ hS;replace hS:=hS.drew;go_region_held3 (fun w'=>w'.cell? ⟨w.heap.size,0,none⟩=some (.slice (some ⟨ba,oa,none⟩) la ca)/\w'.cell? ⟨w.heap.size,1,none⟩=some (.string da)/\w'.cell? ⟨w.heap.size+1,0,none⟩=some (.slice (some ⟨bb,ob,none⟩) lb cb)/\w'.cell? ⟨w.heap.size+1,1,none⟩=some (.string db)/\w'.cell? ⟨ba,oa+i,none⟩=some (.string sa)/\w'.cell? ⟨bb,ob+i,none⟩=some (.string sb))
     (first | with_reducible exact hC.out _ hS | go_keep)
     (first | (go_at_call 44;(with_reducible refine Calls.mono (M1.out _ (hS.env hE.out)) ?_);rintro e w' ⟨rfl,hb⟩;replace hS:=hS.call hb;clear hb))
    all_goals (clear x0 x1 x2 x3 x4 x5)
    go_upto_region 7 with fail;obtain ⟨x0,x1,x2,x3,x4,x5⟩:=hC.out _ hS;replace hS:=hS.drew;go_region_held3 (fun w'=>w'.cell? ⟨w.heap.size,0,none⟩=some (.slice (some ⟨ba,oa,none⟩) la ca)/\w'.cell? ⟨w.heap.size,1,none⟩=some (.string da)/\w'.cell? ⟨w.heap.size+1,0,none⟩=some (.slice (some ⟨bb,ob,none⟩) lb cb)/\w'.cell? ⟨w.heap.size+1,1,none⟩=some (.string db)/\w'.cell? ⟨ba,oa+i,none⟩=some (.string sa)/\w'.cell? ⟨bb,ob+i,none⟩=some (.string sb))
     (first | with_reducible exact hC.out _ hS | go_keep)
     (first | (go_at_call 44;(with_reducible refine Calls.mono (M2.out _ (hS.env hE.out)) ?_);rintro e w' ⟨rfl,hb⟩;replace hS:=hS.call hb;clear hb))
    all_goals (clear x0 x1 x2 x3 x4 x5)
    by_cases heq:zS sa*zS db=zS sb*zS da
    ·rw [AF heq] at hfe
     have hall2:=A8 (show ∀ j,j<i+1->zS (DH na j)*zS db=zS (DH nb j)*zS da from fun j hj=>by
      by_cases e:j=i
      ·subst e;rw [<-hsa.out,<-hsb.out];exact heq
      ·exact hall.out j Ad)
     clear heq hall;go_wp2_with fail;go_roundw;case rel=>exact ⟨i+1,by go_num,Ad,hall2,hS⟩
     case measure=>simp [intOf];omega
    ·rw [Al heq] at hfe
     have hp:=hpost.out false i (.inl ⟨rfl,hil,by rw [<-hsa.out,<-hsb.out];exact heq⟩);replace hp:=A8 hp;clear heq;go_wp2;go_ret;exact ⟨Dm hp.out.symm,hS.below⟩
end
section
open Go.RowKit
attribute [local go_sem] Oper.semAt_some
def EV (l:List ByteArray):Nat->Int
 | 0=>1
 | k+1=>EV l k*zS (DH l k)
def Fv (l:List ByteArray) (k:Nat):Bool:=(List.range k).all (fun j=>decide (Do (EV l (j+1))))
theorem H7 (l:List ByteArray) (k:Nat):Fv l (k+1)=(Fv l k&&decide (Do (EV l (k+1)))):=by
 unfold Fv;rw [AZ,List.all_append];simp
theorem Vf {l:List ByteArray} {k n:Nat} (h:Fv l n=true) (hk:k<=n):Fv l k=true:=by
 unfold Fv at *
 rw [AE] at *
 intro j hj;exact h j (AB.2 (by have:=AB.1 hj;omega))
def FK (b0:Bool) (l:List ByteArray) (n:Nat):Bool:=b0&&Fv l n
def Ha (b0:Bool) (l:List ByteArray) (n:Nat):ByteArray:=if b0&&Fv l n then I (EV l n) else ⟨#[48]⟩
theorem Nk:Do 1:=by unfold Do;constructor <;> decide
theorem JF {l:List ByteArray}:∀ {k:Nat},Fv l k=true->Do (EV l k)
 | 0,_=>Nk
 | k+1,h=>by rw [H7,Ap,Aq] at h;exact h.2
theorem Mh (l:List ByteArray) (b off cap:Nat) (Bk:Nat) (b0:Bool) (w:World) (hl:l.length<=1000) (hpos:0<l.length) (hbw:b<w.heap.size) (hcell:∀ j,j<l.length->w.cell? ⟨b,off+j,none⟩=some (.string (DH l j))) (hok:∀ j,j<l.length->DK (DH l j)=true)
  (hk:Ds w Bk #[.bool b0] 4) (hbk:b≠Bk) (w0:World) (hE0:Fp w0) (hw0:Below w0.heap.size w0 w) (hBk:w0.heap.size<=Bk) :
  Calls Tryz.prog 52 #[.slice (some ⟨b,off,none⟩) l.length cap,.pointer (some ⟨Bk,0,none⟩)] w fun e w' =>
   e=.returned (.string (Ha b0 l l.length))/\Ds w' Bk #[.bool (FK b0 l l.length)] 4/\Dr [Bk] w w':=by
 have hcell':=A8 hcell
 replace hok:=A8 hok
 replace hE0:=A8 hE0
 replace hk:=A8 hk
 have I1:I (EV l 0)=⟨#[49]⟩:=by show I 1=_;unfold I;rw [DP Ae,DT Ae];rfl
 have hpost:Hid (∀ (r:ByteArray) (b1:Bool),(r=⟨#[48]⟩/\b1=false/\(b0&&Fv l l.length)=false)∨(r=I (EV l l.length)/\b1=true/\(b0&&Fv l l.length)=true)->Ha b0 l l.length=r/\FK b0 l l.length=b1):=A8 (fun r b1 h=>by
  unfold Ha FK;rcases h with ⟨rfl,rfl,h⟩ | ⟨rfl,rfl,h⟩
  ·rw [h];exact ⟨rfl,rfl⟩
  ·rw [h];exact ⟨rfl,rfl⟩)
 obtain ⟨n,hn⟩:∃ n,n=l.length:=⟨_,rfl⟩
 rw [<-hn] at hl hpos hcell' hok hpost |-
 clear hcell hn
 go_enter Tryz.func52,Tryz.ntmps52
 go_wp2_with fail
 go_loopw [4,11] (fun x o wr=>∃ i:Nat,x=.string (I (EV l i))/\o=.int .i64 i/\i<=n/\Hid ((i=0∨(b0=true/\Fv l i=true)))/\Hid (Dr [Bk] w wr)/\Hid (Ds wr Bk #[.bool b0] 4)) (fun _ o _=>n-(intOf o).toNat)
 case atStart=>exact ⟨0,by rw [I1],rfl,Ad,A8 (.inl rfl),A8 (Dr.refl _ _),hk⟩
 case round =>
  clear I1;obtain ⟨i,rfl,rfl,hi,hst,hO,hB⟩:=hrel;by_cases hlt:i<n;case neg =>
   have hlt':¬ (i:Int)<n:=by omega
   obtain rfl:i=n:=by omega
   have hp:=hst.out.resolve_left Ad;obtain ⟨p1,p2⟩:=hpost.out (I (EV l i)) true (.inr ⟨rfl,rfl,by rw [hp.1,hp.2];rfl⟩);have hb0:=hp.1;replace p1:=A8 p1;replace p2:=A8 p2;replace hb0:=A8 hb0;clear hp;go_wp2;go_ret;exact ⟨by rw [p1.out];rfl,by rw [p2.out,<-hb0.out];exact hB.out,hO.out⟩
  case pos =>
   have hlt':(i:Int)<n:=by omega
   have hi0:(0:Int)<=i:=by omega
   have x0:=(hO.out.cell (p:=⟨b,off+i,none⟩) hbw (by simpa using hbk)).trans (hcell'.out i hlt);have k1:=hok.out i hlt;have hsi:Do (EV l i):=by
    rcases hst.out with rfl | h
    ·exact Nk
    ·exact JF h.2
   have hpr:EV l (i+1)=EV l i*zS (DH l i):=rfl;have hbs:=H7 l i;obtain ⟨s,hs⟩:∃ s,s=DH l i:=⟨_,rfl⟩;rw [<-hs] at x0 k1 hpr;obtain ⟨z,hz⟩:∃ z,z=EV l (i+1):=⟨_,rfl⟩;have MU:=A8 (fun W (hW:Fp W)=>(by have:=Lh (I (EV l i)) s W hW;rw [Eh hsi,k1,Ee,AX,<-hpr,<-hz] at this;exact this:Calls Tryz.prog 44 #[.string (I (EV l i)),.string s] W (DA W fun r _=>r=EY true z)));have hEr:=hE0.out.below (hw0.trans (hO.out.toBelow hw0.size (by intro x hx;rw [B3.1 hx];exact hBk))) (Aa _);replace hEr:=A8 hEr;generalize I (EV l i)=out at *
   replace hz:=A8 hz;replace hbs:=A8 hbs;clear hsi hpr hs k1;by_cases hsm:Do z
   ·rw [F6 hsm] at MU
    have hz1:Fv l (i+1)=Fv l i:=by rw [hbs.out,<-hz.out,AF hsm,Bool.and_true]
    cases b0 with
    | true =>
     have hst2:Fv l (i+1)=true:=by
      rw [hz1];rcases hst.out with rfl | h
      ·rfl
      ·exact h.2
     replace hst2:=A8 hst2;go_wp2_with fail;refine Calls.mono (MU.out _ hEr.out) ?_;rintro e w1 ⟨⟨r,rfl,rfl⟩,hb⟩;have hO1:=A8 (hO.out.below hb);have hB1:=hB.out.below hb;have y0:=hB1.cell 0;have y1:=hB1.frozen 0;have hB2:=hB1.set 0 (.bool true);have hO2:=A8 (hO1.out.setCell (p:=⟨Bk,0,none⟩) Af (.bool true));clear x0 hb hsm hz1;go_wp2_with fail;go_roundw;case rel=>exact ⟨i+1,by rw [hz.out],by go_num,Ad,A8 (.inr ⟨(by first | trivial | rfl),hst2.out⟩),hO2,A8 hB2⟩
     case measure=>simp [intOf];omega
    | false =>
     obtain ⟨p1,p2⟩:=hpost.out ⟨#[48]⟩ false (.inl ⟨rfl,rfl,rfl⟩);replace p1:=A8 p1;replace p2:=A8 p2;go_wp2_with fail;refine Calls.mono (MU.out _ hEr.out) ?_;rintro e w1 ⟨⟨r,rfl,rfl⟩,hb⟩;have hO1:=A8 (hO.out.below hb);have hB1:=hB.out.below hb;have y0:=hB1.cell 0;have y1:=hB1.frozen 0;have hB2:=hB1.set 0 (.bool false);have hO2:=A8 (hO1.out.setCell (p:=⟨Bk,0,none⟩) Af (.bool false));clear x0 hb hsm hz1;go_wp2;go_ret;exact ⟨by rw [p1.out];rfl,by rw [p2.out];exact hB2,hO2.out⟩
   ·rw [LO hsm] at MU
    have hz1:(b0&&Fv l n)=false:=by
     cases hc:Fv l n with
     | false=>rw [Bool.and_false]
     | true =>
      have h1:=Vf hc (show i+1<=n by omega);rw [hbs.out,<-hz.out,Al hsm,Bool.and_false] at h1;cases h1
    obtain ⟨p1,p2⟩:=hpost.out ⟨#[48]⟩ false (.inl ⟨rfl,rfl,hz1⟩);replace p1:=A8 p1;replace p2:=A8 p2;have e30:((30:Int)==0)=false:=rfl;clear hz1 hsm;cases b0 <;>
    ·go_wp2_with fail
     refine Calls.mono (MU.out _ hEr.out) ?_;rintro e w1 ⟨⟨r,rfl,rfl⟩,hb⟩;have hO1:=A8 (hO.out.below hb);have hB1:=hB.out.below hb;have y0:=hB1.cell 0;have y1:=hB1.frozen 0;have hB2:=hB1.set 0 (.bool false);have hO2:=A8 (hO1.out.setCell (p:=⟨Bk,0,none⟩) Af (.bool false));clear x0 hb;go_wp2;go_ret;exact ⟨by rw [p1.out];rfl,by rw [p2.out];exact hB2,hO2.out⟩
theorem Sf:I 0=⟨#[48]⟩:=by unfold I;rw [DP Ae,DT Ae];rfl
theorem Sh {l:List ByteArray} {n:Nat} (b:Bool):DK (Ha b l n)=true:=by
 unfold Ha;split
 ·rename_i h
  rw [Ap] at h;exact Eh (JF h.2)
 ·rw [<-Sf];exact Eh LT
theorem own_one {W:World} {base:Nat} {x:Value} {t:TypeId} (hb:base<=W.heap.size):(W.alloc (.cells #[x] t)).ownsRow base t 1 (.slice (some ⟨W.heap.size,0,none⟩) 1 1) 1 [x] :=
 ⟨rfl,.inr ⟨W.heap.size,1,#[x],rfl,hb,Ds.new W #[x] t,Aa _,by unfold maxLen;decide,rfl,rfl⟩⟩
theorem above {Bk:Nat} {W W2:World} (hb:Below W.heap.size W W2):∀ g o:Nat,g≠Bk->g<W.heap.size->W2.cell? ⟨g,o,none⟩=W.cell? ⟨g,o,none⟩:=fun _ _ _ h2=>hb.cell (p:=⟨_,_,none⟩) h2
theorem beside {Bk:Nat} {W W2:World} (hb:Dr [Bk] W W2):∀ g o:Nat,g≠Bk->g<W.heap.size->W2.cell? ⟨g,o,none⟩=W.cell? ⟨g,o,none⟩:=fun _ _ h1 h2=>hb.cell (p:=⟨_,_,none⟩) h2 (by simpa using h1)
theorem cells3 {W:World} {g:Nat} {a b c:ByteArray} (h:W.cell? ⟨g,0,none⟩=some (.string a)/\W.cell? ⟨g,1,none⟩=some (.string b)/\W.cell? ⟨g,2,none⟩=some (.string c)):∀ j,j < [a,b,c].length->W.cell? ⟨g,0+j,none⟩=some (.string (DH [a,b,c] j)):=fun j hj=>by
 match j,hj with
 | 0,_=>exact h.1
 | 1,_=>exact h.2.1
 | 2,_=>exact h.2.2
theorem oks3 {a b c:ByteArray} (h:DK a=true/\DK b=true/\DK c=true):∀ j,j < [a,b,c].length->DK (DH [a,b,c] j)=true:=fun j hj=>by
 match j,hj with
 | 0,_=>exact h.1
 | 1,_=>exact h.2.1
 | 2,_=>exact h.2.2
theorem mix_r5 {Q:Exit->Act->World->Prop} {u0 u1 u6 u7 u8 u9 u10 u12 u13 u14 u15 u16 u17 u18 u19 u20 u21 u22 u23 u24 u25 u26 u27 u28 u29 u30 u31 u32 u33 u34 u35 u36 u37 u38 u39 u40 u41 u42 u43 u44 u45 u46 u47 u48 u49 u50 u51 u52 u53 u54 u55 u56 u57 u58 u59 u60 u61 u62 u63 u64 u65 u66 u67 u68 u69 u70 u71 u72 u73 u74 u75 u76 u77 u78 u79 u80 u81 u82 u83 u84 u85 u86 u87 u88 u89 u90 u91 u92 u93 u94 u95 u96 u97 u98 u99 u100 u101 u102 u103 u104 u105 u106 u107 u108 u109 u110 u111 u112 u113 u114 u115 u116 u117 u118 u119 u120 u121 u122 u123 u124 u125 u126 u127 u128 u129 u130 u131 u132 u133 u134 u135 u136 u137 u138 u139 u140 u141 u142 u143 u144 u145 u146 u147 u148 u149 u150 u151 u152:Value} {p q pq:Int} {b0 b1 Bk:Nat} {da db:ByteArray} {w0 w:World} (hE:Hid (Fp w0)) (h0:Hid (Below w0.heap.size w0 w/\w0.heap.size<=Bk)) (hpq:IntKind.i64.wrap (p+q)=pq) (hfp:Hid (Dy pq/\Do pq)) (hd:Hid (DK da=true/\DK db=true)) (hcell:Hid (∀ W,Dr [Bk] w W->W.cell? ⟨b0,1,none⟩=some (.string da)/\W.cell? ⟨b1,1,none⟩=some (.string db))) (hBk:Hid (Bk<w.heap.size)) (hB:Hid (Ds w Bk #[.bool true] 4)) {ops:Array Oper} (ho:Dt Tryz.f18.body 5=some ops)
  (hQ:∀ (v50 v51 v52 v53 v54 v55 v56 v57 v58 v59 v60 v61:Value) (gr:Nat) (W':World),Dr [Bk] w W'->Ds W' Bk #[.bool (FK true [I pq,da,db] 3)] 4->W'.ownsRow w.heap.size 9 1 (.slice (some ⟨gr,0,none⟩) 1 1) 1 [.string (Ha true [I pq,da,db] 3)]->Q .normal { tmps:=List.toArray (u0::u1::.int .i64 p::.int .i64 q::.pointer (some ⟨b0,0,none⟩)::.pointer (some ⟨b1,0,none⟩)::u6::u7::u8::u9::u10::.func (.func 52) #[] #[.pointer (some ⟨Bk,0,none⟩)]::.slice (some ⟨gr,0,none⟩) 1 1::u13::u14::u15::u16::u17::u18::u19::u20::u21::u22::u23::u24::u25::u26::u27::u28::u29::u30::u31::u32::u33::u34::u35::u36::u37::u38::u39::u40::u41::u42::u43::u44::u45::u46::u47::u48::u49::v50::v51::v52::v53::v54::v55::v56::v57::v58::v59::v60::v61::u62::u63::u64::u65::u66::u67::u68::u69::u70::u71::u72::u73::u74::u75::u76::u77::u78::u79::u80::u81::u82::u83::u84::u85::u86::u87::u88::u89::u90::u91::u92::u93::u94::u95::u96::u97::u98::u99::u100::u101::u102::u103::u104::u105::u106::u107::u108::u109::u110::u111::u112::u113::u114::u115::u116::u117::u118::u119::u120::u121::u122::u123::u124::u125::u126::u127::u128::u129::u130::u131::u132::u133::u134::u135::u136::u137::u138::u139::u140::u141::u142::u143::u144::u145::u146::u147::u148::u149::u150::u151::u152::[]),defers:=[] } W') :
  (Code.region 5 ops true).wp Tryz.prog Q { tmps:=List.toArray (u0::u1::.int .i64 p::.int .i64 q::.pointer (some ⟨b0,0,none⟩)::.pointer (some ⟨b1,0,none⟩)::u6::u7::u8::u9::u10::.func (.func 52) #[] #[.pointer (some ⟨Bk,0,none⟩)]::u12::u13::u14::u15::u16::u17::u18::u19::u20::u21::u22::u23::u24::u25::u26::u27::u28::u29::u30::u31::u32::u33::u34::u35::u36::u37::u38::u39::u40::u41::u42::u43::u44::u45::u46::u47::u48::u49::u50::u51::u52::u53::u54::u55::u56::u57::u58::u59::u60::u61::u62::u63::u64::u65::u66::u67::u68::u69::u70::u71::u72::u73::u74::u75::u76::u77::u78::u79::u80::u81::u82::u83::u84::u85::u86::u87::u88::u89::u90::u91::u92::u93::u94::u95::u96::u97::u98::u99::u100::u101::u102::u103::u104::u105::u106::u107::u108::u109::u110::u111::u112::u113::u114::u115::u116::u117::u118::u119::u120::u121::u122::u123::u124::u125::u126::u127::u128::u129::u130::u131::u132::u133::u134::u135::u136::u137::u138::u139::u140::u141::u142::u143::u144::u145::u146::u147::u148::u149::u150::u151::u152::[]),defers:=[] } w:=by
 obtain rfl:=B4 (ho.symm.trans (rfl:Dt Tryz.f18.body 5=some _))
 clear ho
 replace hQ:=A8 hQ
 obtain ⟨Iv,hI⟩:∃ Iv:(Nat->Bool)->Act->World->Prop,∀ l a W,Iv l a W↔(∃ s50 s51 s52 s53 s54 s55 s56 s57 s58 s59 s60 s61 s12:Value,a={ tmps:=List.toArray (u0::u1::.int .i64 p::.int .i64 q::.pointer (some ⟨b0,0,none⟩)::.pointer (some ⟨b1,0,none⟩)::u6::u7::u8::u9::u10::.func (.func 52) #[] #[.pointer (some ⟨Bk,0,none⟩)]::s12::u13::u14::u15::u16::u17::u18::u19::u20::u21::u22::u23::u24::u25::u26::u27::u28::u29::u30::u31::u32::u33::u34::u35::u36::u37::u38::u39::u40::u41::u42::u43::u44::u45::u46::u47::u48::u49::s50::s51::s52::s53::s54::s55::s56::s57::s58::s59::s60::s61::u62::u63::u64::u65::u66::u67::u68::u69::u70::u71::u72::u73::u74::u75::u76::u77::u78::u79::u80::u81::u82::u83::u84::u85::u86::u87::u88::u89::u90::u91::u92::u93::u94::u95::u96::u97::u98::u99::u100::u101::u102::u103::u104::u105::u106::u107::u108::u109::u110::u111::u112::u113::u114::u115::u116::u117::u118::u119::u120::u121::u122::u123::u124::u125::u126::u127::u128::u129::u130::u131::u132::u133::u134::u135::u136::u137::u138::u139::u140::u141::u142::u143::u144::u145::u146::u147::u148::u149::u150::u151::u152::[]),defers:=[] }/\Dr [Bk] w W/\Vs [(0,.func (.func 52) #[] #[.pointer (some ⟨Bk,0,none⟩)],s50),(1,.int .i64 p,s51),(2,.int .i64 q,s52),(3,.int .i64 pq,s53),(5,.pointer (some ⟨b0,1,none⟩),s55),(6,.string da,s56),(7,.pointer (some ⟨b1,1,none⟩),s57),(8,.string db,s58)] l/\(l 4=true->.string (I pq)=s54)/\(l 9=true->(l 10=false->∃ g:Nat,s59=.slice (some ⟨g,0,none⟩) 3 3/\(W.cell? ⟨g,0,none⟩=some (.string (I pq))/\W.cell? ⟨g,1,none⟩=some (.string (da))/\W.cell? ⟨g,2,none⟩=some (.string (db)))/\g<W.heap.size/\g≠Bk))/\(l 10=true->.string (Ha true [I pq,da,db] 3)=s60)/\(l 11=true->(∃ g:Nat,s61=.slice (some ⟨g,0,none⟩) 1 1/\W.ownsRow w.heap.size 9 1 (.slice (some ⟨g,0,none⟩) 1 1) 1 [.string (Ha true [I pq,da,db] 3)]))/\(l 12=true->(∃ g:Nat,s12=.slice (some ⟨g,0,none⟩) 1 1/\W.ownsRow w.heap.size 9 1 (.slice (some ⟨g,0,none⟩) 1 1) 1 [.string (Ha true [I pq,da,db] 3)]))/\((l 10=false->Ds W Bk #[.bool true] 4)/\(l 10=true->Ds W Bk #[.bool (FK true [I pq,da,db] 3)] 4))):=⟨_,fun _ _ _=>B6⟩
 refine DW Iv Ab Ab ((hI _ _ _).2 ⟨_,_,_,_,_,_,_,_,_,_,_,_,_,rfl,(Dr.refl [Bk] w).drewN 1,Vs.zero,fun h=>off h,fun h=>off h,fun h=>off h,fun h=>off h,fun h=>off h,⟨fun _=>hB.out.below (Dq w 1),fun h=>off h⟩⟩) (Dk (k:=0) ?_ (Dk (k:=1) ?_ (Dk (k:=2) ?_ (Dk (k:=3) ?_ (Dk (k:=4) ?_ (Dk (k:=5) ?_ (Dk (k:=6) ?_ (Dk (k:=7) ?_ (Dk (k:=8) ?_ (Dk (k:=9) ?_ (Dk (k:=10) ?_ (Dk (k:=11) ?_ (Dk (k:=12) ?_ (Du)))))))))))))) ?_
 ·intro l a W hl hw hsh h K hK
  rw [hI] at h;iterate 13 obtain ⟨_,h⟩:=h
  obtain ⟨rfl,hC,hP,f4,f9,f10,h⟩:=h;obtain ⟨f11,f12,g⟩:=h;go_simp;apply hK.out;rw [hI];iterate 13 apply Exists.intro
  exact ⟨rfl,hC,hP.put 0 rfl rfl rfl,f4,f9,f10,f11,f12,g⟩
 ·intro l a W hl hw hsh h K hK
  rw [hI] at h;iterate 13 obtain ⟨_,h⟩:=h
  obtain ⟨rfl,hC,hP,f4,f9,f10,h⟩:=h;obtain ⟨f11,f12,g⟩:=h;go_simp;apply hK.out;rw [hI];iterate 13 apply Exists.intro
  exact ⟨rfl,hC,hP.put 1 rfl rfl rfl,f4,f9,f10,f11,f12,g⟩
 ·intro l a W hl hw hsh h K hK
  rw [hI] at h;iterate 13 obtain ⟨_,h⟩:=h
  obtain ⟨rfl,hC,hP,f4,f9,f10,h⟩:=h;obtain ⟨f11,f12,g⟩:=h;go_simp;apply hK.out;rw [hI];iterate 13 apply Exists.intro
  exact ⟨rfl,hC,hP.put 2 rfl rfl rfl,f4,f9,f10,f11,f12,g⟩
 ·intro l a W hl hw hsh h K hK
  rw [hI] at h;iterate 13 obtain ⟨_,h⟩:=h
  obtain ⟨rfl,hC,hP,f4,f9,f10,h⟩:=h;obtain ⟨f11,f12,g⟩:=h;obtain rfl:=hP.get 1 rfl (hw 1 Ab);obtain rfl:=hP.get 2 rfl (hw 2 Ab);go_simp;apply hK.out;rw [hI];iterate 13 apply Exists.intro
  exact ⟨rfl,hC,hP.put 3 rfl rfl rfl,f4,f9,f10,f11,f12,g⟩
 ·intro l a W hl hw hsh h K hK
  rw [hI] at h;iterate 13 obtain ⟨_,h⟩:=h
  obtain ⟨rfl,hC,hP,f4,f9,f10,h⟩:=h;obtain ⟨f11,f12,g⟩:=h;obtain rfl:=hP.get 3 rfl (hw 3 Ab);go_simp;go_at_call 45;refine Calls.mono (Oc hfp.out.1 _ (hE.out.below (h0.out.1.trans (hC.toBelow h0.out.1.size (by intro x hx;rw [B3.1 hx];exact h0.out.2))) (Aa _))) ?_;rintro e W2 ⟨rfl,hb⟩;have hcellx:=@above Bk _ _ hb;have hsz:=hb.size;apply hK.out;rw [hI];iterate 13 apply Exists.intro
  exact ⟨rfl,hC.below hb,hP.skip 4 rfl,fun _=>rfl,(fun h h5=>(let ⟨g,e,⟨a,b,c⟩,u,v⟩:=f9 h h5;⟨g,e,⟨(hcellx g 0 v u).trans a,(hcellx g 1 v u).trans b,(hcellx g 2 v u).trans c⟩,A9 u hsz,v⟩)),f10,(fun h=>(let ⟨g,e,a⟩:=f11 h;⟨g,e,E8 a hb⟩)),(fun h=>(let ⟨g,e,a⟩:=f12 h;⟨g,e,E8 a hb⟩)),⟨fun h=>(g.1 h).below hb,fun h=>(g.2 h).below hb⟩⟩
 ·intro l a W hl hw hsh h K hK
  rw [hI] at h;iterate 13 obtain ⟨_,h⟩:=h
  obtain ⟨rfl,hC,hP,f4,f9,f10,h⟩:=h;obtain ⟨f11,f12,g⟩:=h;go_simp;apply hK.out;rw [hI];iterate 13 apply Exists.intro
  exact ⟨rfl,hC,hP.put 4 rfl rfl rfl,f4,f9,f10,f11,f12,g⟩
 ·intro l a W hl hw hsh h K hK
  rw [hI] at h;iterate 13 obtain ⟨_,h⟩:=h
  obtain ⟨rfl,hC,hP,f4,f9,f10,h⟩:=h;obtain ⟨f11,f12,g⟩:=h;obtain rfl:=hP.get 4 rfl (hw 5 Ab);obtain ⟨x0,x1⟩:=hcell.out _ hC;go_simp;apply hK.out;rw [hI];iterate 13 apply Exists.intro
  exact ⟨rfl,hC,hP.put 5 rfl rfl rfl,f4,f9,f10,f11,f12,g⟩
 ·intro l a W hl hw hsh h K hK
  rw [hI] at h;iterate 13 obtain ⟨_,h⟩:=h
  obtain ⟨rfl,hC,hP,f4,f9,f10,h⟩:=h;obtain ⟨f11,f12,g⟩:=h;go_simp;apply hK.out;rw [hI];iterate 13 apply Exists.intro
  exact ⟨rfl,hC,hP.put 6 rfl rfl rfl,f4,f9,f10,f11,f12,g⟩
 ·intro l a W hl hw hsh h K hK
  rw [hI] at h;iterate 13 obtain ⟨_,h⟩:=h
  obtain ⟨rfl,hC,hP,f4,f9,f10,h⟩:=h;obtain ⟨f11,f12,g⟩:=h;obtain rfl:=hP.get 6 rfl (hw 7 Ab);obtain ⟨x0,x1⟩:=hcell.out _ hC;go_simp;apply hK.out;rw [hI];iterate 13 apply Exists.intro
  exact ⟨rfl,hC,hP.put 7 rfl rfl rfl,f4,f9,f10,f11,f12,g⟩
 ·intro l a W hl hw hsh h K hK
  rw [hI] at h;iterate 13 obtain ⟨_,h⟩:=h
  obtain ⟨rfl,hC,hP,f4,f9,f10,h⟩:=h;obtain ⟨f11,f12,g⟩:=h;obtain rfl:=f4 (hw 4 Ab);obtain rfl:=hP.get 5 rfl (hw 6 Ab);obtain rfl:=hP.get 7 rfl (hw 8 Ab);go_simp;have hb:=(Below.refl W.heap.size W).alloc (Aa _) (.cells #[.string (I pq),.string (da),.string (db)] 9);have kn:=Ds.new W #[.string (I pq),.string (da),.string (db)] 9;have hcellx:=@above Bk _ _ hb;have hsz:=hb.size;apply hK.out;rw [hI];iterate 13 apply Exists.intro
  exact ⟨rfl,hC.below hb,hP.skip 9 rfl,f4,fun _ _=>⟨_,rfl,⟨kn.cell 0,kn.cell 1,kn.cell 2⟩,kn.lt,fun e=>by have:=A9 hBk.out hC.size;omega⟩,f10,(fun h=>(let ⟨g,e,a⟩:=f11 h;⟨g,e,E8 a hb⟩)),(fun h=>(let ⟨g,e,a⟩:=f12 h;⟨g,e,E8 a hb⟩)),⟨fun h=>(g.1 h).below hb,fun h=>(g.2 h).below hb⟩⟩
 ·intro l a W hl hw hsh h K hK
  rw [hI] at h;iterate 13 obtain ⟨_,h⟩:=h
  obtain ⟨rfl,hC,hP,f4,f9,f10,h⟩:=h;obtain ⟨f11,f12,g⟩:=h;obtain rfl:=hP.get 0 rfl (hw 0 Ab);have h11:l 11=true->true=false:=fun h=>absurd (hsh 11 10 _ rfl h Ab) (by simp [hl])
  have h12:l 12=true->true=false:=fun h=>absurd (hsh 11 10 _ rfl (hsh 12 11 _ rfl h Ab) Ab) (by simp [hl])
  obtain ⟨gl,el,hgc,hgl,hgne⟩:=f9 (hw 9 Ab) hl;subst el;go_simp;go_at_call 52;refine Calls.mono (Mh [I pq,da,db] gl 0 3 Bk true W Af Af hgl (cells3 hgc) (oks3 ⟨Eh hfp.out.2,hd.out⟩) (g.1 hl) hgne w0 hE.out (h0.out.1.trans (hC.toBelow h0.out.1.size (by intro x hx;rw [B3.1 hx];exact h0.out.2))) h0.out.2) ?_;rintro e W2 ⟨rfl,hk2,ho2⟩;have hcellx:=beside ho2;have hsz:=ho2.size;apply hK.out;rw [hI];iterate 13 apply Exists.intro
  exact ⟨rfl,hC.trans ho2,hP.skip 10 rfl,f4,(fun _ h5=>off h5.symm),fun _=>rfl,(fun h=>off ((h11 h).symm)),(fun h=>off ((h12 h).symm)),⟨fun h=>off h.symm,fun _=>hk2⟩⟩
 ·intro l a W hl hw hsh h K hK
  rw [hI] at h;iterate 13 obtain ⟨_,h⟩:=h
  obtain ⟨rfl,hC,hP,f4,f9,f10,h⟩:=h;obtain ⟨f11,f12,g⟩:=h;obtain rfl:=f10 (hw 10 Ab);go_simp;have hb:=(Below.refl W.heap.size W).alloc (Aa _) (.cells #[.string (Ha true [I pq,da,db] 3)] 9);have hcellx:=@above Bk _ _ hb;have hsz:=hb.size;apply hK.out;rw [hI];iterate 13 apply Exists.intro
  exact ⟨rfl,hC.below hb,hP.skip 11 rfl,f4,(fun h h5=>(let ⟨g,e,⟨a,b,c⟩,u,v⟩:=f9 h h5;⟨g,e,⟨(hcellx g 0 v u).trans a,(hcellx g 1 v u).trans b,(hcellx g 2 v u).trans c⟩,A9 u hsz,v⟩)),f10,fun _=>⟨_,rfl,own_one hC.size⟩,(fun h=>(let ⟨g,e,a⟩:=f12 h;⟨g,e,E8 a hb⟩)),⟨fun h=>(g.1 h).below hb,fun h=>(g.2 h).below hb⟩⟩
 ·intro l a W hl hw hsh h K hK
  rw [hI] at h;iterate 13 obtain ⟨_,h⟩:=h
  obtain ⟨rfl,hC,hP,f4,f9,f10,h⟩:=h;obtain ⟨f11,f12,g⟩:=h;obtain ⟨gr,rfl,hrow⟩:=f11 (hw 11 Ab);go_simp;apply hK.out;rw [hI];iterate 13 apply Exists.intro
  exact ⟨rfl,hC,hP.skip 12 rfl,f4,f9,f10,f11,fun _=>⟨gr,rfl,hrow⟩,g⟩
 ·intro a W hI'
  have h:=(hI _ _ _).1 hI';clear hI';iterate 13 obtain ⟨_,h⟩:=h
  obtain ⟨rfl,hC,hP,f4,f9,f10,h⟩:=h;obtain ⟨f11,f12,g⟩:=h;clear f4;clear f9;clear f10;clear f11;obtain ⟨gr,rfl,hrow⟩:=f12 Ab;exact hQ.out _ _ _ _ _ _ _ _ _ _ _ _ gr _ hC (g.2 Ab) hrow
theorem mix_r9 {Q:Exit->Act->World->Prop} {u0 u1 u6 u7 u8 u9 u10 u12 u14 u15 u16 u17 u18 u19 u20 u21 u22 u23 u24 u25 u26 u27 u28 u29 u30 u31 u32 u33 u34 u35 u36 u37 u38 u39 u40 u41 u42 u43 u44 u45 u46 u47 u48 u49 u50 u51 u52 u53 u54 u55 u56 u57 u58 u59 u60 u61 u62 u63 u64 u65 u66 u67 u68 u69 u70 u71 u72 u73 u74 u75 u76 u77 u78 u79 u80 u81 u82 u83 u84 u85 u86 u87 u88 u89 u90 u91 u92 u93 u94 u95 u96 u97 u98 u99 u100 u101 u102 u103 u104 u105 u106 u107 u108 u109 u110 u111 u112 u113 u114 u115 u116 u117 u118 u119 u120 u121 u122 u123 u124 u125 u126 u127 u128 u129 u130 u131 u132 u133 u134 u135 u136 u137 u138 u139 u140 u141 u142 u143 u144 u145 u146 u147 u148 u149 u150 u151 u152:Value} {p q:Int} {b0 b1 Bk n i ga oa ca gb ob cb:Nat} {fl:Bool} {da db sa sb S:ByteArray} {E:Int} {w0 w:World} (hE:Hid (Fp w0)) (h0:Hid (Below w0.heap.size w0 w/\w0.heap.size<=Bk)) (hfp:Hid (Dy p/\Do p)) (hfq:Hid (Dy q/\Do q)) (hd:Hid (DK da=true/\DK db=true/\DK sa=true/\DK sb=true)) (hi:(i:Int)<n) (hi0:(0:Int)<=i)
  (hcell:Hid (∀ W,Dr [Bk] w W->W.cell? ⟨b0,0,none⟩=some (.slice (some ⟨ga,oa,none⟩) n ca)/\W.cell? ⟨b0,1,none⟩=some (.string da)/\W.cell? ⟨b1,0,none⟩=some (.slice (some ⟨gb,ob,none⟩) n cb)/\W.cell? ⟨b1,1,none⟩=some (.string db)/\W.cell? ⟨ga,oa+i,none⟩=some (.string sa)/\W.cell? ⟨gb,ob+i,none⟩=some (.string sb))) (hBk:Hid (Bk<w.heap.size)) (hB:Hid (Ds w Bk #[.bool fl] 4))
  (hAd:Hid (EY true (zS (Ha fl [I p,sa,db] 3)+zS (Ha (FK fl [I p,sa,db] 3) [I q,sb,da] 3))=.tuple #[.string S,.int .i64 E])) {ops:Array Oper} (ho:Dt Tryz.f18.body 9=some ops)
  (hQ:∀ (v69 v70 v71 v72 v73 v74 v75 v76 v77 v78 v79 v80 v81 v82 v83 v84 v85 v86 v87 v88 v89 v90 v91 v92 v93 v68 v94 v95:Value)  (W':World),Dr [Bk] w W'->Ds W' Bk #[.bool (FK (FK fl [I p,sa,db] 3) [I q,sb,da] 3)] 4->Q .normal { tmps:=List.toArray (u0::u1::.int .i64 p::.int .i64 q::.pointer (some ⟨b0,0,none⟩)::.pointer (some ⟨b1,0,none⟩)::u6::u7::u8::u9::u10::.func (.func 52) #[] #[.pointer (some ⟨Bk,0,none⟩)]::u12::.int .i64 i::.string S::.int .i64 E::u16::u17::u18::u19::u20::u21::u22::u23::u24::u25::u26::u27::u28::u29::u30::u31::u32::u33::u34::u35::u36::u37::u38::u39::u40::u41::u42::u43::u44::u45::u46::u47::u48::u49::u50::u51::u52::u53::u54::u55::u56::u57::u58::u59::u60::u61::u62::u63::u64::u65::u66::u67::v68::v69::v70::v71::v72::v73::v74::v75::v76::v77::v78::v79::v80::v81::v82::v83::v84::v85::v86::v87::v88::v89::v90::v91::v92::v93::v94::v95::u96::u97::u98::u99::u100::u101::u102::u103::u104::u105::u106::u107::u108::u109::u110::u111::u112::u113::u114::u115::u116::u117::u118::u119::u120::u121::u122::u123::u124::u125::u126::u127::u128::u129::u130::u131::u132::u133::u134::u135::u136::u137::u138::u139::u140::u141::u142::u143::u144::u145::u146::u147::u148::u149::u150::u151::u152::[]),defers:=[] } W') :
  (Code.region 9 ops true).wp Tryz.prog Q { tmps:=List.toArray (u0::u1::.int .i64 p::.int .i64 q::.pointer (some ⟨b0,0,none⟩)::.pointer (some ⟨b1,0,none⟩)::u6::u7::u8::u9::u10::.func (.func 52) #[] #[.pointer (some ⟨Bk,0,none⟩)]::u12::.int .i64 i::u14::u15::u16::u17::u18::u19::u20::u21::u22::u23::u24::u25::u26::u27::u28::u29::u30::u31::u32::u33::u34::u35::u36::u37::u38::u39::u40::u41::u42::u43::u44::u45::u46::u47::u48::u49::u50::u51::u52::u53::u54::u55::u56::u57::u58::u59::u60::u61::u62::u63::u64::u65::u66::u67::u68::u69::u70::u71::u72::u73::u74::u75::u76::u77::u78::u79::u80::u81::u82::u83::u84::u85::u86::u87::u88::u89::u90::u91::u92::u93::u94::u95::u96::u97::u98::u99::u100::u101::u102::u103::u104::u105::u106::u107::u108::u109::u110::u111::u112::u113::u114::u115::u116::u117::u118::u119::u120::u121::u122::u123::u124::u125::u126::u127::u128::u129::u130::u131::u132::u133::u134::u135::u136::u137::u138::u139::u140::u141::u142::u143::u144::u145::u146::u147::u148::u149::u150::u151::u152::[]),defers:=[] } w:=by
 obtain rfl:=B4 (ho.symm.trans (rfl:Dt Tryz.f18.body 9=some _))
 clear ho
 replace hQ:=A8 hQ
 obtain ⟨Iv,hI⟩:∃ Iv:(Nat->Bool)->Act->World->Prop,∀ l a W,Iv l a W↔(∃ s69 s70 s71 s72 s73 s74 s75 s76 s77 s78 s79 s80 s81 s82 s83 s84 s85 s86 s87 s88 s89 s90 s91 s92 s93 s68 s94 s95 s14 s15:Value,a={ tmps:=List.toArray (u0::u1::.int .i64 p::.int .i64 q::.pointer (some ⟨b0,0,none⟩)::.pointer (some ⟨b1,0,none⟩)::u6::u7::u8::u9::u10::.func (.func 52) #[] #[.pointer (some ⟨Bk,0,none⟩)]::u12::.int .i64 i::s14::s15::u16::u17::u18::u19::u20::u21::u22::u23::u24::u25::u26::u27::u28::u29::u30::u31::u32::u33::u34::u35::u36::u37::u38::u39::u40::u41::u42::u43::u44::u45::u46::u47::u48::u49::u50::u51::u52::u53::u54::u55::u56::u57::u58::u59::u60::u61::u62::u63::u64::u65::u66::u67::s68::s69::s70::s71::s72::s73::s74::s75::s76::s77::s78::s79::s80::s81::s82::s83::s84::s85::s86::s87::s88::s89::s90::s91::s92::s93::s94::s95::u96::u97::u98::u99::u100::u101::u102::u103::u104::u105::u106::u107::u108::u109::u110::u111::u112::u113::u114::u115::u116::u117::u118::u119::u120::u121::u122::u123::u124::u125::u126::u127::u128::u129::u130::u131::u132::u133::u134::u135::u136::u137::u138::u139::u140::u141::u142::u143::u144::u145::u146::u147::u148::u149::u150::u151::u152::[]),defers:=[] }/\Dr [Bk] w W/\Vs [(0,.func (.func 52) #[] #[.pointer (some ⟨Bk,0,none⟩)],s69),(1,.int .i64 p,s70),(3,.pointer (some ⟨b0,0,none⟩),s72),(4,.slice (some ⟨ga,oa,none⟩) n ca,s73),(5,.int .i64 i,s74),(6,.pointer (some ⟨ga,oa+i,none⟩),s75),(7,.string sa,s76),(8,.pointer (some ⟨b1,1,none⟩),s77),(9,.string db,s78),(12,.func (.func 52) #[] #[.pointer (some ⟨Bk,0,none⟩)],s81),(13,.int .i64 q,s82),(15,.pointer (some ⟨b1,0,none⟩),s84),(16,.slice (some ⟨gb,ob,none⟩) n cb,s85),(17,.int .i64 i,s86),(18,.pointer (some ⟨gb,ob+i,none⟩),s87),(19,.string sb,s88),(20,.pointer (some ⟨b0,1,none⟩),s89),(21,.string da,s90),(25,.tuple #[.string S,.int .i64 E],s68),(26,.string S,s94),(27,.int .i64 E,s95),(28,.string S,s14),(29,.int .i64 E,s15)] l/\(l 2=true->.string (I p)=s71)/\(l 10=true->(l 11=false->∃ g:Nat,s79=.slice (some ⟨g,0,none⟩) 3 3/\(W.cell? ⟨g,0,none⟩=some (.string (I p))/\W.cell? ⟨g,1,none⟩=some (.string (sa))/\W.cell? ⟨g,2,none⟩=some (.string (db)))/\g<W.heap.size/\g≠Bk))/\(l 11=true->.string (Ha fl [I p,sa,db] 3)=s80)/\(l 14=true->.string (I q)=s83)/\(l 22=true->(l 23=false->∃ g:Nat,s91=.slice (some ⟨g,0,none⟩) 3 3/\(W.cell? ⟨g,0,none⟩=some (.string (I q))/\W.cell? ⟨g,1,none⟩=some (.string (sb))/\W.cell? ⟨g,2,none⟩=some (.string (da)))/\g<W.heap.size/\g≠Bk))/\(l 23=true->.string (Ha (FK fl [I p,sa,db] 3) [I q,sb,da] 3)=s92)/\(l 24=true->.tuple #[.string S,.int .i64 E]=s93)/\((l 11=false->Ds W Bk #[.bool fl] 4)/\(l 11=true->l 23=false->Ds W Bk #[.bool (FK fl [I p,sa,db] 3)] 4)/\(l 23=true->Ds W Bk #[.bool (FK (FK fl [I p,sa,db] 3) [I q,sb,da] 3)] 4))):=⟨_,fun _ _ _=>B6⟩
 refine DW Iv Ab Ab ((hI _ _ _).2 ⟨_,_,_,_,_,_,_,_,_,_,_,_,_,_,_,_,_,_,_,_,_,_,_,_,_,_,_,_,_,_,rfl,(Dr.refl [Bk] w).drewN 1,Vs.zero,fun h=>off h,fun h=>off h,fun h=>off h,fun h=>off h,fun h=>off h,fun h=>off h,fun h=>off h,⟨fun _=>hB.out.below (Dq w 1),fun h=>off h,fun h=>off h⟩⟩) (Dk (k:=0) ?_ (Dk (k:=1) ?_ (Dk (k:=2) ?_ (Dk (k:=3) ?_ (Dk (k:=4) ?_ (Dk (k:=5) ?_ (Dk (k:=6) ?_ (Dk (k:=7) ?_ (Dk (k:=8) ?_ (Dk (k:=9) ?_ (Dk (k:=10) ?_ (Dk (k:=11) ?_ (Dk (k:=12) ?_ (Dk (k:=13) ?_ (Dk (k:=14) ?_ (Dk (k:=15) ?_ (Dk (k:=16) ?_ (Dk (k:=17) ?_ (Dk (k:=18) ?_ (Dk (k:=19) ?_ (Dk (k:=20) ?_ (Dk (k:=21) ?_ (Dk (k:=22) ?_ (Dk (k:=23) ?_ (Dk (k:=24) ?_ (Dk (k:=25) ?_ (Dk (k:=26) ?_ (Dk (k:=27) ?_ (Dk (k:=28) ?_ (Dk (k:=29) ?_ (Du))))))))))))))))))))))))))))))) ?_
 ·intro l a W hl hw hsh h K hK
  rw [hI] at h;iterate 30 obtain ⟨_,h⟩:=h
  obtain ⟨rfl,hC,hP,f2,f10,f11,h⟩:=h;obtain ⟨f14,f22,f23,f24,g⟩:=h;go_simp;apply hK.out;rw [hI];iterate 30 apply Exists.intro
  exact ⟨rfl,hC,hP.put 0 rfl rfl rfl,f2,f10,f11,f14,f22,f23,f24,g⟩
 ·intro l a W hl hw hsh h K hK
  rw [hI] at h;iterate 30 obtain ⟨_,h⟩:=h
  obtain ⟨rfl,hC,hP,f2,f10,f11,h⟩:=h;obtain ⟨f14,f22,f23,f24,g⟩:=h;go_simp;apply hK.out;rw [hI];iterate 30 apply Exists.intro
  exact ⟨rfl,hC,hP.put 1 rfl rfl rfl,f2,f10,f11,f14,f22,f23,f24,g⟩
 ·intro l a W hl hw hsh h K hK
  rw [hI] at h;iterate 30 obtain ⟨_,h⟩:=h
  obtain ⟨rfl,hC,hP,f2,f10,f11,h⟩:=h;obtain ⟨f14,f22,f23,f24,g⟩:=h;obtain rfl:=hP.get 1 rfl (hw 1 Ab);go_simp;go_at_call 45;refine Calls.mono (Oc hfp.out.1 _ (hE.out.below (h0.out.1.trans (hC.toBelow h0.out.1.size (by intro x hx;rw [B3.1 hx];exact h0.out.2))) (Aa _))) ?_;rintro e W2 ⟨rfl,hb⟩;have hcellx:=@above Bk _ _ hb;have hsz:=hb.size;apply hK.out;rw [hI];iterate 30 apply Exists.intro
  exact ⟨rfl,hC.below hb,hP.skip 2 rfl,fun _=>rfl,(fun h h5=>(let ⟨g,e,⟨a,b,c⟩,u,v⟩:=f10 h h5;⟨g,e,⟨(hcellx g 0 v u).trans a,(hcellx g 1 v u).trans b,(hcellx g 2 v u).trans c⟩,A9 u hsz,v⟩)),f11,f14,(fun h h5=>(let ⟨g,e,⟨a,b,c⟩,u,v⟩:=f22 h h5;⟨g,e,⟨(hcellx g 0 v u).trans a,(hcellx g 1 v u).trans b,(hcellx g 2 v u).trans c⟩,A9 u hsz,v⟩)),f23,f24,⟨fun h=>(g.1 h).below hb,fun h h2=>(g.2.1 h h2).below hb,fun h=>(g.2.2 h).below hb⟩⟩
 ·intro l a W hl hw hsh h K hK
  rw [hI] at h;iterate 30 obtain ⟨_,h⟩:=h
  obtain ⟨rfl,hC,hP,f2,f10,f11,h⟩:=h;obtain ⟨f14,f22,f23,f24,g⟩:=h;go_simp;apply hK.out;rw [hI];iterate 30 apply Exists.intro
  exact ⟨rfl,hC,hP.put 2 rfl rfl rfl,f2,f10,f11,f14,f22,f23,f24,g⟩
 ·intro l a W hl hw hsh h K hK
  rw [hI] at h;iterate 30 obtain ⟨_,h⟩:=h
  obtain ⟨rfl,hC,hP,f2,f10,f11,h⟩:=h;obtain ⟨f14,f22,f23,f24,g⟩:=h;obtain rfl:=hP.get 2 rfl (hw 3 Ab);obtain ⟨x0,x1,x2,x3,x4,x5⟩:=hcell.out _ hC;go_simp;apply hK.out;rw [hI];iterate 30 apply Exists.intro
  exact ⟨rfl,hC,hP.put 3 rfl rfl rfl,f2,f10,f11,f14,f22,f23,f24,g⟩
 ·intro l a W hl hw hsh h K hK
  rw [hI] at h;iterate 30 obtain ⟨_,h⟩:=h
  obtain ⟨rfl,hC,hP,f2,f10,f11,h⟩:=h;obtain ⟨f14,f22,f23,f24,g⟩:=h;go_simp;apply hK.out;rw [hI];iterate 30 apply Exists.intro
  exact ⟨rfl,hC,hP.put 4 rfl rfl rfl,f2,f10,f11,f14,f22,f23,f24,g⟩
 ·intro l a W hl hw hsh h K hK
  rw [hI] at h;iterate 30 obtain ⟨_,h⟩:=h
  obtain ⟨rfl,hC,hP,f2,f10,f11,h⟩:=h;obtain ⟨f14,f22,f23,f24,g⟩:=h;obtain rfl:=hP.get 3 rfl (hw 4 Ab);obtain rfl:=hP.get 4 rfl (hw 5 Ab);go_simp;apply hK.out;rw [hI];iterate 30 apply Exists.intro
  exact ⟨rfl,hC,hP.put 5 rfl rfl rfl,f2,f10,f11,f14,f22,f23,f24,g⟩
 ·intro l a W hl hw hsh h K hK
  rw [hI] at h;iterate 30 obtain ⟨_,h⟩:=h
  obtain ⟨rfl,hC,hP,f2,f10,f11,h⟩:=h;obtain ⟨f14,f22,f23,f24,g⟩:=h;obtain rfl:=hP.get 5 rfl (hw 6 Ab);obtain ⟨x0,x1,x2,x3,x4,x5⟩:=hcell.out _ hC;go_simp;apply hK.out;rw [hI];iterate 30 apply Exists.intro
  exact ⟨rfl,hC,hP.put 6 rfl rfl rfl,f2,f10,f11,f14,f22,f23,f24,g⟩
 ·intro l a W hl hw hsh h K hK
  rw [hI] at h;iterate 30 obtain ⟨_,h⟩:=h
  obtain ⟨rfl,hC,hP,f2,f10,f11,h⟩:=h;obtain ⟨f14,f22,f23,f24,g⟩:=h;go_simp;apply hK.out;rw [hI];iterate 30 apply Exists.intro
  exact ⟨rfl,hC,hP.put 7 rfl rfl rfl,f2,f10,f11,f14,f22,f23,f24,g⟩
 ·intro l a W hl hw hsh h K hK
  rw [hI] at h;iterate 30 obtain ⟨_,h⟩:=h
  obtain ⟨rfl,hC,hP,f2,f10,f11,h⟩:=h;obtain ⟨f14,f22,f23,f24,g⟩:=h;obtain rfl:=hP.get 7 rfl (hw 8 Ab);obtain ⟨x0,x1,x2,x3,x4,x5⟩:=hcell.out _ hC;go_simp;apply hK.out;rw [hI];iterate 30 apply Exists.intro
  exact ⟨rfl,hC,hP.put 8 rfl rfl rfl,f2,f10,f11,f14,f22,f23,f24,g⟩
 ·intro l a W hl hw hsh h K hK
  rw [hI] at h;iterate 30 obtain ⟨_,h⟩:=h
  obtain ⟨rfl,hC,hP,f2,f10,f11,h⟩:=h;obtain ⟨f14,f22,f23,f24,g⟩:=h;obtain rfl:=f2 (hw 2 Ab);obtain rfl:=hP.get 6 rfl (hw 7 Ab);obtain rfl:=hP.get 8 rfl (hw 9 Ab);go_simp;have hb:=(Below.refl W.heap.size W).alloc (Aa _) (.cells #[.string (I p),.string (sa),.string (db)] 9);have kn:=Ds.new W #[.string (I p),.string (sa),.string (db)] 9;have hcellx:=@above Bk _ _ hb;have hsz:=hb.size;apply hK.out;rw [hI];iterate 30 apply Exists.intro
  exact ⟨rfl,hC.below hb,hP.skip 10 rfl,f2,fun _ _=>⟨_,rfl,⟨kn.cell 0,kn.cell 1,kn.cell 2⟩,kn.lt,fun e=>by have:=A9 hBk.out hC.size;omega⟩,f11,f14,(fun h h5=>(let ⟨g,e,⟨a,b,c⟩,u,v⟩:=f22 h h5;⟨g,e,⟨(hcellx g 0 v u).trans a,(hcellx g 1 v u).trans b,(hcellx g 2 v u).trans c⟩,A9 u hsz,v⟩)),f23,f24,⟨fun h=>(g.1 h).below hb,fun h h2=>(g.2.1 h h2).below hb,fun h=>(g.2.2 h).below hb⟩⟩
 ·intro l a W hl hw hsh h K hK
  rw [hI] at h;iterate 30 obtain ⟨_,h⟩:=h
  obtain ⟨rfl,hC,hP,f2,f10,f11,h⟩:=h;obtain ⟨f14,f22,f23,f24,g⟩:=h;obtain rfl:=hP.get 0 rfl (hw 0 Ab);have h23:l 23=true->true=false:=fun h=>absurd (hsh 14 11 _ rfl (hsh 23 14 _ rfl h Ab) Ab) (by simp [hl])
  obtain ⟨gl,el,hgc,hgl,hgne⟩:=f10 (hw 10 Ab) hl;subst el;go_simp;go_at_call 52;refine Calls.mono (Mh [I p,sa,db] gl 0 3 Bk fl W Af Af hgl (cells3 hgc) (oks3 ⟨Eh hfp.out.2,hd.out.2.2.1,hd.out.2.1⟩) (g.1 hl) hgne w0 hE.out (h0.out.1.trans (hC.toBelow h0.out.1.size (by intro x hx;rw [B3.1 hx];exact h0.out.2))) h0.out.2) ?_;rintro e W2 ⟨rfl,hk2,ho2⟩;have hcellx:=beside ho2;have hsz:=ho2.size;apply hK.out;rw [hI];iterate 30 apply Exists.intro
  exact ⟨rfl,hC.trans ho2,hP.skip 11 rfl,f2,(fun _ h5=>off h5.symm),fun _=>rfl,f14,(fun h h5=>(let ⟨g,e,⟨a,b,c⟩,u,v⟩:=f22 h h5;⟨g,e,⟨(hcellx g 0 v u).trans a,(hcellx g 1 v u).trans b,(hcellx g 2 v u).trans c⟩,A9 u hsz,v⟩)),f23,f24,⟨fun h=>off h.symm,fun _ _=>hk2,fun h=>off (h23 h).symm⟩⟩
 ·intro l a W hl hw hsh h K hK
  rw [hI] at h;iterate 30 obtain ⟨_,h⟩:=h
  obtain ⟨rfl,hC,hP,f2,f10,f11,h⟩:=h;obtain ⟨f14,f22,f23,f24,g⟩:=h;go_simp;apply hK.out;rw [hI];iterate 30 apply Exists.intro
  exact ⟨rfl,hC,hP.put 9 rfl rfl rfl,f2,f10,f11,f14,f22,f23,f24,g⟩
 ·intro l a W hl hw hsh h K hK
  rw [hI] at h;iterate 30 obtain ⟨_,h⟩:=h
  obtain ⟨rfl,hC,hP,f2,f10,f11,h⟩:=h;obtain ⟨f14,f22,f23,f24,g⟩:=h;go_simp;apply hK.out;rw [hI];iterate 30 apply Exists.intro
  exact ⟨rfl,hC,hP.put 10 rfl rfl rfl,f2,f10,f11,f14,f22,f23,f24,g⟩
 ·intro l a W hl hw hsh h K hK
  rw [hI] at h;iterate 30 obtain ⟨_,h⟩:=h
  obtain ⟨rfl,hC,hP,f2,f10,f11,h⟩:=h;obtain ⟨f14,f22,f23,f24,g⟩:=h;obtain rfl:=hP.get 10 rfl (hw 13 Ab);go_simp;go_at_call 45;refine Calls.mono (Oc hfq.out.1 _ (hE.out.below (h0.out.1.trans (hC.toBelow h0.out.1.size (by intro x hx;rw [B3.1 hx];exact h0.out.2))) (Aa _))) ?_;rintro e W2 ⟨rfl,hb⟩;have hcellx:=@above Bk _ _ hb;have hsz:=hb.size;apply hK.out;rw [hI];iterate 30 apply Exists.intro
  exact ⟨rfl,hC.below hb,hP.skip 14 rfl,f2,(fun h h5=>(let ⟨g,e,⟨a,b,c⟩,u,v⟩:=f10 h h5;⟨g,e,⟨(hcellx g 0 v u).trans a,(hcellx g 1 v u).trans b,(hcellx g 2 v u).trans c⟩,A9 u hsz,v⟩)),f11,fun _=>rfl,(fun h h5=>(let ⟨g,e,⟨a,b,c⟩,u,v⟩:=f22 h h5;⟨g,e,⟨(hcellx g 0 v u).trans a,(hcellx g 1 v u).trans b,(hcellx g 2 v u).trans c⟩,A9 u hsz,v⟩)),f23,f24,⟨fun h=>(g.1 h).below hb,fun h h2=>(g.2.1 h h2).below hb,fun h=>(g.2.2 h).below hb⟩⟩
 ·intro l a W hl hw hsh h K hK
  rw [hI] at h;iterate 30 obtain ⟨_,h⟩:=h
  obtain ⟨rfl,hC,hP,f2,f10,f11,h⟩:=h;obtain ⟨f14,f22,f23,f24,g⟩:=h;go_simp;apply hK.out;rw [hI];iterate 30 apply Exists.intro
  exact ⟨rfl,hC,hP.put 11 rfl rfl rfl,f2,f10,f11,f14,f22,f23,f24,g⟩
 ·intro l a W hl hw hsh h K hK
  rw [hI] at h;iterate 30 obtain ⟨_,h⟩:=h
  obtain ⟨rfl,hC,hP,f2,f10,f11,h⟩:=h;obtain ⟨f14,f22,f23,f24,g⟩:=h;obtain rfl:=hP.get 11 rfl (hw 15 Ab);obtain ⟨x0,x1,x2,x3,x4,x5⟩:=hcell.out _ hC;go_simp;apply hK.out;rw [hI];iterate 30 apply Exists.intro
  exact ⟨rfl,hC,hP.put 12 rfl rfl rfl,f2,f10,f11,f14,f22,f23,f24,g⟩
 ·intro l a W hl hw hsh h K hK
  rw [hI] at h;iterate 30 obtain ⟨_,h⟩:=h
  obtain ⟨rfl,hC,hP,f2,f10,f11,h⟩:=h;obtain ⟨f14,f22,f23,f24,g⟩:=h;go_simp;apply hK.out;rw [hI];iterate 30 apply Exists.intro
  exact ⟨rfl,hC,hP.put 13 rfl rfl rfl,f2,f10,f11,f14,f22,f23,f24,g⟩
 ·intro l a W hl hw hsh h K hK
  rw [hI] at h;iterate 30 obtain ⟨_,h⟩:=h
  obtain ⟨rfl,hC,hP,f2,f10,f11,h⟩:=h;obtain ⟨f14,f22,f23,f24,g⟩:=h;obtain rfl:=hP.get 12 rfl (hw 16 Ab);obtain rfl:=hP.get 13 rfl (hw 17 Ab);go_simp;apply hK.out;rw [hI];iterate 30 apply Exists.intro
  exact ⟨rfl,hC,hP.put 14 rfl rfl rfl,f2,f10,f11,f14,f22,f23,f24,g⟩
 ·intro l a W hl hw hsh h K hK
  rw [hI] at h;iterate 30 obtain ⟨_,h⟩:=h
  obtain ⟨rfl,hC,hP,f2,f10,f11,h⟩:=h;obtain ⟨f14,f22,f23,f24,g⟩:=h;obtain rfl:=hP.get 14 rfl (hw 18 Ab);obtain ⟨x0,x1,x2,x3,x4,x5⟩:=hcell.out _ hC;go_simp;apply hK.out;rw [hI];iterate 30 apply Exists.intro
  exact ⟨rfl,hC,hP.put 15 rfl rfl rfl,f2,f10,f11,f14,f22,f23,f24,g⟩
 ·intro l a W hl hw hsh h K hK
  rw [hI] at h;iterate 30 obtain ⟨_,h⟩:=h
  obtain ⟨rfl,hC,hP,f2,f10,f11,h⟩:=h;obtain ⟨f14,f22,f23,f24,g⟩:=h;go_simp;apply hK.out;rw [hI];iterate 30 apply Exists.intro
  exact ⟨rfl,hC,hP.put 16 rfl rfl rfl,f2,f10,f11,f14,f22,f23,f24,g⟩
 ·intro l a W hl hw hsh h K hK
  rw [hI] at h;iterate 30 obtain ⟨_,h⟩:=h
  obtain ⟨rfl,hC,hP,f2,f10,f11,h⟩:=h;obtain ⟨f14,f22,f23,f24,g⟩:=h;obtain rfl:=hP.get 16 rfl (hw 20 Ab);obtain ⟨x0,x1,x2,x3,x4,x5⟩:=hcell.out _ hC;go_simp;apply hK.out;rw [hI];iterate 30 apply Exists.intro
  exact ⟨rfl,hC,hP.put 17 rfl rfl rfl,f2,f10,f11,f14,f22,f23,f24,g⟩
 ·intro l a W hl hw hsh h K hK
  rw [hI] at h;iterate 30 obtain ⟨_,h⟩:=h
  obtain ⟨rfl,hC,hP,f2,f10,f11,h⟩:=h;obtain ⟨f14,f22,f23,f24,g⟩:=h;obtain rfl:=f14 (hw 14 Ab);obtain rfl:=hP.get 15 rfl (hw 19 Ab);obtain rfl:=hP.get 17 rfl (hw 21 Ab);go_simp;have hb:=(Below.refl W.heap.size W).alloc (Aa _) (.cells #[.string (I q),.string (sb),.string (da)] 9);have kn:=Ds.new W #[.string (I q),.string (sb),.string (da)] 9;have hcellx:=@above Bk _ _ hb;have hsz:=hb.size;apply hK.out;rw [hI];iterate 30 apply Exists.intro
  exact ⟨rfl,hC.below hb,hP.skip 22 rfl,f2,(fun h h5=>(let ⟨g,e,⟨a,b,c⟩,u,v⟩:=f10 h h5;⟨g,e,⟨(hcellx g 0 v u).trans a,(hcellx g 1 v u).trans b,(hcellx g 2 v u).trans c⟩,A9 u hsz,v⟩)),f11,f14,fun _ _=>⟨_,rfl,⟨kn.cell 0,kn.cell 1,kn.cell 2⟩,kn.lt,fun e=>by have:=A9 hBk.out hC.size;omega⟩,f23,f24,⟨fun h=>(g.1 h).below hb,fun h h2=>(g.2.1 h h2).below hb,fun h=>(g.2.2 h).below hb⟩⟩
 ·intro l a W hl hw hsh h K hK
  rw [hI] at h;iterate 30 obtain ⟨_,h⟩:=h
  obtain ⟨rfl,hC,hP,f2,f10,f11,h⟩:=h;obtain ⟨f14,f22,f23,f24,g⟩:=h;obtain rfl:=hP.get 9 rfl (hw 12 Ab);have h11:l 11=true:=hsh 14 11 _ rfl (hw 14 Ab) Ab;obtain ⟨gl,el,hgc,hgl,hgne⟩:=f22 (hw 22 Ab) hl;subst el;go_simp;go_at_call 52;refine Calls.mono (Mh [I q,sb,da] gl 0 3 Bk (FK fl [I p,sa,db] 3) W Af Af hgl (cells3 hgc) (oks3 ⟨Eh hfq.out.2,hd.out.2.2.2,hd.out.1⟩) (g.2.1 h11 hl) hgne w0 hE.out (h0.out.1.trans (hC.toBelow h0.out.1.size (by intro x hx;rw [B3.1 hx];exact h0.out.2))) h0.out.2) ?_;rintro e W2 ⟨rfl,hk2,ho2⟩;have hcellx:=beside ho2;have hsz:=ho2.size;apply hK.out;rw [hI];iterate 30 apply Exists.intro
  exact ⟨rfl,hC.trans ho2,hP.skip 23 rfl,f2,(fun _ h5=>off (h5.symm.trans h11)),f11,f14,(fun _ h5=>off h5.symm),fun _=>rfl,f24,⟨fun h=>off (h.symm.trans h11),fun _ h=>off h.symm,fun _=>hk2⟩⟩
 ·intro l a W hl hw hsh h K hK
  rw [hI] at h;iterate 30 obtain ⟨_,h⟩:=h
  obtain ⟨rfl,hC,hP,f2,f10,f11,h⟩:=h;obtain ⟨f14,f22,f23,f24,g⟩:=h;obtain rfl:=f11 (hw 11 Ab);obtain rfl:=f23 (hw 23 Ab);go_simp;go_at_call 53;refine Calls.mono (RU (Ha fl [I p,sa,db] 3) (Ha (FK fl [I p,sa,db] 3) [I q,sb,da] 3) _ (hE.out.below (h0.out.1.trans (hC.toBelow h0.out.1.size (by intro x hx;rw [B3.1 hx];exact h0.out.2))) (Aa _))) ?_;rw [Sh,Sh,AX,hAd.out];rintro e W2 ⟨⟨v,rfl,rfl⟩,hb⟩;have hcellx:=@above Bk _ _ hb;have hsz:=hb.size;apply hK.out;rw [hI];iterate 30 apply Exists.intro
  exact ⟨rfl,hC.below hb,hP.skip 24 rfl,f2,(fun h h5=>(let ⟨g,e,⟨a,b,c⟩,u,v⟩:=f10 h h5;⟨g,e,⟨(hcellx g 0 v u).trans a,(hcellx g 1 v u).trans b,(hcellx g 2 v u).trans c⟩,A9 u hsz,v⟩)),f11,f14,(fun h h5=>(let ⟨g,e,⟨a,b,c⟩,u,v⟩:=f22 h h5;⟨g,e,⟨(hcellx g 0 v u).trans a,(hcellx g 1 v u).trans b,(hcellx g 2 v u).trans c⟩,A9 u hsz,v⟩)),f23,fun _=>rfl,⟨fun h=>(g.1 h).below hb,fun h h2=>(g.2.1 h h2).below hb,fun h=>(g.2.2 h).below hb⟩⟩
 ·intro l a W hl hw hsh h K hK
  rw [hI] at h;iterate 30 obtain ⟨_,h⟩:=h
  obtain ⟨rfl,hC,hP,f2,f10,f11,h⟩:=h;obtain ⟨f14,f22,f23,f24,g⟩:=h;obtain rfl:=f24 (hw 24 Ab);go_simp;apply hK.out;rw [hI];iterate 30 apply Exists.intro
  exact ⟨rfl,hC,hP.put 18 rfl rfl rfl,f2,f10,f11,f14,f22,f23,f24,g⟩
 ·intro l a W hl hw hsh h K hK
  rw [hI] at h;iterate 30 obtain ⟨_,h⟩:=h
  obtain ⟨rfl,hC,hP,f2,f10,f11,h⟩:=h;obtain ⟨f14,f22,f23,f24,g⟩:=h;obtain rfl:=hP.get 18 rfl (hw 25 Ab);go_simp;apply hK.out;rw [hI];iterate 30 apply Exists.intro
  exact ⟨rfl,hC,hP.put 19 rfl rfl rfl,f2,f10,f11,f14,f22,f23,f24,g⟩
 ·intro l a W hl hw hsh h K hK
  rw [hI] at h;iterate 30 obtain ⟨_,h⟩:=h
  obtain ⟨rfl,hC,hP,f2,f10,f11,h⟩:=h;obtain ⟨f14,f22,f23,f24,g⟩:=h;obtain rfl:=hP.get 18 rfl (hw 25 Ab);go_simp;apply hK.out;rw [hI];iterate 30 apply Exists.intro
  exact ⟨rfl,hC,hP.put 20 rfl rfl rfl,f2,f10,f11,f14,f22,f23,f24,g⟩
 ·intro l a W hl hw hsh h K hK
  rw [hI] at h;iterate 30 obtain ⟨_,h⟩:=h
  obtain ⟨rfl,hC,hP,f2,f10,f11,h⟩:=h;obtain ⟨f14,f22,f23,f24,g⟩:=h;obtain rfl:=hP.get 19 rfl (hw 26 Ab);go_simp;apply hK.out;rw [hI];iterate 30 apply Exists.intro
  exact ⟨rfl,hC,hP.put 21 rfl rfl rfl,f2,f10,f11,f14,f22,f23,f24,g⟩
 ·intro l a W hl hw hsh h K hK
  rw [hI] at h;iterate 30 obtain ⟨_,h⟩:=h
  obtain ⟨rfl,hC,hP,f2,f10,f11,h⟩:=h;obtain ⟨f14,f22,f23,f24,g⟩:=h;obtain rfl:=hP.get 20 rfl (hw 27 Ab);go_simp;apply hK.out;rw [hI];iterate 30 apply Exists.intro
  exact ⟨rfl,hC,hP.put 22 rfl rfl rfl,f2,f10,f11,f14,f22,f23,f24,g⟩
 ·intro a W hI'
  have h:=(hI _ _ _).1 hI';clear hI';iterate 30 obtain ⟨_,h⟩:=h
  obtain ⟨rfl,hC,hP,f2,f10,f11,h⟩:=h;obtain ⟨f14,f22,f23,f24,g⟩:=h;clear f2;clear f10;clear f11;clear f14;clear f22;clear f23;clear f24;obtain rfl:=hP.get 21 rfl Ab;obtain rfl:=hP.get 22 rfl Ab;exact hQ.out _ _ _ _ _ _ _ _ _ _ _ _ _ _ _ _ _ _ _ _ _ _ _ _ _ _ _ _ _ hC (g.2.2 Ab)
end
end Go.Proofs.YtioamkekjjkigaaGreatDoor
