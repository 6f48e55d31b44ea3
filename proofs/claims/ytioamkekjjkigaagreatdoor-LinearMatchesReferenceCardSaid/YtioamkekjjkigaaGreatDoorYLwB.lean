/- LwB, LwC, LwF, LwG, LwD -/
import Derived.Test.YtioamkekjjkigaaGreatDoorYPkG
import Derived.Shelf.Spec.BitsCarry
import Derived.Deep.RegionHeld3
import Derived.Deep.QuietTactic
import Derived.BigQuiet
import Derived.Deep.DeepCutAuto
import Derived.Lib.EndianBits
import Derived.Lib.ItoaMem
import Derived.StillTailTactics
set_option maxHeartbeats 8000000
set_option maxRecDepth 100000
namespace Go.Proofs.YtioamkekjjkigaaGreatDoor
section
open Go.RowKit
open LnM (wd DL bw)
attribute [local go_sem] Oper.semAt_some
theorem Tc (x y b:Nat) (hb:b<=1) (w:World):(callFunc 72 #[.int .u64 x,.int .u64 y,.int .u64 b]).run Tryz.prog w =
  .ok (.value (.tuple #[.int .u64 (((x+18446744073709551616-y-b) % 18446744073709551616:Nat):Int),.int .u64 ((if x<y+b then 1 else 0:Nat):Int)])) w:=by
 rw [run_callFunc_extern Tryz.func72 Ab Ab Ab (e:=sub64Entry) Ab,run_sub64 x y b hb]
 rfl
theorem RY {x y c:Int} (hx:0<=x) (hy:0<=y) (hc:0<=c/\c<=1) (w:World):(callFunc 129 #[.int .u64 x,.int .u64 y,.int .u64 c]).run Tryz.prog w =
  .ok (.value (.tuple #[.int .u64 ((x+y+c) % 18446744073709551616),.int .u64 ((x+y+c) / 18446744073709551616)])) w:=by
 rw [run_callFunc_extern Tryz.func129 Ab Ab Ab (e:=add64Entry) Ab,run_add64 x y c hx hy hc.1 hc.2]
 rfl
theorem sub64_w {x y b:Int} (hx:0<=x/\x<18446744073709551616) (hy:0<=y/\y<18446744073709551616) (hb:0<=b/\b<=1) (w:World):(callFunc 72 #[.int .u64 x,.int .u64 y,.int .u64 b]).run Tryz.prog w =
   .ok (.value (.tuple #[.int .u64 ((x-y-b) % 18446744073709551616),.int .u64 (if x<y+b then 1 else 0)])) w:=by
 have h:=Tc x.toNat y.toNat b.toNat Ad w
 rw [show ((x.toNat:Nat):Int)=x by omega,show ((y.toNat:Nat):Int)=y by omega,show ((b.toNat:Nat):Int)=b by omega] at h
 have e1:(((x.toNat+18446744073709551616-y.toNat-b.toNat) % 18446744073709551616:Nat):Int)=(x-y-b) % 18446744073709551616:=by omega
 have e2:((if x.toNat<y.toNat+b.toNat then 1 else 0:Nat):Int)=if x<y+b then 1 else 0:=by
  by_cases c:x<y+b
  ·rw [AU c,AU Ad];rfl
  ·rw [AP c,AP Ad];rfl
 rw [e1,e2] at h
 exact h
theorem FY (a b:Int) (w:World) :
  Calls Tryz.prog 32 #[.agg (wc (wd a)),.agg (wc (wd b))] w (DR w (.agg (wc (wd (a-b))))):=by
 obtain ⟨V1,ev1,S1,zv1⟩:=(BL.start w).add' (wc (wd a)) 66
 obtain ⟨V2,ev2,S2,zv2⟩:=S1.add' (wc (wd b)) 66
 obtain ⟨V3,ev3,S3,zv3⟩:=S2.add' (wc (fun _=>0)) 66
 rw [zv1] at S2
 rw [zv2,zv1] at S3
 have hV:V3=((w.alloc (.cells (wc (wd a)) 66)).alloc (.cells (wc (wd b)) 66)).alloc (.cells (wc (fun _=>0)) 66):=by rw [ev3,ev2,ev1]
 have hS:BL w [(w.heap.size+1+1,wc (fun _=>0),66),(w.heap.size+1,wc (wd b),66),(w.heap.size,wc (fun j=>if j<0 then wd (a-b) j else wd a j),66)] V3:=S3
 have hO:∀ f:Nat->Int,JB w [(w.heap.size+1+1,wc (fun _=>0),66),(w.heap.size+1,wc (wd b),66),(w.heap.size,wc (f),66)]:=fun f=>⟨by simp;omega,by simp;omega⟩
 clear ev1 ev2 ev3 zv1 zv2 zv3 S1 S2 S3
 go_enter Tryz.func32,Tryz.ntmps32
 go_wp2_with fail
 rw [<-hV]
 clear hV
 go_loopw [5,7] (fun c o wr=>∃ i:Nat,c=.int .u64 (bw a b i)/\o=.int .i64 i/\i<=12/\BL w [(w.heap.size+1+1,wc (fun _=>0),66),(w.heap.size+1,wc (wd b),66),(w.heap.size,wc (fun j=>if j<i then wd (a-b) j else wd a j),66)] wr) (fun _ o _=>12-(intOf o).toNat)
 case atStart=>exact ⟨0,by rw [LnM.bw_zero],rfl,Ad,hS⟩
 case round =>
  clear hS;obtain ⟨i,rfl,rfl,hi,hS⟩:=hrel;by_cases hlt:i<12
  ·have hlt':(i:Int)<12:=by omega
   have c0:=(hS.cell w.heap.size _ _ Aj i).trans (FC _ hlt);rw [AP (Nat.lt_irrefl i)] at c0;have c1:=hS.frozen w.heap.size _ _ Aj i;have c2:=(hS.cell (w.heap.size+1) _ _ Ai i).trans (FC _ hlt);have hS2:=BL.putc (A:=[(w.heap.size+1+1,wc (fun _=>0),66),(w.heap.size+1,wc (wd b),66)]) (hO _) hS i (.int .u64 (wd (a-b) i));rw [F7 _ hlt] at hS2;have e:wc (DL (fun j=>if j<i then wd (a-b) j else wd a j) i (wd (a-b) i))=wc (fun j=>if j<i+1 then wd (a-b) j else wd a j):=Eu fun j hj=>by
    unfold DL;by_cases h:j=i
    ·subst h;simp
    ·by_cases h2:j<i
     ·simp [h,h2,show j<i+1 by omega]
     ·simp [h,h2,show ¬ j<i+1 by omega]
   rw [e] at hS2;have SB:=fun W=>sub64_w (LnM.wd_bd a i) (LnM.wd_bd b i) (LnM.bw_bd a b i) W
   have s1:=LnM.wd_sub a b i;have s2:=LnM.bw_succ a b i;change _=_ % (18446744073709551616:Int) at s1;rw [<-s1,<-s2] at SB;clear hS e s1 s2;replace hS2:=A8 (show BL w [(w.heap.size+1+1,wc (fun _=>0),66),(w.heap.size+1,wc (wd b),66),(w.heap.size,wc (fun j=>if j<i+1 then wd (a-b) j else wd a j),66)] _ from hS2);obtain ⟨nb,hg⟩:∃ z,z=bw a b (i+1):=⟨_,rfl⟩;rw [<-hg] at SB;replace hg:=A8 hg;generalize bw a b i=ob at *
   generalize hx:wd a i=xa at *
   generalize wd b i=xb at *
   generalize hr:wd (a-b) i=r at *
   clear hx hr;go_upto_region 5 with fail;go_region;go_wp2_with fail;go_roundw;case rel=>exact ⟨i+1,by rw [hg.out],by go_num,Ad,hS2.out.drew⟩
   case measure=>simp [intOf];omega
  ·obtain rfl:i=12:=by omega
   have e:wc (fun j=>if j<12 then wd (a-b) j else wd a j)=wc (wd (a-b)):=Eu fun j hj=>by simp [hj]
   rw [e] at hS;clear e;generalize wd (a-b)=f at *
   go_upto_region 7 with fail;obtain ⟨k0,k1,k2,k3,k4,k5,k6,k7,k8,k9,k10,k11⟩:=DN (show Ds wr w.heap.size (wc f) 66 from hS.blks (w.heap.size,wc f,66) Aj);have hR:Ds wr (w.heap.size+1+1) (wc (fun _=>0)) 66:=hS.blks (w.heap.size+1+1,wc (fun _=>0),66) Ah;obtain ⟨r0,r1,r2,r3,r4,r5,r6,r7,r8,r9,r10,r11⟩:=DN hR;obtain ⟨q0,q1,q2,q3,q4,q5,q6,q7,q8,q9,q10,q11⟩:=Fy hR;obtain ⟨y0,y1,y2,y3,y4,y5,y6,y7,y8,y9,y10,y11⟩:=DN (Fs (f:=f) hR);have hfin:=A8 (H0 (f:=f) hS.below (show w.heap.size<=w.heap.size+1+1 by omega));clear hR hS hO;dsimp only [Jg] at y0 y1 y2 y3 y4 y5 y6 y7 y8 y9 y10 y11 hfin;go_wp2;exact bodyPost_ret (v:=.agg (wc f)) (by simp [results,Tryz.results32,go_sem,y0,y1,y2,y3,y4,y5,y6,y7,y8,y9,y10,y11]) rfl ⟨rfl,hfin.out⟩
end
section
open Go.RowKit
open LnM (wd DL ID)
attribute [local go_sem] Oper.semAt_some
theorem mul64_w {x y:Int} (hx:0<=x/\x<18446744073709551616) (hy:0<=y/\y<18446744073709551616) (w:World):Calls Tryz.prog 112 #[.int .u64 x,.int .u64 y] w fun e w'=>e=.returned (.tuple #[.int .u64 (x*y / 18446744073709551616),.int .u64 (x*y % 18446744073709551616)])/\w'=w:=by
 have h:=Tryz.bits_Mul64 x.toNat y.toNat Ad Ad w;have ex:((x.toNat:Nat):Int)=x:=by omega
 have ey:((y.toNat:Nat):Int)=y:=by omega
 rw [ex,ey] at h;have e1:((x.toNat * y.toNat / 18446744073709551616:Nat):Int)=x*y / 18446744073709551616:=by rw [Int.natCast_ediv,AG,ex,ey];rfl
 have e2:((x.toNat * y.toNat % 18446744073709551616:Nat):Int)=x*y % 18446744073709551616:=by rw [Int.natCast_emod,AG,ex,ey];rfl
 rw [e1,e2] at h;exact h
theorem LU (f:Nat->Int) {i:Nat} (h:i<12) (w:World):(Instr.index 66 (.agg (wc f)) (.int .i64 i)).run Tryz.prog w=.ok (.int .u64 (f i)) w:=by
 rcases (show i=0∨i=1∨i=2∨i=3∨i=4∨i=5∨i=6∨i=7∨i=8∨i=9∨i=10∨i=11 by omega) with rfl | rfl | rfl | rfl | rfl | rfl | rfl | rfl | rfl | rfl | rfl | rfl <;> kernel_rfl
theorem Td {x y f c:Int} (hx:0<=x/\x<18446744073709551616) (hy:0<=y/\y<18446744073709551616) (hf:0<=f/\f<18446744073709551616) (hc:0<=c/\c<18446744073709551616) :
  ∃ hi lo l2 c1 h2 o c2 cc:Int,hi=x*y / 18446744073709551616/\lo=x*y % 18446744073709551616/\l2=(lo+f+0) % 18446744073709551616/\c1=(lo+f+0) / 18446744073709551616/\IntKind.u64.wrap (hi+c1)=h2 /\
   o=(l2+c+0) % 18446744073709551616/\c2=(l2+c+0) / 18446744073709551616/\IntKind.u64.wrap (h2+c2)=cc/\0<=lo/\0<=l2/\(0<=o/\o<18446744073709551616)/\(0<=cc/\cc<18446744073709551616)/\o+18446744073709551616*cc=x*y+f+c:=by
 have hp:x*y<=18446744073709551615*18446744073709551615:=AI Ad Ad Ad Ae
 have hp0:0<=x*y:=BZ hx.1 hy.1
 generalize x*y=p at *
 refine ⟨_,_,_,_,_,_,_,_,rfl,rfl,rfl,rfl,rfl,rfl,rfl,rfl,?_⟩
 rw [IntKind.wrap_u64,IntKind.wrap_u64]
 omega
theorem FZ (a b:Int) (w:World) :
  Calls Tryz.prog 103 #[.agg (wc (wd a)),.agg (wc (wd b))] w (DR w (.agg (wc (wd (a*b))))):=by
 obtain ⟨V1,ev1,S1,zv1⟩:=(BL.start w).add' (wc (wd a)) 66
 obtain ⟨V2,ev2,S2,zv2⟩:=S1.add' (wc (wd b)) 66
 obtain ⟨V3,ev3,S3,zv3⟩:=S2.add' (wc (fun _=>0)) 66
 obtain ⟨V4,ev4,S4,zv4⟩:=S3.add' (wc (fun _=>0)) 66
 rw [zv1] at S2
 rw [zv2,zv1] at S3
 rw [zv3,zv2,zv1] at S4
 have hV:V4=(((w.alloc (.cells (wc (wd a)) 66)).alloc (.cells (wc (wd b)) 66)).alloc (.cells (wc (fun _=>0)) 66)).alloc (.cells (wc (fun _=>0)) 66):=by rw [ev4,ev3,ev2,ev1]
 have hS:BL w [(w.heap.size+1+1+1,wc (fun _=>0),66),(w.heap.size+1+1,wc (fun _=>0),66),(w.heap.size+1,wc (wd b),66),(w.heap.size,wc (wd a),66)] V4:=S4
 have hO:∀ f:Nat->Int,JB w [(w.heap.size+1+1+1,wc f,66),(w.heap.size+1+1,wc (fun _=>0),66),(w.heap.size+1,wc (wd b),66),(w.heap.size,wc (wd a),66)]:=fun f=>⟨by simp;omega,by simp;omega⟩
 clear ev1 ev2 ev3 ev4 zv1 zv2 zv3 zv4 S1 S2 S3 S4
 obtain ⟨a0,a1,a2,a3,a4,a5,a6,a7,a8,a9,a10,a11⟩:=DN (show Ds V4 w.heap.size (wc (wd a)) 66 from hS.blks (w.heap.size,wc (wd a),66) Ak)
 go_enter Tryz.func103,Tryz.ntmps103
 go_upto_region 2 with fail
 rw [<-hV]
 clear hV
 go_wp2_with fail
 clear a0 a1 a2 a3 a4 a5 a6 a7 a8 a9 a10 a11
 have ha:=fun i (h:i<12)=>LU (wd a) h
 dsimp only [wc] at ha
 generalize hag:(#[.int .u64 (wd a 0),.int .u64 (wd a 1),.int .u64 (wd a 2),.int .u64 (wd a 3),.int .u64 (wd a 4),.int .u64 (wd a 5),.int .u64 (wd a 6),.int .u64 (wd a 7),.int .u64 (wd a 8),.int .u64 (wd a 9),.int .u64 (wd a 10),.int .u64 (wd a 11)]:Array Value)=ag at ha |-
 clear hag
 replace ha:=A8 ha
 go_loopw [14] (fun o wr=>∃ (i:Nat) (f:Nat->Int),o=.int .i64 i/\i<=12/\Hid (ID a b f 0 i 0)/\BL w [(w.heap.size+1+1+1,wc f,66),(w.heap.size+1+1,wc (fun _=>0),66),(w.heap.size+1,wc (wd b),66),(w.heap.size,wc (wd a),66)] wr) (fun o _=>12-(intOf o).toNat)
 case atStart=>exact ⟨0,_,rfl,Ad,A8 (LnM.mulAt_start a b),hS⟩
 case round =>
  clear hS;obtain ⟨i,f,rfl,hi,hM,hS⟩:=hrel;by_cases hlt:i<12
  ·have hlt':(i:Int)<12:=by omega
   have hx:=ha.out i hlt;have hxb:=LnM.wd_bd a i;by_cases hz:wd a i=0
   ·rw [hz] at hx
    have hM2:=A8 (LnM.mulAt_skip hM.out hz);clear hz hM hxb;go_wp2_with fail;go_roundw;case rel=>exact ⟨i+1,f,by go_num,Ad,hM2,hS⟩
    case measure=>simp [intOf];omega
   ·have hz':(wd a i==0)=false:=by simp [hz]
    clear hz;obtain ⟨x,hxe⟩:∃ x,x=wd a i:=⟨_,rfl⟩;rw [<-hxe] at hx hxb hz';replace hxe:=A8 hxe;go_wp2_with fail;clear hx hz';go_loopw [8,9] (fun c o wr2=>∃ (k:Nat) (g:Nat->Int) (cv:Int),c=.int .u64 cv/\o=.int .i64 k/\i+k<=12/\Hid (ID a b g cv i k)/\BL w [(w.heap.size+1+1+1,wc g,66),(w.heap.size+1+1,wc (fun _=>0),66),(w.heap.size+1,wc (wd b),66),(w.heap.size,wc (wd a),66)] wr2) (fun _ o _=>12-(intOf o).toNat);case atStart=>exact ⟨0,f,0,rfl,rfl,Ad,hM,hS⟩
    case round =>
     clear hS hM;obtain ⟨k,g,cv,rfl,rfl,hik,hM,hS⟩:=hrel;obtain ⟨m,hm⟩:∃ m,m=i+k:=⟨_,rfl⟩;have wi:IntKind.i64.wrap ((i:Int)+k)=m:=by rw [BT _ Ad];omega
     by_cases hmk:m<12
     ·have hmk':(m:Int)<12:=by omega
      have hbb:=LnM.wd_bd b k;have hgb:=hM.out.word m hmk;have hcb:=And.intro hM.out.c0 hM.out.c1;obtain ⟨hi',lo,l2,c1,h2,o,c2,cc,e1,e2,e3,e4,e5,e6,e7,e8,p1,p2,p3,p4,p5⟩:=Td hxb hbb hgb hcb;have M:=fun W=>mul64_w hxb hbb W
      rw [<-e1,<-e2] at M;have A1:=fun W=>RY (c:=0) p1 hgb.1 Ae W
      rw [<-e3,<-e4] at A1;have A2:=fun W=>RY (c:=0) p2 hcb.1 Ae W
      rw [<-e6,<-e7] at A2;have hM2:Hid (ID a b (DL g m o) cc i (k+1)):=A8 (by rw [hm] at p5 |-;rw [hxe.out] at p5;exact LnM.mulAt_step hM.out Ad p3 p4 p5);have x0:=(hS.cell (w.heap.size+1) _ _ Aj k).trans (FC _ (show k<12 by omega));have x1:=(hS.cell (w.heap.size+1+1+1) _ _ Ah m).trans (FC _ hmk);have x2:=hS.frozen (w.heap.size+1+1+1) _ _ Ah m;have hS2:=BL.putc (A:=[]) (hO _) hS m (.int .u64 o);rw [F7 _ hmk] at hS2;replace hS2:=A8 hS2;have hk':(k:Int)<12:=by omega
      have hik2:i+(k+1)<=12:=by omega
      clear hM hS p1 p2 p3 p4 p5 e1 e2 e3 e4 e6 e7 hm hmk;generalize wd b k=y at *
      generalize g m=gm at *
      replace M:=A8 M;go_wp2_with fail;refine Calls.mono (M.out _) ?_;rintro e w' ⟨rfl,rfl⟩;go_wp2_with fail;go_roundw;case rel=>exact ⟨k+1,_,_,rfl,by go_num,hik2,hM2,hS2.out⟩
      case measure=>simp [intOf];omega
     ·have hmk':¬ (m:Int)<12:=by omega
      have hM2:=A8 (LnM.mulAt_row hM.out Ad);clear hM hmk;go_wp2_with fail;go_roundw;case rel=>exact ⟨i+1,g,by go_num,Ad,hM2,hS⟩
      case measure=>simp [intOf];omega
  ·obtain rfl:i=12:=by omega
   have e:wc f=wc (wd (a*b)):=Eu fun l hl=>LnM.mulAt_end hM.out hl
   rw [e] at hS;clear e hM ha;generalize wd (a*b)=f2 at *
   go_upto_region 16 with fail;obtain ⟨k0,k1,k2,k3,k4,k5,k6,k7,k8,k9,k10,k11⟩:=DN (show Ds wr (w.heap.size+1+1+1) (wc f2) 66 from hS.blks (w.heap.size+1+1+1,wc f2,66) Ah);have hR:Ds wr (w.heap.size+1+1) (wc (fun _=>0)) 66:=hS.blks (w.heap.size+1+1,wc (fun _=>0),66) Ai;obtain ⟨r0,r1,r2,r3,r4,r5,r6,r7,r8,r9,r10,r11⟩:=DN hR;obtain ⟨q0,q1,q2,q3,q4,q5,q6,q7,q8,q9,q10,q11⟩:=Fy hR;obtain ⟨y0,y1,y2,y3,y4,y5,y6,y7,y8,y9,y10,y11⟩:=DN (Fs (f:=f2) hR);have hfin:=A8 (H0 (f:=f2) hS.below (show w.heap.size<=w.heap.size+1+1 by omega));clear hR hS hO;dsimp only [Jg] at y0 y1 y2 y3 y4 y5 y6 y7 y8 y9 y10 y11 hfin;go_wp2;exact bodyPost_ret (v:=.agg (wc f2)) (by simp [results,Tryz.results103,go_sem,y0,y1,y2,y3,y4,y5,y6,y7,y8,y9,y10,y11]) rfl ⟨rfl,hfin.out⟩
end
section
open Go.RowKit
open LnM (Est Jk)
attribute [local go_sem] Oper.semAt_some
theorem UK (W:World):Calls Tryz.prog 104 #[.int .u64 1000000000000000000] W fun e w'=>e=.returned (.int .i64 4)/\w'=W:=by
 have h:=Tryz.bits_LeadingZeros64 1000000000000000000 W Ae Ae;rwa [show (64-(Lib.bitLen (1000000000000000000:Int).toNat:Int))=4 by decide +kernel] at h
theorem Tf {h l:Int} (hh:0<=h/\h<1000000000000000000) (hl:0<=l/\l<18446744073709551616) :
  ∃ H L x y q1 U q2:Int,bits .or .u64 (h*16) (l / 1152921504606846976)=H/\IntKind.u64.wrap (l*16)=L/\L / 4294967296=x/\bits .and .u64 L 4294967295=y /\
   Jk 3725290298 1983905792 H x/\Jk 3725290298 1983905792 U y/\q1=(H*4294967296+x) / (3725290298*4294967296+1983905792)/\q2=(U*4294967296+y) / (3725290298*4294967296+1983905792) /\
   IntKind.u64.wrap (IntKind.u64.wrap (IntKind.u64.wrap (H*4294967296)+x)-IntKind.u64.wrap (q1*16000000000000000000))=U/\0<=L /\
   (0<=q1/\q1<4294967296)/\(0<=q2/\q2<4294967296)/\q1*4294967296+q2=(18446744073709551616*h+l) / 1000000000000000000 /\
   IntKind.u64.wrap (IntKind.u64.wrap (IntKind.u64.wrap (U*4294967296)+y)-IntKind.u64.wrap (q2*16000000000000000000)) / 16=(18446744073709551616*h+l) % 1000000000000000000:=by
 obtain ⟨H,hH⟩:∃ H,H=16*h+l / 1152921504606846976:=⟨_,rfl⟩
 obtain ⟨L,hL⟩:∃ L,L=16*l % 18446744073709551616:=⟨_,rfl⟩
 obtain ⟨x,hx⟩:∃ x,x=L / 4294967296:=⟨_,rfl⟩
 obtain ⟨y,hy⟩:∃ y,y=L % 4294967296:=⟨_,rfl⟩
 have e1:Jk 3725290298 1983905792 H x:=⟨Ae,Ae,Ae,Ae,Ad,Ad,Ad,Ad⟩
 obtain ⟨q1,h1⟩:∃ q,q=(H*4294967296+x) / (3725290298*4294967296+1983905792):=⟨_,rfl⟩
 obtain ⟨r1,r2,r3,r4,r5⟩:=LnM.est_rest e1 h1
 obtain ⟨U,hU⟩:∃ U,U=H*4294967296+x-q1*(3725290298*4294967296+1983905792):=⟨_,rfl⟩
 have e2:Jk 3725290298 1983905792 U y:=⟨Ae,Ae,Ae,Ae,Ad,Ad,Ad,Ad⟩
 obtain ⟨q2,h2⟩:∃ q,q=(U*4294967296+y) / (3725290298*4294967296+1983905792):=⟨_,rfl⟩
 obtain ⟨s1,s2,s3,s4,s5⟩:=LnM.est_rest e2 h2
 have key:16*(18446744073709551616*h+l)=(q1*4294967296+q2)*16000000000000000000+(U*4294967296+y-q2*(3725290298*4294967296+1983905792)):=by omega
 obtain ⟨Z,hZ⟩:∃ Z,Z=U*4294967296+y-q2*(3725290298*4294967296+1983905792):=⟨_,rfl⟩
 have hw:IntKind.u64.wrap (IntKind.u64.wrap (IntKind.u64.wrap (U*4294967296)+y)-IntKind.u64.wrap (q2*16000000000000000000))=Z:=by rw [IntKind.wrap_u64,IntKind.wrap_u64,IntKind.wrap_u64,IntKind.wrap_u64];omega
 refine ⟨H,L,x,y,q1,U,q2,?_,?_,hx.symm,?_,e1,e2,h1,h2,?_,Ad,⟨r4,r5⟩,⟨s4,s5⟩,?_,?_⟩
 ·rw [hH,AM 16]
  exact bits_join .u64 64 Ae wraps_u64 4 (h*16) (l / 1152921504606846976) Ad Ad Ad Ad Ad Ad
 ·rw [IntKind.wrap_u64];omega
 ·rw [hy];exact bits_mask .u64 64 Ae wraps_u64 32 Ae L Ad Ad
 ·rw [IntKind.wrap_u64,IntKind.wrap_u64,IntKind.wrap_u64,IntKind.wrap_u64];omega
 ·rw [<-hZ] at key s2 s3;clear hw hZ s1 r1 h1 h2 hU hH hL hx hy e1 e2;omega
 ·rw [hw];rw [<-hZ] at key s2 s3;clear hw hZ s1 r1 h1 h2 hU hH hL hx hy e1 e2;omega
theorem Tg (h l:Int) (hh:0<=h/\h<1000000000000000000) (hl:0<=l/\l<18446744073709551616) (w:World) :
  Calls Tryz.prog 73 #[.int .u64 h,.int .u64 l,.int .u64 1000000000000000000] w fun e w'=>e=.returned (.tuple #[.int .u64 ((18446744073709551616*h+l) / 1000000000000000000),.int .u64 ((18446744073709551616*h+l) % 1000000000000000000)])/\Below w.heap.size w w':=by
 by_cases hz:h=0
 ·obtain ⟨Q,hQ⟩:∃ Q,Q=(18446744073709551616*h+l) / 1000000000000000000:=⟨_,rfl⟩
  obtain ⟨R,hR⟩:∃ R,R=(18446744073709551616*h+l) % 1000000000000000000:=⟨_,rfl⟩;rw [<-hQ,<-hR];subst hz;have d1:l.tdiv 1000000000000000000=Q:=by rw [C5 Ad];omega
  have d2:l.tmod 1000000000000000000=R:=by rw [Bi Ad];omega
  have d3:IntKind.u64.wrap Q=Q:=by rw [IntKind.wrap_u64];omega
  have d4:IntKind.u64.wrap R=R:=by rw [IntKind.wrap_u64];omega
  clear hQ hR hh hl;go_enter Tryz.func73,Tryz.ntmps73;go_wp2_with fail;go_quiet (fail);go_wp2;exact bodyPost_ret (v:=.tuple #[.int .u64 Q,.int .u64 R]) (by simp [results,Tryz.results73,go_sem]) rfl ⟨rfl,Dq w nq⟩
 ·have hz':(h==0)=false:=by simp [hz]
  have hle:¬ (1000000000000000000<=h):=by omega
  have b0:bits .and .u64 16000000000000000000 4294967295=1983905792:=by decide +kernel
  obtain ⟨H,L,x,y,q1,U,q2,b1,b2,b3,b4,e1,e2,h1,h2,b5,l0,hq1,hq2,Q,R⟩:=Tf hh hl;rw [<-Q,<-R];have b6:IntKind.u64.wrap (IntKind.u64.wrap (q1*4294967296)+q2)=q1*4294967296+q2:=by rw [IntKind.wrap_u64,IntKind.wrap_u64];omega
  obtain ⟨Z,hZ⟩:∃ Z,Z=IntKind.u64.wrap (IntKind.u64.wrap (IntKind.u64.wrap (U*4294967296)+y)-IntKind.u64.wrap (q2*16000000000000000000)):=⟨_,rfl⟩;rw [<-hZ];replace hZ:=hZ.symm;replace h1:=A8 h1;replace h2:=A8 h2;clear Q R;go_enter Tryz.func73,Tryz.ntmps73;go_wp2_with fail;refine Calls.mono (UK _) ?_;rintro e w1 ⟨rfl,rfl⟩;go_upto_region 15 with fail;clear b0 b1 b2 b3 b4 hh hl hz hz' hle l0;have s0:=LnM.est_start e1;have sq0:0<=H / 3725290298:=Ct e1.hu0 Ae;have sr0:H % 3725290298<4294967296:=by have:=Cu H (show (0:Int)<3725290298 by decide);omega
  have su0:=e1.hu0;have su1:H<16000000000000000000:=e1.hu1;have sx0:=e1.hx0;have sx1:=e1.hx1;obtain ⟨a,ha⟩:∃ a,a=H / 3725290298:=⟨_,rfl⟩;obtain ⟨b,hb⟩:∃ b,b=H % 3725290298:=⟨_,rfl⟩;have f1:H.tdiv 3725290298=a:=by rw [C5 su0];exact ha.symm
  have f2:IntKind.u64.wrap a=a:=by rw [IntKind.wrap_u64];omega
  have f3:IntKind.u64.wrap (H-IntKind.u64.wrap (a*3725290298))=b:=by rw [IntKind.wrap_u64,IntKind.wrap_u64];omega
  rw [<-ha] at s0 sq0;rw [<-hb] at s0 sr0;clear ha hb;replace s0:=A8 s0;go_upto_block 0 with fail;go_cut [15] (fun s wx=>s=.int .u64 q1/\w1=wx);case first =>
   go_wp2_with fail;go_loopw [15,16] (fun s t wr=>∃ q r:Int,s=.int .u64 q/\t=.int .u64 r/\Hid (Est 3725290298 1983905792 H x q r)/\0<=q/\q<=4294967297/\0<=r/\r<4294967296/\w1=wr) (fun s _ _=>(intOf s).toNat);case atStart=>exact ⟨a,b,rfl,rfl,s0,sq0,s0.out.le,s0.out.r0,sr0,rfl⟩
   case round =>
    clear s0 f1 f2 f3 sq0 sr0;obtain ⟨q,r,rfl,rfl,hE,g0,g1,g2,g3,rfl⟩:=hrel;by_cases hc:4294967296<=q∨4294967296*r+x<q*1983905792
    ·obtain ⟨E1,E2⟩:=LnM.est_more e1 hE.out hc
     have k0:1<=q:=by omega
     have k1:IntKind.u64.wrap (q-1)=q-1:=by rw [IntKind.wrap_u64];omega
     have k2:IntKind.u64.wrap (r+3725290298)=r+3725290298:=by rw [IntKind.wrap_u64];omega
     replace E1:=A8 E1;by_cases hbr:4294967296<=r+3725290298
     ·have hq:Hid (q-1=q1):=A8 (by rw [h1.out];exact LnM.est_break e1 E1.out hbr E2)
      by_cases hq2:4294967296<=q
      ·go_wp2_with fail
       go_meet;exact ⟨by rw [hq.out],rfl⟩
      ·have hc2:4294967296*r+x<q*1983905792:=by omega
       go_wp2_with fail;go_meet;exact ⟨by rw [hq.out],rfl⟩
     ·by_cases hq2:4294967296<=q
      ·go_wp2_with fail
       go_roundw;case rel=>exact ⟨q-1,r+3725290298,rfl,rfl,E1,Ad,Ad,Ad,Ad,trivial⟩
       case measure=>simp [intOf];omega
      ·have hc2:4294967296*r+x<q*1983905792:=by omega
       go_wp2_with fail;go_roundw;case rel=>exact ⟨q-1,r+3725290298,rfl,rfl,E1,Ad,Ad,Ad,Ad,trivial⟩
       case measure=>simp [intOf];omega
    ·have hc1:¬ 4294967296<=q:=by omega
     have hc2:¬ 4294967296*r+x<q*1983905792:=by omega
     have hq:Hid (q=q1):=A8 (by rw [h1.out];exact LnM.est_end e1 hE.out Ad);clear hE hc;go_wp2_with fail;go_meet;exact ⟨by rw [hq.out],rfl⟩
  case rest =>
   obtain ⟨rfl,rfl⟩:=hcut;clear s0 f1 f2 f3 sq0 sr0 su0 su1 sx0 sx1;go_upto_region 22 with fail;clear b5;have s0:=LnM.est_start e2;have sq0:0<=U / 3725290298:=Ct e2.hu0 Ae;have sr0:U % 3725290298<4294967296:=by have:=Cu U (show (0:Int)<3725290298 by decide);omega
   have su0:=e2.hu0;have su1:U<16000000000000000000:=e2.hu1;have sx0:=e2.hx0;have sx1:=e2.hx1;obtain ⟨a,ha⟩:∃ a,a=U / 3725290298:=⟨_,rfl⟩;obtain ⟨b,hb⟩:∃ b,b=U % 3725290298:=⟨_,rfl⟩;have f1:U.tdiv 3725290298=a:=by rw [C5 su0];exact ha.symm
   have f2:IntKind.u64.wrap a=a:=by rw [IntKind.wrap_u64];omega
   have f3:IntKind.u64.wrap (U-IntKind.u64.wrap (a*3725290298))=b:=by rw [IntKind.wrap_u64,IntKind.wrap_u64];omega
   rw [<-ha] at s0 sq0;rw [<-hb] at s0 sr0;clear ha hb;replace s0:=A8 s0;go_upto_block 2 with fail;go_cut [18] (fun s wx=>s=.int .u64 q2/\w1=wx);case first =>
    go_wp2_with fail;go_loopw [18,16] (fun s t wr=>∃ q r:Int,s=.int .u64 q/\t=.int .u64 r/\Hid (Est 3725290298 1983905792 U y q r)/\0<=q/\q<=4294967297/\0<=r/\r<4294967296/\w1=wr) (fun s _ _=>(intOf s).toNat);case atStart=>exact ⟨a,b,rfl,rfl,s0,sq0,s0.out.le,s0.out.r0,sr0,rfl⟩
    case round =>
     clear s0 f1 f2 f3 sq0 sr0;obtain ⟨q,r,rfl,rfl,hE,g0,g1,g2,g3,rfl⟩:=hrel;by_cases hc:4294967296<=q∨4294967296*r+y<q*1983905792
     ·obtain ⟨E1,E2⟩:=LnM.est_more e2 hE.out hc
      have k0:1<=q:=by omega
      have k1:IntKind.u64.wrap (q-1)=q-1:=by rw [IntKind.wrap_u64];omega
      have k2:IntKind.u64.wrap (r+3725290298)=r+3725290298:=by rw [IntKind.wrap_u64];omega
      replace E1:=A8 E1;by_cases hbr:4294967296<=r+3725290298
      ·have hq:Hid (q-1=q2):=A8 (by rw [h2.out];exact LnM.est_break e2 E1.out hbr E2)
       by_cases hq2:4294967296<=q
       ·go_wp2_with fail
        go_meet;exact ⟨by rw [hq.out],rfl⟩
       ·have hc2:4294967296*r+y<q*1983905792:=by omega
        go_wp2_with fail;go_meet;exact ⟨by rw [hq.out],rfl⟩
      ·by_cases hq2:4294967296<=q
       ·go_wp2_with fail
        go_roundw;case rel=>exact ⟨q-1,r+3725290298,rfl,rfl,E1,Ad,Ad,Ad,Ad,trivial⟩
        case measure=>simp [intOf];omega
       ·have hc2:4294967296*r+y<q*1983905792:=by omega
        go_wp2_with fail;go_roundw;case rel=>exact ⟨q-1,r+3725290298,rfl,rfl,E1,Ad,Ad,Ad,Ad,trivial⟩
        case measure=>simp [intOf];omega
     ·have hc1:¬ 4294967296<=q:=by omega
      have hc2:¬ 4294967296*r+y<q*1983905792:=by omega
      have hq:Hid (q=q2):=A8 (by rw [h2.out];exact LnM.est_end e2 hE.out Ad);clear hE hc;go_wp2_with fail;go_meet;exact ⟨by rw [hq.out],rfl⟩
   case rest =>
    obtain ⟨rfl,rfl⟩:=hcut;clear s0 f1 f2 f3 sq0 sr0 su0 su1 sx0 sx1;go_wp2;exact bodyPost_ret (v:=.tuple #[.int .u64 (q1*4294967296+q2),.int .u64 (Z / 16)]) (by simp [results,Tryz.results73,go_sem]) rfl ⟨rfl,Below.refl _ _⟩
end
section
open Go.RowKit Go.Shelf
attribute [local go_sem] Oper.semAt_some
theorem PB (w:World) (T:TypeId) (nd:Nat) (hs:nd<=24):Sort.Holds (fun (b:UInt8)=>Value.int .u8 (b.toNat:Int)) (w.alloc (.cells Lib.zeros24 T)) w.heap.size 0 (Array.replicate nd (0:UInt8)):=fun j hj=>by
 have hj':j<nd:=by simpa using hj
 refine ⟨?_,World.frozen?_alloc_new _ _ _ _⟩;rw [World.cell?_alloc_new,BN,Lib.zeros24_at _ Ad,getElem!_pos _ j hj];simp
theorem O7 (u:Nat) (hu:u<18446744073709551616) (w:World) (hE:Fp w) :
  Calls Tryz.prog 105 #[.int .u64 u,.int .i64 10] w fun e w'=>e=.returned (.string ⟨(Lib.decDigits u).toArray⟩)/\Below w.heap.size w w':=by
 by_cases hs:u<100
 ·have hs':(u:Int)<100:=by omega
  have hc:IntKind.i64.wrap (u:Int)=u:=BT _ Ad;go_enter Tryz.func105,Tryz.ntmps105;go_wp2_with fail;refine Calls.mono (Tryz.internal_strconv_small u hs _) ?_;rintro e w' ⟨rfl,rfl⟩;go_wp2;go_ret;exact ⟨rfl,Below.refl _ _⟩
 ·have hs':¬ (u:Int)<100:=by omega
  have hu1:1<=u:=by omega
  have hnd20:Lib.nDigits u<=20:=by have:=Lib.numDigits_eq u hu1 hu;split at this <;> omega
  have hal:Tryz.prog.arrayLen 152=24:=by kernel_rfl
  have hsl:∀ W,(Instr.sliceAt 152 (.pointer (some ⟨w.heap.size,0,none⟩)) none (some (.int .i64 (Lib.nDigits u:Int))) none).run Tryz.prog W=.ok (.slice (some ⟨w.heap.size,0,none⟩) (Lib.nDigits u) 24) W:=fun W=>by
   rw [run_sliceAt_array_h W 152 ⟨w.heap.size,0,none⟩ Tryz.underlying152 .i64 (Lib.nDigits u:Int) Ad (by rw [hal];omega)];go_simp
  have hH0:=PB w 152 (Lib.nDigits u) Ad;have hfmt:=Tryz.internal_strconv_formatBase10 w.heap.size 0 24 u (Array.replicate (Lib.nDigits u) 0) (w.alloc (.cells Lib.zeros24 152)) hH0 (by rw [Array.size_replicate];exact Lib.lt_pow_nDigits u) hu (by rw [Array.size_replicate];omega);rw [Array.size_replicate] at hfmt;have HH0:=A8 hH0;have hnum:=A8 (Tryz.internal_strconv_numDigits u hu1 hu (w.alloc (.cells Lib.zeros24 152)) (Lib.tabIs_alloc hE.tab _));replace hfmt:=A8 hfmt;clear hH0 hal;go_enter Tryz.func105,Tryz.ntmps105;go_wp2_with fail;refine Calls.mono hnum.out ?_;rintro e w' ⟨rfl,rfl⟩;go_wp2_with fail;refine Calls.mono hfmt.out ?_;rintro e w' ⟨rfl,k,v',dk,rfl,hF⟩;have hcv:(convert 132 9 (.slice (some ⟨w.heap.size,0,none⟩) (Lib.nDigits u) 24)).run Tryz.prog ((Sort.putRow (fun (b:UInt8)=>Value.int .u8 (b.toNat:Int)) (w.alloc (.cells Lib.zeros24 152)) w.heap.size 0 dk).drewN k)=.ok (.string ⟨(Lib.decDigits u).toArray⟩) ((Sort.putRow (fun (b:UInt8)=>Value.int .u8 (b.toNat:Int)) (w.alloc (.cells Lib.zeros24 152)) w.heap.size 0 dk).drewN k):=by
   have h:=run_convert_bytes_back (P:=Tryz.prog) ((Sort.putRow (fun (b:UInt8)=>Value.int .u8 (b.toNat:Int)) (w.alloc (.cells Lib.zeros24 152)) w.heap.size 0 dk).drewN k) 132 9 5 ⟨w.heap.size,0,none⟩ 24 (Lib.decDigits u) Tryz.underlying132 Tryz.underlying5 Tryz.underlying9 (fun j hj=>by
    rw [Lib.row_is_numeral hF j hj,Lib.add_plain,World.cell?_drewN];exact Sort.cell?_putRow (fun (b:UInt8)=>Value.int .u8 (b.toNat:Int)) _ w.heap.size 0 _ dk HH0.out (by rw [hF.size,Array.size_replicate]) j (by rw [hF.size];rw [Lib.decDigits_length] at hj;exact hj))
   rw [Lib.decDigits_length] at h;exact h
  have hB:Below w.heap.size w ((Sort.putRow (fun (b:UInt8)=>Value.int .u8 (b.toNat:Int)) (w.alloc (.cells Lib.zeros24 152)) w.heap.size 0 dk).drewN k):=by
   rw [Sort.alloc_eq_grow];obtain ⟨os',_,e⟩:=Sort.putRow_grow_new (fun (b:UInt8)=>Value.int .u8 (b.toNat:Int)) w #[.cells Lib.zeros24 152] w.heap.size 0 dk (Aa _);rw [e];exact Lib.below_grow _ w (Aa _) k os'
  replace hB:=A8 hB;clear hF HH0 hfmt hnum;go_wp2;go_ret;exact ⟨rfl,hB.out⟩
theorem PD (u:Nat) (hu:u<18446744073709551616) (w:World) (hE:Fp w) :
  Calls Tryz.prog 74 #[.int .u64 u,.int .i64 10] w fun e w'=>e=.returned (.string ⟨(Lib.decDigits u).toArray⟩)/\Below w.heap.size w w':=by
 have H:=A8 (O7 u hu w hE)
 go_enter Tryz.func74,Tryz.ntmps74
 go_wp2_with fail
 refine Calls.mono H.out ?_
 rintro e w' ⟨rfl,hb⟩
 go_wp2
 go_ret
 exact ⟨rfl,hb⟩
end
section
open Go.RowKit
open LnM (wd DL)
attribute [local go_sem] Oper.semAt_some
theorem N8 (z:Int) (hz:LnM.Wide z) (B0 B1:Nat) (t:TypeId) (i:Nat) (hi:i<100) (w:World) (h0:Ds w B0 (wc (wd z)) t) (h1:w.cell? ⟨B1,0,none⟩=some (.int .u64 (if z<0 then 18446744073709551615 else 0))) :
  Calls Tryz.prog 145 #[.int .i64 i,.pointer (some ⟨B0,0,none⟩),.pointer (some ⟨B1,0,none⟩)] w fun e w'=>e=.returned (.int .u64 (wd z i))/\w'=w:=by
 by_cases hlt:i<12
 ·have hlt':(i:Int)<12:=by omega
  have c0:=(h0.cell i).trans (FC _ hlt);clear h0 h1 hz;generalize wd z i=x at *
  go_enter Tryz.func145,Tryz.ntmps145;go_wp2;go_ret;exact ⟨rfl,rfl⟩
 ·have hlt':¬ (i:Int)<12:=by omega
  have e:wd z i=if z<0 then 18446744073709551615 else 0:=LnM.wd_fill hz Ad
  rw [<-e] at h1;clear h0 hz e;generalize wd z i=x at *
  go_enter Tryz.func145,Tryz.ntmps145;go_wp2;go_ret;exact ⟨rfl,rfl⟩
theorem pow2_le {i j:Nat} (h:i<=j):(2:Int) ^ i<=2 ^ j:=by
 obtain ⟨k,rfl⟩:∃ k,j=i+k:=⟨j-i,Ad⟩;rw [Cv];have h1:(0:Int)<2 ^ i:=Int.pow_pos Ae;have h2:(0:Int)<2 ^ k:=Int.pow_pos Ae;have:=Cw (show (1:Int)<=2 ^ k by omega) (show (0:Int)<=2 ^ i by omega);omega
theorem LW {x y:Int} (hx:0<=x/\x<18446744073709551616) {r:Nat} (hr:r<64) :
  bits .or .u64 (x / 2 ^ r) (IntKind.u64.wrap (IntKind.u64.wrap (y*2)*2 ^ (63-r)))=x / 2 ^ r+(y % 2 ^ r)*2 ^ (64-r):=by
 have hp:=LnM.two_pos r
 have hq:=LnM.two_pos (64-r)
 have e64:(2:Int) ^ r*2 ^ (64-r)=18446744073709551616:=by rw [<-Cv,show r+(64-r)=64 by omega];decide
 have e1:IntKind.u64.wrap (IntKind.u64.wrap (y*2)*2 ^ (63-r))=(y % 2 ^ r)*2 ^ (64-r):=by
  rw [IntKind.wrap_u64,IntKind.wrap_u64,Int.mul_emod,Int.emod_emod,<-Int.mul_emod,AL,show (2:Int)*2 ^ (63-r)=2 ^ (64-r) by rw [show 64-r=(63-r)+1 by omega,Cx,AM],<-e64];rw [AM y,AM (2 ^ r:Int),Int.mul_emod_mul_of_pos _ _ hq];exact AM _ _
 rw [e1]
 have h1:0<=y % 2 ^ r:=Cy _ Ad
 have h2:y % 2 ^ r<2 ^ r:=Cu _ hp
 have h3:0<=x / 2 ^ r:=Ct hx.1 Ad
 have h4:x / 2 ^ r<2 ^ (64-r):=Cz hp (by rw [AM,e64];exact hx.2)
 refine bits_join_low .u64 64 Ae wraps_u64 (64-r) _ _ h3 h4 (Int.lt_of_lt_of_le h4 ?_) (BZ h1 Ad) (Int.mul_emod_left _ _) ?_
 ·exact pow2_le Ad
 ·show _<(18446744073709551616:Int)
  rw [<-e64];exact Int.mul_lt_mul_of_pos_right h2 hq
theorem LX (z:Int) (hz:LnM.Wide z) (n:Nat) (hn:n<800) (w:World) :
  Calls Tryz.prog 127 #[.agg (wc (wd z)),.int .i64 n] w (DR w (.agg (wc (wd (z / 2 ^ n))))):=by
 obtain ⟨qn,r,hqr,hr,hq⟩:∃ q r:Nat,n=64*q+r/\r<64/\q<=12:=⟨n / 64,n % 64,Ad,Ad,Ad⟩
 have hsg:=LnM.wd_neg hz
 have hw:=fun i=>LnM.wd_shift z qn r hr i
 rw [<-hqr] at hw
 replace hqr:=A8 hqr
 have hx:bits .xor .u64 (if IntKind.u64.signed=true then -1 else IntKind.u64.max) 0=18446744073709551615:=by decide +kernel
 obtain ⟨V1,ev1,S1,zv1⟩:=(BL.start w).add' (wc (wd z)) 66
 obtain ⟨V2,ev2,S2,zv2⟩:=S1.add' (wc (fun _=>0)) 66
 obtain ⟨V3,ev3,S3,zv3⟩:=S2.add' (#[.int .u64 0]) 64
 rw [zv1] at S2
 rw [zv2,zv1] at S3
 have hV:V3=(((w.alloc (.cells (wc (wd z)) 66)).alloc (.cells (wc (fun _=>0)) 66)).alloc (.cells (#[.int .u64 0]) 64)):=by rw [ev3,ev2,ev1]
 have hS:BL w [(w.heap.size+1+1,#[.int .u64 0],64),(w.heap.size+1,wc (fun _=>0),66),(w.heap.size,wc (wd z),66)] V3:=S3
 clear ev1 ev2 ev3 zv1 zv2 zv3 S1 S2 S3
 obtain ⟨a0,a1,a2,a3,a4,a5,a6,a7,a8,a9,a10,a11⟩:=DN (show Ds _ (w.heap.size) (wc (wd z)) 66 from hS.blks (w.heap.size,wc (wd z),66) Aj)
 go_enter Tryz.func127,Tryz.ntmps127
 go_upto_region 2 with fail
 rw [<-hV]
 clear hV
 by_cases hneg:z<0
 ·have NEG:∀ W,Calls Tryz.prog 69 #[.agg (wc (wd z))] W (DR W (.bool true)):=fun W=>by have:=JZ (wd z) W;rwa [show (wd z 11 / 9223372036854775808==1)=true by rw [C4];exact hsg.2 hneg] at this
  have hfl:(if z<0 then (18446744073709551615:Int) else 0)=18446744073709551615:=AU hneg;have WW:=fun (B0 B1:Nat) (t:TypeId) (i:Nat) (hi:i<100) (w:World) (h0:Ds w B0 (wc (wd z)) t)=>N8 z hz B0 B1 t i hi w h0
  rw [hfl] at WW;clear hneg hsg hfl hz;replace WW:=A8 WW;replace NEG:=A8 NEG;replace hw:=A8 hw;go_wp2_with fail;refine Calls.mono (NEG.out _) ?_;rintro e w1 ⟨rfl,hb⟩;replace hS:=hS.call hb;clear hb;clear a0 a1 a2 a3 a4 a5 a6 a7 a8 a9 a10 a11;have c0:=hS.c1 (w.heap.size+1+1) _ _ Ah;have c1:=hS.frozen (w.heap.size+1+1) _ _ Ah 0;have hO:JB w [(w.heap.size+1+1,#[.int .u64 0],64),(w.heap.size+1,wc (fun _=>0),66),(w.heap.size,wc (wd z),66)]:=⟨by simp;omega,by simp;omega⟩;replace hS:=BL.putc (A:=[]) hO hS 0 (.int .u64 18446744073709551615);go_upto_region 4 with fail;clear c0 c1 hO;obtain ⟨W,hW⟩:∃ W,W=w1.setCell ⟨w.heap.size+1+1,0,none⟩ (.int .u64 18446744073709551615):=⟨_,rfl⟩;rw [<-hW] at hS;rw [<-hW];clear hW;replace hS:BL w [(w.heap.size+1+1,#[.int .u64 18446744073709551615],64),(w.heap.size+1,wc (fun _=>0),66),(w.heap.size,wc (wd z),66)] W:=hS;clear hx;have hO:=(show JB w [(w.heap.size+1+1,#[.int .u64 18446744073709551615],64),(w.heap.size+1,wc (fun _=>0),66),(w.heap.size,wc (wd z),66)] from ⟨by simp;omega,by simp;omega⟩).add hS (wc (fun _=>0)) 66;replace hS:=hS.add (wc (fun _=>0)) 66;obtain ⟨B,hB⟩:∃ B,B=W.heap.size:=⟨_,rfl⟩;obtain ⟨V,hV⟩:∃ V,V=W.alloc (.cells (wc (fun _=>0)) 66):=⟨_,rfl⟩;go_upto_region 6 with fail;rw [<-hV,<-hB] at hS;rw [<-hB] at hO |-;rw [<-hV];clear hV hB;replace hO:∀ cs,JB w [(B,cs,66),(w.heap.size+1+1,#[.int .u64 18446744073709551615],64),(w.heap.size+1,wc (fun _=>0),66),(w.heap.size,wc (wd z),66)]:=fun cs=>JB.put (A:=[]) hO
  replace hS:BL w [(B,wc (fun j=>if j<0 then wd (z / 2 ^ n) j else 0),66),(w.heap.size+1+1,#[.int .u64 18446744073709551615],64),(w.heap.size+1,wc (fun _=>0),66),(w.heap.size,wc (wd z),66)] V:=hS;go_wp2_with fail;go_loopw [14] (fun o wr=>∃ i:Nat,o=.int .i64 i/\i<=12/\BL w [(B,wc (fun j=>if j<i then wd (z / 2 ^ n) j else 0),66),(w.heap.size+1+1,#[.int .u64 18446744073709551615],64),(w.heap.size+1,wc (fun _=>0),66),(w.heap.size,wc (wd z),66)] wr) (fun o _=>12-(intOf o).toNat);case atStart=>exact ⟨0,rfl,Ad,hS⟩
  case round =>
   clear hS;obtain ⟨i,rfl,hi,hS⟩:=hrel;by_cases hlt:i<12
   ·have hlt':(i:Int)<12:=by omega
    have c0:=(hS.cell B _ _ Ah i).trans (FC _ hlt);have c1:=hS.frozen B _ _ Ah i;have hS2:=BL.putc (A:=[]) (hO _) hS i (.int .u64 (wd (z / 2 ^ n) i));rw [F7 _ hlt] at hS2;have e:wc (DL (fun j=>if j<i then wd (z / 2 ^ n) j else 0) i (wd (z / 2 ^ n) i))=wc (fun j=>if j<i+1 then wd (z / 2 ^ n) j else 0):=Eu fun j hj=>by
     unfold DL;by_cases h:j=i
     ·subst h;simp
     ·by_cases h2:j<i
      ·simp [h,h2,show j<i+1 by omega]
      ·simp [h,h2,show ¬ j<i+1 by omega]
    rw [e] at hS2;clear e;replace hS2:=A8 hS2;have hA:∀ W,BL w [(B,wc (fun j=>if j<i then wd (z / 2 ^ n) j else 0),66),(w.heap.size+1+1,#[.int .u64 18446744073709551615],64),(w.heap.size+1,wc (fun _=>0),66),(w.heap.size,wc (wd z),66)] W->Ds W w.heap.size (wc (wd z)) 66/\W.cell? ⟨w.heap.size+1+1,0,none⟩=some (.int .u64 18446744073709551615):=fun W h=>⟨h.blks (w.heap.size,wc (wd z),66) Ak,h.c1 (w.heap.size+1+1) _ _ Ai⟩
    obtain ⟨k,hk⟩:∃ k,k=i+qn:=⟨_,rfl⟩;obtain ⟨k1,hk1⟩:∃ k1,k1=k+1:=⟨_,rfl⟩;have W1:=fun W h=>WW.out w.heap.size (w.heap.size+1+1) 66 k Ad W (hA W h).1 (hA W h).2
    have W2:=fun W h=>WW.out w.heap.size (w.heap.size+1+1) 66 k1 Ad W (hA W h).1 (hA W h).2
    have hJ:=LW (x:=wd z k) (y:=wd z k1) (LnM.wd_bd z k) hr;rw [show wd z k / 2 ^ r+wd z k1 % 2 ^ r*2 ^ (64-r)=wd (z / 2 ^ n) i by rw [hw.out i,hk1,hk]] at hJ;have hqr':=hqr.out;have d1:(n:Int) / 64=qn:=by omega
    have d2:(n:Int) % 64=r:=by omega
    have d3:(n:Int).tdiv 64=qn:=by rw [C5 Ad];omega
    have d4:(n:Int).tmod 64=r:=by rw [Bi Ad];omega
    have d5:IntKind.i64.wrap ((i:Int)+qn)=(k:Nat):=by rw [BT _ Ad];omega
    have d6:IntKind.i64.wrap ((k:Int)+1)=(k1:Nat):=by rw [BT _ Ad];omega
    obtain ⟨r2,hr2⟩:∃ r2,r2=63-r:=⟨_,rfl⟩;rw [<-hr2] at hJ;have hr2':r2<=63:=by omega
    have d7:IntKind.i64.wrap (63-(r:Int))=(r2:Nat):=by rw [BT _ Ad];omega
    have d8:IntKind.i64.wrap (qn:Int)=qn:=BT _ Ad;have d9:IntKind.i64.wrap (r:Int)=r:=BT _ Ad;clear hA hw hqr' hk hk1 hr2;generalize wd z k=x at *
    generalize wd z k1=y at *
    generalize wd (z / 2 ^ n) i=v at *
    replace W1:=A8 W1;replace W2:=A8 W2;go_upto_region 9 with fail;replace hS:=hS.drew;replace hS2:Hid (BL w [(B,wc (fun j=>if j<i+1 then wd (z / 2 ^ n) j else 0),66),(w.heap.size+1+1,#[.int .u64 18446744073709551615],64),(w.heap.size+1,wc (fun _=>0),66),(w.heap.size,wc (wd z),66)] (wr.drew.setCell ⟨B,i,none⟩ (.int .u64 v))):=A8 (show BL w _ ((wr.setCell ⟨B,i,none⟩ (.int .u64 v)).drew) from hS2.out.drew);have c2:wr.drew.cell? ⟨B,i,none⟩=_:=(World.cell?_drew _ _).trans c0;have c3:wr.drew.frozen? ⟨B,i,none⟩=_:=c1;clear c0 c1;go_region_held3 (fun _=>True) (trivial) (first | (go_at_call 145;(with_reducible refine Calls.mono (W1.out _ hS) ?_);rintro e w' ⟨rfl,rfl⟩) | (go_at_call 145;(with_reducible refine Calls.mono (W2.out _ hS) ?_);rintro e w' ⟨rfl,rfl⟩));all_goals (go_wp2_with fail;go_roundw)
    all_goals first | exact ⟨i+1,by go_num,Ad,hS2.out⟩ | (simp [intOf];omega)
   ·obtain rfl:i=12:=by omega
    have e:wc (fun j=>if j<12 then wd (z / 2 ^ n) j else 0)=wc (wd (z / 2 ^ n)):=Eu fun j hj=>by simp [hj]
    rw [e] at hS;clear e hw WW NEG hO;generalize wd (z / 2 ^ n)=g at *
    go_upto_region 11 with fail;obtain ⟨k0,k1,k2,k3,k4,k5,k6,k7,k8,k9,k10,k11⟩:=DN (show Ds _ (B) (wc g) 66 from hS.blks (B,wc g,66) Ah);have hR:Ds _ (w.heap.size+1) (wc (fun _=>0)) 66:=hS.blks (w.heap.size+1,wc (fun _=>0),66) Aj;obtain ⟨r0,r1,r2,r3,r4,r5,r6,r7,r8,r9,r10,r11⟩:=DN hR;obtain ⟨q0,q1,q2,q3,q4,q5,q6,q7,q8,q9,q10,q11⟩:=Fy hR;obtain ⟨y0,y1,y2,y3,y4,y5,y6,y7,y8,y9,y10,y11⟩:=DN (Fs (f:=g) hR);have hfin:=A8 (H0 (f:=g) hS.below (show w.heap.size<=_ from Cr _));clear hR hS;dsimp only [Jg] at y0 y1 y2 y3 y4 y5 y6 y7 y8 y9 y10 y11 hfin;go_wp2;exact bodyPost_ret (v:=.agg (wc g)) (by simp [results,Tryz.results127,go_sem,y0,y1,y2,y3,y4,y5,y6,y7,y8,y9,y10,y11]) rfl ⟨rfl,hfin.out⟩
 ·have NEG:∀ W,Calls Tryz.prog 69 #[.agg (wc (wd z))] W (DR W (.bool false)):=fun W=>by have:=JZ (wd z) W;rwa [show (wd z 11 / 9223372036854775808==1)=false by rw [Am];exact fun h=>hneg (hsg.1 h)] at this
  have hfl:(if z<0 then (18446744073709551615:Int) else 0)=0:=AP hneg;have WW:=fun (B0 B1:Nat) (t:TypeId) (i:Nat) (hi:i<100) (w:World) (h0:Ds w B0 (wc (wd z)) t)=>N8 z hz B0 B1 t i hi w h0
  rw [hfl] at WW;clear hneg hsg hfl hz;replace WW:=A8 WW;replace NEG:=A8 NEG;replace hw:=A8 hw;go_wp2_with fail;refine Calls.mono (NEG.out _) ?_;rintro e w1 ⟨rfl,hb⟩;replace hS:=hS.call hb;clear hb;clear a0 a1 a2 a3 a4 a5 a6 a7 a8 a9 a10 a11;go_upto_region 4 with fail;obtain ⟨W,hW⟩:∃ W,W=w1:=⟨_,rfl⟩;rw [<-hW] at hS |-;clear hW;clear hx;have hO:=(show JB w [(w.heap.size+1+1,#[.int .u64 0],64),(w.heap.size+1,wc (fun _=>0),66),(w.heap.size,wc (wd z),66)] from ⟨by simp;omega,by simp;omega⟩).add hS (wc (fun _=>0)) 66;replace hS:=hS.add (wc (fun _=>0)) 66;obtain ⟨B,hB⟩:∃ B,B=W.heap.size:=⟨_,rfl⟩;obtain ⟨V,hV⟩:∃ V,V=W.alloc (.cells (wc (fun _=>0)) 66):=⟨_,rfl⟩;go_upto_region 6 with fail;rw [<-hV,<-hB] at hS;rw [<-hB] at hO |-;rw [<-hV];clear hV hB;replace hO:∀ cs,JB w [(B,cs,66),(w.heap.size+1+1,#[.int .u64 0],64),(w.heap.size+1,wc (fun _=>0),66),(w.heap.size,wc (wd z),66)]:=fun cs=>JB.put (A:=[]) hO
  replace hS:BL w [(B,wc (fun j=>if j<0 then wd (z / 2 ^ n) j else 0),66),(w.heap.size+1+1,#[.int .u64 0],64),(w.heap.size+1,wc (fun _=>0),66),(w.heap.size,wc (wd z),66)] V:=hS;go_wp2_with fail;go_loopw [14] (fun o wr=>∃ i:Nat,o=.int .i64 i/\i<=12/\BL w [(B,wc (fun j=>if j<i then wd (z / 2 ^ n) j else 0),66),(w.heap.size+1+1,#[.int .u64 0],64),(w.heap.size+1,wc (fun _=>0),66),(w.heap.size,wc (wd z),66)] wr) (fun o _=>12-(intOf o).toNat);case atStart=>exact ⟨0,rfl,Ad,hS⟩
  case round =>
   clear hS;obtain ⟨i,rfl,hi,hS⟩:=hrel;by_cases hlt:i<12
   ·have hlt':(i:Int)<12:=by omega
    have c0:=(hS.cell B _ _ Ah i).trans (FC _ hlt);have c1:=hS.frozen B _ _ Ah i;have hS2:=BL.putc (A:=[]) (hO _) hS i (.int .u64 (wd (z / 2 ^ n) i));rw [F7 _ hlt] at hS2;have e:wc (DL (fun j=>if j<i then wd (z / 2 ^ n) j else 0) i (wd (z / 2 ^ n) i))=wc (fun j=>if j<i+1 then wd (z / 2 ^ n) j else 0):=Eu fun j hj=>by
     unfold DL;by_cases h:j=i
     ·subst h;simp
     ·by_cases h2:j<i
      ·simp [h,h2,show j<i+1 by omega]
      ·simp [h,h2,show ¬ j<i+1 by omega]
    rw [e] at hS2;clear e;replace hS2:=A8 hS2;have hA:∀ W,BL w [(B,wc (fun j=>if j<i then wd (z / 2 ^ n) j else 0),66),(w.heap.size+1+1,#[.int .u64 0],64),(w.heap.size+1,wc (fun _=>0),66),(w.heap.size,wc (wd z),66)] W->Ds W w.heap.size (wc (wd z)) 66/\W.cell? ⟨w.heap.size+1+1,0,none⟩=some (.int .u64 0):=fun W h=>⟨h.blks (w.heap.size,wc (wd z),66) Ak,h.c1 (w.heap.size+1+1) _ _ Ai⟩
    obtain ⟨k,hk⟩:∃ k,k=i+qn:=⟨_,rfl⟩;obtain ⟨k1,hk1⟩:∃ k1,k1=k+1:=⟨_,rfl⟩;have W1:=fun W h=>WW.out w.heap.size (w.heap.size+1+1) 66 k Ad W (hA W h).1 (hA W h).2
    have W2:=fun W h=>WW.out w.heap.size (w.heap.size+1+1) 66 k1 Ad W (hA W h).1 (hA W h).2
    have hJ:=LW (x:=wd z k) (y:=wd z k1) (LnM.wd_bd z k) hr;rw [show wd z k / 2 ^ r+wd z k1 % 2 ^ r*2 ^ (64-r)=wd (z / 2 ^ n) i by rw [hw.out i,hk1,hk]] at hJ;have hqr':=hqr.out;have d1:(n:Int) / 64=qn:=by omega
    have d2:(n:Int) % 64=r:=by omega
    have d3:(n:Int).tdiv 64=qn:=by rw [C5 Ad];omega
    have d4:(n:Int).tmod 64=r:=by rw [Bi Ad];omega
    have d5:IntKind.i64.wrap ((i:Int)+qn)=(k:Nat):=by rw [BT _ Ad];omega
    have d6:IntKind.i64.wrap ((k:Int)+1)=(k1:Nat):=by rw [BT _ Ad];omega
    obtain ⟨r2,hr2⟩:∃ r2,r2=63-r:=⟨_,rfl⟩;rw [<-hr2] at hJ;have hr2':r2<=63:=by omega
    have d7:IntKind.i64.wrap (63-(r:Int))=(r2:Nat):=by rw [BT _ Ad];omega
    have d8:IntKind.i64.wrap (qn:Int)=qn:=BT _ Ad;have d9:IntKind.i64.wrap (r:Int)=r:=BT _ Ad;clear hA hw hqr' hk hk1 hr2;generalize wd z k=x at *
    generalize wd z k1=y at *
    generalize wd (z / 2 ^ n) i=v at *
    replace W1:=A8 W1;replace W2:=A8 W2;go_upto_region 9 with fail;replace hS:=hS.drew;replace hS2:Hid (BL w [(B,wc (fun j=>if j<i+1 then wd (z / 2 ^ n) j else 0),66),(w.heap.size+1+1,#[.int .u64 0],64),(w.heap.size+1,wc (fun _=>0),66),(w.heap.size,wc (wd z),66)] (wr.drew.setCell ⟨B,i,none⟩ (.int .u64 v))):=A8 (show BL w _ ((wr.setCell ⟨B,i,none⟩ (.int .u64 v)).drew) from hS2.out.drew);have c2:wr.drew.cell? ⟨B,i,none⟩=_:=(World.cell?_drew _ _).trans c0;have c3:wr.drew.frozen? ⟨B,i,none⟩=_:=c1;clear c0 c1;go_region_held3 (fun _=>True) (trivial) (first | (go_at_call 145;(with_reducible refine Calls.mono (W1.out _ hS) ?_);rintro e w' ⟨rfl,rfl⟩) | (go_at_call 145;(with_reducible refine Calls.mono (W2.out _ hS) ?_);rintro e w' ⟨rfl,rfl⟩));all_goals (go_wp2_with fail;go_roundw)
    all_goals first | exact ⟨i+1,by go_num,Ad,hS2.out⟩ | (simp [intOf];omega)
   ·obtain rfl:i=12:=by omega
    have e:wc (fun j=>if j<12 then wd (z / 2 ^ n) j else 0)=wc (wd (z / 2 ^ n)):=Eu fun j hj=>by simp [hj]
    rw [e] at hS;clear e hw WW NEG hO;generalize wd (z / 2 ^ n)=g at *
    go_upto_region 11 with fail;obtain ⟨k0,k1,k2,k3,k4,k5,k6,k7,k8,k9,k10,k11⟩:=DN (show Ds _ (B) (wc g) 66 from hS.blks (B,wc g,66) Ah);have hR:Ds _ (w.heap.size+1) (wc (fun _=>0)) 66:=hS.blks (w.heap.size+1,wc (fun _=>0),66) Aj;obtain ⟨r0,r1,r2,r3,r4,r5,r6,r7,r8,r9,r10,r11⟩:=DN hR;obtain ⟨q0,q1,q2,q3,q4,q5,q6,q7,q8,q9,q10,q11⟩:=Fy hR;obtain ⟨y0,y1,y2,y3,y4,y5,y6,y7,y8,y9,y10,y11⟩:=DN (Fs (f:=g) hR);have hfin:=A8 (H0 (f:=g) hS.below (show w.heap.size<=_ from Cr _));clear hR hS;dsimp only [Jg] at y0 y1 y2 y3 y4 y5 y6 y7 y8 y9 y10 y11 hfin;go_wp2;exact bodyPost_ret (v:=.agg (wc g)) (by simp [results,Tryz.results127,go_sem,y0,y1,y2,y3,y4,y5,y6,y7,y8,y9,y10,y11]) rfl ⟨rfl,hfin.out⟩
end
end Go.Proofs.YtioamkekjjkigaaGreatDoor
