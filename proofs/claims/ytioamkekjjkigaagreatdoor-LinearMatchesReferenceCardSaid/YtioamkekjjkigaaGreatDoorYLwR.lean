/- LwR, RgI, RgJ, LwN, Hot, RgK -/
import Derived.Test.YtioamkekjjkigaaGreatDoorYLwE
import Derived.Deep.RegionHeld3
import Derived.Deep.DeepCutAuto
import Derived.Deep.DeepAppendRoom
set_option maxHeartbeats 8000000
set_option maxRecDepth 100000
namespace Go.Proofs.YtioamkekjjkigaaGreatDoor
section
open Go.RowKit
open LnM (wd DL)
attribute [local go_sem] Oper.semAt_some
def GH (s:LnM.Sys) (B:Nat->Nat) (i j:Nat):Int:=if i<s.m then s.T B i j else s.C B j
theorem LY {z:Int} (h:LnM.Wide z) (W:World):Calls Tryz.prog 69 #[.agg (wc (wd z))] W (DR W (.bool (decide (z<0)))):=by
 have:=JZ (wd z) W;rwa [show (wd z 11 / 9223372036854775808==1)=decide (z<0) by rw [Bool.eq_iff_iff,C4,CB];exact LnM.wd_neg h] at this
theorem PG (t:Tb) (s:LnM.Sys) (F:Nat->Nat->Int) (B:Nat->Nat) (sg:Nat->Int) (d:Int) (k:Nat) (w:World) (h:K4 w t F B sg d) (hm:t.m=s.m) (hn:t.n=s.n+s.m+1) (hF:∀ i,i<s.m->∀ j,j<t.n->F i j=s.T B i j)
  (hk:k<s.n+s.m) (hm0:0<s.m) (hm1:t.m<=100000) (hn1:t.n<=100000) (hw1:∀ i,i<s.m->LnM.Wide (s.T B i k))
  (hw2:∀ i r,i<s.m->r<s.m->LnM.Wide (s.T B i (s.n+s.m)*s.T B r k-s.T B r (s.n+s.m)*s.T B i k)) :
  Calls Tryz.prog 71 #[.pointer (some ⟨t.tb,0,none⟩),.int .i64 k] w fun e w'=>(∃ b:Int,e=.returned (.int .i64 b)/\((b=-1/\∀ i,i<s.m->s.T B i k<=0)∨∃ r:Nat,b=r/\s.LeaveTo B k s.m r))/\Below w.heap.size w w':=by
 have hmt:0<t.m:=by omega
 have H:=A8 h
 have c0:=h.c0
 rw [Gq hmt] at c0
 have c1:=h.c1
 obtain ⟨la,hla⟩:∃ la,la=s.n+s.m:=⟨_,rfl⟩
 have hla1:IntKind.i64.wrap ((t.n:Int)-1)=la:=by rw [BT _ Ad];omega
 have hlan:la<t.n:=by omega
 have hkn:k<t.n:=by omega
 have hk0:(0:Int)<=k:=by omega
 have hk1:(k:Int)<t.n:=by omega
 have hl0:(0:Int)<=la:=by omega
 have hl1:(la:Int)<t.n:=by omega
 rw [<-hla] at hw2
 replace hw1:=A8 hw1
 replace hw2:=A8 hw2
 replace hF:=A8 hF
 replace hm:=A8 hm
 replace hla:=A8 hla
 clear h hn hk
 go_enter Tryz.func71,Tryz.ntmps71
 go_wp2_with fail
 clear c0 c1
 go_loopw [5,21] (fun b o wr=>∃ i:Nat,o=.int .i64 i/\i<=t.m/\Below w.heap.size w wr/\((b=.int .i64 (-1)/\Hid (∀ j,j<i->s.T B j k<=0))∨∃ r:Nat,b=.int .i64 r/\Hid (s.LeaveTo B k i r))) (fun _ o _=>t.m-(intOf o).toNat)
 case atStart=>exact ⟨0,rfl,Ad,Below.refl _ _,.inl ⟨rfl,A8 (fun j hj=>by omega)⟩⟩
 case round =>
  obtain ⟨i,rfl,hi,hB,hbest⟩:=hrel;by_cases him:i<t.m
  ·have him':(i:Int)<t.m:=by omega
   have hi0:(0:Int)<=i:=by omega
   have hims:i<s.m:=by have:=hm.out;omega
   have Hr:=A8 (H.out.below hB);have x0:=Hr.out.xs i him;obtain ⟨b0,b1,b2,b3,b4,b5,b6,b7,b8,b9,b10,b11⟩:=Eo ((Hr.out.grid.row i Ad).rd k hkn);rw [hF.out i hims k hkn] at b0 b1 b2 b3 b4 b5 b6 b7 b8 b9 b10 b11;obtain ⟨v,hv⟩:∃ v,v=s.T B i k:=⟨_,rfl⟩;rw [<-hv] at b0 b1 b2 b3 b4 b5 b6 b7 b8 b9 b10 b11;have hvw:LnM.Wide v:=by rw [hv];exact hw1.out i hims
   have NG:=fun W=>LY hvw W
   replace hv:=A8 hv;by_cases hneg:v<0
   ·rw [show decide (v<0)=true by simp [hneg]] at NG
    have hnp:s.T B i k<=0:=by rw [<-hv.out];omega
    obtain ⟨f,hf⟩:∃ f,f=wd v:=⟨_,rfl⟩;rw [<-hf] at b0 b1 b2 b3 b4 b5 b6 b7 b8 b9 b10 b11 NG;clear hneg hvw hf;replace NG:=A8 NG;go_wp2_with fail;refine Calls.mono (NG.out _) ?_;rintro e w1 ⟨rfl,hb⟩;have hB1:Below w.heap.size w w1:=hB.trans (hb.mono hB.size);go_wp2_with fail;go_roundw;case rel =>
     refine ⟨i+1,by go_num,Ad,hB1,?_⟩;rcases hbest with ⟨e,hn⟩ | ⟨r,e,hl⟩
     ·refine .inl ⟨e,A8 (fun j hj=>?_)⟩
      by_cases ej:j=i
      ·subst ej;exact hnp
      ·exact hn.out j Ad
     ·exact .inr ⟨r,e,A8 (LnM.leaveTo_skip hl.out (Cp.2 hnp))⟩
    case measure=>simp [intOf];omega
   ·by_cases hzero:v=0
    ·rw [show decide (v<0)=false by simp;omega] at NG
     have EQ:=fun W=>F8 hvw (b:=true) (by simp [hzero]) W
     have hnp:s.T B i k<=0:=by rw [<-hv.out];omega
     obtain ⟨f,hf⟩:∃ f,f=wd v:=⟨_,rfl⟩;rw [<-hf] at b0 b1 b2 b3 b4 b5 b6 b7 b8 b9 b10 b11 NG EQ;dsimp only [wc] at EQ;have hf':=A8 hf;clear hneg hvw hf hzero;replace NG:=A8 NG;go_wp2_with fail;refine Calls.mono (NG.out _) ?_;rintro e w1 ⟨rfl,hb⟩;have hB1:Below w.heap.size w w1:=hB.trans (hb.mono hB.size);have H1:=(Hr.out.below hb);clear b0 b1 b2 b3 b4 b5 b6 b7 b8 b9 b10 b11;obtain ⟨b0,b1,b2,b3,b4,b5,b6,b7,b8,b9,b10,b11⟩:=Eo ((H1.grid.row i Ad).rd k hkn);rw [hF.out i hims k hkn,<-hv.out,<-hf'.out] at b0 b1 b2 b3 b4 b5 b6 b7 b8 b9 b10 b11;clear H1;go_wp2_with fail;go_roundw;case rel =>
      refine ⟨i+1,by go_num,Ad,hB1,?_⟩;rcases hbest with ⟨e,hn⟩ | ⟨r,e,hl⟩
      ·refine .inl ⟨e,A8 (fun j hj=>?_)⟩
       by_cases ej:j=i
       ·subst ej;exact hnp
       ·exact hn.out j Ad
      ·exact .inr ⟨r,e,A8 (LnM.leaveTo_skip hl.out (Cp.2 hnp))⟩
     case measure=>simp [intOf];omega
    ·have hpos:0<s.T B i k:=by rw [<-hv.out];omega
     rw [show decide (v<0)=false by simp;omega] at NG;have EQ:=fun W=>F8 hvw (b:=false) (by simp [hzero]) W
     obtain ⟨f,hf⟩:∃ f,f=wd v:=⟨_,rfl⟩;rw [<-hf] at b0 b1 b2 b3 b4 b5 b6 b7 b8 b9 b10 b11 NG EQ;dsimp only [wc] at EQ;replace hf:=A8 hf;replace hpos:=A8 hpos;clear hneg hvw hzero;replace NG:=A8 NG;go_wp2_with fail;refine Calls.mono (NG.out _) ?_;rintro e w1 ⟨rfl,hb⟩;have hB1:Below w.heap.size w w1:=hB.trans (hb.mono hB.size);have H1:=A8 (Hr.out.below hb);clear b0 b1 b2 b3 b4 b5 b6 b7 b8 b9 b10 b11 NG hb;obtain ⟨b0,b1,b2,b3,b4,b5,b6,b7,b8,b9,b10,b11⟩:=Eo ((H1.out.grid.row i Ad).rd k hkn);rw [hF.out i hims k hkn,<-hv.out,<-hf.out] at b0 b1 b2 b3 b4 b5 b6 b7 b8 b9 b10 b11;rcases hbest with ⟨rfl,hn⟩ | ⟨r,rfl,hl⟩
     ·go_wp2_with fail
      go_roundw;case rel=>exact ⟨i+1,by go_num,Ad,hB1,.inr ⟨i,rfl,A8 (LnM.leaveTo_first (fun j hj=>Cp.2 (hn.out j hj)) hpos.out)⟩⟩
      case measure=>simp [intOf];omega
     ·have hrs:r<s.m:=by have:=hl.out.lt;omega
      have hrm:r<t.m:=by have:=hm.out;omega
      have hr0:(0:Int)<=r:=by omega
      have hr1:(r:Int)<t.m:=by omega
      have hrn:¬ (r:Int)<0:=by omega
      go_upto_region 9 with fail;clear b0 b1 b2 b3 b4 b5 b6 b7 b8 b9 b10 b11 EQ x0;have hDw:=hw2.out i r hims hrs;have T1:=FZ (s.T B i la) (s.T B r k);have T2:=FZ (s.T B r la) (s.T B i k);have MI:=FY (s.T B i la*s.T B r k) (s.T B r la*s.T B i k);obtain ⟨D,hD⟩:∃ D,D=s.T B i la*s.T B r k-s.T B r la*s.T B i k:=⟨_,rfl⟩;rw [<-hD] at MI hDw;replace hD:=A8 hD;rw [<-Ej,<-Ej,<-Ej] at T1 T2 MI;obtain ⟨ca,ea⟩:∃ c,c=wl (wd (s.T B i la)):=⟨_,rfl⟩;obtain ⟨cb,eb⟩:∃ c,c=wl (wd (s.T B r k)):=⟨_,rfl⟩;obtain ⟨cc,ec⟩:∃ c,c=wl (wd (s.T B r la)):=⟨_,rfl⟩;obtain ⟨cd,ed⟩:∃ c,c=wl (wd (s.T B i k)):=⟨_,rfl⟩;obtain ⟨c1,e1⟩:∃ c,c=wl (wd (s.T B i la*s.T B r k)):=⟨_,rfl⟩;obtain ⟨c2,e2⟩:∃ c,c=wl (wd (s.T B r la*s.T B i k)):=⟨_,rfl⟩;obtain ⟨c3,e3⟩:∃ c,c=wl (wd D):=⟨_,rfl⟩;rw [<-ea,<-eb,<-e1] at T1;rw [<-ec,<-ed,<-e2] at T2;rw [<-e1,<-e2,<-e3] at MI;have l3:c3.length=12:=by rw [e3];rfl
      have o3:∀ v∈c3,v.oneCell'=true:=by rw [e3];exact JC _
      have ua:(Tryz.prog.info? 66).map (·.size)=some ca.length:=by rw [ea];kernel_rfl
      have ub:(Tryz.prog.info? 66).map (·.size)=some cb.length:=by rw [eb];kernel_rfl
      have uc:(Tryz.prog.info? 66).map (·.size)=some cc.length:=by rw [ec];kernel_rfl
      have ud:(Tryz.prog.info? 66).map (·.size)=some cd.length:=by rw [ed];kernel_rfl
      have u3:(Tryz.prog.info? 66).map (·.size)=some c3.length:=by rw [l3];kernel_rfl
      have hu:=Tryz.underlying66;have hC:=A8 (show ∀ W',Below w1.heap.size w1 W'->(W'.rangeAt (t.R i) (la*12) ca/\W'.rangeAt (t.R r) (k*12) cb/\W'.rangeAt (t.R r) (la*12) cc/\W'.rangeAt (t.R i) (k*12) cd/\W'.cell? ⟨t.tb,0,none⟩=some (.slice (some ⟨t.xb,0,none⟩) t.m t.cx)/\W'.cell? ⟨t.xb,r,none⟩=some (.slice (some ⟨t.R r,0,none⟩) t.n t.n)) from fun W' hb=>by
       have HW:=H1.out.below hb;have q0:=HW.c0;rw [Gq hmt] at q0;have q1:=(HW.grid.row i Ad).rd la hlan;have q2:=(HW.grid.row r Ad).rd k hkn;have q3:=(HW.grid.row r Ad).rd la hlan;have q4:=(HW.grid.row i Ad).rd k hkn;rw [hF.out i hims la hlan,<-ea] at q1;rw [hF.out r hrs k hkn,<-eb] at q2;rw [hF.out r hrs la hlan,<-ec] at q3;rw [hF.out i hims k hkn,<-ed] at q4;exact ⟨q1,q2,q3,q4,q0,HW.xs r hrm⟩)
      replace T1:=A8 T1;replace T2:=A8 T2;replace MI:=A8 MI;clear ea eb ec ed e1 e2;replace e3:=A8 e3;have hb:=Dq w1 1;go_cut [9] (fun sx wx=>∃ g,sx=.pointer (some ⟨g,0,none⟩)/\Below w1.heap.size w1 wx/\Ds wx g (wc (wd D)) 66);case first =>
       refine wp_region_held_drew (S:=fun w'=>w'.rangeAt (t.R i) (la*12) ca/\w'.rangeAt (t.R r) (k*12) cb/\w'.rangeAt (t.R r) (la*12) cc/\w'.rangeAt (t.R i) (k*12) cd/\w'.cell? ⟨t.tb,0,none⟩=some (.slice (some ⟨t.xb,0,none⟩) t.m t.cx)/\w'.cell? ⟨t.xb,r,none⟩=some (.slice (some ⟨t.R r,0,none⟩) t.n t.n)) Ab (hC.out _ hb) (fun hHeld=>?_);refine tkV 0 (.slice (some ⟨t.R i,0,none⟩) t.n t.n) (fun w' hw=>?_) hHeld ?_
       ·go_simp
       try simp only [A7,A3,Act.put,A0,A5,A6]
       refine tkV 1 (.int .i64 la) (fun w' hw=>?_) hHeld ?_
       ·go_simp
       try simp only [Ag,Act.put]
       refine tkV 2 (.pointer (some ⟨t.R i,la*12,none⟩)) (fun w' hw=>?_) hHeld ?_
       ·go_simp
       try simp only [Ag,Act.put]
       refine tkY 3 (.agg (ca).toArray) rfl (yieldsIf_load_mid (by rfl) _ _ rfl _ _ rfl _ _ (fun w' hw=>hw.1) hu rfl ua) hHeld ?_;try simp only [Ag,Act.put]
       refine tkV 4 (.pointer (some ⟨t.tb,0,none⟩)) (fun w' hw=>?_) hHeld ?_
       ·go_simp
       try simp only [Ag,Act.put]
       refine tkV 5 (.pointer (some ⟨t.tb,0,none⟩)) (fun w' hw=>?_) hHeld ?_
       ·go_simp
       try simp only [Ag,Act.put]
       refine tkV 6 (.pointer (some ⟨t.tb,0,none⟩)) (fun w' hw=>?_) hHeld ?_
       ·go_simp
       try simp only [Ag,Act.put]
       refine tkV 7 (.slice (some ⟨t.xb,0,none⟩) t.m t.cx) (fun w' hw=>?_) hHeld ?_
       ·go_simp
       try simp only [Ag,Act.put]
       refine tkV 8 (.int .i64 r) (fun w' hw=>?_) hHeld ?_
       ·go_simp
       try simp only [Ag,Act.put]
       refine tkV 9 (.pointer (some ⟨t.xb,r,none⟩)) (fun w' hw=>?_) hHeld ?_
       ·go_simp
       try simp only [Ag,Act.put]
       refine tkV 10 (.slice (some ⟨t.R r,0,none⟩) t.n t.n) (fun w' hw=>?_) hHeld ?_
       ·go_simp
       try simp only [Ag,Act.put]
       refine tkV 11 (.int .i64 k) (fun w' hw=>?_) hHeld ?_
       ·go_simp
       try simp only [Ag,Act.put]
       refine tkV 12 (.pointer (some ⟨t.R r,k*12,none⟩)) (fun w' hw=>?_) hHeld ?_
       ·go_simp
       try simp only [Ag,Act.put]
       refine tkY 13 (.agg (cb).toArray) rfl (yieldsIf_load_mid (by rfl) _ _ rfl _ _ rfl _ _ (fun w' hw=>hw.2.1) hu rfl ub) hHeld ?_;try simp only [Ag,Act.put]
       refine tkV 15 (.pointer (some ⟨t.tb,0,none⟩)) (fun w' hw=>?_) hHeld ?_
       ·go_simp
       try simp only [Ag,Act.put]
       refine tkV 16 (.pointer (some ⟨t.tb,0,none⟩)) (fun w' hw=>?_) hHeld ?_
       ·go_simp
       try simp only [Ag,Act.put]
       refine tkV 17 (.pointer (some ⟨t.tb,0,none⟩)) (fun w' hw=>?_) hHeld ?_
       ·go_simp
       try simp only [Ag,Act.put]
       refine tkV 18 (.slice (some ⟨t.xb,0,none⟩) t.m t.cx) (fun w' hw=>?_) hHeld ?_
       ·go_simp
       try simp only [Ag,Act.put]
       refine tkV 19 (.int .i64 r) (fun w' hw=>?_) hHeld ?_
       ·go_simp
       try simp only [Ag,Act.put]
       refine tkV 20 (.pointer (some ⟨t.xb,r,none⟩)) (fun w' hw=>?_) hHeld ?_
       ·go_simp
       try simp only [Ag,Act.put]
       refine tkV 21 (.slice (some ⟨t.R r,0,none⟩) t.n t.n) (fun w' hw=>?_) hHeld ?_
       ·go_simp
       try simp only [Ag,Act.put]
       refine tkV 22 (.int .i64 la) (fun w' hw=>?_) hHeld ?_
       ·go_simp
       try simp only [Ag,Act.put]
       refine tkV 23 (.pointer (some ⟨t.R r,la*12,none⟩)) (fun w' hw=>?_) hHeld ?_
       ·go_simp
       try simp only [Ag,Act.put]
       refine tkY 24 (.agg (cc).toArray) rfl (yieldsIf_load_mid (by rfl) _ _ rfl _ _ rfl _ _ (fun w' hw=>hw.2.2.1) hu rfl uc) hHeld ?_;try simp only [Ag,Act.put]
       refine tkV 25 (.slice (some ⟨t.R i,0,none⟩) t.n t.n) (fun w' hw=>?_) hHeld ?_
       ·go_simp
       try simp only [Ag,Act.put]
       refine tkV 26 (.int .i64 k) (fun w' hw=>?_) hHeld ?_
       ·go_simp
       try simp only [Ag,Act.put]
       refine tkV 27 (.pointer (some ⟨t.R i,k*12,none⟩)) (fun w' hw=>?_) hHeld ?_
       ·go_simp
       try simp only [Ag,Act.put]
       refine tkY 28 (.agg (cd).toArray) rfl (yieldsIf_load_mid (by rfl) _ _ rfl _ _ rfl _ _ (fun w' hw=>hw.2.2.2.1) hu rfl ud) hHeld ?_;try simp only [Ag,Act.put]
       refine wpAnyH_ready (rs:=[14,31]) Ab Af ?_;refine AllReadyH.cons rfl (fun K hK=>?_) (AllReadyH.cons rfl (fun K hK=>?_) AllReadyH.nil)
       ·go_simp
        go_at_call 103;with_reducible refine Calls.mono (T1.out _) ?_
        rintro e wx0 ⟨rfl,hbx⟩;replace hb:=hb.trans (hbx.mono hb.size);clear hbx;refine hK.out _ _ (hC.out _ hb) (fun hHeld=>?_);clear hK K;try simp only [Ag,Act.put]
        refine wpAnyH_ready (rs:=[29,31]) Ab Af ?_;refine AllReadyH.cons rfl (fun K hK=>?_) (AllReadyH.cons rfl (fun K hK=>?_) AllReadyH.nil)
        ·go_simp
         go_at_call 103;with_reducible refine Calls.mono (T2.out _) ?_
         rintro e wx1 ⟨rfl,hbx⟩;replace hb:=hb.trans (hbx.mono hb.size);clear hbx;refine hK.out _ _ (hC.out _ hb) (fun hHeld=>?_);clear hK K;try simp only [Ag,Act.put]
         refine wpAnyH_ready (rs:=[30,31]) Ab Af ?_;refine AllReadyH.cons rfl (fun K hK=>?_) (AllReadyH.cons rfl (fun K hK=>?_) AllReadyH.nil)
         ·go_simp
          go_at_call 32;with_reducible refine Calls.mono (MI.out _) ?_
          rintro e wx2 ⟨rfl,hbx⟩;replace hb:=hb.trans (hbx.mono hb.size);clear hbx;refine hK.out _ _ (hC.out _ hb) (fun hHeld=>?_);clear hK K;try simp only [Ag,Act.put]
          refine wpAnyH_ready (rs:=[31]) Ab Af ?_;refine AllReadyH.cons rfl (fun K hK=>?_) AllReadyH.nil;go_simp;obtain ⟨Wn,hWn⟩:∃ Wn,Wn=wx2.alloc (.cells (wc (fun _=>0)) 66):=⟨_,rfl⟩;have hgB:Ds Wn wx2.heap.size (wc (fun _=>0)) 66:=by rw [hWn];exact Ds.new wx2 _ _
          obtain ⟨g,hg⟩:∃ g,g=wx2.heap.size:=⟨_,rfl⟩;have hgg:w1.heap.size<=g:=by rw [hg];exact hb.size
          replace hb:Below w1.heap.size w1 Wn:=by rw [hWn];exact hb.alloc hb.size _
          rw [<-hWn];clear hWn;rw [<-hg] at hgB |-;clear hg;refine hK.out _ _ (hC.out _ hb) (fun hHeld=>?_);clear hK K;try simp only [Ag,Act.put]
          refine wpAnyH_ready (rs:=[32]) Ab Af ?_;refine AllReadyH.cons rfl (fun K hK=>?_) AllReadyH.nil;rw [AU (by rfl)];have hth:Wn.there g 0 12:=BL.there (w:=w1) (L:=[(g,wc (fun _=>0),66)]) ⟨hb,fun p hp=>by rcases Aw.1 hp with rfl | hp;exact hgB;cases hp⟩ g _ 66 Ah 12 rfl;refine wp_store_mid _ _ _ rfl _ _ (List.toArray _) rfl rfl (by rw [BH,l3];exact hth) (by rw [BH];exact u3) (all_oneCell_toArray o3) ?_;rw [Cm];have hb9:Below w1.heap.size w1 (Wn.setCells g 0 c3):=hb.trans ((Dx c3 0 Wn).toBelow hb.size (by intro x hx;rw [B3.1 hx];exact hgg));have hk9:Ds (Wn.setCells g 0 c3) g (wc (wd D)) 66:=by rw [e3.out,HK];exact Fs hgB
          refine hK.out _ _ (hC.out _ hb9) (fun hHeld=>?_);clear hK K;try simp only [A7,A4,A3,Act.put]
          refine wpAnyH_done Ab ?_ _;go_wp2_with fail;go_meet;exact ⟨g,rfl,hb9,hk9⟩
         ·go_simp
          obtain ⟨Wn,hWn⟩:∃ Wn,Wn=wx1.alloc (.cells (wc (fun _=>0)) 66):=⟨_,rfl⟩;have hgB:Ds Wn wx1.heap.size (wc (fun _=>0)) 66:=by rw [hWn];exact Ds.new wx1 _ _
          obtain ⟨g,hg⟩:∃ g,g=wx1.heap.size:=⟨_,rfl⟩;have hgg:w1.heap.size<=g:=by rw [hg];exact hb.size
          replace hb:Below w1.heap.size w1 Wn:=by rw [hWn];exact hb.alloc hb.size _
          rw [<-hWn];clear hWn;rw [<-hg] at hgB |-;clear hg;refine hK.out _ _ (hC.out _ hb) (fun hHeld=>?_);clear hK K;try simp only [Ag,Act.put]
          refine wpAnyH_ready (rs:=[30]) Ab Af ?_;refine AllReadyH.cons rfl (fun K hK=>?_) AllReadyH.nil;go_simp;go_at_call 32;with_reducible refine Calls.mono (MI.out _) ?_
          rintro e wx2 ⟨rfl,hbx⟩;replace hb:=hb.trans (hbx.mono hb.size);replace hgB:=hgB.below hbx;clear hbx;refine hK.out _ _ (hC.out _ hb) (fun hHeld=>?_);clear hK K;try simp only [Ag,Act.put]
          refine wpAnyH_ready (rs:=[32]) Ab Af ?_;refine AllReadyH.cons rfl (fun K hK=>?_) AllReadyH.nil;rw [AU (by rfl)];have hth:wx2.there g 0 12:=BL.there (w:=w1) (L:=[(g,wc (fun _=>0),66)]) ⟨hb,fun p hp=>by rcases Aw.1 hp with rfl | hp;exact hgB;cases hp⟩ g _ 66 Ah 12 rfl;refine wp_store_mid _ _ _ rfl _ _ (List.toArray _) rfl rfl (by rw [BH,l3];exact hth) (by rw [BH];exact u3) (all_oneCell_toArray o3) ?_;rw [Cm];have hb9:Below w1.heap.size w1 (wx2.setCells g 0 c3):=hb.trans ((Dx c3 0 wx2).toBelow hb.size (by intro x hx;rw [B3.1 hx];exact hgg));have hk9:Ds (wx2.setCells g 0 c3) g (wc (wd D)) 66:=by rw [e3.out,HK];exact Fs hgB
          refine hK.out _ _ (hC.out _ hb9) (fun hHeld=>?_);clear hK K;try simp only [A7,A4,A3,Act.put]
          refine wpAnyH_done Ab ?_ _;go_wp2_with fail;go_meet;exact ⟨g,rfl,hb9,hk9⟩
        ·go_simp
         obtain ⟨Wn,hWn⟩:∃ Wn,Wn=wx0.alloc (.cells (wc (fun _=>0)) 66):=⟨_,rfl⟩;have hgB:Ds Wn wx0.heap.size (wc (fun _=>0)) 66:=by rw [hWn];exact Ds.new wx0 _ _
         obtain ⟨g,hg⟩:∃ g,g=wx0.heap.size:=⟨_,rfl⟩;have hgg:w1.heap.size<=g:=by rw [hg];exact hb.size
         replace hb:Below w1.heap.size w1 Wn:=by rw [hWn];exact hb.alloc hb.size _
         rw [<-hWn];clear hWn;rw [<-hg] at hgB |-;clear hg;refine hK.out _ _ (hC.out _ hb) (fun hHeld=>?_);clear hK K;try simp only [Ag,Act.put]
         refine wpAnyH_ready (rs:=[29]) Ab Af ?_;refine AllReadyH.cons rfl (fun K hK=>?_) AllReadyH.nil;go_simp;go_at_call 103;with_reducible refine Calls.mono (T2.out _) ?_
         rintro e wx1 ⟨rfl,hbx⟩;replace hb:=hb.trans (hbx.mono hb.size);replace hgB:=hgB.below hbx;clear hbx;refine hK.out _ _ (hC.out _ hb) (fun hHeld=>?_);clear hK K;try simp only [Ag,Act.put]
         refine wpAnyH_ready (rs:=[30]) Ab Af ?_;refine AllReadyH.cons rfl (fun K hK=>?_) AllReadyH.nil;go_simp;go_at_call 32;with_reducible refine Calls.mono (MI.out _) ?_
         rintro e wx2 ⟨rfl,hbx⟩;replace hb:=hb.trans (hbx.mono hb.size);replace hgB:=hgB.below hbx;clear hbx;refine hK.out _ _ (hC.out _ hb) (fun hHeld=>?_);clear hK K;try simp only [Ag,Act.put]
         refine wpAnyH_ready (rs:=[32]) Ab Af ?_;refine AllReadyH.cons rfl (fun K hK=>?_) AllReadyH.nil;rw [AU (by rfl)];have hth:wx2.there g 0 12:=BL.there (w:=w1) (L:=[(g,wc (fun _=>0),66)]) ⟨hb,fun p hp=>by rcases Aw.1 hp with rfl | hp;exact hgB;cases hp⟩ g _ 66 Ah 12 rfl;refine wp_store_mid _ _ _ rfl _ _ (List.toArray _) rfl rfl (by rw [BH,l3];exact hth) (by rw [BH];exact u3) (all_oneCell_toArray o3) ?_;rw [Cm];have hb9:Below w1.heap.size w1 (wx2.setCells g 0 c3):=hb.trans ((Dx c3 0 wx2).toBelow hb.size (by intro x hx;rw [B3.1 hx];exact hgg));have hk9:Ds (wx2.setCells g 0 c3) g (wc (wd D)) 66:=by rw [e3.out,HK];exact Fs hgB
         refine hK.out _ _ (hC.out _ hb9) (fun hHeld=>?_);clear hK K;try simp only [A7,A4,A3,Act.put]
         refine wpAnyH_done Ab ?_ _;go_wp2_with fail;go_meet;exact ⟨g,rfl,hb9,hk9⟩
       ·go_simp
        obtain ⟨Wn,hWn⟩:∃ Wn,Wn=(w1.alloc (.cells (wc (fun _=>0)) 66)).drew:=⟨_,rfl⟩;have hgB:Ds Wn w1.heap.size (wc (fun _=>0)) 66:=by rw [hWn];exact (Ds.new w1 _ _).below (Dq _ 1)
        obtain ⟨g,hg⟩:∃ g,g=w1.heap.size:=⟨_,rfl⟩;have hgg:w1.heap.size<=g:=by rw [hg];exact hb.size
        replace hb:Below w1.heap.size w1 Wn:=by rw [hWn];exact ES ((Below.refl _ _).alloc (Aa _) _)
        rw [<-hWn];clear hWn;rw [<-hg] at hgB |-;clear hg;refine hK.out _ _ (hC.out _ hb) (fun hHeld=>?_);clear hK K;try simp only [Ag,Act.put]
        refine wpAnyH_ready (rs:=[14]) Ab Af ?_;refine AllReadyH.cons rfl (fun K hK=>?_) AllReadyH.nil;go_simp;go_at_call 103;with_reducible refine Calls.mono (T1.out _) ?_
        rintro e wx0 ⟨rfl,hbx⟩;replace hb:=hb.trans (hbx.mono hb.size);replace hgB:=hgB.below hbx;clear hbx;refine hK.out _ _ (hC.out _ hb) (fun hHeld=>?_);clear hK K;try simp only [Ag,Act.put]
        refine wpAnyH_ready (rs:=[29]) Ab Af ?_;refine AllReadyH.cons rfl (fun K hK=>?_) AllReadyH.nil;go_simp;go_at_call 103;with_reducible refine Calls.mono (T2.out _) ?_
        rintro e wx1 ⟨rfl,hbx⟩;replace hb:=hb.trans (hbx.mono hb.size);replace hgB:=hgB.below hbx;clear hbx;refine hK.out _ _ (hC.out _ hb) (fun hHeld=>?_);clear hK K;try simp only [Ag,Act.put]
        refine wpAnyH_ready (rs:=[30]) Ab Af ?_;refine AllReadyH.cons rfl (fun K hK=>?_) AllReadyH.nil;go_simp;go_at_call 32;with_reducible refine Calls.mono (MI.out _) ?_
        rintro e wx2 ⟨rfl,hbx⟩;replace hb:=hb.trans (hbx.mono hb.size);replace hgB:=hgB.below hbx;clear hbx;refine hK.out _ _ (hC.out _ hb) (fun hHeld=>?_);clear hK K;try simp only [Ag,Act.put]
        refine wpAnyH_ready (rs:=[32]) Ab Af ?_;refine AllReadyH.cons rfl (fun K hK=>?_) AllReadyH.nil;rw [AU (by rfl)];have hth:wx2.there g 0 12:=BL.there (w:=w1) (L:=[(g,wc (fun _=>0),66)]) ⟨hb,fun p hp=>by rcases Aw.1 hp with rfl | hp;exact hgB;cases hp⟩ g _ 66 Ah 12 rfl;refine wp_store_mid _ _ _ rfl _ _ (List.toArray _) rfl rfl (by rw [BH,l3];exact hth) (by rw [BH];exact u3) (all_oneCell_toArray o3) ?_;rw [Cm];have hb9:Below w1.heap.size w1 (wx2.setCells g 0 c3):=hb.trans ((Dx c3 0 wx2).toBelow hb.size (by intro x hx;rw [B3.1 hx];exact hgg));have hk9:Ds (wx2.setCells g 0 c3) g (wc (wd D)) 66:=by rw [e3.out,HK];exact Fs hgB
        refine hK.out _ _ (hC.out _ hb9) (fun hHeld=>?_);clear hK K;try simp only [A7,A4,A3,Act.put]
        refine wpAnyH_done Ab ?_ _;go_wp2_with fail;go_meet;exact ⟨g,rfl,hb9,hk9⟩
      case rest =>
       clear hC T1 T2 MI hb u3 o3 l3 e3 ua ub uc ud;rename World=>wx
       obtain ⟨g,rfl,hb2,kD⟩:=hcut;go_upto_region 10 with fail;have HX:=H1.out.below hb2;have hB2:Below w.heap.size w wx:=hB1.trans (hb2.mono hB1.size);obtain ⟨q1,-⟩:=HX.bas i him;obtain ⟨q2,-⟩:=HX.bas r hrm;have q3:=HX.c2;rw [Gq hmt] at q3;have NGD:=fun W=>LY hDw W
       have EQD:=fun (b:Bool) (hb:b=decide (D=0)) W=>F8 hDw hb W
       rw [<-Ej] at NGD kD;simp only [<-Ej (wd D)] at EQD;obtain ⟨c3,e3⟩:∃ c,c=wl (wd D):=⟨_,rfl⟩;rw [<-e3] at NGD kD;simp only [<-e3] at EQD;have u3:(Tryz.prog.info? 66).map (·.size)=some c3.length:=by rw [e3];kernel_rfl
       clear e3;obtain ⟨bi,hbi⟩:∃ x,x=B i:=⟨_,rfl⟩;obtain ⟨br,hbr⟩:∃ x,x=B r:=⟨_,rfl⟩;rw [<-hbi] at q1;rw [<-hbr] at q2;have hbi':=A8 hbi;have hbr':=A8 hbr;clear hbi hbr;have hC:=A8 (show ∀ W',Below wx.heap.size wx W'->(W'.rangeAt g 0 c3/\W'.cell? ⟨t.tb,2,none⟩=some (.slice (some ⟨t.bb,0,none⟩) t.m t.cb)/\W'.cell? ⟨t.bb,i,none⟩=some (.int .i64 bi)/\W'.cell? ⟨t.bb,r,none⟩=some (.int .i64 br)) from fun W' hb=>by
        refine ⟨BL.range (w:=wx) (L:=[(g,c3.toArray,66)]) ⟨hb,fun p hp=>by rcases Aw.1 hp with rfl | hp;exact kD.below hb;cases hp⟩ g c3 66 Ah,(hb.cell (p:=⟨_,_,none⟩) HX.lt).trans q3,(hb.cell (p:=⟨_,_,none⟩) (HX.lb hmt)).trans q1,(hb.cell (p:=⟨_,_,none⟩) (HX.lb hmt)).trans q2⟩)
       have HXh:=A8 HX;clear HX q1 q2 q3 kD;have hb:=Dq wx 1;by_cases hneg:D<0
       ·replace NGD:=A8 (show ∀ W,Calls Tryz.prog 69 #[.agg c3.toArray] W (DR W (.bool true)) from by rwa [show decide (D<0)=true by simp [hneg]] at NGD)
        clear EQD;have hl2:=A8 (LnM.leaveTo_turn hl.out hpos.out (.inl (by rw [<-hla.out,<-hD.out];exact hneg)));clear hneg;refine wp_region_held_drew (S:=fun w'=>w'.rangeAt g 0 c3/\w'.cell? ⟨t.tb,2,none⟩=some (.slice (some ⟨t.bb,0,none⟩) t.m t.cb)/\w'.cell? ⟨t.bb,i,none⟩=some (.int .i64 bi)/\w'.cell? ⟨t.bb,r,none⟩=some (.int .i64 br)) Ab (hC.out _ hb) (fun hHeld=>?_);refine tkY 0 (.agg (c3).toArray) rfl (yieldsIf_load_mid (by rfl) _ _ rfl _ _ rfl _ _ (fun w' hw=>hw.1) hu rfl u3) hHeld ?_;try simp only [A7,A3,Act.put,A0,A5,A6]
        refine wpAnyH_ready (rs:=[1]) Ab Af ?_;refine AllReadyH.cons rfl (fun K hK=>?_) AllReadyH.nil;go_simp;go_at_call 69;with_reducible refine Calls.mono (NGD.out _) ?_
        rintro e wy ⟨rfl,hbx⟩;replace hb:=hb.trans (hbx.mono hb.size);clear hbx;refine hK.out _ _ (hC.out _ hb) (fun hHeld=>?_);clear hK K;try simp only [Ag,Act.put]
        refine tkV 2 (.bool true) (fun w' hw=>?_) hHeld ?_
        ·go_simp
        try simp only [Ag,Act.put]
        refine tkY 3 (undef) rfl (Or.inr ⟨by rfl,rfl⟩) hHeld ?_;try simp only [Ag,Act.put]
        refine tkY 4 (undef) rfl (Or.inr ⟨by rfl,rfl⟩) hHeld ?_;try simp only [Ag,Act.put]
        refine tkY 5 (undef) rfl (Or.inr ⟨by rfl,rfl⟩) hHeld ?_;try simp only [Ag,Act.put]
        refine tkY 6 (undef) rfl (Or.inr ⟨by rfl,rfl⟩) hHeld ?_;try simp only [Ag,Act.put]
        refine tkY 7 (undef) rfl (Or.inr ⟨by rfl,rfl⟩) hHeld ?_;try simp only [Ag,Act.put]
        refine tkY 8 (undef) rfl (Or.inr ⟨by rfl,rfl⟩) hHeld ?_;try simp only [Ag,Act.put]
        refine tkY 9 (undef) rfl (Or.inr ⟨by rfl,rfl⟩) hHeld ?_;try simp only [Ag,Act.put]
        refine tkY 10 (undef) rfl (Or.inr ⟨by rfl,rfl⟩) hHeld ?_;try simp only [Ag,Act.put]
        refine tkY 11 (undef) rfl (Or.inr ⟨by rfl,rfl⟩) hHeld ?_;try simp only [Ag,Act.put]
        refine tkY 12 (undef) rfl (Or.inr ⟨by rfl,rfl⟩) hHeld ?_;try simp only [Ag,Act.put]
        refine tkY 13 (undef) rfl (Or.inr ⟨by rfl,rfl⟩) hHeld ?_;try simp only [Ag,Act.put]
        refine tkY 14 (undef) rfl (Or.inr ⟨by rfl,rfl⟩) hHeld ?_;try simp only [Ag,Act.put]
        refine tkY 15 (undef) rfl (Or.inr ⟨by rfl,rfl⟩) hHeld ?_;try simp only [Ag,Act.put]
        refine tkY 16 (undef) rfl (Or.inr ⟨by rfl,rfl⟩) hHeld ?_;try simp only [Ag,Act.put]
        refine tkY 17 (undef) rfl (Or.inr ⟨by rfl,rfl⟩) hHeld ?_;try simp only [Ag,Act.put]
        refine tkY 18 (undef) rfl (Or.inr ⟨by rfl,rfl⟩) hHeld ?_;try simp only [Ag,Act.put]
        refine tkY 19 (undef) rfl (Or.inr ⟨by rfl,rfl⟩) hHeld ?_;try simp only [Ag,Act.put]
        refine tkY 20 (undef) rfl (Or.inr ⟨by rfl,rfl⟩) hHeld ?_;try simp only [Ag,Act.put]
        refine tkY 21 (undef) rfl (Or.inr ⟨by rfl,rfl⟩) hHeld ?_;try simp only [Ag,Act.put]
        refine tkY 22 (undef) rfl (Or.inr ⟨by rfl,rfl⟩) hHeld ?_;try simp only [Ag,Act.put]
        refine tkV 23 (.bool true) (fun w' hw=>?_) hHeld ?_
        ·go_simp
        try simp only [Ag,Act.put]
        refine wpAnyH_done Ab ?_ _;have hBy:Below w.heap.size w wy:=hB2.trans (hb.mono hB2.size);clear hb hHeld;go_wp2_with fail;go_roundw;case rel=>exact ⟨i+1,by go_num,Ad,hBy,.inr ⟨i,rfl,hl2⟩⟩
        case measure=>simp [intOf];omega
       ·replace NGD:=A8 (show ∀ W,Calls Tryz.prog 69 #[.agg c3.toArray] W (DR W (.bool false)) from by rwa [show decide (D<0)=false by simp;omega] at NGD)
        by_cases hzero:D=0
        ·replace EQD:=EQD true (by simp [hzero])
         dsimp only [wc] at EQD;by_cases hless:bi<br
         ·have hl2:=A8 (LnM.leaveTo_turn hl.out hpos.out (.inr ⟨by rw [<-hla.out,<-hD.out];exact hzero,by rw [<-hbi'.out,<-hbr'.out];exact hless⟩))
          have hless':(bi:Int)<br:=by omega
          clear hzero hneg hless;refine wp_region_held_drew (S:=fun w'=>w'.rangeAt g 0 c3/\w'.cell? ⟨t.tb,2,none⟩=some (.slice (some ⟨t.bb,0,none⟩) t.m t.cb)/\w'.cell? ⟨t.bb,i,none⟩=some (.int .i64 bi)/\w'.cell? ⟨t.bb,r,none⟩=some (.int .i64 br)) Ab (hC.out _ hb) (fun hHeld=>?_);refine tkY 0 (.agg (c3).toArray) rfl (yieldsIf_load_mid (by rfl) _ _ rfl _ _ rfl _ _ (fun w' hw=>hw.1) hu rfl u3) hHeld ?_;try simp only [A7,A3,Act.put,A0,A5,A6]
          refine wpAnyH_ready (rs:=[1]) Ab Af ?_;refine AllReadyH.cons rfl (fun K hK=>?_) AllReadyH.nil;go_simp;go_at_call 69;with_reducible refine Calls.mono (NGD.out _) ?_
          rintro e wy ⟨rfl,hbx⟩;replace hb:=hb.trans (hbx.mono hb.size);clear hbx;refine hK.out _ _ (hC.out _ hb) (fun hHeld=>?_);clear hK K;try simp only [Ag,Act.put]
          refine tkV 2 (.bool false) (fun w' hw=>?_) hHeld ?_
          ·go_simp
          try simp only [Ag,Act.put]
          refine tkY 3 (.agg (c3).toArray) rfl (yieldsIf_load_mid (by rfl) _ _ rfl _ _ rfl _ _ (fun w' hw=>hw.1) hu rfl u3) hHeld ?_;try simp only [Ag,Act.put]
          refine tkV 4 (.agg (wc (fun _=>0))) (fun w' hw=>?_) hHeld ?_
          ·go_simp
          try simp only [Ag,Act.put]
          refine tkV 5 (.bool true) (fun w' hw=>?_) hHeld ?_
          ·go_simp
          try simp only [Ag,Act.put]
          refine tkV 6 (.bool true) (fun w' hw=>?_) hHeld ?_
          ·go_simp
          try simp only [Ag,Act.put]
          refine tkV 7 (.pointer (some ⟨t.tb,0,none⟩)) (fun w' hw=>?_) hHeld ?_
          ·go_simp
          try simp only [Ag,Act.put]
          refine tkV 8 (.pointer (some ⟨t.tb,0,none⟩)) (fun w' hw=>?_) hHeld ?_
          ·go_simp
          try simp only [Ag,Act.put]
          refine tkV 9 (.pointer (some ⟨t.tb,2,none⟩)) (fun w' hw=>?_) hHeld ?_
          ·go_simp
          try simp only [Ag,Act.put]
          refine tkV 10 (.slice (some ⟨t.bb,0,none⟩) t.m t.cb) (fun w' hw=>?_) hHeld ?_
          ·go_simp
          try simp only [Ag,Act.put]
          refine tkV 11 (.int .i64 i) (fun w' hw=>?_) hHeld ?_
          ·go_simp
          try simp only [Ag,Act.put]
          refine tkV 12 (.pointer (some ⟨t.bb,i,none⟩)) (fun w' hw=>?_) hHeld ?_
          ·go_simp
          try simp only [Ag,Act.put]
          refine tkV 13 (.int .i64 bi) (fun w' hw=>?_) hHeld ?_
          ·go_simp
          try simp only [Ag,Act.put]
          refine tkV 14 (.pointer (some ⟨t.tb,0,none⟩)) (fun w' hw=>?_) hHeld ?_
          ·go_simp
          try simp only [Ag,Act.put]
          refine tkV 15 (.pointer (some ⟨t.tb,0,none⟩)) (fun w' hw=>?_) hHeld ?_
          ·go_simp
          try simp only [Ag,Act.put]
          refine tkV 16 (.pointer (some ⟨t.tb,2,none⟩)) (fun w' hw=>?_) hHeld ?_
          ·go_simp
          try simp only [Ag,Act.put]
          refine tkV 17 (.slice (some ⟨t.bb,0,none⟩) t.m t.cb) (fun w' hw=>?_) hHeld ?_
          ·go_simp
          try simp only [Ag,Act.put]
          refine tkV 18 (.int .i64 r) (fun w' hw=>?_) hHeld ?_
          ·go_simp
          try simp only [Ag,Act.put]
          refine tkV 19 (.pointer (some ⟨t.bb,r,none⟩)) (fun w' hw=>?_) hHeld ?_
          ·go_simp
          try simp only [Ag,Act.put]
          refine tkV 20 (.int .i64 br) (fun w' hw=>?_) hHeld ?_
          ·go_simp
          try simp only [Ag,Act.put]
          refine tkV 21 (.bool true) (fun w' hw=>?_) hHeld ?_
          ·go_simp
          try simp only [Ag,Act.put]
          refine tkV 22 (.bool true) (fun w' hw=>?_) hHeld ?_
          ·go_simp
          try simp only [Ag,Act.put]
          refine tkV 23 (.bool true) (fun w' hw=>?_) hHeld ?_
          ·go_simp
          try simp only [Ag,Act.put]
          refine wpAnyH_done Ab ?_ _;have hBy:Below w.heap.size w wy:=hB2.trans (hb.mono hB2.size);clear hb hHeld;go_wp2_with fail;go_roundw;case rel=>exact ⟨i+1,by go_num,Ad,hBy,.inr ⟨i,rfl,hl2⟩⟩
          case measure=>simp [intOf];omega
         ·have hl2:=A8 (LnM.leaveTo_keep hl.out (by rw [<-hla.out,<-hD.out];omega) (fun _=>by rw [<-hbi'.out,<-hbr'.out];omega))
          have hless':¬ (bi:Int)<br:=by omega
          clear hzero hneg hless;refine wp_region_held_drew (S:=fun w'=>w'.rangeAt g 0 c3/\w'.cell? ⟨t.tb,2,none⟩=some (.slice (some ⟨t.bb,0,none⟩) t.m t.cb)/\w'.cell? ⟨t.bb,i,none⟩=some (.int .i64 bi)/\w'.cell? ⟨t.bb,r,none⟩=some (.int .i64 br)) Ab (hC.out _ hb) (fun hHeld=>?_);refine tkY 0 (.agg (c3).toArray) rfl (yieldsIf_load_mid (by rfl) _ _ rfl _ _ rfl _ _ (fun w' hw=>hw.1) hu rfl u3) hHeld ?_;try simp only [A7,A3,Act.put,A0,A5,A6]
          refine wpAnyH_ready (rs:=[1]) Ab Af ?_;refine AllReadyH.cons rfl (fun K hK=>?_) AllReadyH.nil;go_simp;go_at_call 69;with_reducible refine Calls.mono (NGD.out _) ?_
          rintro e wy ⟨rfl,hbx⟩;replace hb:=hb.trans (hbx.mono hb.size);clear hbx;refine hK.out _ _ (hC.out _ hb) (fun hHeld=>?_);clear hK K;try simp only [Ag,Act.put]
          refine tkV 2 (.bool false) (fun w' hw=>?_) hHeld ?_
          ·go_simp
          try simp only [Ag,Act.put]
          refine tkY 3 (.agg (c3).toArray) rfl (yieldsIf_load_mid (by rfl) _ _ rfl _ _ rfl _ _ (fun w' hw=>hw.1) hu rfl u3) hHeld ?_;try simp only [Ag,Act.put]
          refine tkV 4 (.agg (wc (fun _=>0))) (fun w' hw=>?_) hHeld ?_
          ·go_simp
          try simp only [Ag,Act.put]
          refine tkV 5 (.bool true) (fun w' hw=>?_) hHeld ?_
          ·go_simp
          try simp only [Ag,Act.put]
          refine tkV 6 (.bool true) (fun w' hw=>?_) hHeld ?_
          ·go_simp
          try simp only [Ag,Act.put]
          refine tkV 7 (.pointer (some ⟨t.tb,0,none⟩)) (fun w' hw=>?_) hHeld ?_
          ·go_simp
          try simp only [Ag,Act.put]
          refine tkV 8 (.pointer (some ⟨t.tb,0,none⟩)) (fun w' hw=>?_) hHeld ?_
          ·go_simp
          try simp only [Ag,Act.put]
          refine tkV 9 (.pointer (some ⟨t.tb,2,none⟩)) (fun w' hw=>?_) hHeld ?_
          ·go_simp
          try simp only [Ag,Act.put]
          refine tkV 10 (.slice (some ⟨t.bb,0,none⟩) t.m t.cb) (fun w' hw=>?_) hHeld ?_
          ·go_simp
          try simp only [Ag,Act.put]
          refine tkV 11 (.int .i64 i) (fun w' hw=>?_) hHeld ?_
          ·go_simp
          try simp only [Ag,Act.put]
          refine tkV 12 (.pointer (some ⟨t.bb,i,none⟩)) (fun w' hw=>?_) hHeld ?_
          ·go_simp
          try simp only [Ag,Act.put]
          refine tkV 13 (.int .i64 bi) (fun w' hw=>?_) hHeld ?_
          ·go_simp
          try simp only [Ag,Act.put]
          refine tkV 14 (.pointer (some ⟨t.tb,0,none⟩)) (fun w' hw=>?_) hHeld ?_
          ·go_simp
          try simp only [Ag,Act.put]
          refine tkV 15 (.pointer (some ⟨t.tb,0,none⟩)) (fun w' hw=>?_) hHeld ?_
          ·go_simp
          try simp only [Ag,Act.put]
          refine tkV 16 (.pointer (some ⟨t.tb,2,none⟩)) (fun w' hw=>?_) hHeld ?_
          ·go_simp
          try simp only [Ag,Act.put]
          refine tkV 17 (.slice (some ⟨t.bb,0,none⟩) t.m t.cb) (fun w' hw=>?_) hHeld ?_
          ·go_simp
          try simp only [Ag,Act.put]
          refine tkV 18 (.int .i64 r) (fun w' hw=>?_) hHeld ?_
          ·go_simp
          try simp only [Ag,Act.put]
          refine tkV 19 (.pointer (some ⟨t.bb,r,none⟩)) (fun w' hw=>?_) hHeld ?_
          ·go_simp
          try simp only [Ag,Act.put]
          refine tkV 20 (.int .i64 br) (fun w' hw=>?_) hHeld ?_
          ·go_simp
          try simp only [Ag,Act.put]
          refine tkV 21 (.bool false) (fun w' hw=>?_) hHeld ?_
          ·go_simp
          try simp only [Ag,Act.put]
          refine tkV 22 (.bool false) (fun w' hw=>?_) hHeld ?_
          ·go_simp
          try simp only [Ag,Act.put]
          refine tkV 23 (.bool false) (fun w' hw=>?_) hHeld ?_
          ·go_simp
          try simp only [Ag,Act.put]
          refine wpAnyH_done Ab ?_ _;have hBy:Below w.heap.size w wy:=hB2.trans (hb.mono hB2.size);clear hb hHeld;go_wp2_with fail;go_roundw;case rel=>exact ⟨i+1,by go_num,Ad,hBy,.inr ⟨r,rfl,hl2⟩⟩
          case measure=>simp [intOf];omega
        ·replace EQD:=EQD false (by simp [hzero])
         dsimp only [wc] at EQD;have hl2:=A8 (LnM.leaveTo_keep hl.out (by rw [<-hla.out,<-hD.out];omega) (fun h=>by rw [<-hla.out,<-hD.out] at h;exact absurd h hzero));clear hzero hneg;refine wp_region_held_drew (S:=fun w'=>w'.rangeAt g 0 c3/\w'.cell? ⟨t.tb,2,none⟩=some (.slice (some ⟨t.bb,0,none⟩) t.m t.cb)/\w'.cell? ⟨t.bb,i,none⟩=some (.int .i64 bi)/\w'.cell? ⟨t.bb,r,none⟩=some (.int .i64 br)) Ab (hC.out _ hb) (fun hHeld=>?_);refine tkY 0 (.agg (c3).toArray) rfl (yieldsIf_load_mid (by rfl) _ _ rfl _ _ rfl _ _ (fun w' hw=>hw.1) hu rfl u3) hHeld ?_;try simp only [A7,A3,Act.put,A0,A5,A6]
         refine wpAnyH_ready (rs:=[1]) Ab Af ?_;refine AllReadyH.cons rfl (fun K hK=>?_) AllReadyH.nil;go_simp;go_at_call 69;with_reducible refine Calls.mono (NGD.out _) ?_
         rintro e wy ⟨rfl,hbx⟩;replace hb:=hb.trans (hbx.mono hb.size);clear hbx;refine hK.out _ _ (hC.out _ hb) (fun hHeld=>?_);clear hK K;try simp only [Ag,Act.put]
         refine tkV 2 (.bool false) (fun w' hw=>?_) hHeld ?_
         ·go_simp
         try simp only [Ag,Act.put]
         refine tkY 3 (.agg (c3).toArray) rfl (yieldsIf_load_mid (by rfl) _ _ rfl _ _ rfl _ _ (fun w' hw=>hw.1) hu rfl u3) hHeld ?_;try simp only [Ag,Act.put]
         refine tkV 4 (.agg (wc (fun _=>0))) (fun w' hw=>?_) hHeld ?_
         ·go_simp
         try simp only [Ag,Act.put]
         refine tkV 5 (.bool false) (fun w' hw=>?_) hHeld ?_
         ·go_simp
         try simp only [Ag,Act.put]
         refine tkV 6 (.bool false) (fun w' hw=>?_) hHeld ?_
         ·go_simp
         try simp only [Ag,Act.put]
         refine tkY 7 (undef) rfl (Or.inr ⟨by rfl,rfl⟩) hHeld ?_;try simp only [Ag,Act.put]
         refine tkY 8 (undef) rfl (Or.inr ⟨by rfl,rfl⟩) hHeld ?_;try simp only [Ag,Act.put]
         refine tkY 9 (undef) rfl (Or.inr ⟨by rfl,rfl⟩) hHeld ?_;try simp only [Ag,Act.put]
         refine tkY 10 (undef) rfl (Or.inr ⟨by rfl,rfl⟩) hHeld ?_;try simp only [Ag,Act.put]
         refine tkY 11 (undef) rfl (Or.inr ⟨by rfl,rfl⟩) hHeld ?_;try simp only [Ag,Act.put]
         refine tkY 12 (undef) rfl (Or.inr ⟨by rfl,rfl⟩) hHeld ?_;try simp only [Ag,Act.put]
         refine tkY 13 (undef) rfl (Or.inr ⟨by rfl,rfl⟩) hHeld ?_;try simp only [Ag,Act.put]
         refine tkY 14 (undef) rfl (Or.inr ⟨by rfl,rfl⟩) hHeld ?_;try simp only [Ag,Act.put]
         refine tkY 15 (undef) rfl (Or.inr ⟨by rfl,rfl⟩) hHeld ?_;try simp only [Ag,Act.put]
         refine tkY 16 (undef) rfl (Or.inr ⟨by rfl,rfl⟩) hHeld ?_;try simp only [Ag,Act.put]
         refine tkY 17 (undef) rfl (Or.inr ⟨by rfl,rfl⟩) hHeld ?_;try simp only [Ag,Act.put]
         refine tkY 18 (undef) rfl (Or.inr ⟨by rfl,rfl⟩) hHeld ?_;try simp only [Ag,Act.put]
         refine tkY 19 (undef) rfl (Or.inr ⟨by rfl,rfl⟩) hHeld ?_;try simp only [Ag,Act.put]
         refine tkY 20 (undef) rfl (Or.inr ⟨by rfl,rfl⟩) hHeld ?_;try simp only [Ag,Act.put]
         refine tkY 21 (undef) rfl (Or.inr ⟨by rfl,rfl⟩) hHeld ?_;try simp only [Ag,Act.put]
         refine tkV 22 (.bool false) (fun w' hw=>?_) hHeld ?_
         ·go_simp
         try simp only [Ag,Act.put]
         refine tkV 23 (.bool false) (fun w' hw=>?_) hHeld ?_
         ·go_simp
         try simp only [Ag,Act.put]
         refine wpAnyH_done Ab ?_ _;have hBy:Below w.heap.size w wy:=hB2.trans (hb.mono hB2.size);clear hb hHeld;go_wp2_with fail;go_roundw;case rel=>exact ⟨i+1,by go_num,Ad,hBy,.inr ⟨r,rfl,hl2⟩⟩
         case measure=>simp [intOf];omega
  ·obtain rfl:i=t.m:=by omega
   have him':¬ (t.m:Int)<t.m:=by omega
   rcases hbest with ⟨rfl,hn⟩ | ⟨r,rfl,hl⟩
   ·go_wp2
    go_ret;exact ⟨⟨-1,rfl,.inl ⟨rfl,fun j hj=>hn.out j (by have:=hm.out;omega)⟩⟩,hB⟩
   ·go_wp2
    go_ret;exact ⟨⟨r,rfl,.inr ⟨r,rfl,by rw [<-hm.out];exact hl.out⟩⟩,hB⟩
end
section
section
variable {P:Program} {ops:Array Oper} {Q:Exit->Act->World->Prop}
def Ex (l:Nat->Bool) (j:Nat):Nat->Bool:=fun i=>if i=j then true else l i
def Er (o:Oper) (n:Nat):Bool:=o.after.any fun e=>Region.binds .any e&&e.on==n
def IF (ops:Array Oper):Bool:=(List.range ops.size).all fun j=>match ops[j]? with
 | some o=>o.after.all fun e=>!Region.binds .any e || decide (e.on<j)
 | none=>true
def Fb (ops:Array Oper) (l:Nat->Bool):Prop:=∀ i n o,ops[i]? = some o->l i=true->Er o n=true->l n=true
def F0 (P:Program) (ops:Array Oper) (Q:Exit->Act->World->Prop) (I:(Nat->Bool)->Act->World->Prop):Nat->List Oper->Prop
 | _,[]=>True
 | k,o :: os=>(∀ (l:Nat->Bool) (a:Act) (w:World),l k=false->(∀ n,Er o n=true->l n=true)->Fb ops l->I l a w ->
  ∀ K:Act->World->Prop,Shut (∀ a w,I (Ex l k) a w->K a w)->if Region.wanted o (yielded ops a.tmps)=true then Oper.wp P o a w K Q else K (a.put o.dst undef) w)/\F0 P ops Q I (k+1) os
theorem off {p:Prop} (h:false=true):p:=by cases h
def Hb (P:Program) (ops:Array Oper) (Q:Exit->Act->World->Prop) (I:(Nat->Bool)->Act->World->Prop) (k:Nat) (o:Oper):Prop :=
 ∀ (l:Nat->Bool) (a:Act) (w:World),l k=false->(∀ n,Er o n=true->l n=true)->Fb ops l->I l a w ->
  ∀ K:Act->World->Prop,Shut (∀ a w,I (Ex l k) a w->K a w)->if Region.wanted o (yielded ops a.tmps)=true then Oper.wp P o a w K Q else K (a.put o.dst undef) w
theorem Dk {I:(Nat->Bool)->Act->World->Prop} {k:Nat} {o:Oper} {os:List Oper} (h:Hb P ops Q I k o) (hs:F0 P ops Q I (k+1) os):F0 P ops Q I k (o :: os):=⟨h,hs⟩
theorem Du {I:(Nat->Bool)->Act->World->Prop} {k:Nat}:F0 P ops Q I k []:=trivial
theorem Sk {I:(Nat->Bool)->Act->World->Prop} {o:Oper}:∀ (os:List Oper) (k j m:Nat),m=k+j->F0 P ops Q I k os->os[j]? = some o->Hb P ops Q I m o:=by
 intro os;induction os with
 | nil=>intro k j m _ _ hj;simp at hj
 | cons o' os ih =>
  intro k j m hm h hj;match j,hj with
  | 0,hj =>
   cases hj;obtain rfl:m=k:=hm;exact h.1
  | j+1,hj=>exact ih (k+1) j m Ad h.2 (by simpa using hj)
def GD:List Bool->Nat
 | []=>0
 | b :: l=>(if b then 0 else 1)+GD l
theorem Ln:∀ {l:List Bool} {i:Nat},l[i]? = some false->GD (l.set i true)+1=GD l
 | b :: l,0,h=>by cases h;simp [GD];omega
 | b :: l,i+1,h=>by
  have:=Ln (l:=l) (i:=i) h;simp only [A5,GD];omega
theorem KQ:∀ {l:List Bool},GD l=0->∀ i:Nat,l[i]? = some false->False
 | [],_,i,h=>by simp at h
 | b :: l,h,0,e=>by cases e;simp [GD] at h
 | b :: l,h,i+1,e=>KQ (l:=l) (by simp [GD] at h;omega) i e
theorem Lo:∀ n:Nat,GD (List.replicate n false)=n
 | 0=>rfl
 | n+1=>by simp [CH,GD,Lo n];omega
theorem any_inv {I:(Nat->Bool)->Act->World->Prop} (hb:IF ops=true) (hs:F0 P ops Q I 0 ops.toList)
  (hend:∀ a w,I (fun j=>decide (j<ops.size)) a w->Q .normal a w) :
  ∀ (n:Nat) (l:Array Bool) (a:Act) (w:World),l.size=ops.size->GD l.toList<=n->Fb ops (fun j=>l.getD j false)->I (fun j=>l.getD j false) a w->wpAny P .any ops Q n l a w:=by
 have hend':∀ (l:Array Bool) (a:Act) (w:World),l.size=ops.size->Region.ready .any ops l=[]->I (fun j=>l.getD j false) a w->Q .normal a w:=fun l a w hl hr hI=>by
  have all:∀ j,j<ops.size->l.getD j false=true:=by
   intro j;induction j using Nat.strongRecOn with
   | _ j ih =>
    intro hj;cases hv:l.getD j false with
    | true=>rfl
    | false =>
     have hlt:j<l.size:=by omega
     have hm:j∈Region.ready .any ops l:=mem_ready.2 ⟨by
      simp [Array.getD,hlt] at hv |-;exact hv,ops[j],by simp [hj],fun e he hbe=>by
      have:=hb;unfold IF at this;rw [AE] at this;have:=this j (AB.2 hj);rw [Cl hj] at this;simp only [Array.all_eq_true_iff_forall_mem,Aq,Au,Ar] at this;have:=(this e he).resolve_left (by simp [hbe]);exact ih _ this Ad⟩
     rw [hr] at hm;cases hm
  refine hend a w ?_;have e:(fun j=>l.getD j false)=(fun j=>decide (j<ops.size)):=by
   funext j;by_cases hj:j<ops.size
   ·rw [all j hj];simp [hj]
   ·have:l.getD j false=false:=by simp [Array.getD];intro h;omega
    rw [this];simp [hj]
  rw [<-e];exact hI
 intro n
 induction n with
 | zero =>
  intro l a w hl hu hsh hI;have hr:Region.ready .any ops l=[]:=by
   cases hr:Region.ready .any ops l with
   | nil=>rfl
   | cons x xs =>
    have hx:x∈Region.ready .any ops l:=by rw [hr];simp
    obtain ⟨h1,o,ho,_⟩:=mem_ready.1 hx;have hlt:x<l.size:=by rw [hl];exact (BO.1 ho).1
    refine (KQ (by omega:GD l.toList=0) x ?_).elim;simp [Array.getD,hlt] at h1;simp [hlt,h1]
  exact ⟨hr,hend' l a w hl hr hI⟩
 | succ n ih =>
  intro l a w hl hu hsh hI;refine ⟨fun hr=>hend' l a w hl hr hI,fun j hj=>?_⟩;obtain ⟨h1,o,ho,hall⟩:=mem_ready.1 hj;have hlt:j<l.size:=by rw [hl];exact (BO.1 ho).1
  have hj0:l.getD j false=false:=by simp [Array.getD,hlt] at h1 |-;exact h1
  have hjf:l.toList[j]? = some false:=by simp [Array.getD,hlt] at h1;simp [hlt,h1]
  have hw:∀ n,Er o n=true->l.getD n false=true:=fun n hn=>by
   unfold Er at hn;obtain ⟨e,he,h2⟩:=Array.any_eq_true'.1 hn;simp only [Ap,C4] at h2;rw [<-h2.2];exact hall e he h2.1
  have eset:(fun i=>(l.setIfInBounds j true).getD i false)=Ex (fun i=>l.getD i false) j:=by
   funext i;unfold Ex;by_cases e:i=j
   ·subst e;simp [Array.getD,hlt]
   ·rw [AP e];exact getD_set_ne false (Ne.symm e)
  have hst:Hb P ops Q I j o:=Sk ops.toList 0 j j Ad hs (by rw [<-ho];simp);refine wpOp_step ho fun K hK=>hst _ a w hj0 hw hsh hI K (fun a' w' hI'=>hK a' w' (ih _ a' w' (by simp [hl]) ?_ ?_ (by rw [eset];exact hI')))
  ·have:=Ln hjf
   rw [C8];omega
  ·rw [eset]
   intro i m oi hoi hi hwm;unfold Ex at hi |-;by_cases e:m=j
   ·rw [AU e]
   ·rw [AP e]
    by_cases ei:i=j
    ·subst ei
     rw [ho] at hoi;obtain rfl:=B4 hoi;exact hw m hwm
    ·rw [AP ei] at hi
     exact hsh i m oi hoi hi hwm
theorem DW {id:Nat} {a:Act} {w:World} (I:(Nat->Bool)->Act->World->Prop) (hm:P.follows .mixedOrders=true) (hb:IF ops=true)
  (h0:I (fun _=>false) a w.drew) (hs:F0 P ops Q I 0 ops.toList) (hend:∀ a w,I (fun j=>decide (j<ops.size)) a w->Q .normal a w):(Code.region id ops true).wp P Q a w:=by
 refine wp_region_any hm (any_inv hb hs hend _ _ a w.drew Af ?_ ?_ ?_)
 ·rw [Array.toList_replicate,Lo];exact Aa _
 ·intro i n o _ h
  simp [Array.getD] at h
 ·have e:(fun j=>(Array.replicate ops.size false).getD j false)=fun _=>false:=by funext j;simp [Array.getD]
  rw [e];exact h0
end
def Vs (L:List (Nat×Value×Value)) (l:Nat->Bool):Prop:=∀ p∈L,l p.1=true->p.2.1=p.2.2
theorem Vs.zero {L:List (Nat×Value×Value)}:Vs L (fun _=>false):=fun _ _ h=>by cases h
theorem Vs.get {L:List (Nat×Value×Value)} {l:Nat->Bool} (h:Vs L l) (k:Nat) {i:Nat} {v s:Value} (hk:L[k]? = some (i,v,s)) (hl:l i=true):v=s:=h _ (Ay hk) hl
def Oy (i k:Nat):Nat->List (Nat×Value×Value)->Bool
 | _,[]=>true
 | j,p :: L=>(j==k || !(p.1==i))&&Oy i k (j+1) L
theorem RD {i k:Nat}:∀ {L:List (Nat×Value×Value)} {j q:Nat} {p:Nat×Value×Value},Oy i k j L=true->L[q]? = some p->j+q≠k->p.1≠i
 | [],_,_,_,_,h,_=>by simp at h
 | x :: L,j,0,p,h,hq,hne=>by
  simp at hq;subst hq;simp only [Oy,Ap,Au,C4,Ar] at h;rcases h.1 with e | e
  ·exact absurd e Ad
  ·intro e2;rw [e2] at e;simp at e
 | x :: L,j,q+1,p,h,hq,hne=>by
  simp only [Oy,Ap] at h;exact RD (j:=j+1) (q:=q) h.2 (by simpa using hq) Ad
theorem Vs.put {L:List (Nat×Value×Value)} {l:Nat->Bool} (h:Vs L l) (k:Nat) {i:Nat} {v s s':Value} (hk:L[k]? = some (i,v,s)) (ho:Oy i k 0 L=true) (hv:v=s'):Vs (L.set k (i,v,s')) (Ex l i):=by
 intro p hp hl;obtain ⟨q,hq⟩:=BI.1 hp;by_cases e:k=q
 ·subst e
  rw [Ca (by exact (BR.1 hk).1)] at hq;cases hq;exact hv
 ·rw [BJ e] at hq
  have:=RD ho hq Ad;exact h p (Ay hq) (by simpa [Ex,this] using hl)
theorem Vs.skip {L:List (Nat×Value×Value)} {l:Nat->Bool} (h:Vs L l) (i:Nat) (ho:(L.all fun p=>!(p.1==i))=true):Vs L (Ex l i):=fun p hp hl=>by
 have:=AE.1 ho p hp;have e:p.1≠i:=fun e=>by rw [e] at this;simp at this
 exact h p hp (by simpa [Ex,e] using hl)
def KR:Code->Nat->Option (Array Oper)
 | .region id ops _,n=>if id=n then some ops else none
 | .seq a b,n=>match KR a n with
  | some x=>some x
  | none=>KR b n
 | .cond _ a b,n=>match KR a n with
  | some x=>some x
  | none=>KR b n
 | .block _ a,n=>KR a n
 | .loop a,n=>KR a n
 | .scope a,n=>KR a n
 | _,_=>none
def Dt (c:Option Code) (n:Nat):Option (Array Oper):=match c with
 | some c=>KR c n
 | none=>none
def IG:Code->Nat->Option Code
 | .seq a b,n=>match IG a n with
  | some x=>some x
  | none=>IG b n
 | .cond _ a b,n=>match IG a n with
  | some x=>some x
  | none=>IG b n
 | .block i a,n=>if i=n then (match a with
  | .loop c=>some c
  | _=>none) else IG a n
 | .loop a,n=>IG a n
 | .scope a,n=>IG a n
 | _,_=>none
def EN (c:Option Code) (n:Nat):Option Code:=match c with
 | some c=>IG c n
 | none=>none
end
section
open Go.RowKit
theorem want {c A B:Prop} [Decidable c] (h:c) (hA:A):if c then A else B:=by rw [AU h];exact hA
theorem unwant {c A B:Prop} [Decidable c] (h:¬ c) (hB:B):if c then A else B:=by rw [AP h];exact hB
theorem wants {o:Oper} {ops:Array Oper} {tmps:Array Value} {j d:Nat} {b:Bool} (hg:o.guard=some (j,b)) (hd:(ops[j]?).bind (·.dst)=some d) (hx:tmps[d]? = some (.bool b)):Region.wanted o (yielded ops tmps)=true:=by
 simp [Region.wanted,yielded,hg,hd,hx]
theorem TC {o:Oper} {ops:Array Oper} {tmps:Array Value} {j d:Nat} {b c:Bool} (hg:o.guard=some (j,b)) (hd:(ops[j]?).bind (·.dst)=some d) (hx:tmps[d]? = some (.bool c)) (hne:c≠b):¬ Region.wanted o (yielded ops tmps)=true:=by
 simp [Region.wanted,yielded,hg,hd,hx,hne]
structure Fr (f0:Array Value) (ds:List Nat) (a:Act):Prop where
 defers:a.defers=[]
 size:a.tmps.size=f0.size
 base:∀ n,ds.contains n=false->a.tmps[n]? = f0[n]?
theorem Fr.start (f0:Array Value) (ds:List Nat):Fr f0 ds { tmps:=f0,defers:=[] }:=⟨rfl,rfl,fun _ _=>rfl⟩
theorem PW {a:Act} {d:Nat} {v:Value} (h:d<a.tmps.size):(a.put (some d) v).tmps[d]? = some v:=by simp [Act.put,h]
theorem JE {a:Act} {d n:Nat} {v:Value} (h:d≠n):(a.put (some d) v).tmps[n]? = a.tmps[n]? := by simp [Act.put,h]
theorem Fr.put {f0:Array Value} {ds:List Nat} {a:Act} (h:Fr f0 ds a) (d:Nat) (v:Value) (hd:ds.contains d=true):Fr f0 ds (a.put (some d) v) :=
 ⟨h.defers,by simp [Act.put,h.size],fun n hn=>by rw [JE (fun e=>by subst e;rw [hd] at hn;cases hn)];exact h.base n hn⟩
theorem Fr.at_ {f0:Array Value} {ds:List Nat} {a:Act} (h:Fr f0 ds a) (n:Nat) {v:Value} (hn:ds.contains n=false) (hv:f0[n]? = some v):a.tmps[n]? = some v:=(h.base n hn).trans hv
abbrev FL:=List (Option (Nat×Value))
def I5 (F:FL):List Nat:=F.filterMap (Option.map Prod.fst)
def I6 (F:FL) (l:Nat->Bool) (a:Act):Prop:=∀ (j d:Nat) (v:Value),F[j]? = some (some (d,v))->l j=true->a.tmps[d]? = some v
theorem I6.get {F:FL} {l:Nat->Bool} {a:Act} (h:I6 F l a) (j:Nat) {d:Nat} {v:Value} (hj:F[j]? = some (some (d,v))) (hl:l j=true):a.tmps[d]? = some v:=h j d v hj hl
theorem I6.zero {F:FL} {a:Act}:I6 F (fun _=>false) a:=fun _ _ _ _ h=>by cases h
theorem PX:∀ {F:FL} {i j d e:Nat} {v u:Value},(I5 F).Nodup->F[i]? = some (some (d,v))->F[j]? = some (some (e,u))->i≠j->d≠e
 | [],i,j,_,_,_,_,_,h,_,_=>by simp at h
 | x :: F,0,0,_,_,_,_,_,_,_,h=>absurd rfl h
 | x :: F,0,j+1,d,e,v,u,hn,h1,h2,_=>by
  simp at h1 h2;subst h1;have hn':(d :: I5 F).Nodup:=hn;intro he;subst he;exact (List.nodup_cons.1 hn').1 (List.mem_filterMap.2 ⟨some (d,u),Ay h2,rfl⟩)
 | x :: F,i+1,0,d,e,v,u,hn,h1,h2,_=>by
  simp at h1 h2;subst h2;have hn':(e :: I5 F).Nodup:=hn;intro he;subst he;exact (List.nodup_cons.1 hn').1 (List.mem_filterMap.2 ⟨some (d,v),Ay h1,rfl⟩)
 | x :: F,i+1,j+1,d,e,v,u,hn,h1,h2,hij=>by
  simp at h1 h2;have hn':(I5 F).Nodup:=by
   cases x with
   | none=>exact hn
   | some p=>exact (List.nodup_cons.1 (show (p.1 :: I5 F).Nodup from hn)).2
  exact PX hn' h1 h2 (fun e=>hij (by rw [e]))
theorem I6.put {F:FL} {l:Nat->Bool} {a:Act} (h:I6 F l a) (hn:(I5 F).Nodup) (i:Nat) {d:Nat} {v:Value} (hi:F[i]? = some (some (d,v))) (hs:d<a.tmps.size):I6 F (Ex l i) (a.put (some d) v):=fun j e u hj hl=>by
 by_cases e1:j=i
 ·subst e1
  rw [hi] at hj;cases hj;exact PW hs
 ·rw [JE (PX hn hi hj (fun e2=>e1 e2.symm))]
  exact h j e u hj (by simpa [Ex,e1] using hl)
theorem I6.other {F:FL} {l:Nat->Bool} {a:Act} (h:I6 F l a) (i d:Nat) (v:Value) (hi:F[i]? = some none) (hd:(I5 F).contains d=false):I6 F (Ex l i) (a.put (some d) v):=fun j e u hj hl=>by
 have e1:j≠i:=fun e1=>by subst e1;rw [hi] at hj;cases hj
 have e2:d≠e:=fun e2=>by
  subst e2;have:d∈I5 F:=List.mem_filterMap.2 ⟨some (d,u),Ay hj,rfl⟩;rw [CJ.2 this] at hd;cases hd
 rw [JE e2];exact h j e u hj (by simpa [Ex,e1] using hl)
theorem I6.skip {F:FL} {l:Nat->Bool} {a:Act} (h:I6 F l a) (i:Nat) (hi:F[i]? = some none):I6 F (Ex l i) a:=fun j e u hj hl=>by
 have e1:j≠i:=fun e1=>by subst e1;rw [hi] at hj;cases hj
 exact h j e u hj (by simpa [Ex,e1] using hl)
theorem I6.change {F G:FL} {l:Nat->Bool} {a:Act} (h:I6 F l a) (hg:∀ j,G[j]? = F[j]? ∨ l j=false):I6 G l a:=fun j d v hj hl=>by
 rcases hg j with e | e
 ·exact h j d v (e ▸ hj) hl
 ·rw [hl] at e;cases e
abbrev ML:=List (Nat×Nat×(Value->World->Prop)×Option Nat)
def Ka (l:Nat->Bool):Option Nat->Bool
 | none=>true
 | some e=>!l e
theorem live_of {l:Nat->Bool} {e:Nat} (h:l e=false):Ka l (some e)=true:=by simp [Ka,h]
theorem Jb {l:Nat->Bool} {i:Nat} {e:Option Nat} (h:Ka (Ex l i) e=true):Ka l e=true:=by
 cases e with
 | none=>rfl
 | some e =>
  by_cases hc:e=i
  ·subst hc;simp [Ka,Ex] at h
  ·simpa [Ka,Ex,hc] using h
def GO (M:ML) (l:Nat->Bool) (a:Act) (W:World):Prop:=∀ p∈M,l p.1=true->Ka l p.2.2.2=true->∃ v,a.tmps[p.2.1]? = some v/\p.2.2.1 v W
def Sc (M:ML):Prop:=∀ p∈M,∀ v W W',Below W.heap.size W W'->p.2.2.1 v W->p.2.2.1 v W'
theorem GO.zero {M:ML} {a:Act} {W:World}:GO M (fun _=>false) a W:=fun _ _ h=>by cases h
theorem GO.get {M:ML} {l:Nat->Bool} {a:Act} {W:World} (h:GO M l a W) (k:Nat) {j d:Nat} {e:Option Nat} {P:Value->World->Prop} (hk:M[k]? = some (j,d,P,e)) (hl:l j=true) (he:Ka l e=true):∃ v,a.tmps[d]? = some v/\P v W:=h _ (Ay hk) hl he
theorem GO.world {M:ML} {l:Nat->Bool} {a:Act} {W W':World} (h:GO M l a W) (hs:Sc M) (hb:Below W.heap.size W W'):GO M l a W':=fun p hp hl he=>(h p hp hl he).imp fun v ⟨h1,h2⟩=>⟨h1,hs p hp v W W' hb h2⟩
def Gi (M:ML):List Nat:=M.map fun p=>p.2.1
def IR (M:ML):List Nat:=M.map fun p=>p.1
theorem GO.put {M:ML} {l:Nat->Bool} {a:Act} {W:World} (h:GO M l a W) (i d:Nat) (v:Value) (hi:(IR M).contains i=false) (hd:(Gi M).contains d=false):GO M (Ex l i) (a.put (some d) v) W:=fun p hp hl he=>by
 have e1:p.1≠i:=fun e=>by
  have:i∈IR M:=AV.2 ⟨p,hp,e⟩;rw [CJ.2 this] at hi;cases hi
 have e2:d≠p.2.1:=fun e=>by
  have:d∈Gi M:=AV.2 ⟨p,hp,e.symm⟩;rw [CJ.2 this] at hd;cases hd
 rw [JE e2];exact h p hp (by simpa [Ex,e1] using hl) (Jb he)
theorem GO.skip {M:ML} {l:Nat->Bool} {a:Act} {W:World} (h:GO M l a W) (i:Nat) (hi:(IR M).contains i=false):GO M (Ex l i) a W:=fun p hp hl he=>by
 have e1:p.1≠i:=fun e=>by
  have:i∈IR M:=AV.2 ⟨p,hp,e⟩;rw [CJ.2 this] at hi;cases hi
 exact h p hp (by simpa [Ex,e1] using hl) (Jb he)
theorem GO.add {M:ML} {l:Nat->Bool} {a:Act} {W:World} (h:GO M l a W) (k i:Nat) {d:Nat} {e:Option Nat} {P:Value->World->Prop} (hk:M[k]? = some (i,d,P,e)) (hn:(IR M).Nodup) (hm:(Gi M).Nodup) (hs:d<a.tmps.size) {v:Value} (hP:P v W):GO M (Ex l i) (a.put (some d) v) W:=by
 have key:∀ {M:ML} {k q:Nat} {x y:Nat×Nat×(Value->World->Prop)×Option Nat},(IR M).Nodup->(Gi M).Nodup->M[k]? = some x->M[q]? = some y->k≠q->x.1≠y.1/\x.2.1≠y.2.1:=by
  intro M k q x y h1 h2 hk hq hkq;have hk1:(IR M)[k]? = some x.1:=by unfold IR;rw [AQ,hk];rfl
  have hq1:(IR M)[q]? = some y.1:=by unfold IR;rw [AQ,hq];rfl
  have hk2:(Gi M)[k]? = some x.2.1:=by unfold Gi;rw [AQ,hk];rfl
  have hq2:(Gi M)[q]? = some y.2.1:=by unfold Gi;rw [AQ,hq];rfl
  obtain ⟨a1,b1⟩:=BR.1 hk1;obtain ⟨a2,b2⟩:=BR.1 hk2;refine ⟨fun e=>hkq ((List.getElem?_inj a1 h1).1 (by rw [hk1,hq1,e])),fun e=>hkq ((List.getElem?_inj a2 h2).1 (by rw [hk2,hq2,e]))⟩
 intro p hp hl he;obtain ⟨q,hq⟩:=BI.1 hp;by_cases hkq:k=q
 ·subst hkq
  rw [hk] at hq;obtain rfl:=B4 hq;exact ⟨v,PW hs,hP⟩
 ·obtain ⟨e1,e2⟩:=key hn hm hk hq hkq
  rw [JE e2];exact h p hp (by simpa [Ex,Ne.symm e1] using hl) (Jb he)
theorem GO.free {M:ML} {l:Nat->Bool} {a:Act} {W:World} (hf:∀ p∈M,l p.1=false∨Ka l p.2.2.2=false):GO M l a W:=fun p hp hl he=>by
 rcases hf p hp with e | e
 ·rw [hl] at e;cases e
 ·rw [he] at e;cases e
theorem TD (l:Nat->Bool) (i:Nat):Ka (Ex l i) (some i)=false:=by simp [Ka,Ex]
theorem Vb {l:Nat->Bool} {i e:Nat} (h:l e=true):Ka (Ex l i) (some e)=false:=by simp [Ka,Ex,h]
theorem PY {l:Nat->Bool} {i j:Nat} (h:l j=false) (hne:j≠i):Ex l i j=false:=by simp [Ex,h,hne]
def Ho:List Nat->Bool
 | []=>true
 | x :: l=>!l.contains x&&Ho l
theorem IS:∀ {l:List Nat},Ho l=true->l.Nodup
 | [],_=>List.nodup_nil
 | x :: l,h=>by
  simp only [Ho,Ap,Ar] at h;exact List.nodup_cons.2 ⟨fun hm=>by rw [CJ.2 hm] at h;exact absurd h.1 Af,IS h.2⟩
theorem Fr.lt {f0:Array Value} {ds:List Nat} {a:Act} {d:Nat} (h:Fr f0 ds a) (hd:decide (d<f0.size)=true):d<a.tmps.size:=by rw [h.size];exact Cs hd
def Eb (ds:List Nat) (x:Nat->Value) (us:List Value):List Value:=ds.foldl (fun l d=>l.set d (x d)) us
theorem L4 (x:Nat->Value):∀ (ds:List Nat) (us:List Value),(Eb ds x us).length=us.length
 | [],_=>rfl
 | d :: ds,us=>by
  show (Eb ds x (us.set d (x d))).length=_;rw [L4 x ds,C7]
theorem PZ (x:Nat->Value):∀ (ds:List Nat) (us:List Value) (n:Nat),n<us.length->(Eb ds x us)[n]? = if ds.contains n=true then some (x n) else us[n]?
 | [],us,n,_=>by simp [Eb]
 | d :: ds,us,n,h=>by
  show (Eb ds x (us.set d (x d)))[n]? = _;rw [PZ x ds _ n (by rw [C7];exact h)];by_cases hc:ds.contains n=true
  ·rw [AU hc,AU (by rw [List.contains_cons,hc,Bool.or_true])]
  ·rw [AP hc]
   by_cases e:n=d
   ·subst e
    rw [AU Af,Ca h]
   ·rw [AP (by rw [List.contains_cons];simp [e];simpa using hc),BJ (Ne.symm e)]
theorem Fr.eqs {us:List Value} {ds:List Nat} {a:Act} (h:Fr us.toArray ds a):a={ tmps:=(Eb ds (fun n=>a.tmps[n]?.getD undef) us).toArray,defers:=[] }:=by
 obtain ⟨tm,df⟩:=a;obtain ⟨h1,h2,h3⟩:=h;dsimp only at h1 h2 h3;subst h1;congr 1;apply Array.ext';refine List.ext_getElem? fun n=>?_
 rw [show (List.toArray (Eb ds (fun n=>tm[n]?.getD undef) us)).toList=Eb ds (fun n=>tm[n]?.getD undef) us from rfl];by_cases hn:n<us.length
 ·rw [PZ _ _ _ _ hn,BU]
  have hlt:n<tm.size:=by rw [h2];simpa using hn
  cases hc:ds.contains n with
  | true=>rw [AU rfl];simp [hlt]
  | false =>
   rw [AP Af,h3 n hc];simp
 ·rw [BX (by rw [BC,h2];simpa using hn),BX (by rw [L4];omega)]
theorem Fr.atl {us:List Value} {ds:List Nat} {a:Act} (h:Fr us.toArray ds a) (n:Nat) {v:Value} (hv:us[n]? = some v) (hn:ds.contains n=false):a.tmps[n]? = some v:=h.at_ n hn (by rw [Ck];exact hv)
end
section
open Go.RowKit
open LnM (wd DL)
attribute [local go_sem] Oper.semAt_some
theorem IL {w:World} {b b':Nat} {e:TypeId} {size:Nat} {v:Value} {n:Nat} {xs:List Value} (h:w.ownsRow b e size v n xs) (hb:b'<=b):w.ownsRow b' e size v n xs :=
 ⟨h.1,h.2.imp id fun ⟨g,cap,cur,e1,e2,r⟩=>⟨g,cap,cur,e1,Bc hb e2,r⟩⟩
theorem PI {P:Program} {w:World} {base:Nat} (t ty e:TypeId) (z:Value) (bytes:Nat) (ht:P.underlying t=some (.slice e)) (hi:(P.info? e).map (fun i=>(i.zero,i.size,i.bytes))=some (some z,1,bytes)) (hz:z.cells.size=1)
  (v:Value) (n:Nat) (xs:List Value) (hown:w.ownsRow base e 1 v n xs) (g:Nat) (u:Value) (hu:w.cell? ⟨g,0,none⟩=some u) (h1:u.oneCell'=true) (hn:(n+1)*bytes<=140737488355328) (hn2:n<=1000000) (hbase:base<=w.heap.size) :
  ∃ v' w',(Builtin.append_ #[t,t] ty #[v,.slice (some ⟨g,0,none⟩) 1 1]).run P w=.ok v' w'/\w'.ownsRow base e 1 v' (n+1) (xs++[u])/\w.grownBy w' v.ownBlock/\∀ b,v'.ownBlock=some b->v.ownBlock=some b∨w.heap.size<=b:=by
 obtain ⟨i0,hi,hz0,hz1,hz2⟩:=info_parts hi
 have hnews:∀ j y,[u][j]? = some y->w.cell? ((⟨g,0,none⟩:Addr).add j)=some y:=fun j y hj=>by
  match j,hj with
  | 0,hj=>cases hj;rw [Es];exact hu
 have h1c:∀ y∈[u],y.oneCell'=true:=by intro y hy;simp at hy;subst hy;exact h1
 have blkOf:∀ {v':Value} {w':World} {n':Nat} {xs':List Value},w'.ownsRow w.heap.size e 1 v' n' xs'->∀ b,v'.ownBlock=some b->v.ownBlock=some b∨w.heap.size<=b:=fun h b hb=>.inr (h.lt b hb).1
 have hown0:=hown
 rcases hown.2 with ⟨rfl,rfl⟩ | ⟨g0,cap,cur,rfl,hb,hg,hcap,hmax,hsz,htk⟩
 ·obtain ⟨v',w',hrun,r1,r2,_⟩:=run_append_own (P:=P) w w.heap.size t ty e i0 z 1 bytes ht hi hz0 hz1 hz2 hz Ae (.slice none 0 0) 0 [] (World.ownsRow_nil w _ _ 1) ⟨g,0,none⟩ 1 1 [u] rfl hnews h1c (by unfold maxLen;omega) Ad (Aa _)
  obtain rfl:xs=[]:=Bo (by have:=hown.1;simpa using this);exact ⟨v',w',hrun,IL r1 hbase,r2,blkOf r1⟩
 ·by_cases hroom:n+1<=cap
  ·obtain ⟨w',hrun,r1,r2⟩:=run_append_own_spare (P:=P) w base t ty e i0 1 ht hi hz1 g0 n cap xs hown0 ⟨g,0,none⟩ 1 1 [u] rfl hnews h1c hroom
   exact ⟨_,w',hrun,r1,r2,fun b hb=>.inl hb⟩
  ·obtain ⟨v',w',hrun,r1,r2⟩:=run_append_arg_grows (P:=P) w t ty e i0 z 1 bytes ht hi hz0 hz1 hz2 hz Ae ⟨g0,0,none⟩ n cap xs (by have:=hown.1;simpa using this) (fun j y hj=>hown0.cells (g:=g0) rfl j y hj) ⟨g,0,none⟩ 1 1 [u] rfl hnews Ad (by unfold maxLen;omega) hn
   exact ⟨v',w',hrun,IL r1 hbase,⟨r2.os,r2.tape,r2.output,r2.size,fun k hk _=>r2.block k hk Af⟩,blkOf r1⟩
theorem F9 {o:Oper} {a:Act} {K:Act->World->Prop} {Q:Exit->Act->World->Prop} {w:World} {base:Nat} (t e:TypeId) (z:Value) (bytes:Nat) (ht:Tryz.prog.underlying t=some (.slice e)) (hi:(Tryz.prog.info? e).map (fun i=>(i.zero,i.size,i.bytes))=some (some z,1,bytes)) (hz:z.cells.size=1)
  (s x:Operand) (ho:o.op=.call { callee:=.builtin .append,args:=#[s,x],argTypes:=#[t,t] }) (v:Value) (n:Nat) (xs:List Value) (hs:a.eval s=v) (hown:w.ownsRow base e 1 v n xs)
  (g:Nat) (u:Value) (hx:a.eval x=.slice (some ⟨g,0,none⟩) 1 1) (hu:w.cell? ⟨g,0,none⟩=some u) (h1:u.oneCell'=true) (hn:(n+1)*bytes<=140737488355328) (hn2:n<=1000000) (hbase:base<=w.heap.size)
  (h:∀ v' w',w'.ownsRow base e 1 v' (n+1) (xs++[u])->w.grownBy w' v.ownBlock->(∀ b,v'.ownBlock=some b->v.ownBlock=some b∨w.heap.size<=b)->K (a.put o.dst v') w') :
  Oper.wp Tryz.prog o a w K Q:=by
 obtain ⟨v',w',hrun,r1,r2,r3⟩:=PI (P:=Tryz.prog) t o.type e z bytes ht hi hz v n xs hown g u hu h1 hn hn2 hbase
 unfold Oper.wp
 simp [execOp,ho,resolve,invoke,builtin,hs,hx,hrun,Result.andThen]
 exact h v' w' r1 r2 r3
theorem Jl {o:Oper} {a:Act} {K:Act->World->Prop} {Q:Exit->Act->World->Prop} {w:World} (t:TypeId) (ht:Tryz.prog.underlying t=some (.slice 3))
  (s x:Operand) (ho:o.op=.call { callee:=.builtin .append,args:=#[s,x],argTypes:=#[t,t] }) (ao:Option Addr) (n:Nat) (l:List Int) (hs:a.eval s=.slice ao n n) (hl:IE w (.slice ao n n) l)
  (g:Nat) (z:Int) (hx:a.eval x=.slice (some ⟨g,0,none⟩) 1 1) (hu:w.cell? ⟨g,0,none⟩=some (.int .i64 z)) (hn:n<=1000000)
  (h:∀ g' cap w',Sl w' (.slice (some ⟨g',0,none⟩) (n+1) cap) (l++[z])->w.heap.size<=g'->Below w.heap.size w w'->K (a.put o.dst (.slice (some ⟨g',0,none⟩) (n+1) cap)) w') :
  Oper.wp Tryz.prog o a w K Q:=by
 obtain ⟨i0,hi,hz0,hz1,hz2⟩:=info_parts FJ
 have hnews:∀ j y,[Value.int .i64 z][j]? = some y->w.cell? ((⟨g,0,none⟩:Addr).add j)=some y:=fun j y hj=>by
  match j,hj with
  | 0,hj=>cases hj;rw [Es];exact hu
 have H:∃ v' w',(Builtin.append_ #[t,t] o.type #[.slice ao n n,.slice (some ⟨g,0,none⟩) 1 1]).run Tryz.prog w=.ok v' w'/\w'.ownsRow w.heap.size 3 1 v' (n+1) ((l++[z]).map (Value.int .i64))/\w.grownBy w' none:=by
  rw [Bg];rcases hl with ⟨⟨av,e⟩,rfl⟩ | ⟨b,off,cap,e,h1,h2,h3,h4⟩
  ·cases e
   cases ao with
   | none =>
    obtain ⟨v',w',hrun,r1,r2,_⟩:=run_append_own (P:=Tryz.prog) w w.heap.size t o.type 3 i0 (.int .i64 0) 1 8 ht hi hz0 hz1 hz2 rfl Ae (.slice none 0 0) 0 [] (World.ownsRow_nil w _ _ 1) ⟨g,0,none⟩ 1 1 [.int .i64 z] rfl hnews (by intro y hy;simp at hy;subst hy;rfl) (by unfold maxLen;omega) Ad (Aa _);exact ⟨v',w',hrun,r1,r2⟩
   | some aq=>exact run_append_arg_grows (P:=Tryz.prog) w t o.type 3 i0 (.int .i64 0) 1 8 ht hi hz0 hz1 hz2 rfl Ae aq 0 0 [] rfl (fun j y hj=>by simp at hj) ⟨g,0,none⟩ 1 1 [.int .i64 z] rfl hnews Ad (by unfold maxLen;omega) Ad
  ·cases e
   refine run_append_arg_grows (P:=Tryz.prog) w t o.type 3 i0 (.int .i64 0) 1 8 ht hi hz0 hz1 hz2 rfl Ae ⟨b,off,none⟩ l.length l.length (l.map (Value.int .i64)) Af (fun j y hj=>?_) ⟨g,0,none⟩ 1 1 [.int .i64 z] rfl hnews Ad (by unfold maxLen;omega) Ad;rw [Es];rw [AQ] at hj;by_cases hjl:j<l.length
   ·rw [h4 j hjl,FE hjl]
    rw [Ax hjl] at hj;exact hj
   ·rw [BX Ad] at hj;cases hj
 obtain ⟨v',w',hrun,r1,r2⟩:=H
 have hS:=Sl.of_own r1
 rcases r1.2 with ⟨rfl,h0⟩ | ⟨g',cap,cur,rfl,hb,hg,hn',hm,hsz,htk⟩
 ·omega
 unfold Oper.wp
 simp [execOp,ho,resolve,invoke,builtin,hs,hx,hrun,Result.andThen]
 exact h g' cap w' hS hb ⟨r2.os,r2.tape,r2.output,r2.size,fun k hk=>r2.block k hk Af⟩
theorem Dr.grown {S:List Nat} {a b c:World} {row:Option Nat} (h:Dr S a b) (hg:b.grownBy c row) (hr:∀ k,row=some k->k∈S∨a.heap.size<=k):Dr S a c :=
 ⟨hg.os.trans h.os,hg.tape.trans h.tape,hg.output.trans h.output,Bc h.size hg.size,fun k hk hs=>(hg.block k (A9 hk h.size) (fun e=>by
  rcases hr k e.symm with h1 | h1
  ·exact hs h1
  ·omega)).trans (h.block k hk hs)⟩
structure Gf (w0 W:World) (base:Nat) (rv bv sv cr:Value) (nr:Nat) (xr:List Value) (cb:Value) (nb:Nat) (xb:List Value) (cs:Value) (ns:Nat) (xs:List Value):Prop where
 r:W.ownsRow base 63 1 cr nr xr
 b:W.ownsRow base 3 1 cb nb xb
 s:W.ownsRow base 3 1 cs ns xs
 le:w0.heap.size<=W.heap.size
 fr:∀ g,cr.ownBlock=some g->rv.ownBlock=some g∨w0.heap.size<=g
 fb:∀ g,cb.ownBlock=some g->bv.ownBlock=some g∨w0.heap.size<=g
 fs:∀ g,cs.ownBlock=some g->sv.ownBlock=some g∨w0.heap.size<=g
 bs:∀ g,cb.ownBlock=some g->cs.ownBlock≠some g
theorem HQ {w:World} {b1 b2:Nat} {e1 e2:TypeId} {v1 v2:Value} {n1 n2:Nat} {x1 x2:List Value} (h1:w.ownsRow b1 e1 1 v1 n1 x1) (h2:w.ownsRow b2 e2 1 v2 n2 x2) (hne:e1≠e2):∀ g,v1.ownBlock=some g->v2.ownBlock≠some g:=by
 intro g hg hg2;rcases h1.2 with ⟨rfl,_⟩ | ⟨g1,c1,u1,rfl,_,k1,_⟩
 ·cases hg
 rcases h2.2 with ⟨rfl,_⟩ | ⟨g2,c2,u2,rfl,_,k2,_⟩
 ·cases hg2
 cases hg;cases hg2;rw [k1] at k2;simp at k2;exact hne k2.2
section
variable {w0 W W':World} {base:Nat} {rv bv sv cr cb cs:Value} {nr nb ns:Nat} {xr xb xs:List Value}
theorem Gf.grown (h:Gf w0 W base rv bv sv cr nr xr cb nb xb cs ns xs) {row:Option Nat} (hg:W.grownBy W' row) (h1:∀ g,row=some g->cr.ownBlock≠some g/\cb.ownBlock≠some g/\cs.ownBlock≠some g):Gf w0 W' base rv bv sv cr nr xr cb nb xb cs ns xs:=by
 have k:∀ v:Value,(∀ g,row=some g->v.ownBlock≠some g)->v.ownBlock=none∨v.ownBlock≠row:=fun v hv=>by
  cases hr:row with
  | none=>cases hv2:v.ownBlock with
   | none=>exact .inl rfl
   | some x=>exact .inr Af
  | some g=>exact .inr (hv g hr)
 exact ⟨h.r.kept hg (k _ fun g e=>(h1 g e).1),h.b.kept hg (k _ fun g e=>(h1 g e).2.1),h.s.kept hg (k _ fun g e=>(h1 g e).2.2),Bc h.le hg.size,h.fr,h.fb,h.fs,h.bs⟩
theorem Gf.below (h:Gf w0 W base rv bv sv cr nr xr cb nb xb cs ns xs) (hb:Below W.heap.size W W'):Gf w0 W' base rv bv sv cr nr xr cb nb xb cs ns xs :=
 h.grown (row:=none) ⟨hb.os,hb.tape,hb.output,hb.size,fun k hk _=>hb.block k hk⟩ (fun g e=>by cases e)
theorem IM:(63:TypeId)≠3:=by decide
theorem Gf.setR (h:Gf w0 W base rv bv sv cr nr xr cb nb xb cs ns xs) (hg:W.grownBy W' cr.ownBlock) {v:Value} {n:Nat} {ys:List Value} (hr:W'.ownsRow base 63 1 v n ys) (hv:∀ g,v.ownBlock=some g->cr.ownBlock=some g∨W.heap.size<=g):Gf w0 W' base rv bv sv v n ys cb nb xb cs ns xs:=by
 have kb:cb.ownBlock=none∨cb.ownBlock≠cr.ownBlock:=by
  cases hc:cb.ownBlock with
  | none=>exact .inl rfl
  | some x=>exact .inr fun e=>HQ h.r h.b IM x e.symm hc
 have ks:cs.ownBlock=none∨cs.ownBlock≠cr.ownBlock:=by
  cases hc:cs.ownBlock with
  | none=>exact .inl rfl
  | some x=>exact .inr fun e=>HQ h.r h.s IM x e.symm hc
 refine ⟨hr,h.b.kept hg kb,h.s.kept hg ks,Bc h.le hg.size,fun g e=>?_,h.fb,h.fs,h.bs⟩;rcases hv g e with h1 | h1
 ·exact h.fr g h1
 ·exact .inr (Bc h.le h1)
theorem Gf.setB (h:Gf w0 W base rv bv sv cr nr xr cb nb xb cs ns xs) (hg:W.grownBy W' cb.ownBlock) {v:Value} {n:Nat} {ys:List Value} (hr:W'.ownsRow base 3 1 v n ys) (hv:∀ g,v.ownBlock=some g->cb.ownBlock=some g∨W.heap.size<=g):Gf w0 W' base rv bv sv cr nr xr v n ys cs ns xs:=by
 have kr:cr.ownBlock=none∨cr.ownBlock≠cb.ownBlock:=by
  cases hc:cr.ownBlock with
  | none=>exact .inl rfl
  | some x=>exact .inr fun e=>HQ h.r h.b IM x hc e.symm
 have ks:cs.ownBlock=none∨cs.ownBlock≠cb.ownBlock:=by
  cases hc:cs.ownBlock with
  | none=>exact .inl rfl
  | some x=>exact .inr fun e=>h.bs x e.symm hc
 refine ⟨h.r.kept hg kr,hr,h.s.kept hg ks,Bc h.le hg.size,h.fr,fun g e=>?_,h.fs,fun g e e2=>?_⟩
 ·rcases hv g e with h1 | h1
  ·exact h.fb g h1
  ·exact .inr (Bc h.le h1)
 ·rcases hv g e with h1 | h1
  ·exact h.bs g h1 e2
  ·have:=(h.s.lt g e2).2;omega
theorem Gf.setS (h:Gf w0 W base rv bv sv cr nr xr cb nb xb cs ns xs) (hg:W.grownBy W' cs.ownBlock) {v:Value} {n:Nat} {ys:List Value} (hr:W'.ownsRow base 3 1 v n ys) (hv:∀ g,v.ownBlock=some g->cs.ownBlock=some g∨W.heap.size<=g):Gf w0 W' base rv bv sv cr nr xr cb nb xb v n ys:=by
 have kr:cr.ownBlock=none∨cr.ownBlock≠cs.ownBlock:=by
  cases hc:cr.ownBlock with
  | none=>exact .inl rfl
  | some x=>exact .inr fun e=>HQ h.r h.s IM x hc e.symm
 have kb:cb.ownBlock=none∨cb.ownBlock≠cs.ownBlock:=by
  cases hc:cb.ownBlock with
  | none=>exact .inl rfl
  | some x=>exact .inr fun e=>h.bs x hc e.symm
 refine ⟨h.r.kept hg kr,h.b.kept hg kb,hr,Bc h.le hg.size,h.fr,h.fb,fun g e=>?_,fun g e e2=>?_⟩
 ·rcases hv g e with h1 | h1
  ·exact h.fs g h1
  ·exact .inr (Bc h.le h1)
 ·rcases hv g e2 with h1 | h1
  ·exact h.bs g e h1
  ·have:=(h.b.lt g e).2;omega
end
structure Ez (W:World) (b n:Nat) (f:Nat->Int):Prop where
 row:G8 W b n f
 ty:∃ cs,Ds W b cs 66
theorem Ez.same {W W':World} {b n:Nat} {f:Nat->Int} (h:Ez W b n f) (hs:W.heap.size<=W'.heap.size) (e:W'.heap[b]? = W.heap[b]?):Ez W' b n f :=
 ⟨h.row.same hs e,h.ty.imp fun _ k=>e.trans k⟩
theorem Ez.below {W W':World} {b n:Nat} {f:Nat->Int} (h:Ez W b n f) (hb:Below W.heap.size W W'):Ez W' b n f:=h.same hb.size (hb.block b h.row.lt)
theorem Ez.only {W W':World} {b n:Nat} {f:Nat->Int} {S:List Nat} (h:Ez W b n f) (ho:Dr S W W') (hS:b∉S):Ez W' b n f:=h.same ho.size (ho.block b h.row.lt hS)
theorem Ez.congr {W:World} {b n:Nat} {f g:Nat->Int} (h:Ez W b n f) (e:∀ j,j<n->f j=g j):Ez W b n g:=⟨h.row.congr e,h.ty⟩
theorem Ez.set {W:World} {b n:Nat} {f:Nat->Int} (h:Ez W b n f) {j:Nat} (hj:j<n) (v:Int):Ez (W.setCells b (j*12) (wl (wd v))) b n (DL f j v) :=
 ⟨h.row.set hj v,by obtain ⟨cs,hc⟩:=h.ty;obtain ⟨ds,hd,_⟩:=Il (wl (wd v)) (j*12) hc;exact ⟨ds,hd⟩⟩
theorem Ez.not_own {W:World} {b n:Nat} {f:Nat->Int} (h:Ez W b n f) {base k:Nat} {e:TypeId} {v:Value} {xs:List Value} (hr:W.ownsRow base e 1 v k xs) (hne:(66:TypeId)≠e):v.ownBlock≠some b:=by
 obtain ⟨cs,hc⟩:=h.ty;exact fun e2=>hc.not_row hne hr e2.symm
end
section
open Go.RowKit
def Hm (tb:Nat) (rv bv sv:Value):List Nat:=tb :: (rv.ownBlock.toList++(bv.ownBlock.toList++sv.ownBlock.toList))
theorem hot_r {tb:Nat} {rv bv sv:Value}:∀ k,rv.ownBlock=some k->k∈Hm tb rv bv sv:=fun k e=>by unfold Hm;rw [e];simp
theorem hot_b {tb:Nat} {rv bv sv:Value}:∀ k,bv.ownBlock=some k->k∈Hm tb rv bv sv:=fun k e=>by unfold Hm;rw [e];simp
theorem hot_s {tb:Nat} {rv bv sv:Value}:∀ k,sv.ownBlock=some k->k∈Hm tb rv bv sv:=fun k e=>by unfold Hm;rw [e];simp
theorem I2 {w W W2:World} {row:Option Nat} (hg:W.grownBy W2 row) (h:∀ k,row=some k->k<w.heap.size):∀ g o:Nat,w.heap.size<=g->g<W.heap.size->W2.cell? ⟨g,o,none⟩=W.cell? ⟨g,o,none⟩:=fun g o h1 h2 =>
 Dw (hg.block g h2 (fun e=>by have:=h g e.symm;omega)) o
theorem M0 {w W W2:World} (hb:Below W.heap.size W W2):∀ g o:Nat,w.heap.size<=g->g<W.heap.size->W2.cell? ⟨g,o,none⟩=W.cell? ⟨g,o,none⟩:=fun _ _ _ h2=>hb.cell (p:=⟨_,_,none⟩) h2
section
variable {P:Program} {ops:Array Oper} {Q:Exit->Act->World->Prop} {l:Nat->Bool} {a:Act} {W W':World}
def Vc:List Edge->Nat->Nat
 | [],m=>m
 | e :: es,m=>Vc es (if Region.binds .any e then m ||| 2 ^ e.on else m)
def Oe (ops:Array Oper) (k:Nat):Nat:=match ops[k]? with
 | some o=>Vc o.after.toList 0
 | none=>0
def ancs (ops:Array Oper):Nat->Nat->Nat
 | 0,m=>m
 | k+1,m=>ancs ops k (if m.testBit k then m ||| Oe ops k else m)
def Vd (ops:Array Oper) (j:Nat):Nat:=ancs ops j (Oe ops j)
theorem Q0:∀ (es:List Edge) (m n:Nat),(Vc es m).testBit n=true->m.testBit n=true∨∃ e∈es,Region.binds .any e=true/\e.on=n
 | [],m,n,h=>.inl h
 | e :: es,m,n,h=>by
  rcases Q0 es _ n h with h1 | ⟨e',h1,h2⟩
  ·by_cases hb:Region.binds .any e=true
   ·rw [AU hb,Nat.testBit_or,Nat.testBit_two_pow] at h1
    rcases CL.1 h1 with h3 | h3
    ·exact .inl h3
    ·exact .inr ⟨e,Br,hb,Cs h3⟩
   ·rw [AP hb] at h1;exact .inl h1
  ·exact .inr ⟨e',Bw _ h1,h2⟩
theorem Is {k n:Nat} (h:(Oe ops k).testBit n=true):∃ o,ops[k]? = some o/\Er o n=true:=by
 unfold Oe at h;cases ho:ops[k]? with
 | none=>rw [ho] at h;simp at h
 | some o =>
  rw [ho] at h;rcases Q0 _ _ _ h with h1 | ⟨e,h1,h2,h3⟩
  ·simp at h1
  ·exact ⟨o,rfl,Array.any_eq_true'.2 ⟨e,by simpa using h1,by simp [h2,h3]⟩⟩
theorem KE (hsh:Fb ops l):∀ (k m:Nat),(∀ n,m.testBit n=true->l n=true)->∀ n,(ancs ops k m).testBit n=true->l n=true
 | 0,_,h,n,hn=>h n hn
 | k+1,m,h,n,hn=>by
  refine KE hsh k _ (fun j hj=>?_) n hn;by_cases hk:m.testBit k=true
  ·rw [AU hk,Nat.testBit_or] at hj
   rcases CL.1 hj with h1 | h1
   ·exact h j h1
   ·obtain ⟨o,ho,hw⟩:=Is h1
    exact hsh k j o ho (h k hk) hw
  ·rw [AP hk] at hj;exact h j hj
theorem Sd {i j:Nat} {o:Oper} (hsh:Fb ops l) (ho:ops[i]? = some o) (hw:∀ n,Er o n=true->l n=true) (hj:(Vd ops i).testBit j=true):l j=true :=
 KE hsh i _ (fun n hn=>by
  obtain ⟨o',ho',h⟩:=Is hn;rw [ho] at ho';obtain rfl:=B4 ho';exact hw n h) j hj
theorem Gr {i j:Nat} (hsh:Fb ops l) (hl:l i=false) (hj:(Vd ops j).testBit i=true):l j=false:=by
 cases hc:l j with
 | false=>rfl
 | true =>
  have:=KE hsh j _ (fun n hn=>by
   obtain ⟨o,ho,h⟩:=Is hn;exact hsh j n o ho hc h) i hj
  rw [hl] at this;cases this
def EB (l:Nat->Bool):List Nat->Nat
 | []=>0
 | e :: es=>if l e then EB l es+1 else 0
theorem L5 {l l':Nat->Bool}:∀ {es:List Nat},(∀ e∈es,l e=l' e)->EB l es=EB l' es
 | [],_=>rfl
 | e :: es,h=>by
  unfold EB;rw [h e Br,L5 fun e' he=>h e' (Bw _ he)]
theorem Mc:∀ {es:List Nat} {k:Nat},k<=es.length->(∀ e∈es.take k,l e=true)->k<=EB l es
 | _,0,_,_=>AO _
 | [],k+1,hk,_=>by simp at hk
 | e :: es,k+1,hk,h=>by
  unfold EB;rw [AU (h e Af)];exact Nat.succ_le_succ (Mc (by simpa using hk) fun e' he=>h e' (by simp [he]))
theorem H6:∀ {es:List Nat} {k e:Nat},es[k]? = some e->l e=false->EB l es<=k
 | [],k,_,h,_=>by simp at h
 | x :: es,0,e,h,hl=>by
  simp at h;subst h;unfold EB;rw [AP (by simp [hl])];exact Aa _
 | x :: es,k+1,e,h,hl=>by
  unfold EB;split
  ·exact Nat.succ_le_succ (H6 (by simpa using h) hl)
  ·exact AO _
theorem KF:∀ {es:List Nat},EB l es<=es.length
 | []=>Aa _
 | x :: es=>by
  unfold EB;split
  ·exact Nat.succ_le_succ KF
  ·exact AO _
def TE (ops:Array Oper) (es:List Nat) (k i:Nat):Bool:=decide (k<=es.length)&&(es.take k).all fun e=>(Vd ops i).testBit e
def Jo (ops:Array Oper) (es:List Nat) (k i:Nat):Bool:=match es[k]? with
 | some e=>(e==i) || (Vd ops e).testBit i
 | none=>es.length==k
theorem Og {es:List Nat} {k i:Nat} {o:Oper} (hsh:Fb ops l) (ho:ops[i]? = some o) (hw:∀ n,Er o n=true->l n=true) (h:TE ops es k i=true):k<=EB l es:=by
 unfold TE at h;rw [Ap,AE] at h;exact Mc (Cs h.1) fun e he=>Sd hsh ho hw (h.2 e he)
theorem Oh {es:List Nat} {k i:Nat} (hsh:Fb ops l) (hl:l i=false) (h:Jo ops es k i=true):EB l es<=k:=by
 unfold Jo at h;split at h
 ·rename_i e he
  refine H6 he ?_;rcases CL.1 h with h1 | h1
  ·rw [C4.1 h1];exact hl
  ·exact Gr hsh hl h1
 ·rw [<-C4.1 h];exact KF
theorem KG {es:List Nat} {k i:Nat} (hk:es[k]? = some i) (h1:EB l es=k) (hn:Jo ops es (k+1) i=true) (hsh:Fb ops l) (hl:l i=false) (hd:Ho es=true):EB (Ex l i) es=k+1:=by
 have hlen:k<es.length:=(BR.1 hk).1;have hnd:=IS hd;refine Nat.le_antisymm ?_ (Mc hlen fun e he=>?_)
 ·unfold Jo at hn
  split at hn
  ·rename_i e he
   refine H6 he ?_;have hne:e≠i:=fun e'=>by
    subst e';have:=(List.getElem?_inj hlen hnd).1 (hk.trans he.symm);omega
   rcases CL.1 hn with h3 | h3
   ·exact absurd (C4.1 h3) hne
   ·exact PY (Gr hsh hl h3) hne
  ·rw [<-C4.1 hn];exact KF
 ·obtain ⟨j,hj⟩:=BI.1 he
  rw [BM] at hj;split at hj
  ·rename_i hjk
   by_cases hji:j=k
   ·subst hji;rw [hk] at hj;obtain rfl:=B4 hj;simp [Ex]
   ·have:l e=true:=by
     cases hc:l e with
     | true=>rfl
     | false=>have:=H6 hj hc;omega
    unfold Ex;split
    ·rfl
    ·exact this
  ·cases hj
def At (SL:List (World->Prop)) (k:Nat) (W:World):Prop:=match SL[k]? with
 | some p=>p W
 | none=>False
def Bs (ops:Array Oper) (us:List Value) (l:Nat->Bool) (a:Act):Prop:=∀ n,(∀ (j:Nat) (o:Oper),ops[j]? = some o->o.dst=some n->l j=false)->a.tmps[n]? = us[n]?
theorem Bs.skip {us:List Value} (h:Bs ops us l a) (i:Nat):Bs ops us (Ex l i) a:=fun n hn=>h n fun j o ho hd=>by
 have:=hn j o ho hd;unfold Ex at this;split at this
 ·cases this
 ·exact this
theorem Bs.put {us:List Value} (h:Bs ops us l a) {i d:Nat} {o:Oper} (ho:ops[i]? = some o) (hd:o.dst=some d) (v:Value):Bs ops us (Ex l i) (a.put (some d) v):=fun n hn=>by
 by_cases e:d=n
 ·subst e
  have:=hn i o ho hd;simp [Ex] at this
 ·rw [JE e]
  exact h.skip i n hn
def lastB (ops:Array Oper) (n i:Nat):Bool:=(List.range ops.size).all fun j=>match ops[j]? with
 | some o=>!(o.dst==some n) || j==i || (Vd ops j).testBit i
 | none=>true
structure Rg (ops:Array Oper) (N:Nat) (us:List Value) (ds:List Nat) (F:FL) (M:ML) (es:List Nat) (C:World->Prop) (SL:List (World->Prop)) (l:Nat->Bool) (a:Act) (W:World):Prop where
 f:Fr us.toArray ds a
 b:Bs ops us l a
 n:us.length=N
 v:I6 F l a
 m:GO M l a W
 c:C W
 s:At SL (EB l es) W
def Ri (N:Nat) (ds:List Nat) (M:ML):Nat->FL->Bool
 | _,[]=>true
 | i,none :: F=>Ri N ds M (i+1) F
 | i,some (d,_) :: F=>ds.contains d&&decide (d<N)&&((IR M).contains i || !(Gi M).contains d)&&Ri N ds M (i+1) F
theorem It {N:Nat} {ds:List Nat} {M:ML}:∀ {F:FL} {i j d:Nat} {v:Value},Ri N ds M i F=true->F[j]? = some (some (d,v))->ds.contains d=true/\d<N/\((IR M).contains (i+j)=false->(Gi M).contains d=false)
 | [],_,_,_,_,_,h=>by simp at h
 | none :: F,i,0,_,_,_,h=>by simp at h
 | none :: F,i,j+1,d,v,h,hj=>by
  have:=It (i:=i+1) (j:=j) h (by simpa using hj);rwa [show i+1+j=i+(j+1) by omega] at this
 | some x :: F,i,0,d,v,h,hj=>by
  simp at hj;subst hj;simp only [Ri,Ap,Au,Ar,Aq] at h;exact ⟨h.1.1.1,h.1.1.2,fun e=>h.1.2.resolve_left (by rw [show i=i+0 from rfl,e];decide)⟩
 | some x :: F,i,j+1,d,v,h,hj=>by
  simp only [Ri,Ap] at h;have:=It (i:=i+1) (j:=j) h.2 (by simpa using hj);rwa [show i+1+j=i+(j+1) by omega] at this
structure Iu {Γ:Type} (N:Nat) (ds ms:List Nat) (F:Γ->FL) (M:Γ->ML) (C:World->Prop) (SL:Γ->List (World->Prop)):Prop where
 k:∀ g,(Ho (I5 (F g))&&Ri N ds (M g) 0 (F g)&&Ho (IR (M g))&&Ho (Gi (M g)))=true
 ms:∀ g,IR (M g)=ms
 c:∀ W W',Below W.heap.size W W'->C W->C W'
 m:∀ g,Sc (M g)
 s:∀ g,∀ p∈SL g,∀ W W',Below W.heap.size W W'->p W->p W'
theorem I7 {es:List Nat} {i:Nat} (h:es.contains i=false):EB (Ex l i) es=EB l es:=L5 fun e he=>by
 unfold Ex;by_cases hc:e=i
 ·subst hc;rw [CJ.2 he] at h;cases h
 ·rw [AP hc]
section
variable {Γ:Type} {N:Nat} {us:List Value} {ds ms:List Nat} {F:Γ->FL} {M:Γ->ML} {es:List Nat} {C:World->Prop} {SL:Γ->List (World->Prop)} {g:Γ}
theorem Rg.world (h:Rg ops N us ds (F g) (M g) es C (SL g) l a W) (St:Iu N ds ms F M C SL) (hb:Below W.heap.size W W'):Rg ops N us ds (F g) (M g) es C (SL g) l a W':=by
 refine ⟨h.f,h.b,h.n,h.v,h.m.world (St.m g) hb,St.c _ _ hb h.c,?_⟩;have:=h.s;unfold At at this |-;split at this
 ·rename_i p hp;exact St.s g p (Ay hp) _ _ hb this
 ·exact this.elim
theorem Iu.parts (St:Iu N ds ms F M C SL) (g:Γ):(I5 (F g)).Nodup/\Ri N ds (M g) 0 (F g)=true/\(IR (M g)).Nodup/\(Gi (M g)).Nodup:=by
 have:=St.k g;simp only [Ap] at this;exact ⟨IS this.1.1.1,this.1.1.2,IS this.1.2,IS this.2⟩
theorem Rg.val (h:Rg ops N us ds (F g) (M g) es C (SL g) l a W) (St:Iu N ds ms F M C SL) {i d:Nat} {v:Value} {o:Oper} (ho:ops[i]? = some o) (hd:o.dst=some d) (hi:(F g)[i]? = some (some (d,v))) (he:es.contains i=false) (h4:ms.contains i=false):Rg ops N us ds (F g) (M g) es C (SL g) (Ex l i) (a.put (some d) v) W:=by
 obtain ⟨k1,k2,_,_⟩:=St.parts g;obtain ⟨h2,h3,h5⟩:=It k2 hi;rw [BN,St.ms g] at h5;rw [<-St.ms g] at h4;have h5:=h5 (by rw [<-St.ms g];exact h4);refine ⟨h.f.put d _ h2,h.b.put ho hd v,h.n,h.v.put k1 i hi (by rw [h.f.size,BH,h.n];exact h3),h.m.put i d _ h4 h5,h.c,?_⟩;rw [I7 he];exact h.s
theorem Rg.x (h:Rg ops N us ds (F g) (M g) es C (SL g) l a W) {o:Oper} (j:Nat) (hw:∀ n,Er o n=true->l n=true) {d:Nat} {v:Value} (hj:(F g)[j]? = some (some (d,v))) (hj':Er o j=true:=by kernel_rfl):a.tmps[d]? = some v:=h.v.get j hj (hw j hj')
theorem Rg.u (h:Rg ops N us ds (F g) (M g) es C (SL g) l a W) {n:Nat} {v:Value} (hv:us[n]? = some v) (hn:ds.contains n=false:=by kernel_rfl):a.tmps[n]? = some v:=h.f.atl n hv hn
theorem Rg.w (h:Rg ops N us ds (F g) (M g) es C (SL g) l a W) {n:Nat} {v:Value} (i:Nat) (hl:l i=false) (hsh:Fb ops l) (hv:us[n]? = some v) (hn:lastB ops n i=true):a.tmps[n]? = some v:=by
 rw [<-hv];refine h.b n fun j o ho hd=>?_
 have hj:j<ops.size:=(BO.1 ho).1;have:=AE.1 hn j (AB.2 hj);rw [ho] at this;simp only [hd,beq_self_eq_true,Bool.not_true,Bool.false_or,Au,C4] at this;rcases this with rfl | h1
 ·exact hl
 ·exact Gr hsh hl h1
theorem Rg.y (h:Rg ops N us ds (F g) (M g) es C (SL g) l a W) {o:Oper} {i:Nat} (k:Nat) (hl:l i=false) (hw:∀ n,Er o n=true->l n=true) (hsh:Fb ops l) {j d:Nat} {e:Option Nat} {p:Value->World->Prop} (hk:(M g)[k]? = some (j,d,p,e)) (hj:Er o j=true:=by kernel_rfl) (he:(match e with
 | none=>true
 | some e=>e==i || (Vd ops e).testBit i)=true:=by kernel_rfl):∃ v,a.tmps[d]? = some v/\p v W:=by
 refine h.m.get k hk (hw j hj) ?_
 cases e with
 | none=>rfl
 | some e =>
  refine live_of ?_;rcases CL.1 he with h1 | h1
  ·rw [C4.1 h1];exact hl
  ·exact Gr hsh hl h1
def Each (SL:List (World->Prop)) (W:World) (p:Prop):Nat->Nat->Prop
 | lo,0=>At SL lo W->p
 | lo,n+1=>(At SL lo W->p)/\Each SL W p (lo+1) n
theorem Se {SL:List (World->Prop)} {p:Prop}:∀ {n lo k:Nat},Each SL W p lo n->lo<=k->k<=lo+n->At SL k W->p
 | 0,lo,k,h,h1,h2,hk=>by
  obtain rfl:k=lo:=by omega
  exact h hk
 | n+1,lo,k,h,h1,h2,hk=>by
  by_cases e:k=lo
  ·subst e;exact h.1 hk
  ·exact Se h.2 Ad Ad hk
theorem Rg.ld (h:Rg ops N us ds (F g) (M g) es C (SL g) l a W) {o:Oper} (i lo n:Nat) (hl:l i=false) (hw:∀ n,Er o n=true->l n=true) (hsh:Fb ops l) (ho:ops[i]? = some o) (hc:(TE ops es lo i&&Jo ops es (lo+n) i)=true) {p:Prop} (hp:Each (SL g) W p lo n):p:=by
 rw [Ap] at hc;exact Se hp (Og hsh ho hw hc.1) (Oh hsh hl hc.2) h.s
def Iv (ops:Array Oper) (N:Nat) (us:List Value) (ds:List Nat) (F:Γ->FL) (M:Γ->ML) (es:List Nat) (C:World->Prop) (SL:Γ->List (World->Prop)) (l:Nat->Bool) (a:Act) (W:World):Prop:=∃ g,Rg ops N us ds (F g) (M g) es C (SL g) l a W
def KH (o:Oper) (es ms:List Nat) (i:Nat):Bool:=o.guard.isNone&&!es.contains i&&!ms.contains i
theorem I8 {o:Oper} {es ms:List Nat} {i:Nat} (h:KH o es ms i=true):o.guard=none/\es.contains i=false/\ms.contains i=false:=by
 unfold KH at h;rw [Ap,Ap,Ar,Ar,Option.isNone_iff_eq_none] at h;exact ⟨h.1.1,h.1.2,h.2⟩
theorem IT {o:Oper} {y:Nat->Option Bool} (h:o.guard=none):Region.wanted o y=true:=by unfold Region.wanted;rw [h]
variable {o:Oper}
def Wn (ops:Array Oper) (F:Γ->FL) (o:Oper):Prop:=o.guard=none∨∃ (j e:Nat) (b:Bool),o.guard=some (j,b)/\(ops[j]?).bind (·.dst)=some e/\Er o j=true/\∀ g,(F g)[j]? = some (some (e,.bool b))
theorem Wn.is (h:Wn ops F o) (hw:∀ n,Er o n=true->l n=true) (z:Rg ops N us ds (F g) (M g) es C (SL g) l a W):Region.wanted o (yielded ops a.tmps)=true:=by
 rcases h with h | ⟨j,e,b,h1,h2,h3,h4⟩
 ·exact IT h
 ·exact wants h1 h2 (z.v.get j (h4 g) (hw j h3))
theorem wg (j:Nat) {e:Nat} {b:Bool} (h1:o.guard=some (j,b)) (h2:(ops[j]?).bind (·.dst)=some e) (h3:Er o j=true) (h4:∀ g,(F g)[j]? = some (some (e,.bool b))):Wn ops F o:=.inr ⟨j,e,b,h1,h2,h3,h4⟩
theorem Oi {a b:List Nat} {i:Nat} (h:(a++b).contains i=false):a.contains i=false/\b.contains i=false:=by
 constructor <;>
 ·cases hc:List.contains _ i with
  | false=>rfl
  | true =>
   rw [CJ.2 (Bz.2 (by simp only [CJ] at hc;simp [hc]))] at h;cases h
theorem stV (St:Iu N ds ms F M C SL) (i:Nat) {d:Nat} {V:Γ->Value} (ho:ops[i]? = some o) (hd:o.dst=some d) (h0:KH o es ms i=true) (hi:∀ g,(F g)[i]? = some (some (d,V g)))
  (h:∀ g l a W,l i=false->(∀ n,Er o n=true->l n=true)->Fb ops l->Rg ops N us ds (F g) (M g) es C (SL g) l a W->∀ K:Act->World->Prop,K (a.put (some d) (V g)) W->Oper.wp P o a W K Q):Hb P ops Q (Iv ops N us ds F M es C SL) i o:=fun l a W hl hw hsh ⟨g,z⟩ K hK =>
 want (IT (I8 h0).1) (h g l a W hl hw hsh z K (hK.out _ _ ⟨g,z.val St ho hd (hi g) (I8 h0).2.1 (I8 h0).2.2⟩))
theorem stG (St:Iu N ds ms F M C SL) (i:Nat) {d:Nat} {V:Γ->Value} (ho:ops[i]? = some o) (hd:o.dst=some d) (h0:Wn ops F o) (he:(es++ms).contains i=false) (hi:∀ g,(F g)[i]? = some (some (d,V g)))
  (h:∀ g l a W,l i=false->(∀ n,Er o n=true->l n=true)->Fb ops l->Rg ops N us ds (F g) (M g) es C (SL g) l a W->∀ K:Act->World->Prop,K (a.put (some d) (V g)) W->Oper.wp P o a W K Q):Hb P ops Q (Iv ops N us ds F M es C SL) i o:=fun l a W hl hw hsh ⟨g,z⟩ K hK =>
 want (h0.is hw z) (h g l a W hl hw hsh z K (hK.out _ _ ⟨g,z.val St ho hd (hi g) (Oi he).1 (Oi he).2⟩))
theorem stC (St:Iu N ds ms F M C SL) (i:Nat) {d:Nat} {V:Γ->Value} (ho:ops[i]? = some o) (hd:o.dst=some d) (h0:KH o es ms i=true) (hi:∀ g,(F g)[i]? = some (some (d,V g)))
  (h:∀ g l a W,l i=false->(∀ n,Er o n=true->l n=true)->Fb ops l->Rg ops N us ds (F g) (M g) es C (SL g) l a W->∀ K:Act->World->Prop,(∀ W',Below W.heap.size W W'->K (a.put (some d) (V g)) W')->Oper.wp P o a W K Q):Hb P ops Q (Iv ops N us ds F M es C SL) i o:=fun l a W hl hw hsh ⟨g,z⟩ K hK =>
 want (IT (I8 h0).1) (h g l a W hl hw hsh z K fun _ hb=>hK.out _ _ ⟨g,(z.world St hb).val St ho hd (hi g) (I8 h0).2.1 (I8 h0).2.2⟩)
theorem stH (St:Iu N ds ms F M C SL) (i:Nat) {d:Nat} {V:Γ->Value} (ho:ops[i]? = some o) (hd:o.dst=some d) (h0:Wn ops F o) (he:(es++ms).contains i=false) (hi:∀ g,(F g)[i]? = some (some (d,V g)))
  (h:∀ g l a W,l i=false->(∀ n,Er o n=true->l n=true)->Fb ops l->Rg ops N us ds (F g) (M g) es C (SL g) l a W->∀ K:Act->World->Prop,(∀ W',Below W.heap.size W W'->K (a.put (some d) (V g)) W')->Oper.wp P o a W K Q):Hb P ops Q (Iv ops N us ds F M es C SL) i o:=fun l a W hl hw hsh ⟨g,z⟩ K hK =>
 want (h0.is hw z) (h g l a W hl hw hsh z K fun _ hb=>hK.out _ _ ⟨g,(z.world St hb).val St ho hd (hi g) (Oi he).1 (Oi he).2⟩)
def okO (ds:List Nat) (F:FL) (es:List Nat) (i d:Nat):Bool:=(match F[i]? with
 | some none=>true
 | _=>false)&&!(I5 F).contains d&&ds.contains d&&!es.contains i
theorem Ve {ds:List Nat} {F:FL} {es:List Nat} {i d:Nat} (h:okO ds F es i d=true):F[i]? = some none/\(I5 F).contains d=false/\ds.contains d=true/\es.contains i=false:=by
 unfold okO at h;simp only [Ap,Ar] at h;refine ⟨?_,h.1.1.2,h.1.2,h.2⟩;have:=h.1.1.1;split at this
 ·assumption
 ·cases this
theorem stM (St:Iu N ds ms F M C SL) (i k:Nat) {d:Nat} {e:Option Nat} {p:Γ->Value->World->Prop} (ho:ops[i]? = some o) (hd:o.dst=some d) (h0:Wn ops F o) (hi:∀ g,(M g)[k]? = some (i,d,p g,e)) (hk:∀ g,(okO ds (F g) es i d&&decide (d<N))=true)
  (h:∀ g l a W,l i=false->(∀ n,Er o n=true->l n=true)->Fb ops l->Rg ops N us ds (F g) (M g) es C (SL g) l a W->∀ K:Act->World->Prop,(∀ v W',Below W.heap.size W W'->p g v W'->K (a.put (some d) v) W')->Oper.wp P o a W K Q):Hb P ops Q (Iv ops N us ds F M es C SL) i o:=fun l a W hl hw hsh ⟨g,z⟩ K hK=>by
 have h1:=hk g
 simp only [Ap,Aq] at h1
 obtain ⟨k1,k2,k3,k4⟩:=Ve h1.1
 obtain ⟨_,_,k5,k6⟩:=St.parts g
 refine want (h0.is hw z) (h g l a W hl hw hsh z K fun v W' hb hp=>hK.out _ _ ⟨g,?_⟩)
 have z':=z.world St hb
 refine ⟨z'.f.put d _ k3,z'.b.put ho hd _,z'.n,z'.v.other i d _ k1 k2,z'.m.add k i (hi g) k5 k6 (by rw [z'.f.size,BH,z'.n];exact h1.2) hp,z'.c,?_⟩
 rw [I7 k4];exact z'.s
theorem stK (i j:Nat) {b c:Bool} {d e:Nat} (ho:ops[i]? = some o) (h0:o.guard=some (j,b)) (hd:(ops[j]?).bind (·.dst)=some e) (hj:∀ g,(F g)[j]? = some (some (e,.bool c))) (hw':Er o j=true) (hne:c≠b) (hdst:o.dst=some d) (hk:∀ g,(okO ds (F g) es i d&&!(IR (M g)).contains i&&!(Gi (M g)).contains d)=true):Hb P ops Q (Iv ops N us ds F M es C SL) i o:=fun l a W hl hw hsh ⟨g,z⟩ K hK=>by
 have h1:=hk g;simp only [Ap,Ar] at h1;obtain ⟨k1,k2,k3,k4⟩:=Ve h1.1.1;refine unwant (TC h0 hd (z.v.get j (hj g) (hw j hw')) hne) (hK.out _ _ ⟨g,?_⟩);rw [hdst];refine ⟨z.f.put d _ k3,z.b.put ho hdst _,z.n,z.v.other i d _ k1 k2,z.m.put i d _ h1.1.2 h1.2,z.c,?_⟩;rw [I7 k4];exact z.s
def Md (ops:Array Oper) (i:Nat):ML->Bool
 | []=>true
 | p :: M=>(((Vd ops p.1).testBit i&&!(p.1==i)) || (match p.2.2.2 with
  | none=>false
  | some e=>e==i || (Vd ops e).testBit i==false&&(Vd ops i).testBit e))&&Md ops i M
theorem Lm {i:Nat} (hl:l i=false) (hw:∀ n,Er o n=true->l n=true) (hsh:Fb ops l) (ho:ops[i]? = some o):∀ {M:ML},Md ops i M=true->∀ p∈M,Ex l i p.1=false∨Ka (Ex l i) p.2.2.2=false
 | [],_,p,hp=>by cases hp
 | q :: M,h,p,hp=>by
  unfold Md at h;rw [Ap] at h;rcases Aw.1 hp with rfl | hp
  ·rcases CL.1 h.1 with h1 | h1
   ·rw [Ap,Ar,Am] at h1
    exact .inl (PY (Gr hsh hl h1.1) h1.2)
   ·right
    split at h1
    ·cases h1
    ·rename_i e he
     rw [he];rcases CL.1 h1 with h2 | h2
     ·rw [C4.1 h2];exact TD _ _
     ·rw [Ap] at h2
      exact Vb (Sd hsh ho hw h2.2)
  ·exact Lm hl hw hsh ho h.2 p hp
def Kd (m:Nat):Nat->FL->FL->FL
 | _,_,[]=>[]
 | i,F,y :: G=>(if m.testBit i then F.headD y else y) :: Kd m (i+1) F.tail G
theorem Nj {m:Nat}:∀ {G F:FL} {i j:Nat},m.testBit (i+j)=false->(Kd m i F G)[j]? = G[j]?
 | [],_,_,_,_=>rfl
 | y :: G,F,i,0,h=>by
  have h':m.testBit i=false:=h;simp [Kd,h']
 | y :: G,F,i,j+1,h=>by
  have:=Nj (m:=m) (F:=F.tail) (G:=G) (i:=i+1) (j:=j) (by rw [<-h];congr 1;omega);simpa [Kd] using this
def after (ops:Array Oper) (i:Nat):Nat->Nat
 | 0=>0
 | k+1=>(if (k==i || (Vd ops k).testBit i)=true then 2 ^ k else 0) ||| after ops i k
theorem Me {i:Nat}:∀ {k n:Nat},(after ops i k).testBit n=true->n=i∨(Vd ops n).testBit i=true
 | 0,n,h=>by simp [after] at h
 | k+1,n,h=>by
  unfold after at h;rw [Nat.testBit_or] at h;rcases CL.1 h with h1 | h1
  ·split at h1
   ·rename_i hc
    rw [Nat.testBit_two_pow] at h1;have:=Cs h1;subst this;rcases CL.1 hc with h2 | h2
    ·exact .inl (C4.1 h2)
    ·exact .inr h2
   ·simp at h1
  ·exact Me h1
theorem Iw {F G:FL} {i k:Nat} (h:I6 G l a) (hl:l i=false) (hsh:Fb ops l) (hF:F=Kd (after ops i k) 0 F G):I6 F l a:=h.change fun j=>by
 cases hb:(after ops i k).testBit j with
 | true =>
  rcases Me hb with rfl | h1
  ·exact .inr hl
  ·exact .inr (Gr hsh hl h1)
 | false =>
  left;rw [hF];exact Nj (by rw [BN];exact hb)
theorem stE (i k:Nat) (h0:Wn ops F o) (ho:ops[i]? = some o) (hk:es[k]? = some i) (hi:∀ g,(F g)[i]? = some none) (hc:(Ho es&&TE ops es k i&&Jo ops es (k+1) i)=true) (hm:∀ g,Md ops i (M g)=true)
  (h:∀ g l a W,l i=false->(∀ n,Er o n=true->l n=true)->Fb ops l->Rg ops N us ds (F g) (M g) es C (SL g) l a W->At (SL g) k W->∀ K:Act->World->Prop,(∀ W',C W'->At (SL g) (k+1) W'->K a W')->Oper.wp P o a W K Q):Hb P ops Q (Iv ops N us ds F M es C SL) i o:=fun l a W hl hw hsh ⟨g,z⟩ K hK=>by
 simp only [Ap] at hc
 have hp:EB l es=k:=Nat.le_antisymm (H6 hk hl) (Og hsh ho hw hc.1.2)
 refine want (h0.is hw z) (h g l a W hl hw hsh z (hp ▸ z.s) K fun W' h1 h2=>hK.out _ _ ⟨g,z.f,z.b.skip i,z.n,z.v.skip i (hi g),GO.free (Lm hl hw hsh ho (hm g)),h1,?_⟩)
 rw [KG hk hp hc.2 hsh hl hc.1.1];exact h2
theorem stF (St:Iu N ds ms F M C SL) (i k:Nat) {d:Nat} (hd:o.dst=some d) (h0:Wn ops F o) (ho:ops[i]? = some o) (hk:es[k]? = some i) (hc:(Ho es&&TE ops es k i&&Jo ops es (k+1) i)=true) (hm:∀ g,Md ops i (M g)=true)
  (h:∀ g l a W,l i=false->(∀ n,Er o n=true->l n=true)->Fb ops l->Rg ops N us ds (F g) (M g) es C (SL g) l a W->At (SL g) k W->∀ K:Act->World->Prop,(∀ g' v W',(F g')[i]? = some (some (d,v))->F g'=Kd (after ops i ops.size) 0 (F g') (F g)->C W'->At (SL g') (k+1) W'->K (a.put (some d) v) W')->Oper.wp P o a W K Q):Hb P ops Q (Iv ops N us ds F M es C SL) i o:=fun l a W hl hw hsh ⟨g,z⟩ K hK=>by
 simp only [Ap] at hc
 have hp:EB l es=k:=Nat.le_antisymm (H6 hk hl) (Og hsh ho hw hc.1.2)
 refine want (h0.is hw z) (h g l a W hl hw hsh z (hp ▸ z.s) K fun g' v W' e1 e2 h1 h2=>hK.out _ _ ⟨g',?_⟩)
 obtain ⟨k1,k2,_,_⟩:=St.parts g'
 obtain ⟨h3,h4,_⟩:=It k2 e1
 refine ⟨z.f.put d _ h3,z.b.put ho hd _,z.n,(Iw z.v hl hsh e2).put k1 i e1 (by rw [z.f.size,BH,z.n];exact h4),GO.free (Lm hl hw hsh ho (hm g')),h1,?_⟩
 rw [KG hk hp hc.2 hsh hl hc.1.1];exact h2
def Q3 (ops:Array Oper) (i d:Nat) (qs:List Nat):Nat->ML->Bool
 | _,[]=>true
 | n,p :: M=>(if qs.contains n then !(p.1==i)&&!(p.2.1==d) else Md ops i [p])&&Q3 ops i d qs (n+1) M
theorem Q4 {i d:Nat} {qs:List Nat}:∀ {M:ML} {n b:Nat} {r:Nat×Nat×(Value->World->Prop)×Option Nat},Q3 ops i d qs n M=true->M[b]? = some r->(n+b∈qs/\r.1≠i/\r.2.1≠d)∨Md ops i [r]=true
 | [],_,_,_,_,h=>by simp at h
 | p :: M,n,0,r,h,hb=>by
  simp at hb;subst hb;unfold Q3 at h;rw [Ap] at h;by_cases hc:qs.contains n=true
  ·rw [AU hc] at h
   simp only [Ap,Ar,Am] at h;exact .inl ⟨CJ.1 hc,h.1⟩
  ·rw [AP hc] at h;exact .inr h.1
 | p :: M,n,b+1,r,h,hb=>by
  unfold Q3 at h;rw [Ap] at h;have:=Q4 (n:=n+1) (b:=b) h.2 (by simpa using hb);rwa [show n+1+b=n+(b+1) by omega] at this
theorem stP (St:Iu N ds ms F M C SL) (i k:Nat) (qs:List Nat) {d:Nat} (hd:o.dst=some d) (h0:Wn ops F o) (ho:ops[i]? = some o) (hk:es[k]? = some i) (hc:(Ho es&&TE ops es k i&&Jo ops es (k+1) i)=true) (hm:∀ g,Q3 ops i d qs 0 (M g)=true)
  (h:∀ g l a W,l i=false->(∀ n,Er o n=true->l n=true)->Fb ops l->Rg ops N us ds (F g) (M g) es C (SL g) l a W->At (SL g) k W->∀ K:Act->World->Prop,(∀ g' v W',(F g')[i]? = some (some (d,v))->F g'=Kd (after ops i ops.size) 0 (F g') (F g)->C W'->At (SL g') (k+1) W'->(∀ q∈qs,∀ r,(M g')[q]? = some r->∃ p,(M g)[q]? = some (r.1,r.2.1,p,r.2.2.2)/\∀ v,p v W->r.2.2.1 v W')->K (a.put (some d) v) W')->Oper.wp P o a W K Q):Hb P ops Q (Iv ops N us ds F M es C SL) i o:=fun l a W hl hw hsh ⟨g,z⟩ K hK=>by
 simp only [Ap] at hc
 have hp:EB l es=k:=Nat.le_antisymm (H6 hk hl) (Og hsh ho hw hc.1.2)
 refine want (h0.is hw z) (h g l a W hl hw hsh z (hp ▸ z.s) K fun g' v W' e1 e2 h1 h2 hs=>hK.out _ _ ⟨g',?_⟩)
 obtain ⟨k1,k2,_,_⟩:=St.parts g'
 obtain ⟨h3,h4,_⟩:=It k2 e1
 refine ⟨z.f.put d _ h3,z.b.put ho hd _,z.n,(Iw z.v hl hsh e2).put k1 i e1 (by rw [z.f.size,BH,z.n];exact h4),fun r hr hlr her=>?_,h1,?_⟩
 ·obtain ⟨b,hb⟩:=BI.1 hr
  rcases Q4 (hm g') hb with ⟨h5,h6,h7⟩ | h5
  ·rw [BN] at h5
   obtain ⟨p,hp',hs'⟩:=hs b h5 r hb;have hlj:l r.1=true:=by
    have:Ex l i r.1=true:=hlr;simpa [Ex,h6] using this
   obtain ⟨u,hu,hpu⟩:=z.m.get b hp' hlj (Jb her);exact ⟨u,by rw [JE (Ne.symm h7)];exact hu,hs' u hpu⟩
  ·rcases Lm hl hw hsh ho h5 r Br with h6 | h6
   ·rw [hlr] at h6;cases h6
   ·rw [her] at h6;cases h6
 ·rw [KG hk hp hc.2 hsh hl hc.1.1];exact h2
theorem stA (St:Iu N ds ms F M C SL) (i q k:Nat) {d:Nat} {e:Option Nat} {V:Γ->Value} {p:Γ->Value->World->Prop} (ho:ops[i]? = some o) (hd':o.dst=some d) (h0:Wn ops F o) (he:es.contains i=false) (hi:∀ g,(F g)[i]? = some (some (d,V g))) (hq:∀ g,(M g)[q]? = some (i,d,p g,e)) (hc:Jo ops es k i=true)
  (h:∀ g l a W,l i=false->(∀ n,Er o n=true->l n=true)->Fb ops l->Rg ops N us ds (F g) (M g) es C (SL g) l a W->∀ K:Act->World->Prop,(∀ g' W',Below W.heap.size W W'->F g'=Kd (after ops i ops.size) 0 (F g') (F g)->M g'=(M g).set q (i,d,p g',e)->(SL g').take (k+1)=(SL g).take (k+1)->p g' (V g') W'->K (a.put (some d) (V g')) W')->Oper.wp P o a W K Q):Hb P ops Q (Iv ops N us ds F M es C SL) i o:=fun l a W hl hw hsh ⟨g,z⟩ K hK=>by
 refine want (h0.is hw z) (h g l a W hl hw hsh z K fun g' W' hb e1 e2 e3 hp=>hK.out _ _ ⟨g',?_⟩)
 obtain ⟨k1,k2,k5,k6⟩:=St.parts g'
 obtain ⟨h3,h4,_⟩:=It k2 (hi g')
 have z':=z.world St hb
 have hd:d<a.tmps.size:=by rw [z.f.size,BH,z.n];exact h4
 refine ⟨z'.f.put d _ h3,z'.b.put ho hd' _,z'.n,(Iw z'.v hl hsh e1).put k1 i (hi g') hd,?_,z'.c,?_⟩
 ·have hm:GO (M g') l a W':=by
   rw [e2];intro r hr hlr her;obtain ⟨j,hj⟩:=BI.1 hr;by_cases ej:q=j
   ·subst ej
    rw [Ca (BR.1 (hq g)).1] at hj;obtain rfl:=B4 hj;rw [hl] at hlr;cases hlr
   ·rw [BJ ej] at hj
    exact z'.m r (Ay hj) hlr her
  exact hm.add q i (hq g') k5 k6 hd hp
 ·rw [I7 he]
  have hle:=Oh hsh hl hc;have h5:=z'.s;unfold At at h5 |-;have h6:(SL g')[EB l es]? = (SL g)[EB l es]? := by
   have:=BK (fun z=>z[EB l es]?) e3;simpa [BM,Nat.lt_succ_of_le hle] using this
  rw [h6];exact h5
theorem Oj (N:Nat) (us:List Value) (ds:List Nat) (F:Γ->FL) (M:Γ->ML) (es:List Nat) (C:World->Prop) (SL:Γ->List (World->Prop)) {id:Nat} (hN:us.length=N) (hm:P.follows .mixedOrders=true) (hb:IF ops=true) (g:Γ) (h0:C W.drew) (h1:At (SL g) 0 W.drew) (hp:(EB (fun j=>decide (j<ops.size)) es==es.length)=true)
  (hs:F0 P ops Q (Iv ops N us ds F M es C SL) 0 ops.toList) (hend:∀ g a W,Rg ops N us ds (F g) (M g) es C (SL g) (fun j=>decide (j<ops.size)) a W->At (SL g) es.length W->Q .normal a W) :
  (Code.region id ops true).wp P Q { tmps:=us.toArray,defers:=[] } W :=
 DW _ hm hb ⟨g,Fr.start _ _,fun n _=>by simp,hN,I6.zero,GO.zero,h0,by
  have:EB (fun _=>false) es=0:=by cases es <;> rfl
  rw [this];exact h1⟩ hs fun a W ⟨g,z⟩=>hend g a W z (C4.1 hp ▸ z.s)
end
end
end
end Go.Proofs.YtioamkekjjkigaaGreatDoor
