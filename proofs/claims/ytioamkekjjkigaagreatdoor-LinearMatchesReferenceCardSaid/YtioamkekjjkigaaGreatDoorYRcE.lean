/- RcE, RmP, RmA, RmB, SnC, Vec, SvL, OrE, CtA, LmP, Stay, LnOpen, VcOpen, SyOpen -/
import Derived.Test.YtioamkekjjkigaaGreatDoorYMdA
import Derived.Deep.DeepCutAuto
import Derived.OpenShut
import Derived.ChangeStays
import Derived.ChangeBook
import Derived.ChangeOld
import Derived.ChangeShapes
import Derived.Lib.SmallJoins
import Derived.Laws.IdiomArrays
import Derived.Deep.Strs
set_option maxHeartbeats 8000000
set_option maxRecDepth 100000
namespace Go.Proofs.YtioamkekjjkigaaGreatDoor
section
open Go.RowKit
open LnM (sm)
attribute [local go_sem] Oper.semAt_some
theorem MG (cols:Int) (rv wv:Value) (rows:List (List Int×Int)) (ws:List ByteArray) (w:World) (hR:EX w rv rows) (T:DS w wv ws) (hs:∀ s∈ws,s.size<=201) :
  Calls Tryz.prog 24 #[.agg #[.int .i64 cols,rv],wv] w (DR w (.bool (Em cols rows ws))):=by
 obtain ⟨ar,capr,rfl⟩:=hR.shape
 obtain ⟨aw,capw,rfl⟩:=T.shape
 have hlw:ws.length<=maxLen:=T.len_le
 unfold maxLen at hlw
 have HR:=A8 hR
 have HW:=A8 T
 have Z:=A8 (fun W (T:EX W (.slice ar rows.length capr) rows)=>IY cols _ rows W T)
 replace hs:=A8 hs
 unfold Em
 cases hv:Ea cols rows
 ·rw [hv] at Z
  clear hv hR T;generalize rows.length=nr at *
  generalize ws.length=nw at *
  obtain ⟨V1,S,d,z1⟩:=(BL.start w).add' #[.int .i64 cols,.slice ar nr capr] 27;clear z1;obtain ⟨x0,x1⟩:=d.c2 w.heap.size _ _ _ Ah;go_enter Tryz.func24,Tryz.ntmps24;go_upto_region 1 with fail;rw [<-S];clear S;go_wp2_with fail;refine Calls.mono (Z.out _ (HR.out.below d.below)) ?_;rintro e w1 ⟨rfl,hb⟩;replace d:=d.call hb;clear x0 x1 hb;obtain ⟨x0,x1⟩:=d.c2 w.heap.size _ _ _ Ah;go_wp2;go_ret;exact ⟨Dm Af,d.below⟩
 by_cases hl:ws.length=rows.length
 case neg =>
  have Q:((ws.length:Int)==rows.length)=false:=by simp;omega
  have hl2:((ws.length:Int) != rows.length)=true:=by simp;omega
  rw [hv] at Z;rw [Q];clear hv hR T hl;generalize rows.length=nr at *
  generalize ws.length=nw at *
  obtain ⟨V1,S,d,z1⟩:=(BL.start w).add' #[.int .i64 cols,.slice ar nr capr] 27;clear z1;obtain ⟨x0,x1⟩:=d.c2 w.heap.size _ _ _ Ah;go_enter Tryz.func24,Tryz.ntmps24;go_upto_region 1 with fail;rw [<-S];clear S;go_wp2_with fail;refine Calls.mono (Z.out _ (HR.out.below d.below)) ?_;rintro e w1 ⟨rfl,hb⟩;replace d:=d.call hb;clear x0 x1 hb;obtain ⟨x0,x1⟩:=d.c2 w.heap.size _ _ _ Ah;go_wp2;go_ret;exact ⟨Dm Af,d.below⟩
 case pos =>
  have Q:((ws.length:Int)==rows.length)=true:=by simp [hl]
  have hl2:((ws.length:Int) != rows.length)=false:=by simp [hl]
  obtain ⟨p1,p2,p3,p4⟩:=EH hv;rw [hv] at Z;rw [Q];have Y:Hid (∀ j,j<ws.length->numB (DH ws j)=false->(true&&true&&!(ws.any fun s=>!numB s)&&(List.range cols.toNat).all (fun k=>decide (0<=DF ws (fun i=>gi (Dl rows i).1 k) ws.length))&&decide (DF ws (fun i=>(Dl rows i).2) ws.length<0))=false):=A8 (fun j hj h=>by
   rw [List.any_eq_true.2 ⟨_,Ja hj,by rw [h];rfl⟩];rfl)
  have hp2:Hid ((∀ j,j<ws.length->numB (DH ws j)=true)->(true&&true&&!(ws.any fun s=>!numB s)&&(List.range cols.toNat).all (fun k=>decide (0<=DF ws (fun i=>gi (Dl rows i).1 k) ws.length))&&decide (DF ws (fun i=>(Dl rows i).2) ws.length<0))=((List.range cols.toNat).all (fun k=>decide (0<=DF ws (fun i=>gi (Dl rows i).1 k) ws.length))&&decide (DF ws (fun i=>(Dl rows i).2) ws.length<0))):=A8 (fun h=>by
   rw [As.2 (fun x hx=>by
    obtain ⟨j,hj,e⟩:=AW.1 hx;have:=h j hj;unfold DH at this;rw [Ax hj] at this;rw [<-e];exact (by simpa using this))];rfl)
  generalize (true&&true&&!(ws.any fun s=>!numB s)&&(List.range cols.toNat).all (fun k=>decide (0<=DF ws (fun i=>gi (Dl rows i).1 k) ws.length))&&decide (DF ws (fun i=>(Dl rows i).2) ws.length<0))=bb at *
  have A:=A8 (fun i (hi:i<rows.length)=>p4 _ (Ga hi));obtain ⟨c,rfl⟩:∃ c:Nat,cols=c:=⟨cols.toNat,Ad⟩;have X:Hid (∀ k,k<c->¬ 0<=DF ws (fun i=>gi (Dl rows i).1 k) ws.length->((List.range (c:Int).toNat).all (fun k=>decide (0<=DF ws (fun i=>gi (Dl rows i).1 k) ws.length))&&decide (DF ws (fun i=>(Dl rows i).2) ws.length<0))=false):=A8 (fun k hk h=>by
   rw [AA.2 ⟨k,AB.2 Ad,by simp [h]⟩];rfl)
  have U:Hid ((∀ k,k<c->0<=DF ws (fun i=>gi (Dl rows i).1 k) ws.length)->((List.range (c:Int).toNat).all (fun k=>decide (0<=DF ws (fun i=>gi (Dl rows i).1 k) ws.length))&&decide (DF ws (fun i=>(Dl rows i).2) ws.length<0))=decide (DF ws (fun i=>(Dl rows i).2) ws.length<0)):=A8 (fun h=>by
   rw [AE.2 (fun k hk=>AF (h k (by have:=AB.1 hk;omega)))];rfl)
  generalize ((List.range (c:Int).toNat).all (fun k=>decide (0<=DF ws (fun i=>gi (Dl rows i).1 k) ws.length))&&decide (DF ws (fun i=>(Dl rows i).2) ws.length<0))=bc2 at *
  clear hv hR T p4 p1;obtain ⟨nr,u⟩:∃ n,n=rows.length:=⟨_,rfl⟩;rw [hl,<-u] at HW Y hp2 X U Q hl2 hlw;have v:nr=ws.length:=by rw [hl,u]
  rw [<-u] at HR Z A p3 |-;rw [hl,<-u];replace u:=A8 u;replace v:=A8 v;clear hl;obtain ⟨V1,S,d,z1⟩:=(BL.start w).add' #[.int .i64 c,.slice ar nr capr] 27;clear z1;obtain ⟨x0,x1⟩:=d.c2 w.heap.size _ _ _ Ah;go_enter Tryz.func24,Tryz.ntmps24;go_upto_region 1 with fail;rw [<-S];clear S;go_wp2_with fail;refine Calls.mono (Z.out _ (HR.out.below d.below)) ?_;rintro e w1 ⟨rfl,hb⟩;replace d:=d.call hb;clear x0 x1 hb;obtain ⟨x0,x1⟩:=d.c2 w.heap.size _ _ _ Ah;go_wp2_with fail;clear x0 x1;go_loopw [5] (fun o wr=>∃ j:Nat,o=.int .i64 j/\j<=nr/\Hid (∀ i,i<j->numB (DH ws i)=true)/\BL w [(w.heap.size,#[.int .i64 c,.slice ar nr capr],27)] wr) (fun o _=>nr-(intOf o).toNat);case atStart=>exact ⟨0,rfl,Ad,A8 (fun j hj=>absurd hj Ad),d⟩
  case round =>
   clear d;obtain ⟨j,rfl,hj,l,d⟩:=hrel;by_cases m:j<nr;case pos =>
    have H:(j:Int)<nr:=by omega
    have hj0:(0:Int)<=j:=by omega
    obtain ⟨bw,ow,ew,N,xw⟩:∃ b off,aw=some ⟨b,off,none⟩/\b<w.heap.size/\w.cell? ⟨b,off+j,none⟩=some (.string (DH ws j)):=by
     rcases HW.out with ⟨e,L⟩ | ⟨b,off,cap',e,h1,h2,h3,M⟩
     ·have:=v.out;rw [L] at this;simp at this;omega
     ·cases e
      have:=M j _ (FD (by rw [<-v.out];exact m));rw [AY] at this;exact ⟨b,off,rfl,h3,this⟩
    subst ew;replace xw:=(d.below.cell (p:=⟨_,_,none⟩) N).trans xw;have NI:=A8 (fun W=>IP (DH ws j) (long (hs.out _ (Ja (by rw [<-v.out];exact m)))) W);have E:=Y.out j m;have g:numB (DH ws j)=true->∀ i,i<j+1->numB (DH ws i)=true:=fun h i hi=>by
     by_cases e:i=j
     ·subst e;exact h
     ·exact l.out i Ad
    clear l;cases hk:numB (DH ws j)
    ·rw [hk] at NI
     replace E:=A8 (E hk);clear hk g;generalize DH ws j=s at *
     go_wp2_with fail;refine Calls.mono (NI.out _) ?_;rintro e w3 ⟨rfl,hb⟩;replace d:=d.call hb;go_wp2;go_ret;exact ⟨Dm E.out.symm,d.below⟩
    ·rw [hk] at NI
     replace g:=A8 (g hk);clear hk E;generalize DH ws j=s at *
     go_wp2_with fail;refine Calls.mono (NI.out _) ?_;rintro e w3 ⟨rfl,hb⟩;replace d:=d.call hb;go_wp2_with fail;go_roundw;case rel=>exact ⟨j+1,by go_num,Ad,g,d⟩
     case measure=>simp [intOf];omega
   case neg =>
    have H:¬ (j:Int)<nr:=by omega
    obtain rfl:nr=j:=by omega
    have e1:=hp2.out l.out;subst e1;have P:=A8 (fun i (hi:i<nr)=>(by have:=l.out i hi;unfold numB at this;rw [Ap,Aq] at this;exact this:DK (DH ws i)=true/\Bd 100 (zS (DH ws i))));clear l Y hp2;have y:Hid (∀ k,k<=nr->Do (DF ws (fun i=>(Dl rows i).2) k)):=A8 (fun k (hk:k<=nr)=>sum_small (n:=k) (a:=fun j=>zS (DH ws j)) (f:=fun i=>(Dl rows i).2) Ad (fun j hj=>⟨(P.out j Ad).2,bd11 (by have:=(A.out j Ad).2.2;show _<=(Dl rows j).2/\(Dl rows j).2<=_;omega)⟩));have I0:I (DF ws (fun i=>(Dl rows i).2) 0)=⟨#[48]⟩:=Je.symm;go_wp2_with fail;go_loopw [6,7] (fun x o wr=>∃ j:Nat,x=.string (I (DF ws (fun i=>(Dl rows i).2) j))/\o=.int .i64 j/\j<=nr/\BL w [(w.heap.size,#[.int .i64 c,.slice ar nr capr],27)] wr) (fun _ o _=>nr-(intOf o).toNat);case atStart=>exact ⟨0,by rw [I0],rfl,Ad,d⟩
    case round =>
     clear I0 d;obtain ⟨j,rfl,rfl,hj,d⟩:=hrel;by_cases m:j<nr;case pos =>
      have H:(j:Int)<nr:=by omega
      have hj0:(0:Int)<=j:=by omega
      obtain ⟨bw,ow,ew,N,xw⟩:∃ b off,aw=some ⟨b,off,none⟩/\b<w.heap.size/\w.cell? ⟨b,off+j,none⟩=some (.string (DH ws j)):=by
       rcases HW.out with ⟨e,L⟩ | ⟨b,off,cap',e,h1,h2,h3,M⟩
       ·have:=v.out;rw [L] at this;simp at this;omega
       ·cases e
        have:=M j _ (FD (by rw [<-v.out];exact m));rw [AY] at this;exact ⟨b,off,rfl,h3,this⟩
      subst ew;obtain ⟨b,off,cv,ea,hbr,c0,hcs,c1⟩:∃ b off cv,ar=some ⟨b,off,none⟩/\b<w.heap.size/\w.cell? ⟨b,off+j*2,none⟩=some cv/\IE w cv (Dl rows j).1/\w.cell? ⟨b,off+j*2+1,none⟩=some (.int .i64 (Dl rows j).2):=by
       rcases HR.out with ⟨e,L⟩ | ⟨b,off,cap',e,h1,h2,h3,M⟩
       ·have:=u.out;rw [L] at this;simp at this;omega
       ·cases e
        obtain ⟨cv,c0,hcs,c1⟩:=M j _ (Fe (by rw [<-u.out];exact m));exact ⟨b,off,cv,rfl,h3,c0,hcs,c1⟩
      subst ea;clear hcs c0;obtain ⟨k1,k2⟩:=P.out j m;have hvb:=(A.out j m).2.2;have r:DF ws (fun i=>(Dl rows i).2) (j+1)=DF ws (fun i=>(Dl rows i).2) j+zS (DH ws j)*(Dl rows j).2:=rfl;have O:=y.out (j+1) Ad;have G:=y.out j Ad;have D:Do (zS (DH ws j)*(Dl rows j).2):=(k2.mul (bd11 (x:=(Dl rows j).2) Ad)).small Ae;have TM:=A8 (fun W=>Iz (a:=DH ws j) (x:=(Dl rows j).2) k1 (by unfold Dy;omega) D W);have PL:=A8 (fun W=>KM (Eh G) (Eh D) (by rw [Ee,Ee,<-r];exact O) W);rw [Ee,Ee,<-r] at PL;clear r O G D hvb k1 k2;generalize I (DF ws (fun i=>(Dl rows i).2) j)=out1 at *
      obtain ⟨out2,t⟩:∃ x,x=I (DF ws (fun i=>(Dl rows i).2) (j+1)):=⟨_,rfl⟩;rw [<-t] at PL;replace t:=A8 t;generalize I (zS (DH ws j)*(Dl rows j).2)=pr at *
      generalize DH ws j=s at *
      generalize (Dl rows j).2=z at *
      have hC:=A8 (show ∀ W,BL w [(w.heap.size,#[.int .i64 c,.slice (some ⟨b,off,none⟩) nr capr],27)] W->(W.cell? ⟨w.heap.size,1,none⟩=some (.slice (some ⟨b,off,none⟩) nr capr)/\W.cell? ⟨bw,ow+j,none⟩=some (.string s)/\W.cell? ⟨b,off+j*2+1,none⟩=some (.int .i64 z)) from fun W h=>⟨h.cell _ _ _ Ah 1,(h.below.cell (p:=⟨_,_,none⟩) N).trans xw,(h.below.cell (p:=⟨_,_,none⟩) hbr).trans c1⟩);clear c1 xw;go_upto_region 12 with fail;obtain ⟨y0,y1,y2⟩:=hC.out _ d;replace d:=d.drew;go_region_held3 (fun w'=>w'.cell? ⟨w.heap.size,1,none⟩=some (.slice (some ⟨b,off,none⟩) nr capr)/\w'.cell? ⟨bw,ow+j,none⟩=some (.string s)/\w'.cell? ⟨b,off+j*2+1,none⟩=some (.int .i64 z))
       (first | with_reducible exact hC.out _ d | go_keep)
       (first | (go_at_call 50;(with_reducible refine Calls.mono (TM.out _) ?_);rintro e w' ⟨rfl,hb⟩;replace d:=d.call hb;clear hb) | (go_at_call 49;(with_reducible refine Calls.mono (PL.out _) ?_);rintro e w' ⟨rfl,hb⟩;replace d:=d.call hb;clear hb))
      all_goals (clear y0 y1 y2)
      all_goals (
       go_wp2_with fail
       go_roundw
       case rel=>exact ⟨j+1,by rw [t.out],by go_num,Ad,d⟩
       case measure=>simp [intOf];omega)
     case neg =>
      have H:¬ (j:Int)<nr:=by omega
      obtain rfl:nr=j:=by omega
      have CV:=A8 (fun W=>Ro (a:=I (DF ws (fun i=>(Dl rows i).2) nr)) (Eh (y.out nr Ad)) W);rw [Ee] at CV;have hcv:=A8 (Sj (DF ws (fun i=>(Dl rows i).2) nr));generalize Lib.compareInt (DF ws (fun i=>(Dl rows i).2) nr) 0=cz at *
      generalize I (DF ws (fun i=>(Dl rows i).2) nr)=sv at *
      clear y;go_wp2_with fail;go_loopw [8] (fun o wr=>∃ k:Nat,o=.int .i64 k/\k<=c/\Hid (∀ i,i<k->0<=DF ws (fun j=>gi (Dl rows j).1 i) nr)/\BL w [(w.heap.size,#[.int .i64 c,.slice ar nr capr],27)] wr) (fun o _=>c-(intOf o).toNat);case atStart=>exact ⟨0,rfl,Ad,A8 (fun j hj=>absurd hj Ad),d⟩
      case round =>
       clear d;obtain ⟨k,rfl,hk,l,d⟩:=hrel;obtain ⟨x0,x1⟩:=d.c2 w.heap.size _ _ _ Ah;by_cases hk2:k<c;case neg =>
        have hkl:¬ (k:Int)<c:=by omega
        obtain rfl:c=k:=by omega
        have e1:=U.out l.out;subst e1;have hce:decide (cz<0)=decide (DF ws (fun i=>(Dl rows i).2) nr<0):=by rw [decide_eq_decide];exact hcv.out
        rw [<-hce];clear hce U X l;go_wp2_with fail;refine Calls.mono (CV.out _) ?_;rintro e w3 ⟨rfl,hb⟩;replace d:=d.call hb;go_wp2;go_ret;exact ⟨Dm (by simp [hcv.out]),d.below⟩
       case pos =>
        have hkl:(k:Int)<c:=by omega
        have hk0:(0:Int)<=k:=by omega
        have F:=X.out k hk2;have g:0<=DF ws (fun j=>gi (Dl rows j).1 k) nr->∀ i,i<k+1->0<=DF ws (fun j=>gi (Dl rows j).1 i) nr:=fun h i hi=>by
         by_cases e:i=k
         ·subst e;exact h
         ·exact l.out i Ad
        clear l;have hcg:Hid (∀ j,j<nr->-30000<=gi (Dl rows j).1 k/\gi (Dl rows j).1 k<=30000):=A8 (fun j hj=>PN (B:=30000) Ae (A.out j hj).2.1 k);have y:Hid (∀ q,q<=nr->Do (DF ws (fun i=>gi (Dl rows i).1 k) q)):=A8 (fun q hq=>sum_small (n:=q) (a:=fun j=>zS (DH ws j)) (f:=fun i=>gi (Dl rows i).1 k) Ad (fun j hj=>⟨(P.out j Ad).2,bd11 (by have:=hcg.out j Ad;show _<=gi (Dl rows j).1 k/\gi (Dl rows j).1 k<=_;omega)⟩));have I0:I (DF ws (fun i=>gi (Dl rows i).1 k) 0)=⟨#[48]⟩:=Je.symm;replace F:=A8 F;replace g:=A8 g;go_wp2_with fail;clear x0 x1;go_loopw [9,10] (fun x o wr=>∃ j:Nat,x=.string (I (DF ws (fun i=>gi (Dl rows i).1 k) j))/\o=.int .i64 j/\j<=nr/\BL w [(w.heap.size,#[.int .i64 c,.slice ar nr capr],27)] wr) (fun _ o _=>nr-(intOf o).toNat);case atStart=>exact ⟨0,by rw [I0],rfl,Ad,d⟩
        case round =>
         clear I0 d;obtain ⟨j,rfl,rfl,hj,d⟩:=hrel;by_cases m:j<nr;case neg =>
          have H:¬ (j:Int)<nr:=by omega
          obtain rfl:nr=j:=by omega
          have CW:=A8 (fun W=>Ro (a:=I (DF ws (fun i=>gi (Dl rows i).1 k) nr)) (Eh (y.out nr Ad)) W);rw [Ee] at CW;have R:=Sj (DF ws (fun i=>gi (Dl rows i).1 k) nr);generalize DF ws (fun i=>gi (Dl rows i).1 k) nr=zz at *
          generalize Lib.compareInt zz 0=cy at *
          generalize I zz=sy at *
          by_cases V:0<=zz
          ·have hcy:¬ cy<0:=fun e=>by have:=R.1 e;omega
           replace g:=A8 (g.out V);clear R V F;go_wp2_with fail;refine Calls.mono (CW.out _) ?_;rintro e w3 ⟨rfl,hb⟩;replace d:=d.call hb;go_wp2_with fail;go_roundw;case rel=>exact ⟨k+1,by go_num,Ad,g,d⟩
           case measure=>simp [intOf];omega
          ·have hcy:cy<0:=R.2 Ad
           replace F:=A8 (F.out Ad);clear R V g;go_wp2_with fail;refine Calls.mono (CW.out _) ?_;rintro e w3 ⟨rfl,hb⟩;replace d:=d.call hb;go_wp2;go_ret;exact ⟨Dm F.out.symm,d.below⟩
         case pos =>
          have H:(j:Int)<nr:=by omega
          have hj0:(0:Int)<=j:=by omega
          obtain ⟨bw,ow,ew,N,xw⟩:∃ b off,aw=some ⟨b,off,none⟩/\b<w.heap.size/\w.cell? ⟨b,off+j,none⟩=some (.string (DH ws j)):=by
           rcases HW.out with ⟨e,L⟩ | ⟨b,off,cap',e,h1,h2,h3,M⟩
           ·have:=v.out;rw [L] at this;simp at this;omega
           ·cases e
            have:=M j _ (FD (by rw [<-v.out];exact m));rw [AY] at this;exact ⟨b,off,rfl,h3,this⟩
          subst ew;obtain ⟨b,off,cv,ea,hbr,c0,hcs,c1⟩:∃ b off cv,ar=some ⟨b,off,none⟩/\b<w.heap.size/\w.cell? ⟨b,off+j*2,none⟩=some cv/\IE w cv (Dl rows j).1/\w.cell? ⟨b,off+j*2+1,none⟩=some (.int .i64 (Dl rows j).2):=by
           rcases HR.out with ⟨e,L⟩ | ⟨b,off,cap',e,h1,h2,h3,M⟩
           ·have:=u.out;rw [L] at this;simp at this;omega
           ·cases e
            obtain ⟨cv,c0,hcs,c1⟩:=M j _ (Fe (by rw [<-u.out];exact m));exact ⟨b,off,cv,rfl,h3,c0,hcs,c1⟩
          subst ea;clear c1;obtain ⟨k1,k2⟩:=P.out j m;have hgb:=hcg.out j m;have C:(Dl rows j).1.length=c:=by have:=(A.out j m).1;omega
          obtain ⟨bc,oc,cp,ec,hbc,xc⟩:∃ b off cap,cv=.slice (some ⟨b,off,none⟩) c cap/\b<w.heap.size/\w.cell? ⟨b,off+k,none⟩=some (.int .i64 (gi (Dl rows j).1 k)):=by
           rcases hcs with ⟨e,L⟩ | ⟨b,off,cap',e,h1,h2,h3,M⟩
           ·rw [L] at C;simp at C;omega
           ·rw [C] at e
            exact ⟨b,off,cap',e,h3,M k (by rw [C];exact hk2)⟩
          subst ec;clear hcs C;have r:DF ws (fun i=>gi (Dl rows i).1 k) (j+1)=DF ws (fun i=>gi (Dl rows i).1 k) j+zS (DH ws j)*gi (Dl rows j).1 k:=rfl;have O:=y.out (j+1) Ad;have G:=y.out j Ad;have D:Do (zS (DH ws j)*gi (Dl rows j).1 k):=(k2.mul (bd11 (x:=gi (Dl rows j).1 k) Ad)).small Ae;have TM:=A8 (fun W=>Iz (a:=DH ws j) (x:=gi (Dl rows j).1 k) k1 (by unfold Dy;omega) D W);have PL:=A8 (fun W=>KM (Eh G) (Eh D) (by rw [Ee,Ee,<-r];exact O) W);rw [Ee,Ee,<-r] at PL;have hze:=Np k1;have K:zS (DH ws j)=0->I (DF ws (fun i=>gi (Dl rows i).1 k) j)=I (DF ws (fun i=>gi (Dl rows i).1 k) (j+1)):=fun e=>by rw [r,e,Int.zero_mul,Cq]
          clear r O G D hgb k1 k2;generalize I (DF ws (fun i=>gi (Dl rows i).1 k) j)=out1 at *
          obtain ⟨out2,t⟩:∃ x,x=I (DF ws (fun i=>gi (Dl rows i).1 k) (j+1)):=⟨_,rfl⟩;rw [<-t] at PL K;replace t:=A8 t;generalize zS (DH ws j)=zj at *
          generalize DH ws j=s at *
          generalize gi (Dl rows j).1 k=fi at *
          generalize I (zj*fi)=pr at *
          have hC:=A8 (show ∀ W,BL w [(w.heap.size,#[.int .i64 c,.slice (some ⟨b,off,none⟩) nr capr],27)] W->(W.cell? ⟨w.heap.size,1,none⟩=some (.slice (some ⟨b,off,none⟩) nr capr)/\W.cell? ⟨bw,ow+j,none⟩=some (.string s)/\W.cell? ⟨b,off+j*2,none⟩=some (.slice (some ⟨bc,oc,none⟩) c cp)/\W.cell? ⟨bc,oc+k,none⟩=some (.int .i64 fi)) from fun W h=>⟨h.cell _ _ _ Ah 1,(h.below.cell (p:=⟨_,_,none⟩) N).trans xw,(h.below.cell (p:=⟨_,_,none⟩) hbr).trans c0,(h.below.cell (p:=⟨_,_,none⟩) hbc).trans xc⟩);clear c0 xc xw;obtain ⟨y0,y1,y2,y3⟩:=hC.out _ d;by_cases J:zj=0
          ·rw [AF J] at hze
           replace K:=A8 (K J);clear J;go_wp2_with fail;go_roundw;case rel=>exact ⟨j+1,by rw [K.out,t.out],by go_num,Ad,d⟩
           case measure=>simp [intOf];omega
          ·rw [Al J] at hze
           clear K J;go_upto_region 21 with fail;replace d:=d.drew;go_region_held3 (fun w'=>w'.cell? ⟨w.heap.size,1,none⟩=some (.slice (some ⟨b,off,none⟩) nr capr)/\w'.cell? ⟨bw,ow+j,none⟩=some (.string s)/\w'.cell? ⟨b,off+j*2,none⟩=some (.slice (some ⟨bc,oc,none⟩) c cp)/\w'.cell? ⟨bc,oc+k,none⟩=some (.int .i64 fi))
            (first | with_reducible exact hC.out _ d | go_keep)
            (first | (go_at_call 50;(with_reducible refine Calls.mono (TM.out _) ?_);rintro e w' ⟨rfl,hb⟩;replace d:=d.call hb;clear hb) | (go_at_call 49;(with_reducible refine Calls.mono (PL.out _) ?_);rintro e w' ⟨rfl,hb⟩;replace d:=d.call hb;clear hb))
           all_goals (clear y0 y1 y2 y3)
           all_goals (
            go_wp2_with fail
            go_roundw
            case rel=>exact ⟨j+1,by rw [t.out],by go_num,Ad,d⟩
            case measure=>simp [intOf];omega)
end
section
open Go.RowKit
structure DG.Ok (x:DG) (n:Nat):Prop where
 p:1<=x.p/\x.p<=1000
 q:1<=x.q/\x.q<=1000
 a:∀ i,i<n->DK (DH x.na i)=true/\Bd 100 (zS (DH x.na i))/\0<=zS (DH x.na i)
 b:∀ i,i<n->DK (DH x.nb i)=true/\Bd 100 (zS (DH x.nb i))/\0<=zS (DH x.nb i)
 da:DK x.da=true/\Bd 100 (zS x.da)/\0<zS x.da
 db:DK x.db=true/\Bd 100 (zS x.db)/\0<zS x.db
theorem bd4 {p:Int} (h:0<=p/\p<=2000):Bd 4 p:=by unfold Bd;omega
theorem Kg {p:Int} {a b:ByteArray} (hp:0<=p/\p<=2000) (ha:Bd 100 (zS a)):Fv [I p,a,b] 3=decide (Do (p*zS a*zS b)):=by
 rw [H7,H7,H7];have f:Fv [I p,a,b] 0=true:=rfl;have c:EV [I p,a,b] 1=p:=by show 1*zS (I p)=p;rw [Ee,B7]
 have d:EV [I p,a,b] 2=p*zS a:=by show EV [I p,a,b] 1*zS a=_;rw [c]
 have e:EV [I p,a,b] 3=p*zS a*zS b:=by show EV [I p,a,b] 2*zS b=_;rw [d]
 show (((Fv [I p,a,b] 0&&decide (Do (EV [I p,a,b] 1)))&&decide (Do (EV [I p,a,b] 2)))&&decide (Do (EV [I p,a,b] 3)))=_;rw [f,c,d,e,AF ((bd4 hp).small Ae),AF (((bd4 hp).mul ha).small Ae)];rfl
theorem Rq (l:List ByteArray) (n:Nat):FK true l n=Fv l n:=rfl
theorem DG.flag_zero (x:DG) {n:Nat} (h:x.Ok n):x.flag 0=decide (Do (zS x.da*zS x.db*(x.p+x.q))):=by
 show FK true [I (x.p+x.q),x.da,x.db] 3=_;have:=h.p;have:=h.q;rw [Rq,Kg Ad h.da.2.1,AL,AM (x.p+x.q)]
theorem DG.flag_next (x:DG) {n i:Nat} (h:x.Ok n) (d:i<n) (e:x.flag i=true):x.flag (i+1)=(decide (Do (zS (DH x.na i)*zS x.db*x.p))&&decide (Do (zS (DH x.nb i)*zS x.da*x.q))&&decide (Do (zS (DH x.na i)*zS x.db*x.p+zS (DH x.nb i)*zS x.da*x.q))):=by
 have hp:=h.p;have hq:=h.q;have m (a b c:Int):a*b*c=c*a*b:=by rw [AM,<-AL]
 rw [m,m (zS (DH x.nb i))];show (FK (FK (x.flag i) [I x.p,DH x.na i,x.db] 3) [I x.q,DH x.nb i,x.da] 3&&decide (Do (x.z (x.flag i) i)))=_;unfold DG.z;rw [e,Rq,Kg Ad (h.a i d).2.1];by_cases h1:Do (x.p*zS (DH x.na i)*zS x.db)
 ·rw [AF h1,Rq,Kg Ad (h.b i d).2.1]
  by_cases h2:Do (x.q*zS (DH x.nb i)*zS x.da)
  ·rw [AF h2,Ia (by rw [Kg Ad (h.a i d).2.1];exact AF h1),Ia (by rw [Kg Ad (h.b i d).2.1];exact AF h2),Ee,Ee,prod3,prod3,Ee,Ee]
   rfl
  ·rw [Al h2];rfl
 ·rw [Al h1];rfl
theorem DG.num_zero (x:DG):zS x.da*zS x.db*(x.p+x.q)=x.num 0:=by
 show _=(x.p+x.q)*zS x.da*zS x.db;rw [AM,<-AL]
theorem DG.num_next (x:DG) (i:Nat):zS (DH x.na i)*zS x.db*x.p+zS (DH x.nb i)*zS x.da*x.q=x.num (i+1):=by
 have m (a b c:Int):a*b*c=c*a*b:=by rw [AM,<-AL]
 rw [m,m (zS (DH x.nb i))];rfl
theorem DG.num_pos (x:DG) {n:Nat} (h:x.Ok n):0<x.num 0:=by
 have:=h.p;have:=h.q;exact BS (BS (show 0<x.p+x.q by omega) h.da.2.2) h.db.2.2
theorem DG.num_nonneg (x:DG) {n:Nat} (h:x.Ok n):∀ {i},i<=n->0<=x.num i
 | 0,_=>CY (x.num_pos h)
 | i+1,hi=>by
  have:=h.p;have:=h.q;exact Int.add_nonneg (BZ (BZ Ad (h.a i Ad).2.2) (by have:=h.db.2.2;omega)) (BZ (BZ Ad (h.b i Ad).2.2) (by have:=h.da.2.2;omega))
theorem DG.gcd_one (x:DG) {n:Nat} (h:x.Ok n):x.gcd 1=x.num 0:=by
 show EM 0 (x.num 0)=_;have:=x.num_pos h;unfold EM;rw [Int.zero_gcd];omega
theorem DG.gcd_le (x:DG) {n:Nat} (h:x.Ok n):∀ k,x.gcd (k+1)<=x.num 0
 | 0=>by rw [x.gcd_one h];exact CU _
 | k+1=>by
  have h1:=x.gcd_le h k;have h2:=x.gcd_pos (by have:=x.num_pos h;omega) k;refine AK ?_ h1;show EM (x.gcd (k+1)) (x.num (k+1))<=_;unfold EM;exact Int.gcd_le_left _ h2
theorem DG.quo_pos (x:DG) {n:Nat} (h:x.Ok n):0<x.quo 0:=by
 have h1:=x.gcd_le h x.na.length;have h2:=x.gcd_pos (by have:=x.num_pos h;omega) x.na.length;exact Int.le_ediv_of_mul_le h2 Ad
theorem DG.quo_nonneg (x:DG) {n i:Nat} (h:x.Ok n) (a:i<=n):0<=x.quo i:=Ct (x.num_nonneg h a) (CY (x.gcd_pos (by have:=x.num_pos h;omega) x.na.length))
theorem DG.quo_small (x:DG) {n i:Nat} (h:x.Ok n) (a:i<=n) (hs:Do (x.num i)):Do (x.quo i):=by
 have h1:=x.num_nonneg h a;have h2:=x.quo_nonneg h a;have h3:x.quo i<=x.num i:=CA _ h1;unfold Do at *
 omega
theorem DG.formed (x:DG) {n:Nat} (h:x.Ok n) (hn:n<=64) (hs:∀ i,i<=n->Do (x.num i)):DX ((List.range n).map fun j=>I (x.quo (j+1))) (I (x.quo 0))=(List.range (n+1)).all (fun i=>decide (Bd 100 (x.quo i))):=by
 unfold DX;rw [Rp (x.quo_small h Ad (hs 0 Ad)),Ee,AF (x.quo_pos h),AF (show ((List.range n).map fun j=>I (x.quo (j+1))).length<=64 by simp;exact hn),Bool.and_true,AS];have hb (j:Nat) (hj:j<n):GN (I (x.quo (j+1)))=!decide (Bd 100 (x.quo (j+1))):=by
  unfold GN;rw [Rp (x.quo_small h Ad (hs _ Ad)),Ee,Al (show ¬ x.quo (j+1)<0 by have:=x.quo_nonneg h (show j+1<=n by omega);omega),Bool.or_false]
 rw [Bool.eq_iff_iff,Ap,Ar,As,AE];constructor
 ·rintro ⟨h1,h2⟩ i c
  rcases i with _ | i
  ·exact h2
  ·have a:i<n:=by have:=AB.1 c;omega
   have:=h1 _ (AV.2 ⟨i,AB.2 a,rfl⟩);rw [hb i a] at this;simpa using this
 ·intro h1
  refine ⟨fun s b=>?_,h1 0 (AB.2 Ad)⟩;obtain ⟨j,hj,rfl⟩:=AV.1 b;rw [hb j (AB.1 hj),h1 (j+1) (AB.2 (by have:=AB.1 hj;omega))];simp
theorem DG.ok_of {x:DG} (h:Gk x=true):x.Ok x.na.length/\x.na.length=x.nb.length/\x.na.length<=64:=by
 unfold Gk at h;simp only [Ap,Aq] at h;obtain ⟨⟨⟨⟨h1,h2⟩,h3⟩,e⟩,h5⟩:=h;obtain ⟨b,a,c,f,d⟩:=Ep h1;obtain ⟨g,t2,t3,t4,t5⟩:=Ep h2;exact ⟨⟨e,h5,a,fun i j=>t2 i Ad,⟨c,f,d⟩,⟨t3,t4,t5⟩⟩,Ad,b⟩
end
section
open Go.RowKit
attribute [local go_sem] Oper.semAt_some
def Qe (z:Int):ByteArray:=if Do z then I z else ⟨#[48]⟩
theorem rmul_B {a b:ByteArray} (ha:DK a=true) (hb:DK b=true):∃ (s:ByteArray) (e:Int),(∀ W,Calls Tryz.prog 51 #[.string a,.string b] W (DR W (.tuple #[.string s,.int .i64 e])))/\(Do (zS a*zS b)->s=I (zS a*zS b)/\e=0)/\(¬ Do (zS a*zS b)->(e==0)=false):=by
 have h:=fun W=>Pu a b (long (EG ha)) (long (EG hb)) W
 rw [ha,hb,AX] at h;by_cases hp:Do (zS a*zS b)
 ·exact ⟨_,0,fun W=>Mm ha hb hp W,fun _=>⟨rfl,rfl⟩,fun h=>absurd hp h⟩
 ·rw [LO hp] at h
  exact ⟨_,30,fun W=>(h W).mono fun e w' h=>by
   obtain ⟨⟨r,h1,h2⟩,hb⟩:=h;exact ⟨by rw [h1,h2],hb⟩,fun h=>absurd h hp,fun _=>rfl⟩
theorem radd_B {a b:ByteArray} (ha:DK a=true) (hb:DK b=true):∃ (s:ByteArray) (e:Int),(∀ W,Calls Tryz.prog 58 #[.string a,.string b] W (DR W (.tuple #[.string s,.int .i64 e])))/\(Do (zS a+zS b)->s=I (zS a+zS b)/\e=0)/\(¬ Do (zS a+zS b)->(e==0)=false):=by
 have h:=fun W=>Pr a b (long (EG ha)) (long (EG hb)) W
 rw [ha,hb,AX] at h;by_cases hp:Do (zS a+zS b)
 ·exact ⟨_,0,fun W=>Vk ha hb hp W,fun _=>⟨rfl,rfl⟩,fun h=>absurd hp h⟩
 ·rw [LO hp] at h
  exact ⟨_,30,fun W=>(h W).mono fun e w' h=>by
   obtain ⟨⟨r,h1,h2⟩,hb⟩:=h;exact ⟨by rw [h1,h2],hb⟩,fun h=>absurd h hp,fun _=>rfl⟩
theorem Vm (z:Int):DK (Qe z)=true:=by
 unfold Qe;split
 ·exact Eh ‹_›
 ·rw [Je];exact Eh Ae
theorem KN {a b c:ByteArray} (ha:DK a=true) (hb:DK b=true) (hc:DK c=true) (h1:Do (zS a*zS b)) (w:World):Calls Tryz.prog 57 #[.string a,.string b,.string c] w (DR w (.tuple #[.string (Qe (zS a*zS b*zS c)),.bool (decide (Do (zS a*zS b*zS c)))])):=by
 have g:=A8 (fun W=>Mm ha hb h1 W);obtain ⟨s,e,h2,h3,f⟩:=rmul_B (a:=I (zS a*zS b)) (Eh h1) hc;rw [Ee] at h3 f;have h:=A8 h2;clear h2;by_cases hs:Do (zS a*zS b*zS c)
 ·obtain ⟨rfl,rfl⟩:=h3 hs
  rw [show Qe (zS a*zS b*zS c)=I (zS a*zS b*zS c) from AU hs,AF hs];clear f hs;generalize I (zS a*zS b)=r1 at *
  generalize I (zS a*zS b*zS c)=r2 at *
  go_enter Tryz.func57,Tryz.ntmps57;go_wp2_with fail;refine Calls.mono (g.out _) ?_;rintro e j ⟨rfl,hb⟩;go_wp2_with fail;refine Calls.mono (h.out _) ?_;rintro e k ⟨rfl,d⟩;go_wp2;exact bodyPost_ret (v:=.tuple #[.string r2,.bool true]) (by simp [results,Tryz.results57,go_sem]) rfl ⟨rfl,hb.trans (d.mono hb.size)⟩
 ·have he:=f hs
  rw [show Qe (zS a*zS b*zS c)=⟨#[48]⟩ from AP hs,Al hs];clear h3 f hs;have i:¬ e=0:=by simpa using he
  generalize I (zS a*zS b)=r1 at *
  go_enter Tryz.func57,Tryz.ntmps57;go_wp2_with fail;refine Calls.mono (g.out _) ?_;rintro e j ⟨rfl,hb⟩;go_wp2_with fail;refine Calls.mono (h.out _) ?_;rintro e k ⟨rfl,d⟩;go_wp2;exact bodyPost_ret (v:=.tuple #[.string ⟨#[48]⟩,.bool false]) (by simp [results,Tryz.results57,go_sem]) rfl ⟨rfl,hb.trans (d.mono hb.size)⟩
structure DG.Sz (x:DG):Prop where
 na:∀ s∈x.na,s.size<=201
 nb:∀ s∈x.nb,s.size<=201
 da:x.da.size<=201
 db:x.db.size<=201
theorem Vn (x:DG) (va vb:Value) (w:World) (hA:DS w va x.na) (c:DS w vb x.nb) (M:x.Sz) (h:Gk x=false) :
  Calls Tryz.prog 20 #[.agg #[va,.string x.da],.agg #[vb,.string x.db],.int .i64 x.p,.int .i64 x.q] w (DR w (.tuple #[.agg #[.slice none 0 0,.string ⟨#[]⟩],.int .i64 60])):=by
 obtain ⟨p,q,na,nb,da,db⟩:=x
 obtain ⟨z1,z2,z3,z4⟩:=M
 dsimp only at hA c z1 z2 z3 z4 |-
 unfold Gk at h
 dsimp only at h
 obtain ⟨aa,ca,rfl⟩:=hA.shape
 obtain ⟨ab,cb,rfl⟩:=c.shape
 have B:=A8 hA
 have G:=A8 c
 have FA:=A8 (fun W (K:DS W (.slice aa na.length ca) na)=>EJ _ na da W K z3 z1)
 have FB:=A8 (fun W (K:DS W (.slice ab nb.length cb) nb)=>EJ _ nb db W K z4 z2)
 clear hA c z1 z2 z3 z4
 generalize DX na da=b1 at *
 generalize DX nb db=b2 at *
 generalize na.length=n at *
 generalize nb.length=m at *
 cases b1
 ·clear h
  skip;obtain ⟨D,s,r,z1⟩:=(BL.start w).add' #[.slice aa n ca,.string da] 30;obtain ⟨F,g,o,z2⟩:=r.add' #[.slice ab m cb,.string db] 30;obtain ⟨f,i,a,z3⟩:=o.add' #[.slice none 0 0,.string ⟨#[]⟩] 30;rw [z2,z1] at a;replace a:BL w [(w.heap.size+2,#[.slice none 0 0,.string ⟨#[]⟩],30),(w.heap.size+1,#[.slice ab m cb,.string db],30),(w.heap.size,#[.slice aa n ca,.string da],30)] f:=a;have k:f=((w.alloc (.cells #[.slice aa n ca,.string da] 30)).alloc (.cells #[.slice ab m cb,.string db] 30)).alloc (.cells #[.slice none 0 0,.string ⟨#[]⟩] 30):=by rw [i,g,s]
  have zz:=A8 (show f.heap.size=w.heap.size+3 by rw [z3,z2,z1]);clear s g i r o z1 z2 z3;obtain ⟨x0,x1⟩:=a.c2 w.heap.size _ _ _ Aj;obtain ⟨y0,d⟩:=a.c2 (w.heap.size+1) _ _ _ Ai;go_enter Tryz.func20,Tryz.ntmps20;go_upto_region 1 with fail;rw [<-k];clear k;go_wp2_with fail;refine Calls.mono (FA.out _ (B.out.below a.below)) ?_;rintro e H ⟨rfl,hb⟩;replace a:=a.call hb;have j:=A8 hb.size;clear x0 x1 y0 d hb;obtain ⟨x0,x1⟩:=a.c2 w.heap.size _ _ _ Aj;obtain ⟨y0,d⟩:=a.c2 (w.heap.size+1) _ _ _ Ai;skip;obtain ⟨r0,r1⟩:=a.c2 (w.heap.size+2) _ _ _ Ah;have c:=a.blks _ Ah;have f0:=c.frozen 0;have z:=c.frozen 1;obtain ⟨⟨l,k1⟩,b,-⟩:=DD c (by show w.heap.size<=w.heap.size+2;omega) a.below (.slice none 0 0) (.string ⟨#[]⟩);have b:=A8 b;clear a c;dsimp only at f0 z l k1;go_wp2;exact bodyPost_ret (v:=.tuple #[.agg #[.slice none 0 0,.string ⟨#[]⟩],.int .i64 60]) (by simp [results,Tryz.results20,go_sem,l,k1]) rfl ⟨rfl,b.out⟩
 cases b2
 ·clear h
  skip;obtain ⟨D,s,r,z1⟩:=(BL.start w).add' #[.slice aa n ca,.string da] 30;obtain ⟨F,g,o,z2⟩:=r.add' #[.slice ab m cb,.string db] 30;obtain ⟨f,i,a,z3⟩:=o.add' #[.slice none 0 0,.string ⟨#[]⟩] 30;rw [z2,z1] at a;replace a:BL w [(w.heap.size+2,#[.slice none 0 0,.string ⟨#[]⟩],30),(w.heap.size+1,#[.slice ab m cb,.string db],30),(w.heap.size,#[.slice aa n ca,.string da],30)] f:=a;have k:f=((w.alloc (.cells #[.slice aa n ca,.string da] 30)).alloc (.cells #[.slice ab m cb,.string db] 30)).alloc (.cells #[.slice none 0 0,.string ⟨#[]⟩] 30):=by rw [i,g,s]
  have zz:=A8 (show f.heap.size=w.heap.size+3 by rw [z3,z2,z1]);clear s g i r o z1 z2 z3;obtain ⟨x0,x1⟩:=a.c2 w.heap.size _ _ _ Aj;obtain ⟨y0,d⟩:=a.c2 (w.heap.size+1) _ _ _ Ai;go_enter Tryz.func20,Tryz.ntmps20;go_upto_region 1 with fail;rw [<-k];clear k;go_wp2_with fail;refine Calls.mono (FA.out _ (B.out.below a.below)) ?_;rintro e H ⟨rfl,hb⟩;replace a:=a.call hb;have j:=A8 hb.size;clear x0 x1 y0 d hb;obtain ⟨x0,x1⟩:=a.c2 w.heap.size _ _ _ Aj;obtain ⟨y0,d⟩:=a.c2 (w.heap.size+1) _ _ _ Ai;go_wp2_with fail;refine Calls.mono (FB.out _ (G.out.below a.below)) ?_;rintro e J ⟨rfl,hb⟩;replace a:=a.call hb;have t:=A8 hb.size;clear x0 x1 y0 d hb;obtain ⟨x0,x1⟩:=a.c2 w.heap.size _ _ _ Aj;obtain ⟨y0,d⟩:=a.c2 (w.heap.size+1) _ _ _ Ai;skip;obtain ⟨r0,r1⟩:=a.c2 (w.heap.size+2) _ _ _ Ah;have c:=a.blks _ Ah;have f0:=c.frozen 0;have z:=c.frozen 1;obtain ⟨⟨l,k1⟩,b,-⟩:=DD c (by show w.heap.size<=w.heap.size+2;omega) a.below (.slice none 0 0) (.string ⟨#[]⟩);have b:=A8 b;clear a c;dsimp only at f0 z l k1;go_wp2;exact bodyPost_ret (v:=.tuple #[.agg #[.slice none 0 0,.string ⟨#[]⟩],.int .i64 60]) (by simp [results,Tryz.results20,go_sem,l,k1]) rfl ⟨rfl,b.out⟩
 by_cases I:(n:Int)=m
 case neg =>
  clear h;skip;obtain ⟨D,s,r,z1⟩:=(BL.start w).add' #[.slice aa n ca,.string da] 30;obtain ⟨F,g,o,z2⟩:=r.add' #[.slice ab m cb,.string db] 30;obtain ⟨f,i,a,z3⟩:=o.add' #[.slice none 0 0,.string ⟨#[]⟩] 30;rw [z2,z1] at a;replace a:BL w [(w.heap.size+2,#[.slice none 0 0,.string ⟨#[]⟩],30),(w.heap.size+1,#[.slice ab m cb,.string db],30),(w.heap.size,#[.slice aa n ca,.string da],30)] f:=a;have k:f=((w.alloc (.cells #[.slice aa n ca,.string da] 30)).alloc (.cells #[.slice ab m cb,.string db] 30)).alloc (.cells #[.slice none 0 0,.string ⟨#[]⟩] 30):=by rw [i,g,s]
  have zz:=A8 (show f.heap.size=w.heap.size+3 by rw [z3,z2,z1]);clear s g i r o z1 z2 z3;obtain ⟨x0,x1⟩:=a.c2 w.heap.size _ _ _ Aj;obtain ⟨y0,d⟩:=a.c2 (w.heap.size+1) _ _ _ Ai;go_enter Tryz.func20,Tryz.ntmps20;go_upto_region 1 with fail;rw [<-k];clear k;go_wp2_with fail;refine Calls.mono (FA.out _ (B.out.below a.below)) ?_;rintro e H ⟨rfl,hb⟩;replace a:=a.call hb;have j:=A8 hb.size;clear x0 x1 y0 d hb;obtain ⟨x0,x1⟩:=a.c2 w.heap.size _ _ _ Aj;obtain ⟨y0,d⟩:=a.c2 (w.heap.size+1) _ _ _ Ai;go_wp2_with fail;refine Calls.mono (FB.out _ (G.out.below a.below)) ?_;rintro e J ⟨rfl,hb⟩;replace a:=a.call hb;have t:=A8 hb.size;clear x0 x1 y0 d hb;obtain ⟨x0,x1⟩:=a.c2 w.heap.size _ _ _ Aj;obtain ⟨y0,d⟩:=a.c2 (w.heap.size+1) _ _ _ Ai;skip;obtain ⟨r0,r1⟩:=a.c2 (w.heap.size+2) _ _ _ Ah;have c:=a.blks _ Ah;have f0:=c.frozen 0;have z:=c.frozen 1;obtain ⟨⟨l,k1⟩,b,-⟩:=DD c (by show w.heap.size<=w.heap.size+2;omega) a.below (.slice none 0 0) (.string ⟨#[]⟩);have b:=A8 b;clear a c;dsimp only at f0 z l k1;go_wp2;exact bodyPost_ret (v:=.tuple #[.agg #[.slice none 0 0,.string ⟨#[]⟩],.int .i64 60]) (by simp [results,Tryz.results20,go_sem,l,k1]) rfl ⟨rfl,b.out⟩
 by_cases hp:1<=p/\p<=1000
 case neg =>
  have u:(decide (1<=p)&&decide (p<=1000))=false:=by simp;omega
  have y:=Gz p 1 1000;rw [u] at y;replace y:=A8 y;clear h hp u;skip;obtain ⟨D,s,r,z1⟩:=(BL.start w).add' #[.slice aa n ca,.string da] 30;obtain ⟨F,g,o,z2⟩:=r.add' #[.slice ab m cb,.string db] 30;obtain ⟨f,i,a,z3⟩:=o.add' #[.slice none 0 0,.string ⟨#[]⟩] 30;rw [z2,z1] at a;replace a:BL w [(w.heap.size+2,#[.slice none 0 0,.string ⟨#[]⟩],30),(w.heap.size+1,#[.slice ab m cb,.string db],30),(w.heap.size,#[.slice aa n ca,.string da],30)] f:=a;have k:f=((w.alloc (.cells #[.slice aa n ca,.string da] 30)).alloc (.cells #[.slice ab m cb,.string db] 30)).alloc (.cells #[.slice none 0 0,.string ⟨#[]⟩] 30):=by rw [i,g,s]
  have zz:=A8 (show f.heap.size=w.heap.size+3 by rw [z3,z2,z1]);clear s g i r o z1 z2 z3;obtain ⟨x0,x1⟩:=a.c2 w.heap.size _ _ _ Aj;obtain ⟨y0,d⟩:=a.c2 (w.heap.size+1) _ _ _ Ai;go_enter Tryz.func20,Tryz.ntmps20;go_upto_region 1 with fail;rw [<-k];clear k;go_wp2_with fail;refine Calls.mono (FA.out _ (B.out.below a.below)) ?_;rintro e H ⟨rfl,hb⟩;replace a:=a.call hb;have j:=A8 hb.size;clear x0 x1 y0 d hb;obtain ⟨x0,x1⟩:=a.c2 w.heap.size _ _ _ Aj;obtain ⟨y0,d⟩:=a.c2 (w.heap.size+1) _ _ _ Ai;go_wp2_with fail;refine Calls.mono (FB.out _ (G.out.below a.below)) ?_;rintro e J ⟨rfl,hb⟩;replace a:=a.call hb;have t:=A8 hb.size;clear x0 x1 y0 d hb;obtain ⟨x0,x1⟩:=a.c2 w.heap.size _ _ _ Aj;obtain ⟨y0,d⟩:=a.c2 (w.heap.size+1) _ _ _ Ai;go_wp2_with fail;refine Calls.mono (y.out _) ?_;rintro e N ⟨rfl,hb⟩;replace a:=a.call hb;have C:=A8 hb.size;clear x0 x1 y0 d hb;obtain ⟨x0,x1⟩:=a.c2 w.heap.size _ _ _ Aj;obtain ⟨y0,d⟩:=a.c2 (w.heap.size+1) _ _ _ Ai;skip;obtain ⟨r0,r1⟩:=a.c2 (w.heap.size+2) _ _ _ Ah;have c:=a.blks _ Ah;have f0:=c.frozen 0;have z:=c.frozen 1;obtain ⟨⟨l,k1⟩,b,-⟩:=DD c (by show w.heap.size<=w.heap.size+2;omega) a.below (.slice none 0 0) (.string ⟨#[]⟩);have b:=A8 b;clear a c;dsimp only at f0 z l k1;go_wp2;exact bodyPost_ret (v:=.tuple #[.agg #[.slice none 0 0,.string ⟨#[]⟩],.int .i64 60]) (by simp [results,Tryz.results20,go_sem,l,k1]) rfl ⟨rfl,b.out⟩
 have hq:¬ (1<=q/\q<=1000):=fun hq=>by simp [I,hp,hq] at h
 have u:(decide (1<=p)&&decide (p<=1000))=true:=by simp [hp]
 have A:(decide (1<=q)&&decide (q<=1000))=false:=by simp;omega
 have y:=Gz p 1 1000
 have E:=Gz q 1 1000
 rw [u] at y
 rw [A] at E
 replace y:=A8 y
 replace E:=A8 E
 clear h hp hq u A
 skip
 obtain ⟨D,s,r,z1⟩:=(BL.start w).add' #[.slice aa n ca,.string da] 30
 obtain ⟨F,g,o,z2⟩:=r.add' #[.slice ab m cb,.string db] 30
 obtain ⟨f,i,a,z3⟩:=o.add' #[.slice none 0 0,.string ⟨#[]⟩] 30
 rw [z2,z1] at a
 replace a:BL w [(w.heap.size+2,#[.slice none 0 0,.string ⟨#[]⟩],30),(w.heap.size+1,#[.slice ab m cb,.string db],30),(w.heap.size,#[.slice aa n ca,.string da],30)] f:=a
 have k:f=((w.alloc (.cells #[.slice aa n ca,.string da] 30)).alloc (.cells #[.slice ab m cb,.string db] 30)).alloc (.cells #[.slice none 0 0,.string ⟨#[]⟩] 30):=by rw [i,g,s]
 have zz:=A8 (show f.heap.size=w.heap.size+3 by rw [z3,z2,z1])
 clear s g i r o z1 z2 z3
 obtain ⟨x0,x1⟩:=a.c2 w.heap.size _ _ _ Aj
 obtain ⟨y0,d⟩:=a.c2 (w.heap.size+1) _ _ _ Ai
 go_enter Tryz.func20,Tryz.ntmps20
 go_upto_region 1 with fail
 rw [<-k]
 clear k
 go_wp2_with fail
 refine Calls.mono (FA.out _ (B.out.below a.below)) ?_
 rintro e H ⟨rfl,hb⟩
 replace a:=a.call hb
 have j:=A8 hb.size
 clear x0 x1 y0 d hb
 obtain ⟨x0,x1⟩:=a.c2 w.heap.size _ _ _ Aj
 obtain ⟨y0,d⟩:=a.c2 (w.heap.size+1) _ _ _ Ai
 go_wp2_with fail
 refine Calls.mono (FB.out _ (G.out.below a.below)) ?_
 rintro e J ⟨rfl,hb⟩
 replace a:=a.call hb
 have t:=A8 hb.size
 clear x0 x1 y0 d hb
 obtain ⟨x0,x1⟩:=a.c2 w.heap.size _ _ _ Aj
 obtain ⟨y0,d⟩:=a.c2 (w.heap.size+1) _ _ _ Ai
 go_wp2_with fail
 refine Calls.mono (y.out _) ?_
 rintro e N ⟨rfl,hb⟩
 replace a:=a.call hb
 have C:=A8 hb.size
 clear x0 x1 y0 d hb
 obtain ⟨x0,x1⟩:=a.c2 w.heap.size _ _ _ Aj
 obtain ⟨y0,d⟩:=a.c2 (w.heap.size+1) _ _ _ Ai
 go_wp2_with fail
 refine Calls.mono (E.out _) ?_
 rintro e O ⟨rfl,hb⟩
 replace a:=a.call hb
 have L:=A8 hb.size
 clear x0 x1 y0 d hb
 obtain ⟨x0,x1⟩:=a.c2 w.heap.size _ _ _ Aj
 obtain ⟨y0,d⟩:=a.c2 (w.heap.size+1) _ _ _ Ai
 skip
 obtain ⟨r0,r1⟩:=a.c2 (w.heap.size+2) _ _ _ Ah
 have c:=a.blks _ Ah
 have f0:=c.frozen 0
 have z:=c.frozen 1
 obtain ⟨⟨l,k1⟩,b,-⟩:=DD c (by show w.heap.size<=w.heap.size+2;omega) a.below (.slice none 0 0) (.string ⟨#[]⟩)
 have b:=A8 b
 clear a c
 dsimp only at f0 z l k1
 go_wp2
 exact bodyPost_ret (v:=.tuple #[.agg #[.slice none 0 0,.string ⟨#[]⟩],.int .i64 60]) (by simp [results,Tryz.results20,go_sem,l,k1]) rfl ⟨rfl,b.out⟩
theorem rdiv_T {a b:ByteArray} (ha:DK a=true) (hb:DK b=true) (h0:zS b≠0) (W:World):Calls Tryz.prog 60 #[.string a,.string b] W (DR W (.tuple #[.string (I (zS a / zS b)),.string (I (zS a % zS b)),.int .i64 0])):=by
 have:=UG a b (long (EG ha)) (long (EG hb)) W;rw [ha,hb] at this;unfold GF at this;rw [AU (by simpa using h0)] at this;exact this.mono fun e w' h=>by
  obtain ⟨⟨r,h1,h2⟩,hb⟩:=h;exact ⟨by rw [h1,h2];rfl,hb⟩
theorem rgcd_T {a b:ByteArray} (ha:DK a=true) (hb:DK b=true) (hs:Do (EM (zS a) (zS b))) (W:World):Calls Tryz.prog 59 #[.string a,.string b] W (DR W (.tuple #[.string (I (EM (zS a) (zS b))),.int .i64 0])):=by
 have:=UE a b (long (EG ha)) (long (EG hb)) W;rw [ha,hb,AX,F6 hs] at this;exact this.mono fun e w' h=>by
  obtain ⟨⟨r,h1,h2⟩,hb⟩:=h;exact ⟨by rw [h1,h2],hb⟩
def DG.nums (x:DG) (i:Nat):List Value:=((List.range i).map fun j=>I (x.num (j+1))).map Value.string
def DG.quos (x:DG) (i:Nat):List Value:=((List.range i).map fun j=>I (x.quo (j+1))).map Value.string
theorem DG.nums_succ (x:DG) (i:Nat):x.nums (i+1)=x.nums i++[.string (I (x.num (i+1)))]:=by unfold DG.nums;simp [AZ]
theorem DG.quos_succ (x:DG) (i:Nat):x.quos (i+1)=x.quos i++[.string (I (x.quo (i+1)))]:=by unfold DG.quos;simp [AZ]
theorem rmix_ok (x:DG) (va vb:Value) (w:World) (hA:DS w va x.na) (hB:DS w vb x.nb) (hz:x.Sz) (h:Gk x=true) :
  Calls Tryz.prog 20 #[.agg #[va,.string x.da],.agg #[vb,.string x.db],.int .i64 x.p,.int .i64 x.q] w (GP x w):=by
 obtain ⟨aa,ca,rfl⟩:=hA.shape
 obtain ⟨ab,cb,rfl⟩:=hB.shape
 have hmB:JG x=(x.flag x.na.length&&(List.range (x.na.length+1)).all (fun i=>decide (Bd 100 (x.quo i)))):=by unfold JG;rw [h,AS]
 obtain ⟨r,Q,h64⟩:=DG.ok_of h
 unfold Gk at h
 simp only [Ap,Aq] at h
 obtain ⟨⟨⟨⟨h1,h2⟩,h3⟩,h4⟩,h5⟩:=h
 have FA:=A8 (fun W (hW:DS W (.slice aa x.na.length ca) x.na)=>EJ _ x.na x.da W hW hz.da hz.na)
 have FB:=A8 (fun W (hW:DS W (.slice ab x.nb.length cb) x.nb)=>EJ _ x.nb x.db W hW hz.db hz.nb)
 have P3:=A8 (fun W=>Gz x.p 1 1000 W)
 have P4:=A8 (fun W=>Gz x.q 1 1000 W)
 rw [show (decide (1<=x.p)&&decide (x.p<=1000))=true by simp [h4]] at P3
 rw [show (decide (1<=x.q)&&decide (x.q<=1000))=true by simp [h5]] at P4
 rw [h1] at FA
 rw [h2] at FB
 have HA:=A8 hA
 have HB:=A8 hB
 clear hA hB h1 h2 h3 h4 h5 hz
 obtain ⟨n,hn⟩:∃ n,n=x.na.length:=⟨_,rfl⟩
 have C:Hid (∀ i,i<=n->x.flag i=false->JG x=false):=A8 (fun i hi e=>by
  rw [hmB];have:x.flag x.na.length=false:=by
   cases hc:x.flag x.na.length
   ·rfl
   ·rw [x.flag_le hc Ad] at e;cases e
  rw [this];rfl)
 rw [<-Q,<-hn] at FB HB
 rw [<-hn] at FA HA r h64
 have T:Hid (x.flag n=true->JG x=DX ((List.range n).map fun j=>I (x.quo (j+1))) (I (x.quo 0))):=A8 (fun e=>by
  rw [hmB,<-hn,e,AS,x.formed r h64 (fun i hi=>(x.good (x.flag_le e hi)).2)])
 have K:=A8 (show n=x.na.length/\n=x.nb.length from ⟨hn,Ad⟩)
 have X:(.slice aa x.na.length ca:Value)=.slice aa n ca:=by rw [hn]
 have hsl2:(.slice ab x.nb.length cb:Value)=.slice ab n cb:=by rw [hn,Q]
 rw [X,hsl2]
 clear hmB hn Q X hsl2
 replace r:=A8 r
 obtain ⟨V1,N,S1,z1⟩:=(Dp.start w).add' #[.slice aa n ca,.string x.da] 30
 obtain ⟨V2,F,S2,z2⟩:=S1.add' #[.slice ab n cb,.string x.db] 30
 obtain ⟨V3,e3,d,z3⟩:=S2.add' #[.slice none 0 0,.string ⟨#[]⟩] 30
 rw [z2,z1] at d
 replace d:=A8 (show Dp w [(w.heap.size+2,#[.slice none 0 0,.string ⟨#[]⟩],30),(w.heap.size+1,#[.slice ab n cb,.string x.db],30),(w.heap.size,#[.slice aa n ca,.string x.da],30)] [] V3 from d)
 have hV:V3=((w.alloc (.cells #[.slice aa n ca,.string x.da] 30)).alloc (.cells #[.slice ab n cb,.string x.db] 30)).alloc (.cells #[.slice none 0 0,.string ⟨#[]⟩] 30):=by rw [e3,F,N]
 clear N F e3 S1 S2 z1 z2 z3
 have x0:=(d.out.cell w.heap.size _ _ Aj 0).trans (rfl:_=some (Value.slice _ _ _))
 have x1:=(d.out.cell w.heap.size _ _ Aj 1).trans (rfl:_=some (Value.string _))
 have y0:=(d.out.cell (w.heap.size+1) _ _ Ai 0).trans (rfl:_=some (Value.slice _ _ _))
 have D:=(d.out.cell (w.heap.size+1) _ _ Ai 1).trans (rfl:_=some (Value.string _))
 go_enter Tryz.func20,Tryz.ntmps20
 go_upto_region 1 with fail
 rw [<-hV]
 clear hV
 go_wp2_with fail
 refine Calls.mono (FA.out _ (HA.out.below d.out.below)) ?_
 rintro e wk ⟨rfl,hb⟩
 replace d:=A8 (d.out.call hb)
 clear x0 x1 y0 D hb
 have x0:=(d.out.cell w.heap.size _ _ Aj 0).trans (rfl:_=some (Value.slice _ _ _))
 have x1:=(d.out.cell w.heap.size _ _ Aj 1).trans (rfl:_=some (Value.string _))
 have y0:=(d.out.cell (w.heap.size+1) _ _ Ai 0).trans (rfl:_=some (Value.slice _ _ _))
 have D:=(d.out.cell (w.heap.size+1) _ _ Ai 1).trans (rfl:_=some (Value.string _))
 go_wp2_with fail
 refine Calls.mono (FB.out _ (HB.out.below d.out.below)) ?_
 rintro e wk ⟨rfl,hb⟩
 replace d:=A8 (d.out.call hb)
 clear x0 x1 y0 D hb
 have x0:=(d.out.cell w.heap.size _ _ Aj 0).trans (rfl:_=some (Value.slice _ _ _))
 have x1:=(d.out.cell w.heap.size _ _ Aj 1).trans (rfl:_=some (Value.string _))
 have y0:=(d.out.cell (w.heap.size+1) _ _ Ai 0).trans (rfl:_=some (Value.slice _ _ _))
 have D:=(d.out.cell (w.heap.size+1) _ _ Ai 1).trans (rfl:_=some (Value.string _))
 go_wp2_with fail
 refine Calls.mono (P3.out _) ?_
 rintro e wk ⟨rfl,hb⟩
 replace d:=A8 (d.out.call hb)
 clear x0 x1 y0 D hb
 have x0:=(d.out.cell w.heap.size _ _ Aj 0).trans (rfl:_=some (Value.slice _ _ _))
 have x1:=(d.out.cell w.heap.size _ _ Aj 1).trans (rfl:_=some (Value.string _))
 have y0:=(d.out.cell (w.heap.size+1) _ _ Ai 0).trans (rfl:_=some (Value.slice _ _ _))
 have D:=(d.out.cell (w.heap.size+1) _ _ Ai 1).trans (rfl:_=some (Value.string _))
 go_wp2_with fail
 refine Calls.mono (P4.out _) ?_
 rintro e wk ⟨rfl,hb⟩
 replace d:=A8 (d.out.call hb)
 clear x0 x1 y0 D hb
 have x0:=(d.out.cell w.heap.size _ _ Aj 0).trans (rfl:_=some (Value.slice _ _ _))
 have x1:=(d.out.cell w.heap.size _ _ Aj 1).trans (rfl:_=some (Value.string _))
 have y0:=(d.out.cell (w.heap.size+1) _ _ Ai 0).trans (rfl:_=some (Value.slice _ _ _))
 have D:=(d.out.cell (w.heap.size+1) _ _ Ai 1).trans (rfl:_=some (Value.string _))
 obtain ⟨hpq1,hpq2⟩:(1<=x.p/\x.p<=1000)/\(1<=x.q/\x.q<=1000):=⟨r.out.p,r.out.q⟩
 have hw:IntKind.i64.wrap (x.p+x.q)=x.p+x.q:=BT _ Ad
 have FPQ:=A8 (fun W=>IX (x:=x.p+x.q) (by unfold Dy;omega) W)
 have FP:=A8 (fun W=>IX (x:=x.p) (by unfold Dy;omega) W)
 have FQ:=A8 (fun W=>IX (x:=x.q) (by unfold Dy;omega) W)
 have PPQ:=A8 (fun W=>KN r.out.da.1 r.out.db.1 (Eh ((bd4 (p:=x.p+x.q) Ad).small Ae)) ((r.out.da.2.1.mul r.out.db.2.1).small Ae) W)
 rw [Ee] at PPQ
 have hf0:=x.flag_zero r.out
 clear hpq1 hpq2
 obtain ⟨s0,M⟩:∃ s,s=Qe (zS x.da*zS x.db*(x.p+x.q)):=⟨_,rfl⟩
 rw [<-M,<-hf0] at PPQ
 replace M:=A8 M
 clear hf0
 generalize P:x.p+x.q=pq at *
 generalize I pq=tpq at *
 have hC:=A8 (show ∀ W,Dp w [(w.heap.size+2,#[.slice none 0 0,.string ⟨#[]⟩],30),(w.heap.size+1,#[.slice ab n cb,.string x.db],30),(w.heap.size,#[.slice aa n ca,.string x.da],30)] [] W->(W.cell? ⟨w.heap.size,1,none⟩=some (.string x.da)/\W.cell? ⟨w.heap.size+1,1,none⟩=some (.string x.db)) from fun W h=>⟨h.cell _ _ _ Aj 1,h.cell _ _ _ Ai 1⟩)
 go_upto_region 3 with fail
 clear x0 x1 y0 D
 obtain ⟨x0,x1⟩:=hC.out _ d.out
 replace d:=A8 d.out.drew
 go_region_held3 (fun w'=>w'.cell? ⟨w.heap.size,1,none⟩=some (.string x.da)/\w'.cell? ⟨w.heap.size+1,1,none⟩=some (.string x.db))
  (first | with_reducible exact hC.out _ d.out | go_keep)
  (first | (go_at_call 41;(with_reducible refine Calls.mono (FPQ.out _) ?_);rintro e w' ⟨rfl,hb⟩;replace d:=A8 (d.out.call hb);clear hb) | (go_at_call 57;(with_reducible refine Calls.mono (PPQ.out _) ?_);rintro e w' ⟨rfl,hb⟩;replace d:=A8 (d.out.call hb);clear hb))
 all_goals (clear x0 x1)
 clear hC hw
 replace P:=A8 P
 cases J:x.flag 0
 case false =>
  have z:=A8 (C.out 0 Ad J);clear J M;have hO:Ds _ (w.heap.size+2) #[.slice none 0 0,.string ⟨#[]⟩] 30:=d.out.blks _ Ah;have r0:=(hO.cell 0).trans (rfl:_=some (Value.slice none 0 0));have r1:=(hO.cell 1).trans (rfl:_=some (Value.string ⟨#[]⟩));have f0:=hO.frozen 0;have f1:=hO.frozen 1;obtain ⟨⟨U,k1⟩,f,-⟩:=DD hO (by show w.heap.size<=w.heap.size+2;omega) d.out.below (.slice none 0 0) (.string ⟨#[]⟩);have f:=A8 (GP.bad z.out f);clear d hO;go_wp2;exact bodyPost_ret (v:=.tuple #[.agg #[.slice none 0 0,.string ⟨#[]⟩],.int .i64 60]) (by simp [results,Tryz.results20,go_sem,U,k1]) rfl f.out
 case true =>
  have hs1:s0=I (x.num 0):=by rw [M.out,<-P.out,x.num_zero];exact AU (x.good J).2
  subst hs1;replace J:=A8 J;clear M;have hg1:=A8 (x.gcd_one r.out);replace d:=A8 (d.out.row0 9 1);have V:=A8 (fun k (hk:x.flag k=true)=>x.gcd_small (m:=k+1) (fun j hj=>(x.good (x.flag_le hk (by omega:j<=k))).2) (Aa _));go_wp2_with fail;go_loopw [12,13,14] (fun g v o wr=>∃ i:Nat,g=.string (I (x.gcd (i+1)))/\o=.int .i64 i/\i<=n/\Hid (x.flag i=true)/\Hid (Dp w [(w.heap.size+2,#[.slice none 0 0,.string ⟨#[]⟩],30),(w.heap.size+1,#[.slice ab n cb,.string x.db],30),(w.heap.size,#[.slice aa n ca,.string x.da],30)] [⟨9,1,v,i,x.nums i⟩] wr)) (fun _ _ o _=>n-(intOf o).toNat);case atStart=>exact ⟨0,by rw [hg1.out],rfl,Ad,J,d⟩
  case round =>
   clear d J;obtain ⟨i,rfl,rfl,hi,J,d⟩:=hrel;have x0:=(d.out.cell w.heap.size _ _ Aj 0).trans (rfl:_=some (Value.slice _ _ _));have x1:=(d.out.cell w.heap.size _ _ Aj 1).trans (rfl:_=some (Value.string _));have y0:=(d.out.cell (w.heap.size+1) _ _ Ai 0).trans (rfl:_=some (Value.slice _ _ _));have D:=(d.out.cell (w.heap.size+1) _ _ Ai 1).trans (rfl:_=some (Value.string _));by_cases hi2:i<n;case pos =>
    have hil:(i:Int)<n:=by omega
    have hi0:(0:Int)<=i:=by omega
    obtain ⟨ba,oa,ea,hba,ca_⟩:∃ b off,aa=some ⟨b,off,none⟩/\b<w.heap.size/\w.cell? ⟨b,off+i,none⟩=some (.string (DH x.na i)):=by
     rcases HA.out with ⟨e,F⟩ | ⟨b,off,cap',e,h1,h2,h3,h4⟩
     ·have:=K.out;rw [F] at this;simp at this;omega
     ·cases e
      have:=h4 i _ (FD (by have:=K.out;omega));rw [AY] at this;exact ⟨b,off,rfl,h3,this⟩
    subst ea;obtain ⟨bb,ob,eb,hbb,cb_⟩:∃ b off,ab=some ⟨b,off,none⟩/\b<w.heap.size/\w.cell? ⟨b,off+i,none⟩=some (.string (DH x.nb i)):=by
     rcases HB.out with ⟨e,F⟩ | ⟨b,off,cap',e,h1,h2,h3,h4⟩
     ·have:=K.out;rw [F] at this;simp at this;omega
     ·cases e
      have:=h4 i _ (FD (by have:=K.out;omega));rw [AY] at this;exact ⟨b,off,rfl,h3,this⟩
    subst eb;have t:=x.flag_next r.out hi2 J.out;have R:=x.num_next i;have hka:=(r.out.a i hi2);have hkb:=(r.out.b i hi2);have PL:=A8 (fun W=>KN hka.1 r.out.db.1 (Eh ((bd4 (p:=x.p) (by have:=r.out.p;omega)).small Ae)) ((hka.2.1.mul r.out.db.2.1).small Ae) W);have PR:=A8 (fun W=>KN hkb.1 r.out.da.1 (Eh ((bd4 (p:=x.q) (by have:=r.out.q;omega)).small Ae)) ((hkb.2.1.mul r.out.da.2.1).small Ae) W);rw [Ee] at PL PR;clear hka hkb;generalize zS (DH x.na i)*zS x.db*x.p=zl at *
    generalize zS (DH x.nb i)*zS x.da*x.q=zr at *
    obtain ⟨ts,te,ha1,ha2,ha3⟩:=radd_B (Vm zl) (Vm zr);have AD:=A8 ha1;have y:Do zl->Do zr->Do (zl+zr)->ts=I (x.num (i+1))/\te=0:=fun N F e3=>by
     have q1:zS (Qe zl)=zl:=by rw [show Qe zl=I zl from AU N,Ee]
     have q2:zS (Qe zr)=zr:=by rw [show Qe zr=I zr from AU F,Ee]
     rw [q1,q2,R] at ha2;exact ha2 (by rw [<-R];exact e3)
    have B:Do zl->Do zr->¬ Do (zl+zr)->¬ te=0:=fun N F e3=>by
     have q1:zS (Qe zl)=zl:=by rw [show Qe zl=I zl from AU N,Ee]
     have q2:zS (Qe zr)=zr:=by rw [show Qe zr=I zr from AU F,Ee]
     rw [q1,q2] at ha3;have:=ha3 e3;simpa using this
    clear ha1 ha2 ha3 R;replace y:=A8 y;replace B:=A8 B;replace t:=A8 t;generalize Qe zl=tl at *
    generalize Qe zr=tr at *
    obtain ⟨bl,L⟩:∃ b,b=decide (Do zl):=⟨_,rfl⟩;obtain ⟨br,S⟩:∃ b,b=decide (Do zr):=⟨_,rfl⟩;rw [<-L] at PL;rw [<-S] at PR;replace L:=A8 L;replace S:=A8 S;generalize I x.p=tp at *
    generalize I x.q=tq at *
    obtain ⟨sa,hsa⟩:∃ s,s=DH x.na i:=⟨_,rfl⟩;obtain ⟨sb,hsb⟩:∃ s,s=DH x.nb i:=⟨_,rfl⟩;rw [<-hsa] at PL ca_;rw [<-hsb] at PR cb_;clear hsa hsb;have hC:=A8 (show ∀ W,Dp w [(w.heap.size+2,#[.slice none 0 0,.string ⟨#[]⟩],30),(w.heap.size+1,#[.slice (some ⟨bb,ob,none⟩) n cb,.string x.db],30),(w.heap.size,#[.slice (some ⟨ba,oa,none⟩) n ca,.string x.da],30)] [⟨9,1,u13,i,x.nums i⟩] W->(W.cell? ⟨w.heap.size,0,none⟩=some (.slice (some ⟨ba,oa,none⟩) n ca)/\W.cell? ⟨ba,oa+i,none⟩=some (.string sa)/\W.cell? ⟨w.heap.size+1,1,none⟩=some (.string x.db)) from fun W h=>⟨h.cell _ _ _ Aj 0,h.old hba ca_,h.cell _ _ _ Ai 1⟩);have hD:=A8 (show ∀ W,Dp w [(w.heap.size+2,#[.slice none 0 0,.string ⟨#[]⟩],30),(w.heap.size+1,#[.slice (some ⟨bb,ob,none⟩) n cb,.string x.db],30),(w.heap.size,#[.slice (some ⟨ba,oa,none⟩) n ca,.string x.da],30)] [⟨9,1,u13,i,x.nums i⟩] W->(W.cell? ⟨w.heap.size+1,0,none⟩=some (.slice (some ⟨bb,ob,none⟩) n cb)/\W.cell? ⟨bb,ob+i,none⟩=some (.string sb)/\W.cell? ⟨w.heap.size,1,none⟩=some (.string x.da)) from fun W h=>⟨h.cell _ _ _ Ai 0,h.old hbb cb_,h.cell _ _ _ Aj 1⟩);clear ca_ cb_;go_upto_region 11 with fail;clear x0 x1 y0 D;obtain ⟨x0,x1,x2⟩:=hC.out _ d.out;replace d:=A8 d.out.drew;go_region_held3 (fun w'=>w'.cell? ⟨w.heap.size,0,none⟩=some (.slice (some ⟨ba,oa,none⟩) n ca)/\w'.cell? ⟨ba,oa+i,none⟩=some (.string sa)/\w'.cell? ⟨w.heap.size+1,1,none⟩=some (.string x.db))
     (first | with_reducible exact hC.out _ d.out | go_keep)
     (first | (go_at_call 41;(with_reducible refine Calls.mono (FP.out _) ?_);rintro e w' ⟨rfl,hb⟩;replace d:=A8 (d.out.call hb);clear hb) | (go_at_call 57;(with_reducible refine Calls.mono (PL.out _) ?_);rintro e w' ⟨rfl,hb⟩;replace d:=A8 (d.out.call hb);clear hb))
    all_goals (clear x0 x1 x2)
    go_upto_region 12 with fail;obtain ⟨x0,x1,x2⟩:=hD.out _ d.out;replace d:=A8 d.out.drew;go_region_held3 (fun w'=>w'.cell? ⟨w.heap.size+1,0,none⟩=some (.slice (some ⟨bb,ob,none⟩) n cb)/\w'.cell? ⟨bb,ob+i,none⟩=some (.string sb)/\w'.cell? ⟨w.heap.size,1,none⟩=some (.string x.da))
     (first | with_reducible exact hD.out _ d.out | go_keep)
     (first | (go_at_call 41;(with_reducible refine Calls.mono (FQ.out _) ?_);rintro e w' ⟨rfl,hb⟩;replace d:=A8 (d.out.call hb);clear hb) | (go_at_call 57;(with_reducible refine Calls.mono (PR.out _) ?_);rintro e w' ⟨rfl,hb⟩;replace d:=A8 (d.out.call hb);clear hb))
    all_goals (clear x0 x1 x2)
    clear hC hD;go_wp2_with fail;refine Calls.mono (AD.out _) ?_;rintro e wk ⟨rfl,hb⟩;replace d:=A8 (d.out.call hb);clear hb;cases bl;case false =>
     have z:=A8 (C.out (i+1) Ad (by rw [t.out,<-L.out];rfl));have hO:Ds _ (w.heap.size+2) #[.slice none 0 0,.string ⟨#[]⟩] 30:=d.out.blks _ Ah;have r0:=(hO.cell 0).trans (rfl:_=some (Value.slice none 0 0));have r1:=(hO.cell 1).trans (rfl:_=some (Value.string ⟨#[]⟩));have f0:=hO.frozen 0;have f1:=hO.frozen 1;obtain ⟨⟨U,k1⟩,f,-⟩:=DD hO (by show w.heap.size<=w.heap.size+2;omega) d.out.below (.slice none 0 0) (.string ⟨#[]⟩);have f:=A8 (GP.bad z.out f);clear d hO;go_wp2;exact bodyPost_ret (v:=.tuple #[.agg #[.slice none 0 0,.string ⟨#[]⟩],.int .i64 60]) (by simp [results,Tryz.results20,go_sem,U,k1]) rfl f.out
    cases br;case false =>
     have z:=A8 (C.out (i+1) Ad (by rw [t.out,<-L.out,<-S.out];rfl));have hO:Ds _ (w.heap.size+2) #[.slice none 0 0,.string ⟨#[]⟩] 30:=d.out.blks _ Ah;have r0:=(hO.cell 0).trans (rfl:_=some (Value.slice none 0 0));have r1:=(hO.cell 1).trans (rfl:_=some (Value.string ⟨#[]⟩));have f0:=hO.frozen 0;have f1:=hO.frozen 1;obtain ⟨⟨U,k1⟩,f,-⟩:=DD hO (by show w.heap.size<=w.heap.size+2;omega) d.out.below (.slice none 0 0) (.string ⟨#[]⟩);have f:=A8 (GP.bad z.out f);clear d hO;go_wp2;exact bodyPost_ret (v:=.tuple #[.agg #[.slice none 0 0,.string ⟨#[]⟩],.int .i64 60]) (by simp [results,Tryz.results20,go_sem,U,k1]) rfl f.out
    have N:=Cs L.out.symm;have F:=Cs S.out.symm;by_cases hs:Do (zl+zr);case neg =>
     have hte:=B.out N F hs;have z:=A8 (C.out (i+1) Ad (by rw [t.out,Al hs];simp));clear N F hs y B;have hO:Ds _ (w.heap.size+2) #[.slice none 0 0,.string ⟨#[]⟩] 30:=d.out.blks _ Ah;have r0:=(hO.cell 0).trans (rfl:_=some (Value.slice none 0 0));have r1:=(hO.cell 1).trans (rfl:_=some (Value.string ⟨#[]⟩));have f0:=hO.frozen 0;have f1:=hO.frozen 1;obtain ⟨⟨U,k1⟩,f,-⟩:=DD hO (by show w.heap.size<=w.heap.size+2;omega) d.out.below (.slice none 0 0) (.string ⟨#[]⟩);have f:=A8 (GP.bad z.out f);clear d hO;go_wp2;exact bodyPost_ret (v:=.tuple #[.agg #[.slice none 0 0,.string ⟨#[]⟩],.int .i64 60]) (by simp [results,Tryz.results20,go_sem,U,k1]) rfl f.out
    case pos =>
     obtain ⟨rfl,rfl⟩:=y.out N F hs;have hf2:=A8 (show x.flag (i+1)=true by rw [t.out,AF N,AF F,AF hs];rfl);clear N F hs y B t;have hxs:=A8 (x.nums_succ i);have hn1:=(x.good hf2.out).2;have GC:=A8 (fun W=>rgcd_T (a:=I (x.gcd (i+1))) (b:=I (x.num (i+1))) (Eh (V.out i J.out)) (Eh hn1) (by rw [Ee,Ee];exact V.out (i+1) hf2.out) W);rw [Ee,Ee] at GC;replace GC:=A8 (show ∀ W,Calls Tryz.prog 59 #[.string (I (x.gcd (i+1))),.string (I (x.num (i+1)))] W (DR W (.tuple #[.string (I (x.gcd (i+1+1))),.int .i64 0])) from GC.out);clear hn1;go_upto_region 17 with (at_builtin;refine IU rfl rfl (d.out.new _) rfl rfl ((Ds.new _ _ _).cell 0) Ad ?_;intro g2 c2 W8 E;rw [<-hxs.out] at E);have hM9:=A8 E;clear E d;go_wp2_with fail;refine Calls.mono (GC.out _) ?_;rintro e wg ⟨rfl,hb⟩;replace hM9:=A8 (hM9.out.call hb);clear hb;go_wp2_with fail;go_roundw;case rel=>exact ⟨i+1,rfl,by go_num,Ad,hf2,hM9⟩
     case measure=>simp [intOf];omega
   case neg =>
    have hil:¬ (i:Int)<n:=by omega
    obtain rfl:n=i:=by omega
    have hq:∀ k,x.num k / x.gcd (n+1)=x.quo k:=fun k=>by unfold DG.quo;rw [<-K.out.1]
    have hg0:x.gcd (n+1)≠0:=by have:=x.gcd_pos (by have:=x.num_pos r.out;omega) n;omega
    have hgk:=V.out n J.out;have DV:=A8 (fun k (hk:k<=n) W=>(by
     have h:=rdiv_T (a:=I (x.num k)) (b:=I (x.gcd (n+1))) (Eh (x.good (x.flag_le J.out hk)).2) (Eh hgk) (by rw [Ee];exact hg0) W;rw [Ee,Ee,hq k] at h;exact h:Calls Tryz.prog 60 #[.string (I (x.num k)),.string (I (x.gcd (n+1)))] W (DR W (.tuple #[.string (I (x.quo k)),.string (I (x.num k % x.gcd (n+1))),.int .i64 0]))))
    have FO:=A8 (fun v W (hW:DS W v ((List.range n).map fun j=>I (x.quo (j+1))))=>EJ v _ (I (x.quo 0)) W hW (EG (Eh (x.quo_small r.out Ad (x.good (x.flag_le J.out Ad)).2))) (fun s hs=>by
     obtain ⟨j,hj,rfl⟩:=AV.1 hs;have:=AB.1 hj;exact EG (Eh (x.quo_small (n:=n) r.out Ad (x.good (x.flag_le J.out Ad)).2))))
    rw [<-T.out J.out] at FO;clear hq hg0 hgk V C T;generalize I (x.gcd (n+1))=gg at *
    obtain ⟨av,cv,rfl⟩:∃ a c,u13=.slice a n c:=by
     have:=(DS.of_own (l:=(List.range n).map fun j=>I (x.num (j+1))) d.out.own0).shape;simpa using this
    have D0:=A8 (DV.out 0 Ad);generalize I (x.num 0)=n0 at *
    obtain ⟨Z,Y⟩:∃ q,q=I (x.quo 0):=⟨_,rfl⟩;rw [<-Y] at D0 FO;replace Y:=A8 Y.symm;generalize I (x.num 0 % x.gcd (n+1))=m0 at *
    go_upto_region 19 with fail;obtain ⟨Wb,eb,G,-⟩:=d.out.add' #[.slice none 0 0,.string ⟨#[]⟩] 30;replace G:=A8 G;rw [<-eb];clear eb d x0 x1 y0 D;generalize wr.heap.size=bR at *
    go_wp2_with fail;refine Calls.mono (D0.out _) ?_;rintro e wd ⟨rfl,hb⟩;replace G:=A8 (G.out.call hb);clear hb;have D:=(G.out.cell bR _ _ Ah 1).trans (rfl:_=some (Value.string ⟨#[]⟩));have y2:=G.out.frozen bR _ _ Ah 1;have hMc:=A8 (show Dp w ((bR,#[.slice none 0 0,.string Z],30) :: [(w.heap.size+2,#[.slice none 0 0,.string ⟨#[]⟩],30),(w.heap.size+1,#[.slice ab n cb,.string x.db],30),(w.heap.size,#[.slice aa n ca,.string x.da],30)]) [⟨9,1,.slice none 0 0,0,x.quos 0⟩,⟨9,1,.slice av n cv,n,x.nums n⟩] (wd.setCell ⟨bR,1,none⟩ (.string Z)) from (G.out.put0 1 (.string Z)).row0 9 1);clear G;go_upto_region 20 with fail;clear D y2;generalize wd.setCell ⟨bR,1,none⟩ (.string Z)=wc at *
    go_wp2_with fail;go_loopw [22] (fun o wr=>∃ (j:Nat) (u:Value),o=.int .i64 j/\j<=n/\Hid (Dp w ((bR,#[u,.string Z],30) :: [(w.heap.size+2,#[.slice none 0 0,.string ⟨#[]⟩],30),(w.heap.size+1,#[.slice ab n cb,.string x.db],30),(w.heap.size,#[.slice aa n ca,.string x.da],30)]) [⟨9,1,u,j,x.quos j⟩,⟨9,1,.slice av n cv,n,x.nums n⟩] wr)) (fun o _=>n-(intOf o).toNat);case atStart=>exact ⟨0,_,rfl,Ad,hMc⟩
    case round =>
     clear hMc;obtain ⟨j,u,rfl,hj,d⟩:=hrel;by_cases hj2:j<n;case pos =>
      have hjl:(j:Int)<n:=by omega
      have hj0:(0:Int)<=j:=by omega
      obtain ⟨bv,ov,ev,xv⟩:∃ b off,av=some ⟨b,off,none⟩/\wr.cell? ⟨b,off+j,none⟩=some (.string (I (x.num (j+1)))):=by
       have X:=DS.of_own (l:=(List.range n).map fun j=>I (x.num (j+1))) (d.out.own Ai);rcases X with ⟨e,F⟩ | ⟨b,off,cap',e,h1,h2,h3,h4⟩
       ·have:=BK List.length F;simp at this;omega
       ·simp only [Cj,List.length_range] at e
        cases e;have:=h4 j (I (x.num (j+1))) (by simp [hj2]);rw [AY] at this;exact ⟨b,off,rfl,this⟩
      subst ev;have hxs:=A8 (x.quos_succ j);have DJ:=A8 (DV.out (j+1) Ad);generalize I (x.num (j+1) % x.gcd (n+1))=mj at *
      generalize I (x.num (j+1))=nj at *
      generalize I (x.quo (j+1))=qj at *
      go_wp2_with fail;refine Calls.mono (DJ.out _) ?_;rintro e wd2 ⟨rfl,hb⟩;replace d:=A8 (d.out.call hb);clear hb xv;have D:=(d.out.cell bR _ _ Ah 0).trans (rfl:_=some u);go_wp2_with (at_builtin;refine IU rfl rfl (d.out.new _) rfl rfl ((Ds.new _ _ _).cell 0) Ad ?_;intro g2 c2 W8 E;have y3:=E.cell bR _ _ Ah 0;have y4:=E.frozen bR _ _ Ah 0;rw [<-hxs.out] at E;replace E:=E.put0 0 (.slice (some ⟨g2,0,none⟩) (j+1) c2));go_roundw;case rel=>exact ⟨j+1,_,by go_num,Ad,A8 (by assumption)⟩
      case measure=>simp [intOf];omega
     case neg =>
      have hjl:¬ (j:Int)<n:=by omega
      obtain rfl:n=j:=by omega
      have hSl:=DS.of_own (l:=(List.range n).map fun j=>I (x.quo (j+1))) d.out.own0;obtain ⟨au,cu,rfl⟩:∃ a c,u=.slice a n c:=by
       have:=hSl.shape;simpa using this
      have FF:=A8 (FO.out _ _ hSl);have y0:=(d.out.cell bR _ _ Ah 0).trans (rfl:_=some (Value.slice _ _ _));have D:=(d.out.cell bR _ _ Ah 1).trans (rfl:_=some (Value.string _));clear FO hSl DV D0;cases H:JG x;case false =>
       rw [H] at FF;have z:=A8 H;clear H;go_wp2_with fail;refine Calls.mono FF.out ?_;rintro e wf ⟨rfl,hb⟩;replace d:=A8 (d.out.call hb);clear hb y0 D;have hO:Ds _ (w.heap.size+2) #[.slice none 0 0,.string ⟨#[]⟩] 30:=d.out.blks _ Ai;have r0:=(hO.cell 0).trans (rfl:_=some (Value.slice none 0 0));have r1:=(hO.cell 1).trans (rfl:_=some (Value.string ⟨#[]⟩));have f0:=hO.frozen 0;have f1:=hO.frozen 1;obtain ⟨⟨U,k1⟩,f,-⟩:=DD hO (by show w.heap.size<=w.heap.size+2;omega) d.out.below (.slice none 0 0) (.string ⟨#[]⟩);have f:=A8 (GP.bad z.out f);clear d hO;go_wp2;exact bodyPost_ret (v:=.tuple #[.agg #[.slice none 0 0,.string ⟨#[]⟩],.int .i64 60]) (by simp [results,Tryz.results20,go_sem,U,k1]) rfl f.out
      case true =>
       rw [H] at FF;replace H:=A8 H;go_wp2_with fail;refine Calls.mono FF.out ?_;rintro e wf ⟨rfl,hb⟩;replace d:=A8 (d.out.call hb);clear hb y0 D;have y0:=(d.out.cell bR _ _ Ah 0).trans (rfl:_=some (Value.slice _ _ _));have D:=(d.out.cell bR _ _ Ah 1).trans (rfl:_=some (Value.string _));have hO:Ds _ (w.heap.size+2) #[.slice none 0 0,.string ⟨#[]⟩] 30:=d.out.blks _ Ai;have r0:=(hO.cell 0).trans (rfl:_=some (Value.slice none 0 0));have r1:=(hO.cell 1).trans (rfl:_=some (Value.string ⟨#[]⟩));have f0:=hO.frozen 0;have f1:=hO.frozen 1;obtain ⟨⟨U,k1⟩,O,-⟩:=DD hO (by show w.heap.size<=w.heap.size+2;omega) d.out.below (.slice au n cu) (.string Z);have f:=A8 (GP.good H.out O (by
        have h7:=(Dp.front2 (A:=[]) d.out).out2 (.slice au n cu) (.string Z);rw [<-K.out.1];exact DS.of_own (l:=(List.range n).map fun j=>I (x.quo (j+1))) h7.own0) (by
        have h7:=(Dp.front2 (A:=[]) d.out).out2 (.slice au n cu) (.string Z);exact TH.own h7.own0))
       rw [Y.out] at f;clear d hO O;go_wp2;exact bodyPost_ret (v:=.tuple #[.agg #[.slice au n cu,.string Z],.int .i64 0]) (by simp [results,Tryz.results20,go_sem,U,k1]) rfl f.out
theorem same13 {W:World} {v u:Value} (h1:DS W v [⟨#[49]⟩,⟨#[51]⟩]) (h2:DS W u [⟨#[49]⟩,⟨#[51]⟩]):Calls Tryz.prog 21 #[.agg #[v,.string ⟨#[52]⟩],.agg #[u,.string ⟨#[52]⟩]] W (DR W (.bool true)):=by
 have:=PU v u _ _ ⟨#[52]⟩ ⟨#[52]⟩ W h1 h2;simpa using this
theorem val11 {W:World} {v:Value} (h:EX W v (EI 1 1)):Calls Tryz.prog 10 #[.agg #[.int .i64 2,v]] W (DR W (.bool true)):=by
 have:=G5 2 v (EI 1 1) W h;rwa [vl11] at this
theorem val65 (W:World):Calls Tryz.prog 10 #[.agg #[.int .i64 65,.slice none 0 0]] W (DR W (.bool false)):=by
 have:=G5 65 _ [] W (JJ.nil W);rwa [vl65] at this
theorem Ds.new1 (W:World) (o:Obj) (cs:Array Value) (t:TypeId):Ds ((W.alloc o).alloc (.cells cs t)) (W.heap.size+1) cs t:=by
 have:=Ds.new (W.alloc o) cs t;rwa [Bh] at this
theorem TO (w:World) (hE:Fp w):Calls Tryz.prog 4 #[] w (DR w (.bool true)):=by
 replace hE:=A8 hE;obtain ⟨Q,bS,d,b1,c⟩:=(MS.start w).add' #[.string ⟨#[52]⟩,.string ⟨#[50]⟩] 9;obtain ⟨M,bV,A,b2,C⟩:=c.add' #[.slice (some ⟨bS,0,none⟩) 2 2,.string ⟨#[50]⟩] 30;have a:=A8 (C.slice (DS.of2 (C.mem.blks _ Ai)));rw [b1] at A;rw [d] at A b2;rw [Bh] at b2;clear c C d;go_enter Tryz.func4,Tryz.ntmps4;go_upto_region 2 with fail;rw [<-A,<-b2];clear A b1 b2;go_wp2_with fail;refine Calls.mono (Gh 3 1 _) ?_;rintro e O ⟨v1,rfl,hv,hb⟩;replace a:=A8 (a.out.call hb);clear hb;go_wp2_with fail;refine Calls.mono (solve31 v1 _ (a.out.env hE.out) hv) ?_;rintro e S ⟨a1,B,d1,k1,rfl,t,h,hb⟩;clear hv;replace a:=A8 (a.out.call hb);replace a:=A8 (a.out.slice t);clear hb t;replace h:=A8 h;obtain ⟨n1,f⟩:∃ n,n=B.length:=⟨_,rfl⟩;rw [<-f] at a |-;replace f:=A8 f;obtain ⟨k,bA,d,b1,c⟩:=a.out.add' #[.bool true,.slice a1 n1 k1,.string d1,.slice none 0 0] 38;replace a:=A8 c;clear c;go_upto_region 3 with fail;rw [<-d,<-b1];clear d b1;go_wp2_with fail;refine Calls.mono (Gh 3 4 _) ?_;rintro e U ⟨v2,rfl,hv,hb⟩;replace a:=A8 (a.out.call hb);clear hb;go_wp2_with fail;refine Calls.mono (solve34 v2 _ (a.out.env hE.out) hv) ?_;rintro e K ⟨a2,l2,k2,rfl,o,i,hb⟩;clear hv;replace a:=A8 (a.out.call hb);replace a:=A8 (a.out.slice o);clear hb o;replace i:=A8 i;obtain ⟨n2,j⟩:∃ n,n=l2.length:=⟨_,rfl⟩;rw [<-j] at a |-;replace j:=A8 j;obtain ⟨k,bB,d,b1,c⟩:=a.out.add' #[.bool false,.slice none 0 0,.string ⟨#[]⟩,.slice a2 n2 k2] 38;replace a:=A8 c;clear c;go_upto_region 4 with fail;rw [<-d,<-b1];clear d b1;go_wp2_with fail;refine Calls.mono (solve00 _ _ ((a.out.new _).env hE.out) (EX.of1 (Ds.new _ _ _))) ?_;rintro e I ⟨a3,E,k3,rfl,hb⟩;replace a:=A8 (a.out.new _ |>.call hb);clear hb;obtain ⟨k,bC,d,b1,c⟩:=a.out.add' #[.bool true,.slice a3 0 k3,.string E,.slice none 0 0] 38;replace a:=A8 c;clear c;go_upto_region 5 with fail;rw [<-d,<-b1];clear d b1;go_wp2_with fail;refine Calls.mono (solve01 _ _ ((a.out.new _).env hE.out) (EX.of1 (Ds.new _ _ _))) ?_;rintro e V ⟨a4,k4,rfl,hb⟩;replace a:=A8 (a.out.new _ |>.call hb);clear hb;obtain ⟨k,bD,d,b1,c⟩:=a.out.add' #[.bool false,.slice none 0 0,.string ⟨#[]⟩,.slice a4 1 k4] 38;replace a:=A8 c;clear c;go_upto_region 6 with fail;rw [<-d,<-b1];clear d b1;go_wp2_with fail;refine Calls.mono (Vl { p:=1,q:=3,na:=[⟨#[49]⟩,⟨#[48]⟩],nb:=[⟨#[48]⟩,⟨#[49]⟩],da:=⟨#[49]⟩,db:=⟨#[49]⟩ } _ _ _ (((a.out.new _).new _).env hE.out) ((DS.of2 (Ds.new _ _ _)).below ((Below.refl _ _).alloc (Aa _) _)) (DS.of2 (Ds.new1 _ _ _ _)) Ab) ?_;intro e I m;unfold GP at m;rw [mix13] at m;obtain ⟨hb,v5,l,rfl,-⟩:=m;obtain ⟨a5,D,rfl⟩:=l.shape;replace a:=A8 ((a.out.new _ |>.new _).call hb);replace a:=A8 (a.out.slice l);clear hb l;obtain ⟨k,bM,d,b1,c⟩:=a.out.add' #[.slice a5 2 D,.string ⟨#[52]⟩] 30;replace a:=A8 c;clear c;go_upto_region 7 with fail;rw [<-d,<-b1];clear d b1;go_wp2_with fail;refine Calls.mono (solve10 _ _ (EX.of1 (Ds.new _ _ _))) ?_;rintro e T ⟨rfl,hb⟩;replace a:=A8 (a.out.new _ |>.call hb);clear hb;obtain ⟨k,bN,d,b1,c⟩:=a.out.add' #[.bool false,.slice none 0 0,.string ⟨#[]⟩,.slice none 0 0] 38;replace a:=A8 c;clear c;go_upto_region 8 with fail;rw [<-d,<-b1];clear d b1;go_upto_region 10 with fail;have rf:=i;clear i;have x:=f.out;have u:=j.out;subst x;subst u;refine TL (bV:=bV) (bA:=bA) (bB:=bB) (bC:=bC) (bD:=bD) (bS:=bS) (a1:=a1) (n1:=B.length) (k1:=k1) (a2:=a2) (n2:=l2.length) (k2:=k2) (a3:=a3) (k3:=k3) (a4:=a4) (k4:=k4) (d1:=d1) (w:=k) (W0:=k) (L:=[]) (R:=[]) (fun W b=>(a.out.call b.below).cell bA _ _ (.tail _ (.tail _ Ak)) 0) (fun W b=>(a.out.call b.below).cell bA _ _ (.tail _ (.tail _ Ak)) 1) (fun W b=>(a.out.call b.below).cell bA _ _ (.tail _ (.tail _ Ak)) 2) (fun W b=>(a.out.call b.below).cell bV _ _ (.tail _ (.tail _ (.tail _ Ak))) 0) (fun W b=>(a.out.call b.below).cell bV _ _ (.tail _ (.tail _ (.tail _ Ak))) 1) (fun W b=>(by have:=KI _ _ B _ d1 ⟨#[50]⟩ W ((a.out.call b.below).env hE.out) ((a.out.call b.below).ss _ Aj) ((a.out.call b.below).ss _ Ak);rwa [h.out] at this)) (fun W b=>(a.out.call b.below).cell bA _ _ (.tail _ (.tail _ Ak)) 3) (fun W b=>(a.out.call b.below).cell bB _ _ (.tail _ Ak) 0) (A8 fun W b=>(Gh 3 4 W)) (fun W b=>(a.out.call b.below).cell bB _ _ (.tail _ Ak) 3) (A8 fun W v b hv=>(by have:=GA 2 v _ (EI 3 4) l2 W ((a.out.call b.below).env hE.out) hv ((a.out.call b.below).ss _ Ai);rwa [rf.out] at this)) (fun W b=>(a.out.call b.below).cell bC _ _ Ak 0) (fun W b=>(a.out.call b.below).cell bC _ _ Ak 1) (fun W b=>(a.out.call b.below).cell bD _ _ Aj 0) (fun W b=>(a.out.call b.below).cell bD _ _ Aj 3) (A8 (Dp.start k)) rfl rfl rfl rfl rfl rfl Ab ?_;intro xx J s z;simp only [Eb,Ce,Cg,A5,A6,s];replace a:=A8 (a.out.call z.out.below);clear z h rf;go_upto_region 11 with fail;refine TN (bV:=bV) (L:=[]) (R:=[]) (A8 fun W b=>(Gh 3 1 W)) (fun W b=>(a.out.call b.below).cell bV _ _ (.tail _ (.tail _ (.tail _ Ak))) 0) (fun W b=>(a.out.call b.below).cell bV _ _ (.tail _ (.tail _ (.tail _ Ak))) 1) (A8 fun W v b hv=>(by have:=KC 2 v _ (EI 3 1) _ ⟨#[50]⟩ W ((a.out.call b.below).env hE.out) hv ((a.out.call b.below).ss _ Ak);rwa [ck31] at this)) (A8 fun W b=>(Gh 3 2 W)) (A8 fun W v b hv=>(by have:=KC 2 v _ (EI 3 2) _ ⟨#[50]⟩ W ((a.out.call b.below).env hE.out) hv ((a.out.call b.below).ss _ Ak);rwa [ck32] at this)) (A8 fun W b=>(Gh 3 4 W)) (A8 fun W v g b hv hg=>(by have:=GA 2 v _ (EI 3 4) _ W ((a.out.call b.below).env hE.out) hv (DS.of2 hg);rwa [rf34] at this)) (A8 fun W b=>(Gh 3 4 W)) (A8 fun W v g b hv hg=>(by have:=GA 2 v _ (EI 3 4) _ W ((a.out.call b.below).env hE.out) hv (DS.of2 hg);rwa [rf34n] at this)) (A8 fun W b=>(Gh 3 1 W)) (A8 fun W v g b hv hg=>(by have:=GA 2 v _ (EI 3 1) _ W ((a.out.call b.below).env hE.out) hv (DS.of2 hg);rwa [rf31n] at this)) (A8 (Dp.start _)) rfl rfl Ab ?_;intro xx P r y;simp only [Eb,Ce,Cg,A5,A6,r];replace a:=A8 (a.out.call y.out.below);clear y;have z0:=(a.out.cell bM _ _ Ai 0).trans (show _=some (Value.slice a5 2 D) from rfl);have z1:=(a.out.cell bM _ _ Ai 1).trans (show _=some (Value.string ⟨#[52]⟩) from rfl);go_wp2_with fail;refine Calls.mono (same13 (a.out.new _ |>.ss _ Ah) (DS.of2 (Ds.new _ _ _))) ?_;rintro e N ⟨rfl,hb⟩;replace a:=A8 (a.out.new _ |>.call hb);clear hb z0 z1;go_wp2_with fail;refine Calls.mono (Gh 1 1 _) ?_;rintro e F ⟨v9,rfl,hv,hb⟩;replace a:=A8 (a.out.call hb);clear hb;go_wp2_with fail;refine Calls.mono (val11 hv) ?_;rintro e G ⟨rfl,hb⟩;clear hv;replace a:=A8 (a.out.call hb);clear hb;go_wp2_with fail;refine Calls.mono (val65 _) ?_;rintro e H ⟨rfl,hb⟩;replace a:=A8 (a.out.call hb);clear hb;go_wp2;go_ret;exact ⟨rfl,a.out.mem.below⟩
theorem Nn {l:List Int} (h:∀ z∈l,Dy z) (k:Nat):Dy (GI l k):=by
 unfold GI;by_cases hk:k % l.length<l.length
 ·rw [FE hk];exact h _ (AN hk)
 ·rw [Gl Ad];unfold Dy;decide
def Mj (l:List Int) (k:Nat):Int:=Ge (GI l k) 50
def Oo (n:Nat) (l:List Int):List ByteArray:=(List.range n).map fun k=>I (Mj l k)
theorem Si (l:List Int) (k:Nat):0<=Mj l k/\Mj l k<=49:=by
 have h1:=Ec (c:=GI l k) (m:=50) Ae;have h2:=FX (c:=GI l k) (m:=50) Ae;unfold Mj;omega
def Ke (l:List Int) (k:Nat):Int:=Ge (GI l k) 101-50
def Q6 (n:Nat) (l:List Int):List ByteArray:=(List.range n).map fun k=>I (Ke l k)
theorem Oq (l:List Int) (k:Nat):-50<=Ke l k/\Ke l k<=50:=by
 have h1:=Ec (c:=GI l k) (m:=101) Ae;have h2:=FX (c:=GI l k) (m:=101) Ae;unfold Ke;omega
theorem Rl (n:Nat) (l:List Int) (den:Int) (lv:Value) (w:World) (hn:n<=1000000) (hl:Sl w lv l) (S:∀ z∈l,Dy z) (hd:Dy den) :
  Calls Tryz.prog 13 #[.int .i64 n,lv,.int .i64 den] w fun e w'=>∃ v,e=.returned (.agg #[v,.string (I (1+Ge den 9))])/\DS w' v (Oo n l)/\Below w.heap.size w w':=by
 have E:=A8 hl
 have AH:=A8 (fun W (p:Below w.heap.size w W) (k:Nat)=>K9 lv l k W (E.out.below p))
 have PH:=A8 (fun W (k:Nat)=>by have:=Ed (GI l k) 50 (Nn S k) Ae Ae W;exact (this:Calls Tryz.prog 26 #[.int .i64 (GI l k),.int .i64 50] W (DR W (.int .i64 (Mj l k)))))
 have FH:=A8 (fun W (k:Nat)=>IX (x:=Mj l k) (by have:=Si l k;unfold Dy;omega) W)
 have Q:=A8 (fun W=>Ed den 9 hd Ae Ae W)
 have r:=Ec (c:=den) (m:=9) Ae
 have A:=FX (c:=den) (m:=9) Ae
 have H:=A8 (fun W=>IX (x:=1+Ge den 9) (by unfold Dy;omega) W)
 have y:IntKind.i64.wrap (1+Ge den 9)=1+Ge den 9:=BT _ Ad
 obtain ⟨D,t⟩:∃ D,D=I (1+Ge den 9):=⟨_,rfl⟩
 rw [<-t] at H |-
 replace t:=A8 t
 have f:Hid (∀ B W v,Dp w [(B,#[v,.string D],30),(w.heap.size,#[.slice none 0 0,.string ⟨#[]⟩],30)] [⟨9,1,v,n,((List.range n).map fun k=>Value.string (I (Mj l k)))⟩] W->∀ W',W'=(W.setCell ⟨w.heap.size,0,none⟩ v).setCell ⟨w.heap.size,1,none⟩ (.string D)->DS W' v (Oo n l)/\Below w.heap.size w W'):=A8 (fun B W v h W' e=>by
  have h1:=(Dp.out2 (h.perm (List.Perm.swap _ _ _)) v (.string D));rw [<-e] at h1;refine ⟨DS.of_own (n:=n) (l:=Oo n l) (e:=9) (base:=w.heap.size) ?_,h1.below⟩;have h2:=h1.own0;unfold Oo;rw [List.map_map];exact h2)
 generalize Ge den 9=p1 at *
 clear hl r A hd
 obtain ⟨T,K,J,s1⟩:=(Dp.start w).add' #[.slice none 0 0,.string ⟨#[]⟩] 30
 have b:=A8 J
 clear J s1 E
 go_enter Tryz.func13,Tryz.ntmps13
 go_upto_region 1 with fail
 rw [<-K]
 clear K
 go_wp2_with fail
 refine Calls.mono (Q.out _) ?_
 rintro e Y ⟨rfl,hb⟩
 replace b:=A8 (b.out.call hb)
 clear hb
 go_wp2_with fail
 refine Calls.mono (H.out _) ?_
 rintro e P ⟨rfl,hb⟩
 replace b:=A8 (b.out.call hb)
 clear hb y
 obtain ⟨X,F,C,M⟩:=b.out.add' #[.slice none 0 0,.string D] 30
 obtain ⟨B,q⟩:∃ B,B=P.heap.size:=⟨_,rfl⟩
 rw [<-q] at C
 replace b:=A8 (C.row0 9 1)
 clear C M
 go_upto_region 2 with fail
 rw [<-F,<-q]
 clear F q
 go_wp2_with fail
 go_loopw [8] (fun s wr=>∃ (j:Nat) (v:Value),s=.int .i64 j/\j<=n/\Hid (Dp w [(B,#[v,.string D],30),(w.heap.size,#[.slice none 0 0,.string ⟨#[]⟩],30)] [⟨9,1,v,j,((List.range j).map fun k=>Value.string (I (Mj l k)))⟩] wr)) (fun s _=>n-(intOf s).toNat)
 case atStart=>exact ⟨0,.slice none 0 0,rfl,Ad,b⟩
 case round =>
  clear b;obtain ⟨j,v,rfl,hj,b⟩:=hrel;by_cases N:j<n;case neg =>
   have g:¬ (j:Int)<n:=by omega
   obtain rfl:j=n:=by omega
   have d:=A8 (f.out _ _ _ b.out _ rfl);have z0:=(b.out.cell _ _ _ Ah 0).trans (show _=some v from rfl);have z1:=(b.out.cell _ _ _ Ah 1).trans (show _=some (Value.string D) from rfl);obtain ⟨U,k1,f0,Z,y0,O⟩:=Gj (b.out.blks _ Ai) v (.string D);obtain ⟨a,cp,u⟩:=d.out.1.shape;generalize (Oo j l).length=nm at *
   subst u;clear b f;go_wp2;exact bodyPost_ret (v:=.agg #[.slice a nm cp,.string D]) (by simp [results,Tryz.results13,go_sem,y0,O]) rfl ⟨_,rfl,d.out.1,d.out.2⟩
  case pos =>
   have g:(j:Int)<n:=by omega
   go_upto_region 5 with fail;refine TG (bV:=B) (n:=j) (j:=j) (w:=w) (L:=[(w.heap.size,#[.slice none 0 0,.string ⟨#[]⟩],30)]) (R:=[]) (A8 Ad) (A8 fun W p=>AH.out W p.below j) (A8 fun W p=>PH.out W j) (A8 fun W p=>FH.out W j) b rfl rfl rfl rfl Ab ?_;intro xx G cap V o;simp only [Eb,Ce,Cg,A5,A6];clear b;have i:((List.range (j+1)).map fun k=>Value.string (I (Mj l k)))=((List.range j).map fun k=>Value.string (I (Mj l k)))++[.string (I (Mj l j))]:=by rw [AZ,Bg];rfl
   rw [<-i] at o;clear i;go_wp2_with fail;go_roundw;case rel=>exact ⟨j+1,_,by go_num,Ad,o⟩
   case measure=>simp [intOf];omega
theorem Q7 (n:Nat) (l:List Int) (lv:Value) (w:World) (hn:n<=1000000) (hl:Sl w lv l) (t:∀ z∈l,Dy z) :
  Calls Tryz.prog 22 #[.int .i64 n,lv] w fun e w'=>∃ v,e=.returned v/\DS w' v (Q6 n l)/\Below w.heap.size w w':=by
 have m:=A8 hl
 have AH:=A8 (fun W (i:Below w.heap.size w W) (k:Nat)=>K9 lv l k W (m.out.below i))
 have PH:=A8 (fun W (k:Nat)=>Ed (GI l k) 101 (Nn t k) Ae Ae W)
 have FH:=A8 (fun W (k:Nat)=>IX (x:=Ke l k) (by have:=Oq l k;unfold Dy;omega) W)
 have b:Hid (∀ W v,Dp w [] [⟨9,1,v,n,((List.range n).map fun k=>Value.string (I (Ke l k)))⟩] W->DS W v (Q6 n l)/\Below w.heap.size w W):=A8 (fun W v h=>by
  refine ⟨DS.of_own (n:=n) (l:=Q6 n l) (e:=9) (base:=w.heap.size) ?_,h.below⟩;have h2:=h.own0;unfold Q6;rw [List.map_map];exact h2)
 have a:=A8 ((Dp.start w).row0 9 1)
 clear hl m
 go_enter Tryz.func22,Tryz.ntmps22
 go_wp2_with fail
 go_loopw [5,6] (fun u s wr=>∃ (j:Nat),s=.int .i64 j/\j<=n/\Hid (Dp w [] [⟨9,1,u,j,((List.range j).map fun k=>Value.string (I (Ke l k)))⟩] wr)) (fun _ s _=>n-(intOf s).toNat)
 case atStart=>exact ⟨0,rfl,Ad,a⟩
 case round =>
  clear a;obtain ⟨j,rfl,hj,a⟩:=hrel;by_cases o:j<n;case neg =>
   have d:¬ (j:Int)<n:=by omega
   obtain rfl:j=n:=by omega
   have c:=A8 (b.out _ _ a.out);clear a b;go_wp2;go_ret;exact ⟨_,rfl,c.out.1,c.out.2⟩
  case pos =>
   have d:(j:Int)<n:=by omega
   have hw:IntKind.i64.wrap (Ge (GI l j) 101-50)=Ke l j:=BT _ (by have:=Oq l j;unfold Ke at this;omega);have r:=A8 (fun W i=>AH.out W i j);have q:=A8 (fun W=>PH.out W j);have p:=A8 (fun W=>FH.out W j);have g:=A8 (show ((List.range (j+1)).map fun k=>Value.string (I (Ke l k)))=((List.range j).map fun k=>Value.string (I (Ke l k)))++[.string (I (Ke l j))] by rw [AZ,Bg];rfl);generalize Ge (GI l j) 101=p1 at *
   generalize GI l j=a1 at *
   generalize I (Ke l j)=s1 at *
   generalize Ke l j=g1 at *
   go_wp2_with fail;refine Calls.mono (r.out _ a.out.below) ?_;rintro e C ⟨rfl,hb⟩;replace a:=A8 (a.out.call hb);clear hb;go_wp2_with fail;refine Calls.mono (q.out _) ?_;rintro e y ⟨rfl,hb⟩;replace a:=A8 (a.out.call hb);clear hb;go_wp2_with fail;refine Calls.mono (p.out _) ?_;rintro e B ⟨rfl,hb⟩;replace a:=A8 (a.out.call hb);clear hb;go_wp2_with (at_builtin;refine IU rfl rfl (a.out.new _) rfl rfl ((Ds.new _ _ _).cell 0) Ad ?_;intro A c2 W8 f;rw [<-g.out] at f);go_roundw;case rel=>exact ⟨j+1,by go_num,Ad,A8 (by assumption)⟩
   case measure=>simp [intOf];omega
structure Kh (W:World) (x:E6) (vc vh:Value):Prop where
 c:Sl W vc x.coefs
 h:Sl W vh x.hidden
 f:Dy x.cols/\Dy x.rows/\Dy x.miss
 fc:∀ z∈x.coefs,Dy z
 fh:∀ z∈x.hidden,Dy z
theorem Mp {l:List Int} (h:∀ z∈l,Dy z) (k:Nat):Dy (GI l k):=by
 unfold GI;by_cases hk:k % l.length<l.length
 ·rw [FE hk];exact h _ (AN hk)
 ·rw [Gl Ad];unfold Dy;decide
theorem Kh.below {W W':World} {x:E6} {vc vh:Value} (h:Kh W x vc vh) (hb:Below W.heap.size W W'):Kh W' x vc vh:=⟨h.c.below hb,h.h.below hb,h.f,h.fc,h.fh⟩
theorem made_ok {W:World} {x:E6} {vc vh:Value} (h:Kh W x vc vh):Calls Tryz.prog 6 #[.agg #[.int .i64 x.cols,.int .i64 x.rows,vc,vh,.int .i64 x.miss]] W fun e w'=>∃ a cp,e=.returned (.agg #[.int .i64 x.c,.slice a x.r cp])/\EX w' (.slice a x.r cp) x.made/\Below W.heap.size W w' :=
 (Vj x vc vh W h.c h.h h.f (fun k=>⟨Mp h.fc k,Mp h.fh k⟩)).mono fun e w' ⟨v,he,hs,hb⟩=>by
  obtain ⟨a,cp,rfl⟩:=hs.shape;rw [x.made_len] at hs he;exact ⟨a,cp,he,hs,hb⟩
end
section
open Go.RowKit
theorem TP {W:World} {x:E6} {vc vh:Value} (h:Kh W x vc vh):Calls Tryz.prog 12 #[.agg #[.int .i64 x.cols,.int .i64 x.rows,vc,vh,.int .i64 x.miss]] W fun e w'=>∃ a n cp,e=.returned (.agg #[.slice a n cp,.string ⟨#[49]⟩])/\DS w' (.slice a n cp) x.hidN/\Below W.heap.size W w' :=
 (Rk x vc vh W h.c h.h h.f.1 (fun k=>Mp h.fh k)).mono fun e w' ⟨v,he,hs,hb⟩=>by
  obtain ⟨a,cp,rfl⟩:=hs.shape;exact ⟨a,_,cp,he,hs,hb⟩
theorem TQ (n:Nat) (l:List Int) (den:Int) (lv:Value) (W:World) (hn:n<=1000000) (hl:Sl W lv l) (b:∀ z∈l,Dy z) (hd:Dy den) :
  Calls Tryz.prog 13 #[.int .i64 n,lv,.int .i64 den] W fun e w'=>∃ a m cp,e=.returned (.agg #[.slice a m cp,.string (I (1+Ge den 9))])/\DS w' (.slice a m cp) (Oo n l)/\Below W.heap.size W w' :=
 (Rl n l den lv W hn hl b hd).mono fun e w' ⟨v,he,hs,hb⟩=>by
  obtain ⟨a,cp,rfl⟩:=hs.shape;exact ⟨a,_,cp,he,hs,hb⟩
end
section
open Go.RowKit
attribute [local go_sem] Oper.semAt_some
def Mk (l:List ByteArray):List ByteArray:=(List.range (min l.length 4)).map fun i=>(DH l i).extract 0 (min (DH l i).size 101)
theorem cut_r5 {Q:Exit->Act->World->Prop} {us:List Value} {lb lo n cap i k:Nat} {s:ByteArray} {v:Value} {xs:List Value} {w W0:World} {L:Ei} {R:List En}  (hn:Hid (i<=1000000)) (H:(0:Int)<=i) (F:(i:Int)<n)  (l:DQ w L R lb (lo+i) (.string s)) (hk:min (s.size:Int) 101=(k:Int)) (D:k<=s.size) (h0:Hid (Dp w L (⟨9,1,v,i,xs⟩ :: R) W0)) (B:us.length=30) (g0:us[0]? = some (.slice (some ⟨lb,lo,none⟩) n cap)) (G:us[3]? = some (v)) (t:us[4]? = some (.int .i64 i)) {ops:Array Oper} (r:Dt Tryz.f5.body 5=some ops)
  (o:∀ (x:Nat->Value) (G28:Nat) (cap28:Nat) (W':World),x 3=.slice (some ⟨G28,0,none⟩) (i+1) cap28->Hid (Dp w L (⟨9,1,.slice (some ⟨G28,0,none⟩) (i+1) cap28,i+1,xs++[.string (s.extract 0 k)]⟩ :: R) W')->Q .normal { tmps:=(Eb [15,16,17,18,19,20,21,22,23,24,25,26,27,28,3] x us).toArray,defers:=[] } W') :
  (Code.region 5 ops true).wp Tryz.prog Q { tmps:=us.toArray,defers:=[] } W0:=by
 obtain rfl:=B4 (r.symm.trans (rfl:Dt Tryz.f5.body 5=some _))
 clear r
 replace o:=A8 o
 let Fl:Nat×Nat->FL:=fun g=>[some (15,v),some (16,.slice (some ⟨lb,lo,none⟩) n cap),some (17,.int .i64 i),some (18,.pointer (some ⟨lb,lo+i,none⟩)),some (19,.string s),some (20,.slice (some ⟨lb,lo,none⟩) n cap),some (21,.int .i64 i),some (22,.pointer (some ⟨lb,lo+i,none⟩)),some (23,.string s),some (24,.int .i64 s.size),some (25,.int .i64 k),some (26,.string (s.extract 0 k)),none,some (28,.slice (some ⟨g.1,0,none⟩) (i+1) g.2),some (3,.slice (some ⟨g.1,0,none⟩) (i+1) g.2)]
 let Ml:Nat×Nat->ML:=fun g=>[(12,27,(fun yv W=>∃ (b:Nat),yv=.slice (some ⟨b,0,none⟩) 1 1/\Ds W b #[.string (s.extract 0 k)] 9),some 13)]
 let Sl_:Nat×Nat->List (World->Prop):=fun g=>[fun W=>Dp w L (⟨9,1,v,i,xs⟩ :: R) W,fun W=>Dp w L (⟨9,1,.slice (some ⟨g.1,0,none⟩) (i+1) g.2,i+1,xs++[.string (s.extract 0 k)]⟩ :: R) W]
 have St:Iu 30 [15,16,17,18,19,20,21,22,23,24,25,26,27,28,3] [12] Fl Ml (Dp w L R) Sl_:=⟨fun _=>by kernel_rfl,fun _=>rfl,fun _ _ hb h=>h.call hb,fun g=>C6.2 ⟨fun yv W W' hb=>fun ⟨g,e,h⟩=>⟨g,e,h.below hb⟩,(fun _ h=>by cases h)⟩,fun g=>C6.2 ⟨fun W W' hb h=>h.call hb,C6.2 ⟨fun W W' hb h=>h.call hb,(fun _ h=>by cases h)⟩⟩⟩
 refine FM St us [13] ⟨0,0⟩ B h0.out.rtail.drew h0.out.drew ?_ ?_
 refine sV St ?_ (fun z=>z.w G)
 refine sV St ?_ (fun z=>z.u g0)
 refine sV St ?_ (fun z=>z.u t)
 refine sV St ?_ (fun z=>z.x 1 rfl) (fun z=>z.x 2 rfl)
 refine sV St ?_ (fun z=>z.x 3 rfl) (fun z=>l _ z.c)
 refine sV St ?_ (fun z=>z.u g0)
 refine sV St ?_ (fun z=>z.u t)
 refine sV St ?_ (fun z=>z.x 5 rfl) (fun z=>z.x 6 rfl)
 refine sV St ?_ (fun z=>z.x 7 rfl) (fun z=>l _ z.c)
 refine sV St ?_ (fun z=>z.x 8 rfl)
 refine sV St ?_ (fun z=>z.x 9 rfl)
 refine sV St ?_ (fun z=>z.x 4 rfl) (fun z=>z.x 10 rfl)
 refine Dk (stM St 12 0 rfl rfl (.inl rfl) (fun _=>rfl) (fun _=>by kernel_rfl) fun g T E W hl hw hs z K J=>by
  have C:=z.x 11 hw rfl;go_simp;exact J _ _ ((Below.refl _ _).alloc (Aa _) _) ⟨_,rfl,Ds.new _ _ _⟩) ?_
 refine Dk (stF St 13 0 rfl (.inl rfl) rfl rfl Ab (fun _=>by kernel_rfl) fun g T E W hl hw hs z q K J=>by
  have M:=z.x 0 hw rfl;obtain ⟨_,I,b,rfl,d⟩:=z.y 0 hl hw hs rfl;have p:Dp _ _ _ _:=q;refine Jd rfl p (by go_simp) (by go_simp) (d.cell 0) hn.out ?_;intro G28' cap28' N j;exact J ⟨G28',cap28'⟩ _ _ rfl Ab (j.rtail) j) ?_
 refine sV St ?_ (fun z=>z.x 13 rfl)
 ·exact Du
 ·intro g a W z q
  have m:Dp _ _ _ _:=q;have A:=z.v.get 14 rfl Ab;rw [z.f.eqs];exact o.out _ g.1 g.2  _ (by simp [A]) (A8 m)
theorem cut_any (v:Value) (l:List ByteArray) (w:World) (hl:DS w v l) :
  Calls Tryz.prog 5 #[v] w fun e w'=>∃ u,e=.returned u/\DS w' u (Mk l)/\Below w.heap.size w w'/\∀ b,u.ownBlock=some b->w.heap.size<=b:=by
 have g:l.length<=maxLen:=by
  rcases hl with ⟨_,rfl⟩ | ⟨b,off,cap,_,h1,h2,_,_⟩
  ·simp
  ·omega
 have d:Hid (∀ W u k,k=min l.length 4->Dp w [] [⟨9,1,u,k,((List.range k).map fun j=>Value.string ((DH l j).extract 0 (min (DH l j).size 101)))⟩] W->DS W u (Mk l)/\Below w.heap.size w W/\∀ b,u.ownBlock=some b->w.heap.size<=b):=A8 (fun W u k hk h=>by
  subst hk;refine ⟨DS.of_own (l:=Mk l) (e:=9) (base:=w.heap.size) (n:=min l.length 4) ?_,h.below,fun b hb=>(h.own0.lt b hb).1⟩;have h2:=h.own0;unfold Mk;rw [List.map_map];exact h2)
 have f:=A8 ((Dp.start w).row0 9 1)
 obtain ⟨a,cp,hv⟩:=hl.shape
 subst hv
 have hc:=A8 (show ∀ i,i<l.length->∃ lb lo,a=some ⟨lb,lo,none⟩/\lb<w.heap.size/\w.cell? ⟨lb,lo+i,none⟩=some (.string (DH l i)) from fun i x=>by
  rcases hl with ⟨_,e⟩ | ⟨lb,lo,cap,e,_,_,h3,t⟩
  ·rw [e] at x;simp at x
  ·cases e
   refine ⟨lb,lo,rfl,h3,?_⟩;have:=t i _ (FD x);rwa [AY] at this)
 clear hl
 obtain ⟨n,hn⟩:∃ n,n=l.length:=⟨_,rfl⟩
 rw [<-hn] at d g hc |-
 clear hn
 unfold maxLen at g
 go_enter Tryz.func5,Tryz.ntmps5
 go_wp2_with fail
 go_loopw [3,4] (fun u s wr=>∃ (i:Nat),s=.int .i64 i/\i<=min n 4/\Hid (Dp w [] [⟨9,1,u,i,((List.range i).map fun j=>Value.string ((DH l j).extract 0 (min (DH l j).size 101)))⟩] wr)) (fun _ s _=>4-(intOf s).toNat)
 case atStart=>exact ⟨0,rfl,Ad,f⟩
 case round =>
  clear f;obtain ⟨i,rfl,x,f⟩:=hrel;by_cases y:i<n;case neg =>
   have m:¬ (i:Int)<n:=by omega
   have c:=A8 (d.out _ _ _ Ad f.out);clear f d;go_wp2;go_ret;exact ⟨_,rfl,c.out.1,c.out.2.1,c.out.2.2⟩
  case pos =>
   have m:(i:Int)<n:=by omega
   by_cases A:i<4;case neg =>
    have r:¬ (i:Int)<4:=by omega
    have c:=A8 (d.out _ _ _ Ad f.out);clear f d;go_wp2;go_ret;exact ⟨_,rfl,c.out.1,c.out.2.1,c.out.2.2⟩
   case pos =>
    have r:(i:Int)<4:=by omega
    have z:(0:Int)<=i:=by omega
    obtain ⟨lb,lo,rfl,h3,t⟩:=hc.out i y;obtain ⟨k,hk⟩:∃ k,k=min (DH l i).size 101:=⟨_,rfl⟩;have q:=A8 (show ((List.range (i+1)).map fun j=>Value.string ((DH l j).extract 0 (min (DH l j).size 101)))=((List.range i).map fun j=>Value.string ((DH l j).extract 0 (min (DH l j).size 101)))++[.string ((DH l i).extract 0 k)] by rw [hk,AZ,Bg];rfl);go_upto_region 5 with fail;refine cut_r5 (lb:=lb) (lo:=lo) (n:=n) (cap:=cp) (i:=i) (k:=k) (s:=DH l i) (w:=w) (L:=[]) (R:=[]) (A8 Ad) z m (fun W B=>B.old h3 t) Ad Ad f rfl rfl rfl rfl Ab ?_;intro xx G capG C p o;simp only [Eb,Ce,Cg,A5,A6,p];rw [<-q.out] at o;clear f q p hk h3 t;go_wp2_with fail;go_roundw;case rel=>exact ⟨i+1,by go_num,Ad,o⟩
    case measure=>simp [intOf];omega
end
section
open Go.RowKit
def Fz (l:List ByteArray):Prop:=∀ s∈l,s.size<=201
theorem Ib {s:ByteArray} (h:numB s=true):s.size<=201:=by
 unfold numB at h;rw [Ap] at h;exact EG h.1
theorem Ot {n:Nat} {f:Nat->Int} (h:∀ k,(f k).natAbs<10 ^ 9):Fz ((List.range n).map fun k=>I (f k)):=fun s hs=>by
 obtain ⟨k,_,rfl⟩:=AV.1 hs;exact Ib (Mb (h k))
theorem Rr (x:E6):Fz x.hidN:=Ot fun k=>by
 have h1:=Ec (c:=GI x.hidden k) (m:=6) Ae;have h2:=FX (c:=GI x.hidden k) (m:=6) Ae;unfold E6.hid;omega
theorem Rs (n:Nat) (l:List Int):Fz (Oo n l):=Ot fun k=>by have:=Si l k;omega
theorem Rt (n:Nat) (l:List Int):Fz (Q6 n l):=Ot fun k=>by have:=Oq l k;omega
theorem TJ (d:Int):(I (1+Ge d 9)).size<=201:=by
 have h1:=Ec (c:=d) (m:=9) Ae;have h2:=FX (c:=d) (m:=9) Ae;exact Ib (Mb Ad)
theorem Jq (s:ByteArray) (k:Nat) (h:k<=101):(s.extract 0 k).size<=201:=by
 rw [ByteArray.size_extract];omega
theorem Mn (l:List ByteArray):Fz (Mk l):=fun s hs=>by
 obtain ⟨k,_,rfl⟩:=AV.1 hs;exact Jq _ _ Ad
theorem Ou {l:List ByteArray} {d:ByteArray} (h:DX l d=true):Fz l/\d.size<=201:=by
 unfold DX at h;simp only [Ap] at h;obtain ⟨⟨_,h1⟩,h2,_⟩:=h;refine ⟨fun s hs=>?_,Ib h2⟩;have h3:GN s=false:=by
  have:l.any GN=false:=by simpa using h1
  rw [As] at this;simpa using this s hs
 unfold GN at h3;rw [Bool.or_eq_false_iff] at h3;exact Ib (by simpa using h3.1)
theorem L7 {c:Int} {rows:List (List Int×Int)} {l:List ByteArray} {d:ByteArray} (h:Fu c rows l d=true):Fz l/\d.size<=201:=Ou (I4 h).2.1
theorem MJ {c:Int} {rows:List (List Int×Int)} {l:List ByteArray} (h:Em c rows l=true):Fz l:=fun s hs=>Ib ((IQ h).2.2 s hs)
theorem Jf:Fz []:=fun s hs=>by cases hs
theorem L8:(⟨#[]⟩:ByteArray).size<=201:=by decide
theorem GP.refused {x:DG} {w w':World} (h:Gk x=false) (hb:Below w.heap.size w w'):GP x w (.returned (.tuple #[.agg #[.slice none 0 0,.string ⟨#[]⟩],.int .i64 60])) w' :=
 GP.bad (by unfold JG;rw [h];rfl) hb
theorem mix_gen (x:DG) (va vb:Value) (w:World) (hE:Fp w) (hA:DS w va x.na) (a:DS w vb x.nb) :
  Calls Tryz.prog 18 #[.agg #[va,.string x.da],.agg #[vb,.string x.db],.int .i64 x.p,.int .i64 x.q] w (GP x w):=by
 cases h:Gk x
 ·exact (mix_bad x va vb w hA a h).mono fun e w' ⟨he,hb⟩=>by rw [he];exact GP.refused h hb
 ·exact Vl x va vb w hE hA a h
theorem Vo (x:DG) (va vb:Value) (w:World) (hA:DS w va x.na) (b:DS w vb x.nb) (a:x.Sz) :
  Calls Tryz.prog 20 #[.agg #[va,.string x.da],.agg #[vb,.string x.db],.int .i64 x.p,.int .i64 x.q] w (GP x w):=by
 cases h:Gk x
 ·exact (Vn x va vb w hA b a h).mono fun e w' ⟨he,hb⟩=>by rw [he];exact GP.refused h hb
 ·exact rmix_ok x va vb w hA b a h
structure TZ (W:World) (v:Value) (l:List ByteArray):Prop where
 sl:DS W v l
 ty:TH W v
theorem TZ.below {W W':World} {v:Value} {l:List ByteArray} (h:TZ W v l) (hb:Below W.heap.size W W'):TZ W' v l:=⟨h.sl.below hb,h.ty.below hb⟩
theorem TZ.st2 {W:World} {v:Value} {l:List ByteArray} {b:Nat} {cs:Array Value} {t:TypeId} (h:TZ W v l) (hb:Ds W b cs t) (ht:t≠9) (i j:Nat) (x y:Value):DS ((W.setCell ⟨b,i,none⟩ x).setCell ⟨b,j,none⟩ y) v l:=by
 have a:Dr [b] W ((W.setCell ⟨b,i,none⟩ x).setCell ⟨b,j,none⟩ y):=((Dr.refl [b] W).setCell (p:=⟨b,i,none⟩) Af x).setCell (p:=⟨b,j,none⟩) Af y;rcases h.sl with h1 | ⟨g,off,cap,e,h1,h2,h3,d⟩
 ·exact .inl h1
 ·refine .inr ⟨g,off,cap,e,h1,h2,A9 h3 a.size,fun k s hk=>?_⟩
  have hne:g≠b:=fun c=>by
   obtain ⟨ds,hd⟩:=h.ty g (by rw [e];rfl);rw [c] at hd;have:=hb.symm.trans hd;cases this;exact ht rfl
  have:=d k s hk;unfold QR at this |-;rw [Dw (a.block g h3 (by simpa using hne))];exact this
theorem Nq {x:DG} {w:World} {e:Ending} {w':World} (h:GP x w e w'):∃ a n cp,e=.returned (.tuple #[.agg #[.slice a n cp,.string (Kf x).2.1],.int .i64 (Kf x).2.2])/\TZ w' (.slice a n cp) (Kf x).1/\Below w.heap.size w w':=by
 obtain ⟨hb,v,hs,rfl,ht⟩:=h;obtain ⟨a,cp,rfl⟩:=hs.shape;exact ⟨a,_,cp,rfl,⟨hs,ht⟩,hb⟩
def SolQ (c:Int) (rows:List (List Int×Int)) (w:World) (e:Ending) (w':World):Prop:=Below w.heap.size w w'/\∃ (f:Bool) (a:Option Addr) (n k:Nat) (nums:List ByteArray) (d:ByteArray) (a2:Option Addr) (n2 k2:Nat) (ws:List ByteArray),
 e=.returned (.tuple #[.agg #[.bool f,.slice a n k,.string d,.slice a2 n2 k2],.int .i64 (if Ea c rows then 0 else 60)])/\DS w' (.slice a n k) nums/\Fz nums/\d.size<=201/\DS w' (.slice a2 n2 k2) ws/\Fz ws
theorem TK (c:Int) (v:Value) (rows:List (List Int×Int)) (w:World) (hE:Fp w) (h:EX w v rows) (d:rows.length<=8) :
  Calls Tryz.prog 9 #[.agg #[.int .i64 c,v]] w (SolQ c rows w):=by
 cases hv:Ea c rows
 ·refine (Nh c v rows w h hv).mono fun e w' ⟨he,hb⟩=>?_
  exact ⟨hb,false,none,0,0,[],⟨#[]⟩,none,0,0,[],by rw [he,hv];rfl,JJ.nil _,Jf,L8,JJ.nil _,Jf⟩
 ·obtain ⟨n,rfl⟩:∃ n:Nat,c=n:=⟨c.toNat,by
   have b:=hv;unfold Ea at b;simp only [Ap,Aq] at b;omega⟩
  refine (KD n v rows w hE h hv d).mono fun e w' ⟨hb,hh⟩=>⟨hb,?_⟩
  rcases hh with ⟨nv,nums,den,rfl,hn,hc⟩ | ⟨wv,ws,rfl,hw,hr⟩
  ·obtain ⟨a,k,rfl⟩:=hn.shape
   exact ⟨true,a,_,k,nums,den,none,0,0,[],by rw [hv];rfl,hn,(L7 hc).1,(L7 hc).2,JJ.nil _,Jf⟩
  ·obtain ⟨a,k,rfl⟩:=hw.shape
   exact ⟨false,none,0,0,[],⟨#[]⟩,a,_,k,ws,by rw [hv];rfl,JJ.nil _,Jf,L8,hw,MJ hr⟩
end
section
open Go.RowKit Go.ChangeShapes
section
variable {H:Type} {enc:TypeId×Value->H} {P:Program}
theorem Rx {W W':World} (hb:Below W.heap.size W W') {p:MemPlace} (h:p.block<W.heap.size):W.sameAt W' p:=by
 cases p with
 | cell b off=>exact hb.cell (p:=⟨b,off,none⟩) h
 | map b=>exact hb.block b h
theorem TT (hl:laidOutB P=true) {t:TypeId} (hr:P.readableRec t=true) (a:t<P.types.size) (hsz:∀ u e,InBook P t u->P.underlying u=some (.slice e)->0<P.cellsOf e)
  {W W':World} (hb:Below W.heap.size W W') {v:Value} {d:DataW H} {ps:List MemPlace} (hlt:∀ p∈ps,p.block<W.heap.size) (h:DataW.Trod enc P W 0 (fun _=>true) true t v d ps) :
  DataW.Trod enc P W' 0 (fun b=>decide (b<W.heap.size)) true t v d ps:=by
 obtain ⟨n,hn⟩:=h
 refine ⟨n,DataW.trod_stays (kids_book hl hr) (fun {u e} hT hu=>hsz u e hT hu) (fun e=>by cases e) ⟨a,book_self t⟩ hn (fun p hp=>Rx hb (hlt p hp)) (fun p hp=>by simpa using hlt p hp)⟩
def rowsB (P:Program) (ts:List TypeId):Bool:=ts.all fun t=>P.readableRec t&&decide (t<P.types.size)&&(P.book t).all fun u=>match P.underlying u with
 | some (.slice e)=>decide (0<P.cellsOf e)
 | _=>true
theorem Ns (hl:laidOutB P=true) {W W':World} (hb:Below W.heap.size W W'):∀ {ts:List TypeId} {vs:List Value} {ds:List (DataW H)} {ps:List MemPlace},rowsB P ts=true ->
  DataW.TrodAll enc P W 0 (fun _=>true) true ts vs ds ps->DataW.TrodAll enc P W' 0 (fun b=>decide (b<W.heap.size)) true ts vs ds ps
 | [],[],[],_,_,h=>h
 | t :: ts,v :: vs,d :: ds,ps,hr,h=>by
  have hlt:=h.lt;obtain ⟨p,q,h1,h2,e⟩:=h;unfold rowsB at hr;rw [List.all_cons,Ap] at hr;obtain ⟨a,c⟩:=hr;simp only [Ap,Aq,AE] at a;obtain ⟨⟨r1,i⟩,r3⟩:=a;refine ⟨p,q,TT hl r1 i (fun u e g f=>?_) hb (fun x hx=>hlt x (by rw [e];exact Bu _ hx)) h1,Ns hl hb c h2,e⟩;have:=r3 u g.2;rw [f] at this;simpa using this
end
end
section
open Go.RowKit Go.ChangeShapes Go.WideShapes Go.Deep
theorem TU {w:World} {b:Nat} {x:TypeId×Nat} (h:w.shape? b=some x):b<w.heap.size:=by
 unfold World.shape? at h;by_cases hb:b<w.heap.size
 ·exact hb
 ·rw [BP Ad] at h;simp at h
theorem GB {n:Int} (h:(Lit.int .i64 n).wf=true):Dy n:=by simpa [Dy,Lit.wf,IntKind.min,IntKind.max,IntKind.signed,IntKind.bits] using h
section
variable {H:Type} {enc:TypeId×Value->H} {W:World} {sp:Nat->Bool} {held:Bool}
theorem KP {t e:TypeId} {k b0 fuel:Nat} {v:Value} {y:DataW H×List MemPlace} (o:Tryz.prog.underlying t=some (.slice e)) (hc:Tryz.prog.cellsOf e=k) (hk:Cell.okWide Tryz.prog W .any b0 t v) (h:DataW.trod enc Tryz.prog W 0 sp held fuel t [v]=some y) :
  v=.slice none 0 0∨∃ b off len cap,v=.slice (some ⟨b,off,none⟩) len cap/\len<=cap/\cap<=maxLen/\b<W.heap.size/\∀ i,i<len->∃ (cs:List Value) (n:Nat) (x:DataW H×List MemPlace),cs.length=k/\(∀ (j:Nat) (h:j<cs.length),W.cell? ⟨b,off+i*k+j,none⟩=some cs[j])/\DataW.trod enc Tryz.prog W 0 sp held n e cs=some x:=by
 rcases open_slice o h with ⟨hcs,_⟩ | ⟨a,len,cap,m,n,D,Pl,hcs,_,hl,p,hmm,_,hx⟩
 ·left;simpa using hcs
 ·right
  obtain rfl:v=.slice (some a) len cap:=by simpa using hcs
  have g:W.has Tryz.prog .any b0 a e cap:=by
   simp only [Cell.okWide,o,Cell.ok] at hk;exact hk.2.2
  obtain ⟨_,f,row,cells,l,_⟩:=g;have hlt:=TU l;obtain ⟨b,off,spot⟩:=a;obtain rfl:spot=none:=f;refine ⟨b,off,len,cap,rfl,hl,p,hlt,fun i r=>?_⟩;obtain ⟨cs',h1,h2⟩:=hx i (by rw [hmm];split <;> omega);rw [hc] at h1;obtain ⟨_,d,c⟩:=World.cells?_some h1;refine ⟨cs',n,_,d,fun j hj=>?_,h2⟩;have q:=c j Ad;rw [add_add,add_plain,<-Nat.add_assoc] at q;rw [q,Ax hj]
theorem Qd {t e:TypeId} {b0:Nat} {v:Value} {d:DataW H} {p:List MemPlace} (b:Tryz.prog.underlying t=some (.slice e)) (hv:Value.okWide Tryz.prog W .any b0 t v) (h:DataW.Trod enc Tryz.prog W 0 sp held t v d p):∃ fuel,Cell.okWide Tryz.prog W .any b0 t v/\DataW.trod enc Tryz.prog W 0 sp held fuel t [v]=some (d,p):=by
 obtain ⟨a,len,cap,rfl⟩:=okWide_slice b hv;obtain ⟨fuel,c⟩:=h;exact ⟨fuel,by simpa [Value.okWide,b] using hv,c⟩
theorem JH {b0 fuel:Nat} {v:Value} {y:DataW H×List MemPlace} (hk:Cell.okWide Tryz.prog W .any b0 22 v) (h:DataW.trod enc Tryz.prog W 0 sp held fuel 22 [v]=some y):∃ l:List Int,Sl W v l/\∀ z∈l,Dy z:=by
 have p:Tryz.prog.underlying 3=some (.int .i64):=by kernel_rfl
 rcases KP Tryz.underlying22 (k:=1) Ab hk h with rfl | ⟨b,off,len,cap,rfl,hl,o,hlt,hx⟩
 ·exact ⟨[],Sl.nil W,fun z m=>by cases m⟩
 ·have each:∀ i,i<len->∃ z:Int,W.cell? ⟨b,off+i,none⟩=some (.int .i64 z)/\Dy z:=fun i a=>by
   obtain ⟨cs,n,x,e,c,ht⟩:=hx i a;match cs,e with
   | [c0],_ =>
    obtain ⟨z0,g,_,f0⟩:=DataW.trod_int p ht;have q:=c 0 Af;rw [AY] at q;simp at g;subst g;exact ⟨z0,q,GB f0⟩
  obtain ⟨q,hq⟩:=choose_lt (α:=Int) (h:=each)
  refine ⟨(List.range len).map q,.inr ⟨b,off,cap,Af,by simpa using hl,o,hlt,fun j hj=>?_⟩,fun d hd=>?_⟩
  ·have f:j<len:=by simpa using hj
   rw [V9 _ f];exact (hq j f).1
  ·obtain ⟨i,a,rfl⟩:=AV.1 hd
   exact (hq i (AB.1 a)).2
theorem Mt {b0 fuel:Nat} {v:Value} {y:DataW H×List MemPlace} (hk:Cell.okWide Tryz.prog W .any b0 28 v) (h:DataW.trod enc Tryz.prog W 0 sp held fuel 28 [v]=some y):∃ l:List ByteArray,DS W v l/\∀ s∈l,s.size<=maxLen:=by
 rcases KP Tryz.underlying28 (k:=1) Ab hk h with rfl | ⟨b,off,len,cap,rfl,hl,o,hlt,hx⟩
 ·exact ⟨[],JJ.nil W,fun z m=>by cases m⟩
 ·have each:∀ i,i<len->∃ s:ByteArray,W.cell? ⟨b,off+i,none⟩=some (.string s)/\s.size<=maxLen:=fun i a=>by
   obtain ⟨cs,n,x,e,c,ht⟩:=hx i a;match cs,e with
   | [c0],_ =>
    obtain ⟨z0,g,_,f0⟩:=DataW.trod_string Tryz.underlying9 ht;have q:=c 0 Af;rw [AY] at q;simp at g;subst g;exact ⟨z0,q,f0⟩
  haveI:Inhabited ByteArray:=⟨⟨#[]⟩⟩
  obtain ⟨q,hq⟩:=choose_lt (α:=ByteArray) (h:=each)
  refine ⟨(List.range len).map q,.inr ⟨b,off,cap,Af,by simpa using hl,o,hlt,fun j x hj=>?_⟩,fun d hd=>?_⟩
  ·have f:j<len:=by have:=(BR.1 hj).1;simpa using this
   rw [AQ,AR f] at hj;cases hj;rw [AY];exact (hq j f).1
  ·obtain ⟨i,a,rfl⟩:=AV.1 hd
   exact (hq i (AB.1 a)).2
theorem TW:Tryz.prog.cellTypes Tryz.prog.depth 24=some [3,3,22,22,3]:=by kernel_rfl
theorem Vw {b0:Nat} {v:Value} {d:DataW H} {p:List MemPlace} (hv:Value.okWide Tryz.prog W .any b0 24 v) (h:DataW.Trod enc Tryz.prog W 0 sp held 24 v d p) :
  ∃ (x:E6) (vc vh:Value),v=.agg #[.int .i64 x.cols,.int .i64 x.rows,vc,vh,.int .i64 x.miss]/\Kh W x vc vh:=by
 have m:Tryz.prog.underlying 3=some (.int .i64):=by kernel_rfl
 simp only [Value.okWide,Tryz.underlying24] at hv
 obtain ⟨cs,rfl,hsz,ts,g,s,b⟩:=hv
 rw [TW] at g
 cases g
 obtain ⟨fuel,D⟩:=h
 have i:cs.size=5:=by
  have:Tryz.prog.cellsOf 24=5:=by kernel_rfl
  simpa [this] using hsz
 obtain ⟨csl⟩:=cs
 match csl,i with
 | [c0,c1,c2,c3,c4],_ =>
  obtain ⟨xs,n,_,_,hl,e,a⟩:=DataW.trod_struct Tryz.underlying24 D;have c:Tryz.prog.cellsOf 3=1:=by kernel_rfl
  have f:Tryz.prog.cellsOf 22=1:=by kernel_rfl
  have l:xs.length=5:=e;match xs,l with
  | [y0,y1,y2,y3,y4],_ =>
  have g0:DataW.trod enc Tryz.prog W 0 sp held n 3 [c0]=some y0:=by have:=a 0 _ rfl;simpa [c,Value.cells] using this
  have B:DataW.trod enc Tryz.prog W 0 sp held n 3 [c1]=some y1:=by have:=a 1 _ rfl;simpa [c,Value.cells] using this
  have C:DataW.trod enc Tryz.prog W 0 sp held n 22 [c2]=some y2:=by have:=a 2 _ rfl;simpa [f,Value.cells] using this
  have y:DataW.trod enc Tryz.prog W 0 sp held n 22 [c3]=some y3:=by have:=a 3 _ rfl;simpa [f,Value.cells] using this
  have A:DataW.trod enc Tryz.prog W 0 sp held n 3 [c4]=some y4:=by have:=a 4 _ rfl;simpa [c,Value.cells] using this
  obtain ⟨z0,t,_,f0⟩:=DataW.trod_int m g0;obtain ⟨z1,u,_,z⟩:=DataW.trod_int m B;obtain ⟨z4,r,_,w⟩:=DataW.trod_int m A;obtain ⟨F,q,k2⟩:=b 2 c2 rfl;obtain ⟨E,o,k3⟩:=b 3 c3 rfl;cases q;cases o;obtain ⟨lc,k,flc⟩:=JH k2 C;obtain ⟨lh,j,flh⟩:=JH k3 y;simp at t u r;subst t;subst u;subst r;exact ⟨⟨z0,z1,lc,lh,z4⟩,c2,c3,rfl,k,j,⟨GB f0,GB z,GB w⟩,flc,flh⟩
theorem Ry {b0:Nat} {v:Value} {d:DataW H} {p:List MemPlace} (hv:Value.okWide Tryz.prog W .any b0 22 v) (h:DataW.Trod enc Tryz.prog W 0 sp held 22 v d p):∃ l:List Int,Sl W v l/\∀ z∈l,Dy z:=by
 obtain ⟨fuel,h1,h2⟩:=Qd Tryz.underlying22 hv h;exact JH h1 h2
theorem Rz {b0:Nat} {v:Value} {d:DataW H} {p:List MemPlace} (hv:Value.okWide Tryz.prog W .any b0 28 v) (h:DataW.Trod enc Tryz.prog W 0 sp held 28 v d p):∃ l:List ByteArray,DS W v l/\∀ s∈l,s.size<=maxLen:=by
 obtain ⟨fuel,h1,h2⟩:=Qd Tryz.underlying28 hv h;exact Mt h1 h2
end
section
variable {H:Type} {enc:TypeId×Value->H} {W:World} {sp:Nat->Bool} {held:Bool}
theorem Vx:Tryz.prog.cellTypes Tryz.prog.depth 30=some [28,9]:=by kernel_rfl
theorem TX {b0:Nat} {v:Value} {d:DataW H} {p:List MemPlace} (hv:Value.okWide Tryz.prog W .any b0 30 v) (h:DataW.Trod enc Tryz.prog W 0 sp held 30 v d p) :
  ∃ (vn:Value) (l:List ByteArray) (s:ByteArray),v=.agg #[vn,.string s]/\DS W vn l/\(∀ s∈l,s.size<=maxLen)/\s.size<=maxLen:=by
 simp only [Value.okWide,Tryz.underlying30] at hv
 obtain ⟨cs,rfl,hsz,ts,f,m,b⟩:=hv
 rw [Vx] at f
 cases f
 obtain ⟨fuel,t⟩:=h
 have e:cs.size=2:=by
  have:Tryz.prog.cellsOf 30=2:=by kernel_rfl
  simpa [this] using hsz
 obtain ⟨csl⟩:=cs
 match csl,e with
 | [c0,c1],_ =>
  obtain ⟨xs,n,_,_,hl,a,c⟩:=DataW.trod_struct Tryz.underlying30 t;have j:Tryz.prog.cellsOf 9=1:=by kernel_rfl
  have g:Tryz.prog.cellsOf 28=1:=by kernel_rfl
  have k:xs.length=2:=a;match xs,k with
  | [y0,y1],_ =>
  have g0:DataW.trod enc Tryz.prog W 0 sp held n 28 [c0]=some y0:=by have:=c 0 _ rfl;simpa [g,Value.cells] using this
  have q:DataW.trod enc Tryz.prog W 0 sp held n 9 [c1]=some y1:=by have:=c 1 _ rfl;simpa [j,Value.cells] using this
  obtain ⟨z1,o,_,u⟩:=DataW.trod_string Tryz.underlying9 q;obtain ⟨w,hu0,r⟩:=b 0 c0 rfl;cases hu0;obtain ⟨l,i,flc⟩:=Mt r g0;simp at o;subst o;exact ⟨c0,l,z1,rfl,i,flc,u⟩
end
section
variable {H:Type} {enc:TypeId×Value->H} {W:World} {held:Bool}
theorem RB {b0 fuel:Nat} {v:Value} {y:DataW H×List MemPlace} (h:DataW.trod enc Tryz.prog W b0 (fun _=>true) held fuel 22 [v]=some y):∃ l:List Int,IE W v l/\∀ z∈l,Dy z:=by
 have t:Tryz.prog.underlying 22=some (.slice 3):=by kernel_rfl
 have w:Tryz.prog.underlying 3=some (.int .i64):=by kernel_rfl
 have hc:Tryz.prog.cellsOf 3=1:=by kernel_rfl
 rcases open_slice t h with ⟨hcs,_⟩ | ⟨a,len,cap,m,n,D,Pl,hcs,_,hl,u,hmm,_,hx⟩
 ·exact ⟨[],.inl ⟨⟨none,by simpa using hcs⟩,rfl⟩,fun z k=>by cases k⟩
 ·obtain rfl:v=.slice (some a) len cap:=by simpa using hcs
  obtain rfl:m=cap:=by simpa using hmm
  by_cases h0:m=0
  ·subst h0
   obtain rfl:len=0:=by omega
   exact ⟨[],.inl ⟨⟨some a,rfl⟩,rfl⟩,fun z k=>by cases k⟩
  ·have f:∀ i,i<m->∃ z:Int,W.cell? (a.add i)=some (.int .i64 z)/\Dy z:=fun i c=>by
    obtain ⟨cs,h1,h2⟩:=hx i c;rw [hc,AY] at h1;obtain ⟨_,g,e⟩:=World.cells?_some h1;match cs,g with
    | [c0],_ =>
     obtain ⟨z0,r,_,f0⟩:=DataW.trod_int w h2;have q:=e 0 Ad;rw [add_add,Nat.add_zero] at q;simp at r;subst r;exact ⟨z0,q,GB f0⟩
   obtain ⟨z0,s,_⟩:=f 0 Ad
   have o:a.spot=none:=by simpa [Addr.add] using World.cell?_spot s
   have hlt:a.block<W.heap.size:=by simpa [Addr.add] using D7 W _ s
   obtain ⟨b,off,spot⟩:=a
   obtain rfl:spot=none:=o
   obtain ⟨q,hq⟩:=choose_lt (α:=Int) (h:=f)
   refine ⟨(List.range len).map q,.inr ⟨b,off,m,Af,by simpa using hl,u,hlt,fun j hj=>?_⟩,fun d hd=>?_⟩
   ·have p:j<len:=by simpa using hj
    rw [V9 _ p];have:=(hq j Ad).1;rwa [add_plain] at this
   ·obtain ⟨i,c,rfl⟩:=AV.1 hd
    exact (hq i (by have:=AB.1 c;omega)).2
theorem Vy:Tryz.prog.cellTypes Tryz.prog.depth 27=some [3,25]:=by kernel_rfl
theorem TY {b0:Nat} {v:Value} {d:DataW H} {p:List MemPlace} (hv:Value.okWide Tryz.prog W .any b0 27 v) (h:DataW.Trod enc Tryz.prog W 0 (fun _=>true) held 27 v d p) :
  ∃ (c:Int) (vr:Value) (rows:List (List Int×Int)),v=.agg #[.int .i64 c,vr]/\EX W vr rows/\(∀ r∈rows,(∀ z∈r.1,Dy z)/\Dy r.2)/\Dy c:=by
 have L:Tryz.prog.underlying 3=some (.int .i64):=by kernel_rfl
 simp only [Value.okWide,Tryz.underlying27] at hv
 obtain ⟨cs,rfl,hsz,ts,y,G,s⟩:=hv
 rw [Vy] at y
 cases y
 obtain ⟨fuel,P⟩:=h
 have u:cs.size=2:=by
  have:Tryz.prog.cellsOf 27=2:=by kernel_rfl
  simpa [this] using hsz
 obtain ⟨csl⟩:=cs
 match csl,u with
 | [c0,c1],_ =>
  obtain ⟨xs,n,_,_,hl,g,t⟩:=DataW.trod_struct Tryz.underlying27 P;have A:Tryz.prog.cellsOf 3=1:=by kernel_rfl
  have D:Tryz.prog.cellsOf 25=1:=by kernel_rfl
  have E:Tryz.prog.cellsOf 22=1:=by kernel_rfl
  have B:xs.length=2:=g;match xs,B with
  | [y0,y1],_ =>
  have g0:DataW.trod enc Tryz.prog W 0 (fun _=>true) held n 3 [c0]=some y0:=by have:=t 0 _ rfl;simpa [A,Value.cells] using this
  have M:DataW.trod enc Tryz.prog W 0 (fun _=>true) held n 25 [c1]=some y1:=by have:=t 1 _ rfl;simpa [D,Value.cells] using this
  obtain ⟨z0,I,_,f0⟩:=DataW.trod_int L g0;obtain ⟨R,hu1,k1⟩:=s 1 c1 rfl;cases hu1;simp at I;subst I;rcases KP Tryz.underlying25 (k:=2) Ab k1 M with rfl | ⟨b,off,len,cap,rfl,hl',O,hlt,hx⟩
  ·exact ⟨z0,_,[],rfl,JJ.nil W,(fun r hr=>by cases hr),GB f0⟩
  ·have each:∀ i,i<len->∃ r:List Int×Int,CEq W b (off+i*2) r/\(∀ z∈r.1,Dy z)/\Dy r.2:=fun i m=>by
    obtain ⟨ds,n2,x,f,a,ht⟩:=hx i m;match ds,f with
    | [d0,d1],_ =>
     obtain ⟨xs2,J,_,_,_,o,e⟩:=DataW.trod_struct Tryz.underlying57 ht;have C:xs2.length=2:=o;match xs2,C with
     | [w0,w1],_ =>
     have N:DataW.trod enc Tryz.prog W 0 (fun _=>true) held J 22 [d0]=some w0:=by have:=e 0 _ rfl;simpa [E,Value.cells] using this
     have k2:DataW.trod enc Tryz.prog W 0 (fun _=>true) held J 3 [d1]=some w1:=by have:=e 1 _ rfl;simpa [A,Value.cells] using this
     obtain ⟨l,F,flc⟩:=RB N;obtain ⟨z1,K,_,Q⟩:=DataW.trod_int L k2;simp at K;subst K;exact ⟨(l,z1),⟨d0,a 0 Af,F,a 1 Af⟩,flc,GB Q⟩
   obtain ⟨q,hq⟩:=choose_lt (α:=List Int×Int) (h:=each)
   refine ⟨z0,_,(List.range len).map q,rfl,.inr ⟨b,off,cap,Af,by simpa using hl',O,hlt,fun j x hj=>?_⟩,fun r hr=>?_,GB f0⟩
   ·have w:j<len:=by have:=(BR.1 hj).1;simpa using this
    rw [AQ,AR w] at hj;cases hj;exact (hq j w).1
   ·obtain ⟨i,m,rfl⟩:=AV.1 hr
    exact (hq i (AB.1 m)).2
end
end
end Go.Proofs.YtioamkekjjkigaaGreatDoor
