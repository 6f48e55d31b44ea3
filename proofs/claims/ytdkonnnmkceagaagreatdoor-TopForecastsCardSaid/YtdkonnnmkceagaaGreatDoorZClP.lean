/- ClP, LwM, ClA, RgV, ClB, ClC, ClD, ClE, ClF -/
import Derived.Test.YtdkonnnmkceagaaGreatDoorZPkF
import Derived.Test.YtdkonnnmkceagaaGreatDoorZRgI
set_option maxHeartbeats 8000000
set_option maxRecDepth 100000
namespace Go.Proofs.YtdkonnnmkceagaaGreatDoor
section
namespace Clk
def Gu (t:Int) (i:Nat):Int:=max 0 (min (t-100*i) 100)
theorem Ry {t t':Int} (h:t<=t') (i:Nat):Gu t i<=Gu t' i:=by unfold Gu;omega
def Gw (c:Nat->Int) (t:Int):Nat->Int
 | 0=>0
 | n+1=>Gw c t n+c n*Gu t n
def Pe (t:Int):Nat->Int
 | 0=>0
 | n+1=>Pe t n+Gu t n
theorem NO {t:Int} (h:0<=t):∀ n:Nat,Pe t n=min t (100*n)
 | 0=>by show (0:Int)=_;omega
 | n+1=>by
  show Pe t n+Gu t n=_;rw [NO h n];unfold Gu;have:((n+1:Nat):Int)=n+1:=by omega
  omega
theorem Rz {c:Nat->Int} {d:Int} (hc:∀ i,-d<=c i/\c i<=d) {t t':Int} (h:t<=t'):∀ n,-(d*(Pe t' n-Pe t n))<=Gw c t' n-Gw c t n/\Gw c t' n-Gw c t n<=d*(Pe t' n-Pe t n)
 | 0=>by simp [Gw,Pe]
 | n+1=>by
  obtain ⟨h1,h2⟩:=Rz hc h n;have h3:=Ry h n;have h4:=Az (hc n).1 (show (0:Int)<=Gu t' n-Gu t n by omega);have h5:=Az (hc n).2 (show (0:Int)<=Gu t' n-Gu t n by omega);show -(d*(Pe t' n+Gu t' n-(Pe t n+Gu t n)))<=Gw c t' n+c n*Gu t' n-(Gw c t n+c n*Gu t n)/\Gw c t' n+c n*Gu t' n-(Gw c t n+c n*Gu t n)<=d*(Pe t' n+Gu t' n-(Pe t n+Gu t n));rw [Cs] at h4;simp only [C9,C8] at *
  omega
theorem drs_le {c:Nat->Int} {d:Int} (hd:0<=d) (hc:∀ i,-d<=c i/\c i<=d) {t t':Int} (h0:0<=t) (h:t<=t') (n:Nat):-(d*(t'-t))<=Gw c t' n-Gw c t n/\Gw c t' n-Gw c t n<=d*(t'-t):=by
 obtain ⟨h1,h2⟩:=Rz hc h n;have h3:Pe t' n-Pe t n<=t'-t:=by rw [NO h0,NO Ad];omega
 have h4:=BV h3 hd;omega
def Jk (c:Nat->Int) (n:Nat) (t:Int):Int:=Gw c t n+1000*t
theorem Jp {c:Nat->Int} {d:Int} (hd:0<=d) (hc:∀ i,-d<=c i/\c i<=d) {t t':Int} (h0:0<=t) (h:t<=t') (n:Nat):(1000-d)*(t'-t)<=Jk c n t'-Jk c n t/\Jk c n t'-Jk c n t<=(1000+d)*(t'-t):=by
 have:=drs_le hd hc h0 h n;unfold Jk;simp only [Int.sub_mul,Cb,C9] at *
 omega
def DD (st:Int) (c:Nat->Int) (n:Nat) (t:Int):Int:=st+(Jk c n t) / 1000
theorem IC (c:Nat->Int) (n:Nat):Jk c n 0=0:=by
 have:∀ n,Gw c 0 n=0:=fun n=>by
  induction n with
  | zero=>rfl
  | succ n ih=>show Gw c 0 n+c n*Gu 0 n=0;rw [ih,show Gu 0 n=0 by unfold Gu;omega];simp
 unfold Jk;rw [this];rfl
def EC (d n:Int):Int:=if 0<n then 1000*(n-1) / (1000+d)+1 else 0
def EO (d n:Int):Int:=(1000*(n+1)-1) / (1000-d)
theorem KN {c:Nat->Int} {d st:Int} (hd:0<=d/\d<=100) (hc:∀ i,-d<=c i/\c i<=d) {t t':Int} (h0:0<=t) (h:t<=t') (m:Nat):0<=DD st c m t'-DD st c m t/\EC d (DD st c m t'-DD st c m t)<=t'-t/\t'-t<=EO d (DD st c m t'-DD st c m t):=by
 obtain ⟨h1,h2⟩:=Jp hd.1 hc h0 h m;unfold DD;generalize hg:Jk c m t=g at *
 generalize hg':Jk c m t'=g' at *
 have hpos:0<=(1000-d)*(t'-t):=BF Ad Ad;have e:st+g' / 1000-(st+g / 1000)=g' / 1000-g / 1000:=by omega
 rw [e];generalize hn:g' / 1000-g / 1000=n at *
 have hn0:0<=n:=by omega
 have hn1:1000*n<=g'-g+999:=by omega
 have hn2:g'-g<=1000*n+999:=by omega
 refine ⟨hn0,?_,?_⟩
 ·unfold EC
  split
  ·have h3:1000*(n-1)<(1000+d)*(t'-t):=by omega
   have:=Int.ediv_lt_of_lt_mul (show (0:Int)<1000+d by omega) (by rw [AB (t'-t)];exact h3:1000*(n-1)<(t'-t)*(1000+d));omega
  ·omega
 ·unfold EO
  refine (Int.le_ediv_iff_mul_le Ad).2 ?_;rw [AB];omega
structure Rd where
 loc:Int
 lo:Int
 hi:Int
def NP (d loc:Int) (r:Rd):Int:=r.lo+(if loc<r.loc then -EO d (r.loc-loc) else if loc=r.loc then -EO d 0 else EC d (loc-r.loc))
def NQ (d loc:Int) (r:Rd):Int:=r.hi+(if loc<r.loc then -EC d (r.loc-loc) else if loc=r.loc then EO d 0 else EO d (loc-r.loc))
def EP (d loc:Int):List Rd->Int->Int
 | [],a=>a
 | r :: rs,a=>EP d loc rs (max a (NP d loc r))
def DM (d loc:Int):List Rd->Int->Int
 | [],a=>a
 | r :: rs,a=>DM d loc rs (min a (NQ d loc r))
def I6 (st:Int) (c:Nat->Int) (n:Nat) (r:Rd):Prop:=∃ t0,0<=t0/\r.loc=DD st c n t0/\r.lo<=t0/\t0<=r.hi
theorem RB {st d:Int} {c:Nat->Int} {n:Nat} (hd:0<=d/\d<=100) (hc:∀ i,-d<=c i/\c i<=d) {r:Rd} (hr:I6 st c n r) {t:Int} (ht:0<=t):NP d (DD st c n t) r<=t/\t<=NQ d (DD st c n t) r:=by
 obtain ⟨t0,h0,e,h1,h2⟩:=hr;unfold NP NQ;rcases Int.le_total t0 t with h | h
 ·obtain ⟨g0,g1,g2⟩:=KN (st:=st) hd hc h0 h n
  rw [<-e] at g0 g1 g2;rw [AF Ad];by_cases he:DD st c n t=r.loc
  ·rw [he,Int.sub_self] at g1 g2
   simp only [he,if_true,Int.lt_irrefl,if_false];constructor <;> omega
  ·rw [AF he,AF Ad,AF he]
   constructor <;> omega
 ·obtain ⟨g0,g1,g2⟩:=KN (st:=st) hd hc ht h n
  rw [<-e] at g0 g1 g2;by_cases he:DD st c n t=r.loc
  ·rw [he,Int.sub_self] at g1 g2
   simp only [he,if_true,Int.lt_irrefl,if_false];constructor <;> omega
  ·rw [AI Ad,AI Ad]
   constructor <;> omega
theorem Pf {st d:Int} {c:Nat->Int} {n:Nat} (hd:0<=d/\d<=100) (hc:∀ i,-d<=c i/\c i<=d) {t:Int} (ht:0<=t):∀ (rs:List Rd) (a:Int),(∀ r∈rs,I6 st c n r)->a<=t->EP d (DD st c n t) rs a<=t
 | [],_,_,h=>h
 | r :: rs,a,hr,h=>Pf hd hc ht rs _ (fun q hq=>hr q (AZ _ hq)) (by have:=(RB hd hc (hr r AW) ht).1;omega)
theorem Mf {st d:Int} {c:Nat->Int} {n:Nat} (hd:0<=d/\d<=100) (hc:∀ i,-d<=c i/\c i<=d) {t:Int} (ht:0<=t):∀ (rs:List Rd) (a:Int),(∀ r∈rs,I6 st c n r)->t<=a->t<=DM d (DD st c n t) rs a
 | [],_,_,h=>h
 | r :: rs,a,hr,h=>Mf hd hc ht rs _ (fun q hq=>hr q (AZ _ hq)) (by have:=(RB hd hc (hr r AW) ht).2;omega)
def DZ (rate s first last:Int):Int:=rate*max (max (s-first) (last-s)) (max (first-s) (s-last))
theorem RD {rate s first last t:Int} (hr:0<=rate) (h1:first<=t) (h2:t<=last):rate*(s-t)<=DZ rate s first last/\rate*(t-s)<=DZ rate s first last:=by
 unfold DZ;exact ⟨BV Ad hr,BV Ad hr⟩
theorem Q7 {rate each v0 s first last t val tol:Int} (hr:-rate<=each/\each<=rate) (h1:first<=t) (h2:t<=last) (hv:val-tol<=v0+each*t/\v0+each*t<=val+tol):val-tol-DZ rate s first last<=v0+each*s/\v0+each*s<=val+tol+DZ rate s first last:=by
 obtain ⟨g1,g2⟩:=RD (s:=s) (show 0<=rate by omega) h1 h2;rcases Int.le_total t s with h | h
 ·have a1:=Az hr.1 (show 0<=s-t by omega)
  have a2:=Az hr.2 (show 0<=s-t by omega);rw [Cs] at a1;rw [C9 each] at a1 a2;omega
 ·have a1:=Az hr.1 (show 0<=t-s by omega)
  have a2:=Az hr.2 (show 0<=t-s by omega);rw [Cs] at a1;rw [C9 each] at a1 a2;omega
end Clk
end
section
open Go.RowKit
def IA {α:Type} (k:Nat) (C:World->Nat->Nat->α->Prop) (W:World) (v:Value) (l:List α):Prop :=
 (v=.slice none 0 0/\l=[])∨∃ b off cap,v=.slice (some ⟨b,off,none⟩) l.length cap/\l.length<=cap/\cap<=maxLen/\b<W.heap.size/\∀ j x,l[j]? = some x->C W b (off+j*k) x
def IM {α:Type} (C:World->Nat->Nat->α->Prop):Prop:=∀ {W W':World} {b o:Nat} {x:α},b<W.heap.size->Below W.heap.size W W'->C W b o x->C W' b o x
theorem IA.nil {α:Type} {k:Nat} {C:World->Nat->Nat->α->Prop} (W:World):IA k C W (.slice none 0 0) []:=.inl ⟨rfl,rfl⟩
theorem IA.shape {α:Type} {k:Nat} {C:World->Nat->Nat->α->Prop} {W:World} {v:Value} {l:List α} (h:IA k C W v l):∃ a cap,v=.slice a l.length cap:=by
 rcases h with ⟨rfl,rfl⟩ | ⟨b,off,cap,rfl,_⟩
 ·exact ⟨_,_,rfl⟩
 ·exact ⟨_,_,rfl⟩
theorem IA.below {α:Type} {k:Nat} {C:World->Nat->Nat->α->Prop} (hC:IM C) {W W':World} {v:Value} {l:List α} (h:IA k C W v l) (hb:Below W.heap.size W W'):IA k C W' v l:=by
 rcases h with h | ⟨b,off,cap,rfl,h1,h2,h3,h4⟩
 ·exact .inl h
 ·exact .inr ⟨b,off,cap,rfl,h1,h2,A9 h3 hb.size,fun j x hj=>hC h3 hb (h4 j x hj)⟩
theorem IA.len_le {α:Type} {k:Nat} {C:World->Nat->Nat->α->Prop} {W:World} {v:Value} {l:List α} (h:IA k C W v l):l.length<=maxLen:=by
 rcases h with ⟨_,rfl⟩ | ⟨_,_,_,_,h1,h2,_⟩
 ·simp
 ·exact AN h1 h2
theorem IA.take {α:Type} {k:Nat} {C:World->Nat->Nat->α->Prop} {W:World} {b off cap:Nat} {l:List α} (h1:l.length<=cap) (h2:cap<=maxLen) (h3:b<W.heap.size)
  (h4:∀ j x,l[j]? = some x->C W b (off+j*k) x) {n:Nat} (hn:n<=l.length):IA k C W (.slice (some ⟨b,off,none⟩) n cap) (l.take n):=by
 refine .inr ⟨b,off,cap,by rw [B9,Be hn],by rw [B9,Be hn];omega,h2,h3,fun j x hj=>h4 j x ?_⟩
 rw [List.getElem?_take] at hj
 split at hj
 ·exact hj
 ·cases hj
theorem IA.ptr_lt {α:Type} {k:Nat} {C:World->Nat->Nat->α->Prop} {W:World} {v:Value} {l:List α} (h:IA k C W v l):∀ b o,v.ptr? = some (b,o)->b<W.heap.size:=by
 intro b o e;rcases h with ⟨rfl,_⟩ | ⟨b',off,cap,rfl,h1,h2,h3,h4⟩
 ·cases e
 ·cases e;exact h3
theorem IA.of_own {α:Type} {k:Nat} {C:World->Nat->Nat->α->Prop} {W:World} {base:Nat} {e:TypeId} {v:Value} {n:Nat} {cs:List Value} {l:List α} (h:W.ownsRow base e k v n cs) (hn:n=l.length)
  (hC:∀ b,b<W.heap.size->(∀ i x,cs[i]? = some x->W.cell? ⟨b,i,none⟩=some x)->∀ j x,l[j]? = some x->C W b (j*k) x):IA k C W v l:=by
 rcases h.2 with ⟨rfl,h0⟩ | ⟨g,cap,cur,rfl,hb,hg,hn',hm,hs,ht⟩
 ·subst hn
  exact .inl ⟨rfl,AS h0⟩
 ·subst hn
  refine .inr ⟨g,0,cap,rfl,hn',hm,(Bu.1 hg).1,fun j x hj=>?_⟩;rw [Br];refine hC g (Bu.1 hg).1 (fun i y hi=>?_) j x hj;have hc:=h.cells (g:=g) rfl i y hi;have hadd:(⟨g,0,none⟩:Addr).add i=⟨g,0+i,none⟩:=by unfold Addr.add;split <;> simp_all
  rwa [hadd,Br] at hc
def SN (W:World) (b o:Nat) (s:ByteArray):Prop:=W.cell? ⟨b,o,none⟩=some (.string s)
theorem SN.stable:IM SN:=fun h hb hc=>(hb.cell (p:=⟨_,_,none⟩) h).trans hc
abbrev SlS (W:World) (v:Value) (l:List ByteArray):Prop:=IA 1 SN W v l
theorem SlS.below {W W':World} {v:Value} {l:List ByteArray} (h:SlS W v l) (hb:Below W.heap.size W W'):SlS W' v l:=IA.below (C:=SN) (fun h1 h2 h3=>SN.stable h1 h2 h3) h hb
theorem SlS.of_own {W:World} {base:Nat} {e:TypeId} {v:Value} {n:Nat} {l:List ByteArray} (h:W.ownsRow base e 1 v n (l.map Value.string)):SlS W v l :=
 IA.of_own h (by have:=h.1;simpa using this.symm) fun b _ hc j x hj=>by
  rw [Nat.mul_one];exact hc j _ (by rw [AG,hj];rfl)
def SO (w : World) (v : Value) (xs : List Int) : Prop :=
 ((∃ a : Option Addr, v = .slice a 0 0) /\ xs = []) ∨ ∃ b off cap, v = .slice (some ⟨b, off, none⟩) xs.length cap /\ xs.length <= cap /\ cap <= maxLen /\ b < w.heap.size /\
   ∀ j, j < xs.length -> w.cell? ⟨b, off + j, none⟩ = some (.int .i64 (gi xs j))
theorem Sl.w {w:World} {v:Value} {xs:List Int} (h:Sl w v xs):SO w v xs:=h.imp (fun ⟨e,e2⟩=>⟨⟨_,e⟩,e2⟩) id
theorem SO.sl {w:World} {v:Value} {xs:List Int} (h:SO w v xs) (hx:0<xs.length):Sl w v xs:=by
 rcases h with ⟨_,e⟩ | h
 ·rw [e] at hx;simp at hx
 ·exact .inr h
theorem SO.shape {w:World} {v:Value} {xs:List Int} (h:SO w v xs):∃ a cap,v=.slice a xs.length cap:=by
 rcases h with ⟨⟨a,rfl⟩,rfl⟩ | ⟨b,off,cap,rfl,_⟩
 ·exact ⟨_,_,rfl⟩
 ·exact ⟨_,_,rfl⟩
theorem SO.below {w w':World} {v:Value} {xs:List Int} (h:SO w v xs) (hb:Below w.heap.size w w'):SO w' v xs:=by
 rcases h with h | h
 ·exact .inl h
 ·exact ((show Sl w v xs from .inr h).below hb).w
theorem SO.len_le {w:World} {v:Value} {xs:List Int} (h:SO w v xs):xs.length<=maxLen:=by
 rcases h with ⟨_,rfl⟩ | ⟨_,_,_,_,h1,h2,_⟩
 ·simp
 ·exact AN h1 h2
def CEq (W:World) (b o:Nat) (x:List Int×Int):Prop:=∃ v,W.cell? ⟨b,o,none⟩=some v/\SO W v x.1/\W.cell? ⟨b,o+1,none⟩=some (.int .i64 x.2)
theorem CEq.stable:IM CEq:=fun h hb ⟨v,h1,h2,h3⟩=>⟨v,(hb.cell (p:=⟨_,_,none⟩) h).trans h1,h2.below hb,(hb.cell (p:=⟨_,_,none⟩) h).trans h3⟩
abbrev SlE (W:World) (v:Value) (l:List (List Int×Int)):Prop:=IA 2 CEq W v l
theorem SlE.below {W W':World} {v:Value} {l:List (List Int×Int)} (h:SlE W v l) (hb:Below W.heap.size W W'):SlE W' v l:=IA.below (C:=CEq) (fun h1 h2 h3=>CEq.stable h1 h2 h3) h hb
end
section
open Go.RowKit
open Clk
attribute [local go_sem] Oper.semAt_some
def CRd (W:World) (b o:Nat) (r:Rd):Prop:=W.cell? ⟨b,o,none⟩=some (.int .i64 r.loc)/\W.cell? ⟨b,o+1,none⟩=some (.int .i64 r.lo)/\W.cell? ⟨b,o+2,none⟩=some (.int .i64 r.hi)
theorem CRd.stable:IM CRd:=fun h hb ⟨h1,h2,h3⟩=>⟨(hb.cell (p:=⟨_,_,none⟩) h).trans h1,(hb.cell (p:=⟨_,_,none⟩) h).trans h2,(hb.cell (p:=⟨_,_,none⟩) h).trans h3⟩
abbrev NL (W:World) (v:Value) (l:List Rd):Prop:=IA 3 CRd W v l
theorem NL.below {W W':World} {v:Value} {l:List Rd} (h:NL W v l) (hb:Below W.heap.size W W'):NL W' v l:=IA.below (C:=CRd) (fun h1 h2 h3=>CRd.stable h1 h2 h3) h hb
def Dn (rs:List Rd) (i:Nat):Rd:=rs.getD i ⟨0,0,0⟩
theorem FJ {rs:List Rd} {i:Nat} (h:i<rs.length):rs[i]? = some (Dn rs i):=by
 unfold Dn;rw [Au h,List.getD_eq_getElem?_getD,Au h];rfl
def Hm (rs:List Rd):Nat->Int
 | 0=>-1
 | i+1=>(Dn rs i).loc
structure J7 (rs:List Rd):Prop where
 len:rs.length<=12
 at_:∀ i,i<rs.length->Hm rs i<(Dn rs i).loc/\(Dn rs i).loc<=10000000/\0<=(Dn rs i).lo/\(Dn rs i).lo<=(Dn rs i).hi/\(Dn rs i).hi<=10000000
 pos:∀ i,i<rs.length->0<=(Dn rs i).loc
theorem L6 (d:Int) (rv:Value) (rs:List Rd) (w:World) (h:NL w rv rs) (hd:0<=d/\d<=100) (hr:J7 rs) :
  Calls Tryz.prog 71 #[.agg #[.int .i64 d,rv]] w (CM w (.bool true)):=by
 obtain ⟨a,cap,rfl⟩:=h.shape
 obtain ⟨V1,bC,e1,eB,S1⟩:=(CE.start w).addB #[.int .i64 d,.slice a rs.length cap] 39
 have hM:=A8 S1
 clear S1
 have HS:=A8 h
 have hn12:=hr.len
 replace hr:=A8 hr
 clear h
 obtain ⟨n,hn⟩:∃ n,n=rs.length:=⟨_,rfl⟩
 rw [<-hn] at e1 hM HS hn12 |-
 replace hn:=A8 hn
 have d1:¬ d<0:=by omega
 have d2:¬ 100<d:=by omega
 have d3:¬ (12:Int)<n:=by omega
 go_enter Tryz.func71,Tryz.ntmps71
 go_upto_region 1 with fail
 rw [<-e1,<-eB]
 clear e1 eB
 have x0:=(hM.out.cell bC _ _ Ah 0).trans (show _=some (Value.int .i64 d) from rfl)
 have x1:=(hM.out.cell bC _ _ Ah 1).trans (show _=some (Value.slice a n cap) from rfl)
 go_wp2_with fail
 clear x0 x1
 go_loopw [3,23] (fun p o wr=>∃ i:Nat,p=.int .i64 (Hm rs i)/\o=.int .i64 i/\i<=n/\Hid (CE w [(bC,#[.int .i64 d,.slice a n cap],39)] [] wr)) (fun _ o _=>n-(intOf o).toNat)
 case atStart=>exact ⟨0,rfl,rfl,Ad,hM⟩
 case round =>
  clear hM;obtain ⟨i,rfl,rfl,hi,hM⟩:=hrel;by_cases hin:i<n;case neg =>
   have hin':¬ (i:Int)<n:=by omega
   have hfin:=A8 hM.out.below;go_wp2;go_ret;exact ⟨rfl,hfin.out⟩
  case pos =>
   have hin':(i:Int)<n:=by omega
   have hi0:(0:Int)<=i:=by omega
   obtain ⟨k1,k2,k3,k4,k5⟩:=hr.out.at_ i (by rw [<-hn.out];exact hin);obtain ⟨b,off,ea,hbw,c0,c1,c2⟩:∃ b off,a=some ⟨b,off,none⟩/\b<w.heap.size/\CRd w b (off+i*3) (Dn rs i):=by
    rcases HS.out with ⟨e,e2⟩ | ⟨b,off,cap',e,h1,h2,h3,h4⟩
    ·have:=hn.out;rw [e2] at this;simp at this;omega
    ·cases e
     exact ⟨b,off,rfl,h3,h4 i _ (FJ (by rw [<-hn.out];exact hin))⟩
   subst ea;have hnx:Hid (Hm rs (i+1)=(Dn rs i).loc):=A8 rfl;generalize (Dn rs i).loc=z1 at *
   generalize (Dn rs i).lo=z2 at *
   generalize (Dn rs i).hi=z3 at *
   generalize Hm rs i=z0 at *
   replace c0:=hM.out.old hbw c0;replace c1:=hM.out.old hbw c1;replace c2:=hM.out.old hbw c2;obtain ⟨V5,bR,e5,hB5,hM5⟩:=CE.addB hM.out #[.int .i64 z1,.int .i64 z2,.int .i64 z3] 89;replace hM5:=A8 hM5;go_upto_region 7 with fail;rw [<-e5,<-hB5];clear e5 hB5 c0 c1 c2 hM;have y0:=(hM5.out.cell bR _ _ Ah 0).trans (show _=some (Value.int .i64 z1) from rfl);have y1:=(hM5.out.cell bR _ _ Ah 1).trans (show _=some (Value.int .i64 z2) from rfl);have y2:=(hM5.out.cell bR _ _ Ah 2).trans (show _=some (Value.int .i64 z3) from rfl);have q1:¬ z1<=z0:=by omega
   have q2:¬ 10000000<z1:=by omega
   have q3:¬ z2<0:=by omega
   have q4:¬ z3<z2:=by omega
   have q5:¬ 10000000<z3:=by omega
   go_wp2_with fail;go_roundw;case rel=>exact ⟨i+1,by rw [hnx.out],by go_num,Ad,A8 hM5.out.tail⟩
   case measure=>simp [intOf];omega
end
section
open Go.RowKit
section
variable {P:Program} {ops:Array Oper} {Q:Exit->Act->World->Prop}
variable {Γ:Type} {N:Nat} {us:List Value} {ds ms:List Nat} {F:Γ->FL} {M:Γ->ML} {es:List Nat} {C:World->Prop} {SL:Γ->List (World->Prop)} {o:Oper}
structure Zs (ops:Array Oper) (N:Nat) (us:List Value) (ds:List Nat) (F:Γ->FL) (M:Γ->ML) (es:List Nat) (C:World->Prop) (SL:Γ->List (World->Prop)) (i:Nat) (o:Oper) (g:Γ) (l:Nat->Bool) (a:Act) (W:World):Prop where
 hl:l i=false
 hw:∀ n,DK o n=true->l n=true
 hs:Eq ops l
 z:Rg ops N us ds (F g) (M g) es C (SL g) l a W
section
variable {i:Nat} {g:Γ} {l:Nat->Bool} {a:Act} {W:World}
theorem Zs.c (y:Zs ops N us ds F M es C SL i o g l a W):C W:=y.z.c
theorem Zs.u (y:Zs ops N us ds F M es C SL i o g l a W) {n:Nat} {v:Value} (hv:us[n]? = some v) (hn:ds.contains n=false:=by kernel_rfl):a.tmps[n]? = some v:=y.z.u hv hn
theorem Zs.x (y:Zs ops N us ds F M es C SL i o g l a W) (j:Nat) {d:Nat} {v:Value} (hj:(F g)[j]? = some (some (d,v))) (hj':DK o j=true:=by kernel_rfl):a.tmps[d]? = some v:=y.z.x j y.hw hj hj'
theorem Zs.w (y:Zs ops N us ds F M es C SL i o g l a W) {n:Nat} {v:Value} (hv:us[n]? = some v) (hn:lastB ops n i=true:=by kernel_rfl):a.tmps[n]? = some v:=y.z.w i y.hl y.hs hv hn
end
variable {A B D E G:Γ->Act->World->Prop} {i:Nat} {rest:List Oper}
def Dd (w:World) (L:Ec) (R:List E9) (b k:Nat) (v:Value):Prop:=∀ W,CE w L R W->W.cell? ⟨b,k,none⟩=some v
def Ho (w:World) (L:Ec) (R:List E9) (f:FuncId) (xs:Array Value) (v:Value):Prop:=∀ W,CE w L R W->Calls Tryz.prog f xs W fun e W'=>e=.returned v/\Below W.heap.size W W'
theorem sV (St:Hn N ds ms F M C SL) (hr:Ek P ops Q (Iv ops N us ds F M es C SL) (i+1) rest) (fa:∀ {g l a W},Zs ops N us ds F M es C SL i o g l a W->A g a W:=by exact fun _=>trivial) (fb:∀ {g l a W},Zs ops N us ds F M es C SL i o g l a W->B g a W:=by exact fun _=>trivial) (fd:∀ {g l a W},Zs ops N us ds F M es C SL i o g l a W->D g a W:=by exact fun _=>trivial) (fe:∀ {g l a W},Zs ops N us ds F M es C SL i o g l a W->E g a W:=by exact fun _=>trivial) (fg:∀ {g l a W},Zs ops N us ds F M es C SL i o g l a W->G g a W:=by exact fun _=>trivial)
  {d:Nat} {V:Γ->Value} (ho:ops[i]? = some o:=by rfl) (hd:o.dst=some d:=by rfl) (h0:IW o es ms i=true:=by rfl) (hi:∀ g,(F g)[i]? = some (some (d,V g)):=by exact fun _=>rfl)
  (h:∀ g a W,A g a W->B g a W->D g a W->E g a W->G g a W->∀ K:Act->World->Prop,K (a.put (some d) (V g)) W->Oper.wp P o a W K Q:=by intro _ _ _ _ _ _ _ _ _ J;go_simp;exact J):Ek P ops Q (Iv ops N us ds F M es C SL) i (o :: rest) :=
 CD (stV St i ho hd h0 hi fun g _ a W hl hw hs z K J=>have y:=⟨hl,hw,hs,z⟩;h g a W (fa y) (fb y) (fd y) (fe y) (fg y) K J) hr
theorem sG (St:Hn N ds ms F M C SL) (hr:Ek P ops Q (Iv ops N us ds F M es C SL) (i+1) rest) (j:Nat) (fa:∀ {g l a W},Zs ops N us ds F M es C SL i o g l a W->A g a W:=by exact fun _=>trivial) (fb:∀ {g l a W},Zs ops N us ds F M es C SL i o g l a W->B g a W:=by exact fun _=>trivial) (fd:∀ {g l a W},Zs ops N us ds F M es C SL i o g l a W->D g a W:=by exact fun _=>trivial) (fe:∀ {g l a W},Zs ops N us ds F M es C SL i o g l a W->E g a W:=by exact fun _=>trivial) (fg:∀ {g l a W},Zs ops N us ds F M es C SL i o g l a W->G g a W:=by exact fun _=>trivial)
  {d e:Nat} {b:Bool} {V:Γ->Value} (ho:ops[i]? = some o:=by rfl) (hd:o.dst=some d:=by rfl) (h1:o.guard=some (j,b):=by rfl) (h2:(ops[j]?).bind (·.dst)=some e:=by rfl) (h3:DK o j=true:=by kernel_rfl) (h4:∀ g,(F g)[j]? = some (some (e,.bool b)):=by exact fun _=>rfl) (he:(es++ms).contains i=false:=by rfl) (hi:∀ g,(F g)[i]? = some (some (d,V g)):=by exact fun _=>rfl)
  (h:∀ g a W,A g a W->B g a W->D g a W->E g a W->G g a W->∀ K:Act->World->Prop,K (a.put (some d) (V g)) W->Oper.wp P o a W K Q:=by intro _ _ _ _ _ _ _ _ _ J;go_simp;exact J):Ek P ops Q (Iv ops N us ds F M es C SL) i (o :: rest) :=
 CD (stG St i ho hd (wg j h1 h2 h3 h4) he hi fun g _ a W hl hw hs z K J=>have y:=⟨hl,hw,hs,z⟩;h g a W (fa y) (fb y) (fd y) (fe y) (fg y) K J) hr
theorem sC (St:Hn N ds ms F M C SL) (hr:Ek P ops Q (Iv ops N us ds F M es C SL) (i+1) rest) {f:FuncId} {xs:Array Value} {V:Γ->Value} (fc:∀ {g l a W},Zs ops N us ds F M es C SL i o g l a W->Calls P f xs W (fun e W'=>e=.returned (V g)/\Below W.heap.size W W')) (fa:∀ {g l a W},Zs ops N us ds F M es C SL i o g l a W->A g a W:=by exact fun _=>trivial) (fb:∀ {g l a W},Zs ops N us ds F M es C SL i o g l a W->B g a W:=by exact fun _=>trivial) (fd:∀ {g l a W},Zs ops N us ds F M es C SL i o g l a W->D g a W:=by exact fun _=>trivial) (fe:∀ {g l a W},Zs ops N us ds F M es C SL i o g l a W->E g a W:=by exact fun _=>trivial) (fg:∀ {g l a W},Zs ops N us ds F M es C SL i o g l a W->G g a W:=by exact fun _=>trivial)
  {d:Nat} (ho:ops[i]? = some o:=by rfl) (hd:o.dst=some d:=by rfl) (h0:IW o es ms i=true:=by rfl) (hi:∀ g,(F g)[i]? = some (some (d,V g)):=by exact fun _=>rfl)
  (h:∀ g a W,A g a W->B g a W->D g a W->E g a W->G g a W->Calls P f xs W (fun e W'=>e=.returned (V g)/\Below W.heap.size W W')->∀ K:Act->World->Prop,(∀ W',Below W.heap.size W W'->K (a.put (some d) (V g)) W')->Oper.wp P o a W K Q:=by intro _ _ _ _ _ _ _ _ c _ J;go_simp;refine Calls.mono c ?_;rintro _ _ ⟨rfl,hb⟩;exact J _ hb):Ek P ops Q (Iv ops N us ds F M es C SL) i (o :: rest) :=
 CD (stC St i ho hd h0 hi fun g _ a W hl hw hs z K J=>have y:=⟨hl,hw,hs,z⟩;h g a W (fa y) (fb y) (fd y) (fe y) (fg y) (fc y) K J) hr
theorem sK (hr:Ek P ops Q (Iv ops N us ds F M es C SL) (i+1) rest) (j:Nat) {b c:Bool} {d e:Nat} (ho:ops[i]? = some o:=by rfl) (h0:o.guard=some (j,b):=by rfl) (hd:(ops[j]?).bind (·.dst)=some e:=by rfl) (hj:∀ g,(F g)[j]? = some (some (e,.bool c)):=by exact fun _=>rfl) (hw':DK o j=true:=by kernel_rfl) (hne:c≠b:=by decide) (hdst:o.dst=some d:=by rfl) (hk:∀ g,(okO ds (F g) es i d&&!(GI (M g)).contains i&&!(EJ (M g)).contains d)=true:=by exact fun _=>by kernel_rfl):Ek P ops Q (Iv ops N us ds F M es C SL) i (o :: rest) :=
 CD (stK i j ho h0 hd hj hw' hne hdst hk) hr
theorem EN (_:Hn N ds ms F M C SL) (us:List Value) (es:List Nat) (g:Γ) {id:Nat} {W:World} (hN:us.length=N) (h0:C W.drew) (h1:At (SL g) 0 W.drew)
 (hs:Ek P ops Q (Iv ops N us ds F M es C SL) 0 ops.toList) (hend:∀ g a W,Rg ops N us ds (F g) (M g) es C (SL g) (fun j=>decide (j<ops.size)) a W->At (SL g) es.length W->Q .normal a W)
 (hm:P.follows .mixedOrders=true:=by kernel_rfl) (hb:GF ops=true:=by kernel_rfl) (hp:(DT (fun j=>decide (j<ops.size)) es==es.length)=true:=by kernel_rfl) :
 (Code.region id ops true).wp P Q { tmps:=us.toArray,defers:=[] } W:=M3 N us ds F M es C SL hN hm hb g h0 h1 hp hs hend
end
def lit:Nat->Nat->(Nat->Value)->List Value
 | 0,_,_=>[]
 | n+1,i,u=>u i :: lit n (i+1) u
theorem OB:∀ (n i:Nat) (u:Nat->Value) (k:Nat),k<n->(lit n i u)[k]? = some (u (i+k))
 | n+1,i,u,0,_=>rfl
 | n+1,i,u,k+1,h=>by
  have:=OB n (i+1) u k Ad;rw [show i+(k+1)=i+1+k by omega];simpa [lit] using this
theorem M4:∀ (n i:Nat) (u:Nat->Value),(lit n i u).length=n
 | 0,_,_=>rfl
 | n+1,i,u=>by rw [lit,C4,M4]
theorem OC {us:List Value} {n:Nat} (h:us.length=n):∃ u:Nat->Value,us=lit n 0 u:=⟨fun k=>us.getD k undef,List.ext_getElem? fun k=>by
 by_cases hk:k<n
 ·rw [OB n 0 _ k hk,Br,List.getD_eq_getElem?_getD,Au Ad];rfl
 ·rw [BB Ad,BB (by rw [M4];omega)]⟩
theorem Ey {n:Nat} {u:Nat->Value} {k:Nat} {v:Value} (h:(lit n 0 u)[k]? = some v):u k=v:=by
 by_cases hk:k<n
 ·rw [OB n 0 u k hk,Br] at h;exact AL h
 ·rw [BB (by rw [M4];omega)] at h;cases h
theorem lexit {Q:Exit->Act->World->Prop} {e:Exit} {W:World} {fr us:List Value} (ds:List Nat) (h:Q e { tmps:=(Dp ds (fun n=>fr.getD n undef) us).toArray,defers:=[] } W) (he:fr=Dp ds (fun n=>fr.getD n undef) us):Q e { tmps:=fr.toArray,defers:=[] } W:=by rw [he];exact h
end
section
open Go.RowKit
open Clk
attribute [local go_sem] Oper.semAt_some
theorem QS {Q:Exit->Act->World->Prop} {us:List Value} {bW:Nat} {lo hi p q m1 m2:Int} {w W0:World} {L:Ec} {R:List E9}    (h13:max lo p=m1) (h19:min hi q=m2) (h0:Hid (CE w ((bW,#[.int .i64 lo,.int .i64 hi],158) :: L) R W0)) (hN:us.length=24) (g0:us[0]? = some (.pointer (some ⟨bW,0,none⟩))) (g1:us[1]? = some (.int .i64 p)) (g2:us[2]? = some (.int .i64 q)) {ops:Array Oper} (ho:D8 Tryz.f121.body 0=some ops)
  (hQ:∀ (x:Nat->Value)  (W':World),Hid (CE w ((bW,#[.int .i64 m1,.int .i64 m2],158) :: L) R W')->Q .normal { tmps:=(Dp [6,7,8,9,10,11,12,13,14,15,16,17,18,19,20,21,22,23] x us).toArray,defers:=[] } W') :
  (Code.region 0 ops true).wp Tryz.prog Q { tmps:=us.toArray,defers:=[] } W0:=by
 obtain rfl:=AL (ho.symm.trans (rfl:D8 Tryz.f121.body 0=some _))
 clear ho
 replace hQ:=A8 hQ
 let Fl:Unit->FL:=fun g=>[some (6,.pointer (some ⟨bW,0,none⟩)),some (7,.pointer (some ⟨bW,0,none⟩)),some (8,.pointer (some ⟨bW,0,none⟩)),some (9,.pointer (some ⟨bW,0,none⟩)),some (10,.pointer (some ⟨bW,0,none⟩)),some (11,.int .i64 lo),some (12,.int .i64 p),some (13,.int .i64 m1),some (14,.pointer (some ⟨bW,0,none⟩)),some (15,.pointer (some ⟨bW,0,none⟩)),some (16,.pointer (some ⟨bW,1,none⟩)),some (17,.int .i64 hi),some (18,.int .i64 q),some (19,.int .i64 m2),some (20,.pointer (some ⟨bW,0,none⟩)),some (21,.pointer (some ⟨bW,0,none⟩)),none,some (22,.pointer (some ⟨bW,0,none⟩)),some (23,.pointer (some ⟨bW,1,none⟩)),none]
 let Ml:Unit->ML:=fun g=>[]
 let Sl_:Unit->List (World->Prop):=fun g=>[fun W=>CE w ((bW,#[.int .i64 lo,.int .i64 hi],158) :: L) R W,fun W=>CE w ((bW,#[.int .i64 m1,.int .i64 hi],158) :: L) R W,fun W=>CE w ((bW,#[.int .i64 m1,.int .i64 m2],158) :: L) R W]
 have St:Hn 24 [6,7,8,9,10,11,12,13,14,15,16,17,18,19,20,21,22,23] [] Fl Ml (CE w L R) Sl_:=⟨fun _=>by kernel_rfl,fun _=>rfl,fun _ _ hb h=>h.call hb,fun g=>(fun _ h=>by cases h),fun g=>BH.2 ⟨fun W W' hb h=>h.call hb,BH.2 ⟨fun W W' hb h=>h.call hb,BH.2 ⟨fun W W' hb h=>h.call hb,(fun _ h=>by cases h)⟩⟩⟩⟩
 refine EN St us [16,19] () hN h0.out.tail.drew h0.out.drew ?_ ?_
 refine sV St ?_ (fun z=>z.u g0)
 refine sV St ?_ (fun z=>z.u g0)
 refine sV St ?_ (fun z=>z.u g0)
 refine sV St ?_ (fun z=>z.x 2 rfl)
 refine sV St ?_ (fun z=>z.x 3 rfl)
 refine CD (stV St 5 rfl rfl rfl (fun _=>rfl) fun g T E W hl hw hs z K J=>by
  have x10:=z.x 4 hw rfl;have k0:W.cell? ⟨bW,0,none⟩=some (.int .i64 lo:Value):=z.ld 5 0 0 hl hw hs rfl Ab (fun s=>CE.cell (s) _ _ _ Ah 0);go_simp;exact J) ?_
 refine sV St ?_ (fun z=>z.u g1)
 refine sV St ?_ (fun z=>z.x 5 rfl) (fun z=>z.x 6 rfl)
 refine sV St ?_ (fun z=>z.u g0)
 refine sV St ?_ (fun z=>z.x 8 rfl)
 refine sV St ?_ (fun z=>z.x 9 rfl)
 refine CD (stV St 11 rfl rfl rfl (fun _=>rfl) fun g T E W hl hw hs z K J=>by
  have x16:=z.x 10 hw rfl;have k0:W.cell? ⟨bW,1,none⟩=some (.int .i64 hi:Value):=z.ld 11 0 1 hl hw hs rfl Ab ⟨fun s=>CE.cell (s) _ _ _ Ah 1,fun s=>CE.cell (s) _ _ _ Ah 1⟩;go_simp;exact J) ?_
 refine sV St ?_ (fun z=>z.u g2)
 refine sV St ?_ (fun z=>z.x 11 rfl) (fun z=>z.x 12 rfl)
 refine sV St ?_ (fun z=>z.x 0 rfl)
 refine sV St ?_ (fun z=>z.x 14 rfl)
 refine CD (stE 16 0 (.inl rfl) rfl rfl (fun _=>rfl) Ab (fun _=>by kernel_rfl) fun g T E W hl hw hs z q K J=>by
  have x13:=z.x 7 hw rfl;have x21:=z.x 15 hw rfl;have hM0:CE _ _ _ _:=q;have y0:=hM0.cell _ _ _ Ah 0;have w0:=hM0.frozen _ _ _ Ah 0;go_simp;exact J _ ((hM0.put0 0 _).tail) (hM0.put0 0 _)) ?_
 refine sV St ?_ (fun z=>z.x 1 rfl)
 refine sV St ?_ (fun z=>z.x 17 rfl)
 refine CD (stE 19 1 (.inl rfl) rfl rfl (fun _=>rfl) Ab (fun _=>by kernel_rfl) fun g T E W hl hw hs z q K J=>by
  have x19:=z.x 13 hw rfl;have x23:=z.x 18 hw rfl;have hM0:CE _ _ _ _:=q;have y0:=hM0.cell _ _ _ Ah 1;have w0:=hM0.frozen _ _ _ Ah 1;go_simp;exact J _ ((hM0.put0 1 _).tail) (hM0.put0 1 _)) ?_
 ·exact D5
 ·intro g a W z q
  have hM9:CE _ _ _ _:=q;rw [z.f.eqs];exact hQ.out _   _  (A8 hM9)
theorem L9 {Q:Exit->Act->World->Prop} {us:List Value} {d n le:Int} {w W0:World} {L:Ec} {R:List E9} {r32:Int} {r33:Int} {r34:Int} {r36:Int} {r37:Int} (nz:¬ r36=0)  (h32:IntKind.i64.wrap (n+1)=r32) (h33:IntKind.i64.wrap (1000*r32)=r33) (h34:IntKind.i64.wrap (r33-1)=r34) (h36:IntKind.i64.wrap (1000-d)=r36) (h37:IntKind.i64.wrap ((r34).tdiv r36)=r37) (h0:Hid (CE w L R W0)) (hN:us.length=38) (g0:us[0]? = some (.int .i64 d)) (g1:us[1]? = some (.int .i64 n)) (g6:us[6]? = some (.int .i64 le)) {ops:Array Oper} (ho:D8 Tryz.f122.body 6=some ops)
  (hQ:∀ (x:Nat->Value)  (W':World),x 4=.int .i64 le->x 5=.int .i64 r37->Hid (CE w L R W')->Q .normal { tmps:=(Dp [30,31,32,33,34,35,36,37,4,5] x us).toArray,defers:=[] } W') :
  (Code.region 6 ops true).wp Tryz.prog Q { tmps:=us.toArray,defers:=[] } W0:=by
 obtain rfl:=AL (ho.symm.trans (rfl:D8 Tryz.f122.body 6=some _))
 clear ho
 replace hQ:=A8 hQ
 let Fl:Unit->FL:=fun g=>[some (30,.int .i64 le),some (31,.int .i64 n),some (32,.int .i64 r32),some (33,.int .i64 r33),some (34,.int .i64 r34),some (35,.int .i64 d),some (36,.int .i64 r36),some (37,.int .i64 r37),some (4,.int .i64 le),some (5,.int .i64 r37)]
 let Ml:Unit->ML:=fun g=>[]
 let Sl_:Unit->List (World->Prop):=fun g=>[fun W=>CE w L R W]
 have St:Hn 38 [30,31,32,33,34,35,36,37,4,5] [] Fl Ml (CE w L R) Sl_:=⟨fun _=>by kernel_rfl,fun _=>rfl,fun _ _ hb h=>h.call hb,fun g=>(fun _ h=>by cases h),fun g=>BH.2 ⟨fun W W' hb h=>h.call hb,(fun _ h=>by cases h)⟩⟩
 refine EN St us [] () hN h0.out.drew h0.out.drew ?_ ?_
 refine sV St ?_ (fun z=>z.u g6)
 refine sV St ?_ (fun z=>z.u g1)
 refine sV St ?_ (fun z=>z.x 1 rfl)
 refine sV St ?_ (fun z=>z.x 2 rfl)
 refine sV St ?_ (fun z=>z.x 3 rfl)
 refine sV St ?_ (fun z=>z.u g0)
 refine sV St ?_ (fun z=>z.x 5 rfl)
 refine sV St ?_ (fun z=>z.x 4 rfl) (fun z=>z.x 6 rfl)
 refine sV St ?_ (fun z=>z.x 0 rfl)
 refine sV St ?_ (fun z=>z.x 7 rfl)
 ·exact D5
 ·intro g a W z q
  have hM9:CE _ _ _ _:=q;have x4:=z.v.get 8 rfl Ab;have x5:=z.v.get 9 rfl Ab;rw [z.f.eqs];exact hQ.out _   _ (by simp [x4]) (by simp [x5]) (A8 hM9)
theorem OD (d n:Int) (w:World) (hd:0<=d/\d<=100) (hn:0<=n/\n<=10000000) :
  Calls Tryz.prog 122 #[.int .i64 d,.int .i64 n] w (CM w (.tuple #[.int .i64 (EC d n),.int .i64 (EO d n)])):=by
 have d1:¬ d<0:=by omega
 have d2:¬ 100<d:=by omega
 have n1:¬ n<0:=by omega
 have n2:¬ 10000000<n:=by omega
 have e1:IntKind.i64.wrap (n+1)=n+1:=Bz _ Ad
 have e2:IntKind.i64.wrap (1000*(n+1))=1000*(n+1):=Bz _ Ad
 have e3:IntKind.i64.wrap (1000*(n+1)-1)=1000*(n+1)-1:=Bz _ Ad
 have e4:IntKind.i64.wrap (1000-d)=1000-d:=Bz _ Ad
 have hq:(1000*(n+1)-1).tdiv (1000-d)=EO d n:=by unfold EO;rw [Int.tdiv_eq_ediv_of_nonneg Ad]
 have hqb:0<=EO d n/\EO d n<=20000000000:=by
  unfold EO;exact ⟨BT Ad Ad,Int.le_trans (BZ _ Ad) Ad⟩
 have e5:IntKind.i64.wrap ((1000*(n+1)-1).tdiv (1000-d))=EO d n:=by rw [hq];exact Bz _ Ad
 have nz:¬ 1000-d=0:=by omega
 by_cases hp:0<n
 ·have f1:IntKind.i64.wrap (n-1)=n-1:=Bz _ Ad
  have f2:IntKind.i64.wrap (1000*(n-1))=1000*(n-1):=Bz _ Ad;have f3:IntKind.i64.wrap (1000+d)=1000+d:=Bz _ Ad;have hl:(1000*(n-1)).tdiv (1000+d)=1000*(n-1) / (1000+d):=Int.tdiv_eq_ediv_of_nonneg Ad;have hlb:0<=1000*(n-1) / (1000+d)/\1000*(n-1) / (1000+d)<=20000000000:=⟨BT Ad Ad,Int.le_trans (BZ _ Ad) Ad⟩;have f4:IntKind.i64.wrap ((1000*(n-1)).tdiv (1000+d))=1000*(n-1) / (1000+d):=by rw [hl];exact Bz _ Ad
  have f5:IntKind.i64.wrap (1000*(n-1) / (1000+d)+1)=EC d n:=by unfold EC;rw [AI hp];exact Bz _ Ad
  have nz2:¬ 1000+d=0:=by omega
  clear hq hl hqb hlb;go_enter Tryz.func122,Tryz.ntmps122;go_upto_region 6 with fail;refine L9 (d:=d) (n:=n) (le:=(EC d n)) nz e1 e2 e3 e4 e5 (A8 (CE.start w)) rfl rfl rfl rfl Ab ?_;intro xx W' hx4 hx5 hM;simp only [Dp,BN,BO,A5,A6,hx4,hx5];have hfin:=A8 hM.out.below;clear hM hx4 hx5;go_wp2;exact bodyPost_ret (v:=.tuple #[.int .i64 (EC d n),.int .i64 (EO d n)]) (by simp [results,Tryz.results122,go_sem]) rfl ⟨rfl,hfin.out⟩
 ·have hl0:EC d n=0:=by unfold EC;rw [AF hp]
  rw [hl0];clear hq hqb;go_enter Tryz.func122,Tryz.ntmps122;go_upto_region 6 with fail;refine L9 (d:=d) (n:=n) (le:=0) nz e1 e2 e3 e4 e5 (A8 (CE.start w)) rfl rfl rfl rfl Ab ?_;intro xx W' hx4 hx5 hM;simp only [Dp,BN,BO,A5,A6,hx4,hx5];have hfin:=A8 hM.out.below;clear hM hx4 hx5;go_wp2;exact bodyPost_ret (v:=.tuple #[.int .i64 0,.int .i64 (EO d n)]) (by simp [results,Tryz.results122,go_sem]) rfl ⟨rfl,hfin.out⟩
theorem I0 (bW:Nat) (lo hi p q:Int) (w W:World) (L:Ec) (R:List E9) (hM:CE w ((bW,#[.int .i64 lo,.int .i64 hi],158) :: L) R W) :
  Calls Tryz.prog 121 #[.pointer (some ⟨bW,0,none⟩),.int .i64 p,.int .i64 q] W fun e W'=>e=.returned (.tuple #[])/\CE w ((bW,#[.int .i64 (max lo p),.int .i64 (min hi q)],158) :: L) R W':=by
 have h0:=A8 hM
 clear hM
 obtain ⟨m1,h1⟩:∃ m,m=max lo p:=⟨_,rfl⟩
 obtain ⟨m2,h2⟩:∃ m,m=min hi q:=⟨_,rfl⟩
 rw [<-h1,<-h2]
 go_enter Tryz.func121,Tryz.ntmps121
 go_upto_region 0 with fail
 refine QS (m1:=m1) (m2:=m2) h1.symm h2.symm h0 rfl rfl rfl rfl Ab ?_
 intro xx W' hM
 simp only [Dp,BN,BO,A5,A6]
 clear h1 h2 h0
 go_end0
 exact ⟨rfl,hM.out⟩
theorem La (d loc:Int) (r:Rd):∀ (rs:List Rd) (a:Int),EP d loc (rs++[r]) a=max (EP d loc rs a) (NP d loc r)
 | [],_=>rfl
 | q :: rs,a=>La d loc r rs _
theorem Kh (d loc:Int) (r:Rd):∀ (rs:List Rd) (a:Int),DM d loc (rs++[r]) a=min (DM d loc rs a) (NQ d loc r)
 | [],_=>rfl
 | q :: rs,a=>Kh d loc r rs _
theorem take_rd {rs:List Rd} {i:Nat} (h:i<rs.length):rs.take (i+1)=rs.take i++[Dn rs i]:=by rw [List.take_add_one,FJ h];rfl
theorem SW {d n:Int} (hd:0<=d/\d<=100) (hn:0<=n/\n<=10000000):0<=EC d n/\EC d n<=100000000000:=by
 unfold EC;split
 ·have h1:=BT (show 0<=1000*(n-1) by omega) (show 0<=1000+d by omega)
  have h2:=BZ (1000+d) (show 0<=1000*(n-1) by omega);omega
 ·omega
theorem most_bd {d n:Int} (hd:0<=d/\d<=100) (hn:0<=n/\n<=10000000):0<=EO d n/\EO d n<=100000000000:=by
 unfold EO;have h1:=BT (show 0<=1000*(n+1)-1 by omega) (show 0<=1000-d by omega);have h2:=BZ (1000-d) (show 0<=1000*(n+1)-1 by omega);omega
theorem OE (d loc:Int) (rv:Value) (rs:List Rd) (w:World) (h:NL w rv rs) (hd:0<=d/\d<=100) (hl:0<=loc/\loc<=10000000) (hr:J7 rs) :
  Calls Tryz.prog 104 #[.agg #[.int .i64 d,rv],.int .i64 loc] w (CM w (.agg #[.int .i64 (EP d loc rs 0),.int .i64 (DM d loc rs 10000000)])):=by
 obtain ⟨a,cap,rfl⟩:=h.shape
 obtain ⟨V1,bC,e1,eB,S1⟩:=(CE.start w).addB #[.int .i64 d,.slice a rs.length cap] 39
 obtain ⟨V2,bO,e2,eO,S2⟩:=S1.addB #[.int .i64 0,.int .i64 0] 158
 obtain ⟨V3,bW,e3,eW,S3⟩:=S2.addB #[.int .i64 0,.int .i64 10000000] 158
 have hM:=A8 S3
 have HS:=A8 h
 have hn12:=hr.len
 replace hr:=A8 hr
 rw [e1] at e2 eO
 rw [e2] at e3 eW
 clear S1 S2 S3 h e1 e2
 have hO:bO=w.heap.size+1:=by rw [eO];exact AP _ _
 have hW:bW=w.heap.size+1+1:=by rw [eW,AP,AP]
 clear eO eW
 obtain ⟨n,hn⟩:∃ n,n=rs.length:=⟨_,rfl⟩
 rw [<-hn] at e3 hM HS hn12 |-
 have hlast:EP d loc rs 0=EP d loc (rs.take n) 0/\DM d loc rs 10000000=DM d loc (rs.take n) 10000000:=by rw [hn,BM];exact ⟨rfl,rfl⟩
 rw [hlast.1,hlast.2]
 clear hlast
 replace hn:=A8 hn
 go_enter Tryz.func104,Tryz.ntmps104
 go_upto_region 3 with fail
 rw [<-e3,<-hW,<-hO,<-eB]
 clear e3 hW hO eB
 have x1:=(hM.out.cell bC _ _ Aj 1).trans (show _=some (Value.slice a n cap) from rfl)
 go_wp2_with fail
 clear x1
 go_loopw [18] (fun o wr=>∃ i:Nat,o=.int .i64 i/\i<=n/\Hid (CE w [(bW,#[.int .i64 (EP d loc (rs.take i) 0),.int .i64 (DM d loc (rs.take i) 10000000)],158),(bO,#[.int .i64 0,.int .i64 0],158),(bC,#[.int .i64 d,.slice a n cap],39)] [] wr)) (fun o _=>n-(intOf o).toNat)
 case atStart=>exact ⟨0,rfl,Ad,hM⟩
 case round =>
  clear hM;obtain ⟨i,rfl,hi,hM⟩:=hrel;by_cases hin:i<n;case neg =>
   have hin':¬ (i:Int)<n:=by omega
   obtain rfl:i=n:=by omega
   generalize EP d loc (rs.take i) 0=lo at *
   generalize DM d loc (rs.take i) 10000000=hi_ at *
   have z0:=(hM.out.cell bW _ _ Ah 0).trans (show _=some (Value.int .i64 lo) from rfl);have z1:=(hM.out.cell bW _ _ Ah 1).trans (show _=some (Value.int .i64 hi_) from rfl);have z2:=(hM.out.cell bO _ _ Ai 0).trans (show _=some (Value.int .i64 0) from rfl);have z3:=(hM.out.cell bO _ _ Ai 1).trans (show _=some (Value.int .i64 0) from rfl);have z4:=hM.out.frozen bO _ _ Ai 0;have z5:=hM.out.frozen bO _ _ Ai 1;have hO:=hM.out.blks _ Ai;have hfin:=A8 (((hM.out.put (A:=[_]) 0 (.int .i64 lo)).put (A:=[_]) 1 (.int .i64 hi_)).below);obtain ⟨k0,k1⟩:=(PH hO (.int .i64 lo) (.int .i64 hi_)).2.2.2.2;clear hM hO;go_wp2;exact bodyPost_ret (v:=.agg #[.int .i64 lo,.int .i64 hi_]) (by simp [results,Tryz.results104,go_sem,k0,k1]) rfl ⟨rfl,hfin.out⟩
  case pos =>
   have hin':(i:Int)<n:=by omega
   have hi0:(0:Int)<=i:=by omega
   obtain ⟨k1,k2,k3,k4,k5⟩:=hr.out.at_ i (by rw [<-hn.out];exact hin);have k6:=hr.out.pos i (by rw [<-hn.out];exact hin);obtain ⟨b,off,ea,hbw,c0,c1,c2⟩:∃ b off,a=some ⟨b,off,none⟩/\b<w.heap.size/\CRd w b (off+i*3) (Dn rs i):=by
    rcases HS.out with ⟨e,e2⟩ | ⟨b,off,cap',e,h1,h2,h3,h4⟩
    ·have:=hn.out;rw [e2] at this;simp at this;omega
    ·cases e
     exact ⟨b,off,rfl,h3,h4 i _ (FJ (by rw [<-hn.out];exact hin))⟩
   subst ea;have hsn:=take_rd (rs:=rs) (i:=i) (by rw [<-hn.out];exact hin);have hA:Hid (EP d loc (rs.take (i+1)) 0=max (EP d loc (rs.take i) 0) (NP d loc (Dn rs i))):=A8 (by rw [hsn,La]);have hB:Hid (DM d loc (rs.take (i+1)) 10000000=min (DM d loc (rs.take i) 10000000) (NQ d loc (Dn rs i))):=A8 (by rw [hsn,Kh]);clear hsn k1;have hwA:NP d loc (Dn rs i)=(Dn rs i).lo+(if loc<(Dn rs i).loc then -EO d ((Dn rs i).loc-loc) else if loc=(Dn rs i).loc then -EO d 0 else EC d (loc-(Dn rs i).loc)):=rfl;have hwB:NQ d loc (Dn rs i)=(Dn rs i).hi+(if loc<(Dn rs i).loc then -EC d ((Dn rs i).loc-loc) else if loc=(Dn rs i).loc then EO d 0 else EO d (loc-(Dn rs i).loc)):=rfl;rw [hwA] at hA;rw [hwB] at hB;clear hwA hwB;generalize (Dn rs i).loc=z1 at *
   generalize (Dn rs i).lo=z2 at *
   generalize (Dn rs i).hi=z3 at *
   generalize EP d loc (rs.take i) 0=lo at *
   generalize DM d loc (rs.take i) 10000000=hi_ at *
   replace c0:=hM.out.old hbw c0;replace c1:=hM.out.old hbw c1;replace c2:=hM.out.old hbw c2;obtain ⟨V5,bR,e5,hB5,hM5⟩:=CE.addB hM.out #[.int .i64 z1,.int .i64 z2,.int .i64 z3] 89;replace hM5:=A8 hM5;go_upto_region 6 with fail;rw [<-e5,<-hB5];clear e5 hB5 c0 c1 c2 hM;obtain ⟨m,hm⟩:∃ m,m=max (loc-z1) (z1-loc):=⟨_,rfl⟩;have hmb:0<=m/\m<=10000000:=by omega
   have SP:=A8 (fun W=>OD d m W hd hmb);have b1:=SW hd hmb;have b2:=most_bd hd hmb;have w1:IntKind.i64.wrap (loc-z1)=loc-z1:=Bz _ Ad;have w2:IntKind.i64.wrap (z1-loc)=z1-loc:=Bz _ Ad;have hm':max (loc-z1) (z1-loc)=m:=hm.symm;have y0:=(hM5.out.cell bR _ _ Ah 0).trans (show _=some (Value.int .i64 z1) from rfl);have x0:=(hM5.out.cell bC _ _ Ak 0).trans (show _=some (Value.int .i64 d) from rfl);rcases Cr loc z1 with hc | hc | hc
   ·have e:m=z1-loc:=by omega
    rw [AI hc,<-e] at hA hB;clear hm e;generalize EC d m=x at *
    generalize EO d m=y at *
    have n1:IntKind.i64.wrap (-y)=-y:=Bz _ Ad;have n2:IntKind.i64.wrap (-x)=-x:=Bz _ Ad;have n3:IntKind.i64.wrap (z2+-y)=z2+-y:=Bz _ Ad;have n4:IntKind.i64.wrap (z3+-x)=z3+-x:=Bz _ Ad;go_wp2_with fail;refine Calls.mono (SP.out _) ?_;rintro e w1 ⟨rfl,hb⟩;replace hM5:=A8 (hM5.out.call hb);clear y0 x0 hb SP hm';have y0:=(hM5.out.cell bR _ _ Ah 0).trans (show _=some (Value.int .i64 z1) from rfl);have y1:=(hM5.out.cell bR _ _ Ah 1).trans (show _=some (Value.int .i64 z2) from rfl);have y2:=(hM5.out.cell bR _ _ Ah 2).trans (show _=some (Value.int .i64 z3) from rfl);go_wp2_with fail;refine Calls.mono (I0 bW lo hi_ (z2+-y) (z3+-x) w _ _ _ hM5.out.tail) ?_;rintro e w2 ⟨rfl,hM6⟩;replace hM6:=A8 (show CE w [(bW,#[.int .i64 (EP d loc (rs.take (i+1)) 0),.int .i64 (DM d loc (rs.take (i+1)) 10000000)],158),(bO,#[.int .i64 0,.int .i64 0],158),(bC,#[.int .i64 d,.slice (some ⟨b,off,none⟩) n cap],39)] [] w2 from by rw [hA.out,hB.out];exact hM6);clear hM5 y0 y1 y2;go_wp2_with fail;go_roundw;case rel=>exact ⟨i+1,by go_num,Ad,hM6⟩
    case measure=>simp [intOf];omega
   ·have e:m=0:=by omega
    rw [AF Ad,AI hc,show EO d 0=EO d m by rw [e]] at hA hB;have hc2:¬ loc<z1:=by omega
    have hq:(loc==z1)=true:=by simp [hc]
    clear hm e hc;generalize EC d m=x at *
    generalize EO d m=y at *
    have n1:IntKind.i64.wrap (-y)=-y:=Bz _ Ad;have n3:IntKind.i64.wrap (z2+-y)=z2+-y:=Bz _ Ad;have n4:IntKind.i64.wrap (z3+y)=z3+y:=Bz _ Ad;go_wp2_with fail;refine Calls.mono (SP.out _) ?_;rintro e w1 ⟨rfl,hb⟩;replace hM5:=A8 (hM5.out.call hb);clear y0 x0 hb SP hm';have y0:=(hM5.out.cell bR _ _ Ah 0).trans (show _=some (Value.int .i64 z1) from rfl);have y1:=(hM5.out.cell bR _ _ Ah 1).trans (show _=some (Value.int .i64 z2) from rfl);have y2:=(hM5.out.cell bR _ _ Ah 2).trans (show _=some (Value.int .i64 z3) from rfl);go_wp2_with fail;refine Calls.mono (I0 bW lo hi_ (z2+-y) (z3+y) w _ _ _ hM5.out.tail) ?_;rintro e w2 ⟨rfl,hM6⟩;replace hM6:=A8 (show CE w [(bW,#[.int .i64 (EP d loc (rs.take (i+1)) 0),.int .i64 (DM d loc (rs.take (i+1)) 10000000)],158),(bO,#[.int .i64 0,.int .i64 0],158),(bC,#[.int .i64 d,.slice (some ⟨b,off,none⟩) n cap],39)] [] w2 from by rw [hA.out,hB.out];exact hM6);clear hM5 y0 y1 y2;go_wp2_with fail;go_roundw;case rel=>exact ⟨i+1,by go_num,Ad,hM6⟩
    case measure=>simp [intOf];omega
   ·have e:m=loc-z1:=by omega
    rw [AF Ad,AF Ad,<-e] at hA hB;have hc2:¬ loc<z1:=by omega
    have hc3:¬ loc=z1:=by omega
    clear hm e;generalize EC d m=x at *
    generalize EO d m=y at *
    have n3:IntKind.i64.wrap (z2+x)=z2+x:=Bz _ Ad;have n4:IntKind.i64.wrap (z3+y)=z3+y:=Bz _ Ad;go_wp2_with fail;refine Calls.mono (SP.out _) ?_;rintro e w1 ⟨rfl,hb⟩;replace hM5:=A8 (hM5.out.call hb);clear y0 x0 hb SP hm';have y0:=(hM5.out.cell bR _ _ Ah 0).trans (show _=some (Value.int .i64 z1) from rfl);have y1:=(hM5.out.cell bR _ _ Ah 1).trans (show _=some (Value.int .i64 z2) from rfl);have y2:=(hM5.out.cell bR _ _ Ah 2).trans (show _=some (Value.int .i64 z3) from rfl);go_wp2_with fail;refine Calls.mono (I0 bW lo hi_ (z2+x) (z3+y) w _ _ _ hM5.out.tail) ?_;rintro e w2 ⟨rfl,hM6⟩;replace hM6:=A8 (show CE w [(bW,#[.int .i64 (EP d loc (rs.take (i+1)) 0),.int .i64 (DM d loc (rs.take (i+1)) 10000000)],158),(bO,#[.int .i64 0,.int .i64 0],158),(bC,#[.int .i64 d,.slice (some ⟨b,off,none⟩) n cap],39)] [] w2 from by rw [hA.out,hB.out];exact hM6);clear hM5 y0 y1 y2;go_wp2_with fail;go_roundw;case rel=>exact ⟨i+1,by go_num,Ad,hM6⟩
    case measure=>simp [intOf];omega
theorem cat_r6 {Q:Exit->Act->World->Prop} {us:List Value} {bW:Nat} {lo hi:Int} {w W0:World} {L:Ec} {R:List E9}    (x28:Dd w L R bW 0 (.int .i64 lo)) (x30:Dd w L R bW 1 (.int .i64 hi)) (h0:Hid (CE w L R W0)) (hN:us.length=31) (g7:us[7]? = some (.pointer (some ⟨bW,0,none⟩))) {ops:Array Oper} (ho:D8 Tryz.f77.body 6=some ops)
  (hQ:∀ (x:Nat->Value)  (W':World),x 4=.int .i64 lo->x 5=.int .i64 hi->x 6=.int .i64 0->Hid (CE w L R W')->Q .normal { tmps:=(Dp [27,28,29,30,4,5,6] x us).toArray,defers:=[] } W') :
  (Code.region 6 ops true).wp Tryz.prog Q { tmps:=us.toArray,defers:=[] } W0:=by
 obtain rfl:=AL (ho.symm.trans (rfl:D8 Tryz.f77.body 6=some _))
 clear ho
 replace hQ:=A8 hQ
 let Fl:Unit->FL:=fun g=>[some (27,.pointer (some ⟨bW,0,none⟩)),some (28,.int .i64 lo),some (29,.pointer (some ⟨bW,1,none⟩)),some (30,.int .i64 hi),some (4,.int .i64 lo),some (5,.int .i64 hi),some (6,.int .i64 0)]
 let Ml:Unit->ML:=fun g=>[]
 let Sl_:Unit->List (World->Prop):=fun g=>[fun W=>CE w L R W]
 have St:Hn 31 [27,28,29,30,4,5,6] [] Fl Ml (CE w L R) Sl_:=⟨fun _=>by kernel_rfl,fun _=>rfl,fun _ _ hb h=>h.call hb,fun g=>(fun _ h=>by cases h),fun g=>BH.2 ⟨fun W W' hb h=>h.call hb,(fun _ h=>by cases h)⟩⟩
 refine EN St us [] () hN h0.out.drew h0.out.drew ?_ ?_
 refine sV St ?_ (fun z=>z.u g7)
 refine sV St ?_ (fun z=>z.x 0 rfl) (fun z=>x28 _ z.c)
 refine sV St ?_ (fun z=>z.u g7)
 refine sV St ?_ (fun z=>z.x 2 rfl) (fun z=>x30 _ z.c)
 refine sV St ?_ (fun z=>z.x 1 rfl)
 refine sV St ?_ (fun z=>z.x 3 rfl)
 refine sV St ?_
 ·exact D5
 ·intro g a W z q
  have hM9:CE _ _ _ _:=q;have x4:=z.v.get 4 rfl Ab;have x5:=z.v.get 5 rfl Ab;have x6:=z.v.get 6 rfl Ab;rw [z.f.eqs];exact hQ.out _   _ (by simp [x4]) (by simp [x5]) (by simp [x6]) (A8 hM9)
theorem cat_any (d loc:Int) (rv:Value) (rs:List Rd) (w:World) (h:NL w rv rs) (hd:0<=d/\d<=100) (hl:0<=loc/\loc<=10000000) (hr:J7 rs) (hw:EP d loc rs 0<=DM d loc rs 10000000) :
  Calls Tryz.prog 77 #[.agg #[.int .i64 d,rv],.int .i64 loc] w (CM w (.tuple #[.int .i64 (EP d loc rs 0),.int .i64 (DM d loc rs 10000000),.int .i64 0])):=by
 obtain ⟨a,cap,rfl⟩:=h.shape
 obtain ⟨V1,bC,e1,eB,S1⟩:=(CE.start w).addB #[.int .i64 d,.slice a rs.length cap] 39
 have hM:=A8 S1
 have VA:=A8 (fun W (hW:Below w.heap.size w W)=>L6 d _ rs W (h.below hW) hd hr)
 have AR:=A8 (fun W (hW:Below w.heap.size w W)=>OE d loc _ rs W (h.below hW) hd hl hr)
 clear S1 h hr
 generalize EP d loc rs 0=lo at *
 generalize DM d loc rs 10000000=hi at *
 generalize rs.length=n at *
 have l1:¬ loc<0:=by omega
 have l2:¬ 10000000<loc:=by omega
 have l3:¬ hi<lo:=by omega
 go_enter Tryz.func77,Tryz.ntmps77
 go_upto_region 1 with fail
 rw [<-e1,<-eB]
 clear e1 eB
 have x0:=(hM.out.cell bC _ _ Ah 0).trans (show _=some (Value.int .i64 d) from rfl)
 have x1:=(hM.out.cell bC _ _ Ah 1).trans (show _=some (Value.slice a n cap) from rfl)
 go_wp2_with fail
 refine Calls.mono (VA.out _ hM.out.below) ?_
 rintro e w1 ⟨rfl,hb⟩
 replace hM:=A8 (hM.out.call hb)
 clear x0 x1 hb VA
 have x0:=(hM.out.cell bC _ _ Ah 0).trans (show _=some (Value.int .i64 d) from rfl)
 have x1:=(hM.out.cell bC _ _ Ah 1).trans (show _=some (Value.slice a n cap) from rfl)
 go_wp2_with fail
 refine Calls.mono (AR.out _ hM.out.below) ?_
 rintro e w2 ⟨rfl,hb⟩
 replace hM:=A8 (hM.out.call hb)
 clear x0 x1 hb AR
 obtain ⟨V5,bW,e5,hB5,hM5⟩:=CE.addB hM.out #[.int .i64 lo,.int .i64 hi] 158
 replace hM5:=A8 hM5
 go_upto_region 4 with fail
 rw [<-e5,<-hB5]
 clear e5 hB5 hM
 have x0:=(hM5.out.cell bW _ _ Ah 0).trans (show _=some (Value.int .i64 lo) from rfl)
 have x1:=(hM5.out.cell bW _ _ Ah 1).trans (show _=some (Value.int .i64 hi) from rfl)
 go_upto_region 6 with fail
 clear x0 x1
 refine cat_r6 (bW:=bW) (lo:=lo) (hi:=hi) (fun W hW=>(hM5.out.call hW.below).cell _ _ _ Ah 0) (fun W hW=>(hM5.out.call hW.below).cell _ _ _ Ah 1) (A8 (CE.start _)) rfl rfl Ab ?_
 intro xx W' hx4 hx5 hx6 hM
 simp only [Dp,BN,BO,A5,A6,hx4,hx5,hx6]
 have hfin:=A8 (hM5.out.call hM.out.below).below
 clear hM hM5 hx4 hx5 hx6
 go_wp2
 exact bodyPost_ret (v:=.tuple #[.int .i64 lo,.int .i64 hi,.int .i64 0]) (by simp [results,Tryz.results77,go_sem]) rfl ⟨rfl,hfin.out⟩
structure Clk.Sm where
 loc:Int
 val:Int
def CSm (W:World) (b o:Nat) (s:Sm):Prop:=W.cell? ⟨b,o,none⟩=some (.int .i64 s.loc)/\W.cell? ⟨b,o+1,none⟩=some (.int .i64 s.val)
theorem CSm.stable:IM CSm:=fun h hb ⟨h1,h2⟩=>⟨(hb.cell (p:=⟨_,_,none⟩) h).trans h1,(hb.cell (p:=⟨_,_,none⟩) h).trans h2⟩
abbrev Nl (W:World) (v:Value) (l:List Sm):Prop:=IA 2 CSm W v l
theorem Nl.below {W W':World} {v:Value} {l:List Sm} (h:Nl W v l) (hb:Below W.heap.size W W'):Nl W' v l:=IA.below (C:=CSm) (fun h1 h2 h3=>CSm.stable h1 h2 h3) h hb
def CW (ss:List Sm) (i:Nat):Sm:=ss.getD i ⟨0,0⟩
theorem FK {ss:List Sm} {i:Nat} (h:i<ss.length):ss[i]? = some (CW ss i):=by
 unfold CW;rw [Au h,List.getD_eq_getElem?_getD,Au h];rfl
def Hq (ss:List Sm):Nat->Int
 | 0=>-1
 | i+1=>(CW ss i).loc
structure PR (ss:List Sm):Prop where
 len:ss.length<=24
 at_:∀ i,i<ss.length->Hq ss i<(CW ss i).loc/\(CW ss i).loc<=10000000/\-1000000<=(CW ss i).val/\(CW ss i).val<=1000000
 pos:∀ i,i<ss.length->0<=(CW ss i).loc
theorem Jw (x a b:Int) (w:World) (h:a<=x/\x<=b) :
  Calls Tryz.prog 45 #[.int .i64 x,.int .i64 a,.int .i64 b] w (CM w (.bool true)):=by
 obtain ⟨h1,h2⟩:=h
 go_enter Tryz.func45,Tryz.ntmps45
 go_wp2
 go_ret
 exact ⟨rfl,Below.refl _ _⟩
theorem QT (d tol rate:Int) (rv sv:Value) (rs:List Rd) (ss:List Sm) (w:World) (h:NL w rv rs) (hs:Nl w sv ss) (hd:0<=d/\d<=100) (ht:0<=tol/\tol<=1000) (hra:0<=rate/\rate<=1000) (hr:J7 rs) (hss:PR ss) :
  Calls Tryz.prog 44 #[.agg #[.int .i64 d,rv,.int .i64 tol,.int .i64 rate,sv]] w (CM w (.bool true)):=by
 obtain ⟨ra,rcap,rfl⟩:=h.shape
 obtain ⟨a,cap,rfl⟩:=hs.shape
 obtain ⟨V1,bC,e1,eB,S1⟩:=(CE.start w).addB #[.int .i64 d,.slice ra rs.length rcap,.int .i64 tol,.int .i64 rate,.slice a ss.length cap] 42
 have hM:=A8 S1
 have VA:=A8 (fun W (hW:Below w.heap.size w W)=>L6 d _ rs W (h.below hW) hd hr)
 have IT:=A8 (fun W=>Jw tol 0 1000 W ht)
 have IR:=A8 (fun W=>Jw rate 0 1000 W hra)
 clear S1 h hr
 have HS:=A8 hs
 have hn24:=hss.len
 replace hss:=A8 hss
 clear hs
 generalize rs.length=rn at *
 obtain ⟨n,hn⟩:∃ n,n=ss.length:=⟨_,rfl⟩
 rw [<-hn] at e1 hM HS hn24 |-
 replace hn:=A8 hn
 have d3:(n:Int)<=24:=by omega
 go_enter Tryz.func44,Tryz.ntmps44
 go_upto_region 1 with fail
 rw [<-e1,<-eB]
 clear e1 eB
 have x1:=(hM.out.cell bC _ _ Ah 4).trans (show _=some (Value.slice a n cap) from rfl)
 go_wp2_with fail
 clear x1
 go_loopw [3,9] (fun p o wr=>∃ i:Nat,p=.int .i64 (Hq ss i)/\o=.int .i64 i/\i<=n/\Hid (CE w [(bC,#[.int .i64 d,.slice ra rn rcap,.int .i64 tol,.int .i64 rate,.slice a n cap],42)] [] wr)) (fun _ o _=>n-(intOf o).toNat)
 case atStart=>exact ⟨0,rfl,rfl,Ad,hM⟩
 case round =>
  clear hM;obtain ⟨i,rfl,rfl,hi,hM⟩:=hrel;by_cases hin:i<n;case neg =>
   have hin':¬ (i:Int)<n:=by omega
   have x0:=(hM.out.cell bC _ _ Ah 0).trans (show _=some (Value.int .i64 d) from rfl);have x1:=(hM.out.cell bC _ _ Ah 1).trans (show _=some (Value.slice ra rn rcap) from rfl);go_wp2_with fail;refine Calls.mono (VA.out _ hM.out.below) ?_;rintro e w1 ⟨rfl,hb⟩;replace hM:=A8 (hM.out.call hb);clear x0 x1 hb VA;have x2:=(hM.out.cell bC _ _ Ah 2).trans (show _=some (Value.int .i64 tol) from rfl);go_wp2_with fail;refine Calls.mono (IT.out _) ?_;rintro e w2 ⟨rfl,hb⟩;replace hM:=A8 (hM.out.call hb);clear x2 hb IT;have x3:=(hM.out.cell bC _ _ Ah 3).trans (show _=some (Value.int .i64 rate) from rfl);go_wp2_with fail;refine Calls.mono (IR.out _) ?_;rintro e w3 ⟨rfl,hb⟩;replace hM:=A8 (hM.out.call hb);clear x3 hb IR;have x4:=(hM.out.cell bC _ _ Ah 4).trans (show _=some (Value.slice a n cap) from rfl);have hfin:=A8 hM.out.below;clear hM;go_wp2;go_ret;exact ⟨rfl,hfin.out⟩
  case pos =>
   clear VA IT IR;have hin':(i:Int)<n:=by omega
   have hi0:(0:Int)<=i:=by omega
   obtain ⟨k1,k2,k3,k4⟩:=hss.out.at_ i (by rw [<-hn.out];exact hin);obtain ⟨b,off,ea,hbw,c0,c1⟩:∃ b off,a=some ⟨b,off,none⟩/\b<w.heap.size/\CSm w b (off+i*2) (CW ss i):=by
    rcases HS.out with ⟨e,e2⟩ | ⟨b,off,cap',e,h1,h2,h3,h4⟩
    ·have:=hn.out;rw [e2] at this;simp at this;omega
    ·cases e
     exact ⟨b,off,rfl,h3,h4 i _ (FK (by rw [<-hn.out];exact hin))⟩
   subst ea;have hnx:Hid (Hq ss (i+1)=(CW ss i).loc):=A8 rfl;generalize (CW ss i).loc=z1 at *
   generalize (CW ss i).val=z2 at *
   generalize Hq ss i=z0 at *
   have IV:=A8 (fun W=>Jw z2 (-1000000) 1000000 W ⟨k3,k4⟩);replace c0:=hM.out.old hbw c0;replace c1:=hM.out.old hbw c1;obtain ⟨V5,bR,e5,hB5,hM5⟩:=CE.addB hM.out #[.int .i64 z1,.int .i64 z2] 66;replace hM5:=A8 hM5;go_upto_region 5 with fail;rw [<-e5,<-hB5];clear e5 hB5 c0 c1 hM;have y0:=(hM5.out.cell bR _ _ Ah 0).trans (show _=some (Value.int .i64 z1) from rfl);have y1:=(hM5.out.cell bR _ _ Ah 1).trans (show _=some (Value.int .i64 z2) from rfl);have q1:¬ z1<=z0:=by omega
   have q2:¬ 10000000<z1:=by omega
   go_wp2_with fail;refine Calls.mono (IV.out _) ?_;rintro e w2 ⟨rfl,hb⟩;replace hM5:=A8 (hM5.out.call hb);clear y0 y1 hb IV;have y0:=(hM5.out.cell bR _ _ Ah 0).trans (show _=some (Value.int .i64 z1) from rfl);go_wp2_with fail;go_roundw;case rel=>exact ⟨i+1,by rw [hnx.out],by go_num,Ad,A8 hM5.out.tail⟩
   case measure=>simp [intOf];omega
structure Clk.Fc where
 ix:Int
 lo:Int
 hi:Int
 fi:Int
 la:Int
theorem SX {P:Program} {w:World} (ts:Array TypeId) (t:TypeId) (k k1 k2 k3:IntKind) (x y z u:Int):(Builtin.max_ ts t #[.int k x,.int k1 y,.int k2 z,.int k3 u]).run P w=.ok (.int k (max (max (max x y) z) u)) w:=by
 have e:∀ a b:Int,(if a<b then b else a)=max a b:=fun a b=>by split <;> omega
 simp [Builtin.max_,Builtin.max2,e]
attribute [local go_sem] SX
def Clk.Fc.cells (f:Fc):Array Value:=#[.int .i64 f.ix,.int .i64 f.lo,.int .i64 f.hi,.int .i64 f.fi,.int .i64 f.la]
theorem fat_r2 {Q:Exit->Act->World->Prop} {us:List Value} {bF:Nat} {ix lo hi fi la q:Int} {w W0:World} {L:Ec} {R:List E9} {r31:Int} {r35:Int}   (x29:Dd w L R bF 1 (.int .i64 lo)) (h31:IntKind.i64.wrap (lo-q)=r31) (x33:Dd w L R bF 2 (.int .i64 hi)) (h35:IntKind.i64.wrap (hi+q)=r35) (h0:Hid (CE w L R W0)) (hN:us.length=36) (g3:us[3]? = some (.pointer (some ⟨bF,0,none⟩))) (g8:us[8]? = some (.int .i64 q)) {ops:Array Oper} (ho:D8 Tryz.f75.body 2=some ops)
  (hQ:∀ (x:Nat->Value)  (W':World),x 6=.int .i64 r31->x 7=.int .i64 r35->Hid (CE w L R W')->Q .normal { tmps:=(Dp [28,29,30,31,32,33,34,35,6,7] x us).toArray,defers:=[] } W') :
  (Code.region 2 ops true).wp Tryz.prog Q { tmps:=us.toArray,defers:=[] } W0:=by
 obtain rfl:=AL (ho.symm.trans (rfl:D8 Tryz.f75.body 2=some _))
 clear ho
 replace hQ:=A8 hQ
 let Fl:Unit->FL:=fun g=>[some (28,.pointer (some ⟨bF,1,none⟩)),some (29,.int .i64 lo),some (30,.int .i64 q),some (31,.int .i64 r31),some (32,.pointer (some ⟨bF,2,none⟩)),some (33,.int .i64 hi),some (34,.int .i64 q),some (35,.int .i64 r35),some (6,.int .i64 r31),some (7,.int .i64 r35)]
 let Ml:Unit->ML:=fun g=>[]
 let Sl_:Unit->List (World->Prop):=fun g=>[fun W=>CE w L R W]
 have St:Hn 36 [28,29,30,31,32,33,34,35,6,7] [] Fl Ml (CE w L R) Sl_:=⟨fun _=>by kernel_rfl,fun _=>rfl,fun _ _ hb h=>h.call hb,fun g=>(fun _ h=>by cases h),fun g=>BH.2 ⟨fun W W' hb h=>h.call hb,(fun _ h=>by cases h)⟩⟩
 refine EN St us [] () hN h0.out.drew h0.out.drew ?_ ?_
 refine sV St ?_ (fun z=>z.u g3)
 refine sV St ?_ (fun z=>z.x 0 rfl) (fun z=>x29 _ z.c)
 refine sV St ?_ (fun z=>z.u g8)
 refine sV St ?_ (fun z=>z.x 1 rfl) (fun z=>z.x 2 rfl)
 refine sV St ?_ (fun z=>z.u g3)
 refine sV St ?_ (fun z=>z.x 4 rfl) (fun z=>x33 _ z.c)
 refine sV St ?_ (fun z=>z.u g8)
 refine sV St ?_ (fun z=>z.x 5 rfl) (fun z=>z.x 6 rfl)
 refine sV St ?_ (fun z=>z.x 3 rfl)
 refine sV St ?_ (fun z=>z.x 7 rfl)
 ·exact D5
 ·intro g a W z q
  have hM9:CE _ _ _ _:=q;have x6:=z.v.get 8 rfl Ab;have x7:=z.v.get 9 rfl Ab;rw [z.f.eqs];exact hQ.out _   _ (by simp [x6]) (by simp [x7]) (A8 hM9)
theorem fat_any (ix lo hi fi la rate s:Int) (w:World) (hl:-2000000<=lo/\lo<=2000000) (hh:-2000000<=hi/\hi<=2000000) (hf:-200000000000<=fi/\fi<=200000000000) (ha:-200000000000<=la/\la<=200000000000) (hs:0<=s/\s<=10000000) (hr:0<=rate/\rate<=1000) :
  Calls Tryz.prog 75 #[.agg #[.int .i64 ix,.int .i64 lo,.int .i64 hi,.int .i64 fi,.int .i64 la],.int .i64 rate,.int .i64 s] w (CM w (.tuple #[.int .i64 (lo-DZ rate s fi la),.int .i64 (hi+DZ rate s fi la)])):=by
 obtain ⟨V1,bF,e1,eB,S1⟩:=(CE.start w).addB #[.int .i64 ix,.int .i64 lo,.int .i64 hi,.int .i64 fi,.int .i64 la] 127
 have hM:=A8 S1
 clear S1
 have w1:IntKind.i64.wrap (s-fi)=s-fi:=Bz _ Ad
 have w2:IntKind.i64.wrap (la-s)=la-s:=Bz _ Ad
 have w3:IntKind.i64.wrap (fi-s)=fi-s:=Bz _ Ad
 have w4:IntKind.i64.wrap (s-la)=s-la:=Bz _ Ad
 obtain ⟨m,hm⟩:∃ m,m=max (s-fi) (max (la-s) (max (fi-s) (s-la))):=⟨_,rfl⟩
 have hmb:0<=m/\m<=400000000000:=by omega
 have hmq:0<=rate*m/\rate*m<=400000000000000:=by
  have h1:=BF hr.1 hmb.1;have h2:=Az hr.2 hmb.1;omega
 have hq:DZ rate s fi la=rate*m:=by unfold DZ;rw [hm];congr 1;omega
 rw [hq]
 have w5:IntKind.i64.wrap (rate*m)=rate*m:=Bz _ Ad
 have w6:IntKind.i64.wrap (lo-rate*m)=lo-rate*m:=Bz _ Ad
 have w7:IntKind.i64.wrap (hi+rate*m)=hi+rate*m:=Bz _ Ad
 replace hm:=hm.symm
 clear hq hmb hmq hl hh hf ha hs hr
 go_enter Tryz.func75,Tryz.ntmps75
 go_upto_region 1 with fail
 rw [<-e1,<-eB]
 clear e1 eB
 have x3:=(hM.out.cell bF _ _ Ah 3).trans (show _=some (Value.int .i64 fi) from rfl)
 have x4:=(hM.out.cell bF _ _ Ah 4).trans (show _=some (Value.int .i64 la) from rfl)
 go_upto_region 2 with fail
 clear x3 x4
 generalize rate*m=q at *
 refine fat_r2 (bF:=bF) (ix:=ix) (lo:=lo) (hi:=hi) (fi:=fi) (la:=la) (q:=q) (fun W hW=>(hM.out.call hW.below).cell _ _ _ Ah 1) w6 (fun W hW=>(hM.out.call hW.below).cell _ _ _ Ah 2) w7 (A8 (CE.start _)) rfl rfl rfl Ab ?_
 intro xx W' hx6 hx7 hM'
 simp only [Dp,BN,BO,A5,A6,hx6,hx7]
 have hfin:=A8 (hM.out.call hM'.out.below).below
 clear hM hM' hx6 hx7
 go_wp2
 exact bodyPost_ret (v:=.tuple #[.int .i64 (lo-q),.int .i64 (hi+q)]) (by simp [results,Tryz.results75,go_sem]) rfl ⟨rfl,hfin.out⟩
theorem Gb {W:World} {t:TypeId} {O:Nat} {a b c d:Value} (h:CO W O #[a,b,c,d] t) (x y z u:Value):W.frozen? ⟨O,0,none⟩=false/\W.frozen? ⟨O,1,none⟩=false/\W.frozen? ⟨O,2,none⟩=false/\W.frozen? ⟨O,3,none⟩=false/\W.cell? ⟨O,0,none⟩=some a/\W.cell? ⟨O,1,none⟩=some b/\W.cell? ⟨O,2,none⟩=some c/\W.cell? ⟨O,3,none⟩=some d /\
  CO ((((W.setCell ⟨O,0,none⟩ x).setCell ⟨O,1,none⟩ y).setCell ⟨O,2,none⟩ z).setCell ⟨O,3,none⟩ u) O #[x,y,z,u] t :=
 ⟨h.frozen 0,h.frozen 1,h.frozen 2,h.frozen 3,h.cell 0,h.cell 1,h.cell 2,h.cell 3,(((h.set 0 x).set 1 y).set 2 z).set 3 u⟩
theorem CE.out4 {w W:World} {L:Ec} {R:List E9} {t:TypeId} {O:Nat} {a b c d:Value} (h:CE w ((O,#[a,b,c,d],t) :: L) R W) (x y z u:Value):CE w ((O,#[x,y,z,u],t) :: L) R ((((W.setCell ⟨O,0,none⟩ x).setCell ⟨O,1,none⟩ y).setCell ⟨O,2,none⟩ z).setCell ⟨O,3,none⟩ u):=(((h.put0 0 x).put0 1 y).put0 2 z).put0 3 u
theorem Ki (w:World):Calls Tryz.prog 73 #[] w (CM w (.agg #[.int .i64 (-1000000),.int .i64 1000000,.int .i64 (-1),.int .i64 (-1)])):=by
 obtain ⟨V1,bO,e1,eB,hM⟩:=(CE.start w).addB #[.int .i64 0,.int .i64 0,.int .i64 0,.int .i64 0] 68;obtain ⟨k0,k1,k2,k3,c0,c1,c2,c3,hB⟩:=Gb (hM.blks _ Ah) (.int .i64 (-1000000)) (.int .i64 1000000) (.int .i64 (-1)) (.int .i64 (-1));have r0:=hB.cell 0;have r1:=hB.cell 1;have r2:=hB.cell 2;have r3:=hB.cell 3;simp only [BR,Cm,Cn] at r0 r1 r2 r3;have hfin:=A8 (hM.out4 (.int .i64 (-1000000)) (.int .i64 1000000) (.int .i64 (-1)) (.int .i64 (-1))).below;clear hM hB;go_enter Tryz.func73,Tryz.ntmps73;go_upto_region 1 with fail;rw [<-e1,<-eB];clear e1 eB;go_wp2;exact bodyPost_ret (v:=.agg #[.int .i64 (-1000000),.int .i64 1000000,.int .i64 (-1),.int .i64 (-1)]) (by simp [results,Tryz.results73,go_sem,r0,r1,r2,r3]) rfl ⟨rfl,hfin.out⟩
end
end Go.Proofs.YtdkonnnmkceagaaGreatDoor
