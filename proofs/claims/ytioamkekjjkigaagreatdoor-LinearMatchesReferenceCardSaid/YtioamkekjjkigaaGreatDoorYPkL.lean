/- PkL -/
import Derived.Test.YtioamkekjjkigaaGreatDoorYPkA
namespace Go.Proofs.YtioamkekjjkigaaGreatDoor
section
namespace LnM
def sm:Nat->(Nat->Int)->Int
 | 0,_=>0
 | n+1,f=>sm n f+f n
theorem sm_congr:∀ {n:Nat} {f g:Nat->Int},(∀ i,i<n->f i=g i)->sm n f=sm n g
 | 0,_,_,_=>rfl
 | n+1,f,g,h=>by rw [sm,sm,sm_congr (fun i hi=>h i Ad),h n Ad]
theorem Jt (f g:Nat->Int):∀ n:Nat,sm n (fun i=>f i+g i)=sm n f+sm n g
 | 0=>rfl
 | n+1=>by rw [sm,sm,sm,Jt f g n];omega
theorem sm_mul (c:Int) (f:Nat->Int):∀ n:Nat,sm n (fun i=>c*f i)=c*sm n f
 | 0=>by simp [sm]
 | n+1=>by rw [sm,sm,sm_mul c f n,CM]
theorem F4 (c:Int) (f:Nat->Int) (n:Nat):sm n (fun i=>f i*c)=sm n f*c:=by
 rw [AM,<-sm_mul];exact sm_congr fun i _=>AM _ _
theorem Nx (f:Nat->Int):∀ n:Nat,sm n (fun i=>-f i)=-sm n f
 | 0=>rfl
 | n+1=>by rw [sm,sm,Nx f n];omega
theorem Ny (f g:Nat->Int):∀ n:Nat,sm n (fun i=>f i-g i)=sm n f-sm n g
 | 0=>rfl
 | n+1=>by rw [sm,sm,sm,Ny f g n];omega
theorem sm_zero:∀ {n:Nat} {f:Nat->Int},(∀ i,i<n->f i=0)->sm n f=0
 | 0,_,_=>rfl
 | n+1,f,h=>by rw [sm,sm_zero (fun i hi=>h i Ad),h n Ad];rfl
theorem sm_single:∀ {n:Nat} {f:Nat->Int} {j:Nat},j<n->(∀ i,i<n->i≠j->f i=0)->sm n f=f j
 | n+1,f,j,hj,h=>by
  rw [sm];by_cases e:j=n
  ·subst e
   rw [sm_zero (fun i hi=>h i Ad Ad)];omega
  ·rw [sm_single Ad (fun i hi hne=>h i Ad hne),h n Ad (fun h=>e h.symm)];omega
theorem sm_two {n:Nat} {f:Nat->Int} {a b:Nat} (ha:a<n) (hb:b<n) (hab:a≠b) (h:∀ i,i<n->i≠a->i≠b->f i=0):sm n f=f a+f b:=by
 have e:sm n f=sm n (fun i=>(if i=a then f a else 0)+(if i=b then f b else 0)):=sm_congr fun i hi=>by
  by_cases h1:i=a
  ·subst h1;rw [AU rfl,AP hab];omega
  ·by_cases h2:i=b
   ·subst h2;rw [AP h1,AU rfl];omega
   ·rw [AP h1,AP h2,h i hi h1 h2];omega
 rw [e,Jt,sm_single ha (fun i _ hne=>AP hne),sm_single hb (fun i _ hne=>AP hne),AU rfl,AU rfl]
theorem sm_swap (f:Nat->Nat->Int) (m:Nat):∀ n:Nat,sm n (fun i=>sm m (fun j=>f i j))=sm m (fun j=>sm n (fun i=>f i j))
 | 0=>by rw [sm,sm_zero];intros;rfl
 | n+1=>by rw [sm,sm_swap f m n,<-Jt];rfl
theorem RF:∀ {n:Nat} {f g:Nat->Int},(∀ i,i<n->f i<=g i)->sm n f<=sm n g
 | 0,_,_,_=>CU _
 | n+1,f,g,h=>by
  have h1:=RF (n:=n) (fun i hi=>h i Ad);have h2:=h n Ad;rw [sm,sm];omega
theorem sm_nonneg {n:Nat} {f:Nat->Int} (h:∀ i,i<n->0<=f i):0<=sm n f:=by
 have:=RF (n:=n) (f:=fun _=>0) (g:=f) h;rwa [sm_zero (fun _ _=>rfl)] at this
theorem Qo (f:Nat->Int):∀ n:Nat,((sm n f).natAbs:Int)<=sm n (fun i=>((f i).natAbs:Int))
 | 0=>by simp [sm]
 | n+1=>by
  have h1:=Qo f n;rw [sm,sm];omega
theorem Km:∀ {n:Nat} {f:Nat->Int},0<sm n f->∃ i,i<n/\0<f i
 | 0,_,h=>by rw [sm] at h;omega
 | n+1,f,h=>by
  by_cases h1:0<f n
  ·exact ⟨n,Ad,h1⟩
  ·rw [sm] at h
   obtain ⟨i,hi,hp⟩:=Km (n:=n) (f:=f) Ad;exact ⟨i,Ad,hp⟩
theorem Lw:∀ {n:Nat} {f:Nat->Int},(∀ i,i<n->0<=f i)->sm n f=0->∀ i,i<n->f i=0
 | n+1,f,h,e,i,hi=>by
  have h1:=sm_nonneg (n:=n) (fun i hi=>h i Ad);have h2:=h n Ad;rw [sm] at e;by_cases c:i=n
  ·subst c;omega
  ·exact Lw (n:=n) (fun i hi=>h i Ad) Ad i Ad
def skip (i k:Nat):Nat:=if k<i then k else k+1
theorem Nz (f:Nat->Int):∀ {n i:Nat},i<n+1->sm n (fun k=>f (skip i k))+f i=sm (n+1) f
 | 0,i,h=>by rw [sm,sm,sm,show i=0 by omega]
 | n+1,i,h=>by
  by_cases c:i=n+1
  ·subst c
   rw [sm.eq_def (n+1+1) f];show _=sm (n+1) f+f (n+1);congr 1;exact sm_congr fun k hk=>by unfold skip;rw [AU hk]
  ·have ih:=Nz f (n:=n) (i:=i) Ad
   rw [sm.eq_def (n+1+1) f];show sm n (fun k=>f (skip i k))+f (skip i n)+f i=sm (n+1) f+f (n+1);rw [show skip i n=n+1 from by unfold skip;rw [AP Ad]];omega
def sgn (i:Nat):Int:=if i % 2=0 then 1 else -1
theorem sgn_abs (i:Nat) (x:Int):(sgn i*x).natAbs=x.natAbs:=by unfold sgn;split <;> simp
def GE:Nat->(Nat->Nat->Int)->Int
 | 0,_=>1
 | m+1,M=>sm (m+1) (fun i=>sgn i*M 0 i*GE m (fun j k=>M (j+1) (skip i k)))
theorem Kn:∀ {m:Nat} {M M':Nat->Nat->Int},(∀ j,j<m->∀ i,i<m->M j i=M' j i)->GE m M=GE m M'
 | 0,_,_,_=>rfl
 | m+1,M,M',h=>by
  rw [GE,GE];refine sm_congr fun i hi=>?_
  rw [h 0 Ad i hi];congr 1;exact Kn fun j hj k hk=>h (j+1) Ad _ (by unfold skip;split <;> omega)
def DL {α:Type} (M:Nat->α) (c:Nat) (v:α):Nat->α:=fun j=>if j=c then v else M j
theorem upd_same {α:Type} (M:Nat->α) (c:Nat) (v:α):DL M c v c=v:=AU rfl
theorem upd_ne {α:Type} (M:Nat->α) {c j:Nat} (v:α) (h:j≠c):DL M c v j=M j:=AP h
theorem upd_upd {α:Type} (M:Nat->α) (c:Nat) (u v:α):DL (DL M c u) c v=DL M c v:=by
 funext j;unfold DL;split <;> rfl
theorem EU {α:Type} (M:Nat->α) {a b:Nat} (h:a≠b) (u v:α):DL (DL M a u) b v=DL (DL M b v) a u:=by
 funext j;unfold DL;by_cases h1:j=a
 ·subst h1;rw [AP h,AU rfl,AU rfl]
 ·by_cases h2:j=b
  ·subst h2;rw [AU rfl,AP h1,AU rfl]
  ·rw [AP h2,AP h1,AP h1,AP h2]
theorem Lx {α:Type} (M:Nat->α) (c:Nat):DL M c (M c)=M:=by
 funext j;unfold DL;split
 ·rename_i h;rw [h]
 ·rfl
theorem Ko {α:Type} (M:Nat->α) {c:Nat} {v:α} (h:M c=v):DL M c v=M:=by rw [<-h,Lx]
theorem Qp (M:Nat->Nat->Int) (c i:Nat) (v:Nat->Int):(fun j k=>DL M (c+1) v (j+1) (skip i k))=DL (fun j k=>M (j+1) (skip i k)) c (fun k=>v (skip i k)):=by
 funext j k;unfold DL;by_cases h:j=c
 ·subst h;rw [AU rfl,AU rfl]
 ·rw [AP h,AP Ad]
theorem Qq (M:Nat->Nat->Int) (i:Nat) (v:Nat->Int):(fun j k=>DL M 0 v (j+1) (skip i k))=(fun j k=>M (j+1) (skip i k)):=by
 funext j k;unfold DL;rw [AP Ad]
theorem JP:∀ {m:Nat} (M:Nat->Nat->Int) {c:Nat},c<m->∀ (a b:Int) (u v:Nat->Int),GE m (DL M c (fun i=>a*u i+b*v i))=a*GE m (DL M c u)+b*GE m (DL M c v)
 | m+1,M,0,_,a,b,u,v=>by
  rw [GE,GE,GE];simp only [Qq,upd_same];rw [<-sm_mul,<-sm_mul,<-Jt];exact sm_congr fun i _=>by grind
 | m+1,M,c+1,h,a,b,u,v=>by
  rw [GE,GE,GE];simp only [Qp];simp only [upd_ne M _ (show 0≠c+1 by omega)];rw [<-sm_mul,<-sm_mul,<-Jt];refine sm_congr fun i _=>?_
  rw [JP (fun j k=>M (j+1) (skip i k)) (c:=c) Ad a b (fun k=>u (skip i k)) (fun k=>v (skip i k))];grind
theorem J4 {m:Nat} (M:Nat->Nat->Int) {c:Nat} (h:c<m) (u v:Nat->Int):GE m (DL M c (fun i=>u i+v i))=GE m (DL M c u)+GE m (DL M c v):=by
 have:=JP M h 1 1 u v;simpa using this
theorem OE {m:Nat} (M:Nat->Nat->Int) {c:Nat} (h:c<m) (a:Int) (u:Nat->Int):GE m (DL M c (fun i=>a*u i))=a*GE m (DL M c u):=by
 have:=JP M h a 0 u u;simpa using this
theorem U6 {m:Nat} (M:Nat->Nat->Int) {c:Nat} (h:c<m):GE m (DL M c (fun _=>0))=0:=by
 have:=JP M h 0 0 (fun _=>0) (fun _=>0);simpa using this
theorem RG {m:Nat} (M:Nat->Nat->Int) {c:Nat} (h:c<m) (x:Nat->Int) (V:Nat->Nat->Int):∀ n:Nat,GE m (DL M c (fun i=>sm n (fun l=>x l*V l i)))=sm n (fun l=>x l*GE m (DL M c (V l)))
 | 0=>U6 M h
 | n+1=>by
  have e:=JP M h 1 (x n) (fun i=>sm n (fun l=>x l*V l i)) (V n);rw [RG M h x V n,B7] at e;rw [sm,<-e];congr 1;congr 1;funext i;rw [sm,B7]
def Fh (i j:Nat):Nat:=if j<i then j else j-1
theorem OG (i k:Nat):Fh i (skip i k)=k:=by
 unfold Fh skip;by_cases h:k<i
 ·rw [AU h,AU h]
 ·rw [AP h,AP Ad];omega
theorem skip_ne (i k:Nat):skip i k≠i:=by unfold skip;split <;> omega
theorem MP {i j:Nat} (h:j<i) (r:Nat):skip i (skip (Fh i j) r)=skip j (skip (Fh j i) r):=by
 unfold skip Fh;rw [AU h,AP (show ¬ i<j by omega)];repeat' split
 all_goals omega
theorem OH {i j:Nat} (h:j<i):sgn i*sgn (Fh i j)=-(sgn j*sgn (Fh j i)):=by
 unfold Fh sgn;rw [AU h,AP (show ¬ i<j by omega)];repeat' split
 all_goals omega
theorem NA:∀ {m:Nat} (M:Nat->Nat->Int) {c:Nat},c+1<m->M c=M (c+1)->GE m M=0
 | m+2,M,0,_,e=>by
  have e2:GE (m+2) M=sm (m+2) (fun i=>sm (m+2) (fun j=>if j=i then 0 else (sgn i*sgn (Fh i j))*(M 0 i*M 0 j)*GE m (fun a r=>M (a+2) (skip i (skip (Fh i j) r))))):=by
   rw [GE];refine sm_congr fun i hi=>?_
   rw [<-Nz _ (n:=m+1) (i:=i) hi,AU rfl,Cq,GE,<-sm_mul];refine sm_congr fun k hk=>?_
   rw [AP (skip_ne i k),OG];rw [<-e];grind
  have key:sm (m+2) (fun i=>sm (m+2) (fun j=>if j=i then 0 else (sgn i*sgn (Fh i j))*(M 0 i*M 0 j)*GE m (fun a r=>M (a+2) (skip i (skip (Fh i j) r)))))=-sm (m+2) (fun i=>sm (m+2) (fun j=>if j=i then 0 else (sgn i*sgn (Fh i j))*(M 0 i*M 0 j)*GE m (fun a r=>M (a+2) (skip i (skip (Fh i j) r))))):=by
   rw [<-Nx];conv=>lhs;rw [sm_swap]
   refine sm_congr fun i hi=>?_
   rw [<-Nx];refine sm_congr fun j hj=>?_
   by_cases c:i=j
   ·rw [AU c,AU c.symm];rfl
   ·rw [AP c,AP (fun h=>c h.symm)]
    rcases Nat.lt_or_gt_of_ne c with h | h
    ·rw [show (fun a r=>M (a+2) (skip j (skip (Fh j i) r)))=(fun a r=>M (a+2) (skip i (skip (Fh i j) r))) from by funext a r;rw [MP h]]
     have:=OH h;grind
    ·rw [show (fun a r=>M (a+2) (skip i (skip (Fh i j) r)))=(fun a r=>M (a+2) (skip j (skip (Fh j i) r))) from by funext a r;rw [MP h]]
     have:=OH h;grind
  rw [e2];omega
 | m+1,M,c+1,h,e=>by
  rw [GE];refine sm_zero fun i _=>?_
  rw [NA (fun j k=>M (j+1) (skip i k)) (c:=c) Ad (by funext k;rw [e]),CN]
theorem U7 {m:Nat} (M:Nat->Nat->Int) {c:Nat} (h:c+1<m) (u v:Nat->Int):GE m (DL (DL M c u) (c+1) v)=-GE m (DL (DL M c v) (c+1) u):=by
 have hne:c≠c+1:=by omega
 have z:∀ w:Nat->Int,GE m (DL (DL M c w) (c+1) w)=0:=fun w=>NA _ h (by rw [upd_same,upd_ne _ _ hne,upd_same])
 have e:=z (fun i=>u i+v i);rw [J4 _ h,EU M hne,J4 _ Ad,EU M hne,J4 _ Ad,EU _ hne.symm,EU _ hne.symm,EU _ hne.symm,EU _ hne.symm,z u,z v] at e;omega
theorem Qr {m:Nat}:∀ (k:Nat) (M:Nat->Nat->Int) {a:Nat},a+k+1<m->M a=M (a+k+1)->GE m M=0
 | 0,M,a,h,e=>NA M h e
 | k+1,M,a,h,e=>by
  have h1:GE m (DL (DL M (a+k+1) (M (a+k+2))) (a+k+2) (M (a+k+1)))=0:=by
   refine Qr k _ (a:=a) Ad ?_;rw [upd_ne _ _ Ad,upd_ne _ _ Ad,upd_ne _ _ Ad,upd_same,e];rfl
  have h2:=U7 M (c:=a+k+1) Ad (M (a+k+2)) (M (a+k+1));rw [show a+k+1+1=a+k+2 from rfl,h1,Lx,Lx] at h2;omega
theorem OI {m:Nat} (M:Nat->Nat->Int) {a b:Nat} (ha:a<m) (hb:b<m) (hab:a≠b) (e:M a=M b):GE m M=0:=by
 rcases Nat.lt_or_gt_of_ne hab with h | h
 ·exact Qr (b-a-1) M (a:=a) Ad (by rw [show a+(b-a-1)+1=b by omega];exact e)
 ·exact Qr (a-b-1) M (a:=b) Ad (by rw [show b+(a-b-1)+1=a by omega];exact e.symm)
theorem U8 {m:Nat} (M:Nat->Nat->Int) {a b:Nat} (ha:a<m) (hb:b<m) (hab:a≠b) (u v:Nat->Int):GE m (DL (DL M a u) b v)=-GE m (DL (DL M a v) b u):=by
 have z:∀ w:Nat->Int,GE m (DL (DL M a w) b w)=0:=fun w=>OI _ ha hb hab (by rw [upd_same,upd_ne _ _ hab,upd_same])
 have e:=z (fun i=>u i+v i);rw [J4 _ hb,EU M hab,J4 _ ha,EU M hab,J4 _ ha,EU _ hab.symm,EU _ hab.symm,EU _ hab.symm,EU _ hab.symm,z u,z v] at e;omega
theorem RH:∀ m:Nat,GE m (fun j i=>if i=j then 1 else 0)=1
 | 0=>rfl
 | m+1=>by
  rw [GE,sm_single (j:=0) Ad (fun i _ hne=>by rw [AP hne];simp)];rw [show (fun j k=>if skip 0 k=j+1 then (1:Int) else 0)=(fun j i=>if i=j then 1 else 0) from by
   funext j k;unfold skip;rw [AP (show ¬ k<0 by omega)];by_cases h:k=j
   ·rw [AU h,AU (show k+1=j+1 by omega)]
   ·rw [AP h,AP (show ¬ k+1=j+1 by omega)],RH m]
  rfl
def pr:Nat->(Nat->Int)->Int
 | 0,_=>1
 | m+1,L=>L 0*pr m (fun j=>L (j+1))
theorem MQ:∀ {m:Nat} {L:Nat->Int},(∀ j,j<m->0<=L j)->0<=pr m L
 | 0,_,_=>by rw [pr];omega
 | m+1,L,h=>by rw [pr];exact BZ (h 0 Ad) (MQ fun j hj=>h (j+1) Ad)
theorem Kp:∀ {m:Nat} {M:Nat->Nat->Int} {L:Nat->Int},(∀ j,j<m->sm m (fun i=>((M j i).natAbs:Int))<=L j)->((GE m M).natAbs:Int)<=pr m L
 | 0,_,_,_=>by rw [GE,pr];decide
 | m+1,M,L,h=>by
  have hL:∀ j,j<m+1->0<=L j:=fun j hj=>AK (sm_nonneg fun i _=>by omega) (h j hj)
  have hp:=MQ (m:=m) (L:=fun j=>L (j+1)) (fun j hj=>hL (j+1) Ad);rw [GE,pr];refine AK (Qo _ _) ?_;refine AK (RF (g:=fun i=>((M 0 i).natAbs:Int)*pr m (fun j=>L (j+1))) fun i hi=>?_) ?_
  ·rw [AL,sgn_abs,Int.natAbs_mul,AG]
   refine Cw (Kp fun j hj=>?_) Ad;refine AK ?_ (h (j+1) Ad);have:=Nz (fun i=>((M (j+1) i).natAbs:Int)) (n:=m) (i:=i) hi;rw [<-this];show sm m _<=sm m _+_;omega
  ·rw [F4]
   exact AJ (h 0 Ad) hp
end LnM
namespace LnM
structure Sys where
 m:Nat
 n:Nat
 S:Nat->Nat->Int
structure Sys.Ok (s:Sys):Prop where
 unit:∀ i,i<s.m->∀ l,l<s.m->s.S i (s.n+l)=if i=l then 1 else 0
 val:∀ i,i<s.m->0<=s.S i (s.n+s.m)
def Sys.col (s:Sys) (j:Nat):Nat->Int:=fun i=>s.S i j
def Sys.cols (s:Sys) (B:Nat->Nat):Nat->Nat->Int:=fun l=>s.col (B l)
def Sys.d (s:Sys) (B:Nat->Nat):Int:=GE s.m (s.cols B)
def Sys.T (s:Sys) (B:Nat->Nat) (i j:Nat):Int:=GE s.m (DL (s.cols B) i (s.col j))
def Sys.c (s:Sys) (j:Nat):Int:=if s.n<=j/\j<s.n+s.m then 1 else 0
def Sys.C (s:Sys) (B:Nat->Nat) (j:Nat):Int:=s.d B*s.c j-sm s.m (fun i=>s.c (B i)*s.T B i j)
structure Sys.Inv (s:Sys) (B:Nat->Nat):Prop where
 bas:∀ i,i<s.m->B i<s.n+s.m
 dpos:0<s.d B
 cram:∀ j,j<=s.n+s.m->∀ r,r<s.m->s.d B*s.S r j=sm s.m (fun i=>s.T B i j*s.S r (B i))
 feas:∀ i,i<s.m->0<=s.T B i (s.n+s.m)
theorem JQ (s:Sys) (B:Nat->Nat) (r k:Nat):s.cols (DL B r k)=DL (s.cols B) r (s.col k):=by
 funext l;unfold Sys.cols DL;split <;> rfl
theorem Qs (s:Sys) (B:Nat->Nat) (i:Nat):s.T B i (B i)=s.d B:=by
 unfold Sys.T Sys.d;rw [Ko (s.cols B) (c:=i) (v:=s.col (B i)) rfl]
theorem Ld (s:Sys) (B:Nat->Nat) {i l:Nat} (hi:i<s.m) (hl:l<s.m) (h:i≠l):s.T B i (B l)=0:=by
 unfold Sys.T;exact OI _ hi hl h (by rw [upd_same,upd_ne _ _ h.symm];rfl)
theorem U9 (s:Sys) (B:Nat->Nat) {i:Nat} (hi:i<s.m) (n:Nat) (x:Nat->Int) (J:Nat->Nat) {v:Nat->Int} (hv:∀ r,r<s.m->v r=sm n (fun l=>x l*s.S r (J l))) :
  GE s.m (DL (s.cols B) i v)=sm n (fun l=>x l*s.T B i (J l)):=by
 rw [show GE s.m (DL (s.cols B) i v)=GE s.m (DL (s.cols B) i (fun r=>sm n (fun l=>x l*(s.col (J l)) r))) from Kn fun j _ r hr=>by
  unfold DL;split
  ·exact hv r hr
  ·rfl]
 exact RG _ hi x (fun l=>s.col (J l)) n
theorem T_row {s:Sys} (h:s.Ok) (B:Nat->Nat) {i:Nat} (hi:i<s.m) (j:Nat):s.T B i j=sm s.m (fun l=>s.S l j*s.T B i (s.n+l)):=by
 refine U9 s B hi s.m (fun l=>s.S l j) (fun l=>s.n+l) (v:=s.col j) fun r hr=>?_
 rw [sm_single hr (fun l hl hne=>by rw [h.unit r hr l hl,AP hne.symm,CN]),h.unit r hr r hr,AU rfl,CR];rfl
theorem Sys.Inv.dist {s:Sys} {B:Nat->Nat} (h:s.Inv B) {i l:Nat} (hi:i<s.m) (hl:l<s.m) (e:B i=B l):i=l:=Av fun hne=>by
 have h1:=Ld s B hi hl hne;rw [<-e,Qs] at h1;have:=h.dpos;omega
theorem RI {s:Sys} {B:Nat->Nat} {l:Nat} (hl:l<s.m):s.C B (B l)=0:=by
 unfold Sys.C;rw [sm_single hl (fun i hi hne=>by rw [Ld s B hi hl hne,CN]),Qs,AM];omega
theorem pivot_d (s:Sys) (B:Nat->Nat) (r k:Nat):s.d (DL B r k)=s.T B r k:=by
 unfold Sys.d Sys.T;rw [JQ]
theorem pivot_row (s:Sys) (B:Nat->Nat) (r k j:Nat):s.T (DL B r k) r j=s.T B r j:=by
 unfold Sys.T;rw [JQ,upd_upd]
theorem pivot_T {s:Sys} {B:Nat->Nat} (h:s.Inv B) {r k:Nat} (hr:r<s.m) {i:Nat} (hi:i<s.m) (hne:i≠r) {j:Nat} (hj:j<=s.n+s.m) :
  s.d B*s.T (DL B r k) i j=s.T B i j*s.T B r k-s.T B i k*s.T B r j:=by
 have h1:GE s.m (DL (s.cols (DL B r k)) i (fun q=>s.d B*s.col j q))=s.d B*s.T (DL B r k) i j:=OE _ hi _ _
 have h2:=U9 s (DL B r k) hi s.m (fun l=>s.T B l j) B (v:=fun q=>s.d B*s.col j q) (fun q hq=>h.cram j hj q hq)
 rw [h1] at h2
 rw [h2,sm_two hi hr hne]
 ·have e1:s.T (DL B r k) i (B i)=s.T B r k:=by
   unfold Sys.T;rw [JQ,EU _ hne.symm];rw [Ko (s.cols B) (c:=i) (v:=s.col (B i)) rfl]
  have e2:s.T (DL B r k) i (B r)=-s.T B i k:=by
   unfold Sys.T;rw [JQ,U8 _ hr hi hne.symm,Ko (s.cols B) (c:=r) (v:=s.col (B r)) rfl]
  rw [e1,e2];grind
 ·intro l hl h1 h2
  have:s.T (DL B r k) i ((DL B r k) l)=0:=Ld s (DL B r k) hi hl (fun e=>h1 e.symm);rw [upd_ne _ _ h2] at this;rw [this,CN]
theorem Ly {s:Sys} {B:Nat->Nat} (h:s.Inv B) {r k:Nat} (hr:r<s.m) {i:Nat} (hi:i<s.m) {j:Nat} (hj:j<=s.n+s.m) :
  s.d B*s.T (DL B r k) i j=if i=r then s.d B*s.T B r j else s.T B i j*s.T B r k-s.T B i k*s.T B r j:=by
 by_cases e:i=r
 ·subst e;rw [AU rfl,pivot_row]
 ·rw [AP e,pivot_T h hr hi e hj]
theorem Lz (s:Sys) {r:Nat} (hr:r<s.m) (f:Nat->Int):sm s.m f=sm s.m (fun i=>if i=r then 0 else f i)+f r:=by
 rw [show f r=sm s.m (fun i=>if i=r then f i else 0) from by rw [sm_single hr (fun i _ hne=>AP hne),AU rfl],<-Jt];exact sm_congr fun i _=>by
  by_cases e:i=r
  ·rw [AU e,AU e];omega
  ·rw [AP e,AP e];omega
theorem pivot_C {s:Sys} {B:Nat->Nat} (h:s.Inv B) {r k:Nat} (hr:r<s.m) (hk:k<s.n) {j:Nat} (hj:j<=s.n+s.m) :
  s.d B*s.C (DL B r k) j=s.C B j*s.T B r k-s.C B k*s.T B r j:=by
 have ck:s.c k=0:=by unfold Sys.c;rw [AP Ad]
 have e1:s.d B*s.C (DL B r k) j=s.d B*(s.T B r k*s.c j)-sm s.m (fun i=>if i=r then 0 else s.c (B i)*(s.T B i j*s.T B r k-s.T B i k*s.T B r j)):=by
  unfold Sys.C;rw [pivot_d,CQ,<-sm_mul];congr 1;refine sm_congr fun i hi=>?_
  by_cases e:i=r
  ·subst e;rw [AU rfl,upd_same,ck];simp
  ·rw [AP e,upd_ne _ _ e,<-pivot_T h hr hi e hj];grind
 have e2:sm s.m (fun i=>s.c (B i)*s.T B i j)*s.T B r k-sm s.m (fun i=>s.c (B i)*s.T B i k)*s.T B r j=sm s.m (fun i=>if i=r then 0 else s.c (B i)*(s.T B i j*s.T B r k-s.T B i k*s.T B r j)):=by
  rw [<-F4,<-F4,<-Ny,Lz s hr];rw [show s.c (B r)*s.T B r j*s.T B r k-s.c (B r)*s.T B r k*s.T B r j=0 by grind,Cq];exact sm_congr fun i _=>by
   by_cases e:i=r
   ·rw [AU e,AU e]
   ·rw [AP e,AP e];grind
 rw [e1,<-e2]
 unfold Sys.C
 rw [ck]
 generalize sm s.m (fun i=>s.c (B i)*s.T B i j)=x
 generalize sm s.m (fun i=>s.c (B i)*s.T B i k)=y
 grind
structure Sys.Leave (s:Sys) (B:Nat->Nat) (k r:Nat):Prop where
 lt:r<s.m
 pos:0<s.T B r k
 least:∀ i,i<s.m->0<s.T B i k->0<=s.T B i (s.n+s.m)*s.T B r k-s.T B r (s.n+s.m)*s.T B i k
 tie:∀ i,i<s.m->0<s.T B i k->s.T B i (s.n+s.m)*s.T B r k-s.T B r (s.n+s.m)*s.T B i k=0->B r<=B i
structure Sys.Enter (s:Sys) (B:Nat->Nat) (k:Nat):Prop where
 lt:k<s.n
 neg:s.C B k<0
 first:∀ j,j<k->0<=s.C B j
theorem Qt {a b c:Int} (ha:0<a) (h:a*b=a*c):b=c:=Int.eq_of_mul_eq_mul_left Ad h
theorem Sys.Inv.pivot {s:Sys} {B:Nat->Nat} (h:s.Inv B) {r k:Nat} (hk:k<s.n) (hl:s.Leave B k r):s.Inv (DL B r k):=by
 have hr:=hl.lt;refine ⟨fun i hi=>?_,?_,fun j hj q hq=>?_,fun i hi=>?_⟩
 ·by_cases e:i=r
  ·subst e;rw [upd_same];omega
  ·rw [upd_ne _ _ e];exact h.bas i hi
 ·rw [pivot_d];exact hl.pos
 ·refine Qt h.dpos ?_
  rw [pivot_d,<-sm_mul,Lz s hr];have e1:sm s.m (fun i=>if i=r then 0 else s.d B*(s.T (DL B r k) i j*s.S q (DL B r k i)))=sm s.m (fun i=>if i=r then 0 else (s.T B i j*s.T B r k-s.T B i k*s.T B r j)*s.S q (B i)) :=
   sm_congr fun i hi=>by
    by_cases e:i=r
    ·rw [AU e,AU e]
    ·rw [AP e,AP e,<-pivot_T h hr hi e hj,upd_ne _ _ e];grind
  rw [e1,pivot_row,upd_same];have c1:=h.cram j hj q hq;have c2:=h.cram k Ad q hq;have e2:=Lz s hr (fun i=>(s.T B i j*s.T B r k-s.T B i k*s.T B r j)*s.S q (B i));have e3:sm s.m (fun i=>(s.T B i j*s.T B r k-s.T B i k*s.T B r j)*s.S q (B i))=(s.d B*s.S q j)*s.T B r k-(s.d B*s.S q k)*s.T B r j:=by
   rw [c1,c2,<-F4,<-F4,<-Ny];exact sm_congr fun i _=>by grind
  rw [e3] at e2;grind
 ·have h1:=Ly h (k:=k) hr hi (j:=s.n+s.m) Ad
  have hd:=h.dpos;have hge:0<=s.d B*s.T (DL B r k) i (s.n+s.m):=by
   rw [h1];split
   ·exact BZ Ad (h.feas r hr)
   ·by_cases hp:0<s.T B i k
    ·have:=hl.least i hi hp
     rw [AM (s.T B i k)];exact this
    ·have h2:=BZ (h.feas i hi) (show 0<=s.T B r k from CY hl.pos)
     have h3:=BZ (show 0<=-s.T B i k by omega) (h.feas r hr);rw [Df] at h3;omega
  exact Cp.1 fun hn=>by
   have:=C0 hd hn;omega
theorem exists_pos {s:Sys} {B:Nat->Nat} {k:Nat} (he:s.Enter B k):∃ i,i<s.m/\0<s.T B i k:=by
 have h1:=he.neg;unfold Sys.C at h1;rw [show s.c k=0 from by unfold Sys.c;rw [AP (by have:=he.lt;omega)],CN] at h1;obtain ⟨i,hi,hp⟩:=Km (n:=s.m) (f:=fun i=>s.c (B i)*s.T B i k) Ad;refine ⟨i,hi,?_⟩;have:s.c (B i)=0∨s.c (B i)=1:=by unfold Sys.c;split <;> simp
 rcases this with e | e
 ·rw [e] at hp;simp at hp
 ·rw [e] at hp;simpa using hp
def Sys.B0 (s:Sys):Nat->Nat:=fun i=>s.n+i
theorem d_B0 {s:Sys} (h:s.Ok):s.d s.B0=1:=by
 unfold Sys.d;rw [<-RH s.m];exact Kn fun j hj i hi=>h.unit i hi j hj
theorem T_B0 {s:Sys} (h:s.Ok) {i:Nat} (hi:i<s.m) (j:Nat):s.T s.B0 i j=s.S i j:=by
 have hu:∀ l,l<s.m->s.T s.B0 i (s.n+l)=if i=l then 1 else 0:=fun l hl=>by
  by_cases e:i=l
  ·subst e
   rw [AU rfl,<-d_B0 h];exact Qs s s.B0 i
  ·rw [AP e];exact Ld s s.B0 hi hl e
 rw [T_row h s.B0 hi j,sm_single hi (fun l hl hne=>by rw [hu l hl,AP hne.symm,CN]),hu i hi,AU rfl,CR]
theorem inv_B0 {s:Sys} (h:s.Ok):s.Inv s.B0:=by
 refine ⟨fun i hi=>by unfold Sys.B0;omega,by rw [d_B0 h];omega,fun j _ r hr=>?_,fun i hi=>by rw [T_B0 h hi];exact h.val i hi⟩;rw [d_B0 h,B7,sm_single hr (fun i hi hne=>by
  show s.T s.B0 i j*s.S r (s.n+i)=0;rw [h.unit r hr i hi,AP hne.symm,CN])]
 show _=s.T s.B0 r j*s.S r (s.n+r);rw [h.unit r hr r hr,AU rfl,CR,T_B0 h hr]
def Sys.x (s:Sys) (B:Nat->Nat) (k:Nat):Int:=sm s.m (fun i=>if B i=k then s.T B i (s.n+s.m) else 0)
theorem C_val {s:Sys} (B:Nat->Nat):s.C B (s.n+s.m)=-sm s.m (fun i=>s.c (B i)*s.T B i (s.n+s.m)):=by
 unfold Sys.C;rw [show s.c (s.n+s.m)=0 from by unfold Sys.c;rw [AP Ad],CN];omega
theorem c_nn (s:Sys) (j:Nat):0<=s.c j:=by unfold Sys.c;split <;> omega
theorem Ua {s:Sys} {B:Nat->Nat} (h:s.Inv B):s.C B (s.n+s.m)<=0:=by
 rw [C_val];have:=sm_nonneg (n:=s.m) (f:=fun i=>s.c (B i)*s.T B i (s.n+s.m)) fun i hi=>BZ (c_nn s _) (h.feas i hi)
 omega
theorem solves {s:Sys} {B:Nat->Nat} (h:s.Inv B) (h0:s.C B (s.n+s.m)=0):(∀ k,0<=s.x B k)/\∀ r,r<s.m->sm s.n (fun k=>s.x B k*s.S r k)=s.d B*s.S r (s.n+s.m):=by
 rw [C_val] at h0;have hz:=Lw (n:=s.m) (f:=fun i=>s.c (B i)*s.T B i (s.n+s.m)) (fun i hi=>BZ (c_nn s _) (h.feas i hi)) Ad;refine ⟨fun k=>sm_nonneg fun i hi=>by split;exact h.feas i hi;omega,fun r hr=>?_⟩;rw [h.cram _ Ad r hr];rw [show sm s.n (fun k=>s.x B k*s.S r k)=sm s.n (fun k=>sm s.m (fun i=>if B i=k then s.T B i (s.n+s.m)*s.S r k else 0)) from sm_congr fun k _=>by
  unfold Sys.x;rw [<-F4];exact sm_congr fun i _=>by split <;> simp]
 rw [sm_swap];refine sm_congr fun i hi=>?_
 by_cases hb:B i<s.n
 ·rw [sm_single hb (fun k _ hne=>AP hne.symm),AU rfl]
 ·rw [sm_zero fun k hk=>AP Ad]
  have:=hz i hi;have hbi:=h.bas i hi;rw [show s.c (B i)=1 from by unfold Sys.c;rw [AU Ad],B7] at this;rw [this];simp
def Sys.w (s:Sys) (B:Nat->Nat) (l:Nat):Int:=s.C B (s.n+l)-s.d B
theorem w_sum {s:Sys} (ho:s.Ok) {B:Nat->Nat} {j:Nat} (hc:s.c j=0):sm s.m (fun l=>s.w B l*s.S l j)=s.C B j:=by
 have e:∀ l,l<s.m->s.w B l*s.S l j=-sm s.m (fun i=>s.c (B i)*(s.S l j*s.T B i (s.n+l))):=fun l hl=>by
  have h1:s.w B l=-sm s.m (fun i=>s.c (B i)*s.T B i (s.n+l)):=by
   unfold Sys.w Sys.C;rw [show s.c (s.n+l)=1 from by unfold Sys.c;rw [AU Ad]];omega
  rw [h1,Df,<-F4];congr 1;exact sm_congr fun i _=>by grind
 rw [sm_congr e,Nx,sm_swap];unfold Sys.C;rw [hc,CN,show (0:Int)-sm s.m (fun i=>s.c (B i)*s.T B i j)=-sm s.m (fun i=>s.c (B i)*s.T B i j) by omega];congr 1;refine sm_congr fun i hi=>?_
 rw [sm_mul,T_row ho B hi j]
theorem refutes {s:Sys} (ho:s.Ok) {B:Nat->Nat} (h:s.Inv B) (hend:∀ k,k<s.n->0<=s.C B k) (h0:s.C B (s.n+s.m)≠0) :
  (∀ k,k<s.n->0<=sm s.m (fun l=>s.w B l*s.S l k))/\sm s.m (fun l=>s.w B l*s.S l (s.n+s.m))<0:=by
 refine ⟨fun k hk=>?_,?_⟩
 ·rw [w_sum ho (by unfold Sys.c;rw [AP Ad])];exact hend k hk
 ·rw [w_sum ho (by unfold Sys.c;rw [AP Ad])]
  have:=Ua h;omega
end LnM
namespace LnM
theorem pigeon:∀ (K:Nat) (f:Nat->Nat),(∀ i,i<=K->f i<K)->∃ i j,i<j/\j<=K/\f i=f j
 | 0,f,h=>by have:=h 0 (Aa _);omega
 | K+1,f,h=>by
  by_cases c:∃ i,i<=K/\f i=f (K+1)
  ·obtain ⟨i,hi,e⟩:=c
   exact ⟨i,K+1,Ad,Ad,e⟩
  ·have hx:=h (K+1) (Aa _)
   have hne:∀ i,i<=K->f i≠f (K+1):=fun i hi e=>c ⟨i,hi,e⟩
   obtain ⟨i,j,hij,hj,e⟩:=pigeon K (fun i=>if f (K+1)<f i then f i-1 else f i) (fun i hi=>by
    have h1:=h i Ad;have h2:=hne i hi;split <;> omega)
   refine ⟨i,j,hij,Ad,?_⟩;have h1:=hne i Ad;have h2:=hne j hj;split at e <;> split at e <;> omega
def Kq (N:Nat) (B:Nat->Nat):Nat->Nat
 | 0=>0
 | m+1=>Kq N B m+B m*N ^ m
theorem Le {N:Nat} {B:Nat->Nat}:∀ {m:Nat},(∀ i,i<m->B i<N)->Kq N B m<N ^ m
 | 0,_=>by simp [Kq]
 | m+1,h=>by
  have h1:=Le (m:=m) fun i hi=>h i Ad
  have h2:(B m+1)*N ^ m<=N*N ^ m:=BF _ (h m Ad);rw [Nat.add_mul,Nat.one_mul] at h2;rw [Kq,Nat.pow_succ,Nat.mul_comm (N ^ m)];omega
theorem OJ {N:Nat} {B B':Nat->Nat}:∀ {m:Nat},(∀ i,i<m->B i<N)->(∀ i,i<m->B' i<N)->Kq N B m=Kq N B' m->∀ i,i<m->B i=B' i
 | 0,_,_,_,i,hi=>absurd hi Ad
 | m+1,h,h',e,i,hi=>by
  have h1:=Le (m:=m) fun i hi=>h i Ad
  have h2:=Le (m:=m) fun i hi=>h' i Ad
  have e0:Kq N B m+B m*N ^ m=Kq N B' m+B' m*N ^ m:=e;have e1:B m=B' m:=by
   have d1:(Kq N B m+B m*N ^ m) / N ^ m=B m:=by
    rw [Nat.add_mul_div_right _ _ Ad,Nat.div_eq_of_lt h1,BN]
   have d2:(Kq N B' m+B' m*N ^ m) / N ^ m=B' m:=by
    rw [Nat.add_mul_div_right _ _ Ad,Nat.div_eq_of_lt h2,BN]
   rw [<-d1,<-d2,e0]
  have e2:Kq N B m=Kq N B' m:=by rw [e1] at e0;exact Nat.add_right_cancel e0
  by_cases c:i=m
  ·rw [c,e1]
  ·exact OJ (m:=m) (fun i hi=>h i Ad) (fun i hi=>h' i Ad) e2 i Ad
structure G7 (s:Sys) (c:Nat->Nat->Nat) (K R:Nat->Nat) (L:Nat):Prop where
 inv:s.Inv (c 0)
 enter:∀ l,l<L->s.Enter (c l) (K l)
 leave:∀ l,l<L->s.Leave (c l) (K l) (R l)
 next:∀ l,l<L->c (l+1)=DL (c l) (R l) (K l)
theorem G7.invs {s:Sys} {c:Nat->Nat->Nat} {K R:Nat->Nat} {L:Nat} (h:G7 s c K R L):∀ {l:Nat},l<=L->s.Inv (c l)
 | 0,_=>h.inv
 | l+1,hl=>by rw [h.next l Ad];exact (h.invs (l:=l) Ad).pivot (h.enter l Ad).lt (h.leave l Ad)
theorem G7.rest {s:Sys} {c:Nat->Nat->Nat} {K R:Nat->Nat} {L:Nat} (h:G7 s c K R L):∀ {l:Nat},l<=L->∀ i,s.m<=i->c l i=c 0 i
 | 0,_,_,_=>rfl
 | l+1,hl,i,hi=>by rw [h.next l Ad,upd_ne _ _ (by have:=(h.leave l Ad).lt;omega)];exact h.rest (l:=l) Ad i hi
def In (s:Sys) (B:Nat->Nat) (v:Nat):Prop:=∃ q,q<s.m/\B q=v
theorem G7.leaves {s:Sys} {c:Nat->Nat->Nat} {K R:Nat->Nat} {L:Nat} (h:G7 s c K R L) {v a:Nat} (ha:In s (c a) v):∀ {b:Nat},a<=b->b<=L->¬ In s (c b) v->∃ l,a<=l/\l<b/\c l (R l)=v:=by
 intro b;induction b with
 | zero=>intro h1 h2 h3;rw [show a=0 by omega] at ha;exact absurd ha h3
 | succ b ih =>
  intro h1 h2 h3;by_cases e:a=b+1
  ·rw [e] at ha;exact absurd ha h3
  by_cases c1:In s (c b) v
  ·refine ⟨b,Ad,Ad,?_⟩
   obtain ⟨q,hq,e⟩:=c1;by_cases hqr:q=R b
   ·rw [<-hqr];exact e
   ·exact absurd ⟨q,hq,by rw [h.next b Ad,upd_ne _ _ hqr];exact e⟩ h3
  ·obtain ⟨l,h4,h5,h6⟩:=ih Ad Ad c1
   exact ⟨l,h4,Ad,h6⟩
theorem G7.enters {s:Sys} {c:Nat->Nat->Nat} {K R:Nat->Nat} {L:Nat} (h:G7 s c K R L) {v a:Nat} (ha:¬ In s (c a) v):∀ {b:Nat},a<=b->b<=L->In s (c b) v->∃ l,a<=l/\l<b/\K l=v:=by
 intro b;induction b with
 | zero=>intro h1 h2 h3;rw [show a=0 by omega] at ha;exact absurd h3 ha
 | succ b ih =>
  intro h1 h2 h3;by_cases e:a=b+1
  ·rw [e] at ha;exact absurd h3 ha
  by_cases c1:In s (c b) v
  ·obtain ⟨l,h4,h5,h6⟩:=ih Ad Ad c1
   exact ⟨l,h4,Ad,h6⟩
  ·refine ⟨b,Ad,Ad,?_⟩
   obtain ⟨q,hq,e⟩:=h3;rw [h.next b Ad] at e;by_cases hqr:q=R b
   ·rw [hqr,upd_same] at e;exact e
   ·rw [upd_ne _ _ hqr] at e;exact absurd ⟨q,hq,e⟩ c1
theorem G7.place {s:Sys} {c:Nat->Nat->Nat} {K R:Nat->Nat} {L:Nat} (h:G7 s c K R L) {q a:Nat}:∀ {b:Nat},a<=b->b<=L->c a q≠c b q->∃ l,a<=l/\l<b/\R l=q:=by
 intro b;induction b with
 | zero=>intro h1 h2 h3;rw [show a=0 by omega] at h3;exact absurd rfl h3
 | succ b ih =>
  intro h1 h2 h3;by_cases e:a=b+1
  ·rw [e] at h3;exact absurd rfl h3
  by_cases c1:R b=q
  ·exact ⟨b,Ad,Ad,c1⟩
  ·rw [h.next b Ad,upd_ne _ _ (fun e=>c1 e.symm)] at h3
   obtain ⟨l,h4,h5,h6⟩:=ih Ad Ad h3;exact ⟨l,h4,Ad,h6⟩
theorem LA (f:Nat->Nat) (a:Nat):∀ b,a<b->∃ x,a<=x/\x<b/\∀ l,a<=l->l<b->f l<=f x
 | 0,h=>by omega
 | b+1,h=>by
  by_cases e:a=b
  ·subst e
   exact ⟨a,Aa _,Ad,fun l h1 h2=>by rw [show l=a by omega];exact Aa _⟩
  ·obtain ⟨x,h1,h2,h3⟩:=LA f a b Ad
   by_cases c:f x<=f b
   ·refine ⟨b,Ad,Ad,fun l h4 h5=>?_⟩
    by_cases e:l=b
    ·rw [e];exact Aa _
    ·exact Bc (h3 l h4 Ad) c
   ·refine ⟨x,h1,Ad,fun l h4 h5=>?_⟩
    by_cases e:l=b
    ·rw [e];omega
    ·exact h3 l h4 Ad
theorem Ss {s:Sys} {B B':Nat->Nat} (h:s.Inv B) {k:Nat} (hk:k<=s.n+s.m):s.d B'*s.C B k=s.d B*s.C B' k-sm s.m (fun q=>s.T B q k*s.C B' (B q)):=by
 have hl:∀ l,l<s.m->s.d B*s.T B' l k=sm s.m (fun q=>s.T B q k*s.T B' l (B q)):=fun l hl=>by
  rw [<-U9 s B' hl s.m (fun q=>s.T B q k) B (v:=fun r=>s.d B*s.col k r) (fun r hr=>h.cram k hk r hr)];exact (OE _ hl _ _).symm
 have e1:sm s.m (fun q=>s.T B q k*s.C B' (B q))=s.d B'*sm s.m (fun q=>s.c (B q)*s.T B q k)-sm s.m (fun l=>s.c (B' l)*(s.d B*s.T B' l k)):=by
  rw [show sm s.m (fun l=>s.c (B' l)*(s.d B*s.T B' l k))=sm s.m (fun l=>sm s.m (fun q=>s.c (B' l)*(s.T B q k*s.T B' l (B q)))) from sm_congr fun l hl'=>by rw [hl l hl',<-sm_mul]];rw [sm_swap,<-sm_mul,<-Ny];refine sm_congr fun q _=>?_
  unfold Sys.C;rw [CQ,<-sm_mul];congr 1
  ·grind
  ·exact sm_congr fun l _=>by grind
 rw [e1];unfold Sys.C;rw [show sm s.m (fun l=>s.c (B' l)*(s.d B*s.T B' l k))=s.d B*sm s.m (fun l=>s.c (B' l)*s.T B' l k) from by rw [<-sm_mul];exact sm_congr fun l _=>by grind];grind
theorem G7.grows {s:Sys} {c:Nat->Nat->Nat} {K R:Nat->Nat} {L:Nat} (h:G7 s c K R L) {l:Nat} (hl:l<L) :
  s.d (c l)*s.C (c (l+1)) (s.n+s.m)=s.C (c l) (s.n+s.m)*s.d (c (l+1))-s.C (c l) (K l)*s.T (c l) (R l) (s.n+s.m):=by
 rw [h.next l hl,pivot_C (h.invs Ad) (h.leave l hl).lt (h.enter l hl).lt Ad,pivot_d]
theorem G7.mono {s:Sys} {c:Nat->Nat->Nat} {K R:Nat->Nat} {L:Nat} (h:G7 s c K R L) {a:Nat}:∀ {b:Nat},a<=b->b<=L ->
  s.C (c a) (s.n+s.m)*s.d (c b)<=s.C (c b) (s.n+s.m)*s.d (c a):=by
 intro b
 induction b with
 | zero=>intro h1 h2;rw [show a=0 by omega];exact CU _
 | succ b ih =>
  intro h1 h2;by_cases e:a=b+1
  ·rw [e];exact CU _
  have h3:=ih Ad Ad;have h4:=h.grows (l:=b) Ad;have da:=(h.invs (l:=a) Ad).dpos;have db:=(h.invs (l:=b) Ad).dpos;have dc:=(h.invs (l:=b+1) Ad).dpos;have hp:0<=-s.C (c b) (K b)*s.T (c b) (R b) (s.n+s.m):=BZ (by have:=(h.enter b Ad).neg;omega) ((h.invs (l:=b) Ad).feas _ (h.leave b Ad).lt);have m1:=AJ h3 (CY dc);have m2:=BZ hp (CY da);refine Int.le_of_mul_le_mul_left ?_ db;have h5:s.d (c b)*s.C (c (b+1)) (s.n+s.m)*s.d (c a)=s.C (c b) (s.n+s.m)*s.d (c (b+1))*s.d (c a)+-s.C (c b) (K b)*s.T (c b) (R b) (s.n+s.m)*s.d (c a):=by rw [h4];grind
  generalize s.C (c b) (K b)=x at *
  generalize s.T (c b) (R b) (s.n+s.m)=y at *
  generalize s.d (c a)=da' at *
  generalize s.d (c b)=db' at *
  generalize s.d (c (b+1))=dc' at *
  generalize s.C (c a) (s.n+s.m)=fa at *
  generalize s.C (c b) (s.n+s.m)=fb at *
  generalize s.C (c (b+1)) (s.n+s.m)=fc at *
  clear h4 ih hp h3;rw [show db'*(fa*dc')=fa*db'*dc' by grind,show db'*(fc*da')=db'*fc*da' by grind,h5];have:fb*dc'*da'=fb*da'*dc':=by grind
  omega
theorem G7.fresh {s:Sys} {c:Nat->Nat->Nat} {K R:Nat->Nat} {L:Nat} (h:G7 s c K R L) {i j:Nat} (hij:i<j) (hj:j<=L):c i≠c j:=fun hc=>by
 have deg:∀ l,i<=l->l<j->s.T (c l) (R l) (s.n+s.m)=0:=fun l h1 h2=>by
  have a1:=h.mono (a:=i) (b:=l) h1 Ad;have a2:=h.mono (a:=l+1) (b:=j) Ad hj;have a3:=h.grows (l:=l) Ad;rw [<-hc] at a2;have d0:=(h.invs (l:=i) Ad).dpos;have d1:=(h.invs (l:=l) Ad).dpos;have d2:=(h.invs (l:=l+1) Ad).dpos;have hn:=(h.enter l Ad).neg;have hf:=(h.invs (l:=l) Ad).feas _ (h.leave l Ad).lt;have m1:=AJ a1 (CY d2);have m2:=AJ a2 (CY d1);refine Av fun hne=>?_
  have hp:0 < -s.C (c l) (K l)*s.T (c l) (R l) (s.n+s.m):=BS Ad Ad;have m3:=BS hp d0;have h5:s.d (c l)*s.C (c (l+1)) (s.n+s.m)*s.d (c i)=s.C (c l) (s.n+s.m)*s.d (c (l+1))*s.d (c i)+-s.C (c l) (K l)*s.T (c l) (R l) (s.n+s.m)*s.d (c i):=by rw [a3];grind
  generalize s.C (c l) (K l)=x at *
  generalize s.T (c l) (R l) (s.n+s.m)=y at *
  generalize s.d (c i)=da' at *
  generalize s.d (c l)=db' at *
  generalize s.d (c (l+1))=dc' at *
  generalize s.C (c i) (s.n+s.m)=fa at *
  generalize s.C (c l) (s.n+s.m)=fb at *
  generalize s.C (c (l+1)) (s.n+s.m)=fc at *
  clear a3 hp a1 a2;have e1:fa*db'*dc'=fa*dc'*db':=by grind
  have e2:fc*da'*db'=db'*fc*da':=by grind
  have e3:fb*da'*dc'=fb*dc'*da':=by grind
  omega
 have zero:∀ q,q<s.m->∀ a b,i<=a->a<=b->b<=j->(s.T (c a) q (s.n+s.m)=0↔s.T (c b) q (s.n+s.m)=0):=by
  intro q hq a b h1;induction b with
  | zero=>intro h2 _;rw [show a=0 by omega]
  | succ b ih =>
   intro h2 h3;by_cases e:a=b+1
   ·rw [e]
   rw [ih Ad Ad];have hd:=deg b Ad Ad;have hI:=h.invs (l:=b) Ad;have hp:=Ly hI (k:=K b) (h.leave b Ad).lt hq (j:=s.n+s.m) Ad;rw [<-h.next b Ad,hd,CN,CN] at hp;have d1:=hI.dpos;have d2:=(h.leave b Ad).pos;by_cases er:q=R b
   ·rw [AU er] at hp
    constructor
    ·intro _
     rcases Int.mul_eq_zero.1 hp with e | e <;> omega
    ·intro _;rw [er];exact hd
   ·rw [AP er,Int.sub_zero] at hp
    constructor
    ·intro e
     rw [e,Int.zero_mul] at hp;rcases Int.mul_eq_zero.1 hp with e | e <;> omega
    ·intro e
     rw [e,CN] at hp;rcases Int.mul_eq_zero.1 hp.symm with e | e <;> omega
 have zero2:∀ q,q<s.m->∀ a b,i<=a->a<=j->i<=b->b<=j->s.T (c a) q (s.n+s.m)=0->s.T (c b) q (s.n+s.m)=0:=fun q hq a b h1 h2 h3 h4 e=>by
  rcases Nat.le_total a b with hab | hab
  ·exact (zero q hq a b h1 hab h4).1 e
  ·exact (zero q hq b a h3 hab h2).2 e
 obtain ⟨y,y1,y2,ymax⟩:=LA K i j hij;have hE:=h.enter y Ad;have hIy:=h.invs (l:=y) Ad;have notin:∀ v,s.C (c y) v≠0->¬ In s (c y) v:=fun v hv ⟨q,hq,e⟩=>hv (by rw [<-e];exact RI hq)
 have ty:¬ In s (c y) (K y):=notin _ (by have:=hE.neg;omega);have ty1:In s (c (y+1)) (K y):=⟨R y,(h.leave y Ad).lt,by rw [h.next y Ad,upd_same]⟩;obtain ⟨x,x1,x2,ex⟩:∃ x,i<=x/\x<j/\c x (R x)=K y:=by
  by_cases c0:In s (c i) (K y)
  ·obtain ⟨l,h1,h2,h3⟩:=h.leaves c0 (b:=y) y1 Ad ty
   exact ⟨l,h1,Ad,h3⟩
  ·rw [hc] at c0
   obtain ⟨l,h1,h2,h3⟩:=h.leaves ty1 (b:=j) Ad hj c0;exact ⟨l,Ad,h2,h3⟩
 have hIx:=h.invs (l:=x) Ad;have hEx:=h.enter x Ad;have hLx:=h.leave x Ad;have hne:K x≠K y:=fun e=>by
  have h1:=hEx.neg;rw [e,<-ex,RI hLx.lt] at h1;omega
 have hlt:K x<K y:=by have:=ymax x x1 x2;omega
 have h1:=Ss (B':=c y) hIx (k:=K x) (by have:=hEx.lt;omega);have h2:=C0 hIy.dpos hEx.neg;have h3:=BZ (CY hIx.dpos) (hE.first (K x) hlt);obtain ⟨q,hq,hpos⟩:=Km (n:=s.m) (f:=fun q=>s.T (c x) q (K x)*s.C (c y) (c x q)) Ad;have hCv:s.C (c y) (c x q)≠0:=fun e=>by rw [e] at hpos;simp at hpos
 have hnv:=notin _ hCv;have hxv:In s (c x) (c x q):=⟨q,hq,rfl⟩;have hvle:c x q<=K y:=by
  by_cases c0:In s (c i) (c x q)
  ·rw [hc] at c0
   obtain ⟨l,h4,h5,h6⟩:=h.enters hnv (b:=j) Ad hj c0;rw [<-h6];exact ymax l Ad h5
  ·obtain ⟨l,h4,h5,h6⟩:=h.enters c0 (b:=x) x1 Ad hxv
   rw [<-h6];exact ymax l h4 Ad
 have hvne:c x q≠K y:=fun e=>by
  have:q=R x:=hIx.dist hq hLx.lt (by rw [e,ex]);rw [e,this] at hpos;have:=C0 hLx.pos hE.neg;omega
 have hvC:=hE.first (c x q) Ad;have hvT:0<s.T (c x) q (K x):=Int.not_le.1 fun hn=>by
  have:=BZ (show 0<=-s.T (c x) q (K x) by omega) hvC;rw [Df] at this;omega
 have hz:s.T (c x) q (s.n+s.m)=0:=by
  have hch:c x q≠c y q:=fun e=>hnv ⟨q,hq,e.symm⟩
  obtain ⟨l,h4,h5,h6⟩:∃ l,i<=l/\l<j/\R l=q:=by
   rcases Nat.le_total x y with hxy | hxy
   ·obtain ⟨l,h4,h5,h6⟩:=h.place hxy Ad hch
    exact ⟨l,Ad,Ad,h6⟩
   ·obtain ⟨l,h4,h5,h6⟩:=h.place hxy Ad (fun e=>hch e.symm)
    exact ⟨l,Ad,Ad,h6⟩
  have h7:=deg l h4 h5;rw [h6] at h7;exact zero2 q hq l x Ad Ad x1 Ad h7
 have ht:=hLx.tie q hq hvT (by rw [hz,deg x x1 x2];simp);rw [ex] at ht;omega
theorem G7.bound {s:Sys} {c:Nat->Nat->Nat} {K R:Nat->Nat} {L:Nat} (h:G7 s c K R L):L<(s.n+s.m) ^ s.m:=Av fun hn=>by
 obtain ⟨i,j,hij,hj,e⟩:=pigeon ((s.n+s.m) ^ s.m) (fun l=>Kq (s.n+s.m) (c l) s.m) (fun l hl=>Le fun q hq=>(h.invs (l:=l) Ad).bas q hq);refine h.fresh hij Ad ?_;funext q;by_cases hq:q<s.m
 ·exact OJ (h.invs (l:=i) Ad).bas (h.invs (l:=j) Ad).bas e q hq
 ·rw [h.rest (l:=i) Ad q Ad,h.rest (l:=j) Ad q Ad]
structure Sys.LeaveTo (s:Sys) (B:Nat->Nat) (k q r:Nat):Prop where
 lt:r<q
 pos:0<s.T B r k
 least:∀ i,i<q->0<s.T B i k->0<=s.T B i (s.n+s.m)*s.T B r k-s.T B r (s.n+s.m)*s.T B i k
 tie:∀ i,i<q->0<s.T B i k->s.T B i (s.n+s.m)*s.T B r k-s.T B r (s.n+s.m)*s.T B i k=0->B r<=B i
theorem leaveTo_first {s:Sys} {B:Nat->Nat} {k q:Nat} (h:∀ i,i<q->¬ 0<s.T B i k) (hp:0<s.T B q k):s.LeaveTo B k (q+1) q :=
 ⟨Ad,hp,fun i hi h1=>by
  by_cases e:i=q
  ·subst e;rw [AM];omega
  ·exact absurd h1 (h i Ad),fun i hi h1 _=>by
  by_cases e:i=q
  ·subst e;exact Aa _
  ·exact absurd h1 (h i Ad)⟩
theorem leaveTo_skip {s:Sys} {B:Nat->Nat} {k q r:Nat} (h:s.LeaveTo B k q r) (hp:¬ 0<s.T B q k):s.LeaveTo B k (q+1) r :=
 ⟨by have:=h.lt;omega,h.pos,fun i hi h1=>by
  by_cases e:i=q
  ·subst e;exact absurd h1 hp
  ·exact h.least i Ad h1,fun i hi h1 h2=>by
  by_cases e:i=q
  ·subst e;exact absurd h1 hp
  ·exact h.tie i Ad h1 h2⟩
theorem leaveTo_keep {s:Sys} {B:Nat->Nat} {k q r:Nat} (h:s.LeaveTo B k q r) (h0:0<=s.T B q (s.n+s.m)*s.T B r k-s.T B r (s.n+s.m)*s.T B q k)
  (h1:s.T B q (s.n+s.m)*s.T B r k-s.T B r (s.n+s.m)*s.T B q k=0->B r<=B q):s.LeaveTo B k (q+1) r :=
 ⟨by have:=h.lt;omega,h.pos,fun i hi h2=>by
  by_cases e:i=q
  ·subst e;exact h0
  ·exact h.least i Ad h2,fun i hi h2 h3=>by
  by_cases e:i=q
  ·subst e;exact h1 h3
  ·exact h.tie i Ad h2 h3⟩
theorem leaveTo_turn {s:Sys} {B:Nat->Nat} {k q r:Nat} (h:s.LeaveTo B k q r) (hp:0<s.T B q k)
  (h0:s.T B q (s.n+s.m)*s.T B r k-s.T B r (s.n+s.m)*s.T B q k<0∨s.T B q (s.n+s.m)*s.T B r k-s.T B r (s.n+s.m)*s.T B q k=0/\B q<B r):s.LeaveTo B k (q+1) q:=by
 have hr:=h.pos
 have key:∀ i,i<q->0<s.T B i k->0<=s.T B i (s.n+s.m)*s.T B q k-s.T B q (s.n+s.m)*s.T B i k/\(s.T B i (s.n+s.m)*s.T B q k-s.T B q (s.n+s.m)*s.T B i k=0->B q<=B i):=fun i hi h1=>by
  have h2:=h.least i hi h1;have h3:=h.tie i hi h1;generalize s.T B i (s.n+s.m)=ai at *
  generalize s.T B q (s.n+s.m)=aq at *
  generalize s.T B r (s.n+s.m)=ar at *
  generalize s.T B i k=pi at *
  generalize s.T B q k=pq at *
  generalize s.T B r k=p at *
  have m1:=BZ h2 (CY hp);rcases h0 with h0 | ⟨h0,hb⟩
  ·have m2:=BS (show 0<ar*pq-aq*p by omega) h1
   have m3:0<p*(ai*pq-aq*pi):=by grind
   have m4:0<ai*pq-aq*pi:=Int.not_le.1 fun hn=>by
    have:=BZ (CY hr) (show 0<=-(ai*pq-aq*pi) by omega);rw [Int.mul_neg] at this;omega
   exact ⟨Ad,fun e=>by omega⟩
  ·have m2:(aq*p-ar*pq)*pi=0:=by rw [h0,Int.zero_mul]
   have m3:p*(ai*pq-aq*pi)=(ai*p-ar*pi)*pq:=by grind
   refine ⟨Cp.1 fun hn=>?_,fun e=>?_⟩
   ·have:=C0 hr hn
    omega
   ·rw [e,CN] at m3
    rcases Int.mul_eq_zero.1 m3.symm with e1 | e1
    ·have:=h3 e1;omega
    ·omega
 exact ⟨Ad,hp,fun i hi h1=>by
  by_cases e:i=q
  ·subst e;rw [AM];omega
  ·exact (key i Ad h1).1,fun i hi h1 h2=>by
  by_cases e:i=q
  ·subst e;exact Aa _
  ·exact (key i Ad h1).2 h2⟩
theorem leaveTo_all {s:Sys} {B:Nat->Nat} {k r:Nat} (h:s.LeaveTo B k s.m r):s.Leave B k r:=⟨h.lt,h.pos,h.least,h.tie⟩
theorem GW {s:Sys} {B:Nat->Nat} {k:Nat}:∀ q,(∀ i,i<q->¬ 0<s.T B i k)∨∃ r,s.LeaveTo B k q r
 | 0=>.inl fun i hi=>by omega
 | q+1=>by
  by_cases hp:0<s.T B q k
  ·right
   rcases GW (s:=s) (B:=B) (k:=k) q with h | ⟨r,h⟩
   ·exact ⟨q,leaveTo_first h hp⟩
   ·by_cases c1:s.T B q (s.n+s.m)*s.T B r k-s.T B r (s.n+s.m)*s.T B q k<0
    ·exact ⟨q,leaveTo_turn h hp (.inl c1)⟩
    ·by_cases c2:s.T B q (s.n+s.m)*s.T B r k-s.T B r (s.n+s.m)*s.T B q k=0/\B q<B r
     ·exact ⟨q,leaveTo_turn h hp (.inr c2)⟩
     ·exact ⟨r,leaveTo_keep h Ad (fun e=>Nat.not_lt.1 fun hb=>c2 ⟨e,hb⟩)⟩
  ·rcases GW (s:=s) (B:=B) (k:=k) q with h | ⟨r,h⟩
   ·exact .inl fun i hi=>by
     by_cases e:i=q
     ·subst e;exact hp
     ·exact h i Ad
   ·exact .inr ⟨r,leaveTo_skip h hp⟩
theorem NC {s:Sys} {B:Nat->Nat} {k:Nat} (he:s.Enter B k):∃ r,s.Leave B k r:=by
 rcases GW (s:=s) (B:=B) (k:=k) s.m with h | ⟨r,h⟩
 ·obtain ⟨i,hi,hp⟩:=exists_pos he
  exact absurd hp (h i hi)
 ·exact ⟨r,leaveTo_all h⟩
theorem enter_unique {s:Sys} {B:Nat->Nat} {k k':Nat} (h:s.Enter B k) (h':s.Enter B k'):k=k':=by
 have h1:=h.neg;have h2:=h'.neg;rcases Nat.lt_trichotomy k k' with e | e | e
 ·have:=h'.first k e;omega
 ·exact e
 ·have:=h.first k' e;omega
theorem leave_unique {s:Sys} {B:Nat->Nat} (hI:s.Inv B) {k r r':Nat} (h:s.Leave B k r) (h':s.Leave B k r'):r=r':=by
 have h1:=h.least r' h'.lt h'.pos;have h2:=h'.least r h.lt h.pos;have e1:=h.tie r' h'.lt h'.pos Ad;have e2:=h'.tie r h.lt h.pos Ad;exact hI.dist h.lt h'.lt Ad
theorem run_ends {s:Sys} {B:Nat->Nat} (hI:s.Inv B):∃ c K R L,c 0=B/\G7 s c K R L/\∀ k,k<s.n->0<=s.C (c L) k:=by
 refine Av fun hn=>?_
 have long:∀ L,∃ c K R,c 0=B/\G7 s c K R L:=by
  intro L;induction L with
  | zero=>exact ⟨fun _=>B,fun _=>0,fun _=>0,rfl,hI,fun l hl=>absurd hl Ad,fun l hl=>absurd hl Ad,fun l hl=>absurd hl Ad⟩
  | succ L ih =>
   obtain ⟨c,K,R,h0,hc⟩:=ih;have hend:¬ ∀ k,k<s.n->0<=s.C (c L) k:=fun h=>hn ⟨c,K,R,L,h0,hc,h⟩
   obtain ⟨k,hk⟩:∃ k,s.Enter (c L) k:=by
    refine Av fun hno=>hend ?_
    intro k;induction k using Nat.strongRecOn with
    | ind k ihk =>
     intro hk;exact Cp.1 fun hneg=>hno ⟨k,hk,hneg,fun j hj=>ihk j hj Ad⟩
   obtain ⟨r,hr⟩:=NC hk;refine ⟨fun l=>if l=L+1 then DL (c L) r k else c l,DL K L k,DL R L r,(AP Ad).trans h0,⟨by rw [show (if 0=L+1 then DL (c L) r k else c 0)=c 0 from AP Ad];exact hc.inv,fun l hl=>?_,fun l hl=>?_,fun l hl=>?_⟩⟩
   ·rw [AP Ad]
    by_cases e:l=L
    ·subst e;rw [upd_same];exact hk
    ·rw [upd_ne _ _ e];exact hc.enter l Ad
   ·rw [AP Ad]
    by_cases e:l=L
    ·subst e;rw [upd_same,upd_same];exact hr
    ·rw [upd_ne _ _ e,upd_ne _ _ e];exact hc.leave l Ad
   ·rw [AP (show ¬ l=L+1 by omega)]
    by_cases e:l=L
    ·subst e;rw [AU rfl,upd_same,upd_same]
    ·rw [AP Ad,upd_ne _ _ e,upd_ne _ _ e];exact hc.next l Ad
 obtain ⟨c,K,R,_,hc⟩:=long ((s.n+s.m) ^ s.m);have:=hc.bound;omega
end LnM
namespace LnM
theorem LB (A:Int):∀ m:Nat,pr m (fun _=>A)=A ^ m
 | 0=>by simp [pr]
 | m+1=>by rw [pr,LB A m,Cx,AM]
theorem Ub (A V:Int):∀ {m i:Nat},i<m->pr m (fun l=>if l=i then V else A)=A ^ (m-1)*V
 | m+1,0,_=>by
  rw [pr,AU rfl,show (fun j=>if j+1=0 then V else A)=(fun _=>A) from by funext j;rw [AP Ad],LB,Nat.add_sub_cancel,AM]
 | m+1,i+1,h=>by
  rw [pr,AP Ad,show (fun j=>if j+1=i+1 then V else A)=(fun l=>if l=i then V else A) from by
   funext j;by_cases e:j=i
   ·rw [AU e,AU Ad]
   ·rw [AP e,AP Ad],Ub A V (m:=m) (i:=i) Ad]
  rw [Nat.add_sub_cancel,<-AL];congr 1;rw [AM,<-Cx,show (m-1).succ=m by omega]
structure Sys.Bd (s:Sys) (A V:Int):Prop where
 one:1<=A
 col:∀ j,j<s.n+s.m->sm s.m (fun i=>((s.S i j).natAbs:Int))<=A
 val:sm s.m (fun i=>((s.S i (s.n+s.m)).natAbs:Int))<=V
theorem RJ {s:Sys} {A V:Int} (h:s.Bd A V) {B:Nat->Nat} (hB:∀ i,i<s.m->B i<s.n+s.m) {i:Nat} (hi:i<s.m) {v:Nat->Int} {X:Int} (hv:sm s.m (fun r=>((v r).natAbs:Int))<=X) :
  ((GE s.m (DL (s.cols B) i v)).natAbs:Int)<=A ^ (s.m-1)*X:=by
 rw [<-Ub A X hi]
 refine Kp fun j hj=>?_
 unfold DL
 by_cases e:j=i
 ·rw [AU e,AU e];exact hv
 ·rw [AP e,AP e];exact h.col (B j) (hB j hj)
theorem bd_d {s:Sys} {A V:Int} (h:s.Bd A V) {B:Nat->Nat} (hB:∀ i,i<s.m->B i<s.n+s.m):((s.d B).natAbs:Int)<=A ^ s.m:=by
 unfold Sys.d;rw [<-LB];exact Kp fun j hj=>h.col (B j) (hB j hj)
theorem Su {A:Int} {m i:Nat} (hi:i<m):A ^ (m-1)*A=A ^ m:=by rw [<-Cx,show (m-1).succ=m by omega]
theorem bd_T {s:Sys} {A V:Int} (h:s.Bd A V) {B:Nat->Nat} (hB:∀ i,i<s.m->B i<s.n+s.m) {i:Nat} (hi:i<s.m) {j:Nat} (hj:j<s.n+s.m):((s.T B i j).natAbs:Int)<=A ^ s.m:=by
 rw [<-Su hi];exact RJ h hB hi (h.col j hj)
theorem bd_Tv {s:Sys} {A V:Int} (h:s.Bd A V) {B:Nat->Nat} (hB:∀ i,i<s.m->B i<s.n+s.m) {i:Nat} (hi:i<s.m):((s.T B i (s.n+s.m)).natAbs:Int)<=A ^ (s.m-1)*V:=RJ h hB hi h.val
theorem bd_C {s:Sys} {X:Int} {B:Nat->Nat} {j:Nat} (hd:((s.d B).natAbs:Int)<=X) (hT:∀ i,i<s.m->((s.T B i j).natAbs:Int)<=X):((s.C B j).natAbs:Int)<=((s.m:Int)+1)*X:=by
 have h0:0<=X:=AK Ad hd;have cx:∀ k x,((s.c k*x).natAbs:Int)<=(x.natAbs:Int):=fun k x=>by unfold Sys.c;split <;> simp
 have h1:((sm s.m (fun i=>s.c (B i)*s.T B i j)).natAbs:Int)<=(s.m:Int)*X:=by
  refine AK (Qo _ _) (AK (RF (g:=fun _=>X) fun i hi=>AK (cx _ _) (hT i hi)) ?_);have:∀ m:Nat,sm m (fun _=>X)=(m:Int)*X:=fun m=>by
   induction m with
   | zero=>simp [sm]
   | succ m ih=>rw [sm,ih];rw [Int.natCast_succ,CT,B7]
  rw [this];exact CU _
 have h2:((s.d B*s.c j).natAbs:Int)<=X:=by rw [AM];exact AK (cx _ _) hd
 unfold Sys.C;rw [CT,B7];omega
end LnM
namespace LnM
abbrev W64:Int:=18446744073709551616
def P:Nat->Int
 | 0=>1
 | i+1=>W64*P i
theorem P_pos:∀ i:Nat,0<P i
 | 0=>by decide
 | i+1=>BS Ae (P_pos i)
theorem OK (i:Nat):∀ j:Nat,P (i+j)=P i*P j
 | 0=>by simp [P]
 | j+1=>by rw [<-Nat.add_assoc,P,P,OK i j];grind
theorem P_12:P 12=2 ^ 768:=by decide +kernel
def wd (z:Int) (i:Nat):Int:=(z / P i) % W64
theorem wd_bd (z:Int) (i:Nat):0<=wd z i/\wd z i<W64:=⟨Cy _ Ae,Cu _ Ae⟩
def lo (z:Int) (i:Nat):Int:=z % P i
theorem RL (z:Int) (i:Nat):0<=lo z i/\lo z i<P i:=⟨Cy _ (by have:=P_pos i;omega),Cu _ (P_pos i)⟩
theorem Gs (z:Int):lo z 0=0:=by unfold lo P;exact Int.emod_one z
theorem Id (z:Int) (i:Nat):lo z (i+1)=lo z i+P i*wd z i:=by
 unfold lo wd;rw [P];have h1:=Dg z (P i);have h2:=Dg (z / P i) W64;have h3:z / P i / W64=z / (P i*W64):=by rw [Int.ediv_ediv,AP (fun h=>by have:=P_pos i;omega),Int.sub_zero]
 have h4:=Dg z (W64*P i);rw [AM W64 (P i)] at h4 |-;rw [<-h3] at h4;generalize z / P i / W64=q at *
 have h5:P i*W64*q=P i*(W64*q):=AL _ _ _;have h6:P i*(z / P i % W64+W64*q)=P i*(z / P i % W64)+P i*(W64*q):=CM _ _ _;rw [h2] at h6;omega
theorem wd_lo {z:Int} {n i:Nat} (h:i<n):wd (lo z n) i=wd z i:=by
 obtain ⟨k,rfl⟩:∃ k,n=i+(k+1):=⟨n-i-1,Ad⟩;unfold wd lo;rw [OK];have hp:=P_pos i;have h1:=Dg z (P i*P (k+1));generalize z / (P i*P (k+1))=q at h1;generalize z % (P i*P (k+1))=r at h1 |-;rw [<-h1,AL,Di _ _ Ad,P,AL,Dj]
theorem LC {y z:Int} {n i:Nat} (h:lo y n=lo z n) (hi:i<n):wd y i=wd z i:=by rw [<-wd_lo hi,h,wd_lo hi]
theorem Uc {y z:Int}:∀ {n:Nat},(∀ i,i<n->wd y i=wd z i)->lo y n=lo z n
 | 0,_=>by rw [Gs,Gs]
 | n+1,h=>by rw [Id,Id,Uc fun i hi=>h i Ad,h n Ad]
def bw (a b:Int) (i:Nat):Int:=if lo a i<lo b i then 1 else 0
theorem bw_zero (a b:Int):bw a b 0=0:=by unfold bw;rw [Gs,Gs,AP Ad]
theorem bw_bd (a b:Int) (i:Nat):0<=bw a b i/\bw a b i<=1:=by unfold bw;split <;> omega
theorem wd_sub (a b:Int) (i:Nat):wd (a-b) i=(wd a i-wd b i-bw a b i) % W64:=by
 have h1:=Dg a (P i);have h2:=Dg b (P i);obtain ⟨a1,a2⟩:=RL a i;obtain ⟨b1,b2⟩:=RL b i;have hp:=P_pos i;have key:(a-b) / P i=a / P i-b / P i-bw a b i:=by
  unfold lo at a1 a2 b1 b2;unfold bw lo;by_cases c:a % P i<b % P i
  ·rw [AU c]
   have e:a-b=(a % P i-b % P i+P i)+P i*(a / P i-b / P i-1):=by rw [CQ,CQ,CR];omega
   rw [e,Di _ _ Ad,CF Ad Ad,Int.zero_add]
  ·rw [AP c]
   have e:a-b=(a % P i-b % P i)+P i*(a / P i-b / P i):=by rw [CQ];omega
   rw [e,Di _ _ Ad,CF Ad Ad];omega
 unfold wd;rw [key];have e1:=Dg (a / P i) W64;have e2:=Dg (b / P i) W64;generalize a / P i=x at *
 generalize b / P i=y at *
 generalize bw a b i=z at *
 unfold W64 at *
 omega
theorem bw_succ (a b:Int) (i:Nat):bw a b (i+1)=if wd a i<wd b i+bw a b i then 1 else 0:=by
 have h1:=Id a i;have h2:=Id b i;obtain ⟨a1,a2⟩:=RL a i;obtain ⟨b1,b2⟩:=RL b i;have hp:=P_pos i;unfold bw;rw [h1,h2];rcases De (wd a i) (wd b i) with c | c | c
 ·have m:P i*(wd a i+1)<=P i*wd b i:=Cw Ad (CY hp)
  rw [CM,CR] at m;rw [AU Ad,AU (by split <;> omega)]
 ·rw [c]
  by_cases d:lo a i<lo b i
  ·rw [AU Ad,AU d,AU Ad]
  ·rw [AP Ad,AP d,AP Ad]
 ·have m:P i*(wd b i+1)<=P i*wd a i:=Cw Ad (CY hp)
  rw [CM,CR] at m;rw [AP Ad,AP (by split <;> omega)]
def Kr (f:Nat->Int) (n:Nat):Int:=sm n (fun i=>P i*f i)
theorem RM {f:Nat->Int}:∀ {n:Nat},(∀ i,i<n->0<=f i/\f i<W64)->0<=Kr f n/\Kr f n<P n
 | 0,_=>by unfold Kr;rw [sm,P];omega
 | n+1,h=>by
  obtain ⟨h1,h2⟩:=RM (n:=n) fun i hi=>h i Ad
  obtain ⟨h3,h4⟩:=h n Ad;have hp:=P_pos n;have m1:=BZ (CY hp) h3;have m2:P n*(f n+1)<=P n*W64:=Cw Ad (CY hp);rw [CM,CR] at m2;unfold Kr at h1 h2 |-;rw [sm,P,AM W64];omega
theorem RN {f:Nat->Int}:∀ {n:Nat},(∀ i,i<n->0<=f i/\f i<W64)->∀ i,i<n->wd (Kr f n) i=f i
 | n+1,h,i,hi=>by
  have e:Kr f (n+1)=Kr f n+P n*f n:=rfl;obtain ⟨h1,h2⟩:=RM (n:=n) fun i hi=>h i Ad
  by_cases c:i=n
  ·subst c
   unfold wd;rw [e,Di _ _ (by have:=P_pos i;omega),CF h1 h2,Int.zero_add];exact Int.emod_eq_of_lt (h i Ad).1 (h i Ad).2
  ·rw [<-RN (n:=n) (fun i hi=>h i Ad) i Ad]
   refine LC (n:=n) ?_ Ad;unfold lo;rw [e,Dj]
theorem Ud {f:Nat->Int} {n k:Nat} (hk:k<n) (v:Int):Kr (DL f k v) n=Kr f n+P k*(v-f k):=by
 unfold Kr;have e:sm n (fun i=>P i*DL f k v i)=sm n (fun i=>P i*f i+(if i=k then P k*(v-f k) else 0)):=sm_congr fun i _=>by
  unfold DL;by_cases c:i=k
  ·subst c;rw [AU rfl,AU rfl];grind
  ·rw [AP c,AP c];omega
 rw [e,Jt,sm_single hk (fun i _ hne=>AP hne),AU rfl]
structure ID (a b:Int) (f:Nat->Int) (carry:Int) (i k:Nat):Prop where
 word:∀ l,l<12->0<=f l/\f l<W64
 c0:0<=carry
 c1:carry<W64
 val:∃ q,Kr f 12+carry*P (i+k)=lo a i*b+wd a i*P i*lo b k+q*P 12
theorem mulAt_start (a b:Int):ID a b (fun _=>0) 0 0 0:=by
 refine ⟨fun _ _=>by decide,Ae,Ae,0,?_⟩;rw [Gs,Gs,show Kr (fun _=>0) 12=0 from sm_zero fun _ _=>CN _];simp
theorem mulAt_step {a b:Int} {f:Nat->Int} {carry:Int} {i k:Nat} (h:ID a b f carry i k) (hk:i+k<12) {o c:Int} (ho:0<=o/\o<W64) (hc:0<=c/\c<W64)
  (e:o+W64*c=wd a i*wd b k+f (i+k)+carry):ID a b (DL f (i+k) o) c i (k+1):=by
 obtain ⟨q,hq⟩:=h.val
 refine ⟨fun l hl=>?_,hc.1,hc.2,q,?_⟩
 ·unfold DL;split
  ·exact ho
  ·exact h.word l hl
 ·rw [Ud hk,Id,show P (i+(k+1))=W64*P (i+k) from rfl]
  have e2:=OK i k;have e3:P (i+k)*(o+W64*c)=P (i+k)*(wd a i*wd b k+f (i+k)+carry):=by rw [e]
  rw [e2] at hq e3 |-;grind
theorem mulAt_row {a b:Int} {f:Nat->Int} {carry:Int} {i k:Nat} (h:ID a b f carry i k) (hk:i+k=12):ID a b f 0 (i+1) 0:=by
 obtain ⟨q,hq⟩:=h.val;have e1:=Dg b (P k);rw [hk] at hq;have e2:P i*P k=P 12:=by rw [<-OK,hk]
 refine ⟨h.word,Ae,Ae,q-carry-wd a i*(b / P k),?_⟩;rw [Id,Gs];unfold lo at hq |-;generalize b / P k=z at *
 generalize b % P k=y at *
 rw [<-e2] at hq |-;subst e1;grind
theorem mulAt_skip {a b:Int} {f:Nat->Int} {i:Nat} (h:ID a b f 0 i 0) (hz:wd a i=0):ID a b f 0 (i+1) 0:=by
 obtain ⟨q,hq⟩:=h.val;refine ⟨h.word,Ae,Ae,q,?_⟩;rw [Id,Gs,hz];rw [Gs,hz] at hq;simpa using hq
theorem mulAt_end {a b:Int} {f:Nat->Int} (h:ID a b f 0 12 0) {l:Nat} (hl:l<12):f l=wd (a*b) l:=by
 obtain ⟨q,hq⟩:=h.val;rw [<-RN h.word l hl];refine LC (n:=12) ?_ hl;rw [Gs] at hq;have e1:=Dg a (P 12);have e2:a*b=lo a 12*b+P 12*(a / P 12*b):=by unfold lo;generalize a / P 12=x at *;generalize a % P 12=y at *;grind
 have e3:Kr f 12=lo a 12*b+P 12*q:=by grind
 rw [e2,e3];unfold lo;rw [Dj,Dj]
def Wide (z:Int):Prop:=-(P 12)<=2*z/\2*z<P 12
theorem wide_eq {y z:Int} (hy:Wide y) (hz:Wide z) (h:∀ i,i<12->wd y i=wd z i):y=z:=by
 have e:=Uc h;unfold lo at e;have e1:=Dg y (P 12);have e2:=Dg z (P 12);unfold Wide at hy hz;have hp:=P_pos 12;have key:y / P 12=z / P 12:=by
  have e3:y-z=P 12*(y / P 12-z / P 12):=by rw [CQ];omega
  rcases De (y / P 12) (z / P 12) with c | c | c
  ·have:P 12*(y / P 12-z / P 12)<=P 12*(-1):=Cw Ad (CY hp)
   omega
  ·exact c
  ·have:P 12*1<=P 12*(y / P 12-z / P 12):=Cw Ad (CY hp)
   omega
 rw [key] at e1;omega
theorem wide_zero:Wide 0:=by unfold Wide;have:=P_pos 12;omega
theorem wd_zero (i:Nat):wd 0 i=0:=by unfold wd;simp
theorem wd_neg {z:Int} (h:Wide z):(wd z 11 / 9223372036854775808=1)↔z<0:=by
 unfold Wide at h;have hp:=P_pos 11;have e:P 12=W64*P 11:=rfl;have e1:=Dg z (P 11);have b1:=Cy z (show P 11≠0 by omega);have b2:=Cu z hp;unfold wd;generalize z / P 11=x at *
 generalize z % P 11=r at *
 have hx:-9223372036854775808<=x/\x<9223372036854775808:=by
  constructor
  ·refine Cp.1 fun hn=>?_
   have:P 11*x<=P 11*(-9223372036854775809):=Cw Ad (CY hp);unfold W64 at e;omega
  ·refine Int.not_le.1 fun hn=>?_
   have:P 11*9223372036854775808<=P 11*x:=Cw Ad (CY hp);unfold W64 at e;omega
 have hs:z<0↔x<0:=by
  constructor
  ·intro hz
   refine Int.not_le.1 fun hn=>?_
   have:=BZ (CY hp) hn;omega
  ·intro hn
   have:P 11*x<=P 11*(-1):=Cw Ad (CY hp);omega
 rw [hs];unfold W64;constructor
 ·intro h1
  omega
 ·intro h1
  omega
end LnM
namespace LnM
theorem two_pos (n:Nat):(0:Int)<2 ^ n:=Int.pow_pos Ae
theorem pow_ne (n:Nat):(2:Int) ^ n≠0:=by have:=two_pos n;omega
theorem Ue:∀ i:Nat,P i=2 ^ (64*i)
 | 0=>rfl
 | i+1=>by rw [P,Ue i,Nat.mul_succ,Cv,AM];rfl
theorem Gp {z a b:Int} (ha:0<a):z / a / b=z / (a*b):=by
 rw [Int.ediv_ediv,AP (fun h=>by omega),Int.sub_zero]
theorem wd_shift (z:Int) (q r:Nat) (hr:r<64) (i:Nat):wd (z / 2 ^ (64*q+r)) i=wd z (i+q) / 2 ^ r+(wd z (i+q+1) % 2 ^ r)*2 ^ (64-r):=by
 have e1:z / 2 ^ (64*q+r) / P i=z / P (i+q) / 2 ^ r:=by
  rw [Gp (two_pos _),Gp (P_pos _)];congr 1;rw [Ue,Ue,<-Cv,<-Cv];congr 1;omega
 have e2:z / P (i+q+1)=z / P (i+q) / W64:=by rw [Gp (P_pos _),P,AM]
 unfold wd;rw [e1,e2];generalize z / P (i+q)=x;have e3:W64=2 ^ r*2 ^ (64-r):=by rw [<-Cv,show r+(64-r)=64 by omega];rfl
 have h1:=Dg x W64;have hp:=two_pos r;have hs:=two_pos (64-r);have b1:=Cy x (show W64≠0 by decide);have b2:=Cu x (show (0:Int)<W64 by decide);generalize x / W64=y at h1 |-;generalize x % W64=u at h1 b1 b2 |-;have h2:x / 2 ^ r=u / 2 ^ r+2 ^ (64-r)*y:=by
  rw [<-h1,e3,AL,Di _ _ (pow_ne r)]
 have h3:=Dg y (2 ^ r);have h4:x / 2 ^ r=(u / 2 ^ r+(y % 2 ^ r)*2 ^ (64-r))+W64*(y / 2 ^ r):=by
  rw [h2,e3];generalize y / 2 ^ r=t at *
  generalize y % 2 ^ r=v at *
  subst h3;grind
 rw [h4,Dj];have h5:y % W64 % 2 ^ r=y % 2 ^ r:=by rw [e3];exact Int.emod_emod_of_dvd _ ⟨_,rfl⟩
 rw [h5];have c1:0<=u / 2 ^ r:=Ct b1 (CY hp);have c2:u / 2 ^ r<2 ^ (64-r):=Cz hp (by rw [AM,<-e3];exact b2);have c3:=Cy y (pow_ne r);have c4:=Cu y hp;have c5:=BZ c3 (CY hs);have c6:(y % 2 ^ r+1)*2 ^ (64-r)<=2 ^ r*2 ^ (64-r):=AJ Ad (CY hs);rw [CT,B7,<-e3] at c6;exact Int.emod_eq_of_lt Ad Ad
theorem wd_bit (z:Int) (q r:Nat) (hr:r<64):wd z q / 2 ^ r % 2=z / 2 ^ (64*q+r) % 2:=by
 have h:=wd_shift z q r hr 0;rw [BN] at h;have e:wd (z / 2 ^ (64*q+r)) 0 % 2=z / 2 ^ (64*q+r) % 2:=by
  unfold wd;rw [P,Int.ediv_one];exact Int.emod_emod_of_dvd _ Ae
 rw [<-e,h];have e2:(wd z (q+1) % 2 ^ r)*2 ^ (64-r)=2*((wd z (q+1) % 2 ^ r)*2 ^ (63-r)):=by
  rw [show 64-r=(63-r)+1 by omega,Cx];grind
 rw [e2,Dj]
theorem wd_fill {z:Int} (h:Wide z) {i:Nat} (hi:12<=i):wd z i=if z<0 then W64-1 else 0:=by
 unfold Wide at h;have hp:=P_pos i;have hle:P 12<=P i:=by
  obtain ⟨k,rfl⟩:∃ k,i=12+k:=⟨i-12,Ad⟩;rw [OK];have h1:=P_pos k;have:P 12*1<=P 12*P k:=Cw Ad (CY (P_pos 12));omega
 unfold wd;by_cases c:z<0
 ·rw [AU c]
  have:z / P i=-1:=by
   have e:z=(z+P i)+P i*(-1):=by omega
   rw [e,Di _ _ Ad,CF Ad Ad];rfl
  rw [this];decide
 ·rw [AP c,CF Ad Ad];decide
def inv (o:Int):Nat->Int
 | 0=>o
 | k+1=>inv o k*(2-o*inv o k)
theorem RQ {o:Int} (ho:o % 2=1):∀ k:Nat,∃ q,1-o*inv o k=2 ^ (3*2 ^ k)*q
 | 0=>by
  have e:=Dg o 2;rw [ho] at e;generalize o / 2=t at e;have:t % 2=0∨t % 2=1:=by omega
  have e2:=Dg t 2;generalize t / 2=s at e2;refine ⟨if t % 2=0 then -(s*(2*s+1)) else -((s+1)*(2*s+1)),?_⟩;unfold inv;have e3:(2:Int) ^ (3*2 ^ 0)=8:=rfl;rw [e3];rcases this with h | h
  ·rw [AU h];rw [h] at e2;grind
  ·rw [AP Ad];rw [h] at e2;grind
 | k+1=>by
  obtain ⟨q,h⟩:=RQ ho k;refine ⟨q*q,?_⟩;rw [show 3*2 ^ (k+1)=3*2 ^ k+3*2 ^ k by rw [Nat.pow_succ];omega,Cv];unfold inv;generalize inv o k=x at *
  generalize (2:Int) ^ (3*2 ^ k)=p at *
  have:1-o*(x*(2-o*x))=(1-o*x)*(1-o*x):=by grind
  rw [this,h];grind
theorem divide_eq {o:Int} (ho:o % 2=1) (z:Nat) (y:Int) (i:Nat) (hi:i<12):wd ((2 ^ z*o*y) / 2 ^ z*inv o 8) i=wd y i:=by
 obtain ⟨q,h⟩:=RQ ho 8;rw [show (2:Int) ^ (3*2 ^ 8)=P 12 from P_12.symm] at h;rw [AL,Int.mul_ediv_cancel_left _ (pow_ne z)];refine LC (n:=12) ?_ hi;have e:o*y*inv o 8=y+P 12*(-(q*y)):=by
  generalize inv o 8=x at *
  have:o*y*x=y-(1-o*x)*y:=by grind
  rw [this,h];grind
 unfold lo;rw [e,Dj]
theorem zeros_step {d:Int} {z:Nat} (h:∃ o,d=2 ^ z*o) (hb:d / 2 ^ z % 2=0):∃ o,d=2 ^ (z+1)*o:=by
 obtain ⟨o,rfl⟩:=h;rw [Int.mul_ediv_cancel_left _ (pow_ne z)] at hb;have:=Dg o 2;exact ⟨o / 2,by rw [Cx,AL];congr 1;omega⟩
theorem zeros_lt {d:Int} (hd:0<d) (hw:Wide d) {z:Nat} (h:∃ o,d=2 ^ z*o):z<768:=by
 obtain ⟨o,rfl⟩:=h;refine Nat.not_le.1 fun hn=>?_
 have h1:=two_pos z;have ho:0<o:=Int.not_le.1 fun ho=>by
  have:=BZ (CY h1) (show 0<=-o by omega);rw [Int.mul_neg] at this;omega
 have h2:(2:Int) ^ z*1<=2 ^ z*o:=Cw Ad (CY h1);have h3:P 12<=2 ^ z:=by
  rw [P_12];obtain ⟨k,rfl⟩:∃ k,z=768+k:=⟨z-768,Ad⟩;rw [Cv];have:(2:Int) ^ 768*1<=2 ^ 768*2 ^ k:=Cw (by have:=two_pos k;omega) (CY (two_pos 768));omega
 unfold Wide at hw;have:=P_pos 12;omega
theorem wd_div {a g:Int} (hg:0<g) (i:Nat):wd (a / g) i=(W64*((a / P (i+1)) % g)+wd a i) / g % W64/\(a / P i) % g=(W64*((a / P (i+1)) % g)+wd a i) % g:=by
 have e1:a / g / P i=a / P i / g:=by rw [Gp hg,Gp (P_pos i),AM]
 have e2:a / P (i+1)=a / P i / W64:=by rw [Gp (P_pos i),P,AM]
 unfold wd;rw [e1,e2];generalize a / P i=x;have h1:=Dg x W64;have h2:=Dg (x / W64) g;generalize x % W64=u at *
 generalize x / W64=y at *
 generalize y / g=k at *
 generalize y % g=r at *
 have e3:x=(W64*r+u)+g*(W64*k):=by subst h2;grind
 rw [e3];constructor
 ·rw [Di _ _ Ad,Dj]
 ·rw [Dj]
end LnM
namespace LnM
structure Est (v1 v0 u x q r:Int):Prop where
 eq:q*v1+r=u
 r0:0<=r
 ge:(u*4294967296+x) / (v1*4294967296+v0)<=q
 le:q<=4294967296+1
structure Jk (v1 v0 u x:Int):Prop where
 hv1:2147483648<=v1
 hv1':v1<4294967296
 hv0:0<=v0
 hv0':v0<4294967296
 hu0:0<=u
 hu1:u<v1*4294967296+v0
 hx0:0<=x
 hx1:x<4294967296
theorem est_start {v1 v0 u x:Int} (h:Jk v1 v0 u x):Est v1 v0 u x (u / v1) (u % v1):=by
 obtain ⟨h1,h2,h3,h4,h5,h6,h7,h8⟩:=h;have e:=Int.mul_ediv_add_emod u v1;have r0:=Cy u (show v1≠0 by omega);have r1:=Cu u (show 0<v1 by omega);generalize u / v1=q at *
 generalize u % v1=r at *
 have hv:0<v1*4294967296+v0:=by omega
 refine ⟨by rw [AM];exact e,r0,?_,?_⟩
 ·refine Int.lt_add_one_iff.1 (Cz hv ?_)
  have:v1*q+r+1<=v1*(q+1):=by rw [CM];omega
  have h9:(v1*(q+1))*4294967296<=(q+1)*(v1*4294967296+v0):=by
   have hq:0<=q+1:=by
    refine Cp.1 fun hn=>?_
    have:v1*q<=v1*(-2):=Cw Ad Ad;omega
   have:=BZ hq h3;grind
  omega
 ·refine Cp.1 fun hn=>?_
  have:v1*(4294967296+2)<=v1*q:=Cw Ad Ad;omega
theorem est_more {v1 v0 u x q r:Int} (h:Jk v1 v0 u x) (e:Est v1 v0 u x q r) (hc:4294967296<=q∨4294967296*r+x<q*v0):Est v1 v0 u x (q-1) (r+v1)/\q-1<=4294967296:=by
 obtain ⟨h1,h2,h3,h4,h5,h6,h7,h8⟩:=h;obtain ⟨e1,e2,e3,e4⟩:=e;have hv:0<v1*4294967296+v0:=by omega
 refine ⟨⟨by rw [Int.sub_mul];omega,Ad,?_,Ad⟩,Ad⟩;refine Int.lt_add_one_iff.1 ?_;rw [Int.sub_add_cancel];refine Cz hv ?_;rcases hc with hc | hc
 ·have:4294967296*(v1*4294967296+v0)<=q*(v1*4294967296+v0):=AJ hc Ad
  omega
 ·have:q*(v1*4294967296+v0)=(q*v1)*4294967296+q*v0:=by grind
  rw [this];have:q*v1=u-r:=by omega
  rw [this];omega
theorem est_end {v1 v0 u x q r:Int} (h:Jk v1 v0 u x) (e:Est v1 v0 u x q r) (hc:q*v0<=4294967296*r+x):q=(u*4294967296+x) / (v1*4294967296+v0):=by
 obtain ⟨h1,h2,h3,h4,h5,h6,h7,h8⟩:=h;obtain ⟨e1,e2,e3,e4⟩:=e;have hv:0<v1*4294967296+v0:=by omega
 refine Int.le_antisymm (Int.le_ediv_of_mul_le hv ?_) e3;have:q*(v1*4294967296+v0)=(q*v1)*4294967296+q*v0:=by grind
 rw [this,show q*v1=u-r by omega];omega
theorem est_break {v1 v0 u x q r:Int} (h:Jk v1 v0 u x) (e:Est v1 v0 u x q r) (hr:4294967296<=r) (hq:q<=4294967296):q=(u*4294967296+x) / (v1*4294967296+v0):=by
 refine est_end h e ?_;obtain ⟨h1,h2,h3,h4,h5,h6,h7,h8⟩:=h;by_cases h0:0<=q
 ·have a:q*v0<=4294967296*v0:=AJ hq h3
  omega
 ·have:q*v0<=0:=by
   have:=BZ (show 0<=-q by omega) h3;rw [Df] at this;omega
  omega
theorem est_rest {v1 v0 u x q:Int} (h:Jk v1 v0 u x) (hq:q=(u*4294967296+x) / (v1*4294967296+v0)):u*4294967296+x-q*(v1*4294967296+v0)=(u*4294967296+x) % (v1*4294967296+v0)/\0<=u*4294967296+x-q*(v1*4294967296+v0)/\u*4294967296+x-q*(v1*4294967296+v0)<v1*4294967296+v0/\0<=q/\q<4294967296:=by
 obtain ⟨h1,h2,h3,h4,h5,h6,h7,h8⟩:=h;have hv:0<v1*4294967296+v0:=by omega
 have e:=Int.mul_ediv_add_emod (u*4294967296+x) (v1*4294967296+v0);have r0:=Cy (u*4294967296+x) (show v1*4294967296+v0≠0 by omega);have r1:=Cu (u*4294967296+x) hv;rw [AM,<-hq] at e;refine ⟨Ad,Ad,Ad,?_,?_⟩
 ·rw [hq];exact Ct Ad Ad
 ·rw [hq];refine Cz hv ?_;omega
end LnM
namespace LnM
def pad18 (d:Nat):List UInt8:=List.replicate (18-(Lib.decDigits d).length) 48++Lib.decDigits d
theorem decDigits_len18 {d:Nat} (h:d<1000000000000000000):1<=(Lib.decDigits d).length/\(Lib.decDigits d).length<=18 :=
 ⟨by have:=(DO d).2.2.1;cases hd:Lib.decDigits d with
  | nil=>exact absurd hd this
  | cons=>simp,EK (k:=18) Ad Ae⟩
theorem pad18_len {d:Nat} (h:d<1000000000000000000):(pad18 d).length=18:=by
 have:=decDigits_len18 h;unfold pad18;rw [Ci,Ch];omega
theorem OL (k:Nat) (l:List UInt8):E9 (List.replicate k 48++l)=E9 l:=by
 induction k with
 | zero=>rfl
 | succ k ih =>
  rw [CH,Cc];have:E9 (48 :: (List.replicate k 48++l))=MO ((0:Nat)*10+((48:UInt8).toNat-48)) (List.replicate k 48++l):=rfl;rw [this];exact ih
theorem Ks {m d:Nat} (hm:0<m) (hd:d<1000000000000000000):Lib.decDigits (m*1000000000000000000+d)=Lib.decDigits m++pad18 d:=by
 have sm:=DO m;have sd:=DO d;have hD:∀ b∈Lib.decDigits m++pad18 d,Hi b=true:=by
  intro b hb;rcases Bz.1 hb with hb | hb
  ·exact sm.2.1 b hb
  ·unfold pad18 at hb
   rcases Bz.1 hb with hb | hb
   ·rw [(List.mem_replicate.1 hb).2];decide
   ·exact sd.2.1 b hb
 have hv:E9 (Lib.decDigits m++pad18 d)=m*1000000000000000000+d:=by
  rw [Gw,pad18_len hd,sm.1];unfold pad18;rw [OL,sd.1]
 rw [<-hv];exact Fn _ hD (by intro e;exact sm.2.2.1 (List.append_eq_nil_iff.1 e).1) (by rw [Hf _ sm.2.2.1];exact sm.2.2.2 Ad)
def Left (A a:Nat) (J:List UInt8):Prop:=Lib.decDigits A=if a=0 then J else Lib.decDigits a++J
theorem left_start {A:Nat} (h:A≠0):Left A A []:=by unfold Left;rw [AP h,List.append_nil]
def grp (a:Nat):List UInt8:=if a / 1000000000000000000=0 then Lib.decDigits (a % 1000000000000000000) else pad18 (a % 1000000000000000000)
theorem left_step {A a:Nat} {J:List UInt8} (h:Left A a J) (ha:a≠0):Left A (a / 1000000000000000000) (grp a++J):=by
 unfold Left at *
 rw [h,AP ha];unfold grp;by_cases hq:a / 1000000000000000000=0
 ·rw [AU hq,AU hq,show a % 1000000000000000000=a by omega]
 ·rw [AP hq,AP hq,<-Cb]
  congr 1;have e:=Nat.div_add_mod a 1000000000000000000;rw [<-Ks Ad (Nat.mod_lt _ Ae)];congr 1;omega
theorem left_end {A:Nat} {J:List UInt8} (h:Left A 0 J):Lib.decDigits A=J:=by unfold Left at h;rwa [AU rfl] at h
end LnM
end
end Go.Proofs.YtioamkekjjkigaaGreatDoor
