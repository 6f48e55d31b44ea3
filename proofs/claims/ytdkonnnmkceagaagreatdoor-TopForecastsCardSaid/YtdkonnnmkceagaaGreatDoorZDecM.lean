/- DecM, DecN, DecP, DecQ, DecA -/
import Derived.Test.YtdkonnnmkceagaaGreatDoorZPkA
set_option maxHeartbeats 4000000
set_option maxRecDepth 100000
namespace Go.Proofs.YtdkonnnmkceagaaGreatDoor
section
namespace DecM
structure Dt where
 t:Int
 lo:Int
 hi:Int
def Fit (t:Int) (v b:Rat) (p:Dt):Prop:=(p.lo:Rat)<=v+b*((p.t:Rat)-t)/\v+b*((p.t:Rat)-t)<=p.hi
def Dj (t:Int) (v b:Rat) (l:List Dt):Prop:=∀ p∈l,Fit t v b p
def mx (n lo hi:Int):Int:=if n<0 then n*lo else n*hi
def mn (n lo hi:Int):Int:=if n<0 then n*hi else n*lo
def Ev (p q:Dt) (t:Int):Int:=mx (q.t-t) p.lo p.hi+mx (t-p.t) q.lo q.hi
def Gm (p q:Dt) (t:Int):Int:=mn (q.t-t) p.lo p.hi+mn (t-p.t) q.lo q.hi
def Kk (l:List Dt) (t:Int) (v:Rat):Prop:=∀ p∈l,∀ q∈l,p.t<q.t->v*((q.t:Rat)-p.t)<=Ev p q t/\(Gm p q t:Rat)<=v*((q.t:Rat)-p.t)
def Ones (l:List Dt) (t:Int) (v:Rat):Prop:=∀ p∈l,p.t=t->(p.lo:Rat)<=v/\v<=p.hi
theorem ratmul {a b:Rat} (ha:0<=a) (hb:0<=b):0<=a*b:=Rat.mul_nonneg ha hb
theorem rsub {a b:Rat} (h:a<=b):0<=b-a:=by grind
theorem Dg {a b:Int} (h:a<b):(a:Rat)<b:=by exact_mod_cast h
theorem EY {a b:Int} (h:a<=b):(a:Rat)<=b:=by exact_mod_cast h
theorem M5 {a b c:Rat} (hc:0<c):a / c<=b↔a<=b*c:=by
 constructor
 ·intro h
  have:=ratmul (rsub h) (Rat.le_of_lt hc);have e:a / c*c=a:=by rw [Rat.div_def,Rat.mul_assoc,Rat.inv_mul_cancel _ (by grind),Rat.mul_one]
  grind
 ·intro h
  have:=ratmul (rsub h) (Rat.le_of_lt (Rat.inv_pos.2 hc));have e:b*c*c⁻¹=b:=by rw [Rat.mul_assoc,Rat.mul_inv_cancel _ (by grind),Rat.mul_one]
  rw [Rat.div_def];grind
theorem M6 {a b c:Rat} (hc:0<c):b<=a / c↔b*c<=a:=by
 constructor
 ·intro h
  have:=ratmul (rsub h) (Rat.le_of_lt hc);have e:a / c*c=a:=by rw [Rat.div_def,Rat.mul_assoc,Rat.inv_mul_cancel _ (by grind),Rat.mul_one]
  grind
 ·intro h
  have:=ratmul (rsub h) (Rat.le_of_lt (Rat.inv_pos.2 hc));have e:b*c*c⁻¹=b:=by rw [Rat.mul_assoc,Rat.mul_inv_cancel _ (by grind),Rat.mul_one]
  rw [Rat.div_def];grind
theorem Ft {a c:Rat} (hc:c≠0):a / c*c=a:=by rw [Rat.div_def,Rat.mul_assoc,Rat.inv_mul_cancel _ hc,Rat.mul_one]
theorem PU (n lo hi:Int) (y:Rat) (h:(lo:Rat)<=y/\y<=hi):(n:Rat)*y<=mx n lo hi:=by
 unfold mx;split
 ·have h1:=ratmul (rsub h.1) (rsub (EY (show n<=0 by omega)))
  rw [Rat.intCast_mul];grind
 ·have h1:=ratmul (rsub h.2) (rsub (EY (show 0<=n by omega)))
  rw [Rat.intCast_mul];grind
theorem mn_le (n lo hi:Int) (y:Rat) (h:(lo:Rat)<=y/\y<=hi):(mn n lo hi:Rat)<=n*y:=by
 unfold mn;split
 ·have h1:=ratmul (rsub h.2) (rsub (EY (show n<=0 by omega)))
  rw [Rat.intCast_mul];grind
 ·have h1:=ratmul (rsub h.1) (rsub (EY (show 0<=n by omega)))
  rw [Rat.intCast_mul];grind
theorem Dj.pairs {l:List Dt} {t:Int} {v b:Rat} (h:Dj t v b l):Kk l t v:=by
 intro p hp q hq hlt;have h1:=PU (q.t-t) p.lo p.hi _ (h p hp);have h2:=PU (t-p.t) q.lo q.hi _ (h q hq);have h3:=mn_le (q.t-t) p.lo p.hi _ (h p hp);have h4:=mn_le (t-p.t) q.lo q.hi _ (h q hq);unfold Ev Gm;rw [Rat.intCast_add,Rat.intCast_add];rw [Rat.intCast_sub] at h1 h2 h3 h4;constructor <;> grind
def up (t:Int) (v:Rat) (p:Dt):Rat:=if t<p.t then ((p.hi:Rat)-v) / ((p.t:Rat)-t) else (v-(p.lo:Rat)) / ((t:Rat)-p.t)
def lw (t:Int) (v:Rat) (p:Dt):Rat:=if t<p.t then ((p.lo:Rat)-v) / ((p.t:Rat)-t) else (v-(p.hi:Rat)) / ((t:Rat)-p.t)
theorem fit_iff {t:Int} {v b:Rat} {p:Dt} (h:p.t≠t):Fit t v b p↔lw t v p<=b/\b<=up t v p:=by
 unfold Fit up lw;by_cases h0:t<p.t
 ·have hp:(0:Rat)<(p.t:Rat)-t:=by have:=Dg h0;grind
  rw [AI h0,AI h0,M5 hp,M6 hp];constructor <;> intro ⟨a,c⟩ <;> constructor <;> grind
 ·have hp:(0:Rat)<(t:Rat)-p.t:=by have:=Dg (show p.t<t by omega);grind
  rw [AF h0,AF h0,M5 hp,M6 hp];constructor <;> intro ⟨a,c⟩ <;> constructor <;> grind
theorem ES {a b c d:Rat} (hc:0<c) (hd:0<d) (h:a*d<=b*c):a / c<=b / d:=by
 rw [M5 hc,Rat.div_def];have e:a*d*d⁻¹=a:=by rw [Rat.mul_assoc,Rat.mul_inv_cancel _ (by grind),Rat.mul_one]
 have:=ratmul (rsub h) (Rat.le_of_lt (Rat.inv_pos.2 hd));grind
theorem SZ {l:List Dt} {t:Int} {v:Rat} (hv:∀ p∈l,p.lo<=p.hi) (hinj:∀ p∈l,∀ q∈l,p.t=q.t->p=q) (h:Kk l t v) {p q:Dt} (hp:p∈l) (hq:q∈l) (hpt:p.t≠t) (hqt:q.t≠t):lw t v p<=up t v q:=by
 by_cases e:p.t=q.t
 ·have:=hinj p hp q hq e
  subst this;have h1:=EY (hv p hp);unfold lw up;by_cases h0:t<p.t
  ·have hp:(0:Rat)<(p.t:Rat)-t:=by have:=Dg h0;grind
   rw [AI h0,AI h0];refine ES hp hp ?_;have:=ratmul (rsub h1) (Rat.le_of_lt hp);grind
  ·have hp:(0:Rat)<(t:Rat)-p.t:=by have:=Dg (show p.t<t by omega);grind
   rw [AF h0,AF h0];refine ES hp hp ?_;have:=ratmul (rsub h1) (Rat.le_of_lt hp);grind
 ·have key:(p.t<q.t/\v*((q.t:Rat)-p.t)<=Ev p q t/\(Gm p q t:Rat)<=v*((q.t:Rat)-p.t))∨(q.t<p.t/\v*((p.t:Rat)-q.t)<=Ev q p t/\(Gm q p t:Rat)<=v*((p.t:Rat)-q.t)):=by
   rcases Int.lt_or_gt_of_ne e with h0 | h0
   ·exact .inl ⟨h0,h p hp q hq h0⟩
   ·exact .inr ⟨h0,h q hq p hp h0⟩
  unfold Ev Gm mx mn at key
  unfold lw up
  by_cases h1:t<p.t
  ·have hp1:(0:Rat)<(p.t:Rat)-t:=by have:=Dg h1;grind
   by_cases h2:t<q.t
   ·have hq1:(0:Rat)<(q.t:Rat)-t:=by have:=Dg h2;grind
    rw [AI h1,AI h2];refine ES hp1 hq1 ?_;rw [AF (show ¬ q.t-t<0 by omega),AI (show t-p.t<0 by omega),AF (show ¬ q.t-t<0 by omega),AI (show t-p.t<0 by omega),AF (show ¬ p.t-t<0 by omega),AI (show t-q.t<0 by omega),AF (show ¬ p.t-t<0 by omega),AI (show t-q.t<0 by omega)] at key;simp only [Rat.intCast_mul,Rat.intCast_sub,Rat.intCast_add] at key;grind
   ·have hq1:(0:Rat)<(t:Rat)-q.t:=by have:=Dg (show q.t<t by omega);grind
    rw [AI h1,AF h2];refine ES hp1 hq1 ?_;rcases key with ⟨k0,_⟩ | ⟨k0,k1,k2⟩
    ·omega
    ·rw [AF (show ¬ p.t-t<0 by omega),AF (show ¬ t-q.t<0 by omega)] at k1 k2
     simp only [Rat.intCast_mul,Rat.intCast_sub,Rat.intCast_add] at k1 k2;grind
  ·have hp1:(0:Rat)<(t:Rat)-p.t:=by have:=Dg (show p.t<t by omega);grind
   by_cases h2:t<q.t
   ·have hq1:(0:Rat)<(q.t:Rat)-t:=by have:=Dg h2;grind
    rw [AF h1,AI h2];refine ES hp1 hq1 ?_;rcases key with ⟨k0,k1,k2⟩ | ⟨k0,_⟩
    ·rw [AF (show ¬ q.t-t<0 by omega),AF (show ¬ t-p.t<0 by omega)] at k1 k2
     simp only [Rat.intCast_mul,Rat.intCast_sub,Rat.intCast_add] at k1 k2;grind
    ·omega
   ·have hq1:(0:Rat)<(t:Rat)-q.t:=by have:=Dg (show q.t<t by omega);grind
    rw [AF h1,AF h2];refine ES hp1 hq1 ?_;rw [AI (show q.t-t<0 by omega),AF (show ¬ t-p.t<0 by omega),AI (show q.t-t<0 by omega),AF (show ¬ t-p.t<0 by omega),AI (show p.t-t<0 by omega),AF (show ¬ t-q.t<0 by omega),AI (show p.t-t<0 by omega),AF (show ¬ t-q.t<0 by omega)] at key;simp only [Rat.intCast_mul,Rat.intCast_sub,Rat.intCast_add] at key;grind
theorem I1 {α:Type} (f:α->Rat) (P:α->Prop) [DecidablePred P]:∀ l:List α,(∃ x∈l,P x)->∃ x∈l,P x/\∀ y∈l,P y->f x<=f y
 | [],h=>by obtain ⟨x,hx,_⟩:=h;cases hx
 | a :: l,h=>by
  by_cases hl:∃ x∈l,P x
  ·obtain ⟨x,hx,hP,hm⟩:=I1 f P l hl
   by_cases ha:P a/\f a<=f x
   ·refine ⟨a,AW,ha.1,fun y hy hPy=>?_⟩
    rcases As.1 hy with rfl | hy
    ·exact Rat.le_refl
    ·exact Rat.le_trans ha.2 (hm y hy hPy)
   ·refine ⟨x,AZ _ hx,hP,fun y hy hPy=>?_⟩
    rcases As.1 hy with rfl | hy
    ·rcases (Rat.le_total:f x<=f y∨f y<=f x) with h | h
     ·exact h
     ·exact absurd ⟨hPy,h⟩ ha
    ·exact hm y hy hPy
  ·obtain ⟨x,hx,hP⟩:=h
   rcases As.1 hx with rfl | hx
   ·exact ⟨x,AW,hP,fun y hy hPy=>by
     rcases As.1 hy with rfl | hy
     ·exact Rat.le_refl
     ·exact absurd ⟨y,hy,hPy⟩ hl⟩
   ·exact absurd ⟨x,hx,hP⟩ hl
structure Ew (l:List Dt):Prop where
 asc:l.Pairwise (fun p q=>p.t<q.t)
 ord:∀ p∈l,p.lo<=p.hi
theorem Ew.inj {l:List Dt} (h:Ew l):∀ p∈l,∀ q∈l,p.t=q.t->p=q:=by
 have ha:=h.asc;clear h;induction l with
 | nil=>intro p hp;cases hp
 | cons a l ih =>
  rw [AU] at ha;intro p hp q hq e;rcases As.1 hp with h1 | h1 <;> rcases As.1 hq with h2 | h2
  ·rw [h1,h2]
  ·have:=ha.1 q h2;rw [<-h1] at this;omega
  ·have:=ha.1 p h1;rw [<-h2] at this;omega
  ·exact ih ha.2 p h1 q h2 e
theorem Ew.tail {a:Dt} {l:List Dt} (h:Ew (a :: l)):Ew l:=⟨(AU.1 h.asc).2,fun p hp=>h.ord p (AZ _ hp)⟩
theorem Hs {l:List Dt} (hg:Ew l) {t:Int} {v:Rat} (h:Kk l t v) (h1:Ones l t v) (hne:∃ p∈l,p.t≠t) :
  ∃ b,Dj t v b l/\∃ q∈l,q.t≠t/\b=up t v q:=by
 obtain ⟨q,hq,hqt,hm⟩:=I1 (up t v) (fun p=>p.t≠t) l hne
 refine ⟨up t v q,fun p hp=>?_,q,hq,hqt,rfl⟩
 by_cases e:p.t=t
 ·obtain ⟨a,b⟩:=h1 p hp e
  unfold Fit;rw [e];constructor <;> grind
 ·exact (fit_iff e).2 ⟨SZ hg.ord hg.inj h hp hq e hqt,hm p hp e⟩
theorem T6 {l:List Dt} (hg:Ew l) {t:Int} {v:Rat} (h:Kk l t v) (h1:Ones l t v):∃ b,Dj t v b l:=by
 by_cases hne:∃ p∈l,p.t≠t
 ·obtain ⟨b,hb,_⟩:=Hs hg h h1 hne
  exact ⟨b,hb⟩
 ·refine ⟨0,fun p hp=>?_⟩
  have e:p.t=t:=Classical.byContradiction fun e=>hne ⟨p,hp,e⟩
  obtain ⟨a,b⟩:=h1 p hp e;unfold Fit;constructor <;> grind
def Fu (l:List Dt):Prop:=∃ a b:Rat,Dj 0 a b l
theorem T7 (t s:Int) (v b:Rat) (p:Dt):Fit t v b p↔Fit s (v+b*((s:Rat)-t)) b p:=by
 unfold Fit;have e:v+b*((s:Rat)-t)+b*((p.t:Rat)-s)=v+b*((p.t:Rat)-t):=by grind
 rw [e]
theorem Dj.move {t:Int} {v b:Rat} {l:List Dt} (h:Dj t v b l) (s:Int):Dj s (v+b*((s:Rat)-t)) b l:=fun p hp=>(T7 t s v b p).1 (h p hp)
theorem Dj.feas {t:Int} {v b:Rat} {l:List Dt} (h:Dj t v b l):Fu l:=⟨_,_,h.move 0⟩
def It (p q r:Dt):Prop:=q.hi*(r.t-p.t)<p.lo*(r.t-q.t)+r.lo*(q.t-p.t)∨q.lo*(r.t-p.t) > p.hi*(r.t-q.t)+r.hi*(q.t-p.t)
def Jy (l:List Dt):Prop:=∀ p∈l,∀ q∈l,∀ r∈l,p.t<q.t->q.t<r.t->¬ It p q r
theorem Fu.noApart {l:List Dt} (h:Fu l):Jy l:=by
 obtain ⟨a,b,h⟩:=h;intro p hp q hq r hr h1 h2 ha;have fp:=h p hp;have fq:=h q hq;have fr:=h r hr;unfold Fit at fp fq fr;have c1:=Dg h1;have c2:=Dg h2;have m1:=ratmul (rsub fp.1) (Rat.le_of_lt (show 0<(r.t:Rat)-q.t by grind));have m2:=ratmul (rsub fp.2) (Rat.le_of_lt (show 0<(r.t:Rat)-q.t by grind));have m3:=ratmul (rsub fr.1) (Rat.le_of_lt (show 0<(q.t:Rat)-p.t by grind));have m4:=ratmul (rsub fr.2) (Rat.le_of_lt (show 0<(q.t:Rat)-p.t by grind));have m5:=ratmul (rsub fq.1) (Rat.le_of_lt (show 0<(r.t:Rat)-p.t by grind));have m6:=ratmul (rsub fq.2) (Rat.le_of_lt (show 0<(r.t:Rat)-p.t by grind));rcases ha with ha | ha
 ·have ha:=Dg ha
  simp only [Rat.intCast_mul,Rat.intCast_sub,Rat.intCast_add] at ha;grind
 ·have ha:=Dg ha
  simp only [Rat.intCast_mul,Rat.intCast_sub,Rat.intCast_add] at ha;grind
theorem Gt:∀ {l:List Dt},Ew l->Jy l->Fu l
 | [],_,_=>⟨0,0,fun p hp=>by cases hp⟩
 | d :: l,hg,hn=>by
  obtain ⟨a,b,hf⟩:=Gt hg.tail (fun p hp q hq r hr=>hn p (AZ _ hp) q (AZ _ hq) r (AZ _ hr));have hP:=(hf.move d.t).pairs;generalize a+b*((d.t:Rat)-0)=v0 at hP;have hlt:=(AU.1 hg.asc).1;have hd:=hg.ord d AW;have key:∀ p∈l,∀ q∈l,p.t<q.t->(d.lo:Rat)*((q.t:Rat)-p.t)<=Ev p q d.t/\(Gm p q d.t:Rat)<=(d.hi:Rat)*((q.t:Rat)-p.t):=by
   intro p hp q hq hpq;have h1:=hlt p hp;have ha:=hn d AW p (AZ _ hp) q (AZ _ hq) h1 hpq;unfold It at ha;unfold Ev Gm mx mn;rw [AF (show ¬ q.t-d.t<0 by omega),AI (show d.t-p.t<0 by omega),AF (show ¬ q.t-d.t<0 by omega),AI (show d.t-p.t<0 by omega)];have a1:=EY (Int.not_lt.1 (fun h=>ha (.inl h)));have a2:=EY (Int.not_lt.1 (fun h=>ha (.inr h)));simp only [Rat.intCast_mul,Rat.intCast_sub,Rat.intCast_add] at a1 a2 |-;constructor <;> grind
  have hdc:=EY hd;obtain ⟨v,hv1,hv2,hPv⟩:∃ v:Rat,(d.lo:Rat)<=v/\v<=d.hi/\Kk l d.t v:=by
   by_cases c1:v0<d.lo
   ·refine ⟨d.lo,by grind,hdc,fun p hp q hq hpq=>⟨(key p hp q hq hpq).1,?_⟩⟩
    have h1:=(hP p hp q hq hpq).2;have h2:=Dg hpq;have:=ratmul (rsub (Rat.le_of_lt c1)) (Rat.le_of_lt (show 0<(q.t:Rat)-p.t by grind));grind
   ·by_cases c2:(d.hi:Rat)<v0
    ·refine ⟨d.hi,hdc,by grind,fun p hp q hq hpq=>⟨?_,(key p hp q hq hpq).2⟩⟩
     have h1:=(hP p hp q hq hpq).1;have h2:=Dg hpq;have:=ratmul (rsub (Rat.le_of_lt c2)) (Rat.le_of_lt (show 0<(q.t:Rat)-p.t by grind));grind
    ·exact ⟨v0,by grind,by grind,hP⟩
  obtain ⟨s,hs⟩:=T6 hg.tail hPv (fun p hp e=>by have:=hlt p hp;omega);refine Dj.feas (t:=d.t) (v:=v) (b:=s) (fun p hp=>?_);rcases As.1 hp with rfl | hp
  ·unfold Fit;constructor <;> grind
  ·exact hs p hp
theorem T8 {l:List Dt} (hg:Ew l):Fu l↔Jy l:=⟨Fu.noApart,Gt hg⟩
def T9 (l:List Dt):List (Dt×Dt):=match l with
 | []=>[]
 | p :: l=>l.map (fun q=>(p,q))++T9 l
theorem mem_prs {l:List Dt} (h:Ew l) {p q:Dt}:(p,q)∈T9 l↔p∈l/\q∈l/\p.t<q.t:=by
 induction l with
 | nil=>simp [T9]
 | cons a l ih =>
  have ha:=AU.1 h.asc;rw [T9,B7,AJ,ih h.tail];constructor
  ·rintro (⟨x,hx,e⟩ | ⟨h1,h2,h3⟩)
   ·cases e;exact ⟨AW,AZ _ hx,ha.1 q hx⟩
   ·exact ⟨AZ _ h1,AZ _ h2,h3⟩
  ·rintro ⟨h1,h2,h3⟩
   rcases As.1 h1 with e1 | h1 <;> rcases As.1 h2 with e2 | h2
   ·rw [e1,e2] at h3;omega
   ·exact .inl ⟨q,h2,by rw [e1]⟩
   ·have:=ha.1 p h1;rw [<-e2] at this;omega
   ·exact .inr ⟨h1,h2,h3⟩
def ratio (n d:Int):Rat:=(n:Rat) / (d:Rat)
structure EK (l:List Dt) (t:Int) (v:Rat):Prop where
 le:∀ u b,Dj t u b l->u<=v
 at_:∃ b,Dj t v b l
structure EL (l:List Dt) (t:Int) (v:Rat):Prop where
 le:∀ u b,Dj t u b l->v<=u
 at_:∃ b,Dj t v b l
def Ea (t:Int) (v b:Rat) (p:Dt):Prop:=v+b*((p.t:Rat)-t)=p.lo∨v+b*((p.t:Rat)-t)=p.hi
theorem QV {t:Int} {v:Rat} {q:Dt} (h:q.t≠t):Ea t v (up t v q) q:=by
 unfold Ea up;by_cases h0:t<q.t
 ·rw [AI h0,Ft (by have:=Dg h0;grind)];right;grind
 ·rw [AF h0];left
  have:=Ft (a:=v-(q.lo:Rat)) (c:=(t:Rat)-q.t) (by have:=Dg (show q.t<t by omega);grind);grind
theorem Gc {p q:Dt} (h:p.t<q.t):(0:Rat)<(q.t:Rat)-p.t:=by have:=Dg h;grind
theorem QW {n:Int} {p q:Dt} (h:p.t<q.t):ratio n (q.t-p.t)*((q.t:Rat)-p.t)=n:=by
 unfold ratio;rw [Rat.intCast_sub];exact Ft (by have:=Gc h;grind)
theorem Kl {n:Int} {v:Rat} {p q:Dt} (h:p.t<q.t):v<=ratio n (q.t-p.t)↔v*((q.t:Rat)-p.t)<=n:=by
 unfold ratio;rw [Rat.intCast_sub];exact M6 (Gc h)
theorem KI {l:List Dt} {t:Int} {v:Rat} (h:Kk l t v) {p q:Dt} (hp:p∈l) (hq:q∈l) (hne:p.t≠q.t):Ones l t v:=by
 intro r hr e;obtain ⟨s,hs,hst⟩:∃ s∈l,s.t≠t:=by
  by_cases e1:p.t=t
  ·exact ⟨q,hq,fun e2=>hne (e1.trans e2.symm)⟩
  ·exact ⟨p,hp,e1⟩
 rcases Int.lt_or_gt_of_ne (show r.t≠s.t by rw [e];exact fun h=>hst h.symm) with h0 | h0
 ·have:=h r hr s hs h0
  have c:=Gc h0;unfold Ev Gm mx mn at this;rw [e] at this h0 c;rw [AF (show ¬ s.t-t<0 by omega),AF (show ¬ t-t<0 by omega),AF (show ¬ s.t-t<0 by omega),AF (show ¬ t-t<0 by omega)] at this;simp only [Rat.intCast_mul,Rat.intCast_sub,Rat.intCast_add] at this;constructor
  ·refine Rat.le_of_mul_le_mul_right ?_ c;grind
  ·refine Rat.le_of_mul_le_mul_right ?_ c;grind
 ·have:=h s hs r hr h0
  have c:=Gc h0;unfold Ev Gm mx mn at this;rw [e] at this h0 c;rw [AF (show ¬ t-t<0 by omega),AF (show ¬ t-s.t<0 by omega),AF (show ¬ t-t<0 by omega),AF (show ¬ t-s.t<0 by omega)] at this;simp only [Rat.intCast_mul,Rat.intCast_sub,Rat.intCast_add] at this;constructor
  ·refine Rat.le_of_mul_le_mul_right ?_ c;grind
  ·refine Rat.le_of_mul_le_mul_right ?_ c;grind
theorem Hu {l:List Dt} (hg:Ew l) (hf:Fu l) {t:Int} {p q:Dt} (hp:p∈l) (hq:q∈l) (hpq:p.t<q.t)
  (hmin:∀ p'∈l,∀ q'∈l,p'.t<q'.t->ratio (Ev p q t) (q.t-p.t)<=ratio (Ev p' q' t) (q'.t-p'.t)) :
  ∃ b,Dj t (ratio (Ev p q t) (q.t-p.t)) b l/\∃ p'∈l,∃ q'∈l,p'.t<q'.t/\Ea t (ratio (Ev p q t) (q.t-p.t)) b p'/\Ea t (ratio (Ev p q t) (q.t-p.t)) b q':=by
 obtain ⟨a0,b0,h0⟩:=hf
 have hP0:=(h0.move t).pairs
 generalize a0+b0*((t:Rat)-0)=v0 at hP0
 generalize hv:ratio (Ev p q t) (q.t-p.t)=v at *
 have hle:v0<=v:=by rw [<-hv,Kl hpq];exact (hP0 p hp q hq hpq).1
 have hP:Kk l t v:=by
  intro p' hp' q' hq' hlt;refine ⟨(Kl hlt).1 (hmin p' hp' q' hq' hlt),?_⟩;have h1:=(hP0 p' hp' q' hq' hlt).2;have:=ratmul (rsub hle) (Rat.le_of_lt (Gc hlt));grind
 have hO:=KI hP hp hq Ad
 have hne:∃ r∈l,r.t≠t:=by
  by_cases e1:p.t=t
  ·exact ⟨q,hq,Ad⟩
  ·exact ⟨p,hp,e1⟩
 obtain ⟨b,hb,r,hr,hrt,hbr⟩:=Hs hg hP hO hne
 refine ⟨b,hb,?_⟩
 have cr:Ea t v b r:=by rw [hbr];exact QV hrt
 have e:v*((q.t:Rat)-p.t)=Ev p q t:=by rw [<-hv];exact QW hpq
 have fp:=hb p hp
 have fq:=hb q hq
 have mp:=PU (q.t-t) p.lo p.hi _ fp
 have mq:=PU (t-p.t) q.lo q.hi _ fq
 unfold Ev at e
 rw [Rat.intCast_add] at e
 rw [Rat.intCast_sub] at mp mq
 have ep:((q.t:Rat)-t)*(v+b*((p.t:Rat)-t))=mx (q.t-t) p.lo p.hi:=by grind
 have eq:((t:Rat)-p.t)*(v+b*((q.t:Rat)-t))=mx (t-p.t) q.lo q.hi:=by grind
 have cp:q.t≠t->Ea t v b p:=by
  intro hne;unfold mx at ep;unfold Ea;have hq0:(q.t:Rat)-t≠0:=by
   rcases Int.lt_or_gt_of_ne hne with h | h <;> (have:=Dg h;grind)
  split at ep
  ·left;rw [Rat.intCast_mul,Rat.intCast_sub] at ep;grind
  ·right;rw [Rat.intCast_mul,Rat.intCast_sub] at ep;grind
 have cq:p.t≠t->Ea t v b q:=by
  intro hne;unfold mx at eq;unfold Ea;have hq0:(t:Rat)-p.t≠0:=by
   rcases Int.lt_or_gt_of_ne hne with h | h <;> (have:=Dg h;grind)
  split at eq
  ·left;rw [Rat.intCast_mul,Rat.intCast_sub] at eq;grind
  ·right;rw [Rat.intCast_mul,Rat.intCast_sub] at eq;grind
 have two:∀ x∈l,∀ y∈l,x.t≠y.t->Ea t v b x->Ea t v b y->∃ p'∈l,∃ q'∈l,p'.t<q'.t/\Ea t v b p'/\Ea t v b q':=by
  intro x hx y hy hne cx cy;rcases Int.lt_or_gt_of_ne hne with h | h
  ·exact ⟨x,hx,y,hy,h,cx,cy⟩
  ·exact ⟨y,hy,x,hx,h,cy,cx⟩
 by_cases e1:q.t=t
 ·exact two q hq r hr (by rw [e1];exact fun h=>hrt h.symm) (cq Ad) cr
 ·by_cases e2:p.t=t
  ·exact two p hp r hr (by rw [e2];exact fun h=>hrt h.symm) (cp e1) cr
  ·exact two p hp q hq Ad (cp e1) (cq e2)
theorem EK.of_pairs {l:List Dt} (hg:Ew l) (hf:Fu l) {t:Int} {p q:Dt} (hp:p∈l) (hq:q∈l) (hpq:p.t<q.t)
  (hmin:∀ p'∈l,∀ q'∈l,p'.t<q'.t->ratio (Ev p q t) (q.t-p.t)<=ratio (Ev p' q' t) (q'.t-p'.t)):EK l t (ratio (Ev p q t) (q.t-p.t)):=by
 obtain ⟨b,hb,_⟩:=Hu hg hf hp hq hpq hmin
 refine ⟨fun u c hu=>?_,b,hb⟩
 rw [Kl hpq];exact (hu.pairs p hp q hq hpq).1
theorem Ta {l:List Dt} (hg:Ew l) (f:Dt×Dt->Rat) {p q:Dt} (hp:p∈l) (hq:q∈l) (hpq:p.t<q.t) :
  ∃ p∈l,∃ q∈l,p.t<q.t/\∀ p'∈l,∀ q'∈l,p'.t<q'.t->f (p,q)<=f (p',q'):=by
 obtain ⟨⟨x,y⟩,hx,_,hm⟩:=I1 f (fun _=>True) (T9 l) ⟨(p,q),(mem_prs hg).2 ⟨hp,hq,hpq⟩,trivial⟩
 obtain ⟨h1,h2,h3⟩:=(mem_prs hg).1 hx
 exact ⟨x,h1,y,h2,h3,fun p' hp' q' hq' h=>hm (p',q') ((mem_prs hg).2 ⟨hp',hq',h⟩) trivial⟩
def QX (l:List Dt):Prop:=∃ p∈l,∃ q∈l,p.t<q.t
structure ET (l:List Dt) (t:Int) (v b:Rat):Prop where
 fit:Dj t v b l
 two:∃ p∈l,∃ q∈l,p.t<q.t/\Ea t v b p/\Ea t v b q
theorem GL {l:List Dt} (hg:Ew l) (hf:Fu l) (h2:QX l) (t:Int):∃ v b,EK l t v/\ET l t v b:=by
 obtain ⟨p,hp,q,hq,hpq⟩:=h2;obtain ⟨p,hp,q,hq,hpq,hm⟩:=Ta hg (fun x=>ratio (Ev x.1 x.2 t) (x.2.t-x.1.t)) hp hq hpq;obtain ⟨b,hb,hc⟩:=Hu hg hf hp hq hpq hm;exact ⟨_,b,EK.of_pairs hg hf hp hq hpq hm,hb,hc⟩
def ng (p:Dt):Dt:=⟨p.t,-p.hi,-p.lo⟩
theorem Tb {t:Int} {v b:Rat} {p:Dt}:Fit t v b (ng p)↔Fit t (-v) (-b) p:=by
 unfold Fit ng;simp only [Rat.intCast_neg];constructor <;> intro ⟨a,c⟩ <;> constructor <;> grind
theorem EF {t:Int} {v b:Rat} {l:List Dt}:Dj t v b (l.map ng)↔Dj t (-v) (-b) l:=by
 constructor
 ·intro h p hp;exact Tb.1 (h _ (List.mem_map_of_mem hp))
 ·intro h p hp
  obtain ⟨q,hq,rfl⟩:=AJ.1 hp;exact Tb.2 (h q hq)
theorem Ew.ng {l:List Dt} (h:Ew l):Ew (l.map ng):=by
 refine ⟨?_,fun p hp=>?_⟩
 ·rw [List.pairwise_map];exact h.asc
 ·obtain ⟨q,hq,rfl⟩:=AJ.1 hp
  have:=h.ord q hq;show -q.hi<=-q.lo;omega
theorem Fu.ng {l:List Dt} (h:Fu l):Fu (l.map ng):=by
 obtain ⟨a,b,h⟩:=h;exact ⟨-a,-b,EF.2 (by rw [Rat.neg_neg,Rat.neg_neg];exact h)⟩
theorem QX.ng {l:List Dt} (h:QX l):QX (l.map ng):=by
 obtain ⟨p,hp,q,hq,h⟩:=h;exact ⟨_,List.mem_map_of_mem hp,_,List.mem_map_of_mem hq,h⟩
theorem Lb {t:Int} {v b:Rat} {p:Dt}:Ea t v b (ng p)↔Ea t (-v) (-b) p:=by
 unfold Ea ng;simp only [Rat.intCast_neg];constructor <;> rintro (a | a) <;> first | (left;grind) | (right;grind)
theorem ET.ng {t:Int} {v b:Rat} {l:List Dt} (h:ET (l.map ng) t v b):ET l t (-v) (-b):=by
 refine ⟨EF.1 h.fit,?_⟩;obtain ⟨p,hp,q,hq,hpq,hc,hd⟩:=h.two;obtain ⟨p',hp',rfl⟩:=AJ.1 hp;obtain ⟨q',hq',rfl⟩:=AJ.1 hq;exact ⟨p',hp',q',hq',hpq,Lb.1 hc,Lb.1 hd⟩
theorem EK.ng {l:List Dt} {t:Int} {v:Rat} (h:EK (l.map ng) t v):EL l t (-v):=by
 refine ⟨fun u b hu=>?_,?_⟩
 ·have:=h.le (-u) (-b) (EF.2 (by rw [Rat.neg_neg,Rat.neg_neg];exact hu))
  grind
 ·obtain ⟨b,hb⟩:=h.at_
  exact ⟨-b,EF.1 hb⟩
theorem EL.ng {l:List Dt} {t:Int} {v:Rat} (h:EL l t v):EK (l.map ng) t (-v):=by
 refine ⟨fun u b hu=>?_,?_⟩
 ·have:=h.le (-u) (-b) (EF.1 hu)
  grind
 ·obtain ⟨b,hb⟩:=h.at_
  exact ⟨-b,EF.2 (by rw [Rat.neg_neg,Rat.neg_neg];exact hb)⟩
theorem M7 {l:List Dt} (hg:Ew l) (hf:Fu l) (h2:QX l) (t:Int):∃ v b,EL l t v/\ET l t v b:=by
 obtain ⟨v,b,h,k⟩:=GL hg.ng hf.ng h2.ng t;exact ⟨-v,-b,h.ng,k.ng⟩
structure OG (l:List Dt) (r:Rat):Prop where
 le:∀ a b,Dj 0 a b l->b<=r
 at_:∃ a,Dj 0 a r l
structure IsLow (l:List Dt) (r:Rat):Prop where
 le:∀ a b,Dj 0 a b l->r<=b
 at_:∃ a,Dj 0 a r l
theorem OG.ng {l:List Dt} {r:Rat} (h:OG (l.map ng) r):IsLow l (-r):=by
 refine ⟨fun u b hu=>?_,?_⟩
 ·have:=h.le (-u) (-b) (EF.2 (by rw [Rat.neg_neg,Rat.neg_neg];exact hu))
  grind
 ·obtain ⟨b,hb⟩:=h.at_
  exact ⟨-b,EF.1 hb⟩
structure Ln where
 t:Int
 v:Int
 u:Int
 w:Int
 deriving DecidableEq
def Ln.on (x:Ln) (t:Int):Int:=x.v*(x.u-t)+x.w*(t-x.t)
def Ln.fits (x:Ln) (l:List Dt):Bool:=l.all fun d=>decide (d.lo*(x.u-x.t)<=x.on d.t)&&decide (x.on d.t<=d.hi*(x.u-x.t))
def EM (p q:Dt):List Ln:=[⟨p.t,p.lo,q.t,q.lo⟩,⟨p.t,p.lo,q.t,q.hi⟩,⟨p.t,p.hi,q.t,q.lo⟩,⟨p.t,p.hi,q.t,q.hi⟩]
def OI (l:List Dt):List Ln:=(T9 l).flatMap (fun x=>EM x.1 x.2)
def D7 (l:List Dt):List Ln:=(OI l).filter (fun x=>x.fits l)
def Ln.val (x:Ln) (t:Int):Rat:=ratio (x.on t) (x.u-x.t)
def Ln.slope (x:Ln):Rat:=ratio (x.w-x.v) (x.u-x.t)
theorem PW {l:List Dt} (hg:Ew l) {x:Ln} (h:x∈OI l):∃ p∈l,∃ q∈l,p.t<q.t/\x.t=p.t/\x.u=q.t/\(x.v=p.lo∨x.v=p.hi)/\(x.w=q.lo∨x.w=q.hi):=by
 unfold OI at h;obtain ⟨⟨p,q⟩,hx,h⟩:=List.mem_flatMap.1 h;obtain ⟨h1,h2,h3⟩:=(mem_prs hg).1 hx;simp only [EM,As,AQ,or_false] at h;rcases h with rfl | rfl | rfl | rfl;all_goals exact ⟨p,h1,q,h2,h3,rfl,rfl,Af,Af⟩
theorem Ln.val_fit {x:Ln} (h:x.t<x.u) {l:List Dt} (hf:x.fits l=true) (t:Int):Dj t (x.val t) x.slope l:=by
 intro p hp;have:=Ax.1 hf p hp;simp only [Ao,Ap] at this;obtain ⟨h1,h2⟩:=this;have c:=Dg h;have hc:(0:Rat)<(x.u:Rat)-x.t:=by grind
 have e1:x.val t * ((x.u:Rat)-x.t)=x.on t:=by unfold Ln.val ratio;rw [Rat.intCast_sub];exact Ft (by grind)
 have e2:x.slope*((x.u:Rat)-x.t)=(x.w:Rat)-x.v:=by unfold Ln.slope ratio;rw [Rat.intCast_sub,Rat.intCast_sub];exact Ft (by grind)
 have h1:=EY h1;have h2:=EY h2;unfold Ln.on at h1 h2 e1;simp only [Rat.intCast_mul,Rat.intCast_sub,Rat.intCast_add] at h1 h2 e1;have e3:x.slope*((p.t:Rat)-t)*((x.u:Rat)-x.t)=((x.w:Rat)-x.v)*((p.t:Rat)-t):=by rw [<-e2];grind
 unfold Fit;clear e2 hf c h;constructor
 ·refine Rat.le_of_mul_le_mul_right ?_ hc;grind
 ·refine Rat.le_of_mul_le_mul_right ?_ hc;grind
theorem ET.line {l:List Dt} (hg:Ew l) {t:Int} {v b:Rat} (h:ET l t v b):∃ x∈D7 l,x.val t=v/\x.slope=b:=by
 obtain ⟨hf,p,hp,q,hq,hpq,cp,cq⟩:=h;obtain ⟨x,hx,e1,e2,e3,e4⟩:∃ x∈OI l,x.t=p.t/\x.u=q.t/\v+b*((p.t:Rat)-t)=x.v/\v+b*((q.t:Rat)-t)=x.w:=by
  have hm:=(mem_prs hg).2 ⟨hp,hq,hpq⟩;rcases cp with cp | cp <;> rcases cq with cq | cq
  ·exact ⟨⟨p.t,p.lo,q.t,q.lo⟩,List.mem_flatMap.2 ⟨(p,q),hm,by simp [EM]⟩,rfl,rfl,cp,cq⟩
  ·exact ⟨⟨p.t,p.lo,q.t,q.hi⟩,List.mem_flatMap.2 ⟨(p,q),hm,by simp [EM]⟩,rfl,rfl,cp,cq⟩
  ·exact ⟨⟨p.t,p.hi,q.t,q.lo⟩,List.mem_flatMap.2 ⟨(p,q),hm,by simp [EM]⟩,rfl,rfl,cp,cq⟩
  ·exact ⟨⟨p.t,p.hi,q.t,q.hi⟩,List.mem_flatMap.2 ⟨(p,q),hm,by simp [EM]⟩,rfl,rfl,cp,cq⟩
 rw [<-e1] at e3;rw [<-e2] at e4;have hlt:x.t<x.u:=by omega
 have hc:(0:Rat)<(x.u:Rat)-x.t:=by have:=Dg hlt;grind
 have val:∀ s:Int,(x.on s:Rat)=(v+b*((s:Rat)-t))*((x.u:Rat)-x.t):=by
  intro s;unfold Ln.on;simp only [Rat.intCast_mul,Rat.intCast_sub,Rat.intCast_add];rw [<-e3,<-e4];grind
 refine ⟨x,List.mem_filter.2 ⟨hx,?_⟩,?_,?_⟩
 ·unfold Ln.fits
  rw [Ax];intro d hd;have:=hf d hd;unfold Fit at this;simp only [Ao,Ap];constructor
  ·have h1:=ratmul (rsub this.1) (Rat.le_of_lt hc)
   have:((d.lo*(x.u-x.t):Int):Rat)<=(x.on d.t:Int):=by
    rw [val];simp only [Rat.intCast_mul,Rat.intCast_sub];grind
   exact_mod_cast this
  ·have h1:=ratmul (rsub this.2) (Rat.le_of_lt hc)
   have:((x.on d.t:Int):Rat)<=((d.hi*(x.u-x.t):Int):Rat):=by
    rw [val];simp only [Rat.intCast_mul,Rat.intCast_sub];grind
   exact_mod_cast this
 ·unfold Ln.val ratio
  rw [val t,Rat.intCast_sub,show v+b*((t:Rat)-t)=v by grind,Rat.div_def,Rat.mul_assoc,Rat.mul_inv_cancel _ (by grind),Rat.mul_one]
 ·unfold Ln.slope ratio
  rw [Rat.intCast_sub,Rat.intCast_sub,<-e3,<-e4,show v+b*((x.u:Rat)-t)-(v+b*((x.t:Rat)-t))=b*((x.u:Rat)-x.t) by grind,Rat.div_def,Rat.mul_assoc,Rat.mul_inv_cancel _ (by grind),Rat.mul_one]
theorem fitting_fit {l:List Dt} (hg:Ew l) {x:Ln} (h:x∈D7 l):x.t<x.u/\x.fits l=true:=by
 obtain ⟨h1,h2⟩:=List.mem_filter.1 h;obtain ⟨p,_,q,_,h3,e1,e2,_⟩:=PW hg h1;exact ⟨Ad,h2⟩
end DecM
namespace DecM
def Lc (last:Int):List Dt->Bool
 | []=>true
 | d :: l=>decide (last+1<=d.t/\d.t<=800000/\-1000000<=d.lo/\d.lo<=d.hi/\d.hi<=1000000)&&Lc d.t l
def Fi (l:List Dt):Bool:=Lc (-1) l&&decide (l.length<=16)
theorem okF_all {last:Int} {l:List Dt} (h:Lc last l=true):l.Pairwise (fun p q=>p.t<q.t)/\∀ p∈l,last<p.t/\p.t<=800000/\-1000000<=p.lo/\p.lo<=p.hi/\p.hi<=1000000:=by
 induction l generalizing last with
 | nil=>exact ⟨List.Pairwise.nil,fun p hp=>by cases hp⟩
 | cons d l ih =>
  unfold Lc at h;simp only [Ao,Ap] at h;obtain ⟨h0,h1⟩:=h;obtain ⟨i1,i2⟩:=ih h1;refine ⟨AU.2 ⟨fun q hq=>(i2 q hq).1,i1⟩,fun p hp=>?_⟩;rcases As.1 hp with rfl | hp
  ·exact ⟨Ad,h0.2⟩
  ·have:=i2 p hp;exact ⟨Ad,this.2⟩
theorem okF_of {last:Int} {l:List Dt} (h:l.Pairwise (fun p q=>p.t<q.t)) (k:∀ p∈l,last<p.t/\p.t<=800000/\-1000000<=p.lo/\p.lo<=p.hi/\p.hi<=1000000):Lc last l=true:=by
 induction l generalizing last with
 | nil=>rfl
 | cons d l ih =>
  obtain ⟨h1,h2⟩:=AU.1 h;unfold Lc;rw [ih h2 (fun p hp=>⟨h1 p hp,(k p (AZ _ hp)).2⟩),Bool.and_true,Ap];have:=k d AW;omega
theorem okD_iff {l:List Dt}:Fi l=true↔l.Pairwise (fun p q=>p.t<q.t)/\(∀ p∈l,0<=p.t/\p.t<=800000/\-1000000<=p.lo/\p.lo<=p.hi/\p.hi<=1000000)/\l.length<=16:=by
 unfold Fi;rw [Ao,Ap];constructor
 ·rintro ⟨h1,h2⟩
  obtain ⟨h3,h4⟩:=okF_all h1;exact ⟨h3,fun p hp=>by have:=h4 p hp;omega,h2⟩
 ·rintro ⟨h1,h2,h3⟩
  exact ⟨okF_of h1 (fun p hp=>by have:=h2 p hp;omega),h3⟩
theorem okD_good {l:List Dt} (h:Fi l=true):Ew l:=by
 obtain ⟨h1,h2,_⟩:=okD_iff.1 h;exact ⟨h1,fun p hp=>by have:=h2 p hp;omega⟩
theorem two_iff {l:List Dt} (h:Ew l):QX l↔2<=l.length:=by
 constructor
 ·rintro ⟨p,hp,q,hq,hlt⟩
  match l with
  | []=>cases hp
  | [a] =>
   rw [AK] at hp hq;rw [hp,hq] at hlt;omega
  | a :: b :: l=>simp
 ·intro hl
  match l,h with
  | a :: b :: l,h=>exact ⟨a,AW,b,AZ _ AW,(AU.1 h.asc).1 b AW⟩
def stepB (m:Ln->Int) (o:Option Ln) (x:Ln):Option Ln:=match o with
 | none=>some x
 | some y=>if m y*(x.u-x.t)<m x*(y.u-y.t) then some x else some y
def Jz (m:Ln->Int) (L:List Ln):Option Ln:=L.foldl (stepB m) none
theorem Nn {a b c d:Int} (hb:0<b) (hd:0<d):ratio a b<=ratio c d↔a*d<=c*b:=by
 have h1:(0:Rat)<b:=Dg hb;have h2:(0:Rat)<d:=Dg hd;unfold ratio;rw [M5 h1];have e:(c:Rat) / d*b=(c*b:Rat) / d:=by rw [Rat.div_def,Rat.div_def];grind
 rw [e,M6 h2];constructor
 ·intro h;exact_mod_cast h
 ·intro h;exact_mod_cast h
theorem IY (m:Ln->Int):∀ (L:List Ln) (o:Option Ln),(∀ x∈L,x.t<x.u)->(∀ y,o=some y->y.t<y.u) ->
  (L.foldl (stepB m) o=none↔o=none/\L=[])/\∀ x,L.foldl (stepB m) o=some x->(x∈L∨o=some x)/\(∀ y∈L,ratio (m y) (y.u-y.t)<=ratio (m x) (x.u-x.t))/\∀ y,o=some y->ratio (m y) (y.u-y.t)<=ratio (m x) (x.u-x.t)
 | [],o,_,_=>⟨Af,fun x hx=>⟨.inr hx,(fun y hy=>by cases hy),(fun y hy=>by
   have:x=y:=AL (hx.symm.trans hy);subst this;exact Rat.le_refl)⟩⟩
 | z :: L,o,hL,ho=>by
  have hz:=hL z AW;have hs:∀ y,stepB m o z=some y->y.t<y.u:=by
   intro y hy;unfold stepB at hy;split at hy
   ·cases hy;exact hz
   ·rename_i y' ;split at hy
    ·cases hy;exact hz
    ·cases hy;exact ho _ rfl
  obtain ⟨i1,i2⟩:=IY m L (stepB m o z) (fun x hx=>hL x (AZ _ hx)) hs;rw [BN];refine ⟨?_,fun x hx=>?_⟩
  ·rw [i1]
   constructor
   ·rintro ⟨h,_⟩
    unfold stepB at h;split at h
    ·cases h
    ·split at h <;> cases h
   ·rintro ⟨_,h⟩;cases h
  ·obtain ⟨j1,j2,j3⟩:=i2 x hx
   have key:∃ y,stepB m o z=some y/\(y=z∨o=some y)/\ratio (m z) (z.u-z.t)<=ratio (m y) (y.u-y.t)/\∀ y',o=some y'->ratio (m y') (y'.u-y'.t)<=ratio (m y) (y.u-y.t):=by
    cases o with
    | none=>exact ⟨z,rfl,.inl rfl,Rat.le_refl,fun y' h=>by cases h⟩
    | some y' =>
     have hy':=ho y' rfl;by_cases c:m y'*(z.u-z.t)<m z*(y'.u-y'.t)
     ·exact ⟨z,by show (if m y'*(z.u-z.t)<m z*(y'.u-y'.t) then some z else some y')=some z;rw [AI c],.inl rfl,Rat.le_refl,fun y'' h=>by
       cases h;rw [Nn Ad Ad];omega⟩
     ·exact ⟨y',by show (if m y'*(z.u-z.t)<m z*(y'.u-y'.t) then some z else some y')=some y';rw [AF c],.inr rfl,by rw [Nn Ad Ad];omega,fun y'' h=>by cases h;exact Rat.le_refl⟩
   obtain ⟨y,k0,k1,k2,k3⟩:=key;have hyx:=j3 y k0;refine ⟨?_,fun w hw=>?_,fun w hw=>Rat.le_trans (k3 w hw) hyx⟩
   ·rcases j1 with h | h
    ·exact .inl (AZ _ h)
    ·rw [k0] at h;cases h
     rcases k1 with e | e
     ·rw [e];exact .inl AW
     ·exact .inr e
   ·rcases As.1 hw with rfl | hw
    ·exact Rat.le_trans k2 hyx
    ·exact j2 w hw
theorem Tc {m:Ln->Int} {L:List Ln} (h:∀ x∈L,x.t<x.u):Jz m L=none↔L=[]:=by
 have:=(IY m L none h (fun y hy=>by cases hy)).1;unfold Jz;rw [this];simp
theorem bst_some {m:Ln->Int} {L:List Ln} (h:∀ x∈L,x.t<x.u) {x:Ln} (hx:Jz m L=some x):x∈L/\∀ y∈L,ratio (m y) (y.u-y.t)<=ratio (m x) (x.u-x.t):=by
 obtain ⟨h1,h2,_⟩:=(IY m L none h (fun y hy=>by cases hy)).2 x hx;rcases h1 with h1 | h1
 ·exact ⟨h1,h2⟩
 ·cases h1
def sg (high:Bool):Int:=if high then 1 else -1
def ext (l:List Dt) (t:Int) (high:Bool):Option Ln:=Jz (fun x=>sg high*x.on t) (D7 l)
theorem fitting_lt {l:List Dt} (hg:Ew l):∀ x∈D7 l,x.t<x.u:=fun _ h=>(fitting_fit hg h).1
theorem I2 {l:List Dt} (hg:Ew l):D7 l≠[]↔QX l/\Fu l:=by
 constructor
 ·intro h
  obtain ⟨x,hx⟩:=List.exists_mem_of_ne_nil _ h;obtain ⟨p,hp,q,hq,hlt,_⟩:=PW hg (List.mem_filter.1 hx).1;have hf:=fitting_fit hg hx;exact ⟨⟨p,hp,q,hq,hlt⟩,(Ln.val_fit hf.1 hf.2 0).feas⟩
 ·rintro ⟨h2,hf⟩ e
  obtain ⟨v,b,_,hc⟩:=GL hg hf h2 0;obtain ⟨x,hx,_⟩:=hc.line hg;rw [e] at hx;cases hx
theorem ext_none {l:List Dt} (hg:Ew l) {t:Int} {high:Bool}:ext l t high=none↔¬ (QX l/\Fu l):=by
 unfold ext;rw [Tc (fitting_lt hg),<-I2 hg];simp
theorem Ld (a b:Int):ratio (-a) b=-ratio a b:=by unfold ratio;rw [Rat.intCast_neg,Rat.div_def,Rat.div_def];grind
theorem Td {l:List Dt} (hg:Ew l) {t:Int} {x:Ln} (h:ext l t true=some x):EK l t (x.val t)/\x∈D7 l:=by
 obtain ⟨h1,h2⟩:=bst_some (fitting_lt hg) h;have hf:=fitting_fit hg h1;obtain ⟨h3,h4⟩:=(I2 hg).1 (fun e=>by rw [e] at h1;cases h1);obtain ⟨v,b,hm,hc⟩:=GL hg h4 h3 t;obtain ⟨y,hy,e1,e2⟩:=hc.line hg;have:=h2 y hy;unfold sg at this;rw [AI rfl,AM,AM] at this;have fx:=Ln.val_fit hf.1 hf.2 t;have e:x.val t=v:=Rat.le_antisymm (hm.le _ _ fx) (by rw [<-e1];exact this);rw [e];exact ⟨hm,h1⟩
theorem ext_low {l:List Dt} (hg:Ew l) {t:Int} {x:Ln} (h:ext l t false=some x):EL l t (x.val t)/\x∈D7 l:=by
 obtain ⟨h1,h2⟩:=bst_some (fitting_lt hg) h;have hf:=fitting_fit hg h1;obtain ⟨h3,h4⟩:=(I2 hg).1 (fun e=>by rw [e] at h1;cases h1);obtain ⟨v,b,hm,hc⟩:=M7 hg h4 h3 t;obtain ⟨y,hy,e1,e2⟩:=hc.line hg;have:=h2 y hy;unfold sg at this;rw [AF Ae,show -1*y.on t=-(y.on t) by omega,show -1*x.on t=-(x.on t) by omega,Ld,Ld] at this;have fx:=Ln.val_fit hf.1 hf.2 t;have e:x.val t=v:=by
  refine Rat.le_antisymm ?_ (hm.le _ _ fx);rw [<-e1];have:-y.val t<=-x.val t:=this;grind
 rw [e];exact ⟨hm,h1⟩
def top (l:List Dt):Option Ln:=Jz (fun x=>x.w-x.v) (D7 l)
end DecM
namespace DecM
def Ex (t:Int):Bool:=decide (0<=t)&&decide (t<=800000)
theorem inDay_iff {t:Int}:Ex t=true↔0<=t/\t<=800000:=by unfold Ex;simp
def Gn (l:List Dt) (t:Int):Option (Rat×Rat) :=
 if Fi l&&Ex t then match ext l t false,ext l t true with
  | some x,some y=>some (x.val t,y.val t)
  | _,_=>none
 else none
theorem fcst_none {l:List Dt} {t:Int} (h:Fi l=true) (ht:Ex t=true):Gn l t=none↔¬ (QX l/\Fu l):=by
 unfold Gn;rw [h,ht];have e1:=ext_none (t:=t) (high:=false) (okD_good h);have e2:=ext_none (t:=t) (high:=true) (okD_good h);cases c1:ext l t false with
 | none=>rw [c1] at e1;simp [e1.1 rfl]
 | some x=>cases c2:ext l t true with
  | none=>rw [c1] at e1;rw [c2] at e2;exact absurd (e1.2 (e2.1 rfl)) Af
  | some y =>
   rw [c1] at e1;simp;refine Classical.byContradiction fun h=>?_
   have:=e1.2 (fun ⟨h1,h2⟩=>h ⟨h1,h2⟩);cases this
theorem fcst_some {l:List Dt} {t:Int} {a b:Rat} (h:Gn l t=some (a,b)):Fi l=true/\Ex t=true/\EL l t a/\EK l t b:=by
 unfold Gn at h;split at h
 ·rename_i hc
  rw [Ao] at hc;split at h
  ·rename_i x y h1 h2
   cases h;exact ⟨hc.1,hc.2,(ext_low (okD_good hc.1) h1).1,(Td (okD_good hc.1) h2).1⟩
  ·cases h
 ·cases h
def gd (l:List Dt) (i:Nat):Dt:=l[i]?.getD ⟨0,0,0⟩
theorem Fv {l:List Dt} {i:Nat} (h:i<l.length):gd l i=l[i]:=by simp [gd,h]
theorem Eb {l:List Dt} {i:Nat} (h:i<l.length):gd l i∈l:=by rw [Fv h];exact AC h
theorem M8 {l:List Dt} (hg:Ew l) {i j:Nat} (h:i<j) (hj:j<l.length):(gd l i).t<(gd l j).t:=by
 rw [Fv Ad,Fv hj];exact List.pairwise_iff_getElem.1 hg.asc i j Ad hj h
theorem IZ {l:List Dt} {p:Dt} (h:p∈l):∃ i,i<l.length/\gd l i=p:=by
 obtain ⟨i,hi,rfl⟩:=List.getElem_of_mem h;exact ⟨i,hi,Fv hi⟩
instance (p q r:Dt):Decidable (It p q r):=by unfold It;infer_instance
def apB (l:List Dt) (i j k:Nat):Bool:=decide (It (gd l i) (gd l j) (gd l k))
abbrev Tri:=Option (Nat×Nat×Nat)
def f3 (l:List Dt) (i j k:Nat):Tri:=(List.range' k (l.length-k)).findSome? (fun k=>if apB l i j k then some (i,j,k) else none)
def f2 (l:List Dt) (i j:Nat):Tri:=(List.range' j (l.length-j)).findSome? (fun j=>f3 l i j (j+1))
def f1 (l:List Dt) (i:Nat):Tri:=(List.range' i (l.length-i)).findSome? (fun i=>f2 l i (i+1))
def Hf (l:List Dt):Tri:=f1 l 0
theorem I3 {n k:Nat} (h:k<n):List.range' k (n-k)=k :: List.range' (k+1) (n-(k+1)):=by
 rw [show n-k=(n-(k+1))+1 by omega,List.range'_succ]
theorem J0 {n k:Nat} (h:¬ k<n):List.range' k (n-k)=[]:=by rw [show n-k=0 by omega];rfl
theorem f3_step {l:List Dt} {i j k:Nat} (h:k<l.length):f3 l i j k=(if apB l i j k then some (i,j,k) else none).or (f3 l i j (k+1)):=by
 unfold f3;rw [I3 h,List.findSome?_cons];split <;> simp_all
theorem f3_end {l:List Dt} {i j k:Nat} (h:¬ k<l.length):f3 l i j k=none:=by unfold f3;rw [J0 h];rfl
theorem f2_step {l:List Dt} {i j:Nat} (h:j<l.length):f2 l i j=(f3 l i j (j+1)).or (f2 l i (j+1)):=by
 unfold f2;rw [I3 h,List.findSome?_cons];split <;> simp_all
theorem f2_end {l:List Dt} {i j:Nat} (h:¬ j<l.length):f2 l i j=none:=by unfold f2;rw [J0 h];rfl
theorem f1_step {l:List Dt} {i:Nat} (h:i<l.length):f1 l i=(f2 l i (i+1)).or (f1 l (i+1)):=by
 unfold f1;rw [I3 h,List.findSome?_cons];split <;> simp_all
theorem f1_end {l:List Dt} {i:Nat} (h:¬ i<l.length):f1 l i=none:=by unfold f1;rw [J0 h];rfl
theorem QY {l:List Dt} {i j k:Nat} (h:Hf l=some (i,j,k)):i<j/\j<k/\k<l.length/\It (gd l i) (gd l j) (gd l k):=by
 unfold Hf f1 at h;obtain ⟨a,ha,h⟩:=List.exists_of_findSome?_eq_some h;unfold f2 at h;obtain ⟨b,hb,h⟩:=List.exists_of_findSome?_eq_some h;unfold f3 at h;obtain ⟨c,hc,h⟩:=List.exists_of_findSome?_eq_some h;rw [List.mem_range'_1] at ha hb hc;split at h
 ·rename_i hap
  cases h;exact ⟨Ad,Ad,Ad,BS hap⟩
 ·cases h
theorem QZ {l:List Dt} (hg:Ew l):Hf l=none↔Jy l:=by
 constructor
 ·intro h p hp q hq r hr hpq hqr hap
  obtain ⟨i,hi,rfl⟩:=IZ hp;obtain ⟨j,hj,rfl⟩:=IZ hq;obtain ⟨k,hk,rfl⟩:=IZ hr;have hij:i<j:=by
   rcases Nat.lt_trichotomy i j with h | h | h
   ·exact h
   ·subst h;omega
   ·have:=M8 hg h hi;omega
  have hjk:j<k:=by
   rcases Nat.lt_trichotomy j k with h | h | h
   ·exact h
   ·subst h;omega
   ·have:=M8 hg h hj;omega
  unfold Hf f1 at h;have h1:=(List.findSome?_eq_none_iff.1 h) i (List.mem_range'_1.2 ⟨Ad,Ad⟩);unfold f2 at h1;have h2:=(List.findSome?_eq_none_iff.1 h1) j (List.mem_range'_1.2 ⟨Ad,Ad⟩);unfold f3 at h2;have h3:=(List.findSome?_eq_none_iff.1 h2) k (List.mem_range'_1.2 ⟨Ad,Ad⟩);rw [show apB l i j k=true from Ay hap,AI rfl] at h3;cases h3
 ·intro h
  cases c:Hf l with
  | none=>rfl
  | some x =>
   obtain ⟨i,j,k⟩:=x;obtain ⟨h1,h2,h3,h4⟩:=QY c;exact absurd h4 (h _ (Eb Ad) _ (Eb Ad) _ (Eb h3) (M8 hg h1 Ad) (M8 hg h2 h3))
theorem R0 {l:List Dt} (hg:Ew l):Hf l=none↔Fu l:=by rw [QZ hg,T8 hg]
theorem refD_isSome {l:List Dt} (hg:Ew l):(Hf l).isSome=false↔Fu l:=by rw [<-R0 hg];cases Hf l <;> simp
end DecM
namespace DecM
def pk (c m:Int):Int:=(if c<0 then -(c+1) else c) % m
def mv (a b:Int) (p:Dt):Dt:=⟨p.t,p.lo+(a+b*p.t),p.hi+(a+b*p.t)⟩
theorem Te {a b t:Int} {v c:Rat} {p:Dt}:Fit t v c p↔Fit t (v+((a+b*t:Int):Rat)) (c+b) (mv a b p):=by
 unfold Fit mv;simp only [Rat.intCast_add,Rat.intCast_mul];constructor <;> rintro ⟨h1,h2⟩ <;> constructor <;> grind
theorem Fj {a b t:Int} {v c:Rat} {l:List Dt}:Dj t v c l↔Dj t (v+((a+b*t:Int):Rat)) (c+b) (l.map (mv a b)):=by
 constructor
 ·intro h p hp
  obtain ⟨q,hq,rfl⟩:=AJ.1 hp;exact Te.1 (h q hq)
 ·intro h p hp
  exact (Te (a:=a) (b:=b)).2 (h _ (List.mem_map_of_mem hp))
theorem EK.mv {l:List Dt} {a b t:Int} {v:Rat} (h:EK l t v):EK (l.map (mv a b)) t (v+((a+b*t:Int):Rat)):=by
 refine ⟨fun u c hu=>?_,?_⟩
 ·have:=h.le (u-((a+b*t:Int):Rat)) (c-b) ((Fj (a:=a) (b:=b)).2 (by
   rw [show u-((a+b*t:Int):Rat)+((a+b*t:Int):Rat)=u by grind,show c-(b:Rat)+b=c by grind];exact hu))
  grind
 ·obtain ⟨c,hc⟩:=h.at_;exact ⟨_,Fj.1 hc⟩
theorem EL.mv {l:List Dt} {a b t:Int} {v:Rat} (h:EL l t v):EL (l.map (mv a b)) t (v+((a+b*t:Int):Rat)):=by
 refine ⟨fun u c hu=>?_,?_⟩
 ·have:=h.le (u-((a+b*t:Int):Rat)) (c-b) ((Fj (a:=a) (b:=b)).2 (by
   rw [show u-((a+b*t:Int):Rat)+((a+b*t:Int):Rat)=u by grind,show c-(b:Rat)+b=c by grind];exact hu))
  grind
 ·obtain ⟨c,hc⟩:=h.at_;exact ⟨_,Fj.1 hc⟩
theorem Fu.mv {l:List Dt} {a b:Int}:Fu l↔Fu (l.map (mv a b)):=by
 constructor
 ·rintro ⟨v,c,h⟩;exact ⟨_,_,Fj.1 h⟩
 ·rintro ⟨v,c,h⟩
  refine ⟨v-((a+b*0:Int):Rat),c-b,(Fj (a:=a) (b:=b)).2 ?_⟩;rw [show v-((a+b*0:Int):Rat)+((a+b*0:Int):Rat)=v by grind,show c-(b:Rat)+b=c by grind];exact h
theorem QX.map {l:List Dt} {f:Dt->Dt} (hf:∀ p,(f p).t=p.t):QX l↔QX (l.map f):=by
 constructor
 ·rintro ⟨p,hp,q,hq,h⟩;exact ⟨_,List.mem_map_of_mem hp,_,List.mem_map_of_mem hq,by rw [hf,hf];exact h⟩
 ·rintro ⟨p,hp,q,hq,h⟩
  obtain ⟨p',hp',rfl⟩:=AJ.1 hp;obtain ⟨q',hq',rfl⟩:=AJ.1 hq;rw [hf,hf] at h;exact ⟨p',hp',q',hq',h⟩
end DecM
end
section
open Go.RowKit
open DecM (Dt gd Fv Lc Fi Ln)
attribute [local go_sem] Oper.semAt_some
def Hw (w:World) (b o:Nat) (p:Dt):Prop:=w.cell? ⟨b,o,none⟩=some (.int .i64 p.t)/\w.cell? ⟨b,o+1,none⟩=some (.int .i64 p.lo)/\w.cell? ⟨b,o+2,none⟩=some (.int .i64 p.hi)
def Gp (w:World) (v:Value) (l:List Dt):Prop :=
 (v=.slice none 0 0/\l=[])∨∃ b off cap,v=.slice (some ⟨b,off,none⟩) l.length cap/\l.length<=cap/\cap<=maxLen/\b<w.heap.size/\∀ j,j<l.length->Hw w b (off+j*3) (gd l j)
theorem Gp.nil (w:World):Gp w (.slice none 0 0) []:=.inl ⟨rfl,rfl⟩
theorem Hw.below {w w':World} {b o:Nat} {p:Dt} (h:Hw w b o p) (hb:Below w.heap.size w w') (hlt:b<w.heap.size):Hw w' b o p :=
 ⟨(hb.cell (p:=⟨b,o,none⟩) hlt).trans h.1,(hb.cell (p:=⟨b,o+1,none⟩) hlt).trans h.2.1,(hb.cell (p:=⟨b,o+2,none⟩) hlt).trans h.2.2⟩
theorem Gp.below {w w':World} {v:Value} {l:List Dt} (h:Gp w v l) (hb:Below w.heap.size w w'):Gp w' v l:=by
 rcases h with h | ⟨b,off,cap,rfl,h1,h2,h3,h4⟩
 ·exact .inl h
 ·exact .inr ⟨b,off,cap,rfl,h1,h2,A9 h3 hb.size,fun j hj=>(h4 j hj).below hb h3⟩
theorem Gp.shape {w:World} {v:Value} {l:List Dt} (h:Gp w v l):∃ a cap,v=.slice a l.length cap:=by
 rcases h with ⟨rfl,rfl⟩ | ⟨b,off,cap,rfl,_⟩
 ·exact ⟨_,_,rfl⟩
 ·exact ⟨_,_,rfl⟩
theorem Gp.len_le {w:World} {v:Value} {l:List Dt} (h:Gp w v l):l.length<=maxLen:=by
 rcases h with ⟨_,rfl⟩ | ⟨_,_,_,_,h1,h2,_⟩
 ·simp
 ·exact AN h1 h2
theorem JA {l:List Dt} {k:Nat} (h:k<l.length):l.drop k=gd l k :: l.drop (k+1):=by
 rw [Fv h];exact Cp h
theorem Es {w W:World} (h:Below w.heap.size w W) (o:Obj):Below w.heap.size w (W.alloc o):=h.alloc h.size o
theorem Km (n lo hi:Int) (w:World):Calls Tryz.prog 37 #[.int .i64 n,.int .i64 lo,.int .i64 hi] w fun e w'=>e=.returned (.bool (decide (lo<=n)&&decide (n<=hi)))/\w=w':=by
 by_cases h1:lo<=n <;> by_cases h2:n<=hi;all_goals
  go_enter Tryz.func37,Tryz.ntmps37
  go_wp2
  go_ret
  exact ⟨D6 (by simp [h1,h2]),rfl⟩
theorem Kn {n lo hi:Int} (h1:lo<=n) (h2:n<=hi) (w:World):Calls Tryz.prog 37 #[.int .i64 n,.int .i64 lo,.int .i64 hi] w fun e w'=>e=.returned (.bool true)/\w=w' :=
 (Km n lo hi w).mono fun _ _ h=>⟨by rw [h.1,Ay h1,Ay h2];rfl,h.2⟩
theorem Tf {n lo hi:Int} (h:¬ (lo<=n/\n<=hi)) (w:World):Calls Tryz.prog 37 #[.int .i64 n,.int .i64 lo,.int .i64 hi] w fun e w'=>e=.returned (.bool false)/\w=w' :=
 (Km n lo hi w).mono fun _ _ k=>⟨by rw [k.1,<-Bool.decide_and,Al h],k.2⟩
theorem Tg {last:Int} {p:Dt} {l:List Dt} (h:last+1<=p.t/\p.t<=800000/\-1000000<=p.lo/\p.lo<=p.hi/\p.hi<=1000000):Lc last (p :: l)=Lc p.t l:=by
 unfold Lc;rw [Ay h,AH];cases l <;> rfl
theorem Ko {last:Int} {p:Dt} {l:List Dt} (h:¬ (last+1<=p.t/\p.t<=800000/\-1000000<=p.lo/\p.lo<=p.hi/\p.hi<=1000000)):Lc last (p :: l)=false:=by
 unfold Lc;rw [Al h,Bool.false_and]
theorem I4 (v:Value) (l:List Dt) (w:World) (h:Gp w v l) :
  Calls Tryz.prog 24 #[v] w fun e w'=>e=.returned (.bool (Fi l))/\Below w.heap.size w w':=by
 have hl:=h.len_le
 unfold maxLen at hl
 rcases h with ⟨rfl,rfl⟩ | ⟨b,off,cap,rfl,h1,h2,h3,h4⟩
 ·go_enter Tryz.func24,Tryz.ntmps24
  go_wp2_with fail;go_loopw [8] (fun i wr=>i=.int .i64 0/\wr=w) (fun _ _=>0);case atStart=>exact ⟨rfl,rfl⟩
  case round =>
   obtain ⟨rfl,rfl⟩:=hrel;go_wp2;go_ret;exact ⟨rfl,Below.refl _ _⟩
 ·go_enter Tryz.func24,Tryz.ntmps24
  go_wp2_with fail;go_loopw [3,8] (fun a i wr=>∃ (k:Nat) (last:Int),i=.int .i64 k/\a=.int .i64 last/\k<=l.length/\-1<=last/\last<=800000/\Hid (Lc (-1) l=Lc last (l.drop k))/\Below w.heap.size w wr)
   (fun _ i _=>l.length-(intOf i).toNat)
  case atStart=>exact ⟨0,-1,rfl,rfl,Ad,Ad,Ad,rfl,Below.refl _ _⟩
  case round =>
   obtain ⟨k,last,rfl,rfl,hk,hl0,hl1,hok,hB⟩:=hrel;by_cases hkl:k<l.length
   ·obtain ⟨c0,c1,c2⟩:=(h4 k hkl).below hB h3
    rw [JA hkl] at hok;generalize gd l k=p at *
    obtain ⟨t,lo,hi⟩:=p;dsimp only at c0 c1 c2;have hB1:=Es hB (.cells #[.int .i64 t,.int .i64 lo,.int .i64 hi] 28);by_cases a1:last+1<=t/\t<=800000
    ·by_cases a2:-1000000<=lo/\lo<=hi
     ·by_cases a3:hi<=1000000
      ·replace hok:=A8 (hok.out.trans (Tg ⟨a1.1,a1.2,a2.1,a2.2,a3⟩))
       go_wp2_with fail;refine (Kn a1.1 a1.2 _).mono ?_;rintro e w' ⟨rfl,rfl⟩;go_wp2_with fail;refine (Kn a2.1 a2.2 _).mono ?_;rintro e w' ⟨rfl,rfl⟩;go_wp2_with fail;go_roundw;case rel=>exact ⟨k+1,t,by go_num,rfl,Ad,Ad,Ad,hok,hB1⟩
       case measure=>simp [intOf];omega
      ·replace hok:=A8 (hok.out.trans (Ko (fun h=>a3 h.2.2.2.2)))
       go_wp2_with fail;refine (Kn a1.1 a1.2 _).mono ?_;rintro e w' ⟨rfl,rfl⟩;go_wp2_with fail;refine (Kn a2.1 a2.2 _).mono ?_;rintro e w' ⟨rfl,rfl⟩;go_wp2;go_ret;exact ⟨D6 (by unfold Fi;rw [hok.out];rfl),hB1⟩
     ·replace hok:=A8 (hok.out.trans (Ko (fun h=>a2 ⟨h.2.2.1,h.2.2.2.1⟩)))
      go_wp2_with fail;refine (Kn a1.1 a1.2 _).mono ?_;rintro e w' ⟨rfl,rfl⟩;go_wp2_with fail;refine (Tf a2 _).mono ?_;rintro e w' ⟨rfl,rfl⟩;go_wp2;go_ret;exact ⟨D6 (by unfold Fi;rw [hok.out];rfl),hB1⟩
    ·replace hok:=A8 (hok.out.trans (Ko (fun h=>a1 ⟨h.1,h.2.1⟩)))
     go_wp2_with fail;refine (Tf a1 _).mono ?_;rintro e w' ⟨rfl,rfl⟩;go_wp2;go_ret;exact ⟨D6 (by unfold Fi;rw [hok.out];rfl),hB1⟩
   ·have hok:=A8 (show decide ((l.length:Int)<=16)=Fi l by unfold Fi;rw [hok.out,List.drop_eq_nil_of_le Ad];simp [Lc];omega)
    go_wp2;go_ret;exact ⟨D6 hok.out,hB⟩
end
end Go.Proofs.YtdkonnnmkceagaaGreatDoor
