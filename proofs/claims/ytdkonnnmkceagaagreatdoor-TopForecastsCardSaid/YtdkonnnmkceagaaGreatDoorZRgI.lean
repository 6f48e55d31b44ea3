/- RgI, RgJ, RgK -/
import Derived.Test.YtdkonnnmkceagaaGreatDoorZPkA
import Derived.Deep.RegionHeld3
namespace Go.Proofs.YtdkonnnmkceagaaGreatDoor
section
section
variable {P:Program} {ops:Array Oper} {Q:Exit->Act->World->Prop}
def DL (l:Nat->Bool) (j:Nat):Nat->Bool:=fun i=>if i=j then true else l i
def DK (o:Oper) (n:Nat):Bool:=o.after.any fun e=>Region.binds .any e&&e.on==n
def GF (ops:Array Oper):Bool:=(List.range ops.size).all fun j=>match ops[j]? with
 | some o=>o.after.all fun e=>!Region.binds .any e || decide (e.on<j)
 | none=>true
def Eq (ops:Array Oper) (l:Nat->Bool):Prop:=∀ i n o,ops[i]? = some o->l i=true->DK o n=true->l n=true
def Ek (P:Program) (ops:Array Oper) (Q:Exit->Act->World->Prop) (I:(Nat->Bool)->Act->World->Prop):Nat->List Oper->Prop
 | _,[]=>True
 | k,o :: os=>(∀ (l:Nat->Bool) (a:Act) (w:World),l k=false->(∀ n,DK o n=true->l n=true)->Eq ops l->I l a w ->
  ∀ K:Act->World->Prop,Shut (∀ a w,I (DL l k) a w->K a w)->if Region.wanted o (yielded ops a.tmps)=true then Oper.wp P o a w K Q else K (a.put o.dst undef) w)/\Ek P ops Q I (k+1) os
theorem off {p:Prop} (h:false=true):p:=by cases h
def GG (P:Program) (ops:Array Oper) (Q:Exit->Act->World->Prop) (I:(Nat->Bool)->Act->World->Prop) (k:Nat) (o:Oper):Prop :=
 ∀ (l:Nat->Bool) (a:Act) (w:World),l k=false->(∀ n,DK o n=true->l n=true)->Eq ops l->I l a w ->
  ∀ K:Act->World->Prop,Shut (∀ a w,I (DL l k) a w->K a w)->if Region.wanted o (yielded ops a.tmps)=true then Oper.wp P o a w K Q else K (a.put o.dst undef) w
theorem CD {I:(Nat->Bool)->Act->World->Prop} {k:Nat} {o:Oper} {os:List Oper} (h:GG P ops Q I k o) (hs:Ek P ops Q I (k+1) os):Ek P ops Q I k (o :: os):=⟨h,hs⟩
theorem D5 {I:(Nat->Bool)->Act->World->Prop} {k:Nat}:Ek P ops Q I k []:=trivial
theorem QP {I:(Nat->Bool)->Act->World->Prop} {o:Oper}:∀ (os:List Oper) (k j m:Nat),m=k+j->Ek P ops Q I k os->os[j]? = some o->GG P ops Q I m o:=by
 intro os;induction os with
 | nil=>intro k j m _ _ hj;simp at hj
 | cons o' os ih =>
  intro k j m hm h hj;match j,hj with
  | 0,hj =>
   cases hj;obtain rfl:m=k:=hm;exact h.1
  | j+1,hj=>exact ih (k+1) j m Ad h.2 (by simpa using hj)
def F8:List Bool->Nat
 | []=>0
 | b :: l=>(if b then 0 else 1)+F8 l
theorem Kc:∀ {l:List Bool} {i:Nat},l[i]? = some false->F8 (l.set i true)+1=F8 l
 | b :: l,0,h=>by cases h;simp [F8];omega
 | b :: l,i+1,h=>by
  have:=Kc (l:=l) (i:=i) h;simp only [A5,F8];omega
theorem J8:∀ {l:List Bool},F8 l=0->∀ i:Nat,l[i]? = some false->False
 | [],_,i,h=>by simp at h
 | b :: l,h,0,e=>by cases e;simp [F8] at h
 | b :: l,h,i+1,e=>J8 (l:=l) (by simp [F8] at h;omega) i e
theorem Kd:∀ n:Nat,F8 (List.replicate n false)=n
 | 0=>rfl
 | n+1=>by simp [C5,F8,Kd n];omega
theorem any_inv {I:(Nat->Bool)->Act->World->Prop} (hb:GF ops=true) (hs:Ek P ops Q I 0 ops.toList)
  (hend:∀ a w,I (fun j=>decide (j<ops.size)) a w->Q .normal a w) :
  ∀ (n:Nat) (l:Array Bool) (a:Act) (w:World),l.size=ops.size->F8 l.toList<=n->Eq ops (fun j=>l.getD j false)->I (fun j=>l.getD j false) a w->wpAny P .any ops Q n l a w:=by
 have hend':∀ (l:Array Bool) (a:Act) (w:World),l.size=ops.size->Region.ready .any ops l=[]->I (fun j=>l.getD j false) a w->Q .normal a w:=fun l a w hl hr hI=>by
  have all:∀ j,j<ops.size->l.getD j false=true:=by
   intro j;induction j using Nat.strongRecOn with
   | _ j ih =>
    intro hj;cases hv:l.getD j false with
    | true=>rfl
    | false =>
     have hlt:j<l.size:=by omega
     have hm:j∈Region.ready .any ops l:=mem_ready.2 ⟨by
      simp [Array.getD,hlt] at hv |-;exact hv,ops[j],by simp [hj],fun e he hbe=>by
      have:=hb;unfold GF at this;rw [Ax] at this;have:=this j (Aw.2 hj);rw [Array.getElem?_eq_getElem hj] at this;simp only [Array.all_eq_true_iff_forall_mem,Ap,Ar,Aq] at this;have:=(this e he).resolve_left (by simp [hbe]);exact ih _ this Ad⟩
     rw [hr] at hm;cases hm
  refine hend a w ?_;have e:(fun j=>l.getD j false)=(fun j=>decide (j<ops.size)):=by
   funext j;by_cases hj:j<ops.size
   ·rw [all j hj];simp [hj]
   ·have:l.getD j false=false:=by simp [Array.getD];intro h;omega
    rw [this];simp [hj]
  rw [<-e];exact hI
 intro n
 induction n with
 | zero =>
  intro l a w hl hu hsh hI;have hr:Region.ready .any ops l=[]:=by
   cases hr:Region.ready .any ops l with
   | nil=>rfl
   | cons x xs =>
    have hx:x∈Region.ready .any ops l:=by rw [hr];simp
    obtain ⟨h1,o,ho,_⟩:=mem_ready.1 hx;have hlt:x<l.size:=by rw [hl];exact (Bu.1 ho).1
    refine (J8 (by omega:F8 l.toList=0) x ?_).elim;simp [Array.getD,hlt] at h1;simp [hlt,h1]
  exact ⟨hr,hend' l a w hl hr hI⟩
 | succ n ih =>
  intro l a w hl hu hsh hI;refine ⟨fun hr=>hend' l a w hl hr hI,fun j hj=>?_⟩;obtain ⟨h1,o,ho,hall⟩:=mem_ready.1 hj;have hlt:j<l.size:=by rw [hl];exact (Bu.1 ho).1
  have hj0:l.getD j false=false:=by simp [Array.getD,hlt] at h1 |-;exact h1
  have hjf:l.toList[j]? = some false:=by simp [Array.getD,hlt] at h1;simp [hlt,h1]
  have hw:∀ n,DK o n=true->l.getD n false=true:=fun n hn=>by
   unfold DK at hn;obtain ⟨e,he,h2⟩:=Array.any_eq_true'.1 hn;simp only [Ao,BG] at h2;rw [<-h2.2];exact hall e he h2.1
  have eset:(fun i=>(l.setIfInBounds j true).getD i false)=DL (fun i=>l.getD i false) j:=by
   funext i;unfold DL;by_cases e:i=j
   ·subst e;simp [Array.getD,hlt]
   ·rw [AF e];exact getD_set_ne false (Ne.symm e)
  have hst:GG P ops Q I j o:=QP ops.toList 0 j j Ad hs (by rw [<-ho];simp);refine wpOp_step ho fun K hK=>hst _ a w hj0 hw hsh hI K (fun a' w' hI'=>hK a' w' (ih _ a' w' (by simp [hl]) ?_ ?_ (by rw [eset];exact hI')))
  ·have:=Kc hjf
   rw [Array.toList_setIfInBounds];omega
  ·rw [eset]
   intro i m oi hoi hi hwm;unfold DL at hi |-;by_cases e:m=j
   ·rw [AI e]
   ·rw [AF e]
    by_cases ei:i=j
    ·subst ei
     rw [ho] at hoi;obtain rfl:=AL hoi;exact hw m hwm
    ·rw [AF ei] at hi
     exact hsh i m oi hoi hi hwm
theorem KH {id:Nat} {a:Act} {w:World} (I:(Nat->Bool)->Act->World->Prop) (hm:P.follows .mixedOrders=true) (hb:GF ops=true)
  (h0:I (fun _=>false) a w.drew) (hs:Ek P ops Q I 0 ops.toList) (hend:∀ a w,I (fun j=>decide (j<ops.size)) a w->Q .normal a w):(Code.region id ops true).wp P Q a w:=by
 refine wp_region_any hm (any_inv hb hs hend _ _ a w.drew Af ?_ ?_ ?_)
 ·rw [Array.toList_replicate,Kd];exact Aa _
 ·intro i n o _ h
  simp [Array.getD] at h
 ·have e:(fun j=>(Array.replicate ops.size false).getD j false)=fun _=>false:=by funext j;simp [Array.getD]
  rw [e];exact h0
end
def Vs (L:List (Nat×Value×Value)) (l:Nat->Bool):Prop:=∀ p∈L,l p.1=true->p.2.1=p.2.2
theorem Vs.zero {L:List (Nat×Value×Value)}:Vs L (fun _=>false):=fun _ _ h=>by cases h
theorem Vs.get {L:List (Nat×Value×Value)} {l:Nat->Bool} (h:Vs L l) (k:Nat) {i:Nat} {v s:Value} (hk:L[k]? = some (i,v,s)) (hl:l i=true):v=s:=h _ (Av hk) hl
def Nc (i k:Nat):Nat->List (Nat×Value×Value)->Bool
 | _,[]=>true
 | j,p :: L=>(j==k || !(p.1==i))&&Nc i k (j+1) L
theorem PJ {i k:Nat}:∀ {L:List (Nat×Value×Value)} {j q:Nat} {p:Nat×Value×Value},Nc i k j L=true->L[q]? = some p->j+q≠k->p.1≠i
 | [],_,_,_,_,h,_=>by simp at h
 | x :: L,j,0,p,h,hq,hne=>by
  simp at hq;subst hq;simp only [Nc,Ao,Ar,BG,Aq] at h;rcases h.1 with e | e
  ·exact absurd e Ad
  ·intro e2;rw [e2] at e;simp at e
 | x :: L,j,q+1,p,h,hq,hne=>by
  simp only [Nc,Ao] at h;exact PJ (j:=j+1) (q:=q) h.2 (by simpa using hq) Ad
theorem Vs.put {L:List (Nat×Value×Value)} {l:Nat->Bool} (h:Vs L l) (k:Nat) {i:Nat} {v s s':Value} (hk:L[k]? = some (i,v,s)) (ho:Nc i k 0 L=true) (hv:v=s'):Vs (L.set k (i,v,s')) (DL l i):=by
 intro p hp hl;obtain ⟨q,hq⟩:=Bi.1 hp;by_cases e:k=q
 ·subst e
  rw [List.getElem?_set_self (by exact (Bv.1 hk).1)] at hq;cases hq;exact hv
 ·rw [Bj e] at hq
  have:=PJ ho hq Ad;exact h p (Av hq) (by simpa [DL,this] using hl)
theorem Vs.skip {L:List (Nat×Value×Value)} {l:Nat->Bool} (h:Vs L l) (i:Nat) (ho:(L.all fun p=>!(p.1==i))=true):Vs L (DL l i):=fun p hp hl=>by
 have:=Ax.1 ho p hp;have e:p.1≠i:=fun e=>by rw [e] at this;simp at this
 exact h p hp (by simpa [DL,e] using hl)
def J9:Code->Nat->Option (Array Oper)
 | .region id ops _,n=>if id=n then some ops else none
 | .seq a b,n=>match J9 a n with
  | some x=>some x
  | none=>J9 b n
 | .cond _ a b,n=>match J9 a n with
  | some x=>some x
  | none=>J9 b n
 | .block _ a,n=>J9 a n
 | .loop a,n=>J9 a n
 | .scope a,n=>J9 a n
 | _,_=>none
def D8 (c:Option Code) (n:Nat):Option (Array Oper):=match c with
 | some c=>J9 c n
 | none=>none
def GH:Code->Nat->Option Code
 | .seq a b,n=>match GH a n with
  | some x=>some x
  | none=>GH b n
 | .cond _ a b,n=>match GH a n with
  | some x=>some x
  | none=>GH b n
 | .block i a,n=>if i=n then (match a with
  | .loop c=>some c
  | _=>none) else GH a n
 | .loop a,n=>GH a n
 | .scope a,n=>GH a n
 | _,_=>none
def H6 (c:Option Code) (n:Nat):Option Code:=match c with
 | some c=>GH c n
 | none=>none
end
section
open Go.RowKit
theorem want {c A B:Prop} [Decidable c] (h:c) (hA:A):if c then A else B:=by rw [AI h];exact hA
theorem unwant {c A B:Prop} [Decidable c] (h:¬ c) (hB:B):if c then A else B:=by rw [AF h];exact hB
theorem wants {o:Oper} {ops:Array Oper} {tmps:Array Value} {j d:Nat} {b:Bool} (hg:o.guard=some (j,b)) (hd:(ops[j]?).bind (·.dst)=some d) (hx:tmps[d]? = some (.bool b)):Region.wanted o (yielded ops tmps)=true:=by
 simp [Region.wanted,yielded,hg,hd,hx]
theorem QQ {o:Oper} {ops:Array Oper} {tmps:Array Value} {j d:Nat} {b c:Bool} (hg:o.guard=some (j,b)) (hd:(ops[j]?).bind (·.dst)=some d) (hx:tmps[d]? = some (.bool c)) (hne:c≠b):¬ Region.wanted o (yielded ops tmps)=true:=by
 simp [Region.wanted,yielded,hg,hd,hx,hne]
structure Fr (f0:Array Value) (ds:List Nat) (a:Act):Prop where
 defers:a.defers=[]
 size:a.tmps.size=f0.size
 base:∀ n,ds.contains n=false->a.tmps[n]? = f0[n]?
theorem Fr.start (f0:Array Value) (ds:List Nat):Fr f0 ds { tmps:=f0,defers:=[] }:=⟨rfl,rfl,fun _ _=>rfl⟩
theorem Nd {a:Act} {d:Nat} {v:Value} (h:d<a.tmps.size):(a.put (some d) v).tmps[d]? = some v:=by simp [Act.put,h]
theorem IO {a:Act} {d n:Nat} {v:Value} (h:d≠n):(a.put (some d) v).tmps[n]? = a.tmps[n]? := by simp [Act.put,h]
theorem Fr.put {f0:Array Value} {ds:List Nat} {a:Act} (h:Fr f0 ds a) (d:Nat) (v:Value) (hd:ds.contains d=true):Fr f0 ds (a.put (some d) v) :=
 ⟨h.defers,by simp [Act.put,h.size],fun n hn=>by rw [IO (fun e=>by subst e;rw [hd] at hn;cases hn)];exact h.base n hn⟩
theorem Fr.at_ {f0:Array Value} {ds:List Nat} {a:Act} (h:Fr f0 ds a) (n:Nat) {v:Value} (hn:ds.contains n=false) (hv:f0[n]? = some v):a.tmps[n]? = some v:=(h.base n hn).trans hv
abbrev FL:=List (Option (Nat×Value))
def G7 (F:FL):List Nat:=F.filterMap (Option.map Prod.fst)
def G8 (F:FL) (l:Nat->Bool) (a:Act):Prop:=∀ (j d:Nat) (v:Value),F[j]? = some (some (d,v))->l j=true->a.tmps[d]? = some v
theorem G8.get {F:FL} {l:Nat->Bool} {a:Act} (h:G8 F l a) (j:Nat) {d:Nat} {v:Value} (hj:F[j]? = some (some (d,v))) (hl:l j=true):a.tmps[d]? = some v:=h j d v hj hl
theorem G8.zero {F:FL} {a:Act}:G8 F (fun _=>false) a:=fun _ _ _ _ h=>by cases h
theorem Nf:∀ {F:FL} {i j d e:Nat} {v u:Value},(G7 F).Nodup->F[i]? = some (some (d,v))->F[j]? = some (some (e,u))->i≠j->d≠e
 | [],i,j,_,_,_,_,_,h,_,_=>by simp at h
 | x :: F,0,0,_,_,_,_,_,_,_,h=>absurd rfl h
 | x :: F,0,j+1,d,e,v,u,hn,h1,h2,_=>by
  simp at h1 h2;subst h1;have hn':(d :: G7 F).Nodup:=hn;intro he;subst he;exact (List.nodup_cons.1 hn').1 (List.mem_filterMap.2 ⟨some (d,u),Av h2,rfl⟩)
 | x :: F,i+1,0,d,e,v,u,hn,h1,h2,_=>by
  simp at h1 h2;subst h2;have hn':(e :: G7 F).Nodup:=hn;intro he;subst he;exact (List.nodup_cons.1 hn').1 (List.mem_filterMap.2 ⟨some (d,v),Av h1,rfl⟩)
 | x :: F,i+1,j+1,d,e,v,u,hn,h1,h2,hij=>by
  simp at h1 h2;have hn':(G7 F).Nodup:=by
   cases x with
   | none=>exact hn
   | some p=>exact (List.nodup_cons.1 (show (p.1 :: G7 F).Nodup from hn)).2
  exact Nf hn' h1 h2 (fun e=>hij (by rw [e]))
theorem G8.put {F:FL} {l:Nat->Bool} {a:Act} (h:G8 F l a) (hn:(G7 F).Nodup) (i:Nat) {d:Nat} {v:Value} (hi:F[i]? = some (some (d,v))) (hs:d<a.tmps.size):G8 F (DL l i) (a.put (some d) v):=fun j e u hj hl=>by
 by_cases e1:j=i
 ·subst e1
  rw [hi] at hj;cases hj;exact Nd hs
 ·rw [IO (Nf hn hi hj (fun e2=>e1 e2.symm))]
  exact h j e u hj (by simpa [DL,e1] using hl)
theorem G8.other {F:FL} {l:Nat->Bool} {a:Act} (h:G8 F l a) (i d:Nat) (v:Value) (hi:F[i]? = some none) (hd:(G7 F).contains d=false):G8 F (DL l i) (a.put (some d) v):=fun j e u hj hl=>by
 have e1:j≠i:=fun e1=>by subst e1;rw [hi] at hj;cases hj
 have e2:d≠e:=fun e2=>by
  subst e2;have:d∈G7 F:=List.mem_filterMap.2 ⟨some (d,u),Av hj,rfl⟩;rw [C6.2 this] at hd;cases hd
 rw [IO e2];exact h j e u hj (by simpa [DL,e1] using hl)
theorem G8.skip {F:FL} {l:Nat->Bool} {a:Act} (h:G8 F l a) (i:Nat) (hi:F[i]? = some none):G8 F (DL l i) a:=fun j e u hj hl=>by
 have e1:j≠i:=fun e1=>by subst e1;rw [hi] at hj;cases hj
 exact h j e u hj (by simpa [DL,e1] using hl)
theorem G8.change {F G:FL} {l:Nat->Bool} {a:Act} (h:G8 F l a) (hg:∀ j,G[j]? = F[j]? ∨ l j=false):G8 G l a:=fun j d v hj hl=>by
 rcases hg j with e | e
 ·exact h j d v (e ▸ hj) hl
 ·rw [hl] at e;cases e
abbrev ML:=List (Nat×Nat×(Value->World->Prop)×Option Nat)
def Iq (l:Nat->Bool):Option Nat->Bool
 | none=>true
 | some e=>!l e
theorem live_of {l:Nat->Bool} {e:Nat} (h:l e=false):Iq l (some e)=true:=by simp [Iq,h]
theorem IP {l:Nat->Bool} {i:Nat} {e:Option Nat} (h:Iq (DL l i) e=true):Iq l e=true:=by
 cases e with
 | none=>rfl
 | some e =>
  by_cases hc:e=i
  ·subst hc;simp [Iq,DL] at h
  ·simpa [Iq,DL,hc] using h
def Fs (M:ML) (l:Nat->Bool) (a:Act) (W:World):Prop:=∀ p∈M,l p.1=true->Iq l p.2.2.2=true->∃ v,a.tmps[p.2.1]? = some v/\p.2.2.1 v W
def PL (M:ML):Prop:=∀ p∈M,∀ v W W',Below W.heap.size W W'->p.2.2.1 v W->p.2.2.1 v W'
theorem Fs.zero {M:ML} {a:Act} {W:World}:Fs M (fun _=>false) a W:=fun _ _ h=>by cases h
theorem Fs.get {M:ML} {l:Nat->Bool} {a:Act} {W:World} (h:Fs M l a W) (k:Nat) {j d:Nat} {e:Option Nat} {P:Value->World->Prop} (hk:M[k]? = some (j,d,P,e)) (hl:l j=true) (he:Iq l e=true):∃ v,a.tmps[d]? = some v/\P v W:=h _ (Av hk) hl he
theorem Fs.world {M:ML} {l:Nat->Bool} {a:Act} {W W':World} (h:Fs M l a W) (hs:PL M) (hb:Below W.heap.size W W'):Fs M l a W':=fun p hp hl he=>(h p hp hl he).imp fun v ⟨h1,h2⟩=>⟨h1,hs p hp v W W' hb h2⟩
def EJ (M:ML):List Nat:=M.map fun p=>p.2.1
def GI (M:ML):List Nat:=M.map fun p=>p.1
theorem Fs.put {M:ML} {l:Nat->Bool} {a:Act} {W:World} (h:Fs M l a W) (i d:Nat) (v:Value) (hi:(GI M).contains i=false) (hd:(EJ M).contains d=false):Fs M (DL l i) (a.put (some d) v) W:=fun p hp hl he=>by
 have e1:p.1≠i:=fun e=>by
  have:i∈GI M:=AJ.2 ⟨p,hp,e⟩;rw [C6.2 this] at hi;cases hi
 have e2:d≠p.2.1:=fun e=>by
  have:d∈EJ M:=AJ.2 ⟨p,hp,e.symm⟩;rw [C6.2 this] at hd;cases hd
 rw [IO e2];exact h p hp (by simpa [DL,e1] using hl) (IP he)
theorem Fs.skip {M:ML} {l:Nat->Bool} {a:Act} {W:World} (h:Fs M l a W) (i:Nat) (hi:(GI M).contains i=false):Fs M (DL l i) a W:=fun p hp hl he=>by
 have e1:p.1≠i:=fun e=>by
  have:i∈GI M:=AJ.2 ⟨p,hp,e⟩;rw [C6.2 this] at hi;cases hi
 exact h p hp (by simpa [DL,e1] using hl) (IP he)
theorem Fs.add {M:ML} {l:Nat->Bool} {a:Act} {W:World} (h:Fs M l a W) (k i:Nat) {d:Nat} {e:Option Nat} {P:Value->World->Prop} (hk:M[k]? = some (i,d,P,e)) (hn:(GI M).Nodup) (hm:(EJ M).Nodup) (hs:d<a.tmps.size) {v:Value} (hP:P v W):Fs M (DL l i) (a.put (some d) v) W:=by
 have key:∀ {M:ML} {k q:Nat} {x y:Nat×Nat×(Value->World->Prop)×Option Nat},(GI M).Nodup->(EJ M).Nodup->M[k]? = some x->M[q]? = some y->k≠q->x.1≠y.1/\x.2.1≠y.2.1:=by
  intro M k q x y h1 h2 hk hq hkq;have hk1:(GI M)[k]? = some x.1:=by unfold GI;rw [AG,hk];rfl
  have hq1:(GI M)[q]? = some y.1:=by unfold GI;rw [AG,hq];rfl
  have hk2:(EJ M)[k]? = some x.2.1:=by unfold EJ;rw [AG,hk];rfl
  have hq2:(EJ M)[q]? = some y.2.1:=by unfold EJ;rw [AG,hq];rfl
  obtain ⟨a1,b1⟩:=Bv.1 hk1;obtain ⟨a2,b2⟩:=Bv.1 hk2;refine ⟨fun e=>hkq ((List.getElem?_inj a1 h1).1 (by rw [hk1,hq1,e])),fun e=>hkq ((List.getElem?_inj a2 h2).1 (by rw [hk2,hq2,e]))⟩
 intro p hp hl he;obtain ⟨q,hq⟩:=Bi.1 hp;by_cases hkq:k=q
 ·subst hkq
  rw [hk] at hq;obtain rfl:=AL hq;exact ⟨v,Nd hs,hP⟩
 ·obtain ⟨e1,e2⟩:=key hn hm hk hq hkq
  rw [IO e2];exact h p hp (by simpa [DL,Ne.symm e1] using hl) (IP he)
theorem Fs.free {M:ML} {l:Nat->Bool} {a:Act} {W:World} (hf:∀ p∈M,l p.1=false∨Iq l p.2.2.2=false):Fs M l a W:=fun p hp hl he=>by
 rcases hf p hp with e | e
 ·rw [hl] at e;cases e
 ·rw [he] at e;cases e
theorem QR (l:Nat->Bool) (i:Nat):Iq (DL l i) (some i)=false:=by simp [Iq,DL]
theorem SQ {l:Nat->Bool} {i e:Nat} (h:l e=true):Iq (DL l i) (some e)=false:=by simp [Iq,DL,h]
theorem Ng {l:Nat->Bool} {i j:Nat} (h:l j=false) (hne:j≠i):DL l i j=false:=by simp [DL,h,hne]
def Gk:List Nat->Bool
 | []=>true
 | x :: l=>!l.contains x&&Gk l
theorem GJ:∀ {l:List Nat},Gk l=true->l.Nodup
 | [],_=>List.nodup_nil
 | x :: l,h=>by
  simp only [Gk,Ao,Aq] at h;exact List.nodup_cons.2 ⟨fun hm=>by rw [C6.2 hm] at h;exact absurd h.1 Af,GJ h.2⟩
theorem Fr.lt {f0:Array Value} {ds:List Nat} {a:Act} {d:Nat} (h:Fr f0 ds a) (hd:decide (d<f0.size)=true):d<a.tmps.size:=by rw [h.size];exact BS hd
def Dp (ds:List Nat) (x:Nat->Value) (us:List Value):List Value:=ds.foldl (fun l d=>l.set d (x d)) us
theorem Ja (x:Nat->Value):∀ (ds:List Nat) (us:List Value),(Dp ds x us).length=us.length
 | [],_=>rfl
 | d :: ds,us=>by
  show (Dp ds x (us.set d (x d))).length=_;rw [Ja x ds,BJ]
theorem Nh (x:Nat->Value):∀ (ds:List Nat) (us:List Value) (n:Nat),n<us.length->(Dp ds x us)[n]? = if ds.contains n=true then some (x n) else us[n]?
 | [],us,n,_=>by simp [Dp]
 | d :: ds,us,n,h=>by
  show (Dp ds x (us.set d (x d)))[n]? = _;rw [Nh x ds _ n (by rw [BJ];exact h)];by_cases hc:ds.contains n=true
  ·rw [AI hc,AI (by rw [List.contains_cons,hc,Bool.or_true])]
  ·rw [AF hc]
   by_cases e:n=d
   ·subst e
    rw [AI Af,List.getElem?_set_self h]
   ·rw [AF (by rw [List.contains_cons];simp [e];simpa using hc),Bj (Ne.symm e)]
theorem Fr.eqs {us:List Value} {ds:List Nat} {a:Act} (h:Fr us.toArray ds a):a={ tmps:=(Dp ds (fun n=>a.tmps[n]?.getD undef) us).toArray,defers:=[] }:=by
 obtain ⟨tm,df⟩:=a;obtain ⟨h1,h2,h3⟩:=h;dsimp only at h1 h2 h3;subst h1;congr 1;apply Array.ext';refine List.ext_getElem? fun n=>?_
 rw [show (List.toArray (Dp ds (fun n=>tm[n]?.getD undef) us)).toList=Dp ds (fun n=>tm[n]?.getD undef) us from rfl];by_cases hn:n<us.length
 ·rw [Nh _ _ _ _ hn,Array.getElem?_toList]
  have hlt:n<tm.size:=by rw [h2];simpa using hn
  cases hc:ds.contains n with
  | true=>rw [AI rfl];simp [hlt]
  | false =>
   rw [AF Af,h3 n hc];simp
 ·rw [BB (by rw [Bc,h2];simpa using hn),BB (by rw [Ja];omega)]
theorem Fr.atl {us:List Value} {ds:List Nat} {a:Act} (h:Fr us.toArray ds a) (n:Nat) {v:Value} (hv:us[n]? = some v) (hn:ds.contains n=false):a.tmps[n]? = some v:=h.at_ n hn (by rw [BR];exact hv)
section
variable {P:Program} {ops:Array Oper} {Q:Exit->Act->World->Prop} {l:Nat->Bool} {a:Act} {W W':World}
def SR:List Edge->Nat->Nat
 | [],m=>m
 | e :: es,m=>SR es (if Region.binds .any e then m ||| 2 ^ e.on else m)
def M0 (ops:Array Oper) (k:Nat):Nat:=match ops[k]? with
 | some o=>SR o.after.toList 0
 | none=>0
def ancs (ops:Array Oper):Nat->Nat->Nat
 | 0,m=>m
 | k+1,m=>ancs ops k (if m.testBit k then m ||| M0 ops k else m)
def SS (ops:Array Oper) (j:Nat):Nat:=ancs ops j (M0 ops j)
theorem Ni:∀ (es:List Edge) (m n:Nat),(SR es m).testBit n=true->m.testBit n=true∨∃ e∈es,Region.binds .any e=true/\e.on=n
 | [],m,n,h=>.inl h
 | e :: es,m,n,h=>by
  rcases Ni es _ n h with h1 | ⟨e',h1,h2⟩
  ·by_cases hb:Region.binds .any e=true
   ·rw [AI hb,Nat.testBit_or,Nat.testBit_two_pow] at h1
    rcases C7.1 h1 with h3 | h3
    ·exact .inl h3
    ·exact .inr ⟨e,AW,hb,BS h3⟩
   ·rw [AF hb] at h1;exact .inl h1
  ·exact .inr ⟨e',AZ _ h1,h2⟩
theorem Gl {k n:Nat} (h:(M0 ops k).testBit n=true):∃ o,ops[k]? = some o/\DK o n=true:=by
 unfold M0 at h;cases ho:ops[k]? with
 | none=>rw [ho] at h;simp at h
 | some o =>
  rw [ho] at h;rcases Ni _ _ _ h with h1 | ⟨e,h1,h2,h3⟩
  ·simp at h1
  ·exact ⟨o,rfl,Array.any_eq_true'.2 ⟨e,by simpa using h1,by simp [h2,h3]⟩⟩
theorem IQ (hsh:Eq ops l):∀ (k m:Nat),(∀ n,m.testBit n=true->l n=true)->∀ n,(ancs ops k m).testBit n=true->l n=true
 | 0,_,h,n,hn=>h n hn
 | k+1,m,h,n,hn=>by
  refine IQ hsh k _ (fun j hj=>?_) n hn;by_cases hk:m.testBit k=true
  ·rw [AI hk,Nat.testBit_or] at hj
   rcases C7.1 hj with h1 | h1
   ·exact h j h1
   ·obtain ⟨o,ho,hw⟩:=Gl h1
    exact hsh k j o ho (h k hk) hw
  ·rw [AF hk] at hj;exact h j hj
theorem PM {i j:Nat} {o:Oper} (hsh:Eq ops l) (ho:ops[i]? = some o) (hw:∀ n,DK o n=true->l n=true) (hj:(SS ops i).testBit j=true):l j=true :=
 IQ hsh i _ (fun n hn=>by
  obtain ⟨o',ho',h⟩:=Gl hn;rw [ho] at ho';obtain rfl:=AL ho';exact hw n h) j hj
theorem Fh {i j:Nat} (hsh:Eq ops l) (hl:l i=false) (hj:(SS ops j).testBit i=true):l j=false:=by
 cases hc:l j with
 | false=>rfl
 | true =>
  have:=IQ hsh j _ (fun n hn=>by
   obtain ⟨o,ho,h⟩:=Gl hn;exact hsh j n o ho hc h) i hj
  rw [hl] at this;cases this
def DT (l:Nat->Bool):List Nat->Nat
 | []=>0
 | e :: es=>if l e then DT l es+1 else 0
theorem Jb {l l':Nat->Bool}:∀ {es:List Nat},(∀ e∈es,l e=l' e)->DT l es=DT l' es
 | [],_=>rfl
 | e :: es,h=>by
  unfold DT;rw [h e AW,Jb fun e' he=>h e' (AZ _ he)]
theorem Ke:∀ {es:List Nat} {k:Nat},k<=es.length->(∀ e∈es.take k,l e=true)->k<=DT l es
 | _,0,_,_=>AE _
 | [],k+1,hk,_=>by simp at hk
 | e :: es,k+1,hk,h=>by
  unfold DT;rw [AI (h e Af)];exact Nat.succ_le_succ (Ke (by simpa using hk) fun e' he=>h e' (by simp [he]))
theorem G9:∀ {es:List Nat} {k e:Nat},es[k]? = some e->l e=false->DT l es<=k
 | [],k,_,h,_=>by simp at h
 | x :: es,0,e,h,hl=>by
  simp at h;subst h;unfold DT;rw [AF (by simp [hl])];exact Aa _
 | x :: es,k+1,e,h,hl=>by
  unfold DT;split
  ·exact Nat.succ_le_succ (G9 (by simpa using h) hl)
  ·exact AE _
theorem IU:∀ {es:List Nat},DT l es<=es.length
 | []=>Aa _
 | x :: es=>by
  unfold DT;split
  ·exact Nat.succ_le_succ IU
  ·exact AE _
def ST (ops:Array Oper) (es:List Nat) (k i:Nat):Bool:=decide (k<=es.length)&&(es.take k).all fun e=>(SS ops i).testBit e
def Jc (ops:Array Oper) (es:List Nat) (k i:Nat):Bool:=match es[k]? with
 | some e=>(e==i) || (SS ops e).testBit i
 | none=>es.length==k
theorem Oz {es:List Nat} {k i:Nat} {o:Oper} (hsh:Eq ops l) (ho:ops[i]? = some o) (hw:∀ n,DK o n=true->l n=true) (h:ST ops es k i=true):k<=DT l es:=by
 unfold ST at h;rw [Ao,Ax] at h;exact Ke (BS h.1) fun e he=>PM hsh ho hw (h.2 e he)
theorem PN {es:List Nat} {k i:Nat} (hsh:Eq ops l) (hl:l i=false) (h:Jc ops es k i=true):DT l es<=k:=by
 unfold Jc at h;split at h
 ·rename_i e he
  refine G9 he ?_;rcases C7.1 h with h1 | h1
  ·rw [BG.1 h1];exact hl
  ·exact Fh hsh hl h1
 ·rw [<-BG.1 h];exact IU
theorem L7 {es:List Nat} {k i:Nat} (hk:es[k]? = some i) (h1:DT l es=k) (hn:Jc ops es (k+1) i=true) (hsh:Eq ops l) (hl:l i=false) (hd:Gk es=true):DT (DL l i) es=k+1:=by
 have hlen:k<es.length:=(Bv.1 hk).1;have hnd:=GJ hd;refine Nat.le_antisymm ?_ (Ke hlen fun e he=>?_)
 ·unfold Jc at hn
  split at hn
  ·rename_i e he
   refine G9 he ?_;have hne:e≠i:=fun e'=>by
    subst e';have:=(List.getElem?_inj hlen hnd).1 (hk.trans he.symm);omega
   rcases C7.1 hn with h3 | h3
   ·exact absurd (BG.1 h3) hne
   ·exact Ng (Fh hsh hl h3) hne
  ·rw [<-BG.1 hn];exact IU
 ·obtain ⟨j,hj⟩:=Bi.1 he
  rw [List.getElem?_take] at hj;split at hj
  ·rename_i hjk
   by_cases hji:j=k
   ·subst hji;rw [hk] at hj;obtain rfl:=AL hj;simp [DL]
   ·have:l e=true:=by
     cases hc:l e with
     | true=>rfl
     | false=>have:=G9 hj hc;omega
    unfold DL;split
    ·rfl
    ·exact this
  ·cases hj
def At (SL:List (World->Prop)) (k:Nat) (W:World):Prop:=match SL[k]? with
 | some p=>p W
 | none=>False
def Bs (ops:Array Oper) (us:List Value) (l:Nat->Bool) (a:Act):Prop:=∀ n,(∀ (j:Nat) (o:Oper),ops[j]? = some o->o.dst=some n->l j=false)->a.tmps[n]? = us[n]?
theorem Bs.skip {us:List Value} (h:Bs ops us l a) (i:Nat):Bs ops us (DL l i) a:=fun n hn=>h n fun j o ho hd=>by
 have:=hn j o ho hd;unfold DL at this;split at this
 ·cases this
 ·exact this
theorem Bs.put {us:List Value} (h:Bs ops us l a) {i d:Nat} {o:Oper} (ho:ops[i]? = some o) (hd:o.dst=some d) (v:Value):Bs ops us (DL l i) (a.put (some d) v):=fun n hn=>by
 by_cases e:d=n
 ·subst e
  have:=hn i o ho hd;simp [DL] at this
 ·rw [IO e]
  exact h.skip i n hn
def lastB (ops:Array Oper) (n i:Nat):Bool:=(List.range ops.size).all fun j=>match ops[j]? with
 | some o=>!(o.dst==some n) || j==i || (SS ops j).testBit i
 | none=>true
structure Rg (ops:Array Oper) (N:Nat) (us:List Value) (ds:List Nat) (F:FL) (M:ML) (es:List Nat) (C:World->Prop) (SL:List (World->Prop)) (l:Nat->Bool) (a:Act) (W:World):Prop where
 f:Fr us.toArray ds a
 b:Bs ops us l a
 n:us.length=N
 v:G8 F l a
 m:Fs M l a W
 c:C W
 s:At SL (DT l es) W
def OA (N:Nat) (ds:List Nat) (M:ML):Nat->FL->Bool
 | _,[]=>true
 | i,none :: F=>OA N ds M (i+1) F
 | i,some (d,_) :: F=>ds.contains d&&decide (d<N)&&((GI M).contains i || !(EJ M).contains d)&&OA N ds M (i+1) F
theorem Ir {N:Nat} {ds:List Nat} {M:ML}:∀ {F:FL} {i j d:Nat} {v:Value},OA N ds M i F=true->F[j]? = some (some (d,v))->ds.contains d=true/\d<N/\((GI M).contains (i+j)=false->(EJ M).contains d=false)
 | [],_,_,_,_,_,h=>by simp at h
 | none :: F,i,0,_,_,_,h=>by simp at h
 | none :: F,i,j+1,d,v,h,hj=>by
  have:=Ir (i:=i+1) (j:=j) h (by simpa using hj);rwa [show i+1+j=i+(j+1) by omega] at this
 | some x :: F,i,0,d,v,h,hj=>by
  simp at hj;subst hj;simp only [OA,Ao,Ar,Aq,Ap] at h;exact ⟨h.1.1.1,h.1.1.2,fun e=>h.1.2.resolve_left (by rw [show i=i+0 from rfl,e];decide)⟩
 | some x :: F,i,j+1,d,v,h,hj=>by
  simp only [OA,Ao] at h;have:=Ir (i:=i+1) (j:=j) h.2 (by simpa using hj);rwa [show i+1+j=i+(j+1) by omega] at this
structure Hn {Γ:Type} (N:Nat) (ds ms:List Nat) (F:Γ->FL) (M:Γ->ML) (C:World->Prop) (SL:Γ->List (World->Prop)):Prop where
 k:∀ g,(Gk (G7 (F g))&&OA N ds (M g) 0 (F g)&&Gk (GI (M g))&&Gk (EJ (M g)))=true
 ms:∀ g,GI (M g)=ms
 c:∀ W W',Below W.heap.size W W'->C W->C W'
 m:∀ g,PL (M g)
 s:∀ g,∀ p∈SL g,∀ W W',Below W.heap.size W W'->p W->p W'
theorem H7 {es:List Nat} {i:Nat} (h:es.contains i=false):DT (DL l i) es=DT l es:=Jb fun e he=>by
 unfold DL;by_cases hc:e=i
 ·subst hc;rw [C6.2 he] at h;cases h
 ·rw [AF hc]
section
variable {Γ:Type} {N:Nat} {us:List Value} {ds ms:List Nat} {F:Γ->FL} {M:Γ->ML} {es:List Nat} {C:World->Prop} {SL:Γ->List (World->Prop)} {g:Γ}
theorem Rg.world (h:Rg ops N us ds (F g) (M g) es C (SL g) l a W) (St:Hn N ds ms F M C SL) (hb:Below W.heap.size W W'):Rg ops N us ds (F g) (M g) es C (SL g) l a W':=by
 refine ⟨h.f,h.b,h.n,h.v,h.m.world (St.m g) hb,St.c _ _ hb h.c,?_⟩;have:=h.s;unfold At at this |-;split at this
 ·rename_i p hp;exact St.s g p (Av hp) _ _ hb this
 ·exact this.elim
theorem Hn.parts (St:Hn N ds ms F M C SL) (g:Γ):(G7 (F g)).Nodup/\OA N ds (M g) 0 (F g)=true/\(GI (M g)).Nodup/\(EJ (M g)).Nodup:=by
 have:=St.k g;simp only [Ao] at this;exact ⟨GJ this.1.1.1,this.1.1.2,GJ this.1.2,GJ this.2⟩
theorem Rg.val (h:Rg ops N us ds (F g) (M g) es C (SL g) l a W) (St:Hn N ds ms F M C SL) {i d:Nat} {v:Value} {o:Oper} (ho:ops[i]? = some o) (hd:o.dst=some d) (hi:(F g)[i]? = some (some (d,v))) (he:es.contains i=false) (h4:ms.contains i=false):Rg ops N us ds (F g) (M g) es C (SL g) (DL l i) (a.put (some d) v) W:=by
 obtain ⟨k1,k2,_,_⟩:=St.parts g;obtain ⟨h2,h3,h5⟩:=Ir k2 hi;rw [Br,St.ms g] at h5;rw [<-St.ms g] at h4;have h5:=h5 (by rw [<-St.ms g];exact h4);refine ⟨h.f.put d _ h2,h.b.put ho hd v,h.n,h.v.put k1 i hi (by rw [h.f.size,Bg,h.n];exact h3),h.m.put i d _ h4 h5,h.c,?_⟩;rw [H7 he];exact h.s
theorem Rg.x (h:Rg ops N us ds (F g) (M g) es C (SL g) l a W) {o:Oper} (j:Nat) (hw:∀ n,DK o n=true->l n=true) {d:Nat} {v:Value} (hj:(F g)[j]? = some (some (d,v))) (hj':DK o j=true:=by kernel_rfl):a.tmps[d]? = some v:=h.v.get j hj (hw j hj')
theorem Rg.u (h:Rg ops N us ds (F g) (M g) es C (SL g) l a W) {n:Nat} {v:Value} (hv:us[n]? = some v) (hn:ds.contains n=false:=by kernel_rfl):a.tmps[n]? = some v:=h.f.atl n hv hn
theorem Rg.w (h:Rg ops N us ds (F g) (M g) es C (SL g) l a W) {n:Nat} {v:Value} (i:Nat) (hl:l i=false) (hsh:Eq ops l) (hv:us[n]? = some v) (hn:lastB ops n i=true):a.tmps[n]? = some v:=by
 rw [<-hv];refine h.b n fun j o ho hd=>?_
 have hj:j<ops.size:=(Bu.1 ho).1;have:=Ax.1 hn j (Aw.2 hj);rw [ho] at this;simp only [hd,beq_self_eq_true,Bool.not_true,Bool.false_or,Ar,BG] at this;rcases this with rfl | h1
 ·exact hl
 ·exact Fh hsh hl h1
theorem Rg.y (h:Rg ops N us ds (F g) (M g) es C (SL g) l a W) {o:Oper} {i:Nat} (k:Nat) (hl:l i=false) (hw:∀ n,DK o n=true->l n=true) (hsh:Eq ops l) {j d:Nat} {e:Option Nat} {p:Value->World->Prop} (hk:(M g)[k]? = some (j,d,p,e)) (hj:DK o j=true:=by kernel_rfl) (he:(match e with
 | none=>true
 | some e=>e==i || (SS ops e).testBit i)=true:=by kernel_rfl):∃ v,a.tmps[d]? = some v/\p v W:=by
 refine h.m.get k hk (hw j hj) ?_
 cases e with
 | none=>rfl
 | some e =>
  refine live_of ?_;rcases C7.1 he with h1 | h1
  ·rw [BG.1 h1];exact hl
  ·exact Fh hsh hl h1
def Each (SL:List (World->Prop)) (W:World) (p:Prop):Nat->Nat->Prop
 | lo,0=>At SL lo W->p
 | lo,n+1=>(At SL lo W->p)/\Each SL W p (lo+1) n
theorem PO {SL:List (World->Prop)} {p:Prop}:∀ {n lo k:Nat},Each SL W p lo n->lo<=k->k<=lo+n->At SL k W->p
 | 0,lo,k,h,h1,h2,hk=>by
  obtain rfl:k=lo:=by omega
  exact h hk
 | n+1,lo,k,h,h1,h2,hk=>by
  by_cases e:k=lo
  ·subst e;exact h.1 hk
  ·exact PO h.2 Ad Ad hk
theorem Rg.ld (h:Rg ops N us ds (F g) (M g) es C (SL g) l a W) {o:Oper} (i lo n:Nat) (hl:l i=false) (hw:∀ n,DK o n=true->l n=true) (hsh:Eq ops l) (ho:ops[i]? = some o) (hc:(ST ops es lo i&&Jc ops es (lo+n) i)=true) {p:Prop} (hp:Each (SL g) W p lo n):p:=by
 rw [Ao] at hc;exact PO hp (Oz hsh ho hw hc.1) (PN hsh hl hc.2) h.s
def Iv (ops:Array Oper) (N:Nat) (us:List Value) (ds:List Nat) (F:Γ->FL) (M:Γ->ML) (es:List Nat) (C:World->Prop) (SL:Γ->List (World->Prop)) (l:Nat->Bool) (a:Act) (W:World):Prop:=∃ g,Rg ops N us ds (F g) (M g) es C (SL g) l a W
def IW (o:Oper) (es ms:List Nat) (i:Nat):Bool:=o.guard.isNone&&!es.contains i&&!ms.contains i
theorem Ga {o:Oper} {es ms:List Nat} {i:Nat} (h:IW o es ms i=true):o.guard=none/\es.contains i=false/\ms.contains i=false:=by
 unfold IW at h;rw [Ao,Ao,Aq,Aq,Option.isNone_iff_eq_none] at h;exact ⟨h.1.1,h.1.2,h.2⟩
theorem GK {o:Oper} {y:Nat->Option Bool} (h:o.guard=none):Region.wanted o y=true:=by unfold Region.wanted;rw [h]
variable {o:Oper}
def Wn (ops:Array Oper) (F:Γ->FL) (o:Oper):Prop:=o.guard=none∨∃ (j e:Nat) (b:Bool),o.guard=some (j,b)/\(ops[j]?).bind (·.dst)=some e/\DK o j=true/\∀ g,(F g)[j]? = some (some (e,.bool b))
theorem Wn.is (h:Wn ops F o) (hw:∀ n,DK o n=true->l n=true) (z:Rg ops N us ds (F g) (M g) es C (SL g) l a W):Region.wanted o (yielded ops a.tmps)=true:=by
 rcases h with h | ⟨j,e,b,h1,h2,h3,h4⟩
 ·exact GK h
 ·exact wants h1 h2 (z.v.get j (h4 g) (hw j h3))
theorem wg (j:Nat) {e:Nat} {b:Bool} (h1:o.guard=some (j,b)) (h2:(ops[j]?).bind (·.dst)=some e) (h3:DK o j=true) (h4:∀ g,(F g)[j]? = some (some (e,.bool b))):Wn ops F o:=.inr ⟨j,e,b,h1,h2,h3,h4⟩
theorem SU {a b:List Nat} {i:Nat} (h:(a++b).contains i=false):a.contains i=false/\b.contains i=false:=by
 constructor <;>
 ·cases hc:List.contains _ i with
  | false=>rfl
  | true =>
   rw [C6.2 (B7.2 (by simp only [C6] at hc;simp [hc]))] at h;cases h
theorem stV (St:Hn N ds ms F M C SL) (i:Nat) {d:Nat} {V:Γ->Value} (ho:ops[i]? = some o) (hd:o.dst=some d) (h0:IW o es ms i=true) (hi:∀ g,(F g)[i]? = some (some (d,V g)))
  (h:∀ g l a W,l i=false->(∀ n,DK o n=true->l n=true)->Eq ops l->Rg ops N us ds (F g) (M g) es C (SL g) l a W->∀ K:Act->World->Prop,K (a.put (some d) (V g)) W->Oper.wp P o a W K Q):GG P ops Q (Iv ops N us ds F M es C SL) i o:=fun l a W hl hw hsh ⟨g,z⟩ K hK =>
 want (GK (Ga h0).1) (h g l a W hl hw hsh z K (hK.out _ _ ⟨g,z.val St ho hd (hi g) (Ga h0).2.1 (Ga h0).2.2⟩))
theorem stG (St:Hn N ds ms F M C SL) (i:Nat) {d:Nat} {V:Γ->Value} (ho:ops[i]? = some o) (hd:o.dst=some d) (h0:Wn ops F o) (he:(es++ms).contains i=false) (hi:∀ g,(F g)[i]? = some (some (d,V g)))
  (h:∀ g l a W,l i=false->(∀ n,DK o n=true->l n=true)->Eq ops l->Rg ops N us ds (F g) (M g) es C (SL g) l a W->∀ K:Act->World->Prop,K (a.put (some d) (V g)) W->Oper.wp P o a W K Q):GG P ops Q (Iv ops N us ds F M es C SL) i o:=fun l a W hl hw hsh ⟨g,z⟩ K hK =>
 want (h0.is hw z) (h g l a W hl hw hsh z K (hK.out _ _ ⟨g,z.val St ho hd (hi g) (SU he).1 (SU he).2⟩))
theorem stC (St:Hn N ds ms F M C SL) (i:Nat) {d:Nat} {V:Γ->Value} (ho:ops[i]? = some o) (hd:o.dst=some d) (h0:IW o es ms i=true) (hi:∀ g,(F g)[i]? = some (some (d,V g)))
  (h:∀ g l a W,l i=false->(∀ n,DK o n=true->l n=true)->Eq ops l->Rg ops N us ds (F g) (M g) es C (SL g) l a W->∀ K:Act->World->Prop,(∀ W',Below W.heap.size W W'->K (a.put (some d) (V g)) W')->Oper.wp P o a W K Q):GG P ops Q (Iv ops N us ds F M es C SL) i o:=fun l a W hl hw hsh ⟨g,z⟩ K hK =>
 want (GK (Ga h0).1) (h g l a W hl hw hsh z K fun _ hb=>hK.out _ _ ⟨g,(z.world St hb).val St ho hd (hi g) (Ga h0).2.1 (Ga h0).2.2⟩)
def okO (ds:List Nat) (F:FL) (es:List Nat) (i d:Nat):Bool:=(match F[i]? with
 | some none=>true
 | _=>false)&&!(G7 F).contains d&&ds.contains d&&!es.contains i
theorem SV {ds:List Nat} {F:FL} {es:List Nat} {i d:Nat} (h:okO ds F es i d=true):F[i]? = some none/\(G7 F).contains d=false/\ds.contains d=true/\es.contains i=false:=by
 unfold okO at h;simp only [Ao,Aq] at h;refine ⟨?_,h.1.1.2,h.1.2,h.2⟩;have:=h.1.1.1;split at this
 ·assumption
 ·cases this
theorem stM (St:Hn N ds ms F M C SL) (i k:Nat) {d:Nat} {e:Option Nat} {p:Γ->Value->World->Prop} (ho:ops[i]? = some o) (hd:o.dst=some d) (h0:Wn ops F o) (hi:∀ g,(M g)[k]? = some (i,d,p g,e)) (hk:∀ g,(okO ds (F g) es i d&&decide (d<N))=true)
  (h:∀ g l a W,l i=false->(∀ n,DK o n=true->l n=true)->Eq ops l->Rg ops N us ds (F g) (M g) es C (SL g) l a W->∀ K:Act->World->Prop,(∀ v W',Below W.heap.size W W'->p g v W'->K (a.put (some d) v) W')->Oper.wp P o a W K Q):GG P ops Q (Iv ops N us ds F M es C SL) i o:=fun l a W hl hw hsh ⟨g,z⟩ K hK=>by
 have h1:=hk g
 simp only [Ao,Ap] at h1
 obtain ⟨k1,k2,k3,k4⟩:=SV h1.1
 obtain ⟨_,_,k5,k6⟩:=St.parts g
 refine want (h0.is hw z) (h g l a W hl hw hsh z K fun v W' hb hp=>hK.out _ _ ⟨g,?_⟩)
 have z':=z.world St hb
 refine ⟨z'.f.put d _ k3,z'.b.put ho hd _,z'.n,z'.v.other i d _ k1 k2,z'.m.add k i (hi g) k5 k6 (by rw [z'.f.size,Bg,z'.n];exact h1.2) hp,z'.c,?_⟩
 rw [H7 k4];exact z'.s
theorem stK (i j:Nat) {b c:Bool} {d e:Nat} (ho:ops[i]? = some o) (h0:o.guard=some (j,b)) (hd:(ops[j]?).bind (·.dst)=some e) (hj:∀ g,(F g)[j]? = some (some (e,.bool c))) (hw':DK o j=true) (hne:c≠b) (hdst:o.dst=some d) (hk:∀ g,(okO ds (F g) es i d&&!(GI (M g)).contains i&&!(EJ (M g)).contains d)=true):GG P ops Q (Iv ops N us ds F M es C SL) i o:=fun l a W hl hw hsh ⟨g,z⟩ K hK=>by
 have h1:=hk g;simp only [Ao,Aq] at h1;obtain ⟨k1,k2,k3,k4⟩:=SV h1.1.1;refine unwant (QQ h0 hd (z.v.get j (hj g) (hw j hw')) hne) (hK.out _ _ ⟨g,?_⟩);rw [hdst];refine ⟨z.f.put d _ k3,z.b.put ho hdst _,z.n,z.v.other i d _ k1 k2,z.m.put i d _ h1.1.2 h1.2,z.c,?_⟩;rw [H7 k4];exact z.s
def Nj (ops:Array Oper) (i:Nat):ML->Bool
 | []=>true
 | p :: M=>(((SS ops p.1).testBit i&&!(p.1==i)) || (match p.2.2.2 with
  | none=>false
  | some e=>e==i || (SS ops e).testBit i==false&&(SS ops i).testBit e))&&Nj ops i M
theorem M2 {i:Nat} (hl:l i=false) (hw:∀ n,DK o n=true->l n=true) (hsh:Eq ops l) (ho:ops[i]? = some o):∀ {M:ML},Nj ops i M=true->∀ p∈M,DL l i p.1=false∨Iq (DL l i) p.2.2.2=false
 | [],_,p,hp=>by cases hp
 | q :: M,h,p,hp=>by
  unfold Nj at h;rw [Ao] at h;rcases As.1 hp with rfl | hp
  ·rcases C7.1 h.1 with h1 | h1
   ·rw [Ao,Aq,Am] at h1
    exact .inl (Ng (Fh hsh hl h1.1) h1.2)
   ·right
    split at h1
    ·cases h1
    ·rename_i e he
     rw [he];rcases C7.1 h1 with h2 | h2
     ·rw [BG.1 h2];exact QR _ _
     ·rw [Ao] at h2
      exact SQ (PM hsh ho hw h2.2)
  ·exact M2 hl hw hsh ho h.2 p hp
def Kf (m:Nat):Nat->FL->FL->FL
 | _,_,[]=>[]
 | i,F,y :: G=>(if m.testBit i then F.headD y else y) :: Kf m (i+1) F.tail G
theorem L8 {m:Nat}:∀ {G F:FL} {i j:Nat},m.testBit (i+j)=false->(Kf m i F G)[j]? = G[j]?
 | [],_,_,_,_=>rfl
 | y :: G,F,i,0,h=>by
  have h':m.testBit i=false:=h;simp [Kf,h']
 | y :: G,F,i,j+1,h=>by
  have:=L8 (m:=m) (F:=F.tail) (G:=G) (i:=i+1) (j:=j) (by rw [<-h];congr 1;omega);simpa [Kf] using this
def after (ops:Array Oper) (i:Nat):Nat->Nat
 | 0=>0
 | k+1=>(if (k==i || (SS ops k).testBit i)=true then 2 ^ k else 0) ||| after ops i k
theorem Nk {i:Nat}:∀ {k n:Nat},(after ops i k).testBit n=true->n=i∨(SS ops n).testBit i=true
 | 0,n,h=>by simp [after] at h
 | k+1,n,h=>by
  unfold after at h;rw [Nat.testBit_or] at h;rcases C7.1 h with h1 | h1
  ·split at h1
   ·rename_i hc
    rw [Nat.testBit_two_pow] at h1;have:=BS h1;subst this;rcases C7.1 hc with h2 | h2
    ·exact .inl (BG.1 h2)
    ·exact .inr h2
   ·simp at h1
  ·exact Nk h1
theorem Kg {F G:FL} {i k:Nat} (h:G8 G l a) (hl:l i=false) (hsh:Eq ops l) (hF:F=Kf (after ops i k) 0 F G):G8 F l a:=h.change fun j=>by
 cases hb:(after ops i k).testBit j with
 | true =>
  rcases Nk hb with rfl | h1
  ·exact .inr hl
  ·exact .inr (Fh hsh hl h1)
 | false =>
  left;rw [hF];exact L8 (by rw [Br];exact hb)
theorem stE (i k:Nat) (h0:Wn ops F o) (ho:ops[i]? = some o) (hk:es[k]? = some i) (hi:∀ g,(F g)[i]? = some none) (hc:(Gk es&&ST ops es k i&&Jc ops es (k+1) i)=true) (hm:∀ g,Nj ops i (M g)=true)
  (h:∀ g l a W,l i=false->(∀ n,DK o n=true->l n=true)->Eq ops l->Rg ops N us ds (F g) (M g) es C (SL g) l a W->At (SL g) k W->∀ K:Act->World->Prop,(∀ W',C W'->At (SL g) (k+1) W'->K a W')->Oper.wp P o a W K Q):GG P ops Q (Iv ops N us ds F M es C SL) i o:=fun l a W hl hw hsh ⟨g,z⟩ K hK=>by
 simp only [Ao] at hc
 have hp:DT l es=k:=Nat.le_antisymm (G9 hk hl) (Oz hsh ho hw hc.1.2)
 refine want (h0.is hw z) (h g l a W hl hw hsh z (hp ▸ z.s) K fun W' h1 h2=>hK.out _ _ ⟨g,z.f,z.b.skip i,z.n,z.v.skip i (hi g),Fs.free (M2 hl hw hsh ho (hm g)),h1,?_⟩)
 rw [L7 hk hp hc.2 hsh hl hc.1.1];exact h2
theorem stF (St:Hn N ds ms F M C SL) (i k:Nat) {d:Nat} (hd:o.dst=some d) (h0:Wn ops F o) (ho:ops[i]? = some o) (hk:es[k]? = some i) (hc:(Gk es&&ST ops es k i&&Jc ops es (k+1) i)=true) (hm:∀ g,Nj ops i (M g)=true)
  (h:∀ g l a W,l i=false->(∀ n,DK o n=true->l n=true)->Eq ops l->Rg ops N us ds (F g) (M g) es C (SL g) l a W->At (SL g) k W->∀ K:Act->World->Prop,(∀ g' v W',(F g')[i]? = some (some (d,v))->F g'=Kf (after ops i ops.size) 0 (F g') (F g)->C W'->At (SL g') (k+1) W'->K (a.put (some d) v) W')->Oper.wp P o a W K Q):GG P ops Q (Iv ops N us ds F M es C SL) i o:=fun l a W hl hw hsh ⟨g,z⟩ K hK=>by
 simp only [Ao] at hc
 have hp:DT l es=k:=Nat.le_antisymm (G9 hk hl) (Oz hsh ho hw hc.1.2)
 refine want (h0.is hw z) (h g l a W hl hw hsh z (hp ▸ z.s) K fun g' v W' e1 e2 h1 h2=>hK.out _ _ ⟨g',?_⟩)
 obtain ⟨k1,k2,_,_⟩:=St.parts g'
 obtain ⟨h3,h4,_⟩:=Ir k2 e1
 refine ⟨z.f.put d _ h3,z.b.put ho hd _,z.n,(Kg z.v hl hsh e2).put k1 i e1 (by rw [z.f.size,Bg,z.n];exact h4),Fs.free (M2 hl hw hsh ho (hm g')),h1,?_⟩
 rw [L7 hk hp hc.2 hsh hl hc.1.1];exact h2
theorem stA (St:Hn N ds ms F M C SL) (i q k:Nat) {d:Nat} {e:Option Nat} {V:Γ->Value} {p:Γ->Value->World->Prop} (ho:ops[i]? = some o) (hd':o.dst=some d) (h0:Wn ops F o) (he:es.contains i=false) (hi:∀ g,(F g)[i]? = some (some (d,V g))) (hq:∀ g,(M g)[q]? = some (i,d,p g,e)) (hc:Jc ops es k i=true)
  (h:∀ g l a W,l i=false->(∀ n,DK o n=true->l n=true)->Eq ops l->Rg ops N us ds (F g) (M g) es C (SL g) l a W->∀ K:Act->World->Prop,(∀ g' W',Below W.heap.size W W'->F g'=Kf (after ops i ops.size) 0 (F g') (F g)->M g'=(M g).set q (i,d,p g',e)->(SL g').take (k+1)=(SL g).take (k+1)->p g' (V g') W'->K (a.put (some d) (V g')) W')->Oper.wp P o a W K Q):GG P ops Q (Iv ops N us ds F M es C SL) i o:=fun l a W hl hw hsh ⟨g,z⟩ K hK=>by
 refine want (h0.is hw z) (h g l a W hl hw hsh z K fun g' W' hb e1 e2 e3 hp=>hK.out _ _ ⟨g',?_⟩)
 obtain ⟨k1,k2,k5,k6⟩:=St.parts g'
 obtain ⟨h3,h4,_⟩:=Ir k2 (hi g')
 have z':=z.world St hb
 have hd:d<a.tmps.size:=by rw [z.f.size,Bg,z.n];exact h4
 refine ⟨z'.f.put d _ h3,z'.b.put ho hd' _,z'.n,(Kg z'.v hl hsh e1).put k1 i (hi g') hd,?_,z'.c,?_⟩
 ·have hm:Fs (M g') l a W':=by
   rw [e2];intro r hr hlr her;obtain ⟨j,hj⟩:=Bi.1 hr;by_cases ej:q=j
   ·subst ej
    rw [List.getElem?_set_self (Bv.1 (hq g)).1] at hj;obtain rfl:=AL hj;rw [hl] at hlr;cases hlr
   ·rw [Bj ej] at hj
    exact z'.m r (Av hj) hlr her
  exact hm.add q i (hq g') k5 k6 hd hp
 ·rw [H7 he]
  have hle:=PN hsh hl hc;have h5:=z'.s;unfold At at h5 |-;have h6:(SL g')[DT l es]? = (SL g)[DT l es]? := by
   have:=Bk (fun z=>z[DT l es]?) e3;simpa [List.getElem?_take,Nat.lt_succ_of_le hle] using this
  rw [h6];exact h5
theorem M3 (N:Nat) (us:List Value) (ds:List Nat) (F:Γ->FL) (M:Γ->ML) (es:List Nat) (C:World->Prop) (SL:Γ->List (World->Prop)) {id:Nat} (hN:us.length=N) (hm:P.follows .mixedOrders=true) (hb:GF ops=true) (g:Γ) (h0:C W.drew) (h1:At (SL g) 0 W.drew) (hp:(DT (fun j=>decide (j<ops.size)) es==es.length)=true)
  (hs:Ek P ops Q (Iv ops N us ds F M es C SL) 0 ops.toList) (hend:∀ g a W,Rg ops N us ds (F g) (M g) es C (SL g) (fun j=>decide (j<ops.size)) a W->At (SL g) es.length W->Q .normal a W) :
  (Code.region id ops true).wp P Q { tmps:=us.toArray,defers:=[] } W :=
 KH _ hm hb ⟨g,Fr.start _ _,fun n _=>by simp,hN,G8.zero,Fs.zero,h0,by
  have:DT (fun _=>false) es=0:=by cases es <;> rfl
  rw [this];exact h1⟩ hs fun a W ⟨g,z⟩=>hend g a W z (BG.1 hp ▸ z.s)
end
end
end
end Go.Proofs.YtdkonnnmkceagaaGreatDoor
