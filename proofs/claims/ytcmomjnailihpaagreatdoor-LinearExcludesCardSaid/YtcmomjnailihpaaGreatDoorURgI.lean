/- RgI, RgJ, LwN, Hot, LwO -/
import Derived.Test.YtcmomjnailihpaaGreatDoorULwR
import Derived.Deep.RegionHeld3
import Derived.Deep.DeepAppendRoom
set_option maxHeartbeats 8000000
set_option maxRecDepth 100000
namespace Go.Proofs.YtcmomjnailihpaaGreatDoor
section
section
variable {P:Program} {ops:Array Oper} {Q:Exit→Act→World→Prop}
def set1 (l:Nat→Bool) (j:Nat):Nat→Bool:=fun i=>if i=j then true else l i
def waits (o:Oper) (n:Nat):Bool:=o.after.any fun e=>Region.binds .any e&&e.on==n
def backward (ops:Array Oper):Bool:=(List.range ops.size).all fun j=>match ops[j]? with
 | some o=>o.after.all fun e=>!Region.binds .any e || decide (e.on<j)
 | none=>true
def ShutL (ops:Array Oper) (l:Nat→Bool):Prop:=∀ i n o,ops[i]? = some o→l i=true→waits o n=true→l n=true
def StepsI (P:Program) (ops:Array Oper) (Q:Exit→Act→World→Prop) (I:(Nat→Bool)→Act→World→Prop):Nat→List Oper→Prop
 | _,[]=>True
 | k,o :: os=>(∀ (l:Nat→Bool) (a:Act) (w:World),l k=false→(∀ n,waits o n=true→l n=true)→ShutL ops l→I l a w →
  ∀ K:Act→World→Prop,Shut (∀ a w,I (set1 l k) a w→K a w)→if Region.wanted o (yielded ops a.tmps)=true then Oper.wp P o a w K Q else K (a.put o.dst undef) w)∧StepsI P ops Q I (k+1) os
theorem off {p:Prop} (h:false=true):p:=by cases h
def StepI (P:Program) (ops:Array Oper) (Q:Exit→Act→World→Prop) (I:(Nat→Bool)→Act→World→Prop) (k:Nat) (o:Oper):Prop :=
 ∀ (l:Nat→Bool) (a:Act) (w:World),l k=false→(∀ n,waits o n=true→l n=true)→ShutL ops l→I l a w →
  ∀ K:Act→World→Prop,Shut (∀ a w,I (set1 l k) a w→K a w)→if Region.wanted o (yielded ops a.tmps)=true then Oper.wp P o a w K Q else K (a.put o.dst undef) w
theorem Ab {I:(Nat→Bool)→Act→World→Prop} {k:Nat} {o:Oper} {os:List Oper} (h:StepI P ops Q I k o) (hs:StepsI P ops Q I (k+1) os):StepsI P ops Q I k (o :: os):=⟨h,hs⟩
theorem Af {I:(Nat→Bool)→Act→World→Prop} {k:Nat}:StepsI P ops Q I k []:=trivial
theorem KC {I:(Nat→Bool)→Act→World→Prop} {o:Oper}:∀ (os:List Oper) (k j m:Nat),m=k+j→StepsI P ops Q I k os→os[j]? = some o→StepI P ops Q I m o:=by
 intro os
 induction os with
 | nil=>intro k j m _ _ hj;simp at hj
 | cons o' os ih =>
  intro k j m hm h hj
  match j,hj with
  | 0,hj =>
   cases hj
   obtain rfl:m=k:=hm
   exact h.1
  | j+1,hj=>exact ih (k+1) j m (by omega) h.2 (by simpa using hj)
def undone:List Bool→Nat
 | []=>0
 | b :: l=>(if b then 0 else 1)+undone l
theorem ET:∀ {l:List Bool} {i:Nat},l[i]? = some false→undone (l.set i true)+1=undone l
 | b :: l,0,h=>by cases h;simp [undone];omega
 | b :: l,i+1,h=>by
  have:=ET (l:=l) (i:=i) h
  simp only [A5,undone];omega
theorem Ek:∀ {l:List Bool},undone l=0→∀ i:Nat,l[i]? = some false→False
 | [],_,i,h=>by simp at h
 | b :: l,h,0,e=>by cases e;simp [undone] at h
 | b :: l,h,i+1,e=>Ek (l:=l) (by simp [undone] at h;omega) i e
theorem EU:∀ n:Nat,undone (List.replicate n false)=n
 | 0=>rfl
 | n+1=>by simp [List.replicate_succ,undone,EU n];omega
theorem any_inv {I:(Nat→Bool)→Act→World→Prop} (hb:backward ops=true) (hs:StepsI P ops Q I 0 ops.toList)
  (hend:∀ a w,I (fun j=>decide (j<ops.size)) a w→Q .normal a w) :
  ∀ (n:Nat) (l:Array Bool) (a:Act) (w:World),l.size=ops.size→undone l.toList≤n→ShutL ops (fun j=>l.getD j false)→I (fun j=>l.getD j false) a w→wpAny P .any ops Q n l a w:=by
 have hend':∀ (l:Array Bool) (a:Act) (w:World),l.size=ops.size→Region.ready .any ops l=[]→I (fun j=>l.getD j false) a w→Q .normal a w:=fun l a w hl hr hI=>by
  have all:∀ j,j<ops.size→l.getD j false=true:=by
   intro j
   induction j using Nat.strongRecOn with
   | _ j ih =>
    intro hj
    cases hv:l.getD j false with
    | true=>rfl
    | false =>
     have hlt:j<l.size:=by omega
     have hm:j∈Region.ready .any ops l:=mem_ready.2 ⟨by
      simp [Array.getD,hlt] at hv ⊢;exact hv,ops[j],by simp [hj],fun e he hbe=>by
      have:=hb
      unfold backward at this
      rw [List.all_eq_true] at this
      have:=this j (List.mem_range.2 hj)
      rw [Array.getElem?_eq_getElem hj] at this
      simp only [Array.all_eq_true_iff_forall_mem,decide_eq_true_eq,Bool.or_eq_true,Bool.not_eq_true'] at this
      have:=(this e he).resolve_left (by simp [hbe])
      exact ih _ this (by omega)⟩
     rw [hr] at hm;cases hm
  refine hend a w ?_
  have e:(fun j=>l.getD j false)=(fun j=>decide (j<ops.size)):=by
   funext j
   by_cases hj:j<ops.size
   ·rw [all j hj];simp [hj]
   ·have:l.getD j false=false:=by simp [Array.getD];intro h;omega
    rw [this];simp [hj]
  rw [←e];exact hI
 intro n
 induction n with
 | zero =>
  intro l a w hl hu hsh hI
  have hr:Region.ready .any ops l=[]:=by
   cases hr:Region.ready .any ops l with
   | nil=>rfl
   | cons x xs =>
    have hx:x∈Region.ready .any ops l:=by rw [hr];simp
    obtain ⟨h1,o,ho,_⟩:=mem_ready.1 hx
    have hlt:x<l.size:=by rw [hl];exact (Array.getElem?_eq_some_iff.1 ho).1
    refine (Ek (by omega:undone l.toList=0) x ?_).elim
    simp [Array.getD,hlt] at h1
    simp [hlt,h1]
  exact ⟨hr,hend' l a w hl hr hI⟩
 | succ n ih =>
  intro l a w hl hu hsh hI
  refine ⟨fun hr=>hend' l a w hl hr hI,fun j hj=>?_⟩
  obtain ⟨h1,o,ho,hall⟩:=mem_ready.1 hj
  have hlt:j<l.size:=by rw [hl];exact (Array.getElem?_eq_some_iff.1 ho).1
  have hj0:l.getD j false=false:=by simp [Array.getD,hlt] at h1 ⊢;exact h1
  have hjf:l.toList[j]? = some false:=by simp [Array.getD,hlt] at h1;simp [hlt,h1]
  have hw:∀ n,waits o n=true→l.getD n false=true:=fun n hn=>by
   unfold waits at hn
   obtain ⟨e,he,h2⟩:=Array.any_eq_true'.1 hn
   simp only [Bool.and_eq_true,beq_iff_eq] at h2
   rw [←h2.2];exact hall e he h2.1
  have eset:(fun i=>(l.setIfInBounds j true).getD i false)=set1 (fun i=>l.getD i false) j:=by
   funext i
   unfold set1
   by_cases e:i=j
   ·subst e;simp [Array.getD,hlt]
   ·rw [if_neg e];exact getD_set_ne false (Ne.symm e)
  have hst:StepI P ops Q I j o:=KC ops.toList 0 j j (by omega) hs (by rw [←ho];simp)
  refine wpOp_step ho fun K hK=>hst _ a w hj0 hw hsh hI K (fun a' w' hI'=>hK a' w' (ih _ a' w' (by simp [hl]) ?_ ?_ (by rw [eset];exact hI')))
  ·have:=ET hjf
   rw [Array.toList_setIfInBounds];omega
  ·rw [eset]
   intro i m oi hoi hi hwm
   unfold set1 at hi ⊢
   by_cases e:m=j
   ·rw [if_pos e]
   ·rw [if_neg e]
    by_cases ei:i=j
    ·subst ei
     rw [ho] at hoi
     obtain rfl:=Option.some.inj hoi
     exact hw m hwm
    ·rw [if_neg ei] at hi
     exact hsh i m oi hoi hi hwm
theorem Ak {id:Nat} {a:Act} {w:World} (I:(Nat→Bool)→Act→World→Prop) (hm:P.follows .mixedOrders=true) (hb:backward ops=true)
  (h0:I (fun _=>false) a w.drew) (hs:StepsI P ops Q I 0 ops.toList) (hend:∀ a w,I (fun j=>decide (j<ops.size)) a w→Q .normal a w):(Code.region id ops true).wp P Q a w:=by
 refine wp_region_any hm (any_inv hb hs hend _ _ a w.drew (by simp) ?_ ?_ ?_)
 ·rw [Array.toList_replicate,EU];exact Aa _
 ·intro i n o _ h
  simp [Array.getD] at h
 ·have e:(fun j=>(Array.replicate ops.size false).getD j false)=fun _=>false:=by funext j;simp [Array.getD]
  rw [e];exact h0
end
def Vs (L:List (Nat×Value×Value)) (l:Nat→Bool):Prop:=∀ p∈L,l p.1=true→p.2.1=p.2.2
theorem Vs.zero {L:List (Nat×Value×Value)}:Vs L (fun _=>false):=fun _ _ h=>by cases h
theorem Vs.get {L:List (Nat×Value×Value)} {l:Nat→Bool} (h:Vs L l) (k:Nat) {i:Nat} {v s:Value} (hk:L[k]? = some (i,v,s)) (hl:l i=true):v=s:=h _ (List.mem_of_getElem? hk) hl
def onceB (i k:Nat):Nat→List (Nat×Value×Value)→Bool
 | _,[]=>true
 | j,p :: L=>(j==k || !(p.1==i))&&onceB i k (j+1) L
theorem JK {i k:Nat}:∀ {L:List (Nat×Value×Value)} {j q:Nat} {p:Nat×Value×Value},onceB i k j L=true→L[q]? = some p→j+q≠k→p.1≠i
 | [],_,_,_,_,h,_=>by simp at h
 | x :: L,j,0,p,h,hq,hne=>by
  simp at hq;subst hq
  simp only [onceB,Bool.and_eq_true,Bool.or_eq_true,beq_iff_eq,Bool.not_eq_true'] at h
  rcases h.1 with e | e
  ·exact absurd e (by omega)
  ·intro e2;rw [e2] at e;simp at e
 | x :: L,j,q+1,p,h,hq,hne=>by
  simp only [onceB,Bool.and_eq_true] at h
  exact JK (j:=j+1) (q:=q) h.2 (by simpa using hq) (by omega)
theorem Vs.put {L:List (Nat×Value×Value)} {l:Nat→Bool} (h:Vs L l) (k:Nat) {i:Nat} {v s s':Value} (hk:L[k]? = some (i,v,s)) (ho:onceB i k 0 L=true) (hv:v=s'):Vs (L.set k (i,v,s')) (set1 l i):=by
 intro p hp hl
 obtain ⟨q,hq⟩:=List.mem_iff_getElem?.1 hp
 by_cases e:k=q
 ·subst e
  rw [List.getElem?_set_self (by exact (List.getElem?_eq_some_iff.1 hk).1)] at hq
  cases hq
  exact hv
 ·rw [List.getElem?_set_ne e] at hq
  have:=JK ho hq (by omega)
  exact h p (List.mem_of_getElem? hq) (by simpa [set1,this] using hl)
theorem Vs.skip {L:List (Nat×Value×Value)} {l:Nat→Bool} (h:Vs L l) (i:Nat) (ho:(L.all fun p=>!(p.1==i))=true):Vs L (set1 l i):=fun p hp hl=>by
 have:=List.all_eq_true.1 ho p hp
 have e:p.1≠i:=fun e=>by rw [e] at this;simp at this
 exact h p hp (by simpa [set1,e] using hl)
def opsAt:Code→Nat→Option (Array Oper)
 | .region id ops _,n=>if id=n then some ops else none
 | .seq a b,n=>match opsAt a n with
  | some x=>some x
  | none=>opsAt b n
 | .cond _ a b,n=>match opsAt a n with
  | some x=>some x
  | none=>opsAt b n
 | .block _ a,n=>opsAt a n
 | .loop a,n=>opsAt a n
 | .scope a,n=>opsAt a n
 | _,_=>none
def getOps (c:Option Code) (n:Nat):Option (Array Oper):=match c with
 | some c=>opsAt c n
 | none=>none
def loopAt:Code→Nat→Option Code
 | .seq a b,n=>match loopAt a n with
  | some x=>some x
  | none=>loopAt b n
 | .cond _ a b,n=>match loopAt a n with
  | some x=>some x
  | none=>loopAt b n
 | .block i a,n=>if i=n then (match a with
  | .loop c=>some c
  | _=>none) else loopAt a n
 | .loop a,n=>loopAt a n
 | .scope a,n=>loopAt a n
 | _,_=>none
def getLoop (c:Option Code) (n:Nat):Option Code:=match c with
 | some c=>loopAt c n
 | none=>none
end
section
open Go.RowKit
theorem want {c A B:Prop} [Decidable c] (h:c) (hA:A):if c then A else B:=by rw [if_pos h];exact hA
theorem unwant {c A B:Prop} [Decidable c] (h:¬ c) (hB:B):if c then A else B:=by rw [if_neg h];exact hB
theorem wants {o:Oper} {ops:Array Oper} {tmps:Array Value} {j d:Nat} {b:Bool} (hg:o.guard=some (j,b)) (hd:(ops[j]?).bind (·.dst)=some d) (hx:tmps[d]? = some (.bool b)):Region.wanted o (yielded ops tmps)=true:=by
 simp [Region.wanted,yielded,hg,hd,hx]
theorem L3 {o:Oper} {ops:Array Oper} {tmps:Array Value} {j d:Nat} {b c:Bool} (hg:o.guard=some (j,b)) (hd:(ops[j]?).bind (·.dst)=some d) (hx:tmps[d]? = some (.bool c)) (hne:c≠b):¬ Region.wanted o (yielded ops tmps)=true:=by
 simp [Region.wanted,yielded,hg,hd,hx,hne]
structure Fr (f0:Array Value) (ds:List Nat) (a:Act):Prop where
 defers:a.defers=[]
 size:a.tmps.size=f0.size
 base:∀ n,ds.contains n=false→a.tmps[n]? = f0[n]?
theorem Fr.start (f0:Array Value) (ds:List Nat):Fr f0 ds { tmps:=f0,defers:=[] }:=⟨rfl,rfl,fun _ _=>rfl⟩
theorem Ij {a:Act} {d:Nat} {v:Value} (h:d<a.tmps.size):(a.put (some d) v).tmps[d]? = some v:=by simp [Act.put,h]
theorem E8 {a:Act} {d n:Nat} {v:Value} (h:d≠n):(a.put (some d) v).tmps[n]? = a.tmps[n]? := by simp [Act.put,h]
theorem Fr.put {f0:Array Value} {ds:List Nat} {a:Act} (h:Fr f0 ds a) (d:Nat) (v:Value) (hd:ds.contains d=true):Fr f0 ds (a.put (some d) v) :=
 ⟨h.defers,by simp [Act.put,h.size],fun n hn=>by rw [E8 (fun e=>by subst e;rw [hd] at hn;cases hn)];exact h.base n hn⟩
theorem Fr.at_ {f0:Array Value} {ds:List Nat} {a:Act} (h:Fr f0 ds a) (n:Nat) {v:Value} (hn:ds.contains n=false) (hv:f0[n]? = some v):a.tmps[n]? = some v:=(h.base n hn).trans hv
abbrev FL:=List (Option (Nat×Value))
def slots (F:FL):List Nat:=F.filterMap (Option.map Prod.fst)
def Vals (F:FL) (l:Nat→Bool) (a:Act):Prop:=∀ (j d:Nat) (v:Value),F[j]? = some (some (d,v))→l j=true→a.tmps[d]? = some v
theorem Vals.get {F:FL} {l:Nat→Bool} {a:Act} (h:Vals F l a) (j:Nat) {d:Nat} {v:Value} (hj:F[j]? = some (some (d,v))) (hl:l j=true):a.tmps[d]? = some v:=h j d v hj hl
theorem Vals.zero {F:FL} {a:Act}:Vals F (fun _=>false) a:=fun _ _ _ _ h=>by cases h
theorem Ik:∀ {F:FL} {i j d e:Nat} {v u:Value},(slots F).Nodup→F[i]? = some (some (d,v))→F[j]? = some (some (e,u))→i≠j→d≠e
 | [],i,j,_,_,_,_,_,h,_,_=>by simp at h
 | x :: F,0,0,_,_,_,_,_,_,_,h=>absurd rfl h
 | x :: F,0,j+1,d,e,v,u,hn,h1,h2,_=>by
  simp at h1 h2
  subst h1
  have hn':(d :: slots F).Nodup:=hn
  intro he
  subst he
  exact (List.nodup_cons.1 hn').1 (List.mem_filterMap.2 ⟨some (d,u),List.mem_of_getElem? h2,rfl⟩)
 | x :: F,i+1,0,d,e,v,u,hn,h1,h2,_=>by
  simp at h1 h2
  subst h2
  have hn':(e :: slots F).Nodup:=hn
  intro he
  subst he
  exact (List.nodup_cons.1 hn').1 (List.mem_filterMap.2 ⟨some (d,v),List.mem_of_getElem? h1,rfl⟩)
 | x :: F,i+1,j+1,d,e,v,u,hn,h1,h2,hij=>by
  simp at h1 h2
  have hn':(slots F).Nodup:=by
   cases x with
   | none=>exact hn
   | some p=>exact (List.nodup_cons.1 (show (p.1 :: slots F).Nodup from hn)).2
  exact Ik hn' h1 h2 (fun e=>hij (by rw [e]))
theorem Vals.put {F:FL} {l:Nat→Bool} {a:Act} (h:Vals F l a) (hn:(slots F).Nodup) (i:Nat) {d:Nat} {v:Value} (hi:F[i]? = some (some (d,v))) (hs:d<a.tmps.size):Vals F (set1 l i) (a.put (some d) v):=fun j e u hj hl=>by
 by_cases e1:j=i
 ·subst e1
  rw [hi] at hj
  cases hj
  exact Ij hs
 ·rw [E8 (Ik hn hi hj (fun e2=>e1 e2.symm))]
  exact h j e u hj (by simpa [set1,e1] using hl)
theorem Vals.other {F:FL} {l:Nat→Bool} {a:Act} (h:Vals F l a) (i d:Nat) (v:Value) (hi:F[i]? = some none) (hd:(slots F).contains d=false):Vals F (set1 l i) (a.put (some d) v):=fun j e u hj hl=>by
 have e1:j≠i:=fun e1=>by subst e1;rw [hi] at hj;cases hj
 have e2:d≠e:=fun e2=>by
  subst e2
  have:d∈slots F:=List.mem_filterMap.2 ⟨some (d,u),List.mem_of_getElem? hj,rfl⟩
  rw [List.contains_iff_mem.2 this] at hd;cases hd
 rw [E8 e2]
 exact h j e u hj (by simpa [set1,e1] using hl)
theorem Vals.skip {F:FL} {l:Nat→Bool} {a:Act} (h:Vals F l a) (i:Nat) (hi:F[i]? = some none):Vals F (set1 l i) a:=fun j e u hj hl=>by
 have e1:j≠i:=fun e1=>by subst e1;rw [hi] at hj;cases hj
 exact h j e u hj (by simpa [set1,e1] using hl)
theorem Vals.change {F G:FL} {l:Nat→Bool} {a:Act} (h:Vals F l a) (hg:∀ j,G[j]? = F[j]? ∨ l j=false):Vals G l a:=fun j d v hj hl=>by
 rcases hg j with e | e
 ·exact h j d v (e ▸ hj) hl
 ·rw [hl] at e;cases e
abbrev ML:=List (Nat×Nat×(Value→World→Prop)×Option Nat)
def live (l:Nat→Bool):Option Nat→Bool
 | none=>true
 | some e=>!l e
theorem live_of {l:Nat→Bool} {e:Nat} (h:l e=false):live l (some e)=true:=by simp [live,h]
theorem E9 {l:Nat→Bool} {i:Nat} {e:Option Nat} (h:live (set1 l i) e=true):live l e=true:=by
 cases e with
 | none=>rfl
 | some e =>
  by_cases hc:e=i
  ·subst hc;simp [live,set1] at h
  ·simpa [live,set1,hc] using h
def Mems (M:ML) (l:Nat→Bool) (a:Act) (W:World):Prop:=∀ p∈M,l p.1=true→live l p.2.2.2=true→∃ v,a.tmps[p.2.1]? = some v∧p.2.2.1 v W
def MStable (M:ML):Prop:=∀ p∈M,∀ v W W',Below W.heap.size W W'→p.2.2.1 v W→p.2.2.1 v W'
theorem Mems.zero {M:ML} {a:Act} {W:World}:Mems M (fun _=>false) a W:=fun _ _ h=>by cases h
theorem Mems.get {M:ML} {l:Nat→Bool} {a:Act} {W:World} (h:Mems M l a W) (k:Nat) {j d:Nat} {e:Option Nat} {P:Value→World→Prop} (hk:M[k]? = some (j,d,P,e)) (hl:l j=true) (he:live l e=true):∃ v,a.tmps[d]? = some v∧P v W:=h _ (List.mem_of_getElem? hk) hl he
theorem Mems.world {M:ML} {l:Nat→Bool} {a:Act} {W W':World} (h:Mems M l a W) (hs:MStable M) (hb:Below W.heap.size W W'):Mems M l a W':=fun p hp hl he=>(h p hp hl he).imp fun v ⟨h1,h2⟩=>⟨h1,hs p hp v W W' hb h2⟩
def mslots (M:ML):List Nat:=M.map fun p=>p.2.1
def mops (M:ML):List Nat:=M.map fun p=>p.1
theorem Mems.put {M:ML} {l:Nat→Bool} {a:Act} {W:World} (h:Mems M l a W) (i d:Nat) (v:Value) (hi:(mops M).contains i=false) (hd:(mslots M).contains d=false):Mems M (set1 l i) (a.put (some d) v) W:=fun p hp hl he=>by
 have e1:p.1≠i:=fun e=>by
  have:i∈mops M:=List.mem_map.2 ⟨p,hp,e⟩
  rw [List.contains_iff_mem.2 this] at hi;cases hi
 have e2:d≠p.2.1:=fun e=>by
  have:d∈mslots M:=List.mem_map.2 ⟨p,hp,e.symm⟩
  rw [List.contains_iff_mem.2 this] at hd;cases hd
 rw [E8 e2]
 exact h p hp (by simpa [set1,e1] using hl) (E9 he)
theorem Mems.skip {M:ML} {l:Nat→Bool} {a:Act} {W:World} (h:Mems M l a W) (i:Nat) (hi:(mops M).contains i=false):Mems M (set1 l i) a W:=fun p hp hl he=>by
 have e1:p.1≠i:=fun e=>by
  have:i∈mops M:=List.mem_map.2 ⟨p,hp,e⟩
  rw [List.contains_iff_mem.2 this] at hi;cases hi
 exact h p hp (by simpa [set1,e1] using hl) (E9 he)
theorem Mems.add {M:ML} {l:Nat→Bool} {a:Act} {W:World} (h:Mems M l a W) (k i:Nat) {d:Nat} {e:Option Nat} {P:Value→World→Prop} (hk:M[k]? = some (i,d,P,e)) (hn:(mops M).Nodup) (hm:(mslots M).Nodup) (hs:d<a.tmps.size) {v:Value} (hP:P v W):Mems M (set1 l i) (a.put (some d) v) W:=by
 have key:∀ {M:ML} {k q:Nat} {x y:Nat×Nat×(Value→World→Prop)×Option Nat},(mops M).Nodup→(mslots M).Nodup→M[k]? = some x→M[q]? = some y→k≠q→x.1≠y.1∧x.2.1≠y.2.1:=by
  intro M k q x y h1 h2 hk hq hkq
  have hk1:(mops M)[k]? = some x.1:=by unfold mops;rw [List.getElem?_map,hk];rfl
  have hq1:(mops M)[q]? = some y.1:=by unfold mops;rw [List.getElem?_map,hq];rfl
  have hk2:(mslots M)[k]? = some x.2.1:=by unfold mslots;rw [List.getElem?_map,hk];rfl
  have hq2:(mslots M)[q]? = some y.2.1:=by unfold mslots;rw [List.getElem?_map,hq];rfl
  obtain ⟨a1,b1⟩:=List.getElem?_eq_some_iff.1 hk1
  obtain ⟨a2,b2⟩:=List.getElem?_eq_some_iff.1 hk2
  refine ⟨fun e=>hkq ((List.getElem?_inj a1 h1).1 (by rw [hk1,hq1,e])),fun e=>hkq ((List.getElem?_inj a2 h2).1 (by rw [hk2,hq2,e]))⟩
 intro p hp hl he
 obtain ⟨q,hq⟩:=List.mem_iff_getElem?.1 hp
 by_cases hkq:k=q
 ·subst hkq
  rw [hk] at hq
  obtain rfl:=Option.some.inj hq
  exact ⟨v,Ij hs,hP⟩
 ·obtain ⟨e1,e2⟩:=key hn hm hk hq hkq
  rw [E8 e2]
  exact h p hp (by simpa [set1,Ne.symm e1] using hl) (E9 he)
theorem Mems.free {M:ML} {l:Nat→Bool} {a:Act} {W:World} (hf:∀ p∈M,l p.1=false∨live l p.2.2.2=false):Mems M l a W:=fun p hp hl he=>by
 rcases hf p hp with e | e
 ·rw [hl] at e;cases e
 ·rw [he] at e;cases e
theorem L4 (l:Nat→Bool) (i:Nat):live (set1 l i) (some i)=false:=by simp [live,set1]
theorem Mb {l:Nat→Bool} {i e:Nat} (h:l e=true):live (set1 l i) (some e)=false:=by simp [live,set1,h]
theorem Il {l:Nat→Bool} {i j:Nat} (h:l j=false) (hne:j≠i):set1 l i j=false:=by simp [set1,h,hne]
def nodupB:List Nat→Bool
 | []=>true
 | x :: l=>!l.contains x&&nodupB l
theorem D0:∀ {l:List Nat},nodupB l=true→l.Nodup
 | [],_=>List.nodup_nil
 | x :: l,h=>by
  simp only [nodupB,Bool.and_eq_true,Bool.not_eq_true'] at h
  exact List.nodup_cons.2 ⟨fun hm=>by rw [List.contains_iff_mem.2 hm] at h;exact absurd h.1 (by simp),D0 h.2⟩
theorem Fr.lt {f0:Array Value} {ds:List Nat} {a:Act} {d:Nat} (h:Fr f0 ds a) (hd:decide (d<f0.size)=true):d<a.tmps.size:=by rw [h.size];exact of_decide_eq_true hd
def sets (ds:List Nat) (x:Nat→Value) (us:List Value):List Value:=ds.foldl (fun l d=>l.set d (x d)) us
theorem Eo (x:Nat→Value):∀ (ds:List Nat) (us:List Value),(sets ds x us).length=us.length
 | [],_=>rfl
 | d :: ds,us=>by
  show (sets ds x (us.set d (x d))).length=_
  rw [Eo x ds,List.length_set]
theorem Im (x:Nat→Value):∀ (ds:List Nat) (us:List Value) (n:Nat),n<us.length→(sets ds x us)[n]? = if ds.contains n=true then some (x n) else us[n]?
 | [],us,n,_=>by simp [sets]
 | d :: ds,us,n,h=>by
  show (sets ds x (us.set d (x d)))[n]? = _
  rw [Im x ds _ n (by rw [List.length_set];exact h)]
  by_cases hc:ds.contains n=true
  ·rw [if_pos hc,if_pos (by rw [List.contains_cons,hc,Bool.or_true])]
  ·rw [if_neg hc]
   by_cases e:n=d
   ·subst e
    rw [if_pos (by simp),List.getElem?_set_self h]
   ·rw [if_neg (by rw [List.contains_cons];simp [e];simpa using hc),List.getElem?_set_ne (Ne.symm e)]
theorem Fr.eqs {us:List Value} {ds:List Nat} {a:Act} (h:Fr us.toArray ds a):a={ tmps:=(sets ds (fun n=>a.tmps[n]?.getD undef) us).toArray,defers:=[] }:=by
 obtain ⟨tm,df⟩:=a
 obtain ⟨h1,h2,h3⟩:=h
 dsimp only at h1 h2 h3
 subst h1
 congr 1
 apply Array.ext'
 refine List.ext_getElem? fun n=>?_
 rw [show (List.toArray (sets ds (fun n=>tm[n]?.getD undef) us)).toList=sets ds (fun n=>tm[n]?.getD undef) us from rfl]
 by_cases hn:n<us.length
 ·rw [Im _ _ _ _ hn,Array.getElem?_toList]
  have hlt:n<tm.size:=by rw [h2];simpa using hn
  cases hc:ds.contains n with
  | true=>rw [if_pos rfl];simp [hlt]
  | false =>
   rw [if_neg (by simp),h3 n hc]
   simp
 ·rw [List.getElem?_eq_none (by rw [Array.length_toList,h2];simpa using hn),List.getElem?_eq_none (by rw [Eo];omega)]
theorem Fr.atl {us:List Value} {ds:List Nat} {a:Act} (h:Fr us.toArray ds a) (n:Nat) {v:Value} (hv:us[n]? = some v) (hn:ds.contains n=false):a.tmps[n]? = some v:=h.at_ n hn (by rw [List.getElem?_toArray];exact hv)
end
section
open Go.RowKit
open LnM (wd upd)
attribute [local go_sem] Oper.semAt_some
theorem DJ {w:World} {b b':Nat} {e:TypeId} {size:Nat} {v:Value} {n:Nat} {xs:List Value} (h:w.ownsRow b e size v n xs) (hb:b'≤b):w.ownsRow b' e size v n xs :=
 ⟨h.1,h.2.imp id fun ⟨g,cap,cur,e1,e2,r⟩=>⟨g,cap,cur,e1,Nat.le_trans hb e2,r⟩⟩
theorem Id {P:Program} {w:World} {base:Nat} (t ty e:TypeId) (z:Value) (bytes:Nat) (ht:P.underlying t=some (.slice e)) (hi:(P.info? e).map (fun i=>(i.zero,i.size,i.bytes))=some (some z,1,bytes)) (hz:z.cells.size=1)
  (v:Value) (n:Nat) (xs:List Value) (hown:w.ownsRow base e 1 v n xs) (g:Nat) (u:Value) (hu:w.cell? ⟨g,0,none⟩=some u) (h1:u.oneCell'=true) (hn:(n+1)*bytes≤140737488355328) (hn2:n≤1000000) (hbase:base≤w.heap.size) :
  ∃ v' w',(Builtin.append_ #[t,t] ty #[v,.slice (some ⟨g,0,none⟩) 1 1]).run P w=.ok v' w'∧w'.ownsRow base e 1 v' (n+1) (xs++[u])∧w.grownBy w' v.ownBlock∧∀ b,v'.ownBlock=some b→v.ownBlock=some b∨w.heap.size≤b:=by
 obtain ⟨i0,hi,hz0,hz1,hz2⟩:=info_parts hi
 have hnews:∀ j y,[u][j]? = some y→w.cell? ((⟨g,0,none⟩:Addr).add j)=some y:=fun j y hj=>by
  match j,hj with
  | 0,hj=>cases hj;rw [AE];exact hu
 have h1c:∀ y∈[u],y.oneCell'=true:=by intro y hy;simp at hy;subst hy;exact h1
 have blkOf:∀ {v':Value} {w':World} {n':Nat} {xs':List Value},w'.ownsRow w.heap.size e 1 v' n' xs'→∀ b,v'.ownBlock=some b→v.ownBlock=some b∨w.heap.size≤b:=fun h b hb=>.inr (h.lt b hb).1
 have hown0:=hown
 rcases hown.2 with ⟨rfl,rfl⟩ | ⟨g0,cap,cur,rfl,hb,hg,hcap,hmax,hsz,htk⟩
 ·obtain ⟨v',w',hrun,r1,r2,_⟩:=run_append_own (P:=P) w w.heap.size t ty e i0 z 1 bytes ht hi hz0 hz1 hz2 hz (by decide) (.slice none 0 0) 0 [] (World.ownsRow_nil w _ _ 1) ⟨g,0,none⟩ 1 1 [u] rfl hnews h1c (by unfold maxLen;omega) (by omega) (Aa _)
  obtain rfl:xs=[]:=List.eq_nil_of_length_eq_zero (by have:=hown.1;simpa using this)
  exact ⟨v',w',hrun,DJ r1 hbase,r2,blkOf r1⟩
 ·by_cases hroom:n+1≤cap
  ·obtain ⟨w',hrun,r1,r2⟩:=run_append_own_spare (P:=P) w base t ty e i0 1 ht hi hz1 g0 n cap xs hown0 ⟨g,0,none⟩ 1 1 [u] rfl hnews h1c hroom
   exact ⟨_,w',hrun,r1,r2,fun b hb=>.inl hb⟩
  ·obtain ⟨v',w',hrun,r1,r2⟩:=run_append_arg_grows (P:=P) w t ty e i0 z 1 bytes ht hi hz0 hz1 hz2 hz (by decide) ⟨g0,0,none⟩ n cap xs (by have:=hown.1;simpa using this) (fun j y hj=>hown0.cells (g:=g0) rfl j y hj) ⟨g,0,none⟩ 1 1 [u] rfl hnews (by omega) (by unfold maxLen;omega) hn
   exact ⟨v',w',hrun,DJ r1 hbase,⟨r2.os,r2.tape,r2.output,r2.size,fun k hk _=>r2.block k hk (by simp)⟩,blkOf r1⟩
theorem AP {o:Oper} {a:Act} {K:Act→World→Prop} {Q:Exit→Act→World→Prop} {w:World} {base:Nat} (t e:TypeId) (z:Value) (bytes:Nat) (ht:Tryz.prog.underlying t=some (.slice e)) (hi:(Tryz.prog.info? e).map (fun i=>(i.zero,i.size,i.bytes))=some (some z,1,bytes)) (hz:z.cells.size=1)
  (s x:Operand) (ho:o.op=.call { callee:=.builtin .append,args:=#[s,x],argTypes:=#[t,t] }) (v:Value) (n:Nat) (xs:List Value) (hs:a.eval s=v) (hown:w.ownsRow base e 1 v n xs)
  (g:Nat) (u:Value) (hx:a.eval x=.slice (some ⟨g,0,none⟩) 1 1) (hu:w.cell? ⟨g,0,none⟩=some u) (h1:u.oneCell'=true) (hn:(n+1)*bytes≤140737488355328) (hn2:n≤1000000) (hbase:base≤w.heap.size)
  (h:∀ v' w',w'.ownsRow base e 1 v' (n+1) (xs++[u])→w.grownBy w' v.ownBlock→(∀ b,v'.ownBlock=some b→v.ownBlock=some b∨w.heap.size≤b)→K (a.put o.dst v') w') :
  Oper.wp Tryz.prog o a w K Q:=by
 obtain ⟨v',w',hrun,r1,r2,r3⟩:=Id (P:=Tryz.prog) t o.type e z bytes ht hi hz v n xs hown g u hu h1 hn hn2 hbase
 unfold Oper.wp
 simp [execOp,ho,resolve,invoke,builtin,hs,hx,hrun,Result.andThen]
 exact h v' w' r1 r2 r3
theorem Df {o:Oper} {a:Act} {K:Act→World→Prop} {Q:Exit→Act→World→Prop} {w:World} (t:TypeId) (ht:Tryz.prog.underlying t=some (.slice 3))
  (s x:Operand) (ho:o.op=.call { callee:=.builtin .append,args:=#[s,x],argTypes:=#[t,t] }) (ao:Option Addr) (n:Nat) (l:List Int) (hs:a.eval s=.slice ao n n) (hl:Sl w (.slice ao n n) l)
  (g:Nat) (z:Int) (hx:a.eval x=.slice (some ⟨g,0,none⟩) 1 1) (hu:w.cell? ⟨g,0,none⟩=some (.int .i64 z)) (hn:n≤1000000)
  (h:∀ g' cap w',Sl w' (.slice (some ⟨g',0,none⟩) (n+1) cap) (l++[z])→w.heap.size≤g'→Below w.heap.size w w'→K (a.put o.dst (.slice (some ⟨g',0,none⟩) (n+1) cap)) w') :
  Oper.wp Tryz.prog o a w K Q:=by
 obtain ⟨i0,hi,hz0,hz1,hz2⟩:=info_parts Bt
 have hnews:∀ j y,[Value.int .i64 z][j]? = some y→w.cell? ((⟨g,0,none⟩:Addr).add j)=some y:=fun j y hj=>by
  match j,hj with
  | 0,hj=>cases hj;rw [AE];exact hu
 have H:∃ v' w',(Builtin.append_ #[t,t] o.type #[.slice ao n n,.slice (some ⟨g,0,none⟩) 1 1]).run Tryz.prog w=.ok v' w'∧w'.ownsRow w.heap.size 3 1 v' (n+1) ((l++[z]).map (Value.int .i64))∧w.grownBy w' none:=by
  rw [List.map_append]
  rcases hl with ⟨e,rfl⟩ | ⟨b,off,cap,e,h1,h2,h3,h4⟩
  ·cases e
   obtain ⟨v',w',hrun,r1,r2,_⟩:=run_append_own (P:=Tryz.prog) w w.heap.size t o.type 3 i0 (.int .i64 0) 1 8 ht hi hz0 hz1 hz2 rfl (by decide) (.slice none 0 0) 0 [] (World.ownsRow_nil w _ _ 1) ⟨g,0,none⟩ 1 1 [.int .i64 z] rfl hnews (by intro y hy;simp at hy;subst hy;rfl) (by unfold maxLen;omega) (by omega) (Aa _)
   exact ⟨v',w',hrun,r1,r2⟩
  ·cases e
   refine run_append_arg_grows (P:=Tryz.prog) w t o.type 3 i0 (.int .i64 0) 1 8 ht hi hz0 hz1 hz2 rfl (by decide) ⟨b,off,none⟩ l.length l.length (l.map (Value.int .i64)) (by simp) (fun j y hj=>?_) ⟨g,0,none⟩ 1 1 [.int .i64 z] rfl hnews (by omega) (by unfold maxLen;omega) (by omega)
   rw [AE]
   rw [List.getElem?_map] at hj
   by_cases hjl:j<l.length
   ·rw [h4 j hjl,Bo hjl]
    rw [List.getElem?_eq_getElem hjl] at hj
    exact hj
   ·rw [List.getElem?_eq_none (by omega)] at hj;cases hj
 obtain ⟨v',w',hrun,r1,r2⟩:=H
 have hS:=Sl.of_own r1
 rcases r1.2 with ⟨rfl,h0⟩ | ⟨g',cap,cur,rfl,hb,hg,hn',hm,hsz,htk⟩
 ·omega
 unfold Oper.wp
 simp [execOp,ho,resolve,invoke,builtin,hs,hx,hrun,Result.andThen]
 exact h g' cap w' hS hb ⟨r2.os,r2.tape,r2.output,r2.size,fun k hk=>r2.block k hk (by simp)⟩
theorem Only.grown {S:List Nat} {a b c:World} {row:Option Nat} (h:Only S a b) (hg:b.grownBy c row) (hr:∀ k,row=some k→k∈S∨a.heap.size≤k):Only S a c :=
 ⟨hg.os.trans h.os,hg.tape.trans h.tape,hg.output.trans h.output,Nat.le_trans h.size hg.size,fun k hk hs=>(hg.block k (A9 hk h.size) (fun e=>by
  rcases hr k e.symm with h1 | h1
  ·exact hs h1
  ·omega)).trans (h.block k hk hs)⟩
structure Own3 (w0 W:World) (base:Nat) (rv bv sv cr:Value) (nr:Nat) (xr:List Value) (cb:Value) (nb:Nat) (xb:List Value) (cs:Value) (ns:Nat) (xs:List Value):Prop where
 r:W.ownsRow base 70 1 cr nr xr
 b:W.ownsRow base 3 1 cb nb xb
 s:W.ownsRow base 3 1 cs ns xs
 le:w0.heap.size≤W.heap.size
 fr:∀ g,cr.ownBlock=some g→rv.ownBlock=some g∨w0.heap.size≤g
 fb:∀ g,cb.ownBlock=some g→bv.ownBlock=some g∨w0.heap.size≤g
 fs:∀ g,cs.ownBlock=some g→sv.ownBlock=some g∨w0.heap.size≤g
 bs:∀ g,cb.ownBlock=some g→cs.ownBlock≠some g
theorem Cs {w:World} {b1 b2:Nat} {e1 e2:TypeId} {v1 v2:Value} {n1 n2:Nat} {x1 x2:List Value} (h1:w.ownsRow b1 e1 1 v1 n1 x1) (h2:w.ownsRow b2 e2 1 v2 n2 x2) (hne:e1≠e2):∀ g,v1.ownBlock=some g→v2.ownBlock≠some g:=by
 intro g hg hg2
 rcases h1.2 with ⟨rfl,_⟩ | ⟨g1,c1,u1,rfl,_,k1,_⟩
 ·cases hg
 rcases h2.2 with ⟨rfl,_⟩ | ⟨g2,c2,u2,rfl,_,k2,_⟩
 ·cases hg2
 cases hg;cases hg2
 rw [k1] at k2
 simp at k2
 exact hne k2.2
section
variable {w0 W W':World} {base:Nat} {rv bv sv cr cb cs:Value} {nr nb ns:Nat} {xr xb xs:List Value}
theorem Own3.grown (h:Own3 w0 W base rv bv sv cr nr xr cb nb xb cs ns xs) {row:Option Nat} (hg:W.grownBy W' row) (h1:∀ g,row=some g→cr.ownBlock≠some g∧cb.ownBlock≠some g∧cs.ownBlock≠some g):Own3 w0 W' base rv bv sv cr nr xr cb nb xb cs ns xs:=by
 have k:∀ v:Value,(∀ g,row=some g→v.ownBlock≠some g)→v.ownBlock=none∨v.ownBlock≠row:=fun v hv=>by
  cases hr:row with
  | none=>cases hv2:v.ownBlock with
   | none=>exact .inl rfl
   | some x=>exact .inr (by simp)
  | some g=>exact .inr (hv g hr)
 exact ⟨h.r.kept hg (k _ fun g e=>(h1 g e).1),h.b.kept hg (k _ fun g e=>(h1 g e).2.1),h.s.kept hg (k _ fun g e=>(h1 g e).2.2),Nat.le_trans h.le hg.size,h.fr,h.fb,h.fs,h.bs⟩
theorem Own3.below (h:Own3 w0 W base rv bv sv cr nr xr cb nb xb cs ns xs) (hb:Below W.heap.size W W'):Own3 w0 W' base rv bv sv cr nr xr cb nb xb cs ns xs :=
 h.grown (row:=none) ⟨hb.os,hb.tape,hb.output,hb.size,fun k hk _=>hb.block k hk⟩ (fun g e=>by cases e)
theorem CZ:(70:TypeId)≠3:=by decide
theorem Own3.setR (h:Own3 w0 W base rv bv sv cr nr xr cb nb xb cs ns xs) (hg:W.grownBy W' cr.ownBlock) {v:Value} {n:Nat} {ys:List Value} (hr:W'.ownsRow base 70 1 v n ys) (hv:∀ g,v.ownBlock=some g→cr.ownBlock=some g∨W.heap.size≤g):Own3 w0 W' base rv bv sv v n ys cb nb xb cs ns xs:=by
 have kb:cb.ownBlock=none∨cb.ownBlock≠cr.ownBlock:=by
  cases hc:cb.ownBlock with
  | none=>exact .inl rfl
  | some x=>exact .inr fun e=>Cs h.r h.b CZ x e.symm hc
 have ks:cs.ownBlock=none∨cs.ownBlock≠cr.ownBlock:=by
  cases hc:cs.ownBlock with
  | none=>exact .inl rfl
  | some x=>exact .inr fun e=>Cs h.r h.s CZ x e.symm hc
 refine ⟨hr,h.b.kept hg kb,h.s.kept hg ks,Nat.le_trans h.le hg.size,fun g e=>?_,h.fb,h.fs,h.bs⟩
 rcases hv g e with h1 | h1
 ·exact h.fr g h1
 ·exact .inr (Nat.le_trans h.le h1)
theorem Own3.setB (h:Own3 w0 W base rv bv sv cr nr xr cb nb xb cs ns xs) (hg:W.grownBy W' cb.ownBlock) {v:Value} {n:Nat} {ys:List Value} (hr:W'.ownsRow base 3 1 v n ys) (hv:∀ g,v.ownBlock=some g→cb.ownBlock=some g∨W.heap.size≤g):Own3 w0 W' base rv bv sv cr nr xr v n ys cs ns xs:=by
 have kr:cr.ownBlock=none∨cr.ownBlock≠cb.ownBlock:=by
  cases hc:cr.ownBlock with
  | none=>exact .inl rfl
  | some x=>exact .inr fun e=>Cs h.r h.b CZ x hc e.symm
 have ks:cs.ownBlock=none∨cs.ownBlock≠cb.ownBlock:=by
  cases hc:cs.ownBlock with
  | none=>exact .inl rfl
  | some x=>exact .inr fun e=>h.bs x e.symm hc
 refine ⟨h.r.kept hg kr,hr,h.s.kept hg ks,Nat.le_trans h.le hg.size,h.fr,fun g e=>?_,h.fs,fun g e e2=>?_⟩
 ·rcases hv g e with h1 | h1
  ·exact h.fb g h1
  ·exact .inr (Nat.le_trans h.le h1)
 ·rcases hv g e with h1 | h1
  ·exact h.bs g h1 e2
  ·have:=(h.s.lt g e2).2;omega
theorem Own3.setS (h:Own3 w0 W base rv bv sv cr nr xr cb nb xb cs ns xs) (hg:W.grownBy W' cs.ownBlock) {v:Value} {n:Nat} {ys:List Value} (hr:W'.ownsRow base 3 1 v n ys) (hv:∀ g,v.ownBlock=some g→cs.ownBlock=some g∨W.heap.size≤g):Own3 w0 W' base rv bv sv cr nr xr cb nb xb v n ys:=by
 have kr:cr.ownBlock=none∨cr.ownBlock≠cs.ownBlock:=by
  cases hc:cr.ownBlock with
  | none=>exact .inl rfl
  | some x=>exact .inr fun e=>Cs h.r h.s CZ x hc e.symm
 have kb:cb.ownBlock=none∨cb.ownBlock≠cs.ownBlock:=by
  cases hc:cb.ownBlock with
  | none=>exact .inl rfl
  | some x=>exact .inr fun e=>h.bs x hc e.symm
 refine ⟨h.r.kept hg kr,h.b.kept hg kb,hr,Nat.le_trans h.le hg.size,h.fr,h.fb,fun g e=>?_,fun g e e2=>?_⟩
 ·rcases hv g e with h1 | h1
  ·exact h.fs g h1
  ·exact .inr (Nat.le_trans h.le h1)
 ·rcases hv g e2 with h1 | h1
  ·exact h.bs g e h1
  ·have:=(h.b.lt g e).2;omega
end
structure RowT (W:World) (b n:Nat) (f:Nat→Int):Prop where
 row:RowAt W b n f
 ty:∃ cs,Blk W b cs 73
theorem RowT.same {W W':World} {b n:Nat} {f:Nat→Int} (h:RowT W b n f) (hs:W.heap.size≤W'.heap.size) (e:W'.heap[b]? = W.heap[b]?):RowT W' b n f :=
 ⟨h.row.same hs e,h.ty.imp fun _ k=>e.trans k⟩
theorem RowT.below {W W':World} {b n:Nat} {f:Nat→Int} (h:RowT W b n f) (hb:Below W.heap.size W W'):RowT W' b n f:=h.same hb.size (hb.block b h.row.lt)
theorem RowT.only {W W':World} {b n:Nat} {f:Nat→Int} {S:List Nat} (h:RowT W b n f) (ho:Only S W W') (hS:b∉S):RowT W' b n f:=h.same ho.size (ho.block b h.row.lt hS)
theorem RowT.congr {W:World} {b n:Nat} {f g:Nat→Int} (h:RowT W b n f) (e:∀ j,j<n→f j=g j):RowT W b n g:=⟨h.row.congr e,h.ty⟩
theorem RowT.set {W:World} {b n:Nat} {f:Nat→Int} (h:RowT W b n f) {j:Nat} (hj:j<n) (v:Int):RowT (W.setCells b (j*12) (wl (wd v))) b n (upd f j v) :=
 ⟨h.row.set hj v,by obtain ⟨cs,hc⟩:=h.ty;obtain ⟨ds,hd,_⟩:=CM (wl (wd v)) (j*12) hc;exact ⟨ds,hd⟩⟩
theorem RowT.not_own {W:World} {b n:Nat} {f:Nat→Int} (h:RowT W b n f) {base k:Nat} {e:TypeId} {v:Value} {xs:List Value} (hr:W.ownsRow base e 1 v k xs) (hne:(73:TypeId)≠e):v.ownBlock≠some b:=by
 obtain ⟨cs,hc⟩:=h.ty
 exact fun e2=>hc.not_row hne hr e2.symm
end
section
open Go.RowKit
def hotS (tb:Nat) (rv bv sv:Value):List Nat:=tb :: (rv.ownBlock.toList++(bv.ownBlock.toList++sv.ownBlock.toList))
theorem hot_r {tb:Nat} {rv bv sv:Value}:∀ k,rv.ownBlock=some k→k∈hotS tb rv bv sv:=fun k e=>by unfold hotS;rw [e];simp
theorem hot_b {tb:Nat} {rv bv sv:Value}:∀ k,bv.ownBlock=some k→k∈hotS tb rv bv sv:=fun k e=>by unfold hotS;rw [e];simp
theorem hot_s {tb:Nat} {rv bv sv:Value}:∀ k,sv.ownBlock=some k→k∈hotS tb rv bv sv:=fun k e=>by unfold hotS;rw [e];simp
theorem Ct {w W W2:World} {row:Option Nat} (hg:W.grownBy W2 row) (h:∀ k,row=some k→k<w.heap.size):∀ g o:Nat,w.heap.size≤g→g<W.heap.size→W2.cell? ⟨g,o,none⟩=W.cell? ⟨g,o,none⟩:=fun g o h1 h2 =>
 Ah (hg.block g h2 (fun e=>by have:=h g e.symm;omega)) o
theorem F7 {w W W2:World} (hb:Below W.heap.size W W2):∀ g o:Nat,w.heap.size≤g→g<W.heap.size→W2.cell? ⟨g,o,none⟩=W.cell? ⟨g,o,none⟩:=fun _ _ _ h2=>hb.cell (p:=⟨_,_,none⟩) h2
end
section
open Go.RowKit
open LnM (wd upd)
attribute [local go_sem] Oper.semAt_some
abbrev tbc (rv:Value) (cb n:Nat) (bv sv:Value) (d k:Int):Array Value:=#[rv,.slice (some ⟨cb,0,none⟩) n n,bv,sv,.int .u64 (wd d 0),.int .u64 (wd d 1),.int .u64 (wd d 2),.int .u64 (wd d 3),.int .u64 (wd d 4),.int .u64 (wd d 5),.int .u64 (wd d 6),.int .u64 (wd d 7),.int .u64 (wd d 8),.int .u64 (wd d 9),.int .u64 (wd d 10),.int .u64 (wd d 11),.int .i64 k]
theorem CP:Tryz.prog.underlying 73=some (.array 12 71):=Tryz.underlying73
theorem BO (z:Int):(Tryz.prog.info? 73).map (·.size)=some (wl (wd z)).length:=by rw [E3];kernel_rfl
theorem open_r1 {Q:Exit→Act→World→Prop} {u0 u2 u3 u4 u5 u6 u7 u8 u9 u10 u11 u12 u13 u14 u15 u16 u17 u18 u19 u20 u21 u22 u23 u24 u25 u26 u27 u28 u29 u30 u31 u32 u33 u34 u35 u36 u37 u38 u39 u40 u41 u42 u43 u44 u45 u46 u47 u48 u49 u50 u51 u52 u53 u54 u55 u56 u57 u58 u59 u60 u61 u62 u63 u64 u65 u66 u67 u68 u69 u70 u71 u72 u73 u74 u75 u76 u77 u78 u79 u80 u81 u82 u83 u84 u85 u86 u87 u88 u89 u90 u91 u92 u93 u94 u95 u96 u97 u98 u99 u100 u101 u102 u103 u104 u105 u106 u107 u108 u109 u110 u111 u112 u113 u114 u115 u116 u117 u118 u119 u120 u121 u122 u123 u124 u125 u126 u127 u128 u129 u130 u131 u132 u133 u134 u135:Value} {cols m xB n:Nat} {ad:Option Addr} {cap:Nat} {wb w:World} {L:BLs} (hS:BL wb L w) (hcell:Hid (∀ W,BL wb L W→W.cell? ⟨xB,0,none⟩=some (.int .i64 cols)∧W.cell? ⟨xB,1,none⟩=some (.slice ad m cap))) (hn:Hid (n=cols+m+1)) (hn1:n≤100000) {ops:Array Oper} (ho:getOps Tryz.f37.body 1=some ops)
  (hQ:∀ (v11 v12 v13 v14 v15 v16 v17 v18 v19 v20 v21 v22 v23:Value) (gc gt:Nat) (W':World),BL wb L W'→RowT W' gc n (fun _=>0)→Blk W' gt (tbc (.slice none 0 0) gc n (.slice none 0 0) (.slice none 0 0) 1 cols) 75→wb.heap.size≤gc→gc<gt→Q .normal { tmps:=List.toArray (u0::.pointer (some ⟨xB,0,none⟩)::u2::.pointer (some ⟨gt,0,none⟩)::u4::u5::u6::u7::u8::u9::u10::v11::v12::v13::v14::v15::v16::v17::v18::v19::v20::v21::v22::v23::u24::u25::u26::u27::u28::u29::u30::u31::u32::u33::u34::u35::u36::u37::u38::u39::u40::u41::u42::u43::u44::u45::u46::u47::u48::u49::u50::u51::u52::u53::u54::u55::u56::u57::u58::u59::u60::u61::u62::u63::u64::u65::u66::u67::u68::u69::u70::u71::u72::u73::u74::u75::u76::u77::u78::u79::u80::u81::u82::u83::u84::u85::u86::u87::u88::u89::u90::u91::u92::u93::u94::u95::u96::u97::u98::u99::u100::u101::u102::u103::u104::u105::u106::u107::u108::u109::u110::u111::u112::u113::u114::u115::u116::u117::u118::u119::u120::u121::u122::u123::u124::u125::u126::u127::u128::u129::u130::u131::u132::u133::u134::u135::[]),defers:=[] } W') :
  (Code.region 1 ops true).wp Tryz.prog Q { tmps:=List.toArray (u0::.pointer (some ⟨xB,0,none⟩)::u2::u3::u4::u5::u6::u7::u8::u9::u10::u11::u12::u13::u14::u15::u16::u17::u18::u19::u20::u21::u22::u23::u24::u25::u26::u27::u28::u29::u30::u31::u32::u33::u34::u35::u36::u37::u38::u39::u40::u41::u42::u43::u44::u45::u46::u47::u48::u49::u50::u51::u52::u53::u54::u55::u56::u57::u58::u59::u60::u61::u62::u63::u64::u65::u66::u67::u68::u69::u70::u71::u72::u73::u74::u75::u76::u77::u78::u79::u80::u81::u82::u83::u84::u85::u86::u87::u88::u89::u90::u91::u92::u93::u94::u95::u96::u97::u98::u99::u100::u101::u102::u103::u104::u105::u106::u107::u108::u109::u110::u111::u112::u113::u114::u115::u116::u117::u118::u119::u120::u121::u122::u123::u124::u125::u126::u127::u128::u129::u130::u131::u132::u133::u134::u135::[]),defers:=[] } w:=by
 obtain rfl:=Option.some.inj (ho.symm.trans (rfl:getOps Tryz.f37.body 1=some _))
 clear ho
 replace hQ:=A8 hQ
 obtain ⟨Iv,hI⟩:∃ Iv:(Nat→Bool)→Act→World→Prop,∀ l a W,Iv l a W↔(∃ s11 s12 s13 s14 s15 s16 s17 s18 s19 s20 s21 s22 s23 s3:Value,a={ tmps:=List.toArray (u0::.pointer (some ⟨xB,0,none⟩)::u2::s3::u4::u5::u6::u7::u8::u9::u10::s11::s12::s13::s14::s15::s16::s17::s18::s19::s20::s21::s22::s23::u24::u25::u26::u27::u28::u29::u30::u31::u32::u33::u34::u35::u36::u37::u38::u39::u40::u41::u42::u43::u44::u45::u46::u47::u48::u49::u50::u51::u52::u53::u54::u55::u56::u57::u58::u59::u60::u61::u62::u63::u64::u65::u66::u67::u68::u69::u70::u71::u72::u73::u74::u75::u76::u77::u78::u79::u80::u81::u82::u83::u84::u85::u86::u87::u88::u89::u90::u91::u92::u93::u94::u95::u96::u97::u98::u99::u100::u101::u102::u103::u104::u105::u106::u107::u108::u109::u110::u111::u112::u113::u114::u115::u116::u117::u118::u119::u120::u121::u122::u123::u124::u125::u126::u127::u128::u129::u130::u131::u132::u133::u134::u135::[]),defers:=[] }∧BL wb L W∧Vs [(0,.agg (wc (wd 1)),s11),(1,.pointer (some ⟨xB,0,none⟩),s12),(2,.int .i64 cols,s13),(3,.pointer (some ⟨xB,0,none⟩),s14),(4,.int .i64 cols,s15),(5,.pointer (some ⟨xB,1,none⟩),s16),(6,.slice ad m cap,s17),(7,.int .i64 m,s18),(8,.int .i64 ((cols:Int)+m),s19),(9,.int .i64 n,s20)] l∧(l 10=true→∃ gc:Nat,s21=.slice (some ⟨gc,0,none⟩) n n∧RowT W gc n (fun _=>0)∧wb.heap.size≤gc)∧(l 11=true→∃ gc:Nat,s22=.agg (tbc (.slice none 0 0) gc n (.slice none 0 0) (.slice none 0 0) 1 cols)∧RowT W gc n (fun _=>0)∧wb.heap.size≤gc)∧(l 12=true→∃ gc gt:Nat,s23=.pointer (some ⟨gt,0,none⟩)∧RowT W gc n (fun _=>0)∧Blk W gt (tbc (.slice none 0 0) gc n (.slice none 0 0) (.slice none 0 0) 1 cols) 75∧wb.heap.size≤gc∧gc<gt)∧(l 13=true→∃ gc gt:Nat,s3=.pointer (some ⟨gt,0,none⟩)∧RowT W gc n (fun _=>0)∧Blk W gt (tbc (.slice none 0 0) gc n (.slice none 0 0) (.slice none 0 0) 1 cols) 75∧wb.heap.size≤gc∧gc<gt)):=⟨_,fun _ _ _=>Iff.rfl⟩
 refine Ak Iv (by kernel_rfl) (by kernel_rfl) ((hI _ _ _).2 ⟨_,_,_,_,_,_,_,_,_,_,_,_,_,_,rfl,hS.drew,Vs.zero,fun h=>off h,fun h=>off h,fun h=>off h,fun h=>off h⟩) (Ab (k:=0) ?_ (Ab (k:=1) ?_ (Ab (k:=2) ?_ (Ab (k:=3) ?_ (Ab (k:=4) ?_ (Ab (k:=5) ?_ (Ab (k:=6) ?_ (Ab (k:=7) ?_ (Ab (k:=8) ?_ (Ab (k:=9) ?_ (Ab (k:=10) ?_ (Ab (k:=11) ?_ (Ab (k:=12) ?_ (Ab (k:=13) ?_ (Af))))))))))))))) ?_
 ·intro l a W hl hw hsh h K hK
  rw [hI] at h;iterate 14 obtain ⟨_,h⟩:=h
  obtain ⟨rfl,hC,hP,f10,f11,f12,f13⟩:=h
  go_simp
  go_at_call 75
  refine Calls.mono (DH 1 (by unfold Fits;omega) _) ?_
  rintro e W2 ⟨rfl,hb⟩
  apply hK.out;rw [hI];iterate 14 apply Exists.intro
  exact ⟨rfl,hC.call hb,hP.put 0 rfl rfl rfl,(fun h=>(let ⟨g,e,a,b⟩:=f10 h;⟨g,e,a.below hb,b⟩)),(fun h=>(let ⟨g,e,a,b⟩:=f11 h;⟨g,e,a.below hb,b⟩)),(fun h=>(let ⟨g,t,e,a,k,b,c⟩:=f12 h;⟨g,t,e,a.below hb,k.below hb,b,c⟩)),(fun h=>(let ⟨g,t,e,a,k,b,c⟩:=f13 h;⟨g,t,e,a.below hb,k.below hb,b,c⟩))⟩
 ·intro l a W hl hw hsh h K hK
  rw [hI] at h;iterate 14 obtain ⟨_,h⟩:=h
  obtain ⟨rfl,hC,hP,f10,f11,f12,f13⟩:=h
  go_simp
  apply hK.out;rw [hI];iterate 14 apply Exists.intro
  exact ⟨rfl,hC,hP.put 1 rfl rfl rfl,f10,f11,f12,f13⟩
 ·intro l a W hl hw hsh h K hK
  rw [hI] at h;iterate 14 obtain ⟨_,h⟩:=h
  obtain ⟨rfl,hC,hP,f10,f11,f12,f13⟩:=h
  obtain rfl:=hP.get 1 rfl (hw 1 (by kernel_rfl))
  obtain ⟨x0,x1⟩:=hcell.out _ hC
  go_simp
  apply hK.out;rw [hI];iterate 14 apply Exists.intro
  exact ⟨rfl,hC,hP.put 2 rfl rfl rfl,f10,f11,f12,f13⟩
 ·intro l a W hl hw hsh h K hK
  rw [hI] at h;iterate 14 obtain ⟨_,h⟩:=h
  obtain ⟨rfl,hC,hP,f10,f11,f12,f13⟩:=h
  go_simp
  apply hK.out;rw [hI];iterate 14 apply Exists.intro
  exact ⟨rfl,hC,hP.put 3 rfl rfl rfl,f10,f11,f12,f13⟩
 ·intro l a W hl hw hsh h K hK
  rw [hI] at h;iterate 14 obtain ⟨_,h⟩:=h
  obtain ⟨rfl,hC,hP,f10,f11,f12,f13⟩:=h
  obtain rfl:=hP.get 3 rfl (hw 3 (by kernel_rfl))
  obtain ⟨x0,x1⟩:=hcell.out _ hC
  go_simp
  apply hK.out;rw [hI];iterate 14 apply Exists.intro
  exact ⟨rfl,hC,hP.put 4 rfl rfl rfl,f10,f11,f12,f13⟩
 ·intro l a W hl hw hsh h K hK
  rw [hI] at h;iterate 14 obtain ⟨_,h⟩:=h
  obtain ⟨rfl,hC,hP,f10,f11,f12,f13⟩:=h
  go_simp
  apply hK.out;rw [hI];iterate 14 apply Exists.intro
  exact ⟨rfl,hC,hP.put 5 rfl rfl rfl,f10,f11,f12,f13⟩
 ·intro l a W hl hw hsh h K hK
  rw [hI] at h;iterate 14 obtain ⟨_,h⟩:=h
  obtain ⟨rfl,hC,hP,f10,f11,f12,f13⟩:=h
  obtain rfl:=hP.get 5 rfl (hw 5 (by kernel_rfl))
  obtain ⟨x0,x1⟩:=hcell.out _ hC
  go_simp
  apply hK.out;rw [hI];iterate 14 apply Exists.intro
  exact ⟨rfl,hC,hP.put 6 rfl rfl rfl,f10,f11,f12,f13⟩
 ·intro l a W hl hw hsh h K hK
  rw [hI] at h;iterate 14 obtain ⟨_,h⟩:=h
  obtain ⟨rfl,hC,hP,f10,f11,f12,f13⟩:=h
  obtain rfl:=hP.get 6 rfl (hw 6 (by kernel_rfl))
  go_simp
  apply hK.out;rw [hI];iterate 14 apply Exists.intro
  exact ⟨rfl,hC,hP.put 7 rfl rfl rfl,f10,f11,f12,f13⟩
 ·intro l a W hl hw hsh h K hK
  rw [hI] at h;iterate 14 obtain ⟨_,h⟩:=h
  obtain ⟨rfl,hC,hP,f10,f11,f12,f13⟩:=h
  obtain rfl:=hP.get 4 rfl (hw 4 (by kernel_rfl))
  obtain rfl:=hP.get 7 rfl (hw 7 (by kernel_rfl))
  have e1:IntKind.i64.wrap ((cols:Int)+m)=(cols:Int)+m:=IntWalk.i64_in _ (by have:=hn.out;omega)
  go_simp
  apply hK.out;rw [hI];iterate 14 apply Exists.intro
  exact ⟨rfl,hC,hP.put 8 rfl rfl rfl,f10,f11,f12,f13⟩
 ·intro l a W hl hw hsh h K hK
  rw [hI] at h;iterate 14 obtain ⟨_,h⟩:=h
  obtain ⟨rfl,hC,hP,f10,f11,f12,f13⟩:=h
  obtain rfl:=hP.get 8 rfl (hw 8 (by kernel_rfl))
  have e1:IntKind.i64.wrap ((cols:Int)+m+1)=n:=by rw [IntWalk.i64_in _ (by have:=hn.out;omega)];have:=hn.out;omega
  go_simp
  apply hK.out;rw [hI];iterate 14 apply Exists.intro
  exact ⟨rfl,hC,hP.put 9 rfl rfl rfl,f10,f11,f12,f13⟩
 ·intro l a W hl hw hsh h K hK
  rw [hI] at h;iterate 14 obtain ⟨_,h⟩:=h
  obtain ⟨rfl,hC,hP,f10,f11,f12,f13⟩:=h
  obtain rfl:=hP.get 9 rfl (hw 9 (by kernel_rfl))
  rw [if_pos (by rfl)]
  refine FK _ _ rfl n (by go_simp) (by go_simp) (by omega) ?_
  intro W2 hr hty hb
  apply hK.out;rw [hI];iterate 14 apply Exists.intro
  exact ⟨rfl,hC.call hb,hP.skip 10 rfl,fun _=>⟨_,rfl,⟨hr,hty⟩,hC.below.size⟩,(fun h=>(let ⟨g,e,a,b⟩:=f11 h;⟨g,e,a.below hb,b⟩)),(fun h=>(let ⟨g,t,e,a,k,b,c⟩:=f12 h;⟨g,t,e,a.below hb,k.below hb,b,c⟩)),(fun h=>(let ⟨g,t,e,a,k,b,c⟩:=f13 h;⟨g,t,e,a.below hb,k.below hb,b,c⟩))⟩
 ·intro l a W hl hw hsh h K hK
  rw [hI] at h;iterate 14 obtain ⟨_,h⟩:=h
  obtain ⟨rfl,hC,hP,f10,f11,f12,f13⟩:=h
  obtain rfl:=hP.get 0 rfl (hw 0 (by kernel_rfl))
  obtain rfl:=hP.get 2 rfl (hw 2 (by kernel_rfl))
  obtain ⟨gc,rfl,hr,hge⟩:=f10 (hw 10 (by kernel_rfl))
  go_simp
  apply hK.out;rw [hI];iterate 14 apply Exists.intro
  exact ⟨rfl,hC,hP.skip 11 rfl,f10,fun _=>⟨gc,rfl,hr,hge⟩,f12,f13⟩
 ·intro l a W hl hw hsh h K hK
  rw [hI] at h;iterate 14 obtain ⟨_,h⟩:=h
  obtain ⟨rfl,hC,hP,f10,f11,f12,f13⟩:=h
  obtain ⟨gc,rfl,hr,hge⟩:=f11 (hw 11 (by kernel_rfl))
  go_simp
  have hb:=(Below.refl W.heap.size W).alloc (Aa _) (.cells (tbc (.slice none 0 0) gc n (.slice none 0 0) (.slice none 0 0) 1 cols) 75)
  apply hK.out;rw [hI];iterate 14 apply Exists.intro
  exact ⟨rfl,hC.call hb,hP.skip 12 rfl,(fun h=>(let ⟨g,e,a,b⟩:=f10 h;⟨g,e,a.below hb,b⟩)),(fun h=>(let ⟨g,e,a,b⟩:=f11 h;⟨g,e,a.below hb,b⟩)),fun _=>⟨gc,_,rfl,hr.below hb,Blk.new _ _ _,hge,hr.row.lt⟩,(fun h=>(let ⟨g,t,e,a,k,b,c⟩:=f13 h;⟨g,t,e,a.below hb,k.below hb,b,c⟩))⟩
 ·intro l a W hl hw hsh h K hK
  rw [hI] at h;iterate 14 obtain ⟨_,h⟩:=h
  obtain ⟨rfl,hC,hP,f10,f11,f12,f13⟩:=h
  obtain ⟨gc,gt,rfl,hr,hk,hge,hlt⟩:=f12 (hw 12 (by kernel_rfl))
  go_simp
  apply hK.out;rw [hI];iterate 14 apply Exists.intro
  exact ⟨rfl,hC,hP.skip 13 rfl,f10,f11,f12,fun _=>⟨gc,gt,rfl,hr,hk,hge,hlt⟩⟩
 ·intro a W hI'
  have h:=(hI _ _ _).1 hI';clear hI';iterate 14 obtain ⟨_,h⟩:=h
  obtain ⟨rfl,hC,hP,f10,f11,f12,f13⟩:=h
  clear f10
  clear f11
  clear f12
  obtain ⟨gc,gt,rfl,hr,hk,hge,hlt⟩:=f13 (by kernel_rfl)
  exact hQ.out _ _ _ _ _ _ _ _ _ _ _ _ _ gc gt _ hC hr hk hge hlt
theorem open_r9 {Q:Exit→Act→World→Prop} {u0 u1 u2 u3 u4 u6 u7 u8 u9 u10 u11 u12 u13 u14 u15 u16 u17 u18 u19 u20 u21 u22 u23 u24 u25 u26 u27 u28 u29 u30 u31 u32 u33 u34 u35 u36 u37 u38 u39 u40 u41 u42 u43 u44 u45 u46 u47 u48 u49 u50 u51 u52 u53 u54 u55 u56 u57 u58 u59 u60 u61 u62 u63 u64 u65 u66 u67 u68 u69 u70 u71 u72 u73 u74 u75 u76 u77 u78 u79 u80 u81 u82 u83 u84 u85 u86 u87 u88 u89 u90 u91 u92 u93 u94 u95 u96 u97 u98 u99 u100 u101 u102 u103 u104 u105 u106 u107 u108 u109 u110 u111 u112 u113 u114 u115 u116 u117 u118 u119 u120 u121 u122 u123 u124 u125 u126 u127 u128 u129 u130 u131 u132 u133 u134 u135:Value} {bq oq:Nat} {cols cap xE:Nat} {val:Int} {coef:List Int} {wb w:World} {L:BLs} (hS:BL wb L w) (hcell:Hid (∀ W,BL wb L W→W.cell? ⟨xE,0,none⟩=some (.slice (some ⟨bq,oq,none⟩) cols cap)∧W.cell? ⟨xE,1,none⟩=some (.int .i64 val))) (hco:Hid (Sl wb (.slice (some ⟨bq,oq,none⟩) cols cap) coef)) (hlen:Hid (coef.length=cols)) (hcap:(cols:Int)≤cap) (hc1:cols≤100000) (hc0:(0:Int)≤cols) {ops:Array Oper} (ho:getOps Tryz.f37.body 9=some ops)
  (hQ:∀ (v41 v42 v43 v44 v45 v46 v47 v48 v49 v50 v51 v52:Value) (g cap':Nat) (W':World),BL wb L W'→Sl W' (.slice (some ⟨g,0,none⟩) (cols+1) cap') (coef++[val])→wb.heap.size≤g→Q .normal { tmps:=List.toArray (u0::u1::u2::u3::u4::.pointer (some ⟨xE,0,none⟩)::u6::u7::u8::u9::u10::u11::u12::u13::u14::u15::u16::u17::u18::u19::u20::u21::u22::u23::u24::u25::u26::u27::u28::u29::u30::u31::u32::u33::u34::u35::u36::u37::u38::u39::u40::v41::v42::v43::v44::v45::v46::v47::v48::v49::v50::v51::v52::.slice (some ⟨g,0,none⟩) (cols+1) cap'::.int .i64 ((cols+1:Nat):Int)::.int .i64 0::u56::u57::u58::u59::u60::u61::u62::u63::u64::u65::u66::u67::u68::u69::u70::u71::u72::u73::u74::u75::u76::u77::u78::u79::u80::u81::u82::u83::u84::u85::u86::u87::u88::u89::u90::u91::u92::u93::u94::u95::u96::u97::u98::u99::u100::u101::u102::u103::u104::u105::u106::u107::u108::u109::u110::u111::u112::u113::u114::u115::u116::u117::u118::u119::u120::u121::u122::u123::u124::u125::u126::u127::u128::u129::u130::u131::u132::u133::u134::u135::[]),defers:=[] } W') :
  (Code.region 9 ops true).wp Tryz.prog Q { tmps:=List.toArray (u0::u1::u2::u3::u4::.pointer (some ⟨xE,0,none⟩)::u6::u7::u8::u9::u10::u11::u12::u13::u14::u15::u16::u17::u18::u19::u20::u21::u22::u23::u24::u25::u26::u27::u28::u29::u30::u31::u32::u33::u34::u35::u36::u37::u38::u39::u40::u41::u42::u43::u44::u45::u46::u47::u48::u49::u50::u51::u52::u53::u54::u55::u56::u57::u58::u59::u60::u61::u62::u63::u64::u65::u66::u67::u68::u69::u70::u71::u72::u73::u74::u75::u76::u77::u78::u79::u80::u81::u82::u83::u84::u85::u86::u87::u88::u89::u90::u91::u92::u93::u94::u95::u96::u97::u98::u99::u100::u101::u102::u103::u104::u105::u106::u107::u108::u109::u110::u111::u112::u113::u114::u115::u116::u117::u118::u119::u120::u121::u122::u123::u124::u125::u126::u127::u128::u129::u130::u131::u132::u133::u134::u135::[]),defers:=[] } w:=by
 obtain rfl:=Option.some.inj (ho.symm.trans (rfl:getOps Tryz.f37.body 9=some _))
 clear ho
 replace hQ:=A8 hQ
 obtain ⟨Iv,hI⟩:∃ Iv:(Nat→Bool)→Act→World→Prop,∀ l a W,Iv l a W↔(∃ s41 s42 s43 s44 s45 s46 s47 s48 s49 s50 s51 s52 s53 s54 s55:Value,a={ tmps:=List.toArray (u0::u1::u2::u3::u4::.pointer (some ⟨xE,0,none⟩)::u6::u7::u8::u9::u10::u11::u12::u13::u14::u15::u16::u17::u18::u19::u20::u21::u22::u23::u24::u25::u26::u27::u28::u29::u30::u31::u32::u33::u34::u35::u36::u37::u38::u39::u40::s41::s42::s43::s44::s45::s46::s47::s48::s49::s50::s51::s52::s53::s54::s55::u56::u57::u58::u59::u60::u61::u62::u63::u64::u65::u66::u67::u68::u69::u70::u71::u72::u73::u74::u75::u76::u77::u78::u79::u80::u81::u82::u83::u84::u85::u86::u87::u88::u89::u90::u91::u92::u93::u94::u95::u96::u97::u98::u99::u100::u101::u102::u103::u104::u105::u106::u107::u108::u109::u110::u111::u112::u113::u114::u115::u116::u117::u118::u119::u120::u121::u122::u123::u124::u125::u126::u127::u128::u129::u130::u131::u132::u133::u134::u135::[]),defers:=[] }∧BL wb L W∧Vs [(0,.pointer (some ⟨xE,0,none⟩),s41),(1,.slice (some ⟨bq,oq,none⟩) cols cap,s42),(2,.pointer (some ⟨xE,0,none⟩),s43),(3,.slice (some ⟨bq,oq,none⟩) cols cap,s44),(4,.int .i64 cols,s45),(5,.pointer (some ⟨xE,0,none⟩),s46),(6,.slice (some ⟨bq,oq,none⟩) cols cap,s47),(7,.int .i64 cols,s48),(8,.slice (some ⟨bq,oq,none⟩) cols cols,s49),(9,.pointer (some ⟨xE,1,none⟩),s50),(10,.int .i64 val,s51),(14,.int .i64 0,s55)] l∧(l 11=true→∃ g:Nat,s52=.slice (some ⟨g,0,none⟩) 1 1∧W.cell? ⟨g,0,none⟩=some (.int .i64 val)∧g<W.heap.size)∧(l 12=true→∃ g cap':Nat,s53=.slice (some ⟨g,0,none⟩) (cols+1) cap'∧Sl W (.slice (some ⟨g,0,none⟩) (cols+1) cap') (coef++[val])∧wb.heap.size≤g)∧(l 13=true→s54=.int .i64 ((cols+1:Nat):Int))):=⟨_,fun _ _ _=>Iff.rfl⟩
 refine Ak Iv (by kernel_rfl) (by kernel_rfl) ((hI _ _ _).2 ⟨_,_,_,_,_,_,_,_,_,_,_,_,_,_,_,rfl,hS.drew,Vs.zero,fun h=>off h,fun h=>off h,fun h=>off h⟩) (Ab (k:=0) ?_ (Ab (k:=1) ?_ (Ab (k:=2) ?_ (Ab (k:=3) ?_ (Ab (k:=4) ?_ (Ab (k:=5) ?_ (Ab (k:=6) ?_ (Ab (k:=7) ?_ (Ab (k:=8) ?_ (Ab (k:=9) ?_ (Ab (k:=10) ?_ (Ab (k:=11) ?_ (Ab (k:=12) ?_ (Ab (k:=13) ?_ (Ab (k:=14) ?_ (Af)))))))))))))))) ?_
 ·intro l a W hl hw hsh h K hK
  rw [hI] at h;iterate 15 obtain ⟨_,h⟩:=h
  obtain ⟨rfl,hC,hP,f11,f12,f13⟩:=h
  go_simp
  apply hK.out;rw [hI];iterate 15 apply Exists.intro
  exact ⟨rfl,hC,hP.put 0 rfl rfl rfl,f11,f12,f13⟩
 ·intro l a W hl hw hsh h K hK
  rw [hI] at h;iterate 15 obtain ⟨_,h⟩:=h
  obtain ⟨rfl,hC,hP,f11,f12,f13⟩:=h
  obtain rfl:=hP.get 0 rfl (hw 0 (by kernel_rfl))
  obtain ⟨x0,x1⟩:=hcell.out _ hC
  go_simp
  apply hK.out;rw [hI];iterate 15 apply Exists.intro
  exact ⟨rfl,hC,hP.put 1 rfl rfl rfl,f11,f12,f13⟩
 ·intro l a W hl hw hsh h K hK
  rw [hI] at h;iterate 15 obtain ⟨_,h⟩:=h
  obtain ⟨rfl,hC,hP,f11,f12,f13⟩:=h
  go_simp
  apply hK.out;rw [hI];iterate 15 apply Exists.intro
  exact ⟨rfl,hC,hP.put 2 rfl rfl rfl,f11,f12,f13⟩
 ·intro l a W hl hw hsh h K hK
  rw [hI] at h;iterate 15 obtain ⟨_,h⟩:=h
  obtain ⟨rfl,hC,hP,f11,f12,f13⟩:=h
  obtain rfl:=hP.get 2 rfl (hw 2 (by kernel_rfl))
  obtain ⟨x0,x1⟩:=hcell.out _ hC
  go_simp
  apply hK.out;rw [hI];iterate 15 apply Exists.intro
  exact ⟨rfl,hC,hP.put 3 rfl rfl rfl,f11,f12,f13⟩
 ·intro l a W hl hw hsh h K hK
  rw [hI] at h;iterate 15 obtain ⟨_,h⟩:=h
  obtain ⟨rfl,hC,hP,f11,f12,f13⟩:=h
  obtain rfl:=hP.get 3 rfl (hw 3 (by kernel_rfl))
  go_simp
  apply hK.out;rw [hI];iterate 15 apply Exists.intro
  exact ⟨rfl,hC,hP.put 4 rfl rfl rfl,f11,f12,f13⟩
 ·intro l a W hl hw hsh h K hK
  rw [hI] at h;iterate 15 obtain ⟨_,h⟩:=h
  obtain ⟨rfl,hC,hP,f11,f12,f13⟩:=h
  go_simp
  apply hK.out;rw [hI];iterate 15 apply Exists.intro
  exact ⟨rfl,hC,hP.put 5 rfl rfl rfl,f11,f12,f13⟩
 ·intro l a W hl hw hsh h K hK
  rw [hI] at h;iterate 15 obtain ⟨_,h⟩:=h
  obtain ⟨rfl,hC,hP,f11,f12,f13⟩:=h
  obtain rfl:=hP.get 5 rfl (hw 5 (by kernel_rfl))
  obtain ⟨x0,x1⟩:=hcell.out _ hC
  go_simp
  apply hK.out;rw [hI];iterate 15 apply Exists.intro
  exact ⟨rfl,hC,hP.put 6 rfl rfl rfl,f11,f12,f13⟩
 ·intro l a W hl hw hsh h K hK
  rw [hI] at h;iterate 15 obtain ⟨_,h⟩:=h
  obtain ⟨rfl,hC,hP,f11,f12,f13⟩:=h
  obtain rfl:=hP.get 6 rfl (hw 6 (by kernel_rfl))
  go_simp
  apply hK.out;rw [hI];iterate 15 apply Exists.intro
  exact ⟨rfl,hC,hP.put 7 rfl rfl rfl,f11,f12,f13⟩
 ·intro l a W hl hw hsh h K hK
  rw [hI] at h;iterate 15 obtain ⟨_,h⟩:=h
  obtain ⟨rfl,hC,hP,f11,f12,f13⟩:=h
  obtain rfl:=hP.get 1 rfl (hw 1 (by kernel_rfl))
  obtain rfl:=hP.get 4 rfl (hw 4 (by kernel_rfl))
  obtain rfl:=hP.get 7 rfl (hw 7 (by kernel_rfl))
  go_simp
  apply hK.out;rw [hI];iterate 15 apply Exists.intro
  exact ⟨rfl,hC,hP.put 8 rfl rfl rfl,f11,f12,f13⟩
 ·intro l a W hl hw hsh h K hK
  rw [hI] at h;iterate 15 obtain ⟨_,h⟩:=h
  obtain ⟨rfl,hC,hP,f11,f12,f13⟩:=h
  go_simp
  apply hK.out;rw [hI];iterate 15 apply Exists.intro
  exact ⟨rfl,hC,hP.put 9 rfl rfl rfl,f11,f12,f13⟩
 ·intro l a W hl hw hsh h K hK
  rw [hI] at h;iterate 15 obtain ⟨_,h⟩:=h
  obtain ⟨rfl,hC,hP,f11,f12,f13⟩:=h
  obtain rfl:=hP.get 9 rfl (hw 9 (by kernel_rfl))
  obtain ⟨x0,x1⟩:=hcell.out _ hC
  go_simp
  apply hK.out;rw [hI];iterate 15 apply Exists.intro
  exact ⟨rfl,hC,hP.put 10 rfl rfl rfl,f11,f12,f13⟩
 ·intro l a W hl hw hsh h K hK
  rw [hI] at h;iterate 15 obtain ⟨_,h⟩:=h
  obtain ⟨rfl,hC,hP,f11,f12,f13⟩:=h
  obtain rfl:=hP.get 10 rfl (hw 10 (by kernel_rfl))
  go_simp
  have hb:=(Below.refl W.heap.size W).alloc (Aa _) (.cells #[.int .i64 val] 3)
  apply hK.out;rw [hI];iterate 15 apply Exists.intro
  exact ⟨rfl,hC.call hb,hP.skip 11 rfl,fun _=>⟨_,rfl,(Blk.new W #[.int .i64 val] 3).cell 0,by simp⟩,(fun h=>(let ⟨g,c,e,a,b⟩:=f12 h;⟨g,c,e,a.below hb,b⟩)),f13⟩
 ·intro l a W hl hw hsh h K hK
  rw [hI] at h;iterate 15 obtain ⟨_,h⟩:=h
  obtain ⟨rfl,hC,hP,f11,f12,f13⟩:=h
  obtain rfl:=hP.get 8 rfl (hw 8 (by kernel_rfl))
  obtain ⟨g,rfl,hg,hgl⟩:=f11 (hw 11 (by kernel_rfl))
  rw [if_pos (by rfl)]
  have hco2:Sl W (.slice (some ⟨bq,oq,none⟩) cols cols) coef:=by
   rcases hco.out with ⟨e,rfl⟩ | ⟨b,off,cap2,e,h1,h2,h3,h4⟩
   ·cases e
   ·cases e;exact .inr ⟨_,_,coef.length,rfl,Aa _,by omega,A9 h3 hC.below.size,fun j hj=>(hC.below.cell (p:=⟨_,_,none⟩) h3).trans (h4 j hj)⟩
  refine Df _ Tryz.underlying22 _ _ rfl (some ⟨bq,oq,none⟩) cols coef (by go_simp) hco2 g val (by go_simp) hg (by omega) ?_
  intro g2 cap2 W2 hr hge hb
  apply hK.out;rw [hI];iterate 15 apply Exists.intro
  exact ⟨rfl,hC.call hb,hP.skip 12 rfl,(fun h=>(let ⟨g,e,a,b⟩:=f11 h;⟨g,e,(hb.cell (p:=⟨_,_,none⟩) b).trans a,A9 b hb.size⟩)),fun _=>⟨g2,cap2,rfl,hr,Nat.le_trans hC.below.size hge⟩,f13⟩
 ·intro l a W hl hw hsh h K hK
  rw [hI] at h;iterate 15 obtain ⟨_,h⟩:=h
  obtain ⟨rfl,hC,hP,f11,f12,f13⟩:=h
  obtain ⟨g2,cap2,rfl,hr,hge⟩:=f12 (hw 12 (by kernel_rfl))
  go_simp
  apply hK.out;rw [hI];iterate 15 apply Exists.intro
  exact ⟨rfl,hC,hP.skip 13 rfl,f11,f12,fun _=>rfl⟩
 ·intro l a W hl hw hsh h K hK
  rw [hI] at h;iterate 15 obtain ⟨_,h⟩:=h
  obtain ⟨rfl,hC,hP,f11,f12,f13⟩:=h
  go_simp
  apply hK.out;rw [hI];iterate 15 apply Exists.intro
  exact ⟨rfl,hC,hP.put 11 rfl rfl rfl,f11,f12,f13⟩
 ·intro a W hI'
  have h:=(hI _ _ _).1 hI';clear hI';iterate 15 obtain ⟨_,h⟩:=h
  obtain ⟨rfl,hC,hP,f11,f12,f13⟩:=h
  clear f11
  obtain ⟨g2,cap2,rfl,hr,hge⟩:=f12 (by kernel_rfl)
  obtain rfl:=f13 (by kernel_rfl)
  obtain rfl:=hP.get 11 rfl (by kernel_rfl)
  exact hQ.out _ _ _ _ _ _ _ _ _ _ _ _ g2 cap2 _ hC hr hge
theorem LT {Q:Exit→Act→World→Prop} {u0 u1 u2 u3 u4 u6 u7 u8 u9 u10 u11 u12 u13 u14 u15 u16 u17 u18 u19 u20 u21 u22 u23 u24 u25 u26 u27 u28 u29 u30 u31 u32 u33 u34 u35 u36 u37 u38 u39 u40 u41 u42 u43 u44 u45 u46 u47 u48 u49 u50 u51 u52 u53 u54 u55 u56 u57 u58 u59 u60 u61 u62 u63 u64 u65 u66 u67 u68 u69 u70 u71 u72 u73 u74 u75 u76 u77 u78 u79 u80 u81 u82 u83 u84 u85 u86 u87 u88 u89 u90 u91 u92 u93 u94 u95 u96 u97 u98 u99 u100 u101 u102 u103 u104 u105 u106 u107 u108 u109 u110 u111 u112 u113 u114 u115 u116 u117 u118 u119 u120 u121 u122 u123 u124 u125 u126 u127 u128 u129 u130 u131 u132 u133 u134 u135:Value} {xE:Nat} {val:Int} {coef:List Int} {wb w:World} {L:BLs} (hS:BL wb L w) (hcell:Hid (∀ W,BL wb L W→W.cell? ⟨xE,0,none⟩=some (.slice (none) 0 0)∧W.cell? ⟨xE,1,none⟩=some (.int .i64 val))) (hco:Hid (Sl wb (.slice (none) 0 0) coef)) (hlen:Hid (coef.length=0)) {ops:Array Oper} (ho:getOps Tryz.f37.body 9=some ops)
  (hQ:∀ (v41 v42 v43 v44 v45 v46 v47 v48 v49 v50 v51 v52:Value) (g cap':Nat) (W':World),BL wb L W'→Sl W' (.slice (some ⟨g,0,none⟩) (0+1) cap') (coef++[val])→wb.heap.size≤g→Q .normal { tmps:=List.toArray (u0::u1::u2::u3::u4::.pointer (some ⟨xE,0,none⟩)::u6::u7::u8::u9::u10::u11::u12::u13::u14::u15::u16::u17::u18::u19::u20::u21::u22::u23::u24::u25::u26::u27::u28::u29::u30::u31::u32::u33::u34::u35::u36::u37::u38::u39::u40::v41::v42::v43::v44::v45::v46::v47::v48::v49::v50::v51::v52::.slice (some ⟨g,0,none⟩) (0+1) cap'::.int .i64 ((0+1:Nat):Int)::.int .i64 0::u56::u57::u58::u59::u60::u61::u62::u63::u64::u65::u66::u67::u68::u69::u70::u71::u72::u73::u74::u75::u76::u77::u78::u79::u80::u81::u82::u83::u84::u85::u86::u87::u88::u89::u90::u91::u92::u93::u94::u95::u96::u97::u98::u99::u100::u101::u102::u103::u104::u105::u106::u107::u108::u109::u110::u111::u112::u113::u114::u115::u116::u117::u118::u119::u120::u121::u122::u123::u124::u125::u126::u127::u128::u129::u130::u131::u132::u133::u134::u135::[]),defers:=[] } W') :
  (Code.region 9 ops true).wp Tryz.prog Q { tmps:=List.toArray (u0::u1::u2::u3::u4::.pointer (some ⟨xE,0,none⟩)::u6::u7::u8::u9::u10::u11::u12::u13::u14::u15::u16::u17::u18::u19::u20::u21::u22::u23::u24::u25::u26::u27::u28::u29::u30::u31::u32::u33::u34::u35::u36::u37::u38::u39::u40::u41::u42::u43::u44::u45::u46::u47::u48::u49::u50::u51::u52::u53::u54::u55::u56::u57::u58::u59::u60::u61::u62::u63::u64::u65::u66::u67::u68::u69::u70::u71::u72::u73::u74::u75::u76::u77::u78::u79::u80::u81::u82::u83::u84::u85::u86::u87::u88::u89::u90::u91::u92::u93::u94::u95::u96::u97::u98::u99::u100::u101::u102::u103::u104::u105::u106::u107::u108::u109::u110::u111::u112::u113::u114::u115::u116::u117::u118::u119::u120::u121::u122::u123::u124::u125::u126::u127::u128::u129::u130::u131::u132::u133::u134::u135::[]),defers:=[] } w:=by
 obtain rfl:=Option.some.inj (ho.symm.trans (rfl:getOps Tryz.f37.body 9=some _))
 clear ho
 replace hQ:=A8 hQ
 obtain ⟨Iv,hI⟩:∃ Iv:(Nat→Bool)→Act→World→Prop,∀ l a W,Iv l a W↔(∃ s41 s42 s43 s44 s45 s46 s47 s48 s49 s50 s51 s52 s53 s54 s55:Value,a={ tmps:=List.toArray (u0::u1::u2::u3::u4::.pointer (some ⟨xE,0,none⟩)::u6::u7::u8::u9::u10::u11::u12::u13::u14::u15::u16::u17::u18::u19::u20::u21::u22::u23::u24::u25::u26::u27::u28::u29::u30::u31::u32::u33::u34::u35::u36::u37::u38::u39::u40::s41::s42::s43::s44::s45::s46::s47::s48::s49::s50::s51::s52::s53::s54::s55::u56::u57::u58::u59::u60::u61::u62::u63::u64::u65::u66::u67::u68::u69::u70::u71::u72::u73::u74::u75::u76::u77::u78::u79::u80::u81::u82::u83::u84::u85::u86::u87::u88::u89::u90::u91::u92::u93::u94::u95::u96::u97::u98::u99::u100::u101::u102::u103::u104::u105::u106::u107::u108::u109::u110::u111::u112::u113::u114::u115::u116::u117::u118::u119::u120::u121::u122::u123::u124::u125::u126::u127::u128::u129::u130::u131::u132::u133::u134::u135::[]),defers:=[] }∧BL wb L W∧Vs [(0,.pointer (some ⟨xE,0,none⟩),s41),(1,.slice (none) 0 0,s42),(2,.pointer (some ⟨xE,0,none⟩),s43),(3,.slice (none) 0 0,s44),(4,.int .i64 0,s45),(5,.pointer (some ⟨xE,0,none⟩),s46),(6,.slice (none) 0 0,s47),(7,.int .i64 0,s48),(8,.slice (none) 0 0,s49),(9,.pointer (some ⟨xE,1,none⟩),s50),(10,.int .i64 val,s51),(14,.int .i64 0,s55)] l∧(l 11=true→∃ g:Nat,s52=.slice (some ⟨g,0,none⟩) 1 1∧W.cell? ⟨g,0,none⟩=some (.int .i64 val)∧g<W.heap.size)∧(l 12=true→∃ g cap':Nat,s53=.slice (some ⟨g,0,none⟩) (0+1) cap'∧Sl W (.slice (some ⟨g,0,none⟩) (0+1) cap') (coef++[val])∧wb.heap.size≤g)∧(l 13=true→s54=.int .i64 ((0+1:Nat):Int))):=⟨_,fun _ _ _=>Iff.rfl⟩
 refine Ak Iv (by kernel_rfl) (by kernel_rfl) ((hI _ _ _).2 ⟨_,_,_,_,_,_,_,_,_,_,_,_,_,_,_,rfl,hS.drew,Vs.zero,fun h=>off h,fun h=>off h,fun h=>off h⟩) (Ab (k:=0) ?_ (Ab (k:=1) ?_ (Ab (k:=2) ?_ (Ab (k:=3) ?_ (Ab (k:=4) ?_ (Ab (k:=5) ?_ (Ab (k:=6) ?_ (Ab (k:=7) ?_ (Ab (k:=8) ?_ (Ab (k:=9) ?_ (Ab (k:=10) ?_ (Ab (k:=11) ?_ (Ab (k:=12) ?_ (Ab (k:=13) ?_ (Ab (k:=14) ?_ (Af)))))))))))))))) ?_
 ·intro l a W hl hw hsh h K hK
  rw [hI] at h;iterate 15 obtain ⟨_,h⟩:=h
  obtain ⟨rfl,hC,hP,f11,f12,f13⟩:=h
  go_simp
  apply hK.out;rw [hI];iterate 15 apply Exists.intro
  exact ⟨rfl,hC,hP.put 0 rfl rfl rfl,f11,f12,f13⟩
 ·intro l a W hl hw hsh h K hK
  rw [hI] at h;iterate 15 obtain ⟨_,h⟩:=h
  obtain ⟨rfl,hC,hP,f11,f12,f13⟩:=h
  obtain rfl:=hP.get 0 rfl (hw 0 (by kernel_rfl))
  obtain ⟨x0,x1⟩:=hcell.out _ hC
  go_simp
  apply hK.out;rw [hI];iterate 15 apply Exists.intro
  exact ⟨rfl,hC,hP.put 1 rfl rfl rfl,f11,f12,f13⟩
 ·intro l a W hl hw hsh h K hK
  rw [hI] at h;iterate 15 obtain ⟨_,h⟩:=h
  obtain ⟨rfl,hC,hP,f11,f12,f13⟩:=h
  go_simp
  apply hK.out;rw [hI];iterate 15 apply Exists.intro
  exact ⟨rfl,hC,hP.put 2 rfl rfl rfl,f11,f12,f13⟩
 ·intro l a W hl hw hsh h K hK
  rw [hI] at h;iterate 15 obtain ⟨_,h⟩:=h
  obtain ⟨rfl,hC,hP,f11,f12,f13⟩:=h
  obtain rfl:=hP.get 2 rfl (hw 2 (by kernel_rfl))
  obtain ⟨x0,x1⟩:=hcell.out _ hC
  go_simp
  apply hK.out;rw [hI];iterate 15 apply Exists.intro
  exact ⟨rfl,hC,hP.put 3 rfl rfl rfl,f11,f12,f13⟩
 ·intro l a W hl hw hsh h K hK
  rw [hI] at h;iterate 15 obtain ⟨_,h⟩:=h
  obtain ⟨rfl,hC,hP,f11,f12,f13⟩:=h
  obtain rfl:=hP.get 3 rfl (hw 3 (by kernel_rfl))
  go_simp
  apply hK.out;rw [hI];iterate 15 apply Exists.intro
  exact ⟨rfl,hC,hP.put 4 rfl rfl rfl,f11,f12,f13⟩
 ·intro l a W hl hw hsh h K hK
  rw [hI] at h;iterate 15 obtain ⟨_,h⟩:=h
  obtain ⟨rfl,hC,hP,f11,f12,f13⟩:=h
  go_simp
  apply hK.out;rw [hI];iterate 15 apply Exists.intro
  exact ⟨rfl,hC,hP.put 5 rfl rfl rfl,f11,f12,f13⟩
 ·intro l a W hl hw hsh h K hK
  rw [hI] at h;iterate 15 obtain ⟨_,h⟩:=h
  obtain ⟨rfl,hC,hP,f11,f12,f13⟩:=h
  obtain rfl:=hP.get 5 rfl (hw 5 (by kernel_rfl))
  obtain ⟨x0,x1⟩:=hcell.out _ hC
  go_simp
  apply hK.out;rw [hI];iterate 15 apply Exists.intro
  exact ⟨rfl,hC,hP.put 6 rfl rfl rfl,f11,f12,f13⟩
 ·intro l a W hl hw hsh h K hK
  rw [hI] at h;iterate 15 obtain ⟨_,h⟩:=h
  obtain ⟨rfl,hC,hP,f11,f12,f13⟩:=h
  obtain rfl:=hP.get 6 rfl (hw 6 (by kernel_rfl))
  go_simp
  apply hK.out;rw [hI];iterate 15 apply Exists.intro
  exact ⟨rfl,hC,hP.put 7 rfl rfl rfl,f11,f12,f13⟩
 ·intro l a W hl hw hsh h K hK
  rw [hI] at h;iterate 15 obtain ⟨_,h⟩:=h
  obtain ⟨rfl,hC,hP,f11,f12,f13⟩:=h
  obtain rfl:=hP.get 1 rfl (hw 1 (by kernel_rfl))
  obtain rfl:=hP.get 4 rfl (hw 4 (by kernel_rfl))
  obtain rfl:=hP.get 7 rfl (hw 7 (by kernel_rfl))
  go_simp
  apply hK.out;rw [hI];iterate 15 apply Exists.intro
  exact ⟨rfl,hC,hP.put 8 rfl rfl rfl,f11,f12,f13⟩
 ·intro l a W hl hw hsh h K hK
  rw [hI] at h;iterate 15 obtain ⟨_,h⟩:=h
  obtain ⟨rfl,hC,hP,f11,f12,f13⟩:=h
  go_simp
  apply hK.out;rw [hI];iterate 15 apply Exists.intro
  exact ⟨rfl,hC,hP.put 9 rfl rfl rfl,f11,f12,f13⟩
 ·intro l a W hl hw hsh h K hK
  rw [hI] at h;iterate 15 obtain ⟨_,h⟩:=h
  obtain ⟨rfl,hC,hP,f11,f12,f13⟩:=h
  obtain rfl:=hP.get 9 rfl (hw 9 (by kernel_rfl))
  obtain ⟨x0,x1⟩:=hcell.out _ hC
  go_simp
  apply hK.out;rw [hI];iterate 15 apply Exists.intro
  exact ⟨rfl,hC,hP.put 10 rfl rfl rfl,f11,f12,f13⟩
 ·intro l a W hl hw hsh h K hK
  rw [hI] at h;iterate 15 obtain ⟨_,h⟩:=h
  obtain ⟨rfl,hC,hP,f11,f12,f13⟩:=h
  obtain rfl:=hP.get 10 rfl (hw 10 (by kernel_rfl))
  go_simp
  have hb:=(Below.refl W.heap.size W).alloc (Aa _) (.cells #[.int .i64 val] 3)
  apply hK.out;rw [hI];iterate 15 apply Exists.intro
  exact ⟨rfl,hC.call hb,hP.skip 11 rfl,fun _=>⟨_,rfl,(Blk.new W #[.int .i64 val] 3).cell 0,by simp⟩,(fun h=>(let ⟨g,c,e,a,b⟩:=f12 h;⟨g,c,e,a.below hb,b⟩)),f13⟩
 ·intro l a W hl hw hsh h K hK
  rw [hI] at h;iterate 15 obtain ⟨_,h⟩:=h
  obtain ⟨rfl,hC,hP,f11,f12,f13⟩:=h
  obtain rfl:=hP.get 8 rfl (hw 8 (by kernel_rfl))
  obtain ⟨g,rfl,hg,hgl⟩:=f11 (hw 11 (by kernel_rfl))
  rw [if_pos (by rfl)]
  have hco2:Sl W (.slice (none) 0 0) coef:=by
   rcases hco.out with ⟨e,rfl⟩ | ⟨b,off,cap2,e,h1,h2,h3,h4⟩
   ·exact Sl.nil _
   ·cases e
  refine Df _ Tryz.underlying22 _ _ rfl (none) 0 coef (by go_simp) hco2 g val (by go_simp) hg (by omega) ?_
  intro g2 cap2 W2 hr hge hb
  apply hK.out;rw [hI];iterate 15 apply Exists.intro
  exact ⟨rfl,hC.call hb,hP.skip 12 rfl,(fun h=>(let ⟨g,e,a,b⟩:=f11 h;⟨g,e,(hb.cell (p:=⟨_,_,none⟩) b).trans a,A9 b hb.size⟩)),fun _=>⟨g2,cap2,rfl,hr,Nat.le_trans hC.below.size hge⟩,f13⟩
 ·intro l a W hl hw hsh h K hK
  rw [hI] at h;iterate 15 obtain ⟨_,h⟩:=h
  obtain ⟨rfl,hC,hP,f11,f12,f13⟩:=h
  obtain ⟨g2,cap2,rfl,hr,hge⟩:=f12 (hw 12 (by kernel_rfl))
  go_simp
  apply hK.out;rw [hI];iterate 15 apply Exists.intro
  exact ⟨rfl,hC,hP.skip 13 rfl,f11,f12,fun _=>rfl⟩
 ·intro l a W hl hw hsh h K hK
  rw [hI] at h;iterate 15 obtain ⟨_,h⟩:=h
  obtain ⟨rfl,hC,hP,f11,f12,f13⟩:=h
  go_simp
  apply hK.out;rw [hI];iterate 15 apply Exists.intro
  exact ⟨rfl,hC,hP.put 11 rfl rfl rfl,f11,f12,f13⟩
 ·intro a W hI'
  have h:=(hI _ _ _).1 hI';clear hI';iterate 15 obtain ⟨_,h⟩:=h
  obtain ⟨rfl,hC,hP,f11,f12,f13⟩:=h
  clear f11
  obtain ⟨g2,cap2,rfl,hr,hge⟩:=f12 (by kernel_rfl)
  obtain rfl:=f13 (by kernel_rfl)
  obtain rfl:=hP.get 11 rfl (by kernel_rfl)
  exact hQ.out _ _ _ _ _ _ _ _ _ _ _ _ g2 cap2 _ hC hr hge
end
end Go.Proofs.YtcmomjnailihpaaGreatDoor
