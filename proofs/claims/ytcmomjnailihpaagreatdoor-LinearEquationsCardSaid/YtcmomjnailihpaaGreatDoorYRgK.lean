/- RgK, Cpy, MdC, Hid -/
import Derived.Test.YtcmomjnailihpaaGreatDoorYLcN
set_option maxHeartbeats 8000000
set_option maxRecDepth 100000
namespace Go.Proofs.YtcmomjnailihpaaGreatDoor
section
open Go.RowKit
section
variable {P:Program} {ops:Array Oper} {Q:Exit→Act→World→Prop} {l:Nat→Bool} {a:Act} {W W':World}
def bitsL:List Edge→Nat→Nat
 | [],m=>m
 | e :: es,m=>bitsL es (if Region.binds .any e then m ||| 2 ^ e.on else m)
def bitsOf (ops:Array Oper) (k:Nat):Nat:=match ops[k]? with
 | some o=>bitsL o.after.toList 0
 | none=>0
def ancs (ops:Array Oper):Nat→Nat→Nat
 | 0,m=>m
 | k+1,m=>ancs ops k (if m.testBit k then m ||| bitsOf ops k else m)
def anc (ops:Array Oper) (j:Nat):Nat:=ancs ops j (bitsOf ops j)
theorem Ia:∀ (es:List Edge) (m n:Nat),(bitsL es m).testBit n=true→m.testBit n=true∨∃ e∈es,Region.binds .any e=true∧e.on=n
 | [],m,n,h=>.inl h
 | e :: es,m,n,h=>by
  rcases Ia es _ n h with h1 | ⟨e',h1,h2⟩
  ·by_cases hb:Region.binds .any e=true
   ·rw [if_pos hb,Nat.testBit_or,Nat.testBit_two_pow] at h1
    rcases Bool.or_eq_true_iff.1 h1 with h3 | h3
    ·exact .inl h3
    ·exact .inr ⟨e,List.mem_cons_self,hb,of_decide_eq_true h3⟩
   ·rw [if_neg hb] at h1;exact .inl h1
  ·exact .inr ⟨e',List.mem_cons_of_mem _ h1,h2⟩
theorem CO {k n:Nat} (h:(bitsOf ops k).testBit n=true):∃ o,ops[k]? = some o∧waits o n=true:=by
 unfold bitsOf at h
 cases ho:ops[k]? with
 | none=>rw [ho] at h;simp at h
 | some o =>
  rw [ho] at h
  rcases Ia _ _ _ h with h1 | ⟨e,h1,h2,h3⟩
  ·simp at h1
  ·exact ⟨o,rfl,Array.any_eq_true'.2 ⟨e,by simpa using h1,by simp [h2,h3]⟩⟩
theorem E4 (hsh:ShutL ops l):∀ (k m:Nat),(∀ n,m.testBit n=true→l n=true)→∀ n,(ancs ops k m).testBit n=true→l n=true
 | 0,_,h,n,hn=>h n hn
 | k+1,m,h,n,hn=>by
  refine E4 hsh k _ (fun j hj=>?_) n hn
  by_cases hk:m.testBit k=true
  ·rw [if_pos hk,Nat.testBit_or] at hj
   rcases Bool.or_eq_true_iff.1 hj with h1 | h1
   ·exact h j h1
   ·obtain ⟨o,ho,hw⟩:=CO h1
    exact hsh k j o ho (h k hk) hw
  ·rw [if_neg hk] at hj;exact h j hj
theorem JJ {i j:Nat} {o:Oper} (hsh:ShutL ops l) (ho:ops[i]? = some o) (hw:∀ n,waits o n=true→l n=true) (hj:(anc ops i).testBit j=true):l j=true :=
 E4 hsh i _ (fun n hn=>by
  obtain ⟨o',ho',h⟩:=CO hn
  rw [ho] at ho'
  obtain rfl:=Option.some.inj ho'
  exact hw n h) j hj
theorem Cx {i j:Nat} (hsh:ShutL ops l) (hl:l i=false) (hj:(anc ops j).testBit i=true):l j=false:=by
 cases hc:l j with
 | false=>rfl
 | true =>
  have:=E4 hsh j _ (fun n hn=>by
   obtain ⟨o,ho,h⟩:=CO hn
   exact hsh j n o ho hc h) i hj
  rw [hl] at this;cases this
def phase (l:Nat→Bool):List Nat→Nat
 | []=>0
 | e :: es=>if l e then phase l es+1 else 0
theorem Ek {l l':Nat→Bool}:∀ {es:List Nat},(∀ e∈es,l e=l' e)→phase l es=phase l' es
 | [],_=>rfl
 | e :: es,h=>by
  unfold phase
  rw [h e List.mem_cons_self,Ek fun e' he=>h e' (List.mem_cons_of_mem _ he)]
theorem Fc:∀ {es:List Nat} {k:Nat},k≤es.length→(∀ e∈es.take k,l e=true)→k≤phase l es
 | _,0,_,_=>Nat.zero_le _
 | [],k+1,hk,_=>by simp at hk
 | e :: es,k+1,hk,h=>by
  unfold phase
  rw [if_pos (h e (by simp))]
  exact Nat.succ_le_succ (Fc (by simpa using hk) fun e' he=>h e' (by simp [he]))
theorem Cy:∀ {es:List Nat} {k e:Nat},es[k]? = some e→l e=false→phase l es≤k
 | [],k,_,h,_=>by simp at h
 | x :: es,0,e,h,hl=>by
  simp at h;subst h
  unfold phase;rw [if_neg (by simp [hl])];exact Aa _
 | x :: es,k+1,e,h,hl=>by
  unfold phase
  split
  ·exact Nat.succ_le_succ (Cy (by simpa using h) hl)
  ·exact Nat.zero_le _
theorem E5:∀ {es:List Nat},phase l es≤es.length
 | []=>Aa _
 | x :: es=>by
  unfold phase
  split
  ·exact Nat.succ_le_succ E5
  ·exact Nat.zero_le _
def preB (ops:Array Oper) (es:List Nat) (k i:Nat):Bool:=decide (k≤es.length)&&(es.take k).all fun e=>(anc ops i).testBit e
def postB (ops:Array Oper) (es:List Nat) (k i:Nat):Bool:=match es[k]? with
 | some e=>(e==i) || (anc ops e).testBit i
 | none=>es.length==k
theorem Jc {es:List Nat} {k i:Nat} {o:Oper} (hsh:ShutL ops l) (ho:ops[i]? = some o) (hw:∀ n,waits o n=true→l n=true) (h:preB ops es k i=true):k≤phase l es:=by
 unfold preB at h
 rw [Bool.and_eq_true,List.all_eq_true] at h
 exact Fc (of_decide_eq_true h.1) fun e he=>JJ hsh ho hw (h.2 e he)
theorem post_le {es:List Nat} {k i:Nat} (hsh:ShutL ops l) (hl:l i=false) (h:postB ops es k i=true):phase l es≤k:=by
 unfold postB at h
 split at h
 ·rename_i e he
  refine Cy he ?_
  rcases Bool.or_eq_true_iff.1 h with h1 | h1
  ·rw [beq_iff_eq.1 h1];exact hl
  ·exact Cx hsh hl h1
 ·rw [←beq_iff_eq.1 h];exact E5
theorem FZ {es:List Nat} {k i:Nat} (hk:es[k]? = some i) (h1:phase l es=k) (hn:postB ops es (k+1) i=true) (hsh:ShutL ops l) (hl:l i=false) (hd:nodupB es=true):phase (set1 l i) es=k+1:=by
 have hlen:k<es.length:=(List.getElem?_eq_some_iff.1 hk).1
 have hnd:=D1 hd
 refine Nat.le_antisymm ?_ (Fc hlen fun e he=>?_)
 ·unfold postB at hn
  split at hn
  ·rename_i e he
   refine Cy he ?_
   have hne:e≠i:=fun e'=>by
    subst e'
    have:=(List.getElem?_inj hlen hnd).1 (hk.trans he.symm)
    omega
   rcases Bool.or_eq_true_iff.1 hn with h3 | h3
   ·exact absurd (beq_iff_eq.1 h3) hne
   ·exact I8 (Cx hsh hl h3) hne
  ·rw [←beq_iff_eq.1 hn];exact E5
 ·obtain ⟨j,hj⟩:=List.mem_iff_getElem?.1 he
  rw [List.getElem?_take] at hj
  split at hj
  ·rename_i hjk
   by_cases hji:j=k
   ·subst hji;rw [hk] at hj;obtain rfl:=Option.some.inj hj;simp [set1]
   ·have:l e=true:=by
     cases hc:l e with
     | true=>rfl
     | false=>have:=Cy hj hc;omega
    unfold set1;split
    ·rfl
    ·exact this
  ·cases hj
def At (SL:List (World→Prop)) (k:Nat) (W:World):Prop:=match SL[k]? with
 | some p=>p W
 | none=>False
structure Rg (N:Nat) (us:List Value) (ds:List Nat) (F:FL) (M:ML) (es:List Nat) (C:World→Prop) (SL:List (World→Prop)) (l:Nat→Bool) (a:Act) (W:World):Prop where
 f:Fr us.toArray ds a
 n:us.length=N
 v:Vals F l a
 m:Mems M l a W
 c:C W
 s:At SL (phase l es) W
def okFr (N:Nat) (ds:List Nat) (M:ML):Nat→FL→Bool
 | _,[]=>true
 | i,none :: F=>okFr N ds M (i+1) F
 | i,some (d,_) :: F=>ds.contains d&&decide (d<N)&&((mops M).contains i || !(mslots M).contains d)&&okFr N ds M (i+1) F
theorem Ev {N:Nat} {ds:List Nat} {M:ML}:∀ {F:FL} {i j d:Nat} {v:Value},okFr N ds M i F=true→F[j]? = some (some (d,v))→ds.contains d=true∧d<N∧((mops M).contains (i+j)=false→(mslots M).contains d=false)
 | [],_,_,_,_,_,h=>by simp at h
 | none :: F,i,0,_,_,_,h=>by simp at h
 | none :: F,i,j+1,d,v,h,hj=>by
  have:=Ev (i:=i+1) (j:=j) h (by simpa using hj)
  rwa [show i+1+j=i+(j+1) by omega] at this
 | some x :: F,i,0,d,v,h,hj=>by
  simp at hj;subst hj
  simp only [okFr,Bool.and_eq_true,Bool.or_eq_true,Bool.not_eq_true',decide_eq_true_eq] at h
  exact ⟨h.1.1.1,h.1.1.2,fun e=>h.1.2.resolve_left (by rw [show i=i+0 from rfl,e];decide)⟩
 | some x :: F,i,j+1,d,v,h,hj=>by
  simp only [okFr,Bool.and_eq_true] at h
  have:=Ev (i:=i+1) (j:=j) h.2 (by simpa using hj)
  rwa [show i+1+j=i+(j+1) by omega] at this
structure RgS {Γ:Type} (N:Nat) (ds ms:List Nat) (F:Γ→FL) (M:Γ→ML) (C:World→Prop) (SL:Γ→List (World→Prop)):Prop where
 k:∀ g,(nodupB (slots (F g))&&okFr N ds (M g) 0 (F g)&&nodupB (mops (M g))&&nodupB (mslots (M g)))=true
 ms:∀ g,mops (M g)=ms
 c:∀ W W',Below W.heap.size W W'→C W→C W'
 m:∀ g,MStable (M g)
 s:∀ g,∀ p∈SL g,∀ W W',Below W.heap.size W W'→p W→p W'
theorem G1 {es:List Nat} {i:Nat} (h:es.contains i=false):phase (set1 l i) es=phase l es:=Ek fun e he=>by
 unfold set1
 by_cases hc:e=i
 ·subst hc;rw [List.contains_iff_mem.2 he] at h;cases h
 ·rw [if_neg hc]
section
variable {Γ:Type} {N:Nat} {us:List Value} {ds ms:List Nat} {F:Γ→FL} {M:Γ→ML} {es:List Nat} {C:World→Prop} {SL:Γ→List (World→Prop)} {g:Γ}
theorem Rg.world (h:Rg N us ds (F g) (M g) es C (SL g) l a W) (St:RgS N ds ms F M C SL) (hb:Below W.heap.size W W'):Rg N us ds (F g) (M g) es C (SL g) l a W':=by
 refine ⟨h.f,h.n,h.v,h.m.world (St.m g) hb,St.c _ _ hb h.c,?_⟩
 have:=h.s
 unfold At at this ⊢
 split at this
 ·rename_i p hp;exact St.s g p (List.mem_of_getElem? hp) _ _ hb this
 ·exact this.elim
theorem RgS.parts (St:RgS N ds ms F M C SL) (g:Γ):(slots (F g)).Nodup∧okFr N ds (M g) 0 (F g)=true∧(mops (M g)).Nodup∧(mslots (M g)).Nodup:=by
 have:=St.k g
 simp only [Bool.and_eq_true] at this
 exact ⟨D1 this.1.1.1,this.1.1.2,D1 this.1.2,D1 this.2⟩
theorem Rg.val (h:Rg N us ds (F g) (M g) es C (SL g) l a W) (St:RgS N ds ms F M C SL) {i d:Nat} {v:Value} (hi:(F g)[i]? = some (some (d,v))) (he:es.contains i=false) (h4:ms.contains i=false):Rg N us ds (F g) (M g) es C (SL g) (set1 l i) (a.put (some d) v) W:=by
 obtain ⟨k1,k2,_,_⟩:=St.parts g
 obtain ⟨h2,h3,h5⟩:=Ev k2 hi
 rw [Nat.zero_add,St.ms g] at h5
 rw [←St.ms g] at h4
 have h5:=h5 (by rw [←St.ms g];exact h4)
 refine ⟨h.f.put d _ h2,h.n,h.v.put k1 i hi (by rw [h.f.size,List.size_toArray,h.n];exact h3),h.m.put i d _ h4 h5,h.c,?_⟩
 rw [G1 he];exact h.s
theorem Rg.x (h:Rg N us ds (F g) (M g) es C (SL g) l a W) {o:Oper} (j:Nat) (hw:∀ n,waits o n=true→l n=true) {d:Nat} {v:Value} (hj:(F g)[j]? = some (some (d,v))) (hj':waits o j=true:=by kernel_rfl):a.tmps[d]? = some v:=h.v.get j hj (hw j hj')
theorem Rg.u (h:Rg N us ds (F g) (M g) es C (SL g) l a W) {n:Nat} {v:Value} (hv:us[n]? = some v) (hn:ds.contains n=false:=by kernel_rfl):a.tmps[n]? = some v:=h.f.atl n hv hn
theorem Rg.y (h:Rg N us ds (F g) (M g) es C (SL g) l a W) {o:Oper} {i:Nat} (k:Nat) (hl:l i=false) (hw:∀ n,waits o n=true→l n=true) (hsh:ShutL ops l) {j d:Nat} {e:Option Nat} {p:Value→World→Prop} (hk:(M g)[k]? = some (j,d,p,e)) (hj:waits o j=true:=by kernel_rfl) (he:(match e with
 | none=>true
 | some e=>e==i || (anc ops e).testBit i)=true:=by kernel_rfl):∃ v,a.tmps[d]? = some v∧p v W:=by
 refine h.m.get k hk (hw j hj) ?_
 cases e with
 | none=>rfl
 | some e =>
  refine live_of ?_
  rcases Bool.or_eq_true_iff.1 he with h1 | h1
  ·rw [beq_iff_eq.1 h1];exact hl
  ·exact Cx hsh hl h1
def Each (SL:List (World→Prop)) (W:World) (p:Prop):Nat→Nat→Prop
 | lo,0=>At SL lo W→p
 | lo,n+1=>(At SL lo W→p)∧Each SL W p (lo+1) n
theorem JK {SL:List (World→Prop)} {p:Prop}:∀ {n lo k:Nat},Each SL W p lo n→lo≤k→k≤lo+n→At SL k W→p
 | 0,lo,k,h,h1,h2,hk=>by
  obtain rfl:k=lo:=by omega
  exact h hk
 | n+1,lo,k,h,h1,h2,hk=>by
  by_cases e:k=lo
  ·subst e;exact h.1 hk
  ·exact JK h.2 (by omega) (by omega) hk
theorem Rg.ld (h:Rg N us ds (F g) (M g) es C (SL g) l a W) {o:Oper} (i lo n:Nat) (hl:l i=false) (hw:∀ n,waits o n=true→l n=true) (hsh:ShutL ops l) (ho:ops[i]? = some o) (hc:(preB ops es lo i&&postB ops es (lo+n) i)=true) {p:Prop} (hp:Each (SL g) W p lo n):p:=by
 rw [Bool.and_eq_true] at hc
 exact JK hp (Jc hsh ho hw hc.1) (post_le hsh hl hc.2) h.s
def Iv (N:Nat) (us:List Value) (ds:List Nat) (F:Γ→FL) (M:Γ→ML) (es:List Nat) (C:World→Prop) (SL:Γ→List (World→Prop)) (l:Nat→Bool) (a:Act) (W:World):Prop:=∃ g,Rg N us ds (F g) (M g) es C (SL g) l a W
def plainB (o:Oper) (es ms:List Nat) (i:Nat):Bool:=o.guard.isNone&&!es.contains i&&!ms.contains i
theorem Cz {o:Oper} {es ms:List Nat} {i:Nat} (h:plainB o es ms i=true):o.guard=none∧es.contains i=false∧ms.contains i=false:=by
 unfold plainB at h
 rw [Bool.and_eq_true,Bool.and_eq_true,Bool.not_eq_true',Bool.not_eq_true',Option.isNone_iff_eq_none] at h
 exact ⟨h.1.1,h.1.2,h.2⟩
theorem D2 {o:Oper} {y:Nat→Option Bool} (h:o.guard=none):Region.wanted o y=true:=by unfold Region.wanted;rw [h]
variable {o:Oper}
def Wn (ops:Array Oper) (F:Γ→FL) (o:Oper):Prop:=o.guard=none∨∃ (j e:Nat) (b:Bool),o.guard=some (j,b)∧(ops[j]?).bind (·.dst)=some e∧waits o j=true∧∀ g,(F g)[j]? = some (some (e,.bool b))
theorem Wn.is (h:Wn ops F o) (hw:∀ n,waits o n=true→l n=true) (z:Rg N us ds (F g) (M g) es C (SL g) l a W):Region.wanted o (yielded ops a.tmps)=true:=by
 rcases h with h | ⟨j,e,b,h1,h2,h3,h4⟩
 ·exact D2 h
 ·exact wants h1 h2 (z.v.get j (h4 g) (hw j h3))
theorem wg (j:Nat) {e:Nat} {b:Bool} (h1:o.guard=some (j,b)) (h2:(ops[j]?).bind (·.dst)=some e) (h3:waits o j=true) (h4:∀ g,(F g)[j]? = some (some (e,.bool b))):Wn ops F o:=.inr ⟨j,e,b,h1,h2,h3,h4⟩
theorem GG {a b:List Nat} {i:Nat} (h:(a++b).contains i=false):a.contains i=false∧b.contains i=false:=by
 constructor <;>
 ·cases hc:List.contains _ i with
  | false=>rfl
  | true =>
   rw [List.contains_iff_mem.2 (List.mem_append.2 (by simp only [List.contains_iff_mem] at hc;simp [hc]))] at h
   cases h
theorem stV (St:RgS N ds ms F M C SL) (i:Nat) {d:Nat} {V:Γ→Value} (h0:plainB o es ms i=true) (hi:∀ g,(F g)[i]? = some (some (d,V g)))
  (h:∀ g l a W,l i=false→(∀ n,waits o n=true→l n=true)→ShutL ops l→Rg N us ds (F g) (M g) es C (SL g) l a W→∀ K:Act→World→Prop,K (a.put (some d) (V g)) W→Oper.wp P o a W K Q):StepI P ops Q (Iv N us ds F M es C SL) i o:=fun l a W hl hw hsh ⟨g,z⟩ K hK =>
 want (D2 (Cz h0).1) (h g l a W hl hw hsh z K (hK.out _ _ ⟨g,z.val St (hi g) (Cz h0).2.1 (Cz h0).2.2⟩))
theorem stG (St:RgS N ds ms F M C SL) (i:Nat) {d:Nat} {V:Γ→Value} (h0:Wn ops F o) (he:(es++ms).contains i=false) (hi:∀ g,(F g)[i]? = some (some (d,V g)))
  (h:∀ g l a W,l i=false→(∀ n,waits o n=true→l n=true)→ShutL ops l→Rg N us ds (F g) (M g) es C (SL g) l a W→∀ K:Act→World→Prop,K (a.put (some d) (V g)) W→Oper.wp P o a W K Q):StepI P ops Q (Iv N us ds F M es C SL) i o:=fun l a W hl hw hsh ⟨g,z⟩ K hK =>
 want (h0.is hw z) (h g l a W hl hw hsh z K (hK.out _ _ ⟨g,z.val St (hi g) (GG he).1 (GG he).2⟩))
theorem stC (St:RgS N ds ms F M C SL) (i:Nat) {d:Nat} {V:Γ→Value} (h0:plainB o es ms i=true) (hi:∀ g,(F g)[i]? = some (some (d,V g)))
  (h:∀ g l a W,l i=false→(∀ n,waits o n=true→l n=true)→ShutL ops l→Rg N us ds (F g) (M g) es C (SL g) l a W→∀ K:Act→World→Prop,(∀ W',Below W.heap.size W W'→K (a.put (some d) (V g)) W')→Oper.wp P o a W K Q):StepI P ops Q (Iv N us ds F M es C SL) i o:=fun l a W hl hw hsh ⟨g,z⟩ K hK =>
 want (D2 (Cz h0).1) (h g l a W hl hw hsh z K fun _ hb=>hK.out _ _ ⟨g,(z.world St hb).val St (hi g) (Cz h0).2.1 (Cz h0).2.2⟩)
theorem stH (St:RgS N ds ms F M C SL) (i:Nat) {d:Nat} {V:Γ→Value} (h0:Wn ops F o) (he:(es++ms).contains i=false) (hi:∀ g,(F g)[i]? = some (some (d,V g)))
  (h:∀ g l a W,l i=false→(∀ n,waits o n=true→l n=true)→ShutL ops l→Rg N us ds (F g) (M g) es C (SL g) l a W→∀ K:Act→World→Prop,(∀ W',Below W.heap.size W W'→K (a.put (some d) (V g)) W')→Oper.wp P o a W K Q):StepI P ops Q (Iv N us ds F M es C SL) i o:=fun l a W hl hw hsh ⟨g,z⟩ K hK =>
 want (h0.is hw z) (h g l a W hl hw hsh z K fun _ hb=>hK.out _ _ ⟨g,(z.world St hb).val St (hi g) (GG he).1 (GG he).2⟩)
def okO (ds:List Nat) (F:FL) (es:List Nat) (i d:Nat):Bool:=(match F[i]? with
 | some none=>true
 | _=>false)&&!(slots F).contains d&&ds.contains d&&!es.contains i
theorem okO_of {ds:List Nat} {F:FL} {es:List Nat} {i d:Nat} (h:okO ds F es i d=true):F[i]? = some none∧(slots F).contains d=false∧ds.contains d=true∧es.contains i=false:=by
 unfold okO at h
 simp only [Bool.and_eq_true,Bool.not_eq_true'] at h
 refine ⟨?_,h.1.1.2,h.1.2,h.2⟩
 have:=h.1.1.1
 split at this
 ·assumption
 ·cases this
theorem stM (St:RgS N ds ms F M C SL) (i k:Nat) {d:Nat} {e:Option Nat} {p:Γ→Value→World→Prop} (h0:Wn ops F o) (hi:∀ g,(M g)[k]? = some (i,d,p g,e)) (hk:∀ g,(okO ds (F g) es i d&&decide (d<N))=true)
  (h:∀ g l a W,l i=false→(∀ n,waits o n=true→l n=true)→ShutL ops l→Rg N us ds (F g) (M g) es C (SL g) l a W→∀ K:Act→World→Prop,(∀ v W',Below W.heap.size W W'→p g v W'→K (a.put (some d) v) W')→Oper.wp P o a W K Q):StepI P ops Q (Iv N us ds F M es C SL) i o:=fun l a W hl hw hsh ⟨g,z⟩ K hK=>by
 have h1:=hk g
 simp only [Bool.and_eq_true,decide_eq_true_eq] at h1
 obtain ⟨k1,k2,k3,k4⟩:=okO_of h1.1
 obtain ⟨_,_,k5,k6⟩:=St.parts g
 refine want (h0.is hw z) (h g l a W hl hw hsh z K fun v W' hb hp=>hK.out _ _ ⟨g,?_⟩)
 have z':=z.world St hb
 refine ⟨z'.f.put d _ k3,z'.n,z'.v.other i d _ k1 k2,z'.m.add k i (hi g) k5 k6 (by rw [z'.f.size,List.size_toArray,z'.n];exact h1.2) hp,z'.c,?_⟩
 rw [G1 k4];exact z'.s
def freeB (ops:Array Oper) (i:Nat):ML→Bool
 | []=>true
 | p :: M=>(((anc ops p.1).testBit i&&!(p.1==i)) || (match p.2.2.2 with
  | none=>false
  | some e=>e==i || (anc ops e).testBit i==false&&(anc ops i).testBit e))&&freeB ops i M
theorem GH {i:Nat} (hl:l i=false) (hw:∀ n,waits o n=true→l n=true) (hsh:ShutL ops l) (ho:ops[i]? = some o):∀ {M:ML},freeB ops i M=true→∀ p∈M,set1 l i p.1=false∨live (set1 l i) p.2.2.2=false
 | [],_,p,hp=>by cases hp
 | q :: M,h,p,hp=>by
  unfold freeB at h
  rw [Bool.and_eq_true] at h
  rcases List.mem_cons.1 hp with rfl | hp
  ·rcases Bool.or_eq_true_iff.1 h.1 with h1 | h1
   ·rw [Bool.and_eq_true,Bool.not_eq_true',beq_eq_false_iff_ne] at h1
    exact .inl (I8 (Cx hsh hl h1.1) h1.2)
   ·right
    split at h1
    ·cases h1
    ·rename_i e he
     rw [he]
     rcases Bool.or_eq_true_iff.1 h1 with h2 | h2
     ·rw [beq_iff_eq.1 h2];exact KL _ _
     ·rw [Bool.and_eq_true] at h2
      exact LT (JJ hsh ho hw h2.2)
  ·exact GH hl hw hsh ho h.2 p hp
def patch (m:Nat):Nat→FL→FL→FL
 | _,_,[]=>[]
 | i,F,y :: G=>(if m.testBit i then F.headD y else y) :: patch m (i+1) F.tail G
theorem G4 {m:Nat}:∀ {G F:FL} {i j:Nat},m.testBit (i+j)=false→(patch m i F G)[j]? = G[j]?
 | [],_,_,_,_=>rfl
 | y :: G,F,i,0,h=>by
  have h':m.testBit i=false:=h
  simp [patch,h']
 | y :: G,F,i,j+1,h=>by
  have:=G4 (m:=m) (F:=F.tail) (G:=G) (i:=i+1) (j:=j) (by rw [←h];congr 1;omega)
  simpa [patch] using this
def after (ops:Array Oper) (i:Nat):Nat→Nat
 | 0=>0
 | k+1=>(if (k==i || (anc ops k).testBit i)=true then 2 ^ k else 0) ||| after ops i k
theorem Ib {i:Nat}:∀ {k n:Nat},(after ops i k).testBit n=true→n=i∨(anc ops n).testBit i=true
 | 0,n,h=>by simp [after] at h
 | k+1,n,h=>by
  unfold after at h
  rw [Nat.testBit_or] at h
  rcases Bool.or_eq_true_iff.1 h with h1 | h1
  ·split at h1
   ·rename_i hc
    rw [Nat.testBit_two_pow] at h1
    have:=of_decide_eq_true h1
    subst this
    rcases Bool.or_eq_true_iff.1 hc with h2 | h2
    ·exact .inl (beq_iff_eq.1 h2)
    ·exact .inr h2
   ·simp at h1
  ·exact Ib h1
theorem Jd {F G:FL} {i k:Nat} (h:Vals G l a) (hl:l i=false) (hsh:ShutL ops l) (hF:F=patch (after ops i k) 0 F G):Vals F l a:=h.change fun j=>by
 cases hb:(after ops i k).testBit j with
 | true =>
  rcases Ib hb with rfl | h1
  ·exact .inr hl
  ·exact .inr (Cx hsh hl h1)
 | false =>
  left
  rw [hF]
  exact G4 (by rw [Nat.zero_add];exact hb)
theorem stE (i k:Nat) (h0:Wn ops F o) (ho:ops[i]? = some o) (hk:es[k]? = some i) (hi:∀ g,(F g)[i]? = some none) (hc:(nodupB es&&preB ops es k i&&postB ops es (k+1) i)=true) (hm:∀ g,freeB ops i (M g)=true)
  (h:∀ g l a W,l i=false→(∀ n,waits o n=true→l n=true)→ShutL ops l→Rg N us ds (F g) (M g) es C (SL g) l a W→At (SL g) k W→∀ K:Act→World→Prop,(∀ W',C W'→At (SL g) (k+1) W'→K a W')→Oper.wp P o a W K Q):StepI P ops Q (Iv N us ds F M es C SL) i o:=fun l a W hl hw hsh ⟨g,z⟩ K hK=>by
 simp only [Bool.and_eq_true] at hc
 have hp:phase l es=k:=Nat.le_antisymm (Cy hk hl) (Jc hsh ho hw hc.1.2)
 refine want (h0.is hw z) (h g l a W hl hw hsh z (hp ▸ z.s) K fun W' h1 h2=>hK.out _ _ ⟨g,z.f,z.n,z.v.skip i (hi g),Mems.free (GH hl hw hsh ho (hm g)),h1,?_⟩)
 rw [FZ hk hp hc.2 hsh hl hc.1.1];exact h2
theorem stF (St:RgS N ds ms F M C SL) (i k:Nat) {d:Nat} (h0:Wn ops F o) (ho:ops[i]? = some o) (hk:es[k]? = some i) (hc:(nodupB es&&preB ops es k i&&postB ops es (k+1) i)=true) (hm:∀ g,freeB ops i (M g)=true)
  (h:∀ g l a W,l i=false→(∀ n,waits o n=true→l n=true)→ShutL ops l→Rg N us ds (F g) (M g) es C (SL g) l a W→At (SL g) k W→∀ K:Act→World→Prop,(∀ g' v W',(F g')[i]? = some (some (d,v))→F g'=patch (after ops i ops.size) 0 (F g') (F g)→C W'→At (SL g') (k+1) W'→K (a.put (some d) v) W')→Oper.wp P o a W K Q):StepI P ops Q (Iv N us ds F M es C SL) i o:=fun l a W hl hw hsh ⟨g,z⟩ K hK=>by
 simp only [Bool.and_eq_true] at hc
 have hp:phase l es=k:=Nat.le_antisymm (Cy hk hl) (Jc hsh ho hw hc.1.2)
 refine want (h0.is hw z) (h g l a W hl hw hsh z (hp ▸ z.s) K fun g' v W' e1 e2 h1 h2=>hK.out _ _ ⟨g',?_⟩)
 obtain ⟨k1,k2,_,_⟩:=St.parts g'
 obtain ⟨h3,h4,_⟩:=Ev k2 e1
 refine ⟨z.f.put d _ h3,z.n,(Jd z.v hl hsh e2).put k1 i e1 (by rw [z.f.size,List.size_toArray,z.n];exact h4),Mems.free (GH hl hw hsh ho (hm g')),h1,?_⟩
 rw [FZ hk hp hc.2 hsh hl hc.1.1];exact h2
theorem As (N:Nat) (us:List Value) (ds:List Nat) (F:Γ→FL) (M:Γ→ML) (es:List Nat) (C:World→Prop) (SL:Γ→List (World→Prop)) {id:Nat} (hN:us.length=N) (hm:P.follows .mixedOrders=true) (hb:backward ops=true) (g:Γ) (h0:C W.drew) (h1:At (SL g) 0 W.drew) (hp:(phase (fun j=>decide (j<ops.size)) es==es.length)=true)
  (hs:StepsI P ops Q (Iv N us ds F M es C SL) 0 ops.toList) (hend:∀ g a W,Rg N us ds (F g) (M g) es C (SL g) (fun j=>decide (j<ops.size)) a W→At (SL g) es.length W→Q .normal a W) :
  (Code.region id ops true).wp P Q { tmps:=us.toArray,defers:=[] } W :=
 Ak _ hm hb ⟨g,Fr.start _ _,hN,Vals.zero,Mems.zero,h0,by
  have:phase (fun _=>false) es=0:=by cases es <;> rfl
  rw [this];exact h1⟩ hs fun a W ⟨g,z⟩=>hend g a W z (beq_iff_eq.1 hp ▸ z.s)
end
end
end
section
open Go.RowKit
attribute [local go_sem] Oper.semAt_some
theorem copy_r5 {Q:Exit→Act→World→Prop} {us:List Value} {bP bV pb po m mc i:Nat} {v cv:Value} {xs:List Value} {cols z:Int} {zl:List Int} {w W0:World} {L:BLs} {R:List RowD}  (hn:Hid (i≤1000000)) (hzl:Hid (zl.length≤1000000)) (hi0:(0:Int)≤i) (hi1:(i:Int)<m) (hsl:Hid (∀ W,Mem w L R W→Sl W cv zl)) (mP:(bP,#[.int .i64 cols,.slice (some ⟨pb,po,none⟩) m mc],27)∈L) (x23:Hid (∀ W,Mem w L R W→W.cell? ⟨pb,po+i*2,none⟩=some (cv))) (x30:Hid (∀ W,Mem w L R W→W.cell? ⟨pb,po+i*2+1,none⟩=some (.int .i64 z))) (h0:Hid (Mem w ((bV,#[.int .i64 cols,v],27) :: L) (⟨60,2,v,i,xs⟩ :: R) W0)) (hN:us.length=36) (g1:us[1]? = some (.pointer (some ⟨bP,0,none⟩))) (g3:us[3]? = some (.pointer (some ⟨bV,0,none⟩))) (g4:us[4]? = some (.int .i64 i)) {ops:Array Oper} (ho:getOps Tryz.f32.body 5=some ops)
  (hQ:∀ (x:Nat→Value) (gs24:BLs) (a24:Option Addr) (cap24:Nat) (G33:Nat) (cap33:Nat) (W':World),Hid (InB gs24 (.slice a24 zl.length cap24) zl)→Hid (Mem w ((bV,#[.int .i64 cols,.slice (some ⟨G33,0,none⟩) (i+1) cap33],27) :: (gs24++L)) (⟨60,2,.slice (some ⟨G33,0,none⟩) (i+1) cap33,i+1,xs++[.slice a24 zl.length cap24,.int .i64 z]⟩ :: R) W')→Q .normal { tmps:=(sets [15,16,17,18,19,20,21,22,23,24,25,26,27,28,29,30,31,32,33,34] x us).toArray,defers:=[] } W') :
  (Code.region 5 ops true).wp Tryz.prog Q { tmps:=us.toArray,defers:=[] } W0:=by
 obtain rfl:=Option.some.inj (ho.symm.trans (rfl:getOps Tryz.f32.body 5=some _))
 clear ho
 replace hQ:=A8 hQ
 let Fl:BLs×Option Addr×Nat×Nat×Nat→FL:=fun g=>[some (15,.pointer (some ⟨bV,1,none⟩)),some (16,v),none,some (18,.pointer (some ⟨bP,1,none⟩)),some (19,.slice (some ⟨pb,po,none⟩) m mc),some (20,.int .i64 i),some (21,.pointer (some ⟨pb,po+i*2,none⟩)),some (22,.pointer (some ⟨pb,po+i*2,none⟩)),some (23,cv),some (24,.slice g.2.1 zl.length g.2.2.1),some (25,.pointer (some ⟨bP,1,none⟩)),some (26,.slice (some ⟨pb,po,none⟩) m mc),some (27,.int .i64 i),some (28,.pointer (some ⟨pb,po+i*2,none⟩)),some (29,.pointer (some ⟨pb,po+i*2+1,none⟩)),some (30,.int .i64 z),some (31,.agg #[.slice g.2.1 zl.length g.2.2.1,.int .i64 z]),none,some (33,.slice (some ⟨g.2.2.2.1,0,none⟩) (i+1) g.2.2.2.2),some (34,.pointer (some ⟨bV,1,none⟩)),none]
 let Ml:BLs×Option Addr×Nat×Nat×Nat→ML:=fun g=>[(2,17,(fun yv W=>∃ (g17:Nat),yv=.slice (some ⟨g17,0,none⟩) 0 0∧Mem w ((g17,#[],3) :: ((bV,#[.int .i64 cols,v],27) :: L)) (⟨60,2,v,i,xs⟩ :: R) W),some 9),(17,32,(fun yv W=>∃ (g32:Nat),yv=.slice (some ⟨g32,0,none⟩) 1 1∧Blk W g32 #[.slice g.2.1 zl.length g.2.2.1,.int .i64 z] 60),some 18)]
 let Sl_:BLs×Option Addr×Nat×Nat×Nat→List (World→Prop):=fun g=>[fun W=>Mem w ((bV,#[.int .i64 cols,v],27) :: L) (⟨60,2,v,i,xs⟩ :: R) W,fun W=>InB g.1 (.slice g.2.1 zl.length g.2.2.1) zl∧Mem w ((bV,#[.int .i64 cols,v],27) :: (g.1++L)) (⟨60,2,v,i,xs⟩ :: R) W,fun W=>InB g.1 (.slice g.2.1 zl.length g.2.2.1) zl∧Mem w ((bV,#[.int .i64 cols,v],27) :: (g.1++L)) (⟨60,2,.slice (some ⟨g.2.2.2.1,0,none⟩) (i+1) g.2.2.2.2,i+1,xs++[.slice g.2.1 zl.length g.2.2.1,.int .i64 z]⟩ :: R) W,fun W=>InB g.1 (.slice g.2.1 zl.length g.2.2.1) zl∧Mem w ((bV,#[.int .i64 cols,.slice (some ⟨g.2.2.2.1,0,none⟩) (i+1) g.2.2.2.2],27) :: (g.1++L)) (⟨60,2,.slice (some ⟨g.2.2.2.1,0,none⟩) (i+1) g.2.2.2.2,i+1,xs++[.slice g.2.1 zl.length g.2.2.1,.int .i64 z]⟩ :: R) W]
 have St:RgS 36 [15,16,17,18,19,20,21,22,23,24,25,26,27,28,29,30,31,32,33,34] [2,17] Fl Ml (Mem w L R) Sl_:=⟨fun _=>by kernel_rfl,fun _=>rfl,fun _ _ hb h=>h.call hb,fun g=>List.forall_mem_cons.2 ⟨fun yv W W' hb=>fun ⟨g,e,h⟩=>⟨g,e,h.call hb⟩,List.forall_mem_cons.2 ⟨fun yv W W' hb=>fun ⟨g,e,h⟩=>⟨g,e,h.below hb⟩,(fun _ h=>by cases h)⟩⟩,fun g=>List.forall_mem_cons.2 ⟨fun W W' hb h=>h.call hb,List.forall_mem_cons.2 ⟨fun W W' hb h=>⟨h.1,(h.2).call hb⟩,List.forall_mem_cons.2 ⟨fun W W' hb h=>⟨h.1,(h.2).call hb⟩,List.forall_mem_cons.2 ⟨fun W W' hb h=>⟨h.1,(h.2).call hb⟩,(fun _ h=>by cases h)⟩⟩⟩⟩⟩
 refine As 36 us [15,16,17,18,19,20,21,22,23,24,25,26,27,28,29,30,31,32,33,34] Fl Ml [9,18,20] (Mem w L R) Sl_ hN (by kernel_rfl) (by kernel_rfl) ⟨[],none,0,0,0⟩ h0.out.tail.rtail.drew h0.out.drew (by kernel_rfl) ?_ ?_
 refine Ab (stV St 0 rfl (fun _=>rfl) fun g T E W hl hw hs z K J=>by
  have x3:=z.u g3
  go_simp;exact J) ?_
 refine Ab (stV St 1 rfl (fun _=>rfl) fun g T E W hl hw hs z K J=>by
  have x15:=z.x 0 hw rfl
  have k0:W.cell? ⟨bV,1,none⟩=some (v:Value):=z.ld 1 0 1 hl hw hs rfl (by kernel_rfl) ⟨fun s=>Mem.cell (s) _ _ _ (.head _) 1,fun s=>Mem.cell (And.right (s)) _ _ _ (.head _) 1⟩
  go_simp;exact J) ?_
 refine Ab (stM St 2 0 (.inl rfl) (fun _=>rfl) (fun _=>by kernel_rfl) fun g T E W hl hw hs z K J=>by
  go_simp;exact J _ _ ((Below.refl _ _).alloc (Aa _) _) ⟨_,rfl,z.ld 2 0 0 hl hw hs rfl (by kernel_rfl) (fun s=>Mem.add s _ _)⟩) ?_
 refine Ab (stV St 3 rfl (fun _=>rfl) fun g T E W hl hw hs z K J=>by
  have x1:=z.u g1
  go_simp;exact J) ?_
 refine Ab (stV St 4 rfl (fun _=>rfl) fun g T E W hl hw hs z K J=>by
  have x18:=z.x 3 hw rfl
  have hC:=z.c
  have k0:=(hC.cell _ _ _ mP 1).trans (show _=some (.slice (some ⟨pb,po,none⟩) m mc:Value) from rfl)
  go_simp;exact J) ?_
 refine Ab (stV St 5 rfl (fun _=>rfl) fun g T E W hl hw hs z K J=>by
  have x4:=z.u g4
  go_simp;exact J) ?_
 refine Ab (stV St 6 rfl (fun _=>rfl) fun g T E W hl hw hs z K J=>by
  have x19:=z.x 4 hw rfl
  have x20:=z.x 5 hw rfl
  go_simp;exact J) ?_
 refine Ab (stV St 7 rfl (fun _=>rfl) fun g T E W hl hw hs z K J=>by
  have x21:=z.x 6 hw rfl
  go_simp;exact J) ?_
 refine Ab (stV St 8 rfl (fun _=>rfl) fun g T E W hl hw hs z K J=>by
  have x22:=z.x 7 hw rfl
  have hC:=z.c
  have k0:=x23.out _ hC
  go_simp;exact J) ?_
 refine Ab (stF St 9 0 (.inl rfl) rfl rfl (by kernel_rfl) (fun _=>by kernel_rfl) fun g T E W hl hw hs z q K J=>by
  obtain ⟨_,x17,g17,rfl,hb2⟩:=z.y 0 hl hw hs rfl
  have x23:=z.x 8 hw rfl
  have hM0:Mem _ _ _ _:=q
  have hC:=z.c
  refine GL rfl hb2 (by go_simp) (by go_simp) (hsl.out _ hC) hzl.out ?_
  intro gs24' a24' cap24' W2 hin hM2
  replace hM2:=hM2.front
  exact J ⟨gs24',a24',cap24',g.2.2.2.1,g.2.2.2.2⟩ _ _ rfl (by kernel_rfl) ((hM2.tail.sub (List.sublist_append_right _ _)).rtail) ⟨hin,hM2⟩) ?_
 refine Ab (stV St 10 rfl (fun _=>rfl) fun g T E W hl hw hs z K J=>by
  have x1:=z.u g1
  go_simp;exact J) ?_
 refine Ab (stV St 11 rfl (fun _=>rfl) fun g T E W hl hw hs z K J=>by
  have x25:=z.x 10 hw rfl
  have hC:=z.c
  have k0:=(hC.cell _ _ _ mP 1).trans (show _=some (.slice (some ⟨pb,po,none⟩) m mc:Value) from rfl)
  go_simp;exact J) ?_
 refine Ab (stV St 12 rfl (fun _=>rfl) fun g T E W hl hw hs z K J=>by
  have x4:=z.u g4
  go_simp;exact J) ?_
 refine Ab (stV St 13 rfl (fun _=>rfl) fun g T E W hl hw hs z K J=>by
  have x26:=z.x 11 hw rfl
  have x27:=z.x 12 hw rfl
  go_simp;exact J) ?_
 refine Ab (stV St 14 rfl (fun _=>rfl) fun g T E W hl hw hs z K J=>by
  have x28:=z.x 13 hw rfl
  go_simp;exact J) ?_
 refine Ab (stV St 15 rfl (fun _=>rfl) fun g T E W hl hw hs z K J=>by
  have x29:=z.x 14 hw rfl
  have hC:=z.c
  have k0:=x30.out _ hC
  go_simp;exact J) ?_
 refine Ab (stV St 16 rfl (fun _=>rfl) fun g T E W hl hw hs z K J=>by
  have x24:=z.x 9 hw rfl
  have x30:=z.x 15 hw rfl
  go_simp;exact J) ?_
 refine Ab (stM St 17 1 (.inl rfl) (fun _=>rfl) (fun _=>by kernel_rfl) fun g T E W hl hw hs z K J=>by
  have x31:=z.x 16 hw rfl
  go_simp;exact J _ _ ((Below.refl _ _).alloc (Aa _) _) ⟨_,rfl,Blk.new _ _ _⟩) ?_
 refine Ab (stF St 18 1 (.inl rfl) rfl rfl (by kernel_rfl) (fun _=>by kernel_rfl) fun g T E W hl hw hs z q K J=>by
  have x16:=z.x 1 hw rfl
  obtain ⟨_,x32,g32,rfl,hb17⟩:=z.y 1 hl hw hs rfl
  have hM0:=And.right (q)
  refine FY rfl hM0 (by go_simp) (by go_simp) (hb17.cell 0) (hb17.cell 1) rfl rfl hn.out ?_
  intro G33' cap33' W2 hM2
  exact J ⟨g.1,g.2.1,g.2.2.1,G33',cap33'⟩ _ _ rfl (by kernel_rfl) ((hM2.tail.sub (List.sublist_append_right _ _)).rtail) ⟨(And.left (q)),hM2⟩) ?_
 refine Ab (stV St 19 rfl (fun _=>rfl) fun g T E W hl hw hs z K J=>by
  have x3:=z.u g3
  go_simp;exact J) ?_
 refine Ab (stE 20 2 (.inl rfl) rfl rfl (fun _=>rfl) (by kernel_rfl) (fun _=>by kernel_rfl) fun g T E W hl hw hs z q K J=>by
  have x33:=z.x 18 hw rfl
  have x34:=z.x 19 hw rfl
  have hM0:=And.right (q)
  have y0:=hM0.cell _ _ _ (.head _) 1
  have w0:=hM0.frozen _ _ _ (.head _) 1
  go_simp;exact J _ (((hM0.put0 1 _).tail.sub (List.sublist_append_right _ _)).rtail) ⟨(And.left (q)),(hM0.put0 1 _)⟩) ?_
 ·exact Ag
 ·intro g a W z q
  have hM9:=And.right (q)
  rw [z.f.eqs]
  exact hQ.out _ g.1 g.2.1 g.2.2.1 g.2.2.2.1 g.2.2.2.2  _  (A8 (And.left (q))) (A8 hM9)
def CopyP (w:World) (cols:Int) (rows:List (List Int×Int)) (e:Ending) (w':World):Prop :=
 ∃ (B cap:Nat) (cs:Array Value) (fs:BLs),e=.returned (.agg #[.int .i64 cols,.slice (some ⟨B,0,none⟩) rows.length cap])∧SysB B cap cs fs rows∧Mem w ((B,cs,60) :: fs) [] w'
theorem KQ {α:Type} {l:List α} {i:Nat} {x:α} (h:l[i]? = some x):l.take (i+1)=l.take i++[x]:=by
 rw [List.take_add_one,h];rfl
theorem M0 (cols:Int) (v:Value) (rows:List (List Int×Int)) (w:World) (h:SlE w v rows) (h1:1≤rows.length) (h2:rows.length≤1000000) (h3:∀ r∈rows,1≤r.1.length∧r.1.length≤1000000) :
  Calls Tryz.prog 32 #[.agg #[.int .i64 cols,v]] w (CopyP w cols rows):=by
 rcases h with ⟨rfl,rfl⟩ | ⟨pb,po,mc,rfl,k1,k2,k3,k4⟩
 ·simp at h1
 replace k4:=A8 k4
 replace h3:=A8 h3
 have hend:Hid (∀ fs sv xs W,Mem w ((w.heap.size+1+1,#[.int .i64 cols,sv],27) :: (fs++[(w.heap.size+1,#[.int .i64 0,.slice none 0 0],27),(w.heap.size,#[.int .i64 cols,.slice (some ⟨pb,po,none⟩) rows.length mc],27)])) [⟨60,2,sv,rows.length,xs⟩] W→EqD fs (rows.take rows.length) xs→∃ B cap,sv=.slice (some ⟨B,0,none⟩) rows.length cap∧∀ W',W'=(W.setCell ⟨w.heap.size+1,0,none⟩ (.int .i64 cols)).setCell ⟨w.heap.size+1,1,none⟩ sv→CopyP w cols rows (.returned (.agg #[.int .i64 cols,sv])) W'):=A8 (fun fs sv xs W hM hq=>by
  rw [List.take_length] at hq
  have hF:=Mem.front (A:=(w.heap.size+1+1,#[.int .i64 cols,sv],27) :: fs) (C:=[(w.heap.size,#[.int .i64 cols,.slice (some ⟨pb,po,none⟩) rows.length mc],27)]) hM
  rcases hF.freeze with ⟨_,e0,_,_⟩ | ⟨B,cap,cs,rfl,q1,q2,q3,q4,_⟩
  ·omega
  ·refine ⟨B,cap,rfl,fun W' e=>?_⟩
   have h5:=hF.out2 (.int .i64 cols) (.slice (some ⟨B,0,none⟩) rows.length cap)
   rw [←e] at h5
   rcases h5.freeze with ⟨e1,_,_,_⟩ | ⟨B2,cap2,cs2,e1,p1,p2,p3,p4,h6⟩
   ·cases e1
   ·cases e1
    refine ⟨B,cap,cs2,fs,rfl,⟨p1,p2,p3,by rw [p4];exact hq⟩,h6.sub ?_⟩
    exact List.Sublist.cons_cons _ (List.Sublist.cons _ (List.Sublist.cons _ (List.sublist_append_left fs _))))
 obtain ⟨m,hm⟩:∃ m,m=rows.length:=⟨_,rfl⟩
 rw [←hm] at hend h2 ⊢
 replace hm:=A8 hm
 clear h1 k1 k2
 obtain ⟨V1,e1,S1,s1⟩:=(Mem.start w).add' #[.int .i64 cols,.slice (some ⟨pb,po,none⟩) m mc] 27
 obtain ⟨V2,e2,S2,s2⟩:=S1.add' #[.int .i64 0,.slice none 0 0] 27
 obtain ⟨V3,e3,S3,s3⟩:=S2.add' #[.int .i64 cols,.slice none 0 0] 27
 rw [s2,s1] at S3
 rw [s1] at S2
 rw [e2,e1] at e3
 have hM:=A8 (S3.row0 60 2)
 clear e2 e1 S1 s1 S2 s2 S3 s3
 go_enter Tryz.func32,Tryz.ntmps32
 go_upto_region 2 with fail
 rw [←e3]
 clear e3
 go_wp2_with fail
 go_loopw [4] (fun s wr=>∃ (i:Nat) (fs:BLs) (sv:Value) (xs:List Value),s=.int .i64 i∧i≤m∧Hid (Mem w ((w.heap.size+1+1,#[.int .i64 cols,sv],27) :: (fs++[(w.heap.size+1,#[.int .i64 0,.slice none 0 0],27),(w.heap.size,#[.int .i64 cols,.slice (some ⟨pb,po,none⟩) m mc],27)])) [⟨60,2,sv,i,xs⟩] wr∧EqD fs (rows.take i) xs)) (fun s _=>m-(intOf s).toNat)
 case atStart=>exact ⟨0,[],.slice none 0 0,[],rfl,by omega,A8 ⟨hM.out,EqD.nil⟩⟩
 case round =>
  clear hM
  obtain ⟨i,fs,sv,xs,rfl,hi,hM⟩:=hrel
  have hmP:=A8 (show (w.heap.size,#[.int .i64 cols,.slice (some ⟨pb,po,none⟩) m mc],27)∈((w.heap.size+1+1,#[.int .i64 cols,sv],27) :: (fs++[(w.heap.size+1,#[.int .i64 0,.slice none 0 0],27),(w.heap.size,#[.int .i64 cols,.slice (some ⟨pb,po,none⟩) m mc],27)]):BLs) from List.mem_cons_of_mem _ (List.mem_append_right _ (.tail _ (.head _))))
  have z1:=(hM.out.1.cell _ _ _ hmP.out 1).trans (show _=some (Value.slice (some ⟨pb,po,none⟩) m mc) from rfl)
  by_cases him:i<m
  case neg =>
   have him':¬ (i:Int)<m:=by omega
   obtain rfl:i=m:=by omega
   obtain ⟨B,cap,rfl,hfin⟩:=hend.out _ _ _ _ hM.out.1 hM.out.2
   have hfin:=A8 (hfin _ rfl)
   have y0:=(hM.out.1.cell _ _ _ (.head _) 0).trans (show _=some (Value.int .i64 cols) from rfl)
   have y1:=(hM.out.1.cell _ _ _ (.head _) 1).trans (show _=some (Value.slice (some ⟨B,0,none⟩) i cap) from rfl)
   obtain ⟨g0,g1,f0,f1,x0,x1⟩:=Eq (hM.out.1.blks _ (.tail _ (List.mem_append_right fs (.head _)))) (.int .i64 cols) (.slice (some ⟨B,0,none⟩) i cap)
   clear hM hend hmP
   go_wp2
   exact bodyPost_ret (v:=.agg #[.int .i64 cols,.slice (some ⟨B,0,none⟩) i cap]) (by simp [results,Tryz.results32,go_sem,x0,x1]) rfl hfin.out
  case pos =>
   have him':(i:Int)<m:=by omega
   have hi0:(0:Int)≤i:=by omega
   obtain ⟨r,hr⟩:∃ r,rows[i]? = some r:=⟨_,List.getElem?_eq_getElem (by rw [←hm.out];exact him)⟩
   obtain ⟨cv,c1,c2,c3⟩:=k4.out i r hr
   have hrl:=A8 (h3.out r (List.mem_of_getElem? hr))
   have hts:=A8 (KQ hr)
   replace c2:=A8 c2
   replace hr:=A8 hr
   go_upto_region 5 with fail
   refine copy_r5 (bP:=w.heap.size) (bV:=w.heap.size+1+1) (pb:=pb) (po:=po) (m:=m) (mc:=mc) (i:=i) (v:=sv) (cv:=cv) (xs:=xs) (cols:=cols) (z:=r.2) (zl:=r.1) (w:=w) (L:=fs++[(w.heap.size+1,#[.int .i64 0,.slice none 0 0],27),(w.heap.size,#[.int .i64 cols,.slice (some ⟨pb,po,none⟩) m mc],27)]) (R:=[]) (A8 (by omega)) (A8 hrl.out.2) hi0 him' (A8 fun W hW=>c2.out.below hW.below) (List.mem_append_right _ (.tail _ (.head _))) (A8 fun W hW=>hW.old k3 c1) (A8 fun W hW=>hW.old k3 c3) (A8 hM.out.1) rfl rfl rfl rfl (by kernel_rfl) ?_
   intro xx gs a24 cap24 G33 cap33 W5 hin hM5
   simp only [sets,List.foldl_cons,List.foldl_nil,A5,A6]
   have hq:=A8 hM.out.2
   clear hM c1 c3 z1 hmP
   go_wp2_with fail
   go_roundw
   case rel =>
    obtain ⟨p,hp,hb⟩:=InB.box hin.out hrl.out.1
    exact ⟨i+1,fs++[p],_,_,by go_num,by omega,A8 ⟨hM5.out.tuck hp,by rw [hts.out];exact hq.out.snoc hb⟩⟩
   case measure=>simp [intOf];omega
theorem made_l0 {Q:Exit→Act→World→Prop} {u0 u2 u6 u7 u8 u9 u10 u11 u12 u13 u14 u15 u16 u17 u18 u19 u20 u21 u22 u23 u24 u25 u26 u27 u28 u29 u30 u31 u32 u33 u34 u35 u36 u37 u38 u39 u40 u41 u42 u43 u44 u45 u46 u47 u48 u49 u50 u51 u52 u53 u54 u55 u56 u57 u58 u59 u60 u61 u62 u63 u64 u65 u66 u67 u68 u69 u70 u71 u72 u73 u74 u75 u76 u77 u78 u79 u80 u81 u82 u83 u84:Value} {x:NumL} {bN bS r c:Nat} {ac ah:Option Addr} {nc cc nh ch:Nat} {w W0:World} {L:BLs} {R:List RowD} (hc:Hid (c=x.c)) (hr:Hid (r=x.r)) (hN:Hid ((bN,#[.int .i64 x.cols,.int .i64 x.rows,.slice ac nc cc,.slice ah nh ch,.int .i64 x.miss],24)∈L))
  (AC:Hid (∀ W,Below w.heap.size w W→∀ k:Nat,Calls Tryz.prog 36 #[.slice ac nc cc,.int .i64 k] W (Rets W (.int .i64 (atv x.coefs k))))) (AH:Hid (∀ W,Below w.heap.size w W→∀ k:Nat,Calls Tryz.prog 36 #[.slice ah nh ch,.int .i64 k] W (Rets W (.int .i64 (atv x.hidden k))))) (hf:Hid (∀ k,Fits (atv x.coefs k)∧Fits (atv x.hidden k))) (hm:Hid (Fits x.miss)) (h0:Hid (Mem w ((bS,#[.int .i64 c,.slice none 0 0],27) :: L) R W0)) {body:Code} (hbody:getLoop Tryz.f11.body 0=some body)
  (hQ:∀ (fs:BLs) (sv:Value) (xs:List Value) (v5 v6 v7 v8 v18 v19 v20 v21 v22 v23 v24 v25 v26 v27 v28 v29 v30 v31 v32 v33 v34 v35 v36 v37 v38 v39 v40 v41 v42 v43 v44 v45 v46 v47 v48 v49 v50 v51 v52 v53 v54 v55 v56 v57 v58 v59 v60 v61 v62 v63 v64 v65 v66 v67 v68 v69 v70 v71 v72 v73 v74 v75 v76 v77 v78 v79 v80 v81 v82 v83:Value) (W':World),Hid (Mem w ((bS,#[.int .i64 c,sv],27) :: (fs++L)) (⟨60,2,sv,r,xs⟩ :: R) W'∧EqsAt fs ((List.range r).map x.row) xs)→Q (.exit 0) { tmps:=List.toArray (u0::.pointer (some ⟨bN,0,none⟩)::u2::.pointer (some ⟨bS,0,none⟩)::.int .i64 r::v5::v6::v7::v8::u9::u10::u11::u12::u13::u14::u15::u16::u17::v18::v19::v20::v21::v22::v23::v24::v25::v26::v27::v28::v29::v30::v31::v32::v33::v34::v35::v36::v37::v38::v39::v40::v41::v42::v43::v44::v45::v46::v47::v48::v49::v50::v51::v52::v53::v54::v55::v56::v57::v58::v59::v60::v61::v62::v63::v64::v65::v66::v67::v68::v69::v70::v71::v72::v73::v74::v75::v76::v77::v78::v79::v80::v81::v82::v83::u84::[]),defers:=[] } W') :
  (Code.loop body).wp Tryz.prog Q { tmps:=List.toArray (u0::.pointer (some ⟨bN,0,none⟩)::u2::.pointer (some ⟨bS,0,none⟩)::.int .i64 r::.int .i64 0::u6::u7::u8::u9::u10::u11::u12::u13::u14::u15::u16::u17::u18::u19::u20::u21::u22::u23::u24::u25::u26::u27::u28::u29::u30::u31::u32::u33::u34::u35::u36::u37::u38::u39::u40::u41::u42::u43::u44::u45::u46::u47::u48::u49::u50::u51::u52::u53::u54::u55::u56::u57::u58::u59::u60::u61::u62::u63::u64::u65::u66::u67::u68::u69::u70::u71::u72::u73::u74::u75::u76::u77::u78::u79::u80::u81::u82::u83::u84::[]),defers:=[] } W0:=by
 obtain rfl:=Option.some.inj (hbody.symm.trans (rfl:getLoop Tryz.f11.body 0=some _))
 clear hbody
 replace hQ:=A8 hQ
 go_loopw [5] (fun s wr=>∃ (i:Nat) (fs:BLs) (sv:Value) (xs:List Value),s=.int .i64 i∧i≤r∧Hid (Mem w ((bS,#[.int .i64 c,sv],27) :: (fs++L)) (⟨60,2,sv,i,xs⟩ :: R) wr∧EqsAt fs ((List.range i).map x.row) xs)) (fun s _=>r-(intOf s).toNat)
 case atStart=>exact ⟨0,[],.slice none 0 0,[],rfl,by omega,A8 ⟨h0.out.row0 60 2,EqsAt.nil _⟩⟩
 case round =>
  clear h0
  obtain ⟨i,fs,sv,xs,rfl,hi,hM⟩:=hrel
  by_cases hir:i<r
  case neg =>
   have hir':¬ (i:Int)<r:=by omega
   obtain rfl:i=r:=by omega
   go_wp2_with fail
   exact hQ.out fs sv xs _ _ _ _ _ _ _ _ _ _ _ _ _ _ _ _ _ _ _ _ _ _ _ _ _ _ _ _ _ _ _ _ _ _ _ _ _ _ _ _ _ _ _ _ _ _ _ _ _ _ _ _ _ _ _ _ _ _ _ _ _ _ _ _ _ _ _ _ _ _ _ hM
  case pos =>
   have hir':(i:Int)<r:=by omega
   obtain ⟨W1,eW,hM1,hB⟩:=hM.out.1.add' #[.slice none 0 0,.int .i64 0] 60
   have hE:=A8 hM.out.2
   obtain ⟨B,eB⟩:∃ B,B=wr.heap.size:=⟨_,rfl⟩
   rw [←eB] at hM1 hB
   go_upto_region 7 with fail
   rw [←eW,←eB]
   replace hM1:=A8 hM1
   clear hM eW hB eB
   go_wp2_with fail
   refine made_l2 (x:=x) (bN:=bN) (bS:=bS) (bE:=B) (i:=i) (c:=c) (cv:=.slice ac nc cc) (hv:=.slice ah nh ch) (w:=w) (L:=(bS,#[.int .i64 c,sv],27) :: (fs++L)) (R:=⟨60,2,sv,i,xs⟩ :: R) hc (A8 (by have:=x.r_eq;have:=hr.out;omega)) (A8 fun W hW=>⟨hW.cell _ _ _ (List.mem_cons_of_mem _ (List.mem_append_right _ hN.out)) 2,hW.cell _ _ _ (List.mem_cons_of_mem _ (List.mem_append_right _ hN.out)) 3⟩) (A8 fun W hW=>hW.cell _ _ _ List.mem_cons_self 0) (A8 fun W hW k=>AC.out W hW.below k) (A8 fun W hW k=>AH.out W hW.below k) hf hM1 (by kernel_rfl) ?_
   intro vf u7 u8 u24 u25 u26 u27 u28 u29 u30 u31 u32 u33 u34 u35 u36 u37 u38 u39 u40 u41 u42 u43 u44 u45 u46 u47 u48 u49 u50 u51 u52 u53 u54 u55 u56 u57 W2 hM2
   clear hM1
   have hxs:((List.range c).map fun k=>Value.int .i64 (x.coef i k))=((List.range c).map (x.coef i)).map (Value.int .i64):=by rw [List.map_map];rfl
   rw [hxs] at hM2
   clear hxs
   have hlen:((List.range c).map (x.coef i)).length=c:=by simp
   obtain ⟨gs,hin,hM3⟩:=hM2.out.freezeI (l:=(List.range c).map (x.coef i)) hlen.symm
   obtain ⟨av,cp,rfl⟩:=hin.shape
   rw [hlen] at hin hM3 hM2
   clear hM2 hlen
   replace hin:=A8 hin
   have hM3:=A8 hM3
   have hrb:=x.r_eq
   have hrr:=hr.out
   have hi5:i≤5:=by omega
   have hr5:r≤5:=by omega
   replace hrr:=A8 hrr
   clear hrb
   have hre:Hid ((List.range (i+1)).map x.row=(List.range i).map x.row++[((List.range c).map (x.coef i),x.val i)]):=A8 (by rw [List.range_succ,List.map_append,hc.out];rfl)
   have hval:Hid (x.val i=if x.hit i then x.sum i c+pkv (x.miss.tdiv 30) 41-20 else x.sum i c):=A8 (by unfold NumL.val;rw [hc.out])
   have hsb:=x.sum_small i (k:=c) (by have:=x.c_eq;have:=hc.out;omega)
   have hmb:=hm.out
   unfold Fits at hmb
   have hmem:Hid (∀ V,(bN,#[.int .i64 x.cols,.int .i64 x.rows,.slice ac nc cc,.slice ah nh ch,.int .i64 x.miss],24)∈(gs++(B,#[.slice av c cp,.int .i64 V],60) :: (bS,#[.int .i64 c,sv],27) :: (fs++L):BLs)):=A8 (fun V=>List.mem_append_right _ (List.mem_cons_of_mem _ (List.mem_cons_of_mem _ (List.mem_append_right _ hN.out))))
   generalize x.sum i c=s0 at *
   have z0:=hM3.out.cell _ _ _ (hmem.out _) 0
   have z1:=hM3.out.cell _ _ _ (hmem.out _) 1
   have z2:=hM3.out.cell _ _ _ (hmem.out _) 2
   have z3:=hM3.out.cell _ _ _ (hmem.out _) 3
   have z4:=hM3.out.cell _ _ _ (hmem.out _) 4
   have MS:=A8 (fun W=>IV x.cols x.rows x.miss (.slice ac nc cc) (.slice ah nh ch) _ _ _ _ _ _ rfl rfl hm.out W)
   have hmd:Fits (x.miss.tdiv 3):=(tdivL3 hm.out).1
   have hmd2:Fits (x.miss.tdiv 30):=(tdivL30 hm.out).1
   have hq1:IntKind.i64.wrap (x.miss.tdiv 3)=x.miss.tdiv 3:=(tdivL3 hm.out).2
   have hq2:IntKind.i64.wrap (x.miss.tdiv 30)=x.miss.tdiv 30:=(tdivL30 hm.out).2
   cases hmis:pkv x.miss 3==2
   case false =>
    have hv:Hid (x.val i=s0):=A8 (by rw [hval.out];unfold NumL.hit NumL.misses;rw [hmis];rfl)
    rw [hmis] at MS
    clear hmis hval
    go_wp2_with fail
    refine Calls.mono (MS.out _) ?_
    rintro e w3 ⟨rfl,hb⟩
    have hM3:=A8 (hM3.out.call hb)
    clear hb z0 z1 z2 z3 z4 hq1 hq2 hmd hmd2
    have hM6:=A8 (hM3.out.front2)
    have y0:=(hM3.out.cell _ _ _ (List.mem_append_right _ List.mem_cons_self) 0).trans (show _=some (Value.slice av c cp) from rfl)
    have y1:=(hM3.out.cell _ _ _ (List.mem_append_right _ List.mem_cons_self) 1).trans (show _=some (Value.int .i64 (s0)) from rfl)
    have y2:=(hM6.out.cell _ _ _ List.mem_cons_self 1).trans (show _=some sv from rfl)
    clear hM3
    go_upto_region 5 with (at_builtin;refine D0 rfl rfl (hM6.out.new _) rfl rfl ((Blk.new _ _ _).cell 0) ((Blk.new _ _ _).cell 1) rfl rfl (by omega) ?_;intro g2 c2 W8 hM8;have q0:=hM8.cell bS _ _ (.head _) 1;have q1:=hM8.frozen bS _ _ (.head _) 1;replace hM8:=hM8.put0 1 (.slice (some ⟨g2,0,none⟩) (i+1) c2))
    go_wp2_with fail
    go_roundw
    case rel=>exact ⟨i+1,gs++fs,_,_,by go_num,by omega,A8 ⟨by rw [List.append_assoc];assumption,by rw [hre.out,hv.out];exact hE.out.snoc (hin.out.mono (fun p hp=>List.mem_append_left _ hp)) (fun p hp=>List.mem_append_right _ hp)⟩⟩
    case measure=>simp [intOf];omega
   case true =>
    have P3:=A8 (fun W=>AF (x.miss.tdiv 3) r hmd (by omega) (by omega) W)
    have P4:=A8 (fun W=>AF (x.miss.tdiv 30) 41 hmd2 (by decide) (by decide) W)
    have hp1:=Aw (c:=x.miss.tdiv 30) (m:=41) (by decide)
    have hp2:=BH (c:=x.miss.tdiv 30) (m:=41) (by decide)
    have hhit:Hid (x.hit i=((i:Int)==pkv (x.miss.tdiv 3) r)):=A8 (by unfold NumL.hit NumL.misses;rw [hmis,hrr.out];rfl)
    rw [hmis] at MS
    clear hmis
    generalize pkv (x.miss.tdiv 3) r=p3 at *
    generalize pkv (x.miss.tdiv 30) 41=p4 at *
    go_wp2_with fail
    refine Calls.mono (MS.out _) ?_
    rintro e w3 ⟨rfl,hb⟩
    have hM3:=A8 (hM3.out.call hb)
    clear hb z0 z1 z2 z3 z4
    have z4:=hM3.out.cell _ _ _ (hmem.out _) 4
    go_wp2_with fail
    refine Calls.mono (P3.out _) ?_
    rintro e w4 ⟨rfl,hb⟩
    have hM3:=A8 (hM3.out.call hb)
    clear hb z4
    cases heq:(i:Int)==p3
    case false =>
     have hv:Hid (x.val i=s0):=A8 (by rw [hval.out,hhit.out,heq];rfl)
     clear hval hhit
     have hM6:=A8 (hM3.out.front2)
     have y0:=(hM3.out.cell _ _ _ (List.mem_append_right _ List.mem_cons_self) 0).trans (show _=some (Value.slice av c cp) from rfl)
     have y1:=(hM3.out.cell _ _ _ (List.mem_append_right _ List.mem_cons_self) 1).trans (show _=some (Value.int .i64 (s0)) from rfl)
     have y2:=(hM6.out.cell _ _ _ List.mem_cons_self 1).trans (show _=some sv from rfl)
     clear hM3
     go_upto_region 5 with (at_builtin;refine D0 rfl rfl (hM6.out.new _) rfl rfl ((Blk.new _ _ _).cell 0) ((Blk.new _ _ _).cell 1) rfl rfl (by omega) ?_;intro g2 c2 W8 hM8;have q0:=hM8.cell bS _ _ (.head _) 1;have q1:=hM8.frozen bS _ _ (.head _) 1;replace hM8:=hM8.put0 1 (.slice (some ⟨g2,0,none⟩) (i+1) c2))
     go_wp2_with fail
     go_roundw
     case rel=>exact ⟨i+1,gs++fs,_,_,by go_num,by omega,A8 ⟨by rw [List.append_assoc];assumption,by rw [hre.out,hv.out];exact hE.out.snoc (hin.out.mono (fun p hp=>List.mem_append_left _ hp)) (fun p hp=>List.mem_append_right _ hp)⟩⟩
     case measure=>simp [intOf];omega
    case true =>
     have hv:Hid (x.val i=s0+p4-20):=A8 (by rw [hval.out,hhit.out,heq];rfl)
     clear hval hhit
     go_upto_region 14 with fail
     refine M4 (bN:=bN) (bE:=B) (v:=.slice av c cp) (w:=w) (L:=gs++(bS,#[.int .i64 c,sv],27) :: (fs++L)) (R:=⟨60,2,sv,i,xs⟩ :: R) (ms:=x.miss) (mq:=x.miss.tdiv 30) (pk:=p4) (sa:=s0+p4) (s0:=s0) (s1:=s0+p4-20) hq2 (IntWalk.i64_in _ (by omega)) (IntWalk.i64_in _ (by omega)) (A8 fun W hW=>hW.cell _ _ _ (List.mem_append_right _ (List.mem_cons_of_mem _ (List.mem_append_right _ hN.out))) 4) P4 (A8 hM3.out.front) (by kernel_rfl) ?_
     intro z69 z70 z71 z72 z73 z74 z75 z76 z77 W5 hM5
     have hM3:=A8 hM5
     clear hM5
     have hM6:=A8 (hM3.out.tail.front)
     have y0:=(hM3.out.cell _ _ _ List.mem_cons_self 0).trans (show _=some (Value.slice av c cp) from rfl)
     have y1:=(hM3.out.cell _ _ _ List.mem_cons_self 1).trans (show _=some (Value.int .i64 (s0+p4-20)) from rfl)
     have y2:=(hM6.out.cell _ _ _ List.mem_cons_self 1).trans (show _=some sv from rfl)
     clear hM3
     go_upto_region 5 with (at_builtin;refine D0 rfl rfl (hM6.out.new _) rfl rfl ((Blk.new _ _ _).cell 0) ((Blk.new _ _ _).cell 1) rfl rfl (by omega) ?_;intro g2 c2 W8 hM8;have q0:=hM8.cell bS _ _ (.head _) 1;have q1:=hM8.frozen bS _ _ (.head _) 1;replace hM8:=hM8.put0 1 (.slice (some ⟨g2,0,none⟩) (i+1) c2))
     go_wp2_with fail
     go_roundw
     case rel=>exact ⟨i+1,gs++fs,_,_,by go_num,by omega,A8 ⟨by rw [List.append_assoc];assumption,by rw [hre.out,hv.out];exact hE.out.snoc (hin.out.mono (fun p hp=>List.mem_append_left _ hp)) (fun p hp=>List.mem_append_right _ hp)⟩⟩
     case measure=>simp [intOf];omega
theorem M5 (x:NumL) (vc vh:Value) (w:World) (hc:Sl w vc x.coefs) (hh:Sl w vh x.hidden) (hF:Fits x.cols∧Fits x.rows∧Fits x.miss) (hf:∀ k,Fits (atv x.coefs k)∧Fits (atv x.hidden k)) :
  Calls Tryz.prog 11 #[.agg #[.int .i64 x.cols,.int .i64 x.rows,vc,vh,.int .i64 x.miss]] w fun e w'=>∃ v,e=.returned (.agg #[.int .i64 x.c,v])∧SlE w' v x.made∧Below w.heap.size w w':=by
 obtain ⟨ac,cc,rfl⟩:=hc.shape
 obtain ⟨ah,ch,rfl⟩:=hh.shape
 have HC:=A8 hc
 have HH:=A8 hh
 have AC:=A8 (fun W (hW:Below w.heap.size w W) (k:Nat)=>Es (.slice ac x.coefs.length cc) x.coefs k W (HC.out.below hW))
 have AH:=A8 (fun W (hW:Below w.heap.size w W) (k:Nat)=>Es (.slice ah x.hidden.length ch) x.hidden k W (HH.out.below hW))
 replace hf:=A8 hf
 have hm:=A8 hF.2.2
 have P1:=A8 (fun W=>AF x.cols 8 hF.1 (by decide) (by decide) W)
 have P2:=A8 (fun W=>AF x.rows 5 hF.2.1 (by decide) (by decide) W)
 have hcq:=x.c_eq
 have hrq:=x.r_eq
 obtain ⟨c,hc0⟩:∃ c,c=x.c:=⟨_,rfl⟩
 obtain ⟨r,hr0⟩:∃ r,r=x.r:=⟨_,rfl⟩
 rw [←hc0] at hcq
 rw [←hr0] at hrq
 have hw1:IntKind.i64.wrap (1+pkv x.cols 8)=(c:Int):=by rw [←hcq.1];exact IntWalk.i64_in _ (by omega)
 have hw2:IntKind.i64.wrap (1+pkv x.rows 5)=(r:Int):=by rw [←hrq.1];exact IntWalk.i64_in _ (by omega)
 have hmade:Hid ((List.range r).map x.row=x.made):=A8 (by rw [hr0];rfl)
 rw [←hc0]
 replace hc0:=A8 hc0
 replace hr0:=A8 hr0
 generalize pkv x.cols 8=p1 at *
 generalize pkv x.rows 5=p2 at *
 clear hc hh hF hcq hrq
 generalize x.coefs.length=nc at *
 generalize x.hidden.length=nh at *
 obtain ⟨V1,e1,S1,s1⟩:=(Mem.start w).add' #[.int .i64 x.cols,.int .i64 x.rows,.slice ac nc cc,.slice ah nh ch,.int .i64 x.miss] 24
 obtain ⟨V2,e2,S2,s2⟩:=S1.add' #[.int .i64 0,.slice none 0 0] 27
 rw [s1] at S2
 rw [e1] at e2
 have hM:=A8 S2
 have z0:=S2.cell w.heap.size _ _ (.tail _ (.head _)) 0
 have z1:=S2.cell w.heap.size _ _ (.tail _ (.head _)) 1
 clear e1 S1 s1 S2 s2 HC HH
 go_enter Tryz.func11,Tryz.ntmps11
 go_upto_region 1 with fail
 rw [←e2]
 clear e2
 go_wp2_with fail
 refine Calls.mono (P1.out _) ?_
 rintro e w1 ⟨rfl,hb⟩
 replace hM:=A8 (hM.out.call hb)
 clear z0 z1 hb
 obtain ⟨V3,e3,S3,s3⟩:=hM.out.add' #[.int .i64 c,.slice none 0 0] 27
 have z1:=S3.cell w.heap.size _ _ (.tail _ (.tail _ (.head _))) 1
 obtain ⟨B,hB⟩:∃ B,B=w1.heap.size:=⟨_,rfl⟩
 rw [←hB] at S3
 replace hM:=A8 S3
 clear S3 s3
 go_upto_region 2 with fail
 rw [←e3,←hB]
 clear e3 hB
 go_wp2_with fail
 refine Calls.mono (P2.out _) ?_
 rintro e w2 ⟨rfl,hb⟩
 replace hM:=A8 (hM.out.call hb)
 clear z1 hb
 go_wp2_with fail
 refine made_l0 (x:=x) (bN:=w.heap.size) (bS:=B) (r:=r) (c:=c) (ac:=ac) (ah:=ah) (nc:=nc) (cc:=cc) (nh:=nh) (ch:=ch) (w:=w) (L:=[(w.heap.size+1,#[.int .i64 0,.slice none 0 0],27),(w.heap.size,#[.int .i64 x.cols,.int .i64 x.rows,.slice ac nc cc,.slice ah nh ch,.int .i64 x.miss],24)]) (R:=[]) hc0 hr0 (A8 (.tail _ (.head _))) AC AH hf hm hM (by kernel_rfl) ?_
 clear hM
 intro fs sv xs _ _ _ _ _ _ _ _ _ _ _ _ _ _ _ _ _ _ _ _ _ _ _ _ _ _ _ _ _ _ _ _ _ _ _ _ _ _ _ _ _ _ _ _ _ _ _ _ _ _ _ _ _ _ _ _ _ _ _ _ _ _ _ _ _ _ _ _ _ _ W3 hM
 have hF:=Mem.front (A:=(B,#[.int .i64 c,sv],27) :: fs) (C:=[(w.heap.size,#[.int .i64 x.cols,.int .i64 x.rows,.slice ac nc cc,.slice ah nh ch,.int .i64 x.miss],24)]) hM.out.1
 have hrl:r=x.made.length:=by rw [x.made_len];exact hr0.out
 have hq:=hM.out.2
 rw [hmade.out] at hq
 obtain ⟨a,cp,hsv⟩:=(hq.slE hM.out.1 hrl (fun p hp=>List.mem_cons_of_mem _ (List.mem_append_left _ hp))).shape
 have hO:=hF.out2 (.int .i64 c) sv
 have hsl:=A8 (hq.slE hO hrl (fun p hp=>List.mem_cons_of_mem _ (List.mem_append_left _ (List.mem_cons_of_mem _ hp))))
 have hfin:=A8 hO.below
 obtain ⟨k0,k1,f0,f1,y0,y1⟩:=Eq (hF.blks _ List.mem_cons_self) (.int .i64 c) sv
 have z0:=(hM.out.1.cell _ _ _ List.mem_cons_self 0).trans (show _=some (Value.int .i64 c) from rfl)
 have z1:=(hM.out.1.cell _ _ _ List.mem_cons_self 1).trans (show _=some sv from rfl)
 clear hM hF hO hq
 generalize x.made.length=nm at *
 subst hsv
 replace hrl:=A8 hrl
 clear hw1 hw2
 go_wp2
 exact bodyPost_ret (v:=.agg #[.int .i64 c,.slice a nm cp]) (by simp [results,Tryz.results11,go_sem,y0,y1]) rfl ⟨_,rfl,hsl.out,hfin.out⟩
theorem Ji {x:Int} (h:Fits x) (W:World):Calls Tryz.prog 33 #[.int .i64 x] W (Rets W (.string (I x))) :=
 (Ki x h.1 h.2 W).mono fun e w' h=>by
  obtain ⟨⟨r,h1,h2⟩,hb⟩:=h
  exact ⟨by rw [h1,h2],hb⟩
theorem KU {Q:Exit→Act→World→Prop} {us:List Value} {bN bV n:Nat} {v cv hv:Value} {xs:List Value} {d:ByteArray} {nc nr ms j:Int} {w W0:World} {L:BLs} {R:List RowD} {c19:Int} {c20:Int} {c21:ByteArray} (hn:Hid (n≤1000000)) (mN:(bN,#[.int .i64 nc,.int .i64 nr,cv,hv,.int .i64 ms],24)∈L) (C19:Hid (∀ W,Mem w L R W→Calls Tryz.prog 36 #[hv,.int .i64 j] W (Rets W (.int .i64 c19)))) (C20:Hid (∀ W,Mem w L R W→Calls Tryz.prog 35 #[.int .i64 c19,.int .i64 6] W (Rets W (.int .i64 c20)))) (C21:Hid (∀ W,Mem w L R W→Calls Tryz.prog 33 #[.int .i64 c20] W (Rets W (.string c21)))) (h0:Hid (Mem w ((bV,#[v,.string d],30) :: L) (⟨9,1,v,n,xs⟩ :: R) W0)) (hN:us.length=26) (g1:us[1]? = some (.pointer (some ⟨bN,0,none⟩))) (g3:us[3]? = some (.pointer (some ⟨bV,0,none⟩))) (g4:us[4]? = some (.int .i64 j)) {ops:Array Oper} (ho:getOps Tryz.f17.body 5=some ops)
  (hQ:∀ (x:Nat→Value) (G23:Nat) (cap23:Nat) (W':World),Hid (Mem w ((bV,#[.slice (some ⟨G23,0,none⟩) (n+1) cap23,.string d],30) :: L) (⟨9,1,.slice (some ⟨G23,0,none⟩) (n+1) cap23,n+1,xs++[.string c21]⟩ :: R) W')→Q .normal { tmps:=(sets [14,15,16,17,18,19,20,21,22,23,24] x us).toArray,defers:=[] } W') :
  (Code.region 5 ops true).wp Tryz.prog Q { tmps:=us.toArray,defers:=[] } W0:=by
 obtain rfl:=Option.some.inj (ho.symm.trans (rfl:getOps Tryz.f17.body 5=some _))
 clear ho
 replace hQ:=A8 hQ
 let Fl:Nat×Nat→FL:=fun g=>[some (14,.pointer (some ⟨bV,0,none⟩)),some (15,v),some (16,.pointer (some ⟨bN,3,none⟩)),some (17,hv),some (18,.int .i64 j),some (19,.int .i64 c19),some (20,.int .i64 c20),some (21,.string c21),none,some (23,.slice (some ⟨g.1,0,none⟩) (n+1) g.2),some (24,.pointer (some ⟨bV,0,none⟩)),none]
 let Ml:Nat×Nat→ML:=fun g=>[(8,22,(fun yv W=>∃ (g22:Nat),yv=.slice (some ⟨g22,0,none⟩) 1 1∧Blk W g22 #[.string c21] 9),some 9)]
 let Sl_:Nat×Nat→List (World→Prop):=fun g=>[fun W=>Mem w ((bV,#[v,.string d],30) :: L) (⟨9,1,v,n,xs⟩ :: R) W,fun W=>Mem w ((bV,#[v,.string d],30) :: L) (⟨9,1,.slice (some ⟨g.1,0,none⟩) (n+1) g.2,n+1,xs++[.string c21]⟩ :: R) W,fun W=>Mem w ((bV,#[.slice (some ⟨g.1,0,none⟩) (n+1) g.2,.string d],30) :: L) (⟨9,1,.slice (some ⟨g.1,0,none⟩) (n+1) g.2,n+1,xs++[.string c21]⟩ :: R) W]
 have St:RgS 26 [14,15,16,17,18,19,20,21,22,23,24] [8] Fl Ml (Mem w L R) Sl_:=⟨fun _=>by kernel_rfl,fun _=>rfl,fun _ _ hb h=>h.call hb,fun g=>List.forall_mem_cons.2 ⟨fun yv W W' hb=>fun ⟨g,e,h⟩=>⟨g,e,h.below hb⟩,(fun _ h=>by cases h)⟩,fun g=>List.forall_mem_cons.2 ⟨fun W W' hb h=>h.call hb,List.forall_mem_cons.2 ⟨fun W W' hb h=>h.call hb,List.forall_mem_cons.2 ⟨fun W W' hb h=>h.call hb,(fun _ h=>by cases h)⟩⟩⟩⟩
 refine As 26 us [14,15,16,17,18,19,20,21,22,23,24] Fl Ml [9,11] (Mem w L R) Sl_ hN (by kernel_rfl) (by kernel_rfl) ⟨0,0⟩ h0.out.tail.rtail.drew h0.out.drew (by kernel_rfl) ?_ ?_
 refine Ab (stV St 0 rfl (fun _=>rfl) fun g T E W hl hw hs z K J=>by
  have x3:=z.u g3
  go_simp;exact J) ?_
 refine Ab (stV St 1 rfl (fun _=>rfl) fun g T E W hl hw hs z K J=>by
  have x14:=z.x 0 hw rfl
  have k0:W.cell? ⟨bV,0,none⟩=some (v:Value):=z.ld 1 0 0 hl hw hs rfl (by kernel_rfl) (fun s=>Mem.cell (s) _ _ _ (.head _) 0)
  go_simp;exact J) ?_
 refine Ab (stV St 2 rfl (fun _=>rfl) fun g T E W hl hw hs z K J=>by
  have x1:=z.u g1
  go_simp;exact J) ?_
 refine Ab (stV St 3 rfl (fun _=>rfl) fun g T E W hl hw hs z K J=>by
  have x16:=z.x 2 hw rfl
  have hC:=z.c
  have k0:=(hC.cell _ _ _ mN 3).trans (show _=some (hv:Value) from rfl)
  go_simp;exact J) ?_
 refine Ab (stV St 4 rfl (fun _=>rfl) fun g T E W hl hw hs z K J=>by
  have x4:=z.u g4
  go_simp;exact J) ?_
 refine Ab (stC St 5 rfl (fun _=>rfl) fun g T E W hl hw hs z K J=>by
  have x17:=z.x 3 hw rfl
  have x18:=z.x 4 hw rfl
  have hC:=z.c
  go_simp
  refine Calls.mono (C19.out W hC) ?_
  rintro e W2 ⟨rfl,hb⟩
  exact J _ hb) ?_
 refine Ab (stC St 6 rfl (fun _=>rfl) fun g T E W hl hw hs z K J=>by
  have x19:=z.x 5 hw rfl
  have hC:=z.c
  go_simp
  refine Calls.mono (C20.out W hC) ?_
  rintro e W2 ⟨rfl,hb⟩
  exact J _ hb) ?_
 refine Ab (stC St 7 rfl (fun _=>rfl) fun g T E W hl hw hs z K J=>by
  have x20:=z.x 6 hw rfl
  have hC:=z.c
  go_simp
  refine Calls.mono (C21.out W hC) ?_
  rintro e W2 ⟨rfl,hb⟩
  exact J _ hb) ?_
 refine Ab (stM St 8 0 (.inl rfl) (fun _=>rfl) (fun _=>by kernel_rfl) fun g T E W hl hw hs z K J=>by
  have x21:=z.x 7 hw rfl
  go_simp;exact J _ _ ((Below.refl _ _).alloc (Aa _) _) ⟨_,rfl,Blk.new _ _ _⟩) ?_
 refine Ab (stF St 9 0 (.inl rfl) rfl rfl (by kernel_rfl) (fun _=>by kernel_rfl) fun g T E W hl hw hs z q K J=>by
  have x15:=z.x 1 hw rfl
  obtain ⟨_,x22,g22,rfl,hb8⟩:=z.y 0 hl hw hs rfl
  have hM0:Mem _ _ _ _:=q
  refine FX rfl hM0 (by go_simp) (by go_simp) (hb8.cell 0) hn.out ?_
  intro G23' cap23' W2 hM2
  exact J ⟨G23',cap23'⟩ _ _ rfl (by kernel_rfl) (hM2.tail.rtail) hM2) ?_
 refine Ab (stV St 10 rfl (fun _=>rfl) fun g T E W hl hw hs z K J=>by
  have x3:=z.u g3
  go_simp;exact J) ?_
 refine Ab (stE 11 1 (.inl rfl) rfl rfl (fun _=>rfl) (by kernel_rfl) (fun _=>by kernel_rfl) fun g T E W hl hw hs z q K J=>by
  have x23:=z.x 9 hw rfl
  have x24:=z.x 10 hw rfl
  have hM0:Mem _ _ _ _:=q
  have y0:=hM0.cell _ _ _ (.head _) 0
  have w0:=hM0.frozen _ _ _ (.head _) 0
  go_simp;exact J _ ((hM0.put0 0 _).tail.rtail) (hM0.put0 0 _)) ?_
 ·exact Ag
 ·intro g a W z q
  have hM9:Mem _ _ _ _:=q
  rw [z.f.eqs]
  exact hQ.out _ g.1 g.2  _  (A8 hM9)
theorem KV {Q:Exit→Act→World→Prop} {us:List Value} {bV n:Nat} {v hv:Value} {xs:List Value} {d:ByteArray} {j:Int} {w W0:World} {L:BLs} {R:List RowD} {c23:Int} {c24:Int} {c25:ByteArray} (hn:Hid (n≤1000000))  (C23:Hid (∀ W,Mem w L R W→Calls Tryz.prog 36 #[hv,.int .i64 j] W (Rets W (.int .i64 c23)))) (C24:Hid (∀ W,Mem w L R W→Calls Tryz.prog 35 #[.int .i64 c23,.int .i64 50] W (Rets W (.int .i64 c24)))) (C25:Hid (∀ W,Mem w L R W→Calls Tryz.prog 33 #[.int .i64 c24] W (Rets W (.string c25)))) (h0:Hid (Mem w ((bV,#[v,.string d],30) :: L) (⟨9,1,v,n,xs⟩ :: R) W0)) (hN:us.length=30) (g1:us[1]? = some (hv)) (g7:us[7]? = some (.pointer (some ⟨bV,0,none⟩))) (g8:us[8]? = some (.int .i64 j)) {ops:Array Oper} (ho:getOps Tryz.f18.body 5=some ops)
  (hQ:∀ (x:Nat→Value) (G27:Nat) (cap27:Nat) (W':World),Hid (Mem w ((bV,#[.slice (some ⟨G27,0,none⟩) (n+1) cap27,.string d],30) :: L) (⟨9,1,.slice (some ⟨G27,0,none⟩) (n+1) cap27,n+1,xs++[.string c25]⟩ :: R) W')→Q .normal { tmps:=(sets [19,20,21,22,23,24,25,26,27,28] x us).toArray,defers:=[] } W') :
  (Code.region 5 ops true).wp Tryz.prog Q { tmps:=us.toArray,defers:=[] } W0:=by
 obtain rfl:=Option.some.inj (ho.symm.trans (rfl:getOps Tryz.f18.body 5=some _))
 clear ho
 replace hQ:=A8 hQ
 let Fl:Nat×Nat→FL:=fun g=>[some (19,.pointer (some ⟨bV,0,none⟩)),some (20,v),some (21,hv),some (22,.int .i64 j),some (23,.int .i64 c23),some (24,.int .i64 c24),some (25,.string c25),none,some (27,.slice (some ⟨g.1,0,none⟩) (n+1) g.2),some (28,.pointer (some ⟨bV,0,none⟩)),none]
 let Ml:Nat×Nat→ML:=fun g=>[(7,26,(fun yv W=>∃ (g26:Nat),yv=.slice (some ⟨g26,0,none⟩) 1 1∧Blk W g26 #[.string c25] 9),some 8)]
 let Sl_:Nat×Nat→List (World→Prop):=fun g=>[fun W=>Mem w ((bV,#[v,.string d],30) :: L) (⟨9,1,v,n,xs⟩ :: R) W,fun W=>Mem w ((bV,#[v,.string d],30) :: L) (⟨9,1,.slice (some ⟨g.1,0,none⟩) (n+1) g.2,n+1,xs++[.string c25]⟩ :: R) W,fun W=>Mem w ((bV,#[.slice (some ⟨g.1,0,none⟩) (n+1) g.2,.string d],30) :: L) (⟨9,1,.slice (some ⟨g.1,0,none⟩) (n+1) g.2,n+1,xs++[.string c25]⟩ :: R) W]
 have St:RgS 30 [19,20,21,22,23,24,25,26,27,28] [7] Fl Ml (Mem w L R) Sl_:=⟨fun _=>by kernel_rfl,fun _=>rfl,fun _ _ hb h=>h.call hb,fun g=>List.forall_mem_cons.2 ⟨fun yv W W' hb=>fun ⟨g,e,h⟩=>⟨g,e,h.below hb⟩,(fun _ h=>by cases h)⟩,fun g=>List.forall_mem_cons.2 ⟨fun W W' hb h=>h.call hb,List.forall_mem_cons.2 ⟨fun W W' hb h=>h.call hb,List.forall_mem_cons.2 ⟨fun W W' hb h=>h.call hb,(fun _ h=>by cases h)⟩⟩⟩⟩
 refine As 30 us [19,20,21,22,23,24,25,26,27,28] Fl Ml [8,10] (Mem w L R) Sl_ hN (by kernel_rfl) (by kernel_rfl) ⟨0,0⟩ h0.out.tail.rtail.drew h0.out.drew (by kernel_rfl) ?_ ?_
 refine Ab (stV St 0 rfl (fun _=>rfl) fun g T E W hl hw hs z K J=>by
  have x7:=z.u g7
  go_simp;exact J) ?_
 refine Ab (stV St 1 rfl (fun _=>rfl) fun g T E W hl hw hs z K J=>by
  have x19:=z.x 0 hw rfl
  have k0:W.cell? ⟨bV,0,none⟩=some (v:Value):=z.ld 1 0 0 hl hw hs rfl (by kernel_rfl) (fun s=>Mem.cell (s) _ _ _ (.head _) 0)
  go_simp;exact J) ?_
 refine Ab (stV St 2 rfl (fun _=>rfl) fun g T E W hl hw hs z K J=>by
  have x1:=z.u g1
  go_simp;exact J) ?_
 refine Ab (stV St 3 rfl (fun _=>rfl) fun g T E W hl hw hs z K J=>by
  have x8:=z.u g8
  go_simp;exact J) ?_
 refine Ab (stC St 4 rfl (fun _=>rfl) fun g T E W hl hw hs z K J=>by
  have x21:=z.x 2 hw rfl
  have x22:=z.x 3 hw rfl
  have hC:=z.c
  go_simp
  refine Calls.mono (C23.out W hC) ?_
  rintro e W2 ⟨rfl,hb⟩
  exact J _ hb) ?_
 refine Ab (stC St 5 rfl (fun _=>rfl) fun g T E W hl hw hs z K J=>by
  have x23:=z.x 4 hw rfl
  have hC:=z.c
  go_simp
  refine Calls.mono (C24.out W hC) ?_
  rintro e W2 ⟨rfl,hb⟩
  exact J _ hb) ?_
 refine Ab (stC St 6 rfl (fun _=>rfl) fun g T E W hl hw hs z K J=>by
  have x24:=z.x 5 hw rfl
  have hC:=z.c
  go_simp
  refine Calls.mono (C25.out W hC) ?_
  rintro e W2 ⟨rfl,hb⟩
  exact J _ hb) ?_
 refine Ab (stM St 7 0 (.inl rfl) (fun _=>rfl) (fun _=>by kernel_rfl) fun g T E W hl hw hs z K J=>by
  have x25:=z.x 6 hw rfl
  go_simp;exact J _ _ ((Below.refl _ _).alloc (Aa _) _) ⟨_,rfl,Blk.new _ _ _⟩) ?_
 refine Ab (stF St 8 0 (.inl rfl) rfl rfl (by kernel_rfl) (fun _=>by kernel_rfl) fun g T E W hl hw hs z q K J=>by
  have x20:=z.x 1 hw rfl
  obtain ⟨_,x26,g26,rfl,hb7⟩:=z.y 0 hl hw hs rfl
  have hM0:Mem _ _ _ _:=q
  refine FX rfl hM0 (by go_simp) (by go_simp) (hb7.cell 0) hn.out ?_
  intro G27' cap27' W2 hM2
  exact J ⟨G27',cap27'⟩ _ _ rfl (by kernel_rfl) (hM2.tail.rtail) hM2) ?_
 refine Ab (stV St 9 rfl (fun _=>rfl) fun g T E W hl hw hs z K J=>by
  have x7:=z.u g7
  go_simp;exact J) ?_
 refine Ab (stE 10 1 (.inl rfl) rfl rfl (fun _=>rfl) (by kernel_rfl) (fun _=>by kernel_rfl) fun g T E W hl hw hs z q K J=>by
  have x27:=z.x 8 hw rfl
  have x28:=z.x 9 hw rfl
  have hM0:Mem _ _ _ _:=q
  have y0:=hM0.cell _ _ _ (.head _) 0
  have w0:=hM0.frozen _ _ _ (.head _) 0
  go_simp;exact J _ ((hM0.put0 0 _).tail.rtail) (hM0.put0 0 _)) ?_
 ·exact Ag
 ·intro g a W z q
  have hM9:Mem _ _ _ _:=q
  rw [z.f.eqs]
  exact hQ.out _ g.1 g.2  _  (A8 hM9)
theorem Jj (x:NumL) (vc vh:Value) (w:World) (hc:Sl w vc x.coefs) (hh:Sl w vh x.hidden) (hF:Fits x.cols) (hf:∀ k,Fits (atv x.hidden k)) :
  Calls Tryz.prog 17 #[.agg #[.int .i64 x.cols,.int .i64 x.rows,vc,vh,.int .i64 x.miss]] w fun e w'=>∃ v,e=.returned (.agg #[v,.string ⟨#[49]⟩])∧SlS w' v x.hidN∧Below w.heap.size w w':=by
 obtain ⟨ac,cc,rfl⟩:=hc.shape
 obtain ⟨ah,ch,rfl⟩:=hh.shape
 have HH:=A8 hh
 have AH:=A8 (fun W (hW:Below w.heap.size w W) (k:Nat)=>Es (.slice ah x.hidden.length ch) x.hidden k W (HH.out.below hW))
 have PH:=A8 (fun W (k:Nat)=>by have:=AF (atv x.hidden k) 6 (hf k) (by decide) (by decide) W;exact (this:Calls Tryz.prog 35 #[.int .i64 (atv x.hidden k),.int .i64 6] W (Rets W (.int .i64 (x.hid k)))))
 have FH:=A8 (fun W (k:Nat)=>Ji (x:=x.hid k) (by have:=x.hid_bd k;unfold Fits;omega) W)
 have P1:=A8 (fun W=>AF x.cols 8 hF (by decide) (by decide) W)
 have hcq:=x.c_eq
 obtain ⟨c,hc0⟩:∃ c,c=x.c:=⟨_,rfl⟩
 rw [←hc0] at hcq
 have hw1:IntKind.i64.wrap (1+pkv x.cols 8)=(c:Int):=by rw [←hcq.1];exact IntWalk.i64_in _ (by omega)
 have hc8:c≤8:=hcq.2.2
 have hend:Hid (∀ W v,Mem w [(w.heap.size+1+1,#[v,.string ⟨#[49]⟩],30),(w.heap.size+1,#[.slice none 0 0,.string ⟨#[]⟩],30),(w.heap.size,#[.int .i64 x.cols,.int .i64 x.rows,.slice ac x.coefs.length cc,.slice ah x.hidden.length ch,.int .i64 x.miss],24)] [⟨9,1,v,c,((List.range c).map fun k=>Value.string (I (x.hid k)))⟩] W→∀ W',W'=(W.setCell ⟨w.heap.size+1,0,none⟩ v).setCell ⟨w.heap.size+1,1,none⟩ (.string ⟨#[49]⟩)→SlS W' v x.hidN∧Below w.heap.size w W'):=A8 (fun W v h W' e=>by
  have h1:=(Mem.out2 (h.perm (List.Perm.swap _ _ _)) v (.string ⟨#[49]⟩))
  rw [←e] at h1
  refine ⟨SlS.of_own (n:=c) (l:=x.hidN) (e:=9) (base:=w.heap.size) ?_,h1.below⟩
  have h2:=h1.own0
  unfold NumL.hidN
  rw [List.map_map,←hc0]
  exact h2)
 replace hc0:=A8 hc0
 generalize pkv x.cols 8=p1 at *
 clear hc hh hF hcq
 generalize x.coefs.length=nc at *
 generalize x.hidden.length=nh at *
 obtain ⟨V1,e1,S1,s1⟩:=(Mem.start w).add' #[.int .i64 x.cols,.int .i64 x.rows,.slice ac nc cc,.slice ah nh ch,.int .i64 x.miss] 24
 obtain ⟨V2,e2,S2,s2⟩:=S1.add' #[.slice none 0 0,.string ⟨#[]⟩] 30
 obtain ⟨V3,e3,S3,s3⟩:=S2.add' #[.slice none 0 0,.string ⟨#[49]⟩] 30
 rw [s2,s1] at S3
 rw [e2,e1] at e3
 have hM:=A8 (S3.row0 9 1)
 clear e1 e2 S1 s1 S2 s2 S3 s3 HH
 go_enter Tryz.func17,Tryz.ntmps17
 go_upto_region 2 with fail
 rw [←e3]
 clear e3
 go_wp2_with fail
 go_loopw [4] (fun s wr=>∃ (j:Nat) (v:Value),s=.int .i64 j∧j≤c∧Hid (Mem w [(w.heap.size+1+1,#[v,.string ⟨#[49]⟩],30),(w.heap.size+1,#[.slice none 0 0,.string ⟨#[]⟩],30),(w.heap.size,#[.int .i64 x.cols,.int .i64 x.rows,.slice ac nc cc,.slice ah nh ch,.int .i64 x.miss],24)] [⟨9,1,v,j,((List.range j).map fun k=>Value.string (I (x.hid k)))⟩] wr)) (fun s _=>c-(intOf s).toNat)
 case atStart=>exact ⟨0,.slice none 0 0,rfl,by omega,hM⟩
 case round =>
  clear hM
  obtain ⟨j,v,rfl,hj,hM⟩:=hrel
  have z0:=hM.out.cell w.heap.size _ _ (.tail _ (.tail _ (.head _))) 0
  go_wp2_with fail
  refine Calls.mono (P1.out _) ?_
  rintro e w1 ⟨rfl,hb⟩
  replace hM:=A8 (hM.out.call hb)
  clear z0 hb
  by_cases hjc:j<c
  case neg =>
   have hjc':¬ (j:Int)<c:=by omega
   obtain rfl:j=c:=by omega
   have hfin:=A8 (hend.out _ _ hM.out _ rfl)
   have z0:=(hM.out.cell _ _ _ (.head _) 0).trans (show _=some v from rfl)
   have z1:=(hM.out.cell _ _ _ (.head _) 1).trans (show _=some (Value.string ⟨#[49]⟩) from rfl)
   obtain ⟨k0,k1,f0,f1,y0,y1⟩:=Eq (hM.out.blks _ (.tail _ (.head _))) v (.string ⟨#[49]⟩)
   obtain ⟨a,cp,hsv⟩:=hfin.out.1.shape
   generalize x.hidN.length=nm at *
   subst hsv
   clear hM hend
   go_wp2
   exact bodyPost_ret (v:=.agg #[.slice a nm cp,.string ⟨#[49]⟩]) (by simp [results,Tryz.results17,go_sem,y0,y1]) rfl ⟨_,rfl,hfin.out.1,hfin.out.2⟩
  case pos =>
   have hjc':(j:Int)<c:=by omega
   go_upto_region 5 with fail
   refine KU (bN:=w.heap.size) (bV:=w.heap.size+1+1) (n:=j) (j:=j) (w:=w) (L:=[(w.heap.size+1,#[.slice none 0 0,.string ⟨#[]⟩],30),(w.heap.size,#[.int .i64 x.cols,.int .i64 x.rows,.slice ac nc cc,.slice ah nh ch,.int .i64 x.miss],24)]) (R:=[]) (A8 (by omega)) (.tail _ (.head _)) (A8 fun W hW=>AH.out W hW.below j) (A8 fun W hW=>PH.out W j) (A8 fun W hW=>FH.out W j) hM rfl rfl rfl rfl (by kernel_rfl) ?_
   intro xx G cap W5 hM5
   simp only [sets,List.foldl_cons,List.foldl_nil,A5,A6]
   clear hM
   have hxs:((List.range (j+1)).map fun k=>Value.string (I (x.hid k)))=((List.range j).map fun k=>Value.string (I (x.hid k)))++[.string (I (x.hid j))]:=by rw [List.range_succ,List.map_append];rfl
   rw [←hxs] at hM5
   clear hxs
   go_wp2_with fail
   go_roundw
   case rel=>exact ⟨j+1,_,by go_num,by omega,hM5⟩
   case measure=>simp [intOf];omega
end
end Go.Proofs.YtcmomjnailihpaaGreatDoor
