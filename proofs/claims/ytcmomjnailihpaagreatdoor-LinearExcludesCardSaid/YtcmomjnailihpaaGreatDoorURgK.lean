/- RgK, SnB, MemA, Eqs, MemB, CtA, Eqd, MdA, MdB -/
import Derived.Test.YtcmomjnailihpaaGreatDoorULcK
import Derived.Deep.Upon
set_option maxHeartbeats 8000000
set_option maxRecDepth 100000
namespace Go.Proofs.YtcmomjnailihpaaGreatDoor
section
open Go.RowKit
section
variable {P:Program} {ops:Array Oper} {Q:Exit→Act→World→Prop} {l:Nat→Bool} {a:Act} {W W':World}
def bitsL:List Edge→Nat→Nat
 | [],m=>m
 | e :: es,m=>bitsL es (if Region.binds .any e then m ||| 2 ^ e.on else m)
def bitsOf (ops:Array Oper) (k:Nat):Nat:=match ops[k]? with
 | some o=>bitsL o.after.toList 0
 | none=>0
def ancs (ops:Array Oper):Nat→Nat→Nat
 | 0,m=>m
 | k+1,m=>ancs ops k (if m.testBit k then m ||| bitsOf ops k else m)
def anc (ops:Array Oper) (j:Nat):Nat:=ancs ops j (bitsOf ops j)
theorem Io:∀ (es:List Edge) (m n:Nat),(bitsL es m).testBit n=true→m.testBit n=true∨∃ e∈es,Region.binds .any e=true∧e.on=n
 | [],m,n,h=>.inl h
 | e :: es,m,n,h=>by
  rcases Io es _ n h with h1 | ⟨e',h1,h2⟩
  ·by_cases hb:Region.binds .any e=true
   ·rw [if_pos hb,Nat.testBit_or,Nat.testBit_two_pow] at h1
    rcases Bool.or_eq_true_iff.1 h1 with h3 | h3
    ·exact .inl h3
    ·exact .inr ⟨e,List.mem_cons_self,hb,of_decide_eq_true h3⟩
   ·rw [if_neg hb] at h1;exact .inl h1
  ·exact .inr ⟨e',List.mem_cons_of_mem _ h1,h2⟩
theorem CR {k n:Nat} (h:(bitsOf ops k).testBit n=true):∃ o,ops[k]? = some o∧waits o n=true:=by
 unfold bitsOf at h
 cases ho:ops[k]? with
 | none=>rw [ho] at h;simp at h
 | some o =>
  rw [ho] at h
  rcases Io _ _ _ h with h1 | ⟨e,h1,h2,h3⟩
  ·simp at h1
  ·exact ⟨o,rfl,Array.any_eq_true'.2 ⟨e,by simpa using h1,by simp [h2,h3]⟩⟩
theorem Ea (hsh:ShutL ops l):∀ (k m:Nat),(∀ n,m.testBit n=true→l n=true)→∀ n,(ancs ops k m).testBit n=true→l n=true
 | 0,_,h,n,hn=>h n hn
 | k+1,m,h,n,hn=>by
  refine Ea hsh k _ (fun j hj=>?_) n hn
  by_cases hk:m.testBit k=true
  ·rw [if_pos hk,Nat.testBit_or] at hj
   rcases Bool.or_eq_true_iff.1 hj with h1 | h1
   ·exact h j h1
   ·obtain ⟨o,ho,hw⟩:=CR h1
    exact hsh k j o ho (h k hk) hw
  ·rw [if_neg hk] at hj;exact h j hj
theorem JZ {i j:Nat} {o:Oper} (hsh:ShutL ops l) (ho:ops[i]? = some o) (hw:∀ n,waits o n=true→l n=true) (hj:(anc ops i).testBit j=true):l j=true :=
 Ea hsh i _ (fun n hn=>by
  obtain ⟨o',ho',h⟩:=CR hn
  rw [ho] at ho'
  obtain rfl:=Option.some.inj ho'
  exact hw n h) j hj
theorem C4 {i j:Nat} (hsh:ShutL ops l) (hl:l i=false) (hj:(anc ops j).testBit i=true):l j=false:=by
 cases hc:l j with
 | false=>rfl
 | true =>
  have:=Ea hsh j _ (fun n hn=>by
   obtain ⟨o,ho,h⟩:=CR hn
   exact hsh j n o ho hc h) i hj
  rw [hl] at this;cases this
def phase (l:Nat→Bool):List Nat→Nat
 | []=>0
 | e :: es=>if l e then phase l es+1 else 0
theorem Ep {l l':Nat→Bool}:∀ {es:List Nat},(∀ e∈es,l e=l' e)→phase l es=phase l' es
 | [],_=>rfl
 | e :: es,h=>by
  unfold phase
  rw [h e List.mem_cons_self,Ep fun e' he=>h e' (List.mem_cons_of_mem _ he)]
theorem Fg:∀ {es:List Nat} {k:Nat},k≤es.length→(∀ e∈es.take k,l e=true)→k≤phase l es
 | _,0,_,_=>Nat.zero_le _
 | [],k+1,hk,_=>by simp at hk
 | e :: es,k+1,hk,h=>by
  unfold phase
  rw [if_pos (h e (by simp))]
  exact Nat.succ_le_succ (Fg (by simpa using hk) fun e' he=>h e' (by simp [he]))
theorem Cy:∀ {es:List Nat} {k e:Nat},es[k]? = some e→l e=false→phase l es≤k
 | [],k,_,h,_=>by simp at h
 | x :: es,0,e,h,hl=>by
  simp at h;subst h
  unfold phase;rw [if_neg (by simp [hl])];exact Aa _
 | x :: es,k+1,e,h,hl=>by
  unfold phase
  split
  ·exact Nat.succ_le_succ (Cy (by simpa using h) hl)
  ·exact Nat.zero_le _
theorem Eb:∀ {es:List Nat},phase l es≤es.length
 | []=>Aa _
 | x :: es=>by
  unfold phase
  split
  ·exact Nat.succ_le_succ Eb
  ·exact Nat.zero_le _
def preB (ops:Array Oper) (es:List Nat) (k i:Nat):Bool:=decide (k≤es.length)&&(es.take k).all fun e=>(anc ops i).testBit e
def postB (ops:Array Oper) (es:List Nat) (k i:Nat):Bool:=match es[k]? with
 | some e=>(e==i) || (anc ops e).testBit i
 | none=>es.length==k
theorem Jt {es:List Nat} {k i:Nat} {o:Oper} (hsh:ShutL ops l) (ho:ops[i]? = some o) (hw:∀ n,waits o n=true→l n=true) (h:preB ops es k i=true):k≤phase l es:=by
 unfold preB at h
 rw [Bool.and_eq_true,List.all_eq_true] at h
 exact Fg (of_decide_eq_true h.1) fun e he=>JZ hsh ho hw (h.2 e he)
theorem K0 {es:List Nat} {k i:Nat} (hsh:ShutL ops l) (hl:l i=false) (h:postB ops es k i=true):phase l es≤k:=by
 unfold postB at h
 split at h
 ·rename_i e he
  refine Cy he ?_
  rcases Bool.or_eq_true_iff.1 h with h1 | h1
  ·rw [beq_iff_eq.1 h1];exact hl
  ·exact C4 hsh hl h1
 ·rw [←beq_iff_eq.1 h];exact Eb
theorem Gd {es:List Nat} {k i:Nat} (hk:es[k]? = some i) (h1:phase l es=k) (hn:postB ops es (k+1) i=true) (hsh:ShutL ops l) (hl:l i=false) (hd:nodupB es=true):phase (set1 l i) es=k+1:=by
 have hlen:k<es.length:=(List.getElem?_eq_some_iff.1 hk).1
 have hnd:=D0 hd
 refine Nat.le_antisymm ?_ (Fg hlen fun e he=>?_)
 ·unfold postB at hn
  split at hn
  ·rename_i e he
   refine Cy he ?_
   have hne:e≠i:=fun e'=>by
    subst e'
    have:=(List.getElem?_inj hlen hnd).1 (hk.trans he.symm)
    omega
   rcases Bool.or_eq_true_iff.1 hn with h3 | h3
   ·exact absurd (beq_iff_eq.1 h3) hne
   ·exact Il (C4 hsh hl h3) hne
  ·rw [←beq_iff_eq.1 hn];exact Eb
 ·obtain ⟨j,hj⟩:=List.mem_iff_getElem?.1 he
  rw [List.getElem?_take] at hj
  split at hj
  ·rename_i hjk
   by_cases hji:j=k
   ·subst hji;rw [hk] at hj;obtain rfl:=Option.some.inj hj;simp [set1]
   ·have:l e=true:=by
     cases hc:l e with
     | true=>rfl
     | false=>have:=Cy hj hc;omega
    unfold set1;split
    ·rfl
    ·exact this
  ·cases hj
def At (SL:List (World→Prop)) (k:Nat) (W:World):Prop:=match SL[k]? with
 | some p=>p W
 | none=>False
def Bs (ops:Array Oper) (us:List Value) (l:Nat→Bool) (a:Act):Prop:=∀ n,(∀ (j:Nat) (o:Oper),ops[j]? = some o→o.dst=some n→l j=false)→a.tmps[n]? = us[n]?
theorem Bs.skip {us:List Value} (h:Bs ops us l a) (i:Nat):Bs ops us (set1 l i) a:=fun n hn=>h n fun j o ho hd=>by
 have:=hn j o ho hd
 unfold set1 at this
 split at this
 ·cases this
 ·exact this
theorem Bs.put {us:List Value} (h:Bs ops us l a) {i d:Nat} {o:Oper} (ho:ops[i]? = some o) (hd:o.dst=some d) (v:Value):Bs ops us (set1 l i) (a.put (some d) v):=fun n hn=>by
 by_cases e:d=n
 ·subst e
  have:=hn i o ho hd
  simp [set1] at this
 ·rw [E8 e]
  exact h.skip i n hn
def lastB (ops:Array Oper) (n i:Nat):Bool:=(List.range ops.size).all fun j=>match ops[j]? with
 | some o=>!(o.dst==some n) || j==i || (anc ops j).testBit i
 | none=>true
structure Rg (ops:Array Oper) (N:Nat) (us:List Value) (ds:List Nat) (F:FL) (M:ML) (es:List Nat) (C:World→Prop) (SL:List (World→Prop)) (l:Nat→Bool) (a:Act) (W:World):Prop where
 f:Fr us.toArray ds a
 b:Bs ops us l a
 n:us.length=N
 v:Vals F l a
 m:Mems M l a W
 c:C W
 s:At SL (phase l es) W
def okFr (N:Nat) (ds:List Nat) (M:ML):Nat→FL→Bool
 | _,[]=>true
 | i,none :: F=>okFr N ds M (i+1) F
 | i,some (d,_) :: F=>ds.contains d&&decide (d<N)&&((mops M).contains i || !(mslots M).contains d)&&okFr N ds M (i+1) F
theorem DN {N:Nat} {ds:List Nat} {M:ML}:∀ {F:FL} {i j d:Nat} {v:Value},okFr N ds M i F=true→F[j]? = some (some (d,v))→ds.contains d=true∧d<N∧((mops M).contains (i+j)=false→(mslots M).contains d=false)
 | [],_,_,_,_,_,h=>by simp at h
 | none :: F,i,0,_,_,_,h=>by simp at h
 | none :: F,i,j+1,d,v,h,hj=>by
  have:=DN (i:=i+1) (j:=j) h (by simpa using hj)
  rwa [show i+1+j=i+(j+1) by omega] at this
 | some x :: F,i,0,d,v,h,hj=>by
  simp at hj;subst hj
  simp only [okFr,Bool.and_eq_true,Bool.or_eq_true,Bool.not_eq_true',decide_eq_true_eq] at h
  exact ⟨h.1.1.1,h.1.1.2,fun e=>h.1.2.resolve_left (by rw [show i=i+0 from rfl,e];decide)⟩
 | some x :: F,i,j+1,d,v,h,hj=>by
  simp only [okFr,Bool.and_eq_true] at h
  have:=DN (i:=i+1) (j:=j) h.2 (by simpa using hj)
  rwa [show i+1+j=i+(j+1) by omega] at this
structure RgS {Γ:Type} (N:Nat) (ds ms:List Nat) (F:Γ→FL) (M:Γ→ML) (C:World→Prop) (SL:Γ→List (World→Prop)):Prop where
 k:∀ g,(nodupB (slots (F g))&&okFr N ds (M g) 0 (F g)&&nodupB (mops (M g))&&nodupB (mslots (M g)))=true
 ms:∀ g,mops (M g)=ms
 c:∀ W W',Below W.heap.size W W'→C W→C W'
 m:∀ g,MStable (M g)
 s:∀ g,∀ p∈SL g,∀ W W',Below W.heap.size W W'→p W→p W'
theorem D8 {es:List Nat} {i:Nat} (h:es.contains i=false):phase (set1 l i) es=phase l es:=Ep fun e he=>by
 unfold set1
 by_cases hc:e=i
 ·subst hc;rw [List.contains_iff_mem.2 he] at h;cases h
 ·rw [if_neg hc]
section
variable {Γ:Type} {N:Nat} {us:List Value} {ds ms:List Nat} {F:Γ→FL} {M:Γ→ML} {es:List Nat} {C:World→Prop} {SL:Γ→List (World→Prop)} {g:Γ}
theorem Rg.world (h:Rg ops N us ds (F g) (M g) es C (SL g) l a W) (St:RgS N ds ms F M C SL) (hb:Below W.heap.size W W'):Rg ops N us ds (F g) (M g) es C (SL g) l a W':=by
 refine ⟨h.f,h.b,h.n,h.v,h.m.world (St.m g) hb,St.c _ _ hb h.c,?_⟩
 have:=h.s
 unfold At at this ⊢
 split at this
 ·rename_i p hp;exact St.s g p (List.mem_of_getElem? hp) _ _ hb this
 ·exact this.elim
theorem RgS.parts (St:RgS N ds ms F M C SL) (g:Γ):(slots (F g)).Nodup∧okFr N ds (M g) 0 (F g)=true∧(mops (M g)).Nodup∧(mslots (M g)).Nodup:=by
 have:=St.k g
 simp only [Bool.and_eq_true] at this
 exact ⟨D0 this.1.1.1,this.1.1.2,D0 this.1.2,D0 this.2⟩
theorem Rg.val (h:Rg ops N us ds (F g) (M g) es C (SL g) l a W) (St:RgS N ds ms F M C SL) {i d:Nat} {v:Value} {o:Oper} (ho:ops[i]? = some o) (hd:o.dst=some d) (hi:(F g)[i]? = some (some (d,v))) (he:es.contains i=false) (h4:ms.contains i=false):Rg ops N us ds (F g) (M g) es C (SL g) (set1 l i) (a.put (some d) v) W:=by
 obtain ⟨k1,k2,_,_⟩:=St.parts g
 obtain ⟨h2,h3,h5⟩:=DN k2 hi
 rw [Nat.zero_add,St.ms g] at h5
 rw [←St.ms g] at h4
 have h5:=h5 (by rw [←St.ms g];exact h4)
 refine ⟨h.f.put d _ h2,h.b.put ho hd v,h.n,h.v.put k1 i hi (by rw [h.f.size,List.size_toArray,h.n];exact h3),h.m.put i d _ h4 h5,h.c,?_⟩
 rw [D8 he];exact h.s
theorem Rg.x (h:Rg ops N us ds (F g) (M g) es C (SL g) l a W) {o:Oper} (j:Nat) (hw:∀ n,waits o n=true→l n=true) {d:Nat} {v:Value} (hj:(F g)[j]? = some (some (d,v))) (hj':waits o j=true:=by kernel_rfl):a.tmps[d]? = some v:=h.v.get j hj (hw j hj')
theorem Rg.u (h:Rg ops N us ds (F g) (M g) es C (SL g) l a W) {n:Nat} {v:Value} (hv:us[n]? = some v) (hn:ds.contains n=false:=by kernel_rfl):a.tmps[n]? = some v:=h.f.atl n hv hn
theorem Rg.w (h:Rg ops N us ds (F g) (M g) es C (SL g) l a W) {n:Nat} {v:Value} (i:Nat) (hl:l i=false) (hsh:ShutL ops l) (hv:us[n]? = some v) (hn:lastB ops n i=true):a.tmps[n]? = some v:=by
 rw [←hv]
 refine h.b n fun j o ho hd=>?_
 have hj:j<ops.size:=(Array.getElem?_eq_some_iff.1 ho).1
 have:=List.all_eq_true.1 hn j (List.mem_range.2 hj)
 rw [ho] at this
 simp only [hd,beq_self_eq_true,Bool.not_true,Bool.false_or,Bool.or_eq_true,beq_iff_eq] at this
 rcases this with rfl | h1
 ·exact hl
 ·exact C4 hsh hl h1
theorem Rg.y (h:Rg ops N us ds (F g) (M g) es C (SL g) l a W) {o:Oper} {i:Nat} (k:Nat) (hl:l i=false) (hw:∀ n,waits o n=true→l n=true) (hsh:ShutL ops l) {j d:Nat} {e:Option Nat} {p:Value→World→Prop} (hk:(M g)[k]? = some (j,d,p,e)) (hj:waits o j=true:=by kernel_rfl) (he:(match e with
 | none=>true
 | some e=>e==i || (anc ops e).testBit i)=true:=by kernel_rfl):∃ v,a.tmps[d]? = some v∧p v W:=by
 refine h.m.get k hk (hw j hj) ?_
 cases e with
 | none=>rfl
 | some e =>
  refine live_of ?_
  rcases Bool.or_eq_true_iff.1 he with h1 | h1
  ·rw [beq_iff_eq.1 h1];exact hl
  ·exact C4 hsh hl h1
def Each (SL:List (World→Prop)) (W:World) (p:Prop):Nat→Nat→Prop
 | lo,0=>At SL lo W→p
 | lo,n+1=>(At SL lo W→p)∧Each SL W p (lo+1) n
theorem K2 {SL:List (World→Prop)} {p:Prop}:∀ {n lo k:Nat},Each SL W p lo n→lo≤k→k≤lo+n→At SL k W→p
 | 0,lo,k,h,h1,h2,hk=>by
  obtain rfl:k=lo:=by omega
  exact h hk
 | n+1,lo,k,h,h1,h2,hk=>by
  by_cases e:k=lo
  ·subst e;exact h.1 hk
  ·exact K2 h.2 (by omega) (by omega) hk
theorem Rg.ld (h:Rg ops N us ds (F g) (M g) es C (SL g) l a W) {o:Oper} (i lo n:Nat) (hl:l i=false) (hw:∀ n,waits o n=true→l n=true) (hsh:ShutL ops l) (ho:ops[i]? = some o) (hc:(preB ops es lo i&&postB ops es (lo+n) i)=true) {p:Prop} (hp:Each (SL g) W p lo n):p:=by
 rw [Bool.and_eq_true] at hc
 exact K2 hp (Jt hsh ho hw hc.1) (K0 hsh hl hc.2) h.s
def Iv (ops:Array Oper) (N:Nat) (us:List Value) (ds:List Nat) (F:Γ→FL) (M:Γ→ML) (es:List Nat) (C:World→Prop) (SL:Γ→List (World→Prop)) (l:Nat→Bool) (a:Act) (W:World):Prop:=∃ g,Rg ops N us ds (F g) (M g) es C (SL g) l a W
def plainB (o:Oper) (es ms:List Nat) (i:Nat):Bool:=o.guard.isNone&&!es.contains i&&!ms.contains i
theorem Cz {o:Oper} {es ms:List Nat} {i:Nat} (h:plainB o es ms i=true):o.guard=none∧es.contains i=false∧ms.contains i=false:=by
 unfold plainB at h
 rw [Bool.and_eq_true,Bool.and_eq_true,Bool.not_eq_true',Bool.not_eq_true',Option.isNone_iff_eq_none] at h
 exact ⟨h.1.1,h.1.2,h.2⟩
theorem D1 {o:Oper} {y:Nat→Option Bool} (h:o.guard=none):Region.wanted o y=true:=by unfold Region.wanted;rw [h]
variable {o:Oper}
def Wn (ops:Array Oper) (F:Γ→FL) (o:Oper):Prop:=o.guard=none∨∃ (j e:Nat) (b:Bool),o.guard=some (j,b)∧(ops[j]?).bind (·.dst)=some e∧waits o j=true∧∀ g,(F g)[j]? = some (some (e,.bool b))
theorem Wn.is (h:Wn ops F o) (hw:∀ n,waits o n=true→l n=true) (z:Rg ops N us ds (F g) (M g) es C (SL g) l a W):Region.wanted o (yielded ops a.tmps)=true:=by
 rcases h with h | ⟨j,e,b,h1,h2,h3,h4⟩
 ·exact D1 h
 ·exact wants h1 h2 (z.v.get j (h4 g) (hw j h3))
theorem wg (j:Nat) {e:Nat} {b:Bool} (h1:o.guard=some (j,b)) (h2:(ops[j]?).bind (·.dst)=some e) (h3:waits o j=true) (h4:∀ g,(F g)[j]? = some (some (e,.bool b))):Wn ops F o:=.inr ⟨j,e,b,h1,h2,h3,h4⟩
theorem GQ {a b:List Nat} {i:Nat} (h:(a++b).contains i=false):a.contains i=false∧b.contains i=false:=by
 constructor <;>
 ·cases hc:List.contains _ i with
  | false=>rfl
  | true =>
   rw [List.contains_iff_mem.2 (List.mem_append.2 (by simp only [List.contains_iff_mem] at hc;simp [hc]))] at h
   cases h
theorem stV (St:RgS N ds ms F M C SL) (i:Nat) {d:Nat} {V:Γ→Value} (ho:ops[i]? = some o) (hd:o.dst=some d) (h0:plainB o es ms i=true) (hi:∀ g,(F g)[i]? = some (some (d,V g)))
  (h:∀ g l a W,l i=false→(∀ n,waits o n=true→l n=true)→ShutL ops l→Rg ops N us ds (F g) (M g) es C (SL g) l a W→∀ K:Act→World→Prop,K (a.put (some d) (V g)) W→Oper.wp P o a W K Q):StepI P ops Q (Iv ops N us ds F M es C SL) i o:=fun l a W hl hw hsh ⟨g,z⟩ K hK =>
 want (D1 (Cz h0).1) (h g l a W hl hw hsh z K (hK.out _ _ ⟨g,z.val St ho hd (hi g) (Cz h0).2.1 (Cz h0).2.2⟩))
theorem stG (St:RgS N ds ms F M C SL) (i:Nat) {d:Nat} {V:Γ→Value} (ho:ops[i]? = some o) (hd:o.dst=some d) (h0:Wn ops F o) (he:(es++ms).contains i=false) (hi:∀ g,(F g)[i]? = some (some (d,V g)))
  (h:∀ g l a W,l i=false→(∀ n,waits o n=true→l n=true)→ShutL ops l→Rg ops N us ds (F g) (M g) es C (SL g) l a W→∀ K:Act→World→Prop,K (a.put (some d) (V g)) W→Oper.wp P o a W K Q):StepI P ops Q (Iv ops N us ds F M es C SL) i o:=fun l a W hl hw hsh ⟨g,z⟩ K hK =>
 want (h0.is hw z) (h g l a W hl hw hsh z K (hK.out _ _ ⟨g,z.val St ho hd (hi g) (GQ he).1 (GQ he).2⟩))
theorem stC (St:RgS N ds ms F M C SL) (i:Nat) {d:Nat} {V:Γ→Value} (ho:ops[i]? = some o) (hd:o.dst=some d) (h0:plainB o es ms i=true) (hi:∀ g,(F g)[i]? = some (some (d,V g)))
  (h:∀ g l a W,l i=false→(∀ n,waits o n=true→l n=true)→ShutL ops l→Rg ops N us ds (F g) (M g) es C (SL g) l a W→∀ K:Act→World→Prop,(∀ W',Below W.heap.size W W'→K (a.put (some d) (V g)) W')→Oper.wp P o a W K Q):StepI P ops Q (Iv ops N us ds F M es C SL) i o:=fun l a W hl hw hsh ⟨g,z⟩ K hK =>
 want (D1 (Cz h0).1) (h g l a W hl hw hsh z K fun _ hb=>hK.out _ _ ⟨g,(z.world St hb).val St ho hd (hi g) (Cz h0).2.1 (Cz h0).2.2⟩)
theorem stH (St:RgS N ds ms F M C SL) (i:Nat) {d:Nat} {V:Γ→Value} (ho:ops[i]? = some o) (hd:o.dst=some d) (h0:Wn ops F o) (he:(es++ms).contains i=false) (hi:∀ g,(F g)[i]? = some (some (d,V g)))
  (h:∀ g l a W,l i=false→(∀ n,waits o n=true→l n=true)→ShutL ops l→Rg ops N us ds (F g) (M g) es C (SL g) l a W→∀ K:Act→World→Prop,(∀ W',Below W.heap.size W W'→K (a.put (some d) (V g)) W')→Oper.wp P o a W K Q):StepI P ops Q (Iv ops N us ds F M es C SL) i o:=fun l a W hl hw hsh ⟨g,z⟩ K hK =>
 want (h0.is hw z) (h g l a W hl hw hsh z K fun _ hb=>hK.out _ _ ⟨g,(z.world St hb).val St ho hd (hi g) (GQ he).1 (GQ he).2⟩)
def okO (ds:List Nat) (F:FL) (es:List Nat) (i d:Nat):Bool:=(match F[i]? with
 | some none=>true
 | _=>false)&&!(slots F).contains d&&ds.contains d&&!es.contains i
theorem Mc {ds:List Nat} {F:FL} {es:List Nat} {i d:Nat} (h:okO ds F es i d=true):F[i]? = some none∧(slots F).contains d=false∧ds.contains d=true∧es.contains i=false:=by
 unfold okO at h
 simp only [Bool.and_eq_true,Bool.not_eq_true'] at h
 refine ⟨?_,h.1.1.2,h.1.2,h.2⟩
 have:=h.1.1.1
 split at this
 ·assumption
 ·cases this
theorem stM (St:RgS N ds ms F M C SL) (i k:Nat) {d:Nat} {e:Option Nat} {p:Γ→Value→World→Prop} (ho:ops[i]? = some o) (hd:o.dst=some d) (h0:Wn ops F o) (hi:∀ g,(M g)[k]? = some (i,d,p g,e)) (hk:∀ g,(okO ds (F g) es i d&&decide (d<N))=true)
  (h:∀ g l a W,l i=false→(∀ n,waits o n=true→l n=true)→ShutL ops l→Rg ops N us ds (F g) (M g) es C (SL g) l a W→∀ K:Act→World→Prop,(∀ v W',Below W.heap.size W W'→p g v W'→K (a.put (some d) v) W')→Oper.wp P o a W K Q):StepI P ops Q (Iv ops N us ds F M es C SL) i o:=fun l a W hl hw hsh ⟨g,z⟩ K hK=>by
 have h1:=hk g
 simp only [Bool.and_eq_true,decide_eq_true_eq] at h1
 obtain ⟨k1,k2,k3,k4⟩:=Mc h1.1
 obtain ⟨_,_,k5,k6⟩:=St.parts g
 refine want (h0.is hw z) (h g l a W hl hw hsh z K fun v W' hb hp=>hK.out _ _ ⟨g,?_⟩)
 have z':=z.world St hb
 refine ⟨z'.f.put d _ k3,z'.b.put ho hd _,z'.n,z'.v.other i d _ k1 k2,z'.m.add k i (hi g) k5 k6 (by rw [z'.f.size,List.size_toArray,z'.n];exact h1.2) hp,z'.c,?_⟩
 rw [D8 k4];exact z'.s
theorem stK (i j:Nat) {b c:Bool} {d e:Nat} (ho:ops[i]? = some o) (h0:o.guard=some (j,b)) (hd:(ops[j]?).bind (·.dst)=some e) (hj:∀ g,(F g)[j]? = some (some (e,.bool c))) (hw':waits o j=true) (hne:c≠b) (hdst:o.dst=some d) (hk:∀ g,(okO ds (F g) es i d&&!(mops (M g)).contains i&&!(mslots (M g)).contains d)=true):StepI P ops Q (Iv ops N us ds F M es C SL) i o:=fun l a W hl hw hsh ⟨g,z⟩ K hK=>by
 have h1:=hk g
 simp only [Bool.and_eq_true,Bool.not_eq_true'] at h1
 obtain ⟨k1,k2,k3,k4⟩:=Mc h1.1.1
 refine unwant (L3 h0 hd (z.v.get j (hj g) (hw j hw')) hne) (hK.out _ _ ⟨g,?_⟩)
 rw [hdst]
 refine ⟨z.f.put d _ k3,z.b.put ho hdst _,z.n,z.v.other i d _ k1 k2,z.m.put i d _ h1.1.2 h1.2,z.c,?_⟩
 rw [D8 k4];exact z.s
def freeB (ops:Array Oper) (i:Nat):ML→Bool
 | []=>true
 | p :: M=>(((anc ops p.1).testBit i&&!(p.1==i)) || (match p.2.2.2 with
  | none=>false
  | some e=>e==i || (anc ops e).testBit i==false&&(anc ops i).testBit e))&&freeB ops i M
theorem GR {i:Nat} (hl:l i=false) (hw:∀ n,waits o n=true→l n=true) (hsh:ShutL ops l) (ho:ops[i]? = some o):∀ {M:ML},freeB ops i M=true→∀ p∈M,set1 l i p.1=false∨live (set1 l i) p.2.2.2=false
 | [],_,p,hp=>by cases hp
 | q :: M,h,p,hp=>by
  unfold freeB at h
  rw [Bool.and_eq_true] at h
  rcases List.mem_cons.1 hp with rfl | hp
  ·rcases Bool.or_eq_true_iff.1 h.1 with h1 | h1
   ·rw [Bool.and_eq_true,Bool.not_eq_true',beq_eq_false_iff_ne] at h1
    exact .inl (Il (C4 hsh hl h1.1) h1.2)
   ·right
    split at h1
    ·cases h1
    ·rename_i e he
     rw [he]
     rcases Bool.or_eq_true_iff.1 h1 with h2 | h2
     ·rw [beq_iff_eq.1 h2];exact L4 _ _
     ·rw [Bool.and_eq_true] at h2
      exact Mb (JZ hsh ho hw h2.2)
  ·exact GR hl hw hsh ho h.2 p hp
def patch (m:Nat):Nat→FL→FL→FL
 | _,_,[]=>[]
 | i,F,y :: G=>(if m.testBit i then F.headD y else y) :: patch m (i+1) F.tail G
theorem Ge {m:Nat}:∀ {G F:FL} {i j:Nat},m.testBit (i+j)=false→(patch m i F G)[j]? = G[j]?
 | [],_,_,_,_=>rfl
 | y :: G,F,i,0,h=>by
  have h':m.testBit i=false:=h
  simp [patch,h']
 | y :: G,F,i,j+1,h=>by
  have:=Ge (m:=m) (F:=F.tail) (G:=G) (i:=i+1) (j:=j) (by rw [←h];congr 1;omega)
  simpa [patch] using this
def after (ops:Array Oper) (i:Nat):Nat→Nat
 | 0=>0
 | k+1=>(if (k==i || (anc ops k).testBit i)=true then 2 ^ k else 0) ||| after ops i k
theorem Ip {i:Nat}:∀ {k n:Nat},(after ops i k).testBit n=true→n=i∨(anc ops n).testBit i=true
 | 0,n,h=>by simp [after] at h
 | k+1,n,h=>by
  unfold after at h
  rw [Nat.testBit_or] at h
  rcases Bool.or_eq_true_iff.1 h with h1 | h1
  ·split at h1
   ·rename_i hc
    rw [Nat.testBit_two_pow] at h1
    have:=of_decide_eq_true h1
    subst this
    rcases Bool.or_eq_true_iff.1 hc with h2 | h2
    ·exact .inl (beq_iff_eq.1 h2)
    ·exact .inr h2
   ·simp at h1
  ·exact Ip h1
theorem Fh {F G:FL} {i k:Nat} (h:Vals G l a) (hl:l i=false) (hsh:ShutL ops l) (hF:F=patch (after ops i k) 0 F G):Vals F l a:=h.change fun j=>by
 cases hb:(after ops i k).testBit j with
 | true =>
  rcases Ip hb with rfl | h1
  ·exact .inr hl
  ·exact .inr (C4 hsh hl h1)
 | false =>
  left
  rw [hF]
  exact Ge (by rw [Nat.zero_add];exact hb)
theorem stE (i k:Nat) (h0:Wn ops F o) (ho:ops[i]? = some o) (hk:es[k]? = some i) (hi:∀ g,(F g)[i]? = some none) (hc:(nodupB es&&preB ops es k i&&postB ops es (k+1) i)=true) (hm:∀ g,freeB ops i (M g)=true)
  (h:∀ g l a W,l i=false→(∀ n,waits o n=true→l n=true)→ShutL ops l→Rg ops N us ds (F g) (M g) es C (SL g) l a W→At (SL g) k W→∀ K:Act→World→Prop,(∀ W',C W'→At (SL g) (k+1) W'→K a W')→Oper.wp P o a W K Q):StepI P ops Q (Iv ops N us ds F M es C SL) i o:=fun l a W hl hw hsh ⟨g,z⟩ K hK=>by
 simp only [Bool.and_eq_true] at hc
 have hp:phase l es=k:=Nat.le_antisymm (Cy hk hl) (Jt hsh ho hw hc.1.2)
 refine want (h0.is hw z) (h g l a W hl hw hsh z (hp ▸ z.s) K fun W' h1 h2=>hK.out _ _ ⟨g,z.f,z.b.skip i,z.n,z.v.skip i (hi g),Mems.free (GR hl hw hsh ho (hm g)),h1,?_⟩)
 rw [Gd hk hp hc.2 hsh hl hc.1.1];exact h2
theorem stF (St:RgS N ds ms F M C SL) (i k:Nat) {d:Nat} (hd:o.dst=some d) (h0:Wn ops F o) (ho:ops[i]? = some o) (hk:es[k]? = some i) (hc:(nodupB es&&preB ops es k i&&postB ops es (k+1) i)=true) (hm:∀ g,freeB ops i (M g)=true)
  (h:∀ g l a W,l i=false→(∀ n,waits o n=true→l n=true)→ShutL ops l→Rg ops N us ds (F g) (M g) es C (SL g) l a W→At (SL g) k W→∀ K:Act→World→Prop,(∀ g' v W',(F g')[i]? = some (some (d,v))→F g'=patch (after ops i ops.size) 0 (F g') (F g)→C W'→At (SL g') (k+1) W'→K (a.put (some d) v) W')→Oper.wp P o a W K Q):StepI P ops Q (Iv ops N us ds F M es C SL) i o:=fun l a W hl hw hsh ⟨g,z⟩ K hK=>by
 simp only [Bool.and_eq_true] at hc
 have hp:phase l es=k:=Nat.le_antisymm (Cy hk hl) (Jt hsh ho hw hc.1.2)
 refine want (h0.is hw z) (h g l a W hl hw hsh z (hp ▸ z.s) K fun g' v W' e1 e2 h1 h2=>hK.out _ _ ⟨g',?_⟩)
 obtain ⟨k1,k2,_,_⟩:=St.parts g'
 obtain ⟨h3,h4,_⟩:=DN k2 e1
 refine ⟨z.f.put d _ h3,z.b.put ho hd _,z.n,(Fh z.v hl hsh e2).put k1 i e1 (by rw [z.f.size,List.size_toArray,z.n];exact h4),Mems.free (GR hl hw hsh ho (hm g')),h1,?_⟩
 rw [Gd hk hp hc.2 hsh hl hc.1.1];exact h2
theorem stA (St:RgS N ds ms F M C SL) (i q k:Nat) {d:Nat} {e:Option Nat} {V:Γ→Value} {p:Γ→Value→World→Prop} (ho:ops[i]? = some o) (hd':o.dst=some d) (h0:Wn ops F o) (he:es.contains i=false) (hi:∀ g,(F g)[i]? = some (some (d,V g))) (hq:∀ g,(M g)[q]? = some (i,d,p g,e)) (hc:postB ops es k i=true)
  (h:∀ g l a W,l i=false→(∀ n,waits o n=true→l n=true)→ShutL ops l→Rg ops N us ds (F g) (M g) es C (SL g) l a W→∀ K:Act→World→Prop,(∀ g' W',Below W.heap.size W W'→F g'=patch (after ops i ops.size) 0 (F g') (F g)→M g'=(M g).set q (i,d,p g',e)→(SL g').take (k+1)=(SL g).take (k+1)→p g' (V g') W'→K (a.put (some d) (V g')) W')→Oper.wp P o a W K Q):StepI P ops Q (Iv ops N us ds F M es C SL) i o:=fun l a W hl hw hsh ⟨g,z⟩ K hK=>by
 refine want (h0.is hw z) (h g l a W hl hw hsh z K fun g' W' hb e1 e2 e3 hp=>hK.out _ _ ⟨g',?_⟩)
 obtain ⟨k1,k2,k5,k6⟩:=St.parts g'
 obtain ⟨h3,h4,_⟩:=DN k2 (hi g')
 have z':=z.world St hb
 have hd:d<a.tmps.size:=by rw [z.f.size,List.size_toArray,z.n];exact h4
 refine ⟨z'.f.put d _ h3,z'.b.put ho hd' _,z'.n,(Fh z'.v hl hsh e1).put k1 i (hi g') hd,?_,z'.c,?_⟩
 ·have hm:Mems (M g') l a W':=by
   rw [e2]
   intro r hr hlr her
   obtain ⟨j,hj⟩:=List.mem_iff_getElem?.1 hr
   by_cases ej:q=j
   ·subst ej
    rw [List.getElem?_set_self (List.getElem?_eq_some_iff.1 (hq g)).1] at hj
    obtain rfl:=Option.some.inj hj
    rw [hl] at hlr;cases hlr
   ·rw [List.getElem?_set_ne ej] at hj
    exact z'.m r (List.mem_of_getElem? hj) hlr her
  exact hm.add q i (hq g') k5 k6 hd hp
 ·rw [D8 he]
  have hle:=K0 hsh hl hc
  have h5:=z'.s
  unfold At at h5 ⊢
  have h6:(SL g')[phase l es]? = (SL g)[phase l es]? := by
   have:=congrArg (fun z=>z[phase l es]?) e3
   simpa [List.getElem?_take,Nat.lt_succ_of_le hle] using this
  rw [h6];exact h5
theorem Aq (N:Nat) (us:List Value) (ds:List Nat) (F:Γ→FL) (M:Γ→ML) (es:List Nat) (C:World→Prop) (SL:Γ→List (World→Prop)) {id:Nat} (hN:us.length=N) (hm:P.follows .mixedOrders=true) (hb:backward ops=true) (g:Γ) (h0:C W.drew) (h1:At (SL g) 0 W.drew) (hp:(phase (fun j=>decide (j<ops.size)) es==es.length)=true)
  (hs:StepsI P ops Q (Iv ops N us ds F M es C SL) 0 ops.toList) (hend:∀ g a W,Rg ops N us ds (F g) (M g) es C (SL g) (fun j=>decide (j<ops.size)) a W→At (SL g) es.length W→Q .normal a W) :
  (Code.region id ops true).wp P Q { tmps:=us.toArray,defers:=[] } W :=
 Ak _ hm hb ⟨g,Fr.start _ _,fun n _=>by simp,hN,Vals.zero,Mems.zero,h0,by
  have:phase (fun _=>false) es=0:=by cases es <;> rfl
  rw [this];exact h1⟩ hs fun a W ⟨g,z⟩=>hend g a W z (beq_iff_eq.1 hp ▸ z.s)
end
end
end
section
open Go.RowKit
attribute [local go_sem] Oper.semAt_some
theorem L8 {Q:Exit→Act→World→Prop} {us:List Value} {bV bA bB bC bD bS n1 n2 k1 k2 k3 k4:Nat} {a1 a2 a3 a4:Option Addr} {d1:ByteArray} {w W0:World} {L:BLs} {R:List RowD}    (x80:Hid (∀ W,Mem w L R W→W.cell? ⟨bA,0,none⟩=some (.bool true))) (x83_0:Hid (∀ W,Mem w L R W→W.cell? ⟨bA,1,none⟩=some (.slice a1 n1 k1))) (x83_1:Hid (∀ W,Mem w L R W→W.cell? ⟨bA,2,none⟩=some (.string d1))) (x84_0:Hid (∀ W,Mem w L R W→W.cell? ⟨bV,0,none⟩=some (.slice (some ⟨bS,0,none⟩) 2 2))) (x84_1:Hid (∀ W,Mem w L R W→W.cell? ⟨bV,1,none⟩=some (.string ⟨#[50]⟩))) (C85:Hid (∀ W,Mem w L R W→Calls Tryz.prog 21 #[.agg #[.slice a1 n1 k1,.string d1],.agg #[.slice (some ⟨bS,0,none⟩) 2 2,.string ⟨#[50]⟩]] W (Rets W (.bool true)))) (x89:Hid (∀ W,Mem w L R W→W.cell? ⟨bA,3,none⟩=some (.slice none 0 0))) (x95:Hid (∀ W,Mem w L R W→W.cell? ⟨bB,0,none⟩=some (.bool false))) (C99:Hid (∀ W,Mem w L R W→Calls Tryz.prog 34 #[.int .i64 3,.int .i64 4] W fun e W'=>∃ (v99':Value),e=.returned (.agg #[.int .i64 2,v99'])∧SlE W' v99' (twoL 3 4)∧Below W.heap.size W W')) (x101:Hid (∀ W,Mem w L R W→W.cell? ⟨bB,3,none⟩=some (.slice a2 n2 k2))) (C102:Hid (∀ W (v99':Value),Mem w L R W→SlE W v99' (twoL 3 4)→Calls Tryz.prog 28 #[.agg #[.int .i64 2,v99'],.slice a2 n2 k2] W (Rets W (.bool true)))) (x106:Hid (∀ W,Mem w L R W→W.cell? ⟨bC,0,none⟩=some (.bool true))) (x111:Hid (∀ W,Mem w L R W→W.cell? ⟨bC,1,none⟩=some (.slice a3 0 k3))) (x117:Hid (∀ W,Mem w L R W→W.cell? ⟨bD,0,none⟩=some (.bool false))) (x122:Hid (∀ W,Mem w L R W→W.cell? ⟨bD,3,none⟩=some (.slice a4 1 k4))) (h0:Hid (Mem w L R W0)) (hN:us.length=171) (g1:us[1]? = some (.pointer (some ⟨bV,0,none⟩))) (g2:us[2]? = some (.pointer (some ⟨bA,0,none⟩))) (g4:us[4]? = some (.pointer (some ⟨bB,0,none⟩))) (g6:us[6]? = some (.pointer (some ⟨bC,0,none⟩))) (g8:us[8]? = some (.pointer (some ⟨bD,0,none⟩))) {ops:Array Oper} (ho:getOps Tryz.f9.body 10=some ops)
  (hQ:∀ (x:Nat→Value)  (W':World),x 14=.bool true→Hid (Mem w L R W')→Q .normal { tmps:=(sets [79,80,81,82,83,84,85,86,87,88,89,90,91,92,93,94,95,96,97,98,99,100,101,102,103,104,105,106,107,108,109,110,111,112,113,114,115,116,117,118,119,120,121,122,123,124,125,14] x us).toArray,defers:=[] } W') :
  (Code.region 10 ops true).wp Tryz.prog Q { tmps:=us.toArray,defers:=[] } W0:=by
 obtain rfl:=Option.some.inj (ho.symm.trans (rfl:getOps Tryz.f9.body 10=some _))
 clear ho
 replace hQ:=A8 hQ
 let Fl:Unit→FL:=fun g=>[some (79,.pointer (some ⟨bA,0,none⟩)),some (80,.bool true),some (81,.bool true),some (82,.pointer (some ⟨bA,1,none⟩)),some (83,.agg #[.slice a1 n1 k1,.string d1]),some (84,.agg #[.slice (some ⟨bS,0,none⟩) 2 2,.string ⟨#[50]⟩]),some (85,.bool true),some (86,.bool true),some (87,.bool true),some (88,.pointer (some ⟨bA,3,none⟩)),some (89,.slice none 0 0),some (90,.int .i64 0),some (91,.bool true),some (92,.bool true),some (93,.bool true),some (94,.pointer (some ⟨bB,0,none⟩)),some (95,.bool false),some (96,.bool true),some (97,.bool true),some (98,.bool true),none,some (100,.pointer (some ⟨bB,3,none⟩)),some (101,.slice a2 n2 k2),some (102,.bool true),some (103,.bool true),some (104,.bool true),some (105,.pointer (some ⟨bC,0,none⟩)),some (106,.bool true),some (107,.bool true),some (108,.bool true),some (109,.pointer (some ⟨bC,1,none⟩)),some (110,.pointer (some ⟨bC,1,none⟩)),some (111,.slice a3 0 k3),some (112,.int .i64 0),some (113,.bool true),some (114,.bool true),some (115,.bool true),some (116,.pointer (some ⟨bD,0,none⟩)),some (117,.bool false),some (118,.bool true),some (119,.bool true),some (120,.bool true),some (121,.pointer (some ⟨bD,3,none⟩)),some (122,.slice a4 1 k4),some (123,.int .i64 1),some (124,.bool true),some (125,.bool true),some (14,.bool true)]
 let Ml:Unit→ML:=fun g=>[(20,99,(fun yv W=>∃ (v99':Value),yv=.agg #[.int .i64 2,v99']∧SlE W v99' (twoL 3 4)),none)]
 let Sl_:Unit→List (World→Prop):=fun g=>[fun W=>Mem w L R W]
 have St:RgS 171 [79,80,81,82,83,84,85,86,87,88,89,90,91,92,93,94,95,96,97,98,99,100,101,102,103,104,105,106,107,108,109,110,111,112,113,114,115,116,117,118,119,120,121,122,123,124,125,14] [20] Fl Ml (Mem w L R) Sl_:=⟨fun _=>by kernel_rfl,fun _=>rfl,fun _ _ hb h=>h.call hb,fun g=>List.forall_mem_cons.2 ⟨fun yv W W' hb=>fun ⟨g0,e,h⟩=>⟨g0,e,h.below hb⟩,(fun _ h=>by cases h)⟩,fun g=>List.forall_mem_cons.2 ⟨fun W W' hb h=>h.call hb,(fun _ h=>by cases h)⟩⟩
 refine Aq 171 us [79,80,81,82,83,84,85,86,87,88,89,90,91,92,93,94,95,96,97,98,99,100,101,102,103,104,105,106,107,108,109,110,111,112,113,114,115,116,117,118,119,120,121,122,123,124,125,14] Fl Ml [] (Mem w L R) Sl_ hN (by kernel_rfl) (by kernel_rfl) () h0.out.drew h0.out.drew (by kernel_rfl) ?_ ?_
 refine Ab (stV St 0 rfl rfl rfl (fun _=>rfl) fun g T E W hl hw hs z K J=>by
  have x2:=z.u g2
  go_simp;exact J) ?_
 refine Ab (stV St 1 rfl rfl rfl (fun _=>rfl) fun g T E W hl hw hs z K J=>by
  have x79:=z.x 0 hw rfl
  have hC:=z.c
  have k0:=x80.out _ hC
  go_simp;exact J) ?_
 refine Ab (stV St 2 rfl rfl rfl (fun _=>rfl) fun g T E W hl hw hs z K J=>by
  have x80:=z.x 1 hw rfl
  go_simp;exact J) ?_
 refine Ab (stG St 3 rfl rfl (wg 2 rfl rfl (by kernel_rfl) (fun _=>rfl)) rfl (fun _=>rfl) fun g T E W hl hw hs z K J=>by
  have x2:=z.u g2
  go_simp;exact J) ?_
 refine Ab (stG St 4 rfl rfl (wg 2 rfl rfl (by kernel_rfl) (fun _=>rfl)) rfl (fun _=>rfl) fun g T E W hl hw hs z K J=>by
  have x82:=z.x 3 hw rfl
  have hC:=z.c
  have k0:=x83_0.out _ hC
  have hC:=z.c
  have k1:=x83_1.out _ hC
  go_simp;exact J) ?_
 refine Ab (stG St 5 rfl rfl (wg 2 rfl rfl (by kernel_rfl) (fun _=>rfl)) rfl (fun _=>rfl) fun g T E W hl hw hs z K J=>by
  have x1:=z.u g1
  have hC:=z.c
  have k0:=x84_0.out _ hC
  have hC:=z.c
  have k1:=x84_1.out _ hC
  go_simp;exact J) ?_
 refine Ab (stH St 6 rfl rfl (wg 2 rfl rfl (by kernel_rfl) (fun _=>rfl)) rfl (fun _=>rfl) fun g T E W hl hw hs z K J=>by
  have x83:=z.x 4 hw rfl
  have x84:=z.x 5 hw rfl
  have hC:=z.c
  go_simp
  refine Calls.mono (C85.out W hC) ?_
  rintro e W2 ⟨rfl,hb⟩
  exact J _ hb) ?_
 refine Ab (stV St 7 rfl rfl rfl (fun _=>rfl) fun g T E W hl hw hs z K J=>by
  have x81:=z.x 2 hw rfl
  have x85:=z.x 6 hw rfl
  go_simp;exact J) ?_
 refine Ab (stV St 8 rfl rfl rfl (fun _=>rfl) fun g T E W hl hw hs z K J=>by
  have x86:=z.x 7 hw rfl
  go_simp;exact J) ?_
 refine Ab (stG St 9 rfl rfl (wg 8 rfl rfl (by kernel_rfl) (fun _=>rfl)) rfl (fun _=>rfl) fun g T E W hl hw hs z K J=>by
  have x2:=z.u g2
  go_simp;exact J) ?_
 refine Ab (stG St 10 rfl rfl (wg 8 rfl rfl (by kernel_rfl) (fun _=>rfl)) rfl (fun _=>rfl) fun g T E W hl hw hs z K J=>by
  have x88:=z.x 9 hw rfl
  have hC:=z.c
  have k0:=x89.out _ hC
  go_simp;exact J) ?_
 refine Ab (stG St 11 rfl rfl (wg 8 rfl rfl (by kernel_rfl) (fun _=>rfl)) rfl (fun _=>rfl) fun g T E W hl hw hs z K J=>by
  have x89:=z.x 10 hw rfl
  go_simp;exact J) ?_
 refine Ab (stG St 12 rfl rfl (wg 8 rfl rfl (by kernel_rfl) (fun _=>rfl)) rfl (fun _=>rfl) fun g T E W hl hw hs z K J=>by
  have x90:=z.x 11 hw rfl
  go_simp;exact J) ?_
 refine Ab (stV St 13 rfl rfl rfl (fun _=>rfl) fun g T E W hl hw hs z K J=>by
  have x87:=z.x 8 hw rfl
  have x91:=z.x 12 hw rfl
  go_simp;exact J) ?_
 refine Ab (stV St 14 rfl rfl rfl (fun _=>rfl) fun g T E W hl hw hs z K J=>by
  have x92:=z.x 13 hw rfl
  go_simp;exact J) ?_
 refine Ab (stG St 15 rfl rfl (wg 14 rfl rfl (by kernel_rfl) (fun _=>rfl)) rfl (fun _=>rfl) fun g T E W hl hw hs z K J=>by
  have x4:=z.u g4
  go_simp;exact J) ?_
 refine Ab (stG St 16 rfl rfl (wg 14 rfl rfl (by kernel_rfl) (fun _=>rfl)) rfl (fun _=>rfl) fun g T E W hl hw hs z K J=>by
  have x94:=z.x 15 hw rfl
  have hC:=z.c
  have k0:=x95.out _ hC
  go_simp;exact J) ?_
 refine Ab (stG St 17 rfl rfl (wg 14 rfl rfl (by kernel_rfl) (fun _=>rfl)) rfl (fun _=>rfl) fun g T E W hl hw hs z K J=>by
  have x95:=z.x 16 hw rfl
  go_simp;exact J) ?_
 refine Ab (stV St 18 rfl rfl rfl (fun _=>rfl) fun g T E W hl hw hs z K J=>by
  have x93:=z.x 14 hw rfl
  have x96:=z.x 17 hw rfl
  go_simp;exact J) ?_
 refine Ab (stV St 19 rfl rfl rfl (fun _=>rfl) fun g T E W hl hw hs z K J=>by
  have x97:=z.x 18 hw rfl
  go_simp;exact J) ?_
 refine Ab (stM St 20 0 rfl rfl (wg 19 rfl rfl (by kernel_rfl) (fun _=>rfl)) (fun _=>rfl) (fun _=>by kernel_rfl) fun g T E W hl hw hs z K J=>by
  have hC:=z.c
  go_simp
  refine Calls.mono (C99.out W hC) ?_
  rintro e W2 ⟨v99',rfl,hp,hb⟩
  exact J _ _ hb ⟨v99',rfl,hp⟩) ?_
 refine Ab (stG St 21 rfl rfl (wg 19 rfl rfl (by kernel_rfl) (fun _=>rfl)) rfl (fun _=>rfl) fun g T E W hl hw hs z K J=>by
  have x4:=z.u g4
  go_simp;exact J) ?_
 refine Ab (stG St 22 rfl rfl (wg 19 rfl rfl (by kernel_rfl) (fun _=>rfl)) rfl (fun _=>rfl) fun g T E W hl hw hs z K J=>by
  have x100:=z.x 21 hw rfl
  have hC:=z.c
  have k0:=x101.out _ hC
  go_simp;exact J) ?_
 refine Ab (stH St 23 rfl rfl (wg 19 rfl rfl (by kernel_rfl) (fun _=>rfl)) rfl (fun _=>rfl) fun g T E W hl hw hs z K J=>by
  obtain ⟨_,x99,v99',rfl,hm20⟩:=z.y 0 hl hw hs rfl
  have x101:=z.x 22 hw rfl
  have hC:=z.c
  go_simp
  refine Calls.mono (C102.out W v99' hC hm20) ?_
  rintro e W2 ⟨rfl,hb⟩
  exact J _ hb) ?_
 refine Ab (stV St 24 rfl rfl rfl (fun _=>rfl) fun g T E W hl hw hs z K J=>by
  have x98:=z.x 19 hw rfl
  have x102:=z.x 23 hw rfl
  go_simp;exact J) ?_
 refine Ab (stV St 25 rfl rfl rfl (fun _=>rfl) fun g T E W hl hw hs z K J=>by
  have x103:=z.x 24 hw rfl
  go_simp;exact J) ?_
 refine Ab (stG St 26 rfl rfl (wg 25 rfl rfl (by kernel_rfl) (fun _=>rfl)) rfl (fun _=>rfl) fun g T E W hl hw hs z K J=>by
  have x6:=z.u g6
  go_simp;exact J) ?_
 refine Ab (stG St 27 rfl rfl (wg 25 rfl rfl (by kernel_rfl) (fun _=>rfl)) rfl (fun _=>rfl) fun g T E W hl hw hs z K J=>by
  have x105:=z.x 26 hw rfl
  have hC:=z.c
  have k0:=x106.out _ hC
  go_simp;exact J) ?_
 refine Ab (stV St 28 rfl rfl rfl (fun _=>rfl) fun g T E W hl hw hs z K J=>by
  have x104:=z.x 25 hw rfl
  have x106:=z.x 27 hw rfl
  go_simp;exact J) ?_
 refine Ab (stV St 29 rfl rfl rfl (fun _=>rfl) fun g T E W hl hw hs z K J=>by
  have x107:=z.x 28 hw rfl
  go_simp;exact J) ?_
 refine Ab (stG St 30 rfl rfl (wg 29 rfl rfl (by kernel_rfl) (fun _=>rfl)) rfl (fun _=>rfl) fun g T E W hl hw hs z K J=>by
  have x6:=z.u g6
  go_simp;exact J) ?_
 refine Ab (stG St 31 rfl rfl (wg 29 rfl rfl (by kernel_rfl) (fun _=>rfl)) rfl (fun _=>rfl) fun g T E W hl hw hs z K J=>by
  have x109:=z.x 30 hw rfl
  go_simp;exact J) ?_
 refine Ab (stG St 32 rfl rfl (wg 29 rfl rfl (by kernel_rfl) (fun _=>rfl)) rfl (fun _=>rfl) fun g T E W hl hw hs z K J=>by
  have x110:=z.x 31 hw rfl
  have hC:=z.c
  have k0:=x111.out _ hC
  go_simp;exact J) ?_
 refine Ab (stG St 33 rfl rfl (wg 29 rfl rfl (by kernel_rfl) (fun _=>rfl)) rfl (fun _=>rfl) fun g T E W hl hw hs z K J=>by
  have x111:=z.x 32 hw rfl
  go_simp;exact J) ?_
 refine Ab (stG St 34 rfl rfl (wg 29 rfl rfl (by kernel_rfl) (fun _=>rfl)) rfl (fun _=>rfl) fun g T E W hl hw hs z K J=>by
  have x112:=z.x 33 hw rfl
  go_simp;exact J) ?_
 refine Ab (stV St 35 rfl rfl rfl (fun _=>rfl) fun g T E W hl hw hs z K J=>by
  have x108:=z.x 29 hw rfl
  have x113:=z.x 34 hw rfl
  go_simp;exact J) ?_
 refine Ab (stV St 36 rfl rfl rfl (fun _=>rfl) fun g T E W hl hw hs z K J=>by
  have x114:=z.x 35 hw rfl
  go_simp;exact J) ?_
 refine Ab (stG St 37 rfl rfl (wg 36 rfl rfl (by kernel_rfl) (fun _=>rfl)) rfl (fun _=>rfl) fun g T E W hl hw hs z K J=>by
  have x8:=z.u g8
  go_simp;exact J) ?_
 refine Ab (stG St 38 rfl rfl (wg 36 rfl rfl (by kernel_rfl) (fun _=>rfl)) rfl (fun _=>rfl) fun g T E W hl hw hs z K J=>by
  have x116:=z.x 37 hw rfl
  have hC:=z.c
  have k0:=x117.out _ hC
  go_simp;exact J) ?_
 refine Ab (stG St 39 rfl rfl (wg 36 rfl rfl (by kernel_rfl) (fun _=>rfl)) rfl (fun _=>rfl) fun g T E W hl hw hs z K J=>by
  have x117:=z.x 38 hw rfl
  go_simp;exact J) ?_
 refine Ab (stV St 40 rfl rfl rfl (fun _=>rfl) fun g T E W hl hw hs z K J=>by
  have x115:=z.x 36 hw rfl
  have x118:=z.x 39 hw rfl
  go_simp;exact J) ?_
 refine Ab (stV St 41 rfl rfl rfl (fun _=>rfl) fun g T E W hl hw hs z K J=>by
  have x119:=z.x 40 hw rfl
  go_simp;exact J) ?_
 refine Ab (stG St 42 rfl rfl (wg 41 rfl rfl (by kernel_rfl) (fun _=>rfl)) rfl (fun _=>rfl) fun g T E W hl hw hs z K J=>by
  have x8:=z.u g8
  go_simp;exact J) ?_
 refine Ab (stG St 43 rfl rfl (wg 41 rfl rfl (by kernel_rfl) (fun _=>rfl)) rfl (fun _=>rfl) fun g T E W hl hw hs z K J=>by
  have x121:=z.x 42 hw rfl
  have hC:=z.c
  have k0:=x122.out _ hC
  go_simp;exact J) ?_
 refine Ab (stG St 44 rfl rfl (wg 41 rfl rfl (by kernel_rfl) (fun _=>rfl)) rfl (fun _=>rfl) fun g T E W hl hw hs z K J=>by
  have x122:=z.x 43 hw rfl
  go_simp;exact J) ?_
 refine Ab (stG St 45 rfl rfl (wg 41 rfl rfl (by kernel_rfl) (fun _=>rfl)) rfl (fun _=>rfl) fun g T E W hl hw hs z K J=>by
  have x123:=z.x 44 hw rfl
  go_simp;exact J) ?_
 refine Ab (stV St 46 rfl rfl rfl (fun _=>rfl) fun g T E W hl hw hs z K J=>by
  have x120:=z.x 41 hw rfl
  have x124:=z.x 45 hw rfl
  go_simp;exact J) ?_
 refine Ab (stV St 47 rfl rfl rfl (fun _=>rfl) fun g T E W hl hw hs z K J=>by
  have x125:=z.x 46 hw rfl
  go_simp;exact J) ?_
 ·exact Af
 ·intro g a W z q
  have hM9:Mem _ _ _ _:=q
  have x14:=z.v.get 47 rfl (by kernel_rfl)
  rw [z.f.eqs]
  exact hQ.out _   _ (by simp [x14]) (A8 hM9)
theorem L9 {Q:Exit→Act→World→Prop} {us:List Value} {bV bS:Nat} {w W0:World} {L:BLs} {R:List RowD}    (C126:Hid (∀ W,Mem w L R W→Calls Tryz.prog 34 #[.int .i64 3,.int .i64 1] W fun e W'=>∃ (v126':Value),e=.returned (.agg #[.int .i64 2,v126'])∧SlE W' v126' (twoL 3 1)∧Below W.heap.size W W')) (x127_0:Hid (∀ W,Mem w L R W→W.cell? ⟨bV,0,none⟩=some (.slice (some ⟨bS,0,none⟩) 2 2))) (x127_1:Hid (∀ W,Mem w L R W→W.cell? ⟨bV,1,none⟩=some (.string ⟨#[50]⟩))) (C128:Hid (∀ W (v126':Value),Mem w L R W→SlE W v126' (twoL 3 1)→Calls Tryz.prog 19 #[.agg #[.int .i64 2,v126'],.agg #[.slice (some ⟨bS,0,none⟩) 2 2,.string ⟨#[50]⟩]] W (Rets W (.bool true)))) (C130:Hid (∀ W,Mem w L R W→Calls Tryz.prog 34 #[.int .i64 3,.int .i64 2] W fun e W'=>∃ (v130':Value),e=.returned (.agg #[.int .i64 2,v130'])∧SlE W' v130' (twoL 3 2)∧Below W.heap.size W W')) (x131_0:Hid (∀ W,Mem w L R W→W.cell? ⟨bV,0,none⟩=some (.slice (some ⟨bS,0,none⟩) 2 2))) (x131_1:Hid (∀ W,Mem w L R W→W.cell? ⟨bV,1,none⟩=some (.string ⟨#[50]⟩))) (C132:Hid (∀ W (v130':Value),Mem w L R W→SlE W v130' (twoL 3 2)→Calls Tryz.prog 19 #[.agg #[.int .i64 2,v130'],.agg #[.slice (some ⟨bS,0,none⟩) 2 2,.string ⟨#[50]⟩]] W (Rets W (.bool false)))) (C136:Hid (∀ W,Mem w L R W→Calls Tryz.prog 34 #[.int .i64 3,.int .i64 4] W fun e W'=>∃ (v136':Value),e=.returned (.agg #[.int .i64 2,v136'])∧SlE W' v136' (twoL 3 4)∧Below W.heap.size W W')) (C138:Hid (∀ W (v136':Value) (g137:Nat),Mem w L R W→SlE W v136' (twoL 3 4)→Blk W g137 #[.string ⟨#[49]⟩,.string ⟨#[45,49]⟩] 9→Calls Tryz.prog 28 #[.agg #[.int .i64 2,v136'],.slice (some ⟨g137,0,none⟩) 2 2] W (Rets W (.bool true)))) (C141:Hid (∀ W,Mem w L R W→Calls Tryz.prog 34 #[.int .i64 3,.int .i64 4] W fun e W'=>∃ (v141':Value),e=.returned (.agg #[.int .i64 2,v141'])∧SlE W' v141' (twoL 3 4)∧Below W.heap.size W W')) (C143:Hid (∀ W (v141':Value) (g142:Nat),Mem w L R W→SlE W v141' (twoL 3 4)→Blk W g142 #[.string ⟨#[45,49]⟩,.string ⟨#[49]⟩] 9→Calls Tryz.prog 28 #[.agg #[.int .i64 2,v141'],.slice (some ⟨g142,0,none⟩) 2 2] W (Rets W (.bool false)))) (C147:Hid (∀ W,Mem w L R W→Calls Tryz.prog 34 #[.int .i64 3,.int .i64 1] W fun e W'=>∃ (v147':Value),e=.returned (.agg #[.int .i64 2,v147'])∧SlE W' v147' (twoL 3 1)∧Below W.heap.size W W')) (C149:Hid (∀ W (v147':Value) (g148:Nat),Mem w L R W→SlE W v147' (twoL 3 1)→Blk W g148 #[.string ⟨#[49]⟩,.string ⟨#[45,49]⟩] 9→Calls Tryz.prog 28 #[.agg #[.int .i64 2,v147'],.slice (some ⟨g148,0,none⟩) 2 2] W (Rets W (.bool false)))) (h0:Hid (Mem w L R W0)) (hN:us.length=171) (g1:us[1]? = some (.pointer (some ⟨bV,0,none⟩))) {ops:Array Oper} (ho:getOps Tryz.f9.body 11=some ops)
  (hQ:∀ (x:Nat→Value)  (W':World),x 15=.bool true→Hid (Mem w L R W')→Q .normal { tmps:=(sets [126,127,128,129,130,131,132,133,134,135,136,137,138,139,140,141,142,143,144,145,146,147,148,149,150,151,15] x us).toArray,defers:=[] } W') :
  (Code.region 11 ops true).wp Tryz.prog Q { tmps:=us.toArray,defers:=[] } W0:=by
 obtain rfl:=Option.some.inj (ho.symm.trans (rfl:getOps Tryz.f9.body 11=some _))
 clear ho
 replace hQ:=A8 hQ
 let Fl:Unit→FL:=fun g=>[none,some (127,.agg #[.slice (some ⟨bS,0,none⟩) 2 2,.string ⟨#[50]⟩]),some (128,.bool true),some (129,.bool true),none,some (131,.agg #[.slice (some ⟨bS,0,none⟩) 2 2,.string ⟨#[50]⟩]),some (132,.bool false),some (133,.bool true),some (134,.bool true),some (135,.bool true),none,none,some (138,.bool true),some (139,.bool true),some (140,.bool true),none,none,some (143,.bool false),some (144,.bool true),some (145,.bool true),some (146,.bool true),none,none,some (149,.bool false),some (150,.bool true),some (151,.bool true),some (15,.bool true)]
 let Ml:Unit→ML:=fun g=>[(0,126,(fun yv W=>∃ (v126':Value),yv=.agg #[.int .i64 2,v126']∧SlE W v126' (twoL 3 1)),none),(4,130,(fun yv W=>∃ (v130':Value),yv=.agg #[.int .i64 2,v130']∧SlE W v130' (twoL 3 2)),none),(10,136,(fun yv W=>∃ (v136':Value),yv=.agg #[.int .i64 2,v136']∧SlE W v136' (twoL 3 4)),none),(11,137,(fun yv W=>∃ (g137:Nat),yv=.slice (some ⟨g137,0,none⟩) 2 2∧Blk W g137 #[.string ⟨#[49]⟩,.string ⟨#[45,49]⟩] 9),none),(15,141,(fun yv W=>∃ (v141':Value),yv=.agg #[.int .i64 2,v141']∧SlE W v141' (twoL 3 4)),none),(16,142,(fun yv W=>∃ (g142:Nat),yv=.slice (some ⟨g142,0,none⟩) 2 2∧Blk W g142 #[.string ⟨#[45,49]⟩,.string ⟨#[49]⟩] 9),none),(21,147,(fun yv W=>∃ (v147':Value),yv=.agg #[.int .i64 2,v147']∧SlE W v147' (twoL 3 1)),none),(22,148,(fun yv W=>∃ (g148:Nat),yv=.slice (some ⟨g148,0,none⟩) 2 2∧Blk W g148 #[.string ⟨#[49]⟩,.string ⟨#[45,49]⟩] 9),none)]
 let Sl_:Unit→List (World→Prop):=fun g=>[fun W=>Mem w L R W]
 have St:RgS 171 [126,127,128,129,130,131,132,133,134,135,136,137,138,139,140,141,142,143,144,145,146,147,148,149,150,151,15] [0,4,10,11,15,16,21,22] Fl Ml (Mem w L R) Sl_:=⟨fun _=>by kernel_rfl,fun _=>rfl,fun _ _ hb h=>h.call hb,fun g=>List.forall_mem_cons.2 ⟨fun yv W W' hb=>fun ⟨g0,e,h⟩=>⟨g0,e,h.below hb⟩,List.forall_mem_cons.2 ⟨fun yv W W' hb=>fun ⟨g0,e,h⟩=>⟨g0,e,h.below hb⟩,List.forall_mem_cons.2 ⟨fun yv W W' hb=>fun ⟨g0,e,h⟩=>⟨g0,e,h.below hb⟩,List.forall_mem_cons.2 ⟨fun yv W W' hb=>fun ⟨g,e,h⟩=>⟨g,e,h.below hb⟩,List.forall_mem_cons.2 ⟨fun yv W W' hb=>fun ⟨g0,e,h⟩=>⟨g0,e,h.below hb⟩,List.forall_mem_cons.2 ⟨fun yv W W' hb=>fun ⟨g,e,h⟩=>⟨g,e,h.below hb⟩,List.forall_mem_cons.2 ⟨fun yv W W' hb=>fun ⟨g0,e,h⟩=>⟨g0,e,h.below hb⟩,List.forall_mem_cons.2 ⟨fun yv W W' hb=>fun ⟨g,e,h⟩=>⟨g,e,h.below hb⟩,(fun _ h=>by cases h)⟩⟩⟩⟩⟩⟩⟩⟩,fun g=>List.forall_mem_cons.2 ⟨fun W W' hb h=>h.call hb,(fun _ h=>by cases h)⟩⟩
 refine Aq 171 us [126,127,128,129,130,131,132,133,134,135,136,137,138,139,140,141,142,143,144,145,146,147,148,149,150,151,15] Fl Ml [] (Mem w L R) Sl_ hN (by kernel_rfl) (by kernel_rfl) () h0.out.drew h0.out.drew (by kernel_rfl) ?_ ?_
 refine Ab (stM St 0 0 rfl rfl (.inl rfl) (fun _=>rfl) (fun _=>by kernel_rfl) fun g T E W hl hw hs z K J=>by
  have hC:=z.c
  go_simp
  refine Calls.mono (C126.out W hC) ?_
  rintro e W2 ⟨v126',rfl,hp,hb⟩
  exact J _ _ hb ⟨v126',rfl,hp⟩) ?_
 refine Ab (stV St 1 rfl rfl rfl (fun _=>rfl) fun g T E W hl hw hs z K J=>by
  have x1:=z.u g1
  have hC:=z.c
  have k0:=x127_0.out _ hC
  have hC:=z.c
  have k1:=x127_1.out _ hC
  go_simp;exact J) ?_
 refine Ab (stC St 2 rfl rfl rfl (fun _=>rfl) fun g T E W hl hw hs z K J=>by
  obtain ⟨_,x126,v126',rfl,hm0⟩:=z.y 0 hl hw hs rfl
  have x127:=z.x 1 hw rfl
  have hC:=z.c
  go_simp
  refine Calls.mono (C128.out W v126' hC hm0) ?_
  rintro e W2 ⟨rfl,hb⟩
  exact J _ hb) ?_
 refine Ab (stV St 3 rfl rfl rfl (fun _=>rfl) fun g T E W hl hw hs z K J=>by
  have x128:=z.x 2 hw rfl
  go_simp;exact J) ?_
 refine Ab (stM St 4 1 rfl rfl (wg 3 rfl rfl (by kernel_rfl) (fun _=>rfl)) (fun _=>rfl) (fun _=>by kernel_rfl) fun g T E W hl hw hs z K J=>by
  have hC:=z.c
  go_simp
  refine Calls.mono (C130.out W hC) ?_
  rintro e W2 ⟨v130',rfl,hp,hb⟩
  exact J _ _ hb ⟨v130',rfl,hp⟩) ?_
 refine Ab (stG St 5 rfl rfl (wg 3 rfl rfl (by kernel_rfl) (fun _=>rfl)) rfl (fun _=>rfl) fun g T E W hl hw hs z K J=>by
  have x1:=z.u g1
  have hC:=z.c
  have k0:=x131_0.out _ hC
  have hC:=z.c
  have k1:=x131_1.out _ hC
  go_simp;exact J) ?_
 refine Ab (stH St 6 rfl rfl (wg 3 rfl rfl (by kernel_rfl) (fun _=>rfl)) rfl (fun _=>rfl) fun g T E W hl hw hs z K J=>by
  obtain ⟨_,x130,v130',rfl,hm4⟩:=z.y 1 hl hw hs rfl
  have x131:=z.x 5 hw rfl
  have hC:=z.c
  go_simp
  refine Calls.mono (C132.out W v130' hC hm4) ?_
  rintro e W2 ⟨rfl,hb⟩
  exact J _ hb) ?_
 refine Ab (stG St 7 rfl rfl (wg 3 rfl rfl (by kernel_rfl) (fun _=>rfl)) rfl (fun _=>rfl) fun g T E W hl hw hs z K J=>by
  have x132:=z.x 6 hw rfl
  go_simp;exact J) ?_
 refine Ab (stV St 8 rfl rfl rfl (fun _=>rfl) fun g T E W hl hw hs z K J=>by
  have x129:=z.x 3 hw rfl
  have x133:=z.x 7 hw rfl
  go_simp;exact J) ?_
 refine Ab (stV St 9 rfl rfl rfl (fun _=>rfl) fun g T E W hl hw hs z K J=>by
  have x134:=z.x 8 hw rfl
  go_simp;exact J) ?_
 refine Ab (stM St 10 2 rfl rfl (wg 9 rfl rfl (by kernel_rfl) (fun _=>rfl)) (fun _=>rfl) (fun _=>by kernel_rfl) fun g T E W hl hw hs z K J=>by
  have hC:=z.c
  go_simp
  refine Calls.mono (C136.out W hC) ?_
  rintro e W2 ⟨v136',rfl,hp,hb⟩
  exact J _ _ hb ⟨v136',rfl,hp⟩) ?_
 refine Ab (stM St 11 3 rfl rfl (wg 9 rfl rfl (by kernel_rfl) (fun _=>rfl)) (fun _=>rfl) (fun _=>by kernel_rfl) fun g T E W hl hw hs z K J=>by
  go_simp;exact J _ _ ((Below.refl _ _).alloc (Aa _) _) ⟨_,rfl,Blk.new _ _ _⟩) ?_
 refine Ab (stH St 12 rfl rfl (wg 9 rfl rfl (by kernel_rfl) (fun _=>rfl)) rfl (fun _=>rfl) fun g T E W hl hw hs z K J=>by
  obtain ⟨_,x136,v136',rfl,hm10⟩:=z.y 2 hl hw hs rfl
  obtain ⟨_,x137,g137,rfl,hb11⟩:=z.y 3 hl hw hs rfl
  have hC:=z.c
  go_simp
  refine Calls.mono (C138.out W v136' g137 hC hm10 hb11) ?_
  rintro e W2 ⟨rfl,hb⟩
  exact J _ hb) ?_
 refine Ab (stV St 13 rfl rfl rfl (fun _=>rfl) fun g T E W hl hw hs z K J=>by
  have x135:=z.x 9 hw rfl
  have x138:=z.x 12 hw rfl
  go_simp;exact J) ?_
 refine Ab (stV St 14 rfl rfl rfl (fun _=>rfl) fun g T E W hl hw hs z K J=>by
  have x139:=z.x 13 hw rfl
  go_simp;exact J) ?_
 refine Ab (stM St 15 4 rfl rfl (wg 14 rfl rfl (by kernel_rfl) (fun _=>rfl)) (fun _=>rfl) (fun _=>by kernel_rfl) fun g T E W hl hw hs z K J=>by
  have hC:=z.c
  go_simp
  refine Calls.mono (C141.out W hC) ?_
  rintro e W2 ⟨v141',rfl,hp,hb⟩
  exact J _ _ hb ⟨v141',rfl,hp⟩) ?_
 refine Ab (stM St 16 5 rfl rfl (wg 14 rfl rfl (by kernel_rfl) (fun _=>rfl)) (fun _=>rfl) (fun _=>by kernel_rfl) fun g T E W hl hw hs z K J=>by
  go_simp;exact J _ _ ((Below.refl _ _).alloc (Aa _) _) ⟨_,rfl,Blk.new _ _ _⟩) ?_
 refine Ab (stH St 17 rfl rfl (wg 14 rfl rfl (by kernel_rfl) (fun _=>rfl)) rfl (fun _=>rfl) fun g T E W hl hw hs z K J=>by
  obtain ⟨_,x141,v141',rfl,hm15⟩:=z.y 4 hl hw hs rfl
  obtain ⟨_,x142,g142,rfl,hb16⟩:=z.y 5 hl hw hs rfl
  have hC:=z.c
  go_simp
  refine Calls.mono (C143.out W v141' g142 hC hm15 hb16) ?_
  rintro e W2 ⟨rfl,hb⟩
  exact J _ hb) ?_
 refine Ab (stG St 18 rfl rfl (wg 14 rfl rfl (by kernel_rfl) (fun _=>rfl)) rfl (fun _=>rfl) fun g T E W hl hw hs z K J=>by
  have x143:=z.x 17 hw rfl
  go_simp;exact J) ?_
 refine Ab (stV St 19 rfl rfl rfl (fun _=>rfl) fun g T E W hl hw hs z K J=>by
  have x140:=z.x 14 hw rfl
  have x144:=z.x 18 hw rfl
  go_simp;exact J) ?_
 refine Ab (stV St 20 rfl rfl rfl (fun _=>rfl) fun g T E W hl hw hs z K J=>by
  have x145:=z.x 19 hw rfl
  go_simp;exact J) ?_
 refine Ab (stM St 21 6 rfl rfl (wg 20 rfl rfl (by kernel_rfl) (fun _=>rfl)) (fun _=>rfl) (fun _=>by kernel_rfl) fun g T E W hl hw hs z K J=>by
  have hC:=z.c
  go_simp
  refine Calls.mono (C147.out W hC) ?_
  rintro e W2 ⟨v147',rfl,hp,hb⟩
  exact J _ _ hb ⟨v147',rfl,hp⟩) ?_
 refine Ab (stM St 22 7 rfl rfl (wg 20 rfl rfl (by kernel_rfl) (fun _=>rfl)) (fun _=>rfl) (fun _=>by kernel_rfl) fun g T E W hl hw hs z K J=>by
  go_simp;exact J _ _ ((Below.refl _ _).alloc (Aa _) _) ⟨_,rfl,Blk.new _ _ _⟩) ?_
 refine Ab (stH St 23 rfl rfl (wg 20 rfl rfl (by kernel_rfl) (fun _=>rfl)) rfl (fun _=>rfl) fun g T E W hl hw hs z K J=>by
  obtain ⟨_,x147,v147',rfl,hm21⟩:=z.y 6 hl hw hs rfl
  obtain ⟨_,x148,g148,rfl,hb22⟩:=z.y 7 hl hw hs rfl
  have hC:=z.c
  go_simp
  refine Calls.mono (C149.out W v147' g148 hC hm21 hb22) ?_
  rintro e W2 ⟨rfl,hb⟩
  exact J _ hb) ?_
 refine Ab (stG St 24 rfl rfl (wg 20 rfl rfl (by kernel_rfl) (fun _=>rfl)) rfl (fun _=>rfl) fun g T E W hl hw hs z K J=>by
  have x149:=z.x 23 hw rfl
  go_simp;exact J) ?_
 refine Ab (stV St 25 rfl rfl rfl (fun _=>rfl) fun g T E W hl hw hs z K J=>by
  have x146:=z.x 20 hw rfl
  have x150:=z.x 24 hw rfl
  go_simp;exact J) ?_
 refine Ab (stV St 26 rfl rfl rfl (fun _=>rfl) fun g T E W hl hw hs z K J=>by
  have x151:=z.x 25 hw rfl
  go_simp;exact J) ?_
 ·exact Af
 ·intro g a W z q
  have hM9:Mem _ _ _ _:=q
  have x15:=z.v.get 26 rfl (by kernel_rfl)
  rw [z.f.eqs]
  exact hQ.out _   _ (by simp [x15]) (A8 hM9)
section
variable {ops:Array Oper} {rest:List Oper} {o:Oper} {a:Act} {Q:Exit→Act→World→Prop} {K:Act→World→Prop} {w0 w:World} {L:BLs} {R:List RowD} {s x:Operand} {v:Value} {n:Nat} {xs:List Value} {g:Nat}
theorem E7 {e:TypeId} {k:Nat} {v:Value} {xs:List Value} (h:w.ownsRow w0.heap.size e k v (n+1) xs):∃ g' cap,v=.slice (some ⟨g',0,none⟩) (n+1) cap:=by
 rcases h.2 with ⟨_,h0⟩ | ⟨g',cap,cur,e,_⟩
 ·omega
 ·exact ⟨g',cap,e⟩
theorem L0 (ho:o.op=.call { callee:=.builtin .append,args:=#[s,x],argTypes:=#[22,22] }) (hM:Mem w0 L (⟨3,1,v,n,xs⟩ :: R) w) (hs:a.eval s=v)
  {z:Int} (hx:a.eval x=.slice (some ⟨g,0,none⟩) 1 1) (hu:w.cell? ⟨g,0,none⟩=some (.int .i64 z)) (hn:n≤1000000)
  (h:∀ g' cap w',Mem w0 L (⟨3,1,.slice (some ⟨g',0,none⟩) (n+1) cap,n+1,xs++[.int .i64 z]⟩ :: R) w'→K (a.put o.dst (.slice (some ⟨g',0,none⟩) (n+1) cap)) w'):Oper.wp Tryz.prog o a w K Q :=
 AP 22 3 (.int .i64 0) 8 Tryz.underlying22 Bt rfl s x ho v n xs hs hM.own0 g _ hx hu rfl (by omega) hn hM.size fun v' w' r1 r2 r3=>by
  obtain ⟨g',cap,rfl⟩:=E7 r1
  exact h g' cap w' (hM.app0 r2 r1 r3)
theorem Cx (ho:o.op=.call { callee:=.builtin .append,args:=#[s,x],argTypes:=#[28,28] }) (hM:Mem w0 L (⟨9,1,v,n,xs⟩ :: R) w) (hs:a.eval s=v)
  {z:ByteArray} (hx:a.eval x=.slice (some ⟨g,0,none⟩) 1 1) (hu:w.cell? ⟨g,0,none⟩=some (.string z)) (hn:n≤1000000)
  (h:∀ g' cap w',Mem w0 L (⟨9,1,.slice (some ⟨g',0,none⟩) (n+1) cap,n+1,xs++[.string z]⟩ :: R) w'→K (a.put o.dst (.slice (some ⟨g',0,none⟩) (n+1) cap)) w'):Oper.wp Tryz.prog o a w K Q :=
 AP 28 9 (.string ⟨#[]⟩) 16 Tryz.underlying28 CY rfl s x ho v n xs hs hM.own0 g _ hx hu rfl (by omega) hn hM.size fun v' w' r1 r2 r3=>by
  obtain ⟨g',cap,rfl⟩:=E7 r1
  exact h g' cap w' (hM.app0 r2 r1 r3)
theorem L2 (ho:o.op=.call { callee:=.builtin .append,args:=#[s,x],argTypes:=#[25,25] }) (hM:Mem w0 L (⟨60,2,v,n,xs⟩ :: R) w) (hs:a.eval s=v)
  {u1 u2:Value} (hx:a.eval x=.slice (some ⟨g,0,none⟩) 1 1) (hu1:w.cell? ⟨g,0,none⟩=some u1) (hu2:w.cell? ⟨g,1,none⟩=some u2) (h1:u1.oneCell'=true) (h2:u2.oneCell'=true) (hn:n≤1000000)
  (h:∀ g' cap w',Mem w0 L (⟨60,2,.slice (some ⟨g',0,none⟩) (n+1) cap,n+1,xs++[u1,u2]⟩ :: R) w'→K (a.put o.dst (.slice (some ⟨g',0,none⟩) (n+1) cap)) w'):Oper.wp Tryz.prog o a w K Q :=
 FM 25 Tryz.underlying25 s x ho v n xs hs hM.own0 g u1 u2 hx hu1 hu2 h1 h2 hn hM.size fun v' w' r1 r2 r3=>by
  obtain ⟨g',cap,rfl⟩:=E7 r1
  exact h g' cap w' (hM.app0 r2 r1 r3)
theorem Ii (hgd:o.guard=none) (ho:o.op=.call { callee:=.builtin .append,args:=#[s,x],argTypes:=#[22,22] }) (hM:Mem w0 L (⟨3,1,v,n,xs⟩ :: R) w) (hs:a.eval s=v)
  {z:Int} (hx:a.eval x=.slice (some ⟨g,0,none⟩) 1 1) (hu:w.cell? ⟨g,0,none⟩=some (.int .i64 z)) (hn:n≤1000000)
  (h:∀ g' cap w',Mem w0 L (⟨3,1,.slice (some ⟨g',0,none⟩) (n+1) cap,n+1,xs++[.int .i64 z]⟩ :: R) w'→wpList Tryz.prog ops Q rest (a.put o.dst (.slice (some ⟨g',0,none⟩) (n+1) cap)) w'):wpList Tryz.prog ops Q (o :: rest) a w :=
 wpList_plain hgd fun _ hK=>L0 ho hM hs hx hu hn fun g' cap w' hm=>hK _ _ (h g' cap w' hm)
theorem En (hgd:o.guard=none) (ho:o.op=.call { callee:=.builtin .append,args:=#[s,x],argTypes:=#[28,28] }) (hM:Mem w0 L (⟨9,1,v,n,xs⟩ :: R) w) (hs:a.eval s=v)
  {z:ByteArray} (hx:a.eval x=.slice (some ⟨g,0,none⟩) 1 1) (hu:w.cell? ⟨g,0,none⟩=some (.string z)) (hn:n≤1000000)
  (h:∀ g' cap w',Mem w0 L (⟨9,1,.slice (some ⟨g',0,none⟩) (n+1) cap,n+1,xs++[.string z]⟩ :: R) w'→wpList Tryz.prog ops Q rest (a.put o.dst (.slice (some ⟨g',0,none⟩) (n+1) cap)) w'):wpList Tryz.prog ops Q (o :: rest) a w :=
 wpList_plain hgd fun _ hK=>Cx ho hM hs hx hu hn fun g' cap w' hm=>hK _ _ (h g' cap w' hm)
theorem Ch (hgd:o.guard=none) (ho:o.op=.call { callee:=.builtin .append,args:=#[s,x],argTypes:=#[25,25] }) (hM:Mem w0 L (⟨60,2,v,n,xs⟩ :: R) w) (hs:a.eval s=v)
  {u1 u2:Value} (hx:a.eval x=.slice (some ⟨g,0,none⟩) 1 1) (hu1:w.cell? ⟨g,0,none⟩=some u1) (hu2:w.cell? ⟨g,1,none⟩=some u2) (h1:u1.oneCell'=true) (h2:u2.oneCell'=true) (hn:n≤1000000)
  (h:∀ g' cap w',Mem w0 L (⟨60,2,.slice (some ⟨g',0,none⟩) (n+1) cap,n+1,xs++[u1,u2]⟩ :: R) w'→wpList Tryz.prog ops Q rest (a.put o.dst (.slice (some ⟨g',0,none⟩) (n+1) cap)) w'):wpList Tryz.prog ops Q (o :: rest) a w :=
 wpList_plain hgd fun _ hK=>L2 ho hM hs hx hu1 hu2 h1 h2 hn fun g' cap w' hm=>hK _ _ (h g' cap w' hm)
end
end
section
open Go.RowKit
def InB (fs:BLs) (v:Value) (l:List Int):Prop :=
 (v=.slice none 0 0∧l=[])∨∃ g cap cs,v=.slice (some ⟨g,0,none⟩) l.length cap∧l.length≤cap∧cap≤maxLen∧cs.size=cap∧(g,cs,(3:TypeId))∈fs∧cs.toList.take l.length=l.map (Value.int .i64)
theorem InB.mono {fs gs:BLs} {v:Value} {l:List Int} (h:InB fs v l) (hs:∀ p∈fs,p∈gs):InB gs v l:=by
 rcases h with h | ⟨g,cap,cs,h1,h2,h3,h4,h5,h6⟩
 ·exact .inl h
 ·exact .inr ⟨g,cap,cs,h1,h2,h3,h4,hs _ h5,h6⟩
theorem InB.shape {fs:BLs} {v:Value} {l:List Int} (h:InB fs v l):∃ a cap,v=.slice a l.length cap:=by
 rcases h with ⟨rfl,rfl⟩ | ⟨g,cap,cs,h1,_⟩
 ·exact ⟨_,_,rfl⟩
 ·exact ⟨_,_,h1⟩
theorem InB.sl {fs:BLs} {v:Value} {l:List Int} (h:InB fs v l) {w W:World} {L:BLs} {R:List RowD} (hM:Mem w L R W) (hs:∀ p∈fs,p∈L):Sl W v l:=by
 rcases h with h | ⟨g,cap,cs,h1,h2,h3,h4,h5,h6⟩
 ·exact .inl h
 ·have hb:=hM.blks _ (hs _ h5)
  refine .inr ⟨g,0,cap,h1,h2,h3,hb.lt,fun j hj=>?_⟩
  rw [Nat.zero_add,hb.cell]
  have e:=congrArg (fun z=>z[j]?) h6
  simp only [List.getElem?_take,hj,if_true,List.getElem?_map,List.getElem?_eq_getElem hj] at e
  rw [Array.getElem?_toList] at e
  rw [e,Bo hj];rfl
theorem Mem.freezeI {w W:World} {L:BLs} {R:List RowD} {v:Value} {l:List Int} {n:Nat} (hn:n=l.length) (h:Mem w L (⟨3,1,v,n,l.map (Value.int .i64)⟩ :: R) W):∃ gs:BLs,InB gs v l∧Mem w (gs++L) R W:=by
 subst hn
 rcases h.freeze with ⟨rfl,h1,h2,h3⟩ | ⟨g,cap,cs,rfl,h1,h2,h3,h4,h5⟩
 ·exact ⟨[],.inl ⟨rfl,by simpa using h2⟩,h3⟩
 ·exact ⟨[(g,cs,3)],.inr ⟨g,cap,cs,rfl,h1,h2,by omega,List.mem_cons_self,by rw [Nat.mul_one] at h4;exact h4⟩,h5⟩
structure EqsAt (fs:BLs) (rows:List (List Int×Int)) (xs:List Value):Prop where
 len:xs.length=rows.length*2
 at_:∀ j r,rows[j]? = some r→∃ v,xs[j*2]? = some v∧xs[j*2+1]? = some (.int .i64 r.2)∧InB fs v r.1
theorem EqsAt.nil (fs:BLs):EqsAt fs [] []:=⟨rfl,fun j r h=>by simp at h⟩
theorem EqsAt.snoc {fs gs:BLs} {rows:List (List Int×Int)} {xs:List Value} {v:Value} {l:List Int} {z:Int} (h:EqsAt fs rows xs) (hv:InB gs v l) (hs:∀ p∈fs,p∈gs):EqsAt gs (rows++[(l,z)]) (xs++[v,.int .i64 z]):=by
 refine ⟨by simp [h.len];omega,fun j r hj=>?_⟩
 by_cases hlt:j<rows.length
 ·rw [List.getElem?_append_left hlt] at hj
  obtain ⟨u,h1,h2,h3⟩:=h.at_ j r hj
  refine ⟨u,?_,?_,h3.mono hs⟩
  ·rw [List.getElem?_append_left (by rw [h.len];omega)];exact h1
  ·rw [List.getElem?_append_left (by rw [h.len];omega)];exact h2
 ·have hj':j=rows.length:=by
   have:=(List.getElem?_eq_some_iff.1 hj).1
   simp at this;omega
  subst hj'
  simp at hj
  subst hj
  refine ⟨v,?_,?_,hv⟩
  ·rw [List.getElem?_append_right (by rw [h.len];omega),h.len];simp
  ·rw [List.getElem?_append_right (by rw [h.len];omega),h.len,show rows.length*2+1-rows.length*2=1 by omega];rfl
theorem EqsAt.mono {fs gs:BLs} {rows:List (List Int×Int)} {xs:List Value} (h:EqsAt fs rows xs) (hs:∀ p∈fs,p∈gs):EqsAt gs rows xs:=⟨h.len,fun j r hj=>by
 obtain ⟨v,h1,h2,h3⟩:=h.at_ j r hj
 exact ⟨v,h1,h2,h3.mono hs⟩⟩
theorem EqsAt.slE {w W:World} {L fs:BLs} {R:List RowD} {v:Value} {n:Nat} {rows:List (List Int×Int)} {xs:List Value} (h:EqsAt fs rows xs) (hM:Mem w L (⟨60,2,v,n,xs⟩ :: R) W) (hn:n=rows.length) (hs:∀ p∈fs,p∈L):SlE W v rows:=by
 refine SlG.of_own hM.own0 hn fun b hb hc j r hj=>?_
 obtain ⟨u,h1,h2,h3⟩:=h.at_ j r hj
 exact ⟨u,hc _ _ h1,h3.sl hM hs,hc _ _ h2⟩
structure New (w:World) (L:BLs) (R:List RowD) (ids:List Nat) (b:Nat) (cs:Array Value) (t:TypeId) (W:World):Prop where
 ge:w.heap.size≤b
 ids:∀ q∈ids,q≠b
 L:∀ p∈L,p.1≠b
 R:∀ r∈R,r.v.ownBlock≠some b
 blk:Blk W b cs t
theorem New.below {w W W':World} {L:BLs} {R:List RowD} {ids:List Nat} {b:Nat} {cs:Array Value} {t:TypeId} (h:New w L R ids b cs t W) (hb:Below W.heap.size W W'):New w L R ids b cs t W':=⟨h.ge,h.ids,h.L,h.R,h.blk.below hb⟩
theorem New.of {w W:World} {L:BLs} {R:List RowD} {ids:List Nat} (cs:Array Value) (t:TypeId) (h:Mem w L R W) (hi:∀ q∈ids,q<W.heap.size):New w L R ids W.heap.size cs t (W.alloc (.cells cs t)) :=
 ⟨h.size,fun q hq e=>by have:=hi q hq;omega,fun p hp e=>by have:=h.lt p hp;omega,fun r hr e=>by have:=((h.rows r hr).lt _ e).2;omega,Blk.new _ _ _⟩
theorem Blk.type {W:World} {b:Nat} {cs ds:Array Value} {t s:TypeId} (h:Blk W b cs t) (g:Blk W b ds s):t=s:=by
 have:=h.symm.trans g
 cases this;rfl
theorem Mem.adopt {w W:World} {L L1:BLs} {R R1:List RowD} {ids:List Nat} {b:Nat} {cs:Array Value} {t:TypeId} (h:Mem w L R W) (hb:New w L1 R1 ids b cs t W) (hL:∀ p∈L,p.1≠b∨p.2.2≠t) (hR:∀ r∈R,r.v.ownBlock≠some b∨r.e≠t):Mem w ((b,cs,t) :: L) R W:=by
 refine ⟨h.below,fun p hp=>?_,fun p hp=>?_,List.pairwise_cons.2 ⟨fun p hp e=>?_,h.dup⟩,h.rows,h.rdis,fun r hr p hp=>?_⟩
 ·rcases List.mem_cons.1 hp with rfl | hp
  ·exact hb.ge
  ·exact h.ge p hp
 ·rcases List.mem_cons.1 hp with rfl | hp
  ·exact hb.blk
  ·exact h.blks p hp
 ·rcases hL p hp with h1 | h1
  ·exact h1 e.symm
  ·have h2:=h.blks p hp
   rw [←show b=p.1 from e] at h2
   exact h1 (Blk.type h2 hb.blk)
 ·rcases List.mem_cons.1 hp with rfl | hp
  ·intro e
   rcases hR r hr with h1 | h1
   ·exact h1 e
   ·rcases (h.rows r hr).2 with ⟨e1,_⟩ | ⟨g,cap,cur,e1,_,h2,_⟩
    ·rw [e1] at e;cases e
    ·rw [e1] at e
     obtain rfl:g=b:=Option.some.inj e
     exact h1 (Blk.type h2 hb.blk)
  ·exact h.rL r hr p hp
section
variable {ops:Array Oper} {rest:List Oper} {o:Oper} {a:Act} {Q:Exit→Act→World→Prop} {K:Act→World→Prop} {w0 w:World} {L:BLs} {R:List RowD} {s x:Operand} {v:Value} {n:Nat} {xs:List Value} {g:Nat}
end
theorem New.made {w W W':World} {L:BLs} {R:List RowD} {ids:List Nat} {cs:Array Value} {t:TypeId} (h:Mem w L R W) (hi:∀ q∈ids,q<W.heap.size) (hk:Blk W' W.heap.size cs t):New w L R ids W.heap.size cs t W' :=
 ⟨h.size,fun q hq e=>by have:=hi q hq;omega,fun p hp e=>by have:=h.lt p hp;omega,fun r hr e=>by have:=((h.rows r hr).lt _ e).2;omega,hk⟩
theorem FN {o:Oper} {a:Act} {K:Act→World→Prop} {Q:Exit→Act→World→Prop} {w:World} (l c:Operand) (ho:o.op=Op.makeSlice 22 l c) (n:Nat) (hl:a.eval l=.int .i64 n) (hc:a.eval c=.int .i64 n) (hn:n≤1000000)
  (h:∀ w',Blk w' w.heap.size (Array.replicate n (.int .i64 0)) 3→Below w.heap.size w w'→K (a.put o.dst (.slice (some ⟨w.heap.size,0,none⟩) n n)) w'):Oper.wp Tryz.prog o a w K Q:=by
 obtain ⟨w',hrun,h1,h2⟩:=GA w 22 Tryz.underlying22 .i64 .i64 n hn
 have h3:Blk w' w.heap.size (Array.replicate n (.int .i64 0)) 3:=by
  rcases h1.2 with ⟨e,_⟩ | ⟨g,cap,cur,e,_,hk,_,_,hs,hx⟩
  ·cases e
  ·cases e
   have e2:cur=Array.replicate n (.int .i64 0):=by
    apply Array.ext'
    rw [Array.toList_replicate]
    rw [List.take_of_length_le (by rw [Array.length_toList,hs];exact Aa _),List.map_replicate] at hx
    exact hx
   rw [←e2];exact hk
 unfold Oper.wp
 simp [execOp,ho,hl,hc,hrun,Result.andThen]
 exact h w' h3 h2
end
section
open Go.RowKit
attribute [local go_sem] Oper.semAt_some
def cutS (l:List ByteArray):List ByteArray:=(List.range (min l.length 4)).map fun i=>(sAt l i).extract 0 (min (sAt l i).size 101)
theorem cut_r5 {Q:Exit→Act→World→Prop} {us:List Value} {lb lo n cap i k:Nat} {s:ByteArray} {v:Value} {xs:List Value} {w W0:World} {L:BLs} {R:List RowD}  (hn:Hid (i≤1000000)) (hi0:(0:Int)≤i) (hi1:(i:Int)<n)  (x19:Hid (∀ W,Mem w L R W→W.cell? ⟨lb,lo+i,none⟩=some (.string s))) (x23:Hid (∀ W,Mem w L R W→W.cell? ⟨lb,lo+i,none⟩=some (.string s))) (hk:min (s.size:Int) 101=(k:Int)) (hk2:k≤s.size) (h0:Hid (Mem w L (⟨9,1,v,i,xs⟩ :: R) W0)) (hN:us.length=30) (g0:us[0]? = some (.slice (some ⟨lb,lo,none⟩) n cap)) (g3:us[3]? = some (v)) (g4:us[4]? = some (.int .i64 i)) {ops:Array Oper} (ho:getOps Tryz.f10.body 5=some ops)
  (hQ:∀ (x:Nat→Value) (G28:Nat) (cap28:Nat) (W':World),x 3=.slice (some ⟨G28,0,none⟩) (i+1) cap28→Hid (Mem w L (⟨9,1,.slice (some ⟨G28,0,none⟩) (i+1) cap28,i+1,xs++[.string (s.extract 0 k)]⟩ :: R) W')→Q .normal { tmps:=(sets [15,16,17,18,19,20,21,22,23,24,25,26,27,28,3] x us).toArray,defers:=[] } W') :
  (Code.region 5 ops true).wp Tryz.prog Q { tmps:=us.toArray,defers:=[] } W0:=by
 obtain rfl:=Option.some.inj (ho.symm.trans (rfl:getOps Tryz.f10.body 5=some _))
 clear ho
 replace hQ:=A8 hQ
 let Fl:Nat×Nat→FL:=fun g=>[some (15,v),some (16,.slice (some ⟨lb,lo,none⟩) n cap),some (17,.int .i64 i),some (18,.pointer (some ⟨lb,lo+i,none⟩)),some (19,.string s),some (20,.slice (some ⟨lb,lo,none⟩) n cap),some (21,.int .i64 i),some (22,.pointer (some ⟨lb,lo+i,none⟩)),some (23,.string s),some (24,.int .i64 s.size),some (25,.int .i64 k),some (26,.string (s.extract 0 k)),none,some (28,.slice (some ⟨g.1,0,none⟩) (i+1) g.2),some (3,.slice (some ⟨g.1,0,none⟩) (i+1) g.2)]
 let Ml:Nat×Nat→ML:=fun g=>[(12,27,(fun yv W=>∃ (g27:Nat),yv=.slice (some ⟨g27,0,none⟩) 1 1∧Blk W g27 #[.string (s.extract 0 k)] 9),some 13)]
 let Sl_:Nat×Nat→List (World→Prop):=fun g=>[fun W=>Mem w L (⟨9,1,v,i,xs⟩ :: R) W,fun W=>Mem w L (⟨9,1,.slice (some ⟨g.1,0,none⟩) (i+1) g.2,i+1,xs++[.string (s.extract 0 k)]⟩ :: R) W]
 have St:RgS 30 [15,16,17,18,19,20,21,22,23,24,25,26,27,28,3] [12] Fl Ml (Mem w L R) Sl_:=⟨fun _=>by kernel_rfl,fun _=>rfl,fun _ _ hb h=>h.call hb,fun g=>List.forall_mem_cons.2 ⟨fun yv W W' hb=>fun ⟨g,e,h⟩=>⟨g,e,h.below hb⟩,(fun _ h=>by cases h)⟩,fun g=>List.forall_mem_cons.2 ⟨fun W W' hb h=>h.call hb,List.forall_mem_cons.2 ⟨fun W W' hb h=>h.call hb,(fun _ h=>by cases h)⟩⟩⟩
 refine Aq 30 us [15,16,17,18,19,20,21,22,23,24,25,26,27,28,3] Fl Ml [13] (Mem w L R) Sl_ hN (by kernel_rfl) (by kernel_rfl) ⟨0,0⟩ h0.out.rtail.drew h0.out.drew (by kernel_rfl) ?_ ?_
 refine Ab (stV St 0 rfl rfl rfl (fun _=>rfl) fun g T E W hl hw hs z K J=>by
  have x3:=z.w 0 hl hs g3 (by kernel_rfl)
  go_simp;exact J) ?_
 refine Ab (stV St 1 rfl rfl rfl (fun _=>rfl) fun g T E W hl hw hs z K J=>by
  have x0:=z.u g0
  go_simp;exact J) ?_
 refine Ab (stV St 2 rfl rfl rfl (fun _=>rfl) fun g T E W hl hw hs z K J=>by
  have x4:=z.u g4
  go_simp;exact J) ?_
 refine Ab (stV St 3 rfl rfl rfl (fun _=>rfl) fun g T E W hl hw hs z K J=>by
  have x16:=z.x 1 hw rfl
  have x17:=z.x 2 hw rfl
  go_simp;exact J) ?_
 refine Ab (stV St 4 rfl rfl rfl (fun _=>rfl) fun g T E W hl hw hs z K J=>by
  have x18:=z.x 3 hw rfl
  have hC:=z.c
  have k0:=x19.out _ hC
  go_simp;exact J) ?_
 refine Ab (stV St 5 rfl rfl rfl (fun _=>rfl) fun g T E W hl hw hs z K J=>by
  have x0:=z.u g0
  go_simp;exact J) ?_
 refine Ab (stV St 6 rfl rfl rfl (fun _=>rfl) fun g T E W hl hw hs z K J=>by
  have x4:=z.u g4
  go_simp;exact J) ?_
 refine Ab (stV St 7 rfl rfl rfl (fun _=>rfl) fun g T E W hl hw hs z K J=>by
  have x20:=z.x 5 hw rfl
  have x21:=z.x 6 hw rfl
  go_simp;exact J) ?_
 refine Ab (stV St 8 rfl rfl rfl (fun _=>rfl) fun g T E W hl hw hs z K J=>by
  have x22:=z.x 7 hw rfl
  have hC:=z.c
  have k0:=x23.out _ hC
  go_simp;exact J) ?_
 refine Ab (stV St 9 rfl rfl rfl (fun _=>rfl) fun g T E W hl hw hs z K J=>by
  have x23:=z.x 8 hw rfl
  go_simp;exact J) ?_
 refine Ab (stV St 10 rfl rfl rfl (fun _=>rfl) fun g T E W hl hw hs z K J=>by
  have x24:=z.x 9 hw rfl
  go_simp;exact J) ?_
 refine Ab (stV St 11 rfl rfl rfl (fun _=>rfl) fun g T E W hl hw hs z K J=>by
  have x19:=z.x 4 hw rfl
  have x25:=z.x 10 hw rfl
  go_simp;exact J) ?_
 refine Ab (stM St 12 0 rfl rfl (.inl rfl) (fun _=>rfl) (fun _=>by kernel_rfl) fun g T E W hl hw hs z K J=>by
  have x26:=z.x 11 hw rfl
  go_simp;exact J _ _ ((Below.refl _ _).alloc (Aa _) _) ⟨_,rfl,Blk.new _ _ _⟩) ?_
 refine Ab (stF St 13 0 rfl (.inl rfl) rfl rfl (by kernel_rfl) (fun _=>by kernel_rfl) fun g T E W hl hw hs z q K J=>by
  have x15:=z.x 0 hw rfl
  obtain ⟨_,x27,g27,rfl,hb12⟩:=z.y 0 hl hw hs rfl
  have hM0:Mem _ _ _ _:=q
  refine Cx rfl hM0 (by go_simp) (by go_simp) (hb12.cell 0) hn.out ?_
  intro G28' cap28' W2 hM2
  exact J ⟨G28',cap28'⟩ _ _ rfl (by kernel_rfl) (hM2.rtail) hM2) ?_
 refine Ab (stV St 14 rfl rfl rfl (fun _=>rfl) fun g T E W hl hw hs z K J=>by
  have x28:=z.x 13 hw rfl
  go_simp;exact J) ?_
 ·exact Af
 ·intro g a W z q
  have hM9:Mem _ _ _ _:=q
  have x3:=z.v.get 14 rfl (by kernel_rfl)
  rw [z.f.eqs]
  exact hQ.out _ g.1 g.2  _ (by simp [x3]) (A8 hM9)
theorem cut_any (v:Value) (l:List ByteArray) (w:World) (hl:SlS w v l) :
  Calls Tryz.prog 10 #[v] w fun e w'=>∃ u,e=.returned u∧SlS w' u (cutS l)∧Below w.heap.size w w'∧∀ b,u.ownBlock=some b→w.heap.size≤b:=by
 have hlen:l.length≤maxLen:=by
  rcases hl with ⟨_,rfl⟩ | ⟨b,off,cap,_,h1,h2,_,_⟩
  ·simp
  ·omega
 have hend:Hid (∀ W u k,k=min l.length 4→Mem w [] [⟨9,1,u,k,((List.range k).map fun j=>Value.string ((sAt l j).extract 0 (min (sAt l j).size 101)))⟩] W→SlS W u (cutS l)∧Below w.heap.size w W∧∀ b,u.ownBlock=some b→w.heap.size≤b):=A8 (fun W u k hk h=>by
  subst hk
  refine ⟨SlS.of_own (l:=cutS l) (e:=9) (base:=w.heap.size) (n:=min l.length 4) ?_,h.below,fun b hb=>(h.own0.lt b hb).1⟩
  have h2:=h.own0
  unfold cutS
  rw [List.map_map]
  exact h2)
 have hM:=A8 ((Mem.start w).row0 9 1)
 obtain ⟨a,cp,hv⟩:=hl.shape
 subst hv
 have hc:=A8 (show ∀ i,i<l.length→∃ lb lo,a=some ⟨lb,lo,none⟩∧lb<w.heap.size∧w.cell? ⟨lb,lo+i,none⟩=some (.string (sAt l i)) from fun i hi=>by
  rcases hl with ⟨_,e⟩ | ⟨lb,lo,cap,e,_,_,h3,h4⟩
  ·rw [e] at hi;simp at hi
  ·cases e
   refine ⟨lb,lo,rfl,h3,?_⟩
   have:=h4 i _ (Do hi)
   rwa [Nat.mul_one] at this)
 clear hl
 obtain ⟨n,hn⟩:∃ n,n=l.length:=⟨_,rfl⟩
 rw [←hn] at hend hlen hc ⊢
 clear hn
 unfold maxLen at hlen
 go_enter Tryz.func10,Tryz.ntmps10
 go_wp2_with fail
 go_loopw [3,4] (fun u s wr=>∃ (i:Nat),s=.int .i64 i∧i≤min n 4∧Hid (Mem w [] [⟨9,1,u,i,((List.range i).map fun j=>Value.string ((sAt l j).extract 0 (min (sAt l j).size 101)))⟩] wr)) (fun _ s _=>4-(intOf s).toNat)
 case atStart=>exact ⟨0,rfl,by omega,hM⟩
 case round =>
  clear hM
  obtain ⟨i,rfl,hi,hM⟩:=hrel
  by_cases hin:i<n
  case neg =>
   have hin':¬ (i:Int)<n:=by omega
   have hfin:=A8 (hend.out _ _ _ (by omega) hM.out)
   clear hM hend
   go_wp2
   go_ret
   exact ⟨_,rfl,hfin.out.1,hfin.out.2.1,hfin.out.2.2⟩
  case pos =>
   have hin':(i:Int)<n:=by omega
   by_cases hi4:i<4
   case neg =>
    have hi4':¬ (i:Int)<4:=by omega
    have hfin:=A8 (hend.out _ _ _ (by omega) hM.out)
    clear hM hend
    go_wp2
    go_ret
    exact ⟨_,rfl,hfin.out.1,hfin.out.2.1,hfin.out.2.2⟩
   case pos =>
    have hi4':(i:Int)<4:=by omega
    have hi0:(0:Int)≤i:=by omega
    obtain ⟨lb,lo,rfl,h3,h4⟩:=hc.out i hin
    obtain ⟨k,hk⟩:∃ k,k=min (sAt l i).size 101:=⟨_,rfl⟩
    have hxs:=A8 (show ((List.range (i+1)).map fun j=>Value.string ((sAt l j).extract 0 (min (sAt l j).size 101)))=((List.range i).map fun j=>Value.string ((sAt l j).extract 0 (min (sAt l j).size 101)))++[.string ((sAt l i).extract 0 k)] by rw [hk,List.range_succ,List.map_append];rfl)
    go_upto_region 5 with fail
    refine cut_r5 (lb:=lb) (lo:=lo) (n:=n) (cap:=cp) (i:=i) (k:=k) (s:=sAt l i) (w:=w) (L:=[]) (R:=[]) (A8 (by omega)) hi0 hin' (A8 fun W hW=>hW.old h3 h4) (A8 fun W hW=>hW.old h3 h4) (by omega) (by omega) hM rfl rfl rfl rfl (by kernel_rfl) ?_
    intro xx G capG W5 hx3 hM5
    simp only [sets,List.foldl_cons,List.foldl_nil,A5,A6,hx3]
    rw [←hxs.out] at hM5
    clear hM hxs hx3 hk h3 h4
    go_wp2_with fail
    go_roundw
    case rel=>exact ⟨i+1,by go_num,by omega,hM5⟩
    case measure=>simp [intOf];omega
end
section
open Go.RowKit
structure BoxI (p:Nat×Array Value×TypeId) (v:Value) (l:List Int):Prop where
 t:p.2.2=3
 at_:∃ cap,v=.slice (some ⟨p.1,0,none⟩) l.length cap∧l.length≤cap∧cap≤maxLen∧p.2.1.size=cap
 xs:p.2.1.toList.take l.length=l.map (Value.int .i64)
theorem BoxI.inB {p:Nat×Array Value×TypeId} {v:Value} {l:List Int} {fs:BLs} (h:BoxI p v l) (hp:p∈fs):InB fs v l:=by
 obtain ⟨g,cs,t⟩:=p
 obtain ⟨rfl,⟨cap,h1,h2,h3,h4⟩,h5⟩:=h
 exact .inr ⟨g,cap,cs,h1,h2,h3,h4,hp,h5⟩
theorem BoxI.cell {p:Nat×Array Value×TypeId} {v:Value} {l:List Int} (h:BoxI p v l) {k:Nat} (hk:k<l.length):p.2.1[k]? = some (.int .i64 (gi l k)):=by
 have e:=congrArg (fun z=>z[k]?) h.xs
 simp only [List.getElem?_take,hk,if_true,List.getElem?_map,List.getElem?_eq_getElem hk] at e
 rw [Array.getElem?_toList] at e
 rw [e,Bo hk];rfl
theorem BoxI.set {g:Nat} {cs:Array Value} {t:TypeId} {v:Value} {l:List Int} (h:BoxI (g,cs,t) v l) (k:Nat) (y:Int):BoxI (g,cs.setIfInBounds k (.int .i64 y),t) v (l.set k y):=by
 obtain ⟨h1,⟨cap,h2,h3,h4,h5⟩,h6⟩:=h
 refine ⟨h1,⟨cap,by rw [List.length_set];exact h2,by rw [List.length_set];exact h3,h4,by simpa using h5⟩,?_⟩
 rw [List.length_set]
 show (cs.setIfInBounds k (.int .i64 y)).toList.take l.length=(l.set k y).map _
 rw [Array.toList_setIfInBounds,List.take_set,h6,←List.map_set]
structure EqD (fs:BLs) (rows:List (List Int×Int)) (xs:List Value):Prop where
 len:xs.length=rows.length*2
 fl:fs.length=rows.length
 at_:∀ j r,rows[j]? = some r→∃ p v,fs[j]? = some p∧xs[j*2]? = some v∧xs[j*2+1]? = some (.int .i64 r.2)∧BoxI p v r.1
theorem EqD.eqs {fs:BLs} {rows:List (List Int×Int)} {xs:List Value} (h:EqD fs rows xs):EqsAt fs rows xs:=⟨h.len,fun j r hj=>by
 obtain ⟨p,v,h1,h2,h3,h4⟩:=h.at_ j r hj
 exact ⟨v,h2,h3,h4.inB (List.mem_of_getElem? h1)⟩⟩
theorem EqD.nil:EqD [] [] []:=⟨rfl,rfl,fun j r h=>by simp at h⟩
theorem EqD.snoc {fs:BLs} {rows:List (List Int×Int)} {xs:List Value} {p:Nat×Array Value×TypeId} {v:Value} {r:List Int×Int} (h:EqD fs rows xs) (hv:BoxI p v r.1):EqD (fs++[p]) (rows++[r]) (xs++[v,.int .i64 r.2]):=by
 refine ⟨by simp [h.len];omega,by simp [h.fl],fun j r' hj=>?_⟩
 by_cases hlt:j<rows.length
 ·rw [List.getElem?_append_left hlt] at hj
  obtain ⟨q,u,h1,h2,h3,h4⟩:=h.at_ j r' hj
  refine ⟨q,u,?_,?_,?_,h4⟩
  ·rw [List.getElem?_append_left (by rw [h.fl];exact hlt)];exact h1
  ·rw [List.getElem?_append_left (by rw [h.len];omega)];exact h2
  ·rw [List.getElem?_append_left (by rw [h.len];omega)];exact h3
 ·have hj':j=rows.length:=by
   have:=(List.getElem?_eq_some_iff.1 hj).1
   simp at this;omega
  subst hj'
  simp at hj
  subst hj
  refine ⟨p,v,?_,?_,?_,hv⟩
  ·rw [List.getElem?_append_right (by rw [h.fl];exact Aa _),h.fl];simp
  ·rw [List.getElem?_append_right (by rw [h.len];omega),h.len];simp
  ·rw [List.getElem?_append_right (by rw [h.len];omega),h.len,show rows.length*2+1-rows.length*2=1 by omega];rfl
theorem EqD.set {fs:BLs} {rows:List (List Int×Int)} {xs:List Value} {p:Nat×Array Value×TypeId} {v:Value} {r:List Int×Int} (h:EqD fs rows xs) (i:Nat) (hv:BoxI p v r.1):EqD (fs.set i p) (rows.set i r) ((xs.set (i*2) v).set (i*2+1) (.int .i64 r.2)):=by
 refine ⟨by simp [h.len],by simp [h.fl],fun j r' hj=>?_⟩
 have hjl:j<rows.length:=by have:=(List.getElem?_eq_some_iff.1 hj).1;simpa using this
 by_cases e:i=j
 ·subst e
  rw [List.getElem?_set_self hjl] at hj
  obtain rfl:=Option.some.inj hj
  refine ⟨p,v,List.getElem?_set_self (by rw [h.fl];exact hjl),?_,?_,hv⟩
  ·rw [List.getElem?_set_ne (by omega),List.getElem?_set_self (by rw [h.len];omega)]
  ·rw [List.getElem?_set_self (by rw [List.length_set,h.len];omega)]
 ·rw [List.getElem?_set_ne e] at hj
  obtain ⟨q,u,h1,h2,h3,h4⟩:=h.at_ j r' hj
  refine ⟨q,u,?_,?_,?_,h4⟩
  ·rw [List.getElem?_set_ne e];exact h1
  ·rw [List.getElem?_set_ne (by omega),List.getElem?_set_ne (by omega)];exact h2
  ·rw [List.getElem?_set_ne (by omega),List.getElem?_set_ne (by omega)];exact h3
theorem Mh {α:Type} {l:List α} {i:Nat} {x:α} (h:l[i]? = some x):l.set i x=l:=by
 refine List.ext_getElem? fun j=>?_
 by_cases e:i=j
 ·subst e;rw [List.getElem?_set_self (List.getElem?_eq_some_iff.1 h).1,h]
 ·rw [List.getElem?_set_ne e]
theorem EqD.setC {fs:BLs} {rows:List (List Int×Int)} {xs:List Value} {p:Nat×Array Value×TypeId} {v:Value} {r:List Int×Int} {l:List Int} (h:EqD fs rows xs) {i:Nat} (hr:rows[i]? = some r) (hv:BoxI p v l):EqD (fs.set i p) (rows.set i (l,r.2)) (xs.set (i*2) v):=by
 have h1:=h.set (r:=(l,r.2)) i hv
 obtain ⟨_,_,_,_,h3,_⟩:=h.at_ i r hr
 have h4:(xs.set (i*2) v)[i*2+1]? = some (.int .i64 r.2):=by rw [List.getElem?_set_ne (by omega)];exact h3
 rw [show ((xs.set (i*2) v).set (i*2+1) (.int .i64 (l,r.2).2))=xs.set (i*2) v from Mh h4] at h1
 exact h1
theorem Jz {cs:Array Value} {n i:Nat} (x:Value):(cs.setIfInBounds i x).toList.take n=(cs.toList.take n).set i x:=by
 rw [Array.toList_setIfInBounds,List.take_set]
structure SysB (B cap:Nat) (cs:Array Value) (fs:BLs) (rows:List (List Int×Int)):Prop where
 le:rows.length≤cap
 mx:cap≤maxLen
 size:cs.size=cap*2
 eq:EqD fs rows (cs.toList.take (rows.length*2))
section
variable {B cap i:Nat} {cs:Array Value} {fs:BLs} {rows:List (List Int×Int)} {r:List Int×Int}
theorem SysB.at_ (h:SysB B cap cs fs rows) (hr:rows[i]? = some r):∃ p v,fs[i]? = some p∧cs[i*2]? = some v∧cs[i*2+1]? = some (.int .i64 r.2)∧BoxI p v r.1:=by
 have hi:=(List.getElem?_eq_some_iff.1 hr).1
 obtain ⟨p,v,h1,h2,h3,h4⟩:=h.eq.at_ i r hr
 rw [List.getElem?_take,if_pos (by omega),Array.getElem?_toList] at h2 h3
 exact ⟨p,v,h1,h2,h3,h4⟩
theorem SysB.setC (h:SysB B cap cs fs rows) (hr:rows[i]? = some r) {p:Nat×Array Value×TypeId} {v:Value} {l:List Int} (hv:BoxI p v l):SysB B cap (cs.setIfInBounds (i*2) v) (fs.set i p) (rows.set i (l,r.2)):=by
 have hi:=(List.getElem?_eq_some_iff.1 hr).1
 refine ⟨by rw [List.length_set];exact h.le,h.mx,by simpa using h.size,?_⟩
 rw [List.length_set,Jz]
 exact h.eq.setC hr hv
theorem SysB.slE {w W:World} {L:BLs} {R:List RowD} (h:SysB B cap cs fs rows) (hM:Mem w ((B,cs,60) :: L) R W) (hs:∀ p∈fs,p∈L):SlE W (.slice (some ⟨B,0,none⟩) rows.length cap) rows :=
 h.eq.eqs.slE (hM.thaw (n:=rows.length) (k:=2) h.le h.mx h.size rfl) rfl hs
end
theorem InB.box {fs:BLs} {v:Value} {l:List Int} (h:InB fs v l) (hl:1≤l.length):∃ p∈fs,BoxI p v l:=by
 rcases h with ⟨_,rfl⟩ | ⟨g,cap,cs,h1,h2,h3,h4,h5,h6⟩
 ·simp at hl
 ·exact ⟨_,h5,rfl,⟨cap,h1,h2,h3,h4⟩,h6⟩
theorem Mem.pick {w W:World} {A C:BLs} {R:List RowD} {T p:Nat×Array Value×TypeId} (h:Mem w (T :: (A++p :: C)) R W):Mem w (p :: T :: (A++C)) R W:=h.perm ((List.Perm.cons _ List.perm_middle).trans (List.Perm.swap _ _ _))
theorem Mem.unpick {w W:World} {A C:BLs} {R:List RowD} {T p:Nat×Array Value×TypeId} (h:Mem w (p :: T :: (A++C)) R W):Mem w (T :: (A++p :: C)) R W:=h.perm ((List.Perm.swap _ _ _).trans (List.Perm.cons _ List.perm_middle.symm))
theorem IA {α:Type} {l:List α} {i:Nat} {x:α} (h:l[i]? = some x):∃ A C,l=A++x :: C∧l.eraseIdx i=A++C∧∀ y,l.set i y=A++y :: C:=by
 obtain ⟨hi,rfl⟩:=List.getElem?_eq_some_iff.1 h
 refine ⟨l.take i,l.drop (i+1),by rw [List.getElem_cons_drop,List.take_append_drop],List.eraseIdx_eq_take_drop_succ _ _,fun y=>?_⟩
 rw [List.set_eq_take_append_cons_drop,if_pos hi]
section
variable {w W:World} {L fs:BLs} {R:List RowD} {T p q:Nat×Array Value×TypeId} {i:Nat}
theorem Mem.pull (h:Mem w (T :: (fs++L)) R W) (hi:fs[i]? = some p):Mem w (p :: T :: (fs.eraseIdx i++L)) R W:=by
 obtain ⟨A,C,h1,h2,_⟩:=IA hi
 rw [h2,List.append_assoc]
 rw [h1,List.append_assoc,List.cons_append] at h
 exact h.pick
theorem Mem.push (h:Mem w (q :: T :: (fs.eraseIdx i++L)) R W) (hi:fs[i]? = some p):Mem w (T :: (fs.set i q++L)) R W:=by
 obtain ⟨A,C,h1,h2,h3⟩:=IA hi
 rw [h2,List.append_assoc] at h
 rw [h3,List.append_assoc,List.cons_append]
 exact h.unpick
end
section
variable {w W:World} {L fs:BLs} {R:List RowD} {B cap i n:Nat} {cs:Array Value} {rows:List (List Int×Int)} {r:List Int×Int}
theorem SysB.thaw (h:SysB B cap cs fs rows) (hr:rows[i]? = some r) (hM:Mem w ((B,cs,60) :: (fs++L)) R W):∃ v,cs[i*2]? = some v∧Mem w ((B,cs,60) :: (fs.eraseIdx i++L)) (⟨3,1,v,r.1.length,r.1.map (Value.int .i64)⟩ :: R) W:=by
 obtain ⟨⟨g,ds,t⟩,v,h1,h2,_,h4⟩:=h.at_ hr
 obtain ⟨rfl,⟨cp,rfl,h5,h6,h7⟩,h8⟩:=h4
 exact ⟨_,h2,(hM.pull h1).thaw (k:=1) h5 h6 (by rw [Nat.mul_one];exact h7) (by rw [Nat.mul_one];exact h8)⟩
theorem SysB.grown (h:SysB B cap cs fs rows) (hr:rows[i]? = some r) {l:List Int} {v:Value} (hl:1≤l.length) (hn:n=l.length) (hM:Mem w ((B,cs.setIfInBounds (i*2) v,60) :: (fs.eraseIdx i++L)) (⟨3,1,v,n,l.map (Value.int .i64)⟩ :: R) W) :
  ∃ fs',SysB B cap (cs.setIfInBounds (i*2) v) fs' (rows.set i (l,r.2))∧Mem w ((B,cs.setIfInBounds (i*2) v,60) :: (fs'++L)) R W:=by
 obtain ⟨p,_,h1,_,_,_⟩:=h.at_ hr
 obtain ⟨gs,hin,hM2⟩:=hM.freezeI hn
 obtain ⟨q,hq,hb⟩:=hin.box hl
 refine ⟨fs.set i q,h.setC hr hb,Mem.push (i:=i) ?_ h1⟩
 exact hM2.sub (List.Sublist.append (List.singleton_sublist.2 hq) (List.Sublist.refl _))
end
theorem Mem.addB {w W:World} {L:BLs} {R:List RowD} (h:Mem w L R W) (cs:Array Value) (t:TypeId):∃ W' B,W'=W.alloc (.cells cs t)∧B=W.heap.size∧Mem w ((B,cs,t) :: L) R W':=⟨_,_,rfl,rfl,h.add cs t⟩
def Row0 (w:World) (a:Option Addr) (n:Nat) (l:List Int):Prop:=n=0∨∃ b o,a=some ⟨b,o,none⟩∧b<w.heap.size∧∀ k,k<n→w.cell? ⟨b,o+k,none⟩=some (.int .i64 (gi l k))
theorem Row0.below {w W:World} {a:Option Addr} {n:Nat} {l:List Int} (h:Row0 w a n l) (hb:Below w.heap.size w W):Row0 W a n l:=h.imp id fun ⟨b,o,e,h1,h2⟩=>⟨b,o,e,A9 h1 hb.size,fun k hk=>(hb.cell (p:=⟨b,o+k,none⟩) h1).trans (h2 k hk)⟩
theorem Sl.row0 {w:World} {v:Value} {l:List Int} (h:Sl w v l):∃ a c,v=.slice a l.length c∧Row0 w a l.length l:=by
 rcases h with ⟨rfl,rfl⟩ | ⟨b,off,cap,rfl,h1,h2,h3,h4⟩
 ·exact ⟨_,_,rfl,.inl rfl⟩
 ·exact ⟨_,_,rfl,.inr ⟨b,off,rfl,h3,h4⟩⟩
theorem SysB.coef {B cap i:Nat} {cs:Array Value} {fs:BLs} {rows:List (List Int×Int)} {r:List Int×Int} (h:SysB B cap cs fs rows) (hr:rows[i]? = some r):∃ g ds cp,fs[i]? = some (g,ds,(3:TypeId))∧cs[i*2]? = some (.slice (some ⟨g,0,none⟩) r.1.length cp)∧∀ k,k<r.1.length→ds[k]? = some (.int .i64 (gi r.1 k)):=by
 obtain ⟨⟨g,ds,t⟩,v,h1,h2,_,h4⟩:=h.at_ hr
 have hc:=fun k (hk:k<r.1.length)=>h4.cell hk
 obtain ⟨rfl,⟨cp,rfl,_,_,_⟩,_⟩:=h4
 exact ⟨g,ds,cp,h1,h2,hc⟩
theorem Mem.rswap2 {w W:World} {L:BLs} {R:List RowD} {a b:RowD} (h:Mem w L (a :: b :: R) W):Mem w L (b :: a :: R) W:=by
 have hd:=List.pairwise_cons.1 h.rdis
 have hd2:=List.pairwise_cons.1 hd.2
 have mem:∀ r,r∈b :: a :: R→r∈a :: b :: R:=fun r hr=>(List.Perm.swap a b R).mem_iff.1 hr
 refine ⟨h.below,h.ge,h.blks,h.dup,fun r hr=>h.rows r (mem r hr),List.pairwise_cons.2 ⟨fun s hs c hc=>?_,List.pairwise_cons.2 ⟨fun s hs=>hd.1 s (List.mem_cons_of_mem _ hs),hd2.2⟩⟩,fun r hr=>h.rL r (mem r hr)⟩
 rcases List.mem_cons.1 hs with rfl | hs
 ·exact fun e=>hd.1 b (.head _) c e hc
 ·exact hd2.1 s hs c hc
end
section
open Go.RowKit
attribute [local go_sem] Oper.semAt_some
theorem Md {Q:Exit→Act→World→Prop} {u0 u2 u3 u4 u5 u9 u10 u11 u12 u13 u14 u15 u16 u17 u18 u19 u20 u21 u22 u23 u24 u25 u26 u27 u28 u29 u30 u31 u32 u33 u34 u35 u36 u37 u38 u39 u40 u41 u42 u43 u44 u45 u46 u47 u48 u49 u50 u51 u52 u53 u54 u55 u56 u57 u58 u59 u60 u61 u62 u63 u64 u65 u66 u67 u68 u69 u70 u71 u72 u73 u74 u75 u76 u77 u78 u79 u80 u81 u82 u83 u84:Value} {bN bE:Nat} {v hv:Value} {w W0:World} {L:BLs} {R:List RowD} {j co at_ hd pr s0 s1:Int} (hpr:IntKind.i64.wrap (co*hd)=pr) (hsm:IntKind.i64.wrap (s0+pr)=s1) (hN:Hid (∀ W,Mem w L R W→W.cell? ⟨bN,3,none⟩=some hv)) (AT:Hid (∀ W,Mem w L R W→Calls Tryz.prog 36 #[hv,.int .i64 j] W (Rets W (.int .i64 at_)))) (PK:Hid (∀ W,Calls Tryz.prog 35 #[.int .i64 at_,.int .i64 6] W (Rets W (.int .i64 hd)))) (h0:Hid (Mem w ((bE,#[v,.int .i64 s0],60) :: L) R W0)) {ops:Array Oper} (ho:getOps Tryz.f11.body 12=some ops)
  (hQ:∀ (v47 v48 v49 v50 v51 v52 v53 v54 v55 v56 v57:Value)  (W':World),Mem w ((bE,#[v,.int .i64 s1],60) :: L) R W'→Q .normal { tmps:=List.toArray (u0::.pointer (some ⟨bN,0,none⟩)::u2::u3::u4::u5::.pointer (some ⟨bE,0,none⟩)::.int .i64 j::.int .i64 co::u9::u10::u11::u12::u13::u14::u15::u16::u17::u18::u19::u20::u21::u22::u23::u24::u25::u26::u27::u28::u29::u30::u31::u32::u33::u34::u35::u36::u37::u38::u39::u40::u41::u42::u43::u44::u45::u46::v47::v48::v49::v50::v51::v52::v53::v54::v55::v56::v57::u58::u59::u60::u61::u62::u63::u64::u65::u66::u67::u68::u69::u70::u71::u72::u73::u74::u75::u76::u77::u78::u79::u80::u81::u82::u83::u84::[]),defers:=[] } W') :
  (Code.region 12 ops true).wp Tryz.prog Q { tmps:=List.toArray (u0::.pointer (some ⟨bN,0,none⟩)::u2::u3::u4::u5::.pointer (some ⟨bE,0,none⟩)::.int .i64 j::.int .i64 co::u9::u10::u11::u12::u13::u14::u15::u16::u17::u18::u19::u20::u21::u22::u23::u24::u25::u26::u27::u28::u29::u30::u31::u32::u33::u34::u35::u36::u37::u38::u39::u40::u41::u42::u43::u44::u45::u46::u47::u48::u49::u50::u51::u52::u53::u54::u55::u56::u57::u58::u59::u60::u61::u62::u63::u64::u65::u66::u67::u68::u69::u70::u71::u72::u73::u74::u75::u76::u77::u78::u79::u80::u81::u82::u83::u84::[]),defers:=[] } W0:=by
 obtain rfl:=Option.some.inj (ho.symm.trans (rfl:getOps Tryz.f11.body 12=some _))
 clear ho
 replace hQ:=A8 hQ
 obtain ⟨Iv,hI⟩:∃ Iv:(Nat→Bool)→Act→World→Prop,∀ l a W,Iv l a W↔(∃ s47 s48 s49 s50 s51 s52 s53 s54 s55 s56 s57:Value,a={ tmps:=List.toArray (u0::.pointer (some ⟨bN,0,none⟩)::u2::u3::u4::u5::.pointer (some ⟨bE,0,none⟩)::.int .i64 j::.int .i64 co::u9::u10::u11::u12::u13::u14::u15::u16::u17::u18::u19::u20::u21::u22::u23::u24::u25::u26::u27::u28::u29::u30::u31::u32::u33::u34::u35::u36::u37::u38::u39::u40::u41::u42::u43::u44::u45::u46::s47::s48::s49::s50::s51::s52::s53::s54::s55::s56::s57::u58::u59::u60::u61::u62::u63::u64::u65::u66::u67::u68::u69::u70::u71::u72::u73::u74::u75::u76::u77::u78::u79::u80::u81::u82::u83::u84::[]),defers:=[] }∧Mem w L R W∧Vs [(0,.pointer (some ⟨bE,1,none⟩),s47),(1,.int .i64 s0,s48),(2,.int .i64 co,s49),(3,.pointer (some ⟨bN,3,none⟩),s50),(4,hv,s51),(5,.int .i64 j,s52),(6,.int .i64 at_,s53),(7,.int .i64 hd,s54),(8,.int .i64 pr,s55),(9,.int .i64 s1,s56),(10,.pointer (some ⟨bE,1,none⟩),s57)] l∧((l 11=false→Blk W bE #[v,.int .i64 s0] 60)∧(l 11=true→Blk W bE #[v,.int .i64 s1] 60))):=⟨_,fun _ _ _=>Iff.rfl⟩
 refine Ak Iv (by kernel_rfl) (by kernel_rfl) ((hI _ _ _).2 ⟨_,_,_,_,_,_,_,_,_,_,_,rfl,h0.out.tail.drew,Vs.zero,⟨fun _=>h0.out.drew.blks _ List.mem_cons_self,fun h=>off h⟩⟩) (Ab (k:=0) ?_ (Ab (k:=1) ?_ (Ab (k:=2) ?_ (Ab (k:=3) ?_ (Ab (k:=4) ?_ (Ab (k:=5) ?_ (Ab (k:=6) ?_ (Ab (k:=7) ?_ (Ab (k:=8) ?_ (Ab (k:=9) ?_ (Ab (k:=10) ?_ (Ab (k:=11) ?_ (Af))))))))))))) ?_
 ·intro l a W hl hw hsh h K hK
  rw [hI] at h;iterate 11 obtain ⟨_,h⟩:=h
  obtain ⟨rfl,hC,hP,g⟩:=h
  go_simp
  apply hK.out;rw [hI];iterate 11 apply Exists.intro
  exact ⟨rfl,hC,hP.put 0 rfl rfl rfl,g⟩
 ·intro l a W hl hw hsh h K hK
  rw [hI] at h;iterate 11 obtain ⟨_,h⟩:=h
  obtain ⟨rfl,hC,hP,g⟩:=h
  obtain rfl:=hP.get 0 rfl (hw 0 (by kernel_rfl))
  have hst:l 11=false:=by
   cases hc:l 11 with
   | false=>rfl
   | true=>exact absurd (hsh 9 1 _ rfl (hsh 11 9 _ rfl (hc) (by kernel_rfl)) (by kernel_rfl)) (by simp [hl])
  have x1:=((g.1 hst).cell 1).trans (show _=some (Value.int .i64 s0) from rfl)
  go_simp
  apply hK.out;rw [hI];iterate 11 apply Exists.intro
  exact ⟨rfl,hC,hP.put 1 rfl rfl rfl,g⟩
 ·intro l a W hl hw hsh h K hK
  rw [hI] at h;iterate 11 obtain ⟨_,h⟩:=h
  obtain ⟨rfl,hC,hP,g⟩:=h
  go_simp
  apply hK.out;rw [hI];iterate 11 apply Exists.intro
  exact ⟨rfl,hC,hP.put 2 rfl rfl rfl,g⟩
 ·intro l a W hl hw hsh h K hK
  rw [hI] at h;iterate 11 obtain ⟨_,h⟩:=h
  obtain ⟨rfl,hC,hP,g⟩:=h
  go_simp
  apply hK.out;rw [hI];iterate 11 apply Exists.intro
  exact ⟨rfl,hC,hP.put 3 rfl rfl rfl,g⟩
 ·intro l a W hl hw hsh h K hK
  rw [hI] at h;iterate 11 obtain ⟨_,h⟩:=h
  obtain ⟨rfl,hC,hP,g⟩:=h
  obtain rfl:=hP.get 3 rfl (hw 3 (by kernel_rfl))
  have x1:=hN.out _ hC
  go_simp
  apply hK.out;rw [hI];iterate 11 apply Exists.intro
  exact ⟨rfl,hC,hP.put 4 rfl rfl rfl,g⟩
 ·intro l a W hl hw hsh h K hK
  rw [hI] at h;iterate 11 obtain ⟨_,h⟩:=h
  obtain ⟨rfl,hC,hP,g⟩:=h
  go_simp
  apply hK.out;rw [hI];iterate 11 apply Exists.intro
  exact ⟨rfl,hC,hP.put 5 rfl rfl rfl,g⟩
 ·intro l a W hl hw hsh h K hK
  rw [hI] at h;iterate 11 obtain ⟨_,h⟩:=h
  obtain ⟨rfl,hC,hP,g⟩:=h
  obtain rfl:=hP.get 4 rfl (hw 4 (by kernel_rfl))
  obtain rfl:=hP.get 5 rfl (hw 5 (by kernel_rfl))
  go_simp
  refine Calls.mono (AT.out W hC) ?_
  rintro e W2 ⟨rfl,hb⟩
  apply hK.out;rw [hI];iterate 11 apply Exists.intro
  exact ⟨rfl,hC.call hb,hP.put 6 rfl rfl rfl,⟨fun h=>(g.1 h).below hb,fun h=>(g.2 h).below hb⟩⟩
 ·intro l a W hl hw hsh h K hK
  rw [hI] at h;iterate 11 obtain ⟨_,h⟩:=h
  obtain ⟨rfl,hC,hP,g⟩:=h
  obtain rfl:=hP.get 6 rfl (hw 6 (by kernel_rfl))
  go_simp
  refine Calls.mono (PK.out W) ?_
  rintro e W2 ⟨rfl,hb⟩
  apply hK.out;rw [hI];iterate 11 apply Exists.intro
  exact ⟨rfl,hC.call hb,hP.put 7 rfl rfl rfl,⟨fun h=>(g.1 h).below hb,fun h=>(g.2 h).below hb⟩⟩
 ·intro l a W hl hw hsh h K hK
  rw [hI] at h;iterate 11 obtain ⟨_,h⟩:=h
  obtain ⟨rfl,hC,hP,g⟩:=h
  obtain rfl:=hP.get 2 rfl (hw 2 (by kernel_rfl))
  obtain rfl:=hP.get 7 rfl (hw 7 (by kernel_rfl))
  go_simp
  apply hK.out;rw [hI];iterate 11 apply Exists.intro
  exact ⟨rfl,hC,hP.put 8 rfl rfl rfl,g⟩
 ·intro l a W hl hw hsh h K hK
  rw [hI] at h;iterate 11 obtain ⟨_,h⟩:=h
  obtain ⟨rfl,hC,hP,g⟩:=h
  obtain rfl:=hP.get 1 rfl (hw 1 (by kernel_rfl))
  obtain rfl:=hP.get 8 rfl (hw 8 (by kernel_rfl))
  go_simp
  apply hK.out;rw [hI];iterate 11 apply Exists.intro
  exact ⟨rfl,hC,hP.put 9 rfl rfl rfl,g⟩
 ·intro l a W hl hw hsh h K hK
  rw [hI] at h;iterate 11 obtain ⟨_,h⟩:=h
  obtain ⟨rfl,hC,hP,g⟩:=h
  go_simp
  apply hK.out;rw [hI];iterate 11 apply Exists.intro
  exact ⟨rfl,hC,hP.put 10 rfl rfl rfl,g⟩
 ·intro l a W hl hw hsh h K hK
  rw [hI] at h;iterate 11 obtain ⟨_,h⟩:=h
  obtain ⟨rfl,hC,hP,g⟩:=h
  obtain rfl:=hP.get 9 rfl (hw 9 (by kernel_rfl))
  obtain rfl:=hP.get 10 rfl (hw 10 (by kernel_rfl))
  have x1:=(g.1 hl).cell 1
  have x2:=(g.1 hl).frozen 1
  go_simp
  apply hK.out;rw [hI];iterate 11 apply Exists.intro
  exact ⟨rfl,h0.out.off hC (g.1 hl) 1 _,hP.skip 11 rfl,⟨fun h=>off h.symm,fun _=>(g.1 hl).set 1 _⟩⟩
 ·intro a W hI'
  have h:=(hI _ _ _).1 hI';clear hI';iterate 11 obtain ⟨_,h⟩:=h
  obtain ⟨rfl,hC,hP,g⟩:=h
  exact hQ.out _ _ _ _ _ _ _ _ _ _ _ _ (h0.out.join hC (g.2 (by kernel_rfl)))
theorem Me {Q:Exit→Act→World→Prop} {u0 u2 u3 u4 u5 u7 u8 u9 u10 u11 u12 u13 u14 u15 u16 u17 u18 u19 u20 u21 u22 u23 u24 u25 u26 u27 u28 u29 u30 u31 u32 u33 u34 u35 u36 u37 u38 u39 u40 u41 u42 u43 u44 u45 u46 u47 u48 u49 u50 u51 u52 u53 u54 u55 u56 u57 u58 u59 u60 u61 u62 u63 u64 u65 u66 u67 u68 u69 u70 u71 u72 u73 u74 u75 u76 u77 u78 u79 u80 u81 u82 u83 u84:Value} {bN bE:Nat} {v:Value} {w W0:World} {L:BLs} {R:List RowD} {ms mq pk sa s0 s1:Int} (hmq:IntKind.i64.wrap (ms.tdiv 30)=mq) (hsa:IntKind.i64.wrap (s0+pk)=sa) (hsm:IntKind.i64.wrap (sa-20)=s1) (hN:Hid (∀ W,Mem w L R W→W.cell? ⟨bN,4,none⟩=some (.int .i64 ms))) (PK:Hid (∀ W,Calls Tryz.prog 35 #[.int .i64 mq,.int .i64 41] W (Rets W (.int .i64 pk)))) (h0:Hid (Mem w ((bE,#[v,.int .i64 s0],60) :: L) R W0)) {ops:Array Oper} (ho:getOps Tryz.f11.body 14=some ops)
  (hQ:∀ (v69 v70 v71 v72 v73 v74 v75 v76 v77:Value)  (W':World),Mem w ((bE,#[v,.int .i64 s1],60) :: L) R W'→Q .normal { tmps:=List.toArray (u0::.pointer (some ⟨bN,0,none⟩)::u2::u3::u4::u5::.pointer (some ⟨bE,0,none⟩)::u7::u8::u9::u10::u11::u12::u13::u14::u15::u16::u17::u18::u19::u20::u21::u22::u23::u24::u25::u26::u27::u28::u29::u30::u31::u32::u33::u34::u35::u36::u37::u38::u39::u40::u41::u42::u43::u44::u45::u46::u47::u48::u49::u50::u51::u52::u53::u54::u55::u56::u57::u58::u59::u60::u61::u62::u63::u64::u65::u66::u67::u68::v69::v70::v71::v72::v73::v74::v75::v76::v77::u78::u79::u80::u81::u82::u83::u84::[]),defers:=[] } W') :
  (Code.region 14 ops true).wp Tryz.prog Q { tmps:=List.toArray (u0::.pointer (some ⟨bN,0,none⟩)::u2::u3::u4::u5::.pointer (some ⟨bE,0,none⟩)::u7::u8::u9::u10::u11::u12::u13::u14::u15::u16::u17::u18::u19::u20::u21::u22::u23::u24::u25::u26::u27::u28::u29::u30::u31::u32::u33::u34::u35::u36::u37::u38::u39::u40::u41::u42::u43::u44::u45::u46::u47::u48::u49::u50::u51::u52::u53::u54::u55::u56::u57::u58::u59::u60::u61::u62::u63::u64::u65::u66::u67::u68::u69::u70::u71::u72::u73::u74::u75::u76::u77::u78::u79::u80::u81::u82::u83::u84::[]),defers:=[] } W0:=by
 obtain rfl:=Option.some.inj (ho.symm.trans (rfl:getOps Tryz.f11.body 14=some _))
 clear ho
 replace hQ:=A8 hQ
 obtain ⟨Iv,hI⟩:∃ Iv:(Nat→Bool)→Act→World→Prop,∀ l a W,Iv l a W↔(∃ s69 s70 s71 s72 s73 s74 s75 s76 s77:Value,a={ tmps:=List.toArray (u0::.pointer (some ⟨bN,0,none⟩)::u2::u3::u4::u5::.pointer (some ⟨bE,0,none⟩)::u7::u8::u9::u10::u11::u12::u13::u14::u15::u16::u17::u18::u19::u20::u21::u22::u23::u24::u25::u26::u27::u28::u29::u30::u31::u32::u33::u34::u35::u36::u37::u38::u39::u40::u41::u42::u43::u44::u45::u46::u47::u48::u49::u50::u51::u52::u53::u54::u55::u56::u57::u58::u59::u60::u61::u62::u63::u64::u65::u66::u67::u68::s69::s70::s71::s72::s73::s74::s75::s76::s77::u78::u79::u80::u81::u82::u83::u84::[]),defers:=[] }∧Mem w L R W∧Vs [(0,.pointer (some ⟨bE,1,none⟩),s69),(1,.int .i64 s0,s70),(2,.pointer (some ⟨bN,4,none⟩),s71),(3,.int .i64 ms,s72),(4,.int .i64 mq,s73),(5,.int .i64 pk,s74),(6,.int .i64 sa,s75),(7,.int .i64 s1,s76),(8,.pointer (some ⟨bE,1,none⟩),s77)] l∧((l 9=false→Blk W bE #[v,.int .i64 s0] 60)∧(l 9=true→Blk W bE #[v,.int .i64 s1] 60))):=⟨_,fun _ _ _=>Iff.rfl⟩
 refine Ak Iv (by kernel_rfl) (by kernel_rfl) ((hI _ _ _).2 ⟨_,_,_,_,_,_,_,_,_,rfl,h0.out.tail.drew,Vs.zero,⟨fun _=>h0.out.drew.blks _ List.mem_cons_self,fun h=>off h⟩⟩) (Ab (k:=0) ?_ (Ab (k:=1) ?_ (Ab (k:=2) ?_ (Ab (k:=3) ?_ (Ab (k:=4) ?_ (Ab (k:=5) ?_ (Ab (k:=6) ?_ (Ab (k:=7) ?_ (Ab (k:=8) ?_ (Ab (k:=9) ?_ (Af))))))))))) ?_
 ·intro l a W hl hw hsh h K hK
  rw [hI] at h;iterate 9 obtain ⟨_,h⟩:=h
  obtain ⟨rfl,hC,hP,g⟩:=h
  go_simp
  apply hK.out;rw [hI];iterate 9 apply Exists.intro
  exact ⟨rfl,hC,hP.put 0 rfl rfl rfl,g⟩
 ·intro l a W hl hw hsh h K hK
  rw [hI] at h;iterate 9 obtain ⟨_,h⟩:=h
  obtain ⟨rfl,hC,hP,g⟩:=h
  obtain rfl:=hP.get 0 rfl (hw 0 (by kernel_rfl))
  have hst:l 9=false:=by
   cases hc:l 9 with
   | false=>rfl
   | true=>exact absurd (hsh 6 1 _ rfl (hsh 7 6 _ rfl (hsh 9 7 _ rfl (hc) (by kernel_rfl)) (by kernel_rfl)) (by kernel_rfl)) (by simp [hl])
  have x1:=((g.1 hst).cell 1).trans (show _=some (Value.int .i64 s0) from rfl)
  go_simp
  apply hK.out;rw [hI];iterate 9 apply Exists.intro
  exact ⟨rfl,hC,hP.put 1 rfl rfl rfl,g⟩
 ·intro l a W hl hw hsh h K hK
  rw [hI] at h;iterate 9 obtain ⟨_,h⟩:=h
  obtain ⟨rfl,hC,hP,g⟩:=h
  go_simp
  apply hK.out;rw [hI];iterate 9 apply Exists.intro
  exact ⟨rfl,hC,hP.put 2 rfl rfl rfl,g⟩
 ·intro l a W hl hw hsh h K hK
  rw [hI] at h;iterate 9 obtain ⟨_,h⟩:=h
  obtain ⟨rfl,hC,hP,g⟩:=h
  obtain rfl:=hP.get 2 rfl (hw 2 (by kernel_rfl))
  have x1:=hN.out _ hC
  go_simp
  apply hK.out;rw [hI];iterate 9 apply Exists.intro
  exact ⟨rfl,hC,hP.put 3 rfl rfl rfl,g⟩
 ·intro l a W hl hw hsh h K hK
  rw [hI] at h;iterate 9 obtain ⟨_,h⟩:=h
  obtain ⟨rfl,hC,hP,g⟩:=h
  obtain rfl:=hP.get 3 rfl (hw 3 (by kernel_rfl))
  go_simp
  apply hK.out;rw [hI];iterate 9 apply Exists.intro
  exact ⟨rfl,hC,hP.put 4 rfl rfl rfl,g⟩
 ·intro l a W hl hw hsh h K hK
  rw [hI] at h;iterate 9 obtain ⟨_,h⟩:=h
  obtain ⟨rfl,hC,hP,g⟩:=h
  obtain rfl:=hP.get 4 rfl (hw 4 (by kernel_rfl))
  go_simp
  refine Calls.mono (PK.out W) ?_
  rintro e W2 ⟨rfl,hb⟩
  apply hK.out;rw [hI];iterate 9 apply Exists.intro
  exact ⟨rfl,hC.call hb,hP.put 5 rfl rfl rfl,⟨fun h=>(g.1 h).below hb,fun h=>(g.2 h).below hb⟩⟩
 ·intro l a W hl hw hsh h K hK
  rw [hI] at h;iterate 9 obtain ⟨_,h⟩:=h
  obtain ⟨rfl,hC,hP,g⟩:=h
  obtain rfl:=hP.get 1 rfl (hw 1 (by kernel_rfl))
  obtain rfl:=hP.get 5 rfl (hw 5 (by kernel_rfl))
  go_simp
  apply hK.out;rw [hI];iterate 9 apply Exists.intro
  exact ⟨rfl,hC,hP.put 6 rfl rfl rfl,g⟩
 ·intro l a W hl hw hsh h K hK
  rw [hI] at h;iterate 9 obtain ⟨_,h⟩:=h
  obtain ⟨rfl,hC,hP,g⟩:=h
  obtain rfl:=hP.get 6 rfl (hw 6 (by kernel_rfl))
  go_simp
  apply hK.out;rw [hI];iterate 9 apply Exists.intro
  exact ⟨rfl,hC,hP.put 7 rfl rfl rfl,g⟩
 ·intro l a W hl hw hsh h K hK
  rw [hI] at h;iterate 9 obtain ⟨_,h⟩:=h
  obtain ⟨rfl,hC,hP,g⟩:=h
  go_simp
  apply hK.out;rw [hI];iterate 9 apply Exists.intro
  exact ⟨rfl,hC,hP.put 8 rfl rfl rfl,g⟩
 ·intro l a W hl hw hsh h K hK
  rw [hI] at h;iterate 9 obtain ⟨_,h⟩:=h
  obtain ⟨rfl,hC,hP,g⟩:=h
  obtain rfl:=hP.get 7 rfl (hw 7 (by kernel_rfl))
  obtain rfl:=hP.get 8 rfl (hw 8 (by kernel_rfl))
  have x1:=(g.1 hl).cell 1
  have x2:=(g.1 hl).frozen 1
  go_simp
  apply hK.out;rw [hI];iterate 9 apply Exists.intro
  exact ⟨rfl,h0.out.off hC (g.1 hl) 1 _,hP.skip 9 rfl,⟨fun h=>off h.symm,fun _=>(g.1 hl).set 1 _⟩⟩
 ·intro a W hI'
  have h:=(hI _ _ _).1 hI';clear hI';iterate 9 obtain ⟨_,h⟩:=h
  obtain ⟨rfl,hC,hP,g⟩:=h
  exact hQ.out _ _ _ _ _ _ _ _ _ _ (h0.out.join hC (g.2 (by kernel_rfl)))
theorem NumL.sum_small (x:NumL) (i:Nat) {k:Nat} (hk:k≤8):-360≤x.sum i k∧x.sum i k≤360:=by
 obtain ⟨h1,h2⟩:=x.sum_bd i k
 omega
theorem made_l2 {Q:Exit→Act→World→Prop} {u0 u2 u4 u8 u9 u10 u11 u12 u13 u14 u15 u16 u17 u18 u19 u20 u21 u22 u23 u24 u25 u26 u27 u28 u29 u30 u31 u32 u33 u34 u35 u36 u37 u38 u39 u40 u41 u42 u43 u44 u45 u46 u47 u48 u49 u50 u51 u52 u53 u54 u55 u56 u57 u58 u59 u60 u61 u62 u63 u64 u65 u66 u67 u68 u69 u70 u71 u72 u73 u74 u75 u76 u77 u78 u79 u80 u81 u82 u83 u84:Value} {x:NumL} {bN bS bE i c:Nat} {cv hv:Value} {w W0:World} {L:BLs} {R:List RowD} (hc:Hid (c=x.c)) (hi:Hid (i≤5)) (hN:Hid (∀ W,Mem w L R W→W.cell? ⟨bN,2,none⟩=some cv∧W.cell? ⟨bN,3,none⟩=some hv)) (hS:Hid (∀ W,Mem w L R W→W.cell? ⟨bS,0,none⟩=some (.int .i64 c)))
  (AC:Hid (∀ W,Mem w L R W→∀ k:Nat,Calls Tryz.prog 36 #[cv,.int .i64 k] W (Rets W (.int .i64 (atv x.coefs k))))) (AH:Hid (∀ W,Mem w L R W→∀ k:Nat,Calls Tryz.prog 36 #[hv,.int .i64 k] W (Rets W (.int .i64 (atv x.hidden k))))) (hf:Hid (∀ k,Fits (atv x.coefs k)∧Fits (atv x.hidden k))) (h0:Hid (Mem w ((bE,#[.slice none 0 0,.int .i64 0],60) :: L) R W0)) {body:Code} (hbody:getLoop Tryz.f11.body 2=some body)
  (hQ:∀ (vf:Value) (v7 v8 v24 v25 v26 v27 v28 v29 v30 v31 v32 v33 v34 v35 v36 v37 v38 v39 v40 v41 v42 v43 v44 v45 v46 v47 v48 v49 v50 v51 v52 v53 v54 v55 v56 v57:Value) (W':World),Hid (Mem w ((bE,#[vf,.int .i64 (x.sum i c)],60) :: L) (⟨3,1,vf,c,((List.range c).map fun k=>Value.int .i64 (x.coef i k))⟩ :: R) W')→Q (.exit 2) { tmps:=List.toArray (u0::.pointer (some ⟨bN,0,none⟩)::u2::.pointer (some ⟨bS,0,none⟩)::u4::.int .i64 i::.pointer (some ⟨bE,0,none⟩)::v7::v8::u9::u10::u11::u12::u13::u14::u15::u16::u17::u18::u19::u20::u21::u22::u23::v24::v25::v26::v27::v28::v29::v30::v31::v32::v33::v34::v35::v36::v37::v38::v39::v40::v41::v42::v43::v44::v45::v46::v47::v48::v49::v50::v51::v52::v53::v54::v55::v56::v57::u58::u59::u60::u61::u62::u63::u64::u65::u66::u67::u68::u69::u70::u71::u72::u73::u74::u75::u76::u77::u78::u79::u80::u81::u82::u83::u84::[]),defers:=[] } W') :
  (Code.loop body).wp Tryz.prog Q { tmps:=List.toArray (u0::.pointer (some ⟨bN,0,none⟩)::u2::.pointer (some ⟨bS,0,none⟩)::u4::.int .i64 i::.pointer (some ⟨bE,0,none⟩)::.int .i64 0::u8::u9::u10::u11::u12::u13::u14::u15::u16::u17::u18::u19::u20::u21::u22::u23::u24::u25::u26::u27::u28::u29::u30::u31::u32::u33::u34::u35::u36::u37::u38::u39::u40::u41::u42::u43::u44::u45::u46::u47::u48::u49::u50::u51::u52::u53::u54::u55::u56::u57::u58::u59::u60::u61::u62::u63::u64::u65::u66::u67::u68::u69::u70::u71::u72::u73::u74::u75::u76::u77::u78::u79::u80::u81::u82::u83::u84::[]),defers:=[] } W0:=by
 obtain rfl:=Option.some.inj (hbody.symm.trans (rfl:getLoop Tryz.f11.body 2=some _))
 clear hbody
 replace hQ:=A8 hQ
 go_loopw [7] (fun s wr=>∃ (j:Nat) (v:Value),s=.int .i64 j∧j≤c∧Hid (Mem w ((bE,#[v,.int .i64 (x.sum i j)],60) :: L) (⟨3,1,v,j,((List.range j).map fun k=>Value.int .i64 (x.coef i k))⟩ :: R) wr)) (fun s _=>c-(intOf s).toNat)
 case atStart=>exact ⟨0,.slice none 0 0,rfl,by omega,A8 (h0.out.row0 3 1)⟩
 case round =>
  clear h0
  obtain ⟨j,v,rfl,hj,hM⟩:=hrel
  have y0:=hS.out _ hM.out.tail.rtail
  by_cases hjc:j<c
  case neg =>
   have hjc':¬ (j:Int)<c:=by omega
   obtain rfl:j=c:=by omega
   go_wp2_with fail
   exact hQ.out v _ _ _ _ _ _ _ _ _ _ _ _ _ _ _ _ _ _ _ _ _ _ _ _ _ _ _ _ _ _ _ _ _ _ _ _ _ hM
  case pos =>
   have hjc':(j:Int)<c:=by omega
   obtain ⟨y1,_⟩:=hN.out _ hM.out.tail.rtail
   have hcb:=x.c_eq
   have hcc:=hc.out
   have hii:=hi.out
   have hic:i*c≤40:=Nat.le_trans (Nat.mul_le_mul hii (show c≤8 by omega)) (by decide)
   obtain ⟨ic,hic1⟩:∃ z,z=i*c:=⟨_,rfl⟩
   have hw1:IntKind.i64.wrap ((i:Int)*c)=(ic:Int):=by rw [hic1,IntWalk.i64_in _ (by rw [←Int.natCast_mul];omega)];simp
   obtain ⟨ij,hij⟩:∃ z,z=ic+j:=⟨_,rfl⟩
   have hw2:IntKind.i64.wrap ((ic:Int)+j)=(ij:Int):=by rw [hij,IntWalk.i64_in _ (by omega)];simp
   have hco:pkv (atv x.coefs ij) 19-9=x.coef i j:=by unfold NumL.coef;rw [hij,hic1,hcc]
   have hcbd:=x.coef_bd i j
   have hhbd:=x.hid_bd j
   have hpbd:=x.prod_bd i j
   have hs0:=x.sum_small i (k:=j) (by omega)
   have hs1:=x.sum_small i (k:=j+1) (by omega)
   have hse:x.sum i (j+1)=x.sum i j+x.coef i j*x.hid j:=rfl
   have hxs:((List.range (j+1)).map fun k=>Value.int .i64 (x.coef i k))=((List.range j).map fun k=>Value.int .i64 (x.coef i k))++[.int .i64 (x.coef i j)]:=by rw [List.range_succ,List.map_append];rfl
   have hhd:pkv (atv x.hidden j) 6=x.hid j:=rfl
   obtain ⟨fa,fh⟩:Fits (atv x.coefs ij)∧Fits (atv x.hidden j):=⟨(hf.out ij).1,(hf.out j).2⟩
   obtain ⟨co,hcoe⟩:∃ z,z=x.coef i j:=⟨_,rfl⟩
   have hw3:IntKind.i64.wrap (pkv (atv x.coefs ij) 19-9)=co:=by rw [hco,hcoe];exact IntWalk.i64_in _ (by omega)
   have C1:=A8 (AC.out _ hM.out.tail.rtail ij)
   have P1:=A8 (fun W=>Au (atv x.coefs ij) 19 fa (by decide) (by decide) W)
   have P2:=A8 (fun W=>by have:=Au (atv x.hidden j) 6 fh (by decide) (by decide) W;rwa [hhd] at this)
   have hpr:IntKind.i64.wrap (co*x.hid j)=x.coef i j*x.hid j:=by rw [hcoe];exact IntWalk.i64_in _ (by omega)
   have hsm:IntKind.i64.wrap (x.sum i j+x.coef i j*x.hid j)=x.sum i (j+1):=by rw [hse];exact IntWalk.i64_in _ (by omega)
   rw [←hcoe] at hxs
   have hxs':=A8 hxs
   have hj8:j≤8:=by omega
   generalize pkv (atv x.coefs ij) 19=p1 at *
   generalize atv x.coefs ij=a1 at *
   clear hic hic1 hij hco hcbd hhbd hpbd hs0 hs1 hse hxs hhd fa fh hcc hcoe hcb hii
   replace hpr:=A8 hpr
   replace hsm:=A8 hsm
   go_wp2_with fail
   refine Calls.mono C1.out ?_
   rintro e w1 ⟨rfl,hb⟩
   replace hM:=A8 (hM.out.call hb)
   clear y0 y1 hb
   go_wp2_with fail
   refine Calls.mono (P1.out _) ?_
   rintro e w2 ⟨rfl,hb⟩
   replace hM:=A8 (hM.out.call hb)
   clear hb
   have y2:=hM.out.cell bE _ _ (.head _) 0
   go_upto_region 12 with (at_builtin;refine Ii rfl rfl (hM.out.new _) rfl rfl ((Blk.new _ _ _).cell 0) (by omega) ?_;intro g2 c2 W8 hM8;have y3:=hM8.cell bE _ _ (.head _) 0;have y4:=hM8.frozen bE _ _ (.head _) 0;replace hM8:=hM8.put0 0 (.slice (some ⟨g2,0,none⟩) (j+1) c2))
   refine Md (bN:=bN) (bE:=bE) (hv:=hv) (w:=w) (L:=L) (R:=⟨3,1,_,j+1,((List.range j).map fun k=>Value.int .i64 (x.coef i k))++[.int .i64 co]⟩ :: R) (j:=j) (co:=co) (at_:=atv x.hidden j) (hd:=x.hid j) (pr:=x.coef i j*x.hid j) (s0:=x.sum i j) (s1:=x.sum i (j+1)) hpr.out hsm.out (A8 fun W hW=>(hN.out W hW.rtail).2) (A8 fun W hW=>AH.out W hW.rtail j) P2 (A8 (by assumption)) (by kernel_rfl) ?_
   intro z47 z48 z49 z50 z51 z52 z53 z54 z55 z56 z57 W9 hM9
   rw [←hxs'.out] at hM9
   go_wp2_with fail
   go_roundw
   case rel=>exact ⟨j+1,_,by go_num,by omega,A8 hM9⟩
   case measure=>simp [intOf];omega
end
end Go.Proofs.YtcmomjnailihpaaGreatDoor
