/- PkA -/
import Derived.WalkKit
import Derived.Lib.Hide
import Derived.Deep.QuietTactic
import Derived.BigQuiet
import Derived.IntWalk
import Derived.Test.YtioamkekjjkigaaGreatDoorProg
import Derived.RangeFuncBox
import Derived.Shelf.Abstract
import Derived.RangeFuncNested
import Derived.RangeFuncBound
import Derived.RangeFuncCalls
import Derived.RangeFuncLeaves
import Derived.Shelf.RegionOpen
import Derived.OwnWalkIn
import Derived.TacticsInMore
import Derived.LoopNIn
import Derived.LoopIn
import Derived.Lib.ItoaNum
import Derived.Lib.Atoi
import Derived.Lib.SlTrimSet
import Derived.Lib.Strings
import Derived.Test.YtioamkekjjkigaaGreatDoorYSh
set_option maxHeartbeats 2000000
set_option maxRecDepth 100000
namespace Go.Proofs.YtioamkekjjkigaaGreatDoor
section
open Go.RowKit
def Lp:Value->Nat
 | .slice _ n _=>n
 | _=>0
def strLen:Value->Nat
 | .string s=>s.size
 | _=>0
def _root_.Go.Value.ptr? : Value->Option (Nat×Nat)
 | .slice (some a) _ _=>some (a.block,a.off)
 | _=>none
theorem ER {k:IntKind} {a b:Int} (h:a=b):Ending.returned (.int k a)=.returned (.int k b):=by rw [h]
theorem Dm {a b:Bool} (h:a=b):Ending.returned (.bool a)=.returned (.bool b):=by rw [h]
def gi (xs:List Int) (i:Nat):Int:=xs[i]?.getD 0
theorem FE {xs:List Int} {i:Nat} (h:i<xs.length):gi xs i=xs[i]:=by simp [gi,h]
theorem Gl {xs:List Int} {i:Nat} (h:xs.length<=i):gi xs i=0:=by simp [gi,h]
theorem Nt {xs:List Int} {i k:Nat} (h:i<k):gi (xs.take k) i=gi xs i:=by simp [gi,h]
def Sl (w:World) (v:Value) (xs:List Int):Prop :=
 (v=.slice none 0 0/\xs=[])∨∃ b off cap,v=.slice (some ⟨b,off,none⟩) xs.length cap/\xs.length<=cap/\cap<=maxLen/\b<w.heap.size /\
  ∀ j,j<xs.length->w.cell? ⟨b,off+j,none⟩=some (.int .i64 (gi xs j))
theorem Sl.nil (w:World):Sl w (.slice none 0 0) []:=.inl ⟨rfl,rfl⟩
theorem Sl.shape {w:World} {v:Value} {xs:List Int} (h:Sl w v xs):∃ a cap,v=.slice a xs.length cap:=by
 rcases h with ⟨rfl,rfl⟩ | ⟨b,off,cap,rfl,_⟩
 ·exact ⟨_,_,rfl⟩
 ·exact ⟨_,_,rfl⟩
theorem Sl.below {w w':World} {v:Value} {xs:List Int} (h:Sl w v xs) (hb:Below w.heap.size w w'):Sl w' v xs:=by
 rcases h with h | ⟨b,off,cap,rfl,h1,h2,h3,h4⟩
 ·exact .inl h
 ·exact .inr ⟨b,off,cap,rfl,h1,h2,A9 h3 hb.size,fun j hj=>(hb.cell (p:=⟨b,off+j,none⟩) h3).trans (h4 j hj)⟩
theorem Sl.len_le {w:World} {v:Value} {xs:List Int} (h:Sl w v xs):xs.length<=maxLen:=by
 rcases h with ⟨_,rfl⟩ | ⟨_,_,_,_,h1,h2,_⟩
 ·simp
 ·exact Bc h1 h2
theorem Sl.of_own {w:World} {base:Nat} {e:TypeId} {v:Value} {n:Nat} {xs:List Int} (h:w.ownsRow base e 1 v n (xs.map (Value.int .i64))):Sl w v xs:=by
 have hl:n=xs.length:=by have:=h.1;simpa using this.symm
 subst hl;rcases h.2 with ⟨rfl,h0⟩ | ⟨g,cap,cur,rfl,hb,hg,hn,hm,hs,ht⟩
 ·exact .inl ⟨rfl,Bo h0⟩
 ·refine .inr ⟨g,0,cap,rfl,hn,hm,(BO.1 hg).1,fun j hj=>?_⟩
  have hc:=h.cells (g:=g) rfl j (.int .i64 (gi xs j)) (by simp [FE hj,AQ,Ax hj]);have hadd:(⟨g,0,none⟩:Addr).add j=⟨g,0+j,none⟩:=by unfold Addr.add;split <;> simp_all
  rw [hadd] at hc;exact hc
theorem Sl.take {w:World} {b off cap:Nat} {xs:List Int} (k:Nat) (hk:k<=xs.length) (h1:xs.length<=cap) (h2:cap<=maxLen) (h3:b<w.heap.size)
  (h4:∀ j,j<xs.length->w.cell? ⟨b,off+j,none⟩=some (.int .i64 (gi xs j))):Sl w (.slice (some ⟨b,off,none⟩) k cap) (xs.take k):=by
 refine .inr ⟨b,off,cap,by simp [BE hk],by simp;omega,h2,h3,fun j hj=>?_⟩
 have hj':j<k:=by simp at hj;omega
 rw [h4 j Ad,Nt hj']
theorem Dq (w:World) (n:Nat):Below w.heap.size w (w.drewN n):=⟨rfl,rfl,rfl,Aa _,fun _ _=>rfl⟩
theorem Sl.drewN {w:World} {v:Value} {xs:List Int} (h:Sl w v xs) (n:Nat):Sl (w.drewN n) v xs:=h.below (Dq w n)
theorem Jh {w w':World} (h:Below w.heap.size w w'):w.grownBy w' none:=⟨h.os,h.tape,h.output,h.size,fun k hk _=>h.block k hk⟩
theorem E8 {w w':World} {base:Nat} {e:TypeId} {size:Nat} {v:Value} {n:Nat} {xs:List Value} (h:w.ownsRow base e size v n xs) (hb:Below w.heap.size w w'):w'.ownsRow base e size v n xs :=
 h.kept (Jh hb) (by cases v.ownBlock <;> simp)
def Ds (W:World) (B:Nat) (cs:Array Value) (t:TypeId):Prop:=W.heap[B]? = some (.cells cs t (0,0))
theorem Ds.lt {W:World} {B:Nat} {cs:Array Value} {t:TypeId} (h:Ds W B cs t):B<W.heap.size:=(BO.1 h).1
theorem Ds.new (W:World) (cs:Array Value) (t:TypeId):Ds (W.alloc (.cells cs t)) W.heap.size cs t:=heap_alloc_new W _
theorem Ds.kept {W W':World} {row:Option Nat} {B:Nat} {cs:Array Value} {t:TypeId} (h:Ds W B cs t) (hg:W.grownBy W' row) (hne:some B≠row):Ds W' B cs t:=(hg.block B h.lt hne).trans h
theorem Ds.below {W W':World} {B:Nat} {cs:Array Value} {t:TypeId} (h:Ds W B cs t) (hb:Below W.heap.size W W'):Ds W' B cs t:=(hb.block B h.lt).trans h
theorem Ds.alloc {W:World} {B:Nat} {cs:Array Value} {t:TypeId} (h:Ds W B cs t) (o:Obj):Ds (W.alloc o) B cs t:=h.below ((Below.refl _ W).alloc (Aa _) o)
theorem Ds.cell {W:World} {B:Nat} {cs:Array Value} {t:TypeId} (h:Ds W B cs t) (i:Nat):W.cell? ⟨B,i,none⟩=cs[i]? := by simp [World.cell?,show W.heap[B]? = _ from h]
theorem Ds.frozen {W:World} {B:Nat} {cs:Array Value} {t:TypeId} (h:Ds W B cs t) (i:Nat):W.frozen? ⟨B,i,none⟩=false:=by simp [World.frozen?,show W.heap[B]? = _ from h]
theorem Ds.set {W:World} {B:Nat} {cs:Array Value} {t:TypeId} (h:Ds W B cs t) (i:Nat) (v:Value):Ds (W.setCell ⟨B,i,none⟩ v) B (cs.setIfInBounds i v) t:=heap_setCell_same W B i cs t v h
theorem Ds.not_row {W:World} {B:Nat} {cs:Array Value} {t e:TypeId} (h:Ds W B cs t) (hte:t≠e) {base size k:Nat} {v:Value} {xs:List Value} (hr:W.ownsRow base e size v k xs):some B≠v.ownBlock:=by
 rcases hr.2 with ⟨rfl,_⟩ | ⟨g,cap,cur,rfl,_,hgb,_⟩
 ·simp [Value.ownBlock]
 ·intro e'
  obtain rfl:B=g:=by simpa [Value.ownBlock] using e'
  have:=(show W.heap[B]? = _ from h).symm.trans hgb;simp at this;exact hte this.2
theorem DE (W:World) (b i:Nat) (v:Value):W.grownBy (W.setCell ⟨b,i,none⟩ v) (some b) :=
 ⟨rfl,rfl,rfl,by simp [World.setCell],fun k _ hk=>Below.heap_setCell _ _ _ k (fun e=>hk (by rw [e]))⟩
structure Dr (S:List Nat) (w w':World):Prop where
 os:w'.os=w.os
 tape:w'.tape=w.tape
 output:w'.output=w.output
 size:w.heap.size<=w'.heap.size
 block:∀ k,k<w.heap.size->k∉S->w'.heap[k]? = w.heap[k]?
theorem Dr.refl (S:List Nat) (w:World):Dr S w w:=⟨rfl,rfl,rfl,Aa _,fun _ _ _=>rfl⟩
theorem Dr.trans {S:List Nat} {a b c:World} (h:Dr S a b) (k:Dr S b c):Dr S a c :=
 ⟨k.os.trans h.os,k.tape.trans h.tape,k.output.trans h.output,Bc h.size k.size,fun i hi hs=>(k.block i (A9 hi h.size) hs).trans (h.block i hi hs)⟩
theorem Dr.of_below {S:List Nat} {w w':World} (h:Below w.heap.size w w'):Dr S w w':=⟨h.os,h.tape,h.output,h.size,fun k hk _=>h.block k hk⟩
theorem Dr.below {S:List Nat} {a b c:World} (h:Dr S a b) (k:Below b.heap.size b c):Dr S a c:=h.trans (.of_below k)
theorem Dr.drewN {S:List Nat} {a b:World} (h:Dr S a b) (n:Nat):Dr S a (b.drewN n):=h.below (Dq b n)
theorem Dr.alloc {S:List Nat} {a b:World} (h:Dr S a b) (o:Obj):Dr S a (b.alloc o):=h.below ((Below.refl _ b).alloc (Aa _) o)
theorem Dr.setCell {S:List Nat} {a b:World} (h:Dr S a b) {p:Addr} (hp:p.block∈S) (u:Value):Dr S a (b.setCell p u) :=
 h.trans ⟨rfl,rfl,rfl,by simp [World.setCell],fun k _ hs=>Below.heap_setCell _ _ _ _ (fun e=>hs (e ▸ hp))⟩
theorem Dr.toBelow {S:List Nat} {B:Nat} {w w':World} (h:Dr S w w') (hB:B<=w.heap.size) (hS:∀ k∈S,B<=k):Below B w w' :=
 ⟨h.os,h.tape,h.output,h.size,fun k hk=>h.block k Ad (fun hs=>by have:=hS k hs;omega)⟩
theorem Dr.cell {S:List Nat} {w w':World} (h:Dr S w w') {p:Addr} (hp:p.block<w.heap.size) (hs:p.block∉S):w'.cell? p=w.cell? p:=World.cell?_of_block (w:=w) (h.block p.block hp hs)
theorem Dr.frozen {S:List Nat} {w w':World} (h:Dr S w w') {p:Addr} (hp:p.block<w.heap.size) (hs:p.block∉S):w'.frozen? p=w.frozen? p:=World.frozen?_of_block (w:=w) (h.block p.block hp hs)
theorem Dr.trans' {S:List Nat} {a b c:World} {r:Nat} (h:Dr S a b) (hr:a.heap.size<=r) (hg:b.grownBy c (some r)):Dr S a c :=
 ⟨hg.os.trans h.os,hg.tape.trans h.tape,hg.output.trans h.output,Bc h.size hg.size,fun k hk hs=>(hg.block k (A9 hk h.size) (fun e=>by cases e;omega)).trans (h.block k hk hs)⟩
theorem Dr.mono {S T:List Nat} {w w':World} (h:Dr S w w') (hs:∀ k∈S,k∈T):Dr T w w':=⟨h.os,h.tape,h.output,h.size,fun k hk ht=>h.block k hk (fun e=>ht (hs k e))⟩
theorem Sl.only {S:List Nat} {w w':World} {v:Value} {xs:List Int} (h:Sl w v xs) (ho:Dr S w w') (hs:∀ b o,v.ptr? = some (b,o)->b∉S):Sl w' v xs:=by
 rcases h with h | ⟨b,off,cap,rfl,h1,h2,h3,h4⟩
 ·exact .inl h
 ·exact .inr ⟨b,off,cap,rfl,h1,h2,A9 h3 ho.size,fun j hj=>(ho.cell (p:=⟨b,off+j,none⟩) h3 (hs b off rfl)).trans (h4 j hj)⟩
theorem Sl.ptr_lt {w:World} {v:Value} {xs:List Int} (h:Sl w v xs):∀ b o,v.ptr? = some (b,o)->b<w.heap.size:=by
 intro b o e;rcases h with ⟨rfl,_⟩ | ⟨b',off,cap,rfl,h1,h2,h3,h4⟩
 ·cases e
 ·cases e;exact h3
def FG (w:World) (v:Value):Prop:=∀ b o,v.ptr? = some (b,o)->w.heap.size<=b
theorem FG.of_own {w w':World} {base:Nat} {e:TypeId} {size:Nat} {v:Value} {n:Nat} {xs:List Value} (h:w'.ownsRow base e size v n xs) (hb:w.heap.size<=base):FG w v:=by
 intro b o hp;rcases h.2 with ⟨rfl,_⟩ | ⟨g,cap,cur,rfl,hg,_⟩
 ·cases hp
 ·cases hp;exact Bc hb hg
theorem FG.of_ptr {w:World} {v u:Value} (h:FG w v) (hp:u.ptr? = v.ptr?):FG w u:=fun b o e=>h b o (hp ▸ e)
theorem FG.mono {w w':World} {v:Value} (h:FG w' v) (hs:w.heap.size<=w'.heap.size):FG w v:=fun b o e=>Bc hs (h b o e)
theorem Sl.setBlk {W:World} {v:Value} {xs:List Int} (h:Sl W v xs) {B:Nat} {cs:Array Value} {t:TypeId} (hb:Ds W B cs t) (hu:∀ (j:Nat) n,cs[j]? ≠ some (.int .i64 n)) (i:Nat) (u':Value):Sl (W.setCell ⟨B,i,none⟩ u') v xs:=by
 rcases h with h | ⟨b,off,cap,rfl,h1,h2,h3,h4⟩
 ·exact .inl h
 ·refine .inr ⟨b,off,cap,rfl,h1,h2,by simp [World.setCell];exact h3,fun j hj=>?_⟩
  have hc:=h4 j hj;by_cases e:b=B
  ·subst e
   rw [hb.cell] at hc;exact absurd hc (hu _ _)
  ·rw [<-hc];exact World.cell?_of_block (w:=W) (Below.heap_setCell W ⟨B,i,none⟩ u' b e)
theorem Fw (b:Bool) (v:Value) (hv:∀ n,v≠.int .i64 n):∀ (j:Nat) n,(#[.bool b,v]:Array Value)[j]? ≠ some (.int .i64 n):=by
 intro j n;match j with
 | 0=>simp
 | 1=>simp;exact hv n
 | j+2=>simp
def DA (w:World) (Post:Value->World->Prop):Ending->World->Prop:=fun e w'=>(∃ v,e=.returned v/\Post v w')/\Below w.heap.size w w'
end
section
def Gv (xs:List Int):Nat->Nat
 | 0=>0
 | k+1=>if gi xs k=0 then Gv xs k else k+1
theorem Ic {xs:List Int} {k:Nat} (h:gi xs k=0):Gv xs (k+1)=Gv xs k:=by rw [Gv,AU h]
theorem J0 {xs:List Int} {k:Nat} (h:¬ gi xs k=0):Gv xs (k+1)=k+1:=by rw [Gv,AP h]
theorem Oz (xs:List Int):∀ k,Gv xs k<=k
 | 0=>Aa _
 | k+1=>by unfold Gv;split;exact Nat.le_succ_of_le (Oz xs k);exact Aa _
def trim (xs:List Int):List Int:=xs.take (Gv xs xs.length)
theorem U0 (xs:List Int):(trim xs).length<=xs.length:=by unfold trim;rw [BB];omega
def val (b:Int):List Int->Int
 | []=>0
 | x :: xs=>x+b*val b xs
def Ew (b:Int) (xs:List Int):Prop:=∀ x∈xs,0<=x/\x<b
def Top (xs:List Int):Prop:=∀ k,xs.length=k+1->gi xs k≠0
structure Ef (b:Int) (xs:List Int) (n:Int):Prop where
 dig:Ew b xs
 top:Top xs
 val:val b xs=n
theorem Qf (b:Int) (xs ys:List Int):val b (xs++ys)=val b xs+b ^ xs.length*val b ys:=by
 induction xs with
 | nil=>simp [val]
 | cons x xs ih =>
  simp only [Cc,val,ih,CG,Cx];rw [CM,Int.add_assoc,AM (b ^ xs.length) b,AL]
theorem EA (b:Int) (xs:List Int) (y:Int):val b (xs++[y])=val b xs+y*b ^ xs.length:=by
 rw [Qf];simp only [val,CN,Cq];rw [AM]
theorem Ew.cons {b x:Int} {xs:List Int} (h:Ew b (x :: xs)):(0<=x/\x<b)/\Ew b xs :=
 ⟨h x Af,fun y hy=>h y (by simp [hy])⟩
theorem Ew.append {b:Int} {xs ys:List Int} (h:Ew b xs) (k:Ew b ys):Ew b (xs++ys):=fun x hx=>by
 rcases Bz.1 hx with h' | h'
 ·exact h x h'
 ·exact k x h'
theorem Ew.snoc {b:Int} {xs:List Int} {y:Int} (h:Ew b xs) (h0:0<=y) (h1:y<b):Ew b (xs++[y]) :=
 h.append (fun x hx=>by simp at hx;subst hx;exact ⟨h0,h1⟩)
theorem Ew.nil (b:Int):Ew b []:=fun _ h=>by cases h
theorem Ew.take {b:Int} {xs:List Int} (h:Ew b xs) (k:Nat):Ew b (xs.take k):=fun x hx=>h x (List.mem_of_mem_take hx)
theorem Ew.gi {b:Int} {xs:List Int} (h:Ew b xs) (hb:0<b) (k:Nat):0<=gi xs k/\gi xs k<b:=by
 by_cases hk:k<xs.length
 ·rw [FE hk];exact h _ (AN hk)
 ·rw [Gl Ad];omega
theorem Fj {b:Int} (hb:0<b) (k:Nat):0<b ^ k:=Int.pow_pos hb
theorem Eg {b:Int} (hb:1<b) {xs:List Int} (h:Ew b xs):0<=val b xs/\val b xs<b ^ xs.length:=by
 induction xs with
 | nil=>simp [val]
 | cons x xs ih =>
  obtain ⟨hx,hxs⟩:=h.cons;obtain ⟨i1,i2⟩:=ih hxs;have h1:0<=b*val b xs:=BZ Ad i1;have h2:b*val b xs<=b*(b ^ xs.length-1):=Cw Ad Ad;rw [CQ,CR] at h2;simp only [val,CG,Cx];rw [AM (b ^ xs.length) b];omega
def Fc (b:Int) (d:Nat->Int):Nat->Int
 | 0=>0
 | k+1=>Fc b d k+d k*b ^ k
theorem F2 {xs:List Int} {k:Nat} (h:k<xs.length):xs.take (k+1)=xs.take k++[gi xs k]:=by
 rw [FE h];exact List.take_succ_eq_append_getElem h
theorem RE (b:Int) (xs:List Int):∀ k,k<=xs.length->Fc b (gi xs) k=val b (xs.take k)
 | 0,_=>by simp [Fc,val]
 | k+1,h=>by
  rw [Fc,RE b xs k Ad,F2 Ad,EA];simp [BE (show k<=xs.length by omega)]
theorem Kk (b:Int) (d:Nat->Int) (n:Nat) (h:∀ k,n<=k->d k=0):∀ k,n<=k->Fc b d k=Fc b d n:=by
 intro k hk;induction k with
 | zero=>obtain rfl:n=0:=Ad;rfl
 | succ k ih =>
  by_cases e:n=k+1
  ·rw [e]
  ·rw [Fc,h k Ad,ih Ad];simp
theorem EC (b:Int) (xs:List Int) {n:Nat} (hn:xs.length<=n):Fc b (gi xs) n=val b xs:=by
 rw [Kk b (gi xs) xs.length (fun k hk=>Gl hk) n hn,RE b xs _ (Aa _),Cd]
theorem Lq (b:Int) (d e:Nat->Int):∀ k,Fc b (fun j=>d j+e j) k=Fc b d k+Fc b e k
 | 0=>rfl
 | k+1=>by simp only [Fc,Lq b d e k,CT];omega
theorem Lr (b:Int) (d e:Nat->Int):∀ k,Fc b (fun j=>d j-e j) k=Fc b d k-Fc b e k
 | 0=>rfl
 | k+1=>by simp only [Fc,Lr b d e k,Int.sub_mul];omega
theorem OA (b m:Int) (d:Nat->Int):∀ k,Fc b (fun j=>d j*m) k=Fc b d k*m
 | 0=>by simp [Fc]
 | k+1=>by simp only [Fc,OA b m d k,CT];rw [Int.mul_right_comm]
theorem MM (b:Int) (xs:List Int):∀ k,k<=xs.length->val b (xs.take (Gv xs k))=val b (xs.take k)
 | 0,_=>rfl
 | k+1,h=>by
  by_cases hz:gi xs k=0
  ·rw [Ic hz,MM b xs k Ad,F2 Ad,EA,hz];simp
  ·rw [J0 hz]
theorem MN (xs:List Int):∀ k,k<=xs.length->∀ j,Gv xs k=j+1->gi xs j≠0
 | 0,_,_,h=>by simp [Gv] at h
 | k+1,hk,j,h=>by
  by_cases hz:gi xs k=0
  ·rw [Ic hz] at h;exact MN xs k Ad j h
  ·rw [J0 hz] at h;obtain rfl:k=j:=by omega
   exact hz
theorem Ef.trim {b:Int} {xs:List Int} (h:Ew b xs):Ef b (trim xs) (Go.Proofs.YtioamkekjjkigaaGreatDoor.val b xs):=by
 have hle:=Oz xs xs.length;refine ⟨h.take _,fun k hk=>?_,?_⟩
 ·have hk':Gv xs xs.length=k+1:=by
   unfold Go.Proofs.YtioamkekjjkigaaGreatDoor.trim at hk;rw [BB] at hk;omega
  unfold Go.Proofs.YtioamkekjjkigaaGreatDoor.trim
  rw [Nt Ad]
  exact MN xs _ (Aa _) k hk'
 ·unfold Go.Proofs.YtioamkekjjkigaaGreatDoor.trim
  rw [MM b xs _ (Aa _),Cd]
theorem Ef.nonneg {b n:Int} (hb:1<b) {xs:List Int} (h:Ef b xs n):0<=n:=by rw [<-h.val];exact (Eg hb h.dig).1
theorem Ef.lt {b n:Int} (hb:1<b) {xs:List Int} (h:Ef b xs n):n<b ^ xs.length:=by rw [<-h.val];exact (Eg hb h.dig).2
theorem Ef.ge {b n:Int} (hb:1<b) {xs:List Int} (h:Ef b xs n) {k:Nat} (hk:xs.length=k+1):b ^ k<=n:=by
 have ht:=h.top k hk;have hg:=h.dig.gi Ad k;have e:xs=xs.take k++[gi xs k]:=by rw [<-F2 Ad,<-hk,Cd]
 have hv:=h.val;rw [e,EA,BB,BE Ad] at hv;have h0:=(Eg hb (h.dig.take k)).1;have hp:=Fj (show 0<b by omega) k;have:1*b ^ k<=gi xs k*b ^ k:=AJ Ad Ad;omega
theorem Ef.zero_iff {b n:Int} (hb:1<b) {xs:List Int} (h:Ef b xs n):xs=[]↔n=0:=by
 constructor
 ·rintro rfl;rw [<-h.val];rfl
 ·rintro rfl
  cases hx:xs.length with
  | zero=>exact Bo hx
  | succ k=>have:=h.ge hb hx;have:=Fj (show 0<b by omega) k;omega
theorem Fk {b:Int} (hb:1<b) {j k:Nat} (h:j<=k):b ^ j<=b ^ k:=by
 induction k with
 | zero=>obtain rfl:j=0:=Ad;exact CU _
 | succ k ih =>
  by_cases e:j=k+1
  ·rw [e];exact CU _
  ·have h1:=ih Ad
   have hp:=Fj (show 0<b by omega) k;have:b ^ k*1<=b ^ k*b:=Cw Ad Ad;rw [Cx];omega
theorem pow_lt {b:Int} (hb:1<b) {j k:Nat} (h:b ^ j<b ^ k):j<k:=by
 by_cases e:j<k
 ·exact e
 ·have:=Fk hb (show k<=j by omega);omega
theorem Ef.len_lt {b m n:Int} (hb:1<b) {xs ys:List Int} (h:Ef b xs m) (k:Ef b ys n) (hl:xs.length<ys.length):m<n:=by
 obtain ⟨j,hj⟩:∃ j,ys.length=j+1:=⟨ys.length-1,Ad⟩;have h1:=h.lt hb;have h2:=k.ge hb hj;have h3:=Fk hb (show xs.length<=j by omega);omega
theorem Ef.length_le {b n:Int} (hb:1<b) {xs:List Int} (h:Ef b xs n) {m:Nat} (hn:n<b ^ m):xs.length<=m:=by
 by_cases e:xs.length<=m
 ·exact e
 ·obtain ⟨j,hj⟩:∃ j,xs.length=j+1:=⟨xs.length-1,Ad⟩
  have h1:=h.ge hb hj;have h2:=Fk hb (show m<=j by omega);omega
theorem Ef.len_le {b m n:Int} (hb:1<b) {xs ys:List Int} (h:Ef b xs m) (k:Ef b ys n) (hl:m<=n):xs.length<=ys.length:=by
 by_cases e:xs.length<=ys.length
 ·exact e
 ·have:=k.len_lt hb h Ad;omega
theorem Sm (s c p v:Int) (hv:v+c*p=s) (d:Int) (q:Int) (c':Int) (he:d+c=q+10000*c'):(v+q*p)+c'*(p*10000)=s+d*p:=by
 have e:c'*(p*10000)=(10000*c')*p:=by rw [AM p,<-AL,AM c']
 have e2:d+c-q=10000*c':=by omega
 have e3:(d+c-q)*p=d*p+c*p-q*p:=by rw [Int.sub_mul,CT]
 rw [e,<-e2,e3];omega
end
section
open Go.RowKit
theorem at_any (v:Value) (xs:List Int) (i:Int) (w:World) (h:Sl w v xs) (h0:0<=i) :
  Calls Tryz.prog 125 #[v,.int .i64 i] w fun e w'=>e=.returned (.int .i64 (gi xs i.toNat))/\w=w':=by
 have hl:=h.len_le
 unfold maxLen at hl
 obtain ⟨k,rfl⟩:=CX h0
 rcases h with ⟨rfl,rfl⟩ | ⟨b,off,cap,rfl,h1,h2,h3,h4⟩
 ·go_enter Tryz.func125,Tryz.ntmps125
  go_wp2;go_ret;exact ⟨by simp [gi],rfl⟩
 ·by_cases hk:k<xs.length
  ·have hc:=h4 k hk
   clear h4;go_enter Tryz.func125,Tryz.ntmps125;go_wp2;go_ret;exact ⟨ER (by rw [Az]),rfl⟩
  ·go_enter Tryz.func125,Tryz.ntmps125
   go_wp2;go_ret;exact ⟨ER (by rw [Az,Gl Ad]),rfl⟩
theorem G6 (v:Value) (xs:List Int) (w:World) (h:Sl w v xs) :
  Calls Tryz.prog 120 #[v] w fun e w'=>(∃ v',e=.returned v'/\Sl w v' (trim xs)/\v'.ptr? = v.ptr?)/\w=w':=by
 have hl:=h.len_le
 unfold maxLen at hl
 rcases h with ⟨rfl,rfl⟩ | ⟨b,off,cap,rfl,h1,h2,h3,h4⟩
 ·go_enter Tryz.func120,Tryz.ntmps120
  go_wp2;go_loop [0] (fun s=>s=.slice none 0 0) (fun _=>0);case atStart=>rfl
  case round =>
   obtain rfl:=hrel;go_wp2;go_ret;exact ⟨⟨_,rfl,.inl ⟨rfl,rfl⟩,rfl⟩,rfl⟩
 ·go_enter Tryz.func120,Tryz.ntmps120
  go_wp2;go_loop [0] (fun s=>∃ k:Nat,s=.slice (some ⟨b,off,none⟩) k cap/\k<=xs.length/\Hid (Gv xs xs.length=Gv xs k)) (fun s=>Lp s);case atStart=>exact ⟨_,rfl,Aa _,rfl⟩
  case round =>
   obtain ⟨k,rfl,hk,hT⟩:=hrel;cases k with
   | zero =>
    go_wp2;go_ret;exact ⟨⟨_,rfl,by unfold trim;rw [hT.out];exact Sl.take 0 (AO _) h1 h2 h3 h4,rfl⟩,rfl⟩
   | succ k =>
    have hc:=h4 k Ad;by_cases hz:gi xs k=0
    ·have hz':(gi xs k==0)=true:=by simp [hz]
     go_wp2;go_round;case rel=>exact ⟨k,by rfl,Ad,hT.out.trans (Ic hz)⟩
     case measure=>simp [Lp]
    ·have hz':(gi xs k==0)=false:=by simp [hz]
     go_wp2;go_ret;refine ⟨⟨_,rfl,?_,rfl⟩,rfl⟩;have e:trim xs=xs.take (k+1):=by unfold trim;rw [hT.out,J0 hz]
     rw [e];exact Sl.take (k+1) hk h1 h2 h3 h4
theorem FJ:(Tryz.prog.info? 3).map (fun i=>(i.zero,i.size,i.bytes))=some (some (.int .i64 0),1,8):=by kernel_rfl
theorem E0 {ops:Array Oper} {rest:List Oper} {o:Oper} {a:Act} {Q:Exit->Act->World->Prop} {wr:World} {base:Nat} {v:Value} {n:Nat} {xs:List Int} (y:Int) (t:TypeId)
  (ht:Tryz.prog.underlying t=some (.slice 3)) (hgd:o.guard=none) (s x:Operand) (ho:o.op=.call { callee:=.builtin .append,args:=#[s,x],argTypes:=#[t,t] })
  (hs:a.eval s=v) (hx:a.eval x=.slice (some ⟨wr.heap.size,0,none⟩) 1 1) (hown:wr.ownsRow base 3 1 v n (xs.map (Value.int .i64))) (hn:n+1<=1000000000000) (hbase:base<=wr.heap.size)
  (h:∀ g cap w',w'.ownsRow base 3 1 (.slice (some ⟨g,0,none⟩) (n+1) cap) (n+1) ((xs++[y]).map (Value.int .i64))->(wr.alloc (.cells #[.int .i64 y] 3)).grownBy w' v.ownBlock->Below base wr w'->wpList Tryz.prog ops Q rest (a.put o.dst (.slice (some ⟨g,0,none⟩) (n+1) cap)) w') :
  wpList Tryz.prog ops Q (o :: rest) a (wr.alloc (.cells #[.int .i64 y] 3)):=by
 obtain ⟨i0,hi,hz0,hz1,hz2⟩:=info_parts FJ
 refine wpList_append_own _ hgd s x t ho base 3 i0 (.int .i64 0) 1 8 ht hi hz0 hz1 hz2 rfl Ae v n _ hs (hown.alloc _) ⟨wr.heap.size,0,none⟩ 1 1 [.int .i64 y] hx rfl (by intro t u ht;match t,ht with | 0,ht=>simp at ht;subst ht;simp [Addr.add]) (by intro u hu;simp at hu;subst hu;rfl) (by unfold maxLen;omega) Ad (by simp;omega) ?_
 intro v' w' hown' hgrow hnil
 rcases hown'.2 with ⟨_,h0⟩ | ⟨g,cap,cur,rfl,hg⟩
 ·omega
 ·refine h g cap w' (by rw [Bg];exact hown') hgrow ?_
  refine ((Below.refl base wr).alloc hbase _).grown hgrow (by simp;omega) (fun k hk=>?_);exact (hown.lt k hk).1
def nz (v:Value):Nat:=if intOf v=0 then 0 else 1
theorem nz_le (v:Value):nz v<=1:=by unfold nz;split <;> omega
theorem Lb {a b:Nat} {u v:Value} (h:a<b):2*a+nz u<2*b+nz v:=by have:=nz_le u;omega
theorem J1 {d:Nat->Int} {k:Nat} {cc q c':Int} {zs:List Int} (hd:-9999<=d k/\d k<=99980001) (hc1:-1<=cc) (hc2:cc<=9999) (hlen:zs.length=k) (hdig:Ew 10000 zs)
  (hsum:Hid (val 10000 zs+cc*10000 ^ k=Fc 10000 d k)) (hq0:0<=q) (hq1:q<10000) (he:d k+cc=q+10000*c') :
  -1<=c'/\c'<=9999/\(zs++[q]).length=k+1/\Ew 10000 (zs++[q])/\Hid (val 10000 (zs++[q])+c'*10000 ^ (k+1)=Fc 10000 d (k+1)):=by
 refine ⟨Ad,Ad,by simp [hlen],hdig.snoc hq0 hq1,?_⟩
 show val 10000 (zs++[q])+c'*10000 ^ (k+1)=Fc 10000 d (k+1)
 rw [EA,hlen,Fc,Cx]
 exact Sm _ _ _ _ hsum.out _ _ _ he
theorem Qg {d:Nat->Int} {n k:Nat} {cc:Int} {zs:List Int} (hd0:∀ k,n<=k->d k=0) (hT:0<=Fc 10000 d n) (hlen:zs.length=k) (hdig:Ew 10000 zs)
  (hsum:Hid (val 10000 zs+cc*10000 ^ k=Fc 10000 d k)) (hk:n<=k):0<=cc:=by
 have h:=hsum.out
 rw [Kk 10000 d n hd0 k hk] at h
 have hb:=(Eg (show (1:Int)<10000 by decide) hdig).2
 rw [hlen] at hb
 by_cases hc:0<=cc
 ·exact hc
 ·have:cc*10000 ^ k<=(-1)*10000 ^ k:=AJ Ad (CY (Fj Ae k))
  omega
theorem U1 {d:Nat->Int} {n k:Nat} {cc:Int} {zs:List Int} (hd0:∀ k,n<=k->d k=0) (hsum:Hid (val 10000 zs+cc*10000 ^ k=Fc 10000 d k)) (hk:n<=k) (hc:cc=0):val 10000 zs=Fc 10000 d n:=by
 have h:=hsum.out;rw [Kk 10000 d n hd0 k hk,hc] at h;simpa using h
theorem Ls (n:Nat) (f:Nat) (cap:Array Value) (d:Nat->Int) (w:World) (hn:n<=1000000)
  (hd:∀ k,-9999<=d k/\d k<=99980001) (hd0:∀ k,n<=k->d k=0) (hT:0<=Fc 10000 d n)
  (hE:∀ (args:Array Value) (w:World),(callFunc f args).run Tryz.prog w=.ok (.enter f args) w)
  (hF:∀ (W:World) (i:Nat),Below w.heap.size w W->Calls Tryz.prog f (#[.int .i64 i]++cap) W fun e W'=>e=.returned (.int .i64 (d i))/\Below W.heap.size W W') :
  Calls Tryz.prog 123 #[.int .i64 n,.int .i64 0,.func (.func f) #[] cap] w
   (DA w fun v w'=>∃ zs,Sl w' v zs/\Ew 10000 zs/\val 10000 zs=Fc 10000 d n/\FG w v):=by
 obtain ⟨i0,hi,hz0,hz1,hz2⟩:=info_parts FJ
 go_enter Tryz.func123,Tryz.ntmps123
 go_wp2_with (at_make;refine wpList_make_own _ rfl _ _ 106 rfl w.heap.size 3 i0 (.int .i64 0) 1 Tryz.underlying106 hi hz0 hz1 _ _ _ (n+1) rfl rfl Ad (by rw [hz2];omega) (by unfold maxLen;omega) (Aa _) ?_;intro w0 hown0 hgrow0)
 have hb0:Below w.heap.size w w0:=(Below.refl _ _).grown hgrow0 (Aa _) (fun k h=>by cases h)
 go_loopw [1,7,8] (fun c out i wr=>∃ (k:Nat) (cc:Int) (zs:List Int),i=.int .i64 k/\c=.int .i64 cc/\-1<=cc/\cc<=9999/\k<=n+1/\zs.length=k/\Ew 10000 zs /\
   Hid (val 10000 zs+cc*10000 ^ k=Fc 10000 d k)/\(n<k->Hid (cc=0))/\wr.ownsRow w.heap.size 3 1 out k (zs.map (Value.int .i64))/\Below w.heap.size w wr)
  (fun c _ i _=>2*(n+2-(intOf i).toNat)+nz c)
 case atStart=>exact ⟨0,0,[],rfl,rfl,Ad,Ad,Ad,rfl,Ew.nil _,(rfl:val 10000 []+0*10000 ^ 0=0),fun h=>by omega,hown0,hb0⟩
 case round =>
  obtain ⟨k,cc,zs,rfl,rfl,hc1,hc2,hk,hlen,hdig,hsum,hz,hown,hnx⟩:=hrel;have hdk:=hd k;have hcarry:=Qg hd0 hT hlen hdig hsum;by_cases hkn:k<n
  ·by_cases hlt:d k+cc<0
   ·go_wp2_with fail
    refine (hF wr k hnx).mono ?_;rintro e W' ⟨rfl,hb⟩;have hown:=E8 hown hb;go_wp2_with (at_builtin;refine E0 (d k+cc+10000) 106 Tryz.underlying106 rfl _ _ rfl rfl rfl hown Ad (by have:=hnx.size;have:=hb.size;omega) ?_;intro g cap' w1 hown1 _ hb1);obtain ⟨a1,a2,a3,a4,a5⟩:=J1 (q:=d k+cc+10000) (c':=-1) (hd k) hc1 hc2 hlen hdig hsum Ad Ad Ad;go_roundw;case rel=>exact ⟨k+1,-1,zs++[d k+cc+10000],by go_num,rfl,a1,a2,Ad,a3,a4,a5,fun h=>by omega,hown1,(hnx.trans (hb.mono hnx.size)).trans hb1⟩
    case measure=>exact Lb (by simp [intOf];omega)
   ·by_cases hge:10000<=d k+cc
    ·go_wp2_with fail
     refine (hF wr k hnx).mono ?_;rintro e W' ⟨rfl,hb⟩;have hown:=E8 hown hb;go_wp2_with (at_builtin;refine E0 ((d k+cc) % 10000) 106 Tryz.underlying106 rfl _ _ rfl rfl rfl hown Ad (by have:=hnx.size;have:=hb.size;omega) ?_;intro g cap' w1 hown1 _ hb1);obtain ⟨a1,a2,a3,a4,a5⟩:=J1 (q:=(d k+cc) % 10000) (c':=(d k+cc) / 10000) (hd k) hc1 hc2 hlen hdig hsum Ad Ad Ad;go_roundw;case rel=>exact ⟨k+1,(d k+cc) / 10000,zs++[(d k+cc) % 10000],by go_num,rfl,a1,a2,Ad,a3,a4,a5,fun h=>by omega,hown1,(hnx.trans (hb.mono hnx.size)).trans hb1⟩
     case measure=>exact Lb (by simp [intOf];omega)
    ·go_wp2_with fail
     refine (hF wr k hnx).mono ?_;rintro e W' ⟨rfl,hb⟩;have hown:=E8 hown hb;go_wp2_with (at_builtin;refine E0 (d k+cc) 106 Tryz.underlying106 rfl _ _ rfl rfl rfl hown Ad (by have:=hnx.size;have:=hb.size;omega) ?_;intro g cap' w1 hown1 _ hb1);obtain ⟨a1,a2,a3,a4,a5⟩:=J1 (q:=d k+cc) (c':=0) (hd k) hc1 hc2 hlen hdig hsum Ad Ad Ad;go_roundw;case rel=>exact ⟨k+1,0,zs++[d k+cc],by go_num,rfl,a1,a2,Ad,a3,a4,a5,fun _=>rfl,hown1,(hnx.trans (hb.mono hnx.size)).trans hb1⟩
     case measure=>exact Lb (by simp [intOf];omega)
  ·have hcz:=hcarry Ad
   by_cases hcc:cc=0
   ·have hcb:(cc != 0)=false:=by rw [hcc];rfl
    have hfin:=A8 (U1 hd0 hsum Ad hcc);clear hcc;go_wp2_with fail;go_ret;exact ⟨⟨_,rfl,zs,Sl.of_own hown,hdig,hfin.out,FG.of_own hown (Aa _)⟩,hnx⟩
   ·have hcb:(cc != 0)=true:=by simp [hcc]
    have hkn':k<=n:=by
     by_cases h:n<k
     ·exact absurd (hz h).out hcc
     ·omega
    have hd00:d k=0:=hd0 k Ad;have hnot:¬ 10000<=d k+cc:=by omega
    have hnot2:¬ d k+cc<0:=by omega
    clear hd00;go_wp2_with fail;refine (hF wr k hnx).mono ?_;rintro e W' ⟨rfl,hb⟩;have hown:=E8 hown hb;go_wp2_with (at_builtin;refine E0 (d k+cc) 106 Tryz.underlying106 rfl _ _ rfl rfl rfl hown Ad (by have:=hnx.size;have:=hb.size;omega) ?_;intro g cap' w1 hown1 _ hb1);obtain ⟨a1,a2,a3,a4,a5⟩:=J1 (q:=d k+cc) (c':=0) (hd k) hc1 hc2 hlen hdig hsum Ad Ad Ad;go_roundw;case rel=>exact ⟨k+1,0,zs++[d k+cc],by go_num,rfl,a1,a2,Ad,a3,a4,a5,fun _=>rfl,hown1,(hnx.trans (hb.mono hnx.size)).trans hb1⟩
    case measure=>exact Lb (by simp [intOf];omega)
theorem Lt (v:Value) (xs:List Int) (k n:Nat) (w:World) (h:Sl w v xs) :
  Calls Tryz.prog 125 #[v,.int .i64 k] (w.drewN n) fun e w''=>e=.returned (.int .i64 (gi xs k))/\∃ m,w''=w.drewN m :=
 (at_any v xs k _ (h.drewN n) Ad).mono fun _ _ ⟨he,hw⟩=>⟨by rw [he,Az],n,hw.symm⟩
theorem Sn (k p q:Nat) (v u:Value) (xs ys:List Int) (w:World) (hp:w.cell? ⟨p,0,none⟩=some v) (hq:w.cell? ⟨q,0,none⟩=some u) (hv:Sl w v xs) (hu:Sl w u ys) (hx:Ew 10000 xs) (hy:Ew 10000 ys) :
  Calls Tryz.prog 124 #[.int .i64 k,.pointer (some ⟨p,0,none⟩),.pointer (some ⟨q,0,none⟩)] w fun e w'=>e=.returned (.int .i64 (gi xs k+gi ys k))/\Below w.heap.size w w':=by
 have bx:=hx.gi Ae k
 have bY:=hy.gi Ae k
 have e1:IntKind.i64.wrap (gi xs k+gi ys k)=gi xs k+gi ys k:=BT _ Ad
 go_enter Tryz.func124,Tryz.ntmps124
 go_wp2
 go_quiet ((first | (go_at_call 125;exact Lt _ _ _ _ _ (by assumption))))
 go_wp2
 go_ret
 exact ⟨ER rfl,Dq _ _⟩
theorem Qh (k p q:Nat) (v u:Value) (xs ys:List Int) (w:World) (hp:w.cell? ⟨p,0,none⟩=some v) (hq:w.cell? ⟨q,0,none⟩=some u) (hv:Sl w v xs) (hu:Sl w u ys) (hx:Ew 10000 xs) (hy:Ew 10000 ys) :
  Calls Tryz.prog 126 #[.int .i64 k,.pointer (some ⟨p,0,none⟩),.pointer (some ⟨q,0,none⟩)] w fun e w'=>e=.returned (.int .i64 (gi xs k-gi ys k))/\Below w.heap.size w w':=by
 have bx:=hx.gi Ae k
 have bY:=hy.gi Ae k
 have e1:IntKind.i64.wrap (gi xs k-gi ys k)=gi xs k-gi ys k:=BT _ Ad
 go_enter Tryz.func126,Tryz.ntmps126
 go_wp2
 go_quiet ((first | (go_at_call 125;exact Lt _ _ _ _ _ (by assumption))))
 go_wp2
 go_ret
 exact ⟨ER rfl,Dq _ _⟩
theorem by1_any (k p q:Nat) (v:Value) (n:Int) (xs:List Int) (w:World) (hp:w.cell? ⟨p,0,none⟩=some v) (hq:w.cell? ⟨q,0,none⟩=some (.int .i64 n)) (hv:Sl w v xs) (hx:Ew 10000 xs) (hn0:0<=n) (hn1:n<=9999) :
  Calls Tryz.prog 142 #[.int .i64 k,.pointer (some ⟨p,0,none⟩),.pointer (some ⟨q,0,none⟩)] w fun e w'=>e=.returned (.int .i64 (gi xs k*n))/\Below w.heap.size w w':=by
 have bx:=hx.gi Ae k
 have b1:0<=gi xs k*n:=BZ bx.1 hn0
 have b2:gi xs k*n<=9999*9999:=AI Ad hn1 hn0 Ae
 have e1:IntKind.i64.wrap (gi xs k*n)=gi xs k*n:=BT _ Ad
 go_enter Tryz.func142,Tryz.ntmps142
 go_wp2
 go_quiet ((first | (go_at_call 125;exact Lt _ _ _ _ _ (by assumption))))
 go_wp2
 go_ret
 exact ⟨ER rfl,Dq _ _⟩
theorem So (n p q:Nat) (v u:Value) (xs ys:List Int) (w:World) (hp:w.cell? ⟨p,0,none⟩=some v) (hq:w.cell? ⟨q,0,none⟩=some u) (lp:p<w.heap.size) (lq:q<w.heap.size) (hv:Sl w v xs) (hu:Sl w u ys) (hx:Ew 10000 xs) (hy:Ew 10000 ys)
  (h1:xs.length<=n) (h2:ys.length<=n) (hn:n<=1000000) :
  Calls Tryz.prog 123 #[.int .i64 n,.int .i64 0,.func (.func 124) #[] #[.pointer (some ⟨p,0,none⟩),.pointer (some ⟨q,0,none⟩)]] w
   (DA w fun r w'=>∃ zs,Sl w' r zs/\Ew 10000 zs/\val 10000 zs=val 10000 xs+val 10000 ys/\FG w r):=by
 have hs:Fc 10000 (fun k=>gi xs k+gi ys k) n=val 10000 xs+val 10000 ys:=by
  rw [Lq,EC _ _ h1,EC _ _ h2]
 have b1:=(Eg (show (1:Int)<10000 by decide) hx).1
 have b2:=(Eg (show (1:Int)<10000 by decide) hy).1
 rw [<-hs]
 exact Ls n 124 _ (fun k=>gi xs k+gi ys k) w hn (fun k=>by have:=hx.gi Ae k;have:=hy.gi Ae k;constructor <;> omega) (fun k hk=>by rw [Gl Ad,Gl Ad];rfl) Ad
  (Go.Proofs.enters_of Tryz.func124 Ab rfl)
  (fun W i hb=>Sn i p q v u xs ys W ((hb.cell (p:=⟨p,0,none⟩) lp).trans hp) ((hb.cell (p:=⟨q,0,none⟩) lq).trans hq) (hv.below hb) (hu.below hb) hx hy)
theorem JK (v u:Value) (xs ys:List Int) (w:World) (hv:Sl w v xs) (hu:Sl w u ys) (hx:Ew 10000 xs) (hy:Ew 10000 ys) (hlx:xs.length<=100000) (hly:ys.length<=100000) :
  Calls Tryz.prog 92 #[v,u] w (DA w fun r w'=>∃ zs,Sl w' r zs/\Ef 10000 zs (val 10000 xs+val 10000 ys)/\FG w r):=by
 have hb0:Below w.heap.size w ((w.alloc (.cells #[v] 106)).alloc (.cells #[u] 106)):=((Below.refl _ _).alloc (Aa _) _).alloc Af _
 have hv0:=hv.below hb0
 have hu0:=hu.below hb0
 obtain ⟨a1,c1,rfl⟩:=hv.shape
 obtain ⟨a2,c2,rfl⟩:=hu.shape
 go_enter Tryz.func92,Tryz.ntmps92
 go_wp2_with fail
 all_goals
  refine (So _ _ _ _ _ xs ys _ Af Af (by simp;omega) Af hv0 hu0 hx hy Ad Ad Ad).mono ?_
  rintro e w1 ⟨⟨r,rfl,zs,hz,hd,hval,hfr⟩,hb⟩
  go_wp2_with (go_at_call 120;refine (G6 _ zs _ hz).mono ?_;rintro e w2 ⟨⟨r2,rfl,hz2,hp2⟩,rfl⟩)
  go_ret
  exact ⟨⟨_,rfl,_,hz2,by rw [<-hval];exact Ef.trim hd,(hfr.of_ptr hp2).mono hb0.size⟩,hb0.trans (hb.mono hb0.size)⟩
theorem Qi (p q:Nat) (v u:Value) (xs ys:List Int) (w:World) (hp:w.cell? ⟨p,0,none⟩=some v) (hq:w.cell? ⟨q,0,none⟩=some u) (lp:p<w.heap.size) (lq:q<w.heap.size) (hv:Sl w v xs) (hu:Sl w u ys) (hx:Ew 10000 xs) (hy:Ew 10000 ys)
  (h2:ys.length<=xs.length) (hn:xs.length<=1000000) (hle:val 10000 ys<=val 10000 xs) :
  Calls Tryz.prog 123 #[.int .i64 xs.length,.int .i64 0,.func (.func 126) #[] #[.pointer (some ⟨p,0,none⟩),.pointer (some ⟨q,0,none⟩)]] w
   (DA w fun r w'=>∃ zs,Sl w' r zs/\Ew 10000 zs/\val 10000 zs=val 10000 xs-val 10000 ys/\FG w r):=by
 have hs:Fc 10000 (fun k=>gi xs k-gi ys k) xs.length=val 10000 xs-val 10000 ys:=by
  rw [Lr,EC _ _ (Aa _),EC _ _ h2]
 rw [<-hs]
 exact Ls xs.length 126 _ (fun k=>gi xs k-gi ys k) w hn (fun k=>by have:=hx.gi Ae k;have:=hy.gi Ae k;constructor <;> omega) (fun k hk=>by rw [Gl Ad,Gl Ad];rfl) Ad
  (Go.Proofs.enters_of Tryz.func126 Ab rfl)
  (fun W i hb=>Qh i p q v u xs ys W ((hb.cell (p:=⟨p,0,none⟩) lp).trans hp) ((hb.cell (p:=⟨q,0,none⟩) lq).trans hq) (hv.below hb) (hu.below hb) hx hy)
theorem Hs (v u:Value) (xs ys:List Int) (w:World) (hv:Sl w v xs) (hu:Sl w u ys) (hx:Ew 10000 xs) (hy:Ew 10000 ys) (hlx:xs.length<=100000) (hly:ys.length<=xs.length) (hle:val 10000 ys<=val 10000 xs) :
  Calls Tryz.prog 94 #[v,u] w (DA w fun r w'=>∃ zs,Sl w' r zs/\Ef 10000 zs (val 10000 xs-val 10000 ys)/\FG w r):=by
 have hb0:Below w.heap.size w ((w.alloc (.cells #[v] 106)).alloc (.cells #[u] 106)):=((Below.refl _ _).alloc (Aa _) _).alloc Af _
 have hv0:=hv.below hb0
 have hu0:=hu.below hb0
 obtain ⟨a1,c1,rfl⟩:=hv.shape
 obtain ⟨a2,c2,rfl⟩:=hu.shape
 go_enter Tryz.func94,Tryz.ntmps94
 go_wp2_with fail
 refine (Qi _ _ _ _ xs ys _ Af Af (by simp;omega) Af hv0 hu0 hx hy hly Ad hle).mono ?_
 rintro e w1 ⟨⟨r,rfl,zs,hz,hd,hval,hfr⟩,hb⟩
 go_wp2_with (go_at_call 120;refine (G6 _ zs _ hz).mono ?_;rintro e w2 ⟨⟨r2,rfl,hz2,hp2⟩,rfl⟩)
 go_ret
 exact ⟨⟨_,rfl,_,hz2,by rw [<-hval];exact Ef.trim hd,(hfr.of_ptr hp2).mono hb0.size⟩,hb0.trans (hb.mono hb0.size)⟩
theorem by_fold (p q:Nat) (v:Value) (n:Int) (xs:List Int) (w:World) (hp:w.cell? ⟨p,0,none⟩=some v) (hq:w.cell? ⟨q,0,none⟩=some (.int .i64 n)) (lp:p<w.heap.size) (lq:q<w.heap.size) (hv:Sl w v xs) (hx:Ew 10000 xs)
  (hl:xs.length<=1000000) (hn0:0<=n) (hn1:n<=9999) :
  Calls Tryz.prog 123 #[.int .i64 xs.length,.int .i64 0,.func (.func 142) #[] #[.pointer (some ⟨p,0,none⟩),.pointer (some ⟨q,0,none⟩)]] w
   (DA w fun r w'=>∃ zs,Sl w' r zs/\Ew 10000 zs/\val 10000 zs=val 10000 xs*n/\FG w r):=by
 have hs:Fc 10000 (fun k=>gi xs k*n) xs.length=val 10000 xs*n:=by
  rw [OA,EC _ _ (Aa _)]
 have h0:=BZ (Eg (show (1:Int)<10000 by decide) hx).1 hn0
 rw [<-hs]
 exact Ls xs.length 142 _ (fun k=>gi xs k*n) w hl
  (fun k=>by
   have bx:=hx.gi Ae k;have b1:0<=gi xs k*n:=BZ bx.1 hn0;have b2:gi xs k*n<=9999*9999:=AI Ad hn1 hn0 Ae;constructor <;> omega)
  (fun k hk=>by rw [Gl Ad,Int.zero_mul]) Ad
  (Go.Proofs.enters_of Tryz.func142 Ab rfl)
  (fun W i hb=>by1_any i p q v n xs W ((hb.cell (p:=⟨p,0,none⟩) lp).trans hp) ((hb.cell (p:=⟨q,0,none⟩) lq).trans hq) (hv.below hb) hx hn0 hn1)
theorem Lu (v:Value) (n:Int) (xs:List Int) (w:World) (hv:Sl w v xs) (hx:Ew 10000 xs) (hlx:xs.length<=100000) (hn0:0<=n) (hn1:n<=9999) :
  Calls Tryz.prog 116 #[v,.int .i64 n] w (DA w fun r w'=>∃ zs,Sl w' r zs/\Ef 10000 zs (val 10000 xs*n)/\FG w r):=by
 have hb0:Below w.heap.size w ((w.alloc (.cells #[v] 106)).alloc (.cells #[.int .i64 n] 3)):=((Below.refl _ _).alloc (Aa _) _).alloc Af _
 have hv0:=hv.below hb0
 obtain ⟨a1,c1,rfl⟩:=hv.shape
 go_enter Tryz.func116,Tryz.ntmps116
 go_wp2_with fail
 refine (by_fold _ _ _ n xs _ Af Af (by simp;omega) Af hv0 hx Ad hn0 hn1).mono ?_
 rintro e w1 ⟨⟨r,rfl,zs,hz,hd,hval,hfr⟩,hb⟩
 go_wp2_with (go_at_call 120;refine (G6 _ zs _ hz).mono ?_;rintro e w2 ⟨⟨r2,rfl,hz2,hp2⟩,rfl⟩)
 go_ret
 exact ⟨⟨_,rfl,_,hz2,by rw [<-hval];exact Ef.trim hd,(hfr.of_ptr hp2).mono hb0.size⟩,hb0.trans (hb.mono hb0.size)⟩
end
section
open Go.RowKit Go.Shelf
attribute [local go_sem] Oper.semAt_some
def DY (n:Nat):Nat->List (Fin n)
 | 0=>[]
 | k+1=>if h:k<n then DY n k++[⟨n-1-k,Ad⟩] else DY n k
theorem F3 {n k:Nat} (h:k<n):DY n (k+1)=DY n k++[⟨n-1-k,Ad⟩]:=by rw [DY,dif_pos h]
theorem JL (n:Nat):∀ k,k<=n->(DY n k).length=k
 | 0,_=>rfl
 | k+1,h=>by rw [F3 Ad,Ci,JL n k Ad];rfl
def Jr (T:List Nat) (A B:World):Prop:=∀ k∈T,B.heap[k]? = A.heap[k]?
theorem Jr.trans {T:List Nat} {A B C:World} (h:Jr T A B) (k:Jr T B C):Jr T A C:=fun i hi=>(k i hi).trans (h i hi)
theorem Jr.cell {T:List Nat} {A B:World} (h:Jr T A B) {p:Addr} (hp:p.block∈T):B.cell? p=A.cell? p:=World.cell?_of_block (w:=A) (h _ hp)
theorem Jr.putObj {T:List Nat} {w:World} (hT:∀ k∈T,k<w.heap.size) (W:World) (l:Nat) (o o':Obj) (hl:w.heap.size<=l) (_:W.heap[l]? = some o) (_:o.isCells=false) (_:o.isWalk=false):Jr T W (W.putObj l o') :=
 fun k hk=>World.putObj_heap_other (by have:=hT k hk;omega)
theorem U2 (F:Fence) (n:Nat) (h7:F.fn 141) (hro:F.round=none) (hn:1<=n) (l Bs b off cap:Nat) (T:List Nat) (xs:List Int) (hreach:xs.length<=maxLen) (hb:b∈T) (J Jx:List (Fin xs.length)->World->Prop)
  (hY:∀ pre x W,J pre W->pre.length<xs.length->YieldAt F (n-1) Tryz.prog l #[.int .i64 (x.1:Int),.int .i64 (gi xs x.1)] W fun e W' =>
   (e=.returned (.bool true)/\J (pre++[x]) W'/\Jr T W W')∨(e=.returned (.bool false)/\Jx (pre++[x]) W'))
  (W:World) (hBs:W.cell? ⟨Bs,0,none⟩=some (.slice (some ⟨b,off,none⟩) xs.length cap)) (hlt:Bs∈T) (hc:∀ j,j<xs.length->W.cell? ⟨b,off+j,none⟩=some (.int .i64 (gi xs j))) (h0:J [] W) :
  CallsIn F n Tryz.prog 141 #[.func (.yield l) #[] #[],.pointer (some ⟨Bs,0,none⟩)] W fun e W'=>(∃ v,e=.returned v) /\
   ((∃ ys,ys=DY xs.length xs.length/\J ys W')∨(∃ pre,(∃ k,k<=xs.length/\pre=DY xs.length k)/\Jx pre W')):=by
 unfold maxLen at hreach
 refine callsIn_of_wp Tryz.func141 rfl h7 ?_ hro
 simp only [Tryz.ntmps141,BH,CG,CZ,Nat.reduceAdd,Nat.reduceSub,D3,D4,D5,D6,BY,Cc]
 gi_wp2
 gi_loopw [3] (fun i wr=>∃ (r:Nat) (q:Int),r<=xs.length/\i=.int .i64 q/\Hid (q=(r:Int)-1)/\J (DY xs.length (xs.length-r)) wr/\Jr T W wr)
  (fun i _=>(intOf i+1).toNat)
 case atStart=>exact ⟨xs.length,_,Aa _,rfl,rfl,by rw [Nat.sub_self];exact h0,fun _ _=>rfl⟩
 case round =>
  obtain ⟨r,q,hk,rfl,hq,hJs,hnx⟩:=hrel;cases r with
  | zero =>
   obtain rfl:q=-1:=by rw [hq.out];rfl
   gi_wp2;go_end0;exact ⟨⟨_,rfl⟩,.inl ⟨_,rfl,hJs⟩⟩
  | succ j =>
   obtain rfl:q=(j:Int):=by rw [hq.out];omega
   clear hq;have hcx:wr.cell? ⟨b,off+j,none⟩=some (.int .i64 (gi xs j)):=(hnx.cell (p:=⟨b,off+j,none⟩) hb).trans (hc j Ad);have hBx:=(hnx.cell (p:=⟨Bs,0,none⟩) hlt).trans hBs;have hds:DY xs.length (xs.length-j)=DY xs.length (xs.length-(j+1))++[⟨j,Ad⟩]:=by
    have e:xs.length-j=(xs.length-(j+1))+1:=by omega
    rw [e,F3 Ad];congr 2;exact Fin.ext (by simp;omega)
   have Hds:=A8 hds;clear hds;obtain ⟨fn,tmps,assign,body,hy,hR⟩:=hY _ ⟨j,Ad⟩ wr hJs (by rw [JL _ _ Ad];omega);dsimp only at hy;gi_wp2;refine hR.mono ?_;rintro e W3 (⟨rfl,hJ3,hk3⟩ | ⟨rfl,hJx3⟩)
   ·gi_wp2
    go_roundw;case rel=>exact ⟨j,_,Ad,rfl,by rfl,by rw [Hds.out];exact hJ3,hnx.trans hk3⟩
    case measure=>simp [intOf]
   ·gi_wp2
    refine bodyPost_ret (results_none rfl _ _ _) rfl ?_;exact ⟨⟨_,rfl⟩,.inr ⟨_,⟨xs.length-j,Ad,Hds.out.symm⟩,hJx3⟩⟩
theorem Nu (F:Fence) (n:Nat) (h7:F.fn 141) (hro:F.round=none) (l Bs:Nat) {α:Type} (J:List α->World->Prop) (W:World) (hBs:W.cell? ⟨Bs,0,none⟩=some (.slice none 0 0)) (h0:J [] W) :
  CallsIn F n Tryz.prog 141 #[.func (.yield l) #[] #[],.pointer (some ⟨Bs,0,none⟩)] W fun e W'=>(∃ v,e=.returned v)/\J [] W':=by
 refine callsIn_of_wp Tryz.func141 rfl h7 ?_ hro
 simp only [Tryz.ntmps141,BH,CG,CZ,Nat.reduceAdd,Nat.reduceSub,D3,D4,D5,D6,BY,Cc]
 gi_wp2
 gi_loopw [3] (fun i wr=>i=.int .i64 (-1)/\J [] wr) (fun _ _=>0)
 case atStart=>exact ⟨rfl,h0⟩
 case round =>
  obtain ⟨rfl,hJs⟩:=hrel;gi_wp2;go_end0;exact ⟨⟨_,rfl⟩,hJs⟩
theorem Lc (F:Fence) (n:Nat) (h5:F.fn 115) (hro:F.round=none) (v:Value) (w:World) (hv:∃ a len cap,v=.slice a len cap) :
  CallsIn F n Tryz.prog 115 #[v] w fun e w'=>e=.returned (.func (.func 141) #[] #[.pointer (some ⟨w.heap.size,0,none⟩)])/\w.alloc (.cells #[v] 106)=w':=by
 obtain ⟨a,len,cap,rfl⟩:=hv
 refine callsIn_of_wp Tryz.func115 rfl h5 ?_ hro
 simp only [Tryz.ntmps115,BH,CG,CZ,Nat.reduceAdd,Nat.reduceSub,D3,D4,D5,D6,BY,Cc]
 gi_wp2
 go_ret
 exact ⟨rfl,rfl⟩
theorem Qj (F:Fence) (n:Nat) (h7:F.fn 141) (hro:F.round=none) (hn:1<=n) (Bs:Nat) (T:List Nat) (sv:Value) (xs:List Int) (w:World) (hBs:Bs∈T) (hlt:Bs<w.heap.size)
  (hc:w.cell? ⟨Bs,0,none⟩=some sv) (hI:Sl w sv xs) (hsv:∀ b o,sv.ptr? = some (b,o)->b∈T) :
  SeqStopsK F n Tryz.prog 141 #[.pointer (some ⟨Bs,0,none⟩)] (fun x:Fin xs.length=>#[Value.int .i64 (x.1:Int),Value.int .i64 (gi xs x.1)]) (Jr T) (fun ys=>ys=DY xs.length xs.length) (fun pre=>∃ k,k<=xs.length/\pre=DY xs.length k) xs.length w:=fun l J Jx W hW _ _ hY h0=>by
 have hc':=(hW.cell (p:=⟨Bs,0,none⟩) hlt).trans hc
 rcases hI.below hW with ⟨rfl,rfl⟩ | ⟨b,off,cap,rfl,h1,h2,h3,h4⟩
 ·exact (Nu F n h7 hro l Bs J W hc' h0).mono fun e W' ⟨he,hj⟩=>⟨he,.inl ⟨_,rfl,hj⟩⟩
 ·exact U2 F n h7 hro hn l Bs b off cap T xs (Bc h1 h2) (hsv b off rfl) J Jx hY W hc' hBs h4 h0
end
section
open Go.RowKit Go.Shelf
theorem Es (b off j:Nat):(⟨b,off,none⟩:Addr).add j=⟨b,off+j,none⟩:=by unfold Addr.add;split <;> simp_all
theorem U3 (xs:List Int):∀ u∈xs.map (Value.int .i64),u.oneCell'=true:=by
 intro u hu;obtain ⟨x,_,rfl⟩:=AV.1 hu;rfl
theorem Sl.news {w:World} {b off:Nat} {xs:List Int} (h4:∀ j,j<xs.length->w.cell? ⟨b,off+j,none⟩=some (.int .i64 (gi xs j))):∀ j u,(xs.map (Value.int .i64))[j]? = some u->w.cell? ((⟨b,off,none⟩:Addr).add j)=some u:=by
 intro j u hu;rw [Es];rw [AQ] at hu;by_cases hj:j<xs.length
 ·rw [Ax hj] at hu
  cases hu;rw [h4 j hj,FE hj]
 ·rw [BX Ad] at hu;cases hu
theorem JM (w:World) (n:Int):(w.alloc (.cells #[.int .i64 n] 3)).ownsRow w.heap.size 3 1 (.slice (some ⟨w.heap.size,0,none⟩) 1 1) 1 ([n].map (Value.int .i64)) :=
 ⟨rfl,.inr ⟨w.heap.size,1,#[.int .i64 n],rfl,Aa _,World.alloc_heap_new w _,Aa _,by unfold maxLen;omega,rfl,rfl⟩⟩
theorem Ji (n:Nat):(madeCells #[.int .i64 0] (n*1)).toList=(List.replicate n (0:Int)).map (Value.int .i64):=by
 apply List.ext_getElem
 ·simp [madeCells]
 ·intro i h1 h2
  simp [madeCells,Nat.mod_one]
theorem Mu {F:Fence} {m:Nat} {w:World} {ops:Array Oper} {rest:List Oper} {o:Oper} {a:Act} {Q:Exit->Act->World->Prop} (t:TypeId) (ht:Tryz.prog.underlying t=some (.slice 3)) (hg:o.guard=none) (l c:Operand) (hop:o.op=Op.makeSlice t l c)
  (kl kc:IntKind) (n:Nat) (hl:a.eval l=.int kl n) (hc:a.eval c=.int kc n) (hn:n<=1000000)
  (hK:∀ w',w'.ownsRow w.heap.size 3 1 (.slice (some ⟨w.heap.size,0,none⟩) n n) n ((List.replicate n (0:Int)).map (Value.int .i64))->Below w.heap.size w w'->wpListIn F m Tryz.prog ops Q rest (a.put o.dst (.slice (some ⟨w.heap.size,0,none⟩) n n)) w') :
  wpListIn F m Tryz.prog ops Q (o :: rest) a w:=by
 obtain ⟨i0,hi,hz0,hz1,hz2⟩:=info_parts FJ
 refine wpListIn_plain hg fun K hK'=>?_
 obtain ⟨w',hrun,r1,r2⟩:=run_make_full (P:=Tryz.prog) w w.heap.size t 3 i0 (.int .i64 0) 1 ht hi hz0 hz1 kl kc n (by rw [hz2];omega) (by unfold maxLen;omega) (Aa _)
 have h1':w'.ownsRow w.heap.size 3 1 (.slice (some ⟨w.heap.size,0,none⟩) n n) n ((List.replicate n (0:Int)).map (Value.int .i64)):=by rw [<-Ji];exact r1
 unfold Oper.wpIn
 refine ⟨?_,?_⟩
 ·simp [Oper.about,hop]
 ·rw [Oper.semAt_plain F _ _ (by rw [hop];intro c hc';cases hc')]
  simp [execOp,hop,hl,hc,hrun,Result.andThen];exact hK' _ _ (hK w' h1' ((Below.refl _ w).grown r2 (Aa _) (fun k e=>by cases e)))
theorem Lv {w:World} {base:Nat} {v:Value} {k:Nat} {xs ys:List Int} (t ty:TypeId) (ht:Tryz.prog.underlying t=some (.slice 3)) (hown:w.ownsRow base 3 1 v k (xs.map (Value.int .i64))) {u:Value} (hu:Sl w u ys)
  (hk:k+ys.length<=1000000000000) (hpos:0<k) (hbase:base<=w.heap.size) :
  ∃ g cap w',(Builtin.append_ #[t,t] ty #[v,u]).run Tryz.prog w=.ok (.slice (some ⟨g,0,none⟩) (k+ys.length) cap) w'/\w'.ownsRow base 3 1 (.slice (some ⟨g,0,none⟩) (k+ys.length) cap) (k+ys.length) ((xs++ys).map (Value.int .i64))/\w.grownBy w' v.ownBlock/\Below base w w':=by
 obtain ⟨i0,hi,hz0,hz1,hz2⟩:=info_parts FJ
 rcases hu with ⟨rfl,rfl⟩ | ⟨b,off,cap,rfl,h1,h2,h3,h4⟩
 ·have hr:=run_append_owned_none (P:=Tryz.prog) (w:=w) base t ty 3 i0 1 ht hi v k _ hown
  rcases hown.2 with ⟨_,h0⟩ | ⟨g,cap,cur,rfl,_⟩
  ·omega
  ·exact ⟨g,cap,w,hr,by simpa using hown,⟨rfl,rfl,rfl,Aa _,fun _ _ _=>rfl⟩,Below.refl _ _⟩
 ·obtain ⟨v',w',hrun,r1,r2,r3⟩:=run_append_own (P:=Tryz.prog) w base t ty 3 i0 (.int .i64 0) 1 8 ht hi hz0 hz1 hz2 rfl Ae v k _ hown ⟨b,off,none⟩ ys.length cap (ys.map (Value.int .i64)) Af (Sl.news h4) (U3 ys) (by unfold maxLen;omega) Ad hbase
  rw [<-Bg] at r1;rcases r1.2 with ⟨_,h0⟩ | ⟨g,cap',cur,rfl,_⟩
  ·omega
  ·exact ⟨g,cap',w',hrun,r1,r2,(Below.refl base w).grown r2 hbase (fun j hj=>(hown.lt j hj).1)⟩
theorem Sp {ops:Array Oper} {rest:List Oper} {o:Oper} {a:Act} {Q:Exit->Act->World->Prop} {w:World} {base:Nat} {v:Value} {k:Nat} {xs ys:List Int} (t:TypeId)
  (ht:Tryz.prog.underlying t=some (.slice 3)) (hgd:o.guard=none) (s x:Operand) (ho:o.op=.call { callee:=.builtin .append,args:=#[s,x],argTypes:=#[t,t] }) {u:Value}
  (hs:a.eval s=v) (hx:a.eval x=u) (hown:w.ownsRow base 3 1 v k (xs.map (Value.int .i64))) (hu:Sl w u ys) (hk:k+ys.length<=1000000000000) (hpos:0<k) (hbase:base<=w.heap.size)
  (h:∀ g cap w',w'.ownsRow base 3 1 (.slice (some ⟨g,0,none⟩) (k+ys.length) cap) (k+ys.length) ((xs++ys).map (Value.int .i64))->w.grownBy w' v.ownBlock->Below base w w'->wpList Tryz.prog ops Q rest (a.put o.dst (.slice (some ⟨g,0,none⟩) (k+ys.length) cap)) w') :
  wpList Tryz.prog ops Q (o :: rest) a w:=by
 refine wpList_plain hgd fun K hK=>?_
 obtain ⟨g,cap,w',hrun,r1,r2,r3⟩:=Lv t o.type ht hown hu hk hpos hbase
 unfold Oper.wp
 simp [execOp,ho,resolve,invoke,builtin,hs,hx,hrun,Result.andThen]
 exact hK _ _ (h g cap w' r1 r2 r3)
theorem KS {F:Fence} {n:Nat} {ops:Array Oper} {rest:List Oper} {o:Oper} {a:Act} {Q:Exit->Act->World->Prop} {w:World} {base:Nat} {v:Value} {k:Nat} {xs ys:List Int} (t:TypeId)
  (ht:Tryz.prog.underlying t=some (.slice 3)) (hgd:o.guard=none) (s x:Operand) (ho:o.op=.call { callee:=.builtin .append,args:=#[s,x],argTypes:=#[t,t] }) {u:Value}
  (hs:a.eval s=v) (hx:a.eval x=u) (hown:w.ownsRow base 3 1 v k (xs.map (Value.int .i64))) (hu:Sl w u ys) (hk:k+ys.length<=1000000000000) (hpos:0<k) (hbase:base<=w.heap.size)
  (h:∀ g cap w',w'.ownsRow base 3 1 (.slice (some ⟨g,0,none⟩) (k+ys.length) cap) (k+ys.length) ((xs++ys).map (Value.int .i64))->w.grownBy w' v.ownBlock->Below base w w'->wpListIn F n Tryz.prog ops Q rest (a.put o.dst (.slice (some ⟨g,0,none⟩) (k+ys.length) cap)) w') :
  wpListIn F n Tryz.prog ops Q (o :: rest) a w:=by
 refine wpListIn_plain hgd fun K hK=>?_
 obtain ⟨g,cap,w',hrun,r1,r2,r3⟩:=Lv t o.type ht hown hu hk hpos hbase
 unfold Oper.wpIn
 refine ⟨?_,?_⟩
 ·simp [Oper.about,ho,resolve,Target.leads,Sem.run_pure]
 ·rw [Oper.semAt_plain F _ _ (by rw [ho];intro c hc';cases hc')]
  simp [execOp,ho,resolve,invoke,builtin,hs,hx,hrun,Result.andThen];exact hK _ _ (h g cap w' r1 r2 r3)
def E4 (W W':World):Prop:=W.heap.size<=W'.heap.size/\∀ (k:Nat) (o:Obj),W.heap[k]? = some o->o.isCells=true->W'.heap[k]? = some o
theorem FN {W W':World} {row:Option Nat} (hg:W.grownBy W' row) (hr:∀ r,row=some r->∃ o:Obj,W.heap[r]? = some o/\o.isCells=false):E4 W W' :=
 ⟨hg.size,fun k o hk ho=>(hg.block k (BO.1 hk).1 (fun e=>by
  obtain ⟨o',h1,h2⟩:=hr k e.symm;rw [hk] at h1;cases h1;rw [ho] at h2;cases h2)).trans hk⟩
theorem E4.putObj {W:World} {l:Nat} {o:Obj} (o':Obj) (hl:W.heap[l]? = some o) (ho:o.isCells=false):E4 W (W.putObj l o') :=
 FN (grownBy_putObj' W l o') (fun r e=>by cases e;exact ⟨o,hl,ho⟩)
theorem E4.cell {W W':World} (h:E4 W W') {p:Addr} {v:Value} (hc:W.cell? p=some v):W'.cell? p=some v:=by
 obtain ⟨o,ho,hi⟩:=cells_of_cell hc;exact (World.cell?_of_block ((h.2 _ _ ho hi).trans ho.symm)).trans hc
theorem E4.boxed {W W':World} (h:E4 W W') {B:Nat} {t:TypeId} {v:Value} (hb:Boxed W B t v):Boxed W' B t v:=h.2 B _ hb rfl
theorem E4.sl {W W':World} (h:E4 W W') {v:Value} {xs:List Int} (hs:Sl W v xs):Sl W' v xs:=by
 rcases hs with hs | ⟨b,off,cap,rfl,h1,h2,h3,h4⟩
 ·exact .inl hs
 ·exact .inr ⟨b,off,cap,rfl,h1,h2,A9 h3 h.1,fun j hj=>h.cell (h4 j hj)⟩
theorem E4.own {W W':World} (h:E4 W W') {base:Nat} {e:TypeId} {size:Nat} {v:Value} {n:Nat} {xs:List Value} (hs:W.ownsRow base e size v n xs):W'.ownsRow base e size v n xs:=by
 refine ⟨hs.1,?_⟩;rcases hs.2 with h' | ⟨g,cap,cur,rfl,hb,hg,hr⟩
 ·exact .inl h'
 ·exact .inr ⟨g,cap,cur,rfl,hb,h.2 g _ hg rfl,hr⟩
theorem Dr.putObj {S:List Nat} {w W:World} (h:Dr S w W) {D:Nat} (hD:w.heap.size<=D) (o':Obj):Dr S w (W.putObj D o') :=
 h.trans' hD (grownBy_putObj' W D o')
theorem FS {fn:Func} {tmps:Array Value} {D:Nat} {W:World} {R:Ending->World->Prop} {v:Value} (hK:W.heap[D]? = some (.deferred (some [])))
  (hr:(results fn tmps).run Tryz.prog (W.putObj D (.deferred none))=.ok v (W.putObj D (.deferred none))) (h:R (.returned v) (W.putObj D (.deferred none))) :
  bodyPostM Fence.wide 5 Tryz.prog fn R .ret { tmps:=tmps,defers:=[{ target:=.collected D,args:=#[] }] } W :=
 ⟨Af,.inl ⟨D,_,rfl,run_takeDeferred hK,⟨v,hr,h⟩⟩⟩
theorem DB {W W':World} {B:Nat} {t:TypeId} {v:Value} (h:Boxed W B t v) (hb:Below W.heap.size W W'):Boxed W' B t v:=h.kept (Jh hb) Af
theorem E7 {W:World} {B b:Nat} {t:TypeId} {v:Value} (h:Boxed W B t v) (hne:B≠b) (u:Value):Boxed (W.setCell ⟨b,0,none⟩ u) B t v :=
 h.kept (grownBy_setCell' W b u) (fun e=>hne (B4 e))
theorem Sl.setBox {W:World} {v:Value} {xs:List Int} (h:Sl W v xs) {B:Nat} {t:TypeId} {u:Value} (hb:Boxed W B t u) (hu:∀ n,u≠.int .i64 n) (u':Value):Sl (W.setCell ⟨B,0,none⟩ u') v xs:=by
 rcases h with h | ⟨b,off,cap,rfl,h1,h2,h3,h4⟩
 ·exact .inl h
 ·refine .inr ⟨b,off,cap,rfl,h1,h2,by simp [World.setCell];exact h3,fun j hj=>?_⟩
  have hc:=h4 j hj;by_cases e:b=B
  ·subst e
   have hh:W.heap[b]? = some (.cells #[u] t (0,0)):=hb;simp only [World.cell?,hh] at hc;by_cases e0:off+j=0
   ·simp [e0] at hc;exact absurd hc (hu _)
   ·rw [show off+j=(off+j-1)+1 by omega] at hc
    simp at hc
  ·rw [<-hc];exact World.cell?_of_block (w:=W) (Below.heap_setCell W ⟨B,0,none⟩ u' b e)
def Sq {α:Type} (S:List Nat) (I Ix:List α->World->Prop) (pre:List α) (W:World):Exit->Act->World->Prop
 | .normal,_,W'=>Dr S W W'/\I pre W'
 | .ret,_,W'=>Dr S W W'/\Ix pre W'
 | _,_,_=>False
theorem JO {β:Type} {S:List Nat} {w:World}:OwnFrom w.heap.size (fun (_:β) W=>Dr S w W) :=
 fun _ A B row hs hg hr=>⟨hg.os.trans hs.os,hg.tape.trans hs.tape,hg.output.trans hs.output,Bc hs.size hg.size,fun k hk hS =>
  (hg.block k (A9 hk hs.size) (fun e=>by have:=(hr k e.symm).1;omega)).trans (hs.block k hk hS)⟩
def Qk {α:Type} (S:List Nat) (w:World) (I Ix:List α->World->Prop) (pre:List α) (W:World):Exit->Act->World->Prop
 | .normal,_,W'=>KeepsOthers W W'/\Dr S w W'/\I pre W'
 | .ret,_,W'=>KeepsOthers W W'/\Dr S w W'/\Ix pre W'
 | _,_,_=>False
theorem OB {g:Operand} {ps:Array Tmp} {assign body:Code} {Q:Exit->Act->World->Prop} {a:Act} {w:World} (Bs:Nat) (S:List Nat) (sv:Value) (xs:List Int)
  (hg:a.eval g=.func (.func 141) #[] #[.pointer (some ⟨Bs,0,none⟩)]) (hBs:w.cell? ⟨Bs,0,none⟩=some sv) (hsl:Sl w sv xs)
  (hS1:Bs∉S) (hS2:∀ b o,sv.ptr? = some (b,o)->b∉S) (hps:ps.size=2)
  (I Ix:List (Fin xs.length)->World->Prop) (hI:∀ pre W W',I pre W->E4 W W'->I pre W') (hIx:∀ pre W W',Ix pre W->E4 W W'->Ix pre W')
  (h0:I [] w) (a₁:Fin xs.length->Act)
  (hassign:∀ (l:Nat) (x:Fin xs.length) (W:World) (K:Act->World->Prop),K (a₁ x) W ->
   assign.wpIn (Fence.wide.inRound l) 3 Tryz.prog (Exit.then K (fun _ _ _=>False)) { tmps:=(ps.zip #[Value.int .i64 (x.1:Int),Value.int .i64 (gi xs x.1)]).foldl (fun t (p,v)=>t.setIfInBounds p v) a.tmps,defers:=[] } W)
  (hbody:∀ (l:Nat) (pre:List (Fin xs.length)) (x:Fin xs.length) (W:World),Dr S w W->I pre W->pre.length<xs.length->body.wpIn (Fence.wide.inRound l) 3 Tryz.prog (Qk S w I Ix (pre++[x]) W) (a₁ x) W)
  (hdone:∀ (D:Nat) (W:World),w.heap.size<=D->Dr S w W->I (DY xs.length xs.length) W->W.heap[D]? = some (.deferred (some []))->Q .normal { a with defers:={ target:=.collected D,args:=#[] } :: a.defers } W)
  (hstop:∀ (D:Nat) (k:Nat) (W:World),k<=xs.length->w.heap.size<=D->Dr S w W->Ix (DY xs.length k) W->W.heap[D]? = some (.deferred (some []))->Code.ret.wpIn Fence.wide 5 Tryz.prog Q { a with defers:={ target:=.collected D,args:=#[] } :: a.defers } W) :
  (Code.rangeFunc g ps assign body).wpIn Fence.wide 5 Tryz.prog Q a w:=by
 have hlt:Bs<w.heap.size:=D7 w _ hBs
 have hp:=hsl.ptr_lt
 obtain ⟨T,hT1,hT2,hT3,hT4⟩:∃ T:List Nat,Bs∈T/\(∀ b o,sv.ptr? = some (b,o)->b∈T)/\(∀ k∈T,k<w.heap.size)/\(∀ k∈T,k∉S):=by
  cases hv:sv.ptr? with
  | none=>exact ⟨[Bs],Af,(fun b o e=>by cases e),(fun k hk=>by simp at hk;omega),(fun k hk=>by simp at hk;subst hk;exact hS1)⟩
  | some q =>
   obtain ⟨b,o⟩:=q;refine ⟨[Bs,b],Af,(fun b' o' e=>by cases e;simp),(fun k hk=>?_),(fun k hk=>?_)⟩
   ·simp at hk;rcases hk with rfl | rfl
    ·exact hlt
    ·exact hp k o hv
   ·simp at hk;rcases hk with rfl | rfl
    ·exact hS1
    ·exact hS2 k o hv
 refine wpIn_rangeFunc_ownF (F:=Fence.wide) (n:=5) (gf:=141) (lb:=#[.pointer (some ⟨Bs,0,none⟩)]) (N:=xs.length) rfl Ae hg trivial (Go.Proofs.enters_of Tryz.func141 Ab rfl)
  (Qj Fence.wide (5-1) trivial rfl Ae Bs T sv xs w hT1 hlt hBs hsl hT2) (fun h k=>h.trans k) (fun W l o o' hl h1 h2 h3=>Jr.putObj hT3 W l o o' hl h1 h2 h3) (Below.refl _ _) (fun _=>by rw [hps];rfl)
  (fun pre W=>I pre W/\Dr S w W) (fun c pre W=>(c=.ret/\Ix pre W)/\Dr S w W)
  (OwnFrom.and (fun s A B row hs hg' hr=>hI s A B hs (FN hg' (fun r e=>(hr r e).2))) JO)
  (fun c=>OwnFrom.and (fun s A B row hs hg' hr=>⟨hs.1,hIx s A B hs.2 (FN hg' (fun r e=>(hr r e).2))⟩) JO)
  ⟨h0,Dr.refl _ _⟩ a₁ hassign ?_ ?_ ?_
 ·rintro l pre x W ⟨hi,ho⟩ hlen
  refine wpIn_mono (hbody l pre x W ho hi hlen) ?_;rintro e a3 W3 h3;cases e with
  | normal=>exact ⟨h3.1,fun k hk=>(h3.2.1.block k (hT3 k hk) (hT4 k hk)).trans (ho.block k (hT3 k hk) (hT4 k hk)).symm,h3.2.2,h3.2.1⟩
  | ret=>exact ⟨h3.1,⟨rfl,h3.2.2⟩,h3.2.1⟩
  | exit id=>exact h3.elim
  | goto t=>exact h3.elim
  | panic c=>exact h3.elim
  | outgrown=>exact h3.elim
 ·rintro D ys W hD rfl ⟨hi,ho⟩ hK
  exact hdone D W hD ho hi hK
 ·rintro D c pre W hD ⟨k,hk,rfl⟩ ⟨⟨rfl,hi⟩,ho⟩ hK
  exact hstop D k W hk hD ho hi hK
theorem Nv {g:Operand} {ps:Array Tmp} {assign body:Code} {Q:Exit->Act->World->Prop} {a:Act} {w:World} (Bs:Nat) (S:List Nat) (sv:Value) (xs:List Int)
  (hg:a.eval g=.func (.func 141) #[] #[.pointer (some ⟨Bs,0,none⟩)]) (hBs:w.cell? ⟨Bs,0,none⟩=some sv) (hsl:Sl w sv xs)
  (hS1:Bs∉S) (hS2:∀ b o,sv.ptr? = some (b,o)->b∉S) (hps:ps.size=2)
  (I Ix:List (Fin xs.length)->World->Prop) (hI:∀ pre W W',I pre W->E4 W W'->I pre W') (hIx:∀ pre W W',Ix pre W->E4 W W'->Ix pre W')
  (hcells:∀ pre W,I pre W->∀ k∈S,∃ o:Obj,W.heap[k]? = some o/\o.isCells=true) (h0:I [] w) (a₁:Fin xs.length->Act)
  (hassign:∀ (l:Nat) (x:Fin xs.length) (W:World) (K:Act->World->Prop),K (a₁ x) W ->
   assign.wpIn (Fence.wide.inRound l) 3 Tryz.prog (Exit.then K (fun _ _ _=>False)) { tmps:=(ps.zip #[Value.int .i64 (x.1:Int),Value.int .i64 (gi xs x.1)]).foldl (fun t (p,v)=>t.setIfInBounds p v) a.tmps,defers:=[] } W)
  (hbody:∀ (l:Nat) (pre:List (Fin xs.length)) (x:Fin xs.length) (W:World),Dr S w W->I pre W->pre.length<xs.length->body.wpIn (Fence.wide.inRound l) 3 Tryz.prog (Sq S I Ix (pre++[x]) W) (a₁ x) W)
  (hdone:∀ (D:Nat) (W:World),w.heap.size<=D->Dr S w W->I (DY xs.length xs.length) W->W.heap[D]? = some (.deferred (some []))->Q .normal { a with defers:={ target:=.collected D,args:=#[] } :: a.defers } W)
  (hstop:∀ (D:Nat) (k:Nat) (W:World),k<=xs.length->w.heap.size<=D->Dr S w W->Ix (DY xs.length k) W->W.heap[D]? = some (.deferred (some []))->Code.ret.wpIn Fence.wide 5 Tryz.prog Q { a with defers:={ target:=.collected D,args:=#[] } :: a.defers } W) :
  (Code.rangeFunc g ps assign body).wpIn Fence.wide 5 Tryz.prog Q a w:=by
 refine OB Bs S sv xs hg hBs hsl hS1 hS2 hps I Ix hI hIx h0 a₁ hassign ?_ hdone hstop
 intro l pre x W ho hi hlen
 refine wpIn_mono (hbody l pre x W ho hi hlen) ?_
 have hk:∀ W',Dr S W W'->KeepsOthers W W':=fun W' h=>⟨h.size,fun k o hk hno=>by
  refine (h.block k (BO.1 hk).1 (fun hs=>?_)).trans hk;obtain ⟨o',h1,h2⟩:=hcells pre W hi k hs;rw [hk] at h1;cases h1;rw [hno] at h2;cases h2⟩
 rintro e a3 W3 h3
 cases e with
 | normal=>exact ⟨hk _ h3.1,ho.trans h3.1,h3.2⟩
 | ret=>exact ⟨hk _ h3.1,ho.trans h3.1,h3.2⟩
 | exit id=>exact h3.elim
 | goto t=>exact h3.elim
 | panic c=>exact h3.elim
 | outgrown=>exact h3.elim
end
section
theorem Hf {α:Type} (l:List α) {r:List α} (h:l≠[]):(l++r).head? = l.head? := by
 cases l with
 | nil=>exact absurd rfl h
 | cons a l=>rfl
theorem Hh {α:Type} {p:α->Bool} {l:List α}:l.dropWhile p=[]↔∀ b∈l,p b=true:=by
 induction l with
 | nil=>simp
 | cons a l ih =>
  cases h:p a with
  | true=>simp [List.dropWhile,h,ih]
  | false=>simp [List.dropWhile,h]
def Hi (b:UInt8):Bool:=decide (48<=b.toNat/\b.toNat<=57)
def MO (acc:Nat) (l:List UInt8):Nat:=l.foldl (fun a b=>a*10+(b.toNat-48)) acc
def E9 (l:List UInt8):Nat:=MO 0 l
theorem Ql (acc:Nat) (l r:List UInt8):MO acc (l++r)=MO (MO acc l) r:=by unfold MO;rw [D8]
theorem Qm (l:List UInt8):∀ acc,MO acc l=acc*10 ^ l.length+E9 l:=by
 induction l with
 | nil=>intro acc;simp [MO,E9]
 | cons b l ih =>
  intro acc;have h1:MO acc (b :: l)=MO (acc*10+(b.toNat-48)) l:=rfl;have h2:E9 (b :: l)=MO (0*10+(b.toNat-48)) l:=rfl;rw [h1,h2,ih (acc*10+_),ih (0*10+_),CG,Nat.pow_succ,Nat.add_mul,Nat.mul_assoc,Nat.mul_comm 10,Nat.zero_mul,BN];omega
theorem Gw (l r:List UInt8):E9 (l++r)=E9 l*10 ^ r.length+E9 r:=by unfold E9;rw [Ql,Qm];rfl
theorem J3 (l:List UInt8) (b:UInt8):E9 (l++[b])=E9 l*10+(b.toNat-48):=by rw [Gw];simp [E9,MO]
theorem Ev {b:UInt8}:Hi b=true↔48<=b.toNat/\b.toNat<=57:=by unfold Hi;rw [CB]
theorem Js:∀ (l:List UInt8) (acc:Nat),(∀ b∈l,Hi b=true)->Lib.decFrom acc l=some (MO acc l)
 | [],_,_=>rfl
 | b :: l,acc,h=>by
  have hb:=Ev.1 (h b Af);have hd:Lib.digitVal b=some (b.toNat-48):=by unfold Lib.digitVal;rw [AU hb]
  rw [Lib.decFrom,hd];exact Js l _ (fun c hc=>h c (by simp [hc]))
theorem Nw {l:List UInt8} (h:∀ b∈l,Hi b=true):E9 l<10 ^ l.length:=by
 have:=Lib.decFrom_lt l 0 _ (Js l 0 h);rw [BN,Nat.one_mul] at this;exact this
theorem Fm {k:Nat} (h:k<10):(UInt8.ofNat (48+k)).toNat=48+k:=by
 rw [UInt8.toNat_ofNat'];omega
theorem OC {b:UInt8} (h:Hi b=true):UInt8.ofNat (48+(b.toNat-48))=b:=by
 have:=Ev.1 h;apply UInt8.toNat.inj;rw [Fm Ad];omega
theorem DT {u:Nat} (h:u<10):Lib.decDigits u=[UInt8.ofNat (48+u)]:=by rw [Lib.decDigits,dif_pos h]
theorem Jj {u:Nat} (h:¬ u<10):Lib.decDigits u=Lib.decDigits (u / 10)++[UInt8.ofNat (48+u % 10)]:=by rw [Lib.decDigits,dif_neg h]
theorem DO (u:Nat):E9 (Lib.decDigits u)=u/\(∀ b∈Lib.decDigits u,Hi b=true)/\Lib.decDigits u≠[]/\(u≠0->∀ b,(Lib.decDigits u).head? = some b->b.toNat≠48):=by
 induction u using Nat.strongRecOn with
 | ind u ih =>
  by_cases h:u<10
  ·rw [DT h]
   refine ⟨?_,fun b hb=>?_,Af,fun h0 b hb=>?_⟩
   ·show 0*10+((UInt8.ofNat (48+u)).toNat-48)=u
    rw [Fm h];omega
   ·rw [B3] at hb;subst hb;rw [Ev,Fm h];omega
   ·rw [List.head?_cons] at hb;cases hb;rw [Fm h];omega
  ·obtain ⟨h1,h2,h3,h4⟩:=ih (u / 10) Ad
   rw [Jj h];refine ⟨?_,fun b hb=>?_,Af,fun _ b hb=>?_⟩
   ·rw [J3,h1,Fm Ad];omega
   ·rcases Bz.1 hb with hb | hb
    ·exact h2 b hb
    ·rw [B3] at hb;subst hb;rw [Ev,Fm Ad];omega
   ·rw [Hf _ h3] at hb
    exact h4 Ad b hb
theorem OD {l:List UInt8} (h:∀ b∈l,Hi b=true) (h0:l≠[]) (hh:∀ b,l.head? = some b->b.toNat≠48):0<E9 l:=by
 cases l with
 | nil=>exact absurd rfl h0
 | cons b l =>
  have h1:=Ev.1 (h b Af);have h2:=hh b rfl;have e:E9 (b :: l)=MO (0*10+(b.toNat-48)) l:=rfl;rw [e,Qm];have:0<(0*10+(b.toNat-48))*10 ^ l.length:=Nat.mul_pos Ad (Nat.pow_pos Ae);omega
theorem Mv {α:Type} {motive:List α->Prop} (l:List α) (nil:motive []) (snoc:∀ pre x,motive pre->motive (pre++[x])):motive l:=by
 have:∀ k:List α,motive k.reverse:=by
  intro k;induction k with
  | nil=>exact nil
  | cons a k ih=>rw [List.reverse_cons];exact snoc _ _ ih
 have h:=this l.reverse;rwa [List.reverse_reverse] at h
theorem Fn (l:List UInt8):(∀ b∈l,Hi b=true)->l≠[]->(∀ b,l.head? = some b->b.toNat≠48)->Lib.decDigits (E9 l)=l:=by
 induction l using Mv with
 | nil=>intro _ h;exact absurd rfl h
 | snoc l b ih =>
  intro h _ hh;have hb:=h b Af;have hb':=Ev.1 hb;by_cases hl:l=[]
  ·subst hl
   have e:E9 ([]++[b])=b.toNat-48:=by rw [J3];simp [E9,MO]
   rw [e,DT Ad,OC hb];rfl
  ·have hl1:∀ c∈l,Hi c=true:=fun c hc=>h c (by simp [hc])
   have hl2:∀ c,l.head? = some c->c.toNat≠48:=fun c hc=>hh c (by rw [Hf _ hl];exact hc)
   have hp:=OD hl1 hl hl2;rw [J3,Jj Ad,show (E9 l*10+(b.toNat-48)) / 10=E9 l by omega,show (E9 l*10+(b.toNat-48)) % 10=b.toNat-48 by omega,ih hl1 hl hl2,OC hb]
theorem EK {u k:Nat} (h:u<10 ^ k) (hk:1<=k):(Lib.decDigits u).length<=k:=by
 rw [Lib.decDigits_length];by_cases e:Lib.nDigits u<=k
 ·exact e
 ·by_cases hu:u<10
  ·rw [Lib.nDigits_small hu] at e;omega
  ·have hs:=DO u
   exfalso;-- the first digit is not zero
   have hl:(Lib.decDigits u).length=Lib.nDigits u:=Lib.decDigits_length u;cases hd:Lib.decDigits u with
   | nil=>exact hs.2.2.1 hd
   | cons b r =>
    have h1:=Ev.1 (hs.2.1 b (by rw [hd];simp));have h2:=hs.2.2.2 Ad b (by rw [hd];rfl);have e1:E9 (b :: r)=MO (0*10+(b.toNat-48)) r:=rfl;have h3:=hs.1;rw [hd,e1,Qm] at h3;have hr:k<=r.length:=by rw [hd] at hl;simp at hl;omega
    have h4:10 ^ k<=10 ^ r.length:=CD Ae hr;have h5:1*10 ^ r.length<=(0*10+(b.toNat-48))*10 ^ r.length:=BF _ Ad;omega
theorem Gm {u k:Nat} (h:10 ^ k<=u):k<(Lib.decDigits u).length:=by
 have hs:=DO u;have:=Nw hs.2.1;rw [hs.1] at this;by_cases e:k<(Lib.decDigits u).length
 ·exact e
 ·have:10 ^ (Lib.decDigits u).length<=10 ^ k:=CD Ae Ad
  omega
def body (l:List UInt8):List UInt8:=Lib.trimPrefix l [45]
def Fg (l:List UInt8):Bool:=!(body l).isEmpty&&decide ((body l).length<=200)&&(body l).all Hi&&(decide (l=[48]) || decide ((body l).head? ≠ some 48))
def GK (l:List UInt8):Int:=if Lib.hasPrefix l [45] then -(E9 (body l):Int) else E9 (body l)
def GU:Int:=10 ^ 200
theorem ET (b:UInt8) (l:List UInt8):Lib.hasPrefix (b :: l) [45]=(45==b):=by simp [Lib.hasPrefix,List.isPrefixOf]
theorem Gn (l:List UInt8):body (45 :: l)=l:=by unfold body Lib.trimPrefix;rw [ET];simp
theorem GV {b:UInt8} (l:List UInt8) (h:b≠45):body (b :: l)=b :: l:=by
 unfold body Lib.trimPrefix;rw [ET,AP (by simp;exact fun e=>h e.symm)]
theorem U4:body []=[]:=rfl
theorem DP {n:Int} (h:0<=n):Lib.itoa n=Lib.decDigits n.toNat:=by unfold Lib.itoa;rw [AP Ad]
theorem Gb {n:Int} (h:n<0):Lib.itoa n=45 :: Lib.decDigits n.natAbs:=by unfold Lib.itoa;rw [AU h]
theorem GJ (u:Nat):∃ b r,Lib.decDigits u=b :: r/\b≠45:=by
 have hs:=DO u;cases hd:Lib.decDigits u with
 | nil=>exact absurd hd hs.2.2.1
 | cons b r =>
  refine ⟨b,r,rfl,fun e=>?_⟩;have:=Ev.1 (hs.2.1 b (by rw [hd];simp));subst e;exact absurd this.1 Ae
theorem Kl (n:Int):GK (Lib.itoa n)=n/\body (Lib.itoa n)=Lib.decDigits n.natAbs:=by
 by_cases h:n<0
 ·rw [Gb h]
  refine ⟨?_,Gn _⟩;unfold GK;rw [ET,AU Ae,Gn,(DO _).1];omega
 ·rw [DP Ad,show n.natAbs=n.toNat by omega]
  obtain ⟨b,r,hd,hb⟩:=GJ n.toNat;have hbd:body (Lib.decDigits n.toNat)=Lib.decDigits n.toNat:=by rw [hd];exact GV r hb
  refine ⟨?_,hbd⟩;unfold GK;rw [hbd,(DO _).1,hd,ET,AP (by simp;exact fun e=>hb e.symm)];omega
theorem Qn {n:Int} (h0:-GU<n) (h1:n<GU):Fg (Lib.itoa n)=true:=by
 have hb:=(Kl n).2;have hs:=DO n.natAbs;have hl:(Lib.decDigits n.natAbs).length<=200:=EK (by
  have e:GU=((10 ^ 200:Nat):Int):=by unfold GU;decide +kernel
  rw [e] at h0 h1;generalize 10 ^ 200=K at *
  omega) Ae
 unfold Fg;rw [hb];simp only [Ap,Au,CB,Ar,List.isEmpty_eq_false_iff,AE];refine ⟨⟨⟨hs.2.2.1,hl⟩,hs.2.1⟩,?_⟩;by_cases hn:n=0
 ·left;subst hn;rw [DP Ad];exact DT Ae
 ·right
  intro hh;exact hs.2.2.2 Ad 48 hh Ae
theorem Ff {l:List UInt8} (h:Fg l=true):l=Lib.itoa (GK l)/\-GU<GK l/\GK l<GU:=by
 unfold Fg at h;simp only [Ap,Au,CB,Ar,List.isEmpty_eq_false_iff,AE] at h;obtain ⟨⟨⟨h1,h2⟩,h3⟩,h4⟩:=h;have hB:((E9 (body l):Nat):Int)<GU:=by
  have a:=Nw h3;have c:10 ^ (body l).length<=10 ^ 200:=CD Ae h2;have e:GU=((10 ^ 200:Nat):Int):=by unfold GU;decide +kernel
  rw [e];generalize 10 ^ 200=K at *
  omega
 cases l with
 | nil=>exact absurd U4 h1
 | cons b l =>
  by_cases hb:b=45
  ·subst hb
   rw [Gn] at *
   have hh:∀ c,l.head? = some c->c.toNat≠48:=fun c hc e=>by
    rcases h4 with h4 | h4
    ·simp at h4
    ·exact h4 (by rw [hc];congr 1;exact UInt8.toNat.inj e)
   have hp:=OD h3 h1 hh;have hi:GK (45 :: l)=-(E9 l:Int):=by unfold GK;rw [ET,AU Ae,Gn]
   rw [hi];refine ⟨?_,Ad,Ad⟩;rw [Gb Ad,show (-(E9 l:Int)).natAbs=E9 l by omega,Fn l h3 h1 hh]
  ·rw [GV l hb] at *
   have hi:GK (b :: l)=E9 (b :: l):=by unfold GK;rw [ET,AP (by simp;exact fun e=>hb e.symm),GV l hb]
   rw [hi];refine ⟨?_,Ad,Ad⟩;rw [DP Ad,Az];rcases h4 with h4 | h4
   ·rw [h4];exact (DT (u:=0) Ae).symm
   ·exact (Fn _ h3 h1 (fun c hc e=>h4 (by rw [hc];congr 1;exact UInt8.toNat.inj e))).symm
theorem Sr (l cs:List UInt8):Lib.trimS l cs=[]↔∀ b∈l,cs.contains b=true:=by
 unfold Lib.trimS Lib.trimLeftS Lib.trimRightS;constructor
 ·intro h b hb
  have h1:∀ c∈(l.reverse.dropWhile (cs.contains ·)).reverse,cs.contains c=true:=Hh.1 h;have h2:l.reverse.dropWhile (cs.contains ·)=[]:=by
   cases hd:l.reverse.dropWhile (cs.contains ·) with
   | nil=>rfl
   | cons c r =>
    have h3:=List.head_dropWhile_not (cs.contains ·) (l:=l.reverse) (by rw [hd];simp);have h4:=h1 c (by rw [hd];simp);simp only [hd,List.head_cons] at h3;rw [h4] at h3;cases h3
  exact Hh.1 h2 b (by simpa using hb)
 ·intro h
  have h2:l.reverse.dropWhile (cs.contains ·)=[]:=Hh.2 (fun b hb=>h b (by simpa using hb));rw [h2];rfl
theorem U5 (b:UInt8):([48,49,50,51,52,53,54,55,56,57]:List UInt8).contains b=Hi b:=by
 have:∀ k:Fin 256,([48,49,50,51,52,53,54,55,56,57]:List UInt8).contains (UInt8.ofNat k.val)=Hi (UInt8.ofNat k.val):=by decide +kernel
 have h:=this ⟨b.toNat,b.toNat_lt⟩;simpa using h
end
end Go.Proofs.YtioamkekjjkigaaGreatDoor
