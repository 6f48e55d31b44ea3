/- PkA -/
import Derived.WalkKit
import Derived.Lib.Hide
import Derived.Deep.QuietTactic
import Derived.BigQuiet
import Derived.IntWalk
import Derived.Test.YtdkonnnmkceagaaGreatDoorProg
import Derived.RangeFuncBox
import Derived.Shelf.Abstract
import Derived.RangeFuncNested
import Derived.RangeFuncBound
import Derived.RangeFuncCalls
import Derived.RangeFuncLeaves
import Derived.Shelf.RegionOpen
import Derived.OwnWalkIn
import Derived.TacticsInMore
import Derived.LoopNIn
import Derived.LoopIn
import Derived.Lib.ItoaNum
import Derived.Lib.Atoi
import Derived.Lib.SlTrimSet
import Derived.Lib.Strings
import Derived.Test.YtdkonnnmkceagaaGreatDoorZSh
set_option maxHeartbeats 2000000
set_option maxRecDepth 100000
namespace Go.Proofs.YtdkonnnmkceagaaGreatDoor
section
open Go.RowKit
def Pg:Value->Nat
 | .slice _ n _=>n
 | _=>0
def strLen:Value->Nat
 | .string s=>s.size
 | _=>0
def _root_.Go.Value.ptr? : Value->Option (Nat×Nat)
 | .slice (some a) _ _=>some (a.block,a.off)
 | _=>none
theorem D9 {k:IntKind} {a b:Int} (h:a=b):Ending.returned (.int k a)=.returned (.int k b):=by rw [h]
theorem D6 {a b:Bool} (h:a=b):Ending.returned (.bool a)=.returned (.bool b):=by rw [h]
def gi (xs:List Int) (i:Nat):Int:=xs[i]?.getD 0
theorem Hi {xs:List Int} {i:Nat} (h:i<xs.length):gi xs i=xs[i]:=by simp [gi,h]
theorem FS {xs:List Int} {i:Nat} (h:xs.length<=i):gi xs i=0:=by simp [gi,h]
theorem Ph {xs:List Int} {i k:Nat} (h:i<k):gi (xs.take k) i=gi xs i:=by simp [gi,h]
def Sl (w:World) (v:Value) (xs:List Int):Prop :=
 (v=.slice none 0 0/\xs=[])∨∃ b off cap,v=.slice (some ⟨b,off,none⟩) xs.length cap/\xs.length<=cap/\cap<=maxLen/\b<w.heap.size /\
  ∀ j,j<xs.length->w.cell? ⟨b,off+j,none⟩=some (.int .i64 (gi xs j))
theorem Sl.nil (w:World):Sl w (.slice none 0 0) []:=.inl ⟨rfl,rfl⟩
theorem Sl.shape {w:World} {v:Value} {xs:List Int} (h:Sl w v xs):∃ a cap,v=.slice a xs.length cap:=by
 rcases h with ⟨rfl,rfl⟩ | ⟨b,off,cap,rfl,_⟩
 ·exact ⟨_,_,rfl⟩
 ·exact ⟨_,_,rfl⟩
theorem Sl.below {w w':World} {v:Value} {xs:List Int} (h:Sl w v xs) (hb:Below w.heap.size w w'):Sl w' v xs:=by
 rcases h with h | ⟨b,off,cap,rfl,h1,h2,h3,h4⟩
 ·exact .inl h
 ·exact .inr ⟨b,off,cap,rfl,h1,h2,A9 h3 hb.size,fun j hj=>(hb.cell (p:=⟨b,off+j,none⟩) h3).trans (h4 j hj)⟩
theorem Sl.len_le {w:World} {v:Value} {xs:List Int} (h:Sl w v xs):xs.length<=maxLen:=by
 rcases h with ⟨_,rfl⟩ | ⟨_,_,_,_,h1,h2,_⟩
 ·simp
 ·exact AN h1 h2
theorem Sl.of_own {w:World} {base:Nat} {e:TypeId} {v:Value} {n:Nat} {xs:List Int} (h:w.ownsRow base e 1 v n (xs.map (Value.int .i64))):Sl w v xs:=by
 have hl:n=xs.length:=by have:=h.1;simpa using this.symm
 subst hl;rcases h.2 with ⟨rfl,h0⟩ | ⟨g,cap,cur,rfl,hb,hg,hn,hm,hs,ht⟩
 ·exact .inl ⟨rfl,AS h0⟩
 ·refine .inr ⟨g,0,cap,rfl,hn,hm,(Bu.1 hg).1,fun j hj=>?_⟩
  have hc:=h.cells (g:=g) rfl j (.int .i64 (gi xs j)) (by simp [Hi hj,AG,Au hj]);have hadd:(⟨g,0,none⟩:Addr).add j=⟨g,0+j,none⟩:=by unfold Addr.add;split <;> simp_all
  rw [hadd] at hc;exact hc
theorem Sl.take {w:World} {b off cap:Nat} {xs:List Int} (k:Nat) (hk:k<=xs.length) (h1:xs.length<=cap) (h2:cap<=maxLen) (h3:b<w.heap.size)
  (h4:∀ j,j<xs.length->w.cell? ⟨b,off+j,none⟩=some (.int .i64 (gi xs j))):Sl w (.slice (some ⟨b,off,none⟩) k cap) (xs.take k):=by
 refine .inr ⟨b,off,cap,by simp [Be hk],by simp;omega,h2,h3,fun j hj=>?_⟩
 have hj':j<k:=by simp at hj;omega
 rw [h4 j Ad,Ph hj']
theorem CN (w:World) (n:Nat):Below w.heap.size w (w.drewN n):=⟨rfl,rfl,rfl,Aa _,fun _ _=>rfl⟩
theorem Sl.drewN {w:World} {v:Value} {xs:List Int} (h:Sl w v xs) (n:Nat):Sl (w.drewN n) v xs:=h.below (CN w n)
theorem Db {w w':World} (h:Below w.heap.size w w'):w.grownBy w' none:=⟨h.os,h.tape,h.output,h.size,fun k hk _=>h.block k hk⟩
theorem DE {w w':World} {base:Nat} {e:TypeId} {size:Nat} {v:Value} {n:Nat} {xs:List Value} (h:w.ownsRow base e size v n xs) (hb:Below w.heap.size w w'):w'.ownsRow base e size v n xs :=
 h.kept (Db hb) (by cases v.ownBlock <;> simp)
def CO (W:World) (B:Nat) (cs:Array Value) (t:TypeId):Prop:=W.heap[B]? = some (.cells cs t (0,0))
theorem CO.lt {W:World} {B:Nat} {cs:Array Value} {t:TypeId} (h:CO W B cs t):B<W.heap.size:=(Bu.1 h).1
theorem CO.new (W:World) (cs:Array Value) (t:TypeId):CO (W.alloc (.cells cs t)) W.heap.size cs t:=heap_alloc_new W _
theorem CO.kept {W W':World} {row:Option Nat} {B:Nat} {cs:Array Value} {t:TypeId} (h:CO W B cs t) (hg:W.grownBy W' row) (hne:some B≠row):CO W' B cs t:=(hg.block B h.lt hne).trans h
theorem CO.below {W W':World} {B:Nat} {cs:Array Value} {t:TypeId} (h:CO W B cs t) (hb:Below W.heap.size W W'):CO W' B cs t:=(hb.block B h.lt).trans h
theorem CO.alloc {W:World} {B:Nat} {cs:Array Value} {t:TypeId} (h:CO W B cs t) (o:Obj):CO (W.alloc o) B cs t:=h.below ((Below.refl _ W).alloc (Aa _) o)
theorem CO.cell {W:World} {B:Nat} {cs:Array Value} {t:TypeId} (h:CO W B cs t) (i:Nat):W.cell? ⟨B,i,none⟩=cs[i]? := by simp [World.cell?,show W.heap[B]? = _ from h]
theorem CO.frozen {W:World} {B:Nat} {cs:Array Value} {t:TypeId} (h:CO W B cs t) (i:Nat):W.frozen? ⟨B,i,none⟩=false:=by simp [World.frozen?,show W.heap[B]? = _ from h]
theorem CO.set {W:World} {B:Nat} {cs:Array Value} {t:TypeId} (h:CO W B cs t) (i:Nat) (v:Value):CO (W.setCell ⟨B,i,none⟩ v) B (cs.setIfInBounds i v) t:=heap_setCell_same W B i cs t v h
theorem CO.not_row {W:World} {B:Nat} {cs:Array Value} {t e:TypeId} (h:CO W B cs t) (hte:t≠e) {base size k:Nat} {v:Value} {xs:List Value} (hr:W.ownsRow base e size v k xs):some B≠v.ownBlock:=by
 rcases hr.2 with ⟨rfl,_⟩ | ⟨g,cap,cur,rfl,_,hgb,_⟩
 ·simp [Value.ownBlock]
 ·intro e'
  obtain rfl:B=g:=by simpa [Value.ownBlock] using e'
  have:=(show W.heap[B]? = _ from h).symm.trans hgb;simp at this;exact hte this.2
theorem D0 (W:World) (b i:Nat) (v:Value):W.grownBy (W.setCell ⟨b,i,none⟩ v) (some b) :=
 ⟨rfl,rfl,rfl,by simp [World.setCell],fun k _ hk=>Below.heap_setCell _ _ _ k (fun e=>hk (by rw [e]))⟩
structure CG (S:List Nat) (w w':World):Prop where
 os:w'.os=w.os
 tape:w'.tape=w.tape
 output:w'.output=w.output
 size:w.heap.size<=w'.heap.size
 block:∀ k,k<w.heap.size->k∉S->w'.heap[k]? = w.heap[k]?
theorem CG.refl (S:List Nat) (w:World):CG S w w:=⟨rfl,rfl,rfl,Aa _,fun _ _ _=>rfl⟩
theorem CG.trans {S:List Nat} {a b c:World} (h:CG S a b) (k:CG S b c):CG S a c :=
 ⟨k.os.trans h.os,k.tape.trans h.tape,k.output.trans h.output,AN h.size k.size,fun i hi hs=>(k.block i (A9 hi h.size) hs).trans (h.block i hi hs)⟩
theorem CG.of_below {S:List Nat} {w w':World} (h:Below w.heap.size w w'):CG S w w':=⟨h.os,h.tape,h.output,h.size,fun k hk _=>h.block k hk⟩
theorem CG.below {S:List Nat} {a b c:World} (h:CG S a b) (k:Below b.heap.size b c):CG S a c:=h.trans (.of_below k)
theorem CG.drewN {S:List Nat} {a b:World} (h:CG S a b) (n:Nat):CG S a (b.drewN n):=h.below (CN b n)
theorem CG.alloc {S:List Nat} {a b:World} (h:CG S a b) (o:Obj):CG S a (b.alloc o):=h.below ((Below.refl _ b).alloc (Aa _) o)
theorem CG.setCell {S:List Nat} {a b:World} (h:CG S a b) {p:Addr} (hp:p.block∈S) (u:Value):CG S a (b.setCell p u) :=
 h.trans ⟨rfl,rfl,rfl,by simp [World.setCell],fun k _ hs=>Below.heap_setCell _ _ _ _ (fun e=>hs (e ▸ hp))⟩
theorem CG.setNew {S:List Nat} {a b:World} (h:CG S a b) {p:Addr} (hp:a.heap.size<=p.block) (u:Value):CG S a (b.setCell p u) :=
 ⟨h.os,h.tape,h.output,AN h.size (by simp [World.setCell]),fun k hk hs=>(Below.heap_setCell _ _ _ _ Ad).trans (h.block k hk hs)⟩
theorem CG.toBelow {S:List Nat} {B:Nat} {w w':World} (h:CG S w w') (hB:B<=w.heap.size) (hS:∀ k∈S,B<=k):Below B w w' :=
 ⟨h.os,h.tape,h.output,h.size,fun k hk=>h.block k Ad (fun hs=>by have:=hS k hs;omega)⟩
theorem CG.cell {S:List Nat} {w w':World} (h:CG S w w') {p:Addr} (hp:p.block<w.heap.size) (hs:p.block∉S):w'.cell? p=w.cell? p:=World.cell?_of_block (w:=w) (h.block p.block hp hs)
theorem CG.frozen {S:List Nat} {w w':World} (h:CG S w w') {p:Addr} (hp:p.block<w.heap.size) (hs:p.block∉S):w'.frozen? p=w.frozen? p:=World.frozen?_of_block (w:=w) (h.block p.block hp hs)
theorem CG.trans' {S:List Nat} {a b c:World} {r:Nat} (h:CG S a b) (hr:a.heap.size<=r) (hg:b.grownBy c (some r)):CG S a c :=
 ⟨hg.os.trans h.os,hg.tape.trans h.tape,hg.output.trans h.output,AN h.size hg.size,fun k hk hs=>(hg.block k (A9 hk h.size) (fun e=>by cases e;omega)).trans (h.block k hk hs)⟩
theorem CG.mono {S T:List Nat} {w w':World} (h:CG S w w') (hs:∀ k∈S,k∈T):CG T w w':=⟨h.os,h.tape,h.output,h.size,fun k hk ht=>h.block k hk (fun e=>ht (hs k e))⟩
theorem Sl.only {S:List Nat} {w w':World} {v:Value} {xs:List Int} (h:Sl w v xs) (ho:CG S w w') (hs:∀ b o,v.ptr? = some (b,o)->b∉S):Sl w' v xs:=by
 rcases h with h | ⟨b,off,cap,rfl,h1,h2,h3,h4⟩
 ·exact .inl h
 ·exact .inr ⟨b,off,cap,rfl,h1,h2,A9 h3 ho.size,fun j hj=>(ho.cell (p:=⟨b,off+j,none⟩) h3 (hs b off rfl)).trans (h4 j hj)⟩
theorem Sl.ptr_lt {w:World} {v:Value} {xs:List Int} (h:Sl w v xs):∀ b o,v.ptr? = some (b,o)->b<w.heap.size:=by
 intro b o e;rcases h with ⟨rfl,_⟩ | ⟨b',off,cap,rfl,h1,h2,h3,h4⟩
 ·cases e
 ·cases e;exact h3
def Et (w:World) (v:Value):Prop:=∀ b o,v.ptr? = some (b,o)->w.heap.size<=b
theorem Et.of_own {w w':World} {base:Nat} {e:TypeId} {size:Nat} {v:Value} {n:Nat} {xs:List Value} (h:w'.ownsRow base e size v n xs) (hb:w.heap.size<=base):Et w v:=by
 intro b o hp;rcases h.2 with ⟨rfl,_⟩ | ⟨g,cap,cur,rfl,hg,_⟩
 ·cases hp
 ·cases hp;exact AN hb hg
theorem Et.of_ptr {w:World} {v u:Value} (h:Et w v) (hp:u.ptr? = v.ptr?):Et w u:=fun b o e=>h b o (hp ▸ e)
theorem Et.mono {w w':World} {v:Value} (h:Et w' v) (hs:w.heap.size<=w'.heap.size):Et w v:=fun b o e=>AN hs (h b o e)
theorem Sl.setBlk {W:World} {v:Value} {xs:List Int} (h:Sl W v xs) {B:Nat} {cs:Array Value} {t:TypeId} (hb:CO W B cs t) (hu:∀ (j:Nat) n,cs[j]? ≠ some (.int .i64 n)) (i:Nat) (u':Value):Sl (W.setCell ⟨B,i,none⟩ u') v xs:=by
 rcases h with h | ⟨b,off,cap,rfl,h1,h2,h3,h4⟩
 ·exact .inl h
 ·refine .inr ⟨b,off,cap,rfl,h1,h2,by simp [World.setCell];exact h3,fun j hj=>?_⟩
  have hc:=h4 j hj;by_cases e:b=B
  ·subst e
   rw [hb.cell] at hc;exact absurd hc (hu _ _)
  ·rw [<-hc];exact World.cell?_of_block (w:=W) (Below.heap_setCell W ⟨B,i,none⟩ u' b e)
theorem El (b:Bool) (v:Value) (hv:∀ n,v≠.int .i64 n):∀ (j:Nat) n,(#[.bool b,v]:Array Value)[j]? ≠ some (.int .i64 n):=by
 intro j n;match j with
 | 0=>simp
 | 1=>simp;exact hv n
 | j+2=>simp
def CR (w:World) (Post:Value->World->Prop):Ending->World->Prop:=fun e w'=>(∃ v,e=.returned v/\Post v w')/\Below w.heap.size w w'
end
section
def EZ (xs:List Int):Nat->Nat
 | 0=>0
 | k+1=>if gi xs k=0 then EZ xs k else k+1
theorem Ge {xs:List Int} {k:Nat} (h:gi xs k=0):EZ xs (k+1)=EZ xs k:=by rw [EZ,AI h]
theorem GT {xs:List Int} {k:Nat} (h:¬ gi xs k=0):EZ xs (k+1)=k+1:=by rw [EZ,AF h]
theorem Mg (xs:List Int):∀ k,EZ xs k<=k
 | 0=>Aa _
 | k+1=>by unfold EZ;split;exact Nat.le_succ_of_le (Mg xs k);exact Aa _
def trim (xs:List Int):List Int:=xs.take (EZ xs xs.length)
theorem RE (xs:List Int):(trim xs).length<=xs.length:=by unfold trim;rw [B9];omega
def val (b:Int):List Int->Int
 | []=>0
 | x :: xs=>x+b*val b xs
def DA (b:Int) (xs:List Int):Prop:=∀ x∈xs,0<=x/\x<b
def Top (xs:List Int):Prop:=∀ k,xs.length=k+1->gi xs k≠0
structure Dm (b:Int) (xs:List Int) (n:Int):Prop where
 dig:DA b xs
 top:Top xs
 val:val b xs=n
theorem NR (b:Int) (xs ys:List Int):val b (xs++ys)=val b xs+b ^ xs.length*val b ys:=by
 induction xs with
 | nil=>simp [val]
 | cons x xs ih =>
  simp only [BK,val,ih,C4,BW];rw [C8,Int.add_assoc,AB (b ^ xs.length) b,AA]
theorem DN (b:Int) (xs:List Int) (y:Int):val b (xs++[y])=val b xs+y*b ^ xs.length:=by
 rw [NR];simp only [val,Int.mul_zero,Int.add_zero];rw [AB]
theorem DA.cons {b x:Int} {xs:List Int} (h:DA b (x :: xs)):(0<=x/\x<b)/\DA b xs :=
 ⟨h x Af,fun y hy=>h y (by simp [hy])⟩
theorem DA.append {b:Int} {xs ys:List Int} (h:DA b xs) (k:DA b ys):DA b (xs++ys):=fun x hx=>by
 rcases B7.1 hx with h' | h'
 ·exact h x h'
 ·exact k x h'
theorem DA.snoc {b:Int} {xs:List Int} {y:Int} (h:DA b xs) (h0:0<=y) (h1:y<b):DA b (xs++[y]) :=
 h.append (fun x hx=>by simp at hx;subst hx;exact ⟨h0,h1⟩)
theorem DA.nil (b:Int):DA b []:=fun _ h=>by cases h
theorem DA.take {b:Int} {xs:List Int} (h:DA b xs) (k:Nat):DA b (xs.take k):=fun x hx=>h x (List.mem_of_mem_take hx)
theorem DA.gi {b:Int} {xs:List Int} (h:DA b xs) (hb:0<b) (k:Nat):0<=gi xs k/\gi xs k<b:=by
 by_cases hk:k<xs.length
 ·rw [Hi hk];exact h _ (AC hk)
 ·rw [FS Ad];omega
theorem Ed {b:Int} (hb:0<b) (k:Nat):0<b ^ k:=Int.pow_pos hb
theorem Dk {b:Int} (hb:1<b) {xs:List Int} (h:DA b xs):0<=val b xs/\val b xs<b ^ xs.length:=by
 induction xs with
 | nil=>simp [val]
 | cons x xs ih =>
  obtain ⟨hx,hxs⟩:=h.cons;obtain ⟨i1,i2⟩:=ih hxs;have h1:0<=b*val b xs:=BF Ad i1;have h2:b*val b xs<=b*(b ^ xs.length-1):=BV Ad Ad;rw [C9,Ca] at h2;simp only [val,C4,BW];rw [AB (b ^ xs.length) b];omega
def E0 (b:Int) (d:Nat->Int):Nat->Int
 | 0=>0
 | k+1=>E0 b d k+d k*b ^ k
theorem Ez {xs:List Int} {k:Nat} (h:k<xs.length):xs.take (k+1)=xs.take k++[gi xs k]:=by
 rw [Hi h];exact List.take_succ_eq_append_getElem h
theorem Pi (b:Int) (xs:List Int):∀ k,k<=xs.length->E0 b (gi xs) k=val b (xs.take k)
 | 0,_=>by simp [E0,val]
 | k+1,h=>by
  rw [E0,Pi b xs k Ad,Ez Ad,DN];simp [Be (show k<=xs.length by omega)]
theorem ID (b:Int) (d:Nat->Int) (n:Nat) (h:∀ k,n<=k->d k=0):∀ k,n<=k->E0 b d k=E0 b d n:=by
 intro k hk;induction k with
 | zero=>obtain rfl:n=0:=Ad;rfl
 | succ k ih =>
  by_cases e:n=k+1
  ·rw [e]
  ·rw [E0,h k Ad,ih Ad];simp
theorem DG (b:Int) (xs:List Int) {n:Nat} (hn:xs.length<=n):E0 b (gi xs) n=val b xs:=by
 rw [ID b (gi xs) xs.length (fun k hk=>FS hk) n hn,Pi b xs _ (Aa _),BM]
theorem JF (b:Int) (d e:Nat->Int):∀ k,E0 b (fun j=>d j+e j) k=E0 b d k+E0 b e k
 | 0=>rfl
 | k+1=>by simp only [E0,JF b d e k,Cb];omega
theorem JG (b:Int) (d e:Nat->Int):∀ k,E0 b (fun j=>d j-e j) k=E0 b d k-E0 b e k
 | 0=>rfl
 | k+1=>by simp only [E0,JG b d e k,Int.sub_mul];omega
theorem Mh (b m:Int) (d:Nat->Int):∀ k,E0 b (fun j=>d j*m) k=E0 b d k*m
 | 0=>by simp [E0]
 | k+1=>by simp only [E0,Mh b m d k,Cb];rw [Int.mul_right_comm]
theorem KO (b:Int) (xs:List Int):∀ k,k<=xs.length->val b (xs.take (EZ xs k))=val b (xs.take k)
 | 0,_=>rfl
 | k+1,h=>by
  by_cases hz:gi xs k=0
  ·rw [Ge hz,KO b xs k Ad,Ez Ad,DN,hz];simp
  ·rw [GT hz]
theorem KP (xs:List Int):∀ k,k<=xs.length->∀ j,EZ xs k=j+1->gi xs j≠0
 | 0,_,_,h=>by simp [EZ] at h
 | k+1,hk,j,h=>by
  by_cases hz:gi xs k=0
  ·rw [Ge hz] at h;exact KP xs k Ad j h
  ·rw [GT hz] at h;obtain rfl:k=j:=by omega
   exact hz
theorem Dm.trim {b:Int} {xs:List Int} (h:DA b xs):Dm b (trim xs) (Go.Proofs.YtdkonnnmkceagaaGreatDoor.val b xs):=by
 have hle:=Mg xs xs.length;refine ⟨h.take _,fun k hk=>?_,?_⟩
 ·have hk':EZ xs xs.length=k+1:=by
   unfold Go.Proofs.YtdkonnnmkceagaaGreatDoor.trim at hk;rw [B9] at hk;omega
  unfold Go.Proofs.YtdkonnnmkceagaaGreatDoor.trim
  rw [Ph Ad]
  exact KP xs _ (Aa _) k hk'
 ·unfold Go.Proofs.YtdkonnnmkceagaaGreatDoor.trim
  rw [KO b xs _ (Aa _),BM]
theorem Dm.nonneg {b n:Int} (hb:1<b) {xs:List Int} (h:Dm b xs n):0<=n:=by rw [<-h.val];exact (Dk hb h.dig).1
theorem Dm.lt {b n:Int} (hb:1<b) {xs:List Int} (h:Dm b xs n):n<b ^ xs.length:=by rw [<-h.val];exact (Dk hb h.dig).2
theorem Dm.ge {b n:Int} (hb:1<b) {xs:List Int} (h:Dm b xs n) {k:Nat} (hk:xs.length=k+1):b ^ k<=n:=by
 have ht:=h.top k hk;have hg:=h.dig.gi Ad k;have e:xs=xs.take k++[gi xs k]:=by rw [<-Ez Ad,<-hk,BM]
 have hv:=h.val;rw [e,DN,B9,Be Ad] at hv;have h0:=(Dk hb (h.dig.take k)).1;have hp:=Ed (show 0<b by omega) k;have:1*b ^ k<=gi xs k*b ^ k:=Az Ad Ad;omega
theorem Dm.zero_iff {b n:Int} (hb:1<b) {xs:List Int} (h:Dm b xs n):xs=[]↔n=0:=by
 constructor
 ·rintro rfl;rw [<-h.val];rfl
 ·rintro rfl
  cases hx:xs.length with
  | zero=>exact AS hx
  | succ k=>have:=h.ge hb hx;have:=Ed (show 0<b by omega) k;omega
theorem Ee {b:Int} (hb:1<b) {j k:Nat} (h:j<=k):b ^ j<=b ^ k:=by
 induction k with
 | zero=>obtain rfl:j=0:=Ad;exact Cc _
 | succ k ih =>
  by_cases e:j=k+1
  ·rw [e];exact Cc _
  ·have h1:=ih Ad
   have hp:=Ed (show 0<b by omega) k;have:b ^ k*1<=b ^ k*b:=BV Ad Ad;rw [BW];omega
theorem pow_lt {b:Int} (hb:1<b) {j k:Nat} (h:b ^ j<b ^ k):j<k:=by
 by_cases e:j<k
 ·exact e
 ·have:=Ee hb (show k<=j by omega);omega
theorem Dm.len_lt {b m n:Int} (hb:1<b) {xs ys:List Int} (h:Dm b xs m) (k:Dm b ys n) (hl:xs.length<ys.length):m<n:=by
 obtain ⟨j,hj⟩:∃ j,ys.length=j+1:=⟨ys.length-1,Ad⟩;have h1:=h.lt hb;have h2:=k.ge hb hj;have h3:=Ee hb (show xs.length<=j by omega);omega
theorem Dm.length_le {b n:Int} (hb:1<b) {xs:List Int} (h:Dm b xs n) {m:Nat} (hn:n<b ^ m):xs.length<=m:=by
 by_cases e:xs.length<=m
 ·exact e
 ·obtain ⟨j,hj⟩:∃ j,xs.length=j+1:=⟨xs.length-1,Ad⟩
  have h1:=h.ge hb hj;have h2:=Ee hb (show m<=j by omega);omega
theorem Dm.len_le {b m n:Int} (hb:1<b) {xs ys:List Int} (h:Dm b xs m) (k:Dm b ys n) (hl:m<=n):xs.length<=ys.length:=by
 by_cases e:xs.length<=ys.length
 ·exact e
 ·have:=k.len_lt hb h Ad;omega
theorem Q8 (s c p v:Int) (hv:v+c*p=s) (d:Int) (q:Int) (c':Int) (he:d+c=q+10000*c'):(v+q*p)+c'*(p*10000)=s+d*p:=by
 have e:c'*(p*10000)=(10000*c')*p:=by rw [AB p,<-AA,AB c']
 have e2:d+c-q=10000*c':=by omega
 have e3:(d+c-q)*p=d*p+c*p-q*p:=by rw [Int.sub_mul,Cb]
 rw [e,<-e2,e3];omega
end
section
open Go.RowKit
theorem at_any (v:Value) (xs:List Int) (i:Int) (w:World) (h:Sl w v xs) (h0:0<=i) :
  Calls Tryz.prog 91 #[v,.int .i64 i] w fun e w'=>e=.returned (.int .i64 (gi xs i.toNat))/\w=w':=by
 have hl:=h.len_le
 unfold maxLen at hl
 obtain ⟨k,rfl⟩:=Cd h0
 rcases h with ⟨rfl,rfl⟩ | ⟨b,off,cap,rfl,h1,h2,h3,h4⟩
 ·go_enter Tryz.func91,Tryz.ntmps91
  go_wp2;go_ret;exact ⟨by simp [gi],rfl⟩
 ·by_cases hk:k<xs.length
  ·have hc:=h4 k hk
   clear h4;go_enter Tryz.func91,Tryz.ntmps91;go_wp2;go_ret;exact ⟨D9 (by rw [Int.toNat_natCast]),rfl⟩
  ·go_enter Tryz.func91,Tryz.ntmps91
   go_wp2;go_ret;exact ⟨D9 (by rw [Int.toNat_natCast,FS Ad]),rfl⟩
theorem ED (v:Value) (xs:List Int) (w:World) (h:Sl w v xs) :
  Calls Tryz.prog 85 #[v] w fun e w'=>(∃ v',e=.returned v'/\Sl w v' (trim xs)/\v'.ptr? = v.ptr?)/\w=w':=by
 have hl:=h.len_le
 unfold maxLen at hl
 rcases h with ⟨rfl,rfl⟩ | ⟨b,off,cap,rfl,h1,h2,h3,h4⟩
 ·go_enter Tryz.func85,Tryz.ntmps85
  go_wp2;go_loop [0] (fun s=>s=.slice none 0 0) (fun _=>0);case atStart=>rfl
  case round =>
   obtain rfl:=hrel;go_wp2;go_ret;exact ⟨⟨_,rfl,.inl ⟨rfl,rfl⟩,rfl⟩,rfl⟩
 ·go_enter Tryz.func85,Tryz.ntmps85
  go_wp2;go_loop [0] (fun s=>∃ k:Nat,s=.slice (some ⟨b,off,none⟩) k cap/\k<=xs.length/\Hid (EZ xs xs.length=EZ xs k)) (fun s=>Pg s);case atStart=>exact ⟨_,rfl,Aa _,rfl⟩
  case round =>
   obtain ⟨k,rfl,hk,hT⟩:=hrel;cases k with
   | zero =>
    go_wp2;go_ret;exact ⟨⟨_,rfl,by unfold trim;rw [hT.out];exact Sl.take 0 (AE _) h1 h2 h3 h4,rfl⟩,rfl⟩
   | succ k =>
    have hc:=h4 k Ad;by_cases hz:gi xs k=0
    ·have hz':(gi xs k==0)=true:=by simp [hz]
     go_wp2;go_round;case rel=>exact ⟨k,by rfl,Ad,hT.out.trans (Ge hz)⟩
     case measure=>simp [Pg]
    ·have hz':(gi xs k==0)=false:=by simp [hz]
     go_wp2;go_ret;refine ⟨⟨_,rfl,?_,rfl⟩,rfl⟩;have e:trim xs=xs.take (k+1):=by unfold trim;rw [hT.out,GT hz]
     rw [e];exact Sl.take (k+1) hk h1 h2 h3 h4
theorem Gx:(Tryz.prog.info? 3).map (fun i=>(i.zero,i.size,i.bytes))=some (some (.int .i64 0),1,8):=by kernel_rfl
theorem D4 {ops:Array Oper} {rest:List Oper} {o:Oper} {a:Act} {Q:Exit->Act->World->Prop} {wr:World} {base:Nat} {v:Value} {n:Nat} {xs:List Int} (y:Int) (t:TypeId)
  (ht:Tryz.prog.underlying t=some (.slice 3)) (hgd:o.guard=none) (s x:Operand) (ho:o.op=.call { callee:=.builtin .append,args:=#[s,x],argTypes:=#[t,t] })
  (hs:a.eval s=v) (hx:a.eval x=.slice (some ⟨wr.heap.size,0,none⟩) 1 1) (hown:wr.ownsRow base 3 1 v n (xs.map (Value.int .i64))) (hn:n+1<=1000000000000) (hbase:base<=wr.heap.size)
  (h:∀ g cap w',w'.ownsRow base 3 1 (.slice (some ⟨g,0,none⟩) (n+1) cap) (n+1) ((xs++[y]).map (Value.int .i64))->(wr.alloc (.cells #[.int .i64 y] 3)).grownBy w' v.ownBlock->Below base wr w'->wpList Tryz.prog ops Q rest (a.put o.dst (.slice (some ⟨g,0,none⟩) (n+1) cap)) w') :
  wpList Tryz.prog ops Q (o :: rest) a (wr.alloc (.cells #[.int .i64 y] 3)):=by
 obtain ⟨i0,hi,hz0,hz1,hz2⟩:=info_parts Gx
 refine wpList_append_own _ hgd s x t ho base 3 i0 (.int .i64 0) 1 8 ht hi hz0 hz1 hz2 rfl Ae v n _ hs (hown.alloc _) ⟨wr.heap.size,0,none⟩ 1 1 [.int .i64 y] hx rfl (by intro t u ht;match t,ht with | 0,ht=>simp at ht;subst ht;simp [Addr.add]) (by intro u hu;simp at hu;subst hu;rfl) (by unfold maxLen;omega) Ad (by simp;omega) ?_
 intro v' w' hown' hgrow hnil
 rcases hown'.2 with ⟨_,h0⟩ | ⟨g,cap,cur,rfl,hg⟩
 ·omega
 ·refine h g cap w' (by rw [AO];exact hown') hgrow ?_
  refine ((Below.refl base wr).alloc hbase _).grown hgrow (by simp;omega) (fun k hk=>?_);exact (hown.lt k hk).1
def nz (v:Value):Nat:=if intOf v=0 then 0 else 1
theorem nz_le (v:Value):nz v<=1:=by unfold nz;split <;> omega
theorem Jq {a b:Nat} {u v:Value} (h:a<b):2*a+nz u<2*b+nz v:=by have:=nz_le u;omega
theorem GU {d:Nat->Int} {k:Nat} {cc q c':Int} {zs:List Int} (hd:-9999<=d k/\d k<=99980001) (hc1:-1<=cc) (hc2:cc<=9999) (hlen:zs.length=k) (hdig:DA 10000 zs)
  (hsum:Hid (val 10000 zs+cc*10000 ^ k=E0 10000 d k)) (hq0:0<=q) (hq1:q<10000) (he:d k+cc=q+10000*c') :
  -1<=c'/\c'<=9999/\(zs++[q]).length=k+1/\DA 10000 (zs++[q])/\Hid (val 10000 (zs++[q])+c'*10000 ^ (k+1)=E0 10000 d (k+1)):=by
 refine ⟨Ad,Ad,by simp [hlen],hdig.snoc hq0 hq1,?_⟩
 show val 10000 (zs++[q])+c'*10000 ^ (k+1)=E0 10000 d (k+1)
 rw [DN,hlen,E0,BW]
 exact Q8 _ _ _ _ hsum.out _ _ _ he
theorem NS {d:Nat->Int} {n k:Nat} {cc:Int} {zs:List Int} (hd0:∀ k,n<=k->d k=0) (hT:0<=E0 10000 d n) (hlen:zs.length=k) (hdig:DA 10000 zs)
  (hsum:Hid (val 10000 zs+cc*10000 ^ k=E0 10000 d k)) (hk:n<=k):0<=cc:=by
 have h:=hsum.out
 rw [ID 10000 d n hd0 k hk] at h
 have hb:=(Dk (show (1:Int)<10000 by decide) hdig).2
 rw [hlen] at hb
 by_cases hc:0<=cc
 ·exact hc
 ·have:cc*10000 ^ k<=(-1)*10000 ^ k:=Az Ad (Ce (Ed Ae k))
  omega
theorem RG {d:Nat->Int} {n k:Nat} {cc:Int} {zs:List Int} (hd0:∀ k,n<=k->d k=0) (hsum:Hid (val 10000 zs+cc*10000 ^ k=E0 10000 d k)) (hk:n<=k) (hc:cc=0):val 10000 zs=E0 10000 d n:=by
 have h:=hsum.out;rw [ID 10000 d n hd0 k hk,hc] at h;simpa using h
theorem JH (n:Nat) (f:Nat) (cap:Array Value) (d:Nat->Int) (w:World) (hn:n<=1000000)
  (hd:∀ k,-9999<=d k/\d k<=99980001) (hd0:∀ k,n<=k->d k=0) (hT:0<=E0 10000 d n)
  (hE:∀ (args:Array Value) (w:World),(callFunc f args).run Tryz.prog w=.ok (.enter f args) w)
  (hF:∀ (W:World) (i:Nat),Below w.heap.size w W->Calls Tryz.prog f (#[.int .i64 i]++cap) W fun e W'=>e=.returned (.int .i64 (d i))/\Below W.heap.size W W') :
  Calls Tryz.prog 89 #[.int .i64 n,.int .i64 0,.func (.func f) #[] cap] w
   (CR w fun v w'=>∃ zs,Sl w' v zs/\DA 10000 zs/\val 10000 zs=E0 10000 d n/\Et w v):=by
 obtain ⟨i0,hi,hz0,hz1,hz2⟩:=info_parts Gx
 go_enter Tryz.func89,Tryz.ntmps89
 go_wp2_with (at_make;refine wpList_make_own _ rfl _ _ 97 rfl w.heap.size 3 i0 (.int .i64 0) 1 Tryz.underlying97 hi hz0 hz1 _ _ _ (n+1) rfl rfl Ad (by rw [hz2];omega) (by unfold maxLen;omega) (Aa _) ?_;intro w0 hown0 hgrow0)
 have hb0:Below w.heap.size w w0:=(Below.refl _ _).grown hgrow0 (Aa _) (fun k h=>by cases h)
 go_loopw [1,7,8] (fun c out i wr=>∃ (k:Nat) (cc:Int) (zs:List Int),i=.int .i64 k/\c=.int .i64 cc/\-1<=cc/\cc<=9999/\k<=n+1/\zs.length=k/\DA 10000 zs /\
   Hid (val 10000 zs+cc*10000 ^ k=E0 10000 d k)/\(n<k->Hid (cc=0))/\wr.ownsRow w.heap.size 3 1 out k (zs.map (Value.int .i64))/\Below w.heap.size w wr)
  (fun c _ i _=>2*(n+2-(intOf i).toNat)+nz c)
 case atStart=>exact ⟨0,0,[],rfl,rfl,Ad,Ad,Ad,rfl,DA.nil _,(rfl:val 10000 []+0*10000 ^ 0=0),fun h=>by omega,hown0,hb0⟩
 case round =>
  obtain ⟨k,cc,zs,rfl,rfl,hc1,hc2,hk,hlen,hdig,hsum,hz,hown,hnx⟩:=hrel;have hdk:=hd k;have hcarry:=NS hd0 hT hlen hdig hsum;by_cases hkn:k<n
  ·by_cases hlt:d k+cc<0
   ·go_wp2_with fail
    refine (hF wr k hnx).mono ?_;rintro e W' ⟨rfl,hb⟩;have hown:=DE hown hb;go_wp2_with (at_builtin;refine D4 (d k+cc+10000) 97 Tryz.underlying97 rfl _ _ rfl rfl rfl hown Ad (by have:=hnx.size;have:=hb.size;omega) ?_;intro g cap' w1 hown1 _ hb1);obtain ⟨a1,a2,a3,a4,a5⟩:=GU (q:=d k+cc+10000) (c':=-1) (hd k) hc1 hc2 hlen hdig hsum Ad Ad Ad;go_roundw;case rel=>exact ⟨k+1,-1,zs++[d k+cc+10000],by go_num,rfl,a1,a2,Ad,a3,a4,a5,fun h=>by omega,hown1,(hnx.trans (hb.mono hnx.size)).trans hb1⟩
    case measure=>exact Jq (by simp [intOf];omega)
   ·by_cases hge:10000<=d k+cc
    ·go_wp2_with fail
     refine (hF wr k hnx).mono ?_;rintro e W' ⟨rfl,hb⟩;have hown:=DE hown hb;go_wp2_with (at_builtin;refine D4 ((d k+cc) % 10000) 97 Tryz.underlying97 rfl _ _ rfl rfl rfl hown Ad (by have:=hnx.size;have:=hb.size;omega) ?_;intro g cap' w1 hown1 _ hb1);obtain ⟨a1,a2,a3,a4,a5⟩:=GU (q:=(d k+cc) % 10000) (c':=(d k+cc) / 10000) (hd k) hc1 hc2 hlen hdig hsum Ad Ad Ad;go_roundw;case rel=>exact ⟨k+1,(d k+cc) / 10000,zs++[(d k+cc) % 10000],by go_num,rfl,a1,a2,Ad,a3,a4,a5,fun h=>by omega,hown1,(hnx.trans (hb.mono hnx.size)).trans hb1⟩
     case measure=>exact Jq (by simp [intOf];omega)
    ·go_wp2_with fail
     refine (hF wr k hnx).mono ?_;rintro e W' ⟨rfl,hb⟩;have hown:=DE hown hb;go_wp2_with (at_builtin;refine D4 (d k+cc) 97 Tryz.underlying97 rfl _ _ rfl rfl rfl hown Ad (by have:=hnx.size;have:=hb.size;omega) ?_;intro g cap' w1 hown1 _ hb1);obtain ⟨a1,a2,a3,a4,a5⟩:=GU (q:=d k+cc) (c':=0) (hd k) hc1 hc2 hlen hdig hsum Ad Ad Ad;go_roundw;case rel=>exact ⟨k+1,0,zs++[d k+cc],by go_num,rfl,a1,a2,Ad,a3,a4,a5,fun _=>rfl,hown1,(hnx.trans (hb.mono hnx.size)).trans hb1⟩
     case measure=>exact Jq (by simp [intOf];omega)
  ·have hcz:=hcarry Ad
   by_cases hcc:cc=0
   ·have hcb:(cc != 0)=false:=by rw [hcc];rfl
    have hfin:=A8 (RG hd0 hsum Ad hcc);clear hcc;go_wp2_with fail;go_ret;exact ⟨⟨_,rfl,zs,Sl.of_own hown,hdig,hfin.out,Et.of_own hown (Aa _)⟩,hnx⟩
   ·have hcb:(cc != 0)=true:=by simp [hcc]
    have hkn':k<=n:=by
     by_cases h:n<k
     ·exact absurd (hz h).out hcc
     ·omega
    have hd00:d k=0:=hd0 k Ad;have hnot:¬ 10000<=d k+cc:=by omega
    have hnot2:¬ d k+cc<0:=by omega
    clear hd00;go_wp2_with fail;refine (hF wr k hnx).mono ?_;rintro e W' ⟨rfl,hb⟩;have hown:=DE hown hb;go_wp2_with (at_builtin;refine D4 (d k+cc) 97 Tryz.underlying97 rfl _ _ rfl rfl rfl hown Ad (by have:=hnx.size;have:=hb.size;omega) ?_;intro g cap' w1 hown1 _ hb1);obtain ⟨a1,a2,a3,a4,a5⟩:=GU (q:=d k+cc) (c':=0) (hd k) hc1 hc2 hlen hdig hsum Ad Ad Ad;go_roundw;case rel=>exact ⟨k+1,0,zs++[d k+cc],by go_num,rfl,a1,a2,Ad,a3,a4,a5,fun _=>rfl,hown1,(hnx.trans (hb.mono hnx.size)).trans hb1⟩
    case measure=>exact Jq (by simp [intOf];omega)
theorem JI (v:Value) (xs:List Int) (k n:Nat) (w:World) (h:Sl w v xs) :
  Calls Tryz.prog 91 #[v,.int .i64 k] (w.drewN n) fun e w''=>e=.returned (.int .i64 (gi xs k))/\∃ m,w''=w.drewN m :=
 (at_any v xs k _ (h.drewN n) Ad).mono fun _ _ ⟨he,hw⟩=>⟨by rw [he,Int.toNat_natCast],n,hw.symm⟩
theorem Q9 (k p q:Nat) (v u:Value) (xs ys:List Int) (w:World) (hp:w.cell? ⟨p,0,none⟩=some v) (hq:w.cell? ⟨q,0,none⟩=some u) (hv:Sl w v xs) (hu:Sl w u ys) (hx:DA 10000 xs) (hy:DA 10000 ys) :
  Calls Tryz.prog 90 #[.int .i64 k,.pointer (some ⟨p,0,none⟩),.pointer (some ⟨q,0,none⟩)] w fun e w'=>e=.returned (.int .i64 (gi xs k+gi ys k))/\Below w.heap.size w w':=by
 have bx:=hx.gi Ae k
 have bY:=hy.gi Ae k
 have e1:IntKind.i64.wrap (gi xs k+gi ys k)=gi xs k+gi ys k:=Bz _ Ad
 go_enter Tryz.func90,Tryz.ntmps90
 go_wp2
 go_quiet ((first | (go_at_call 91;exact JI _ _ _ _ _ (by assumption))))
 go_wp2
 go_ret
 exact ⟨D9 rfl,CN _ _⟩
theorem NT (k p q:Nat) (v u:Value) (xs ys:List Int) (w:World) (hp:w.cell? ⟨p,0,none⟩=some v) (hq:w.cell? ⟨q,0,none⟩=some u) (hv:Sl w v xs) (hu:Sl w u ys) (hx:DA 10000 xs) (hy:DA 10000 ys) :
  Calls Tryz.prog 92 #[.int .i64 k,.pointer (some ⟨p,0,none⟩),.pointer (some ⟨q,0,none⟩)] w fun e w'=>e=.returned (.int .i64 (gi xs k-gi ys k))/\Below w.heap.size w w':=by
 have bx:=hx.gi Ae k
 have bY:=hy.gi Ae k
 have e1:IntKind.i64.wrap (gi xs k-gi ys k)=gi xs k-gi ys k:=Bz _ Ad
 go_enter Tryz.func92,Tryz.ntmps92
 go_wp2
 go_quiet ((first | (go_at_call 91;exact JI _ _ _ _ _ (by assumption))))
 go_wp2
 go_ret
 exact ⟨D9 rfl,CN _ _⟩
theorem by1_any (k p q:Nat) (v:Value) (n:Int) (xs:List Int) (w:World) (hp:w.cell? ⟨p,0,none⟩=some v) (hq:w.cell? ⟨q,0,none⟩=some (.int .i64 n)) (hv:Sl w v xs) (hx:DA 10000 xs) (hn0:0<=n) (hn1:n<=9999) :
  Calls Tryz.prog 111 #[.int .i64 k,.pointer (some ⟨p,0,none⟩),.pointer (some ⟨q,0,none⟩)] w fun e w'=>e=.returned (.int .i64 (gi xs k*n))/\Below w.heap.size w w':=by
 have bx:=hx.gi Ae k
 have b1:0<=gi xs k*n:=BF bx.1 hn0
 have b2:gi xs k*n<=9999*9999:=Int.mul_le_mul Ad hn1 hn0 Ae
 have e1:IntKind.i64.wrap (gi xs k*n)=gi xs k*n:=Bz _ Ad
 go_enter Tryz.func111,Tryz.ntmps111
 go_wp2
 go_quiet ((first | (go_at_call 91;exact JI _ _ _ _ _ (by assumption))))
 go_wp2
 go_ret
 exact ⟨D9 rfl,CN _ _⟩
theorem Qa (n p q:Nat) (v u:Value) (xs ys:List Int) (w:World) (hp:w.cell? ⟨p,0,none⟩=some v) (hq:w.cell? ⟨q,0,none⟩=some u) (lp:p<w.heap.size) (lq:q<w.heap.size) (hv:Sl w v xs) (hu:Sl w u ys) (hx:DA 10000 xs) (hy:DA 10000 ys)
  (h1:xs.length<=n) (h2:ys.length<=n) (hn:n<=1000000) :
  Calls Tryz.prog 89 #[.int .i64 n,.int .i64 0,.func (.func 90) #[] #[.pointer (some ⟨p,0,none⟩),.pointer (some ⟨q,0,none⟩)]] w
   (CR w fun r w'=>∃ zs,Sl w' r zs/\DA 10000 zs/\val 10000 zs=val 10000 xs+val 10000 ys/\Et w r):=by
 have hs:E0 10000 (fun k=>gi xs k+gi ys k) n=val 10000 xs+val 10000 ys:=by
  rw [JF,DG _ _ h1,DG _ _ h2]
 have b1:=(Dk (show (1:Int)<10000 by decide) hx).1
 have b2:=(Dk (show (1:Int)<10000 by decide) hy).1
 rw [<-hs]
 exact JH n 90 _ (fun k=>gi xs k+gi ys k) w hn (fun k=>by have:=hx.gi Ae k;have:=hy.gi Ae k;constructor <;> omega) (fun k hk=>by rw [FS Ad,FS Ad];rfl) Ad
  (Go.Proofs.enters_of Tryz.func90 Ab rfl)
  (fun W i hb=>Q9 i p q v u xs ys W ((hb.cell (p:=⟨p,0,none⟩) lp).trans hp) ((hb.cell (p:=⟨q,0,none⟩) lq).trans hq) (hv.below hb) (hu.below hb) hx hy)
theorem I7 (v u:Value) (xs ys:List Int) (w:World) (hv:Sl w v xs) (hu:Sl w u ys) (hx:DA 10000 xs) (hy:DA 10000 ys) (hlx:xs.length<=100000) (hly:ys.length<=100000) :
  Calls Tryz.prog 55 #[v,u] w (CR w fun r w'=>∃ zs,Sl w' r zs/\Dm 10000 zs (val 10000 xs+val 10000 ys)/\Et w r):=by
 have hb0:Below w.heap.size w ((w.alloc (.cells #[v] 97)).alloc (.cells #[u] 97)):=((Below.refl _ _).alloc (Aa _) _).alloc Af _
 have hv0:=hv.below hb0
 have hu0:=hu.below hb0
 obtain ⟨a1,c1,rfl⟩:=hv.shape
 obtain ⟨a2,c2,rfl⟩:=hu.shape
 go_enter Tryz.func55,Tryz.ntmps55
 go_wp2_with fail
 all_goals
  refine (Qa _ _ _ _ _ xs ys _ Af Af (by simp;omega) Af hv0 hu0 hx hy Ad Ad Ad).mono ?_
  rintro e w1 ⟨⟨r,rfl,zs,hz,hd,hval,hfr⟩,hb⟩
  go_wp2_with (go_at_call 85;refine (ED _ zs _ hz).mono ?_;rintro e w2 ⟨⟨r2,rfl,hz2,hp2⟩,rfl⟩)
  go_ret
  exact ⟨⟨_,rfl,_,hz2,by rw [<-hval];exact Dm.trim hd,(hfr.of_ptr hp2).mono hb0.size⟩,hb0.trans (hb.mono hb0.size)⟩
theorem NU (p q:Nat) (v u:Value) (xs ys:List Int) (w:World) (hp:w.cell? ⟨p,0,none⟩=some v) (hq:w.cell? ⟨q,0,none⟩=some u) (lp:p<w.heap.size) (lq:q<w.heap.size) (hv:Sl w v xs) (hu:Sl w u ys) (hx:DA 10000 xs) (hy:DA 10000 ys)
  (h2:ys.length<=xs.length) (hn:xs.length<=1000000) (hle:val 10000 ys<=val 10000 xs) :
  Calls Tryz.prog 89 #[.int .i64 xs.length,.int .i64 0,.func (.func 92) #[] #[.pointer (some ⟨p,0,none⟩),.pointer (some ⟨q,0,none⟩)]] w
   (CR w fun r w'=>∃ zs,Sl w' r zs/\DA 10000 zs/\val 10000 zs=val 10000 xs-val 10000 ys/\Et w r):=by
 have hs:E0 10000 (fun k=>gi xs k-gi ys k) xs.length=val 10000 xs-val 10000 ys:=by
  rw [JG,DG _ _ (Aa _),DG _ _ h2]
 rw [<-hs]
 exact JH xs.length 92 _ (fun k=>gi xs k-gi ys k) w hn (fun k=>by have:=hx.gi Ae k;have:=hy.gi Ae k;constructor <;> omega) (fun k hk=>by rw [FS Ad,FS Ad];rfl) Ad
  (Go.Proofs.enters_of Tryz.func92 Ab rfl)
  (fun W i hb=>NT i p q v u xs ys W ((hb.cell (p:=⟨p,0,none⟩) lp).trans hp) ((hb.cell (p:=⟨q,0,none⟩) lq).trans hq) (hv.below hb) (hu.below hb) hx hy)
theorem FU (v u:Value) (xs ys:List Int) (w:World) (hv:Sl w v xs) (hu:Sl w u ys) (hx:DA 10000 xs) (hy:DA 10000 ys) (hlx:xs.length<=100000) (hly:ys.length<=xs.length) (hle:val 10000 ys<=val 10000 xs) :
  Calls Tryz.prog 57 #[v,u] w (CR w fun r w'=>∃ zs,Sl w' r zs/\Dm 10000 zs (val 10000 xs-val 10000 ys)/\Et w r):=by
 have hb0:Below w.heap.size w ((w.alloc (.cells #[v] 97)).alloc (.cells #[u] 97)):=((Below.refl _ _).alloc (Aa _) _).alloc Af _
 have hv0:=hv.below hb0
 have hu0:=hu.below hb0
 obtain ⟨a1,c1,rfl⟩:=hv.shape
 obtain ⟨a2,c2,rfl⟩:=hu.shape
 go_enter Tryz.func57,Tryz.ntmps57
 go_wp2_with fail
 refine (NU _ _ _ _ xs ys _ Af Af (by simp;omega) Af hv0 hu0 hx hy hly Ad hle).mono ?_
 rintro e w1 ⟨⟨r,rfl,zs,hz,hd,hval,hfr⟩,hb⟩
 go_wp2_with (go_at_call 85;refine (ED _ zs _ hz).mono ?_;rintro e w2 ⟨⟨r2,rfl,hz2,hp2⟩,rfl⟩)
 go_ret
 exact ⟨⟨_,rfl,_,hz2,by rw [<-hval];exact Dm.trim hd,(hfr.of_ptr hp2).mono hb0.size⟩,hb0.trans (hb.mono hb0.size)⟩
theorem by_fold (p q:Nat) (v:Value) (n:Int) (xs:List Int) (w:World) (hp:w.cell? ⟨p,0,none⟩=some v) (hq:w.cell? ⟨q,0,none⟩=some (.int .i64 n)) (lp:p<w.heap.size) (lq:q<w.heap.size) (hv:Sl w v xs) (hx:DA 10000 xs)
  (hl:xs.length<=1000000) (hn0:0<=n) (hn1:n<=9999) :
  Calls Tryz.prog 89 #[.int .i64 xs.length,.int .i64 0,.func (.func 111) #[] #[.pointer (some ⟨p,0,none⟩),.pointer (some ⟨q,0,none⟩)]] w
   (CR w fun r w'=>∃ zs,Sl w' r zs/\DA 10000 zs/\val 10000 zs=val 10000 xs*n/\Et w r):=by
 have hs:E0 10000 (fun k=>gi xs k*n) xs.length=val 10000 xs*n:=by
  rw [Mh,DG _ _ (Aa _)]
 have h0:=BF (Dk (show (1:Int)<10000 by decide) hx).1 hn0
 rw [<-hs]
 exact JH xs.length 111 _ (fun k=>gi xs k*n) w hl
  (fun k=>by
   have bx:=hx.gi Ae k;have b1:0<=gi xs k*n:=BF bx.1 hn0;have b2:gi xs k*n<=9999*9999:=Int.mul_le_mul Ad hn1 hn0 Ae;constructor <;> omega)
  (fun k hk=>by rw [FS Ad,Int.zero_mul]) Ad
  (Go.Proofs.enters_of Tryz.func111 Ab rfl)
  (fun W i hb=>by1_any i p q v n xs W ((hb.cell (p:=⟨p,0,none⟩) lp).trans hp) ((hb.cell (p:=⟨q,0,none⟩) lq).trans hq) (hv.below hb) hx hn0 hn1)
theorem JJ (v:Value) (n:Int) (xs:List Int) (w:World) (hv:Sl w v xs) (hx:DA 10000 xs) (hlx:xs.length<=100000) (hn0:0<=n) (hn1:n<=9999) :
  Calls Tryz.prog 86 #[v,.int .i64 n] w (CR w fun r w'=>∃ zs,Sl w' r zs/\Dm 10000 zs (val 10000 xs*n)/\Et w r):=by
 have hb0:Below w.heap.size w ((w.alloc (.cells #[v] 97)).alloc (.cells #[.int .i64 n] 3)):=((Below.refl _ _).alloc (Aa _) _).alloc Af _
 have hv0:=hv.below hb0
 obtain ⟨a1,c1,rfl⟩:=hv.shape
 go_enter Tryz.func86,Tryz.ntmps86
 go_wp2_with fail
 refine (by_fold _ _ _ n xs _ Af Af (by simp;omega) Af hv0 hx Ad hn0 hn1).mono ?_
 rintro e w1 ⟨⟨r,rfl,zs,hz,hd,hval,hfr⟩,hb⟩
 go_wp2_with (go_at_call 85;refine (ED _ zs _ hz).mono ?_;rintro e w2 ⟨⟨r2,rfl,hz2,hp2⟩,rfl⟩)
 go_ret
 exact ⟨⟨_,rfl,_,hz2,by rw [<-hval];exact Dm.trim hd,(hfr.of_ptr hp2).mono hb0.size⟩,hb0.trans (hb.mono hb0.size)⟩
end
section
open Go.RowKit Go.Shelf
attribute [local go_sem] Oper.semAt_some
def CZ (n:Nat):Nat->List (Fin n)
 | 0=>[]
 | k+1=>if h:k<n then CZ n k++[⟨n-1-k,Ad⟩] else CZ n k
theorem DU {n k:Nat} (h:k<n):CZ n (k+1)=CZ n k++[⟨n-1-k,Ad⟩]:=by rw [CZ,dif_pos h]
theorem I8 (n:Nat):∀ k,k<=n->(CZ n k).length=k
 | 0,_=>rfl
 | k+1,h=>by rw [DU Ad,BP,I8 n k Ad];rfl
def Jl (T:List Nat) (A B:World):Prop:=∀ k∈T,B.heap[k]? = A.heap[k]?
theorem Jl.trans {T:List Nat} {A B C:World} (h:Jl T A B) (k:Jl T B C):Jl T A C:=fun i hi=>(k i hi).trans (h i hi)
theorem Jl.cell {T:List Nat} {A B:World} (h:Jl T A B) {p:Addr} (hp:p.block∈T):B.cell? p=A.cell? p:=World.cell?_of_block (w:=A) (h _ hp)
theorem Jl.putObj {T:List Nat} {w:World} (hT:∀ k∈T,k<w.heap.size) (W:World) (l:Nat) (o o':Obj) (hl:w.heap.size<=l) (_:W.heap[l]? = some o) (_:o.isCells=false) (_:o.isWalk=false):Jl T W (W.putObj l o') :=
 fun k hk=>World.putObj_heap_other (by have:=hT k hk;omega)
theorem RH (F:Fence) (n:Nat) (h7:F.fn 110) (hro:F.round=none) (hn:1<=n) (l Bs b off cap:Nat) (T:List Nat) (xs:List Int) (hreach:xs.length<=maxLen) (hb:b∈T) (J Jx:List (Fin xs.length)->World->Prop)
  (hY:∀ pre x W,J pre W->pre.length<xs.length->YieldAt F (n-1) Tryz.prog l #[.int .i64 (x.1:Int),.int .i64 (gi xs x.1)] W fun e W' =>
   (e=.returned (.bool true)/\J (pre++[x]) W'/\Jl T W W')∨(e=.returned (.bool false)/\Jx (pre++[x]) W'))
  (W:World) (hBs:W.cell? ⟨Bs,0,none⟩=some (.slice (some ⟨b,off,none⟩) xs.length cap)) (hlt:Bs∈T) (hc:∀ j,j<xs.length->W.cell? ⟨b,off+j,none⟩=some (.int .i64 (gi xs j))) (h0:J [] W) :
  CallsIn F n Tryz.prog 110 #[.func (.yield l) #[] #[],.pointer (some ⟨Bs,0,none⟩)] W fun e W'=>(∃ v,e=.returned v) /\
   ((∃ ys,ys=CZ xs.length xs.length/\J ys W')∨(∃ pre,(∃ k,k<=xs.length/\pre=CZ xs.length k)/\Jx pre W')):=by
 unfold maxLen at hreach
 refine callsIn_of_wp Tryz.func110 rfl h7 ?_ hro
 simp only [Tryz.ntmps110,Bg,C4,Cf,Nat.reduceAdd,Nat.reduceSub,Cg,Ch,Ci,Cj,BC,BK]
 gi_wp2
 gi_loopw [3] (fun i wr=>∃ (r:Nat) (q:Int),r<=xs.length/\i=.int .i64 q/\Hid (q=(r:Int)-1)/\J (CZ xs.length (xs.length-r)) wr/\Jl T W wr)
  (fun i _=>(intOf i+1).toNat)
 case atStart=>exact ⟨xs.length,_,Aa _,rfl,rfl,by rw [Nat.sub_self];exact h0,fun _ _=>rfl⟩
 case round =>
  obtain ⟨r,q,hk,rfl,hq,hJs,hnx⟩:=hrel;cases r with
  | zero =>
   obtain rfl:q=-1:=by rw [hq.out];rfl
   gi_wp2;go_end0;exact ⟨⟨_,rfl⟩,.inl ⟨_,rfl,hJs⟩⟩
  | succ j =>
   obtain rfl:q=(j:Int):=by rw [hq.out];omega
   clear hq;have hcx:wr.cell? ⟨b,off+j,none⟩=some (.int .i64 (gi xs j)):=(hnx.cell (p:=⟨b,off+j,none⟩) hb).trans (hc j Ad);have hBx:=(hnx.cell (p:=⟨Bs,0,none⟩) hlt).trans hBs;have hds:CZ xs.length (xs.length-j)=CZ xs.length (xs.length-(j+1))++[⟨j,Ad⟩]:=by
    have e:xs.length-j=(xs.length-(j+1))+1:=by omega
    rw [e,DU Ad];congr 2;exact Fin.ext (by simp;omega)
   have Hds:=A8 hds;clear hds;obtain ⟨fn,tmps,assign,body,hy,hR⟩:=hY _ ⟨j,Ad⟩ wr hJs (by rw [I8 _ _ Ad];omega);dsimp only at hy;gi_wp2;refine hR.mono ?_;rintro e W3 (⟨rfl,hJ3,hk3⟩ | ⟨rfl,hJx3⟩)
   ·gi_wp2
    go_roundw;case rel=>exact ⟨j,_,Ad,rfl,by rfl,by rw [Hds.out];exact hJ3,hnx.trans hk3⟩
    case measure=>simp [intOf]
   ·gi_wp2
    refine bodyPost_ret (results_none rfl _ _ _) rfl ?_;exact ⟨⟨_,rfl⟩,.inr ⟨_,⟨xs.length-j,Ad,Hds.out.symm⟩,hJx3⟩⟩
theorem Lt (F:Fence) (n:Nat) (h7:F.fn 110) (hro:F.round=none) (l Bs:Nat) {α:Type} (J:List α->World->Prop) (W:World) (hBs:W.cell? ⟨Bs,0,none⟩=some (.slice none 0 0)) (h0:J [] W) :
  CallsIn F n Tryz.prog 110 #[.func (.yield l) #[] #[],.pointer (some ⟨Bs,0,none⟩)] W fun e W'=>(∃ v,e=.returned v)/\J [] W':=by
 refine callsIn_of_wp Tryz.func110 rfl h7 ?_ hro
 simp only [Tryz.ntmps110,Bg,C4,Cf,Nat.reduceAdd,Nat.reduceSub,Cg,Ch,Ci,Cj,BC,BK]
 gi_wp2
 gi_loopw [3] (fun i wr=>i=.int .i64 (-1)/\J [] wr) (fun _ _=>0)
 case atStart=>exact ⟨rfl,h0⟩
 case round =>
  obtain ⟨rfl,hJs⟩:=hrel;gi_wp2;go_end0;exact ⟨⟨_,rfl⟩,hJs⟩
theorem Jr (F:Fence) (n:Nat) (h5:F.fn 84) (hro:F.round=none) (v:Value) (w:World) (hv:∃ a len cap,v=.slice a len cap) :
  CallsIn F n Tryz.prog 84 #[v] w fun e w'=>e=.returned (.func (.func 110) #[] #[.pointer (some ⟨w.heap.size,0,none⟩)])/\w.alloc (.cells #[v] 97)=w':=by
 obtain ⟨a,len,cap,rfl⟩:=hv
 refine callsIn_of_wp Tryz.func84 rfl h5 ?_ hro
 simp only [Tryz.ntmps84,Bg,C4,Cf,Nat.reduceAdd,Nat.reduceSub,Cg,Ch,Ci,Cj,BC,BK]
 gi_wp2
 go_ret
 exact ⟨rfl,rfl⟩
theorem NV (F:Fence) (n:Nat) (h7:F.fn 110) (hro:F.round=none) (hn:1<=n) (Bs:Nat) (T:List Nat) (sv:Value) (xs:List Int) (w:World) (hBs:Bs∈T) (hlt:Bs<w.heap.size)
  (hc:w.cell? ⟨Bs,0,none⟩=some sv) (hI:Sl w sv xs) (hsv:∀ b o,sv.ptr? = some (b,o)->b∈T) :
  SeqStopsK F n Tryz.prog 110 #[.pointer (some ⟨Bs,0,none⟩)] (fun x:Fin xs.length=>#[Value.int .i64 (x.1:Int),Value.int .i64 (gi xs x.1)]) (Jl T) (fun ys=>ys=CZ xs.length xs.length) (fun pre=>∃ k,k<=xs.length/\pre=CZ xs.length k) xs.length w:=fun l J Jx W hW _ _ hY h0=>by
 have hc':=(hW.cell (p:=⟨Bs,0,none⟩) hlt).trans hc
 rcases hI.below hW with ⟨rfl,rfl⟩ | ⟨b,off,cap,rfl,h1,h2,h3,h4⟩
 ·exact (Lt F n h7 hro l Bs J W hc' h0).mono fun e W' ⟨he,hj⟩=>⟨he,.inl ⟨_,rfl,hj⟩⟩
 ·exact RH F n h7 hro hn l Bs b off cap T xs (AN h1 h2) (hsv b off rfl) J Jx hY W hc' hBs h4 h0
end
section
open Go.RowKit Go.Shelf
theorem E5 (b off j:Nat):(⟨b,off,none⟩:Addr).add j=⟨b,off+j,none⟩:=by unfold Addr.add;split <;> simp_all
theorem RJ (xs:List Int):∀ u∈xs.map (Value.int .i64),u.oneCell'=true:=by
 intro u hu;obtain ⟨x,_,rfl⟩:=AJ.1 hu;rfl
theorem Sl.news {w:World} {b off:Nat} {xs:List Int} (h4:∀ j,j<xs.length->w.cell? ⟨b,off+j,none⟩=some (.int .i64 (gi xs j))):∀ j u,(xs.map (Value.int .i64))[j]? = some u->w.cell? ((⟨b,off,none⟩:Addr).add j)=some u:=by
 intro j u hu;rw [E5];rw [AG] at hu;by_cases hj:j<xs.length
 ·rw [Au hj] at hu
  cases hu;rw [h4 j hj,Hi hj]
 ·rw [BB Ad] at hu;cases hu
theorem I9 (w:World) (n:Int):(w.alloc (.cells #[.int .i64 n] 3)).ownsRow w.heap.size 3 1 (.slice (some ⟨w.heap.size,0,none⟩) 1 1) 1 ([n].map (Value.int .i64)) :=
 ⟨rfl,.inr ⟨w.heap.size,1,#[.int .i64 n],rfl,Aa _,World.alloc_heap_new w _,Aa _,by unfold maxLen;omega,rfl,rfl⟩⟩
theorem Hj (n:Nat):(madeCells #[.int .i64 0] (n*1)).toList=(List.replicate n (0:Int)).map (Value.int .i64):=by
 apply List.ext_getElem
 ·simp [madeCells]
 ·intro i h1 h2
  simp [madeCells,Nat.mod_one]
theorem Kz {F:Fence} {m:Nat} {w:World} {ops:Array Oper} {rest:List Oper} {o:Oper} {a:Act} {Q:Exit->Act->World->Prop} (t:TypeId) (ht:Tryz.prog.underlying t=some (.slice 3)) (hg:o.guard=none) (l c:Operand) (hop:o.op=Op.makeSlice t l c)
  (kl kc:IntKind) (n:Nat) (hl:a.eval l=.int kl n) (hc:a.eval c=.int kc n) (hn:n<=1000000)
  (hK:∀ w',w'.ownsRow w.heap.size 3 1 (.slice (some ⟨w.heap.size,0,none⟩) n n) n ((List.replicate n (0:Int)).map (Value.int .i64))->Below w.heap.size w w'->wpListIn F m Tryz.prog ops Q rest (a.put o.dst (.slice (some ⟨w.heap.size,0,none⟩) n n)) w') :
  wpListIn F m Tryz.prog ops Q (o :: rest) a w:=by
 obtain ⟨i0,hi,hz0,hz1,hz2⟩:=info_parts Gx
 refine wpListIn_plain hg fun K hK'=>?_
 obtain ⟨w',hrun,r1,r2⟩:=run_make_full (P:=Tryz.prog) w w.heap.size t 3 i0 (.int .i64 0) 1 ht hi hz0 hz1 kl kc n (by rw [hz2];omega) (by unfold maxLen;omega) (Aa _)
 have h1':w'.ownsRow w.heap.size 3 1 (.slice (some ⟨w.heap.size,0,none⟩) n n) n ((List.replicate n (0:Int)).map (Value.int .i64)):=by rw [<-Hj];exact r1
 unfold Oper.wpIn
 refine ⟨?_,?_⟩
 ·simp [Oper.about,hop]
 ·rw [Oper.semAt_plain F _ _ (by rw [hop];intro c hc';cases hc')]
  simp [execOp,hop,hl,hc,hrun,Result.andThen];exact hK' _ _ (hK w' h1' ((Below.refl _ w).grown r2 (Aa _) (fun k e=>by cases e)))
theorem JK {w:World} {base:Nat} {v:Value} {k:Nat} {xs ys:List Int} (t ty:TypeId) (ht:Tryz.prog.underlying t=some (.slice 3)) (hown:w.ownsRow base 3 1 v k (xs.map (Value.int .i64))) {u:Value} (hu:Sl w u ys)
  (hk:k+ys.length<=1000000000000) (hpos:0<k) (hbase:base<=w.heap.size) :
  ∃ g cap w',(Builtin.append_ #[t,t] ty #[v,u]).run Tryz.prog w=.ok (.slice (some ⟨g,0,none⟩) (k+ys.length) cap) w'/\w'.ownsRow base 3 1 (.slice (some ⟨g,0,none⟩) (k+ys.length) cap) (k+ys.length) ((xs++ys).map (Value.int .i64))/\w.grownBy w' v.ownBlock/\Below base w w':=by
 obtain ⟨i0,hi,hz0,hz1,hz2⟩:=info_parts Gx
 rcases hu with ⟨rfl,rfl⟩ | ⟨b,off,cap,rfl,h1,h2,h3,h4⟩
 ·have hr:=run_append_owned_none (P:=Tryz.prog) (w:=w) base t ty 3 i0 1 ht hi v k _ hown
  rcases hown.2 with ⟨_,h0⟩ | ⟨g,cap,cur,rfl,_⟩
  ·omega
  ·exact ⟨g,cap,w,hr,by simpa using hown,⟨rfl,rfl,rfl,Aa _,fun _ _ _=>rfl⟩,Below.refl _ _⟩
 ·obtain ⟨v',w',hrun,r1,r2,r3⟩:=run_append_own (P:=Tryz.prog) w base t ty 3 i0 (.int .i64 0) 1 8 ht hi hz0 hz1 hz2 rfl Ae v k _ hown ⟨b,off,none⟩ ys.length cap (ys.map (Value.int .i64)) Af (Sl.news h4) (RJ ys) (by unfold maxLen;omega) Ad hbase
  rw [<-AO] at r1;rcases r1.2 with ⟨_,h0⟩ | ⟨g,cap',cur,rfl,_⟩
  ·omega
  ·exact ⟨g,cap',w',hrun,r1,r2,(Below.refl base w).grown r2 hbase (fun j hj=>(hown.lt j hj).1)⟩
theorem Qb {ops:Array Oper} {rest:List Oper} {o:Oper} {a:Act} {Q:Exit->Act->World->Prop} {w:World} {base:Nat} {v:Value} {k:Nat} {xs ys:List Int} (t:TypeId)
  (ht:Tryz.prog.underlying t=some (.slice 3)) (hgd:o.guard=none) (s x:Operand) (ho:o.op=.call { callee:=.builtin .append,args:=#[s,x],argTypes:=#[t,t] }) {u:Value}
  (hs:a.eval s=v) (hx:a.eval x=u) (hown:w.ownsRow base 3 1 v k (xs.map (Value.int .i64))) (hu:Sl w u ys) (hk:k+ys.length<=1000000000000) (hpos:0<k) (hbase:base<=w.heap.size)
  (h:∀ g cap w',w'.ownsRow base 3 1 (.slice (some ⟨g,0,none⟩) (k+ys.length) cap) (k+ys.length) ((xs++ys).map (Value.int .i64))->w.grownBy w' v.ownBlock->Below base w w'->wpList Tryz.prog ops Q rest (a.put o.dst (.slice (some ⟨g,0,none⟩) (k+ys.length) cap)) w') :
  wpList Tryz.prog ops Q (o :: rest) a w:=by
 refine wpList_plain hgd fun K hK=>?_
 obtain ⟨g,cap,w',hrun,r1,r2,r3⟩:=JK t o.type ht hown hu hk hpos hbase
 unfold Oper.wp
 simp [execOp,ho,resolve,invoke,builtin,hs,hx,hrun,Result.andThen]
 exact hK _ _ (h g cap w' r1 r2 r3)
theorem J2 {F:Fence} {n:Nat} {ops:Array Oper} {rest:List Oper} {o:Oper} {a:Act} {Q:Exit->Act->World->Prop} {w:World} {base:Nat} {v:Value} {k:Nat} {xs ys:List Int} (t:TypeId)
  (ht:Tryz.prog.underlying t=some (.slice 3)) (hgd:o.guard=none) (s x:Operand) (ho:o.op=.call { callee:=.builtin .append,args:=#[s,x],argTypes:=#[t,t] }) {u:Value}
  (hs:a.eval s=v) (hx:a.eval x=u) (hown:w.ownsRow base 3 1 v k (xs.map (Value.int .i64))) (hu:Sl w u ys) (hk:k+ys.length<=1000000000000) (hpos:0<k) (hbase:base<=w.heap.size)
  (h:∀ g cap w',w'.ownsRow base 3 1 (.slice (some ⟨g,0,none⟩) (k+ys.length) cap) (k+ys.length) ((xs++ys).map (Value.int .i64))->w.grownBy w' v.ownBlock->Below base w w'->wpListIn F n Tryz.prog ops Q rest (a.put o.dst (.slice (some ⟨g,0,none⟩) (k+ys.length) cap)) w') :
  wpListIn F n Tryz.prog ops Q (o :: rest) a w:=by
 refine wpListIn_plain hgd fun K hK=>?_
 obtain ⟨g,cap,w',hrun,r1,r2,r3⟩:=JK t o.type ht hown hu hk hpos hbase
 unfold Oper.wpIn
 refine ⟨?_,?_⟩
 ·simp [Oper.about,ho,resolve,Target.leads,Sem.run_pure]
 ·rw [Oper.semAt_plain F _ _ (by rw [ho];intro c hc';cases hc')]
  simp [execOp,ho,resolve,invoke,builtin,hs,hx,hrun,Result.andThen];exact hK _ _ (h g cap w' r1 r2 r3)
def CS (W W':World):Prop:=W.heap.size<=W'.heap.size/\∀ (k:Nat) (o:Obj),W.heap[k]? = some o->o.isCells=true->W'.heap[k]? = some o
theorem Dh {W W':World} {row:Option Nat} (hg:W.grownBy W' row) (hr:∀ r,row=some r->∃ o:Obj,W.heap[r]? = some o/\o.isCells=false):CS W W' :=
 ⟨hg.size,fun k o hk ho=>(hg.block k (Bu.1 hk).1 (fun e=>by
  obtain ⟨o',h1,h2⟩:=hr k e.symm;rw [hk] at h1;cases h1;rw [ho] at h2;cases h2)).trans hk⟩
theorem CS.putObj {W:World} {l:Nat} {o:Obj} (o':Obj) (hl:W.heap[l]? = some o) (ho:o.isCells=false):CS W (W.putObj l o') :=
 Dh (grownBy_putObj' W l o') (fun r e=>by cases e;exact ⟨o,hl,ho⟩)
theorem CS.cell {W W':World} (h:CS W W') {p:Addr} {v:Value} (hc:W.cell? p=some v):W'.cell? p=some v:=by
 obtain ⟨o,ho,hi⟩:=cells_of_cell hc;exact (World.cell?_of_block ((h.2 _ _ ho hi).trans ho.symm)).trans hc
theorem CS.boxed {W W':World} (h:CS W W') {B:Nat} {t:TypeId} {v:Value} (hb:Boxed W B t v):Boxed W' B t v:=h.2 B _ hb rfl
theorem CS.sl {W W':World} (h:CS W W') {v:Value} {xs:List Int} (hs:Sl W v xs):Sl W' v xs:=by
 rcases hs with hs | ⟨b,off,cap,rfl,h1,h2,h3,h4⟩
 ·exact .inl hs
 ·exact .inr ⟨b,off,cap,rfl,h1,h2,A9 h3 h.1,fun j hj=>h.cell (h4 j hj)⟩
theorem CS.own {W W':World} (h:CS W W') {base:Nat} {e:TypeId} {size:Nat} {v:Value} {n:Nat} {xs:List Value} (hs:W.ownsRow base e size v n xs):W'.ownsRow base e size v n xs:=by
 refine ⟨hs.1,?_⟩;rcases hs.2 with h' | ⟨g,cap,cur,rfl,hb,hg,hr⟩
 ·exact .inl h'
 ·exact .inr ⟨g,cap,cur,rfl,hb,h.2 g _ hg rfl,hr⟩
theorem CG.putObj {S:List Nat} {w W:World} (h:CG S w W) {D:Nat} (hD:w.heap.size<=D) (o':Obj):CG S w (W.putObj D o') :=
 h.trans' hD (grownBy_putObj' W D o')
theorem DW {fn:Func} {tmps:Array Value} {D:Nat} {W:World} {R:Ending->World->Prop} {v:Value} (hK:W.heap[D]? = some (.deferred (some [])))
  (hr:(results fn tmps).run Tryz.prog (W.putObj D (.deferred none))=.ok v (W.putObj D (.deferred none))) (h:R (.returned v) (W.putObj D (.deferred none))) :
  bodyPostM Fence.wide 5 Tryz.prog fn R .ret { tmps:=tmps,defers:=[{ target:=.collected D,args:=#[] }] } W :=
 ⟨Af,.inl ⟨D,_,rfl,run_takeDeferred hK,⟨v,hr,h⟩⟩⟩
theorem CQ {W W':World} {B:Nat} {t:TypeId} {v:Value} (h:Boxed W B t v) (hb:Below W.heap.size W W'):Boxed W' B t v:=h.kept (Db hb) Af
theorem Da {W:World} {B b:Nat} {t:TypeId} {v:Value} (h:Boxed W B t v) (hne:B≠b) (u:Value):Boxed (W.setCell ⟨b,0,none⟩ u) B t v :=
 h.kept (grownBy_setCell' W b u) (fun e=>hne (AL e))
theorem Sl.setBox {W:World} {v:Value} {xs:List Int} (h:Sl W v xs) {B:Nat} {t:TypeId} {u:Value} (hb:Boxed W B t u) (hu:∀ n,u≠.int .i64 n) (u':Value):Sl (W.setCell ⟨B,0,none⟩ u') v xs:=by
 rcases h with h | ⟨b,off,cap,rfl,h1,h2,h3,h4⟩
 ·exact .inl h
 ·refine .inr ⟨b,off,cap,rfl,h1,h2,by simp [World.setCell];exact h3,fun j hj=>?_⟩
  have hc:=h4 j hj;by_cases e:b=B
  ·subst e
   have hh:W.heap[b]? = some (.cells #[u] t (0,0)):=hb;simp only [World.cell?,hh] at hc;by_cases e0:off+j=0
   ·simp [e0] at hc;exact absurd hc (hu _)
   ·rw [show off+j=(off+j-1)+1 by omega] at hc
    simp at hc
  ·rw [<-hc];exact World.cell?_of_block (w:=W) (Below.heap_setCell W ⟨B,0,none⟩ u' b e)
def Qc {α:Type} (S:List Nat) (I Ix:List α->World->Prop) (pre:List α) (W:World):Exit->Act->World->Prop
 | .normal,_,W'=>CG S W W'/\I pre W'
 | .ret,_,W'=>CG S W W'/\Ix pre W'
 | _,_,_=>False
theorem F9 {β:Type} {S:List Nat} {w:World}:OwnFrom w.heap.size (fun (_:β) W=>CG S w W) :=
 fun _ A B row hs hg hr=>⟨hg.os.trans hs.os,hg.tape.trans hs.tape,hg.output.trans hs.output,AN hs.size hg.size,fun k hk hS =>
  (hg.block k (A9 hk hs.size) (fun e=>by have:=(hr k e.symm).1;omega)).trans (hs.block k hk hS)⟩
def NW {α:Type} (S:List Nat) (w:World) (I Ix:List α->World->Prop) (pre:List α) (W:World):Exit->Act->World->Prop
 | .normal,_,W'=>KeepsOthers W W'/\CG S w W'/\I pre W'
 | .ret,_,W'=>KeepsOthers W W'/\CG S w W'/\Ix pre W'
 | _,_,_=>False
theorem Mi {g:Operand} {ps:Array Tmp} {assign body:Code} {Q:Exit->Act->World->Prop} {a:Act} {w:World} (Bs:Nat) (S:List Nat) (sv:Value) (xs:List Int)
  (hg:a.eval g=.func (.func 110) #[] #[.pointer (some ⟨Bs,0,none⟩)]) (hBs:w.cell? ⟨Bs,0,none⟩=some sv) (hsl:Sl w sv xs)
  (hS1:Bs∉S) (hS2:∀ b o,sv.ptr? = some (b,o)->b∉S) (hps:ps.size=2)
  (I Ix:List (Fin xs.length)->World->Prop) (hI:∀ pre W W',I pre W->CS W W'->I pre W') (hIx:∀ pre W W',Ix pre W->CS W W'->Ix pre W')
  (h0:I [] w) (a₁:Fin xs.length->Act)
  (hassign:∀ (l:Nat) (x:Fin xs.length) (W:World) (K:Act->World->Prop),K (a₁ x) W ->
   assign.wpIn (Fence.wide.inRound l) 3 Tryz.prog (Exit.then K (fun _ _ _=>False)) { tmps:=(ps.zip #[Value.int .i64 (x.1:Int),Value.int .i64 (gi xs x.1)]).foldl (fun t (p,v)=>t.setIfInBounds p v) a.tmps,defers:=[] } W)
  (hbody:∀ (l:Nat) (pre:List (Fin xs.length)) (x:Fin xs.length) (W:World),CG S w W->I pre W->pre.length<xs.length->body.wpIn (Fence.wide.inRound l) 3 Tryz.prog (NW S w I Ix (pre++[x]) W) (a₁ x) W)
  (hdone:∀ (D:Nat) (W:World),w.heap.size<=D->CG S w W->I (CZ xs.length xs.length) W->W.heap[D]? = some (.deferred (some []))->Q .normal { a with defers:={ target:=.collected D,args:=#[] } :: a.defers } W)
  (hstop:∀ (D:Nat) (k:Nat) (W:World),k<=xs.length->w.heap.size<=D->CG S w W->Ix (CZ xs.length k) W->W.heap[D]? = some (.deferred (some []))->Code.ret.wpIn Fence.wide 5 Tryz.prog Q { a with defers:={ target:=.collected D,args:=#[] } :: a.defers } W) :
  (Code.rangeFunc g ps assign body).wpIn Fence.wide 5 Tryz.prog Q a w:=by
 have hlt:Bs<w.heap.size:=Ck w _ hBs
 have hp:=hsl.ptr_lt
 obtain ⟨T,hT1,hT2,hT3,hT4⟩:∃ T:List Nat,Bs∈T/\(∀ b o,sv.ptr? = some (b,o)->b∈T)/\(∀ k∈T,k<w.heap.size)/\(∀ k∈T,k∉S):=by
  cases hv:sv.ptr? with
  | none=>exact ⟨[Bs],Af,(fun b o e=>by cases e),(fun k hk=>by simp at hk;omega),(fun k hk=>by simp at hk;subst hk;exact hS1)⟩
  | some q =>
   obtain ⟨b,o⟩:=q;refine ⟨[Bs,b],Af,(fun b' o' e=>by cases e;simp),(fun k hk=>?_),(fun k hk=>?_)⟩
   ·simp at hk;rcases hk with rfl | rfl
    ·exact hlt
    ·exact hp k o hv
   ·simp at hk;rcases hk with rfl | rfl
    ·exact hS1
    ·exact hS2 k o hv
 refine wpIn_rangeFunc_ownF (F:=Fence.wide) (n:=5) (gf:=110) (lb:=#[.pointer (some ⟨Bs,0,none⟩)]) (N:=xs.length) rfl Ae hg trivial (Go.Proofs.enters_of Tryz.func110 Ab rfl)
  (NV Fence.wide (5-1) trivial rfl Ae Bs T sv xs w hT1 hlt hBs hsl hT2) (fun h k=>h.trans k) (fun W l o o' hl h1 h2 h3=>Jl.putObj hT3 W l o o' hl h1 h2 h3) (Below.refl _ _) (fun _=>by rw [hps];rfl)
  (fun pre W=>I pre W/\CG S w W) (fun c pre W=>(c=.ret/\Ix pre W)/\CG S w W)
  (OwnFrom.and (fun s A B row hs hg' hr=>hI s A B hs (Dh hg' (fun r e=>(hr r e).2))) F9)
  (fun c=>OwnFrom.and (fun s A B row hs hg' hr=>⟨hs.1,hIx s A B hs.2 (Dh hg' (fun r e=>(hr r e).2))⟩) F9)
  ⟨h0,CG.refl _ _⟩ a₁ hassign ?_ ?_ ?_
 ·rintro l pre x W ⟨hi,ho⟩ hlen
  refine wpIn_mono (hbody l pre x W ho hi hlen) ?_;rintro e a3 W3 h3;cases e with
  | normal=>exact ⟨h3.1,fun k hk=>(h3.2.1.block k (hT3 k hk) (hT4 k hk)).trans (ho.block k (hT3 k hk) (hT4 k hk)).symm,h3.2.2,h3.2.1⟩
  | ret=>exact ⟨h3.1,⟨rfl,h3.2.2⟩,h3.2.1⟩
  | exit id=>exact h3.elim
  | goto t=>exact h3.elim
  | panic c=>exact h3.elim
  | outgrown=>exact h3.elim
 ·rintro D ys W hD rfl ⟨hi,ho⟩ hK
  exact hdone D W hD ho hi hK
 ·rintro D c pre W hD ⟨k,hk,rfl⟩ ⟨⟨rfl,hi⟩,ho⟩ hK
  exact hstop D k W hk hD ho hi hK
theorem Lu {g:Operand} {ps:Array Tmp} {assign body:Code} {Q:Exit->Act->World->Prop} {a:Act} {w:World} (Bs:Nat) (S:List Nat) (sv:Value) (xs:List Int)
  (hg:a.eval g=.func (.func 110) #[] #[.pointer (some ⟨Bs,0,none⟩)]) (hBs:w.cell? ⟨Bs,0,none⟩=some sv) (hsl:Sl w sv xs)
  (hS1:Bs∉S) (hS2:∀ b o,sv.ptr? = some (b,o)->b∉S) (hps:ps.size=2)
  (I Ix:List (Fin xs.length)->World->Prop) (hI:∀ pre W W',I pre W->CS W W'->I pre W') (hIx:∀ pre W W',Ix pre W->CS W W'->Ix pre W')
  (hcells:∀ pre W,I pre W->∀ k∈S,∃ o:Obj,W.heap[k]? = some o/\o.isCells=true) (h0:I [] w) (a₁:Fin xs.length->Act)
  (hassign:∀ (l:Nat) (x:Fin xs.length) (W:World) (K:Act->World->Prop),K (a₁ x) W ->
   assign.wpIn (Fence.wide.inRound l) 3 Tryz.prog (Exit.then K (fun _ _ _=>False)) { tmps:=(ps.zip #[Value.int .i64 (x.1:Int),Value.int .i64 (gi xs x.1)]).foldl (fun t (p,v)=>t.setIfInBounds p v) a.tmps,defers:=[] } W)
  (hbody:∀ (l:Nat) (pre:List (Fin xs.length)) (x:Fin xs.length) (W:World),CG S w W->I pre W->pre.length<xs.length->body.wpIn (Fence.wide.inRound l) 3 Tryz.prog (Qc S I Ix (pre++[x]) W) (a₁ x) W)
  (hdone:∀ (D:Nat) (W:World),w.heap.size<=D->CG S w W->I (CZ xs.length xs.length) W->W.heap[D]? = some (.deferred (some []))->Q .normal { a with defers:={ target:=.collected D,args:=#[] } :: a.defers } W)
  (hstop:∀ (D:Nat) (k:Nat) (W:World),k<=xs.length->w.heap.size<=D->CG S w W->Ix (CZ xs.length k) W->W.heap[D]? = some (.deferred (some []))->Code.ret.wpIn Fence.wide 5 Tryz.prog Q { a with defers:={ target:=.collected D,args:=#[] } :: a.defers } W) :
  (Code.rangeFunc g ps assign body).wpIn Fence.wide 5 Tryz.prog Q a w:=by
 refine Mi Bs S sv xs hg hBs hsl hS1 hS2 hps I Ix hI hIx h0 a₁ hassign ?_ hdone hstop
 intro l pre x W ho hi hlen
 refine wpIn_mono (hbody l pre x W ho hi hlen) ?_
 have hk:∀ W',CG S W W'->KeepsOthers W W':=fun W' h=>⟨h.size,fun k o hk hno=>by
  refine (h.block k (Bu.1 hk).1 (fun hs=>?_)).trans hk;obtain ⟨o',h1,h2⟩:=hcells pre W hi k hs;rw [hk] at h1;cases h1;rw [hno] at h2;cases h2⟩
 rintro e a3 W3 h3
 cases e with
 | normal=>exact ⟨hk _ h3.1,ho.trans h3.1,h3.2⟩
 | ret=>exact ⟨hk _ h3.1,ho.trans h3.1,h3.2⟩
 | exit id=>exact h3.elim
 | goto t=>exact h3.elim
 | panic c=>exact h3.elim
 | outgrown=>exact h3.elim
end
section
theorem Gy {α:Type} (l:List α) {r:List α} (h:l≠[]):(l++r).head? = l.head? := by
 cases l with
 | nil=>exact absurd rfl h
 | cons a l=>rfl
theorem FM {α:Type} {p:α->Bool} {l:List α}:l.dropWhile p=[]↔∀ b∈l,p b=true:=by
 induction l with
 | nil=>simp
 | cons a l ih =>
  cases h:p a with
  | true=>simp [List.dropWhile,h,ih]
  | false=>simp [List.dropWhile,h]
def FR (b:UInt8):Bool:=decide (48<=b.toNat/\b.toNat<=57)
def Lv (acc:Nat) (l:List UInt8):Nat:=l.foldl (fun a b=>a*10+(b.toNat-48)) acc
def Df (l:List UInt8):Nat:=Lv 0 l
theorem NZ (acc:Nat) (l r:List UInt8):Lv acc (l++r)=Lv (Lv acc l) r:=by unfold Lv;rw [Cl]
theorem O0 (l:List UInt8):∀ acc,Lv acc l=acc*10 ^ l.length+Df l:=by
 induction l with
 | nil=>intro acc;simp [Lv,Df]
 | cons b l ih =>
  intro acc;have h1:Lv acc (b :: l)=Lv (acc*10+(b.toNat-48)) l:=rfl;have h2:Df (b :: l)=Lv (0*10+(b.toNat-48)) l:=rfl;rw [h1,h2,ih (acc*10+_),ih (0*10+_),C4,Nat.pow_succ,Nat.add_mul,Nat.mul_assoc,Nat.mul_comm 10,Nat.zero_mul,Br];omega
theorem Fz (l r:List UInt8):Df (l++r)=Df l*10 ^ r.length+Df r:=by unfold Df;rw [NZ,O0];rfl
theorem GV (l:List UInt8) (b:UInt8):Df (l++[b])=Df l*10+(b.toNat-48):=by rw [Fz];simp [Df,Lv]
theorem Dw {b:UInt8}:FR b=true↔48<=b.toNat/\b.toNat<=57:=by unfold FR;rw [C0]
theorem Hy:∀ (l:List UInt8) (acc:Nat),(∀ b∈l,FR b=true)->Lib.decFrom acc l=some (Lv acc l)
 | [],_,_=>rfl
 | b :: l,acc,h=>by
  have hb:=Dw.1 (h b Af);have hd:Lib.digitVal b=some (b.toNat-48):=by unfold Lib.digitVal;rw [AI hb]
  rw [Lib.decFrom,hd];exact Hy l _ (fun c hc=>h c (by simp [hc]))
theorem Lw {l:List UInt8} (h:∀ b∈l,FR b=true):Df l<10 ^ l.length:=by
 have:=Lib.decFrom_lt l 0 _ (Hy l 0 h);rw [Br,Nat.one_mul] at this;exact this
theorem Ef {k:Nat} (h:k<10):(UInt8.ofNat (48+k)).toNat=48+k:=by
 rw [UInt8.toNat_ofNat'];omega
theorem Mj {b:UInt8} (h:FR b=true):UInt8.ofNat (48+(b.toNat-48))=b:=by
 have:=Dw.1 h;apply UInt8.toNat.inj;rw [Ef Ad];omega
theorem DF {u:Nat} (h:u<10):Lib.decDigits u=[UInt8.ofNat (48+u)]:=by rw [Lib.decDigits,dif_pos h]
theorem Hk {u:Nat} (h:¬ u<10):Lib.decDigits u=Lib.decDigits (u / 10)++[UInt8.ofNat (48+u % 10)]:=by rw [Lib.decDigits,dif_neg h]
theorem De (u:Nat):Df (Lib.decDigits u)=u/\(∀ b∈Lib.decDigits u,FR b=true)/\Lib.decDigits u≠[]/\(u≠0->∀ b,(Lib.decDigits u).head? = some b->b.toNat≠48):=by
 induction u using Nat.strongRecOn with
 | ind u ih =>
  by_cases h:u<10
  ·rw [DF h]
   refine ⟨?_,fun b hb=>?_,Af,fun h0 b hb=>?_⟩
   ·show 0*10+((UInt8.ofNat (48+u)).toNat-48)=u
    rw [Ef h];omega
   ·rw [AK] at hb;subst hb;rw [Dw,Ef h];omega
   ·rw [List.head?_cons] at hb;cases hb;rw [Ef h];omega
  ·obtain ⟨h1,h2,h3,h4⟩:=ih (u / 10) Ad
   rw [Hk h];refine ⟨?_,fun b hb=>?_,Af,fun _ b hb=>?_⟩
   ·rw [GV,h1,Ef Ad];omega
   ·rcases B7.1 hb with hb | hb
    ·exact h2 b hb
    ·rw [AK] at hb;subst hb;rw [Dw,Ef Ad];omega
   ·rw [Gy _ h3] at hb
    exact h4 Ad b hb
theorem Mk {l:List UInt8} (h:∀ b∈l,FR b=true) (h0:l≠[]) (hh:∀ b,l.head? = some b->b.toNat≠48):0<Df l:=by
 cases l with
 | nil=>exact absurd rfl h0
 | cons b l =>
  have h1:=Dw.1 (h b Af);have h2:=hh b rfl;have e:Df (b :: l)=Lv (0*10+(b.toNat-48)) l:=rfl;rw [e,O0];have:0<(0*10+(b.toNat-48))*10 ^ l.length:=Nat.mul_pos Ad (Nat.pow_pos Ae);omega
theorem KA {α:Type} {motive:List α->Prop} (l:List α) (nil:motive []) (snoc:∀ pre x,motive pre->motive (pre++[x])):motive l:=by
 have:∀ k:List α,motive k.reverse:=by
  intro k;induction k with
  | nil=>exact nil
  | cons a k ih=>rw [List.reverse_cons];exact snoc _ _ ih
 have h:=this l.reverse;rwa [List.reverse_reverse] at h
theorem EG (l:List UInt8):(∀ b∈l,FR b=true)->l≠[]->(∀ b,l.head? = some b->b.toNat≠48)->Lib.decDigits (Df l)=l:=by
 induction l using KA with
 | nil=>intro _ h;exact absurd rfl h
 | snoc l b ih =>
  intro h _ hh;have hb:=h b Af;have hb':=Dw.1 hb;by_cases hl:l=[]
  ·subst hl
   have e:Df ([]++[b])=b.toNat-48:=by rw [GV];simp [Df,Lv]
   rw [e,DF Ad,Mj hb];rfl
  ·have hl1:∀ c∈l,FR c=true:=fun c hc=>h c (by simp [hc])
   have hl2:∀ c,l.head? = some c->c.toNat≠48:=fun c hc=>hh c (by rw [Gy _ hl];exact hc)
   have hp:=Mk hl1 hl hl2;rw [GV,Hk Ad,show (Df l*10+(b.toNat-48)) / 10=Df l by omega,show (Df l*10+(b.toNat-48)) % 10=b.toNat-48 by omega,ih hl1 hl hl2,Mj hb]
theorem EX {u k:Nat} (h:u<10 ^ k) (hk:1<=k):(Lib.decDigits u).length<=k:=by
 rw [Lib.decDigits_length];by_cases e:Lib.nDigits u<=k
 ·exact e
 ·by_cases hu:u<10
  ·rw [Lib.nDigits_small hu] at e;omega
  ·have hs:=De u
   exfalso;-- the first digit is not zero
   have hl:(Lib.decDigits u).length=Lib.nDigits u:=Lib.decDigits_length u;cases hd:Lib.decDigits u with
   | nil=>exact hs.2.2.1 hd
   | cons b r =>
    have h1:=Dw.1 (hs.2.1 b (by rw [hd];simp));have h2:=hs.2.2.2 Ad b (by rw [hd];rfl);have e1:Df (b :: r)=Lv (0*10+(b.toNat-48)) r:=rfl;have h3:=hs.1;rw [hd,e1,O0] at h3;have hr:k<=r.length:=by rw [hd] at hl;simp at hl;omega
    have h4:10 ^ k<=10 ^ r.length:=C3 Ae hr;have h5:1*10 ^ r.length<=(0*10+(b.toNat-48))*10 ^ r.length:=Nat.mul_le_mul_right _ Ad;omega
theorem IE {u k:Nat} (h:10 ^ k<=u):k<(Lib.decDigits u).length:=by
 have hs:=De u;have:=Lw hs.2.1;rw [hs.1] at this;by_cases e:k<(Lib.decDigits u).length
 ·exact e
 ·have:10 ^ (Lib.decDigits u).length<=10 ^ k:=C3 Ae Ad
  omega
def body (l:List UInt8):List UInt8:=Lib.trimPrefix l [45]
def DX (l:List UInt8):Bool:=!(body l).isEmpty&&decide ((body l).length<=200)&&(body l).all FR&&(decide (l=[48]) || decide ((body l).head? ≠ some 48))
def FV (l:List UInt8):Int:=if Lib.hasPrefix l [45] then -(Df (body l):Int) else Df (body l)
def FB:Int:=10 ^ 200
theorem DO (b:UInt8) (l:List UInt8):Lib.hasPrefix (b :: l) [45]=(45==b):=by simp [Lib.hasPrefix,List.isPrefixOf]
theorem EQ (l:List UInt8):body (45 :: l)=l:=by unfold body Lib.trimPrefix;rw [DO];simp
theorem Fm {b:UInt8} (l:List UInt8) (h:b≠45):body (b :: l)=b :: l:=by
 unfold body Lib.trimPrefix;rw [DO,AF (by simp;exact fun e=>h e.symm)]
theorem RK:body []=[]:=rfl
theorem Dx {n:Int} (h:0<=n):Lib.itoa n=Lib.decDigits n.toNat:=by unfold Lib.itoa;rw [AF Ad]
theorem FW {n:Int} (h:n<0):Lib.itoa n=45 :: Lib.decDigits n.natAbs:=by unfold Lib.itoa;rw [AI h]
theorem Ha (u:Nat):∃ b r,Lib.decDigits u=b :: r/\b≠45:=by
 have hs:=De u;cases hd:Lib.decDigits u with
 | nil=>exact absurd hd hs.2.2.1
 | cons b r =>
  refine ⟨b,r,rfl,fun e=>?_⟩;have:=Dw.1 (hs.2.1 b (by rw [hd];simp));subst e;exact absurd this.1 Ae
theorem IF (n:Int):FV (Lib.itoa n)=n/\body (Lib.itoa n)=Lib.decDigits n.natAbs:=by
 by_cases h:n<0
 ·rw [FW h]
  refine ⟨?_,EQ _⟩;unfold FV;rw [DO,AI Ae,EQ,(De _).1];omega
 ·rw [Dx Ad,show n.natAbs=n.toNat by omega]
  obtain ⟨b,r,hd,hb⟩:=Ha n.toNat;have hbd:body (Lib.decDigits n.toNat)=Lib.decDigits n.toNat:=by rw [hd];exact Fm r hb
  refine ⟨?_,hbd⟩;unfold FV;rw [hbd,(De _).1,hd,DO,AF (by simp;exact fun e=>hb e.symm)];omega
theorem O3 {n:Int} (h0:-FB<n) (h1:n<FB):DX (Lib.itoa n)=true:=by
 have hb:=(IF n).2;have hs:=De n.natAbs;have hl:(Lib.decDigits n.natAbs).length<=200:=EX (by
  have e:FB=((10 ^ 200:Nat):Int):=by unfold FB;decide +kernel
  rw [e] at h0 h1;generalize 10 ^ 200=K at *
  omega) Ae
 unfold DX;rw [hb];simp only [Ao,Ar,C0,Aq,List.isEmpty_eq_false_iff,Ax];refine ⟨⟨⟨hs.2.2.1,hl⟩,hs.2.1⟩,?_⟩;by_cases hn:n=0
 ·left;subst hn;rw [Dx Ad];exact DF Ae
 ·right
  intro hh;exact hs.2.2.2 Ad 48 hh Ae
theorem E8 {l:List UInt8} (h:DX l=true):l=Lib.itoa (FV l)/\-FB<FV l/\FV l<FB:=by
 unfold DX at h;simp only [Ao,Ar,C0,Aq,List.isEmpty_eq_false_iff,Ax] at h;obtain ⟨⟨⟨h1,h2⟩,h3⟩,h4⟩:=h;have hB:((Df (body l):Nat):Int)<FB:=by
  have a:=Lw h3;have c:10 ^ (body l).length<=10 ^ 200:=C3 Ae h2;have e:FB=((10 ^ 200:Nat):Int):=by unfold FB;decide +kernel
  rw [e];generalize 10 ^ 200=K at *
  omega
 cases l with
 | nil=>exact absurd RK h1
 | cons b l =>
  by_cases hb:b=45
  ·subst hb
   rw [EQ] at *
   have hh:∀ c,l.head? = some c->c.toNat≠48:=fun c hc e=>by
    rcases h4 with h4 | h4
    ·simp at h4
    ·exact h4 (by rw [hc];congr 1;exact UInt8.toNat.inj e)
   have hp:=Mk h3 h1 hh;have hi:FV (45 :: l)=-(Df l:Int):=by unfold FV;rw [DO,AI Ae,EQ]
   rw [hi];refine ⟨?_,Ad,Ad⟩;rw [FW Ad,show (-(Df l:Int)).natAbs=Df l by omega,EG l h3 h1 hh]
  ·rw [Fm l hb] at *
   have hi:FV (b :: l)=Df (b :: l):=by unfold FV;rw [DO,AF (by simp;exact fun e=>hb e.symm),Fm l hb]
   rw [hi];refine ⟨?_,Ad,Ad⟩;rw [Dx Ad,Int.toNat_natCast];rcases h4 with h4 | h4
   ·rw [h4];exact (DF (u:=0) Ae).symm
   ·exact (EG _ h3 h1 (fun c hc e=>h4 (by rw [hc];congr 1;exact UInt8.toNat.inj e))).symm
theorem Qd (l cs:List UInt8):Lib.trimS l cs=[]↔∀ b∈l,cs.contains b=true:=by
 unfold Lib.trimS Lib.trimLeftS Lib.trimRightS;constructor
 ·intro h b hb
  have h1:∀ c∈(l.reverse.dropWhile (cs.contains ·)).reverse,cs.contains c=true:=FM.1 h;have h2:l.reverse.dropWhile (cs.contains ·)=[]:=by
   cases hd:l.reverse.dropWhile (cs.contains ·) with
   | nil=>rfl
   | cons c r =>
    have h3:=List.head_dropWhile_not (cs.contains ·) (l:=l.reverse) (by rw [hd];simp);have h4:=h1 c (by rw [hd];simp);simp only [hd,List.head_cons] at h3;rw [h4] at h3;cases h3
  exact FM.1 h2 b (by simpa using hb)
 ·intro h
  have h2:l.reverse.dropWhile (cs.contains ·)=[]:=FM.2 (fun b hb=>h b (by simpa using hb));rw [h2];rfl
theorem RL (b:UInt8):([48,49,50,51,52,53,54,55,56,57]:List UInt8).contains b=FR b:=by
 have:∀ k:Fin 256,([48,49,50,51,52,53,54,55,56,57]:List UInt8).contains (UInt8.ofNat k.val)=FR (UInt8.ofNat k.val):=by decide +kernel
 have h:=this ⟨b.toNat,b.toNat_lt⟩;simpa using h
end
end Go.Proofs.YtdkonnnmkceagaaGreatDoor
