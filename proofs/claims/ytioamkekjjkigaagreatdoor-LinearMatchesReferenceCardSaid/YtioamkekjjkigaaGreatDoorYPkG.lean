/- PkG, PkH, PkI, LaidQ, PkJ, Blq, Asq, LwM, LwH, LwA, Row, Hand, LcA, LcB, LcC, LcD -/
import Derived.Test.YtioamkekjjkigaaGreatDoorYPkF
import Derived.Test.YtioamkekjjkigaaGreatDoorYPkL
import Derived.Outline
import Derived.Shelf.Abstract
import Derived.Deep.RegionHeld3
import Derived.Scope
import Derived.ScopeJumps
import Derived.WalkMore
import Derived.BigRegion
import Derived.RegionTactic
import Derived.Shelf.Vars
import Derived.Handed
import Derived.WideShapes
import Derived.Lib.LaidTab
import Derived.Lib.LaidU8
import Derived.OpenShut
import Derived.Lib.SmallJoins
import Derived.Deep.DeepCutAuto
import Derived.Deep.MidRow
set_option maxHeartbeats 8000000
set_option maxRecDepth 100000
namespace Go.Proofs.YtioamkekjjkigaaGreatDoor
section
open Go.RowKit
def rv (n d:ByteArray):Rat:=Rat.divInt (zS n) (zS d)
def GG (r:Rat):Prop:=Do r.num/\Do (r.den:Int)
instance (r:Rat):Decidable (GG r):=inferInstanceAs (Decidable (_/\_))
theorem O1 {x y:Int} (hy:0<y):(Rat.divInt x y).num=x / EM x y/\((Rat.divInt x y).den:Int)=y / EM x y:=by
 have e:EM x y=(y.gcd x:Int):=by unfold EM;rw [Int.gcd_comm]
 rw [Rat.num_divInt,Rat.den_divInt,AP Ad,e,Int.sign_eq_one_of_pos hy,B7];refine ⟨rfl,?_⟩;rw [Int.natCast_ediv,Int.natAbs_of_nonneg Ad]
theorem KZ (r:Rat):(0:Int)<(r.den:Int):=by have:=r.den_pos;omega
theorem N6 {z:Int} (h:Do z):Do (-z):=by unfold Do at *;omega
theorem N7 {x y:Int} (h:Do x):Do (x / y):=by
 have h1:=Int.natAbs_ediv_le_natAbs x y;unfold Do at *;omega
theorem Hk {x y:Int} (hx:Do x) (hy:Do y) (h0:0<y):GG (Rat.divInt x y):=by
 obtain ⟨e1,e2⟩:=O1 (x:=x) h0;unfold GG;rw [e1,e2];exact ⟨N7 hx,N7 hy⟩
theorem LS (x y:Int):Rat.divInt (-x) (-y)=Rat.divInt x y:=Rat.neg_divInt_neg x y
end
section
open Go.RowKit
attribute [local go_sem] Oper.semAt_some
theorem Ds.only {S:List Nat} {W W':World} {B:Nat} {cs:Array Value} {t:TypeId} (h:Ds W B cs t) (ho:Dr S W W') (hB:B∉S):Ds W' B cs t:=(ho.block B h.lt hB).trans h
theorem LT:Do 0:=by decide
def QL (W:World) (S:Nat) (l:List (ByteArray×ByteArray)):Prop:=∀ (j:Nat) (h:j<l.length),W.cell? ⟨S,j*2,none⟩=some (.string (l[j]).1)/\W.cell? ⟨S,j*2+1,none⟩=some (.string (l[j]).2)
theorem QL.only {B:List Nat} {W W':World} {S:Nat} {l:List (ByteArray×ByteArray)} (h:QL W S l) (ho:Dr B W W') (hS:S<W.heap.size) (hB:S∉B):QL W' S l:=fun j hj =>
 ⟨(ho.cell (p:=⟨S,j*2,none⟩) hS hB).trans (h j hj).1,(ho.cell (p:=⟨S,j*2+1,none⟩) hS hB).trans (h j hj).2⟩
structure T9 (w:World):Prop where
 env:Fp w
 max:∃ m,w.cell? ⟨3,0,none⟩=some (.int .i64 m)
theorem T9.below {w w':World} {B:Nat} (h:T9 w) (hb:Below B w w') (hB:w.heap.size<=B):T9 w':=by
 obtain ⟨m,hm⟩:=h.max;exact ⟨h.env.below hb hB,m,(hb.cell (p:=⟨3,0,none⟩) (A9 (D7 w _ hm) hB)).trans hm⟩
end
section
open Go.RowKit
section
variable {H:Type} {enc:TypeId×Value->H}
theorem GM {a:Assume} {C:Checked} {os:Os} {f:FuncId} {fn:Func} {s:ChangeSpec} {conds:List PathCond} {apart fresh handsOn again:Bool} {X:World->Array Value->Prop}
  (hX:∀ (w w':World) (args:Array Value),w.heap=w'.heap->X w args->X w' args)
  (own:ownKnob C.prog.godebug=none) (started:os.Started) (noInit:C.prog.inits.idxOf? f=none) (hfn:C.prog.funcs[f]? = some fn)
  (witness:∃ (w:World) (tape:Tape) (i:Input),w.os=os/\(w.forCall tape i).Shaped C.prog/\i.vars=[]/\Input.okWide C.prog (w.forCall tape i) .any w.heap.size f i /\
   ((s.pre enc C.prog fn conds apart (w.forCall tape i).memory i.args/\X (w.forCall tape i).memory i.args)/\sizedMet enc C.prog fn (OpenSpec.ofChange s) apart (w.forCall tape i).memory i.args)/\a.holds C.prog (lone (Frame.enter C.prog f i.args .normal) [] (w.forCall tape i)))
  (contract:∀ (W:World) (base:Nat) (args:Array Value) (ds gs:List (DataW H)) (before:List MemPlace),
   (∀ (j:Nat) t v,fn.params[j]? = some t->args[j]? = some v->Value.okWide C.prog W .any base t v) ->
   DataW.Whole enc C.prog fn.params.toList s.vars apart W args.toList ds gs before ->
   conds.all (PathCond.test C.prog ⟨fn.params.toList,ds,s.plain.varTypes C.prog,gs⟩)=true ->
   (DataW.weightsEach C.prog (fn.params.toList++s.plain.varTypes C.prog) (ds++gs)).all (·<=reachBytes)=true->X W args->W.ShapedOpen C.prog ->
   a.holds C.prog (lone (Frame.enter C.prog f args .normal) [] W) ->
   Calls C.prog f args W fun e W'=>∃ v,e=.returned v/\s.post enc C.prog fn apart fresh handsOn again W args v W') :
  ReturnsInHanded a C os f .any (fun w args=>(s.pre enc C.prog fn conds apart w args/\X w args)/\sizedMet enc C.prog fn (OpenSpec.ofChange s) apart w args) (s.post enc C.prog fn apart fresh handsOn again):=by
 refine returnsInHanded_of_calls own started noInit witness ?_
 intro w tape i _ hsh _ hok hpre hholds
 obtain ⟨_,_,_,fn',hfn',_,_,_,_,hval⟩:=hok
 have e:fn'=fn:=B4 (hfn'.symm.trans hfn)
 subst e
 obtain ⟨⟨⟨ds,gs,before,hw,hc⟩,hx⟩,hz⟩:=hpre
 have hw':=DataW.Whole.of_heap (w':=w.forCall tape i) (by rfl) hw
 refine (contract (w.forCall tape i) w.heap.size i.args ds gs before hval hw' hc (hz.weights hw) (hX _ _ _ (by rfl) hx) hsh hholds).mono fun e W' ⟨v,he,hp⟩=>?_
 subst he
 exact ChangeSpec.post_blind hp
end
theorem O3 {W:World} (h:W.ShapedOpen Tryz.prog):∃ m,W.cell? ⟨3,0,none⟩=some (.int .i64 m):=Go.Proofs.cell_of_shapedOpen_int (zero:=#[.int .i64 0]) (t:=3) h (Cs Ab) Ab rfl Ab Ab Tryz.underlying3
end
section
open Go.RowKit Go.Lib
theorem gPow : Tryz.prog.globalNamed "internal/strconv.uint64pow10" = some 2 := by kernel_rfl
theorem Ms {P:Program} {W:World} {name:String} {k:IntKind} {zs:List Int} {g:Nat} {t e:TypeId} {n:Nat}
  (hg:P.globalNamed name=some g) (hty:(P.globals[g]?).map (·.type)=some t) (ht:P.underlying t=some (.array n e)) (he:P.underlying e=some (.int k)) (hce:P.cellsOf e=1) (hct:P.cellsOf t=n)
  (h:VarReads P W name (tabData k zs)):TabIs P W name k zs:=by
 obtain ⟨g',t',cs,fuel,p,hg',ht',hvar,hd⟩:=h
 obtain rfl:=B4 (hg.symm.trans hg')
 obtain rfl:=B4 (hty.symm.trans ht')
 unfold TabIs
 rw [hvar,<-cells_of_tab ht he hce hct hd]
theorem tPow:(Tryz.prog.globals[2]?).map (·.type)=some 161:=by kernel_rfl
theorem cPow:Tryz.prog.cellsOf 161=20:=by kernel_rfl
theorem Ow {W : World} (h : VarReads Tryz.prog W "internal/strconv.uint64pow10" (tabData .u64 pow10Tab)) : Fp W :=
 ⟨Ms gPow tPow Tryz.underlying161 Tryz.underlying64 Ab cPow h⟩
theorem envQ_of {W : World} (h : VarReads Tryz.prog W "internal/strconv.uint64pow10" (tabData .u64 pow10Tab)) (hs : W.ShapedOpen Tryz.prog) : T9 W := ⟨Ow h, O3 hs⟩
end
section
open Go.RowKit
attribute [local go_sem] Oper.semAt_some
section
variable {x y:Int} {a b:ByteArray} (ha:a=I x) (hb:b=I y) (hx:Do x) (hy:Do y) (w:World)
include ha hb hx hy
end
def JI (o:Option Rat):Prop:=∀ r,o=some r->GG r
theorem JI.none:JI none:=fun r h=>by cases h
theorem JI.some {r:Rat} (h:GG r):JI (some r):=fun s e=>by cases e;exact h
def oIf (c:Bool) (r:Rat):Option Rat:=if c then some r else none
theorem JI.oIf {c:Bool} {r:Rat} (h:c=true->GG r):JI (oIf c r):=by
 unfold Proofs.YtioamkekjjkigaaGreatDoor.oIf;split
 ·exact JI.some (h ‹_›)
 ·exact JI.none
theorem QM (x y:Rat):Rat.divInt (x.num*y.den+y.num*x.den) (x.den*y.den)=x+y:=by
 rw [Rat.add_def',<-Rat.divInt_ofNat,AG]
theorem QN (x y:Rat):Rat.divInt (x.num*y.den-y.num*x.den) (x.den*y.den)=x-y:=by
 rw [Rat.sub_def',<-Rat.divInt_ofNat,AG]
theorem QO (x y:Rat):Rat.divInt (x.num*y.num) (x.den*y.den)=x*y:=by
 rw [Rat.mul_def',<-Rat.divInt_ofNat,AG]
def fAdd (x y:Rat):Bool:=decide (Do (x.num*y.den))&&decide (Do (y.num*x.den))&&decide (Do (x.num*y.den+y.num*x.den))&&decide (Do ((x.den:Int)*y.den))
def fSub (x y:Rat):Bool:=decide (Do (x.num*y.den))&&decide (Do (y.num*x.den))&&decide (Do (x.num*y.den-y.num*x.den))&&decide (Do ((x.den:Int)*y.den))
def fMul (x y:Rat):Bool:=decide (Do (x.num*y.num))&&decide (Do ((x.den:Int)*y.den))
def oBin (f:Rat->Rat->Bool) (g:Rat->Rat->Rat) (a b:Option Rat):Option Rat:=match a,b with
 | some x,some y=>oIf (f x y) (g x y)
 | _,_=>none
def oAdd:=oBin fAdd (·+·)
def oSub:=oBin fSub (· - ·)
def oMul:=oBin fMul (· * ·)
theorem Ik {x y:Rat} {n:Int} (h:Do n) (hd:Do ((x.den:Int)*y.den)):GG (Rat.divInt n (x.den*y.den)) :=
 Hk h hd (BS (KZ x) (KZ y))
theorem JI.add {a b:Option Rat}:JI (oAdd a b):=by
 cases a with
 | none=>exact JI.none
 | some x=>cases b with
  | none=>exact JI.none
  | some y =>
   refine JI.oIf fun e=>?_
   unfold fAdd at e;simp at e;show GG (x+y);rw [<-QM];exact Ik e.1.2 e.2
theorem JI.sub {a b:Option Rat}:JI (oSub a b):=by
 cases a with
 | none=>exact JI.none
 | some x=>cases b with
  | none=>exact JI.none
  | some y =>
   refine JI.oIf fun e=>?_
   unfold fSub at e;simp at e;show GG (x-y);rw [<-QN];exact Ik e.1.2 e.2
theorem JI.mul {a b:Option Rat}:JI (oMul a b):=by
 cases a with
 | none=>exact JI.none
 | some x=>cases b with
  | none=>exact JI.none
  | some y =>
   refine JI.oIf fun e=>?_
   unfold fMul at e;simp at e;show GG (x*y);rw [<-QO];exact Ik e.1 e.2
section
variable {a b:Option Rat} (ha:JI a) (hb:JI b) (w:World) (hE:Fp w)
include ha hb hE
end
def oOf (n d:Int):Option Rat:=oIf (decide (d≠0)) (Rat.divInt n d)
theorem Ta {n d:Int} (hn:Do n) (hd:Do d) (h0:d≠0):GG (Rat.divInt n d):=by
 rcases Int.lt_or_gt_of_ne h0 with h | h
 ·rw [<-LS];exact Hk (N6 hn) (N6 hd) Ad
 ·exact Hk hn hd h
theorem JI.of {n d:Int} (hn:Do n) (hd:Do d):JI (oOf n d):=JI.oIf fun e=>Ta hn hd (by simpa using e)
def Ge (c m:Int):Int:=(if c<0 then -(c+1) else c) % m
theorem Ec {c m:Int} (h:0<m):0<=Ge c m:=Cy _ Ad
theorem FX {c m:Int} (h:0<m):Ge c m<m:=Cu _ h
structure BL (w:World) (L:List (Nat×Array Value×TypeId)) (W:World):Prop where
 below:Below w.heap.size w W
 blks:∀ p∈L,Ds W p.1 p.2.1 p.2.2
abbrev Ei:=List (Nat×Array Value×TypeId)
theorem BL.start (w:World):BL w [] w:=⟨Below.refl _ _,fun p h=>by cases h⟩
theorem BL.call {w W W':World} {L:Ei} (h:BL w L W) (hb:Below W.heap.size W W'):BL w L W' :=
 ⟨Dn hb h.below (Aa _),fun p hp=>(h.blks p hp).below hb⟩
theorem BL.drew {w W:World} {L:Ei} (h:BL w L W):BL w L W.drew:=h.call (Dq W 1)
theorem BL.drewN {w W:World} {L:Ei} (h:BL w L W) (n:Nat):BL w L (W.drewN n):=h.call (Dq W n)
theorem BL.new {w W:World} {L:Ei} (h:BL w L W) (o:Obj):BL w L (W.alloc o):=h.call ((Below.refl _ _).alloc (Aa _) o)
theorem BL.add {w W:World} {L:Ei} (h:BL w L W) (cs:Array Value) (t:TypeId):BL w ((W.heap.size,cs,t) :: L) (W.alloc (.cells cs t)):=by
 refine ⟨(h.new _).below,fun p hp=>?_⟩;rcases Aw.1 hp with rfl | hp
 ·exact Ds.new _ _ _
 ·exact (h.new _).blks p hp
theorem BL.add' {w W:World} {L:Ei} (h:BL w L W) (cs:Array Value) (t:TypeId):∃ W',W'=W.alloc (.cells cs t)/\BL w ((W.heap.size,cs,t) :: L) W'/\W'.heap.size=W.heap.size+1 :=
 ⟨_,rfl,h.add cs t,Bh _ _⟩
theorem BL.lts {w W:World} {L:Ei} (h:BL w L W):∀ p∈L,p.1<W.heap.size:=fun p hp=>(h.blks p hp).lt
theorem BL.drop {w W:World} {L M:Ei} (h:BL w L W) (hm:∀ p∈M,p∈L):BL w M W:=⟨h.below,fun p hp=>h.blks p (hm p hp)⟩
theorem BL.cell {w W:World} {L:Ei} (h:BL w L W) (B:Nat) (cs:Array Value) (t:TypeId) (hm:(B,cs,t)∈L) (i:Nat):W.cell? ⟨B,i,none⟩=cs[i]? := (h.blks _ hm).cell i
theorem BL.frozen {w W:World} {L:Ei} (h:BL w L W) (B:Nat) (cs:Array Value) (t:TypeId) (hm:(B,cs,t)∈L) (i:Nat):W.frozen? ⟨B,i,none⟩=false:=(h.blks _ hm).frozen i
theorem BL.c1 {w W:World} {L:Ei} (h:BL w L W) (B:Nat) (a:Value) (t:TypeId) (hm:(B,#[a],t)∈L):W.cell? ⟨B,0,none⟩=some a:=h.cell B _ t hm 0
theorem BL.c2 {w W:World} {L:Ei} (h:BL w L W) (B:Nat) (a b:Value) (t:TypeId) (hm:(B,#[a,b],t)∈L):W.cell? ⟨B,0,none⟩=some a/\W.cell? ⟨B,1,none⟩=some b:=⟨h.cell B _ t hm 0,h.cell B _ t hm 1⟩
theorem BL.c4 {w W:World} {L:Ei} (h:BL w L W) (B:Nat) (a b c d:Value) (t:TypeId) (hm:(B,#[a,b,c,d],t)∈L):W.cell? ⟨B,0,none⟩=some a/\W.cell? ⟨B,1,none⟩=some b/\W.cell? ⟨B,2,none⟩=some c/\W.cell? ⟨B,3,none⟩=some d :=
 ⟨h.cell B _ t hm 0,h.cell B _ t hm 1,h.cell B _ t hm 2,h.cell B _ t hm 3⟩
theorem BL.c8 {w W:World} {L:Ei} (h:BL w L W) (B:Nat) (a b c d e f g k:Value) (t:TypeId) (hm:(B,#[a,b,c,d,e,f,g,k],t)∈L):W.cell? ⟨B,0,none⟩=some a/\W.cell? ⟨B,1,none⟩=some b/\W.cell? ⟨B,2,none⟩=some c/\W.cell? ⟨B,3,none⟩=some d /\
  W.cell? ⟨B,4,none⟩=some e/\W.cell? ⟨B,5,none⟩=some f/\W.cell? ⟨B,6,none⟩=some g/\W.cell? ⟨B,7,none⟩=some k :=
 ⟨h.cell B _ t hm 0,h.cell B _ t hm 1,h.cell B _ t hm 2,h.cell B _ t hm 3,h.cell B _ t hm 4,h.cell B _ t hm 5,h.cell B _ t hm 6,h.cell B _ t hm 7⟩
theorem BL.only {w W W':World} {L:Ei} {S:List Nat} (h:BL w L W) (ho:Dr S W W') (hS:∀ k∈S,w.heap.size<=k) (hL:∀ p∈L,p.1∉S):BL w L W' :=
 ⟨h.below.trans (ho.toBelow h.below.size hS),fun p hp=>(h.blks p hp).only ho (hL p hp)⟩
theorem BL.env {w W:World} {L:Ei} (h:BL w L W) (hE:Fp w):Fp W:=hE.below h.below (Aa _)
def BQ (k:Nat) (r:Rat):Prop:=Bd k r.num/\Bd k (r.den:Int)
theorem BQ.small {k:Nat} {r:Rat} (h:BQ k r) (hk:k<=200):GG r:=⟨h.1.small hk,h.2.small hk⟩
theorem BQ.ok {k:Nat} {r:Rat} (h:BQ k r) (hk:k<=200):JI (some r):=JI.some (h.small hk)
theorem BQ.mono {j k:Nat} {r:Rat} (h:BQ j r) (hk:j<=k):BQ k r:=⟨h.1.mono hk,h.2.mono hk⟩
end
section
open Go.RowKit
structure JB (w:World) (L:Ei):Prop where
 ge:∀ p∈L,w.heap.size<=p.1
 asc:L.Pairwise (fun p q=>q.1<p.1)
theorem JB.nil (w:World):JB w []:=⟨(fun p hp=>by cases hp),List.Pairwise.nil⟩
theorem JB.add {w W:World} {L:Ei} (h:JB w L) (hS:BL w L W) (cs:Array Value) (t:TypeId):JB w ((W.heap.size,cs,t) :: L) :=
 ⟨fun p hp=>by
  rcases Aw.1 hp with rfl | hp
  ·exact hS.below.size
  ·exact h.ge p hp,Bp.2 ⟨fun p hp=>hS.lts p hp,h.asc⟩⟩
theorem JB.put {w:World} {A C:Ei} {B:Nat} {cs ds:Array Value} {t:TypeId} (h:JB w (A++(B,cs,t) :: C)):JB w (A++(B,ds,t) :: C):=by
 refine ⟨fun p hp=>?_,?_⟩
 ·rcases Bz.1 hp with h1 | h1
  ·exact h.ge p (Bu _ h1)
  ·rcases Aw.1 h1 with rfl | h1
   ·exact h.ge (B,cs,t) (Bq _ Br)
   ·exact h.ge p (Bq _ (Bw _ h1))
 ·have h2:=Bt.1 h.asc
  refine Bt.2 ⟨h2.1,Bp.2 (Bp.1 h2.2.1),fun p hp q hq=>?_⟩;rcases Aw.1 hq with rfl | hq
  ·exact h2.2.2 p hp (B,cs,t) Br
  ·exact h2.2.2 p hp q (Bw _ hq)
theorem JB.ne {w:World} {A C:Ei} {B:Nat} {cs:Array Value} {t:TypeId} (h:JB w (A++(B,cs,t) :: C)):∀ p∈A++C,p.1≠B:=by
 intro p hp;have h2:=Bt.1 h.asc;rcases Bz.1 hp with h1 | h1
 ·have:B<p.1:=h2.2.2 p h1 (B,cs,t) Br
  omega
 ·have:p.1<B:=(Bp.1 h2.2.1).1 p h1
  omega
theorem JB.base {w:World} {A C:Ei} {B:Nat} {cs:Array Value} {t:TypeId} (h:JB w (A++(B,cs,t) :: C)):w.heap.size<=B:=h.ge (B,cs,t) (Bq _ Br)
theorem BL.put {w W:World} {A C:Ei} {B:Nat} {a b:Value} {t:TypeId} (hO:JB w (A++(B,#[a,b],t) :: C)) (h:BL w (A++(B,#[a,b],t) :: C) W) (x y:Value) :
  BL w (A++(B,#[x,y],t) :: C) ((W.setCell ⟨B,0,none⟩ x).setCell ⟨B,1,none⟩ y):=by
 have ho:Dr [B] W ((W.setCell ⟨B,0,none⟩ x).setCell ⟨B,1,none⟩ y):=((Dr.refl [B] W).setCell (p:=⟨B,0,none⟩) Af x).setCell (p:=⟨B,1,none⟩) Af y
 have h1:=(h.drop (M:=A++C) (fun p hp=>by
  rcases Bz.1 hp with h1 | h1
  ·exact Bu _ h1
  ·exact Bq _ (Bw _ h1))).only ho (by simpa using hO.base) (fun p hp=>by simpa using hO.ne p hp)
 refine ⟨h1.below,fun p hp=>?_⟩
 rcases Bz.1 hp with h2 | h2
 ·exact h1.blks p (Bu _ h2)
 ·rcases Aw.1 h2 with rfl | h2
  ·exact ((h.blks (B,#[a,b],t) (Bq _ Br)).set 0 x).set 1 y
  ·exact h1.blks p (Bq _ h2)
theorem BL.putc {w W:World} {A C:Ei} {B:Nat} {cs:Array Value} {t:TypeId} (hO:JB w (A++(B,cs,t) :: C)) (h:BL w (A++(B,cs,t) :: C) W) (i:Nat) (x:Value) :
  BL w (A++(B,cs.setIfInBounds i x,t) :: C) (W.setCell ⟨B,i,none⟩ x):=by
 have ho:Dr [B] W (W.setCell ⟨B,i,none⟩ x):=(Dr.refl [B] W).setCell (p:=⟨B,i,none⟩) Af x
 have h1:=(h.drop (M:=A++C) (fun p hp=>by
  rcases Bz.1 hp with h1 | h1
  ·exact Bu _ h1
  ·exact Bq _ (Bw _ h1))).only ho (by simpa using hO.base) (fun p hp=>by simpa using hO.ne p hp)
 refine ⟨h1.below,fun p hp=>?_⟩
 rcases Bz.1 hp with h2 | h2
 ·exact h1.blks p (Bu _ h2)
 ·rcases Aw.1 h2 with rfl | h2
  ·exact (h.blks (B,cs,t) (Bq _ Br)).set i x
  ·exact h1.blks p (Bq _ h2)
def JJ {α:Type} (k:Nat) (C:World->Nat->Nat->α->Prop) (W:World) (v:Value) (l:List α):Prop :=
 (v=.slice none 0 0/\l=[])∨∃ b off cap,v=.slice (some ⟨b,off,none⟩) l.length cap/\l.length<=cap/\cap<=maxLen/\b<W.heap.size/\∀ j x,l[j]? = some x->C W b (off+j*k) x
def QQ {α:Type} (C:World->Nat->Nat->α->Prop):Prop:=∀ {W W':World} {b o:Nat} {x:α},b<W.heap.size->Below W.heap.size W W'->C W b o x->C W' b o x
theorem JJ.nil {α:Type} {k:Nat} {C:World->Nat->Nat->α->Prop} (W:World):JJ k C W (.slice none 0 0) []:=.inl ⟨rfl,rfl⟩
theorem JJ.shape {α:Type} {k:Nat} {C:World->Nat->Nat->α->Prop} {W:World} {v:Value} {l:List α} (h:JJ k C W v l):∃ a cap,v=.slice a l.length cap:=by
 rcases h with ⟨rfl,rfl⟩ | ⟨b,off,cap,rfl,_⟩
 ·exact ⟨_,_,rfl⟩
 ·exact ⟨_,_,rfl⟩
theorem JJ.below {α:Type} {k:Nat} {C:World->Nat->Nat->α->Prop} (hC:QQ C) {W W':World} {v:Value} {l:List α} (h:JJ k C W v l) (hb:Below W.heap.size W W'):JJ k C W' v l:=by
 rcases h with h | ⟨b,off,cap,rfl,h1,h2,h3,h4⟩
 ·exact .inl h
 ·exact .inr ⟨b,off,cap,rfl,h1,h2,A9 h3 hb.size,fun j x hj=>hC h3 hb (h4 j x hj)⟩
theorem JJ.len_le {α:Type} {k:Nat} {C:World->Nat->Nat->α->Prop} {W:World} {v:Value} {l:List α} (h:JJ k C W v l):l.length<=maxLen:=by
 rcases h with ⟨_,rfl⟩ | ⟨_,_,_,_,h1,h2,_⟩
 ·simp
 ·exact Bc h1 h2
theorem JJ.take {α:Type} {k:Nat} {C:World->Nat->Nat->α->Prop} {W:World} {b off cap:Nat} {l:List α} (h1:l.length<=cap) (h2:cap<=maxLen) (h3:b<W.heap.size)
  (h4:∀ j x,l[j]? = some x->C W b (off+j*k) x) {n:Nat} (hn:n<=l.length):JJ k C W (.slice (some ⟨b,off,none⟩) n cap) (l.take n):=by
 refine .inr ⟨b,off,cap,by rw [BB,BE hn],by rw [BB,BE hn];omega,h2,h3,fun j x hj=>h4 j x ?_⟩
 rw [BM] at hj
 split at hj
 ·exact hj
 ·cases hj
theorem JJ.ptr_lt {α:Type} {k:Nat} {C:World->Nat->Nat->α->Prop} {W:World} {v:Value} {l:List α} (h:JJ k C W v l):∀ b o,v.ptr? = some (b,o)->b<W.heap.size:=by
 intro b o e;rcases h with ⟨rfl,_⟩ | ⟨b',off,cap,rfl,h1,h2,h3,h4⟩
 ·cases e
 ·cases e;exact h3
theorem JJ.of_own {α:Type} {k:Nat} {C:World->Nat->Nat->α->Prop} {W:World} {base:Nat} {e:TypeId} {v:Value} {n:Nat} {cs:List Value} {l:List α} (h:W.ownsRow base e k v n cs) (hn:n=l.length)
  (hC:∀ b,b<W.heap.size->(∀ i x,cs[i]? = some x->W.cell? ⟨b,i,none⟩=some x)->∀ j x,l[j]? = some x->C W b (j*k) x):JJ k C W v l:=by
 rcases h.2 with ⟨rfl,h0⟩ | ⟨g,cap,cur,rfl,hb,hg,hn',hm,hs,ht⟩
 ·subst hn
  exact .inl ⟨rfl,Bo h0⟩
 ·subst hn
  refine .inr ⟨g,0,cap,rfl,hn',hm,(BO.1 hg).1,fun j x hj=>?_⟩;rw [BN];refine hC g (BO.1 hg).1 (fun i y hi=>?_) j x hj;have hc:=h.cells (g:=g) rfl i y hi;have hadd:(⟨g,0,none⟩:Addr).add i=⟨g,0+i,none⟩:=by unfold Addr.add;split <;> simp_all
  rwa [hadd,BN] at hc
def QR (W:World) (b o:Nat) (s:ByteArray):Prop:=W.cell? ⟨b,o,none⟩=some (.string s)
theorem QR.stable:QQ QR:=fun h hb hc=>(hb.cell (p:=⟨_,_,none⟩) h).trans hc
abbrev DS (W:World) (v:Value) (l:List ByteArray):Prop:=JJ 1 QR W v l
theorem DS.below {W W':World} {v:Value} {l:List ByteArray} (h:DS W v l) (hb:Below W.heap.size W W'):DS W' v l:=JJ.below (C:=QR) (fun h1 h2 h3=>QR.stable h1 h2 h3) h hb
theorem DS.of_own {W:World} {base:Nat} {e:TypeId} {v:Value} {n:Nat} {l:List ByteArray} (h:W.ownsRow base e 1 v n (l.map Value.string)):DS W v l :=
 JJ.of_own h (by have:=h.1;simpa using this.symm) fun b _ hc j x hj=>by
  rw [AY];exact hc j _ (by rw [AQ,hj];rfl)
def IE (w : World) (v : Value) (xs : List Int) : Prop :=
 ((∃ a : Option Addr, v = .slice a 0 0) /\ xs = []) ∨ ∃ b off cap, v = .slice (some ⟨b, off, none⟩) xs.length cap /\ xs.length <= cap /\ cap <= maxLen /\ b < w.heap.size /\
   ∀ j, j < xs.length -> w.cell? ⟨b, off + j, none⟩ = some (.int .i64 (gi xs j))
theorem Sl.w {w:World} {v:Value} {xs:List Int} (h:Sl w v xs):IE w v xs:=h.imp (fun ⟨e,e2⟩=>⟨⟨_,e⟩,e2⟩) id
theorem IE.sl {w:World} {v:Value} {xs:List Int} (h:IE w v xs) (hx:0<xs.length):Sl w v xs:=by
 rcases h with ⟨_,e⟩ | h
 ·rw [e] at hx;simp at hx
 ·exact .inr h
theorem IE.shape {w:World} {v:Value} {xs:List Int} (h:IE w v xs):∃ a cap,v=.slice a xs.length cap:=by
 rcases h with ⟨⟨a,rfl⟩,rfl⟩ | ⟨b,off,cap,rfl,_⟩
 ·exact ⟨_,_,rfl⟩
 ·exact ⟨_,_,rfl⟩
theorem IE.below {w w':World} {v:Value} {xs:List Int} (h:IE w v xs) (hb:Below w.heap.size w w'):IE w' v xs:=by
 rcases h with h | h
 ·exact .inl h
 ·exact ((show Sl w v xs from .inr h).below hb).w
theorem IE.len_le {w:World} {v:Value} {xs:List Int} (h:IE w v xs):xs.length<=maxLen:=by
 rcases h with ⟨_,rfl⟩ | ⟨_,_,_,_,h1,h2,_⟩
 ·simp
 ·exact Bc h1 h2
def CEq (W:World) (b o:Nat) (x:List Int×Int):Prop:=∃ v,W.cell? ⟨b,o,none⟩=some v/\IE W v x.1/\W.cell? ⟨b,o+1,none⟩=some (.int .i64 x.2)
theorem CEq.stable:QQ CEq:=fun h hb ⟨v,h1,h2,h3⟩=>⟨v,(hb.cell (p:=⟨_,_,none⟩) h).trans h1,h2.below hb,(hb.cell (p:=⟨_,_,none⟩) h).trans h3⟩
abbrev EX (W:World) (v:Value) (l:List (List Int×Int)):Prop:=JJ 2 CEq W v l
theorem EX.below {W W':World} {v:Value} {l:List (List Int×Int)} (h:EX W v l) (hb:Below W.heap.size W W'):EX W' v l:=JJ.below (C:=CEq) (fun h1 h2 h3=>CEq.stable h1 h2 h3) h hb
end
section
open Go.RowKit
attribute [local go_sem] Oper.semAt_some
theorem Im {b:Nat} {w w':World} (h:LJ b b w w') (hb:b<=w.heap.size):Below b w w' :=
 ⟨h.os,h.tape,h.output,h.size,fun k hk=>by
  by_cases hkw:k<w.heap.size
  ·exact h.block k hk hkw Ad
  ·exact absurd hkw Ad⟩
def HO (l:List ByteArray):List UInt8:=l.flatMap fun s=>s.data.toList
theorem N9 (s:ByteArray) (l:List ByteArray):HO (s :: l)=s.data.toList++HO l:=by simp [HO]
theorem KA {l:List ByteArray} {j:Nat} {s:ByteArray} (h:l[j]? = some s):HO (l.take (j+1))=HO (l.take j)++s.data.toList:=by
 unfold HO;rw [List.take_add_one,h];simp
theorem PE {l:List ByteArray} (h:∀ s∈l,s.size<=1000):(HO l).length<=1000*l.length:=by
 induction l with
 | nil=>simp [HO]
 | cons s l ih =>
  have h1:=h s Br;have h2:=ih fun x hx=>h x (Bw _ hx)
  have h3:s.data.toList.length=s.size:=by rw [BC];rfl
  rw [N9,Ci,CG,h3];omega
theorem UL (v:Value) (l:List ByteArray) (w:World) (h:DS w v l) (h1:1<=l.length) (hl:l.length<=50) (hs:∀ s∈l,s.size<=1000) :
  Calls Tryz.prog 76 #[v,.string ⟨#[]⟩] w fun e w'=>e=.returned (.string ⟨(HO l).toArray⟩)/\Below w.heap.size w w':=by
 rcases h with ⟨rfl,rfl⟩ | ⟨S,off,cap,rfl,q1,q2,hS,hc⟩
 ·simp at h1
 have hc':∀ k:Nat,k<l.length->∃ s:ByteArray,l[k]? = some s/\w.cell? ⟨S,off+k,none⟩=some (.string s)/\s.size<=1000:=fun k hk=>by
  obtain ⟨s,e⟩:∃ s,l[k]? = some s:=⟨l[k],Ax hk⟩;have:=hc k s e;rw [AY] at this;exact ⟨s,e,this,hs s (Ay e)⟩
 clear hc
 have hc:=A8 hc'
 clear hc'
 obtain ⟨n,hn⟩:∃ n,n=l.length:=⟨_,rfl⟩
 rw [<-hn] at h1 hl q1 hc |-
 by_cases hone:n=1
 ·obtain ⟨s,e,d0,hs0⟩:=hc.out 0 Ad
  have hcat:HO l=s.data.toList:=by
   have:=KA e;rw [BG Ad] at this;rw [this];simp [HO]
  rw [hcat];have hb:(⟨s.data.toList.toArray⟩:ByteArray)=s:=rfl;rw [hb];subst hone;rw [Nat.add_zero] at d0;clear hn hcat hb hs hc;unfold maxLen at q2;go_enter Tryz.func76,Tryz.ntmps76;go_wp2;go_ret;exact ⟨rfl,Below.refl _ _⟩
 ·have n2:(2:Int)<=n:=by omega
  have n0:¬ (n:Int)=0:=by omega
  have n1:¬ (n:Int)=1:=by omega
  have h1':(1:Int)<=n:=by omega
  have hcap:(n:Int)<=cap:=by omega
  have hw1:IntKind.i64.wrap ((n:Int)-1)=((n-1:Nat):Int):=by rw [BT _ Ad];omega
  unfold maxLen at q2;replace hn:=A8 hn;have hcap2:(2:Int)<=cap:=by omega
  go_enter Tryz.func76,Tryz.ntmps76;go_wp2_with fail;go_loop [5,41] (fun n' i=>∃ (k:Nat) (m:Int),n'=.int .i64 m/\i=.int .i64 k/\k<=n/\0<=m/\m<=1000*k) (fun _ i=>n-(intOf i).toNat);case atStart=>exact ⟨0,0,rfl,rfl,Ad,Ad,Ad⟩
  case round =>
   obtain ⟨k,m,rfl,rfl,hk,hm0,hm1⟩:=hrel;by_cases hlt:k<n
   ·obtain ⟨s,_,d0,hs0⟩:=hc.out k hlt
    have hi0:(0:Int)<=(k:Int):=by omega
    have hi1:(k:Int)<n:=by omega
    go_wp2_with fail;go_round;case rel=>exact ⟨k+1,m+s.size,rfl,by go_num,Ad,Ad,Ad⟩
    case measure=>simp [intOf];omega
   ·have hk2:¬ (k:Int)<n:=by omega
    have hm2:m<=50000:=by omega
    obtain ⟨q,rfl⟩:=CX hm0;have hB0:Below w.heap.size w (w.alloc (.cells #[.pointer none,.slice none 0 0] 134)):=(Below.refl _ _).alloc (Aa _) _;have G:=Tryz.Builder_Grow_fresh w.heap.size w.heap.size q (w.alloc (.cells #[.pointer none,.slice none 0 0] 134)) (Aa _) (World.alloc_heap_new w _) Af Ad;have G:=A8 G;go_wp2_with fail;refine G.out.mono ?_;rintro e w1 ⟨rfl,hbd,hb1⟩;have hB1:=hB0.trans hb1;have hbld:Ox w.heap.size w.heap.size [] w1:=by
     obtain ⟨_,v,h1,h2,_⟩:=hbd;exact ⟨_,v,h1,.inr rfl,h2⟩
    clear G hbd hb1 hB0;obtain ⟨s0,e0,d0,z0⟩:=hc.out 0 Ad;replace d0:=(hB1.cell (p:=⟨S,off+0,none⟩) hS).trans d0;rw [Nat.add_zero] at d0;go_wp2_with fail;refine (Fd hbld s0 (by simp;omega) hB1.size).mono ?_;rintro e w2 ⟨rfl,hb2,hw2⟩;have hB2:=hB1.trans (Im hw2 hB1.size);have ht1:[]++s0.data.toList=HO (l.take (0+1)):=by rw [KA e0];simp [HO]
    rw [ht1] at hb2;clear hbld hw2 hB1 d0 ht1 e0 z0;go_upto_region 22 with fail;go_loopw [65] (fun i wr=>∃ j:Nat,i=.int .i64 j/\j+1<=n/\Ox w.heap.size w.heap.size (HO (l.take (j+1))) wr/\Below w.heap.size w wr) (fun i _=>n-(intOf i).toNat);case atStart=>exact ⟨0,rfl,Ad,hb2,hB2⟩
    case round =>
     clear hb2 hB2;obtain ⟨j,rfl,hj,hbd,hB⟩:=hrel;by_cases hj0:j+1<n
     ·obtain ⟨s1,e1,d1,z1⟩:=hc.out (j+1) Ad
      replace d1:=(hB.cell (p:=⟨S,off+(j+1),none⟩) hS).trans d1;rw [<-Nat.add_assoc,Nat.add_right_comm] at d1;have hlen:(HO (l.take (j+1))).length<=1000*(j+1):=Bc (PE (fun s hs'=>hs s (List.mem_of_mem_take hs'))) (Nat.mul_le_mul_left _ (by rw [BB];omega));have hi0:(0:Int)<=(j:Int):=by omega
      have hi1:(j:Int)<((n-1:Nat):Int):=by omega
      have ht:=KA e1;go_wp2_with fail;refine (Fd hbd ⟨#[]⟩ (by show _+0<=_;omega) hB.size).mono ?_;rintro e w3 ⟨rfl,hb3,hw3⟩;have hB3:=hB.trans (Im hw3 hB.size);rw [show (⟨#[]⟩:ByteArray).data.toList=[] from rfl,List.append_nil] at hb3;clear hbd hw3 hB d1;go_wp2_with fail;refine (Fd hb3 s1 Ad hB3.size).mono ?_;rintro e w4 ⟨rfl,hb4,hw4⟩;have hB4:=hB3.trans (Im hw4 hB3.size);rw [<-ht] at hb4;clear hb3 hw4 hB3 ht;go_wp2_with fail;go_roundw;case rel=>exact ⟨j+1,by go_num,Ad,hb4,hB4⟩
      case measure=>simp [intOf];omega
     ·have hi1:¬ (j:Int)<((n-1:Nat):Int):=by omega
      have hall:l.take (j+1)=l:=BG (by have:=hn.out;omega);rw [hall] at hbd;clear hall;go_wp2_with fail;refine (Ig hbd (Aa _) hB.size).mono ?_;rintro e w3 ⟨rfl,hb3,_⟩;have hB3:=hB.trans hb3;go_wp2;go_ret;exact ⟨rfl,hB3⟩
end
section
open Go.RowKit
open LnM (wd DL)
attribute [local go_sem] Oper.semAt_some
abbrev wc (f:Nat->Int):Array Value:=#[.int .u64 (f 0),.int .u64 (f 1),.int .u64 (f 2),.int .u64 (f 3),.int .u64 (f 4),.int .u64 (f 5),.int .u64 (f 6),.int .u64 (f 7),.int .u64 (f 8),.int .u64 (f 9),.int .u64 (f 10),.int .u64 (f 11)]
theorem FC (f:Nat->Int) {i:Nat} (h:i<12):(wc f)[i]? = some (.int .u64 (f i)):=by
 match i,h with
 | 0,_=>rfl
 | 1,_=>rfl
 | 2,_=>rfl
 | 3,_=>rfl
 | 4,_=>rfl
 | 5,_=>rfl
 | 6,_=>rfl
 | 7,_=>rfl
 | 8,_=>rfl
 | 9,_=>rfl
 | 10,_=>rfl
 | 11,_=>rfl
theorem F7 (f:Nat->Int) {i:Nat} (h:i<12) (v:Int):(wc f).setIfInBounds i (.int .u64 v)=wc (DL f i v):=by
 match i,h with
 | 0,_=>rfl
 | 1,_=>rfl
 | 2,_=>rfl
 | 3,_=>rfl
 | 4,_=>rfl
 | 5,_=>rfl
 | 6,_=>rfl
 | 7,_=>rfl
 | 8,_=>rfl
 | 9,_=>rfl
 | 10,_=>rfl
 | 11,_=>rfl
theorem Eu {f g:Nat->Int} (h:∀ i,i<12->f i=g i):wc f=wc g:=by
 unfold wc;rw [h 0 Ae,h 1 Ae,h 2 Ae,h 3 Ae,h 4 Ae,h 5 Ae,h 6 Ae,h 7 Ae,h 8 Ae,h 9 Ae,h 10 Ae,h 11 Ae]
theorem DN {W:World} {B:Nat} {f:Nat->Int} {t:TypeId} (h:Ds W B (wc f) t):W.cell? ⟨B,0,none⟩=some (.int .u64 (f 0))/\W.cell? ⟨B,1,none⟩=some (.int .u64 (f 1))/\W.cell? ⟨B,2,none⟩=some (.int .u64 (f 2))/\W.cell? ⟨B,3,none⟩=some (.int .u64 (f 3))/\W.cell? ⟨B,4,none⟩=some (.int .u64 (f 4))/\W.cell? ⟨B,5,none⟩=some (.int .u64 (f 5))/\W.cell? ⟨B,6,none⟩=some (.int .u64 (f 6))/\W.cell? ⟨B,7,none⟩=some (.int .u64 (f 7))/\W.cell? ⟨B,8,none⟩=some (.int .u64 (f 8))/\W.cell? ⟨B,9,none⟩=some (.int .u64 (f 9))/\W.cell? ⟨B,10,none⟩=some (.int .u64 (f 10))/\W.cell? ⟨B,11,none⟩=some (.int .u64 (f 11)):=⟨h.cell 0,h.cell 1,h.cell 2,h.cell 3,h.cell 4,h.cell 5,h.cell 6,h.cell 7,h.cell 8,h.cell 9,h.cell 10,h.cell 11⟩
theorem Fy {W:World} {B:Nat} {f:Nat->Int} {t:TypeId} (h:Ds W B (wc f) t):W.frozen? ⟨B,0,none⟩=false/\W.frozen? ⟨B,1,none⟩=false/\W.frozen? ⟨B,2,none⟩=false/\W.frozen? ⟨B,3,none⟩=false/\W.frozen? ⟨B,4,none⟩=false/\W.frozen? ⟨B,5,none⟩=false/\W.frozen? ⟨B,6,none⟩=false/\W.frozen? ⟨B,7,none⟩=false/\W.frozen? ⟨B,8,none⟩=false/\W.frozen? ⟨B,9,none⟩=false/\W.frozen? ⟨B,10,none⟩=false/\W.frozen? ⟨B,11,none⟩=false:=⟨h.frozen 0,h.frozen 1,h.frozen 2,h.frozen 3,h.frozen 4,h.frozen 5,h.frozen 6,h.frozen 7,h.frozen 8,h.frozen 9,h.frozen 10,h.frozen 11⟩
abbrev Jg (W:World) (R:Nat) (f:Nat->Int):World:=((((((((((((W.setCell ⟨R,0,none⟩ (.int .u64 (f 0))).setCell ⟨R,1,none⟩ (.int .u64 (f 1))).setCell ⟨R,2,none⟩ (.int .u64 (f 2))).setCell ⟨R,3,none⟩ (.int .u64 (f 3))).setCell ⟨R,4,none⟩ (.int .u64 (f 4))).setCell ⟨R,5,none⟩ (.int .u64 (f 5))).setCell ⟨R,6,none⟩ (.int .u64 (f 6))).setCell ⟨R,7,none⟩ (.int .u64 (f 7))).setCell ⟨R,8,none⟩ (.int .u64 (f 8))).setCell ⟨R,9,none⟩ (.int .u64 (f 9))).setCell ⟨R,10,none⟩ (.int .u64 (f 10))).setCell ⟨R,11,none⟩ (.int .u64 (f 11)))
theorem Fs {W:World} {R:Nat} {f g:Nat->Int} {t:TypeId} (h:Ds W R (wc g) t):Ds (Jg W R f) R (wc f) t:=by
 have h0:=h.set 0 (.int .u64 (f 0));rw [F7 _ Ae] at h0;have h1:=h0.set 1 (.int .u64 (f 1));rw [F7 _ Ae] at h1;have h2:=h1.set 2 (.int .u64 (f 2));rw [F7 _ Ae] at h2;have h3:=h2.set 3 (.int .u64 (f 3));rw [F7 _ Ae] at h3;have h4:=h3.set 4 (.int .u64 (f 4));rw [F7 _ Ae] at h4;have h5:=h4.set 5 (.int .u64 (f 5));rw [F7 _ Ae] at h5;have h6:=h5.set 6 (.int .u64 (f 6));rw [F7 _ Ae] at h6;have h7:=h6.set 7 (.int .u64 (f 7));rw [F7 _ Ae] at h7;have h8:=h7.set 8 (.int .u64 (f 8));rw [F7 _ Ae] at h8;have h9:=h8.set 9 (.int .u64 (f 9));rw [F7 _ Ae] at h9;have h10:=h9.set 10 (.int .u64 (f 10));rw [F7 _ Ae] at h10;have h11:=h10.set 11 (.int .u64 (f 11));rw [F7 _ Ae] at h11;have e:wc (DL (DL (DL (DL (DL (DL (DL (DL (DL (DL (DL (DL g 0 (f 0)) 1 (f 1)) 2 (f 2)) 3 (f 3)) 4 (f 4)) 5 (f 5)) 6 (f 6)) 7 (f 7)) 8 (f 8)) 9 (f 9)) 10 (f 10)) 11 (f 11))=wc f:=Eu fun i hi=>by
  match i,hi with
  | 0,_=>simp [DL]
  | 1,_=>simp [DL]
  | 2,_=>simp [DL]
  | 3,_=>simp [DL]
  | 4,_=>simp [DL]
  | 5,_=>simp [DL]
  | 6,_=>simp [DL]
  | 7,_=>simp [DL]
  | 8,_=>simp [DL]
  | 9,_=>simp [DL]
  | 10,_=>simp [DL]
  | 11,_=>simp [DL]
 rw [e] at h11;exact h11
theorem H0 {V W:World} {R:Nat} {f:Nat->Int} (h:Below V.heap.size V W) (hR:V.heap.size<=R):Below V.heap.size V (Jg W R f) :=
 h.setCell (p:=⟨R,0,none⟩) hR _ |>.setCell (p:=⟨R,1,none⟩) hR _ |>.setCell (p:=⟨R,2,none⟩) hR _ |>.setCell (p:=⟨R,3,none⟩) hR _ |>.setCell (p:=⟨R,4,none⟩) hR _ |>.setCell (p:=⟨R,5,none⟩) hR _ |>.setCell (p:=⟨R,6,none⟩) hR _ |>.setCell (p:=⟨R,7,none⟩) hR _ |>.setCell (p:=⟨R,8,none⟩) hR _ |>.setCell (p:=⟨R,9,none⟩) hR _ |>.setCell (p:=⟨R,10,none⟩) hR _ |>.setCell (p:=⟨R,11,none⟩) hR _
theorem JZ (f:Nat->Int) (w:World) :
  Calls Tryz.prog 69 #[.agg (wc f)] w (DR w (.bool (f 11 / 9223372036854775808==1))):=by
 go_enter Tryz.func69,Tryz.ntmps69
 go_wp2
 go_ret
 exact ⟨rfl,(Below.refl _ _).alloc (Aa _) _⟩
theorem UH {n:Int} (hn:Dy n) {j:Nat} (hj:1<=j):wd n j=if n<0 then 18446744073709551615 else 0:=by
 obtain ⟨k,rfl⟩:∃ k,j=k+1:=⟨j-1,Ad⟩;unfold wd;have hp:(18446744073709551616:Int)<=LnM.P (k+1):=by
  show _<=(18446744073709551616:Int)*LnM.P k;have:=LnM.P_pos k;omega
 unfold Dy at hn;by_cases h:n<0
 ·rw [AU h]
  have:n / LnM.P (k+1)=-1:=by
   refine Int.le_antisymm (Int.lt_add_one_iff.1 (Cz (LnM.P_pos _) Ad)) (Int.le_ediv_of_mul_le (LnM.P_pos _) Ad)
  rw [this];decide
 ·rw [AP h]
  have:n / LnM.P (k+1)=0:=CF Ad Ad;rw [this];decide
theorem UI (n:Int):wd n 0=n % 18446744073709551616:=by unfold wd LnM.P;rw [Int.ediv_one]
theorem K0 (n:Int) (hn:Dy n) (w:World) :
  Calls Tryz.prog 68 #[.int .i64 n] w (DR w (.agg (wc (wd n)))):=by
 obtain ⟨z,hz⟩:∃ z:Int,z=if n<0 then 18446744073709551615 else 0:=⟨_,rfl⟩
 have hz1:IntKind.u64.wrap (n / 9223372036854775808)=z:=by rw [IntKind.wrap_u64];unfold Dy at hn;rw [hz];split <;> omega
 have hz0:IntKind.u64.wrap n=wd n 0:=by rw [IntKind.wrap_u64,UI]
 have hfin:wc (DL (fun j=>if j<12 then z else 0) 0 (wd n 0))=wc (wd n):=Eu fun i hi=>by
  unfold DL;by_cases h:i=0
  ·subst h;simp
  ·simp [h,hi];rw [UH hn Ad,hz]
 clear hn
 obtain ⟨V1,ev1,S1,zv1⟩:=(BL.start w).add' (wc (fun _=>0)) 66
 obtain ⟨V2,ev2,S2,zv2⟩:=S1.add' (wc (fun _=>0)) 66
 rw [zv1] at S2
 have hV:V2=(w.alloc (.cells (wc (fun _=>0)) 66)).alloc (.cells (wc (fun _=>0)) 66):=by rw [ev2,ev1]
 have hS:BL w [(w.heap.size+1,wc (fun j=>if j<0 then z else 0),66),(w.heap.size,wc (fun _=>0),66)] V2:=S2
 have hO:∀ f:Nat->Int,JB w [(w.heap.size+1,wc f,66),(w.heap.size,wc (fun _=>0),66)]:=fun f=>⟨Af,Af⟩
 clear ev1 ev2 zv1 zv2 S1 S2
 go_enter Tryz.func68,Tryz.ntmps68
 go_wp2_with fail
 rw [<-hV]
 clear hV
 go_loopw [5] (fun o wr=>∃ i:Nat,o=.int .i64 i/\i<=12/\BL w [(w.heap.size+1,wc (fun j=>if j<i then z else 0),66),(w.heap.size,wc (fun _=>0),66)] wr) (fun o _=>12-(intOf o).toNat)
 case atStart=>exact ⟨0,rfl,Ad,hS⟩
 case round =>
  clear hS;obtain ⟨i,rfl,hi,hS⟩:=hrel;by_cases hlt:i<12
  ·have hlt':(i:Int)<12:=by omega
   have c0:=(hS.cell (w.heap.size+1) _ _ Ah i).trans (FC _ hlt);have c1:=hS.frozen (w.heap.size+1) _ _ Ah i;have hS2:=BL.putc (A:=[]) (hO _) hS i (.int .u64 z);rw [F7 _ hlt] at hS2;have e:wc (DL (fun j=>if j<i then z else 0) i z)=wc (fun j=>if j<i+1 then z else 0):=Eu fun j hj=>by
    unfold DL;by_cases h:j=i
    ·subst h;simp
    ·by_cases h2:j<i
     ·simp [h,h2,show j<i+1 by omega]
     ·simp [h,h2,show ¬ j<i+1 by omega]
   rw [e] at hS2;clear hS e hz hfin;go_wp2_with fail;go_roundw;case rel=>exact ⟨i+1,by go_num,Ad,hS2⟩
   case measure=>simp [intOf];omega
  ·obtain rfl:i=12:=by omega
   have c0:=(hS.cell (w.heap.size+1) _ _ Ah 0).trans (FC _ Ae);have c1:=hS.frozen (w.heap.size+1) _ _ Ah 0;have hS2:=BL.putc (A:=[]) (hO _) hS 0 (.int .u64 (wd n 0));rw [F7 _ Ae] at hS2;rw [show wc (DL (fun j=>if j<12 then z else 0) 0 (wd n 0))=wc (wd n) from hfin] at hS2;clear hfin hz;generalize wd n=f at *
   go_upto_region 8 with fail;obtain ⟨W,hW⟩:∃ W,W=wr.setCell ⟨w.heap.size+1,0,none⟩ (.int .u64 (f 0)):=⟨_,rfl⟩;rw [<-hW] at hS2 |-;clear hS hW c0 c1;rw [BY] at hS2;obtain ⟨k0,k1,k2,k3,k4,k5,k6,k7,k8,k9,k10,k11⟩:=DN (show Ds W (w.heap.size+1) (wc f) 66 from hS2.blks (w.heap.size+1,wc f,66) Ah);have hR:Ds W w.heap.size (wc (fun _=>0)) 66:=hS2.blks (w.heap.size,wc (fun _=>0),66) Ai;obtain ⟨r0,r1,r2,r3,r4,r5,r6,r7,r8,r9,r10,r11⟩:=DN hR;obtain ⟨q0,q1,q2,q3,q4,q5,q6,q7,q8,q9,q10,q11⟩:=Fy hR;obtain ⟨y0,y1,y2,y3,y4,y5,y6,y7,y8,y9,y10,y11⟩:=DN (Fs (f:=f) hR);have hfin:=A8 (H0 (f:=f) hS2.below (Aa w.heap.size));clear hR hS2 hO;dsimp only [Jg] at y0 y1 y2 y3 y4 y5 y6 y7 y8 y9 y10 y11 hfin;go_wp2;exact bodyPost_ret (v:=.agg (wc f)) (by simp [results,Tryz.results68,go_sem,y0,y1,y2,y3,y4,y5,y6,y7,y8,y9,y10,y11]) rfl ⟨rfl,hfin.out⟩
end
section
open Go.RowKit
theorem Il {B:Nat} {t:TypeId}:∀ (vs:List Value) (o:Nat) {W:World} {cs:Array Value},Ds W B cs t->∃ ds,Ds (W.setCells B o vs) B ds t/\ds.size=cs.size/\∀ j,j<cs.size->ds[j]? = if o<=j/\j<o+vs.length then vs[j-o]? else cs[j]?
 | [],o,W,cs,h=>⟨cs,h,rfl,fun j _=>by rw [AP Af]⟩
 | v :: vs,o,W,cs,h=>by
  obtain ⟨ds,h1,h2,h3⟩:=Il vs (o+1) (h.set o v);rw [Array.size_setIfInBounds] at h2 h3;refine ⟨ds,h1,h2,fun j hj=>?_⟩;rw [h3 j hj];by_cases e:j=o
  ·subst e
   rw [AP Ad,AU ⟨Aa _,Af⟩,Nat.sub_self,Array.getElem?_setIfInBounds_self_of_lt hj];rfl
  ·by_cases c:o+1<=j/\j<o+1+vs.length
   ·rw [AU c,AU ⟨Ad,by rw [CG];omega⟩]
    obtain ⟨k,rfl⟩:∃ k,j=o+1+k:=⟨j-(o+1),Ad⟩;rw [show o+1+k-(o+1)=k by omega,show o+1+k-o=k+1 by omega,Da]
   ·rw [AP c,AP (by rw [CG];omega),Array.getElem?_setIfInBounds_ne Ad]
theorem Dx {B:Nat}:∀ (vs:List Value) (o:Nat) (W:World),Dr [B] W (W.setCells B o vs)
 | [],_,W=>Dr.refl _ W
 | v :: vs,o,W=>((Dr.refl [B] W).setCell (p:=⟨B,o,none⟩) Af v).trans (Dx vs (o+1) _)
theorem BL.row {w W:World} {A C:Ei} {B:Nat} {cs ds:Array Value} {t:TypeId} (hO:JB w (A++(B,cs,t) :: C)) (h:BL w (A++(B,cs,t) :: C) W) (o:Nat) (vs:List Value)
  (hs:ds.size=cs.size) (hd:∀ j,j<cs.size->ds[j]? = if o<=j/\j<o+vs.length then vs[j-o]? else cs[j]?) :
  BL w (A++(B,ds,t) :: C) (W.setCells B o vs):=by
 have h1:=(h.drop (M:=A++C) (fun p hp=>by
  rcases Bz.1 hp with h1 | h1
  ·exact Bu _ h1
  ·exact Bq _ (Bw _ h1))).only (Dx vs o W) (by simpa using hO.base) (fun p hp=>by simpa using hO.ne p hp)
 obtain ⟨es,b1,b2,b3⟩:=Il vs o (h.blks (B,cs,t) (Bq _ Br))
 have e:es=ds:=Array.ext_getElem? fun j=>by
  by_cases hj:j<cs.size
  ·rw [b3 j hj,hd j hj]
  ·rw [BP (by rw [b2];exact Nat.le_of_not_lt hj),BP Ad]
 subst e
 refine ⟨h1.below,fun p hp=>?_⟩
 rcases Bz.1 hp with h2 | h2
 ·exact h1.blks p (Bu _ h2)
 ·rcases Aw.1 h2 with rfl | h2
  ·exact b1
  ·exact h1.blks p (Bq _ h2)
theorem BL.rowAll {w W:World} {A C:Ei} {B:Nat} {cs:Array Value} {t:TypeId} (hO:JB w (A++(B,cs,t) :: C)) (h:BL w (A++(B,cs,t) :: C) W) (vs:List Value) (hs:vs.length=cs.size) :
  BL w (A++(B,vs.toArray,t) :: C) (W.setCells B 0 vs) :=
 BL.row hO h 0 vs (by simpa using hs) fun j hj=>by rw [AU ⟨AO _,Ad⟩,Nat.sub_zero];simp
theorem BL.range {w W:World} {L:Ei} (h:BL w L W) (B:Nat) (vs:List Value) (t:TypeId) (hm:(B,vs.toArray,t)∈L):W.rangeAt B 0 vs:=fun j v hv=>by
 rw [BN,h.cell B _ t hm];simpa using hv
theorem BL.there {w W:World} {L:Ei} (h:BL w L W) (B:Nat) (cs:Array Value) (t:TypeId) (hm:(B,cs,t)∈L) (n:Nat) (hn:n=cs.size):W.there B 0 n:=fun j hj=>by
 rw [BN,h.cell B _ t hm,h.frozen B _ t hm];exact ⟨by rw [Cl Ad];rfl,rfl⟩
def wl (f:Nat->Int):List Value:=[.int .u64 (f 0),.int .u64 (f 1),.int .u64 (f 2),.int .u64 (f 3),.int .u64 (f 4),.int .u64 (f 5),.int .u64 (f 6),.int .u64 (f 7),.int .u64 (f 8),.int .u64 (f 9),.int .u64 (f 10),.int .u64 (f 11)]
theorem Ej (f:Nat->Int):(wl f).toArray=wc f:=rfl
theorem Kz (f:Nat->Int):(wl f).length=12:=rfl
theorem JC (f:Nat->Int):∀ v∈wl f,v.oneCell'=true:=by simp [wl,Value.oneCell']
theorem HK (W:World) (B:Nat) (f:Nat->Int):W.setCells B 0 (wl f)=Jg W B f:=rfl
end
section
section
variable {P:Program} {md:Region.Mode} {ops:Array Oper} {Q:Exit->Act->World->Prop} {S:World->Prop} {st:Nat}
def Dv (P:Program) (md:Region.Mode) (ops:Array Oper) (Q:Exit->Act->World->Prop) (S:World->Prop) (st:Nat):Nat->Array Bool->Act->World->Prop
 | 0,l,a,w=>Region.ready md ops l=[]/\Q .normal a w
 | n+1,l,a,w=>(Region.ready md ops l=[]->Q .normal a w)/\∀ j∈Region.ready md ops l,wpOp P ops Q j (fun a' w'=>(j≠st->S w')/\Dv P md ops Q S st n (l.setIfInBounds j true) a' w') a w
theorem Dv.any:∀ {n:Nat} {l:Array Bool} {a:Act} {w:World},Dv P md ops Q S st n l a w->wpAny P md ops Q n l a w
 | 0,_,_,_,h=>h
 | _+1,_,_,_,h=>⟨h.1,fun j hj=>wpOp_mono (fun _ _ hk=>hk.2.any) (h.2 j hj)⟩
theorem Dv.start {id:Nat} {a:Act} {w:World} (hm:P.follows .mixedOrders=true) (h:Dv P .any ops Q S st ops.size (Array.replicate ops.size false) a w.drew):(Code.region id ops true).wp P Q a w :=
 wp_region_any hm h.any
theorem Dv.first {i:Nat} {oi os:Oper} {v:Value} (hi:ops[i]? = some oi) (hst:ops[st]? = some os) (hw:os.after.any (fun e=>Region.binds md e&&e.on==i)=true) (hsel:Region.noSelect ops=true)
  (hQ:∀ c a w,Q (.panic c) (a.put oi.dst v) w->Q (.panic c) a w):∀ (n:Nat) (l:Array Bool) (a:Act) (w:World),
  (∀ j oj,ops[j]? = some oj->j≠i->l.getD j true=false->(∀ e∈oj.after,Region.binds md e=true->e.on≠i)->oi.apart ops oj=true) ->
  i∈Region.ready md ops l->YieldsIf P ops S oi v a->S w->i≠st ->
  Dv P md ops Q S st n (l.setIfInBounds i true) (a.put oi.dst v) w->Dv P md ops Q S st (n+1) l a w:=by
 intro n
 induction n with
 | zero =>
  intro l a w _ hr hy hS _ H;refine ⟨fun h=>(by rw [h] at hr;cases hr),fun j hj=>?_⟩;by_cases e:j=i
  ·subst e;exact hy.wpOp hi hS ⟨fun _=>hS,H⟩
  ·have:=ready_mono hj e
   rw [H.1] at this;cases this
 | succ n ih =>
  intro l a w hf hr hy hS his H;refine ⟨fun h=>(by rw [h] at hr;cases hr),fun j hj=>?_⟩;by_cases e:j=i
  ·subst e;exact hy.wpOp hi hS ⟨fun _=>hS,H⟩
  ·obtain ⟨un,oj,hoj,hall⟩:=mem_ready.1 hj
   have un0:=(mem_ready.1 hr).1;have hno:∀ x∈oj.after,Region.binds md x=true->x.on≠i:=fun x hx hb ex=>by
    have l1:=hall x hx hb;rw [ex] at l1;rcases Nat.lt_or_ge i l.size with c | c
    ·simp [c] at un0 l1;rw [un0] at l1;cases l1
    ·simp [BP c] at l1
   have hjs:j≠st:=fun ejs=>by
    subst ejs;rw [hst] at hoj;obtain rfl:=B4 hoj;obtain ⟨x,hx,hb⟩:=Array.any_eq_true'.1 hw;simp only [Ap,C4] at hb;exact hno x hx hb.1 hb.2
   have h2:=wpOp_putIf hoj (hf j oj hoj e un hno) (fun cs b=>Region.noSelect_spec hsel i oi cs b hi) (fun cs b=>Region.noSelect_spec hsel j oj cs b hoj) hQ hy (H.2 j (ready_mono hj e));refine wpOp_mono (fun a' w' h3=>⟨h3.2.1,ih _ a' w' (fun k ok hk hki hun hn=>hf k ok hk hki ?_ hn) (ready_mono hr (Ne.symm e)) h3.1 (h3.2.1 hjs) his ?_⟩) h2
   ·by_cases ejk:j=k
    ·subst ejk;exact un
    ·rw [getD_set_ne true ejk] at hun;exact hun
   ·rw [Array.setIfInBounds_comm _ _ e];exact h3.2.2
theorem Dv.take {i:Nat} {oi os:Oper} {v:Value} {n:Nat} {l:Array Bool} {a:Act} {w:World} (hi:ops[i]? = some oi) (hst:ops[st]? = some os)
  (hw:os.after.any (fun e=>Region.binds md e&&e.on==i)=true) (hsel:Region.noSelect ops=true) (hf:Region.free md ops l i=true) (hr:(Region.ready md ops l).contains i=true) (his:i≠st)
  (hQ:∀ c a w,Q (.panic c) (a.put oi.dst v) w->Q (.panic c) a w) (hS:S w) (hy:YieldsIf P ops S oi v a)
  (h:Dv P md ops Q S st n (l.setIfInBounds i true) (a.put oi.dst v) w):Dv P md ops Q S st (n+1) l a w :=
 Dv.first hi hst hw hsel hQ n l a w (Region.free_spec hi hf) (by simpa using hr) hy hS his h
theorem Dv.one {i:Nat} {o:Oper} {n:Nat} {l:Array Bool} {a:Act} {w:World} (hr:Region.ready md ops l=[i]) (ho:ops[i]? = some o)
  (h:∀ K':Act->World->Prop,Shut (∀ a w,(i≠st->S w)->Dv P md ops Q S st n (l.setIfInBounds i true) a w->K' a w)->if Region.wanted o (yielded ops a.tmps)=true then Oper.wp P o a w K' Q else K' (a.put o.dst undef) w) :
  Dv P md ops Q S st (n+1) l a w :=
 ⟨fun h0=>(by rw [hr] at h0;cases h0),fun j hj=>by
  rw [hr] at hj;obtain rfl:=B3.1 hj;exact wpOp_step ho (fun K' hK=>h K' (fun a w h1 h2=>hK a w ⟨h1,h2⟩))⟩
theorem Dv.done {l:Array Bool} {a:Act} {w:World} (hr:Region.ready md ops l=[]) (h:Q .normal a w):∀ n,Dv P md ops Q S st n l a w
 | 0=>⟨hr,h⟩
 | _+1=>⟨fun _=>h,by rw [hr];simp⟩
end
section
variable {P:Program} {md:Region.Mode} {ops:Array Oper} {Q:Exit->Act->World->Prop} {S:World->Prop}
theorem tkY (i:Nat) (v:Value) {oi:Oper} {fuel:Nat} {listed:Array Bool} {a:Act} {w:World} (hi:ops[i]? = some oi) (hy:YieldsIf P ops S oi v a) (hS:S w) (h:wpAnyH P md ops Q S fuel (listed.setIfInBounds i true) (a.put oi.dst v) w)
 (hs:Region.noSelect ops=true:=by kernel_rfl) (hf:Region.free md ops listed i=true:=by kernel_rfl) (hr:(Region.ready md ops listed).contains i=true:=by kernel_rfl) (hQ:∀ c a w,Q (.panic c) (a.put oi.dst v) w->Q (.panic c) a w:=by exact fun _ _ _ h=>h) :
 wpAnyH P md ops Q S (fuel+1) listed a w:=wpAnyH_take hi hs hf hr hQ hy hS h
theorem tkV (i:Nat) (v:Value) {oi:Oper} {fuel:Nat} {listed:Array Bool} {a:Act} {w:World} (hy:∀ w,S w->(execOp a.eval oi).run P w=.ok (.value v) w) (hS:S w) (h:wpAnyH P md ops Q S fuel (listed.setIfInBounds i true) (a.put oi.dst v) w)
 (hi:ops[i]? = some oi:=by rfl) (hw:Region.wanted oi (yielded ops a.tmps)=true:=by rfl) (hs:Region.noSelect ops=true:=by kernel_rfl) (hf:Region.free md ops listed i=true:=by kernel_rfl) (hr:(Region.ready md ops listed).contains i=true:=by kernel_rfl) (hQ:∀ c a w,Q (.panic c) (a.put oi.dst v) w->Q (.panic c) a w:=by exact fun _ _ _ h=>h) :
 wpAnyH P md ops Q S (fuel+1) listed a w:=wpAnyH_take hi hs hf hr hQ (.inl ⟨hw,hy⟩) hS h
end
end
section
open Go.RowKit
attribute [local go_sem] Oper.semAt_some
theorem M7 {α:Type} {l:List α} {k:Nat} (p:α->Bool) (h:k<l.length):(l.drop k).any p=(p l[k] || (l.drop (k+1)).any p):=by rw [Dc h,List.any_cons]
theorem QZ (v:Value) (l:List ByteArray) (g:Nat) (lb:Array Value) (p:ByteArray->Bool) (w:World) (h:DS w v l)
  (hE:∀ (args:Array Value) (w:World),(callFunc g args).run Tryz.prog w=.ok (.enter g args) w)
  (hF:∀ (W:World) (x:ByteArray),x∈l->Below w.heap.size w W->Calls Tryz.prog g (#[.string x]++lb) W fun e W'=>e=.returned (.bool (p x))/\Below W.heap.size W W') :
  Calls Tryz.prog 100 #[v,.func (.func g) #[] lb] w fun e w'=>(∃ z:Int,e=.returned (.int .i64 z)/\-1<=z/\(0<=z↔l.any p=true))/\Below w.heap.size w w':=by
 have hl:l.length<=maxLen:=h.len_le
 unfold maxLen at hl
 rcases h with ⟨rfl,rfl⟩ | ⟨b,off,cap,rfl,h1,h2,h3,h4⟩
 ·go_enter Tryz.func100,Tryz.ntmps100
  go_wp2_with fail;go_loopw [8] (fun i wr=>i=.int .i64 0/\wr=w) (fun _ _=>0);case atStart=>exact ⟨rfl,rfl⟩
  case round =>
   obtain ⟨rfl,rfl⟩:=hrel;go_wp2;go_ret;exact ⟨⟨-1,rfl,Ad,Af⟩,Below.refl _ _⟩
 ·go_enter Tryz.func100,Tryz.ntmps100
  go_wp2_with fail;go_loopw [8] (fun i wr=>∃ (k:Nat),i=.int .i64 k/\k<=l.length/\Hid (l.any p=(l.drop k).any p)/\Below w.heap.size w wr)
   (fun i _=>l.length-(intOf i).toNat)
  case atStart=>exact ⟨0,rfl,Ad,rfl,Below.refl _ _⟩
  case round =>
   obtain ⟨k,rfl,hk,hp,hB⟩:=hrel;by_cases hkl:k<l.length
   ·have c0:wr.cell? ⟨b,off+k,none⟩=some (.string l[k]):=by
     have:=h4 k _ (Ax hkl);rw [AY] at this;exact (hB.cell (p:=⟨_,_,none⟩) h3).trans this
    rw [M7 p hkl] at hp
    have hFk:=hF wr l[k] (AN hkl) hB
    cases hpk:p l[k] with
    | true =>
     replace hp:=A8 (show l.any p=true by rw [hp.out,hpk] <;> rfl);rw [hpk] at hFk;clear hpk;replace hFk:=A8 hFk;generalize l[k]=x at *
     go_wp2_with fail;refine hFk.out.mono ?_;rintro e W' ⟨rfl,hb⟩;go_wp2;go_ret;exact ⟨⟨k,rfl,Ad,by rw [hp.out];simp⟩,Dn hb hB (Aa _)⟩
    | false =>
     replace hp:=A8 (show l.any p=(l.drop (k+1)).any p by rw [hp.out,hpk] <;> rfl);rw [hpk] at hFk;clear hpk;replace hFk:=A8 hFk;generalize l[k]=x at *
     go_wp2_with fail;refine hFk.out.mono ?_;rintro e W' ⟨rfl,hb⟩;go_wp2_with fail;go_roundw;case rel=>exact ⟨k+1,by go_num,Ad,hp,Dn hb hB (Aa _)⟩
     case measure=>simp [intOf];omega
   ·have hp:=A8 (show l.any p=false by rw [hp.out,List.drop_eq_nil_of_le Ad];rfl)
    go_wp2;go_ret;exact ⟨⟨-1,rfl,Ad,by rw [hp.out];simp⟩,hB⟩
theorem Jm (v:Value) (l:List ByteArray) (g:Nat) (lb:Array Value) (p:ByteArray->Bool) (w:World) (h:DS w v l)
  (hE:∀ (args:Array Value) (w:World),(callFunc g args).run Tryz.prog w=.ok (.enter g args) w)
  (hF:∀ (W:World) (x:ByteArray),x∈l->Below w.heap.size w W->Calls Tryz.prog g (#[.string x]++lb) W fun e W'=>e=.returned (.bool (p x))/\Below W.heap.size W W') :
  Calls Tryz.prog 62 #[v,.func (.func g) #[] lb] w fun e w'=>e=.returned (.bool (l.any p))/\Below w.heap.size w w':=by
 have hI:=A8 (QZ v l g lb p w h hE hF)
 go_enter Tryz.func62,Tryz.ntmps62
 go_wp2_with fail
 refine hI.out.mono ?_
 rintro e w' ⟨⟨z,rfl,hz0,hz⟩,hb⟩
 replace hz:=A8 (show decide (0<=z)=l.any p by cases hc:l.any p <;> simp [hc] at hz |- <;> omega)
 go_wp2
 go_ret
 exact ⟨Dm hz.out,hb⟩
theorem R4 (v:Value) (l:List Int) (g:Nat) (lb:Array Value) (p:Int->Bool) (w:World) (h:IE w v l)
  (hE:∀ (args:Array Value) (w:World),(callFunc g args).run Tryz.prog w=.ok (.enter g args) w)
  (hF:∀ (W:World) (x:Int),x∈l->Below w.heap.size w W->Calls Tryz.prog g (#[.int .i64 x]++lb) W fun e W'=>e=.returned (.bool (p x))/\Below W.heap.size W W') :
  Calls Tryz.prog 79 #[v,.func (.func g) #[] lb] w fun e w'=>(∃ z:Int,e=.returned (.int .i64 z)/\-1<=z/\(0<=z↔l.any p=true))/\Below w.heap.size w w':=by
 have hl:l.length<=maxLen:=h.len_le
 unfold maxLen at hl
 rcases h with ⟨⟨_,rfl⟩,rfl⟩ | ⟨b,off,cap,rfl,h1,h2,h3,h4⟩
 ·go_enter Tryz.func79,Tryz.ntmps79
  go_wp2_with fail;go_loopw [8] (fun i wr=>i=.int .i64 0/\wr=w) (fun _ _=>0);case atStart=>exact ⟨rfl,rfl⟩
  case round =>
   obtain ⟨rfl,rfl⟩:=hrel;go_wp2;go_ret;exact ⟨⟨-1,rfl,Ad,Af⟩,Below.refl _ _⟩
 ·go_enter Tryz.func79,Tryz.ntmps79
  go_wp2_with fail;go_loopw [8] (fun i wr=>∃ (k:Nat),i=.int .i64 k/\k<=l.length/\Hid (l.any p=(l.drop k).any p)/\Below w.heap.size w wr)
   (fun i _=>l.length-(intOf i).toNat)
  case atStart=>exact ⟨0,rfl,Ad,rfl,Below.refl _ _⟩
  case round =>
   obtain ⟨k,rfl,hk,hp,hB⟩:=hrel;by_cases hkl:k<l.length
   ·have c0:wr.cell? ⟨b,off+k,none⟩=some (.int .i64 l[k]):=by
     have:=h4 k hkl;rw [FE hkl] at this;exact (hB.cell (p:=⟨_,_,none⟩) h3).trans this
    rw [M7 p hkl] at hp
    have hFk:=hF wr l[k] (AN hkl) hB
    cases hpk:p l[k] with
    | true =>
     replace hp:=A8 (show l.any p=true by rw [hp.out,hpk] <;> rfl);rw [hpk] at hFk;clear hpk;replace hFk:=A8 hFk;generalize l[k]=x at *
     go_wp2_with fail;refine hFk.out.mono ?_;rintro e W' ⟨rfl,hb⟩;go_wp2;go_ret;exact ⟨⟨k,rfl,Ad,by rw [hp.out];simp⟩,Dn hb hB (Aa _)⟩
    | false =>
     replace hp:=A8 (show l.any p=(l.drop (k+1)).any p by rw [hp.out,hpk] <;> rfl);rw [hpk] at hFk;clear hpk;replace hFk:=A8 hFk;generalize l[k]=x at *
     go_wp2_with fail;refine hFk.out.mono ?_;rintro e W' ⟨rfl,hb⟩;go_wp2_with fail;go_roundw;case rel=>exact ⟨k+1,by go_num,Ad,hp,Dn hb hB (Aa _)⟩
     case measure=>simp [intOf];omega
   ·have hp:=A8 (show l.any p=false by rw [hp.out,List.drop_eq_nil_of_le Ad];rfl)
    go_wp2;go_ret;exact ⟨⟨-1,rfl,Ad,by rw [hp.out];simp⟩,hB⟩
theorem ME (v:Value) (l:List Int) (g:Nat) (lb:Array Value) (p:Int->Bool) (w:World) (h:IE w v l)
  (hE:∀ (args:Array Value) (w:World),(callFunc g args).run Tryz.prog w=.ok (.enter g args) w)
  (hF:∀ (W:World) (x:Int),x∈l->Below w.heap.size w W->Calls Tryz.prog g (#[.int .i64 x]++lb) W fun e W'=>e=.returned (.bool (p x))/\Below W.heap.size W W') :
  Calls Tryz.prog 39 #[v,.func (.func g) #[] lb] w fun e w'=>e=.returned (.bool (l.any p))/\Below w.heap.size w w':=by
 have hI:=A8 (R4 v l g lb p w h hE hF)
 go_enter Tryz.func39,Tryz.ntmps39
 go_wp2_with fail
 refine hI.out.mono ?_
 rintro e w' ⟨⟨z,rfl,hz0,hz⟩,hb⟩
 replace hz:=A8 (show decide (0<=z)=l.any p by cases hc:l.any p <;> simp [hc] at hz |- <;> omega)
 go_wp2
 go_ret
 exact ⟨Dm hz.out,hb⟩
theorem R5 (v:Value) (l:List (List Int×Int)) (g:Nat) (lb:Array Value) (p:(List Int×Int)->Bool) (w:World) (h:EX w v l)
  (hE:∀ (args:Array Value) (w:World),(callFunc g args).run Tryz.prog w=.ok (.enter g args) w)
  (hF:∀ (W:World) (x:(List Int×Int)) (v:Value),x∈l->Below w.heap.size w W->IE W v x.1->Calls Tryz.prog g (#[.agg #[v,.int .i64 x.2]]++lb) W fun e W'=>e=.returned (.bool (p x))/\Below W.heap.size W W') :
  Calls Tryz.prog 78 #[v,.func (.func g) #[] lb] w fun e w'=>(∃ z:Int,e=.returned (.int .i64 z)/\-1<=z/\(0<=z↔l.any p=true))/\Below w.heap.size w w':=by
 have hl:l.length<=maxLen:=h.len_le
 unfold maxLen at hl
 rcases h with ⟨rfl,rfl⟩ | ⟨b,off,cap,rfl,h1,h2,h3,h4⟩
 ·go_enter Tryz.func78,Tryz.ntmps78
  go_wp2_with fail;go_loopw [8] (fun i wr=>i=.int .i64 0/\wr=w) (fun _ _=>0);case atStart=>exact ⟨rfl,rfl⟩
  case round =>
   obtain ⟨rfl,rfl⟩:=hrel;go_wp2;go_ret;exact ⟨⟨-1,rfl,Ad,Af⟩,Below.refl _ _⟩
 ·go_enter Tryz.func78,Tryz.ntmps78
  go_wp2_with fail;go_loopw [8] (fun i wr=>∃ (k:Nat),i=.int .i64 k/\k<=l.length/\Hid (l.any p=(l.drop k).any p)/\Below w.heap.size w wr)
   (fun i _=>l.length-(intOf i).toNat)
  case atStart=>exact ⟨0,rfl,Ad,rfl,Below.refl _ _⟩
  case round =>
   obtain ⟨k,rfl,hk,hp,hB⟩:=hrel;by_cases hkl:k<l.length
   ·obtain ⟨cv,c0,hcs,c1⟩:=h4 k _ (Ax hkl)
    obtain ⟨ac,cp,rfl⟩:=hcs.shape;replace c0:=(hB.cell (p:=⟨_,_,none⟩) h3).trans c0;replace c1:=(hB.cell (p:=⟨_,_,none⟩) h3).trans c1;rw [M7 p hkl] at hp;have hFk:=hF wr l[k] (.slice ac l[k].1.length cp) (AN hkl) hB (hcs.below hB);generalize l[k].1.length=lk at *
    cases hpk:p l[k] with
    | true =>
     replace hp:=A8 (show l.any p=true by rw [hp.out,hpk] <;> rfl);rw [hpk] at hFk;clear hpk;replace hFk:=A8 hFk;generalize l[k]=x at *
     go_wp2_with fail;refine hFk.out.mono ?_;rintro e W' ⟨rfl,hb⟩;go_wp2;go_ret;exact ⟨⟨k,rfl,Ad,by rw [hp.out];simp⟩,Dn hb hB (Aa _)⟩
    | false =>
     replace hp:=A8 (show l.any p=(l.drop (k+1)).any p by rw [hp.out,hpk] <;> rfl);rw [hpk] at hFk;clear hpk;replace hFk:=A8 hFk;generalize l[k]=x at *
     go_wp2_with fail;refine hFk.out.mono ?_;rintro e W' ⟨rfl,hb⟩;go_wp2_with fail;go_roundw;case rel=>exact ⟨k+1,by go_num,Ad,hp,Dn hb hB (Aa _)⟩
     case measure=>simp [intOf];omega
   ·have hp:=A8 (show l.any p=false by rw [hp.out,List.drop_eq_nil_of_le Ad];rfl)
    go_wp2;go_ret;exact ⟨⟨-1,rfl,Ad,by rw [hp.out];simp⟩,hB⟩
theorem Jn (v:Value) (l:List (List Int×Int)) (g:Nat) (lb:Array Value) (p:(List Int×Int)->Bool) (w:World) (h:EX w v l)
  (hE:∀ (args:Array Value) (w:World),(callFunc g args).run Tryz.prog w=.ok (.enter g args) w)
  (hF:∀ (W:World) (x:(List Int×Int)) (v:Value),x∈l->Below w.heap.size w W->IE W v x.1->Calls Tryz.prog g (#[.agg #[v,.int .i64 x.2]]++lb) W fun e W'=>e=.returned (.bool (p x))/\Below W.heap.size W W') :
  Calls Tryz.prog 37 #[v,.func (.func g) #[] lb] w fun e w'=>e=.returned (.bool (l.any p))/\Below w.heap.size w w':=by
 have hI:=A8 (R5 v l g lb p w h hE hF)
 go_enter Tryz.func37,Tryz.ntmps37
 go_wp2_with fail
 refine hI.out.mono ?_
 rintro e w' ⟨⟨z,rfl,hz0,hz⟩,hb⟩
 replace hz:=A8 (show decide (0<=z)=l.any p by cases hc:l.any p <;> simp [hc] at hz |- <;> omega)
 go_wp2
 go_ret
 exact ⟨Dm hz.out,hb⟩
theorem G9 (n lo hi:Int) (w:World):Calls Tryz.prog 35 #[.int .i64 n,.int .i64 lo,.int .i64 hi] w (DR w (.bool (decide (lo<=n)&&decide (n<=hi)))):=by
 go_enter Tryz.func35,Tryz.ntmps35;by_cases h1:lo<=n
 ·by_cases h2:n<=hi
  ·go_wp2
   go_ret;exact ⟨Dm (by simp [h1,h2]),Below.refl _ _⟩
  ·go_wp2
   go_ret;exact ⟨Dm (by simp [h2]),Below.refl _ _⟩
 ·go_wp2
  go_ret;exact ⟨Dm (by simp;omega),Below.refl _ _⟩
theorem Gz (n lo hi:Int) (w:World):Calls Tryz.prog 40 #[.int .i64 n,.int .i64 lo,.int .i64 hi] w (DR w (.bool (decide (lo<=n)&&decide (n<=hi)))):=by
 go_enter Tryz.func40,Tryz.ntmps40;by_cases h1:lo<=n
 ·by_cases h2:n<=hi
  ·go_wp2
   go_ret;exact ⟨Dm (by simp [h1,h2]),Below.refl _ _⟩
  ·go_wp2
   go_ret;exact ⟨Dm (by simp [h2]),Below.refl _ _⟩
 ·go_wp2
  go_ret;exact ⟨Dm (by simp;omega),Below.refl _ _⟩
instance bdDec (k:Nat) (z:Int):Decidable (Bd k z):=by unfold Bd;infer_instance
def numB (s:ByteArray):Bool:=DK s&&decide (Bd 100 (zS s))
theorem Lj {s:ByteArray} (h:DK s=true):s.data.toList=Lib.itoa (zS s):=(Ff (l:=s.data.toList) h).1
theorem H5 {s:ByteArray} (h:DK s=true):∃ h0:0<s.size,(((s[0]).toNat:Int)==45)=decide (zS s<0):=by
 have e:=Lj h;by_cases hz:zS s<0
 ·rw [Gb hz] at e
  have h0:0<s.size:=by
   have:=BK List.length e;rw [BC,CG] at this;show 0<s.data.size;omega
  refine ⟨h0,?_⟩;have hb:s[0]=45:=by
   show s.data[0]=45;have:s.data.toList[0]? = some 45:=by rw [e];rfl
   rw [BU,Cl h0] at this;exact B4 this
  rw [hb];simp [hz]
 ·rw [DP Ad] at e
  obtain ⟨b,r,hb,hne⟩:=GJ (zS s).toNat;rw [hb] at e;have h0:0<s.size:=by
   have:=BK List.length e;rw [BC,CG] at this;show 0<s.data.size;omega
  refine ⟨h0,?_⟩;have hb:s[0]=b:=by
   show s.data[0]=b;have:s.data.toList[0]? = some b:=by rw [e];rfl
   rw [BU,Cl h0] at this;exact B4 this
  rw [hb,JA hne];simp;omega
theorem num_pos {s:ByteArray} (h:DK s=true) (hz:¬ zS s<0):s.size<=100↔Bd 100 (zS s):=by
 have e:=BK List.length (Lj h);rw [DP Ad,BC] at e;have e2:s.size=(Lib.decDigits (zS s).toNat).length:=e;have hn:(zS s).toNat=(zS s).natAbs:=by omega
 rw [e2,Bd.nat,hn];constructor
 ·intro h1
  refine Nat.lt_of_not_le fun h2=>?_
  have:=Gm h2;omega
 ·intro h1
  exact EK h1 Ae
theorem RZ {s:ByteArray} (h:DK s=true) (hz:zS s<0):s.size<=101↔Bd 100 (zS s):=by
 have e:=BK List.length (Lj h);rw [Gb hz,BC,CG] at e;have e2:s.size=(Lib.decDigits (zS s).natAbs).length+1:=e;rw [e2,Bd.nat];constructor
 ·intro h1
  refine Nat.lt_of_not_le fun h2=>?_
  have:=Gm h2;omega
 ·intro h1
  have:=EK h1 Ae;omega
theorem EG {s:ByteArray} (h:DK s=true):s.size<=201:=by
 obtain ⟨e,h1,h2⟩:=Ff (l:=s.data.toList) h;have hl:=BK List.length e;have hb:(GK s.data.toList).natAbs<10 ^ 200:=by
  have hB:GU=((10 ^ 200:Nat):Int):=by unfold GU;rw [Int.natCast_pow];rfl
  omega
 have:=EK hb Ae;rw [BC] at hl;have hs:s.size=(Lib.itoa (GK s.data.toList)).length:=hl;by_cases hz:GK s.data.toList<0
 ·rw [Gb hz,CG] at hs;omega
 ·rw [DP Ad] at hs
  rw [show (GK s.data.toList).toNat=(GK s.data.toList).natAbs by omega] at hs;omega
theorem Ip (s:ByteArray) (w:World):Calls Tryz.prog 56 #[.string s] w (DR w (.bool (numB s))):=by
 have VA:=A8 (fun W=>SG s W);cases hk:DK s with
 | false =>
  have e:numB s=false:=by unfold numB;rw [hk];rfl
  rw [hk] at VA;rw [e];clear hk e;go_enter Tryz.func56,Tryz.ntmps56;go_wp2_with fail;refine Calls.mono (VA.out _) ?_;rintro e w1 ⟨rfl,hb⟩;go_wp2;go_ret;exact ⟨rfl,hb⟩
 | true =>
  rw [hk] at VA;have e:numB s=decide (Bd 100 (zS s)):=by unfold numB;rw [hk];rfl
  rw [e];obtain ⟨h0,hf⟩:=H5 hk;have hn1:=num_pos hk;have hn2:=RZ hk;clear hk e;by_cases h1:s.size<=100
  ·have e:decide (Bd 100 (zS s))=true:=by
    rw [CB];by_cases hz:zS s<0
    ·exact (hn2 hz).1 Ad
    ·exact (hn1 hz).1 h1
   rw [e]
   clear hf hn1 hn2 e
   have h1':(s.size:Int)<=100:=by omega
   go_enter Tryz.func56,Tryz.ntmps56
   go_wp2_with fail
   refine Calls.mono (VA.out _) ?_
   rintro e w1 ⟨rfl,hb⟩
   go_wp2
   go_ret
   exact ⟨rfl,hb⟩
  ·have h1':¬ (s.size:Int)<=100:=by omega
   have h1c:100<s.size:=by omega
   by_cases hz:zS s<0
   ·rw [show decide (zS s<0)=true by simp [hz]] at hf
    have hb2:=hn2 hz;clear hn1 hn2;by_cases h2:s.size=101
    ·have e:decide (Bd 100 (zS s))=true:=AF (hb2.1 Ad)
     rw [e];have h2':((s.size:Int)==101)=true:=by simp;omega
     have h2c:(s.size:Int)=101:=by omega
     clear hb2 hz e h2;go_enter Tryz.func56,Tryz.ntmps56;go_wp2_with fail;refine Calls.mono (VA.out _) ?_;rintro e w1 ⟨rfl,hb⟩;go_wp2;go_ret;exact ⟨Dm Af,hb⟩
    ·have e:decide (Bd 100 (zS s))=false:=Al (fun h=>by have:=hb2.2 h;omega)
     rw [e];have h2':((s.size:Int)==101)=false:=by simp;omega
     clear hb2 hz e;go_enter Tryz.func56,Tryz.ntmps56;go_wp2_with fail;refine Calls.mono (VA.out _) ?_;rintro e w1 ⟨rfl,hb⟩;go_wp2;go_ret;exact ⟨Dm (by simp;omega),hb⟩
   ·rw [show decide (zS s<0)=false by simp [hz]] at hf
    have e:decide (Bd 100 (zS s))=false:=Al (fun h=>by have:=(hn1 hz).2 h;omega);rw [e];clear hn1 hn2 hz e;go_enter Tryz.func56,Tryz.ntmps56;go_wp2_with fail;refine Calls.mono (VA.out _) ?_;rintro e w1 ⟨rfl,hb⟩;go_wp2;go_ret;exact ⟨Dm (by simp;omega),hb⟩
theorem IP (s:ByteArray) (hs:s.size<=9223372036854775807) (w:World):Calls Tryz.prog 66 #[.string s] w (DR w (.bool (numB s))):=by
 have VA:=A8 (fun W=>DI s hs W);cases hk:DK s with
 | false =>
  have e:numB s=false:=by unfold numB;rw [hk];rfl
  rw [hk] at VA;rw [e];clear hk e;go_enter Tryz.func66,Tryz.ntmps66;go_wp2_with fail;refine Calls.mono (VA.out _) ?_;rintro e w1 ⟨rfl,hb⟩;go_wp2;go_ret;exact ⟨rfl,hb⟩
 | true =>
  rw [hk] at VA;have e:numB s=decide (Bd 100 (zS s)):=by unfold numB;rw [hk];rfl
  rw [e];obtain ⟨h0,hf⟩:=H5 hk;have hn1:=num_pos hk;have hn2:=RZ hk;have hsz:=EG hk;clear hk e;by_cases hz:zS s<0
  ·rw [show decide (zS s<0)=true by simp [hz]] at hf
   have e:decide (Bd 100 (zS s))=decide ((s.size:Int)-1<=100):=by
    rw [decide_eq_decide,<-hn2 hz];omega
   rw [e];have hw:IntKind.i64.wrap ((s.size:Int)-1)=(s.size:Int)-1:=BT _ Ad;clear hn1 hn2 hz e;go_enter Tryz.func66,Tryz.ntmps66;go_wp2_with fail;refine Calls.mono (VA.out _) ?_;rintro e w1 ⟨rfl,hb⟩;go_wp2;go_ret;exact ⟨Dm Af,hb⟩
  ·rw [show decide (zS s<0)=false by simp [hz]] at hf
   have e:decide (Bd 100 (zS s))=decide ((s.size:Int)<=100):=by
    rw [decide_eq_decide,<-hn1 hz];omega
   rw [e];clear hn1 hn2 hz e;go_enter Tryz.func66,Tryz.ntmps66;go_wp2_with fail;refine Calls.mono (VA.out _) ?_;rintro e w1 ⟨rfl,hb⟩;go_wp2;go_ret;exact ⟨Dm Af,hb⟩
def GN (s:ByteArray):Bool:=!numB s || decide (zS s<0)
theorem Nd (s:ByteArray) (w:World):Calls Tryz.prog 81 #[.string s] w (DR w (.bool (GN s))):=by
 have VA:=A8 (fun W=>Ip s W);unfold GN;cases hk:numB s with
 | false =>
  rw [hk] at VA;clear hk;go_enter Tryz.func81,Tryz.ntmps81;go_wp2_with fail;refine Calls.mono (VA.out _) ?_;rintro e w1 ⟨rfl,hb⟩;go_wp2;go_ret;exact ⟨rfl,hb⟩
 | true =>
  rw [hk] at VA;have hok:DK s=true:=by unfold numB at hk;rw [Ap] at hk;exact hk.1
  obtain ⟨h0,hf⟩:=H5 hok;clear hk hok;generalize decide (zS s<0)=b at *
  cases b <;>
  ·go_enter Tryz.func81,Tryz.ntmps81
   go_wp2_with fail;refine Calls.mono (VA.out _) ?_;rintro e w1 ⟨rfl,hb⟩;go_wp2;go_ret;exact ⟨Dm Af,hb⟩
def Gg (x:Int):Bool:=!(decide (-30000<=x)&&decide (x<=30000))
def Hn (cols:Int) (r:List Int×Int):Bool:=!((r.1.length:Int)==cols) || r.1.any Gg || !(decide (-1000000000<=r.2)&&decide (r.2<=1000000000))
def Ea (cols:Int) (rows:List (List Int×Int)):Bool:=(decide (0<=cols)&&decide (cols<=64))&&decide (rows.length<=18)&&!(rows.any (Hn cols))
def DX (l:List ByteArray) (den:ByteArray):Bool:=decide (l.length<=64)&&!(l.any GN)&&(numB den&&decide (0<zS den))
theorem Ng {s:ByteArray} (h:DK s=true):(s.data.toList==[48])=decide (zS s=0):=by
 have e:=Lj h;by_cases hz:zS s=0
 ·rw [e,hz,DP Ae,DT Ae];rfl
 ·have h2:s.data.toList≠[48]:=fun h48=>hz (by show GK s.data.toList=0;rw [h48];rfl)
  simp [hz,h2]
theorem R6 (x:Int) (w:World):Calls Tryz.prog 36 #[.int .i64 x] w (DR w (.bool (Gg x))):=by
 have IN:=A8 (fun W=>G9 x (-30000) 30000 W);unfold Gg;generalize (decide (-30000<=x)&&decide (x<=30000))=b at *
 go_enter Tryz.func36,Tryz.ntmps36;go_wp2_with fail;refine Calls.mono (IN.out _) ?_;rintro e w1 ⟨rfl,hb⟩;go_wp2;go_ret;exact ⟨rfl,hb⟩
theorem R7 (cols val:Int) (v rv:Value) (coef:List Int) (Bs Bf:Nat) (w:World) (h:IE w v coef) (k1:Ds w Bs #[.int .i64 cols,rv] 27) (k2:Ds w Bf #[.func (.func 36) #[] #[]] 73) :
  Calls Tryz.prog 38 #[.agg #[v,.int .i64 val],.pointer (some ⟨Bs,0,none⟩),.pointer (some ⟨Bf,0,none⟩)] w (DR w (.bool (Hn cols (coef,val)))):=by
 have hlen:=h.len_le
 unfold maxLen at hlen
 have IN:=A8 (fun W=>G9 val (-1000000000) 1000000000 W)
 have hS:BL w [(w.heap.size,#[v,.int .i64 val],57),(Bs,#[.int .i64 cols,rv],27),(Bf,#[.func (.func 36) #[] #[]],73)] (w.alloc (.cells #[v,.int .i64 val] 57)):=(⟨Below.refl _ _,fun p hp=>by
  rcases Aw.1 hp with rfl | hp
  ·exact k1
  ·rcases Aw.1 hp with rfl | hp
   ·exact k2
   ·cases hp⟩:BL w [(Bs,#[.int .i64 cols,rv],27),(Bf,#[.func (.func 36) #[] #[]],73)] w).add _ _
 have CI:=A8 (fun W (hW:IE W v coef)=>ME v coef 36 #[] Gg W hW (Go.Proofs.enters_of Tryz.func36 Ab rfl) (fun W x _ _=>by rw [Array.append_empty];exact R6 x W))
 have HS:=A8 h
 obtain ⟨V,hV⟩:∃ V,V=w.alloc (.cells #[v,.int .i64 val] 57):=⟨_,rfl⟩
 rw [<-hV] at hS
 obtain ⟨a,cap,rfl⟩:=h.shape
 unfold Hn
 dsimp only
 generalize (decide (-1000000000<=val)&&decide (val<=1000000000))=bin at *
 by_cases hc:(coef.length:Int)=cols
 ·have hc1:((coef.length:Int)==cols)=true:=by simp [hc]
  have hc2:((coef.length:Int) != cols)=false:=by simp [hc]
  rw [hc1];cases hany:coef.any Gg
  ·rw [hany] at CI
   clear hany hc k1 k2;generalize coef.length=n at *
   obtain ⟨x0,x1⟩:=hS.c2 w.heap.size _ _ _ Ah;have y0:=(hS.c2 Bs _ _ _ Ai).1;have y1:=hS.c1 Bf _ _ Aj;go_enter Tryz.func38,Tryz.ntmps38;go_upto_region 1 with fail;rw [<-hV];clear hV;go_wp2_with fail;refine Calls.mono (CI.out _ (HS.out.below hS.below)) ?_;rintro e w1 ⟨rfl,hb⟩;replace hS:=hS.call hb;clear x0 x1 y0 y1 hb;obtain ⟨x0,x1⟩:=hS.c2 w.heap.size _ _ _ Ah;go_wp2_with fail;refine Calls.mono (IN.out _) ?_;rintro e w2 ⟨rfl,hb⟩;replace hS:=hS.call hb;go_wp2;go_ret;exact ⟨Dm Af,hS.below⟩
  ·rw [hany] at CI
   clear hany hc k1 k2;generalize coef.length=n at *
   obtain ⟨x0,x1⟩:=hS.c2 w.heap.size _ _ _ Ah;have y0:=(hS.c2 Bs _ _ _ Ai).1;have y1:=hS.c1 Bf _ _ Aj;go_enter Tryz.func38,Tryz.ntmps38;go_upto_region 1 with fail;rw [<-hV];clear hV;go_wp2_with fail;refine Calls.mono (CI.out _ (HS.out.below hS.below)) ?_;rintro e w1 ⟨rfl,hb⟩;replace hS:=hS.call hb;go_wp2;go_ret;exact ⟨Dm Af,hS.below⟩
 ·have hc1:((coef.length:Int)==cols)=false:=by simp [hc]
  have hc2:((coef.length:Int) != cols)=true:=by simp [hc]
  rw [hc1];clear k1 k2;generalize coef.length=n at *
  obtain ⟨x0,x1⟩:=hS.c2 w.heap.size _ _ _ Ah;have y0:=(hS.c2 Bs _ _ _ Ai).1;go_enter Tryz.func38,Tryz.ntmps38;go_upto_region 1 with fail;rw [<-hV];clear hV;go_wp2;go_ret;exact ⟨Dm Af,hS.below⟩
theorem G5 (cols:Int) (v:Value) (rows:List (List Int×Int)) (w:World) (h:EX w v rows) :
  Calls Tryz.prog 10 #[.agg #[.int .i64 cols,v]] w (DR w (.bool (Ea cols rows))):=by
 have hlen:rows.length<=maxLen:=h.len_le
 unfold maxLen at hlen
 have IN:=A8 (fun W=>G9 cols 0 64 W)
 obtain ⟨V,hV,S1,z1⟩:=(BL.start w).add' #[.int .i64 cols,v] 27
 obtain ⟨a,cap,rfl⟩:=h.shape
 have HS:=A8 h
 replace z1:=A8 z1
 have hS:=S1
 clear S1
 unfold Ea
 cases hin:(decide (0<=cols)&&decide (cols<=64))
 ·rw [hin] at IN
  clear hin;generalize rows.length=n at *
  obtain ⟨x0,x1⟩:=hS.c2 w.heap.size _ _ _ Ah;go_enter Tryz.func10,Tryz.ntmps10;go_upto_region 1 with fail;rw [<-hV];clear hV;go_wp2_with fail;refine Calls.mono (IN.out _) ?_;rintro e w1 ⟨rfl,hb⟩;replace hS:=hS.call hb;go_wp2;go_ret;exact ⟨Dm Af,hS.below⟩
 ·rw [hin] at IN
  clear hin;by_cases hn:rows.length<=18
  ·rw [AF hn]
   have hn':¬ (18:Int)<(rows.length:Int):=by omega
   have CE:=A8 (fun W (hW:EX W (.slice a rows.length cap) rows) (k1:Ds W w.heap.size #[.int .i64 cols,.slice a rows.length cap] 27) (Bf:Nat) (k2:Ds W Bf #[.func (.func 36) #[] #[]] 73)=>Jn _ rows 38 #[.pointer (some ⟨w.heap.size,0,none⟩),.pointer (some ⟨Bf,0,none⟩)] (Hn cols) W hW (Go.Proofs.enters_of Tryz.func38 Ab rfl) (fun W' x v' _ hb hv=>R7 cols x.2 v' _ x.1 w.heap.size Bf W' hv (k1.below hb) (k2.below hb)));generalize rows.any (Hn cols)=bb at *
   clear h;generalize rows.length=n at *
   obtain ⟨x0,x1⟩:=hS.c2 w.heap.size _ _ _ Ah;go_enter Tryz.func10,Tryz.ntmps10;go_upto_region 1 with fail;rw [<-hV];clear hV;go_wp2_with fail;refine Calls.mono (IN.out _) ?_;rintro e w1 ⟨rfl,hb⟩;replace hS:=hS.call hb;clear x0 x1 hb;obtain ⟨x0,x1⟩:=hS.c2 w.heap.size _ _ _ Ah;go_upto_region 4 with fail;clear x0 x1;obtain ⟨W2,hW2,S2,z2⟩:=hS.add' #[.func (.func 36) #[] #[]] 73;rw [<-hW2];clear hW2 z2 hS;obtain ⟨x0,x1⟩:=S2.c2 w.heap.size _ _ _ Ai;go_wp2_with fail;refine Calls.mono (CE.out _ (HS.out.below S2.below) (S2.blks _ Ai) _ (S2.blks _ Ah)) ?_;rintro e w3 ⟨rfl,hb⟩;have hB:=Dn hb S2.below (Aa _);go_wp2;go_ret;exact ⟨Dm Af,hB⟩
  ·rw [Al hn]
   have hn':(18:Int)<(rows.length:Int):=by omega
   clear h;generalize rows.length=n at *
   obtain ⟨x0,x1⟩:=hS.c2 w.heap.size _ _ _ Ah;go_enter Tryz.func10,Tryz.ntmps10;go_upto_region 1 with fail;rw [<-hV];clear hV;go_wp2_with fail;refine Calls.mono (IN.out _) ?_;rintro e w1 ⟨rfl,hb⟩;replace hS:=hS.call hb;clear x0 x1 hb;obtain ⟨x0,x1⟩:=hS.c2 w.heap.size _ _ _ Ah;go_wp2;go_ret;exact ⟨Dm Af,hS.below⟩
theorem Tt (l:List ByteArray) (den:ByteArray):DX l den=(decide (l.length<=64)&&!(l.any GN)&&!(GN den)&&!(den.data.toList==[48])):=by
 unfold DX GN;by_cases hk:numB den=true
 ·have ho:DK den=true:=by unfold numB at hk;rw [Ap] at hk;exact hk.1
  rw [Ng ho,hk];have e:decide (0<zS den)=(!decide (zS den<0)&&!decide (zS den=0)):=by
   rw [Bool.eq_iff_iff];simp;omega
  rw [e];cases decide (l.length<=64) <;> cases l.any (fun s=>!numB s || decide (zS s<0)) <;> cases decide (zS den<0) <;> cases decide (zS den=0) <;> rfl
 ·have hk':numB den=false:=by simpa using hk
  rw [hk'];simp
theorem Fa (v:Value) (l:List ByteArray) (den:ByteArray) (w:World) (h:DS w v l) :
  Calls Tryz.prog 42 #[.agg #[v,.string den]] w (DR w (.bool (DX l den))):=by
 have hlen:l.length<=maxLen:=h.len_le
 unfold maxLen at hlen
 obtain ⟨V,hV,hS,z1⟩:=(BL.start w).add' #[v,.string den] 30
 replace z1:=A8 z1
 obtain ⟨a,cap,rfl⟩:=h.shape
 have HS:=A8 h
 have CS:=A8 (fun W (hW:DS W (.slice a l.length cap) l)=>Jm _ l 81 #[] GN W hW (Go.Proofs.enters_of Tryz.func81 Ab rfl) (fun W x _ _=>by rw [Array.append_empty];exact Nd x W))
 have BD:=A8 (fun W=>Nd den W)
 rw [Tt]
 by_cases hn:l.length<=64
 ·rw [AF hn]
  have hn':(l.length:Int)<=64:=by omega
  generalize l.any GN=b1 at *
  generalize GN den=b2 at *
  obtain ⟨b3,hb3⟩:∃ b,b=(den.data.toList==[48]):=⟨_,rfl⟩;rw [<-hb3];have hb3':(den.toList==[48])=b3:=by rw [ByteArray.toList_eq];exact hb3.symm
  clear h hb3;generalize l.length=n at *
  obtain ⟨x0,x1⟩:=hS.c2 w.heap.size _ _ _ Ah;go_enter Tryz.func42,Tryz.ntmps42;go_upto_region 2 with fail;rw [<-hV];clear hV;go_wp2_with fail;refine Calls.mono (CS.out _ (HS.out.below hS.below)) ?_;rintro e w1 ⟨rfl,hb⟩;replace hS:=hS.call hb;clear x0 x1 hb;obtain ⟨x0,x1⟩:=hS.c2 w.heap.size _ _ _ Ah;cases b1
  ·go_wp2_with fail
   refine Calls.mono (BD.out _) ?_;rintro e w2 ⟨rfl,hb⟩;replace hS:=hS.call hb;clear x0 x1 hb;obtain ⟨x0,x1⟩:=hS.c2 w.heap.size _ _ _ Ah;cases b2
   ·go_wp2
    go_ret;exact ⟨Dm Af,hS.below⟩
   ·go_wp2
    go_ret;exact ⟨Dm Af,hS.below⟩
  ·go_wp2
   go_ret;exact ⟨Dm Af,hS.below⟩
 ·rw [Al hn]
  have hn':¬ (l.length:Int)<=64:=by omega
  clear h;generalize l.length=n at *
  obtain ⟨x0,x1⟩:=hS.c2 w.heap.size _ _ _ Ah;go_enter Tryz.func42,Tryz.ntmps42;go_upto_region 2 with fail;rw [<-hV];clear hV;go_wp2;go_ret;exact ⟨Dm Af,hS.below⟩
end
section
open Go.RowKit
open LnM (sm)
attribute [local go_sem] Oper.semAt_some
def DH (l:List ByteArray) (i:Nat):ByteArray:=l[i]?.getD ⟨#[]⟩
theorem FD {l:List ByteArray} {i:Nat} (h:i<l.length):l[i]? = some (DH l i):=by unfold DH;rw [Ax h];rfl
theorem Ja {l:List ByteArray} {i:Nat} (h:i<l.length):DH l i∈l:=Ay (FD h)
def DF (l:List ByteArray) (f:Nat->Int) (k:Nat):Int:=sm k (fun i=>zS (DH l i)*f i)
theorem sum_bd (a f:Nat->Int):∀ (n:Nat),(∀ i,i<n->Bd 100 (a i)/\Bd 11 (f i))->Bd 111 (sm n (fun i=>a i*f i))∨((sm n (fun i=>a i*f i)).natAbs<=n*10 ^ 111)
 | 0,_=>.inr (by simp [sm])
 | n+1,h=>by
  refine .inr ?_;have h1:(sm n (fun i=>a i*f i)).natAbs<=n*10 ^ 111:=by
   rcases sum_bd a f n (fun i hi=>h i Ad) with h1 | h1
   ·rcases Nat.eq_zero_or_pos n with rfl | hn
    ·simp [sm]
    ·have:=(Bd.nat.1 h1)
     have:10 ^ 111<=n*10 ^ 111:=Nat.le_mul_of_pos_left _ hn;omega
   ·exact h1
  have h2:=Bd.nat.1 ((h n Ad).1.mul (h n Ad).2);show (sm n (fun i=>a i*f i)+a n*f n).natAbs<=_;have h3:=Int.natAbs_add_le (sm n (fun i=>a i*f i)) (a n*f n);rw [Nat.add_mul];omega
theorem sum_small {a f:Nat->Int} {n:Nat} (hn:n<=1000) (h:∀ i,i<n->Bd 100 (a i)/\Bd 11 (f i)):Do (sm n (fun i=>a i*f i)):=by
 have hb:Bd 200 (sm n (fun i=>a i*f i)):=by
  rcases sum_bd a f n h with h1 | h1
  ·exact h1.mono Ae
  ·rw [Bd.nat]
   refine Nat.lt_of_le_of_lt h1 (Nat.lt_of_le_of_lt (BF _ hn) ?_);decide
 exact hb.small Ae
theorem bd11 {x:Int} (h:-10000000000<=x/\x<=10000000000):Bd 11 x:=by unfold Bd;omega
theorem mul_I {s:ByteArray} {x:Int} (hs:DK s=true) (hx:Do x) (hp:Do (zS s*x)) (W:World) (hW:Fp W):Calls Tryz.prog 44 #[.string s,.string (I x)] W (DR W (.tuple #[.string (I (zS s*x)),.int .i64 0])):=by
 have:=Lh s (I x) W hW;rw [hs,Eh hx,Ee,AX,F6 hp] at this;exact this.mono fun e w' h=>by
  obtain ⟨⟨r,h1,h2⟩,hb⟩:=h;exact ⟨by rw [h1,h2],hb⟩
theorem Oc {x:Int} (h:Dy x) (W:World) (hW:Fp W):Calls Tryz.prog 45 #[.int .i64 x] W (DR W (.string (I x))):=KW x h.1 h.2 W hW
theorem M8 (v:Value) (l:List ByteArray) (g:Nat) (lb:Array Value) (f:Nat->Int) (w:World) (hE:Fp w) (h:DS w v l) (hl:l.length<=1000) (hok:∀ i,i<l.length->DK (DH l i)=true/\Bd 100 (zS (DH l i))/\Bd 11 (f i))
  (hen:∀ (args:Array Value) (w:World),(callFunc g args).run Tryz.prog w=.ok (.enter g args) w)
  (hF:∀ (W:World) (i:Nat),i<l.length->Below w.heap.size w W->Calls Tryz.prog g (#[.int .i64 i]++lb) W (DR W (.int .i64 (f i)))) :
  Calls Tryz.prog 46 #[v,.func (.func g) #[] lb] w (DR w (.string (I (DF l f l.length)))):=by
 obtain ⟨a,cap,rfl⟩:=h.shape
 have H:=A8 h
 replace hok:=A8 hok
 replace hE:=A8 hE
 replace hF:=A8 hF
 have I0:I (DF l f 0)=⟨#[48]⟩:=by show I 0=_;unfold I;rw [DP Ae,DT Ae];rfl
 obtain ⟨n,hn⟩:∃ n,n=l.length:=⟨_,rfl⟩
 rw [<-hn] at hl |-
 replace hn:=A8 hn
 clear h
 go_enter Tryz.func46,Tryz.ntmps46
 go_wp2_with fail
 go_loopw [5,13] (fun x o wr=>∃ i:Nat,x=.string (I (DF l f i))/\o=.int .i64 i/\i<=n/\Hid (Below w.heap.size w wr)) (fun _ o _=>n-(intOf o).toNat)
 case atStart=>exact ⟨0,by rw [I0],rfl,Ad,A8 (Below.refl _ _)⟩
 case round =>
  clear I0;obtain ⟨i,rfl,rfl,hi,hB⟩:=hrel;by_cases hlt:i<n;case neg =>
   have hlt':¬ (i:Int)<n:=by omega
   obtain rfl:i=n:=by omega
   go_wp2;go_ret;exact ⟨rfl,hB.out⟩
  case pos =>
   have hlt':(i:Int)<n:=by omega
   have hi0:(0:Int)<=i:=by omega
   obtain ⟨b,off,ha,hb,x0⟩:∃ b off,a=some ⟨b,off,none⟩/\b<w.heap.size/\w.cell? ⟨b,off+i,none⟩=some (.string (DH l i)):=by
    rcases H.out with ⟨e,e2⟩ | ⟨b,off,cap',e,h1,h2,h3,h4⟩
    ·have:=hn.out;rw [e2] at this;simp at this;omega
    ·cases e
     have:=h4 i _ (FD (by rw [<-hn.out];exact hlt));rw [AY] at this;exact ⟨b,off,rfl,h3,this⟩
   subst ha;replace x0:=(hB.out.cell (p:=⟨_,_,none⟩) hb).trans x0;obtain ⟨k1,k2,k3⟩:=hok.out i (by rw [<-hn.out];exact hlt);have hFi:=A8 (hF.out wr i (by rw [<-hn.out];exact hlt) hB.out);have hsum:DF l f (i+1)=DF l f i+zS (DH l i)*f i:=rfl;have hS1:Do (DF l f (i+1)):=sum_small Ad (fun j hj=>(hok.out j (by rw [<-hn.out];omega)).2);have hS0:Do (DF l f i):=sum_small Ad (fun j hj=>(hok.out j (by rw [<-hn.out];omega)).2);have hSp:Do (zS (DH l i)*f i):=(k2.mul k3).small Ae;obtain ⟨s,hs⟩:∃ s,s=DH l i:=⟨_,rfl⟩;obtain ⟨fi,hfi⟩:∃ x,x=f i:=⟨_,rfl⟩;rw [<-hs,<-hfi] at hsum hSp;rw [<-hs] at k1 k2 x0;rw [<-hfi] at hFi k3;have hfit:-9223372036854775808<=fi/\fi<=9223372036854775807:=by unfold Bd at k3;omega
   have FI:=A8 (fun W (hW:Fp W)=>KW fi hfit.1 hfit.2 W hW);have MU:=A8 (fun W (hW:Fp W)=>(by have:=Lh s (I fi) W hW;rw [k1,Eh (k3.small Ae),Ee,AX,F6 hSp] at this;exact this:Calls Tryz.prog 44 #[.string s,.string (I fi)] W (DA W fun r _=>r=.tuple #[.string (I (zS s*fi)),.int .i64 0])));have AD:=A8 (fun W (hW:Fp W)=>(by have:=RU (I (DF l f i)) (I (zS s*fi)) W hW;rw [Eh hS0,Eh hSp,Ee,Ee,AX,<-hsum,F6 hS1] at this;exact this:Calls Tryz.prog 53 #[.string (I (DF l f i)),.string (I (zS s*fi))] W (DA W fun r _=>r=.tuple #[.string (I (DF l f (i+1))),.int .i64 0])));have hz0:fi=0->I (DF l f i)=I (DF l f (i+1)):=fun e=>by rw [hsum,e,CN,Cq]
   generalize I (DF l f i)=out at *
   obtain ⟨out2,ho2⟩:∃ x,x=I (DF l f (i+1)):=⟨_,rfl⟩;rw [<-ho2] at AD hz0;replace ho2:=A8 ho2;replace hz0:=A8 hz0;generalize I (zS s*fi)=pr at *
   clear hsum hS1 hS0 hSp k1 k2 k3 hs hfi;go_wp2_with fail;refine Calls.mono hFi.out ?_;rintro e w1 ⟨rfl,hb1⟩;have hB1:=A8 (hB.out.trans (hb1.mono hB.out.size));clear x0 hb1 hFi;by_cases hf0:fi=0
   ·have hf1:(fi==0)=true:=by simp [hf0]
    have hf2:(fi != 0)=false:=by simp [hf0]
    have he:=hz0.out hf0;clear FI MU AD hz0 hf0;go_wp2_with fail;go_roundw;case rel=>exact ⟨i+1,by rw [ho2.out],by go_num,Ad,hB1⟩
    case measure=>simp [intOf];omega
   ·have hf1:(fi==0)=false:=by simp [hf0]
    have hf2:(fi != 0)=true:=by simp [hf0]
    go_wp2_with fail;refine Calls.mono (FI.out _ (hE.out.below hB1.out (Aa _))) ?_;rintro e w2 ⟨rfl,hb2⟩;have hB2:=A8 (hB1.out.trans (hb2.mono hB1.out.size));go_wp2_with fail;refine Calls.mono (MU.out _ (hE.out.below hB2.out (Aa _))) ?_;rintro e w3 ⟨⟨r,rfl,rfl⟩,hb3⟩;have hB3:=A8 (hB2.out.trans (hb3.mono hB2.out.size));go_wp2_with fail;refine Calls.mono (AD.out _ (hE.out.below hB3.out (Aa _))) ?_;rintro e w4 ⟨⟨r,rfl,rfl⟩,hb4⟩;have hB4:=A8 (hB3.out.trans (hb4.mono hB3.out.size));clear hb2 hb3 hb4;go_wp2_with fail;go_roundw;case rel=>exact ⟨i+1,by rw [ho2.out],by go_num,Ad,hB4⟩
    case measure=>simp [intOf];omega
end
end Go.Proofs.YtioamkekjjkigaaGreatDoor
