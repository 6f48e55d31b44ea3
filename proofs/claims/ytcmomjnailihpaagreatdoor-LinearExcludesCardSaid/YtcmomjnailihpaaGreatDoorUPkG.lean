/- PkG, PkH, PkI, LaidQ, PkJ, Blq, Asq, Mem, LwA, Row, Hand, LwM, LwH, LcA, LcB, LcC -/
import Derived.Test.YtcmomjnailihpaaGreatDoorUPkD
import Derived.Test.YtcmomjnailihpaaGreatDoorUPkL
import Derived.Outline
import Derived.Shelf.Abstract
import Derived.Deep.RegionHeld3
import Derived.Scope
import Derived.ScopeJumps
import Derived.WalkMore
import Derived.BigRegion
import Derived.RegionTactic
import Derived.Shelf.Vars
import Derived.Handed
import Derived.WideShapes
import Derived.Lib.LaidTab
import Derived.Lib.LaidU8
import Derived.OpenShut
import Derived.Lib.SmallJoins
import Derived.Deep.DeepCutAuto
import Derived.Deep.MidRow
set_option maxHeartbeats 8000000
set_option maxRecDepth 100000
/- Fractions as texts: what stands for a fraction,and what the operations come to (no program of package rational). -/
namespace Go.Proofs.YtcmomjnailihpaaGreatDoor
section
open Go.RowKit
def rv (n d:ByteArray):Rat:=Rat.divInt (zS n) (zS d)
def SmallQ (r:Rat):Prop:=Small r.num∧Small (r.den:Int)
instance (r:Rat):Decidable (SmallQ r):=inferInstanceAs (Decidable (_∧_))
theorem GB {x y:Int} (hy:0<y):(Rat.divInt x y).num=x / gcdZ x y∧((Rat.divInt x y).den:Int)=y / gcdZ x y:=by
 have e:gcdZ x y=(y.gcd x:Int):=by unfold gcdZ;rw [Int.gcd_comm]
 rw [Rat.num_divInt,Rat.den_divInt,if_neg (by omega),e,Int.sign_eq_one_of_pos hy,Int.one_mul]
 refine ⟨rfl,?_⟩
 rw [Int.natCast_ediv,Int.natAbs_of_nonneg (by omega)]
theorem Ej (r:Rat):(0:Int)<(r.den:Int):=by have:=r.den_pos;omega
theorem FX {z:Int} (h:Small z):Small (-z):=by unfold Small at *;omega
theorem FY {x y:Int} (h:Small x):Small (x / y):=by
 have h1:=Int.natAbs_ediv_le_natAbs x y
 unfold Small at *;omega
theorem Ck {x y:Int} (hx:Small x) (hy:Small y) (h0:0<y):SmallQ (Rat.divInt x y):=by
 obtain ⟨e1,e2⟩:=GB (x:=x) h0
 unfold SmallQ
 rw [e1,e2]
 exact ⟨FY hx,FY hy⟩
theorem EO (x y:Int):Rat.divInt (-x) (-y)=Rat.divInt x y:=Rat.neg_divInt_neg x y
end
end Go.Proofs.YtcmomjnailihpaaGreatDoor
/- package rational: Valid. -/
namespace Go.Proofs.YtcmomjnailihpaaGreatDoor
section
open Go.RowKit
attribute [local go_sem] Oper.semAt_some
end
end Go.Proofs.YtcmomjnailihpaaGreatDoor
/- package rational: the steps of a calculation (work). -/
namespace Go.Proofs.YtcmomjnailihpaaGreatDoor
section
open Go.RowKit
attribute [local go_sem] Oper.semAt_some
end
end Go.Proofs.YtcmomjnailihpaaGreatDoor
/- package rational: reduced. -/
namespace Go.Proofs.YtcmomjnailihpaaGreatDoor
section
open Go.RowKit
attribute [local go_sem] Oper.semAt_some
theorem Blk.only {S:List Nat} {W W':World} {B:Nat} {cs:Array Value} {t:TypeId} (h:Blk W B cs t) (ho:Only S W W') (hB:B∉S):Blk W' B cs t:=(ho.block B h.lt hB).trans h
theorem EP:Small 0:=by decide
end
end Go.Proofs.YtcmomjnailihpaaGreatDoor
/- package rational: check,Make,Of,Mul,Div. -/
namespace Go.Proofs.YtcmomjnailihpaaGreatDoor
section
open Go.RowKit
attribute [local go_sem] Oper.semAt_some
def RatsAt (W:World) (S:Nat) (l:List (ByteArray×ByteArray)):Prop:=∀ (j:Nat) (h:j<l.length),W.cell? ⟨S,j*2,none⟩=some (.string (l[j]).1)∧W.cell? ⟨S,j*2+1,none⟩=some (.string (l[j]).2)
theorem RatsAt.only {B:List Nat} {W W':World} {S:Nat} {l:List (ByteArray×ByteArray)} (h:RatsAt W S l) (ho:Only B W W') (hS:S<W.heap.size) (hB:S∉B):RatsAt W' S l:=fun j hj =>
 ⟨(ho.cell (p:=⟨S,j*2,none⟩) hS hB).trans (h j hj).1,(ho.cell (p:=⟨S,j*2+1,none⟩) hS hB).trans (h j hj).2⟩
end
end Go.Proofs.YtcmomjnailihpaaGreatDoor
/- package rational: Mul,Div. -/
namespace Go.Proofs.YtcmomjnailihpaaGreatDoor
section
open Go.RowKit
attribute [local go_sem] Oper.semAt_some
end
end Go.Proofs.YtcmomjnailihpaaGreatDoor
/- package rational: sum,Add,Sub. -/
namespace Go.Proofs.YtcmomjnailihpaaGreatDoor
section
open Go.RowKit
attribute [local go_sem] Oper.semAt_some
end
end Go.Proofs.YtcmomjnailihpaaGreatDoor
/- package rational: Compare. -/
namespace Go.Proofs.YtcmomjnailihpaaGreatDoor
section
open Go.RowKit
attribute [local go_sem] Oper.semAt_some
end
end Go.Proofs.YtcmomjnailihpaaGreatDoor
/- package rational: round,Down,Up. -/
namespace Go.Proofs.YtcmomjnailihpaaGreatDoor
section
open Go.RowKit
attribute [local go_sem] Oper.semAt_some
end
end Go.Proofs.YtcmomjnailihpaaGreatDoor
/- strings.Join of two texts with a stroke between them. -/
namespace Go.Proofs.YtcmomjnailihpaaGreatDoor
section
open Go.RowKit
attribute [local go_sem] Oper.semAt_some
end
end Go.Proofs.YtcmomjnailihpaaGreatDoor
/- package rational: Print,Parse. -/
namespace Go.Proofs.YtcmomjnailihpaaGreatDoor
section
open Go.RowKit
attribute [local go_sem] Oper.semAt_some
structure EnvQ (w:World):Prop where
 env:Env w
 max:∃ m,w.cell? ⟨3,0,none⟩=some (.int .i64 m)
theorem EnvQ.below {w w':World} {B:Nat} (h:EnvQ w) (hb:Below B w w') (hB:w.heap.size≤B):EnvQ w':=by
 obtain ⟨m,hm⟩:=h.max
 exact ⟨h.env.below hb hB,m,(hb.cell (p:=⟨3,0,none⟩) (A9 (World.block_lt_of_cell? w _ hm) hB)).trans hm⟩
end
end Go.Proofs.YtcmomjnailihpaaGreatDoor
/- package rational: Parse. -/
namespace Go.Proofs.YtcmomjnailihpaaGreatDoor
section
open Go.RowKit
attribute [local go_sem] Oper.semAt_some
end
end Go.Proofs.YtcmomjnailihpaaGreatDoor
/- The plain wrap for a row that lists variables,the world's shape kept. -/
namespace Go.Proofs.YtcmomjnailihpaaGreatDoor
section
open Go.RowKit
section
variable {H:Type} {enc:TypeId×Value→H}
theorem BW {a:Assume} {C:Checked} {os:Os} {f:FuncId} {fn:Func} {s:ChangeSpec} {conds:List PathCond} {apart fresh handsOn again:Bool} {X:World→Array Value→Prop}
  (hX:∀ (w w':World) (args:Array Value),w.heap=w'.heap→X w args→X w' args)
  (own:ownKnob C.prog.godebug=none) (started:os.Started) (noInit:C.prog.inits.idxOf? f=none) (hfn:C.prog.funcs[f]? = some fn)
  (witness:∃ (w:World) (tape:Tape) (i:Input),w.os=os∧(w.forCall tape i).Shaped C.prog∧i.vars=[]∧Input.okWide C.prog (w.forCall tape i) .any w.heap.size f i ∧
   ((s.pre enc C.prog fn conds apart (w.forCall tape i).memory i.args∧X (w.forCall tape i).memory i.args)∧sizedMet enc C.prog fn (OpenSpec.ofChange s) apart (w.forCall tape i).memory i.args)∧a.holds C.prog (lone (Frame.enter C.prog f i.args .normal) [] (w.forCall tape i)))
  (contract:∀ (W:World) (base:Nat) (args:Array Value) (ds gs:List (DataW H)) (before:List MemPlace),
   (∀ (j:Nat) t v,fn.params[j]? = some t→args[j]? = some v→Value.okWide C.prog W .any base t v) →
   DataW.Whole enc C.prog fn.params.toList s.vars apart W args.toList ds gs before →
   conds.all (PathCond.test C.prog ⟨fn.params.toList,ds,s.plain.varTypes C.prog,gs⟩)=true →
   (DataW.weightsEach C.prog (fn.params.toList++s.plain.varTypes C.prog) (ds++gs)).all (·≤reachBytes)=true→X W args→W.ShapedOpen C.prog →
   a.holds C.prog (lone (Frame.enter C.prog f args .normal) [] W) →
   Calls C.prog f args W fun e W'=>∃ v,e=.returned v∧s.post enc C.prog fn apart fresh handsOn again W args v W') :
  ReturnsInHanded a C os f .any (fun w args=>(s.pre enc C.prog fn conds apart w args∧X w args)∧sizedMet enc C.prog fn (OpenSpec.ofChange s) apart w args) (s.post enc C.prog fn apart fresh handsOn again):=by
 refine returnsInHanded_of_calls own started noInit witness ?_
 intro w tape i _ hsh _ hok hpre hholds
 obtain ⟨_,_,_,fn',hfn',_,_,_,_,hval⟩:=hok
 have e:fn'=fn:=Option.some.inj (hfn'.symm.trans hfn)
 subst e
 obtain ⟨⟨⟨ds,gs,before,hw,hc⟩,hx⟩,hz⟩:=hpre
 have hw':=DataW.Whole.of_heap (w':=w.forCall tape i) (by rfl) hw
 refine (contract (w.forCall tape i) w.heap.size i.args ds gs before hval hw' hc (hz.weights hw) (hX _ _ _ (by rfl) hx) hsh hholds).mono fun e W' ⟨v,he,hp⟩=>?_
 subst he
 exact ChangeSpec.post_blind hp
end
theorem GD {W:World} (h:W.ShapedOpen Tryz.prog):∃ m,W.cell? ⟨3,0,none⟩=some (.int .i64 m):=Go.Proofs.cell_of_shapedOpen_int (zero:=#[.int .i64 0]) (t:=3) h (of_decide_eq_true (by kernel_rfl)) (by kernel_rfl) rfl (by kernel_rfl) (by kernel_rfl) Tryz.underlying3
end
section
open Go.RowKit Go.Lib
theorem gPow : Tryz.prog.globalNamed "internal/strconv.uint64pow10" = some 2 := by kernel_rfl
theorem Fu {P:Program} {W:World} {name:String} {k:IntKind} {zs:List Int} {g:Nat} {t e:TypeId} {n:Nat}
  (hg:P.globalNamed name=some g) (hty:(P.globals[g]?).map (·.type)=some t) (ht:P.underlying t=some (.array n e)) (he:P.underlying e=some (.int k)) (hce:P.cellsOf e=1) (hct:P.cellsOf t=n)
  (h:VarReads P W name (tabData k zs)):TabIs P W name k zs:=by
 obtain ⟨g',t',cs,fuel,p,hg',ht',hvar,hd⟩:=h
 obtain rfl:=Option.some.inj (hg.symm.trans hg')
 obtain rfl:=Option.some.inj (hty.symm.trans ht')
 unfold TabIs
 rw [hvar,←cells_of_tab ht he hce hct hd]
theorem tPow:(Tryz.prog.globals[2]?).map (·.type)=some 167:=by kernel_rfl
theorem cPow:Tryz.prog.cellsOf 167=20:=by kernel_rfl
theorem GZ {W : World} (h : VarReads Tryz.prog W "internal/strconv.uint64pow10" (tabData .u64 pow10Tab)) : Env W :=
 ⟨Fu gPow tPow Tryz.underlying167 Tryz.underlying71 (by kernel_rfl) cPow h⟩
theorem envQ_of {W : World} (h : VarReads Tryz.prog W "internal/strconv.uint64pow10" (tabData .u64 pow10Tab)) (hs : W.ShapedOpen Tryz.prog) : EnvQ W := ⟨GZ h, GD hs⟩
end
end Go.Proofs.YtcmomjnailihpaaGreatDoor
/- The reference for fractions: Valid,Make,Of. -/
namespace Go.Proofs.YtcmomjnailihpaaGreatDoor
section
open Go.RowKit
attribute [local go_sem] Oper.semAt_some
section
variable {x y:Int} {a b:ByteArray} (ha:a=I x) (hb:b=I y) (hx:Small x) (hy:Small y) (w:World)
include ha hb hx hy
end
end
end Go.Proofs.YtcmomjnailihpaaGreatDoor
/- package rational in terms of optional fractions: none is what an error returns. -/
namespace Go.Proofs.YtcmomjnailihpaaGreatDoor
section
open Go.RowKit
attribute [local go_sem] Oper.semAt_some
def OkO (o:Option Rat):Prop:=∀ r,o=some r→SmallQ r
theorem OkO.none:OkO none:=fun r h=>by cases h
theorem OkO.some {r:Rat} (h:SmallQ r):OkO (some r):=fun s e=>by cases e;exact h
def oIf (c:Bool) (r:Rat):Option Rat:=if c then some r else none
theorem OkO.oIf {c:Bool} {r:Rat} (h:c=true→SmallQ r):OkO (oIf c r):=by
 unfold Proofs.YtcmomjnailihpaaGreatDoor.oIf
 split
 ·exact OkO.some (h ‹_›)
 ·exact OkO.none
theorem J6 (x y:Rat):Rat.divInt (x.num*y.den+y.num*x.den) (x.den*y.den)=x+y:=by
 rw [Rat.add_def',←Rat.divInt_ofNat,Int.natCast_mul]
theorem J7 (x y:Rat):Rat.divInt (x.num*y.den-y.num*x.den) (x.den*y.den)=x-y:=by
 rw [Rat.sub_def',←Rat.divInt_ofNat,Int.natCast_mul]
theorem J8 (x y:Rat):Rat.divInt (x.num*y.num) (x.den*y.den)=x*y:=by
 rw [Rat.mul_def',←Rat.divInt_ofNat,Int.natCast_mul]
def fAdd (x y:Rat):Bool:=decide (Small (x.num*y.den))&&decide (Small (y.num*x.den))&&decide (Small (x.num*y.den+y.num*x.den))&&decide (Small ((x.den:Int)*y.den))
def fSub (x y:Rat):Bool:=decide (Small (x.num*y.den))&&decide (Small (y.num*x.den))&&decide (Small (x.num*y.den-y.num*x.den))&&decide (Small ((x.den:Int)*y.den))
def fMul (x y:Rat):Bool:=decide (Small (x.num*y.num))&&decide (Small ((x.den:Int)*y.den))
def oBin (f:Rat→Rat→Bool) (g:Rat→Rat→Rat) (a b:Option Rat):Option Rat:=match a,b with
 | some x,some y=>oIf (f x y) (g x y)
 | _,_=>none
def oAdd:=oBin fAdd (·+·)
def oSub:=oBin fSub (· - ·)
def oMul:=oBin fMul (· * ·)
theorem CG {x y:Rat} {n:Int} (h:Small n) (hd:Small ((x.den:Int)*y.den)):SmallQ (Rat.divInt n (x.den*y.den)) :=
 Ck h hd (Int.mul_pos (Ej x) (Ej y))
theorem OkO.add {a b:Option Rat}:OkO (oAdd a b):=by
 cases a with
 | none=>exact OkO.none
 | some x=>cases b with
  | none=>exact OkO.none
  | some y =>
   refine OkO.oIf fun e=>?_
   unfold fAdd at e
   simp at e
   show SmallQ (x+y)
   rw [←J6]
   exact CG e.1.2 e.2
theorem OkO.sub {a b:Option Rat}:OkO (oSub a b):=by
 cases a with
 | none=>exact OkO.none
 | some x=>cases b with
  | none=>exact OkO.none
  | some y =>
   refine OkO.oIf fun e=>?_
   unfold fSub at e
   simp at e
   show SmallQ (x-y)
   rw [←J7]
   exact CG e.1.2 e.2
theorem OkO.mul {a b:Option Rat}:OkO (oMul a b):=by
 cases a with
 | none=>exact OkO.none
 | some x=>cases b with
  | none=>exact OkO.none
  | some y =>
   refine OkO.oIf fun e=>?_
   unfold fMul at e
   simp at e
   show SmallQ (x*y)
   rw [←J8]
   exact CG e.1 e.2
section
variable {a b:Option Rat} (ha:OkO a) (hb:OkO b) (w:World) (hE:Env w)
include ha hb hE
end
def oOf (n d:Int):Option Rat:=oIf (decide (d≠0)) (Rat.divInt n d)
theorem Kz {n d:Int} (hn:Small n) (hd:Small d) (h0:d≠0):SmallQ (Rat.divInt n d):=by
 rcases Int.lt_or_gt_of_ne h0 with h | h
 ·rw [←EO];exact Ck (FX hn) (FX hd) (by omega)
 ·exact Ck hn hd h
theorem OkO.of {n d:Int} (hn:Small n) (hd:Small d):OkO (oOf n d):=OkO.oIf fun e=>Kz hn hd (by simpa using e)
end
end Go.Proofs.YtcmomjnailihpaaGreatDoor
/- pick: an arbitrary integer as an index. -/
namespace Go.Proofs.YtcmomjnailihpaaGreatDoor
section
open Go.RowKit
attribute [local go_sem] Oper.semAt_some
def pkv (c m:Int):Int:=(if c<0 then -(c+1) else c) % m
theorem Av {c m:Int} (h:0<m):0≤pkv c m:=Int.emod_nonneg _ (by omega)
theorem BF {c m:Int} (h:0<m):pkv c m<m:=Int.emod_lt_of_pos _ h
structure BL (w:World) (L:List (Nat×Array Value×TypeId)) (W:World):Prop where
 below:Below w.heap.size w W
 blks:∀ p∈L,Blk W p.1 p.2.1 p.2.2
abbrev BLs:=List (Nat×Array Value×TypeId)
theorem BL.start (w:World):BL w [] w:=⟨Below.refl _ _,fun p h=>by cases h⟩
theorem BL.call {w W W':World} {L:BLs} (h:BL w L W) (hb:Below W.heap.size W W'):BL w L W' :=
 ⟨Ad hb h.below (Aa _),fun p hp=>(h.blks p hp).below hb⟩
theorem BL.drew {w W:World} {L:BLs} (h:BL w L W):BL w L W.drew:=h.call (Ac W 1)
theorem BL.drewN {w W:World} {L:BLs} (h:BL w L W) (n:Nat):BL w L (W.drewN n):=h.call (Ac W n)
theorem BL.new {w W:World} {L:BLs} (h:BL w L W) (o:Obj):BL w L (W.alloc o):=h.call ((Below.refl _ _).alloc (Aa _) o)
theorem BL.add {w W:World} {L:BLs} (h:BL w L W) (cs:Array Value) (t:TypeId):BL w ((W.heap.size,cs,t) :: L) (W.alloc (.cells cs t)):=by
 refine ⟨(h.new _).below,fun p hp=>?_⟩
 rcases List.mem_cons.1 hp with rfl | hp
 ·exact Blk.new _ _ _
 ·exact (h.new _).blks p hp
theorem BL.add' {w W:World} {L:BLs} (h:BL w L W) (cs:Array Value) (t:TypeId):∃ W',W'=W.alloc (.cells cs t)∧BL w ((W.heap.size,cs,t) :: L) W'∧W'.heap.size=W.heap.size+1 :=
 ⟨_,rfl,h.add cs t,World.size_alloc _ _⟩
theorem BL.lts {w W:World} {L:BLs} (h:BL w L W):∀ p∈L,p.1<W.heap.size:=fun p hp=>(h.blks p hp).lt
theorem BL.drop {w W:World} {L M:BLs} (h:BL w L W) (hm:∀ p∈M,p∈L):BL w M W:=⟨h.below,fun p hp=>h.blks p (hm p hp)⟩
theorem BL.cell {w W:World} {L:BLs} (h:BL w L W) (B:Nat) (cs:Array Value) (t:TypeId) (hm:(B,cs,t)∈L) (i:Nat):W.cell? ⟨B,i,none⟩=cs[i]? := (h.blks _ hm).cell i
theorem BL.frozen {w W:World} {L:BLs} (h:BL w L W) (B:Nat) (cs:Array Value) (t:TypeId) (hm:(B,cs,t)∈L) (i:Nat):W.frozen? ⟨B,i,none⟩=false:=(h.blks _ hm).frozen i
theorem BL.c1 {w W:World} {L:BLs} (h:BL w L W) (B:Nat) (a:Value) (t:TypeId) (hm:(B,#[a],t)∈L):W.cell? ⟨B,0,none⟩=some a:=h.cell B _ t hm 0
theorem BL.c2 {w W:World} {L:BLs} (h:BL w L W) (B:Nat) (a b:Value) (t:TypeId) (hm:(B,#[a,b],t)∈L):W.cell? ⟨B,0,none⟩=some a∧W.cell? ⟨B,1,none⟩=some b:=⟨h.cell B _ t hm 0,h.cell B _ t hm 1⟩
theorem BL.c4 {w W:World} {L:BLs} (h:BL w L W) (B:Nat) (a b c d:Value) (t:TypeId) (hm:(B,#[a,b,c,d],t)∈L):W.cell? ⟨B,0,none⟩=some a∧W.cell? ⟨B,1,none⟩=some b∧W.cell? ⟨B,2,none⟩=some c∧W.cell? ⟨B,3,none⟩=some d :=
 ⟨h.cell B _ t hm 0,h.cell B _ t hm 1,h.cell B _ t hm 2,h.cell B _ t hm 3⟩
theorem BL.c8 {w W:World} {L:BLs} (h:BL w L W) (B:Nat) (a b c d e f g k:Value) (t:TypeId) (hm:(B,#[a,b,c,d,e,f,g,k],t)∈L):W.cell? ⟨B,0,none⟩=some a∧W.cell? ⟨B,1,none⟩=some b∧W.cell? ⟨B,2,none⟩=some c∧W.cell? ⟨B,3,none⟩=some d ∧
  W.cell? ⟨B,4,none⟩=some e∧W.cell? ⟨B,5,none⟩=some f∧W.cell? ⟨B,6,none⟩=some g∧W.cell? ⟨B,7,none⟩=some k :=
 ⟨h.cell B _ t hm 0,h.cell B _ t hm 1,h.cell B _ t hm 2,h.cell B _ t hm 3,h.cell B _ t hm 4,h.cell B _ t hm 5,h.cell B _ t hm 6,h.cell B _ t hm 7⟩
theorem BL.only {w W W':World} {L:BLs} {S:List Nat} (h:BL w L W) (ho:Only S W W') (hS:∀ k∈S,w.heap.size≤k) (hL:∀ p∈L,p.1∉S):BL w L W' :=
 ⟨h.below.trans (ho.toBelow h.below.size hS),fun p hp=>(h.blks p hp).only ho (hL p hp)⟩
theorem BL.env {w W:World} {L:BLs} (h:BL w L W) (hE:Env w):Env W:=hE.below h.below (Aa _)
def BQ (k:Nat) (r:Rat):Prop:=Bd k r.num∧Bd k (r.den:Int)
theorem BQ.small {k:Nat} {r:Rat} (h:BQ k r) (hk:k≤200):SmallQ r:=⟨h.1.small hk,h.2.small hk⟩
theorem BQ.ok {k:Nat} {r:Rat} (h:BQ k r) (hk:k≤200):OkO (some r):=OkO.some (h.small hk)
theorem BQ.mono {j k:Nat} {r:Rat} (h:BQ j r) (hk:j≤k):BQ k r:=⟨h.1.mono hk,h.2.mono hk⟩
end
section
open Go.RowKit
structure Asc (w:World) (L:BLs):Prop where
 ge:∀ p∈L,w.heap.size≤p.1
 asc:L.Pairwise (fun p q=>q.1<p.1)
theorem Asc.nil (w:World):Asc w []:=⟨(fun p hp=>by cases hp),List.Pairwise.nil⟩
theorem Asc.add {w W:World} {L:BLs} (h:Asc w L) (hS:BL w L W) (cs:Array Value) (t:TypeId):Asc w ((W.heap.size,cs,t) :: L) :=
 ⟨fun p hp=>by
  rcases List.mem_cons.1 hp with rfl | hp
  ·exact hS.below.size
  ·exact h.ge p hp,List.pairwise_cons.2 ⟨fun p hp=>hS.lts p hp,h.asc⟩⟩
theorem Asc.put {w:World} {A C:BLs} {B:Nat} {cs ds:Array Value} {t:TypeId} (h:Asc w (A++(B,cs,t) :: C)):Asc w (A++(B,ds,t) :: C):=by
 refine ⟨fun p hp=>?_,?_⟩
 ·rcases List.mem_append.1 hp with h1 | h1
  ·exact h.ge p (List.mem_append_left _ h1)
  ·rcases List.mem_cons.1 h1 with rfl | h1
   ·exact h.ge (B,cs,t) (List.mem_append_right _ List.mem_cons_self)
   ·exact h.ge p (List.mem_append_right _ (List.mem_cons_of_mem _ h1))
 ·have h2:=List.pairwise_append.1 h.asc
  refine List.pairwise_append.2 ⟨h2.1,List.pairwise_cons.2 (List.pairwise_cons.1 h2.2.1),fun p hp q hq=>?_⟩
  rcases List.mem_cons.1 hq with rfl | hq
  ·exact h2.2.2 p hp (B,cs,t) List.mem_cons_self
  ·exact h2.2.2 p hp q (List.mem_cons_of_mem _ hq)
theorem Asc.ne {w:World} {A C:BLs} {B:Nat} {cs:Array Value} {t:TypeId} (h:Asc w (A++(B,cs,t) :: C)):∀ p∈A++C,p.1≠B:=by
 intro p hp
 have h2:=List.pairwise_append.1 h.asc
 rcases List.mem_append.1 hp with h1 | h1
 ·have:B<p.1:=h2.2.2 p h1 (B,cs,t) List.mem_cons_self
  omega
 ·have:p.1<B:=(List.pairwise_cons.1 h2.2.1).1 p h1
  omega
theorem Asc.base {w:World} {A C:BLs} {B:Nat} {cs:Array Value} {t:TypeId} (h:Asc w (A++(B,cs,t) :: C)):w.heap.size≤B:=h.ge (B,cs,t) (List.mem_append_right _ List.mem_cons_self)
theorem BL.put {w W:World} {A C:BLs} {B:Nat} {a b:Value} {t:TypeId} (hO:Asc w (A++(B,#[a,b],t) :: C)) (h:BL w (A++(B,#[a,b],t) :: C) W) (x y:Value) :
  BL w (A++(B,#[x,y],t) :: C) ((W.setCell ⟨B,0,none⟩ x).setCell ⟨B,1,none⟩ y):=by
 have ho:Only [B] W ((W.setCell ⟨B,0,none⟩ x).setCell ⟨B,1,none⟩ y):=((Only.refl [B] W).setCell (p:=⟨B,0,none⟩) (by simp) x).setCell (p:=⟨B,1,none⟩) (by simp) y
 have h1:=(h.drop (M:=A++C) (fun p hp=>by
  rcases List.mem_append.1 hp with h1 | h1
  ·exact List.mem_append_left _ h1
  ·exact List.mem_append_right _ (List.mem_cons_of_mem _ h1))).only ho (by simpa using hO.base) (fun p hp=>by simpa using hO.ne p hp)
 refine ⟨h1.below,fun p hp=>?_⟩
 rcases List.mem_append.1 hp with h2 | h2
 ·exact h1.blks p (List.mem_append_left _ h2)
 ·rcases List.mem_cons.1 h2 with rfl | h2
  ·exact ((h.blks (B,#[a,b],t) (List.mem_append_right _ List.mem_cons_self)).set 0 x).set 1 y
  ·exact h1.blks p (List.mem_append_right _ h2)
theorem BL.putc {w W:World} {A C:BLs} {B:Nat} {cs:Array Value} {t:TypeId} (hO:Asc w (A++(B,cs,t) :: C)) (h:BL w (A++(B,cs,t) :: C) W) (i:Nat) (x:Value) :
  BL w (A++(B,cs.setIfInBounds i x,t) :: C) (W.setCell ⟨B,i,none⟩ x):=by
 have ho:Only [B] W (W.setCell ⟨B,i,none⟩ x):=(Only.refl [B] W).setCell (p:=⟨B,i,none⟩) (by simp) x
 have h1:=(h.drop (M:=A++C) (fun p hp=>by
  rcases List.mem_append.1 hp with h1 | h1
  ·exact List.mem_append_left _ h1
  ·exact List.mem_append_right _ (List.mem_cons_of_mem _ h1))).only ho (by simpa using hO.base) (fun p hp=>by simpa using hO.ne p hp)
 refine ⟨h1.below,fun p hp=>?_⟩
 rcases List.mem_append.1 hp with h2 | h2
 ·exact h1.blks p (List.mem_append_left _ h2)
 ·rcases List.mem_cons.1 h2 with rfl | h2
  ·exact (h.blks (B,cs,t) (List.mem_append_right _ List.mem_cons_self)).set i x
  ·exact h1.blks p (List.mem_append_right _ h2)
structure RowD where
 e:TypeId
 k:Nat
 v:Value
 n:Nat
 xs:List Value
structure Mem (w:World) (L:BLs) (R:List RowD) (W:World):Prop where
 below:Below w.heap.size w W
 ge:∀ p∈L,w.heap.size≤p.1
 blks:∀ p∈L,Blk W p.1 p.2.1 p.2.2
 dup:L.Pairwise (fun p q=>p.1≠q.1)
 rows:∀ r∈R,W.ownsRow w.heap.size r.e r.k r.v r.n r.xs
 rdis:R.Pairwise (fun r s=>∀ b,r.v.ownBlock=some b→s.v.ownBlock≠some b)
 rL:∀ r∈R,∀ p∈L,r.v.ownBlock≠some p.1
section
variable {w W W':World} {L A C:BLs} {R RA RC:List RowD} {B:Nat} {cs:Array Value} {t:TypeId}
theorem Mem.start (w:World):Mem w [] [] w:=⟨Below.refl _ _,fun p h=>(by cases h),fun p h=>(by cases h),.nil,fun p h=>(by cases h),.nil,fun p h=>(by cases h)⟩
theorem Mem.call (h:Mem w L R W) (hb:Below W.heap.size W W'):Mem w L R W' :=
 ⟨Ad hb h.below (Aa _),h.ge,fun p hp=>(h.blks p hp).below hb,h.dup,fun r hr=>As (h.rows r hr) hb,h.rdis,h.rL⟩
theorem Mem.drew (h:Mem w L R W):Mem w L R W.drew:=h.call (Ac W 1)
theorem Mem.drewN (h:Mem w L R W) (n:Nat):Mem w L R (W.drewN n):=h.call (Ac W n)
theorem Mem.new (h:Mem w L R W) (o:Obj):Mem w L R (W.alloc o):=h.call ((Below.refl _ _).alloc (Aa _) o)
theorem Mem.lt (h:Mem w L R W):∀ p∈L,p.1<W.heap.size:=fun p hp=>(h.blks p hp).lt
theorem Mem.add (h:Mem w L R W) (cs:Array Value) (t:TypeId):Mem w ((W.heap.size,cs,t) :: L) R (W.alloc (.cells cs t)):=by
 have h1:=h.new (.cells cs t)
 refine ⟨h1.below,fun p hp=>?_,fun p hp=>?_,List.pairwise_cons.2 ⟨fun p hp=>?_,h.dup⟩,h1.rows,h.rdis,fun r hr p hp=>?_⟩
 ·rcases List.mem_cons.1 hp with rfl | hp
  ·exact h.below.size
  ·exact h.ge p hp
 ·rcases List.mem_cons.1 hp with rfl | hp
  ·exact Blk.new _ _ _
  ·exact h1.blks p hp
 ·have:=h.lt p hp;show W.heap.size≠p.1;omega
 ·rcases List.mem_cons.1 hp with rfl | hp
  ·intro e;have:=((h.rows r hr).lt _ e).2;omega
  ·exact h.rL r hr p hp
theorem Mem.add' (h:Mem w L R W) (cs:Array Value) (t:TypeId):∃ W',W'=W.alloc (.cells cs t)∧Mem w ((W.heap.size,cs,t) :: L) R W'∧W'.heap.size=W.heap.size+1:=⟨_,rfl,h.add cs t,World.size_alloc _ _⟩
theorem Mem.sub {L':BLs} (h:Mem w L R W) (hs:L'.Sublist L):Mem w L' R W :=
 ⟨h.below,fun p hp=>h.ge p (hs.subset hp),fun p hp=>h.blks p (hs.subset hp),h.dup.sublist hs,h.rows,h.rdis,fun r hr p hp=>h.rL r hr p (hs.subset hp)⟩
theorem Mem.rsub {R':List RowD} (h:Mem w L R W) (hs:R'.Sublist R):Mem w L R' W :=
 ⟨h.below,h.ge,h.blks,h.dup,fun r hr=>h.rows r (hs.subset hr),h.rdis.sublist hs,fun r hr=>h.rL r (hs.subset hr)⟩
theorem Mem.perm {L':BLs} (h:Mem w L R W) (hs:L.Perm L'):Mem w L' R W :=
 ⟨h.below,fun p hp=>h.ge p (hs.mem_iff.2 hp),fun p hp=>h.blks p (hs.mem_iff.2 hp),(hs.pairwise_iff (fun {_ _} hab e=>hab e.symm)).1 h.dup,h.rows,h.rdis,fun r hr p hp=>h.rL r hr p (hs.mem_iff.2 hp)⟩
theorem Mem.cell (h:Mem w L R W) (B:Nat) (cs:Array Value) (t:TypeId) (hm:(B,cs,t)∈L) (i:Nat):W.cell? ⟨B,i,none⟩=cs[i]? := (h.blks _ hm).cell i
theorem Mem.frozen (h:Mem w L R W) (B:Nat) (cs:Array Value) (t:TypeId) (hm:(B,cs,t)∈L) (i:Nat):W.frozen? ⟨B,i,none⟩=false:=(h.blks _ hm).frozen i
theorem Mem.old (h:Mem w L R W) {b k:Nat} {u:Value} (hb:b<w.heap.size) (hu:w.cell? ⟨b,k,none⟩=some u):W.cell? ⟨b,k,none⟩=some u:=(h.below.cell (p:=⟨b,k,none⟩) hb).trans hu
theorem Mem.size (h:Mem w L R W):w.heap.size≤W.heap.size:=h.below.size
theorem Mem.put (h:Mem w (A++(B,cs,t) :: C) R W) (i:Nat) (x:Value):Mem w (A++(B,cs.setIfInBounds i x,t) :: C) R (W.setCell ⟨B,i,none⟩ x):=by
 have hB:(B,cs,t)∈A++(B,cs,t) :: C:=List.mem_append_right _ List.mem_cons_self
 have ho:Only [B] W (W.setCell ⟨B,i,none⟩ x):=(Only.refl [B] W).setCell (p:=⟨B,i,none⟩) (by simp) x
 have hd:=List.pairwise_append.1 h.dup
 have hdc:=List.pairwise_cons.1 hd.2.1
 have hge:=h.ge _ hB
 have old:∀ p,p∈A∨p∈C→p∈A++(B,cs,t) :: C∧p.1≠B:=fun p hp=>by
  rcases hp with hp | hp
  ·exact ⟨List.mem_append_left _ hp,hd.2.2 p hp _ List.mem_cons_self⟩
  ·exact ⟨List.mem_append_right _ (List.mem_cons_of_mem _ hp),fun e=>hdc.1 p hp e.symm⟩
 have split:∀ p,p∈A++(B,cs.setIfInBounds i x,t) :: C→p=(B,cs.setIfInBounds i x,t)∨(p∈A∨p∈C):=fun p hp=>by
  rcases List.mem_append.1 hp with h1 | h1
  ·exact .inr (.inl h1)
  ·rcases List.mem_cons.1 h1 with h1 | h1
   ·exact .inl h1
   ·exact .inr (.inr h1)
 refine ⟨h.below.trans (ho.toBelow h.below.size (by simpa using hge)),fun p hp=>?_,fun p hp=>?_,?_,fun r hr=>?_,h.rdis,fun r hr p hp=>?_⟩
 ·rcases split p hp with rfl | hp
  ·exact hge
  ·exact h.ge p (old p hp).1
 ·rcases split p hp with rfl | hp
  ·exact (h.blks _ hB).set i x
  ·exact (h.blks p (old p hp).1).only ho (by simpa using (old p hp).2)
 ·refine List.pairwise_append.2 ⟨hd.1,List.pairwise_cons.2 ⟨hdc.1,hdc.2⟩,fun p hp q hq=>?_⟩
  rcases List.mem_cons.1 hq with rfl | hq
  ·exact hd.2.2 p hp (B,cs,t) List.mem_cons_self
  ·exact hd.2.2 p hp q (List.mem_cons_of_mem _ hq)
 ·refine (h.rows r hr).kept (Aj W B i x) ?_
  cases hb:r.v.ownBlock with
  | none=>exact .inl rfl
  | some b=>exact .inr fun e=>h.rL r hr _ hB (by rw [hb,e])
 ·rcases split p hp with rfl | hp
  ·exact h.rL r hr (B,cs,t) hB
  ·exact h.rL r hr p (old p hp).1
theorem Mem.row0 (h:Mem w L R W) (e:TypeId) (k:Nat):Mem w L (⟨e,k,.slice none 0 0,0,[]⟩ :: R) W:=by
 refine ⟨h.below,h.ge,h.blks,h.dup,fun r hr=>?_,List.pairwise_cons.2 ⟨fun s _ b hb=>(by cases hb),h.rdis⟩,fun r hr p hp=>?_⟩
 ·rcases List.mem_cons.1 hr with rfl | hr
  ·exact World.ownsRow_nil _ _ _ _
  ·exact h.rows r hr
 ·rcases List.mem_cons.1 hr with rfl | hr
  ·intro e;cases e
  ·exact h.rL r hr p hp
theorem Mem.app {e:TypeId} {k n n':Nat} {v v':Value} {xs xs':List Value} (h:Mem w L (RA++⟨e,k,v,n,xs⟩ :: RC) W) (hg:W.grownBy W' v.ownBlock) (hr:W'.ownsRow w.heap.size e k v' n' xs') (hv:∀ b,v'.ownBlock=some b→v.ownBlock=some b∨W.heap.size≤b) :
  Mem w L (RA++⟨e,k,v',n',xs'⟩ :: RC) W':=by
 have hM:(⟨e,k,v,n,xs⟩:RowD)∈RA++⟨e,k,v,n,xs⟩ :: RC:=List.mem_append_right _ List.mem_cons_self
 have hd:=List.pairwise_append.1 h.rdis
 have hdc:=List.pairwise_cons.1 hd.2.1
 have old:∀ s,s∈RA∨s∈RC→s∈RA++⟨e,k,v,n,xs⟩ :: RC∧(∀ b,s.v.ownBlock=some b→v.ownBlock≠some b):=fun s hs=>by
  rcases hs with hs | hs
  ·exact ⟨List.mem_append_left _ hs,fun b hb=>hd.2.2 s hs _ List.mem_cons_self b hb⟩
  ·exact ⟨List.mem_append_right _ (List.mem_cons_of_mem _ hs),fun b hb e'=>hdc.1 s hs b e' hb⟩
 have split:∀ s,s∈RA++⟨e,k,v',n',xs'⟩ :: RC→s=⟨e,k,v',n',xs'⟩∨(s∈RA∨s∈RC):=fun p hp=>by
  rcases List.mem_append.1 hp with h1 | h1
  ·exact .inr (.inl h1)
  ·rcases List.mem_cons.1 h1 with h1 | h1
   ·exact .inl h1
   ·exact .inr (.inr h1)
 have hge:∀ b,v.ownBlock=some b→w.heap.size≤b:=fun b hb=>((h.rows _ hM).lt b hb).1
 have dis:∀ s,s∈RA∨s∈RC→∀ b,s.v.ownBlock=some b→v'.ownBlock≠some b:=fun s hs b hb e'=>by
  rcases hv b e' with h1 | h1
  ·exact (old s hs).2 b hb h1
  ·have:=((h.rows s (old s hs).1).lt b hb).2;omega
 refine ⟨⟨hg.os.trans h.below.os,hg.tape.trans h.below.tape,hg.output.trans h.below.output,Nat.le_trans h.below.size hg.size,fun i hi=>(hg.block i (A9 hi h.below.size) (fun e'=>by have:=hge i e'.symm;omega)).trans (h.below.block i hi)⟩,h.ge,fun p hp=>?_,h.dup,fun s hs=>?_,?_,fun s hs p hp=>?_⟩
 ·exact (h.blks p hp).kept hg (fun e'=>h.rL _ hM p hp e'.symm)
 ·rcases split s hs with rfl | hs
  ·exact hr
  ·refine (h.rows s (old s hs).1).kept hg ?_
   cases hb:s.v.ownBlock with
   | none=>exact .inl rfl
   | some b=>exact .inr fun e'=>(old s hs).2 b hb e'.symm
 ·refine List.pairwise_append.2 ⟨hd.1,List.pairwise_cons.2 ⟨fun s hs b hb e'=>dis s (.inr hs) b e' hb,hdc.2⟩,fun s hs q hq=>?_⟩
  rcases List.mem_cons.1 hq with rfl | hq
  ·exact fun b hb=>dis s (.inl hs) b hb
  ·exact hd.2.2 s hs q (List.mem_cons_of_mem _ hq)
 ·rcases split s hs with rfl | hs
  ·intro e'
   rcases hv p.1 e' with h1 | h1
   ·exact h.rL _ hM p hp h1
   ·have:=h.lt p hp;omega
  ·exact h.rL s (old s hs).1 p hp
theorem Mem.own {e:TypeId} {k n:Nat} {v:Value} {xs:List Value} (h:Mem w L R W) (hr:(⟨e,k,v,n,xs⟩:RowD)∈R):W.ownsRow w.heap.size e k v n xs:=h.rows _ hr
theorem Mem.freeze {e:TypeId} {k n:Nat} {v:Value} {xs:List Value} (h:Mem w L (⟨e,k,v,n,xs⟩ :: R) W) :
  (v=.slice none 0 0∧n=0∧xs=[]∧Mem w L R W)∨∃ g cap cs,v=.slice (some ⟨g,0,none⟩) n cap∧n≤cap∧cap≤maxLen∧cs.size=cap*k∧cs.toList.take (n*k)=xs∧Mem w ((g,cs,e) :: L) R W:=by
 have hr:=h.rows _ List.mem_cons_self
 have hR:=h.rsub (List.sublist_cons_self _ _)
 rcases hr.2 with ⟨h1,h2⟩ | ⟨g,cap,cs,h1,h2,h3,h4,h5,h6,h7⟩
 ·have h1':v=.slice none 0 0:=h1
  have h2':n=0:=h2
  subst h2'
  exact .inl ⟨h1',rfl,List.eq_nil_of_length_eq_zero (by have:=hr.1;simpa using this),hR⟩
 ·have h1':v=.slice (some ⟨g,0,none⟩) n cap:=h1
  subst h1'
  refine .inr ⟨g,cap,cs,rfl,h4,h5,h6,h7,h.below,fun p hp=>?_,fun p hp=>?_,List.pairwise_cons.2 ⟨fun p hp e'=>?_,h.dup⟩,hR.rows,hR.rdis,fun r hr' p hp=>?_⟩
  ·rcases List.mem_cons.1 hp with rfl | hp
   ·exact h2
   ·exact h.ge p hp
  ·rcases List.mem_cons.1 hp with rfl | hp
   ·exact h3
   ·exact h.blks p hp
  ·exact h.rL _ List.mem_cons_self p hp (by rw [←e'];rfl)
  ·rcases List.mem_cons.1 hp with rfl | hp
   ·intro e'
    exact (List.pairwise_cons.1 h.rdis).1 r hr' g rfl e'
   ·exact hR.rL r hr' p hp
theorem Mem.thaw {e:TypeId} {k n cap:Nat} {xs:List Value} (h:Mem w ((B,cs,e) :: L) R W) (hn:n≤cap) (hm:cap≤maxLen) (hs:cs.size=cap*k) (hx:cs.toList.take (n*k)=xs):Mem w L (⟨e,k,.slice (some ⟨B,0,none⟩) n cap,n,xs⟩ :: R) W:=by
 have hL:=h.sub (List.sublist_cons_self _ _)
 have hd:=List.pairwise_cons.1 h.dup
 refine ⟨h.below,hL.ge,hL.blks,hL.dup,fun r hr=>?_,List.pairwise_cons.2 ⟨fun s hs b hb e'=>?_,h.rdis⟩,fun r hr p hp=>?_⟩
 ·rcases List.mem_cons.1 hr with rfl | hr
  ·refine ⟨by subst hx;rw [List.length_take,Array.length_toList,hs];exact Nat.min_eq_left (Nat.mul_le_mul_right _ hn),.inr ⟨B,cap,cs,rfl,h.ge _ List.mem_cons_self,h.blks _ List.mem_cons_self,hn,hm,hs,hx⟩⟩
  ·exact h.rows r hr
 ·cases hb
  exact h.rL s hs _ List.mem_cons_self e'
 ·rcases List.mem_cons.1 hr with rfl | hr
  ·intro e'
   exact hd.1 p hp (Option.some.inj e')
  ·exact hL.rL r hr p hp
theorem Mem.env (h:Mem w L R W) (hE:Env w):Env W:=hE.below h.below (Aa _)
theorem Mem.within (h:Mem w L R W) (hs:Mem W A RA W'):Mem w (A++L) (RA++R) W':=by
 have h1:=h.call hs.below
 refine ⟨h1.below,fun p hp=>?_,fun p hp=>?_,List.pairwise_append.2 ⟨hs.dup,h.dup,fun p hp q hq e=>?_⟩,fun r hr=>?_,List.pairwise_append.2 ⟨hs.rdis,h.rdis,fun r hr s hs' b hb e=>?_⟩,fun r hr p hp=>?_⟩
 ·rcases List.mem_append.1 hp with hp | hp
  ·exact Nat.le_trans h.size (hs.ge p hp)
  ·exact h.ge p hp
 ·rcases List.mem_append.1 hp with hp | hp
  ·exact hs.blks p hp
  ·exact h1.blks p hp
 ·have:=hs.ge p hp;have:=h.lt q hq;omega
 ·rcases List.mem_append.1 hr with hr | hr
  ·obtain ⟨a,b⟩:=hs.rows r hr
   exact ⟨a,b.imp id fun ⟨g,cap,cur,e1,e2,r⟩=>⟨g,cap,cur,e1,Nat.le_trans h.size e2,r⟩⟩
  ·exact h1.rows r hr
 ·have:=((hs.rows r hr).lt b hb).1;have:=((h.rows s hs').lt b e).2;omega
 ·rcases List.mem_append.1 hr with hr | hr
  ·rcases List.mem_append.1 hp with hp | hp
   ·exact hs.rL r hr p hp
   ·intro e;have:=((hs.rows r hr).lt _ e).1;have:=h.lt p hp;omega
  ·rcases List.mem_append.1 hp with hp | hp
   ·intro e;have:=hs.ge p hp;have:=((h.rows r hr).lt _ e).2;omega
   ·exact h1.rL r hr p hp
theorem Mem.tail (h:Mem w ((B,cs,t) :: L) R W):Mem w L R W:=h.sub (List.sublist_cons_self _ _)
theorem Mem.join {W0:World} {cs':Array Value} {t':TypeId} (h0:Mem w ((B,cs,t) :: L) R W0) (h:Mem w L R W) (hb:Blk W B cs' t'):Mem w ((B,cs',t') :: L) R W:=by
 refine ⟨h.below,fun p hp=>?_,fun p hp=>?_,List.pairwise_cons.2 ⟨(List.pairwise_cons.1 h0.dup).1,h.dup⟩,h.rows,h.rdis,fun r hr p hp=>?_⟩
 ·rcases List.mem_cons.1 hp with rfl | hp
  ·exact h0.ge (B,cs,t) List.mem_cons_self
  ·exact h.ge p hp
 ·rcases List.mem_cons.1 hp with rfl | hp
  ·exact hb
  ·exact h.blks p hp
 ·rcases List.mem_cons.1 hp with rfl | hp
  ·exact h0.rL r hr (B,cs,t) List.mem_cons_self
  ·exact h.rL r hr p hp
theorem Mem.put0 (h:Mem w ((B,cs,t) :: L) R W) (i:Nat) (x:Value):Mem w ((B,cs.setIfInBounds i x,t) :: L) R (W.setCell ⟨B,i,none⟩ x):=h.put (A:=[]) i x
theorem Mem.off {W0:World} {ds:Array Value} {t':TypeId} (h0:Mem w ((B,ds,t') :: L) R W0) (h:Mem w L R W) (hb:Blk W B cs t) (i:Nat) (x:Value):Mem w L R (W.setCell ⟨B,i,none⟩ x):=((h0.join h hb).put0 i x).tail
theorem Mem.app0 {e:TypeId} {k n n':Nat} {v v':Value} {xs xs':List Value} (h:Mem w L (⟨e,k,v,n,xs⟩ :: R) W) (hg:W.grownBy W' v.ownBlock) (hr:W'.ownsRow w.heap.size e k v' n' xs') (hv:∀ b,v'.ownBlock=some b→v.ownBlock=some b∨W.heap.size≤b) :
 Mem w L (⟨e,k,v',n',xs'⟩ :: R) W':=h.app (RA:=[]) hg hr hv
theorem Mem.own0 {e:TypeId} {k n:Nat} {v:Value} {xs:List Value} (h:Mem w L (⟨e,k,v,n,xs⟩ :: R) W):W.ownsRow w.heap.size e k v n xs:=h.rows _ List.mem_cons_self
theorem Mem.rtail {r:RowD} (h:Mem w L (r :: R) W):Mem w L R W:=h.rsub (List.sublist_cons_self _ _)
theorem Mem.front {p:Nat×Array Value×TypeId} (h:Mem w (A++p :: C) R W):Mem w (p :: (A++C)) R W:=h.perm List.perm_middle
theorem Mem.front2 {p q:Nat×Array Value×TypeId} (h:Mem w (A++p :: q :: C) R W):Mem w (q :: (A++C)) R W:=(h.sub (List.Sublist.append (List.Sublist.refl A) (List.sublist_cons_self p (q :: C)))).front
theorem GE {O:Nat} {a b:Value} (h:Blk W O #[a,b] t) (x y:Value):W.cell? ⟨O,0,none⟩=some a∧W.cell? ⟨O,1,none⟩=some b∧W.frozen? ⟨O,0,none⟩=false∧W.frozen? ⟨O,1,none⟩=false ∧
  ((W.setCell ⟨O,0,none⟩ x).setCell ⟨O,1,none⟩ y).cell? ⟨O,0,none⟩=some x∧((W.setCell ⟨O,0,none⟩ x).setCell ⟨O,1,none⟩ y).cell? ⟨O,1,none⟩=some y :=
 ⟨h.cell 0,h.cell 1,h.frozen 0,h.frozen 1,((h.set 0 x).set 1 y).cell 0,((h.set 0 x).set 1 y).cell 1⟩
theorem Mem.out2 {O:Nat} {a b:Value} (h:Mem w ((O,#[a,b],t) :: L) R W) (x y:Value):Mem w ((O,#[x,y],t) :: L) R ((W.setCell ⟨O,0,none⟩ x).setCell ⟨O,1,none⟩ y):=(h.put0 0 x).put0 1 y
end
end
section
open Go.RowKit
open LnM (wd upd)
attribute [local go_sem] Oper.semAt_some
abbrev wc (f:Nat→Int):Array Value:=#[.int .u64 (f 0),.int .u64 (f 1),.int .u64 (f 2),.int .u64 (f 3),.int .u64 (f 4),.int .u64 (f 5),.int .u64 (f 6),.int .u64 (f 7),.int .u64 (f 8),.int .u64 (f 9),.int .u64 (f 10),.int .u64 (f 11)]
theorem Bc (f:Nat→Int) {i:Nat} (h:i<12):(wc f)[i]? = some (.int .u64 (f i)):=by
 match i,h with
 | 0,_=>rfl
 | 1,_=>rfl
 | 2,_=>rfl
 | 3,_=>rfl
 | 4,_=>rfl
 | 5,_=>rfl
 | 6,_=>rfl
 | 7,_=>rfl
 | 8,_=>rfl
 | 9,_=>rfl
 | 10,_=>rfl
 | 11,_=>rfl
theorem AN (f:Nat→Int) {i:Nat} (h:i<12) (v:Int):(wc f).setIfInBounds i (.int .u64 v)=wc (upd f i v):=by
 match i,h with
 | 0,_=>rfl
 | 1,_=>rfl
 | 2,_=>rfl
 | 3,_=>rfl
 | 4,_=>rfl
 | 5,_=>rfl
 | 6,_=>rfl
 | 7,_=>rfl
 | 8,_=>rfl
 | 9,_=>rfl
 | 10,_=>rfl
 | 11,_=>rfl
theorem Az {f g:Nat→Int} (h:∀ i,i<12→f i=g i):wc f=wc g:=by
 unfold wc
 rw [h 0 (by decide),h 1 (by decide),h 2 (by decide),h 3 (by decide),h 4 (by decide),h 5 (by decide),h 6 (by decide),h 7 (by decide),h 8 (by decide),h 9 (by decide),h 10 (by decide),h 11 (by decide)]
theorem Al {W:World} {B:Nat} {f:Nat→Int} {t:TypeId} (h:Blk W B (wc f) t):W.cell? ⟨B,0,none⟩=some (.int .u64 (f 0))∧W.cell? ⟨B,1,none⟩=some (.int .u64 (f 1))∧W.cell? ⟨B,2,none⟩=some (.int .u64 (f 2))∧W.cell? ⟨B,3,none⟩=some (.int .u64 (f 3))∧W.cell? ⟨B,4,none⟩=some (.int .u64 (f 4))∧W.cell? ⟨B,5,none⟩=some (.int .u64 (f 5))∧W.cell? ⟨B,6,none⟩=some (.int .u64 (f 6))∧W.cell? ⟨B,7,none⟩=some (.int .u64 (f 7))∧W.cell? ⟨B,8,none⟩=some (.int .u64 (f 8))∧W.cell? ⟨B,9,none⟩=some (.int .u64 (f 9))∧W.cell? ⟨B,10,none⟩=some (.int .u64 (f 10))∧W.cell? ⟨B,11,none⟩=some (.int .u64 (f 11)):=⟨h.cell 0,h.cell 1,h.cell 2,h.cell 3,h.cell 4,h.cell 5,h.cell 6,h.cell 7,h.cell 8,h.cell 9,h.cell 10,h.cell 11⟩
theorem B7 {W:World} {B:Nat} {f:Nat→Int} {t:TypeId} (h:Blk W B (wc f) t):W.frozen? ⟨B,0,none⟩=false∧W.frozen? ⟨B,1,none⟩=false∧W.frozen? ⟨B,2,none⟩=false∧W.frozen? ⟨B,3,none⟩=false∧W.frozen? ⟨B,4,none⟩=false∧W.frozen? ⟨B,5,none⟩=false∧W.frozen? ⟨B,6,none⟩=false∧W.frozen? ⟨B,7,none⟩=false∧W.frozen? ⟨B,8,none⟩=false∧W.frozen? ⟨B,9,none⟩=false∧W.frozen? ⟨B,10,none⟩=false∧W.frozen? ⟨B,11,none⟩=false:=⟨h.frozen 0,h.frozen 1,h.frozen 2,h.frozen 3,h.frozen 4,h.frozen 5,h.frozen 6,h.frozen 7,h.frozen 8,h.frozen 9,h.frozen 10,h.frozen 11⟩
abbrev st12 (W:World) (R:Nat) (f:Nat→Int):World:=((((((((((((W.setCell ⟨R,0,none⟩ (.int .u64 (f 0))).setCell ⟨R,1,none⟩ (.int .u64 (f 1))).setCell ⟨R,2,none⟩ (.int .u64 (f 2))).setCell ⟨R,3,none⟩ (.int .u64 (f 3))).setCell ⟨R,4,none⟩ (.int .u64 (f 4))).setCell ⟨R,5,none⟩ (.int .u64 (f 5))).setCell ⟨R,6,none⟩ (.int .u64 (f 6))).setCell ⟨R,7,none⟩ (.int .u64 (f 7))).setCell ⟨R,8,none⟩ (.int .u64 (f 8))).setCell ⟨R,9,none⟩ (.int .u64 (f 9))).setCell ⟨R,10,none⟩ (.int .u64 (f 10))).setCell ⟨R,11,none⟩ (.int .u64 (f 11)))
theorem AY {W:World} {R:Nat} {f g:Nat→Int} {t:TypeId} (h:Blk W R (wc g) t):Blk (st12 W R f) R (wc f) t:=by
 have h0:=h.set 0 (.int .u64 (f 0))
 rw [AN _ (by decide)] at h0
 have h1:=h0.set 1 (.int .u64 (f 1))
 rw [AN _ (by decide)] at h1
 have h2:=h1.set 2 (.int .u64 (f 2))
 rw [AN _ (by decide)] at h2
 have h3:=h2.set 3 (.int .u64 (f 3))
 rw [AN _ (by decide)] at h3
 have h4:=h3.set 4 (.int .u64 (f 4))
 rw [AN _ (by decide)] at h4
 have h5:=h4.set 5 (.int .u64 (f 5))
 rw [AN _ (by decide)] at h5
 have h6:=h5.set 6 (.int .u64 (f 6))
 rw [AN _ (by decide)] at h6
 have h7:=h6.set 7 (.int .u64 (f 7))
 rw [AN _ (by decide)] at h7
 have h8:=h7.set 8 (.int .u64 (f 8))
 rw [AN _ (by decide)] at h8
 have h9:=h8.set 9 (.int .u64 (f 9))
 rw [AN _ (by decide)] at h9
 have h10:=h9.set 10 (.int .u64 (f 10))
 rw [AN _ (by decide)] at h10
 have h11:=h10.set 11 (.int .u64 (f 11))
 rw [AN _ (by decide)] at h11
 have e:wc (upd (upd (upd (upd (upd (upd (upd (upd (upd (upd (upd (upd g 0 (f 0)) 1 (f 1)) 2 (f 2)) 3 (f 3)) 4 (f 4)) 5 (f 5)) 6 (f 6)) 7 (f 7)) 8 (f 8)) 9 (f 9)) 10 (f 10)) 11 (f 11))=wc f:=Az fun i hi=>by
  match i,hi with
  | 0,_=>simp [upd]
  | 1,_=>simp [upd]
  | 2,_=>simp [upd]
  | 3,_=>simp [upd]
  | 4,_=>simp [upd]
  | 5,_=>simp [upd]
  | 6,_=>simp [upd]
  | 7,_=>simp [upd]
  | 8,_=>simp [upd]
  | 9,_=>simp [upd]
  | 10,_=>simp [upd]
  | 11,_=>simp [upd]
 rw [e] at h11
 exact h11
theorem Ca {V W:World} {R:Nat} {f:Nat→Int} (h:Below V.heap.size V W) (hR:V.heap.size≤R):Below V.heap.size V (st12 W R f) :=
 h.setCell (p:=⟨R,0,none⟩) hR _ |>.setCell (p:=⟨R,1,none⟩) hR _ |>.setCell (p:=⟨R,2,none⟩) hR _ |>.setCell (p:=⟨R,3,none⟩) hR _ |>.setCell (p:=⟨R,4,none⟩) hR _ |>.setCell (p:=⟨R,5,none⟩) hR _ |>.setCell (p:=⟨R,6,none⟩) hR _ |>.setCell (p:=⟨R,7,none⟩) hR _ |>.setCell (p:=⟨R,8,none⟩) hR _ |>.setCell (p:=⟨R,9,none⟩) hR _ |>.setCell (p:=⟨R,10,none⟩) hR _ |>.setCell (p:=⟨R,11,none⟩) hR _
theorem DG (f:Nat→Int) (w:World) :
  Calls Tryz.prog 76 #[.agg (wc f)] w (Rets w (.bool (f 11 / 9223372036854775808==1))):=by
 go_enter Tryz.func76,Tryz.ntmps76
 go_wp2
 go_ret
 exact ⟨rfl,(Below.refl _ _).alloc (Aa _) _⟩
theorem LM {n:Int} (hn:Fits n) {j:Nat} (hj:1≤j):wd n j=if n<0 then 18446744073709551615 else 0:=by
 obtain ⟨k,rfl⟩:∃ k,j=k+1:=⟨j-1,by omega⟩
 unfold wd
 have hp:(18446744073709551616:Int)≤LnM.P (k+1):=by
  show _≤(18446744073709551616:Int)*LnM.P k
  have:=LnM.P_pos k
  omega
 unfold Fits at hn
 by_cases h:n<0
 ·rw [if_pos h]
  have:n / LnM.P (k+1)=-1:=by
   refine Int.le_antisymm (Int.lt_add_one_iff.1 (Int.ediv_lt_of_lt_mul (LnM.P_pos _) (by omega))) (Int.le_ediv_of_mul_le (LnM.P_pos _) (by omega))
  rw [this];decide
 ·rw [if_neg h]
  have:n / LnM.P (k+1)=0:=Int.ediv_eq_zero_of_lt (by omega) (by omega)
  rw [this];decide
theorem LN (n:Int):wd n 0=n % 18446744073709551616:=by unfold wd LnM.P;rw [Int.ediv_one]
theorem DH (n:Int) (hn:Fits n) (w:World) :
  Calls Tryz.prog 75 #[.int .i64 n] w (Rets w (.agg (wc (wd n)))):=by
 obtain ⟨z,hz⟩:∃ z:Int,z=if n<0 then 18446744073709551615 else 0:=⟨_,rfl⟩
 have hz1:IntKind.u64.wrap (n / 9223372036854775808)=z:=by rw [IntKind.wrap_u64];unfold Fits at hn;rw [hz];split <;> omega
 have hz0:IntKind.u64.wrap n=wd n 0:=by rw [IntKind.wrap_u64,LN]
 have hfin:wc (upd (fun j=>if j<12 then z else 0) 0 (wd n 0))=wc (wd n):=Az fun i hi=>by
  unfold upd
  by_cases h:i=0
  ·subst h;simp
  ·simp [h,hi];rw [LM hn (by omega),hz]
 clear hn
 obtain ⟨V1,ev1,S1,zv1⟩:=(BL.start w).add' (wc (fun _=>0)) 73
 obtain ⟨V2,ev2,S2,zv2⟩:=S1.add' (wc (fun _=>0)) 73
 rw [zv1] at S2
 have hV:V2=(w.alloc (.cells (wc (fun _=>0)) 73)).alloc (.cells (wc (fun _=>0)) 73):=by rw [ev2,ev1]
 have hS:BL w [(w.heap.size+1,wc (fun j=>if j<0 then z else 0),73),(w.heap.size,wc (fun _=>0),73)] V2:=S2
 have hO:∀ f:Nat→Int,Asc w [(w.heap.size+1,wc f,73),(w.heap.size,wc (fun _=>0),73)]:=fun f=>⟨by simp,by simp⟩
 clear ev1 ev2 zv1 zv2 S1 S2
 go_enter Tryz.func75,Tryz.ntmps75
 go_wp2_with fail
 rw [←hV]
 clear hV
 go_loopw [5] (fun o wr=>∃ i:Nat,o=.int .i64 i∧i≤12∧BL w [(w.heap.size+1,wc (fun j=>if j<i then z else 0),73),(w.heap.size,wc (fun _=>0),73)] wr) (fun o _=>12-(intOf o).toNat)
 case atStart=>exact ⟨0,rfl,by omega,hS⟩
 case round =>
  clear hS
  obtain ⟨i,rfl,hi,hS⟩:=hrel
  by_cases hlt:i<12
  ·have hlt':(i:Int)<12:=by omega
   have c0:=(hS.cell (w.heap.size+1) _ _ (.head _) i).trans (Bc _ hlt)
   have c1:=hS.frozen (w.heap.size+1) _ _ (.head _) i
   have hS2:=BL.putc (A:=[]) (hO _) hS i (.int .u64 z)
   rw [AN _ hlt] at hS2
   have e:wc (upd (fun j=>if j<i then z else 0) i z)=wc (fun j=>if j<i+1 then z else 0):=Az fun j hj=>by
    unfold upd
    by_cases h:j=i
    ·subst h;simp
    ·by_cases h2:j<i
     ·simp [h,h2,show j<i+1 by omega]
     ·simp [h,h2,show ¬ j<i+1 by omega]
   rw [e] at hS2
   clear hS e hz hfin
   go_wp2_with fail
   go_roundw
   case rel=>exact ⟨i+1,by go_num,by omega,hS2⟩
   case measure=>simp [intOf];omega
  ·obtain rfl:i=12:=by omega
   have c0:=(hS.cell (w.heap.size+1) _ _ (.head _) 0).trans (Bc _ (by decide))
   have c1:=hS.frozen (w.heap.size+1) _ _ (.head _) 0
   have hS2:=BL.putc (A:=[]) (hO _) hS 0 (.int .u64 (wd n 0))
   rw [AN _ (by decide)] at hS2
   rw [show wc (upd (fun j=>if j<12 then z else 0) 0 (wd n 0))=wc (wd n) from hfin] at hS2
   clear hfin hz
   generalize wd n=f at *
   go_upto_region 8 with fail
   obtain ⟨W,hW⟩:∃ W,W=wr.setCell ⟨w.heap.size+1,0,none⟩ (.int .u64 (f 0)):=⟨_,rfl⟩
   rw [←hW] at hS2 ⊢
   clear hS hW c0 c1
   rw [List.nil_append] at hS2
   obtain ⟨k0,k1,k2,k3,k4,k5,k6,k7,k8,k9,k10,k11⟩:=Al (show Blk W (w.heap.size+1) (wc f) 73 from hS2.blks (w.heap.size+1,wc f,73) (.head _))
   have hR:Blk W w.heap.size (wc (fun _=>0)) 73:=hS2.blks (w.heap.size,wc (fun _=>0),73) (.tail _ (.head _))
   obtain ⟨r0,r1,r2,r3,r4,r5,r6,r7,r8,r9,r10,r11⟩:=Al hR
   obtain ⟨q0,q1,q2,q3,q4,q5,q6,q7,q8,q9,q10,q11⟩:=B7 hR
   obtain ⟨y0,y1,y2,y3,y4,y5,y6,y7,y8,y9,y10,y11⟩:=Al (AY (f:=f) hR)
   have hfin:=A8 (Ca (f:=f) hS2.below (Aa w.heap.size))
   clear hR hS2 hO
   dsimp only [st12] at y0 y1 y2 y3 y4 y5 y6 y7 y8 y9 y10 y11 hfin
   go_wp2
   exact bodyPost_ret (v:=.agg (wc f)) (by simp [results,Tryz.results75,go_sem,y0,y1,y2,y3,y4,y5,y6,y7,y8,y9,y10,y11]) rfl ⟨rfl,hfin.out⟩
end
section
open Go.RowKit
theorem CM {B:Nat} {t:TypeId}:∀ (vs:List Value) (o:Nat) {W:World} {cs:Array Value},Blk W B cs t→∃ ds,Blk (W.setCells B o vs) B ds t∧ds.size=cs.size∧∀ j,j<cs.size→ds[j]? = if o≤j∧j<o+vs.length then vs[j-o]? else cs[j]?
 | [],o,W,cs,h=>⟨cs,h,rfl,fun j _=>by rw [if_neg (by simp)]⟩
 | v :: vs,o,W,cs,h=>by
  obtain ⟨ds,h1,h2,h3⟩:=CM vs (o+1) (h.set o v)
  rw [Array.size_setIfInBounds] at h2 h3
  refine ⟨ds,h1,h2,fun j hj=>?_⟩
  rw [h3 j hj]
  by_cases e:j=o
  ·subst e
   rw [if_neg (by omega),if_pos ⟨Aa _,by simp⟩,Nat.sub_self,Array.getElem?_setIfInBounds_self_of_lt hj]
   rfl
  ·by_cases c:o+1≤j∧j<o+1+vs.length
   ·rw [if_pos c,if_pos ⟨by omega,by rw [List.length_cons];omega⟩]
    obtain ⟨k,rfl⟩:∃ k,j=o+1+k:=⟨j-(o+1),by omega⟩
    rw [show o+1+k-(o+1)=k by omega,show o+1+k-o=k+1 by omega,List.getElem?_cons_succ]
   ·rw [if_neg c,if_neg (by rw [List.length_cons];omega),Array.getElem?_setIfInBounds_ne (by omega)]
theorem Ag {B:Nat}:∀ (vs:List Value) (o:Nat) (W:World),Only [B] W (W.setCells B o vs)
 | [],_,W=>Only.refl _ W
 | v :: vs,o,W=>((Only.refl [B] W).setCell (p:=⟨B,o,none⟩) (by simp) v).trans (Ag vs (o+1) _)
theorem BL.row {w W:World} {A C:BLs} {B:Nat} {cs ds:Array Value} {t:TypeId} (hO:Asc w (A++(B,cs,t) :: C)) (h:BL w (A++(B,cs,t) :: C) W) (o:Nat) (vs:List Value)
  (hs:ds.size=cs.size) (hd:∀ j,j<cs.size→ds[j]? = if o≤j∧j<o+vs.length then vs[j-o]? else cs[j]?) :
  BL w (A++(B,ds,t) :: C) (W.setCells B o vs):=by
 have h1:=(h.drop (M:=A++C) (fun p hp=>by
  rcases List.mem_append.1 hp with h1 | h1
  ·exact List.mem_append_left _ h1
  ·exact List.mem_append_right _ (List.mem_cons_of_mem _ h1))).only (Ag vs o W) (by simpa using hO.base) (fun p hp=>by simpa using hO.ne p hp)
 obtain ⟨es,b1,b2,b3⟩:=CM vs o (h.blks (B,cs,t) (List.mem_append_right _ List.mem_cons_self))
 have e:es=ds:=Array.ext_getElem? fun j=>by
  by_cases hj:j<cs.size
  ·rw [b3 j hj,hd j hj]
  ·rw [Array.getElem?_eq_none (by rw [b2];exact Nat.le_of_not_lt hj),Array.getElem?_eq_none (by omega)]
 subst e
 refine ⟨h1.below,fun p hp=>?_⟩
 rcases List.mem_append.1 hp with h2 | h2
 ·exact h1.blks p (List.mem_append_left _ h2)
 ·rcases List.mem_cons.1 h2 with rfl | h2
  ·exact b1
  ·exact h1.blks p (List.mem_append_right _ h2)
theorem BL.rowAll {w W:World} {A C:BLs} {B:Nat} {cs:Array Value} {t:TypeId} (hO:Asc w (A++(B,cs,t) :: C)) (h:BL w (A++(B,cs,t) :: C) W) (vs:List Value) (hs:vs.length=cs.size) :
  BL w (A++(B,vs.toArray,t) :: C) (W.setCells B 0 vs) :=
 BL.row hO h 0 vs (by simpa using hs) fun j hj=>by rw [if_pos ⟨Nat.zero_le _,by omega⟩,Nat.sub_zero];simp
theorem BL.range {w W:World} {L:BLs} (h:BL w L W) (B:Nat) (vs:List Value) (t:TypeId) (hm:(B,vs.toArray,t)∈L):W.rangeAt B 0 vs:=fun j v hv=>by
 rw [Nat.zero_add,h.cell B _ t hm];simpa using hv
theorem BL.there {w W:World} {L:BLs} (h:BL w L W) (B:Nat) (cs:Array Value) (t:TypeId) (hm:(B,cs,t)∈L) (n:Nat) (hn:n=cs.size):W.there B 0 n:=fun j hj=>by
 rw [Nat.zero_add,h.cell B _ t hm,h.frozen B _ t hm]
 exact ⟨by rw [Array.getElem?_eq_getElem (by omega)];rfl,rfl⟩
def wl (f:Nat→Int):List Value:=[.int .u64 (f 0),.int .u64 (f 1),.int .u64 (f 2),.int .u64 (f 3),.int .u64 (f 4),.int .u64 (f 5),.int .u64 (f 6),.int .u64 (f 7),.int .u64 (f 8),.int .u64 (f 9),.int .u64 (f 10),.int .u64 (f 11)]
theorem Aw (f:Nat→Int):(wl f).toArray=wc f:=rfl
theorem E3 (f:Nat→Int):(wl f).length=12:=rfl
theorem Dn (f:Nat→Int):∀ v∈wl f,v.oneCell'=true:=by simp [wl,Value.oneCell']
theorem Cr (W:World) (B:Nat) (f:Nat→Int):W.setCells B 0 (wl f)=st12 W B f:=rfl
end
section
section
variable {P:Program} {md:Region.Mode} {ops:Array Oper} {Q:Exit→Act→World→Prop} {S:World→Prop} {st:Nat}
def AnyBut (P:Program) (md:Region.Mode) (ops:Array Oper) (Q:Exit→Act→World→Prop) (S:World→Prop) (st:Nat):Nat→Array Bool→Act→World→Prop
 | 0,l,a,w=>Region.ready md ops l=[]∧Q .normal a w
 | n+1,l,a,w=>(Region.ready md ops l=[]→Q .normal a w)∧∀ j∈Region.ready md ops l,wpOp P ops Q j (fun a' w'=>(j≠st→S w')∧AnyBut P md ops Q S st n (l.setIfInBounds j true) a' w') a w
theorem AnyBut.any:∀ {n:Nat} {l:Array Bool} {a:Act} {w:World},AnyBut P md ops Q S st n l a w→wpAny P md ops Q n l a w
 | 0,_,_,_,h=>h
 | _+1,_,_,_,h=>⟨h.1,fun j hj=>wpOp_mono (fun _ _ hk=>hk.2.any) (h.2 j hj)⟩
theorem AnyBut.start {id:Nat} {a:Act} {w:World} (hm:P.follows .mixedOrders=true) (h:AnyBut P .any ops Q S st ops.size (Array.replicate ops.size false) a w.drew):(Code.region id ops true).wp P Q a w :=
 wp_region_any hm h.any
theorem AnyBut.first {i:Nat} {oi os:Oper} {v:Value} (hi:ops[i]? = some oi) (hst:ops[st]? = some os) (hw:os.after.any (fun e=>Region.binds md e&&e.on==i)=true) (hsel:Region.noSelect ops=true)
  (hQ:∀ c a w,Q (.panic c) (a.put oi.dst v) w→Q (.panic c) a w):∀ (n:Nat) (l:Array Bool) (a:Act) (w:World),
  (∀ j oj,ops[j]? = some oj→j≠i→l.getD j true=false→(∀ e∈oj.after,Region.binds md e=true→e.on≠i)→oi.apart ops oj=true) →
  i∈Region.ready md ops l→YieldsIf P ops S oi v a→S w→i≠st →
  AnyBut P md ops Q S st n (l.setIfInBounds i true) (a.put oi.dst v) w→AnyBut P md ops Q S st (n+1) l a w:=by
 intro n
 induction n with
 | zero =>
  intro l a w _ hr hy hS _ H
  refine ⟨fun h=>(by rw [h] at hr;cases hr),fun j hj=>?_⟩
  by_cases e:j=i
  ·subst e;exact hy.wpOp hi hS ⟨fun _=>hS,H⟩
  ·have:=ready_mono hj e
   rw [H.1] at this
   cases this
 | succ n ih =>
  intro l a w hf hr hy hS his H
  refine ⟨fun h=>(by rw [h] at hr;cases hr),fun j hj=>?_⟩
  by_cases e:j=i
  ·subst e;exact hy.wpOp hi hS ⟨fun _=>hS,H⟩
  ·obtain ⟨un,oj,hoj,hall⟩:=mem_ready.1 hj
   have un0:=(mem_ready.1 hr).1
   have hno:∀ x∈oj.after,Region.binds md x=true→x.on≠i:=fun x hx hb ex=>by
    have l1:=hall x hx hb
    rw [ex] at l1
    rcases Nat.lt_or_ge i l.size with c | c
    ·simp [c] at un0 l1;rw [un0] at l1;cases l1
    ·simp [Array.getElem?_eq_none c] at l1
   have hjs:j≠st:=fun ejs=>by
    subst ejs
    rw [hst] at hoj
    obtain rfl:=Option.some.inj hoj
    obtain ⟨x,hx,hb⟩:=Array.any_eq_true'.1 hw
    simp only [Bool.and_eq_true,beq_iff_eq] at hb
    exact hno x hx hb.1 hb.2
   have h2:=wpOp_putIf hoj (hf j oj hoj e un hno) (fun cs b=>Region.noSelect_spec hsel i oi cs b hi) (fun cs b=>Region.noSelect_spec hsel j oj cs b hoj) hQ hy (H.2 j (ready_mono hj e))
   refine wpOp_mono (fun a' w' h3=>⟨h3.2.1,ih _ a' w' (fun k ok hk hki hun hn=>hf k ok hk hki ?_ hn) (ready_mono hr (Ne.symm e)) h3.1 (h3.2.1 hjs) his ?_⟩) h2
   ·by_cases ejk:j=k
    ·subst ejk;exact un
    ·rw [getD_set_ne true ejk] at hun;exact hun
   ·rw [Array.setIfInBounds_comm _ _ e];exact h3.2.2
theorem AnyBut.take {i:Nat} {oi os:Oper} {v:Value} {n:Nat} {l:Array Bool} {a:Act} {w:World} (hi:ops[i]? = some oi) (hst:ops[st]? = some os)
  (hw:os.after.any (fun e=>Region.binds md e&&e.on==i)=true) (hsel:Region.noSelect ops=true) (hf:Region.free md ops l i=true) (hr:(Region.ready md ops l).contains i=true) (his:i≠st)
  (hQ:∀ c a w,Q (.panic c) (a.put oi.dst v) w→Q (.panic c) a w) (hS:S w) (hy:YieldsIf P ops S oi v a)
  (h:AnyBut P md ops Q S st n (l.setIfInBounds i true) (a.put oi.dst v) w):AnyBut P md ops Q S st (n+1) l a w :=
 AnyBut.first hi hst hw hsel hQ n l a w (Region.free_spec hi hf) (by simpa using hr) hy hS his h
theorem AnyBut.one {i:Nat} {o:Oper} {n:Nat} {l:Array Bool} {a:Act} {w:World} (hr:Region.ready md ops l=[i]) (ho:ops[i]? = some o)
  (h:∀ K':Act→World→Prop,Shut (∀ a w,(i≠st→S w)→AnyBut P md ops Q S st n (l.setIfInBounds i true) a w→K' a w)→if Region.wanted o (yielded ops a.tmps)=true then Oper.wp P o a w K' Q else K' (a.put o.dst undef) w) :
  AnyBut P md ops Q S st (n+1) l a w :=
 ⟨fun h0=>(by rw [hr] at h0;cases h0),fun j hj=>by
  rw [hr] at hj
  obtain rfl:=List.mem_singleton.1 hj
  exact wpOp_step ho (fun K' hK=>h K' (fun a w h1 h2=>hK a w ⟨h1,h2⟩))⟩
theorem AnyBut.done {l:Array Bool} {a:Act} {w:World} (hr:Region.ready md ops l=[]) (h:Q .normal a w):∀ n,AnyBut P md ops Q S st n l a w
 | 0=>⟨hr,h⟩
 | _+1=>⟨fun _=>h,by rw [hr];simp⟩
end
section
variable {P:Program} {md:Region.Mode} {ops:Array Oper} {Q:Exit→Act→World→Prop} {S:World→Prop}
theorem tkY (i:Nat) (v:Value) {oi:Oper} {fuel:Nat} {listed:Array Bool} {a:Act} {w:World} (hi:ops[i]? = some oi) (hy:YieldsIf P ops S oi v a) (hS:S w) (h:wpAnyH P md ops Q S fuel (listed.setIfInBounds i true) (a.put oi.dst v) w)
 (hs:Region.noSelect ops=true:=by kernel_rfl) (hf:Region.free md ops listed i=true:=by kernel_rfl) (hr:(Region.ready md ops listed).contains i=true:=by kernel_rfl) (hQ:∀ c a w,Q (.panic c) (a.put oi.dst v) w→Q (.panic c) a w:=by exact fun _ _ _ h=>h) :
 wpAnyH P md ops Q S (fuel+1) listed a w:=wpAnyH_take hi hs hf hr hQ hy hS h
theorem tkV (i:Nat) (v:Value) {oi:Oper} {fuel:Nat} {listed:Array Bool} {a:Act} {w:World} (hy:∀ w,S w→(execOp a.eval oi).run P w=.ok (.value v) w) (hS:S w) (h:wpAnyH P md ops Q S fuel (listed.setIfInBounds i true) (a.put oi.dst v) w)
 (hi:ops[i]? = some oi:=by rfl) (hw:Region.wanted oi (yielded ops a.tmps)=true:=by rfl) (hs:Region.noSelect ops=true:=by kernel_rfl) (hf:Region.free md ops listed i=true:=by kernel_rfl) (hr:(Region.ready md ops listed).contains i=true:=by kernel_rfl) (hQ:∀ c a w,Q (.panic c) (a.put oi.dst v) w→Q (.panic c) a w:=by exact fun _ _ _ h=>h) :
 wpAnyH P md ops Q S (fuel+1) listed a w:=wpAnyH_take hi hs hf hr hQ (.inl ⟨hw,hy⟩) hS h
end
end
section
open Go.RowKit
def SlG {α:Type} (k:Nat) (C:World→Nat→Nat→α→Prop) (W:World) (v:Value) (l:List α):Prop :=
 (v=.slice none 0 0∧l=[])∨∃ b off cap,v=.slice (some ⟨b,off,none⟩) l.length cap∧l.length≤cap∧cap≤maxLen∧b<W.heap.size∧∀ j x,l[j]? = some x→C W b (off+j*k) x
def Stable {α:Type} (C:World→Nat→Nat→α→Prop):Prop:=∀ {W W':World} {b o:Nat} {x:α},b<W.heap.size→Below W.heap.size W W'→C W b o x→C W' b o x
theorem SlG.nil {α:Type} {k:Nat} {C:World→Nat→Nat→α→Prop} (W:World):SlG k C W (.slice none 0 0) []:=.inl ⟨rfl,rfl⟩
theorem SlG.shape {α:Type} {k:Nat} {C:World→Nat→Nat→α→Prop} {W:World} {v:Value} {l:List α} (h:SlG k C W v l):∃ a cap,v=.slice a l.length cap:=by
 rcases h with ⟨rfl,rfl⟩ | ⟨b,off,cap,rfl,_⟩
 ·exact ⟨_,_,rfl⟩
 ·exact ⟨_,_,rfl⟩
theorem SlG.below {α:Type} {k:Nat} {C:World→Nat→Nat→α→Prop} (hC:Stable C) {W W':World} {v:Value} {l:List α} (h:SlG k C W v l) (hb:Below W.heap.size W W'):SlG k C W' v l:=by
 rcases h with h | ⟨b,off,cap,rfl,h1,h2,h3,h4⟩
 ·exact .inl h
 ·exact .inr ⟨b,off,cap,rfl,h1,h2,A9 h3 hb.size,fun j x hj=>hC h3 hb (h4 j x hj)⟩
theorem SlG.len_le {α:Type} {k:Nat} {C:World→Nat→Nat→α→Prop} {W:World} {v:Value} {l:List α} (h:SlG k C W v l):l.length≤maxLen:=by
 rcases h with ⟨_,rfl⟩ | ⟨_,_,_,_,h1,h2,_⟩
 ·simp
 ·exact Nat.le_trans h1 h2
theorem SlG.take {α:Type} {k:Nat} {C:World→Nat→Nat→α→Prop} {W:World} {b off cap:Nat} {l:List α} (h1:l.length≤cap) (h2:cap≤maxLen) (h3:b<W.heap.size)
  (h4:∀ j x,l[j]? = some x→C W b (off+j*k) x) {n:Nat} (hn:n≤l.length):SlG k C W (.slice (some ⟨b,off,none⟩) n cap) (l.take n):=by
 refine .inr ⟨b,off,cap,by rw [List.length_take,Nat.min_eq_left hn],by rw [List.length_take,Nat.min_eq_left hn];omega,h2,h3,fun j x hj=>h4 j x ?_⟩
 rw [List.getElem?_take] at hj
 split at hj
 ·exact hj
 ·cases hj
theorem SlG.ptr_lt {α:Type} {k:Nat} {C:World→Nat→Nat→α→Prop} {W:World} {v:Value} {l:List α} (h:SlG k C W v l):∀ b o,v.ptr? = some (b,o)→b<W.heap.size:=by
 intro b o e
 rcases h with ⟨rfl,_⟩ | ⟨b',off,cap,rfl,h1,h2,h3,h4⟩
 ·cases e
 ·cases e;exact h3
theorem SlG.of_own {α:Type} {k:Nat} {C:World→Nat→Nat→α→Prop} {W:World} {base:Nat} {e:TypeId} {v:Value} {n:Nat} {cs:List Value} {l:List α} (h:W.ownsRow base e k v n cs) (hn:n=l.length)
  (hC:∀ b,b<W.heap.size→(∀ i x,cs[i]? = some x→W.cell? ⟨b,i,none⟩=some x)→∀ j x,l[j]? = some x→C W b (j*k) x):SlG k C W v l:=by
 rcases h.2 with ⟨rfl,h0⟩ | ⟨g,cap,cur,rfl,hb,hg,hn',hm,hs,ht⟩
 ·subst hn
  exact .inl ⟨rfl,List.eq_nil_of_length_eq_zero h0⟩
 ·subst hn
  refine .inr ⟨g,0,cap,rfl,hn',hm,(Array.getElem?_eq_some_iff.1 hg).1,fun j x hj=>?_⟩
  rw [Nat.zero_add]
  refine hC g (Array.getElem?_eq_some_iff.1 hg).1 (fun i y hi=>?_) j x hj
  have hc:=h.cells (g:=g) rfl i y hi
  have hadd:(⟨g,0,none⟩:Addr).add i=⟨g,0+i,none⟩:=by unfold Addr.add;split <;> simp_all
  rwa [hadd,Nat.zero_add] at hc
def CStr (W:World) (b o:Nat) (s:ByteArray):Prop:=W.cell? ⟨b,o,none⟩=some (.string s)
theorem CStr.stable:Stable CStr:=fun h hb hc=>(hb.cell (p:=⟨_,_,none⟩) h).trans hc
abbrev SlS (W:World) (v:Value) (l:List ByteArray):Prop:=SlG 1 CStr W v l
theorem SlS.below {W W':World} {v:Value} {l:List ByteArray} (h:SlS W v l) (hb:Below W.heap.size W W'):SlS W' v l:=SlG.below (C:=CStr) (fun h1 h2 h3=>CStr.stable h1 h2 h3) h hb
theorem SlS.of_own {W:World} {base:Nat} {e:TypeId} {v:Value} {n:Nat} {l:List ByteArray} (h:W.ownsRow base e 1 v n (l.map Value.string)):SlS W v l :=
 SlG.of_own h (by have:=h.1;simpa using this.symm) fun b _ hc j x hj=>by
  rw [Nat.mul_one];exact hc j _ (by rw [List.getElem?_map,hj];rfl)
def CEq (W:World) (b o:Nat) (x:List Int×Int):Prop:=∃ v,W.cell? ⟨b,o,none⟩=some v∧Sl W v x.1∧W.cell? ⟨b,o+1,none⟩=some (.int .i64 x.2)
theorem CEq.stable:Stable CEq:=fun h hb ⟨v,h1,h2,h3⟩=>⟨v,(hb.cell (p:=⟨_,_,none⟩) h).trans h1,h2.below hb,(hb.cell (p:=⟨_,_,none⟩) h).trans h3⟩
abbrev SlE (W:World) (v:Value) (l:List (List Int×Int)):Prop:=SlG 2 CEq W v l
theorem SlE.below {W W':World} {v:Value} {l:List (List Int×Int)} (h:SlE W v l) (hb:Below W.heap.size W W'):SlE W' v l:=SlG.below (C:=CEq) (fun h1 h2 h3=>CEq.stable h1 h2 h3) h hb
end
section
open Go.RowKit
attribute [local go_sem] Oper.semAt_some
theorem CN {b:Nat} {w w':World} (h:Wrote b b w w') (hb:b≤w.heap.size):Below b w w' :=
 ⟨h.os,h.tape,h.output,h.size,fun k hk=>by
  by_cases hkw:k<w.heap.size
  ·exact h.block k hk hkw (by omega)
  ·exact absurd hkw (by omega)⟩
def catL (l:List ByteArray):List UInt8:=l.flatMap fun s=>s.data.toList
theorem G6 (s:ByteArray) (l:List ByteArray):catL (s :: l)=s.data.toList++catL l:=by simp [catL]
theorem E4 {l:List ByteArray} {j:Nat} {s:ByteArray} (h:l[j]? = some s):catL (l.take (j+1))=catL (l.take j)++s.data.toList:=by
 unfold catL
 rw [List.take_add_one,h]
 simp
theorem Ia {l:List ByteArray} (h:∀ s∈l,s.size≤1000):(catL l).length≤1000*l.length:=by
 induction l with
 | nil=>simp [catL]
 | cons s l ih =>
  have h1:=h s List.mem_cons_self
  have h2:=ih fun x hx=>h x (List.mem_cons_of_mem _ hx)
  have h3:s.data.toList.length=s.size:=by rw [Array.length_toList];rfl
  rw [G6,List.length_append,List.length_cons,h3]
  omega
theorem LP (v:Value) (l:List ByteArray) (w:World) (h:SlS w v l) (h1:1≤l.length) (hl:l.length≤50) (hs:∀ s∈l,s.size≤1000) :
  Calls Tryz.prog 83 #[v,.string ⟨#[]⟩] w fun e w'=>e=.returned (.string ⟨(catL l).toArray⟩)∧Below w.heap.size w w':=by
 rcases h with ⟨rfl,rfl⟩ | ⟨S,off,cap,rfl,q1,q2,hS,hc⟩
 ·simp at h1
 have hc':∀ k:Nat,k<l.length→∃ s:ByteArray,l[k]? = some s∧w.cell? ⟨S,off+k,none⟩=some (.string s)∧s.size≤1000:=fun k hk=>by
  obtain ⟨s,e⟩:∃ s,l[k]? = some s:=⟨l[k],List.getElem?_eq_getElem hk⟩
  have:=hc k s e
  rw [Nat.mul_one] at this
  exact ⟨s,e,this,hs s (List.mem_of_getElem? e)⟩
 clear hc
 have hc:=A8 hc'
 clear hc'
 obtain ⟨n,hn⟩:∃ n,n=l.length:=⟨_,rfl⟩
 rw [←hn] at h1 hl q1 hc ⊢
 by_cases hone:n=1
 ·obtain ⟨s,e,d0,hs0⟩:=hc.out 0 (by omega)
  have hcat:catL l=s.data.toList:=by
   have:=E4 e
   rw [List.take_of_length_le (by omega)] at this
   rw [this];simp [catL]
  rw [hcat]
  have hb:(⟨s.data.toList.toArray⟩:ByteArray)=s:=rfl
  rw [hb]
  subst hone
  rw [Nat.add_zero] at d0
  clear hn hcat hb hs hc
  unfold maxLen at q2
  go_enter Tryz.func83,Tryz.ntmps83
  go_wp2
  go_ret
  exact ⟨rfl,Below.refl _ _⟩
 ·have n2:(2:Int)≤n:=by omega
  have n0:¬ (n:Int)=0:=by omega
  have n1:¬ (n:Int)=1:=by omega
  have h1':(1:Int)≤n:=by omega
  have hcap:(n:Int)≤cap:=by omega
  have hw1:IntKind.i64.wrap ((n:Int)-1)=((n-1:Nat):Int):=by rw [IntWalk.i64_in _ (by omega)];omega
  unfold maxLen at q2
  replace hn:=A8 hn
  have hcap2:(2:Int)≤cap:=by omega
  go_enter Tryz.func83,Tryz.ntmps83
  go_wp2_with fail
  go_loop [5,41] (fun n' i=>∃ (k:Nat) (m:Int),n'=.int .i64 m∧i=.int .i64 k∧k≤n∧0≤m∧m≤1000*k) (fun _ i=>n-(intOf i).toNat)
  case atStart=>exact ⟨0,0,rfl,rfl,by omega,by omega,by omega⟩
  case round =>
   obtain ⟨k,m,rfl,rfl,hk,hm0,hm1⟩:=hrel
   by_cases hlt:k<n
   ·obtain ⟨s,_,d0,hs0⟩:=hc.out k hlt
    have hi0:(0:Int)≤(k:Int):=by omega
    have hi1:(k:Int)<n:=by omega
    go_wp2_with fail
    go_round
    case rel=>exact ⟨k+1,m+s.size,rfl,by go_num,by omega,by omega,by omega⟩
    case measure=>simp [intOf];omega
   ·have hk2:¬ (k:Int)<n:=by omega
    have hm2:m≤50000:=by omega
    obtain ⟨q,rfl⟩:=Int.eq_ofNat_of_zero_le hm0
    have hB0:Below w.heap.size w (w.alloc (.cells #[.pointer none,.slice none 0 0] 140)):=(Below.refl _ _).alloc (Aa _) _
    have G:=Tryz.Builder_Grow_fresh w.heap.size w.heap.size q (w.alloc (.cells #[.pointer none,.slice none 0 0] 140)) (Aa _) (World.alloc_heap_new w _) (by simp) (by omega)
    have G:=A8 G
    go_wp2_with fail
    refine G.out.mono ?_
    rintro e w1 ⟨rfl,hbd,hb1⟩
    have hB1:=hB0.trans hb1
    have hbld:Bld w.heap.size w.heap.size [] w1:=by
     obtain ⟨_,v,h1,h2,_⟩:=hbd
     exact ⟨_,v,h1,.inr rfl,h2⟩
    clear G hbd hb1 hB0
    obtain ⟨s0,e0,d0,z0⟩:=hc.out 0 (by omega)
    replace d0:=(hB1.cell (p:=⟨S,off+0,none⟩) hS).trans d0
    rw [Nat.add_zero] at d0
    go_wp2_with fail
    refine (AR hbld s0 (by simp;omega) hB1.size).mono ?_
    rintro e w2 ⟨rfl,hb2,hw2⟩
    have hB2:=hB1.trans (CN hw2 hB1.size)
    have ht1:[]++s0.data.toList=catL (l.take (0+1)):=by rw [E4 e0];simp [catL]
    rw [ht1] at hb2
    clear hbld hw2 hB1 d0 ht1 e0 z0
    go_upto_region 22 with fail
    go_loopw [65] (fun i wr=>∃ j:Nat,i=.int .i64 j∧j+1≤n∧Bld w.heap.size w.heap.size (catL (l.take (j+1))) wr∧Below w.heap.size w wr) (fun i _=>n-(intOf i).toNat)
    case atStart=>exact ⟨0,rfl,by omega,hb2,hB2⟩
    case round =>
     clear hb2 hB2
     obtain ⟨j,rfl,hj,hbd,hB⟩:=hrel
     by_cases hj0:j+1<n
     ·obtain ⟨s1,e1,d1,z1⟩:=hc.out (j+1) (by omega)
      replace d1:=(hB.cell (p:=⟨S,off+(j+1),none⟩) hS).trans d1
      rw [←Nat.add_assoc,Nat.add_right_comm] at d1
      have hlen:(catL (l.take (j+1))).length≤1000*(j+1):=Nat.le_trans (Ia (fun s hs'=>hs s (List.mem_of_mem_take hs'))) (Nat.mul_le_mul_left _ (by rw [List.length_take];omega))
      have hi0:(0:Int)≤(j:Int):=by omega
      have hi1:(j:Int)<((n-1:Nat):Int):=by omega
      have ht:=E4 e1
      go_wp2_with fail
      refine (AR hbd ⟨#[]⟩ (by show _+0≤_;omega) hB.size).mono ?_
      rintro e w3 ⟨rfl,hb3,hw3⟩
      have hB3:=hB.trans (CN hw3 hB.size)
      rw [show (⟨#[]⟩:ByteArray).data.toList=[] from rfl,List.append_nil] at hb3
      clear hbd hw3 hB d1
      go_wp2_with fail
      refine (AR hb3 s1 (by omega) hB3.size).mono ?_
      rintro e w4 ⟨rfl,hb4,hw4⟩
      have hB4:=hB3.trans (CN hw4 hB3.size)
      rw [←ht] at hb4
      clear hb3 hw4 hB3 ht
      go_wp2_with fail
      go_roundw
      case rel=>exact ⟨j+1,by go_num,by omega,hb4,hB4⟩
      case measure=>simp [intOf];omega
     ·have hi1:¬ (j:Int)<((n-1:Nat):Int):=by omega
      have hall:l.take (j+1)=l:=List.take_of_length_le (by have:=hn.out;omega)
      rw [hall] at hbd
      clear hall
      go_wp2_with fail
      refine (CF hbd (Aa _) hB.size).mono ?_
      rintro e w3 ⟨rfl,hb3,_⟩
      have hB3:=hB.trans hb3
      go_wp2
      go_ret
      exact ⟨rfl,hB3⟩
theorem ER {α:Type} {l:List α} {k:Nat} (p:α→Bool) (h:k<l.length):(l.drop k).any p=(p l[k] || (l.drop (k+1)).any p):=by rw [List.drop_eq_getElem_cons h,List.any_cons]
theorem J9 (v:Value) (l:List ByteArray) (g:Nat) (lb:Array Value) (p:ByteArray→Bool) (w:World) (h:SlS w v l)
  (hE:∀ (args:Array Value) (w:World),(callFunc g args).run Tryz.prog w=.ok (.enter g args) w)
  (hF:∀ (W:World) (x:ByteArray),x∈l→Below w.heap.size w W→Calls Tryz.prog g (#[.string x]++lb) W fun e W'=>e=.returned (.bool (p x))∧Below W.heap.size W W') :
  Calls Tryz.prog 106 #[v,.func (.func g) #[] lb] w fun e w'=>(∃ z:Int,e=.returned (.int .i64 z)∧-1≤z∧(0≤z↔l.any p=true))∧Below w.heap.size w w':=by
 have hl:l.length≤maxLen:=h.len_le
 unfold maxLen at hl
 rcases h with ⟨rfl,rfl⟩ | ⟨b,off,cap,rfl,h1,h2,h3,h4⟩
 ·go_enter Tryz.func106,Tryz.ntmps106
  go_wp2_with fail
  go_loopw [8] (fun i wr=>i=.int .i64 0∧wr=w) (fun _ _=>0)
  case atStart=>exact ⟨rfl,rfl⟩
  case round =>
   obtain ⟨rfl,rfl⟩:=hrel
   go_wp2
   go_ret
   exact ⟨⟨-1,rfl,by omega,by simp⟩,Below.refl _ _⟩
 ·go_enter Tryz.func106,Tryz.ntmps106
  go_wp2_with fail
  go_loopw [8] (fun i wr=>∃ (k:Nat),i=.int .i64 k∧k≤l.length∧Hid (l.any p=(l.drop k).any p)∧Below w.heap.size w wr)
   (fun i _=>l.length-(intOf i).toNat)
  case atStart=>exact ⟨0,rfl,by omega,rfl,Below.refl _ _⟩
  case round =>
   obtain ⟨k,rfl,hk,hp,hB⟩:=hrel
   by_cases hkl:k<l.length
   ·have c0:wr.cell? ⟨b,off+k,none⟩=some (.string l[k]):=by
     have:=h4 k _ (List.getElem?_eq_getElem hkl)
     rw [Nat.mul_one] at this
     exact (hB.cell (p:=⟨_,_,none⟩) h3).trans this
    rw [ER p hkl] at hp
    have hFk:=hF wr l[k] (List.getElem_mem hkl) hB
    cases hpk:p l[k] with
    | true =>
     replace hp:=A8 (show l.any p=true by rw [hp.out,hpk] <;> rfl)
     rw [hpk] at hFk
     clear hpk
     replace hFk:=A8 hFk
     generalize l[k]=x at *
     go_wp2_with fail
     refine hFk.out.mono ?_
     rintro e W' ⟨rfl,hb⟩
     go_wp2
     go_ret
     exact ⟨⟨k,rfl,by omega,by rw [hp.out];simp⟩,Ad hb hB (Aa _)⟩
    | false =>
     replace hp:=A8 (show l.any p=(l.drop (k+1)).any p by rw [hp.out,hpk] <;> rfl)
     rw [hpk] at hFk
     clear hpk
     replace hFk:=A8 hFk
     generalize l[k]=x at *
     go_wp2_with fail
     refine hFk.out.mono ?_
     rintro e W' ⟨rfl,hb⟩
     go_wp2_with fail
     go_roundw
     case rel=>exact ⟨k+1,by go_num,by omega,hp,Ad hb hB (Aa _)⟩
     case measure=>simp [intOf];omega
   ·have hp:=A8 (show l.any p=false by rw [hp.out,List.drop_eq_nil_of_le (by omega)];rfl)
    go_wp2
    go_ret
    exact ⟨⟨-1,rfl,by omega,by rw [hp.out];simp⟩,hB⟩
theorem Dd (v:Value) (l:List ByteArray) (g:Nat) (lb:Array Value) (p:ByteArray→Bool) (w:World) (h:SlS w v l)
  (hE:∀ (args:Array Value) (w:World),(callFunc g args).run Tryz.prog w=.ok (.enter g args) w)
  (hF:∀ (W:World) (x:ByteArray),x∈l→Below w.heap.size w W→Calls Tryz.prog g (#[.string x]++lb) W fun e W'=>e=.returned (.bool (p x))∧Below W.heap.size W W') :
  Calls Tryz.prog 68 #[v,.func (.func g) #[] lb] w fun e w'=>e=.returned (.bool (l.any p))∧Below w.heap.size w w':=by
 have hI:=A8 (J9 v l g lb p w h hE hF)
 go_enter Tryz.func68,Tryz.ntmps68
 go_wp2_with fail
 refine hI.out.mono ?_
 rintro e w' ⟨⟨z,rfl,hz0,hz⟩,hb⟩
 replace hz:=A8 (show decide (0≤z)=l.any p by cases hc:l.any p <;> simp [hc] at hz ⊢ <;> omega)
 go_wp2
 go_ret
 exact ⟨Ae hz.out,hb⟩
theorem Ja (v:Value) (l:List Int) (g:Nat) (lb:Array Value) (p:Int→Bool) (w:World) (h:Sl w v l)
  (hE:∀ (args:Array Value) (w:World),(callFunc g args).run Tryz.prog w=.ok (.enter g args) w)
  (hF:∀ (W:World) (x:Int),x∈l→Below w.heap.size w W→Calls Tryz.prog g (#[.int .i64 x]++lb) W fun e W'=>e=.returned (.bool (p x))∧Below W.heap.size W W') :
  Calls Tryz.prog 86 #[v,.func (.func g) #[] lb] w fun e w'=>(∃ z:Int,e=.returned (.int .i64 z)∧-1≤z∧(0≤z↔l.any p=true))∧Below w.heap.size w w':=by
 have hl:l.length≤maxLen:=h.len_le
 unfold maxLen at hl
 rcases h with ⟨rfl,rfl⟩ | ⟨b,off,cap,rfl,h1,h2,h3,h4⟩
 ·go_enter Tryz.func86,Tryz.ntmps86
  go_wp2_with fail
  go_loopw [8] (fun i wr=>i=.int .i64 0∧wr=w) (fun _ _=>0)
  case atStart=>exact ⟨rfl,rfl⟩
  case round =>
   obtain ⟨rfl,rfl⟩:=hrel
   go_wp2
   go_ret
   exact ⟨⟨-1,rfl,by omega,by simp⟩,Below.refl _ _⟩
 ·go_enter Tryz.func86,Tryz.ntmps86
  go_wp2_with fail
  go_loopw [8] (fun i wr=>∃ (k:Nat),i=.int .i64 k∧k≤l.length∧Hid (l.any p=(l.drop k).any p)∧Below w.heap.size w wr)
   (fun i _=>l.length-(intOf i).toNat)
  case atStart=>exact ⟨0,rfl,by omega,rfl,Below.refl _ _⟩
  case round =>
   obtain ⟨k,rfl,hk,hp,hB⟩:=hrel
   by_cases hkl:k<l.length
   ·have c0:wr.cell? ⟨b,off+k,none⟩=some (.int .i64 l[k]):=by
     have:=h4 k hkl
     rw [Bo hkl] at this
     exact (hB.cell (p:=⟨_,_,none⟩) h3).trans this
    rw [ER p hkl] at hp
    have hFk:=hF wr l[k] (List.getElem_mem hkl) hB
    cases hpk:p l[k] with
    | true =>
     replace hp:=A8 (show l.any p=true by rw [hp.out,hpk] <;> rfl)
     rw [hpk] at hFk
     clear hpk
     replace hFk:=A8 hFk
     generalize l[k]=x at *
     go_wp2_with fail
     refine hFk.out.mono ?_
     rintro e W' ⟨rfl,hb⟩
     go_wp2
     go_ret
     exact ⟨⟨k,rfl,by omega,by rw [hp.out];simp⟩,Ad hb hB (Aa _)⟩
    | false =>
     replace hp:=A8 (show l.any p=(l.drop (k+1)).any p by rw [hp.out,hpk] <;> rfl)
     rw [hpk] at hFk
     clear hpk
     replace hFk:=A8 hFk
     generalize l[k]=x at *
     go_wp2_with fail
     refine hFk.out.mono ?_
     rintro e W' ⟨rfl,hb⟩
     go_wp2_with fail
     go_roundw
     case rel=>exact ⟨k+1,by go_num,by omega,hp,Ad hb hB (Aa _)⟩
     case measure=>simp [intOf];omega
   ·have hp:=A8 (show l.any p=false by rw [hp.out,List.drop_eq_nil_of_le (by omega)];rfl)
    go_wp2
    go_ret
    exact ⟨⟨-1,rfl,by omega,by rw [hp.out];simp⟩,hB⟩
theorem FJ (v:Value) (l:List Int) (g:Nat) (lb:Array Value) (p:Int→Bool) (w:World) (h:Sl w v l)
  (hE:∀ (args:Array Value) (w:World),(callFunc g args).run Tryz.prog w=.ok (.enter g args) w)
  (hF:∀ (W:World) (x:Int),x∈l→Below w.heap.size w W→Calls Tryz.prog g (#[.int .i64 x]++lb) W fun e W'=>e=.returned (.bool (p x))∧Below W.heap.size W W') :
  Calls Tryz.prog 46 #[v,.func (.func g) #[] lb] w fun e w'=>e=.returned (.bool (l.any p))∧Below w.heap.size w w':=by
 have hI:=A8 (Ja v l g lb p w h hE hF)
 go_enter Tryz.func46,Tryz.ntmps46
 go_wp2_with fail
 refine hI.out.mono ?_
 rintro e w' ⟨⟨z,rfl,hz0,hz⟩,hb⟩
 replace hz:=A8 (show decide (0≤z)=l.any p by cases hc:l.any p <;> simp [hc] at hz ⊢ <;> omega)
 go_wp2
 go_ret
 exact ⟨Ae hz.out,hb⟩
theorem Jb (v:Value) (l:List (List Int×Int)) (g:Nat) (lb:Array Value) (p:(List Int×Int)→Bool) (w:World) (h:SlE w v l)
  (hE:∀ (args:Array Value) (w:World),(callFunc g args).run Tryz.prog w=.ok (.enter g args) w)
  (hF:∀ (W:World) (x:(List Int×Int)) (v:Value),x∈l→Below w.heap.size w W→Sl W v x.1→Calls Tryz.prog g (#[.agg #[v,.int .i64 x.2]]++lb) W fun e W'=>e=.returned (.bool (p x))∧Below W.heap.size W W') :
  Calls Tryz.prog 85 #[v,.func (.func g) #[] lb] w fun e w'=>(∃ z:Int,e=.returned (.int .i64 z)∧-1≤z∧(0≤z↔l.any p=true))∧Below w.heap.size w w':=by
 have hl:l.length≤maxLen:=h.len_le
 unfold maxLen at hl
 rcases h with ⟨rfl,rfl⟩ | ⟨b,off,cap,rfl,h1,h2,h3,h4⟩
 ·go_enter Tryz.func85,Tryz.ntmps85
  go_wp2_with fail
  go_loopw [8] (fun i wr=>i=.int .i64 0∧wr=w) (fun _ _=>0)
  case atStart=>exact ⟨rfl,rfl⟩
  case round =>
   obtain ⟨rfl,rfl⟩:=hrel
   go_wp2
   go_ret
   exact ⟨⟨-1,rfl,by omega,by simp⟩,Below.refl _ _⟩
 ·go_enter Tryz.func85,Tryz.ntmps85
  go_wp2_with fail
  go_loopw [8] (fun i wr=>∃ (k:Nat),i=.int .i64 k∧k≤l.length∧Hid (l.any p=(l.drop k).any p)∧Below w.heap.size w wr)
   (fun i _=>l.length-(intOf i).toNat)
  case atStart=>exact ⟨0,rfl,by omega,rfl,Below.refl _ _⟩
  case round =>
   obtain ⟨k,rfl,hk,hp,hB⟩:=hrel
   by_cases hkl:k<l.length
   ·obtain ⟨cv,c0,hcs,c1⟩:=h4 k _ (List.getElem?_eq_getElem hkl)
    obtain ⟨ac,cp,rfl⟩:=hcs.shape
    replace c0:=(hB.cell (p:=⟨_,_,none⟩) h3).trans c0
    replace c1:=(hB.cell (p:=⟨_,_,none⟩) h3).trans c1
    rw [ER p hkl] at hp
    have hFk:=hF wr l[k] (.slice ac l[k].1.length cp) (List.getElem_mem hkl) hB (hcs.below hB)
    generalize l[k].1.length=lk at *
    cases hpk:p l[k] with
    | true =>
     replace hp:=A8 (show l.any p=true by rw [hp.out,hpk] <;> rfl)
     rw [hpk] at hFk
     clear hpk
     replace hFk:=A8 hFk
     generalize l[k]=x at *
     go_wp2_with fail
     refine hFk.out.mono ?_
     rintro e W' ⟨rfl,hb⟩
     go_wp2
     go_ret
     exact ⟨⟨k,rfl,by omega,by rw [hp.out];simp⟩,Ad hb hB (Aa _)⟩
    | false =>
     replace hp:=A8 (show l.any p=(l.drop (k+1)).any p by rw [hp.out,hpk] <;> rfl)
     rw [hpk] at hFk
     clear hpk
     replace hFk:=A8 hFk
     generalize l[k]=x at *
     go_wp2_with fail
     refine hFk.out.mono ?_
     rintro e W' ⟨rfl,hb⟩
     go_wp2_with fail
     go_roundw
     case rel=>exact ⟨k+1,by go_num,by omega,hp,Ad hb hB (Aa _)⟩
     case measure=>simp [intOf];omega
   ·have hp:=A8 (show l.any p=false by rw [hp.out,List.drop_eq_nil_of_le (by omega)];rfl)
    go_wp2
    go_ret
    exact ⟨⟨-1,rfl,by omega,by rw [hp.out];simp⟩,hB⟩
theorem De (v:Value) (l:List (List Int×Int)) (g:Nat) (lb:Array Value) (p:(List Int×Int)→Bool) (w:World) (h:SlE w v l)
  (hE:∀ (args:Array Value) (w:World),(callFunc g args).run Tryz.prog w=.ok (.enter g args) w)
  (hF:∀ (W:World) (x:(List Int×Int)) (v:Value),x∈l→Below w.heap.size w W→Sl W v x.1→Calls Tryz.prog g (#[.agg #[v,.int .i64 x.2]]++lb) W fun e W'=>e=.returned (.bool (p x))∧Below W.heap.size W W') :
  Calls Tryz.prog 44 #[v,.func (.func g) #[] lb] w fun e w'=>e=.returned (.bool (l.any p))∧Below w.heap.size w w':=by
 have hI:=A8 (Jb v l g lb p w h hE hF)
 go_enter Tryz.func44,Tryz.ntmps44
 go_wp2_with fail
 refine hI.out.mono ?_
 rintro e w' ⟨⟨z,rfl,hz0,hz⟩,hb⟩
 replace hz:=A8 (show decide (0≤z)=l.any p by cases hc:l.any p <;> simp [hc] at hz ⊢ <;> omega)
 go_wp2
 go_ret
 exact ⟨Ae hz.out,hb⟩
theorem Cq (n lo hi:Int) (w:World):Calls Tryz.prog 42 #[.int .i64 n,.int .i64 lo,.int .i64 hi] w (Rets w (.bool (decide (lo≤n)&&decide (n≤hi)))):=by
 go_enter Tryz.func42,Tryz.ntmps42
 by_cases h1:lo≤n
 ·by_cases h2:n≤hi
  ·go_wp2
   go_ret
   exact ⟨Ae (by simp [h1,h2]),Below.refl _ _⟩
  ·go_wp2
   go_ret
   exact ⟨Ae (by simp [h2]),Below.refl _ _⟩
 ·go_wp2
  go_ret
  exact ⟨Ae (by simp;omega),Below.refl _ _⟩
instance bdDec (k:Nat) (z:Int):Decidable (Bd k z):=by unfold Bd;infer_instance
def numB (s:ByteArray):Bool:=okS s&&decide (Bd 100 (zS s))
theorem Ew {s:ByteArray} (h:okS s=true):s.data.toList=Lib.itoa (zS s):=(Cj (l:=s.data.toList) h).1
theorem Dl {s:ByteArray} (h:okS s=true):∃ h0:0<s.size,(((s[0]).toNat:Int)==45)=decide (zS s<0):=by
 have e:=Ew h
 by_cases hz:zS s<0
 ·rw [BR hz] at e
  have h0:0<s.size:=by
   have:=congrArg List.length e
   rw [Array.length_toList,List.length_cons] at this
   show 0<s.data.size
   omega
  refine ⟨h0,?_⟩
  have hb:s[0]=45:=by
   show s.data[0]=45
   have:s.data.toList[0]? = some 45:=by rw [e];rfl
   rw [Array.getElem?_toList,Array.getElem?_eq_getElem h0] at this
   exact Option.some.inj this
  rw [hb];simp [hz]
 ·rw [Ao (by omega)] at e
  obtain ⟨b,r,hb,hne⟩:=BU (zS s).toNat
  rw [hb] at e
  have h0:0<s.size:=by
   have:=congrArg List.length e
   rw [Array.length_toList,List.length_cons] at this
   show 0<s.data.size
   omega
  refine ⟨h0,?_⟩
  have hb:s[0]=b:=by
   show s.data[0]=b
   have:s.data.toList[0]? = some b:=by rw [e];rfl
   rw [Array.getElem?_toList,Array.getElem?_eq_getElem h0] at this
   exact Option.some.inj this
  rw [hb,J5 hne];simp;omega
theorem num_pos {s:ByteArray} (h:okS s=true) (hz:¬ zS s<0):s.size≤100↔Bd 100 (zS s):=by
 have e:=congrArg List.length (Ew h)
 rw [Ao (by omega),Array.length_toList] at e
 have e2:s.size=(Lib.decDigits (zS s).toNat).length:=e
 have hn:(zS s).toNat=(zS s).natAbs:=by omega
 rw [e2,Bd.nat,hn]
 constructor
 ·intro h1
  refine Nat.lt_of_not_le fun h2=>?_
  have:=BC h2
  omega
 ·intro h1
  exact AS h1 (by decide)
theorem num_neg {s:ByteArray} (h:okS s=true) (hz:zS s<0):s.size≤101↔Bd 100 (zS s):=by
 have e:=congrArg List.length (Ew h)
 rw [BR hz,Array.length_toList,List.length_cons] at e
 have e2:s.size=(Lib.decDigits (zS s).natAbs).length+1:=e
 rw [e2,Bd.nat]
 constructor
 ·intro h1
  refine Nat.lt_of_not_le fun h2=>?_
  have:=BC h2
  omega
 ·intro h1
  have:=AS h1 (by decide)
  omega
theorem CJ (s:ByteArray) (w:World):Calls Tryz.prog 62 #[.string s] w (Rets w (.bool (numB s))):=by
 have VA:=A8 (fun W=>Km s W)
 cases hk:okS s with
 | false =>
  have e:numB s=false:=by unfold numB;rw [hk];rfl
  rw [hk] at VA
  rw [e]
  clear hk e
  go_enter Tryz.func62,Tryz.ntmps62
  go_wp2_with fail
  refine Calls.mono (VA.out _) ?_
  rintro e w1 ⟨rfl,hb⟩
  go_wp2
  go_ret
  exact ⟨rfl,hb⟩
 | true =>
  rw [hk] at VA
  have e:numB s=decide (Bd 100 (zS s)):=by unfold numB;rw [hk];rfl
  rw [e]
  obtain ⟨h0,hf⟩:=Dl hk
  have hn1:=num_pos hk
  have hn2:=num_neg hk
  clear hk e
  by_cases h1:s.size≤100
  ·have e:decide (Bd 100 (zS s))=true:=by
    rw [decide_eq_true_iff]
    by_cases hz:zS s<0
    ·exact (hn2 hz).1 (by omega)
    ·exact (hn1 hz).1 h1
   rw [e]
   clear hf hn1 hn2 e
   have h1':(s.size:Int)≤100:=by omega
   go_enter Tryz.func62,Tryz.ntmps62
   go_wp2_with fail
   refine Calls.mono (VA.out _) ?_
   rintro e w1 ⟨rfl,hb⟩
   go_wp2
   go_ret
   exact ⟨rfl,hb⟩
  ·have h1':¬ (s.size:Int)≤100:=by omega
   have h1c:100<s.size:=by omega
   by_cases hz:zS s<0
   ·rw [show decide (zS s<0)=true by simp [hz]] at hf
    have hb2:=hn2 hz
    clear hn1 hn2
    by_cases h2:s.size=101
    ·have e:decide (Bd 100 (zS s))=true:=decide_eq_true (hb2.1 (by omega))
     rw [e]
     have h2':((s.size:Int)==101)=true:=by simp;omega
     have h2c:(s.size:Int)=101:=by omega
     clear hb2 hz e h2
     go_enter Tryz.func62,Tryz.ntmps62
     go_wp2_with fail
     refine Calls.mono (VA.out _) ?_
     rintro e w1 ⟨rfl,hb⟩
     go_wp2
     go_ret
     exact ⟨Ae (by simp),hb⟩
    ·have e:decide (Bd 100 (zS s))=false:=decide_eq_false (fun h=>by have:=hb2.2 h;omega)
     rw [e]
     have h2':((s.size:Int)==101)=false:=by simp;omega
     clear hb2 hz e
     go_enter Tryz.func62,Tryz.ntmps62
     go_wp2_with fail
     refine Calls.mono (VA.out _) ?_
     rintro e w1 ⟨rfl,hb⟩
     go_wp2
     go_ret
     exact ⟨Ae (by simp;omega),hb⟩
   ·rw [show decide (zS s<0)=false by simp [hz]] at hf
    have e:decide (Bd 100 (zS s))=false:=decide_eq_false (fun h=>by have:=(hn1 hz).2 h;omega)
    rw [e]
    clear hn1 hn2 hz e
    go_enter Tryz.func62,Tryz.ntmps62
    go_wp2_with fail
    refine Calls.mono (VA.out _) ?_
    rintro e w1 ⟨rfl,hb⟩
    go_wp2
    go_ret
    exact ⟨Ae (by simp;omega),hb⟩
def badB (s:ByteArray):Bool:=!numB s || decide (zS s<0)
theorem FZ (s:ByteArray) (w:World):Calls Tryz.prog 87 #[.string s] w (Rets w (.bool (badB s))):=by
 have VA:=A8 (fun W=>CJ s W)
 unfold badB
 cases hk:numB s with
 | false =>
  rw [hk] at VA
  clear hk
  go_enter Tryz.func87,Tryz.ntmps87
  go_wp2_with fail
  refine Calls.mono (VA.out _) ?_
  rintro e w1 ⟨rfl,hb⟩
  go_wp2
  go_ret
  exact ⟨rfl,hb⟩
 | true =>
  rw [hk] at VA
  have hok:okS s=true:=by unfold numB at hk;rw [Bool.and_eq_true] at hk;exact hk.1
  obtain ⟨h0,hf⟩:=Dl hok
  clear hk hok
  generalize decide (zS s<0)=b at *
  cases b <;>
  ·go_enter Tryz.func87,Tryz.ntmps87
   go_wp2_with fail
   refine Calls.mono (VA.out _) ?_
   rintro e w1 ⟨rfl,hb⟩
   go_wp2
   go_ret
   exact ⟨Ae (by simp),hb⟩
def largeB (x:Int):Bool:=!(decide (-30000≤x)&&decide (x≤30000))
def badE (cols:Int) (r:List Int×Int):Bool:=!((r.1.length:Int)==cols) || r.1.any largeB || !(decide (-1000000000≤r.2)&&decide (r.2≤1000000000))
def validL (cols:Int) (rows:List (List Int×Int)):Bool:=(decide (0≤cols)&&decide (cols≤64))&&decide (rows.length≤18)&&!(rows.any (badE cols))
def formedL (l:List ByteArray) (den:ByteArray):Bool:=decide (l.length≤64)&&!(l.any badB)&&(numB den&&decide (0<zS den))
theorem KA {s:ByteArray} (h:okS s=true):(s.data.toList==[48])=decide (zS s=0):=by
 have e:=Ew h
 by_cases hz:zS s=0
 ·rw [e,hz,Ao (by decide),Ap (by decide)];rfl
 ·have h2:s.data.toList≠[48]:=fun h48=>hz (by show ival s.data.toList=0;rw [h48];rfl)
  simp [hz,h2]
theorem Jc (x:Int) (w:World):Calls Tryz.prog 43 #[.int .i64 x] w (Rets w (.bool (largeB x))):=by
 have IN:=A8 (fun W=>Cq x (-30000) 30000 W)
 unfold largeB
 generalize (decide (-30000≤x)&&decide (x≤30000))=b at *
 go_enter Tryz.func43,Tryz.ntmps43
 go_wp2_with fail
 refine Calls.mono (IN.out _) ?_
 rintro e w1 ⟨rfl,hb⟩
 go_wp2
 go_ret
 exact ⟨rfl,hb⟩
theorem Jd (cols val:Int) (v rv:Value) (coef:List Int) (Bs Bf:Nat) (w:World) (h:Sl w v coef) (k1:Blk w Bs #[.int .i64 cols,rv] 27) (k2:Blk w Bf #[.func (.func 43) #[] #[]] 80) :
  Calls Tryz.prog 45 #[.agg #[v,.int .i64 val],.pointer (some ⟨Bs,0,none⟩),.pointer (some ⟨Bf,0,none⟩)] w (Rets w (.bool (badE cols (coef,val)))):=by
 have hlen:=h.len_le
 unfold maxLen at hlen
 have IN:=A8 (fun W=>Cq val (-1000000000) 1000000000 W)
 have hS:BL w [(w.heap.size,#[v,.int .i64 val],60),(Bs,#[.int .i64 cols,rv],27),(Bf,#[.func (.func 43) #[] #[]],80)] (w.alloc (.cells #[v,.int .i64 val] 60)):=(⟨Below.refl _ _,fun p hp=>by
  rcases List.mem_cons.1 hp with rfl | hp
  ·exact k1
  ·rcases List.mem_cons.1 hp with rfl | hp
   ·exact k2
   ·cases hp⟩:BL w [(Bs,#[.int .i64 cols,rv],27),(Bf,#[.func (.func 43) #[] #[]],80)] w).add _ _
 have CI:=A8 (fun W (hW:Sl W v coef)=>FJ v coef 43 #[] largeB W hW (Go.Proofs.enters_of Tryz.func43 (by kernel_rfl) rfl) (fun W x _ _=>by rw [Array.append_empty];exact Jc x W))
 have HS:=A8 h
 obtain ⟨V,hV⟩:∃ V,V=w.alloc (.cells #[v,.int .i64 val] 60):=⟨_,rfl⟩
 rw [←hV] at hS
 obtain ⟨a,cap,rfl⟩:=h.shape
 unfold badE
 dsimp only
 generalize (decide (-1000000000≤val)&&decide (val≤1000000000))=bin at *
 by_cases hc:(coef.length:Int)=cols
 ·have hc1:((coef.length:Int)==cols)=true:=by simp [hc]
  have hc2:((coef.length:Int) != cols)=false:=by simp [hc]
  rw [hc1]
  cases hany:coef.any largeB
  ·rw [hany] at CI
   clear hany hc k1 k2
   generalize coef.length=n at *
   obtain ⟨x0,x1⟩:=hS.c2 w.heap.size _ _ _ (.head _)
   have y0:=(hS.c2 Bs _ _ _ (.tail _ (.head _))).1
   have y1:=hS.c1 Bf _ _ (.tail _ (.tail _ (.head _)))
   go_enter Tryz.func45,Tryz.ntmps45
   go_upto_region 1 with fail
   rw [←hV]
   clear hV
   go_wp2_with fail
   refine Calls.mono (CI.out _ (HS.out.below hS.below)) ?_
   rintro e w1 ⟨rfl,hb⟩
   replace hS:=hS.call hb
   clear x0 x1 y0 y1 hb
   obtain ⟨x0,x1⟩:=hS.c2 w.heap.size _ _ _ (.head _)
   go_wp2_with fail
   refine Calls.mono (IN.out _) ?_
   rintro e w2 ⟨rfl,hb⟩
   replace hS:=hS.call hb
   go_wp2
   go_ret
   exact ⟨Ae (by simp),hS.below⟩
  ·rw [hany] at CI
   clear hany hc k1 k2
   generalize coef.length=n at *
   obtain ⟨x0,x1⟩:=hS.c2 w.heap.size _ _ _ (.head _)
   have y0:=(hS.c2 Bs _ _ _ (.tail _ (.head _))).1
   have y1:=hS.c1 Bf _ _ (.tail _ (.tail _ (.head _)))
   go_enter Tryz.func45,Tryz.ntmps45
   go_upto_region 1 with fail
   rw [←hV]
   clear hV
   go_wp2_with fail
   refine Calls.mono (CI.out _ (HS.out.below hS.below)) ?_
   rintro e w1 ⟨rfl,hb⟩
   replace hS:=hS.call hb
   go_wp2
   go_ret
   exact ⟨Ae (by simp),hS.below⟩
 ·have hc1:((coef.length:Int)==cols)=false:=by simp [hc]
  have hc2:((coef.length:Int) != cols)=true:=by simp [hc]
  rw [hc1]
  clear k1 k2
  generalize coef.length=n at *
  obtain ⟨x0,x1⟩:=hS.c2 w.heap.size _ _ _ (.head _)
  have y0:=(hS.c2 Bs _ _ _ (.tail _ (.head _))).1
  go_enter Tryz.func45,Tryz.ntmps45
  go_upto_region 1 with fail
  rw [←hV]
  clear hV
  go_wp2
  go_ret
  exact ⟨Ae (by simp),hS.below⟩
theorem BG (cols:Int) (v:Value) (rows:List (List Int×Int)) (w:World) (h:SlE w v rows) :
  Calls Tryz.prog 15 #[.agg #[.int .i64 cols,v]] w (Rets w (.bool (validL cols rows))):=by
 have hlen:rows.length≤maxLen:=h.len_le
 unfold maxLen at hlen
 have IN:=A8 (fun W=>Cq cols 0 64 W)
 obtain ⟨V,hV,S1,z1⟩:=(BL.start w).add' #[.int .i64 cols,v] 27
 obtain ⟨a,cap,rfl⟩:=h.shape
 have HS:=A8 h
 replace z1:=A8 z1
 have hS:=S1
 clear S1
 unfold validL
 cases hin:(decide (0≤cols)&&decide (cols≤64))
 ·rw [hin] at IN
  clear hin
  generalize rows.length=n at *
  obtain ⟨x0,x1⟩:=hS.c2 w.heap.size _ _ _ (.head _)
  go_enter Tryz.func15,Tryz.ntmps15
  go_upto_region 1 with fail
  rw [←hV]
  clear hV
  go_wp2_with fail
  refine Calls.mono (IN.out _) ?_
  rintro e w1 ⟨rfl,hb⟩
  replace hS:=hS.call hb
  go_wp2
  go_ret
  exact ⟨Ae (by simp),hS.below⟩
 ·rw [hin] at IN
  clear hin
  by_cases hn:rows.length≤18
  ·rw [decide_eq_true hn]
   have hn':¬ (18:Int)<(rows.length:Int):=by omega
   have CE:=A8 (fun W (hW:SlE W (.slice a rows.length cap) rows) (k1:Blk W w.heap.size #[.int .i64 cols,.slice a rows.length cap] 27) (Bf:Nat) (k2:Blk W Bf #[.func (.func 43) #[] #[]] 80)=>De _ rows 45 #[.pointer (some ⟨w.heap.size,0,none⟩),.pointer (some ⟨Bf,0,none⟩)] (badE cols) W hW (Go.Proofs.enters_of Tryz.func45 (by kernel_rfl) rfl) (fun W' x v' _ hb hv=>Jd cols x.2 v' _ x.1 w.heap.size Bf W' hv (k1.below hb) (k2.below hb)))
   generalize rows.any (badE cols)=bb at *
   clear h
   generalize rows.length=n at *
   obtain ⟨x0,x1⟩:=hS.c2 w.heap.size _ _ _ (.head _)
   go_enter Tryz.func15,Tryz.ntmps15
   go_upto_region 1 with fail
   rw [←hV]
   clear hV
   go_wp2_with fail
   refine Calls.mono (IN.out _) ?_
   rintro e w1 ⟨rfl,hb⟩
   replace hS:=hS.call hb
   clear x0 x1 hb
   obtain ⟨x0,x1⟩:=hS.c2 w.heap.size _ _ _ (.head _)
   go_upto_region 4 with fail
   clear x0 x1
   obtain ⟨W2,hW2,S2,z2⟩:=hS.add' #[.func (.func 43) #[] #[]] 80
   rw [←hW2]
   clear hW2 z2 hS
   obtain ⟨x0,x1⟩:=S2.c2 w.heap.size _ _ _ (.tail _ (.head _))
   go_wp2_with fail
   refine Calls.mono (CE.out _ (HS.out.below S2.below) (S2.blks _ (.tail _ (.head _))) _ (S2.blks _ (.head _))) ?_
   rintro e w3 ⟨rfl,hb⟩
   have hB:=Ad hb S2.below (Aa _)
   go_wp2
   go_ret
   exact ⟨Ae (by simp),hB⟩
  ·rw [decide_eq_false hn]
   have hn':(18:Int)<(rows.length:Int):=by omega
   clear h
   generalize rows.length=n at *
   obtain ⟨x0,x1⟩:=hS.c2 w.heap.size _ _ _ (.head _)
   go_enter Tryz.func15,Tryz.ntmps15
   go_upto_region 1 with fail
   rw [←hV]
   clear hV
   go_wp2_with fail
   refine Calls.mono (IN.out _) ?_
   rintro e w1 ⟨rfl,hb⟩
   replace hS:=hS.call hb
   clear x0 x1 hb
   obtain ⟨x0,x1⟩:=hS.c2 w.heap.size _ _ _ (.head _)
   go_wp2
   go_ret
   exact ⟨Ae (by simp),hS.below⟩
theorem KB (l:List ByteArray) (den:ByteArray):formedL l den=(decide (l.length≤64)&&!(l.any badB)&&!(badB den)&&!(den.data.toList==[48])):=by
 unfold formedL badB
 by_cases hk:numB den=true
 ·have ho:okS den=true:=by unfold numB at hk;rw [Bool.and_eq_true] at hk;exact hk.1
  rw [KA ho,hk]
  have e:decide (0<zS den)=(!decide (zS den<0)&&!decide (zS den=0)):=by
   rw [Bool.eq_iff_iff];simp;omega
  rw [e]
  cases decide (l.length≤64) <;> cases l.any (fun s=>!numB s || decide (zS s<0)) <;> cases decide (zS den<0) <;> cases decide (zS den=0) <;> rfl
 ·have hk':numB den=false:=by simpa using hk
  rw [hk'];simp
theorem Bw (v:Value) (l:List ByteArray) (den:ByteArray) (w:World) (h:SlS w v l) :
  Calls Tryz.prog 48 #[.agg #[v,.string den]] w (Rets w (.bool (formedL l den))):=by
 have hlen:l.length≤maxLen:=h.len_le
 unfold maxLen at hlen
 obtain ⟨V,hV,hS,z1⟩:=(BL.start w).add' #[v,.string den] 30
 replace z1:=A8 z1
 obtain ⟨a,cap,rfl⟩:=h.shape
 have HS:=A8 h
 have CS:=A8 (fun W (hW:SlS W (.slice a l.length cap) l)=>Dd _ l 87 #[] badB W hW (Go.Proofs.enters_of Tryz.func87 (by kernel_rfl) rfl) (fun W x _ _=>by rw [Array.append_empty];exact FZ x W))
 have BD:=A8 (fun W=>FZ den W)
 rw [KB]
 by_cases hn:l.length≤64
 ·rw [decide_eq_true hn]
  have hn':(l.length:Int)≤64:=by omega
  generalize l.any badB=b1 at *
  generalize badB den=b2 at *
  obtain ⟨b3,hb3⟩:∃ b,b=(den.data.toList==[48]):=⟨_,rfl⟩
  rw [←hb3]
  have hb3':(den.toList==[48])=b3:=by rw [ByteArray.toList_eq];exact hb3.symm
  clear h hb3
  generalize l.length=n at *
  obtain ⟨x0,x1⟩:=hS.c2 w.heap.size _ _ _ (.head _)
  go_enter Tryz.func48,Tryz.ntmps48
  go_upto_region 2 with fail
  rw [←hV]
  clear hV
  go_wp2_with fail
  refine Calls.mono (CS.out _ (HS.out.below hS.below)) ?_
  rintro e w1 ⟨rfl,hb⟩
  replace hS:=hS.call hb
  clear x0 x1 hb
  obtain ⟨x0,x1⟩:=hS.c2 w.heap.size _ _ _ (.head _)
  cases b1
  ·go_wp2_with fail
   refine Calls.mono (BD.out _) ?_
   rintro e w2 ⟨rfl,hb⟩
   replace hS:=hS.call hb
   clear x0 x1 hb
   obtain ⟨x0,x1⟩:=hS.c2 w.heap.size _ _ _ (.head _)
   cases b2
   ·go_wp2
    go_ret
    exact ⟨Ae (by simp),hS.below⟩
   ·go_wp2
    go_ret
    exact ⟨Ae (by simp),hS.below⟩
  ·go_wp2
   go_ret
   exact ⟨Ae (by simp),hS.below⟩
 ·rw [decide_eq_false hn]
  have hn':¬ (l.length:Int)≤64:=by omega
  clear h
  generalize l.length=n at *
  obtain ⟨x0,x1⟩:=hS.c2 w.heap.size _ _ _ (.head _)
  go_enter Tryz.func48,Tryz.ntmps48
  go_upto_region 2 with fail
  rw [←hV]
  clear hV
  go_wp2
  go_ret
  exact ⟨Ae (by simp),hS.below⟩
end
end Go.Proofs.YtcmomjnailihpaaGreatDoor
