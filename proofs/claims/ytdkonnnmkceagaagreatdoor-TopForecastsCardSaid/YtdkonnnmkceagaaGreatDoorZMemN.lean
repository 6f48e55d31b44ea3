/- MemN, AppG, ClK, ClL, ClR, App, ClS, ClV -/
import Derived.Test.YtdkonnnmkceagaaGreatDoorZClG
import Derived.Deep.DeepAppendRoom
import Derived.ArgAppend
set_option maxHeartbeats 8000000
set_option maxRecDepth 100000
namespace Go.Proofs.YtdkonnnmkceagaaGreatDoor
section
open Go.RowKit
structure OQ (w:World) (L:Ec) (R:List E9) (ids:List Nat) (b:Nat) (cs:Array Value) (t:TypeId) (W:World):Prop where
 ge:w.heap.size<=b
 ids:∀ q∈ids,q≠b
 L:∀ p∈L,p.1≠b
 R:∀ r∈R,r.v.ownBlock≠some b
 blk:CO W b cs t
theorem OQ.below {w W W':World} {L:Ec} {R:List E9} {ids:List Nat} {b:Nat} {cs:Array Value} {t:TypeId} (h:OQ w L R ids b cs t W) (hb:Below W.heap.size W W'):OQ w L R ids b cs t W':=⟨h.ge,h.ids,h.L,h.R,h.blk.below hb⟩
theorem OQ.of {w W:World} {L:Ec} {R:List E9} {ids:List Nat} (cs:Array Value) (t:TypeId) (h:CE w L R W) (hi:∀ q∈ids,q<W.heap.size):OQ w L R ids W.heap.size cs t (W.alloc (.cells cs t)) :=
 ⟨h.size,fun q hq e=>by have:=hi q hq;omega,fun p hp e=>by have:=h.lt p hp;omega,fun r hr e=>by have:=((h.rows r hr).lt _ e).2;omega,CO.new _ _ _⟩
theorem CO.type {W:World} {b:Nat} {cs ds:Array Value} {t s:TypeId} (h:CO W b cs t) (g:CO W b ds s):t=s:=by
 have:=h.symm.trans g;cases this;rfl
theorem CE.adopt {w W:World} {L L1:Ec} {R R1:List E9} {ids:List Nat} {b:Nat} {cs:Array Value} {t:TypeId} (h:CE w L R W) (hb:OQ w L1 R1 ids b cs t W) (hL:∀ p∈L,p.1≠b∨p.2.2≠t) (hR:∀ r∈R,r.v.ownBlock≠some b∨r.e≠t):CE w ((b,cs,t) :: L) R W:=by
 refine ⟨h.below,fun p hp=>?_,fun p hp=>?_,AU.2 ⟨fun p hp e=>?_,h.dup⟩,h.rows,h.rdis,fun r hr p hp=>?_⟩
 ·rcases As.1 hp with rfl | hp
  ·exact hb.ge
  ·exact h.ge p hp
 ·rcases As.1 hp with rfl | hp
  ·exact hb.blk
  ·exact h.blks p hp
 ·rcases hL p hp with h1 | h1
  ·exact h1 e.symm
  ·have h2:=h.blks p hp
   rw [<-show b=p.1 from e] at h2;exact h1 (CO.type h2 hb.blk)
 ·rcases As.1 hp with rfl | hp
  ·intro e
   rcases hR r hr with h1 | h1
   ·exact h1 e
   ·rcases (h.rows r hr).2 with ⟨e1,_⟩ | ⟨g,cap,cur,e1,_,h2,_⟩
    ·rw [e1] at e;cases e
    ·rw [e1] at e
     obtain rfl:g=b:=AL e;exact h1 (CO.type h2 hb.blk)
  ·exact h.rL r hr p hp
end
section
open Go.RowKit
attribute [local go_sem] Oper.semAt_some
theorem GN {w:World} {b b':Nat} {e:TypeId} {size:Nat} {v:Value} {n:Nat} {xs:List Value} (h:w.ownsRow b e size v n xs) (hb:b'<=b):w.ownsRow b' e size v n xs :=
 ⟨h.1,h.2.imp id fun ⟨g,cap,cur,e1,e2,r⟩=>⟨g,cap,cur,e1,AN hb e2,r⟩⟩
def Lk (P:Program) (e:TypeId) (k:Nat):Bool :=
 match P.info? e with
 | some i=>match i.zero with
  | some z=>z.cells.size==k&&i.size==k&&decide (i.bytes<=100000)&&decide (0<k)
  | none=>false
 | none=>false
theorem NC {P:Program} {e:TypeId} {k:Nat} (h:Lk P e k=true):∃ i z,P.info? e=some i/\i.zero=some z/\z.cells.size=k/\i.size=k/\i.bytes<=100000/\0<k:=by
 unfold Lk at h;cases hi:P.info? e with
 | none=>rw [hi] at h;cases h
 | some i =>
  rw [hi] at h;dsimp only at h;cases hz:i.zero with
  | none=>rw [hz] at h;cases h
  | some z =>
   rw [hz] at h;simp only [Ao,BG,Ap] at h;exact ⟨i,z,rfl,hz,h.1.1.1,h.1.1.2,h.1.2,h.2⟩
theorem TB {P:Program} {w:World} {base:Nat} (t ty e te:TypeId) (k:Nat) (ht:P.underlying t=some (.slice e)) (hk:Lk P e k=true)
  (v:Value) (n:Nat) (xs:List Value) (hown:w.ownsRow base e k v n xs) (g m:Nat) (us:List Value) (hm:us.length=m*k) (hb:CO w g us.toArray te) (h1:us.all (fun u=>u.oneCell')=true) (hn:n<=1000000) (hm0:0<m) (hm1:m<=1000) (hbase:base<=w.heap.size) :
  ∃ v' w',(Builtin.append_ #[t,t] ty #[v,.slice (some ⟨g,0,none⟩) m m]).run P w=.ok v' w'/\w'.ownsRow base e k v' (n+m) (xs++us)/\w.grownBy w' v.ownBlock/\∀ b,v'.ownBlock=some b->v.ownBlock=some b∨w.heap.size<=b:=by
 obtain ⟨i0,z,hi,hz0,hz,hz1,hz2,hk0⟩:=NC hk
 have hnews:∀ j y,us[j]? = some y->w.cell? ((⟨g,0,none⟩:Addr).add j)=some y:=fun j y hj=>by
  rw [E5,Br,hb.cell j,BR];exact hj
 have h1c:∀ y∈us,y.oneCell'=true:=fun y hy=>Ax.1 h1 y hy
 have hby:(n+m)*i0.bytes<=140737488355328:=AN (Nat.mul_le_mul (show n+m<=1001000 by omega) hz2) Ae
 have blkOf:∀ {v':Value} {w':World} {n':Nat} {xs':List Value},w'.ownsRow w.heap.size e k v' n' xs'->∀ b,v'.ownBlock=some b->v.ownBlock=some b∨w.heap.size<=b:=fun h b hb=>.inr (h.lt b hb).1
 have hown0:=hown
 rcases hown.2 with ⟨rfl,rfl⟩ | ⟨g0,cap,cur,rfl,hb,hg,hcap,hmax,hsz,htk⟩
 ·obtain ⟨v',w',hrun,r1,r2,_⟩:=run_append_own (P:=P) w w.heap.size t ty e i0 z k _ ht hi hz0 hz1 rfl hz hk0 (.slice none 0 0) 0 [] (World.ownsRow_nil w _ _ k) ⟨g,0,none⟩ m m us hm hnews h1c (by unfold maxLen;omega) hby (Aa _)
  obtain rfl:xs=[]:=AS (by have:=hown.1;simpa using this);exact ⟨v',w',hrun,GN r1 hbase,r2,blkOf r1⟩
 ·by_cases hroom:n+m<=cap
  ·obtain ⟨w',hrun,r1,r2⟩:=run_append_own_spare (P:=P) w base t ty e i0 k ht hi hz1 g0 n cap xs hown0 ⟨g,0,none⟩ m m us hm hnews h1c hroom
   exact ⟨_,w',hrun,r1,r2,fun b hb=>.inl hb⟩
  ·obtain ⟨v',w',hrun,r1,r2⟩:=run_append_arg_grows (P:=P) w t ty e i0 z k _ ht hi hz0 hz1 rfl hz hk0 ⟨g0,0,none⟩ n cap xs hown.1 (fun j y hj=>hown0.cells (g:=g0) rfl j y hj) ⟨g,0,none⟩ m m us hm hnews Ad (by unfold maxLen;omega) hby
   exact ⟨v',w',hrun,GN r1 hbase,⟨r2.os,r2.tape,r2.output,r2.size,fun k hk _=>r2.block k hk Af⟩,blkOf r1⟩
theorem CE.keepG {w0 w w':World} {L:Ec} {R:List E9} {e:TypeId} {k n:Nat} {v:Value} {xs:List Value} (hM:CE w0 L (⟨e,k,v,n,xs⟩ :: R) w) (hg:w.grownBy w' v.ownBlock):∀ b cs t,CO w b cs t->t≠e->CO w' b cs t:=fun b cs t hb hne=>hb.kept hg fun h=>by
 rcases hM.own0.2 with ⟨e1,_⟩ | ⟨g,cap,cur,e1,_,h2,_⟩
 ·rw [e1] at h;cases h
 ·rw [e1] at h
  obtain rfl:b=g:=AL h;exact hne (CO.type hb h2)
section
variable {ops:Array Oper} {rest:List Oper} {o:Oper} {a:Act} {Q:Exit->Act->World->Prop} {K:Act->World->Prop} {w0 w:World} {L:Ec} {R:List E9} {s x:Operand} {v:Value} {n:Nat} {xs us:List Value} {g m k:Nat} {e te t:TypeId}
theorem OV (ho:o.op=.call { callee:=.builtin .append,args:=#[s,x],argTypes:=#[t,t] }) (ht:Tryz.prog.underlying t=some (.slice e)) (hk:Lk Tryz.prog e k=true) (hM:CE w0 L (⟨e,k,v,n,xs⟩ :: R) w) (hs:a.eval s=v)
  (hx:a.eval x=.slice (some ⟨g,0,none⟩) m m) (hb:CO w g us.toArray te) (hm:us.length=m*k) (h1:us.all (fun u=>u.oneCell')=true) (hn:n<=1000000) (hm0:0<m) (hm1:m<=1000)
  (h:∀ g' cap w',CE w0 L (⟨e,k,.slice (some ⟨g',0,none⟩) (n+m) cap,n+m,xs++us⟩ :: R) w'->(∀ b cs t,CO w b cs t->t≠e->CO w' b cs t)->K (a.put o.dst (.slice (some ⟨g',0,none⟩) (n+m) cap)) w'):Oper.wp Tryz.prog o a w K Q:=by
 obtain ⟨v',w',hrun,r1,r2,r3⟩:=TB (P:=Tryz.prog) t o.type e te k ht hk v n xs hM.own0 g m us hm hb h1 hn hm0 hm1 hM.size
 unfold Oper.wp
 simp [execOp,ho,resolve,invoke,builtin,hs,hx,hrun,Result.andThen]
 have r1':=r1
 rcases r1.2 with ⟨_,h0⟩ | ⟨g',cap,cur,rfl,_⟩
 ·omega
 ·exact h g' cap w' (hM.app0 r2 r1' r3) (hM.keepG r2)
theorem Ll (ho:o.op=.call { callee:=.builtin .append,args:=#[s,x],argTypes:=#[t,t] }) (ht:Tryz.prog.underlying t=some (.slice e)) (hk:Lk Tryz.prog e k=true) (hM:CE w0 L (⟨e,k,v,n,xs⟩ :: R) w) (hs:a.eval s=v)
  (hx:a.eval x=.slice (some ⟨g,0,none⟩) m m) (hb:CO w g us.toArray te) (hm:us.length=m*k) (h1:us.all (fun u=>u.oneCell')=true) (hn:n<=1000000) (hm0:0<m) (hm1:m<=1000)
  (h:∀ g' cap w',CE w0 L (⟨e,k,.slice (some ⟨g',0,none⟩) (n+m) cap,n+m,xs++us⟩ :: R) w'->K (a.put o.dst (.slice (some ⟨g',0,none⟩) (n+m) cap)) w'):Oper.wp Tryz.prog o a w K Q :=
 OV ho ht hk hM hs hx hb hm h1 hn hm0 hm1 fun g' cap w' hM' _=>h g' cap w' hM'
theorem GO (hgd:o.guard=none) (ho:o.op=.call { callee:=.builtin .append,args:=#[s,x],argTypes:=#[t,t] }) (ht:Tryz.prog.underlying t=some (.slice e)) (hk:Lk Tryz.prog e k=true) (hM:CE w0 L (⟨e,k,v,n,xs⟩ :: R) w) (hs:a.eval s=v)
  (hx:a.eval x=.slice (some ⟨g,0,none⟩) m m) (hb:CO w g us.toArray te) (hm:us.length=m*k) (h1:us.all (fun u=>u.oneCell')=true) (hn:n<=1000000) (hm0:0<m) (hm1:m<=1000)
  (h:∀ g' cap w',CE w0 L (⟨e,k,.slice (some ⟨g',0,none⟩) (n+m) cap,n+m,xs++us⟩ :: R) w'->wpList Tryz.prog ops Q rest (a.put o.dst (.slice (some ⟨g',0,none⟩) (n+m) cap)) w'):wpList Tryz.prog ops Q (o :: rest) a w :=
 wpList_plain hgd fun _ hK=>Ll ho ht hk hM hs hx hb hm h1 hn hm0 hm1 fun g' cap w' hm=>hK _ _ (h g' cap w' hm)
end
end
section
open Go.RowKit Go.Shelf
open Clk
attribute [local go_sem] Oper.semAt_some
structure Gr (w:World) (d tol rate:Int) (rv sv:Value) (rs:List Rd) (ss:List Sm):Prop where
 r:NL w rv rs
 s:Nl w sv ss
 dB:0<=d/\d<=100
 tB:0<=tol/\tol<=1000
 aB:0<=rate/\rate<=1000
 rOk:J7 rs
 sOk:PR ss
 win:∀ i,i<ss.length->EP d (CW ss i).loc rs 0<=DM d (CW ss i).loc rs 10000000
theorem Gr.below {w W:World} {d tol rate:Int} {rv sv:Value} {rs:List Rd} {ss:List Sm} (h:Gr w d tol rate rv sv rs ss) (hb:Below w.heap.size w W):Gr W d tol rate rv sv rs ss :=
 ⟨h.r.below hb,h.s.below hb,h.dB,h.tB,h.aB,h.rOk,h.sOk,h.win⟩
theorem Nv (d tol rate:Int) (rv sv:Value) (rs:List Rd) (ss:List Sm) (w:World) (h:Gr w d tol rate rv sv rs ss) :
  Calls Tryz.prog 47 #[.agg #[.int .i64 d,rv,.int .i64 tol,.int .i64 rate,sv]] w fun e w'=>∃ bN:Nat,e=.returned (.func (.func 76) #[] #[.pointer (some ⟨bN,0,none⟩)])/\Ep w' bN d tol rate rv sv rs ss/\Below w.heap.size w w':=by
 have h1:∃ a l c,rv=.slice a l c:=by obtain ⟨a,c,e⟩:=h.r.shape;exact ⟨a,_,c,e⟩
 have h2:∃ a l c,sv=.slice a l c:=by obtain ⟨a,c,e⟩:=h.s.shape;exact ⟨a,_,c,e⟩
 refine (callsIn_wide (n:=4)).1 ((OM d tol rate rv sv w h1 h2).mono ?_)
 rintro e w' ⟨rfl,rfl⟩
 have hb:=Es (Below.refl w.heap.size w) (.cells #[.int .i64 d,rv,.int .i64 tol,.int .i64 rate,sv] 42)
 exact ⟨_,rfl,⟨CO.new _ _ _,h.r.below hb,h.s.below hb,h.dB,h.tB,h.rOk,h.sOk,h.win⟩,hb⟩
theorem Tt {Q:Exit->Act->World->Prop} {us:List Value} {bG:Nat} {d tol rate s p q u v:Int} {rv sv:Value} {rs:List Rd} {ss:List Sm} {w W0:World} {L:Ec} {R:List E9} (x0:Dd w L R bG 0 (.int .i64 d)) (x1:Dd w L R bG 1 rv) (x2:Dd w L R bG 2 (.int .i64 tol)) (x3:Dd w L R bG 3 (.int .i64 rate)) (x4:Dd w L R bG 4 sv)
  (C17:Hid (∀ W,CE w L R W->Calls Tryz.prog 47 #[.agg #[.int .i64 d,rv,.int .i64 tol,.int .i64 rate,sv]] W fun e w'=>∃ bN:Nat,e=.returned (.func (.func 76) #[] #[.pointer (some ⟨bN,0,none⟩)])/\Ep w' bN d tol rate rv sv rs ss/\Below W.heap.size W w'))
  (C21:Hid (∀ (bN:Nat) (W:World),CE w L R W->Ep W bN d tol rate rv sv rs ss->Calls Tryz.prog 46 #[.func (.func 76) #[] #[.pointer (some ⟨bN,0,none⟩)],.int .i64 rate,.int .i64 s] W fun e W'=>e=.returned (.agg #[.int .i64 p,.int .i64 q,.int .i64 u,.int .i64 v])/\Below W.heap.size W W'))
  (h0:Hid (CE w L R W0)) (hN:us.length=28) (g2:us[2]? = some (.pointer (some ⟨bG,0,none⟩))) (g1:us[1]? = some (.int .i64 s)) {ops:Array Oper} (ho:D8 Tryz.f23.body 3=some ops)
  (hQ:∀ (x:Nat->Value) (b6:Nat) (W':World),x 6=.pointer (some ⟨b6,0,none⟩)->Hid (CE w ((b6,#[.int .i64 p,.int .i64 q,.int .i64 u,.int .i64 v],68) :: L) R W')->Q .normal { tmps:=(Dp [16,17,18,19,20,21,6] x us).toArray,defers:=[] } W') :
  (Code.region 3 ops true).wp Tryz.prog Q { tmps:=us.toArray,defers:=[] } W0:=by
 obtain rfl:=AL (ho.symm.trans (rfl:D8 Tryz.f23.body 3=some _))
 clear ho
 replace hQ:=A8 hQ
 let Fl:Nat×Nat->FL:=fun g=>[some (16,.agg #[.int .i64 d,rv,.int .i64 tol,.int .i64 rate,sv]),some (17,.func (.func 76) #[] #[.pointer (some ⟨g.2,0,none⟩)]),some (18,.pointer (some ⟨bG,3,none⟩)),some (19,.int .i64 rate),some (20,.int .i64 s),some (21,.agg #[.int .i64 p,.int .i64 q,.int .i64 u,.int .i64 v]),some (6,.pointer (some ⟨g.1,0,none⟩)),none]
 let Ml:Nat×Nat->ML:=fun g=>[(1,17,(fun _ W=>Ep W g.2 d tol rate rv sv rs ss),some 7),(6,6,(fun _ W=>OQ w L R [] g.1 #[.int .i64 0,.int .i64 0,.int .i64 0,.int .i64 0] 68 W),some 7)]
 let Sl_:Nat×Nat->List (World->Prop):=fun g=>[fun W=>CE w L R W,fun W=>CE w ((g.1,#[.int .i64 p,.int .i64 q,.int .i64 u,.int .i64 v],68) :: L) R W]
 have St:Hn 28 [16,17,18,19,20,21,6] [1,6] Fl Ml (CE w L R) Sl_:=⟨fun _=>by kernel_rfl,fun _=>rfl,fun _ _ hb h=>h.call hb,fun g=>BH.2 ⟨fun yv W W' hb=>fun h=>h.below hb,BH.2 ⟨fun yv W W' hb=>fun h=>h.below hb,(fun _ h=>by cases h)⟩⟩,fun g=>BH.2 ⟨fun W W' hb h=>h.call hb,BH.2 ⟨fun W W' hb h=>h.call hb,(fun _ h=>by cases h)⟩⟩⟩
 refine EN St us [7] ⟨0,0⟩ hN h0.out.drew h0.out.drew ?_ ?_
 refine sV St ?_ (fun z=>z.u g2) (fun z=>x0 _ z.c) (fun z=>x1 _ z.c) (fun z=>And.intro (x2 _ z.c) (x3 _ z.c)) (fun z=>x4 _ z.c) (h:=by intro _ _ _ a1 a2 a3 a4 a5 _ J;obtain ⟨a4,a6⟩:=a4;go_simp;exact J)
 refine CD (stA St 1 0 0 rfl rfl (.inl rfl) rfl (fun _=>rfl) (fun _=>rfl) Ab fun g T E W hl hw hs z K J=>by
  have x16:=z.x 0 hw rfl;have hC:=z.c;go_simp;refine Calls.mono (C17.out W hC) ?_;rintro e W2 ⟨bN',rfl,hp,hb⟩;exact J ⟨g.1,bN'⟩ W2 hb Ab rfl rfl hp) ?_
 refine sV St ?_ (fun z=>z.u g2)
 refine sV St ?_ (fun z=>z.x 2 rfl) (fun z=>x3 _ z.c)
 refine sV St ?_ (fun z=>z.u g1)
 refine CD (stC St 5 rfl rfl rfl (fun _=>rfl) fun g T E W hl hw hs z K J=>by
  have x17:=z.x 1 hw rfl;have x19:=z.x 3 hw rfl;have x20:=z.x 4 hw rfl;have hC:=z.c;obtain ⟨_,_,hg⟩:=z.y 0 hl hw hs rfl;go_simp;refine Calls.mono (C21.out _ W hC hg) ?_;rintro e W2 ⟨rfl,hb⟩;exact J _ hb) ?_
 refine CD (stA St 6 1 0 rfl rfl (.inl rfl) rfl (fun _=>rfl) (fun _=>rfl) Ab fun g T E W hl hw hs z K J=>by
  have hi:∀ q∈([]:List Nat),q<W.heap.size:=fun _ h=>by cases h
  have hC:=z.c;go_simp;exact J ⟨W.heap.size,g.2⟩ _ ((Below.refl _ _).alloc (Aa _) _) Ab rfl rfl (OQ.of _ _ hC hi)) ?_
 refine CD (stE 7 0 (.inl rfl) rfl rfl (fun _=>rfl) Ab (fun _=>by kernel_rfl) fun g T E W hl hw hs z qq K J=>by
  have x6:=z.x 6 hw rfl;have x21:=z.x 5 hw rfl;have hM0:CE _ _ _ _:=qq;obtain ⟨_,_,hn6⟩:=z.y 1 hl hw hs rfl;replace hM0:=hM0.adopt hn6 (fun p hp=>.inl (hn6.L p hp)) (fun p hp=>.inl (hn6.R p hp));have y0:=hM0.cell _ _ _ Ah 0;have w0:=hM0.frozen _ _ _ Ah 0;have y1:=hM0.cell _ _ _ Ah 1;have w1:=hM0.frozen _ _ _ Ah 1;have y2:=hM0.cell _ _ _ Ah 2;have w2:=hM0.frozen _ _ _ Ah 2;have y3:=hM0.cell _ _ _ Ah 3;have w3:=hM0.frozen _ _ _ Ah 3;have hfin:=(((hM0.put0 0 (.int .i64 p)).put0 1 (.int .i64 q)).put0 2 (.int .i64 u)).put0 3 (.int .i64 v);go_simp;exact J _ (hfin.tail) hfin) ?_
 ·exact D5
 ·intro g a W z qq
  have hM9:CE _ _ _ _:=qq;have x6:=z.v.get 6 rfl Ab;rw [z.f.eqs];exact hQ.out _ g.1 _ (by simp [x6]) (A8 hM9)
theorem Tu {Q:Exit->Act->World->Prop} {us:List Value} {bO bX:Nat} {p q u v:Int} {ok:Bool} {w W0:World} {L:Ec} {R:List E9}    (h27:decide (p<=q)=ok) (h0:Hid (CE w ((bX,#[.int .i64 p,.int .i64 q,.int .i64 u,.int .i64 v],68) :: (bO,#[.int .i64 0,.int .i64 0,.int .i64 0,.int .i64 0],68) :: L) R W0)) (hN:us.length=28) (g4:us[4]? = some (.pointer (some ⟨bO,0,none⟩))) (g6:us[6]? = some (.pointer (some ⟨bX,0,none⟩))) {ops:Array Oper} (ho:D8 Tryz.f23.body 4=some ops)
  (hQ:∀ (x:Nat->Value)  (W':World),x 5=.bool ok->Hid (CE w ((bX,#[.int .i64 p,.int .i64 q,.int .i64 u,.int .i64 v],68) :: (bO,#[.int .i64 p,.int .i64 q,.int .i64 u,.int .i64 v],68) :: L) R W')->Q .normal { tmps:=(Dp [22,23,24,25,26,27,5] x us).toArray,defers:=[] } W') :
  (Code.region 4 ops true).wp Tryz.prog Q { tmps:=us.toArray,defers:=[] } W0:=by
 obtain rfl:=AL (ho.symm.trans (rfl:D8 Tryz.f23.body 4=some _))
 clear ho
 replace hQ:=A8 hQ
 let Fl:Unit->FL:=fun g=>[some (22,.agg #[.int .i64 p,.int .i64 q,.int .i64 u,.int .i64 v]),some (23,.pointer (some ⟨bX,0,none⟩)),some (24,.int .i64 p),some (25,.pointer (some ⟨bX,1,none⟩)),some (26,.int .i64 q),some (27,.bool ok),none,some (5,.bool ok)]
 let Ml:Unit->ML:=fun g=>[]
 let Sl_:Unit->List (World->Prop):=fun g=>[fun W=>CE w ((bX,#[.int .i64 p,.int .i64 q,.int .i64 u,.int .i64 v],68) :: (bO,#[.int .i64 0,.int .i64 0,.int .i64 0,.int .i64 0],68) :: L) R W,fun W=>CE w ((bX,#[.int .i64 p,.int .i64 q,.int .i64 u,.int .i64 v],68) :: (bO,#[.int .i64 p,.int .i64 q,.int .i64 u,.int .i64 v],68) :: L) R W]
 have St:Hn 28 [22,23,24,25,26,27,5] [] Fl Ml (CE w L R) Sl_:=⟨fun _=>by kernel_rfl,fun _=>rfl,fun _ _ hb h=>h.call hb,fun g=>(fun _ h=>by cases h),fun g=>BH.2 ⟨fun W W' hb h=>h.call hb,BH.2 ⟨fun W W' hb h=>h.call hb,(fun _ h=>by cases h)⟩⟩⟩
 refine EN St us [6] () hN h0.out.tail.tail.drew h0.out.drew ?_ ?_
 refine CD (stV St 0 rfl rfl rfl (fun _=>rfl) fun g T E W hl hw hs z K J=>by
  have x6:=z.u g6;have k0:W.cell? ⟨bX,0,none⟩=some (.int .i64 p:Value):=z.ld 0 0 0 hl hw hs rfl Ab (fun s=>CE.cell (s) _ _ _ Ah 0);have k1:W.cell? ⟨bX,1,none⟩=some (.int .i64 q:Value):=z.ld 0 0 0 hl hw hs rfl Ab (fun s=>CE.cell (s) _ _ _ Ah 1);have k2:W.cell? ⟨bX,2,none⟩=some (.int .i64 u:Value):=z.ld 0 0 0 hl hw hs rfl Ab (fun s=>CE.cell (s) _ _ _ Ah 2);have k3:W.cell? ⟨bX,3,none⟩=some (.int .i64 v:Value):=z.ld 0 0 0 hl hw hs rfl Ab (fun s=>CE.cell (s) _ _ _ Ah 3);go_simp;exact J) ?_
 refine sV St ?_ (fun z=>z.u g6)
 refine CD (stV St 2 rfl rfl rfl (fun _=>rfl) fun g T E W hl hw hs z K J=>by
  have x23:=z.x 1 hw rfl;have k0:W.cell? ⟨bX,0,none⟩=some (.int .i64 p:Value):=z.ld 2 0 1 hl hw hs rfl Ab ⟨fun s=>CE.cell (s) _ _ _ Ah 0,fun s=>CE.cell (s) _ _ _ Ah 0⟩;go_simp;exact J) ?_
 refine sV St ?_ (fun z=>z.u g6)
 refine CD (stV St 4 rfl rfl rfl (fun _=>rfl) fun g T E W hl hw hs z K J=>by
  have x25:=z.x 3 hw rfl;have k0:W.cell? ⟨bX,1,none⟩=some (.int .i64 q:Value):=z.ld 4 0 1 hl hw hs rfl Ab ⟨fun s=>CE.cell (s) _ _ _ Ah 1,fun s=>CE.cell (s) _ _ _ Ah 1⟩;go_simp;exact J) ?_
 refine sV St ?_ (fun z=>z.x 2 rfl) (fun z=>z.x 4 rfl)
 refine CD (stE 6 0 (.inl rfl) rfl rfl (fun _=>rfl) Ab (fun _=>by kernel_rfl) fun g T E W hl hw hs z q K J=>by
  have x4:=z.u g4;have x22:=z.x 0 hw rfl;have hM0:CE _ _ _ _:=q;have y0:=hM0.cell _ _ _ Ai 0;have w0:=hM0.frozen _ _ _ Ai 0;have y1:=hM0.cell _ _ _ Ai 1;have w1:=hM0.frozen _ _ _ Ai 1;have y2:=hM0.cell _ _ _ Ai 2;have w2:=hM0.frozen _ _ _ Ai 2;have y3:=hM0.cell _ _ _ Ai 3;have w3:=hM0.frozen _ _ _ Ai 3;go_simp;exact J _ (((((hM0.put (A:=[_]) 0 _).put (A:=[_]) 1 _).put (A:=[_]) 2 _).put (A:=[_]) 3 _).tail.tail) ((((hM0.put (A:=[_]) 0 _).put (A:=[_]) 1 _).put (A:=[_]) 2 _).put (A:=[_]) 3 _)) ?_
 refine sV St ?_ (fun z=>z.x 5 rfl)
 ·exact D5
 ·intro g a W z q
  have hM9:CE _ _ _ _:=q;have x5:=z.v.get 7 rfl Ab;rw [z.f.eqs];exact hQ.out _   _ (by simp [x5]) (A8 hM9)
theorem Re {Q:Exit->Act->World->Prop} {us:List Value} {bX:Nat} {p q:Int} {w W0:World} {L:Ec} {R:List E9}    (x18:Dd w L R bX 0 (.int .i64 p)) (x20:Dd w L R bX 1 (.int .i64 q)) (h0:Hid (CE w L R W0)) (hN:us.length=21) (g7:us[7]? = some (.pointer (some ⟨bX,0,none⟩))) {ops:Array Oper} (ho:D8 Tryz.f9.body 4=some ops)
  (hQ:∀ (x:Nat->Value)  (W':World),x 4=.int .i64 p->x 5=.int .i64 q->x 6=.int .i64 0->Hid (CE w L R W')->Q .normal { tmps:=(Dp [17,18,19,20,4,5,6] x us).toArray,defers:=[] } W') :
  (Code.region 4 ops true).wp Tryz.prog Q { tmps:=us.toArray,defers:=[] } W0:=by
 obtain rfl:=AL (ho.symm.trans (rfl:D8 Tryz.f9.body 4=some _))
 clear ho
 replace hQ:=A8 hQ
 let Fl:Unit->FL:=fun g=>[some (17,.pointer (some ⟨bX,0,none⟩)),some (18,.int .i64 p),some (19,.pointer (some ⟨bX,1,none⟩)),some (20,.int .i64 q),some (4,.int .i64 p),some (5,.int .i64 q),some (6,.int .i64 0)]
 let Ml:Unit->ML:=fun g=>[]
 let Sl_:Unit->List (World->Prop):=fun g=>[fun W=>CE w L R W]
 have St:Hn 21 [17,18,19,20,4,5,6] [] Fl Ml (CE w L R) Sl_:=⟨fun _=>by kernel_rfl,fun _=>rfl,fun _ _ hb h=>h.call hb,fun g=>(fun _ h=>by cases h),fun g=>BH.2 ⟨fun W W' hb h=>h.call hb,(fun _ h=>by cases h)⟩⟩
 refine EN St us [] () hN h0.out.drew h0.out.drew ?_ ?_
 refine sV St ?_ (fun z=>z.u g7)
 refine sV St ?_ (fun z=>z.x 0 rfl) (fun z=>x18 _ z.c)
 refine sV St ?_ (fun z=>z.u g7)
 refine sV St ?_ (fun z=>z.x 2 rfl) (fun z=>x20 _ z.c)
 refine sV St ?_ (fun z=>z.x 1 rfl)
 refine sV St ?_ (fun z=>z.x 3 rfl)
 refine sV St ?_
 ·exact D5
 ·intro g a W z q
  have hM9:CE _ _ _ _:=q;have x4:=z.v.get 4 rfl Ab;have x5:=z.v.get 5 rfl Ab;have x6:=z.v.get 6 rfl Ab;rw [z.f.eqs];exact hQ.out _   _ (by simp [x4]) (by simp [x5]) (by simp [x6]) (A8 hM9)
theorem Rf (d tol rate s:Int) (rv sv:Value) (rs:List Rd) (ss:List Sm) (w:World) (h:Gr w d tol rate rv sv rs ss) (hs:0<=s/\s<=10000000) :
  Calls Tryz.prog 23 #[.agg #[.int .i64 d,rv,.int .i64 tol,.int .i64 rate,sv],.int .i64 s] w (CM w (.tuple #[.agg (E7 d tol rate s rs ss).cells,.bool (decide ((E7 d tol rate s rs ss).lo<=(E7 d tol rate s rs ss).hi))])):=by
 have hr:=h.aB
 obtain ⟨ra,rcap,hrv⟩:=h.r.shape
 obtain ⟨sa,scap,hsv⟩:=h.s.shape
 generalize hnr:rs.length=nr at hrv
 generalize hns:ss.length=ns at hsv
 clear hnr hns
 obtain ⟨V1,bG,e1,eG,S1⟩:=(CE.start w).addB #[.int .i64 d,rv,.int .i64 tol,.int .i64 rate,sv] 42
 obtain ⟨V2,bO,e2,eO,S2⟩:=S1.addB #[.int .i64 0,.int .i64 0,.int .i64 0,.int .i64 0] 68
 have hM:=A8 S2
 rw [e1] at e2 eO
 clear S1 S2 e1
 have hO:bO=w.heap.size+1:=by rw [eO];exact AP _ _
 clear eO
 have VA:=A8 (fun W (hb:Below w.heap.size w W)=>QT d tol rate rv sv rs ss W (h.below hb).r (h.below hb).s h.dB h.tB h.aB h.rOk h.sOk)
 have IT:=A8 (fun W=>Jw s 0 10000000 W hs)
 have CT:=A8 (fun W (hb:Below w.heap.size w W)=>Nv d tol rate rv sv rs ss W (h.below hb))
 have LK:=A8 (fun bN W (hg:Ep W bN d tol rate rv sv rs ss)=>Ts bN d tol rate s rv sv rs ss W hg hs hr)
 clear h
 generalize E7 d tol rate s rs ss=b at *
 obtain ⟨p,q,u,v⟩:=b
 dsimp only [Clk.Bnd.cells] at LK |-
 obtain ⟨ok,hok⟩:∃ ok,decide (p<=q)=ok:=⟨_,rfl⟩
 rw [hok]
 subst hrv
 subst hsv
 replace hok:=A8 hok
 go_enter Tryz.func23,Tryz.ntmps23
 go_upto_region 1 with fail
 rw [<-e2,<-hO,<-eG]
 clear e2 hO eG
 have x0:=(hM.out.cell bG _ _ Ai 0).trans (show _=some (Value.int .i64 d) from rfl)
 have x1:=(hM.out.cell bG _ _ Ai 1).trans (show _=some (Value.slice ra nr rcap) from rfl)
 have x2:=(hM.out.cell bG _ _ Ai 2).trans (show _=some (Value.int .i64 tol) from rfl)
 have x3:=(hM.out.cell bG _ _ Ai 3).trans (show _=some (Value.int .i64 rate) from rfl)
 have x4:=(hM.out.cell bG _ _ Ai 4).trans (show _=some (Value.slice sa ns scap) from rfl)
 go_wp2_with fail
 refine Calls.mono (VA.out _ hM.out.below) ?_
 rintro e w1 ⟨rfl,hb⟩
 replace hM:=A8 (hM.out.call hb)
 clear x0 x1 x2 x3 x4 hb VA
 go_wp2_with fail
 refine Calls.mono (IT.out _) ?_
 rintro e w2 ⟨rfl,hb⟩
 replace hM:=A8 (hM.out.call hb)
 clear hb IT
 go_upto_region 3 with fail
 refine Tt (bG:=bG) (d:=d) (tol:=tol) (rate:=rate) (s:=s) (p:=p) (q:=q) (u:=u) (v:=v) (rv:=.slice ra nr rcap) (sv:=.slice sa ns scap) (rs:=rs) (ss:=ss) (fun W hW=>hW.cell _ _ _ Ai 0) (fun W hW=>hW.cell _ _ _ Ai 1) (fun W hW=>hW.cell _ _ _ Ai 2) (fun W hW=>hW.cell _ _ _ Ai 3) (fun W hW=>hW.cell _ _ _ Ai 4)
  (A8 fun W hW=>CT.out W hW.below) (A8 fun bN W hW hg=>LK.out bN W hg) hM rfl rfl rfl Ab ?_
 intro xx bX W' hx6 hM'
 simp only [Dp,BN,BO,A5,A6,hx6]
 clear hM CT LK hx6
 go_upto_region 4 with fail
 refine Tu (bX:=bX) (bO:=bO) (p:=p) (q:=q) (u:=u) (v:=v) (ok:=ok) hok.out hM' rfl rfl rfl Ab ?_
 intro xx W'' hx5 hM
 simp only [Dp,BN,BO,A5,A6,hx5]
 clear hM' hx5
 have hB:=hM.out.blks _ Ai
 have r0:=hB.cell 0
 have r1:=hB.cell 1
 have r2:=hB.cell 2
 have r3:=hB.cell 3
 simp only [BR,Cm,Cn] at r0 r1 r2 r3
 have hfin:=A8 hM.out.below
 clear hM hB
 go_wp2
 exact bodyPost_ret (v:=.tuple #[.agg #[.int .i64 p,.int .i64 q,.int .i64 u,.int .i64 v],.bool ok]) (by simp [results,Tryz.results23,go_sem,r0,r1,r2,r3]) rfl ⟨rfl,hfin.out⟩
theorem OR (d tol rate s:Int) (rv sv:Value) (rs:List Rd) (ss:List Sm) (w:World) (h:Gr w d tol rate rv sv rs ss) (hs:0<=s/\s<=10000000) (hle:(E7 d tol rate s rs ss).lo<=(E7 d tol rate s rs ss).hi) :
  Calls Tryz.prog 9 #[.agg #[.int .i64 d,rv,.int .i64 tol,.int .i64 rate,sv],.int .i64 s] w (CM w (.tuple #[.int .i64 (E7 d tol rate s rs ss).lo,.int .i64 (E7 d tol rate s rs ss).hi,.int .i64 0])):=by
 obtain ⟨ra,rcap,hrv⟩:=h.r.shape
 obtain ⟨sa,scap,hsv⟩:=h.s.shape
 generalize hnr:rs.length=nr at hrv
 generalize hns:ss.length=ns at hsv
 clear hnr hns
 obtain ⟨V1,bG,e1,eG,S1⟩:=(CE.start w).addB #[.int .i64 d,rv,.int .i64 tol,.int .i64 rate,sv] 42
 have hM:=A8 S1
 clear S1
 have FO:=A8 (fun W (hb:Below w.heap.size w W)=>Rf d tol rate s rv sv rs ss W (h.below hb) hs)
 clear h hs
 generalize E7 d tol rate s rs ss=b at *
 obtain ⟨p,q,u,v⟩:=b
 dsimp only [Clk.Bnd.cells] at FO hle |-
 rw [Ay hle] at FO
 subst hrv
 subst hsv
 clear hle
 go_enter Tryz.func9,Tryz.ntmps9
 go_upto_region 1 with fail
 rw [<-e1,<-eG]
 clear e1 eG
 have x0:=(hM.out.cell bG _ _ Ah 0).trans (show _=some (Value.int .i64 d) from rfl)
 have x1:=(hM.out.cell bG _ _ Ah 1).trans (show _=some (Value.slice ra nr rcap) from rfl)
 have x2:=(hM.out.cell bG _ _ Ah 2).trans (show _=some (Value.int .i64 tol) from rfl)
 have x3:=(hM.out.cell bG _ _ Ah 3).trans (show _=some (Value.int .i64 rate) from rfl)
 have x4:=(hM.out.cell bG _ _ Ah 4).trans (show _=some (Value.slice sa ns scap) from rfl)
 go_wp2_with fail
 refine Calls.mono (FO.out _ hM.out.below) ?_
 rintro e w1 ⟨rfl,hb⟩
 replace hM:=A8 (hM.out.call hb)
 clear x0 x1 x2 x3 x4 hb FO
 obtain ⟨V5,bX,e5,hB5,hM5⟩:=CE.addB hM.out #[.int .i64 p,.int .i64 q,.int .i64 u,.int .i64 v] 68
 replace hM5:=A8 hM5
 go_upto_region 2 with fail
 rw [<-e5,<-hB5]
 clear e5 hB5 hM
 go_upto_region 4 with fail
 refine Re (bX:=bX) (p:=p) (q:=q) (fun W hW=>(hM5.out.call hW.below).cell _ _ _ Ah 0) (fun W hW=>(hM5.out.call hW.below).cell _ _ _ Ah 1) (A8 (CE.start _)) rfl rfl Ab ?_
 intro xx W' hx4 hx5 hx6 hM
 simp only [Dp,BN,BO,A5,A6,hx4,hx5,hx6]
 have hfin:=A8 (hM5.out.call hM.out.below).below
 clear hM hM5 hx4 hx5 hx6
 go_wp2
 exact bodyPost_ret (v:=.tuple #[.int .i64 p,.int .i64 q,.int .i64 0]) (by simp [results,Tryz.results9,go_sem]) rfl ⟨rfl,hfin.out⟩
end
section
namespace Clk
theorem Tv (ix l h:Int) (b:Bnd):(stepB ix l h b).lo=max b.lo l:=by
 unfold stepB Kj;dsimp only;by_cases h1:b.lo<l
 ·simp [h1];omega
 ·by_cases h2:l=b.lo
  ·simp [h2]
  ·simp [h1,h2];omega
theorem Tw (ix l h:Int) (b:Bnd):(stepB ix l h b).hi=min b.hi h:=by
 unfold stepB Is;dsimp only;by_cases h1:h<b.hi
 ·simp [h1];omega
 ·by_cases h2:h=b.hi
  ·simp [h2]
  ·simp [h1,h2];omega
theorem foF_ok {d tol rate s V:Int} {rs:List Rd} {ss:List Sm} (b0:Bnd) (h0:-1000000<=b0.lo/\b0.lo<=V/\V<=b0.hi/\b0.hi<=1000000):∀ l:List Nat,(∀ i∈l,(DQ d tol rs ss i).lo-DZ rate s (DQ d tol rs ss i).fi (DQ d tol rs ss i).la<=V/\V<=(DQ d tol rs ss i).hi+DZ rate s (DQ d tol rs ss i).fi (DQ d tol rs ss i).la) ->
  -1000000<=(JC d tol rate s rs ss b0 l).lo/\(JC d tol rate s rs ss b0 l).lo<=V/\V<=(JC d tol rate s rs ss b0 l).hi/\(JC d tol rate s rs ss b0 l).hi<=1000000:=by
 intro l
 induction l generalizing b0 with
 | nil=>intro _;exact h0
 | cons i l ih =>
  intro h;obtain ⟨h1,h2⟩:=h i AW;show _<=(JC d tol rate s rs ss (smF d tol rate s rs ss b0 i) l).lo/\_;refine ih _ ?_ (fun j hj=>h j (AZ _ hj));unfold smF;rw [Tv,Tw];omega
theorem look_ok {d tol rate s V:Int} {rs:List Rd} {ss:List Sm} (hV:-1000000<=V/\V<=1000000) (h:∀ i,i<ss.length->(DQ d tol rs ss i).lo-DZ rate s (DQ d tol rs ss i).fi (DQ d tol rs ss i).la<=V/\V<=(DQ d tol rs ss i).hi+DZ rate s (DQ d tol rs ss i).fi (DQ d tol rs ss i).la) :
  -1000000<=(E7 d tol rate s rs ss).lo/\(E7 d tol rate s rs ss).lo<=V/\V<=(E7 d tol rate s rs ss).hi/\(E7 d tol rate s rs ss).hi<=1000000 :=
 foF_ok _ ⟨Cc _,hV.1,hV.2,Cc _⟩ _ fun i hi=>h i (Aw.1 hi)
theorem Nw {st:Int} {c:Nat->Int} {n:Nat} {rs:List Rd} (h:∀ i,i<rs.length->I6 st c n (Dn rs i)):∀ r∈rs,I6 st c n r:=fun r hr=>by
 obtain ⟨i,hi,e⟩:=List.mem_iff_getElem.1 hr;have h1:=h i hi;have h2:=FJ hi;rw [Au hi,e] at h2;rw [AL h2];exact h1
def PY (st:Int) (c:Nat->Int) (n:Nat) (v0 each tol:Int) (p:Sm):Prop:=∃ t,0<=t/\t<=10000000/\p.loc=DD st c n t/\p.val-tol<=v0+each*t/\v0+each*t<=p.val+tol
structure Jd (st:Int) (c:Nat->Int) (n:Nat) (v0 each d tol rate:Int) (rs:List Rd) (ss:List Sm):Prop where
 dB:0<=d/\d<=100
 cB:∀ i,-d<=c i/\c i<=d
 eB:-rate<=each/\each<=rate
 r:∀ i,i<rs.length->I6 st c n (Dn rs i)
 s:∀ i,i<ss.length->PY st c n v0 each tol (CW ss i)
theorem Jd.win {st:Int} {c:Nat->Int} {n:Nat} {v0 each d tol rate:Int} {rs:List Rd} {ss:List Sm} (h:Jd st c n v0 each d tol rate rs ss) (i:Nat) (hi:i<ss.length):∃ t,EP d (CW ss i).loc rs 0<=t/\t<=DM d (CW ss i).loc rs 10000000/\(CW ss i).val-tol<=v0+each*t/\v0+each*t<=(CW ss i).val+tol:=by
 obtain ⟨t,h0,h1,h2,h3,h4⟩:=h.s i hi;rw [h2];exact ⟨t,Pf h.dB h.cB h0 rs 0 (Nw h.r) h0,Mf h.dB h.cB h0 rs 10000000 (Nw h.r) h1,h3,h4⟩
theorem Jd.look {st:Int} {c:Nat->Int} {n:Nat} {v0 each d tol rate:Int} {rs:List Rd} {ss:List Sm} (h:Jd st c n v0 each d tol rate rs ss) (s:Int) (hV:-1000000<=v0+each*s/\v0+each*s<=1000000) :
  -1000000<=(E7 d tol rate s rs ss).lo/\(E7 d tol rate s rs ss).lo<=v0+each*s/\v0+each*s<=(E7 d tol rate s rs ss).hi/\(E7 d tol rate s rs ss).hi<=1000000:=by
 refine look_ok hV fun i hi=>?_
 obtain ⟨t,h1,h2,h3,h4⟩:=h.win i hi
 exact Q7 h.eB h1 h2 ⟨h3,h4⟩
theorem Jd.wins {st:Int} {c:Nat->Int} {n:Nat} {v0 each d tol rate:Int} {rs:List Rd} {ss:List Sm} (h:Jd st c n v0 each d tol rate rs ss) (i:Nat) (hi:i<ss.length):EP d (CW ss i).loc rs 0<=DM d (CW ss i).loc rs 10000000:=by
 obtain ⟨t,h1,h2,_⟩:=h.win i hi;omega
end Clk
end
section
open Go.RowKit
open Clk
attribute [local go_sem] Oper.semAt_some
def M9 (dr st tl rt fi:Int) (ra re sp sa:Value):Array Value:=#[.int .i64 dr,.int .i64 st,ra,re,.int .i64 tl,.int .i64 rt,.int .i64 fi,sp,sa]
theorem EU (c m:Int) (hc:CI c) (h0:0<m) (h1:m<=9223372036854775807) (w:World):Calls Tryz.prog 43 #[.int .i64 c,.int .i64 m] w fun e w'=>e=.returned (.int .i64 (DB c m))/\w=w':=by
 obtain ⟨hc0,hc1⟩:=hc;have hmz:(m==0)=false:=by rw [Am];omega
 by_cases hc:c<0
 ·have hp:0<=-(c+1):=by omega
  have e:=A8 (show -(c+1) % m=DB c m by unfold DB;rw [AI hc]);have e2:=A8 (show -((c+1).tmod m)=-(c+1) % m by rw [<-Int.neg_tmod,Int.tmod_eq_emod_of_nonneg hp]);go_enter Tryz.func43,Tryz.ntmps43;go_wp2;go_ret;first | exact ⟨D9 e.out,rfl⟩ | exact ⟨D9 (e2.out.trans e.out),rfl⟩
 ·have hp:0<=c:=by omega
  have e:=A8 (show c % m=DB c m by unfold DB;rw [AF hc]);go_enter Tryz.func43,Tryz.ntmps43;go_wp2;go_ret;exact ⟨D9 e.out,rfl⟩
theorem EB (c m:Int) (hc:CI c) (h0:0<m) (h1:m<=9223372036854775807) (w:World):Calls Tryz.prog 18 #[.int .i64 c,.int .i64 m] w fun e w'=>e=.returned (.int .i64 (DB c m))/\w=w':=by
 obtain ⟨hc0,hc1⟩:=hc;have hmz:(m==0)=false:=by rw [Am];omega
 by_cases hc:c<0
 ·have hp:0<=-(c+1):=by omega
  have e:=A8 (show -(c+1) % m=DB c m by unfold DB;rw [AI hc]);have e2:=A8 (show -((c+1).tmod m)=-(c+1) % m by rw [<-Int.neg_tmod,Int.tmod_eq_emod_of_nonneg hp]);go_enter Tryz.func18,Tryz.ntmps18;go_wp2;go_ret;first | exact ⟨D9 e.out,rfl⟩ | exact ⟨D9 (e2.out.trans e.out),rfl⟩
 ·have hp:0<=c:=by omega
  have e:=A8 (show c % m=DB c m by unfold DB;rw [AF hc]);go_enter Tryz.func18,Tryz.ntmps18;go_wp2;go_ret;exact ⟨D9 e.out,rfl⟩
theorem Je (c m:Int) (hc:CI c) (h0:0<m) (h1:m<=9223372036854775807) (w:World):Calls Tryz.prog 8 #[.int .i64 c,.int .i64 m] w fun e w'=>e=.returned (.int .i64 (DB c m))/\w=w':=by
 obtain ⟨hc0,hc1⟩:=hc;have hmz:(m==0)=false:=by rw [Am];omega
 by_cases hc:c<0
 ·have hp:0<=-(c+1):=by omega
  have e:=A8 (show -(c+1) % m=DB c m by unfold DB;rw [AI hc]);have e2:=A8 (show -((c+1).tmod m)=-(c+1) % m by rw [<-Int.neg_tmod,Int.tmod_eq_emod_of_nonneg hp]);go_enter Tryz.func8,Tryz.ntmps8;go_wp2;go_ret;first | exact ⟨D9 e.out,rfl⟩ | exact ⟨D9 (e2.out.trans e.out),rfl⟩
 ·have hp:0<=c:=by omega
  have e:=A8 (show c % m=DB c m by unfold DB;rw [AF hc]);go_enter Tryz.func8,Tryz.ntmps8;go_wp2;go_ret;exact ⟨D9 e.out,rfl⟩
theorem tol_any (dr st tl rt fi:Int) (ra re sp sa:Value) (w:World) (hc:CI tl) :
  Calls Tryz.prog 20 #[.agg (M9 dr st tl rt fi ra re sp sa)] w (CM w (.int .i64 (DB tl 31))):=by
 have P:=A8 (fun W=>EB tl 31 hc Ad Ad W)
 unfold M9
 obtain ⟨V1,bS,e1,eS,S1⟩:=(CE.start w).addB #[.int .i64 dr,.int .i64 st,ra,re,.int .i64 tl,.int .i64 rt,.int .i64 fi,sp,sa] 26
 have hM:=A8 S1
 clear S1 hc
 go_enter Tryz.func20,Tryz.ntmps20
 go_upto_region 1 with fail
 rw [<-e1,<-eS]
 clear e1 eS
 have x0:=(hM.out.cell bS _ _ Ah 4).trans (show _=some (Value.int .i64 tl) from rfl)
 go_wp2_with fail
 refine Calls.mono (P.out _) ?_
 rintro e w1 ⟨rfl,rfl⟩
 have hfin:=A8 hM.out.below
 clear hM x0 P
 go_wp2
 go_ret
 exact ⟨rfl,hfin.out⟩
theorem Nx (dr st tl rt fi:Int) (ra re sp sa:Value) (w:World) (hc:CI rt) :
  Calls Tryz.prog 21 #[.agg (M9 dr st tl rt fi ra re sp sa)] w (CM w (.int .i64 (DB rt 21))):=by
 have P:=A8 (fun W=>EB rt 21 hc Ad Ad W)
 unfold M9
 obtain ⟨V1,bS,e1,eS,S1⟩:=(CE.start w).addB #[.int .i64 dr,.int .i64 st,ra,re,.int .i64 tl,.int .i64 rt,.int .i64 fi,sp,sa] 26
 have hM:=A8 S1
 clear S1 hc
 go_enter Tryz.func21,Tryz.ntmps21
 go_upto_region 1 with fail
 rw [<-e1,<-eS]
 clear e1 eS
 have x0:=(hM.out.cell bS _ _ Ah 5).trans (show _=some (Value.int .i64 rt) from rfl)
 go_wp2_with fail
 refine Calls.mono (P.out _) ?_
 rintro e w1 ⟨rfl,rfl⟩
 have hfin:=A8 hM.out.below
 clear hM x0 P
 go_wp2
 go_ret
 exact ⟨rfl,hfin.out⟩
end
section
open Go.RowKit
attribute [local go_sem] Oper.semAt_some
theorem Lh {w:World} {b b':Nat} {e:TypeId} {size:Nat} {v:Value} {n:Nat} {xs:List Value} (h:w.ownsRow b e size v n xs) (hb:b'<=b):w.ownsRow b' e size v n xs :=
 ⟨h.1,h.2.imp id fun ⟨g,cap,cur,e1,e2,r⟩=>⟨g,cap,cur,e1,AN hb e2,r⟩⟩
theorem info_rd:(Tryz.prog.info? 89).map (fun i=>(i.zero,i.size,i.bytes))=some (some (.agg #[.int .i64 0,.int .i64 0,.int .i64 0]),3,24):=by kernel_rfl
theorem OS {P:Program} {w:World} {base:Nat} (t ty e:TypeId) (z:Value) (bytes:Nat) (ht:P.underlying t=some (.slice e)) (hi:(P.info? e).map (fun i=>(i.zero,i.size,i.bytes))=some (some z,3,bytes)) (hz:z.cells.size=3)
  (v:Value) (n:Nat) (xs:List Value) (hown:w.ownsRow base e 3 v n xs) (g:Nat) (u1 u2 u3:Value) (hu1:w.cell? ⟨g,0,none⟩=some u1) (hu2:w.cell? ⟨g,1,none⟩=some u2) (hu3:w.cell? ⟨g,2,none⟩=some u3) (h1:u1.oneCell'=true) (h2:u2.oneCell'=true) (h3:u3.oneCell'=true) (hn:(n+1)*bytes<=140737488355328) (hn2:n<=1000000) (hbase:base<=w.heap.size) :
  ∃ v' w',(Builtin.append_ #[t,t] ty #[v,.slice (some ⟨g,0,none⟩) 1 1]).run P w=.ok v' w'/\w'.ownsRow base e 3 v' (n+1) (xs++[u1,u2,u3])/\w.grownBy w' v.ownBlock/\∀ b,v'.ownBlock=some b->v.ownBlock=some b∨w.heap.size<=b:=by
 obtain ⟨i0,hi,hz0,hz1,hz2⟩:=info_parts hi
 have hnews:∀ j y,[u1,u2,u3][j]? = some y->w.cell? ((⟨g,0,none⟩:Addr).add j)=some y:=fun j y hj=>by
  match j,hj with
  | 0,hj=>cases hj;rw [E5];exact hu1
  | 1,hj=>cases hj;rw [E5];exact hu2
  | 2,hj=>cases hj;rw [E5];exact hu3
 have h1c:∀ y∈[u1,u2,u3],y.oneCell'=true:=by
  intro y hy;simp only [As,AQ,or_false] at hy;rcases hy with rfl | rfl | rfl
  ·exact h1
  ·exact h2
  ·exact h3
 have blkOf:∀ {v':Value} {w':World} {n':Nat} {xs':List Value},w'.ownsRow w.heap.size e 3 v' n' xs'->∀ b,v'.ownBlock=some b->v.ownBlock=some b∨w.heap.size<=b:=fun h b hb=>.inr (h.lt b hb).1
 have hown0:=hown
 rcases hown.2 with ⟨rfl,rfl⟩ | ⟨g0,cap,cur,rfl,hb,hg,hcap,hmax,hsz,htk⟩
 ·obtain ⟨v',w',hrun,r1,r2,_⟩:=run_append_own (P:=P) w w.heap.size t ty e i0 z 3 bytes ht hi hz0 hz1 hz2 hz Ae (.slice none 0 0) 0 [] (World.ownsRow_nil w _ _ 3) ⟨g,0,none⟩ 1 1 [u1,u2,u3] rfl hnews h1c (by unfold maxLen;omega) Ad (Aa _)
  obtain rfl:xs=[]:=AS (by have:=hown.1;simpa using this);exact ⟨v',w',hrun,Lh r1 hbase,r2,blkOf r1⟩
 ·by_cases hroom:n+1<=cap
  ·obtain ⟨w',hrun,r1,r2⟩:=run_append_own_spare (P:=P) w base t ty e i0 3 ht hi hz1 g0 n cap xs hown0 ⟨g,0,none⟩ 1 1 [u1,u2,u3] rfl hnews h1c hroom
   exact ⟨_,w',hrun,r1,r2,fun b hb=>.inl hb⟩
  ·obtain ⟨v',w',hrun,r1,r2⟩:=run_append_arg_grows (P:=P) w t ty e i0 z 3 bytes ht hi hz0 hz1 hz2 hz Ae ⟨g0,0,none⟩ n cap xs (by have:=hown.1;simpa using this) (fun j y hj=>hown0.cells (g:=g0) rfl j y hj) ⟨g,0,none⟩ 1 1 [u1,u2,u3] rfl hnews Ad (by unfold maxLen;omega) hn
   exact ⟨v',w',hrun,Lh r1 hbase,⟨r2.os,r2.tape,r2.output,r2.size,fun k hk _=>r2.block k hk Af⟩,blkOf r1⟩
theorem Ny {o:Oper} {a:Act} {K:Act->World->Prop} {Q:Exit->Act->World->Prop} {w:World} {base:Nat} (t:TypeId) (ht:Tryz.prog.underlying t=some (.slice 89))
  (s x:Operand) (ho:o.op=.call { callee:=.builtin .append,args:=#[s,x],argTypes:=#[t,t] }) (v:Value) (n:Nat) (xs:List Value) (hs:a.eval s=v) (hown:w.ownsRow base 89 3 v n xs)
  (g:Nat) (u1 u2 u3:Value) (hx:a.eval x=.slice (some ⟨g,0,none⟩) 1 1) (hu1:w.cell? ⟨g,0,none⟩=some u1) (hu2:w.cell? ⟨g,1,none⟩=some u2) (hu3:w.cell? ⟨g,2,none⟩=some u3) (h1:u1.oneCell'=true) (h2:u2.oneCell'=true) (h3:u3.oneCell'=true) (hn2:n<=1000000) (hbase:base<=w.heap.size)
  (h:∀ v' w',w'.ownsRow base 89 3 v' (n+1) (xs++[u1,u2,u3])->w.grownBy w' v.ownBlock->(∀ b,v'.ownBlock=some b->v.ownBlock=some b∨w.heap.size<=b)->K (a.put o.dst v') w') :
  Oper.wp Tryz.prog o a w K Q:=by
 obtain ⟨v',w',hrun,r1,r2,r3⟩:=OS (P:=Tryz.prog) t o.type 89 _ 24 ht info_rd rfl v n xs hown g u1 u2 u3 hu1 hu2 hu3 h1 h2 h3 Ad hn2 hbase
 unfold Oper.wp
 simp [execOp,ho,resolve,invoke,builtin,hs,hx,hrun,Result.andThen]
 exact h v' w' r1 r2 r3
theorem KL {ops:Array Oper} {rest:List Oper} {o:Oper} {a:Act} {Q:Exit->Act->World->Prop} {w:World} {base:Nat} (hgd:o.guard=none) (t:TypeId) (ht:Tryz.prog.underlying t=some (.slice 89))
  (s x:Operand) (ho:o.op=.call { callee:=.builtin .append,args:=#[s,x],argTypes:=#[t,t] }) (v:Value) (n:Nat) (xs:List Value) (hs:a.eval s=v) (hown:w.ownsRow base 89 3 v n xs)
  (g:Nat) (u1 u2 u3:Value) (hx:a.eval x=.slice (some ⟨g,0,none⟩) 1 1) (hu1:w.cell? ⟨g,0,none⟩=some u1) (hu2:w.cell? ⟨g,1,none⟩=some u2) (hu3:w.cell? ⟨g,2,none⟩=some u3) (h1:u1.oneCell'=true) (h2:u2.oneCell'=true) (h3:u3.oneCell'=true) (hn2:n<=1000000) (hbase:base<=w.heap.size)
  (h:∀ g' cap w',w'.ownsRow base 89 3 (.slice (some ⟨g',0,none⟩) (n+1) cap) (n+1) (xs++[u1,u2,u3])->w.grownBy w' v.ownBlock->(∀ b,(Value.slice (some ⟨g',0,none⟩) (n+1) cap).ownBlock=some b->v.ownBlock=some b∨w.heap.size<=b)->wpList Tryz.prog ops Q rest (a.put o.dst (.slice (some ⟨g',0,none⟩) (n+1) cap)) w') :
  wpList Tryz.prog ops Q (o :: rest) a w :=
 wpList_plain hgd fun _ hK=>Ny t ht s x ho v n xs hs hown g u1 u2 u3 hx hu1 hu2 hu3 h1 h2 h3 hn2 hbase fun v' w' r1 r2 r3=>by
  have r1':=r1;rcases r1.2 with ⟨rfl,h0⟩ | ⟨g',cap,cur,rfl,_⟩
  ·omega
  ·exact hK _ _ (h g' cap w' r1' r2 r3)
end
section
open Go.RowKit
open Clk
attribute [local go_sem] Oper.semAt_some
def Dq (d:Int) (rs:List Int) (i:Nat):Int:=DB (gi rs i) (2*d+1)-d
theorem Gd {d:Int} (hd:0<=d) (rs:List Int) (i:Nat):-d<=Dq d rs i/\Dq d rs i<=d:=by
 have h1:=CP (c:=gi rs i) (m:=2*d+1) Ad;have h2:=Ds (c:=gi rs i) (m:=2*d+1) Ad;unfold Dq;omega
theorem PZ {c:Nat->Int} {d t:Int} (hd:0<=d/\d<=100) (hc:∀ i,-d<=c i/\c i<=d):∀ n:Nat,-(10000*n:Int)<=Gw c t n/\Gw c t n<=10000*n
 | 0=>by simp [Gw]
 | n+1=>by
  obtain ⟨h1,h2⟩:=PZ hd hc (t:=t) n;have h3:0<=Gu t n/\Gu t n<=100:=by unfold Gu;omega
  have h4:=Az (hc n).1 h3.1;have h5:=Az (hc n).2 h3.1;have h6:=BV h3.2 hd.1;rw [Cs] at h4;show -(10000*((n+1:Nat):Int))<=Gw c t n+c n*Gu t n/\Gw c t n+c n*Gu t n<=10000*((n+1:Nat):Int);omega
theorem Q0 {c:Nat->Int} {t:Int} {i:Nat} (h:t<=100*i):∀ k:Nat,Gw c t (i+k)=Gw c t i
 | 0=>rfl
 | k+1=>by
  show Gw c t (i+k)+c (i+k)*Gu t (i+k)=_;rw [Q0 h k,show Gu t (i+k)=0 by unfold Gu;omega];simp
theorem Lf (dr st t:Int) (rv:Value) (rs:List Int) (w:World) (h:Sl w rv rs) (h1:CI dr) (h2:CI st) (hf:∀ i,CI (gi rs i)) (ht:0<=t/\t<=1000000) :
  Calls Tryz.prog 22 #[.int .i64 dr,.int .i64 st,rv,.int .i64 t] w (CM w (.int .i64 (DD (DB st 1000) (Dq (DB dr 101) rs) (min rs.length 20) t))):=by
 obtain ⟨a,cap,rfl⟩:=h.shape
 have P1:=A8 (fun W=>EU dr 101 h1 Ad Ad W)
 have P2:=A8 (fun W=>EU st 1000 h2 Ad Ad W)
 have b1:=CP (c:=dr) (m:=101) Ad
 have b2:=Ds (c:=dr) (m:=101) Ad
 have b3:=CP (c:=st) (m:=1000) Ad
 have b4:=Ds (c:=st) (m:=1000) Ad
 generalize DB dr 101=d at *
 generalize DB st 1000=s0 at *
 have hcb:=A8 (Gd b1 rs)
 have hab:=A8 (fun n=>PZ (t:=t) ⟨b1,Ad⟩ (Gd b1 rs) n)
 have PI:=A8 (fun i W=>EU (gi rs i) (2*d+1) (hf i) Ad Ad W)
 have hrc:=A8 (fun i=>show Dq d rs i=DB (gi rs i) (2*d+1)-d from rfl)
 have hpos:Hid (0<=Jk (Dq d rs) (min rs.length 20) t):=A8 (by
  have:=(Jp (c:=Dq d rs) b1 (Gd b1 rs) (Cc 0) ht.1 (min rs.length 20)).1;rw [IC] at this;have:=BF (show 0<=1000-d by omega) (show 0<=t-0 by omega);omega)
 have HS:=A8 h
 have hlen:=h.len_le
 unfold maxLen at hlen
 have hsh:Hid (DD s0 (Dq d rs) (min rs.length 20) t=s0+(Gw (Dq d rs) t (min rs.length 20)+1000*t) / 1000):=A8 rfl
 have hgo:Hid (Jk (Dq d rs) (min rs.length 20) t=Gw (Dq d rs) t (min rs.length 20)+1000*t):=A8 rfl
 rw [hsh.out]
 rw [hgo.out] at hpos
 clear hsh hgo h hf h1 h2
 obtain ⟨n,hn⟩:∃ n,n=rs.length:=⟨_,rfl⟩
 rw [<-hn] at HS hlen hpos |-
 replace hn:=A8 hn
 have w1:IntKind.i64.wrap (2*d)=2*d:=Bz _ Ad
 have w2:IntKind.i64.wrap (2*d+1)=2*d+1:=Bz _ Ad
 have w3:IntKind.i64.wrap (1000*t)=1000*t:=Bz _ Ad
 obtain ⟨r,hr⟩:∃ r,r=s0+(Gw (Dq d rs) t (min n 20)+1000*t) / 1000:=⟨_,rfl⟩
 rw [<-hr]
 replace hr:=A8 hr
 go_enter Tryz.func22,Tryz.ntmps22
 go_wp2_with fail
 refine Calls.mono (P1.out _) ?_
 rintro e w1 ⟨rfl,rfl⟩
 clear P1
 go_wp2_with fail
 go_loopw [10,11] (fun q o wr=>∃ i:Nat,q=.int .i64 (Gw (Dq d rs) t i)/\o=.int .i64 i/\i<=min n 20/\Hid (Below w.heap.size w wr)) (fun _ o _=>20-(intOf o).toNat)
 case atStart=>exact ⟨0,rfl,rfl,Ad,A8 (Below.refl _ _)⟩
 case round =>
  obtain ⟨i,rfl,rfl,hi,hB⟩:=hrel;have hqb:=hab.out i;by_cases hc:i<n/\i<20/\100*(i:Int)<t;case neg =>
   have hdn:Gw (Dq d rs) t i=Gw (Dq d rs) t (min n 20):=by
    by_cases he:i=min n 20
    ·rw [<-he]
    ·have:=Q0 (c:=Dq d rs) (t:=t) (i:=i) Ad (min n 20-i)
     rw [show i+(min n 20-i)=min n 20 by omega] at this;exact this.symm
   have hr2:=hr.out;have hp2:=hpos.out;rw [<-hdn] at hr2 hp2;clear hdn hpos hab hcb PI;generalize Gw (Dq d rs) t i=q at *
   have e4:IntKind.i64.wrap (q+1000*t)=q+1000*t:=Bz _ Ad;have e5:IntKind.i64.wrap ((q+1000*t).tdiv 1000)=(q+1000*t) / 1000:=by
    rw [Int.tdiv_eq_ediv_of_nonneg hp2];exact Bz _ Ad
   have e6:IntKind.i64.wrap (s0+(q+1000*t) / 1000)=r:=by rw [hr2];exact Bz _ Ad
   replace hr2:=A8 hr2;have e7:IntKind.i64.wrap (100*(i:Int))=100*i:=Bz _ Ad;rcases (show (¬ (i:Int)<n)∨((i:Int)<n/\¬ (i:Int)<20)∨((i:Int)<n/\(i:Int)<20/\¬ 100*(i:Int)<t) by omega) with g1 | ⟨g1,g2⟩ | ⟨g1,g2,g3⟩;all_goals
    clear hc
    go_wp2_with fail
    refine Calls.mono (P2.out _) ?_
    rintro e w1 ⟨rfl,rfl⟩
    go_wp2
    go_ret
    exact ⟨rfl,hB.out⟩
  case pos =>
   obtain ⟨hin,hi20,hit⟩:=hc;clear hpos hr;obtain ⟨b,off,ea,hbw,c0⟩:∃ b off,a=some ⟨b,off,none⟩/\b<w.heap.size/\w.cell? ⟨b,off+i,none⟩=some (.int .i64 (gi rs i)):=by
    rcases HS.out with ⟨e,e2⟩ | ⟨b,off,cap',e,h1,h2,h3,h4⟩
    ·have:=hn.out;rw [e2] at this;simp at this;omega
    ·cases e
     exact ⟨b,off,rfl,h3,h4 i (by rw [<-hn.out];exact hin)⟩
   subst ea;replace c0:=(hB.out.cell (p:=⟨b,off+i,none⟩) hbw).trans c0;have PP:=A8 (PI.out i);have hci:=hcb.out i;have hnx:Hid (Gw (Dq d rs) t (i+1)=Gw (Dq d rs) t i+Dq d rs i*Gu t i):=A8 rfl;have hrci:=hrc.out i;have hq2:=hab.out (i+1);rw [hnx.out] at hq2;have hmi:min (t-100*(i:Int)) 100=Gu t i:=by unfold Gu;omega
   have hcl:0<=Gu t i/\Gu t i<=100:=by unfold Gu;omega
   clear PI hab hcb hrc;generalize Gw (Dq d rs) t i=q at *
   generalize Dq d rs i=ci at *
   generalize gi rs i=gv at *
   generalize Gu t i=y at *
   generalize DB gv (2*d+1)=pk at *
   have hcy:-10000<=ci*y/\ci*y<=10000:=by
    have h4:=Az hci.1 hcl.1;have h5:=Az hci.2 hcl.1;have h6:=BV hcl.2 b1;rw [Cs] at h4;omega
   have e1:IntKind.i64.wrap (pk-d)=ci:=by rw [<-hrci];exact Bz _ Ad
   have e2:IntKind.i64.wrap (100*(i:Int))=100*i:=Bz _ Ad;have e3:IntKind.i64.wrap (t-100*(i:Int))=t-100*i:=Bz _ Ad;have e4:IntKind.i64.wrap (ci*y)=ci*y:=Bz _ Ad;have e5:IntKind.i64.wrap (q+ci*y)=q+ci*y:=Bz _ Ad;replace hrci:=A8 hrci;have g1:(i:Int)<n:=by omega
   have g2:(i:Int)<20:=by omega
   go_wp2_with fail;refine Calls.mono (PP.out _) ?_;rintro e w1 ⟨rfl,rfl⟩;clear PP c0;go_wp2_with fail;go_roundw;case rel=>exact ⟨i+1,by rw [hnx.out],by go_num,Ad,hB⟩
   case measure=>simp [intOf];omega
end
section
namespace Clk
structure Tri where
 a:Int
 b:Int
 c:Int
def CX (qs:List Tri) (i:Nat):Tri:=qs.getD i ⟨0,0,0⟩
theorem Iu {qs:List Tri} {i:Nat} (h:i<qs.length):qs[i]? = some (CX qs i):=by
 unfold CX;rw [Au h,List.getD_eq_getElem?_getD,Au h];rfl
theorem Iw {rs:List Rd} {r:Rd} {k:Nat} (h:k<rs.length):Dn (rs++[r]) k=Dn rs k:=by
 have h1:=FJ (rs:=rs++[r]) (i:=k) (by simp;omega);rw [List.getElem?_append_left h,FJ h] at h1;exact (AL h1).symm
theorem Kq {rs:List Rd} {r:Rd}:Dn (rs++[r]) rs.length=r:=by
 have h1:=FJ (rs:=rs++[r]) (i:=rs.length) Af;rw [BA (Aa _)] at h1;simpa using h1.symm
theorem Li {rs:List Rd} {r:Rd}:∀ {k:Nat},k<=rs.length->Hm (rs++[r]) k=Hm rs k
 | 0,_=>rfl
 | k+1,h=>by
  show (Dn (rs++[r]) k).loc=(Dn rs k).loc;rw [Iw Ad]
structure Jn (st:Int) (c:Nat->Int) (n:Nat) (rs:List Rd):Prop where
 at_:∀ i,i<rs.length->Hm rs i<(Dn rs i).loc/\(Dn rs i).loc<=10000000/\0<=(Dn rs i).lo/\(Dn rs i).lo<=(Dn rs i).hi/\(Dn rs i).hi<=10000000
 pos:∀ i,i<rs.length->0<=(Dn rs i).loc
 true_:∀ i,i<rs.length->I6 st c n (Dn rs i)
theorem Jn.nil (st:Int) (c:Nat->Int) (n:Nat):Jn st c n []:=⟨fun _ h=>(by cases h),fun _ h=>(by cases h),fun _ h=>(by cases h)⟩
theorem Jn.snoc {st:Int} {c:Nat->Int} {n:Nat} {rs:List Rd} (h:Jn st c n rs) (r:Rd) (hp:Hm rs rs.length<r.loc) (h0:0<=r.loc) (h1:r.loc<=10000000) (h2:0<=r.lo) (h3:r.lo<=r.hi) (h4:r.hi<=10000000) (ht:I6 st c n r):Jn st c n (rs++[r]):=by
 refine ⟨fun i hi=>?_,fun i hi=>?_,fun i hi=>?_⟩ <;> rw [BP] at hi <;> simp only [C4,Cf] at hi <;> by_cases e:i=rs.length
 ·subst e;rw [Kq,Li (Aa _)];exact ⟨hp,h1,h2,h3,h4⟩
 ·rw [Iw Ad,Li Ad];exact h.at_ i Ad
 ·subst e;rw [Kq];exact h0
 ·rw [Iw Ad];exact h.pos i Ad
 ·subst e;rw [Kq];exact ht
 ·rw [Iw Ad];exact h.true_ i Ad
theorem Jn.ok {st:Int} {c:Nat->Int} {n:Nat} {rs:List Rd} (h:Jn st c n rs) (hl:rs.length<=12):J7 rs:=⟨hl,h.at_,h.pos⟩
def Rh (pk:Nat->Int) (m:Nat) (t:Int) (i:Nat):Nat:=(List.range m).countP (fun j=>decide (pk j<t))+(List.range i).countP (fun j=>decide (pk j=t))
theorem Nz (pk:Nat->Int) (m:Nat) (t:Int) (i:Nat):Rh pk m t (i+1)=Rh pk m t i+(if pk i=t then 1 else 0):=by
 unfold Rh;rw [List.range_succ,List.countP_append,List.countP_singleton];by_cases h:pk i=t <;> simp [h] <;> omega
theorem NA (pk:Nat->Int) (t:Int):∀ l:List Nat,l.countP (fun j=>decide (pk j<t))+l.countP (fun j=>decide (pk j=t))=l.countP (fun j=>decide (pk j<t+1))
 | []=>rfl
 | j :: l=>by
  have:=NA pk t l;simp only [List.countP_cons];by_cases h1:pk j<t
  ·have h2:¬ pk j=t:=by omega
   have h3:pk j<t+1:=by omega
   simp [h1,h2,h3];omega
  ·by_cases h2:pk j=t
   ·have h3:pk j<t+1:=by omega
    have d1:decide (pk j<t)=false:=by simp [h1]
    have d2:decide (pk j=t)=true:=by simp [h2]
    have d3:decide (pk j<t+1)=true:=by simp [h3]
    rw [d1,d2,d3];simp only [if_true,Bool.false_eq_true,if_false];omega
   ·have h3:¬ pk j<t+1:=by omega
    simp [h1,h2,h3];omega
theorem cnt_end (pk:Nat->Int) (m:Nat) (t:Int):Rh pk m t m=Rh pk m (t+1) 0:=by
 unfold Rh;rw [NA];rfl
theorem Tz (pk:Nat->Int) (m:Nat) (t:Int) (i:Nat):Rh pk m t i<=m+i:=by
 unfold Rh;have h1:=List.countP_le_length (p:=fun j=>decide (pk j<t)) (l:=List.range m);have h2:=List.countP_le_length (p:=fun j=>decide (pk j=t)) (l:=List.range i);simp only [List.length_range] at h1 h2;omega
end Clk
end
end Go.Proofs.YtdkonnnmkceagaaGreatDoor
