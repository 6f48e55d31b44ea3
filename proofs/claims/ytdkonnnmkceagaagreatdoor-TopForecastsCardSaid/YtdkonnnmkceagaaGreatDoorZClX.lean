/- ClX, ClY, ClZ -/
import Derived.Test.YtdkonnnmkceagaaGreatDoorZClT
set_option maxHeartbeats 8000000
set_option maxRecDepth 100000
namespace Go.Proofs.YtdkonnnmkceagaaGreatDoor
section
open Go.RowKit
open Clk
attribute [local go_sem] Oper.semAt_some
theorem GP {W:World} {base:Nat} {e t:TypeId} {k n b:Nat} {v:Value} {xs:List Value} {cs:Array Value} (h:W.ownsRow base e k v n xs) (hb:CO W b cs t) (ht:t≠e) (i:Nat) (x:Value):(W.setCell ⟨b,i,none⟩ x).ownsRow base e k v n xs:=by
 refine h.kept (D0 W b i x) ?_;rcases h.2 with ⟨e1,_⟩ | ⟨g,cap,cur,e1,_,h2,_⟩
 ·rw [e1];exact .inl rfl
 ·rw [e1];exact .inr fun e2=>ht (by obtain rfl:g=b:=AL e2;exact CO.type hb h2)
structure Ks (s:Nat) (W:World) (st:Int) (c:Nat->Int) (n:Nat) (a:Option Addr) (rs:List Rd) (k:Nat):Prop where
 own:W.ownsRow s 89 3 (.slice a rs.length k) rs.length (Fw rs)
 inv:Jn st c n rs
 len:rs.length<=12
theorem Ks.below {s:Nat} {W W':World} {st:Int} {c:Nat->Int} {n:Nat} {a:Option Addr} {rs:List Rd} {k:Nat} (h:Ks s W st c n a rs k) (hb:Below W.heap.size W W'):Ks s W' st c n a rs k:=⟨DE h.own hb,h.inv,h.len⟩
theorem Ks.st5 {s:Nat} {W:World} {st:Int} {c:Nat->Int} {n:Nat} {a:Option Addr} {rs:List Rd} {k b:Nat} {cs:Array Value} {t:TypeId} (h:Ks s W st c n a rs k) (hb:CO W b cs t) (ht:t≠89) (x0 x1 x2 x3 x4:Value) :
  Ks s (((((W.setCell ⟨b,0,none⟩ x0).setCell ⟨b,1,none⟩ x1).setCell ⟨b,2,none⟩ x2).setCell ⟨b,3,none⟩ x3).setCell ⟨b,4,none⟩ x4) st c n a rs k :=
 ⟨GP (GP (GP (GP (GP h.own hb ht 0 x0) (hb.set 0 x0) ht 1 x1) ((hb.set 0 x0).set 1 x1) ht 2 x2) (((hb.set 0 x0).set 1 x1).set 2 x2) ht 3 x3) ((((hb.set 0 x0).set 1 x1).set 2 x2).set 3 x3) ht 4 x4,h.inv,h.len⟩
theorem TA.row {w:World} {d s0:Int} {c:Nat->Int} {n:Nat} {e:Ending} {W:World} (h:TA w d s0 c n e W) {s:Nat} (hs:s<=w.heap.size):∃ (a:Option Addr) (rs:List Rd) (k:Nat),e=.returned (.agg #[.int .i64 d,.slice a rs.length k])/\Ks s W s0 c n a rs k/\Below w.heap.size w W:=by
 obtain ⟨v,rs,rfl,h1,h2,h3,h4⟩:=h;obtain ⟨a,k,rfl⟩:∃ a k,v=.slice a rs.length k:=by
  rcases h1.2 with ⟨e1,h0⟩ | ⟨g,cap,cur,e1,_⟩
  ·exact ⟨none,0,by rw [e1,h0]⟩
  ·exact ⟨_,_,e1⟩
 exact ⟨a,rs,k,rfl,⟨GN h1 hs,h2,h3⟩,h4⟩
theorem CE.adoptRow {w W:World} {L:Ec} {R:List E9} {e:TypeId} {k n:Nat} {v:Value} {xs:List Value} (h:CE w L R W) (hr:W.ownsRow w.heap.size e k v n xs) (hL:∀ p∈L,p.2.2≠e) (hR:∀ r∈R,r.e≠e):CE w L (⟨e,k,v,n,xs⟩ :: R) W:=by
 have blk:∀ b,v.ownBlock=some b->∃ cur,CO W b cur e:=fun b hb=>by
  rcases hr.2 with ⟨e1,_⟩ | ⟨g,cap,cur,e1,_,h2,_⟩
  ·rw [e1] at hb;cases hb
  ·rw [e1] at hb;obtain rfl:g=b:=AL hb;exact ⟨cur,h2⟩
 refine ⟨h.below,h.ge,h.blks,h.dup,fun r hr'=>?_,AU.2 ⟨fun s hs b hb e'=>?_,h.rdis⟩,fun r hr' p hp=>?_⟩
 ·rcases As.1 hr' with rfl | hr'
  ·exact hr
  ·exact h.rows r hr'
 ·obtain ⟨cur,h2⟩:=blk b hb
  rcases (h.rows s hs).2 with ⟨e1,_⟩ | ⟨g,cap,cur',e1,_,h3,_⟩
  ·rw [e1] at e';cases e'
  ·rw [e1] at e';obtain rfl:g=b:=AL e';exact hR s hs (CO.type h3 h2)
 ·rcases As.1 hr' with rfl | hr'
  ·intro e'
   obtain ⟨cur,h2⟩:=blk p.1 e';exact hL p hp (CO.type (h.blks p hp) h2)
  ·exact h.rL r hr' p hp
def Gv (qs:List Tri):List Value:=qs.flatMap fun q=>[.int .i64 q.a,.int .i64 q.b,.int .i64 q.c]
theorem Rj (qs:List Tri) (q:Tri):Gv (qs++[q])=Gv qs++[.int .i64 q.a,.int .i64 q.b,.int .i64 q.c]:=by unfold Gv;rw [List.flatMap_append];simp
def GQ (ss:List Sm):List Value:=ss.flatMap fun q=>[.int .i64 q.loc,.int .i64 q.val]
theorem Lm (ss:List Sm) (q:Sm):GQ (ss++[q])=GQ ss++[.int .i64 q.loc,.int .i64 q.val]:=by unfold GQ;rw [List.flatMap_append];simp
theorem Jh:∀ ds:List Sm,(GQ ds).length=ds.length*2
 | []=>rfl
 | p :: ds=>by
  have:=Jh ds;unfold GQ at this |-;rw [List.flatMap_cons,BP,this];simp;omega
theorem Kt:∀ (ds:List Sm) (j:Nat),j<ds.length->(GQ ds)[j*2]? = some (.int .i64 (CW ds j).loc)/\(GQ ds)[j*2+1]? = some (.int .i64 (CW ds j).val)
 | [],j,h=>by cases h
 | p :: ds,0,_=>by simp [GQ,CW]
 | p :: ds,j+1,h=>by
  have ih:=Kt ds j (by simpa using h);have e:GQ (p :: ds)=[.int .i64 p.loc,.int .i64 p.val]++GQ ds:=rfl;have g:CW (p :: ds) (j+1)=CW ds j:=rfl;rw [e,g,show (j+1)*2=2+j*2 by omega,show 2+j*2+1=2+(j*2+1) by omega];have key:∀ i,([.int .i64 p.loc,.int .i64 p.val]++GQ ds:List Value)[2+i]? = (GQ ds)[i]? := fun i=>by
   rw [BA Af];simp
  rw [key,key];exact ih
theorem Ji:∀ ds:List Tri,(Gv ds).length=ds.length*3
 | []=>rfl
 | p :: ds=>by
  have:=Ji ds;unfold Gv at this |-;rw [List.flatMap_cons,BP,this];simp;omega
theorem ND:∀ (ds:List Tri) (j:Nat),j<ds.length->(Gv ds)[j*3]? = some (.int .i64 (CX ds j).a)/\(Gv ds)[j*3+1]? = some (.int .i64 (CX ds j).b)/\(Gv ds)[j*3+2]? = some (.int .i64 (CX ds j).c)
 | [],j,h=>by cases h
 | p :: ds,0,_=>by simp [Gv,CX]
 | p :: ds,j+1,h=>by
  have ih:=ND ds j (by simpa using h);have e:Gv (p :: ds)=[.int .i64 p.a,.int .i64 p.b,.int .i64 p.c]++Gv ds:=rfl;have g:CX (p :: ds) (j+1)=CX ds j:=rfl;rw [e,g,show (j+1)*3=3+j*3 by omega,show 3+j*3+1=3+(j*3+1) by omega,show 3+j*3+2=3+(j*3+2) by omega];have key:∀ i,([.int .i64 p.a,.int .i64 p.b,.int .i64 p.c]++Gv ds:List Value)[3+i]? = (Gv ds)[i]? := fun i=>by
   rw [BA Af];simp
  rw [key,key,key];exact ih
theorem Jo.of_own {w:World} {base n:Nat} {e:TypeId} {v:Value} {ds:List Tri} (h:w.ownsRow base e 3 v n (Gv ds)):Jo w v ds:=by
 have hl:n=ds.length:=by have:=h.1;rw [Ji] at this;omega
 subst hl;rcases h.2 with ⟨rfl,h0⟩ | ⟨g,cap,cur,rfl,hb,hg,hn,hm,hs,ht⟩
 ·exact .inl ⟨rfl,AS h0⟩
 ·refine .inr ⟨g,0,cap,rfl,hn,hm,(Bu.1 hg).1,fun j y hy=>?_⟩
  have hj:j<ds.length:=(Bv.1 hy).1;rw [Iu hj] at hy;obtain rfl:=AL hy;obtain ⟨k0,k1,k2⟩:=ND ds j hj;have c0:=h.cells (g:=g) rfl (j*3) _ k0;have c1:=h.cells (g:=g) rfl (j*3+1) _ k1;have c2:=h.cells (g:=g) rfl (j*3+2) _ k2;rw [E5] at c0 c1 c2;exact ⟨c0,c1,c2⟩
theorem Nl.of_own {w:World} {base n:Nat} {e:TypeId} {v:Value} {ds:List Sm} (h:w.ownsRow base e 2 v n (GQ ds)):Nl w v ds:=by
 have hl:n=ds.length:=by have:=h.1;rw [Jh] at this;omega
 subst hl;rcases h.2 with ⟨rfl,h0⟩ | ⟨g,cap,cur,rfl,hb,hg,hn,hm,hs,ht⟩
 ·exact .inl ⟨rfl,AS h0⟩
 ·refine .inr ⟨g,0,cap,rfl,hn,hm,(Bu.1 hg).1,fun j y hy=>?_⟩
  have hj:j<ds.length:=(Bv.1 hy).1;rw [FK hj] at hy;obtain rfl:=AL hy;obtain ⟨k0,k1⟩:=Kt ds j hj;have c0:=h.cells (g:=g) rfl (j*2) _ k0;have c1:=h.cells (g:=g) rfl (j*2+1) _ k1;rw [E5] at c0 c1;exact ⟨c0,c1⟩
theorem Iy {rs:List Sm} {r:Sm} {k:Nat} (h:k<rs.length):CW (rs++[r]) k=CW rs k:=by
 have h1:=FK (ss:=rs++[r]) (i:=k) (by simp;omega);rw [List.getElem?_append_left h,FK h] at h1;exact (AL h1).symm
theorem Ku {rs:List Sm} {r:Sm}:CW (rs++[r]) rs.length=r:=by
 have h1:=FK (ss:=rs++[r]) (i:=rs.length) Af;rw [BA (Aa _)] at h1;simpa using h1.symm
theorem Lo {rs:List Sm} {r:Sm}:∀ {k:Nat},k<=rs.length->Hq (rs++[r]) k=Hq rs k
 | 0,_=>rfl
 | k+1,h=>by
  show (CW (rs++[r]) k).loc=(CW rs k).loc;rw [Iy Ad]
structure NE (st:Int) (c:Nat->Int) (n:Nat) (v0 each tol:Int) (ss:List Sm):Prop where
 at_:∀ i,i<ss.length->Hq ss i<(CW ss i).loc/\(CW ss i).loc<=10000000/\-1000000<=(CW ss i).val/\(CW ss i).val<=1000000
 pos:∀ i,i<ss.length->0<=(CW ss i).loc
 tr:∀ i,i<ss.length->PY st c n v0 each tol (CW ss i)
theorem NE.nil (st:Int) (c:Nat->Int) (n:Nat) (v0 each tol:Int):NE st c n v0 each tol []:=⟨fun _ h=>(by cases h),fun _ h=>(by cases h),fun _ h=>(by cases h)⟩
theorem NE.snoc {st:Int} {c:Nat->Int} {n:Nat} {v0 each tol:Int} {ss:List Sm} (h:NE st c n v0 each tol ss) (r:Sm) (hp:Hq ss ss.length<r.loc) (h0:0<=r.loc) (h1:r.loc<=10000000) (h2:-1000000<=r.val) (h3:r.val<=1000000) (ht:PY st c n v0 each tol r):NE st c n v0 each tol (ss++[r]):=by
 refine ⟨fun i hi=>?_,fun i hi=>?_,fun i hi=>?_⟩ <;> rw [BP] at hi <;> simp only [C4,Cf] at hi <;> by_cases e:i=ss.length
 ·subst e;rw [Ku,Lo (Aa _)];exact ⟨hp,h1,h2,h3⟩
 ·rw [Iy Ad,Lo Ad];exact h.at_ i Ad
 ·subst e;rw [Ku];exact h0
 ·rw [Iy Ad];exact h.pos i Ad
 ·subst e;rw [Ku];exact ht
 ·rw [Iy Ad];exact h.tr i Ad
theorem Rk {Q:Exit->Act->World->Prop} {us:List Value} {bS bQ oQ nQ kQ i n:Nat} {v:Value} {xs:List Value} {a0 a1 a2 p0:Int} {w W0:World} {L:Ec} {R:List E9}  (hi0:(0:Int)<=i) (hin:(i:Int)<nQ) (hn:Hid (n<=1000000))  (x23:Dd w L R bS 3 (.slice (some ⟨bQ,oQ,none⟩) nQ kQ)) (x27:Dd w L R bQ (oQ+i*3) (.int .i64 a0)) (C28:Ho w L R 18 #[.int .i64 a0,.int .i64 360] (.int .i64 p0)) (x34:Dd w L R bQ (oQ+i*3+1) (.int .i64 a1)) (x40:Dd w L R bQ (oQ+i*3+2) (.int .i64 a2)) (h0:Hid (CE w L (⟨60,3,v,n,xs⟩ :: R) W0)) (hN:us.length=128) (g1:us[1]? = some (.pointer (some ⟨bS,0,none⟩))) (g3:us[3]? = some (v)) (g4:us[4]? = some (.int .i64 i)) {ops:Array Oper} (ho:D8 Tryz.f6.body 5=some ops)
  (hQ:∀ (x:Nat->Value) (G43:Nat) (cap43:Nat) (W':World),x 3=.slice (some ⟨G43,0,none⟩) (n+1) cap43->Hid (CE w L (⟨60,3,.slice (some ⟨G43,0,none⟩) (n+1) cap43,n+1,xs++[.int .i64 p0,.int .i64 a1,.int .i64 a2]⟩ :: R) W')->Q .normal { tmps:=(Dp [21,22,23,24,25,26,27,28,29,30,31,32,33,34,35,36,37,38,39,40,41,42,43,3] x us).toArray,defers:=[] } W') :
  (Code.region 5 ops true).wp Tryz.prog Q { tmps:=us.toArray,defers:=[] } W0:=by
 obtain rfl:=AL (ho.symm.trans (rfl:D8 Tryz.f6.body 5=some _))
 clear ho
 replace hQ:=A8 hQ
 let Fl:Nat×Nat->FL:=fun g=>[some (21,v),some (22,.pointer (some ⟨bS,3,none⟩)),some (23,.slice (some ⟨bQ,oQ,none⟩) nQ kQ),some (24,.int .i64 i),some (25,.pointer (some ⟨bQ,oQ+i*3,none⟩)),some (26,.pointer (some ⟨bQ,oQ+i*3,none⟩)),some (27,.int .i64 a0),some (28,.int .i64 p0),some (29,.pointer (some ⟨bS,3,none⟩)),some (30,.slice (some ⟨bQ,oQ,none⟩) nQ kQ),some (31,.int .i64 i),some (32,.pointer (some ⟨bQ,oQ+i*3,none⟩)),some (33,.pointer (some ⟨bQ,oQ+i*3+1,none⟩)),some (34,.int .i64 a1),some (35,.pointer (some ⟨bS,3,none⟩)),some (36,.slice (some ⟨bQ,oQ,none⟩) nQ kQ),some (37,.int .i64 i),some (38,.pointer (some ⟨bQ,oQ+i*3,none⟩)),some (39,.pointer (some ⟨bQ,oQ+i*3+2,none⟩)),some (40,.int .i64 a2),some (41,.agg #[.int .i64 p0,.int .i64 a1,.int .i64 a2]),none,some (43,.slice (some ⟨g.1,0,none⟩) (n+1) g.2),some (3,.slice (some ⟨g.1,0,none⟩) (n+1) g.2)]
 let Ml:Nat×Nat->ML:=fun g=>[(21,42,(fun yv W=>∃ (g42:Nat),yv=.slice (some ⟨g42,0,none⟩) 1 1/\CO W g42 #[.int .i64 p0,.int .i64 a1,.int .i64 a2] 60),some 22)]
 let Sl_:Nat×Nat->List (World->Prop):=fun g=>[fun W=>CE w L (⟨60,3,v,n,xs⟩ :: R) W,fun W=>CE w L (⟨60,3,.slice (some ⟨g.1,0,none⟩) (n+1) g.2,n+1,xs++[.int .i64 p0,.int .i64 a1,.int .i64 a2]⟩ :: R) W]
 have St:Hn 128 [21,22,23,24,25,26,27,28,29,30,31,32,33,34,35,36,37,38,39,40,41,42,43,3] [21] Fl Ml (CE w L R) Sl_:=⟨fun _=>by kernel_rfl,fun _=>rfl,fun _ _ hb h=>h.call hb,fun g=>BH.2 ⟨fun yv W W' hb=>fun ⟨g,e,h⟩=>⟨g,e,h.below hb⟩,(fun _ h=>by cases h)⟩,fun g=>BH.2 ⟨fun W W' hb h=>h.call hb,BH.2 ⟨fun W W' hb h=>h.call hb,(fun _ h=>by cases h)⟩⟩⟩
 refine EN St us [22] ⟨0,0⟩ hN h0.out.rtail.drew h0.out.drew ?_ ?_
 refine sV St ?_ (fun z=>z.w g3)
 refine sV St ?_ (fun z=>z.u g1)
 refine sV St ?_ (fun z=>z.x 1 rfl) (fun z=>x23 _ z.c)
 refine sV St ?_ (fun z=>z.u g4)
 refine sV St ?_ (fun z=>z.x 2 rfl) (fun z=>z.x 3 rfl)
 refine sV St ?_ (fun z=>z.x 4 rfl)
 refine sV St ?_ (fun z=>z.x 5 rfl) (fun z=>x27 _ z.c)
 refine sC St ?_ (fun z=>C28 _ z.c) (fun z=>z.x 6 rfl)
 refine sV St ?_ (fun z=>z.u g1)
 refine sV St ?_ (fun z=>z.x 8 rfl) (fun z=>x23 _ z.c)
 refine sV St ?_ (fun z=>z.u g4)
 refine sV St ?_ (fun z=>z.x 9 rfl) (fun z=>z.x 10 rfl)
 refine sV St ?_ (fun z=>z.x 11 rfl)
 refine sV St ?_ (fun z=>z.x 12 rfl) (fun z=>x34 _ z.c)
 refine sV St ?_ (fun z=>z.u g1)
 refine sV St ?_ (fun z=>z.x 14 rfl) (fun z=>x23 _ z.c)
 refine sV St ?_ (fun z=>z.u g4)
 refine sV St ?_ (fun z=>z.x 15 rfl) (fun z=>z.x 16 rfl)
 refine sV St ?_ (fun z=>z.x 17 rfl)
 refine sV St ?_ (fun z=>z.x 18 rfl) (fun z=>x40 _ z.c)
 refine sV St ?_ (fun z=>z.x 7 rfl) (fun z=>z.x 13 rfl) (fun z=>z.x 19 rfl)
 refine CD (stM St 21 0 rfl rfl (.inl rfl) (fun _=>rfl) (fun _=>by kernel_rfl) fun g T E W hl hw hs z K J=>by
  have x41:=z.x 20 hw rfl;go_simp;exact J _ _ ((Below.refl _ _).alloc (Aa _) _) ⟨_,rfl,CO.new _ _ _⟩) ?_
 refine CD (stF St 22 0 rfl (.inl rfl) rfl rfl Ab (fun _=>by kernel_rfl) fun g T E W hl hw hs z q K J=>by
  have x21:=z.x 0 hw rfl;obtain ⟨_,x42,g42,rfl,hb21⟩:=z.y 0 hl hw hs rfl;have hM0:CE _ _ _ _:=q;refine Ll (m:=1) (k:=3) rfl Ab Ab hM0 (by go_simp) (by go_simp) hb21 rfl rfl hn.out Ae Ae ?_;intro G43' cap43' W2 hM2;exact J ⟨G43',cap43'⟩ _ _ rfl Ab (hM2.rtail) hM2) ?_
 refine sV St ?_ (fun z=>z.x 22 rfl)
 ·exact D5
 ·intro g a W z q
  have hM9:CE _ _ _ _:=q;have x3:=z.v.get 23 rfl Ab;rw [z.f.eqs];exact hQ.out _ g.1 g.2  _ (by simp [x3]) (A8 hM9)
theorem Rl {Q:Exit->Act->World->Prop} {us:List Value} {bS nn:Nat} {c:Nat->Int} {qv:Value} {st0 d tol rr:Int} {ra re sp sa:Value} {dr st tl rt fi:Int} {w W0:World} {L:Ec} {R:List E9}    (x45:Dd w L R bS 0 (.int .i64 dr)) (x47:Dd w L R bS 1 (.int .i64 st)) (x49:Dd w L R bS 2 (ra)) (C51:Hid (∀ W,CE w L R W->Calls Tryz.prog 19 #[.int .i64 dr,.int .i64 st,ra,qv] W fun e W'=>∃ (ar:Option Addr) (rs:List Clk.Rd) (kr:Nat),e=.returned (.agg #[.int .i64 d,.slice ar rs.length kr])/\Ks w.heap.size W' st0 c nn ar rs kr/\Below W.heap.size W W')) (x52_3:Dd w L R bS 3 (re)) (x52_4:Dd w L R bS 4 (.int .i64 tl)) (x52_5:Dd w L R bS 5 (.int .i64 rt)) (x52_6:Dd w L R bS 6 (.int .i64 fi)) (x52_7:Dd w L R bS 7 (sp)) (x52_8:Dd w L R bS 8 (sa)) (C53:Ho w L R 20 #[.agg #[.int .i64 dr,.int .i64 st,ra,re,.int .i64 tl,.int .i64 rt,.int .i64 fi,sp,sa]] (.int .i64 tol)) (C55:Ho w L R 21 #[.agg #[.int .i64 dr,.int .i64 st,ra,re,.int .i64 tl,.int .i64 rt,.int .i64 fi,sp,sa]] (.int .i64 rr)) (h0:Hid (CE w L R W0)) (hN:us.length=128) (g1:us[1]? = some (.pointer (some ⟨bS,0,none⟩))) (g3:us[3]? = some (qv)) {ops:Array Oper} (ho:D8 Tryz.f6.body 6=some ops)
  (hQ:∀ (x:Nat->Value) (b5:Nat) (ar:Option Addr) (rs:List Clk.Rd) (kr:Nat) (W':World),x 5=.pointer (some ⟨b5,0,none⟩)->Hid (Ks w.heap.size W' st0 c nn ar rs kr)->Hid (CE w ((b5,#[.int .i64 d,.slice ar rs.length kr,.int .i64 tol,.int .i64 rr,.slice none 0 0],42) :: L) R W')->Q .normal { tmps:=(Dp [44,45,46,47,48,49,50,51,52,53,54,55,56,5] x us).toArray,defers:=[] } W') :
  (Code.region 6 ops true).wp Tryz.prog Q { tmps:=us.toArray,defers:=[] } W0:=by
 obtain rfl:=AL (ho.symm.trans (rfl:D8 Tryz.f6.body 6=some _))
 clear ho
 replace hQ:=A8 hQ
 let Fl:Nat×Option Addr×List Clk.Rd×Nat->FL:=fun g=>[some (44,.pointer (some ⟨bS,0,none⟩)),some (45,.int .i64 dr),some (46,.pointer (some ⟨bS,1,none⟩)),some (47,.int .i64 st),some (48,.pointer (some ⟨bS,2,none⟩)),some (49,ra),some (50,qv),some (51,.agg #[.int .i64 d,.slice g.2.1 g.2.2.1.length g.2.2.2]),some (52,.agg #[.int .i64 dr,.int .i64 st,ra,re,.int .i64 tl,.int .i64 rt,.int .i64 fi,sp,sa]),some (53,.int .i64 tol),some (54,.agg #[.int .i64 dr,.int .i64 st,ra,re,.int .i64 tl,.int .i64 rt,.int .i64 fi,sp,sa]),some (55,.int .i64 rr),some (56,.agg #[.int .i64 d,.slice g.2.1 g.2.2.1.length g.2.2.2,.int .i64 tol,.int .i64 rr,.slice none 0 0]),some (5,.pointer (some ⟨g.1,0,none⟩)),none]
 let Ml:Nat×Option Addr×List Clk.Rd×Nat->ML:=fun g=>[(7,51,(fun _ W=>Ks w.heap.size W st0 c nn g.2.1 g.2.2.1 g.2.2.2),some 14),(13,5,(fun _ W=>OQ w L R [] g.1 #[.int .i64 0,.slice none 0 0,.int .i64 0,.int .i64 0,.slice none 0 0] 42 W),some 14)]
 let Sl_:Nat×Option Addr×List Clk.Rd×Nat->List (World->Prop):=fun g=>[fun W=>CE w L R W,fun W=>Ks w.heap.size W st0 c nn g.2.1 g.2.2.1 g.2.2.2/\CE w ((g.1,#[.int .i64 d,.slice g.2.1 g.2.2.1.length g.2.2.2,.int .i64 tol,.int .i64 rr,.slice none 0 0],42) :: L) R W]
 have St:Hn 128 [44,45,46,47,48,49,50,51,52,53,54,55,56,5] [7,13] Fl Ml (CE w L R) Sl_:=⟨fun _=>by kernel_rfl,fun _=>rfl,fun _ _ hb h=>h.call hb,fun g=>BH.2 ⟨fun yv W W' hb=>fun h=>h.below hb,BH.2 ⟨fun yv W W' hb=>fun h=>h.below hb,(fun _ h=>by cases h)⟩⟩,fun g=>BH.2 ⟨fun W W' hb h=>h.call hb,BH.2 ⟨fun W W' hb h=>⟨h.1.below hb,(h.2).call hb⟩,(fun _ h=>by cases h)⟩⟩⟩
 refine EN St us [14] ⟨0,none,[],0⟩ hN h0.out.drew h0.out.drew ?_ ?_
 refine sV St ?_ (fun z=>z.u g1)
 refine sV St ?_ (fun z=>z.x 0 rfl) (fun z=>x45 _ z.c)
 refine sV St ?_ (fun z=>z.u g1)
 refine sV St ?_ (fun z=>z.x 2 rfl) (fun z=>x47 _ z.c)
 refine sV St ?_ (fun z=>z.u g1)
 refine sV St ?_ (fun z=>z.x 4 rfl) (fun z=>x49 _ z.c)
 refine sV St ?_ (fun z=>z.u g3)
 refine CD (stA St 7 0 0 rfl rfl (.inl rfl) rfl (fun _=>rfl) (fun _=>rfl) Ab fun g T E W hl hw hs z K J=>by
  have x45:=z.x 1 hw rfl;have x47:=z.x 3 hw rfl;have x49:=z.x 5 hw rfl;have x50:=z.x 6 hw rfl;have hC:=z.c;go_simp;refine Calls.mono (C51.out W hC) ?_;rintro e W2 ⟨ar',rs',kr',rfl,hp,hb⟩;exact J ⟨g.1,ar',rs',kr'⟩ W2 hb Ab rfl rfl hp) ?_
 refine CD (stV St 8 rfl rfl rfl (fun _=>rfl) fun g T E W hl hw hs z K J=>by
  have x1:=z.u g1;have hC:=z.c;have k0:=x45 _ hC;have hC:=z.c;have k1:=x47 _ hC;have hC:=z.c;have k2:=x49 _ hC;have hC:=z.c;have k3:=x52_3 _ hC;have hC:=z.c;have k4:=x52_4 _ hC;have hC:=z.c;have k5:=x52_5 _ hC;have hC:=z.c;have k6:=x52_6 _ hC;have hC:=z.c;have k7:=x52_7 _ hC;have hC:=z.c;have k8:=x52_8 _ hC;go_simp;exact J) ?_
 refine sC St ?_ (fun z=>C53 _ z.c) (fun z=>z.x 8 rfl)
 refine CD (stV St 10 rfl rfl rfl (fun _=>rfl) fun g T E W hl hw hs z K J=>by
  have x1:=z.u g1;have hC:=z.c;have k0:=x45 _ hC;have hC:=z.c;have k1:=x47 _ hC;have hC:=z.c;have k2:=x49 _ hC;have hC:=z.c;have k3:=x52_3 _ hC;have hC:=z.c;have k4:=x52_4 _ hC;have hC:=z.c;have k5:=x52_5 _ hC;have hC:=z.c;have k6:=x52_6 _ hC;have hC:=z.c;have k7:=x52_7 _ hC;have hC:=z.c;have k8:=x52_8 _ hC;go_simp;exact J) ?_
 refine sC St ?_ (fun z=>C55 _ z.c) (fun z=>z.x 10 rfl)
 refine sV St ?_ (fun z=>z.x 7 rfl) (fun z=>z.x 9 rfl) (fun z=>z.x 11 rfl)
 refine CD (stA St 13 1 0 rfl rfl (.inl rfl) rfl (fun _=>rfl) (fun _=>rfl) Ab fun g T E W hl hw hs z K J=>by
  have hi:∀ q∈([]:List Nat),q<W.heap.size:=fun _ h=>by cases h
  have hC:=z.c;go_simp;exact J ⟨W.heap.size,g.2.1,g.2.2.1,g.2.2.2⟩ _ ((Below.refl _ _).alloc (Aa _) _) Ab rfl rfl (OQ.of _ _ hC hi)) ?_
 refine CD (stE 14 0 (.inl rfl) rfl rfl (fun _=>rfl) Ab (fun _=>by kernel_rfl) fun g T E W hl hw hs z q K J=>by
  have x5:=z.x 13 hw rfl;have x56:=z.x 12 hw rfl;have hM0:CE _ _ _ _:=q;obtain ⟨_,_,hn13⟩:=z.y 1 hl hw hs rfl;replace hM0:=hM0.adopt hn13 (fun p hp=>.inl (hn13.L p hp)) (fun p hp=>.inl (hn13.R p hp));have y0:=hM0.cell _ _ _ Ah 0;have w0:=hM0.frozen _ _ _ Ah 0;have y1:=hM0.cell _ _ _ Ah 1;have w1:=hM0.frozen _ _ _ Ah 1;have y2:=hM0.cell _ _ _ Ah 2;have w2:=hM0.frozen _ _ _ Ah 2;have y3:=hM0.cell _ _ _ Ah 3;have w3:=hM0.frozen _ _ _ Ah 3;have y4:=hM0.cell _ _ _ Ah 4;have w4:=hM0.frozen _ _ _ Ah 4;obtain ⟨_,_,hg7⟩:=z.y 0 hl hw hs rfl;go_simp;exact J _ ((((((hM0.put0 0 _).put0 1 _).put0 2 _).put0 3 _).put0 4 _).tail) ⟨hg7.st5 hn13.blk Ae _ _ _ _ _,(((((hM0.put0 0 _).put0 1 _).put0 2 _).put0 3 _).put0 4 _)⟩) ?_
 ·exact D5
 ·intro g a W z q
  have hM9:=And.right (q);have x5:=z.v.get 13 rfl Ab;rw [z.f.eqs];exact hQ.out _ g.1 g.2.1 g.2.2.1 g.2.2.2  _ (by simp [x5]) (A8 (And.left (q))) (A8 hM9)
theorem OW {Q:Exit->Act->World->Prop} {us:List Value} {bS bG bM oM nM kM i:Nat} {ra re sp:Value} {dr st tl rt fi t tol b1 lo V pk:Int} {w W0:World} {L:Ec} {R:List E9} {r96:Int} {r97:Int} {r99:Int} {r102:Int} (hi0:(0:Int)<=i) (hin:(i:Int)<nM)  (x78:Dd w L R bS 0 (.int .i64 dr)) (x80:Dd w L R bS 1 (.int .i64 st)) (x82:Dd w L R bS 2 (ra)) (C84:Ho w L R 22 #[.int .i64 dr,.int .i64 st,ra,.int .i64 t] (.int .i64 lo)) (x85_3:Dd w L R bS 3 (re)) (x85_4:Dd w L R bS 4 (.int .i64 tl)) (x85_5:Dd w L R bS 5 (.int .i64 rt)) (x85_6:Dd w L R bS 6 (.int .i64 fi)) (x85_7:Dd w L R bS 7 (sp)) (x85_8:Dd w L R bS 8 (.slice (some ⟨bM,oM,none⟩) nM kM)) (C87:Ho w L R 7 #[.agg #[.int .i64 dr,.int .i64 st,ra,re,.int .i64 tl,.int .i64 rt,.int .i64 fi,sp,.slice (some ⟨bM,oM,none⟩) nM kM],.int .i64 t] (.int .i64 V)) (x93:Dd w L R bM (oM+i*2+1) (.int .i64 b1)) (x95:Dd w L R bG 2 (.int .i64 tol)) (h96:IntKind.i64.wrap (2*tol)=r96) (h97:IntKind.i64.wrap (r96+1)=r97) (C98:Ho w L R 18 #[.int .i64 b1,.int .i64 r97] (.int .i64 pk)) (h99:IntKind.i64.wrap (V+pk)=r99) (h102:IntKind.i64.wrap (r99-tol)=r102) (h0:Hid (CE w L R W0)) (hN:us.length=128) (g1:us[1]? = some (.pointer (some ⟨bS,0,none⟩))) (g5:us[5]? = some (.pointer (some ⟨bG,0,none⟩))) (g6:us[6]? = some (.int .i64 t)) (g7:us[7]? = some (.int .i64 i)) {ops:Array Oper} (ho:D8 Tryz.f6.body 12=some ops)
  (hQ:∀ (x:Nat->Value) (b8:Nat) (W':World),x 8=.pointer (some ⟨b8,0,none⟩)->Hid (CE w ((b8,#[.int .i64 lo,.int .i64 r102],66) :: L) R W')->Q .normal { tmps:=(Dp [77,78,79,80,81,82,83,84,85,86,87,88,89,90,91,92,93,94,95,96,97,98,99,100,101,102,103,8] x us).toArray,defers:=[] } W') :
  (Code.region 12 ops true).wp Tryz.prog Q { tmps:=us.toArray,defers:=[] } W0:=by
 obtain rfl:=AL (ho.symm.trans (rfl:D8 Tryz.f6.body 12=some _))
 clear ho
 replace hQ:=A8 hQ
 let Fl:Nat->FL:=fun g=>[some (77,.pointer (some ⟨bS,0,none⟩)),some (78,.int .i64 dr),some (79,.pointer (some ⟨bS,1,none⟩)),some (80,.int .i64 st),some (81,.pointer (some ⟨bS,2,none⟩)),some (82,ra),some (83,.int .i64 t),some (84,.int .i64 lo),some (85,.agg #[.int .i64 dr,.int .i64 st,ra,re,.int .i64 tl,.int .i64 rt,.int .i64 fi,sp,.slice (some ⟨bM,oM,none⟩) nM kM]),some (86,.int .i64 t),some (87,.int .i64 V),some (88,.pointer (some ⟨bS,8,none⟩)),some (89,.slice (some ⟨bM,oM,none⟩) nM kM),some (90,.int .i64 i),some (91,.pointer (some ⟨bM,oM+i*2,none⟩)),some (92,.pointer (some ⟨bM,oM+i*2+1,none⟩)),some (93,.int .i64 b1),some (94,.pointer (some ⟨bG,2,none⟩)),some (95,.int .i64 tol),some (96,.int .i64 r96),some (97,.int .i64 r97),some (98,.int .i64 pk),some (99,.int .i64 r99),some (100,.pointer (some ⟨bG,2,none⟩)),some (101,.int .i64 tol),some (102,.int .i64 r102),some (103,.agg #[.int .i64 lo,.int .i64 r102]),some (8,.pointer (some ⟨g,0,none⟩)),none]
 let Ml:Nat->ML:=fun g=>[(27,8,(fun _ W=>OQ w L R [] g #[.int .i64 0,.int .i64 0] 66 W),some 28)]
 let Sl_:Nat->List (World->Prop):=fun g=>[fun W=>CE w L R W,fun W=>CE w ((g,#[.int .i64 lo,.int .i64 r102],66) :: L) R W]
 have St:Hn 128 [77,78,79,80,81,82,83,84,85,86,87,88,89,90,91,92,93,94,95,96,97,98,99,100,101,102,103,8] [27] Fl Ml (CE w L R) Sl_:=⟨fun _=>by kernel_rfl,fun _=>rfl,fun _ _ hb h=>h.call hb,fun g=>BH.2 ⟨fun yv W W' hb=>fun h=>h.below hb,(fun _ h=>by cases h)⟩,fun g=>BH.2 ⟨fun W W' hb h=>h.call hb,BH.2 ⟨fun W W' hb h=>h.call hb,(fun _ h=>by cases h)⟩⟩⟩
 refine EN St us [28] 0 hN h0.out.drew h0.out.drew ?_ ?_
 refine sV St ?_ (fun z=>z.u g1)
 refine sV St ?_ (fun z=>z.x 0 rfl) (fun z=>x78 _ z.c)
 refine sV St ?_ (fun z=>z.u g1)
 refine sV St ?_ (fun z=>z.x 2 rfl) (fun z=>x80 _ z.c)
 refine sV St ?_ (fun z=>z.u g1)
 refine sV St ?_ (fun z=>z.x 4 rfl) (fun z=>x82 _ z.c)
 refine sV St ?_ (fun z=>z.u g6)
 refine sC St ?_ (fun z=>C84 _ z.c) (fun z=>z.x 1 rfl) (fun z=>z.x 3 rfl) (fun z=>z.x 5 rfl) (fun z=>z.x 6 rfl)
 refine CD (stV St 8 rfl rfl rfl (fun _=>rfl) fun g T E W hl hw hs z K J=>by
  have x1:=z.u g1;have hC:=z.c;have k0:=x78 _ hC;have hC:=z.c;have k1:=x80 _ hC;have hC:=z.c;have k2:=x82 _ hC;have hC:=z.c;have k3:=x85_3 _ hC;have hC:=z.c;have k4:=x85_4 _ hC;have hC:=z.c;have k5:=x85_5 _ hC;have hC:=z.c;have k6:=x85_6 _ hC;have hC:=z.c;have k7:=x85_7 _ hC;have hC:=z.c;have k8:=x85_8 _ hC;go_simp;exact J) ?_
 refine sV St ?_ (fun z=>z.u g6)
 refine sC St ?_ (fun z=>C87 _ z.c) (fun z=>z.x 8 rfl) (fun z=>z.x 9 rfl)
 refine sV St ?_ (fun z=>z.u g1)
 refine sV St ?_ (fun z=>z.x 11 rfl) (fun z=>x85_8 _ z.c)
 refine sV St ?_ (fun z=>z.u g7)
 refine sV St ?_ (fun z=>z.x 12 rfl) (fun z=>z.x 13 rfl)
 refine sV St ?_ (fun z=>z.x 14 rfl)
 refine sV St ?_ (fun z=>z.x 15 rfl) (fun z=>x93 _ z.c)
 refine sV St ?_ (fun z=>z.u g5)
 refine sV St ?_ (fun z=>z.x 17 rfl) (fun z=>x95 _ z.c)
 refine sV St ?_ (fun z=>z.x 18 rfl)
 refine sV St ?_ (fun z=>z.x 19 rfl)
 refine sC St ?_ (fun z=>C98 _ z.c) (fun z=>z.x 16 rfl) (fun z=>z.x 20 rfl)
 refine sV St ?_ (fun z=>z.x 10 rfl) (fun z=>z.x 21 rfl)
 refine sV St ?_ (fun z=>z.u g5)
 refine sV St ?_ (fun z=>z.x 23 rfl) (fun z=>x95 _ z.c)
 refine sV St ?_ (fun z=>z.x 22 rfl) (fun z=>z.x 24 rfl)
 refine sV St ?_ (fun z=>z.x 7 rfl) (fun z=>z.x 25 rfl)
 refine CD (stA St 27 0 0 rfl rfl (.inl rfl) rfl (fun _=>rfl) (fun _=>rfl) Ab fun g T E W hl hw hs z K J=>by
  have hi:∀ q∈([]:List Nat),q<W.heap.size:=fun _ h=>by cases h
  have hC:=z.c;go_simp;exact J W.heap.size _ ((Below.refl _ _).alloc (Aa _) _) Ab rfl rfl (OQ.of _ _ hC hi)) ?_
 refine CD (stE 28 0 (.inl rfl) rfl rfl (fun _=>rfl) Ab (fun _=>by kernel_rfl) fun g T E W hl hw hs z q K J=>by
  have x8:=z.x 27 hw rfl;have x103:=z.x 26 hw rfl;have hM0:CE _ _ _ _:=q;obtain ⟨_,_,hn27⟩:=z.y 0 hl hw hs rfl;replace hM0:=hM0.adopt hn27 (fun p hp=>.inl (hn27.L p hp)) (fun p hp=>.inl (hn27.R p hp));have y0:=hM0.cell _ _ _ Ah 0;have w0:=hM0.frozen _ _ _ Ah 0;have y1:=hM0.cell _ _ _ Ah 1;have w1:=hM0.frozen _ _ _ Ah 1;go_simp;exact J _ (((hM0.put0 0 _).put0 1 _).tail) ((hM0.put0 0 _).put0 1 _)) ?_
 ·exact D5
 ·intro g a W z q
  have hM9:CE _ _ _ _:=q;have x8:=z.v.get 27 rfl Ab;rw [z.f.eqs];exact hQ.out _ g  _ (by simp [x8]) (A8 hM9)
theorem NF {Q:Exit->Act->World->Prop} {us:List Value}  {w W0:World} {L:Ec} {R:List E9}     (h0:Hid (CE w L R W0)) (hN:us.length=128) (g9:us[9]? = some (.int .i64 0)) {ops:Array Oper} (ho:D8 Tryz.f6.body 14=some ops)
  (hQ:∀ (x:Nat->Value)  (W':World),x 120=.bool true->Hid (CE w L R W')->Q .normal { tmps:=(Dp [107,108,109,110,111,112,113,114,115,116,117,118,119,120] x us).toArray,defers:=[] } W') :
  (Code.region 14 ops true).wp Tryz.prog Q { tmps:=us.toArray,defers:=[] } W0:=by
 obtain rfl:=AL (ho.symm.trans (rfl:D8 Tryz.f6.body 14=some _))
 clear ho
 replace hQ:=A8 hQ
 let Fl:Unit->FL:=fun g=>[some (107,.int .i64 0),some (108,.bool true),some (109,.bool true),none,none,none,none,none,none,none,none,none,none,some (120,.bool true)]
 let Ml:Unit->ML:=fun g=>[]
 let Sl_:Unit->List (World->Prop):=fun g=>[fun W=>CE w L R W]
 have St:Hn 128 [107,108,109,110,111,112,113,114,115,116,117,118,119,120] [] Fl Ml (CE w L R) Sl_:=⟨fun _=>by kernel_rfl,fun _=>rfl,fun _ _ hb h=>h.call hb,fun g=>(fun _ h=>by cases h),fun g=>BH.2 ⟨fun W W' hb h=>h.call hb,(fun _ h=>by cases h)⟩⟩
 refine EN St us [] () hN h0.out.drew h0.out.drew ?_ ?_
 refine sV St ?_ (fun z=>z.u g9)
 refine sV St ?_ (fun z=>z.x 0 rfl)
 refine sV St ?_ (fun z=>z.x 1 rfl)
 refine sK ?_ 2
 refine sK ?_ 2
 refine sK ?_ 2
 refine sK ?_ 2
 refine sK ?_ 2
 refine sK ?_ 2
 refine sK ?_ 2
 refine sK ?_ 2
 refine sK ?_ 2
 refine sK ?_ 2
 refine sV St ?_ (fun z=>z.x 2 rfl)
 ·exact D5
 ·intro g a W z q
  have hM9:CE _ _ _ _:=q;have x120:=z.v.get 13 rfl Ab;rw [z.f.eqs];exact hQ.out _   _ (by simp [x120]) (A8 hM9)
theorem NG {Q:Exit->Act->World->Prop} {us:List Value} {bG bP gb n cap n1:Nat} {la lo:Int} {ok:Bool} {w W0:World} {L:Ec} {R:List E9}  (hn0:(0:Int)<=n1) (hn1:(n1:Int)<n)  (h108:((n:Int)==0)=false) (x111:Dd w L R bG 4 (.slice (some ⟨gb,0,none⟩) n cap)) (h113:IntKind.i64.wrap ((n:Int)-1)=n1) (x116:Dd w L R gb (n1*2) (.int .i64 la)) (x118:Dd w L R bP 0 (.int .i64 lo)) (h119:decide (la<lo)=ok) (h0:Hid (CE w L R W0)) (hN:us.length=128) (g5:us[5]? = some (.pointer (some ⟨bG,0,none⟩))) (g8:us[8]? = some (.pointer (some ⟨bP,0,none⟩))) (g9:us[9]? = some (.int .i64 n)) {ops:Array Oper} (ho:D8 Tryz.f6.body 14=some ops)
  (hQ:∀ (x:Nat->Value)  (W':World),x 120=.bool ok->Hid (CE w L R W')->Q .normal { tmps:=(Dp [107,108,109,110,111,112,113,114,115,116,117,118,119,120] x us).toArray,defers:=[] } W') :
  (Code.region 14 ops true).wp Tryz.prog Q { tmps:=us.toArray,defers:=[] } W0:=by
 obtain rfl:=AL (ho.symm.trans (rfl:D8 Tryz.f6.body 14=some _))
 clear ho
 replace hQ:=A8 hQ
 let Fl:Unit->FL:=fun g=>[some (107,.int .i64 n),some (108,.bool false),some (109,.bool false),some (110,.pointer (some ⟨bG,4,none⟩)),some (111,.slice (some ⟨gb,0,none⟩) n cap),some (112,.int .i64 n),some (113,.int .i64 n1),some (114,.pointer (some ⟨gb,n1*2,none⟩)),some (115,.pointer (some ⟨gb,n1*2,none⟩)),some (116,.int .i64 la),some (117,.pointer (some ⟨bP,0,none⟩)),some (118,.int .i64 lo),some (119,.bool ok),some (120,.bool ok)]
 let Ml:Unit->ML:=fun g=>[]
 let Sl_:Unit->List (World->Prop):=fun g=>[fun W=>CE w L R W]
 have St:Hn 128 [107,108,109,110,111,112,113,114,115,116,117,118,119,120] [] Fl Ml (CE w L R) Sl_:=⟨fun _=>by kernel_rfl,fun _=>rfl,fun _ _ hb h=>h.call hb,fun g=>(fun _ h=>by cases h),fun g=>BH.2 ⟨fun W W' hb h=>h.call hb,(fun _ h=>by cases h)⟩⟩
 refine EN St us [] () hN h0.out.drew h0.out.drew ?_ ?_
 refine sV St ?_ (fun z=>z.u g9)
 refine sV St ?_ (fun z=>z.x 0 rfl)
 refine sV St ?_ (fun z=>z.x 1 rfl)
 refine sG St ?_ 2 (fun z=>z.u g5)
 refine sG St ?_ 2 (fun z=>z.x 3 rfl) (fun z=>x111 _ z.c)
 refine sG St ?_ 2 (fun z=>z.u g9)
 refine sG St ?_ 2 (fun z=>z.x 5 rfl)
 refine sG St ?_ 2 (fun z=>z.x 4 rfl) (fun z=>z.x 6 rfl)
 refine sG St ?_ 2 (fun z=>z.x 7 rfl)
 refine sG St ?_ 2 (fun z=>z.x 8 rfl) (fun z=>x116 _ z.c)
 refine sG St ?_ 2 (fun z=>z.u g8)
 refine sG St ?_ 2 (fun z=>z.x 10 rfl) (fun z=>x118 _ z.c)
 refine sG St ?_ 2 (fun z=>z.x 9 rfl) (fun z=>z.x 11 rfl)
 refine sV St ?_ (fun z=>z.x 2 rfl) (fun z=>z.x 12 rfl)
 ·exact D5
 ·intro g a W z q
  have hM9:CE _ _ _ _:=q;have x120:=z.v.get 13 rfl Ab;rw [z.f.eqs];exact hQ.out _   _ (by simp [x120]) (A8 hM9)
theorem TC {W:World} {t:TypeId} {O:Nat} {a b c d e:Value} (h:CO W O #[a,b,c,d,e] t) (x y z u v:Value):(W.frozen? ⟨O,0,none⟩=false/\W.frozen? ⟨O,1,none⟩=false/\W.frozen? ⟨O,2,none⟩=false/\W.frozen? ⟨O,3,none⟩=false/\W.frozen? ⟨O,4,none⟩=false)/\W.cell? ⟨O,0,none⟩=some a/\W.cell? ⟨O,1,none⟩=some b/\W.cell? ⟨O,2,none⟩=some c/\W.cell? ⟨O,3,none⟩=some d/\W.cell? ⟨O,4,none⟩=some e /\
  CO (((((W.setCell ⟨O,0,none⟩ x).setCell ⟨O,1,none⟩ y).setCell ⟨O,2,none⟩ z).setCell ⟨O,3,none⟩ u).setCell ⟨O,4,none⟩ v) O #[x,y,z,u,v] t :=
 ⟨⟨h.frozen 0,h.frozen 1,h.frozen 2,h.frozen 3,h.frozen 4⟩,h.cell 0,h.cell 1,h.cell 2,h.cell 3,h.cell 4,((((h.set 0 x).set 1 y).set 2 z).set 3 u).set 4 v⟩
def TF (ts:List Tri):Prop:=∀ j,CI (CX ts j).a/\CI (CX ts j).b/\CI (CX ts j).c
theorem TF.nil:TF []:=fun j=>by
 have e:CX [] j=⟨0,0,0⟩:=by simp [CX]
 rw [e];exact ⟨by unfold CI;decide,by unfold CI;decide,by unfold CI;decide⟩
theorem TF.snoc {ts:List Tri} (h:TF ts) (q:Tri) (h1:CI q.a) (h2:CI q.b) (h3:CI q.c):TF (ts++[q]):=fun j=>by
 rcases Nat.lt_trichotomy j ts.length with hj | hj | hj
 ·have e:CX (ts++[q]) j=CX ts j:=by unfold CX;rw [List.getD_eq_getElem?_getD,List.getD_eq_getElem?_getD,List.getElem?_append_left hj]
  rw [e];exact h j
 ·have e:CX (ts++[q]) j=q:=by subst hj;unfold CX;rw [List.getD_eq_getElem?_getD,BA (Aa _)];simp
  rw [e];exact ⟨h1,h2,h3⟩
 ·have e:CX (ts++[q]) j=CX [] j:=by unfold CX;rw [List.getD_eq_getElem?_getD,List.getD_eq_getElem?_getD,BB (by simp;omega)];rfl
  rw [e];exact TF.nil j
structure OZ (d tol rate:Int) (rs:List Rd) (ss:List Sm):Prop where
 dB:0<=d/\d<=100
 tB:0<=tol/\tol<=1000
 aB:0<=rate/\rate<=1000
 rOk:J7 rs
 sOk:PR ss
 win:∀ i,i<ss.length->EP d (CW ss i).loc rs 0<=DM d (CW ss i).loc rs 10000000
theorem OZ.ok {W:World} {d tol rate:Int} {rv sv:Value} {rs:List Rd} {ss:List Sm} (h:OZ d tol rate rs ss) (h1:NL W rv rs) (h2:Nl W sv ss):Gr W d tol rate rv sv rs ss:=⟨h1,h2,h.dB,h.tB,h.aB,h.rOk,h.sOk,h.win⟩
def G24P (w:World) (st d tol r v0 each:Int) (rates:List Int) (e:Ending) (W':World):Prop:=∃ (rv sv:Value) (rs:List Rd) (ss:List Sm),e=.returned (.agg #[.int .i64 d,rv,.int .i64 tol,.int .i64 r,sv])/\W'.ownsRow w.heap.size 89 3 rv rs.length (Fw rs)/\W'.ownsRow w.heap.size 66 2 sv ss.length (GQ ss)/\OZ d tol r rs ss/\Jd (DB st 1000) (Dq d rates) (min rates.length 20) v0 each d tol r rs ss/\Below w.heap.size w W'
theorem Rm {Q:Exit->Act->World->Prop} {us:List Value} {bS bO nq qcap nm mcap:Nat} {ra sp:Value} {qa ma:Option Addr} {dr st tl rt fi:Int} {qs:List Tri} {w W0:World} (HQ:Hid (Jo w (.slice qa nq qcap) qs)) (hnq:Hid (nq=qs.length)) (hqf:Hid (TF qs)) (PA:Hid (∀ i W,Calls Tryz.prog 18 #[.int .i64 (CX qs i).a,.int .i64 360] W fun e w'=>e=.returned (.int .i64 (DB (CX qs i).a 360))/\W=w')) (hM:Hid (CE w [(bO,#[.int .i64 0,.slice none 0 0,.int .i64 0,.int .i64 0,.slice none 0 0],42),(bS,#[.int .i64 dr,.int .i64 st,ra,.slice qa nq qcap,.int .i64 tl,.int .i64 rt,.int .i64 fi,sp,.slice ma nm mcap],26)] [] W0)) {body:Code} (hbody:H6 Tryz.f6.body 0=some body) (hN:us.length=128) (g1:us[1]? = some (.pointer (some ⟨bS,0,none⟩))) (g3:us[3]? = some (.slice none 0 0)) (g4:us[4]? = some (.int .i64 0))
  (hQ:∀ (fr:Nat->Value) (W':World),Hid (∃ ts:List Tri,ts.length<=5/\TF ts/\CE w [(bO,#[.int .i64 0,.slice none 0 0,.int .i64 0,.int .i64 0,.slice none 0 0],42),(bS,#[.int .i64 dr,.int .i64 st,ra,.slice qa nq qcap,.int .i64 tl,.int .i64 rt,.int .i64 fi,sp,.slice ma nm mcap],26)] [⟨60,3,fr 3,ts.length,Gv ts⟩] W')->Q (.exit 0) { tmps:=(Dp [3,4,10,11,12,13,14,15,16,17,18,19,20,21,22,23,24,25,26,27,28,29,30,31,32,33,34,35,36,37,38,39,40,41,42,43] fr us).toArray,defers:=[] } W') :
  (Code.loop body).wp Tryz.prog Q { tmps:=us.toArray,defers:=[] } W0:=by
 obtain rfl:=AL (hbody.symm.trans (rfl:H6 Tryz.f6.body 0=some _))
 clear hbody
 obtain ⟨u,rfl⟩:=OC hN
 clear hN
 replace g1:=Ey g1
 replace g3:=Ey g3
 replace g4:=Ey g4
 simp only [lit,Nat.reduceAdd,g1,g3,g4] at hQ |-
 clear g1 g3 g4
 replace hQ:=A8 hQ
 have hM0:=A8 (hM.out.row0 60 3)
 clear hM
 go_loopw [3,4] (fun v o wr=>∃ (i:Nat) (ts:List Tri),o=.int .i64 i/\i<=5/\ts.length=i/\Hid (TF ts)/\Hid (CE w [(bO,#[.int .i64 0,.slice none 0 0,.int .i64 0,.int .i64 0,.slice none 0 0],42),(bS,#[.int .i64 dr,.int .i64 st,ra,.slice qa nq qcap,.int .i64 tl,.int .i64 rt,.int .i64 fi,sp,.slice ma nm mcap],26)] [⟨60,3,v,ts.length,Gv ts⟩] wr)) (fun _ o _=>5-(intOf o).toNat)
 case atStart=>exact ⟨0,[],rfl,Ad,rfl,A8 TF.nil,hM0⟩
 case round =>
  clear hM0;obtain ⟨i,ts,rfl,hil,hts,hT,hM⟩:=hrel;have y3:=(hM.out.cell bS _ _ Ai 3).trans (show _=some (Value.slice qa nq qcap) from rfl);by_cases hin:i<nq/\i<5;case neg =>
   rcases (show (¬ (i:Int)<nq)∨((i:Int)<nq/\¬ (i:Int)<5) by omega) with g1 | ⟨g1,g2⟩;all_goals
    clear hin
    go_wp2_with fail
    exact lexit [3,4,10,11,12,13,14,15,16,17,18,19,20,21,22,23,24,25,26,27,28,29,30,31,32,33,34,35,36,37,38,39,40,41,42,43] (hQ.out _ _ (A8 ⟨ts,Ad,hT.out,hM.out⟩)) Ab
  case pos =>
   obtain ⟨hin,hi5⟩:=hin;have g1:(i:Int)<nq:=by omega
   have g2:(i:Int)<5:=by omega
   have hi0:(0:Int)<=i:=by omega
   obtain ⟨b,off,ea,hbw,c0,c1,c2⟩:∃ b off,qa=some ⟨b,off,none⟩/\b<w.heap.size/\NB w b (off+i*3) (CX qs i):=by
    rcases HQ.out with ⟨e,e2⟩ | ⟨b,off,cap',e,h1,h2,h3,h4⟩
    ·have:=hnq.out;rw [e2] at this;simp at this;omega
    ·cases e
     exact ⟨b,off,rfl,h3,h4 i _ (Iu (by rw [<-hnq.out];exact hin))⟩
   subst ea;have P0:=A8 (PA.out i);have hfa:=hqf.out i;have b1:=CP (c:=(CX qs i).a) (m:=360) Ad;have b2:=Ds (c:=(CX qs i).a) (m:=360) Ad;generalize DB (CX qs i).a 360=p0 at *
   go_upto_region 5 with fail;refine Rk (bS:=bS) (bQ:=b) (oQ:=off) (nQ:=nq) (kQ:=qcap) (i:=i) (n:=ts.length) (v:=u3) (xs:=Gv ts) (a0:=(CX qs i).a) (a1:=(CX qs i).b) (a2:=(CX qs i).c) (p0:=p0) hi0 g1 (A8 Ad) (fun W hW=>hW.cell _ _ _ Ai 3) (fun W hW=>hW.old hbw c0) (fun W hW=>(P0.out W).mono fun e W' ⟨he,hw'⟩=>⟨he,by subst hw';exact Below.refl _ _⟩) (fun W hW=>hW.old hbw c1) (fun W hW=>hW.old hbw c2) hM rfl rfl rfl rfl Ab ?_;intro xx G43 cap43 W' hx3 hM';simp only [Dp,BN,BO,A5,A6,hx3];clear hx3 y3 hM P0;go_wp2_with fail;go_roundw;case rel=>exact ⟨i+1,ts++[⟨p0,(CX qs i).b,(CX qs i).c⟩],by go_num,Ad,by simp [hts],A8 (hT.out.snoc _ (by show CI p0;unfold CI;omega) hfa.2.1 hfa.2.2),by rw [BP,Rj];exact hM'⟩
   case measure=>simp [intOf];omega
theorem Rn {Q:Exit->Act->World->Prop} {us:List Value} {bS bG nq qcap nm mcap nn:Nat} {ra sp rv:Value} {qa ma:Option Addr} {dr st tl rt fi d tol rr st0 v0 each:Int} {c:Nat->Int} {ms:List Sm} {L:Ec} {R:List E9} {w W0:World} (HM:Hid (Nl w (.slice ma nm mcap) ms)) (hnm:Hid (nm=ms.length)) (hS:Hid ((bS,#[.int .i64 dr,.int .i64 st,ra,.slice qa nq qcap,.int .i64 tl,.int .i64 rt,.int .i64 fi,sp,.slice ma nm mcap],26)∈L)) (hb0:0<=tol/\tol<=30) (hb1:Hid (∀ t:Int,0<=t->t<=360->-10000<=v0+each*t/\v0+each*t<=10000)) (hb2:Hid (∀ t:Int,0<=t->t<=360->0<=DD st0 c nn t/\DD st0 c nn t<=10000000))
  (SH:Hid (∀ (t:Int) W,Below w.heap.size w W->0<=t/\t<=360->Calls Tryz.prog 22 #[.int .i64 dr,.int .i64 st,ra,.int .i64 t] W (CM W (.int .i64 (DD st0 c nn t))))) (VA:Hid (∀ (t:Int) W,Below w.heap.size w W->0<=t/\t<=360->Calls Tryz.prog 7 #[.agg #[.int .i64 dr,.int .i64 st,ra,.slice qa nq qcap,.int .i64 tl,.int .i64 rt,.int .i64 fi,sp,.slice ma nm mcap],.int .i64 t] W (CM W (.int .i64 (v0+each*t)))))
  (PA:Hid (∀ i W,Calls Tryz.prog 18 #[.int .i64 (CW ms i).loc,.int .i64 31] W fun e w'=>e=.returned (.int .i64 (DB (CW ms i).loc 31))/\W=w')) (PB:Hid (∀ i W,Calls Tryz.prog 18 #[.int .i64 (CW ms i).val,.int .i64 (2*tol+1)] W fun e w'=>e=.returned (.int .i64 (DB (CW ms i).val (2*tol+1)))/\W=w')) (hM:Hid (CE w ((bG,#[.int .i64 d,rv,.int .i64 tol,.int .i64 rr,.slice none 0 0],42) :: L) R W0)) {body:Code} (hbody:H6 Tryz.f6.body 2=some body) (hN:us.length=128) (g1:us[1]? = some (.pointer (some ⟨bS,0,none⟩))) (g5:us[5]? = some (.pointer (some ⟨bG,0,none⟩))) (g6:us[6]? = some (.int .i64 0)) (g7:us[7]? = some (.int .i64 0))
  (hQ:∀ (fr:Nat->Value) (W':World),Hid (∃ (sv:Value) (ss:List Sm),ss.length<=12/\NE st0 c nn v0 each tol ss/\CE w ((bG,#[.int .i64 d,rv,.int .i64 tol,.int .i64 rr,sv],42) :: L) (⟨66,2,sv,ss.length,GQ ss⟩ :: R) W')->Q (.exit 2) { tmps:=(Dp [6,7,8,9,57,58,59,60,61,62,63,64,65,66,67,68,69,70,71,72,73,74,75,76,77,78,79,80,81,82,83,84,85,86,87,88,89,90,91,92,93,94,95,96,97,98,99,100,101,102,103,104,105,106,107,108,109,110,111,112,113,114,115,116,117,118,119,120,121,122,123,124,125,126] fr us).toArray,defers:=[] } W') :
  (Code.loop body).wp Tryz.prog Q { tmps:=us.toArray,defers:=[] } W0:=by
 obtain rfl:=AL (hbody.symm.trans (rfl:H6 Tryz.f6.body 2=some _))
 clear hbody
 obtain ⟨u,rfl⟩:=OC hN
 clear hN
 replace g1:=Ey g1
 replace g5:=Ey g5
 replace g6:=Ey g6
 replace g7:=Ey g7
 simp only [lit,Nat.reduceAdd,g1,g5,g6,g7] at hQ |-
 clear g1 g5 g6 g7
 replace hQ:=A8 hQ
 have hM0:=A8 (hM.out.row0 66 2)
 clear hM
 go_loopw [6,7] (fun p o wr=>∃ (i:Nat) (t:Int) (sv:Value) (ss:List Sm),p=.int .i64 t/\o=.int .i64 i/\i<=12/\0<=t/\t<=30*i/\ss.length<=i/\Hid (NE st0 c nn v0 each tol ss)/\Hid (CE w ((bG,#[.int .i64 d,rv,.int .i64 tol,.int .i64 rr,sv],42) :: L) (⟨66,2,sv,List.length ss,GQ ss⟩ :: R) wr)) (fun _ o _=>12-(intOf o).toNat)
 case atStart=>exact ⟨0,0,_,[],rfl,rfl,Ad,Ad,Ad,Af,A8 (NE.nil _ _ _ _ _ _),hM0⟩
 case round =>
  clear hM0;obtain ⟨i,t,sv,ss,rfl,rfl,hil,ht0,ht1,hsl,hI,hM⟩:=hrel;have y8:=(hM.out.cell bS _ _ (.tail _ hS.out) 8).trans (show _=some (Value.slice ma nm mcap) from rfl);by_cases hin:i<nm/\i<12;case neg =>
   rcases (show (¬ (i:Int)<nm)∨((i:Int)<nm/\¬ (i:Int)<12) by omega) with g1 | ⟨g1,g2⟩;all_goals
    clear hin
    go_wp2_with fail
    exact lexit [6,7,8,9,57,58,59,60,61,62,63,64,65,66,67,68,69,70,71,72,73,74,75,76,77,78,79,80,81,82,83,84,85,86,87,88,89,90,91,92,93,94,95,96,97,98,99,100,101,102,103,104,105,106,107,108,109,110,111,112,113,114,115,116,117,118,119,120,121,122,123,124,125,126] (hQ.out _ _ (A8 ⟨sv,ss,Ad,hI.out,hM.out⟩)) Ab
  case pos =>
   obtain ⟨hin,hi12⟩:=hin;have g1:(i:Int)<nm:=by omega
   have g2:(i:Int)<12:=by omega
   have hi0:(0:Int)<=i:=by omega
   obtain ⟨b,off,ea,hbw,c0,c1⟩:∃ b off,ma=some ⟨b,off,none⟩/\b<w.heap.size/\CSm w b (off+i*2) (CW ms i):=by
    rcases HM.out with ⟨e,e2⟩ | ⟨b,off,cap',e,h1,h2,h3,h4⟩
    ·have:=hnm.out;rw [e2] at this;simp at this;omega
    ·cases e
     exact ⟨b,off,rfl,h3,h4 i _ (FK (by rw [<-hnm.out];exact hin))⟩
   subst ea;have P0:=A8 (PA.out i);have P1:=A8 (PB.out i);have b1:=CP (c:=(CW ms i).loc) (m:=31) Ad;have b2:=Ds (c:=(CW ms i).loc) (m:=31) Ad;have b3:=CP (c:=(CW ms i).val) (m:=2*tol+1) Ad;have b4:=Ds (c:=(CW ms i).val) (m:=2*tol+1) Ad;generalize DB (CW ms i).loc 31=p0 at *
   generalize DB (CW ms i).val (2*tol+1)=p1 at *
   have d0:=hM.out.old hbw c0;obtain ⟨t',ht'⟩:∃ t',t+p0=t':=⟨_,rfl⟩;have u0:IntKind.i64.wrap (t+p0)=t':=by rw [ht'];exact Bz _ Ad
   have t0:0<=t'/\t'<=30*(i+1)/\t'<=360:=by omega
   replace ht':=A8 ht';have hv:=hb1.out t' t0.1 t0.2.2;have hlo:=hb2.out t' t0.1 t0.2.2;have hTr:Hid (PY st0 c nn v0 each tol ⟨DD st0 c nn t',v0+each*t'+p1-tol⟩):=A8 ⟨t',t0.1,Ad,rfl,by show v0+each*t'+p1-tol-tol<=_;omega,by show _<=v0+each*t'+p1-tol+tol;omega⟩;have SHt:=A8 (fun W (hb:Below w.heap.size w W)=>SH.out t' W hb ⟨t0.1,t0.2.2⟩);have VAt:=A8 (fun W (hb:Below w.heap.size w W)=>VA.out t' W hb ⟨t0.1,t0.2.2⟩);generalize DD st0 c nn t'=lo at *
   generalize v0+each*t'=V0 at *
   obtain ⟨x2,hx2⟩:∃ x2,x2=V0+p1-tol:=⟨_,rfl⟩;rw [<-hx2] at hTr;have u1:IntKind.i64.wrap (2*tol)=2*tol:=Bz _ Ad;have u2:IntKind.i64.wrap (2*tol+1)=2*tol+1:=Bz _ Ad;have u3:IntKind.i64.wrap (V0+p1)=V0+p1:=Bz _ Ad;have u4:IntKind.i64.wrap (V0+p1-tol)=x2:=by rw [hx2];exact Bz _ Ad
   have hxb:-1000000<=x2/\x2<=1000000:=by omega
   clear hx2 hv b3 b4;go_wp2_with fail;refine Calls.mono (P0.out _) ?_;rintro e w1 ⟨rfl,rfl⟩;clear P0 d0;go_upto_region 12 with fail;clear u0;refine OW (bS:=bS) (bG:=bG) (bM:=b) (oM:=off) (nM:=nm) (kM:=mcap) (i:=i) (ra:=ra) (re:=.slice qa nq qcap) (sp:=sp) (dr:=dr) (st:=st) (tl:=tl) (rt:=rt) (fi:=fi) (t:=t') (tol:=tol) (b1:=(CW ms i).val) (lo:=lo) (V:=V0) (pk:=p1) hi0 g1 (fun W hW=>hW.cell _ _ _ (.tail _ hS.out) 0) (fun W hW=>hW.cell _ _ _ (.tail _ hS.out) 1) (fun W hW=>hW.cell _ _ _ (.tail _ hS.out) 2) (fun W hW=>SHt.out W hW.below) (fun W hW=>hW.cell _ _ _ (.tail _ hS.out) 3) (fun W hW=>hW.cell _ _ _ (.tail _ hS.out) 4) (fun W hW=>hW.cell _ _ _ (.tail _ hS.out) 5) (fun W hW=>hW.cell _ _ _ (.tail _ hS.out) 6) (fun W hW=>hW.cell _ _ _ (.tail _ hS.out) 7) (fun W hW=>hW.cell _ _ _ (.tail _ hS.out) 8) (fun W hW=>VAt.out W hW.below) (fun W hW=>hW.old hbw c1) (fun W hW=>hW.cell _ _ _ Ah 2) u1 u2 (fun W hW=>(P1.out W).mono fun e W' ⟨he,hw'⟩=>⟨he,by subst hw';exact Below.refl _ _⟩) u3 u4 hM rfl rfl rfl rfl rfl Ab ?_;intro xx bP W' hx8 hM9;simp only [Dp,BN,BO,A5,A6,hx8];clear hx8 hM SHt VAt P1 y8 u1 u2 u3 u4;have hM:=hM9;clear hM9;obtain ⟨va,vc,hv⟩:=(Nl.of_own hM.out.own0).shape;subst hv;by_cases hz:ss.length=0
   ·obtain rfl:=AS hz
    have hprev:Hq [] (List.length ([]:List Sm))<lo:=by show (-1:Int)<lo;omega
    have y1:=(hM.out.cell bG _ _ Ai 4).trans (show _=some (Value.slice va 0 vc) from rfl);go_upto_region 14 with fail;refine NF hM rfl rfl Ab ?_;intro xx W' hx120 hM;simp only [Dp,BN,BO,A5,A6,hx120];clear hx120 y1;have z0:=(hM.out.cell bP _ _ Ah 0).trans (show _=some (Value.int .i64 lo) from rfl);have z1:=(hM.out.cell bP _ _ Ah 1).trans (show _=some (Value.int .i64 x2) from rfl);have z2:=(hM.out.cell bG _ _ Ai 4).trans (show _=some (Value.slice va 0 vc) from rfl);have hMt:=A8 hM.out.tail;generalize Value.slice va 0 vc=V at *
    clear hM;go_wp2_with (at_builtin;refine GO (m:=1) (k:=2) rfl rfl Ab Ab (hMt.out.new _) rfl rfl (CO.new _ _ _) rfl rfl (by first | omega | simp) Ae Ae ?_;intro g2 c2 W8 hM8;have q1:=hM8.cell bG _ _ Ah 4;have q2:=hM8.frozen bG _ _ Ah 4;replace hM8:=hM8.put0 4 (.slice (some ⟨g2,0,none⟩) (List.length ([]:List Sm)+1) c2));go_roundw;case rel=>exact ⟨i+1,t',_,([]:List Sm)++[⟨lo,x2⟩],rfl,by go_num,Ad,Ad,Ad,by rw [BP];simp only [C4,Cf] at *;omega,A8 (hI.out.snoc ⟨lo,x2⟩ hprev hlo.1 hlo.2 (by show -1000000<=x2;omega) (by show x2<=1000000;omega) hTr.out),by rw [BP,Lm];exact A8 hM8⟩
    case measure=>simp [intOf];omega
   ·obtain ⟨gb,rfl⟩:∃ gb,va=some ⟨gb,0,none⟩:=by
     rcases hM.out.own0.2 with ⟨e,h0⟩ | ⟨g,cap,cur,e,_⟩
     ·exact absurd h0 hz
     ·cases e;exact ⟨g,rfl⟩
    obtain ⟨n1,hn1⟩:∃ n1,ss.length=n1+1:=⟨ss.length-1,Ad⟩
    have k0:=(Kt ss n1 Ad).1
    have h71:IntKind.i64.wrap ((ss.length:Int)-1)=n1:=by rw [show (ss.length:Int)-1=n1 by omega];exact Bz _ Ad
    have hn2:(n1:Int)<ss.length:=by omega
    replace hn1:=A8 hn1
    obtain ⟨ok,hok⟩:∃ ok,decide ((CW ss n1).loc<lo)=ok:=⟨_,rfl⟩
    have y1:=(hM.out.cell bG _ _ Ai 4).trans (show _=some (Value.slice (some ⟨gb,0,none⟩) ss.length vc) from rfl)
    have m1:((ss.length:Int)==0)=false:=by rw [Am];omega
    go_upto_region 14 with fail
    refine NG (bG:=bG) (bP:=bP) (gb:=gb) (n:=ss.length) (cap:=vc) (n1:=n1) (la:=(CW ss n1).loc) (lo:=lo) (ok:=ok) Ad hn2 m1 (fun W hW=>hW.cell _ _ _ Ai 4) h71 (fun W hW=>by
     have:=hW.own0.cells (g:=gb) rfl (n1*2) _ k0;rw [E5,Br] at this;exact this) (fun W hW=>hW.cell _ _ _ Ah 0) hok hM rfl rfl rfl rfl Ab ?_
    intro xx W' hx120 hM
    simp only [Dp,BN,BO,A5,A6,hx120]
    clear hx120 y1 m1 h71 hn2
    cases ok
    case false =>
     go_wp2_with fail;go_roundw;case rel=>exact ⟨i+1,t',_,ss,rfl,by go_num,Ad,Ad,Ad,Ad,hI,A8 hM.out.tail⟩
     case measure=>simp [intOf];omega
    case true =>
     have hprev:Hq ss ss.length<lo:=by rw [hn1.out];exact BS hok
     clear k0;have z0:=(hM.out.cell bP _ _ Ah 0).trans (show _=some (Value.int .i64 lo) from rfl);have z1:=(hM.out.cell bP _ _ Ah 1).trans (show _=some (Value.int .i64 x2) from rfl);have z2:=(hM.out.cell bG _ _ Ai 4).trans (show _=some (Value.slice (some ⟨gb,0,none⟩) ss.length vc) from rfl);have hMt:=A8 hM.out.tail;generalize Value.slice (some ⟨gb,0,none⟩) ss.length vc=V at *
     clear hM;go_wp2_with (at_builtin;refine GO (m:=1) (k:=2) rfl rfl Ab Ab (hMt.out.new _) rfl rfl (CO.new _ _ _) rfl rfl (by first | omega | simp) Ae Ae ?_;intro g2 c2 W8 hM8;have q1:=hM8.cell bG _ _ Ah 4;have q2:=hM8.frozen bG _ _ Ah 4;replace hM8:=hM8.put0 4 (.slice (some ⟨g2,0,none⟩) (List.length ss+1) c2));go_roundw;case rel=>exact ⟨i+1,t',_,ss++[⟨lo,x2⟩],rfl,by go_num,Ad,Ad,Ad,by rw [BP];simp only [C4,Cf] at *;omega,A8 (hI.out.snoc ⟨lo,x2⟩ hprev hlo.1 hlo.2 (by show -1000000<=x2;omega) (by show x2<=1000000;omega) hTr.out),by rw [BP,Lm];exact A8 hM8⟩
     case measure=>simp [intOf];omega
theorem TD {c:Nat->Int} {d st:Int} (b1:0<=d) (b2:d<101) (hc:∀ i,-d<=c i/\c i<=d) (q1:0<=st) (q2:st<1000) (n:Nat) (t:Int) (h0:0<=t) (h1:t<=360):0<=DD st c n t/\DD st c n t<=10000000:=by
 obtain ⟨q3,q4⟩:=Jp (c:=c) b1 hc (Cc 0) h0 n;rw [IC] at q3 q4;have q5:=BF (show 0<=1000-d by omega) (show (0:Int)<=t-0 by omega);have q6:=Az (show 1000+d<=1100 by omega) (show (0:Int)<=t-0 by omega);unfold DD;omega
theorem TE {v0 each r t:Int} (h0:-1000<=v0) (h1:v0<=1000) (h2:-r<=each) (h3:each<=r) (h4:r<=20) (t0:0<=t) (t1:t<=450):-10000<=v0+each*t/\v0+each*t<=10000:=by
 have h5:=Az (show -20<=each by omega) t0;have h6:=Az (show each<=20 by omega) t0;omega
theorem P3 (dr st tl rt fi stp:Int) (ra re pv sa:Value) (rates:List Int) (qs:List Tri) (ms:List Sm) (w:World) (h:Sl w ra rates) (hq:Jo w re qs) (hp:Sl w pv [stp]) (hm:Nl w sa ms) (f1:CI dr) (f2:CI st) (f3:CI tl) (f4:CI rt) (f5:CI fi) (f6:CI stp) (hf:∀ i,CI (gi rates i)) (hqf:TF qs) (hmf:∀ i,CI (CW ms i).loc/\CI (CW ms i).val) :
  Calls Tryz.prog 6 #[.agg (M9 dr st tl rt fi ra re pv sa)] w (G24P w st (DB dr 101) (DB tl 31) (DB rt 21) (DB fi 2001-1000) (DB stp (2*DB rt 21+1)-DB rt 21) rates):=by
 obtain ⟨qa,qcap,rfl⟩:=hq.shape
 obtain ⟨ma,mcap,rfl⟩:=hm.shape
 have MK:=A8 (fun qv (ts:List Tri) W (hb:Below w.heap.size w W) (hs:Jo W qv ts) (hT:TF ts)=>Ri dr st ra qv rates ts W (h.below hb) hs f1 f2 hf hT)
 have TO:=A8 (fun W=>tol_any dr st tl rt fi ra (.slice qa qs.length qcap) pv (.slice ma ms.length mcap) W f3)
 have RA:=A8 (fun W=>Nx dr st tl rt fi ra (.slice qa qs.length qcap) pv (.slice ma ms.length mcap) W f4)
 have SH:=A8 (fun (t:Int) W (hb:Below w.heap.size w W) (ht:0<=t/\t<=360)=>Lf dr st t ra rates W (h.below hb) f1 f2 hf ⟨ht.1,Ad⟩)
 have VA:=A8 (fun (t:Int) W (hb:Below w.heap.size w W) (ht:0<=t/\t<=360)=>Lg dr st tl rt fi stp t ra (.slice qa qs.length qcap) pv (.slice ma ms.length mcap) W (h:=hp.below hb) f4 f5 f6 ⟨ht.1,Ad⟩)
 have PQ:=A8 (fun i W=>EB (CX qs i).a 360 (hqf i).1 Ad Ad W)
 have PA:=A8 (fun i W=>EB (CW ms i).loc 31 (hmf i).1 Ad Ad W)
 have a1:=CP (c:=dr) (m:=101) Ad
 have a2:=Ds (c:=dr) (m:=101) Ad
 have a3:=CP (c:=tl) (m:=31) Ad
 have a4:=Ds (c:=tl) (m:=31) Ad
 have a5:=CP (c:=rt) (m:=21) Ad
 have a6:=Ds (c:=rt) (m:=21) Ad
 have a7:=CP (c:=fi) (m:=2001) Ad
 have a8:=Ds (c:=fi) (m:=2001) Ad
 have a9:=CP (c:=st) (m:=1000) Ad
 have a10:=Ds (c:=st) (m:=1000) Ad
 have PB:=A8 (fun i W=>EB (CW ms i).val (2*DB tl 31+1) (hmf i).2 Ad Ad W)
 have a11:=CP (c:=stp) (m:=2*DB rt 21+1) Ad
 have a12:=Ds (c:=stp) (m:=2*DB rt 21+1) Ad
 obtain ⟨each,he⟩:∃ each,DB stp (2*DB rt 21+1)-DB rt 21=each:=⟨_,rfl⟩
 have a13:-DB rt 21<=each/\each<=DB rt 21:=by omega
 rw [he] at VA |-
 obtain ⟨v0,hv0⟩:∃ v0,DB fi 2001-1000=v0:=⟨_,rfl⟩
 have a14:-1000<=v0/\v0<=1000:=by omega
 rw [hv0] at VA |-
 have hb2:=A8 (TD a1 a2 (Gd a1 rates) a9 a10 (min rates.length 20))
 have hcb:=A8 (Gd a1 rates)
 clear he hv0 a7 a8 a9 a10 a11 a12
 generalize DB dr 101=d at *
 generalize DB tl 31=tol at *
 generalize DB rt 21=rr at *
 have hb1:Hid (∀ t:Int,0<=t->t<=360->-10000<=v0+each*t/\v0+each*t<=10000):=A8 fun t t0 t1=>TE a14.1 a14.2 a13.1 a13.2 Ad t0 Ad
 have HQ:=A8 hq
 have HM:=A8 hm
 obtain ⟨nq,hnq⟩:∃ n,n=qs.length:=⟨_,rfl⟩
 obtain ⟨nm,hnm⟩:∃ n,n=ms.length:=⟨_,rfl⟩
 rw [<-hnq] at HQ TO RA VA |-
 rw [<-hnm] at HM TO RA VA |-
 replace hnq:=A8 hnq
 replace hnm:=A8 hnm
 have hqf':=A8 hqf
 clear h hq hp hm f1 f2 f3 f4 f5 f6 hf hqf hmf
 unfold M9 at TO RA VA |-
 obtain ⟨V1,bS,e1,eS,S1⟩:=(CE.start w).addB #[.int .i64 dr,.int .i64 st,ra,.slice qa nq qcap,.int .i64 tl,.int .i64 rt,.int .i64 fi,pv,.slice ma nm mcap] 26
 obtain ⟨V2,bO,e2,eO,S2⟩:=S1.addB #[.int .i64 0,.slice none 0 0,.int .i64 0,.int .i64 0,.slice none 0 0] 42
 have hM:=A8 S2
 rw [e1] at e2 eO
 clear S1 S2 e1
 have hO:bO=w.heap.size+1:=by rw [eO];exact AP _ _
 clear eO
 go_enter Tryz.func6,Tryz.ntmps6
 go_upto_region 1 with fail
 rw [<-e2,<-hO,<-eS]
 clear e2 hO eS
 go_wp2_with fail
 refine Rm HQ hnq hqf' PQ hM Ab rfl rfl rfl rfl ?_
 intro fr W' hpost
 simp only [Dp,BN,BO,A5,A6]
 obtain ⟨ts,hts,hT,hM1⟩:=hpost.out
 replace hM1:=A8 hM1
 replace hT:=A8 hT
 clear hM hpost HQ hqf' PQ
 generalize fr 3=qv at *
 go_upto_region 6 with fail
 refine Rl (bS:=bS) (nn:=min rates.length 20) (c:=Dq d rates) (qv:=qv) (st0:=DB st 1000) (d:=d) (tol:=tol) (rr:=rr) (ra:=ra) (re:=.slice qa nq qcap) (sp:=pv) (sa:=.slice ma nm mcap) (dr:=dr) (st:=st) (tl:=tl) (rt:=rt) (fi:=fi) (w:=w) (L:=[(bO,#[.int .i64 0,.slice none 0 0,.int .i64 0,.int .i64 0,.slice none 0 0],42),(bS,#[.int .i64 dr,.int .i64 st,ra,.slice qa nq qcap,.int .i64 tl,.int .i64 rt,.int .i64 fi,pv,.slice ma nm mcap],26)]) (R:=[⟨60,3,qv,ts.length,Gv ts⟩])
  (fun W hW=>hW.cell _ _ _ Ai 0) (fun W hW=>hW.cell _ _ _ Ai 1) (fun W hW=>hW.cell _ _ _ Ai 2) (A8 fun W hW=>(MK.out qv ts W hW.below (Jo.of_own hW.own0) hT.out).mono fun e W' hp=>hp.row hW.size) (fun W hW=>hW.cell _ _ _ Ai 3) (fun W hW=>hW.cell _ _ _ Ai 4) (fun W hW=>hW.cell _ _ _ Ai 5) (fun W hW=>hW.cell _ _ _ Ai 6) (fun W hW=>hW.cell _ _ _ Ai 7) (fun W hW=>hW.cell _ _ _ Ai 8) (fun W hW=>TO.out W) (fun W hW=>RA.out W) hM1 rfl rfl rfl Ab ?_
 intro xx bG ar rs kr W' hx5 hrow hM2
 simp only [Dp,BN,BO,A5,A6,hx5]
 clear hx5 hM1 MK TO RA
 have hM3:=A8 (hM2.out.rtail.adoptRow hrow.out.own (by intro p hp;simp only [As,AQ,or_false] at hp;rcases hp with rfl | rfl | rfl <;> first | exact (show (42:TypeId)≠89 from by decide) | exact (show (26:TypeId)≠89 from by decide)) (fun _ h=>by cases h))
 have hinv:=A8 hrow.out.inv
 have hrl:=hrow.out.len
 clear hM2 hrow
 go_wp2_with fail
 refine Rn (bS:=bS) (bG:=bG) (nn:=min rates.length 20) (rv:=.slice ar rs.length kr) (d:=d) (tol:=tol) (rr:=rr) (st0:=DB st 1000) (v0:=v0) (each:=each) (c:=Dq d rates) (w:=w) (L:=[(bO,#[.int .i64 0,.slice none 0 0,.int .i64 0,.int .i64 0,.slice none 0 0],42),(bS,#[.int .i64 dr,.int .i64 st,ra,.slice qa nq qcap,.int .i64 tl,.int .i64 rt,.int .i64 fi,pv,.slice ma nm mcap],26)]) (R:=[⟨89,3,.slice ar rs.length kr,rs.length,Fw rs⟩]) HM hnm (A8 Ai) ⟨a3,Ad⟩ hb1 hb2 SH VA PA PB hM3 Ab rfl rfl rfl rfl rfl ?_
 intro fr2 W' hpost
 simp only [Dp,BN,BO,A5,A6]
 obtain ⟨sv,ss,hsl,hI,hM4⟩:=hpost.out
 clear hpost hM3
 obtain ⟨va,vc,rfl⟩:=(Nl.of_own hM4.own0).shape
 have k0:=(hM4.cell bG _ _ Ah 0).trans (show _=some (Value.int .i64 d) from rfl)
 have k1:=(hM4.cell bG _ _ Ah 1).trans (show _=some (Value.slice ar rs.length kr) from rfl)
 have k2:=(hM4.cell bG _ _ Ah 2).trans (show _=some (Value.int .i64 tol) from rfl)
 have k3:=(hM4.cell bG _ _ Ah 3).trans (show _=some (Value.int .i64 rr) from rfl)
 have k4:=(hM4.cell bG _ _ Ah 4).trans (show _=some (Value.slice va ss.length vc) from rfl)
 have hfa:Jd (DB st 1000) (Dq d rates) (min rates.length 20) v0 each d tol rr rs ss:=⟨⟨a1,Ad⟩,hcb.out,a13,hinv.out.true_,hI.tr⟩
 obtain ⟨⟨q0,q1,q2,q3,q4⟩,_,_,_,_,_,hbl⟩:=TC (hM4.blks _ Ai) (.int .i64 d) (.slice ar rs.length kr) (.int .i64 tol) (.int .i64 rr) (.slice va ss.length vc)
 have c0:=hbl.cell 0
 have c1:=hbl.cell 1
 have c2:=hbl.cell 2
 have c3:=hbl.cell 3
 have c4:=hbl.cell 4
 have hX:=A8 ((((((hM4.perm (.swap _ _ _)).put0 0 (.int .i64 d)).put0 1 (.slice ar rs.length kr)).put0 2 (.int .i64 tol)).put0 3 (.int .i64 rr)).put0 4 (.slice va ss.length vc))
 clear hM4 hbl
 replace hfa:=A8 hfa
 replace hI:=A8 hI
 go_wp2
 exact bodyPost_ret (v:=.agg #[.int .i64 d,.slice ar rs.length kr,.int .i64 tol,.int .i64 rr,.slice va ss.length vc]) (by simp [results,Tryz.results6,go_sem,c0,c1,c2,c3,c4]) rfl ⟨_,_,rs,ss,rfl,hX.out.rtail.own0,hX.out.own0,⟨⟨a1,Ad⟩,⟨a3,Ad⟩,⟨a5,Ad⟩,hinv.out.ok hrl,⟨Ad,hI.out.at_,hI.out.pos⟩,hfa.out.wins⟩,hfa.out,hX.out.below⟩
end
end Go.Proofs.YtdkonnnmkceagaaGreatDoor
