/- BnA, BnW, FwA, LmC, LmW -/
import Derived.Test.YtioamkekjjkigaaGreatDoorYLmA
set_option maxHeartbeats 8000000
set_option maxRecDepth 100000
namespace Go.Proofs.YtioamkekjjkigaaGreatDoor
section
open Go.RowKit
attribute [local go_sem] Oper.semAt_some
theorem Vp {Q:Exit->Act->World->Prop} {us:List Value} {bU B m cap i pb n cp kq:Nat} {ds:Array Value} {c1 y y0 zc:Int} {w W0:World} {L:Ei} {R:List En}  (G:(0:Int)<=i) (D:(i:Int)<m) (t:(0:Int)<=kq) (C:(kq:Int)<n) (l:ds[kq]? = some (.int .i64 y0)) (mU:(bU,#[.int .i64 c1,.slice (some ⟨B,0,none⟩) m cap],27)∈L) (k:DQ w L R B (i*2) (.slice (some ⟨pb,0,none⟩) n cp)) (C65:EW w L R 26 #[.int .i64 zc,.int .i64 c1] (.int .i64 kq)) (h0:Hid (Dp w ((pb,ds,3) :: L) R W0)) (s:us.length=85) (v:us[2]? = some (.int .i64 y)) (F:us[3]? = some (.int .i64 zc)) (p:us[9]? = some (.pointer (some ⟨bU,0,none⟩))) (e:us[10]? = some (.int .i64 i)) {ops:Array Oper} (o:Dt Tryz.f7.body 13=some ops)
  (j:∀ (x:Nat->Value)  (W':World),Hid (Dp w ((pb,(ds).setIfInBounds (kq) (.int .i64 y),3) :: L) R W')->Q .normal { tmps:=(Eb [56,57,58,59,60,61,62,63,64,65,66,67] x us).toArray,defers:=[] } W') :
  (Code.region 13 ops true).wp Tryz.prog Q { tmps:=us.toArray,defers:=[] } W0:=by
 obtain rfl:=B4 (o.symm.trans (rfl:Dt Tryz.f7.body 13=some _))
 clear o
 replace j:=A8 j
 let Fl:Unit->FL:=fun g=>[some (56,.pointer (some ⟨bU,1,none⟩)),some (57,.slice (some ⟨B,0,none⟩) m cap),some (58,.int .i64 i),some (59,.pointer (some ⟨B,i*2,none⟩)),some (60,.pointer (some ⟨B,i*2,none⟩)),some (61,.slice (some ⟨pb,0,none⟩) n cp),some (62,.int .i64 zc),some (63,.pointer (some ⟨bU,0,none⟩)),some (64,.int .i64 c1),some (65,.int .i64 kq),some (66,.int .i64 y),some (67,.pointer (some ⟨pb,kq,none⟩)),none]
 let Ml:Unit->ML:=fun g=>[]
 let Sl_:Unit->List (World->Prop):=fun g=>[fun W=>Dp w ((pb,ds,3) :: L) R W,fun W=>Dp w ((pb,(ds).setIfInBounds (kq) (.int .i64 y),3) :: L) R W]
 have St:Iu 85 [56,57,58,59,60,61,62,63,64,65,66,67] [] Fl Ml (Dp w L R) Sl_:=⟨fun _=>by kernel_rfl,fun _=>rfl,fun _ _ hb h=>h.call hb,fun g=>(fun _ h=>by cases h),fun g=>C6.2 ⟨fun W W' hb h=>h.call hb,C6.2 ⟨fun W W' hb h=>h.call hb,(fun _ h=>by cases h)⟩⟩⟩
 refine FM St us [12] () s h0.out.tail.drew h0.out.drew ?_ ?_
 refine sV St ?_ (fun z=>z.u p)
 refine sV St ?_ (fun z=>z.x 0 rfl) (fun z=>(z.c.cell _ _ _ mU 1).trans (show _=some (.slice (some ⟨B,0,none⟩) m cap:Value) from rfl))
 refine sV St ?_ (fun z=>z.u e)
 refine sV St ?_ (fun z=>z.x 1 rfl) (fun z=>z.x 2 rfl)
 refine sV St ?_ (fun z=>z.x 3 rfl)
 refine sV St ?_ (fun z=>z.x 4 rfl) (fun z=>k _ z.c)
 refine sV St ?_ (fun z=>z.u F)
 refine sV St ?_ (fun z=>z.u p)
 refine sV St ?_ (fun z=>z.x 7 rfl) (fun z=>(z.c.cell _ _ _ mU 0).trans (show _=some (.int .i64 c1:Value) from rfl))
 refine sC St ?_ (fun z=>C65 _ z.c) (fun z=>z.x 6 rfl) (fun z=>z.x 8 rfl)
 refine sV St ?_ (fun z=>z.u v)
 refine sV St ?_ (fun z=>z.x 5 rfl) (fun z=>z.x 9 rfl)
 refine Dk (stE 12 0 (.inl rfl) rfl rfl (fun _=>rfl) Ab (fun _=>by kernel_rfl) fun g T E W hl hw hs z q K J=>by
  have A:=z.x 10 hw rfl;have r:=z.x 11 hw rfl;have b:Dp _ _ _ _:=q;have y0:=(b.cell _ _ _ Ah (kq)).trans l;have w0:=b.frozen _ _ _ Ah (kq);go_simp;exact J _ ((b.put0 (kq) _).tail) (b.put0 (kq) _)) ?_
 ·exact Du
 ·intro g a W z q
  have d:Dp _ _ _ _:=q;rw [z.f.eqs];exact j.out _   _  (A8 d)
theorem Vq {Q:Exit->Act->World->Prop} {us:List Value} {bU B m cap i n:Nat} {cs:Array Value} {v:Value} {xs:List Value} {c1 y:Int} {w W0:World} {L:Ei} {R:List En}  (hn:Hid (n<=1000000)) (I:(0:Int)<=i) (H:(i:Int)<m) (hcs:cs[i*2]? = some v) (mU:(bU,#[.int .i64 c1,.slice (some ⟨B,0,none⟩) m cap],27)∈L)  (h0:Hid (Dp w ((B,cs,57) :: L) (⟨3,1,v,n,xs⟩ :: R) W0)) (N:us.length=85) (G:us[2]? = some (.int .i64 y)) (t:us[9]? = some (.pointer (some ⟨bU,0,none⟩))) (j:us[10]? = some (.int .i64 i)) {ops:Array Oper} (r:Dt Tryz.f7.body 15=some ops)
  (p:∀ (x:Nat->Value) (G81:Nat) (cap81:Nat) (W':World),Hid (Dp w ((B,(cs).setIfInBounds (i*2) (.slice (some ⟨G81,0,none⟩) (n+1) cap81),57) :: L) (⟨3,1,.slice (some ⟨G81,0,none⟩) (n+1) cap81,n+1,xs++[.int .i64 y]⟩ :: R) W')->Q .normal { tmps:=(Eb [70,71,72,73,74,75,76,77,78,79,80,81,82,83] x us).toArray,defers:=[] } W') :
  (Code.region 15 ops true).wp Tryz.prog Q { tmps:=us.toArray,defers:=[] } W0:=by
 obtain rfl:=B4 (r.symm.trans (rfl:Dt Tryz.f7.body 15=some _))
 clear r
 replace p:=A8 p
 let Fl:Nat×Nat->FL:=fun g=>[some (70,.pointer (some ⟨bU,1,none⟩)),some (71,.slice (some ⟨B,0,none⟩) m cap),some (72,.int .i64 i),some (73,.pointer (some ⟨bU,1,none⟩)),some (74,.slice (some ⟨B,0,none⟩) m cap),some (75,.int .i64 i),some (76,.pointer (some ⟨B,i*2,none⟩)),some (77,.pointer (some ⟨B,i*2,none⟩)),some (78,v),some (79,.int .i64 y),none,some (81,.slice (some ⟨g.1,0,none⟩) (n+1) g.2),some (82,.pointer (some ⟨B,i*2,none⟩)),some (83,.pointer (some ⟨B,i*2,none⟩)),none]
 let Ml:Nat×Nat->ML:=fun g=>[(10,80,(fun yv W=>∃ (d:Nat),yv=.slice (some ⟨d,0,none⟩) 1 1/\Ds W d #[.int .i64 y] 3),some 11)]
 let Sl_:Nat×Nat->List (World->Prop):=fun g=>[fun W=>Dp w ((B,cs,57) :: L) (⟨3,1,v,n,xs⟩ :: R) W,fun W=>Dp w ((B,cs,57) :: L) (⟨3,1,.slice (some ⟨g.1,0,none⟩) (n+1) g.2,n+1,xs++[.int .i64 y]⟩ :: R) W,fun W=>Dp w ((B,(cs).setIfInBounds (i*2) (.slice (some ⟨g.1,0,none⟩) (n+1) g.2),57) :: L) (⟨3,1,.slice (some ⟨g.1,0,none⟩) (n+1) g.2,n+1,xs++[.int .i64 y]⟩ :: R) W]
 have St:Iu 85 [70,71,72,73,74,75,76,77,78,79,80,81,82,83] [10] Fl Ml (Dp w L R) Sl_:=⟨fun _=>by kernel_rfl,fun _=>rfl,fun _ _ hb h=>h.call hb,fun g=>C6.2 ⟨fun yv W W' hb=>fun ⟨g,e,h⟩=>⟨g,e,h.below hb⟩,(fun _ h=>by cases h)⟩,fun g=>C6.2 ⟨fun W W' hb h=>h.call hb,C6.2 ⟨fun W W' hb h=>h.call hb,C6.2 ⟨fun W W' hb h=>h.call hb,(fun _ h=>by cases h)⟩⟩⟩⟩
 refine FM St us [11,14] ⟨0,0⟩ N h0.out.tail.rtail.drew h0.out.drew ?_ ?_
 refine sV St ?_ (fun z=>z.u t)
 refine sV St ?_ (fun z=>z.x 0 rfl) (fun z=>(z.c.cell _ _ _ mU 1).trans (show _=some (.slice (some ⟨B,0,none⟩) m cap:Value) from rfl))
 refine sV St ?_ (fun z=>z.u j)
 refine sV St ?_ (fun z=>z.u t)
 refine sV St ?_ (fun z=>z.x 3 rfl) (fun z=>(z.c.cell _ _ _ mU 1).trans (show _=some (.slice (some ⟨B,0,none⟩) m cap:Value) from rfl))
 refine sV St ?_ (fun z=>z.u j)
 refine sV St ?_ (fun z=>z.x 4 rfl) (fun z=>z.x 5 rfl)
 refine sV St ?_ (fun z=>z.x 6 rfl)
 refine Dk (stV St 8 rfl rfl rfl (fun _=>rfl) fun g T E W hl hw hs z K J=>by
  have C:=z.x 7 hw rfl;have S:W.cell? ⟨B,i*2,none⟩=some (v:Value):=z.ld 8 0 0 hl hw hs rfl Ab (fun s=>(Dp.cell (s) _ _ _ Ah (i*2)).trans hcs);go_simp;exact J) ?_
 refine sV St ?_ (fun z=>z.u G)
 refine Dk (stM St 10 0 rfl rfl (.inl rfl) (fun _=>rfl) (fun _=>by kernel_rfl) fun g T E W hl hw hs z K J=>by
  have D:=z.x 9 hw rfl;go_simp;exact J _ _ ((Below.refl _ _).alloc (Aa _) _) ⟨_,rfl,Ds.new _ _ _⟩) ?_
 refine Dk (stF St 11 0 rfl (.inl rfl) rfl rfl Ab (fun _=>by kernel_rfl) fun g T E W hl hw hs z q K J=>by
  have M:=z.x 8 hw rfl;obtain ⟨_,F,d,rfl,k⟩:=z.y 0 hl hw hs rfl;have b:Dp _ _ _ _:=q;refine Nl rfl b (by go_simp) (by go_simp) (k.cell 0) hn.out ?_;intro G81' cap81' P l;exact J ⟨G81',cap81'⟩ _ _ rfl Ab (l.tail.rtail) l) ?_
 refine sV St ?_ (fun z=>z.x 1 rfl) (fun z=>z.x 2 rfl)
 refine sV St ?_ (fun z=>z.x 12 rfl)
 refine Dk (stE 14 1 (.inl rfl) rfl rfl (fun _=>rfl) Ab (fun _=>by kernel_rfl) fun g T E W hl hw hs z q K J=>by
  have O:=z.x 11 hw rfl;have A:=z.x 13 hw rfl;have b:Dp _ _ _ _:=q;have y0:=(b.cell _ _ _ Ah (i*2)).trans hcs;have w0:=b.frozen _ _ _ Ah (i*2);go_simp;exact J _ ((b.put0 (i*2) _).tail.rtail) (b.put0 (i*2) _)) ?_
 ·exact Du
 ·intro g a W z q
  have o:Dp _ _ _ _:=q;rw [z.f.eqs];exact p.out _ g.1 g.2  _  (A8 o)
theorem bent_r7 {Q:Exit->Act->World->Prop} {us:List Value} {bU c m:Nat} {v:Value} {xs:List Value} {y:Int} {w W0:World} {L:Ei} {R:List En}  (hn:Hid (m<=1000000)) (hc:Hid (c<=1000000))   (h0:Hid (Dp w ((bU,#[.int .i64 c,v],27) :: L) (⟨57,2,v,m,xs⟩ :: R) W0)) (V:us.length=85) (H:us[2]? = some (.int .i64 y)) (t:us[9]? = some (.pointer (some ⟨bU,0,none⟩))) {ops:Array Oper} (B:Dt Tryz.f7.body 7=some ops)
  (o:∀ (x:Nat->Value) (G40:Nat) (cap40:Nat) (j:Nat) (W':World),Hid (Dp w ((j,Array.replicate c (.int .i64 0),3) :: (bU,#[.int .i64 c,.slice (some ⟨G40,0,none⟩) (m+1) cap40],27) :: L) (⟨57,2,.slice (some ⟨G40,0,none⟩) (m+1) cap40,m+1,xs++[.slice (some ⟨j,0,none⟩) c c,.int .i64 y]⟩ :: R) W')->Q .normal { tmps:=(Eb [32,33,34,35,36,37,38,39,40,41] x us).toArray,defers:=[] } W') :
  (Code.region 7 ops true).wp Tryz.prog Q { tmps:=us.toArray,defers:=[] } W0:=by
 obtain rfl:=B4 (B.symm.trans (rfl:Dt Tryz.f7.body 7=some _))
 clear B
 replace o:=A8 o
 let Fl:Nat×Nat×Nat->FL:=fun g=>[some (32,.pointer (some ⟨bU,1,none⟩)),some (33,v),some (34,.pointer (some ⟨bU,0,none⟩)),some (35,.int .i64 c),some (36,.slice (some ⟨g.2.2,0,none⟩) c c),some (37,.int .i64 y),some (38,.agg #[.slice (some ⟨g.2.2,0,none⟩) c c,.int .i64 y]),none,some (40,.slice (some ⟨g.1,0,none⟩) (m+1) g.2.1),some (41,.pointer (some ⟨bU,1,none⟩)),none]
 let Ml:Nat×Nat×Nat->ML:=fun g=>[(4,36,(fun _ W=>Rm w L R [bU] g.2.2 (Array.replicate c (.int .i64 0)) 3 W),some 10),(7,39,(fun yv W=>∃ (i:Nat),yv=.slice (some ⟨i,0,none⟩) 1 1/\Ds W i #[.slice (some ⟨g.2.2,0,none⟩) c c,.int .i64 y] 57),some 8)]
 let Sl_:Nat×Nat×Nat->List (World->Prop):=fun g=>[fun W=>Dp w ((bU,#[.int .i64 c,v],27) :: L) (⟨57,2,v,m,xs⟩ :: R) W,fun W=>Dp w ((bU,#[.int .i64 c,v],27) :: L) (⟨57,2,.slice (some ⟨g.1,0,none⟩) (m+1) g.2.1,m+1,xs++[.slice (some ⟨g.2.2,0,none⟩) c c,.int .i64 y]⟩ :: R) W,fun W=>Dp w ((g.2.2,Array.replicate c (.int .i64 0),3) :: (bU,#[.int .i64 c,.slice (some ⟨g.1,0,none⟩) (m+1) g.2.1],27) :: L) (⟨57,2,.slice (some ⟨g.1,0,none⟩) (m+1) g.2.1,m+1,xs++[.slice (some ⟨g.2.2,0,none⟩) c c,.int .i64 y]⟩ :: R) W]
 have St:Iu 85 [32,33,34,35,36,37,38,39,40,41] [4,7] Fl Ml (Dp w L R) Sl_:=⟨fun _=>by kernel_rfl,fun _=>rfl,fun _ _ hb h=>h.call hb,fun g=>C6.2 ⟨fun yv W W' hb=>fun h=>h.below hb,C6.2 ⟨fun yv W W' hb=>fun ⟨g,e,h⟩=>⟨g,e,h.below hb⟩,(fun _ h=>by cases h)⟩⟩,fun g=>C6.2 ⟨fun W W' hb h=>h.call hb,C6.2 ⟨fun W W' hb h=>h.call hb,C6.2 ⟨fun W W' hb h=>h.call hb,(fun _ h=>by cases h)⟩⟩⟩⟩
 refine FM St us [8,10] ⟨0,0,0⟩ V h0.out.tail.rtail.drew h0.out.drew ?_ ?_
 refine sV St ?_ (fun z=>z.u t)
 refine Dk (stV St 1 rfl rfl rfl (fun _=>rfl) fun g T E W hl hw hs z K J=>by
  have F:=z.x 0 hw rfl;have M:W.cell? ⟨bU,1,none⟩=some (v:Value):=z.ld 1 0 0 hl hw hs rfl Ab (fun s=>Dp.cell (s) _ _ _ Ah 1);go_simp;exact J) ?_
 refine sV St ?_ (fun z=>z.u t)
 refine Dk (stV St 3 rfl rfl rfl (fun _=>rfl) fun g T E W hl hw hs z K J=>by
  have P:=z.x 2 hw rfl;have M:W.cell? ⟨bU,0,none⟩=some (.int .i64 c:Value):=z.ld 3 0 0 hl hw hs rfl Ab (fun s=>Dp.cell (s) _ _ _ Ah 0);go_simp;exact J) ?_
 refine Dk (stN St 4 0 0 rfl rfl (.inl rfl) rfl (fun _=>rfl) (fun _=>rfl) Ab fun g T E W hl hw hs z K J=>by
  have G:=z.x 3 hw rfl;have O:∀ q∈[bU],q<W.heap.size:=z.ld 4 0 0 hl hw hs rfl Ab (fun s=>C6.2 ⟨Dp.lt (s) _ Ah,(fun _ h=>by cases h)⟩);have I:=z.c;refine MF _ _ rfl c (by go_simp) (by go_simp) hc.out ?_;intro C hk hb;exact J ⟨g.1,g.2.1,W.heap.size⟩ _ hb Ab Ab rfl (Rm.made I O hk)) ?_
 refine sV St ?_ (fun z=>z.u H)
 refine sV St ?_ (fun z=>z.x 4 rfl) (fun z=>z.x 5 rfl)
 refine Dk (stM St 7 1 rfl rfl (.inl rfl) (fun _=>rfl) (fun _=>by kernel_rfl) fun g T E W hl hw hs z K J=>by
  have X:=z.x 6 hw rfl;go_simp;exact J _ _ ((Below.refl _ _).alloc (Aa _) _) ⟨_,rfl,Ds.new _ _ _⟩) ?_
 refine Dk (stP St 8 0 [0] rfl (.inl rfl) rfl rfl Ab (fun _=>by kernel_rfl) fun g T E W hl hw hs z q K J=>by
  have D:=z.x 1 hw rfl;obtain ⟨_,U,i,rfl,k⟩:=z.y 1 hl hw hs rfl;have b:Dp _ _ _ _:=q;refine Rn rfl b (by go_simp) (by go_simp) (k.cell 0) (k.cell 1) rfl rfl hn.out ?_;intro G40' cap40' C l hk;exact J ⟨G40',cap40',g.2.2⟩ _ _ rfl Ab (l.tail.rtail) l (C6.2 ⟨fun r hr=>by obtain rfl:=B4 hr;exact ⟨_,rfl,fun v h=>⟨h.ge,h.ids,h.L,h.R,hk _ _ _ h.blk (show (3:TypeId)≠57 from by decide)⟩⟩,(fun _ h=>by cases h)⟩)) ?_
 refine sV St ?_ (fun z=>z.u t)
 refine Dk (stE 10 1 (.inl rfl) rfl rfl (fun _=>rfl) Ab (fun _=>by kernel_rfl) fun g T E W hl hw hs z q K J=>by
  have N:=z.x 8 hw rfl;have S:=z.x 9 hw rfl;have b:Dp _ _ _ _:=q;obtain ⟨_,_,d⟩:=z.y 0 hl hw hs rfl;replace b:=b.adopt d (C6.2 ⟨.inl (d.ids _ Ah),fun p hp=>.inl (d.L p hp)⟩) (C6.2 ⟨.inr (show (57:TypeId)≠3 from by decide),fun p hp=>.inl (d.R p hp)⟩);have y0:=b.cell _ _ _ Ai 1;have w0:=b.frozen _ _ _ Ai 1;go_simp;exact J _ ((b.put (A:=[_]) 1 _).tail.tail.rtail) (b.put (A:=[_]) 1 _)) ?_
 ·exact Du
 ·intro g a W z q
  have n:Dp _ _ _ _:=q;rw [z.f.eqs];exact o.out _ g.1 g.2.1 g.2.2  _  (A8 n)
def BentP (w:World) (n:Nat) (e:Ending) (w':World):Prop:=∃ (c:Int) (v:Value) (rows:List (List Int×Int)),e=.returned (.agg #[.int .i64 c,v])/\EX w' v rows/\rows.length<=n+1/\Below w.heap.size w w'
theorem IZ {n:Nat} {w W:World} {A C:Ei} {R:List En} {c':Int} {v:Value} {rows':List (List Int×Int)} (a:Dp w (A++(w.heap.size+1,#[.int .i64 0,.slice none 0 0],27) :: C) R W) (b:∀ W',Dp w (A++C) R W'->EX W' v rows') (hn:rows'.length<=n+1) :
  BentP w n (.returned (.agg #[.int .i64 c',v])) ((W.setCell ⟨w.heap.size+1,0,none⟩ (.int .i64 c')).setCell ⟨w.heap.size+1,1,none⟩ v):=by
 have h:=(Dp.front a).out2 (.int .i64 c') v
 exact ⟨c',v,rows',rfl,b _ h.tail,hn,h.below⟩
theorem Vt (c:Nat) (sv:Value) (rows:List (List Int×Int)) (z1 y z3:Int) (w:World) (T:EX w sv rows) (h1:1<=rows.length) (h2:rows.length<=1000) (hc:1<=c/\c<=1000) (hl:∀ r∈rows,r.1.length=c) (F:Dy z1) (Q:Dy z3) :
  Calls Tryz.prog 7 #[.agg #[.int .i64 c,sv],.int .i64 z1,.int .i64 y,.int .i64 z3] w (BentP w rows.length):=by
 obtain ⟨a,cap0,rfl⟩:=T.shape
 have CP:=A8 (fun W (S:Below w.heap.size w W)=>Vr c _ rows W (T.below S) h1 Ad (fun q hq=>by rw [hl q hq];omega))
 obtain ⟨n,hn⟩:∃ n,n=rows.length:=⟨_,rfl⟩
 rw [<-hn] at CP h1 h2 |-
 have PA:=A8 (fun W=>Ed z3 n Q Ad Ad W)
 have PK:=A8 (fun W=>Ed z1 5 F Ad Ad W)
 obtain ⟨i,hi⟩:∃ i:Nat,Ge z3 n=i:=⟨(Ge z3 n).toNat,by have:=Ec (c:=z3) (m:=n) Ad;omega⟩
 obtain ⟨k,hk⟩:∃ k:Nat,Ge z1 5=k:=⟨(Ge z1 5).toNat,by have:=Ec (c:=z1) (m:=5) Ad;omega⟩
 have E:i<n:=by have:=FX (c:=z3) (m:=n) Ad;omega
 have hk5:k<5:=by have:=FX (c:=z1) (m:=5) Ad;omega
 rw [hi] at PA
 rw [hk] at PK
 have PC:=A8 (fun W=>Ed z3 c Q Ad Ad W)
 obtain ⟨q,hq⟩:∃ q:Nat,Ge z3 c=q:=⟨(Ge z3 c).toNat,by have:=Ec (c:=z3) (m:=c) Ad;omega⟩
 have V:q<c:=by have:=FX (c:=z3) (m:=c) Ad;omega
 rw [hq] at PC
 replace hl:=A8 hl
 replace hn:=A8 hn
 clear T hi hk hq F Q
 obtain ⟨V1,e1,S1,s1⟩:=(Dp.start w).add' #[.int .i64 c,.slice a n cap0] 27
 obtain ⟨V2,e2,z,s2⟩:=S1.add' #[.int .i64 0,.slice none 0 0] 27
 rw [s1] at z
 have Z:V2=(w.alloc (.cells #[.int .i64 c,.slice a n cap0] 27)).alloc (.cells #[.int .i64 0,.slice none 0 0] 27):=by rw [e2,e1]
 have x0:=(z.cell w.heap.size _ _ Ai 0).trans (rfl:_=some (Value.int .i64 c))
 have x1:=(z.cell w.heap.size _ _ Ai 1).trans (rfl:_=some (Value.slice _ _ _))
 replace z:=A8 z
 clear e1 e2 S1 s1 s2
 go_enter Tryz.func7,Tryz.ntmps7
 go_upto_region 1 with fail
 rw [<-Z]
 clear Z
 go_wp2_with fail
 refine Calls.mono (CP.out _ z.out.below) ?_
 rintro e w1 ⟨B,cap,cs,fs,rfl,hs,J⟩
 rw [<-hn.out]
 replace z:=A8 (show Dp w ((B,cs,57) :: (fs++[(w.heap.size+1,#[.int .i64 0,.slice none 0 0],27),(w.heap.size,#[.int .i64 c,.slice a n cap0],27)])) [] w1 from z.out.within J)
 replace hs:=A8 hs
 clear J x0 x1 CP
 obtain ⟨V3,bU,e3,M,b⟩:=Dp.addB z.out #[.int .i64 c,.slice (some ⟨B,0,none⟩) n cap] 27
 replace b:=A8 b
 clear z
 go_upto_region 2 with fail
 rw [<-e3,<-M]
 clear e3 M
 have y0:=(b.out.cell bU _ _ Ah 0).trans (rfl:_=some (Value.int .i64 c))
 have U:=(b.out.cell bU _ _ Ah 1).trans (rfl:_=some (Value.slice _ _ _))
 have g0:((n:Int)==0)=false:=by rw [Am];omega
 have g1:¬ (c:Int)<1:=by omega
 go_wp2_with fail
 refine Calls.mono (PA.out _) ?_
 rintro e w2 ⟨rfl,hb⟩
 replace b:=A8 (b.out.call hb)
 clear hb y0 U g0 g1
 go_wp2_with fail
 refine Calls.mono (PK.out _) ?_
 rintro e O ⟨rfl,hb⟩
 replace b:=A8 (b.out.call hb)
 clear hb
 have X:k=0∨k=1∨k=2∨k=3∨k=4:=by omega
 have t:Hid (rows.length<=n+1):=A8 (by have:=hn.out;omega)
 have s:Hid (∀ W',Dp w ((bU,#[.int .i64 y,.slice (some ⟨B,0,none⟩) n cap],27) :: (B,cs,57) :: fs++[(w.heap.size,#[.int .i64 c,.slice a n cap0],27)]) [] W'->EX W' (.slice (some ⟨B,0,none⟩) n cap) rows):=A8 (fun W' h=>by
  have:=hs.out.slE h.tail (fun p hp=>Bu _ hp);rwa [<-hn.out] at this)
 rcases X with rfl | rfl | rfl | rfl | rfl
 ·have P:=b.out.frozen bU _ _ Ah 0
  have y0:=(b.out.cell bU _ _ Ah 0).trans (rfl:_=some (Value.int .i64 c));replace b:=A8 (show Dp w ((bU,#[.int .i64 y,.slice (some ⟨B,0,none⟩) n cap],27) :: (B,cs,57) :: (fs++[(w.heap.size+1,#[.int .i64 0,.slice none 0 0],27),(w.heap.size,#[.int .i64 c,.slice a n cap0],27)])) [] (O.setCell ⟨bU,0,none⟩ (.int .i64 y)) from b.out.put0 0 (.int .i64 y));go_upto_region 16 with fail;clear P y0;generalize O.setCell ⟨bU,0,none⟩ (.int .i64 y)=w4 at *
  have hO:Ds _ (w.heap.size+1) #[.int .i64 0,.slice none 0 0] 27:=b.out.blks _ (.tail _ (.tail _ (Bq _ Ah)));have r0:=(hO.cell 0).trans (rfl:_=some (Value.int .i64 0));have r1:=(hO.cell 1).trans (rfl:_=some (Value.slice none 0 0));have f0:=hO.frozen 0;have F:=hO.frozen 1;have N:=(b.out.cell bU _ _ Ah 0).trans (rfl:_=some (Value.int .i64 _));have q1:=(b.out.cell bU _ _ Ah 1).trans (rfl:_=some (Value.slice _ _ _));obtain ⟨D,k1⟩:=Gj hO (.int .i64 y) (.slice (some ⟨B,0,none⟩) n cap) |>.2.2.2.2;have f:=A8 (IZ (c':=y) (A:=(bU,#[.int .i64 y,.slice (some ⟨B,0,none⟩) n cap],27) :: (B,cs,57) :: fs) b.out s.out t.out);clear b hO;go_wp2;exact bodyPost_ret (v:=.agg #[.int .i64 y,.slice (some ⟨B,0,none⟩) n cap]) (by simp [results,Tryz.results7,go_sem,D,k1]) rfl f.out
 ·obtain ⟨r,hr⟩:∃ r,rows[i]? = some r:=⟨_,Fe (by rw [<-hn.out];exact E)⟩
  obtain ⟨_,_,_,_,hv,_⟩:=hs.out.at_ hr;have u:=A8 (hs.out.setV hr y);have P:=b.out.frozen B _ _ Ai (i*2+1);have y3:=(b.out.cell B _ _ Ai (i*2+1)).trans hv;have U:=(b.out.cell bU _ _ Ah 1).trans (rfl:_=some (Value.slice _ _ _));have hi0:(0:Int)<=i:=by omega
  have hi1:(i:Int)<n:=by omega
  replace b:=A8 (show Dp w ((bU,#[.int .i64 c,.slice (some ⟨B,0,none⟩) n cap],27) :: (B,cs.setIfInBounds (i*2+1) (.int .i64 y),57) :: (fs++[(w.heap.size+1,#[.int .i64 0,.slice none 0 0],27),(w.heap.size,#[.int .i64 c,.slice a n cap0],27)])) [] (O.setCell ⟨B,i*2+1,none⟩ (.int .i64 y)) from Dp.put (A:=[(bU,#[.int .i64 c,.slice (some ⟨B,0,none⟩) n cap],27)]) b.out (i*2+1) (.int .i64 y));have j:Hid (∀ W',Dp w ((bU,#[.int .i64 c,.slice (some ⟨B,0,none⟩) n cap],27) :: (B,cs.setIfInBounds (i*2+1) (.int .i64 y),57) :: fs++[(w.heap.size,#[.int .i64 c,.slice a n cap0],27)]) [] W'->EX W' (.slice (some ⟨B,0,none⟩) n cap) (rows.set i (r.1,y))):=A8 (fun W' h=>by
   have:=u.out.slE h.tail (fun p hp=>Bu _ hp);rwa [C7,<-hn.out] at this)
  have d:Hid ((rows.set i (r.1,y)).length<=n+1):=A8 (by rw [C7];exact t.out);clear hv hr s;go_upto_region 16 with fail;clear U P y3;generalize O.setCell ⟨B,i*2+1,none⟩ (.int .i64 y)=w4 at *
  have hO:Ds _ (w.heap.size+1) #[.int .i64 0,.slice none 0 0] 27:=b.out.blks _ (.tail _ (.tail _ (Bq _ Ah)));have r0:=(hO.cell 0).trans (rfl:_=some (Value.int .i64 0));have r1:=(hO.cell 1).trans (rfl:_=some (Value.slice none 0 0));have f0:=hO.frozen 0;have F:=hO.frozen 1;have N:=(b.out.cell bU _ _ Ah 0).trans (rfl:_=some (Value.int .i64 _));have q1:=(b.out.cell bU _ _ Ah 1).trans (rfl:_=some (Value.slice _ _ _));obtain ⟨D,k1⟩:=Gj hO (.int .i64 c) (.slice (some ⟨B,0,none⟩) n cap) |>.2.2.2.2;have f:=A8 (IZ (c':=c) (A:=(bU,#[.int .i64 c,.slice (some ⟨B,0,none⟩) n cap],27) :: (B,cs.setIfInBounds (i*2+1) (.int .i64 y),57) :: fs) b.out j.out d.out);clear b hO;go_wp2;exact bodyPost_ret (v:=.agg #[.int .i64 c,.slice (some ⟨B,0,none⟩) n cap]) (by simp [results,Tryz.results7,go_sem,D,k1]) rfl f.out
 ·obtain ⟨r,hr⟩:∃ r,rows[i]? = some r:=⟨_,Fe (by rw [<-hn.out];exact E)⟩
  have hrc:=hl.out r (Ay hr);obtain ⟨g,ds,cp,hg,hcs,H⟩:=hs.out.coef hr;rw [hrc] at hcs H;have u:=A8 (hs.out.setK hr hg q y);have o:=A8 (Dp.pull (L:=[(w.heap.size+1,#[.int .i64 0,.slice none 0 0],27),(w.heap.size,#[.int .i64 c,.slice a n cap0],27)]++[(bU,#[.int .i64 c,.slice (some ⟨B,0,none⟩) n cap],27)]) (by have:=b.out.rot;rwa [Cb] at this) hg);clear b s;go_upto_region 13 with fail;refine Vp (bU:=bU) (B:=B) (m:=n) (cap:=cap) (i:=i) (pb:=g) (n:=c) (cp:=cp) (kq:=q) (ds:=ds) (c1:=c) (y:=y) (y0:=gi r.1 q) (zc:=z3) (w:=w) (L:=(B,cs,57) :: (fs.eraseIdx i++([(w.heap.size+1,#[.int .i64 0,.slice none 0 0],27),(w.heap.size,#[.int .i64 c,.slice a n cap0],27)]++[(bU,#[.int .i64 c,.slice (some ⟨B,0,none⟩) n cap],27)]))) (R:=[]) Ad Ad Ad Ad (H q V) (.tail _ (Bq _ Aj)) (A8 fun W S=>(S.cell B cs _ Ah (i*2)).trans hcs) (A8 fun W _=>PC.out W) o rfl rfl rfl rfl rfl Ab ?_;intro xx W6 x;simp only [Eb,Ce,Cg,A5,A6];have b:=A8 (Dp.push x.out hg);have j:Hid (∀ W',Dp w ((B,cs,57) :: fs.set i (g,ds.setIfInBounds q (.int .i64 y),3)++[(w.heap.size,#[.int .i64 c,.slice a n cap0],27),(bU,#[.int .i64 c,.slice (some ⟨B,0,none⟩) n cap],27)]) [] W'->EX W' (.slice (some ⟨B,0,none⟩) n cap) (rows.set i (r.1.set q y,r.2))):=A8 (fun W' h=>by
   have:=u.out.slE h (fun p hp=>Bu _ hp);rwa [C7,<-hn.out] at this)
  have d:Hid ((rows.set i (r.1.set q y,r.2)).length<=n+1):=A8 (by rw [C7];exact t.out);clear o x H hcs hg hr;go_upto_region 16 with fail;have hO:Ds _ (w.heap.size+1) #[.int .i64 0,.slice none 0 0] 27:=b.out.blks _ (.tail _ (Bq _ Ah));have r0:=(hO.cell 0).trans (rfl:_=some (Value.int .i64 0));have r1:=(hO.cell 1).trans (rfl:_=some (Value.slice none 0 0));have f0:=hO.frozen 0;have F:=hO.frozen 1;have N:=(b.out.cell bU _ _ (.tail _ (Bq _ Aj)) 0).trans (rfl:_=some (Value.int .i64 _));have q1:=(b.out.cell bU _ _ (.tail _ (Bq _ Aj)) 1).trans (rfl:_=some (Value.slice _ _ _));obtain ⟨D,k1⟩:=Gj hO (.int .i64 c) (.slice (some ⟨B,0,none⟩) n cap) |>.2.2.2.2;have f:=A8 (IZ (c':=c) (A:=(B,cs,57) :: fs.set i (g,ds.setIfInBounds q (.int .i64 y),3)) (C:=[(w.heap.size,#[.int .i64 c,.slice a n cap0],27),(bU,#[.int .i64 c,.slice (some ⟨B,0,none⟩) n cap],27)]) b.out j.out d.out);clear b hO;go_wp2;exact bodyPost_ret (v:=.agg #[.int .i64 c,.slice (some ⟨B,0,none⟩) n cap]) (by simp [results,Tryz.results7,go_sem,D,k1]) rfl f.out
 ·obtain ⟨r,hr⟩:∃ r,rows[i]? = some r:=⟨_,Fe (by rw [<-hn.out];exact E)⟩
  have hrc:=hl.out r (Ay hr);obtain ⟨v,hcs,o⟩:=hs.out.thaw (L:=[(w.heap.size+1,#[.int .i64 0,.slice none 0 0],27),(w.heap.size,#[.int .i64 c,.slice a n cap0],27)]++[(bU,#[.int .i64 c,.slice (some ⟨B,0,none⟩) n cap],27)]) hr (by have:=b.out.rot;rwa [Cb] at this);rw [hrc] at o;replace o:=A8 o;clear b s;go_upto_region 15 with fail;refine Vq (bU:=bU) (B:=B) (m:=n) (cap:=cap) (i:=i) (n:=c) (cs:=cs) (v:=v) (xs:=r.1.map (Value.int .i64)) (c1:=c) (y:=y) (w:=w) (L:=fs.eraseIdx i++([(w.heap.size+1,#[.int .i64 0,.slice none 0 0],27),(w.heap.size,#[.int .i64 c,.slice a n cap0],27)]++[(bU,#[.int .i64 c,.slice (some ⟨B,0,none⟩) n cap],27)])) (R:=[]) (A8 Ad) Ad Ad hcs (Bq _ Aj) o rfl rfl rfl rfl Ab ?_;intro xx G cG W6 x;simp only [Eb,Ce,Cg,A5,A6];obtain ⟨fs2,u,K⟩:=hs.out.grown (L:=[(w.heap.size+1,#[.int .i64 0,.slice none 0 0],27),(w.heap.size,#[.int .i64 c,.slice a n cap0],27)]++[(bU,#[.int .i64 c,.slice (some ⟨B,0,none⟩) n cap],27)]) (n:=c+1) hr (l:=r.1++[y]) Af (by simp [hrc]) (by rw [Bg];exact x.out);have b:=A8 K;replace u:=A8 u;generalize cs.setIfInBounds (i*2) (.slice (some ⟨G,0,none⟩) (c+1) cG)=cs2 at *
  have j:Hid (∀ W',Dp w ((B,cs2,57) :: fs2++[(w.heap.size,#[.int .i64 c,.slice a n cap0],27),(bU,#[.int .i64 c,.slice (some ⟨B,0,none⟩) n cap],27)]) [] W'->EX W' (.slice (some ⟨B,0,none⟩) n cap) (rows.set i (r.1++[y],r.2))):=A8 (fun W' h=>by
   have:=u.out.slE h (fun p hp=>Bu _ hp);rwa [C7,<-hn.out] at this)
  have d:Hid ((rows.set i (r.1++[y],r.2)).length<=n+1):=A8 (by rw [C7];exact t.out);clear o x K hcs hr hrc;go_upto_region 16 with fail;have hO:Ds _ (w.heap.size+1) #[.int .i64 0,.slice none 0 0] 27:=b.out.blks _ (.tail _ (Bq _ Ah));have r0:=(hO.cell 0).trans (rfl:_=some (Value.int .i64 0));have r1:=(hO.cell 1).trans (rfl:_=some (Value.slice none 0 0));have f0:=hO.frozen 0;have F:=hO.frozen 1;have N:=(b.out.cell bU _ _ (.tail _ (Bq _ Aj)) 0).trans (rfl:_=some (Value.int .i64 _));have q1:=(b.out.cell bU _ _ (.tail _ (Bq _ Aj)) 1).trans (rfl:_=some (Value.slice _ _ _));obtain ⟨D,k1⟩:=Gj hO (.int .i64 c) (.slice (some ⟨B,0,none⟩) n cap) |>.2.2.2.2;have f:=A8 (IZ (c':=c) (A:=(B,cs2,57) :: fs2) (C:=[(w.heap.size,#[.int .i64 c,.slice a n cap0],27),(bU,#[.int .i64 c,.slice (some ⟨B,0,none⟩) n cap],27)]) b.out j.out d.out);clear b hO;go_wp2;exact bodyPost_ret (v:=.agg #[.int .i64 c,.slice (some ⟨B,0,none⟩) n cap]) (by simp [results,Tryz.results7,go_sem,D,k1]) rfl f.out
 ·have o:=A8 (Dp.thaw (k:=2) (n:=n) (b.out.perm (List.Perm.swap _ _ _)) (by have:=hs.out.le;have:=hn.out;omega) hs.out.mx hs.out.size rfl)
  clear b s;go_upto_region 7 with fail;refine bent_r7 (bU:=bU) (c:=c) (m:=n) (v:=.slice (some ⟨B,0,none⟩) n cap) (xs:=cs.toList.take (n*2)) (y:=y) (w:=w) (L:=fs++[(w.heap.size+1,#[.int .i64 0,.slice none 0 0],27),(w.heap.size,#[.int .i64 c,.slice a n cap0],27)]) (R:=[]) (A8 Ad) (A8 Ad) o rfl rfl rfl Ab ?_;intro xx G cG I W6 b;simp only [Eb,Ce,Cg,A5,A6];have hq:=A8 (MK.snoc (p:=(I,Array.replicate c (.int .i64 0),3)) (v:=.slice (some ⟨I,0,none⟩) c c) (r:=(List.replicate c 0,y)) hs.out.eq ⟨rfl,⟨c,by rw [Ch],by rw [Ch];exact Aa _,by unfold maxLen;omega,Af⟩,Af⟩);rw [<-hn.out] at hq;have d:Hid ((rows++[(List.replicate c 0,y)]).length<=n+1):=A8 (by rw [Ci];have:=t.out;have:=hn.out;simp;omega);have Y:Hid (n+1=(rows++[(List.replicate c (0:Int),y)]).length):=A8 (by rw [Ci,<-hn.out];rfl);clear o;go_upto_region 16 with fail;have hO:Ds _ (w.heap.size+1) #[.int .i64 0,.slice none 0 0] 27:=b.out.blks _ (.tail _ (.tail _ (Bq _ Ah)));have r0:=(hO.cell 0).trans (rfl:_=some (Value.int .i64 0));have r1:=(hO.cell 1).trans (rfl:_=some (Value.slice none 0 0));have f0:=hO.frozen 0;have F:=hO.frozen 1;have N:=(b.out.cell bU _ _ Ai 0).trans (rfl:_=some (Value.int .i64 _));have q1:=(b.out.cell bU _ _ Ai 1).trans (rfl:_=some (Value.slice _ _ _));obtain ⟨D,k1⟩:=Gj hO (.int .i64 c) (.slice (some ⟨G,0,none⟩) (n+1) cG) |>.2.2.2.2;have f:=A8 (IZ (c':=c) (A:=(I,Array.replicate c (.int .i64 0),3) :: (bU,#[.int .i64 c,.slice (some ⟨G,0,none⟩) (n+1) cG],27) :: fs) (C:=[(w.heap.size,#[.int .i64 c,.slice a n cap0],27)]) b.out (fun W' h=>hq.out.eqs.slE h Y.out (fun p hp=>by rcases Bz.1 hp with h1 | h1;exact .tail _ (.tail _ (Bu _ h1));rw [B3.1 h1];exact .head _)) d.out);clear b hO;go_wp2;exact bodyPost_ret (v:=.agg #[.int .i64 c,.slice (some ⟨G,0,none⟩) (n+1) cG]) (by simp [results,Tryz.results7,go_sem,D,k1]) rfl f.out
theorem few_r6 {Q:Exit->Act->World->Prop} {us:List Value} {bO bE m n k cc:Nat} {ca:Option Addr} {v:Value} {xs:List Value} {c y:Int} {w W0:World} {L:Ei} {R:List En}  (hn:Hid (m<=1000000)) (mE:(bE,#[.slice ca n cc,.int .i64 y],57)∈L) (hk:min (n:Int) 4=(k:Int)) (D:k<=cc) (h0:Hid (Dp w ((bO,#[.int .i64 c,v],27) :: L) (⟨57,2,v,m,xs⟩ :: R) W0)) (H:us.length=41) (t:us[3]? = some (.pointer (some ⟨bO,0,none⟩))) (p:us[5]? = some (.pointer (some ⟨bE,0,none⟩))) {ops:Array Oper} (r:Dt Tryz.f8.body 6=some ops)
  (o:∀ (x:Nat->Value) (G38:Nat) (cap38:Nat) (W':World),Hid (Dp w ((bO,#[.int .i64 c,.slice (some ⟨G38,0,none⟩) (m+1) cap38],27) :: L) (⟨57,2,.slice (some ⟨G38,0,none⟩) (m+1) cap38,m+1,xs++[.slice ca k cc,.int .i64 y]⟩ :: R) W')->Q .normal { tmps:=(Eb [25,26,27,28,29,30,31,32,33,34,35,36,37,38,39] x us).toArray,defers:=[] } W') :
  (Code.region 6 ops true).wp Tryz.prog Q { tmps:=us.toArray,defers:=[] } W0:=by
 obtain rfl:=B4 (r.symm.trans (rfl:Dt Tryz.f8.body 6=some _))
 clear r
 replace o:=A8 o
 let Fl:Nat×Nat->FL:=fun g=>[some (25,.pointer (some ⟨bO,1,none⟩)),some (26,v),some (27,.pointer (some ⟨bE,0,none⟩)),some (28,.slice ca n cc),some (29,.pointer (some ⟨bE,0,none⟩)),some (30,.slice ca n cc),some (31,.int .i64 n),some (32,.int .i64 k),some (33,.slice ca k cc),some (34,.pointer (some ⟨bE,1,none⟩)),some (35,.int .i64 y),some (36,.agg #[.slice ca k cc,.int .i64 y]),none,some (38,.slice (some ⟨g.1,0,none⟩) (m+1) g.2),some (39,.pointer (some ⟨bO,1,none⟩)),none]
 let Ml:Nat×Nat->ML:=fun g=>[(12,37,(fun yv W=>∃ (i:Nat),yv=.slice (some ⟨i,0,none⟩) 1 1/\Ds W i #[.slice ca k cc,.int .i64 y] 57),some 13)]
 let Sl_:Nat×Nat->List (World->Prop):=fun g=>[fun W=>Dp w ((bO,#[.int .i64 c,v],27) :: L) (⟨57,2,v,m,xs⟩ :: R) W,fun W=>Dp w ((bO,#[.int .i64 c,v],27) :: L) (⟨57,2,.slice (some ⟨g.1,0,none⟩) (m+1) g.2,m+1,xs++[.slice ca k cc,.int .i64 y]⟩ :: R) W,fun W=>Dp w ((bO,#[.int .i64 c,.slice (some ⟨g.1,0,none⟩) (m+1) g.2],27) :: L) (⟨57,2,.slice (some ⟨g.1,0,none⟩) (m+1) g.2,m+1,xs++[.slice ca k cc,.int .i64 y]⟩ :: R) W]
 have St:Iu 41 [25,26,27,28,29,30,31,32,33,34,35,36,37,38,39] [12] Fl Ml (Dp w L R) Sl_:=⟨fun _=>by kernel_rfl,fun _=>rfl,fun _ _ hb h=>h.call hb,fun g=>C6.2 ⟨fun yv W W' hb=>fun ⟨g,e,h⟩=>⟨g,e,h.below hb⟩,(fun _ h=>by cases h)⟩,fun g=>C6.2 ⟨fun W W' hb h=>h.call hb,C6.2 ⟨fun W W' hb h=>h.call hb,C6.2 ⟨fun W W' hb h=>h.call hb,(fun _ h=>by cases h)⟩⟩⟩⟩
 refine FM St us [13,15] ⟨0,0⟩ H h0.out.tail.rtail.drew h0.out.drew ?_ ?_
 refine sV St ?_ (fun z=>z.u t)
 refine Dk (stV St 1 rfl rfl rfl (fun _=>rfl) fun g T E W hl hw hs z K J=>by
  have B:=z.x 0 hw rfl;have N:W.cell? ⟨bO,1,none⟩=some (v:Value):=z.ld 1 0 0 hl hw hs rfl Ab (fun s=>Dp.cell (s) _ _ _ Ah 1);go_simp;exact J) ?_
 refine sV St ?_ (fun z=>z.u p)
 refine sV St ?_ (fun z=>z.x 2 rfl) (fun z=>(z.c.cell _ _ _ mE 0).trans (show _=some (.slice ca n cc:Value) from rfl))
 refine sV St ?_ (fun z=>z.u p)
 refine sV St ?_ (fun z=>z.x 4 rfl) (fun z=>(z.c.cell _ _ _ mE 0).trans (show _=some (.slice ca n cc:Value) from rfl))
 refine sV St ?_ (fun z=>z.x 5 rfl)
 refine sV St ?_ (fun z=>z.x 6 rfl)
 refine sV St ?_ (fun z=>z.x 3 rfl) (fun z=>z.x 7 rfl)
 refine sV St ?_ (fun z=>z.u p)
 refine sV St ?_ (fun z=>z.x 9 rfl) (fun z=>(z.c.cell _ _ _ mE 1).trans (show _=some (.int .i64 y:Value) from rfl))
 refine sV St ?_ (fun z=>z.x 8 rfl) (fun z=>z.x 10 rfl)
 refine Dk (stM St 12 0 rfl rfl (.inl rfl) (fun _=>rfl) (fun _=>by kernel_rfl) fun g T E W hl hw hs z K J=>by
  have A:=z.x 11 hw rfl;go_simp;exact J _ _ ((Below.refl _ _).alloc (Aa _) _) ⟨_,rfl,Ds.new _ _ _⟩) ?_
 refine Dk (stF St 13 0 rfl (.inl rfl) rfl rfl Ab (fun _=>by kernel_rfl) fun g T E W hl hw hs z q K J=>by
  have C:=z.x 1 hw rfl;obtain ⟨_,F,i,rfl,d⟩:=z.y 0 hl hw hs rfl;have b:Dp _ _ _ _:=q;refine KJ rfl b (by go_simp) (by go_simp) (d.cell 0) (d.cell 1) rfl rfl hn.out ?_;intro G38' cap38' M j;exact J ⟨G38',cap38'⟩ _ _ rfl Ab (j.tail.rtail) j) ?_
 refine sV St ?_ (fun z=>z.u t)
 refine Dk (stE 15 1 (.inl rfl) rfl rfl (fun _=>rfl) Ab (fun _=>by kernel_rfl) fun g T E W hl hw hs z q K J=>by
  have I:=z.x 13 hw rfl;have G:=z.x 14 hw rfl;have b:Dp _ _ _ _:=q;have y0:=b.cell _ _ _ Ah 1;have w0:=b.frozen _ _ _ Ah 1;go_simp;exact J _ ((b.put0 1 _).tail.rtail) (b.put0 1 _)) ?_
 ·exact Du
 ·intro g a W z q
  have l:Dp _ _ _ _:=q;rw [z.f.eqs];exact o.out _ g.1 g.2  _  (A8 l)
def IA (rows:List (List Int×Int)) (i:Nat):List (List Int×Int):=(rows.take i).map fun r=>(r.1.take 4,r.2)
def FewP (w:World) (c:Int) (rows:List (List Int×Int)) (e:Ending) (w':World):Prop:=∃ v,e=.returned (.agg #[.int .i64 c,v])/\EX w' v (IA rows 3)/\Below w.heap.size w w'
theorem IE.take4 {w:World} {a:Option Addr} {n k cc:Nat} {l:List Int} (h:IE w (.slice a n cc) l) (hn:n=l.length) (hk:k=min n 4):IE w (.slice a k cc) (l.take 4)/\k<=cc:=by
 have hl:(l.take 4).length=k:=by rw [BB];omega
 rcases h with ⟨⟨_,e⟩,c⟩ | ⟨b,off,cap,e,h1,h2,h3,f⟩
 ·cases e
  obtain rfl:k=0:=by omega
  exact ⟨.inl ⟨⟨_,rfl⟩,by rw [c];rfl⟩,Ad⟩
 ·have d:=e
  cases d;refine ⟨.inr ⟨b,off,cc,by rw [hl],Ad,h2,h3,fun i g=>?_⟩,Ad⟩;rw [Nt Ad];exact f i Ad
theorem TS {rows:List (List Int×Int)} {i:Nat} (h:i<rows.length):IA rows (i+1)=IA rows i++[((Dl rows i).1.take 4,(Dl rows i).2)]:=by
 unfold IA;rw [List.take_add_one,Fe h,Bg];rfl
theorem few_any (c:Int) (sv:Value) (rows:List (List Int×Int)) (w:World) (H:EX w sv rows) :
  Calls Tryz.prog 8 #[.agg #[.int .i64 c,sv]] w (FewP w c rows):=by
 have E:rows.length<=maxLen:=H.len_le
 unfold maxLen at E
 obtain ⟨a,cap,rfl⟩:=H.shape
 have M:=A8 H
 clear H
 obtain ⟨n,hn⟩:∃ n,n=rows.length:=⟨_,rfl⟩
 rw [<-hn] at M E |-
 replace hn:=A8 hn
 obtain ⟨V1,h,O,z1⟩:=(Dp.start w).add' #[.int .i64 c,.slice a n cap] 27
 obtain ⟨P,p,j,z2⟩:=O.add' #[.int .i64 0,.slice none 0 0] 27
 rw [z1] at j
 have N:P=(w.alloc (.cells #[.int .i64 c,.slice a n cap] 27)).alloc (.cells #[.int .i64 0,.slice none 0 0] 27):=by rw [p,h]
 have x0:=(j.cell w.heap.size _ _ Ai 0).trans (rfl:_=some (Value.int .i64 c))
 have zz:P.heap.size=w.heap.size+2:=by rw [z2,z1]
 obtain ⟨Y,q,r,-⟩:=j.add' #[.int .i64 c,.slice none 0 0] 27
 rw [zz] at r
 replace r:=A8 r
 clear h p O z1 z2 j
 replace zz:=A8 zz
 replace q:=A8 q
 go_enter Tryz.func8,Tryz.ntmps8
 go_upto_region 1 with fail
 rw [<-N]
 clear N
 go_upto_region 2 with fail
 rw [<-q.out,zz.out]
 clear q x0 zz
 have h0:=A8 (show Dp w ((w.heap.size+2,#[.int .i64 c,.slice none 0 0],27) :: [(w.heap.size+1,#[.int .i64 0,.slice none 0 0],27),(w.heap.size,#[.int .i64 c,.slice a n cap],27)]) [⟨57,2,.slice none 0 0,0,[]⟩] Y/\Mr w (IA rows 0) [] from ⟨r.out.row0 57 2,by exact Mr.nil w⟩)
 clear r
 go_wp2_with fail
 go_loopw [4] (fun o wr=>∃ (i:Nat) (v:Value) (xs:List Value),o=.int .i64 i/\i<=min n 3/\Hid (Dp w ((w.heap.size+2,#[.int .i64 c,v],27) :: [(w.heap.size+1,#[.int .i64 0,.slice none 0 0],27),(w.heap.size,#[.int .i64 c,.slice a n cap],27)]) [⟨57,2,v,i,xs⟩] wr/\Mr w (IA rows i) xs)) (fun o _=>3-(intOf o).toNat)
 case atStart=>exact ⟨0,_,_,rfl,Ad,h0⟩
 case round =>
  clear h0;obtain ⟨i,v,xs,rfl,hi,j⟩:=hrel;have x1:=(j.out.1.cell w.heap.size _ _ Aj 1).trans (rfl:_=some (Value.slice _ _ _));by_cases u:i<n;case neg =>
   have C:¬ (i:Int)<n:=by omega
   have g:IA rows 3=IA rows i:=by unfold IA;rw [BG (by have:=hn.out;omega),BG (by have:=hn.out;omega)]
   have d:(IA rows i).length=i:=by unfold IA;rw [Cj,BB];have:=hn.out;omega
   obtain ⟨h,p⟩:=j.out;obtain ⟨av,kv,rfl⟩:=(p.slE h d.symm).shape;have f:=d.symm;rw [d] at h j;have hO:Ds _ (w.heap.size+1) #[.int .i64 0,.slice none 0 0] 27:=h.blks _ Ai;have r0:=(hO.cell 0).trans (rfl:_=some (Value.int .i64 0));have r1:=(hO.cell 1).trans (rfl:_=some (Value.slice none 0 0));have f0:=hO.frozen 0;have T:=hO.frozen 1;have V:=(h.cell (w.heap.size+2) _ _ Ah 0).trans (rfl:_=some (Value.int .i64 c));have q1:=(h.cell (w.heap.size+2) _ _ Ah 1).trans (rfl:_=some (Value.slice _ _ _));have q:=(Dp.front2 (A:=[]) h).out2 (.int .i64 c) (.slice av i kv);have s:=A8 (show FewP w c rows (.returned (.agg #[.int .i64 c,.slice av i kv])) _ from ⟨_,rfl,by rw [g];exact p.slE q f,q.below⟩);obtain ⟨K,k1⟩:=Gj hO (.int .i64 c) (.slice av i kv) |>.2.2.2.2;clear j hO h p q g d f;go_wp2;exact bodyPost_ret (v:=.agg #[.int .i64 c,.slice av i kv]) (by simp [results,Tryz.results8,go_sem,K,k1]) rfl s.out
  case pos =>
   have C:(i:Int)<n:=by omega
   by_cases X:i<3;case neg =>
    have z:¬ (i:Int)<3:=by omega
    obtain rfl:i=3:=by omega
    have g:IA rows 3=IA rows 3:=rfl;have d:(IA rows 3).length=3:=by unfold IA;rw [Cj,BB];have:=hn.out;omega
    obtain ⟨h,p⟩:=j.out;obtain ⟨av,kv,rfl⟩:=(p.slE h d.symm).shape;have f:=d.symm;rw [d] at h j;have hO:Ds _ (w.heap.size+1) #[.int .i64 0,.slice none 0 0] 27:=h.blks _ Ai;have r0:=(hO.cell 0).trans (rfl:_=some (Value.int .i64 0));have r1:=(hO.cell 1).trans (rfl:_=some (Value.slice none 0 0));have f0:=hO.frozen 0;have T:=hO.frozen 1;have V:=(h.cell (w.heap.size+2) _ _ Ah 0).trans (rfl:_=some (Value.int .i64 c));have q1:=(h.cell (w.heap.size+2) _ _ Ah 1).trans (rfl:_=some (Value.slice _ _ _));have q:=(Dp.front2 (A:=[]) h).out2 (.int .i64 c) (.slice av 3 kv);have s:=A8 (show FewP w c rows (.returned (.agg #[.int .i64 c,.slice av 3 kv])) _ from ⟨_,rfl,by rw [g];exact p.slE q f,q.below⟩);obtain ⟨K,k1⟩:=Gj hO (.int .i64 c) (.slice av 3 kv) |>.2.2.2.2;clear j hO h p q g d f;go_wp2;exact bodyPost_ret (v:=.agg #[.int .i64 c,.slice av 3 kv]) (by simp [results,Tryz.results8,go_sem,K,k1]) rfl s.out
   case pos =>
    have z:(i:Int)<3:=by omega
    have W:(0:Int)<=i:=by omega
    obtain ⟨b,off,cv,ea,F,c0,hcs,c1⟩:∃ b off cv,a=some ⟨b,off,none⟩/\b<w.heap.size/\w.cell? ⟨b,off+i*2,none⟩=some cv/\IE w cv (Dl rows i).1/\w.cell? ⟨b,off+i*2+1,none⟩=some (.int .i64 (Dl rows i).2):=by
     rcases M.out with ⟨e,p⟩ | ⟨b,off,cap',e,h1,h2,h3,U⟩
     ·have:=hn.out;rw [p] at this;simp at this;omega
     ·cases e
      obtain ⟨cv,c0,hcs,c1⟩:=U i _ (Fe (by rw [<-hn.out];exact u));exact ⟨b,off,cv,rfl,h3,c0,hcs,c1⟩
    subst ea;obtain ⟨ac,cp,rfl⟩:=hcs.shape;obtain ⟨k,hk⟩:∃ k,k=min (Dl rows i).1.length 4:=⟨_,rfl⟩;obtain ⟨ht,hkc⟩:=hcs.take4 rfl hk;have t:=A8 (TS (rows:=rows) (i:=i) (by rw [<-hn.out];exact u));replace ht:=A8 ht;clear hcs;replace c0:=j.out.1.old F c0;replace c1:=j.out.1.old F c1;generalize (Dl rows i).2=y at *
    have B:min ((Dl rows i).1.length:Int) 4=(k:Int):=by omega
    generalize (Dl rows i).1.length=m at *
    obtain ⟨S,I,Q,x,l⟩:=Dp.addB j.out.1 #[.slice ac m cp,.int .i64 y] 57;replace l:=A8 l;go_upto_region 6 with fail;rw [<-Q,<-x];clear Q x c0 c1 x1;replace l:=A8 (show Dp w ((w.heap.size+2,#[.int .i64 c,v],27) :: [(w.heap.size+1,#[.int .i64 0,.slice none 0 0],27),(w.heap.size,#[.int .i64 c,.slice (some ⟨b,off,none⟩) n cap],27),(I,#[.slice ac m cp,.int .i64 y],57)]) [⟨57,2,v,i,xs⟩] S from l.out.rot.perm (by exact .refl _));refine few_r6 (bO:=w.heap.size+2) (bE:=I) (m:=i) (n:=m) (k:=k) (cc:=cp) (ca:=ac) (v:=v) (xs:=xs) (c:=c) (y:=y) (w:=w) (L:=[(w.heap.size+1,#[.int .i64 0,.slice none 0 0],27),(w.heap.size,#[.int .i64 c,.slice (some ⟨b,off,none⟩) n cap],27),(I,#[.slice ac m cp,.int .i64 y],57)]) (R:=[]) (A8 Ad) Aj B hkc l rfl rfl rfl Ab ?_;intro xx G cG Z D;simp only [Eb,Ce,Cg,A5,A6,];have J:=A8 (show Dp w ((w.heap.size+2,#[.int .i64 c,.slice (some ⟨G,0,none⟩) (i+1) cG],27) :: [(w.heap.size+1,#[.int .i64 0,.slice none 0 0],27),(w.heap.size,#[.int .i64 c,.slice (some ⟨b,off,none⟩) n cap],27)]) [⟨57,2,.slice (some ⟨G,0,none⟩) (i+1) cG,(i+1),(xs++[.slice ac k cp,.int .i64 y])⟩] Z/\Mr w (IA rows (i+1)) (xs++[.slice ac k cp,.int .i64 y]) from ⟨D.out.sub (by exact .cons_cons _ (.cons_cons _ (.cons_cons _ (.cons _ .slnil)))),by rw [t.out];exact j.out.2.snoc ht.out⟩);clear j l D B hk hkc ht t;go_wp2_with fail;go_roundw;case rel=>exact ⟨i+1,_,_,by go_num,Ad,J⟩
    case measure=>simp [intOf];omega
end
section
open Go.RowKit
attribute [local go_sem] Oper.semAt_some bne_self_eq_false
def SysAt (w:World) (g o:Nat):Prop:=∃ (c:Int) (a:Option Addr) (n k:Nat) (rows:List (List Int×Int)),w.cell? ⟨g,o,none⟩=some (.int .i64 c)/\w.cell? ⟨g,o+1,none⟩=some (.slice a n k)/\EX w (.slice a n k) rows/\rows.length<=6
theorem lm_l0 {Q:Exit->Act->World->Prop} {us:List Value} {x:E6} {bN bO bM gs nc cc nh ch no ko cm:Nat} {ac ah ao:Option Addr} {lv wv:Value} {l:List Int} {wl lo:List ByteArray} {do_:ByteArray} {den p q:Int} {w:World} (hE:Hid (Fp w)) (hq:Hid (Dy q))
  (hlt:Hid (bN<w.heap.size/\bO<w.heap.size/\bM<w.heap.size/\gs<w.heap.size))
  (B:Hid (w.cell? ⟨bN,0,none⟩=some (.int .i64 x.cols)/\w.cell? ⟨bN,1,none⟩=some (.int .i64 x.rows)/\w.cell? ⟨bN,2,none⟩=some (.slice ac nc cc)/\w.cell? ⟨bN,3,none⟩=some (.slice ah nh ch)/\w.cell? ⟨bN,4,none⟩=some (.int .i64 x.miss)))
  (hO:Hid (w.cell? ⟨bO,0,none⟩=some (.slice ao no ko)/\w.cell? ⟨bO,1,none⟩=some (.string do_)/\DS w (.slice ao no ko) lo/\Fz lo/\do_.size<=201))
  (hMc:Hid (w.cell? ⟨bM,0,none⟩=some (.int .i64 cm))) (hG:Hid (∀ j,j<3->SysAt w gs (j*2)))
  (HD:Hid (∀ W,Below w.heap.size w W->Calls Tryz.prog 12 #[.agg #[.int .i64 x.cols,.int .i64 x.rows,.slice ac nc cc,.slice ah nh ch,.int .i64 x.miss]] W fun e w'=>∃ a n cp,e=.returned (.agg #[.slice a n cp,.string ⟨#[49]⟩])/\DS w' (.slice a n cp) x.hidN/\Below W.heap.size W w'))
  (VC:Hid (∀ W,Below w.heap.size w W->Calls Tryz.prog 13 #[.int .i64 cm,lv,.int .i64 den] W fun e w'=>∃ a m cp,e=.returned (.agg #[.slice a m cp,.string (I (1+Ge den 9))])/\DS w' (.slice a m cp) (Oo cm l)/\Below W.heap.size W w'))
  (WC:Hid (∀ W (n:Nat),n<=1000000->Below w.heap.size w W->Calls Tryz.prog 22 #[.int .i64 n,lv] W fun e w'=>∃ a m cp,e=.returned (.slice a m cp)/\DS w' (.slice a m cp) (Q6 n l)/\Below W.heap.size W w'))
  (CC:Hid (∀ W,Below w.heap.size w W->Calls Tryz.prog 5 #[wv] W fun e w'=>∃ a m cp,e=.returned (.slice a m cp)/\DS w' (.slice a m cp) (Mk wl)/\Below W.heap.size W w')) {body:Code} (A:EN Tryz.f3.body 0=some body) (hN:us.length=200) (g6:us[6]? = some (.int .i64 den)) (g7:us[7]? = some (wv)) (g8:us[8]? = some (lv)) (g9:us[9]? = some (.int .i64 p)) (H:us[10]? = some (.int .i64 q)) (C:us[11]? = some (.pointer (some ⟨bN,0,none⟩))) (D:us[16]? = some (.pointer (some ⟨bO,0,none⟩))) (F:us[24]? = some (.pointer (some ⟨bM,0,none⟩))) (J:us[63]? = some (.slice (some ⟨gs,0,none⟩) 3 3)) (G:us[64]? = some (.int .i64 3)) (K:us[65]? = some (.int .i64 0))
  (hQ:∀ (fr:Nat->Value) (W':World),Hid (Below w.heap.size w W')->Q (.exit 0) { tmps:=(Eb [22,26,27,28,29,31,33,34,35,36,37,39,65,66,67,68,69,70,71,72,73,74,75,76,77,78,79,80,81,82,83,84,85,86,87,88,89,90,91,92,93,94,95,96,97,98,99,100,101,102,103,104,105,106,107,108,109,110,111,112,113,114,115,116,117,118,119,120,121,122,123,124,125,126,127,128,129,130,131,132,133,134,135,136,137,138,139,140,141,142,143,144,145,146,147,148,149,150,151,152,153,154,155,156,157,158,159,160,161,162,163,164,165,166,167,168,169,170,171,172,173,174,175,176,177,178,179,180,181,182,183,184,185,186,187,188,189,190,191,192,193,194,195,196,197,198] fr us).toArray,defers:=[] } W') :
  (Code.loop body).wp Tryz.prog Q { tmps:=us.toArray,defers:=[] } w:=by
 obtain rfl:=B4 (A.symm.trans (rfl:EN Tryz.f3.body 0=some _))
 clear A
 obtain ⟨u,rfl⟩:=KL hN
 clear hN
 replace g6:=DC g6
 replace g7:=DC g7
 replace g8:=DC g8
 replace g9:=DC g9
 replace H:=DC H
 replace C:=DC C
 replace D:=DC D
 replace F:=DC F
 replace J:=DC J
 replace G:=DC G
 replace K:=DC K
 simp only [lit,Nat.reduceAdd,g6,g7,g8,g9,H,C,D,F,J,G,K] at hQ |-
 clear g6 g7 g8 g9 H C D F J G K
 replace hQ:=A8 hQ
 go_loopw [65] (fun s wr=>∃ (j:Nat),s=.int .i64 j/\j<=3/\Hid (Dp w [] [] wr)) (fun s _=>3-(intOf s).toNat)
 case atStart=>exact ⟨0,rfl,Ad,A8 (Dp.start w)⟩
 case round =>
  obtain ⟨j,rfl,hj,hM⟩:=hrel;by_cases hj3:j<3;case neg =>
   have hj3':¬ (j:Int)<3:=by omega
   go_wp2_with fail;exact lexit [22,26,27,28,29,31,33,34,35,36,37,39,65,66,67,68,69,70,71,72,73,74,75,76,77,78,79,80,81,82,83,84,85,86,87,88,89,90,91,92,93,94,95,96,97,98,99,100,101,102,103,104,105,106,107,108,109,110,111,112,113,114,115,116,117,118,119,120,121,122,123,124,125,126,127,128,129,130,131,132,133,134,135,136,137,138,139,140,141,142,143,144,145,146,147,148,149,150,151,152,153,154,155,156,157,158,159,160,161,162,163,164,165,166,167,168,169,170,171,172,173,174,175,176,177,178,179,180,181,182,183,184,185,186,187,188,189,190,191,192,193,194,195,196,197,198] (hQ.out _ _ (A8 hM.out.below)) Ab
  case pos =>
   have hj3':(j:Int)<3:=by omega
   have hj0:(0:Int)<=j:=by omega
   obtain ⟨c,sa,sn,sk,rows,g1,g2,g3,g4⟩:=hG.out j hj3;have T:=A8 g3;have U:=A8 (show sn<=6 from by obtain ⟨_,_,e⟩:=g3.shape;cases e;exact g4);have hrl:=A8 (show rows.length<=8 by omega);have x0:=hM.out.old hlt.out.2.2.2 g1;have x1:=hM.out.old hlt.out.2.2.2 g2;clear g1 g2 g3 g4;obtain ⟨V1,bS,S,eB,X⟩:=hM.out.addB #[.int .i64 c,.slice sa sn sk] 27;have d:=A8 X;clear X;go_upto_region 8 with fail;rw [<-S,<-eB];clear S eB x0 x1 hM;have z0:=(d.out.cell bS _ _ Ah 0).trans (show _=some (Value.int .i64 c) from rfl);have z1:=(d.out.cell bS _ _ Ah 1).trans (show _=some (Value.slice sa sn sk) from rfl);go_wp2_with fail;refine Calls.mono (TK c _ rows _ (hE.out.below d.out.below (Aa _)) (T.out.below d.out.below) hrl.out) ?_;rintro e w1 ⟨hb1,f,ap,np,kp,lp,dp,aw,nw,kw,lw,rfl,s1,s2,s3,s4,s5⟩;replace d:=A8 (d.out.call hb1);have r:=A8 (show DS w1 (.slice ap np kp) lp/\Fz lp/\dp.size<=201 from ⟨s1,s2,s3⟩);have o:=A8 (show DS w1 (.slice aw nw kw) lw/\Fz lw from ⟨s4,s5⟩);clear z0 z1 hb1 s1 s2 s3 s4 s5;generalize E:(if Ea c rows=true then (0:Int) else 60)=ev;replace E:=A8 E.symm;obtain ⟨V2,bA,S,eB,X⟩:=d.out.addB #[.bool f,.slice ap np kp,.string dp,.slice aw nw kw] 38;have P:=A8 (show Below w1.heap.size w1 V2 from by rw [S];exact (Below.refl _ _).alloc (Aa _) _);replace d:=A8 X;replace r:=A8 (show DS V2 (.slice ap np kp) lp/\Fz lp/\dp.size<=201 from ⟨r.out.1.below P.out,r.out.2⟩);replace o:=A8 (show DS V2 (.slice aw nw kw) lw/\Fz lw from ⟨o.out.1.below P.out,o.out.2⟩);clear X P;go_upto_region 9 with fail;rw [<-S,<-eB];clear S eB;refine lm_r9 (b:=Ea c rows) (ev:=ev) E.out (bS:=bS) (n:=sn) (k:=sk) (a:=sa) (c:=c) (A8 fun W i=>⟨(d.out.call i.below).cell _ _ _ Ai 0,(d.out.call i.below).cell _ _ _ Ai 1⟩) (A8 fun W i=>G5 c _ rows W (T.out.below (d.out.call i.below).below)) (A8 fun W i=>IY c _ rows W (T.out.below (d.out.call i.below).below)) rfl rfl rfl Ab ?_;intro xx W3 N t;simp only [Eb,Ce,Cg,A5,A6,N];replace d:=A8 (d.out.call t.out.below);replace r:=A8 (And.intro (r.out.1.below t.out.below) r.out.2);replace o:=A8 (And.intro (o.out.1.below t.out.below) o.out.2);clear t E;go_upto_region 11 with fail;clear N;refine lm_r11 (bN:=bN) (bO:=bO) (bM:=bM) (bA:=bA) (no:=no) (ko:=ko) (np:=np) (kp:=kp) (ao:=ao) (ap:=ap) (lv:=lv) (do_:=do_) (dp:=dp) (dv:=I (1+Ge den 9)) (den:=den) (cm:=cm) (vl:=Oo cm l) (nc:=x.cols) (nr:=x.rows) (ms:=x.miss) (lc:=nc) (kc:=cc) (lh:=nh) (kh:=ch) (ac:=ac) (ah:=ah) (hl:=x.hidN) (L:=[]) (R:=[]) (fun W i=>(d.out.call i.below).cell _ _ _ Ah 1) (fun W i=>(d.out.call i.below).cell _ _ _ Ah 2) (fun W i=>(d.out.call i.below).old hlt.out.2.1 hO.out.1) (fun W i=>(d.out.call i.below).old hlt.out.2.1 hO.out.2.1) (fun W i=>(d.out.call i.below).old hlt.out.1 B.out.1) (fun W i=>(d.out.call i.below).old hlt.out.1 B.out.2.1) (fun W i=>(d.out.call i.below).old hlt.out.1 B.out.2.2.1) (fun W i=>(d.out.call i.below).old hlt.out.1 B.out.2.2.2.1) (fun W i=>(d.out.call i.below).old hlt.out.1 B.out.2.2.2.2) (A8 fun W i=>HD.out W (d.out.call i.below).below) (fun W i=>(d.out.call i.below).old hlt.out.2.2.1 hMc.out) (A8 fun W i=>VC.out W (d.out.call i.below).below) (A8 (Dp.start _)) rfl rfl rfl rfl rfl rfl rfl Ab ?_;intro xx V ag lg kg ax lx kx W4 M h t;simp only [Eb,Ce,Cg,A5,A6,M];replace d:=A8 (d.out.call t.out.below);replace r:=A8 (And.intro (r.out.1.below t.out.below) r.out.2);replace o:=A8 (And.intro (o.out.1.below t.out.below) o.out.2);clear t;go_wp2_with fail;refine lm_l2 (bS:=bS) (bO:=bO) (bA:=bA) (g:=V) (n:=sn) (k:=sk) (no:=no) (ko:=ko) (np:=np) (kp:=kp) (a:=sa) (ao:=ao) (ap:=ap) (c:=c) (p:=p) (q:=q) (rows:=rows) (lo:=lo) (lp:=lp) (do_:=do_) (dp:=dp) (w:=W4) (A8 (hE.out.below d.out.below (Aa _))) (A8 ⟨d.out.lt _ Ai,A9 hlt.out.2.1 d.out.size,d.out.lt _ Ah,h.out.1.lt⟩) hq (A8 ⟨d.out.cell _ _ _ Ai 0,d.out.cell _ _ _ Ai 1,T.out.below d.out.below⟩) (A8 ⟨d.out.old hlt.out.2.1 hO.out.1,d.out.old hlt.out.2.1 hO.out.2.1,hO.out.2.2.1.below d.out.below,hO.out.2.2.2⟩) (A8 ⟨d.out.cell _ _ _ Ah 1,d.out.cell _ _ _ Ah 2,r.out.1,r.out.2⟩) (A8 fun j hj=>match j,hj with | 0,_=>⟨_,_,_,_,_,h.out.1.cell (0*2),h.out.1.cell (0*2+1),r.out.1,r.out.2.1,r.out.2.2⟩ | 1,_=>⟨_,_,_,_,_,h.out.1.cell (1*2),h.out.1.cell (1*2+1),hO.out.2.2.1.below d.out.below,hO.out.2.2.2⟩ | 2,_=>⟨_,_,_,_,_,h.out.1.cell (2*2),h.out.1.cell (2*2+1),h.out.2.1,Rr x,Ae⟩ | 3,_=>⟨_,_,_,_,_,h.out.1.cell (3*2),h.out.1.cell (3*2+1),h.out.2.2,Rs _ _,TJ _⟩) Ab rfl rfl rfl rfl rfl rfl rfl rfl rfl rfl ?_;intro x2 W6 O;simp only [Eb,Ce,Cg,A5,A6];replace d:=A8 (d.out.call O.out);replace o:=A8 (And.intro (o.out.1.below O.out) o.out.2);clear O h M r;go_upto_region 26 with fail;refine lm_r26 (bS:=bS) (bA:=bA) (n:=sn) (k:=sk) (nw:=nw) (kw:=kw) (a:=sa) (aw:=aw) (lv:=lv) (wv:=wv) (wl:=Q6 sn l) (cl:=Mk wl) (L:=[]) (R:=[]) (fun W i=>(d.out.call i.below).cell _ _ _ Ah 3) (A8 fun W i=>CC.out W (d.out.call i.below).below) (fun W i=>(d.out.call i.below).cell _ _ _ Ai 1) (A8 fun W i=>WC.out W sn (by have:=U.out;omega) (d.out.call i.below).below) (A8 (Dp.start _)) rfl rfl rfl rfl rfl Ab ?_;intro xx Z ag lg kg ax lx kx W7 z y v h t;simp only [Eb,Ce,Cg,A5,A6,z,y,v];replace d:=A8 (d.out.call t.out.below);replace o:=A8 (And.intro (o.out.1.below t.out.below) o.out.2);clear t;go_wp2_with fail;refine lm_l6 (bS:=bS) (g:=Z) (n:=sn) (k:=sk) (a:=sa) (c:=c) (rows:=rows) (w:=W7) (A8 (hE.out.below d.out.below (Aa _))) (A8 ⟨d.out.lt _ Ai,h.out.1.lt⟩) (A8 ⟨d.out.cell _ _ _ Ai 0,d.out.cell _ _ _ Ai 1,T.out.below d.out.below⟩) (A8 fun j hj=>match j,hj with | 0,_=>⟨_,_,h.out.1.cell 0,o.out.1,o.out.2⟩ | 1,_=>⟨_,_,h.out.1.cell 1,h.out.2.1,Mn _⟩ | 2,_=>⟨_,_,h.out.1.cell 2,h.out.2.2,Rt _ _⟩) Ab rfl rfl rfl rfl rfl ?_;intro x6 W8 Y;simp only [Eb,Ce,Cg,A5,A6];have hB:=A8 (d.out.call Y.out).below;clear d Y h z y v o T U hrl;go_wp2_with fail;go_roundw;case rel=>exact ⟨j+1,by go_num,Ad,A8 ((Dp.start w).call hB.out)⟩
   case measure=>simp [intOf];omega
theorem Rv (n:Nat) (l:List Int) (lv:Value) (W:World) (hn:n<=1000000) (hl:Sl W lv l) (b:∀ z∈l,Dy z):Calls Tryz.prog 22 #[.int .i64 n,lv] W fun e w'=>∃ a m cp,e=.returned (.slice a m cp)/\DS w' (.slice a m cp) (Q6 n l)/\Below W.heap.size W w' :=
 (Q7 n l lv W hn hl b).mono fun _ _ ⟨v,he,hs,hb⟩=>by
  obtain ⟨a,cp,rfl⟩:=hs.shape;exact ⟨a,_,cp,he,hs,hb⟩
theorem Vu (v:Value) (l:List ByteArray) (W:World) (hl:DS W v l):Calls Tryz.prog 5 #[v] W fun e w'=>∃ a m cp,e=.returned (.slice a m cp)/\DS w' (.slice a m cp) (Mk l)/\Below W.heap.size W w'/\∀ b,(Value.slice a m cp).ownBlock=some b->W.heap.size<=b :=
 (cut_any v l W hl).mono fun _ _ ⟨v,he,hs,hb,ho⟩=>by
  obtain ⟨a,cp,rfl⟩:=hs.shape;exact ⟨a,_,cp,he,hs,hb,ho⟩
theorem cut_ok1 (v:Value) (l:List ByteArray) (W:World) (hl:DS W v l):Calls Tryz.prog 5 #[v] W fun e w'=>∃ a m cp,e=.returned (.slice a m cp)/\DS w' (.slice a m cp) (Mk l)/\Below W.heap.size W w' :=
 (Vu v l W hl).mono fun _ _ ⟨a,m,cp,he,hs,hb,_⟩=>⟨a,m,cp,he,hs,hb⟩
theorem Vv {W W':World} {v:Value} {l:List ByteArray} {B:Nat} (h:DS W v l) (a:Dr [B] W W') (hne:∀ b,v.ownBlock=some b->b≠B):DS W' v l:=by
 rcases h with h | ⟨b,off,cap,e,h1,h2,h3,c⟩
 ·exact .inl h
 ·refine .inr ⟨b,off,cap,e,h1,h2,A9 h3 a.size,fun j x hj=>?_⟩
  have:=c j x hj;unfold QR at this |-;rw [Dw (a.block b h3 (by have:=hne b (by rw [e];rfl);simpa using this))];exact this
def Ov (w:World) (b:Nat) (cs:List Value):Prop:=b<w.heap.size/\∀ (k:Nat) (v:Value),cs[k]? = some v->w.cell? ⟨b,k,none⟩=some v
theorem Ov.below {w W:World} {b:Nat} {cs:List Value} (h:Ov w b cs) (hb:Below w.heap.size w W):Ov W b cs:=⟨A9 h.1 hb.size,fun k v hk=>(hb.cell (p:=⟨b,k,none⟩) h.1).trans (h.2 k v hk)⟩
theorem Ov.of {w W:World} {L:Ei} {R:List En} {b:Nat} {cs:List Value} {t:TypeId} (h:Dp w L R W) (a:(b,cs.toArray,t)∈L):Ov W b cs:=⟨h.lt _ a,fun k v hk=>by
 rw [h.cell _ _ _ a k];simpa using hk⟩
theorem bent_ok (c:Nat) (sv:Value) (rows:List (List Int×Int)) (z1 y z3:Int) (W:World) (d:EX W sv rows) (h1:1<=rows.length) (h2:rows.length<=5) (hc:1<=c/\c<=1000) (hl:∀ r∈rows,r.1.length=c) (f:Dy z1) (g:Dy z3) :
  Calls Tryz.prog 7 #[.agg #[.int .i64 c,sv],.int .i64 z1,.int .i64 y,.int .i64 z3] W fun e w'=>∃ (c2:Int) (b:List (List Int×Int)) (a2:Option Addr) (n2:Nat) (k2:Nat),e=.returned (.agg #[.int .i64 c2,.slice a2 n2 k2])/\KO w' (.slice a2 n2 k2) b 6/\Below W.heap.size W w' :=
 (Vt c sv rows z1 y z3 W d h1 Ad hc hl f g).mono fun _ _ ⟨c2,v,b,he,hs,hn,hb⟩=>by
  obtain ⟨a,cp,rfl⟩:=hs.shape;exact ⟨c2,b,a,_,cp,he,⟨hs,Ad⟩,hb⟩
theorem few_ok (c:Int) (sv:Value) (rows:List (List Int×Int)) (W:World) (d:EX W sv rows) :
  Calls Tryz.prog 8 #[.agg #[.int .i64 c,sv]] W fun e w'=>∃ (a3:Option Addr) (b:Nat) (k3:Nat),e=.returned (.agg #[.int .i64 c,.slice a3 b k3])/\KO w' (.slice a3 b k3) (IA rows 3) 6/\Below W.heap.size W w' :=
 (few_any c sv rows W d).mono fun _ _ ⟨v,he,hs,hb⟩=>by
  obtain ⟨a,cp,rfl⟩:=hs.shape;exact ⟨a,_,cp,he,⟨hs,by unfold IA;rw [Cj,BB];omega⟩,hb⟩
theorem Rw (x:E6) (vc vh:Value) (cr:Int) (rv:Value) (raw:List (List Int×Int)) (z1 z2 z3:Int) (ov:Value) (ol:List ByteArray) (od:ByteArray) (den:Int) (wv:Value) (wl:List ByteArray) (lv:Value) (l:List Int) (p q:Int) (w:World) (C:Kh w x vc vh) (E:EX w rv raw) (_:∀ r∈raw,(∀ z∈r.1,Dy z)/\Dy r.2) (_:Dy cr) (f1:Dy z1) (_:Dy z2) (f3:Dy z3) (M:DS w ov ol) (_:∀ s∈ol,s.size<=maxLen) (hod:od.size<=maxLen) (hden:Dy den) (Z:DS w wv wl) (_:∀ s∈wl,s.size<=maxLen) (hl:Sl w lv l) (N:∀ z∈l,Dy z) (_:Dy p) (hq:Dy q) (X:T9 w) :
  Calls Tryz.prog 3 #[.agg #[.int .i64 x.cols,.int .i64 x.rows,vc,vh,.int .i64 x.miss],.agg #[.int .i64 cr,rv],.int .i64 z1,.int .i64 z2,.int .i64 z3,.agg #[ov,.string od],.int .i64 den,wv,lv,.int .i64 p,.int .i64 q] w (DR w (.bool true)):=by
 replace hq:=A8 hq
 have VC:=A8 (fun W (c:Nat) (hc:c<=1000) (i:Below w.heap.size w W)=>TQ c l den lv W Ad (hl.below i) N hden)
 have WC:=A8 (fun W (n:Nat) (hn:n<=1000000) (i:Below w.heap.size w W)=>Rv n l lv W hn (hl.below i) N)
 have CC:=A8 (fun W (i:Below w.heap.size w W)=>cut_ok1 wv wl W (Z.below i))
 obtain ⟨ar,kr,rfl⟩:=E.shape
 have FW:=A8 (fun W (i:Below w.heap.size w W)=>few_ok cr (.slice ar raw.length kr) raw W (E.below i))
 obtain ⟨oa,oc,rfl⟩:=M.shape
 have CO:=A8 (fun W (i:Below w.heap.size w W)=>Vu (.slice oa ol.length oc) ol W (M.below i))
 clear hl N M Z E
 generalize ol.length=on at *
 generalize raw.length=nr at *
 unfold maxLen at hod
 have hE:=A8 X.env
 clear X
 obtain ⟨ac,cc,rfl⟩:=C.c.shape
 obtain ⟨ah,ch,rfl⟩:=C.h.shape
 have MD:=A8 (fun W (i:Kh W x (.slice ac x.coefs.length cc) (.slice ah x.hidden.length ch))=>made_ok i)
 have HD:=A8 (fun W (i:Kh W x (.slice ac x.coefs.length cc) (.slice ah x.hidden.length ch))=>TP i)
 replace C:=A8 C
 generalize x.coefs.length=nc at *
 generalize x.hidden.length=nh at *
 obtain ⟨V1,bN,e1,b1,O⟩:=(MS.start w).add' #[.int .i64 x.cols,.int .i64 x.rows,.slice ac nc cc,.slice ah nh ch,.int .i64 x.miss] 24
 obtain ⟨V2,bR,e2,b2,S2⟩:=O.add' #[.int .i64 cr,.slice ar nr kr] 27
 obtain ⟨V3,bO,e3,b3,S3⟩:=S2.add' #[.slice oa on oc,.string od] 30
 have A:=A8 S3
 rw [e1] at e2 b2
 rw [e2] at e3 b3
 clear O S2 S3 e1 e2
 go_enter Tryz.func3,Tryz.ntmps3
 go_upto_region 1 with fail
 rw [<-e3]
 have U:bR=w.heap.size+1:=by rw [b2];exact Bh _ _
 have V:bO=w.heap.size+1+1:=by rw [b3,Bh,Bh]
 rw [<-V,<-U,<-b1]
 clear e3 b3 b2 b1 U V
 go_wp2_with fail
 refine Calls.mono (TO _ (A.out.env hE.out)) ?_
 rintro e w1 ⟨rfl,hb⟩
 replace A:=A8 (A.out.call hb)
 clear hb
 go_upto_region 2 with fail
 have z0:=(A.out.cell bO _ _ Ah 0).trans (show _=some (Value.slice oa on oc) from rfl)
 have z1:=A.out.mem.frozen bO _ _ Ah 0
 go_wp2_with fail
 refine Calls.mono (CO.out _ A.out.mem.below) ?_
 rintro e w2 ⟨oa2,on2,oc2,rfl,hs,hb,hown⟩
 have hne:=A8 (show ∀ b,(Value.slice oa2 on2 oc2).ownBlock=some b->b≠bO from fun b hb'=>by have:=hown b hb';have:=A.out.mem.lt _ Ah;omega)
 replace A:=A8 ((A.out.call hb).slice hs)
 clear hb hs z0 z1 CO hown
 have z0:=(A.out.cell bO _ _ Ah 0).trans (show _=some (Value.slice oa on oc) from rfl)
 have z1:=A.out.mem.frozen bO _ _ Ah 0
 have z2:=(A.out.cell bO _ _ Ah 1).trans (show _=some (Value.string od) from rfl)
 have z3:=A.out.mem.frozen bO _ _ Ah 1
 obtain ⟨k,hk⟩:∃ k:Nat,min (od.size:Int) 101=(k:Int):=⟨min od.size 101,Ad⟩
 have hk1:k<=od.size:=by omega
 have g:=A8 (((A.out.mem.put0 0 (.slice oa2 on2 oc2)).put0 1 (.string (od.extract 0 k))))
 have T:=A8 (A.out.ss _ Ah)
 go_upto_region 4 with fail
 obtain ⟨od2,D⟩:∃ s,s=od.extract 0 k:=⟨_,rfl⟩
 have hsz:=A8 (show od2.size<=201 by rw [D];exact Jq _ _ Ad)
 rw [<-D] at g |-
 obtain ⟨Wn,eW⟩:∃ W,W=(w2.setCell ⟨bO,0,none⟩ (.slice oa2 on2 oc2)).setCell ⟨bO,1,none⟩ (.string od2):=⟨_,rfl⟩
 rw [<-eW] at g |-
 have B:=A8 (show DS Wn (.slice oa2 on2 oc2) (Mk ol) from by rw [eW];exact Vv T.out (((Dr.refl [bO] w2).setCell (p:=⟨bO,0,none⟩) Af _).setCell (p:=⟨bO,1,none⟩) Af _) hne.out)
 clear eW T hne A z0 z1 z2 z3 hk hk1 D hod
 have v:=A8 g.out.below
 replace hE:=A8 (g.out.env hE.out)
 replace C:=A8 (C.out.below v.out)
 have d:=A8 (Ov.of (cs:=[.int .i64 x.cols,.int .i64 x.rows,.slice ac nc cc,.slice ah nh ch,.int .i64 x.miss]) (t:=24) g.out Aj)
 have o:=A8 (Ov.of (cs:=[.int .i64 cr,.slice ar nr kr]) (t:=27) g.out Ai)
 have m:=A8 (Ov.of (cs:=[.slice oa2 on2 oc2,.string od2]) (t:=30) g.out Ah)
 clear g
 have F:=A8 x.made_len
 have hvm:=A8 x.made_valid
 have hce:=x.c_eq
 have Q:=x.r_eq
 have z0:=d.out.2 0 _ rfl
 have z1:=d.out.2 1 _ rfl
 have z2:=d.out.2 2 _ rfl
 have z3:=d.out.2 3 _ rfl
 have z4:=d.out.2 4 _ rfl
 go_wp2_with fail
 refine Calls.mono (MD.out _ C.out) ?_
 rintro e w3 ⟨a,cp,rfl,P,hb⟩
 replace hb:=A8 hb
 clear z0 z1 z2 z3 z4 MD
 obtain ⟨r,hr⟩:∃ r,r=x.r:=⟨_,rfl⟩
 obtain ⟨c,hc⟩:∃ c,c=x.c:=⟨_,rfl⟩
 rw [<-hr] at P F Q |-
 rw [<-hc] at hvm hce |-
 replace hr:=A8 hr
 replace hc:=A8 hc
 have S:=A8 (show 1<=c/\c<=1000 by omega)
 have K:=A8 (show 1<=r/\r<=5 by omega)
 clear hce Q
 have hlen:=A8 (show ∀ q∈x.made,q.1.length=c from fun q hq=>by have:=(EH hvm.out).2.2.2 q hq;omega)
 replace C:=A8 (C.out.below hb.out)
 replace d:=A8 (d.out.below hb.out)
 replace o:=A8 (o.out.below hb.out)
 replace m:=A8 (m.out.below hb.out)
 replace B:=A8 (B.out.below hb.out)
 replace hE:=A8 (hE.out.below hb.out (Aa _))
 replace v:=A8 (v.out.trans (hb.out.mono v.out.size))
 obtain ⟨Wa,bM,e1,b1,O⟩:=(Dp.start _).addB #[.int .i64 c,.slice a r cp] 27
 go_upto_region 5 with fail
 rw [<-e1,<-b1]
 clear e1 b1
 have u:=A8 O.below
 replace P:=A8 (P.below u.out)
 replace C:=A8 (C.out.below u.out)
 replace d:=A8 (d.out.below u.out)
 replace o:=A8 (o.out.below u.out)
 replace m:=A8 (m.out.below u.out)
 replace B:=A8 (B.out.below u.out)
 replace hE:=A8 (hE.out.below u.out (Aa _))
 replace v:=A8 (v.out.trans (u.out.mono v.out.size))
 have y:=A8 (Ov.of (cs:=[.int .i64 c,.slice a r cp]) (t:=27) O Ah)
 clear O hb u
 refine lm_r5 (bM:=bM) (bR:=bR) (nm:=r) (km:=cp) (nr:=nr) (kr:=kr) (am:=a) (ar:=ar) (cm:=c) (cr:=cr) (z1:=z1) (z2:=z2) (z3:=z3) (r3:=IA raw 3) (L:=[]) (R:=[]) (fun W i=>i.old y.out.1 (y.out.2 0 _ rfl)) (fun W i=>i.old y.out.1 (y.out.2 1 _ rfl)) (A8 fun W i=>bent_ok c (.slice a r cp) x.made z1 z2 z3 W (P.out.below i.below) (by rw [F.out];exact K.out.1) (by rw [F.out];exact K.out.2) S.out hlen.out f1 f3) (fun W i=>i.old o.out.1 (o.out.2 0 _ rfl)) (fun W i=>i.old o.out.1 (o.out.2 1 _ rfl)) (A8 fun W i=>FW.out W (v.out.trans (i.below.mono v.out.size))) (A8 (Dp.start _)) rfl rfl rfl rfl rfl rfl Ab ?_
 intro xx g63 c2 r2 a2 n2 k2 a3 n3 k3 W5 J H I f hM5
 simp only [Eb,Ce,Cg,A5,A6,J,H,I]
 have g:=A8 hM5.out
 clear hM5 FW
 go_wp2_with fail
 refine lm_l0 (x:=x) (bN:=bN) (bO:=bO) (bM:=bM) (gs:=g63) (nc:=nc) (cc:=cc) (nh:=nh) (ch:=ch) (no:=on2) (ko:=oc2) (cm:=c) (ac:=ac) (ah:=ah) (ao:=oa2) (lv:=lv) (wv:=wv) (l:=l) (wl:=wl) (lo:=Mk ol) (do_:=od2) (den:=den) (p:=p) (q:=q) (w:=W5) (A8 (g.out.env hE.out)) hq (A8 ⟨A9 d.out.1 g.out.size,A9 m.out.1 g.out.size,A9 y.out.1 g.out.size,f.out.1.lt⟩) (A8 ⟨g.out.old d.out.1 (d.out.2 0 _ rfl),g.out.old d.out.1 (d.out.2 1 _ rfl),g.out.old d.out.1 (d.out.2 2 _ rfl),g.out.old d.out.1 (d.out.2 3 _ rfl),g.out.old d.out.1 (d.out.2 4 _ rfl)⟩) (A8 ⟨g.out.old m.out.1 (m.out.2 0 _ rfl),g.out.old m.out.1 (m.out.2 1 _ rfl),B.out.below g.out.below,Mn _,hsz.out⟩) (A8 (g.out.old y.out.1 (y.out.2 0 _ rfl))) (A8 fun j hj=>match j,hj with | 0,_=>⟨_,_,_,_,_,f.out.1.cell (0*2),f.out.1.cell (0*2+1),P.out.below g.out.below,by rw [F.out];have:=K.out;omega⟩ | 1,_=>⟨_,_,_,_,_,f.out.1.cell (1*2),f.out.1.cell (1*2+1),f.out.2.1.sl,f.out.2.1.le⟩ | 2,_=>⟨_,_,_,_,_,f.out.1.cell (2*2),f.out.1.cell (2*2+1),f.out.2.2.sl,f.out.2.2.le⟩) (A8 fun W i=>HD.out W (C.out.below (g.out.below.trans (i.mono g.out.size)))) (A8 fun W i=>VC.out W c S.out.2 (v.out.trans ((g.out.below.trans (i.mono g.out.size)).mono v.out.size))) (A8 fun W n hn=>fun i=>WC.out W n hn (v.out.trans ((g.out.below.trans (i.mono g.out.size)).mono v.out.size))) (A8 fun W i=>CC.out W (v.out.trans ((g.out.below.trans (i.mono g.out.size)).mono v.out.size))) Ab rfl rfl rfl rfl rfl rfl rfl rfl rfl rfl rfl rfl ?_
 intro x0 W12 G
 simp only [Eb,Ce,Cg,A5,A6]
 have Y:=A8 (v.out.trans ((g.out.below.trans (G.out.mono g.out.size)).mono v.out.size))
 clear G g C v hE P y d m o B HD VC WC CC f J H I
 go_wp2
 go_ret
 exact ⟨rfl,Y.out⟩
end
end Go.Proofs.YtioamkekjjkigaaGreatDoor
