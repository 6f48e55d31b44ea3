/- MdA, MdB, MdC, Hid, RcA, RcB, RcC, RcD -/
import Derived.Test.YtioamkekjjkigaaGreatDoorYLcN
set_option maxHeartbeats 8000000
set_option maxRecDepth 100000
namespace Go.Proofs.YtioamkekjjkigaaGreatDoor
section
open Go.RowKit
attribute [local go_sem] Oper.semAt_some
theorem Vg {Q:Exit->Act->World->Prop} {us:List Value} {bN bE:Nat} {v hv:Value} {j co at_ hd pr s0 s1:Int} {w W0:World} {L:Ei} {R:List En}    (i:DQ w L R bN 3 (hv)) (C53:EW w L R 27 #[hv,.int .i64 j] (.int .i64 at_)) (C54:EW w L R 26 #[.int .i64 at_,.int .i64 6] (.int .i64 hd)) (t:IntKind.i64.wrap (co*hd)=pr) (A:IntKind.i64.wrap (s0+pr)=s1) (h0:Hid (Dp w ((bE,#[v,.int .i64 s0],57) :: L) R W0)) (B:us.length=85) (m:us[1]? = some (.pointer (some ⟨bN,0,none⟩))) (l:us[6]? = some (.pointer (some ⟨bE,0,none⟩))) (p:us[7]? = some (.int .i64 j)) (y:us[8]? = some (.int .i64 co)) {ops:Array Oper} (k:Dt Tryz.f6.body 12=some ops)
  (e:∀ (x:Nat->Value)  (W':World),Hid (Dp w ((bE,#[v,.int .i64 s1],57) :: L) R W')->Q .normal { tmps:=(Eb [47,48,49,50,51,52,53,54,55,56,57] x us).toArray,defers:=[] } W') :
  (Code.region 12 ops true).wp Tryz.prog Q { tmps:=us.toArray,defers:=[] } W0:=by
 obtain rfl:=B4 (k.symm.trans (rfl:Dt Tryz.f6.body 12=some _))
 clear k
 replace e:=A8 e
 let Fl:Unit->FL:=fun g=>[some (47,.pointer (some ⟨bE,1,none⟩)),some (48,.int .i64 s0),some (49,.int .i64 co),some (50,.pointer (some ⟨bN,3,none⟩)),some (51,hv),some (52,.int .i64 j),some (53,.int .i64 at_),some (54,.int .i64 hd),some (55,.int .i64 pr),some (56,.int .i64 s1),some (57,.pointer (some ⟨bE,1,none⟩)),none]
 let Ml:Unit->ML:=fun g=>[]
 let Sl_:Unit->List (World->Prop):=fun g=>[fun W=>Dp w ((bE,#[v,.int .i64 s0],57) :: L) R W,fun W=>Dp w ((bE,#[v,.int .i64 s1],57) :: L) R W]
 have St:Iu 85 [47,48,49,50,51,52,53,54,55,56,57] [] Fl Ml (Dp w L R) Sl_:=⟨fun _=>by kernel_rfl,fun _=>rfl,fun _ _ hb h=>h.call hb,fun g=>(fun _ h=>by cases h),fun g=>C6.2 ⟨fun W W' hb h=>h.call hb,C6.2 ⟨fun W W' hb h=>h.call hb,(fun _ h=>by cases h)⟩⟩⟩
 refine FM St us [11] () B h0.out.tail.drew h0.out.drew ?_ ?_
 refine sV St ?_ (fun z=>z.u l)
 refine Dk (stV St 1 rfl rfl rfl (fun _=>rfl) fun g T E W hl hw hs z K J=>by
  have n:=z.x 0 hw rfl;have C:W.cell? ⟨bE,1,none⟩=some (.int .i64 s0:Value):=z.ld 1 0 0 hl hw hs rfl Ab (fun s=>Dp.cell (s) _ _ _ Ah 1);go_simp;exact J) ?_
 refine sV St ?_ (fun z=>z.u y)
 refine sV St ?_ (fun z=>z.u m)
 refine sV St ?_ (fun z=>z.x 3 rfl) (fun z=>i _ z.c)
 refine sV St ?_ (fun z=>z.u p)
 refine sC St ?_ (fun z=>C53 _ z.c) (fun z=>z.x 4 rfl) (fun z=>z.x 5 rfl)
 refine sC St ?_ (fun z=>C54 _ z.c) (fun z=>z.x 6 rfl)
 refine sV St ?_ (fun z=>z.x 2 rfl) (fun z=>z.x 7 rfl)
 refine sV St ?_ (fun z=>z.x 1 rfl) (fun z=>z.x 8 rfl)
 refine sV St ?_ (fun z=>z.u l)
 refine Dk (stE 11 0 (.inl rfl) rfl rfl (fun _=>rfl) Ab (fun _=>by kernel_rfl) fun g T E W hl hw hs z q K J=>by
  have r:=z.x 9 hw rfl;have o:=z.x 10 hw rfl;have b:Dp _ _ _ _:=q;have y0:=b.cell _ _ _ Ah 1;have w0:=b.frozen _ _ _ Ah 1;go_simp;exact J _ ((b.put0 1 _).tail) (b.put0 1 _)) ?_
 ·exact Du
 ·intro g a W z q
  have d:Dp _ _ _ _:=q;rw [z.f.eqs];exact e.out _   _  (A8 d)
theorem Vh {Q:Exit->Act->World->Prop} {us:List Value} {bN bE:Nat} {v:Value} {ms mq pk sa s0 s1:Int} {w W0:World} {L:Ei} {R:List En}    (i:DQ w L R bN 4 (.int .i64 ms)) (t:IntKind.i64.wrap (ms.tdiv 30)=mq) (C74:EW w L R 26 #[.int .i64 mq,.int .i64 41] (.int .i64 pk)) (l:IntKind.i64.wrap (s0+pk)=sa) (r:IntKind.i64.wrap (sa-20)=s1) (h0:Hid (Dp w ((bE,#[v,.int .i64 s0],57) :: L) R W0)) (p:us.length=85) (m:us[1]? = some (.pointer (some ⟨bN,0,none⟩))) (k:us[6]? = some (.pointer (some ⟨bE,0,none⟩))) {ops:Array Oper} (j:Dt Tryz.f6.body 14=some ops)
  (e:∀ (x:Nat->Value)  (W':World),Hid (Dp w ((bE,#[v,.int .i64 s1],57) :: L) R W')->Q .normal { tmps:=(Eb [69,70,71,72,73,74,75,76,77] x us).toArray,defers:=[] } W') :
  (Code.region 14 ops true).wp Tryz.prog Q { tmps:=us.toArray,defers:=[] } W0:=by
 obtain rfl:=B4 (j.symm.trans (rfl:Dt Tryz.f6.body 14=some _))
 clear j
 replace e:=A8 e
 let Fl:Unit->FL:=fun g=>[some (69,.pointer (some ⟨bE,1,none⟩)),some (70,.int .i64 s0),some (71,.pointer (some ⟨bN,4,none⟩)),some (72,.int .i64 ms),some (73,.int .i64 mq),some (74,.int .i64 pk),some (75,.int .i64 sa),some (76,.int .i64 s1),some (77,.pointer (some ⟨bE,1,none⟩)),none]
 let Ml:Unit->ML:=fun g=>[]
 let Sl_:Unit->List (World->Prop):=fun g=>[fun W=>Dp w ((bE,#[v,.int .i64 s0],57) :: L) R W,fun W=>Dp w ((bE,#[v,.int .i64 s1],57) :: L) R W]
 have St:Iu 85 [69,70,71,72,73,74,75,76,77] [] Fl Ml (Dp w L R) Sl_:=⟨fun _=>by kernel_rfl,fun _=>rfl,fun _ _ hb h=>h.call hb,fun g=>(fun _ h=>by cases h),fun g=>C6.2 ⟨fun W W' hb h=>h.call hb,C6.2 ⟨fun W W' hb h=>h.call hb,(fun _ h=>by cases h)⟩⟩⟩
 refine FM St us [9] () p h0.out.tail.drew h0.out.drew ?_ ?_
 refine sV St ?_ (fun z=>z.u k)
 refine Dk (stV St 1 rfl rfl rfl (fun _=>rfl) fun g T E W hl hw hs z K J=>by
  have n:=z.x 0 hw rfl;have A:W.cell? ⟨bE,1,none⟩=some (.int .i64 s0:Value):=z.ld 1 0 0 hl hw hs rfl Ab (fun s=>Dp.cell (s) _ _ _ Ah 1);go_simp;exact J) ?_
 refine sV St ?_ (fun z=>z.u m)
 refine sV St ?_ (fun z=>z.x 2 rfl) (fun z=>i _ z.c)
 refine sV St ?_ (fun z=>z.x 3 rfl)
 refine sC St ?_ (fun z=>C74 _ z.c) (fun z=>z.x 4 rfl)
 refine sV St ?_ (fun z=>z.x 1 rfl) (fun z=>z.x 5 rfl)
 refine sV St ?_ (fun z=>z.x 6 rfl)
 refine sV St ?_ (fun z=>z.u k)
 refine Dk (stE 9 0 (.inl rfl) rfl rfl (fun _=>rfl) Ab (fun _=>by kernel_rfl) fun g T E W hl hw hs z q K J=>by
  have y:=z.x 7 hw rfl;have o:=z.x 8 hw rfl;have b:Dp _ _ _ _:=q;have y0:=b.cell _ _ _ Ah 1;have w0:=b.frozen _ _ _ Ah 1;go_simp;exact J _ ((b.put0 1 _).tail) (b.put0 1 _)) ?_
 ·exact Du
 ·intro g a W z q
  have d:Dp _ _ _ _:=q;rw [z.f.eqs];exact e.out _   _  (A8 d)
theorem E6.sum_small (x:E6) (i:Nat) {k:Nat} (hk:k<=8):-360<=x.sum i k/\x.sum i k<=360:=by
 obtain ⟨h1,h2⟩:=x.sum_bd i k;omega
theorem made_l2 {Q:Exit->Act->World->Prop} {us:List Value} {x:E6} {bN bS bE i c:Nat} {cv hv:Value} {w W0:World} {L:Ei} {R:List En} (hc:Hid (c=x.c)) (hi:Hid (i<=5)) (B:Hid (∀ W,Dp w L R W->W.cell? ⟨bN,2,none⟩=some cv/\W.cell? ⟨bN,3,none⟩=some hv)) (hS:Hid (∀ W,Dp w L R W->W.cell? ⟨bS,0,none⟩=some (.int .i64 c)))
  (AC:Hid (∀ W,Dp w L R W->∀ k:Nat,Calls Tryz.prog 27 #[cv,.int .i64 k] W (DR W (.int .i64 (GI x.coefs k))))) (AH:Hid (∀ W,Dp w L R W->∀ k:Nat,Calls Tryz.prog 27 #[hv,.int .i64 k] W (DR W (.int .i64 (GI x.hidden k))))) (U:Hid (∀ k,Dy (GI x.coefs k)/\Dy (GI x.hidden k))) (h0:Hid (Dp w ((bE,#[.slice none 0 0,.int .i64 0],57) :: L) R W0)) {body:Code} (b:EN Tryz.f6.body 2=some body) (B:us.length=85) (I:us[1]? = some (.pointer (some ⟨bN,0,none⟩))) (H:us[3]? = some (.pointer (some ⟨bS,0,none⟩))) (K:us[5]? = some (.int .i64 i)) (M:us[6]? = some (.pointer (some ⟨bE,0,none⟩))) (G:us[7]? = some (.int .i64 0))
  (J:∀ (vf:Value) (fr:Nat->Value) (W':World),Hid (Dp w ((bE,#[vf,.int .i64 (x.sum i c)],57) :: L) (⟨3,1,vf,c,((List.range c).map fun k=>Value.int .i64 (x.coef i k))⟩ :: R) W')->Q (.exit 2) { tmps:=(Eb [7,8,24,25,26,27,28,29,30,31,32,33,34,35,36,37,38,39,40,41,42,43,44,45,46,47,48,49,50,51,52,53,54,55,56,57] fr us).toArray,defers:=[] } W') :
  (Code.loop body).wp Tryz.prog Q { tmps:=us.toArray,defers:=[] } W0:=by
 obtain rfl:=B4 (b.symm.trans (rfl:EN Tryz.f6.body 2=some _))
 clear b
 obtain ⟨u,rfl⟩:=KL B
 clear B
 replace I:=DC I
 replace H:=DC H
 replace K:=DC K
 replace M:=DC M
 replace G:=DC G
 simp only [lit,Nat.reduceAdd,I,H,K,M,G] at J |-
 clear I H K M G
 replace J:=A8 J
 go_loopw [7] (fun s wr=>∃ (j:Nat) (v:Value),s=.int .i64 j/\j<=c/\Hid (Dp w ((bE,#[v,.int .i64 (x.sum i j)],57) :: L) (⟨3,1,v,j,((List.range j).map fun k=>Value.int .i64 (x.coef i k))⟩ :: R) wr)) (fun s _=>c-(intOf s).toNat)
 case atStart=>exact ⟨0,.slice none 0 0,rfl,Ad,A8 (h0.out.row0 3 1)⟩
 case round =>
  clear h0;obtain ⟨j,v,rfl,hj,f⟩:=hrel;have y0:=hS.out _ f.out.tail.rtail;by_cases hjc:j<c;case neg =>
   have y:¬ (j:Int)<c:=by omega
   obtain rfl:j=c:=by omega
   go_wp2_with fail;exact lexit [7,8,24,25,26,27,28,29,30,31,32,33,34,35,36,37,38,39,40,41,42,43,44,45,46,47,48,49,50,51,52,53,54,55,56,57] (J.out v _ _ f) Ab
  case pos =>
   have y:(j:Int)<c:=by omega
   obtain ⟨Y,_⟩:=B.out _ f.out.tail.rtail;have N:=x.c_eq;have F:=hc.out;have o:=hi.out;have O:i*c<=40:=Bc (Nat.mul_le_mul o (show c<=8 by omega)) Ae;obtain ⟨ic,d⟩:∃ z,z=i*c:=⟨_,rfl⟩;have hw1:IntKind.i64.wrap ((i:Int)*c)=(ic:Int):=by rw [d,BT _ (by rw [<-AG];omega)];simp
   obtain ⟨ij,h⟩:∃ z,z=ic+j:=⟨_,rfl⟩;have hw2:IntKind.i64.wrap ((ic:Int)+j)=(ij:Int):=by rw [h,BT _ Ad];simp
   have C:Ge (GI x.coefs ij) 19-9=x.coef i j:=by unfold E6.coef;rw [h,d,F]
   have q:=x.coef_bd i j;have p:=x.hid_bd j;have D:=x.prod_bd i j;have S:=x.sum_small i (k:=j) Ad;have P:=x.sum_small i (k:=j+1) Ad;have E:x.sum i (j+1)=x.sum i j+x.coef i j*x.hid j:=rfl;have l:((List.range (j+1)).map fun k=>Value.int .i64 (x.coef i k))=((List.range j).map fun k=>Value.int .i64 (x.coef i k))++[.int .i64 (x.coef i j)]:=by rw [AZ,Bg];rfl
   have t:Ge (GI x.hidden j) 6=x.hid j:=rfl;obtain ⟨fa,fh⟩:Dy (GI x.coefs ij)/\Dy (GI x.hidden j):=⟨(U.out ij).1,(U.out j).2⟩;obtain ⟨co,a⟩:∃ z,z=x.coef i j:=⟨_,rfl⟩;have hw3:IntKind.i64.wrap (Ge (GI x.coefs ij) 19-9)=co:=by rw [C,a];exact BT _ Ad
   have C1:=A8 (AC.out _ f.out.tail.rtail ij);have Z:=A8 (fun W=>Ed (GI x.coefs ij) 19 fa Ae Ae W);have X:=A8 (fun W=>by have:=Ed (GI x.hidden j) 6 fh Ae Ae W;rwa [t] at this);have n:IntKind.i64.wrap (co*x.hid j)=x.coef i j*x.hid j:=by rw [a];exact BT _ Ad
   have m:IntKind.i64.wrap (x.sum i j+x.coef i j*x.hid j)=x.sum i (j+1):=by rw [E];exact BT _ Ad
   rw [<-a] at l;have A:=A8 l;have V:j<=8:=by omega
   generalize Ge (GI x.coefs ij) 19=p1 at *
   generalize GI x.coefs ij=a1 at *
   clear O d h C q p D S P E l t fa fh F a N o;replace n:=A8 n;replace m:=A8 m;go_wp2_with fail;refine Calls.mono C1.out ?_;rintro e w1 ⟨rfl,hb⟩;replace f:=A8 (f.out.call hb);clear y0 Y hb;go_wp2_with fail;refine Calls.mono (Z.out _) ?_;rintro e w2 ⟨rfl,hb⟩;replace f:=A8 (f.out.call hb);clear hb;have y2:=f.out.cell bE _ _ Ah 0;go_upto_region 12 with (at_builtin;refine Q5 rfl rfl (f.out.new _) rfl rfl ((Ds.new _ _ _).cell 0) Ad ?_;intro g2 c2 W8 g;have y3:=g.cell bE _ _ Ah 0;have y4:=g.frozen bE _ _ Ah 0;replace g:=g.put0 0 (.slice (some ⟨g2,0,none⟩) (j+1) c2));refine Vg (bN:=bN) (bE:=bE) (hv:=hv) (w:=w) (L:=L) (R:=⟨3,1,_,j+1,((List.range j).map fun k=>Value.int .i64 (x.coef i k))++[.int .i64 co]⟩ :: R) (j:=j) (co:=co) (at_:=GI x.hidden j) (hd:=x.hid j) (pr:=x.coef i j*x.hid j) (s0:=x.sum i j) (s1:=x.sum i (j+1)) (fun W T=>(B.out W T.rtail).2) (fun W T=>AH.out W T.rtail j) (fun W _=>X.out W) n.out m.out (A8 (by assumption)) rfl rfl rfl rfl rfl Ab ?_;intro xx W9 r;simp only [Eb,Ce,Cg,A5,A6];rw [<-A.out] at r;go_wp2_with fail;go_roundw;case rel=>exact ⟨j+1,_,by go_num,Ad,A8 r⟩
   case measure=>simp [intOf];omega
theorem made_l0 {Q:Exit->Act->World->Prop} {us:List Value} {x:E6} {bN bS r c:Nat} {ac ah:Option Addr} {nc cc nh ch:Nat} {w W0:World} {L:Ei} {R:List En} (hc:Hid (c=x.c)) (hr:Hid (r=x.r)) (D:Hid ((bN,#[.int .i64 x.cols,.int .i64 x.rows,.slice ac nc cc,.slice ah nh ch,.int .i64 x.miss],24)∈L))
  (AC:Hid (∀ W,Below w.heap.size w W->∀ k:Nat,Calls Tryz.prog 27 #[.slice ac nc cc,.int .i64 k] W (DR W (.int .i64 (GI x.coefs k))))) (AH:Hid (∀ W,Below w.heap.size w W->∀ k:Nat,Calls Tryz.prog 27 #[.slice ah nh ch,.int .i64 k] W (DR W (.int .i64 (GI x.hidden k))))) (hf:Hid (∀ k,Dy (GI x.coefs k)/\Dy (GI x.hidden k))) (F:Hid (Dy x.miss)) (h0:Hid (Dp w ((bS,#[.int .i64 c,.slice none 0 0],27) :: L) R W0)) {body:Code} (o:EN Tryz.f6.body 0=some body) (D:us.length=85) (O:us[1]? = some (.pointer (some ⟨bN,0,none⟩))) (T:us[3]? = some (.pointer (some ⟨bS,0,none⟩))) (X:us[4]? = some (.int .i64 r)) (S:us[5]? = some (.int .i64 0))
  (P:∀ (fs:Ei) (sv:Value) (xs:List Value) (fr:Nat->Value) (W':World),Hid (Dp w ((bS,#[.int .i64 c,sv],27) :: (fs++L)) (⟨57,2,sv,r,xs⟩ :: R) W'/\H9 fs ((List.range r).map x.row) xs)->Q (.exit 0) { tmps:=(Eb [5,6,7,8,18,19,20,21,22,23,24,25,26,27,28,29,30,31,32,33,34,35,36,37,38,39,40,41,42,43,44,45,46,47,48,49,50,51,52,53,54,55,56,57,58,59,60,61,62,63,64,65,66,67,68,69,70,71,72,73,74,75,76,77,78,79,80,81,82,83] fr us).toArray,defers:=[] } W') :
  (Code.loop body).wp Tryz.prog Q { tmps:=us.toArray,defers:=[] } W0:=by
 obtain rfl:=B4 (o.symm.trans (rfl:EN Tryz.f6.body 0=some _))
 clear o
 obtain ⟨u,rfl⟩:=KL D
 clear D
 replace O:=DC O
 replace T:=DC T
 replace X:=DC X
 replace S:=DC S
 simp only [lit,Nat.reduceAdd,O,T,X,S] at P |-
 clear O T X S
 replace P:=A8 P
 go_loopw [5] (fun s wr=>∃ (i:Nat) (fs:Ei) (sv:Value) (xs:List Value),s=.int .i64 i/\i<=r/\Hid (Dp w ((bS,#[.int .i64 c,sv],27) :: (fs++L)) (⟨57,2,sv,i,xs⟩ :: R) wr/\H9 fs ((List.range i).map x.row) xs)) (fun s _=>r-(intOf s).toNat)
 case atStart=>exact ⟨0,[],.slice none 0 0,[],rfl,Ad,A8 ⟨h0.out.row0 57 2,H9.nil _⟩⟩
 case round =>
  clear h0;obtain ⟨i,fs,sv,xs,rfl,hi,U⟩:=hrel;by_cases hir:i<r;case neg =>
   have J:¬ (i:Int)<r:=by omega
   obtain rfl:i=r:=by omega
   go_wp2_with fail;exact lexit [5,6,7,8,18,19,20,21,22,23,24,25,26,27,28,29,30,31,32,33,34,35,36,37,38,39,40,41,42,43,44,45,46,47,48,49,50,51,52,53,54,55,56,57,58,59,60,61,62,63,64,65,66,67,68,69,70,71,72,73,74,75,76,77,78,79,80,81,82,83] (P.out fs sv xs _ _ U) Ab
  case pos =>
   have J:(i:Int)<r:=by omega
   obtain ⟨W1,eW,t,hB⟩:=U.out.1.add' #[.slice none 0 0,.int .i64 0] 57;have hE:=A8 U.out.2;obtain ⟨B,eB⟩:∃ B,B=wr.heap.size:=⟨_,rfl⟩;rw [<-eB] at t hB;go_upto_region 7 with fail;rw [<-eW,<-eB];replace t:=A8 t;clear U eW hB eB;go_wp2_with fail;refine made_l2 (x:=x) (bN:=bN) (bS:=bS) (bE:=B) (i:=i) (c:=c) (cv:=.slice ac nc cc) (hv:=.slice ah nh ch) (w:=w) (L:=(bS,#[.int .i64 c,sv],27) :: (fs++L)) (R:=⟨57,2,sv,i,xs⟩ :: R) hc (A8 (by have:=x.r_eq;have:=hr.out;omega)) (A8 fun W y=>⟨y.cell _ _ _ (Bw _ (Bq _ D.out)) 2,y.cell _ _ _ (Bw _ (Bq _ D.out)) 3⟩) (A8 fun W y=>y.cell _ _ _ Br 0) (A8 fun W y k=>AC.out W y.below k) (A8 fun W y k=>AH.out W y.below k) hf t Ab rfl rfl rfl rfl rfl rfl ?_;intro vf x2 W2 z;simp only [Eb,Ce,Cg,A5,A6];clear t;have H:((List.range c).map fun k=>Value.int .i64 (x.coef i k))=((List.range c).map (x.coef i)).map (Value.int .i64):=by rw [List.map_map];rfl
   rw [H] at z;clear H;have q:((List.range c).map (x.coef i)).length=c:=by simp
   obtain ⟨gs,j,a⟩:=z.out.freezeI (l:=(List.range c).map (x.coef i)) q.symm;obtain ⟨av,cp,rfl⟩:=j.shape;rw [q] at j a z;clear z q;replace j:=A8 j;have a:=A8 a;have Y:=x.r_eq;have E:=hr.out;have hi5:i<=5:=by omega
   have hr5:r<=5:=by omega
   replace E:=A8 E;clear Y;have C:Hid ((List.range (i+1)).map x.row=(List.range i).map x.row++[((List.range c).map (x.coef i),x.val i)]):=A8 (by rw [AZ,Bg,hc.out];rfl);have f:Hid (x.val i=if x.hit i then x.sum i c+Ge (x.miss.tdiv 30) 41-20 else x.sum i c):=A8 (by unfold E6.val;rw [hc.out]);have hsb:=x.sum_small i (k:=c) (by have:=x.c_eq;have:=hc.out;omega);have Z:=F.out;unfold Dy at Z;have g:Hid (∀ V,(bN,#[.int .i64 x.cols,.int .i64 x.rows,.slice ac nc cc,.slice ah nh ch,.int .i64 x.miss],24)∈(gs++(B,#[.slice av c cp,.int .i64 V],57) :: (bS,#[.int .i64 c,sv],27) :: (fs++L):Ei)):=A8 (fun V=>Bq _ (Bw _ (Bw _ (Bq _ D.out))));generalize x.sum i c=s0 at *
   have z0:=a.out.cell _ _ _ (g.out _) 0;have z1:=a.out.cell _ _ _ (g.out _) 1;have z2:=a.out.cell _ _ _ (g.out _) 2;have z3:=a.out.cell _ _ _ (g.out _) 3;have z4:=a.out.cell _ _ _ (g.out _) 4;have MS:=A8 (fun W=>Re x.cols x.rows x.miss (.slice ac nc cc) (.slice ah nh ch) _ _ _ _ _ _ rfl rfl F.out W);have I:Dy (x.miss.tdiv 3):=(tdivL3 F.out).1;have A:Dy (x.miss.tdiv 30):=(tdivL30 F.out).1;have hq1:IntKind.i64.wrap (x.miss.tdiv 3)=x.miss.tdiv 3:=(tdivL3 F.out).2;have K:IntKind.i64.wrap (x.miss.tdiv 30)=x.miss.tdiv 30:=(tdivL30 F.out).2;cases d:Ge x.miss 3==2;case false =>
    have hv:Hid (x.val i=s0):=A8 (by rw [f.out];unfold E6.hit E6.misses;rw [d];rfl);rw [d] at MS;clear d f;go_wp2_with fail;refine Calls.mono (MS.out _) ?_;rintro e w3 ⟨rfl,hb⟩;have a:=A8 (a.out.call hb);clear hb z0 z1 z2 z3 z4 hq1 K I A;have h:=A8 (a.out.front2);have y0:=(a.out.cell _ _ _ (Bq _ Br) 0).trans (show _=some (Value.slice av c cp) from rfl);have y1:=(a.out.cell _ _ _ (Bq _ Br) 1).trans (show _=some (Value.int .i64 (s0)) from rfl);have y2:=(h.out.cell _ _ _ Br 1).trans (show _=some sv from rfl);clear a;go_upto_region 5 with (at_builtin;refine IW rfl rfl (h.out.new _) rfl rfl ((Ds.new _ _ _).cell 0) ((Ds.new _ _ _).cell 1) rfl rfl Ad ?_;intro M c2 W8 b;have q0:=b.cell bS _ _ Ah 1;have q1:=b.frozen bS _ _ Ah 1;replace b:=b.put0 1 (.slice (some ⟨M,0,none⟩) (i+1) c2));go_wp2_with fail;go_roundw;case rel=>exact ⟨i+1,gs++fs,_,_,by go_num,Ad,A8 ⟨by rw [Cb];assumption,by rw [C.out,hv.out];exact hE.out.snoc (j.out.mono (fun p hp=>Bu _ hp)) (fun p hp=>Bq _ hp)⟩⟩
    case measure=>simp [intOf];omega
   case true =>
    have P3:=A8 (fun W=>Ed (x.miss.tdiv 3) r I Ad Ad W);have P4:=A8 (fun W=>Ed (x.miss.tdiv 30) 41 A Ae Ae W);have hp1:=Ec (c:=x.miss.tdiv 30) (m:=41) Ae;have hp2:=FX (c:=x.miss.tdiv 30) (m:=41) Ae;have n:Hid (x.hit i=((i:Int)==Ge (x.miss.tdiv 3) r)):=A8 (by unfold E6.hit E6.misses;rw [d,E.out];rfl);rw [d] at MS;clear d;generalize Ge (x.miss.tdiv 3) r=p3 at *
    generalize Ge (x.miss.tdiv 30) 41=p4 at *
    go_wp2_with fail;refine Calls.mono (MS.out _) ?_;rintro e w3 ⟨rfl,hb⟩;have a:=A8 (a.out.call hb);clear hb z0 z1 z2 z3 z4;have z4:=a.out.cell _ _ _ (g.out _) 4;go_wp2_with fail;refine Calls.mono (P3.out _) ?_;rintro e w4 ⟨rfl,hb⟩;have a:=A8 (a.out.call hb);clear hb z4;cases G:(i:Int)==p3;case false =>
     have hv:Hid (x.val i=s0):=A8 (by rw [f.out,n.out,G];rfl);clear f n;have h:=A8 (a.out.front2);have y0:=(a.out.cell _ _ _ (Bq _ Br) 0).trans (show _=some (Value.slice av c cp) from rfl);have y1:=(a.out.cell _ _ _ (Bq _ Br) 1).trans (show _=some (Value.int .i64 (s0)) from rfl);have y2:=(h.out.cell _ _ _ Br 1).trans (show _=some sv from rfl);clear a;go_upto_region 5 with (at_builtin;refine IW rfl rfl (h.out.new _) rfl rfl ((Ds.new _ _ _).cell 0) ((Ds.new _ _ _).cell 1) rfl rfl Ad ?_;intro M c2 W8 b;have q0:=b.cell bS _ _ Ah 1;have q1:=b.frozen bS _ _ Ah 1;replace b:=b.put0 1 (.slice (some ⟨M,0,none⟩) (i+1) c2));go_wp2_with fail;go_roundw;case rel=>exact ⟨i+1,gs++fs,_,_,by go_num,Ad,A8 ⟨by rw [Cb];assumption,by rw [C.out,hv.out];exact hE.out.snoc (j.out.mono (fun p hp=>Bu _ hp)) (fun p hp=>Bq _ hp)⟩⟩
     case measure=>simp [intOf];omega
    case true =>
     have hv:Hid (x.val i=s0+p4-20):=A8 (by rw [f.out,n.out,G];rfl);clear f n;go_upto_region 14 with fail;refine Vh (bN:=bN) (bE:=B) (v:=.slice av c cp) (w:=w) (L:=gs++(bS,#[.int .i64 c,sv],27) :: (fs++L)) (R:=⟨57,2,sv,i,xs⟩ :: R) (ms:=x.miss) (mq:=x.miss.tdiv 30) (pk:=p4) (sa:=s0+p4) (s0:=s0) (s1:=s0+p4-20) (fun W y=>y.cell _ _ _ (Bq _ (Bw _ (Bq _ D.out))) 4) K (fun W _=>P4.out W) (BT _ Ad) (BT _ Ad) (A8 a.out.front) rfl rfl rfl Ab ?_;intro xx W5 N;simp only [Eb,Ce,Cg,A5,A6];have a:=A8 N;clear N;have h:=A8 (a.out.tail.front);have y0:=(a.out.cell _ _ _ Br 0).trans (show _=some (Value.slice av c cp) from rfl);have y1:=(a.out.cell _ _ _ Br 1).trans (show _=some (Value.int .i64 (s0+p4-20)) from rfl);have y2:=(h.out.cell _ _ _ Br 1).trans (show _=some sv from rfl);clear a;go_upto_region 5 with (at_builtin;refine IW rfl rfl (h.out.new _) rfl rfl ((Ds.new _ _ _).cell 0) ((Ds.new _ _ _).cell 1) rfl rfl Ad ?_;intro M c2 W8 b;have q0:=b.cell bS _ _ Ah 1;have q1:=b.frozen bS _ _ Ah 1;replace b:=b.put0 1 (.slice (some ⟨M,0,none⟩) (i+1) c2));go_wp2_with fail;go_roundw;case rel=>exact ⟨i+1,gs++fs,_,_,by go_num,Ad,A8 ⟨by rw [Cb];assumption,by rw [C.out,hv.out];exact hE.out.snoc (j.out.mono (fun p hp=>Bu _ hp)) (fun p hp=>Bq _ hp)⟩⟩
     case measure=>simp [intOf];omega
def MadeP (x:E6) (w:World) (e:Ending) (w':World):Prop :=
 ∃ (B cap:Nat) (cs:Array Value) (fs:Ei),e=.returned (.agg #[.int .i64 x.c,.slice (some ⟨B,0,none⟩) x.r cap])/\x.r<=cap/\cap<=maxLen/\cs.size=cap*2/\H9 fs x.made (cs.toList.take (x.r*2))/\Dp w ((B,cs,57) :: fs) [] w'
theorem Vi (x:E6) (vc vh:Value) (w:World) (hc:Sl w vc x.coefs) (y:Sl w vh x.hidden) (h:Dy x.cols/\Dy x.rows/\Dy x.miss) (z:∀ k,Dy (GI x.coefs k)/\Dy (GI x.hidden k)) :
  Calls Tryz.prog 6 #[.agg #[.int .i64 x.cols,.int .i64 x.rows,vc,vh,.int .i64 x.miss]] w (MadeP x w):=by
 obtain ⟨ac,cc,rfl⟩:=hc.shape
 obtain ⟨ah,ch,rfl⟩:=y.shape
 have D:=A8 hc
 have F:=A8 y
 have AC:=A8 (fun W (m:Below w.heap.size w W) (k:Nat)=>K9 (.slice ac x.coefs.length cc) x.coefs k W (D.out.below m))
 have AH:=A8 (fun W (m:Below w.heap.size w W) (k:Nat)=>K9 (.slice ah x.hidden.length ch) x.hidden k W (F.out.below m))
 replace z:=A8 z
 have M:=A8 h.2.2
 have I:=A8 (fun W=>Ed x.cols 8 h.1 Ae Ae W)
 have N:=A8 (fun W=>Ed x.rows 5 h.2.1 Ae Ae W)
 have j:=x.c_eq
 have i:=x.r_eq
 obtain ⟨c,d⟩:∃ c,c=x.c:=⟨_,rfl⟩
 obtain ⟨r,a⟩:∃ r,r=x.r:=⟨_,rfl⟩
 rw [<-d] at j
 rw [<-a] at i
 have u:IntKind.i64.wrap (1+Ge x.cols 8)=(c:Int):=by rw [<-j.1];exact BT _ Ad
 have s:IntKind.i64.wrap (1+Ge x.rows 5)=(r:Int):=by rw [<-i.1];exact BT _ Ad
 have l:Hid ((List.range r).map x.row=x.made):=A8 (by rw [a];rfl)
 replace d:=A8 d
 replace a:=A8 a
 generalize Ge x.cols 8=p1 at *
 generalize Ge x.rows 5=p2 at *
 clear hc y h j i
 generalize x.coefs.length=nc at *
 generalize x.hidden.length=nh at *
 obtain ⟨Y,G,E,s1⟩:=(Dp.start w).add' #[.int .i64 x.cols,.int .i64 x.rows,.slice ac nc cc,.slice ah nh ch,.int .i64 x.miss] 24
 obtain ⟨V,q,n,Q⟩:=E.add' #[.int .i64 0,.slice none 0 0] 27
 rw [s1] at n
 rw [G] at q
 have b:=A8 n
 have z0:=n.cell w.heap.size _ _ Ai 0
 have z1:=n.cell w.heap.size _ _ Ai 1
 clear G E s1 n Q D F
 go_enter Tryz.func6,Tryz.ntmps6
 go_upto_region 1 with fail
 rw [<-q]
 clear q
 go_wp2_with fail
 refine Calls.mono (I.out _) ?_
 rintro e P ⟨rfl,hb⟩
 replace b:=A8 (b.out.call hb)
 clear z0 z1 hb
 obtain ⟨X,H,p,J⟩:=b.out.add' #[.int .i64 c,.slice none 0 0] 27
 have z1:=p.cell w.heap.size _ _ Aj 1
 obtain ⟨B,t⟩:∃ B,B=P.heap.size:=⟨_,rfl⟩
 rw [<-t] at p
 replace b:=A8 p
 clear p J
 go_upto_region 2 with fail
 rw [<-H,<-t]
 clear H t
 go_wp2_with fail
 refine Calls.mono (N.out _) ?_
 rintro e U ⟨rfl,hb⟩
 replace b:=A8 (b.out.call hb)
 clear z1 hb
 go_wp2_with fail
 refine made_l0 (x:=x) (bN:=w.heap.size) (bS:=B) (r:=r) (c:=c) (ac:=ac) (ah:=ah) (nc:=nc) (cc:=cc) (nh:=nh) (ch:=ch) (w:=w) (L:=[(w.heap.size+1,#[.int .i64 0,.slice none 0 0],27),(w.heap.size,#[.int .i64 x.cols,.int .i64 x.rows,.slice ac nc cc,.slice ah nh ch,.int .i64 x.miss],24)]) (R:=[]) d a (A8 Ai) AC AH z M b Ab rfl rfl rfl rfl rfl ?_
 clear b
 intro fs sv xs x0 S b
 simp only [Eb,Ce,Cg,A5,A6]
 have h:=Dp.front (A:=(B,#[.int .i64 c,sv],27) :: fs) (C:=[(w.heap.size,#[.int .i64 x.cols,.int .i64 x.rows,.slice ac nc cc,.slice ah nh ch,.int .i64 x.miss],24)]) b.out.1
 have hq:=b.out.2
 rw [l.out] at hq
 have hO:=h.out2 (.int .i64 c) sv
 obtain ⟨o,cp,rfl,f⟩:∃ o cp,sv=.slice (some ⟨o,0,none⟩) r cp/\Hid (∀ W,W=(S.setCell ⟨w.heap.size+1,0,none⟩ (.int .i64 c)).setCell ⟨w.heap.size+1,1,none⟩ sv->MadeP x w (.returned (.agg #[.int .i64 c,sv])) W):=by
  rcases hO.freeze with ⟨_,h0,_,_⟩ | ⟨g,cap,ds,rfl,h1,h2,h3,K,h5⟩
  ·have:=x.r_eq;have:=a.out;omega
  ·refine ⟨g,cap,rfl,A8 fun W m=>⟨g,cap,ds,fs,by rw [d.out,a.out],by rw [<-a.out];exact h1,h2,h3,by rw [<-a.out,K];exact hq,?_⟩⟩
   rw [m];exact h5.sub (List.Sublist.cons_cons _ (List.Sublist.cons _ (List.Sublist.cons _ (List.sublist_append_left fs _))))
 obtain ⟨Z,k1,f0,T,y0,O⟩:=Gj (h.blks _ Br) (.int .i64 c) (.slice (some ⟨o,0,none⟩) r cp)
 have z0:=(b.out.1.cell _ _ _ Br 0).trans (show _=some (Value.int .i64 c) from rfl)
 have z1:=(b.out.1.cell _ _ _ Br 1).trans (show _=some (Value.slice (some ⟨o,0,none⟩) r cp) from rfl)
 clear b h hO hq
 have f:=A8 (f.out _ rfl)
 clear u s
 go_wp2
 exact bodyPost_ret (v:=.agg #[.int .i64 c,.slice (some ⟨o,0,none⟩) r cp]) (by simp [results,Tryz.results6,go_sem,y0,O]) rfl f.out
theorem Vj (x:E6) (vc vh:Value) (w:World) (hc:Sl w vc x.coefs) (a:Sl w vh x.hidden) (b:Dy x.cols/\Dy x.rows/\Dy x.miss) (d:∀ k,Dy (GI x.coefs k)/\Dy (GI x.hidden k)) :
  Calls Tryz.prog 6 #[.agg #[.int .i64 x.cols,.int .i64 x.rows,vc,vh,.int .i64 x.miss]] w fun e w'=>∃ v,e=.returned (.agg #[.int .i64 x.c,v])/\EX w' v x.made/\Below w.heap.size w w' :=
 (Vi x vc vh w hc a b d).mono fun e w' ⟨B,cap,cs,fs,he,h1,h2,h3,h4,h5⟩=>by
  refine ⟨_,he,?_,h5.below⟩;exact h4.slE (h5.thaw (k:=2) h1 h2 h3 rfl) x.made_len.symm (fun p hp=>hp)
theorem IX {x:Int} (h:Dy x) (W:World):Calls Tryz.prog 41 #[.int .i64 x] W (DR W (.string (I x))) :=
 (T8 x h.1 h.2 W).mono fun e w' h=>by
  obtain ⟨⟨r,h1,h2⟩,hb⟩:=h;exact ⟨by rw [h1,h2],hb⟩
theorem TF {Q:Exit->Act->World->Prop} {us:List Value} {bN bV n:Nat} {v cv hv:Value} {xs:List Value} {d:ByteArray} {nc nr ms j:Int} {w W0:World} {L:Ei} {R:List En} {k:Int} {m:Int} {b:ByteArray} (hn:Hid (n<=1000000)) (mN:(bN,#[.int .i64 nc,.int .i64 nr,cv,hv,.int .i64 ms],24)∈L) (C19:EW w L R 27 #[hv,.int .i64 j] (.int .i64 k)) (C20:EW w L R 26 #[.int .i64 k,.int .i64 6] (.int .i64 m)) (C21:EW w L R 41 #[.int .i64 m] (.string b)) (h0:Hid (Dp w ((bV,#[v,.string d],30) :: L) (⟨9,1,v,n,xs⟩ :: R) W0)) (G:us.length=26) (I:us[1]? = some (.pointer (some ⟨bN,0,none⟩))) (B:us[3]? = some (.pointer (some ⟨bV,0,none⟩))) (H:us[4]? = some (.int .i64 j)) {ops:Array Oper} (A:Dt Tryz.f12.body 5=some ops)
  (t:∀ (x:Nat->Value) (G23:Nat) (cap23:Nat) (W':World),Hid (Dp w ((bV,#[.slice (some ⟨G23,0,none⟩) (n+1) cap23,.string d],30) :: L) (⟨9,1,.slice (some ⟨G23,0,none⟩) (n+1) cap23,n+1,xs++[.string b]⟩ :: R) W')->Q .normal { tmps:=(Eb [14,15,16,17,18,19,20,21,22,23,24] x us).toArray,defers:=[] } W') :
  (Code.region 5 ops true).wp Tryz.prog Q { tmps:=us.toArray,defers:=[] } W0:=by
 obtain rfl:=B4 (A.symm.trans (rfl:Dt Tryz.f12.body 5=some _))
 clear A
 replace t:=A8 t
 let Fl:Nat×Nat->FL:=fun g=>[some (14,.pointer (some ⟨bV,0,none⟩)),some (15,v),some (16,.pointer (some ⟨bN,3,none⟩)),some (17,hv),some (18,.int .i64 j),some (19,.int .i64 k),some (20,.int .i64 m),some (21,.string b),none,some (23,.slice (some ⟨g.1,0,none⟩) (n+1) g.2),some (24,.pointer (some ⟨bV,0,none⟩)),none]
 let Ml:Nat×Nat->ML:=fun g=>[(8,22,(fun yv W=>∃ (l:Nat),yv=.slice (some ⟨l,0,none⟩) 1 1/\Ds W l #[.string b] 9),some 9)]
 let Sl_:Nat×Nat->List (World->Prop):=fun g=>[fun W=>Dp w ((bV,#[v,.string d],30) :: L) (⟨9,1,v,n,xs⟩ :: R) W,fun W=>Dp w ((bV,#[v,.string d],30) :: L) (⟨9,1,.slice (some ⟨g.1,0,none⟩) (n+1) g.2,n+1,xs++[.string b]⟩ :: R) W,fun W=>Dp w ((bV,#[.slice (some ⟨g.1,0,none⟩) (n+1) g.2,.string d],30) :: L) (⟨9,1,.slice (some ⟨g.1,0,none⟩) (n+1) g.2,n+1,xs++[.string b]⟩ :: R) W]
 have St:Iu 26 [14,15,16,17,18,19,20,21,22,23,24] [8] Fl Ml (Dp w L R) Sl_:=⟨fun _=>by kernel_rfl,fun _=>rfl,fun _ _ hb h=>h.call hb,fun g=>C6.2 ⟨fun yv W W' hb=>fun ⟨g,e,h⟩=>⟨g,e,h.below hb⟩,(fun _ h=>by cases h)⟩,fun g=>C6.2 ⟨fun W W' hb h=>h.call hb,C6.2 ⟨fun W W' hb h=>h.call hb,C6.2 ⟨fun W W' hb h=>h.call hb,(fun _ h=>by cases h)⟩⟩⟩⟩
 refine FM St us [9,11] ⟨0,0⟩ G h0.out.tail.rtail.drew h0.out.drew ?_ ?_
 refine sV St ?_ (fun z=>z.u B)
 refine Dk (stV St 1 rfl rfl rfl (fun _=>rfl) fun g T E W hl hw hs z K J=>by
  have C:=z.x 0 hw rfl;have S:W.cell? ⟨bV,0,none⟩=some (v:Value):=z.ld 1 0 0 hl hw hs rfl Ab (fun s=>Dp.cell (s) _ _ _ Ah 0);go_simp;exact J) ?_
 refine sV St ?_ (fun z=>z.u I)
 refine sV St ?_ (fun z=>z.x 2 rfl) (fun z=>(z.c.cell _ _ _ mN 3).trans (show _=some (hv:Value) from rfl))
 refine sV St ?_ (fun z=>z.u H)
 refine sC St ?_ (fun z=>C19 _ z.c) (fun z=>z.x 3 rfl) (fun z=>z.x 4 rfl)
 refine sC St ?_ (fun z=>C20 _ z.c) (fun z=>z.x 5 rfl)
 refine sC St ?_ (fun z=>C21 _ z.c) (fun z=>z.x 6 rfl)
 refine Dk (stM St 8 0 rfl rfl (.inl rfl) (fun _=>rfl) (fun _=>by kernel_rfl) fun g T E W hl hw hs z K J=>by
  have D:=z.x 7 hw rfl;go_simp;exact J _ _ ((Below.refl _ _).alloc (Aa _) _) ⟨_,rfl,Ds.new _ _ _⟩) ?_
 refine Dk (stF St 9 0 rfl (.inl rfl) rfl rfl Ab (fun _=>by kernel_rfl) fun g T E W hl hw hs z q K J=>by
  have O:=z.x 1 hw rfl;obtain ⟨_,N,l,rfl,r⟩:=z.y 0 hl hw hs rfl;have i:Dp _ _ _ _:=q;refine Jd rfl i (by go_simp) (by go_simp) (r.cell 0) hn.out ?_;intro G23' cap23' P o;exact J ⟨G23',cap23'⟩ _ _ rfl Ab (o.tail.rtail) o) ?_
 refine sV St ?_ (fun z=>z.u B)
 refine Dk (stE 11 1 (.inl rfl) rfl rfl (fun _=>rfl) Ab (fun _=>by kernel_rfl) fun g T E W hl hw hs z q K J=>by
  have F:=z.x 9 hw rfl;have M:=z.x 10 hw rfl;have i:Dp _ _ _ _:=q;have y0:=i.cell _ _ _ Ah 0;have w0:=i.frozen _ _ _ Ah 0;go_simp;exact J _ ((i.put0 0 _).tail.rtail) (i.put0 0 _)) ?_
 ·exact Du
 ·intro g a W z q
  have p:Dp _ _ _ _:=q;rw [z.f.eqs];exact t.out _ g.1 g.2  _  (A8 p)
theorem TG {Q:Exit->Act->World->Prop} {us:List Value} {bV n:Nat} {v hv:Value} {xs:List Value} {d:ByteArray} {j:Int} {w W0:World} {L:Ei} {R:List En} {l:Int} {k:Int} {b:ByteArray} (hn:Hid (n<=1000000))  (C23:EW w L R 27 #[hv,.int .i64 j] (.int .i64 l)) (C24:EW w L R 26 #[.int .i64 l,.int .i64 50] (.int .i64 k)) (C25:EW w L R 41 #[.int .i64 k] (.string b)) (h0:Hid (Dp w ((bV,#[v,.string d],30) :: L) (⟨9,1,v,n,xs⟩ :: R) W0)) (D:us.length=30) (C:us[1]? = some (hv)) (B:us[7]? = some (.pointer (some ⟨bV,0,none⟩))) (I:us[8]? = some (.int .i64 j)) {ops:Array Oper} (A:Dt Tryz.f13.body 5=some ops)
  (t:∀ (x:Nat->Value) (G27:Nat) (cap27:Nat) (W':World),Hid (Dp w ((bV,#[.slice (some ⟨G27,0,none⟩) (n+1) cap27,.string d],30) :: L) (⟨9,1,.slice (some ⟨G27,0,none⟩) (n+1) cap27,n+1,xs++[.string b]⟩ :: R) W')->Q .normal { tmps:=(Eb [19,20,21,22,23,24,25,26,27,28] x us).toArray,defers:=[] } W') :
  (Code.region 5 ops true).wp Tryz.prog Q { tmps:=us.toArray,defers:=[] } W0:=by
 obtain rfl:=B4 (A.symm.trans (rfl:Dt Tryz.f13.body 5=some _))
 clear A
 replace t:=A8 t
 let Fl:Nat×Nat->FL:=fun g=>[some (19,.pointer (some ⟨bV,0,none⟩)),some (20,v),some (21,hv),some (22,.int .i64 j),some (23,.int .i64 l),some (24,.int .i64 k),some (25,.string b),none,some (27,.slice (some ⟨g.1,0,none⟩) (n+1) g.2),some (28,.pointer (some ⟨bV,0,none⟩)),none]
 let Ml:Nat×Nat->ML:=fun g=>[(7,26,(fun yv W=>∃ (m:Nat),yv=.slice (some ⟨m,0,none⟩) 1 1/\Ds W m #[.string b] 9),some 8)]
 let Sl_:Nat×Nat->List (World->Prop):=fun g=>[fun W=>Dp w ((bV,#[v,.string d],30) :: L) (⟨9,1,v,n,xs⟩ :: R) W,fun W=>Dp w ((bV,#[v,.string d],30) :: L) (⟨9,1,.slice (some ⟨g.1,0,none⟩) (n+1) g.2,n+1,xs++[.string b]⟩ :: R) W,fun W=>Dp w ((bV,#[.slice (some ⟨g.1,0,none⟩) (n+1) g.2,.string d],30) :: L) (⟨9,1,.slice (some ⟨g.1,0,none⟩) (n+1) g.2,n+1,xs++[.string b]⟩ :: R) W]
 have St:Iu 30 [19,20,21,22,23,24,25,26,27,28] [7] Fl Ml (Dp w L R) Sl_:=⟨fun _=>by kernel_rfl,fun _=>rfl,fun _ _ hb h=>h.call hb,fun g=>C6.2 ⟨fun yv W W' hb=>fun ⟨g,e,h⟩=>⟨g,e,h.below hb⟩,(fun _ h=>by cases h)⟩,fun g=>C6.2 ⟨fun W W' hb h=>h.call hb,C6.2 ⟨fun W W' hb h=>h.call hb,C6.2 ⟨fun W W' hb h=>h.call hb,(fun _ h=>by cases h)⟩⟩⟩⟩
 refine FM St us [8,10] ⟨0,0⟩ D h0.out.tail.rtail.drew h0.out.drew ?_ ?_
 refine sV St ?_ (fun z=>z.u B)
 refine Dk (stV St 1 rfl rfl rfl (fun _=>rfl) fun g T E W hl hw hs z K J=>by
  have N:=z.x 0 hw rfl;have S:W.cell? ⟨bV,0,none⟩=some (v:Value):=z.ld 1 0 0 hl hw hs rfl Ab (fun s=>Dp.cell (s) _ _ _ Ah 0);go_simp;exact J) ?_
 refine sV St ?_ (fun z=>z.u C)
 refine sV St ?_ (fun z=>z.u I)
 refine sC St ?_ (fun z=>C23 _ z.c) (fun z=>z.x 2 rfl) (fun z=>z.x 3 rfl)
 refine sC St ?_ (fun z=>C24 _ z.c) (fun z=>z.x 4 rfl)
 refine sC St ?_ (fun z=>C25 _ z.c) (fun z=>z.x 5 rfl)
 refine Dk (stM St 7 0 rfl rfl (.inl rfl) (fun _=>rfl) (fun _=>by kernel_rfl) fun g T E W hl hw hs z K J=>by
  have F:=z.x 6 hw rfl;go_simp;exact J _ _ ((Below.refl _ _).alloc (Aa _) _) ⟨_,rfl,Ds.new _ _ _⟩) ?_
 refine Dk (stF St 8 0 rfl (.inl rfl) rfl rfl Ab (fun _=>by kernel_rfl) fun g T E W hl hw hs z q K J=>by
  have M:=z.x 1 hw rfl;obtain ⟨_,H,m,rfl,r⟩:=z.y 0 hl hw hs rfl;have i:Dp _ _ _ _:=q;refine Jd rfl i (by go_simp) (by go_simp) (r.cell 0) hn.out ?_;intro G27' cap27' P o;exact J ⟨G27',cap27'⟩ _ _ rfl Ab (o.tail.rtail) o) ?_
 refine sV St ?_ (fun z=>z.u B)
 refine Dk (stE 10 1 (.inl rfl) rfl rfl (fun _=>rfl) Ab (fun _=>by kernel_rfl) fun g T E W hl hw hs z q K J=>by
  have O:=z.x 8 hw rfl;have G:=z.x 9 hw rfl;have i:Dp _ _ _ _:=q;have y0:=i.cell _ _ _ Ah 0;have w0:=i.frozen _ _ _ Ah 0;go_simp;exact J _ ((i.put0 0 _).tail.rtail) (i.put0 0 _)) ?_
 ·exact Du
 ·intro g a W z q
  have p:Dp _ _ _ _:=q;rw [z.f.eqs];exact t.out _ g.1 g.2  _  (A8 p)
theorem Rk (x:E6) (vc vh:Value) (w:World) (hc:Sl w vc x.coefs) (u:Sl w vh x.hidden) (B:Dy x.cols) (P:∀ k,Dy (GI x.hidden k)) :
  Calls Tryz.prog 12 #[.agg #[.int .i64 x.cols,.int .i64 x.rows,vc,vh,.int .i64 x.miss]] w fun e w'=>∃ v,e=.returned (.agg #[v,.string ⟨#[49]⟩])/\DS w' v x.hidN/\Below w.heap.size w w':=by
 obtain ⟨ac,cc,rfl⟩:=hc.shape
 obtain ⟨ah,ch,rfl⟩:=u.shape
 have z:=A8 u
 have AH:=A8 (fun W (q:Below w.heap.size w W) (k:Nat)=>K9 (.slice ah x.hidden.length ch) x.hidden k W (z.out.below q))
 have PH:=A8 (fun W (k:Nat)=>by have:=Ed (GI x.hidden k) 6 (P k) Ae Ae W;exact (this:Calls Tryz.prog 26 #[.int .i64 (GI x.hidden k),.int .i64 6] W (DR W (.int .i64 (x.hid k)))))
 have FH:=A8 (fun W (k:Nat)=>IX (x:=x.hid k) (by have:=x.hid_bd k;unfold Dy;omega) W)
 have N:=A8 (fun W=>Ed x.cols 8 B Ae Ae W)
 have g:=x.c_eq
 obtain ⟨c,f⟩:∃ c,c=x.c:=⟨_,rfl⟩
 rw [<-f] at g
 have J:IntKind.i64.wrap (1+Ge x.cols 8)=(c:Int):=by rw [<-g.1];exact BT _ Ad
 have O:c<=8:=g.2.2
 have i:Hid (∀ W v,Dp w [(w.heap.size+1+1,#[v,.string ⟨#[49]⟩],30),(w.heap.size+1,#[.slice none 0 0,.string ⟨#[]⟩],30),(w.heap.size,#[.int .i64 x.cols,.int .i64 x.rows,.slice ac x.coefs.length cc,.slice ah x.hidden.length ch,.int .i64 x.miss],24)] [⟨9,1,v,c,((List.range c).map fun k=>Value.string (I (x.hid k)))⟩] W->∀ W',W'=(W.setCell ⟨w.heap.size+1,0,none⟩ v).setCell ⟨w.heap.size+1,1,none⟩ (.string ⟨#[49]⟩)->DS W' v x.hidN/\Below w.heap.size w W'):=A8 (fun W v h W' e=>by
  have h1:=(Dp.out2 (h.perm (List.Perm.swap _ _ _)) v (.string ⟨#[49]⟩));rw [<-e] at h1;refine ⟨DS.of_own (n:=c) (l:=x.hidN) (e:=9) (base:=w.heap.size) ?_,h1.below⟩;have h2:=h1.own0;unfold E6.hidN;rw [List.map_map,<-f];exact h2)
 replace f:=A8 f
 generalize Ge x.cols 8=p1 at *
 clear hc u B g
 generalize x.coefs.length=nc at *
 generalize x.hidden.length=nh at *
 obtain ⟨Q,E,D,s1⟩:=(Dp.start w).add' #[.int .i64 x.cols,.int .i64 x.rows,.slice ac nc cc,.slice ah nh ch,.int .i64 x.miss] 24
 obtain ⟨S,A,C,F⟩:=D.add' #[.slice none 0 0,.string ⟨#[]⟩] 30
 obtain ⟨V,t,y,H⟩:=C.add' #[.slice none 0 0,.string ⟨#[49]⟩] 30
 rw [F,s1] at y
 rw [A,E] at t
 have b:=A8 (y.row0 9 1)
 clear E A D s1 C F y H z
 go_enter Tryz.func12,Tryz.ntmps12
 go_upto_region 2 with fail
 rw [<-t]
 clear t
 go_wp2_with fail
 go_loopw [4] (fun s wr=>∃ (j:Nat) (v:Value),s=.int .i64 j/\j<=c/\Hid (Dp w [(w.heap.size+1+1,#[v,.string ⟨#[49]⟩],30),(w.heap.size+1,#[.slice none 0 0,.string ⟨#[]⟩],30),(w.heap.size,#[.int .i64 x.cols,.int .i64 x.rows,.slice ac nc cc,.slice ah nh ch,.int .i64 x.miss],24)] [⟨9,1,v,j,((List.range j).map fun k=>Value.string (I (x.hid k)))⟩] wr)) (fun s _=>c-(intOf s).toNat)
 case atStart=>exact ⟨0,.slice none 0 0,rfl,Ad,b⟩
 case round =>
  clear b;obtain ⟨j,v,rfl,hj,b⟩:=hrel;have z0:=b.out.cell w.heap.size _ _ Aj 0;go_wp2_with fail;refine Calls.mono (N.out _) ?_;rintro e X ⟨rfl,hb⟩;replace b:=A8 (b.out.call hb);clear z0 hb;by_cases K:j<c;case neg =>
   have m:¬ (j:Int)<c:=by omega
   obtain rfl:j=c:=by omega
   have d:=A8 (i.out _ _ b.out _ rfl);have z0:=(b.out.cell _ _ _ Ah 0).trans (show _=some v from rfl);have z1:=(b.out.cell _ _ _ Ah 1).trans (show _=some (Value.string ⟨#[49]⟩) from rfl);obtain ⟨T,k1,f0,Y,y0,M⟩:=Gj (b.out.blks _ Ai) v (.string ⟨#[49]⟩);obtain ⟨a,cp,r⟩:=d.out.1.shape;generalize x.hidN.length=nm at *
   subst r;clear b i;go_wp2;exact bodyPost_ret (v:=.agg #[.slice a nm cp,.string ⟨#[49]⟩]) (by simp [results,Tryz.results12,go_sem,y0,M]) rfl ⟨_,rfl,d.out.1,d.out.2⟩
  case pos =>
   have m:(j:Int)<c:=by omega
   go_upto_region 5 with fail;refine TF (bN:=w.heap.size) (bV:=w.heap.size+1+1) (n:=j) (j:=j) (w:=w) (L:=[(w.heap.size+1,#[.slice none 0 0,.string ⟨#[]⟩],30),(w.heap.size,#[.int .i64 x.cols,.int .i64 x.rows,.slice ac nc cc,.slice ah nh ch,.int .i64 x.miss],24)]) (R:=[]) (A8 Ad) Ai (A8 fun W q=>AH.out W q.below j) (A8 fun W q=>PH.out W j) (A8 fun W q=>FH.out W j) b rfl rfl rfl rfl Ab ?_;intro xx G cap U p;simp only [Eb,Ce,Cg,A5,A6];clear b;have o:((List.range (j+1)).map fun k=>Value.string (I (x.hid k)))=((List.range j).map fun k=>Value.string (I (x.hid k)))++[.string (I (x.hid j))]:=by rw [AZ,Bg];rfl
   rw [<-o] at p;clear o;go_wp2_with fail;go_roundw;case rel=>exact ⟨j+1,_,by go_num,Ad,p⟩
   case measure=>simp [intOf];omega
theorem gi_in {l:List Int} {k:Nat} (h:k<l.length):gi l k∈l:=by rw [FE h];exact AN h
theorem IY (cols:Int) (v:Value) (rows:List (List Int×Int)) (w:World) (h:EX w v rows) :
  Calls Tryz.prog 11 #[.agg #[.int .i64 cols,v]] w (DR w (.bool (Ea cols rows))):=by
 have F:rows.length<=maxLen:=h.len_le
 unfold maxLen at F
 have IN:=A8 (fun W=>Gz cols 0 64 W)
 obtain ⟨V,A,f,z1⟩:=(BL.start w).add' #[.int .i64 cols,v] 27
 clear z1
 obtain ⟨a,cap,rfl⟩:=h.shape
 unfold Ea
 cases s:(decide (0<=cols)&&decide (cols<=64))
 ·rw [s] at IN
  clear s h;generalize rows.length=n at *
  obtain ⟨x0,x1⟩:=f.c2 w.heap.size _ _ _ Ah;go_enter Tryz.func11,Tryz.ntmps11;go_upto_region 1 with fail;rw [<-A];clear A;go_wp2_with fail;refine Calls.mono (IN.out _) ?_;rintro e w1 ⟨rfl,hb⟩;replace f:=f.call hb;clear x0 x1 hb;obtain ⟨x0,x1⟩:=f.c2 w.heap.size _ _ _ Ah;go_wp2;go_ret;exact ⟨Dm Af,f.below⟩
 by_cases hn:rows.length<=18
 case neg =>
  rw [s] at IN;clear s h;rw [Al hn];have P:(18:Int)<(rows.length:Int):=by omega
  generalize rows.length=n at *
  obtain ⟨x0,x1⟩:=f.c2 w.heap.size _ _ _ Ah;go_enter Tryz.func11,Tryz.ntmps11;go_upto_region 1 with fail;rw [<-A];clear A;go_wp2_with fail;refine Calls.mono (IN.out _) ?_;rintro e w1 ⟨rfl,hb⟩;replace f:=f.call hb;clear x0 x1 hb;obtain ⟨x0,x1⟩:=f.c2 w.heap.size _ _ _ Ah;go_wp2;go_ret;exact ⟨Dm Af,f.below⟩
 case pos =>
  rw [s] at IN;clear s;rw [AF hn];have P:¬ (18:Int)<(rows.length:Int):=by omega
  have d:Hid (∀ (b:Bool) k,(k<rows.length/\Hn cols (Dl rows k)=true/\b=false)∨(b=true/\∀ j,j<rows.length->Hn cols (Dl rows j)=false)->(true&&true&&!(rows.any (Hn cols)))=b):=A8 (fun b k h=>by
   rcases h with ⟨h1,h2,rfl⟩ | ⟨rfl,h1⟩
   ·rw [List.any_eq_true.2 ⟨_,Ga h1,h2⟩];rfl
   ·rw [As.2 (fun x hx=>by
     obtain ⟨j,hj,e⟩:=AW.1 hx;have:=h1 j hj;unfold Dl at this;rw [Ax hj] at this;rw [<-e];exact (by simpa using this))];rfl)
  have H:=A8 h;clear h;generalize (true&&true&&!(rows.any (Hn cols)))=bb at *
  obtain ⟨n,y⟩:∃ n,n=rows.length:=⟨_,rfl⟩;rw [<-y] at H d hn P F f A |-;replace y:=A8 y;replace d:=A8 (show ∀ (b:Bool) k,(k<n/\Hn cols (Dl rows k)=true)/\b=false∨(b=true/\∀ j,j<n->Hn cols (Dl rows j)=false)->bb=b from fun b k h=>d.out b k (h.imp (fun h=>⟨h.1.1,h.1.2,h.2⟩) id));obtain ⟨x0,x1⟩:=f.c2 w.heap.size _ _ _ Ah;go_enter Tryz.func11,Tryz.ntmps11;go_upto_region 1 with fail;rw [<-A];clear A;go_wp2_with fail;refine Calls.mono (IN.out _) ?_;rintro e w1 ⟨rfl,hb⟩;replace f:=f.call hb;clear x0 x1 hb;obtain ⟨x0,x1⟩:=f.c2 w.heap.size _ _ _ Ah;go_wp2_with fail;clear x0 x1;go_loopw [3] (fun o wr=>∃ k:Nat,o=.int .i64 k/\k<=n/\Hid (∀ j,j<k->Hn cols (Dl rows j)=false)/\BL w [(w.heap.size,#[.int .i64 cols,.slice a n cap],27)] wr) (fun o _=>n-(intOf o).toNat);case atStart=>exact ⟨0,rfl,Ad,A8 (fun j hj=>absurd hj Ad),f⟩
  case round =>
   clear f;obtain ⟨i,rfl,hi,E,f⟩:=hrel;obtain ⟨x0,x1⟩:=f.c2 w.heap.size _ _ _ Ah;by_cases C:i<n;case neg =>
    have D:¬ (i:Int)<n:=by omega
    obtain rfl:i=n:=by omega
    have hp:=A8 (d.out true 0 (.inr ⟨rfl,E.out⟩));go_wp2;go_ret;exact ⟨Dm hp.out.symm,f.below⟩
   case pos =>
    have D:(i:Int)<n:=by omega
    have hi0:(0:Int)<=i:=by omega
    obtain ⟨b,off,cv,ea,Q,c0,hcs,c1⟩:∃ b off cv,a=some ⟨b,off,none⟩/\b<w.heap.size/\w.cell? ⟨b,off+i*2,none⟩=some cv/\IE w cv (Dl rows i).1/\w.cell? ⟨b,off+i*2+1,none⟩=some (.int .i64 (Dl rows i).2):=by
     rcases H.out with ⟨e,S⟩ | ⟨b,off,cap',e,h1,h2,h3,T⟩
     ·have:=y.out;rw [S] at this;simp at this;omega
     ·cases e
      obtain ⟨cv,c0,hcs,c1⟩:=T i _ (Fe (by rw [<-y.out];exact C));exact ⟨b,off,cv,rfl,h3,c0,hcs,c1⟩
    subst ea;have g:Hn cols (Dl rows i)=(!(((Dl rows i).1.length:Int)==cols) || (Dl rows i).1.any Gg || !(decide (-1000000000<=(Dl rows i).2)&&decide ((Dl rows i).2<=1000000000))):=rfl;have O:(Dl rows i).1.length<=maxLen:=hcs.len_le;unfold maxLen at O;have IV:=A8 (fun W=>Gz (Dl rows i).2 (-1000000000) 1000000000 W);obtain ⟨ac,cp,rfl⟩:=hcs.shape;generalize Z:(Dl rows i).1=l at *
    generalize R:(Dl rows i).2=z at *
    clear Z R;replace c0:=(f.below.cell (p:=⟨_,_,none⟩) Q).trans c0;replace c1:=(f.below.cell (p:=⟨_,_,none⟩) Q).trans c1;have HC:=A8 hcs;clear hcs;obtain ⟨m,G⟩:∃ m,m=l.length:=⟨_,rfl⟩;rw [<-G] at HC c0 O g;replace G:=A8 G;obtain ⟨V,A,q,z1⟩:=f.add' #[.slice ac m cp,.int .i64 z] 57;obtain ⟨B,Y⟩:∃ B,B=wr.heap.size:=⟨_,rfl⟩;rw [<-Y] at q;clear z1;obtain ⟨y0,y1⟩:=q.c2 B _ _ _ Ah;obtain ⟨x2,x3⟩:=q.c2 w.heap.size _ _ _ Ai;go_upto_region 7 with fail;rw [<-A,<-Y];clear A x0 x1 c0 c1 f Y;by_cases r:(m:Int)=cols;case neg =>
     have J:((m:Int) != cols)=true:=by simp [r]
     have c:Hn cols (Dl rows i)=true:=by rw [g,Am.2 r];rfl
     clear g;replace c:=A8 (d.out false i (.inl ⟨⟨C,c⟩,rfl⟩));go_wp2;go_ret;exact ⟨Dm c.out.symm,q.below⟩
    case pos =>
     have J:((m:Int) != cols)=false:=by simp [r]
     rw [C4.2 r] at g;cases hv:(decide (-1000000000<=z)&&decide (z<=1000000000))
     ·rw [hv] at IV g
      have c:Hn cols (Dl rows i)=true:=by rw [g];simp
      clear g hv;replace c:=A8 (d.out false i (.inl ⟨⟨C,c⟩,rfl⟩));replace r:=A8 r;go_wp2_with fail;refine Calls.mono (IV.out _) ?_;rintro e U ⟨rfl,hb⟩;replace q:=q.call hb;go_wp2;go_ret;exact ⟨Dm c.out.symm,q.below⟩
     ·rw [hv] at IV g
      clear hv;replace g:=A8 g;replace r:=A8 r;go_wp2_with fail;refine Calls.mono (IV.out _) ?_;rintro e U ⟨rfl,hb⟩;replace q:=q.call hb;clear x2 x3 y0 y1 hb;go_wp2_with fail;go_loopw [5] (fun o wq=>∃ k:Nat,o=.int .i64 k/\k<=m/\Hid (∀ j,j<k->Gg (gi l j)=false)/\BL w [(B,#[.slice ac m cp,.int .i64 z],57),(w.heap.size,#[.int .i64 cols,.slice (some ⟨b,off,none⟩) n cap],27)] wq) (fun o _=>m-(intOf o).toNat);case atStart=>exact ⟨0,rfl,Ad,A8 (fun j hj=>absurd hj Ad),q⟩
      case round =>
       clear q;obtain ⟨k,rfl,hk,L,q⟩:=hrel;obtain ⟨y0,y1⟩:=q.c2 B _ _ _ Ah;by_cases N:k<m;case neg =>
        have D:¬ (k:Int)<m:=by omega
        obtain rfl:k=m:=by omega
        have t:Hn cols (Dl rows i)=false:=by
         rw [g.out,As.2 (fun x hx=>by
          obtain ⟨j,hj,e⟩:=AW.1 hx;have:=L.out j (by rw [G.out];exact hj);rw [FE hj] at this;rw [<-e];exact (by simpa using this))];rfl
        have I:=A8 (show ∀ j,j<i+1->Hn cols (Dl rows j)=false from fun j hj=>by
         by_cases e:j=i
         ·subst e;exact t
         ·exact E.out j Ad)
        clear t;have f:=q.drop (M:=[(w.heap.size,#[.int .i64 cols,.slice (some ⟨b,off,none⟩) n cap],27)]) (fun p hp=>.tail _ hp);go_wp2_with fail;go_roundw;case rel=>exact ⟨i+1,by go_num,Ad,I,f⟩
        case measure=>simp [intOf];omega
       case pos =>
        have hkl:(k:Int)<m:=by omega
        have hk0:(0:Int)<=k:=by omega
        obtain ⟨bc,oc,ec,hbc,xc⟩:∃ b off,ac=some ⟨b,off,none⟩/\b<w.heap.size/\w.cell? ⟨b,off+k,none⟩=some (.int .i64 (gi l k)):=by
         rcases HC.out with ⟨e,S⟩ | ⟨b,off,cap',e,h1,h2,h3,T⟩
         ·have:=G.out;rw [S] at this;simp at this;omega
         ·cases e
          exact ⟨b,off,rfl,h3,T k (by rw [<-G.out];exact N)⟩
        subst ec;replace xc:=(q.below.cell (p:=⟨_,_,none⟩) hbc).trans xc;have IC:=A8 (fun W=>Gz (gi l k) (-30000) 30000 W);have u:Gg (gi l k)=!(decide (-30000<=gi l k)&&decide (gi l k<=30000)):=rfl;generalize X:(decide (-30000<=gi l k)&&decide (gi l k<=30000))=cc at IC u;clear X;cases cc
        ·have c:Hn cols (Dl rows i)=true:=by
          rw [g.out,List.any_eq_true.2 ⟨gi l k,gi_in (by rw [<-G.out];exact N),u⟩];rfl
         replace c:=A8 (d.out false i (.inl ⟨⟨C,c⟩,rfl⟩))
         clear u
         generalize gi l k=x at *
         go_wp2_with fail
         refine Calls.mono (IC.out _) ?_
         rintro e U ⟨rfl,hb⟩
         replace q:=q.call hb
         go_wp2
         go_ret
         exact ⟨Dm c.out.symm,q.below⟩
        ·have K:=A8 (show ∀ j,j<k+1->Gg (gi l j)=false from fun j hj=>by
          by_cases e:j=k
          ·subst e;exact u
          ·exact L.out j Ad)
         clear u
         generalize gi l k=x at *
         go_wp2_with fail
         refine Calls.mono (IC.out _) ?_
         rintro e U ⟨rfl,hb⟩
         replace q:=q.call hb
         go_wp2_with fail
         go_roundw
         case rel=>exact ⟨k+1,by go_num,Ad,K,q⟩
         case measure=>simp [intOf];omega
theorem long {s:ByteArray} (h:s.size<=201):s.size<=9223372036854775807:=Bc h Ae
theorem Mm {a b:ByteArray} (ha:DK a=true) (hb:DK b=true) (hp:Do (zS a*zS b)) (W:World):Calls Tryz.prog 51 #[.string a,.string b] W (DR W (.tuple #[.string (I (zS a*zS b)),.int .i64 0])):=by
 have:=Pu a b (long (EG ha)) (long (EG hb)) W;rw [ha,hb,AX,F6 hp] at this;exact this.mono fun e w' h=>by
  obtain ⟨⟨r,h1,h2⟩,hb⟩:=h;exact ⟨by rw [h1,h2],hb⟩
theorem Vk {a b:ByteArray} (ha:DK a=true) (hb:DK b=true) (hp:Do (zS a+zS b)) (W:World):Calls Tryz.prog 58 #[.string a,.string b] W (DR W (.tuple #[.string (I (zS a+zS b)),.int .i64 0])):=by
 have:=Pr a b (long (EG ha)) (long (EG hb)) W;rw [ha,hb,AX,F6 hp] at this;exact this.mono fun e w' h=>by
  obtain ⟨⟨r,h1,h2⟩,hb⟩:=h;exact ⟨by rw [h1,h2],hb⟩
theorem Je:(⟨#[48]⟩:ByteArray)=I 0:=by unfold I;rw [DP Ae,DT Ae];rfl
theorem Ro {a:ByteArray} (ha:DK a=true) (W:World):Calls Tryz.prog 67 #[.string a,.string ⟨#[48]⟩] W (DR W (.int .i64 (Lib.compareInt (zS a) 0))):=by
 have:=rcmp_ok a ⟨#[48]⟩ ha (by rw [Je];exact Eh Ae) (long (EG ha)) Ae W;have e:zS ⟨#[48]⟩=0:=by rw [Je,Ee]
 rwa [e] at this
theorem cmpz_le (x:Int):Lib.compareInt x 0<=0↔¬ 0<x:=by unfold Lib.compareInt;split <;> (try split) <;> omega
theorem Sj (x:Int):Lib.compareInt x 0<0↔x<0:=by unfold Lib.compareInt;split <;> (try split) <;> omega
theorem KM {a b:ByteArray} (ha:DK a=true) (hb:DK b=true) (hp:Do (zS a+zS b)) (w:World):Calls Tryz.prog 49 #[.string a,.string b] w (DR w (.string (I (zS a+zS b)))):=by
 have AD:=A8 (fun W=>Vk ha hb hp W);generalize I (zS a+zS b)=r at *
 go_enter Tryz.func49,Tryz.ntmps49;go_wp2_with fail;refine Calls.mono (AD.out _) ?_;rintro e c ⟨rfl,hb⟩;go_wp2;go_ret;exact ⟨rfl,hb⟩
theorem Iz {a:ByteArray} {x:Int} (ha:DK a=true) (hx:Dy x) (hp:Do (zS a*x)) (w:World):Calls Tryz.prog 50 #[.string a,.int .i64 x] w (DR w (.string (I (zS a*x)))):=by
 have FR:=A8 (fun W=>IX hx W);have c:Do x:=(show Bd 20 x by unfold Dy at hx;unfold Bd;omega).small Ae;have MU:=A8 (fun W=>Mm (b:=I x) ha (Eh c) (by rw [Ee];exact hp) W);rw [Ee] at MU;generalize I x=b at *
 generalize I (zS a*x)=r at *
 go_enter Tryz.func50,Tryz.ntmps50;go_wp2_with fail;refine Calls.mono (FR.out _) ?_;rintro e f ⟨rfl,hb⟩;go_wp2_with fail;refine Calls.mono (MU.out _) ?_;rintro e g ⟨rfl,d⟩;go_wp2;go_ret;exact ⟨rfl,hb.trans (d.mono hb.size)⟩
theorem EJ (v:Value) (l:List ByteArray) (den:ByteArray) (w:World) (h:DS w v l) (hd:den.size<=201) (hs:∀ s∈l,s.size<=201) :
  Calls Tryz.prog 48 #[.agg #[v,.string den]] w (DR w (.bool (DX l den))):=by
 have y:l.length<=maxLen:=h.len_le
 unfold maxLen at y
 have ND:=A8 (fun W=>IP den (long hd) W)
 replace hs:=A8 hs
 obtain ⟨V,u,d,z1⟩:=(BL.start w).add' #[v,.string den] 30
 clear z1
 obtain ⟨a,cap,rfl⟩:=h.shape
 unfold DX
 by_cases hn:l.length<=64
 case neg =>
  clear h;rw [Al hn];have D:(64:Int)<(l.length:Int):=by omega
  generalize l.length=n at *
  obtain ⟨x0,x1⟩:=d.c2 w.heap.size _ _ _ Ah;go_enter Tryz.func48,Tryz.ntmps48;go_upto_region 1 with fail;rw [<-u];clear u;go_wp2;go_ret;exact ⟨Dm Af,d.below⟩
 case pos =>
  rw [AF hn];have D:¬ (64:Int)<(l.length:Int):=by omega
  cases hk:numB den
  ·rw [hk] at ND
   clear hk h;generalize l.length=n at *
   obtain ⟨x0,x1⟩:=d.c2 w.heap.size _ _ _ Ah;go_enter Tryz.func48,Tryz.ntmps48;go_upto_region 1 with fail;rw [<-u];clear u;go_wp2_with fail;refine Calls.mono (ND.out _) ?_;rintro e I ⟨rfl,hb⟩;replace d:=d.call hb;clear x0 x1 hb;obtain ⟨x0,x1⟩:=d.c2 w.heap.size _ _ _ Ah;go_wp2;go_ret;exact ⟨Dm Af,d.below⟩
  ·rw [hk] at ND
   have CP:=A8 (fun W=>Ro (by unfold numB at hk;rw [Ap] at hk;exact hk.1:DK den=true) W);clear hk;have hc:=cmpz_le (zS den);generalize Lib.compareInt (zS den) 0=c at *
   by_cases q:0<zS den;case neg =>
    have F:c<=0:=hc.2 q;rw [Al q];clear hc q h;generalize l.length=n at *
    obtain ⟨x0,x1⟩:=d.c2 w.heap.size _ _ _ Ah;go_enter Tryz.func48,Tryz.ntmps48;go_upto_region 1 with fail;rw [<-u];clear u;go_wp2_with fail;refine Calls.mono (ND.out _) ?_;rintro e I ⟨rfl,hb⟩;replace d:=d.call hb;clear x0 x1 hb;obtain ⟨x0,x1⟩:=d.c2 w.heap.size _ _ _ Ah;go_wp2_with fail;refine Calls.mono (CP.out _) ?_;rintro e M ⟨rfl,hb⟩;replace d:=d.call hb;clear x0 x1 hb;obtain ⟨x0,x1⟩:=d.c2 w.heap.size _ _ _ Ah;go_wp2;go_ret;exact ⟨Dm Af,d.below⟩
   case pos =>
    have F:¬ c<=0:=fun e=>hc.1 e q
    rw [AF q];clear hc q;have g:Hid (∀ (b:Bool) k,((k<l.length/\GN (DH l k)=true)/\b=false)∨(b=true/\∀ j,j<l.length->GN (DH l j)=false)->(true&&!(l.any GN)&&(true&&true))=b):=A8 (fun b k h=>by
     rcases h with ⟨⟨h1,h2⟩,rfl⟩ | ⟨rfl,h1⟩
     ·rw [List.any_eq_true.2 ⟨_,Ja h1,h2⟩];rfl
     ·rw [As.2 (fun x hx=>by
       obtain ⟨j,hj,e⟩:=AW.1 hx;have:=h1 j hj;unfold DH at this;rw [Ax hj] at this;rw [<-e];exact (by simpa using this))];rfl)
    have H:=A8 h;clear h;generalize (true&&!(l.any GN)&&(true&&true))=bb at *
    obtain ⟨n,m⟩:∃ n,n=l.length:=⟨_,rfl⟩;rw [<-m] at H g hn D y d u |-;replace m:=A8 m;obtain ⟨x0,x1⟩:=d.c2 w.heap.size _ _ _ Ah;go_enter Tryz.func48,Tryz.ntmps48;go_upto_region 1 with fail;rw [<-u];clear u;go_wp2_with fail;refine Calls.mono (ND.out _) ?_;rintro e I ⟨rfl,hb⟩;replace d:=d.call hb;clear x0 x1 hb;obtain ⟨x0,x1⟩:=d.c2 w.heap.size _ _ _ Ah;go_wp2_with fail;refine Calls.mono (CP.out _) ?_;rintro e M ⟨rfl,hb⟩;replace d:=d.call hb;clear x0 x1 hb;obtain ⟨x0,x1⟩:=d.c2 w.heap.size _ _ _ Ah;go_wp2_with fail;clear x0 x1;go_loopw [3] (fun o wr=>∃ k:Nat,o=.int .i64 k/\k<=n/\Hid (∀ j,j<k->GN (DH l j)=false)/\BL w [(w.heap.size,#[.slice a n cap,.string den],30)] wr) (fun o _=>n-(intOf o).toNat);case atStart=>exact ⟨0,rfl,Ad,A8 (fun j hj=>absurd hj Ad),d⟩
    case round =>
     clear d;obtain ⟨i,rfl,O,z,d⟩:=hrel;obtain ⟨x0,x1⟩:=d.c2 w.heap.size _ _ _ Ah;by_cases t:i<n;case neg =>
      have E:¬ (i:Int)<n:=by omega
      obtain rfl:i=n:=by omega
      have hp:=A8 (g.out true 0 (.inr ⟨rfl,z.out⟩));go_wp2;go_ret;exact ⟨Dm hp.out.symm,d.below⟩
     case pos =>
      have E:(i:Int)<n:=by omega
      have N:(0:Int)<=i:=by omega
      obtain ⟨ba,oa,ea,C,xa⟩:∃ b off,a=some ⟨b,off,none⟩/\b<w.heap.size/\w.cell? ⟨b,off+i,none⟩=some (.string (DH l i)):=by
       rcases H.out with ⟨e,K⟩ | ⟨b,off,cap',e,h1,h2,h3,L⟩
       ·have:=m.out;rw [K] at this;simp at this;omega
       ·cases e
        have:=L i _ (FD (by rw [<-m.out];exact t));rw [AY] at this;exact ⟨b,off,rfl,h3,this⟩
      subst ea;replace xa:=(d.below.cell (p:=⟨_,_,none⟩) C).trans xa;have NI:=A8 (fun W=>IP (DH l i) (long (hs.out _ (Ja (by rw [<-m.out];exact t)))) W);have f:GN (DH l i)=(!numB (DH l i) || decide (zS (DH l i)<0)):=rfl;have A:numB (DH l i)=true->DK (DH l i)=true:=fun hk=>by unfold numB at hk;rw [Ap] at hk;exact hk.1
      cases hk:numB (DH l i)
      ·rw [hk] at NI f
       have r:=A8 (g.out false i (.inl ⟨⟨t,by rw [f];rfl⟩,rfl⟩));clear f A hk;generalize DH l i=s at *
       go_wp2_with fail;refine Calls.mono (NI.out _) ?_;rintro e G ⟨rfl,hb⟩;replace d:=d.call hb;go_wp2;go_ret;exact ⟨Dm r.out.symm,d.below⟩
      ·obtain ⟨h0,J⟩:=H5 (A hk)
       rw [hk] at NI f;clear hk A;by_cases q:zS (DH l i)<0
       ·rw [AF q] at J f
        have r:=A8 (g.out false i (.inl ⟨⟨t,by rw [f];rfl⟩,rfl⟩));clear f q;generalize DH l i=s at *
        go_wp2_with fail;refine Calls.mono (NI.out _) ?_;rintro e G ⟨rfl,hb⟩;replace xa:=(hb.cell (p:=⟨_,_,none⟩) (A9 C d.below.size)).trans xa;replace d:=d.call hb;clear x0 x1;obtain ⟨x0,x1⟩:=d.c2 w.heap.size _ _ _ Ah;go_wp2;go_ret;exact ⟨Dm r.out.symm,d.below⟩
       ·rw [Al q] at J f
        have B:=A8 (show ∀ j,j<i+1->GN (DH l j)=false from fun j hj=>by
         by_cases e:j=i
         ·subst e;rw [f];rfl
         ·exact z.out j Ad)
        clear f q;generalize DH l i=s at *
        go_wp2_with fail;refine Calls.mono (NI.out _) ?_;rintro e G ⟨rfl,hb⟩;replace xa:=(hb.cell (p:=⟨_,_,none⟩) (A9 C d.below.size)).trans xa;replace d:=d.call hb;clear x0 x1;obtain ⟨x0,x1⟩:=d.c2 w.heap.size _ _ _ Ah;go_wp2_with fail;go_roundw;case rel=>exact ⟨i+1,by go_num,Ad,B,d⟩
        case measure=>simp [intOf];omega
end
section
open Go.RowKit
open LnM (sm)
attribute [local go_sem] Oper.semAt_some
theorem L6 (va vb:Value) (na nb:List ByteArray) (da db:ByteArray) (w:World) (hA:DS w va na) (J:DS w vb nb) (t:da.size<=201) (r:db.size<=201) (c:∀ s∈na,s.size<=201) (d:∀ s∈nb,s.size<=201) :
  Calls Tryz.prog 17 #[.agg #[va,.string da],.agg #[vb,.string db]] w (DR w (.bool (Iy na da nb db))):=by
 obtain ⟨aa,ca,rfl⟩:=hA.shape
 obtain ⟨ab,cb,rfl⟩:=J.shape
 have K:=A8 hA
 have M:=A8 J
 have FA:=A8 (fun W (hW:DS W (.slice aa na.length ca) na)=>EJ _ na da W hW t c)
 have FB:=A8 (fun W (hW:DS W (.slice ab nb.length cb) nb)=>EJ _ nb db W hW r d)
 unfold Iy
 cases C:DX na da
 ·rw [C] at FA
  clear C hA J c d t r;generalize na.length=la at *
  generalize nb.length=lb at *
  obtain ⟨V1,B,y,z1⟩:=(BL.start w).add' #[.slice aa la ca,.string da] 30;obtain ⟨E,l,a,z2⟩:=y.add' #[.slice ab lb cb,.string db] 30;rw [z1] at a;have x:E=(w.alloc (.cells #[.slice aa la ca,.string da] 30)).alloc (.cells #[.slice ab lb cb,.string db] 30):=by rw [l,B]
  clear B l y z1 z2;obtain ⟨x0,x1⟩:=a.c2 w.heap.size _ _ _ Ai;obtain ⟨y0,f⟩:=a.c2 (w.heap.size+1) _ _ _ Ah;go_enter Tryz.func17,Tryz.ntmps17;go_upto_region 1 with fail;rw [<-x];clear x;go_wp2_with fail;refine Calls.mono (FA.out _ (K.out.below a.below)) ?_;rintro e Y ⟨rfl,hb⟩;replace a:=a.call hb;clear x0 x1 y0 f hb;obtain ⟨x0,x1⟩:=a.c2 w.heap.size _ _ _ Ai;obtain ⟨y0,f⟩:=a.c2 (w.heap.size+1) _ _ _ Ah;go_wp2;go_ret;exact ⟨Dm Af,a.below⟩
 cases hg:DX nb db
 ·rw [C] at FA
  rw [hg] at FB;clear C hg hA J c d t r;generalize na.length=la at *
  generalize nb.length=lb at *
  obtain ⟨V1,B,y,z1⟩:=(BL.start w).add' #[.slice aa la ca,.string da] 30;obtain ⟨E,l,a,z2⟩:=y.add' #[.slice ab lb cb,.string db] 30;rw [z1] at a;have x:E=(w.alloc (.cells #[.slice aa la ca,.string da] 30)).alloc (.cells #[.slice ab lb cb,.string db] 30):=by rw [l,B]
  clear B l y z1 z2;obtain ⟨x0,x1⟩:=a.c2 w.heap.size _ _ _ Ai;obtain ⟨y0,f⟩:=a.c2 (w.heap.size+1) _ _ _ Ah;go_enter Tryz.func17,Tryz.ntmps17;go_upto_region 1 with fail;rw [<-x];clear x;go_wp2_with fail;refine Calls.mono (FA.out _ (K.out.below a.below)) ?_;rintro e Y ⟨rfl,hb⟩;replace a:=a.call hb;clear x0 x1 y0 f hb;obtain ⟨x0,x1⟩:=a.c2 w.heap.size _ _ _ Ai;obtain ⟨y0,f⟩:=a.c2 (w.heap.size+1) _ _ _ Ah;go_wp2_with fail;refine Calls.mono (FB.out _ (M.out.below a.below)) ?_;rintro e w2 ⟨rfl,hb⟩;replace a:=a.call hb;clear x0 x1 y0 f hb;obtain ⟨x0,x1⟩:=a.c2 w.heap.size _ _ _ Ai;obtain ⟨y0,f⟩:=a.c2 (w.heap.size+1) _ _ _ Ah;go_wp2;go_ret;exact ⟨Dm Af,a.below⟩
 by_cases hl:na.length=nb.length
 case neg =>
  have z:((na.length:Int)==nb.length)=false:=by simp;omega
  have F:((na.length:Int) != nb.length)=true:=by simp;omega
  rw [C] at FA;rw [hg] at FB;rw [z];clear C hg hA J c d t r hl;generalize na.length=la at *
  generalize nb.length=lb at *
  obtain ⟨V1,B,y,z1⟩:=(BL.start w).add' #[.slice aa la ca,.string da] 30;obtain ⟨E,l,a,z2⟩:=y.add' #[.slice ab lb cb,.string db] 30;rw [z1] at a;have x:E=(w.alloc (.cells #[.slice aa la ca,.string da] 30)).alloc (.cells #[.slice ab lb cb,.string db] 30):=by rw [l,B]
  clear B l y z1 z2;obtain ⟨x0,x1⟩:=a.c2 w.heap.size _ _ _ Ai;obtain ⟨y0,f⟩:=a.c2 (w.heap.size+1) _ _ _ Ah;go_enter Tryz.func17,Tryz.ntmps17;go_upto_region 1 with fail;rw [<-x];clear x;go_wp2_with fail;refine Calls.mono (FA.out _ (K.out.below a.below)) ?_;rintro e Y ⟨rfl,hb⟩;replace a:=a.call hb;clear x0 x1 y0 f hb;obtain ⟨x0,x1⟩:=a.c2 w.heap.size _ _ _ Ai;obtain ⟨y0,f⟩:=a.c2 (w.heap.size+1) _ _ _ Ah;go_wp2_with fail;refine Calls.mono (FB.out _ (M.out.below a.below)) ?_;rintro e w2 ⟨rfl,hb⟩;replace a:=a.call hb;clear x0 x1 y0 f hb;obtain ⟨x0,x1⟩:=a.c2 w.heap.size _ _ _ Ai;obtain ⟨y0,f⟩:=a.c2 (w.heap.size+1) _ _ _ Ah;go_wp2;go_ret;exact ⟨Dm Af,a.below⟩
 case pos =>
  have z:((na.length:Int)==nb.length)=true:=by simp [hl]
  have F:((na.length:Int) != nb.length)=false:=by simp [hl]
  obtain ⟨p1,p2,p3,p4,p5⟩:=Ep C;obtain ⟨q1,X,q3,q4,q5⟩:=Ep hg;rw [C] at FA;rw [hg] at FB;rw [z];have O:Hid (∀ i,i<na.length->DK (DH na i)=true/\DK (DH nb i)=true/\DK da=true/\DK db=true/\Do (zS (DH na i)*zS db)/\Do (zS (DH nb i)*zS da)):=A8 (fun i hi =>
   ⟨(p2 i hi).1,(X i Ad).1,p3,q3,((p2 i hi).2.1.mul q4).small Ae,((X i Ad).2.1.mul p4).small Ae⟩)
  have g:Hid (∀ (b:Bool) k,(b=false/\k<na.length/\zS (DH na k)*zS db≠zS (DH nb k)*zS da)∨(b=true/\∀ j,j<na.length->zS (DH na j)*zS db=zS (DH nb j)*zS da)->((true&&true&&true&&(List.range na.length).all (fun i=>decide (zS (DH na i)*zS db=zS (DH nb i)*zS da)))=b)):=A8 (fun b k h=>by
   rcases h with ⟨rfl,h1,h2⟩ | ⟨rfl,h1⟩
   ·have:(List.range na.length).all (fun i=>decide (zS (DH na i)*zS db=zS (DH nb i)*zS da))=false:=by
     rw [AA];exact ⟨k,AB.2 h1,by simp [h2]⟩
    rw [this];rfl
   ·have:(List.range na.length).all (fun i=>decide (zS (DH na i)*zS db=zS (DH nb i)*zS da))=true:=by
     rw [AE];intro j hj;exact AF (h1 j (AB.1 hj))
    rw [this];rfl)
  have G:=A8 hl;clear C hg hA J c d t r hl p2 X p3 q3 p4 q4 p5 q5;obtain ⟨la,u⟩:∃ n,n=na.length:=⟨_,rfl⟩;obtain ⟨lb,A⟩:∃ n,n=nb.length:=⟨_,rfl⟩;rw [<-u] at K FA z F p1 O g G |-;rw [<-A] at M FB z F q1 G |-;replace u:=A8 u;replace A:=A8 A;obtain ⟨V1,B,y,z1⟩:=(BL.start w).add' #[.slice aa la ca,.string da] 30;obtain ⟨E,l,a,z2⟩:=y.add' #[.slice ab lb cb,.string db] 30;rw [z1] at a;have x:E=(w.alloc (.cells #[.slice aa la ca,.string da] 30)).alloc (.cells #[.slice ab lb cb,.string db] 30):=by rw [l,B]
  clear B l y z1 z2;obtain ⟨x0,x1⟩:=a.c2 w.heap.size _ _ _ Ai;obtain ⟨y0,f⟩:=a.c2 (w.heap.size+1) _ _ _ Ah;go_enter Tryz.func17,Tryz.ntmps17;go_upto_region 1 with fail;rw [<-x];clear x;go_wp2_with fail;refine Calls.mono (FA.out _ (K.out.below a.below)) ?_;rintro e Y ⟨rfl,hb⟩;replace a:=a.call hb;clear x0 x1 y0 f hb;obtain ⟨x0,x1⟩:=a.c2 w.heap.size _ _ _ Ai;obtain ⟨y0,f⟩:=a.c2 (w.heap.size+1) _ _ _ Ah;go_wp2_with fail;refine Calls.mono (FB.out _ (M.out.below a.below)) ?_;rintro e w2 ⟨rfl,hb⟩;replace a:=a.call hb;clear x0 x1 y0 f hb;obtain ⟨x0,x1⟩:=a.c2 w.heap.size _ _ _ Ai;obtain ⟨y0,f⟩:=a.c2 (w.heap.size+1) _ _ _ Ah;go_wp2_with fail;clear x0 x1 y0 f;go_loopw [5] (fun o wr=>∃ k:Nat,o=.int .i64 k/\k<=la/\Hid (∀ j,j<k->zS (DH na j)*zS db=zS (DH nb j)*zS da)/\BL w [(w.heap.size+1,#[.slice ab lb cb,.string db],30),(w.heap.size,#[.slice aa la ca,.string da],30)] wr) (fun o _=>la-(intOf o).toNat);case atStart=>exact ⟨0,rfl,Ad,A8 (fun j hj=>absurd hj Ad),a⟩
  case round =>
   clear a;obtain ⟨i,rfl,hi,v,a⟩:=hrel;obtain ⟨x0,x1⟩:=a.c2 w.heap.size _ _ _ Ai;by_cases H:i<la;case neg =>
    have L:¬ (i:Int)<la:=by omega
    obtain rfl:i=la:=by omega
    go_wp2;go_ret;exact ⟨Dm (g.out true 0 (.inr ⟨rfl,v.out⟩)).symm,a.below⟩
   case pos =>
    have L:(i:Int)<la:=by omega
    have hil2:(i:Int)<lb:=by have:=G.out;omega
    have hi0:(0:Int)<=i:=by omega
    obtain ⟨k1,k2,k3,k4,k5,k6⟩:=O.out i H;obtain ⟨ba,oa,ea,V,xa⟩:∃ b off,aa=some ⟨b,off,none⟩/\b<w.heap.size/\w.cell? ⟨b,off+i,none⟩=some (.string (DH na i)):=by
     rcases K.out with ⟨e,l⟩ | ⟨b,off,cap',e,h1,h2,h3,h4⟩
     ·have:=u.out;rw [l] at this;simp at this;omega
     ·cases e
      have:=h4 i _ (FD (by rw [<-u.out];exact H));rw [AY] at this;exact ⟨b,off,rfl,h3,this⟩
    obtain ⟨bb,ob,eb,T,xb⟩:∃ b off,ab=some ⟨b,off,none⟩/\b<w.heap.size/\w.cell? ⟨b,off+i,none⟩=some (.string (DH nb i)):=by
     rcases M.out with ⟨e,l⟩ | ⟨b,off,cap',e,h1,h2,h3,h4⟩
     ·have:=A.out;rw [l] at this;simp at this;omega
     ·cases e
      have:=h4 i _ (FD (by rw [<-A.out];omega));rw [AY] at this;exact ⟨b,off,rfl,h3,this⟩
    subst ea;subst eb;have U:=A8 (fun W=>Mm k1 k4 k5 W);have Z:=A8 (fun W=>Mm k2 k3 k6 W);have q:=I_eq (zS (DH na i)*zS db) (zS (DH nb i)*zS da);obtain ⟨sa,c⟩:∃ s,s=DH na i:=⟨_,rfl⟩;obtain ⟨sb,d⟩:∃ s,s=DH nb i:=⟨_,rfl⟩;rw [<-c] at xa U q;rw [<-d] at xb Z q;obtain ⟨px,N⟩:∃ s,s=I (zS sa*zS db):=⟨_,rfl⟩;obtain ⟨py,P⟩:∃ s,s=I (zS sb*zS da):=⟨_,rfl⟩;rw [<-N] at U q;rw [<-P] at Z q;replace c:=A8 c;replace d:=A8 d;have Q:=A8 (show ∀ W,BL w [(w.heap.size+1,#[.slice (some ⟨bb,ob,none⟩) lb cb,.string db],30),(w.heap.size,#[.slice (some ⟨ba,oa,none⟩) la ca,.string da],30)] W->(W.cell? ⟨w.heap.size,0,none⟩=some (.slice (some ⟨ba,oa,none⟩) la ca)/\W.cell? ⟨w.heap.size,1,none⟩=some (.string da)/\W.cell? ⟨w.heap.size+1,0,none⟩=some (.slice (some ⟨bb,ob,none⟩) lb cb)/\W.cell? ⟨w.heap.size+1,1,none⟩=some (.string db)/\W.cell? ⟨ba,oa+i,none⟩=some (.string sa)/\W.cell? ⟨bb,ob+i,none⟩=some (.string sb)) from fun W h=>⟨h.cell _ _ _ Ai 0,h.cell _ _ _ Ai 1,h.cell _ _ _ Ah 0,h.cell _ _ _ Ah 1,(h.below.cell (p:=⟨_,_,none⟩) V).trans xa,(h.below.cell (p:=⟨_,_,none⟩) T).trans xb⟩);clear k1 k2 k3 k4 k5 k6 N P xa xb;go_upto_region 6 with fail;clear x0 x1;obtain ⟨x0,x1,x2,R,S,x5⟩:=Q.out _ a;replace a:=a.drew;go_region_held3 (fun w'=>w'.cell? ⟨w.heap.size,0,none⟩=some (.slice (some ⟨ba,oa,none⟩) la ca)/\w'.cell? ⟨w.heap.size,1,none⟩=some (.string da)/\w'.cell? ⟨w.heap.size+1,0,none⟩=some (.slice (some ⟨bb,ob,none⟩) lb cb)/\w'.cell? ⟨w.heap.size+1,1,none⟩=some (.string db)/\w'.cell? ⟨ba,oa+i,none⟩=some (.string sa)/\w'.cell? ⟨bb,ob+i,none⟩=some (.string sb))
     (first | with_reducible exact Q.out _ a | go_keep)
     (first | (go_at_call 51;(with_reducible refine Calls.mono (U.out _) ?_);rintro e w' ⟨rfl,hb⟩;replace a:=a.call hb;clear hb))
    all_goals (clear x0 x1 x2 R S x5)
    go_upto_region 7 with fail;obtain ⟨x0,x1,x2,R,S,x5⟩:=Q.out _ a;replace a:=a.drew;go_region_held3 (fun w'=>w'.cell? ⟨w.heap.size,0,none⟩=some (.slice (some ⟨ba,oa,none⟩) la ca)/\w'.cell? ⟨w.heap.size,1,none⟩=some (.string da)/\w'.cell? ⟨w.heap.size+1,0,none⟩=some (.slice (some ⟨bb,ob,none⟩) lb cb)/\w'.cell? ⟨w.heap.size+1,1,none⟩=some (.string db)/\w'.cell? ⟨ba,oa+i,none⟩=some (.string sa)/\w'.cell? ⟨bb,ob+i,none⟩=some (.string sb))
     (first | with_reducible exact Q.out _ a | go_keep)
     (first | (go_at_call 51;(with_reducible refine Calls.mono (Z.out _) ?_);rintro e w' ⟨rfl,hb⟩;replace a:=a.call hb;clear hb))
    all_goals (clear x0 x1 x2 R S x5)
    by_cases m:zS sa*zS db=zS sb*zS da
    ·rw [AF m] at q
     have D:=A8 (show ∀ j,j<i+1->zS (DH na j)*zS db=zS (DH nb j)*zS da from fun j hj=>by
      by_cases e:j=i
      ·subst e;rw [<-c.out,<-d.out];exact m
      ·exact v.out j Ad)
     clear m v;go_wp2_with fail;go_roundw;case rel=>exact ⟨i+1,by go_num,Ad,D,a⟩
     case measure=>simp [intOf];omega
    ·rw [Al m] at q
     have hp:=g.out false i (.inl ⟨rfl,H,by rw [<-c.out,<-d.out];exact m⟩);replace hp:=A8 hp;clear m;go_wp2;go_ret;exact ⟨Dm hp.out.symm,a.below⟩
theorem Np {a:ByteArray} (h:DK a=true):(a.toList==[48])=decide (zS a=0):=by rw [ByteArray.toList_eq];exact Ng h
theorem Q8 (cols:Int) (rv nv:Value) (rows:List (List Int×Int)) (nums:List ByteArray) (den:ByteArray) (w:World) (R:EX w rv rows) (Z:DS w nv nums) (hd:den.size<=201) (hs:∀ s∈nums,s.size<=201) :
  Calls Tryz.prog 15 #[.agg #[.int .i64 cols,rv],.agg #[nv,.string den]] w (DR w (.bool (Fu cols rows nums den))):=by
 obtain ⟨ar,capr,rfl⟩:=R.shape
 obtain ⟨an,capn,rfl⟩:=Z.shape
 have Y:=A8 R
 have HN:=A8 Z
 have H:=A8 (fun W (hW:EX W (.slice ar rows.length capr) rows)=>IY cols _ rows W hW)
 have FO:=A8 (fun W (hW:DS W (.slice an nums.length capn) nums)=>EJ _ nums den W hW hd hs)
 clear hd hs
 unfold Fu
 cases hv:Ea cols rows
 ·rw [hv] at H
  clear hv R Z;generalize rows.length=nr at *
  generalize nums.length=nn at *
  obtain ⟨V1,J,F,z1⟩:=(BL.start w).add' #[.int .i64 cols,.slice ar nr capr] 27;obtain ⟨T,u,d,z2⟩:=F.add' #[.slice an nn capn,.string den] 30;rw [z1] at d;have E:T=(w.alloc (.cells #[.int .i64 cols,.slice ar nr capr] 27)).alloc (.cells #[.slice an nn capn,.string den] 30):=by rw [u,J]
  clear J u F z1 z2;obtain ⟨x0,x1⟩:=d.c2 w.heap.size _ _ _ Ai;obtain ⟨y0,g⟩:=d.c2 (w.heap.size+1) _ _ _ Ah;go_enter Tryz.func15,Tryz.ntmps15;go_upto_region 1 with fail;rw [<-E];clear E;go_wp2_with fail;refine Calls.mono (H.out _ (Y.out.below d.below)) ?_;rintro e w1 ⟨rfl,hb⟩;replace d:=d.call hb;clear x0 x1 y0 g hb;obtain ⟨x0,x1⟩:=d.c2 w.heap.size _ _ _ Ai;obtain ⟨y0,g⟩:=d.c2 (w.heap.size+1) _ _ _ Ah;go_wp2;go_ret;exact ⟨Dm Af,d.below⟩
 cases X:DX nums den
 ·rw [hv] at H
  rw [X] at FO;clear hv X R Z;generalize rows.length=nr at *
  generalize nums.length=nn at *
  obtain ⟨V1,J,F,z1⟩:=(BL.start w).add' #[.int .i64 cols,.slice ar nr capr] 27;obtain ⟨T,u,d,z2⟩:=F.add' #[.slice an nn capn,.string den] 30;rw [z1] at d;have E:T=(w.alloc (.cells #[.int .i64 cols,.slice ar nr capr] 27)).alloc (.cells #[.slice an nn capn,.string den] 30):=by rw [u,J]
  clear J u F z1 z2;obtain ⟨x0,x1⟩:=d.c2 w.heap.size _ _ _ Ai;obtain ⟨y0,g⟩:=d.c2 (w.heap.size+1) _ _ _ Ah;go_enter Tryz.func15,Tryz.ntmps15;go_upto_region 1 with fail;rw [<-E];clear E;go_wp2_with fail;refine Calls.mono (H.out _ (Y.out.below d.below)) ?_;rintro e w1 ⟨rfl,hb⟩;replace d:=d.call hb;clear x0 x1 y0 g hb;obtain ⟨x0,x1⟩:=d.c2 w.heap.size _ _ _ Ai;obtain ⟨y0,g⟩:=d.c2 (w.heap.size+1) _ _ _ Ah;go_wp2_with fail;refine Calls.mono (FO.out _ (HN.out.below d.below)) ?_;rintro e w2 ⟨rfl,hb⟩;replace d:=d.call hb;clear x0 x1 y0 g hb;obtain ⟨x0,x1⟩:=d.c2 w.heap.size _ _ _ Ai;obtain ⟨y0,g⟩:=d.c2 (w.heap.size+1) _ _ _ Ah;go_wp2;go_ret;exact ⟨Dm Af,d.below⟩
 by_cases hl:(nums.length:Int)=cols
 case neg =>
  have D:((nums.length:Int)==cols)=false:=by simp [hl]
  have P:((nums.length:Int) != cols)=true:=by simp [hl]
  rw [hv] at H;rw [X] at FO;rw [D];clear hv X R Z hl;generalize rows.length=nr at *
  generalize nums.length=nn at *
  obtain ⟨V1,J,F,z1⟩:=(BL.start w).add' #[.int .i64 cols,.slice ar nr capr] 27;obtain ⟨T,u,d,z2⟩:=F.add' #[.slice an nn capn,.string den] 30;rw [z1] at d;have E:T=(w.alloc (.cells #[.int .i64 cols,.slice ar nr capr] 27)).alloc (.cells #[.slice an nn capn,.string den] 30):=by rw [u,J]
  clear J u F z1 z2;obtain ⟨x0,x1⟩:=d.c2 w.heap.size _ _ _ Ai;obtain ⟨y0,g⟩:=d.c2 (w.heap.size+1) _ _ _ Ah;go_enter Tryz.func15,Tryz.ntmps15;go_upto_region 1 with fail;rw [<-E];clear E;go_wp2_with fail;refine Calls.mono (H.out _ (Y.out.below d.below)) ?_;rintro e w1 ⟨rfl,hb⟩;replace d:=d.call hb;clear x0 x1 y0 g hb;obtain ⟨x0,x1⟩:=d.c2 w.heap.size _ _ _ Ai;obtain ⟨y0,g⟩:=d.c2 (w.heap.size+1) _ _ _ Ah;go_wp2_with fail;refine Calls.mono (FO.out _ (HN.out.below d.below)) ?_;rintro e w2 ⟨rfl,hb⟩;replace d:=d.call hb;clear x0 x1 y0 g hb;obtain ⟨x0,x1⟩:=d.c2 w.heap.size _ _ _ Ai;obtain ⟨y0,g⟩:=d.c2 (w.heap.size+1) _ _ _ Ah;go_wp2;go_ret;exact ⟨Dm Af,d.below⟩
 case pos =>
  subst hl;have D:((nums.length:Int)==nums.length)=true:=by simp
  have P:((nums.length:Int) != nums.length)=false:=by simp
  obtain ⟨p1,p2,p3,p4⟩:=EH hv;obtain ⟨q1,q2,q3,q4,q5⟩:=Ep X;rw [hv] at H;rw [X] at FO;rw [D];have q:Hid (∀ (b:Bool) k,((k<rows.length/\¬ DF nums (gi (Dl rows k).1) nums.length=zS den*(Dl rows k).2)/\b=false)∨(b=true/\∀ j,j<rows.length->DF nums (gi (Dl rows j).1) nums.length=zS den*(Dl rows j).2)->(true&&true&&true&&rows.all (fun r=>decide (DF nums (gi r.1) nums.length=zS den*r.2)))=b):=A8 (fun b k h=>by
   rcases h with ⟨⟨h1,h2⟩,rfl⟩ | ⟨rfl,h1⟩
   ·rw [AA.2 ⟨_,Ga h1,by simp [h2]⟩];rfl
   ·rw [AE.2 (fun x hx=>by
     obtain ⟨j,hj,e⟩:=AW.1 hx;have:=h1 j hj;unfold Dl at this;rw [Ax hj] at this;rw [<-e];exact AF this)];rfl)
  generalize (true&&true&&true&&rows.all (fun r=>decide (DF nums (gi r.1) nums.length=zS den*r.2)))=bb at *
  have M:=A8 (fun i (hi:i<rows.length)=>p4 _ (Ga hi));have O:=A8 q2;have hnr:rows.length<=9223372036854775807:=R.len_le;clear hv X R Z p4 q2 p1 p2 p3;obtain ⟨nr,t⟩:∃ n,n=rows.length:=⟨_,rfl⟩;obtain ⟨nn,v⟩:∃ n,n=nums.length:=⟨_,rfl⟩;rw [<-t] at Y H q M hnr |-;rw [<-v] at HN FO H D P q M O q1 |-;obtain ⟨cols,A⟩:∃ c:Int,c=nn:=⟨_,rfl⟩;rw [<-A] at H D P |-;rw [A] at D P;replace t:=A8 t;replace v:=A8 v;subst A;obtain ⟨V1,J,F,z1⟩:=(BL.start w).add' #[.int .i64 nn,.slice ar nr capr] 27;obtain ⟨T,u,d,z2⟩:=F.add' #[.slice an nn capn,.string den] 30;rw [z1] at d;have E:T=(w.alloc (.cells #[.int .i64 nn,.slice ar nr capr] 27)).alloc (.cells #[.slice an nn capn,.string den] 30):=by rw [u,J]
  clear J u F z1 z2;obtain ⟨x0,x1⟩:=d.c2 w.heap.size _ _ _ Ai;obtain ⟨y0,g⟩:=d.c2 (w.heap.size+1) _ _ _ Ah;go_enter Tryz.func15,Tryz.ntmps15;go_upto_region 1 with fail;rw [<-E];clear E;go_wp2_with fail;refine Calls.mono (H.out _ (Y.out.below d.below)) ?_;rintro e w1 ⟨rfl,hb⟩;replace d:=d.call hb;clear x0 x1 y0 g hb;obtain ⟨x0,x1⟩:=d.c2 w.heap.size _ _ _ Ai;obtain ⟨y0,g⟩:=d.c2 (w.heap.size+1) _ _ _ Ah;go_wp2_with fail;refine Calls.mono (FO.out _ (HN.out.below d.below)) ?_;rintro e w2 ⟨rfl,hb⟩;replace d:=d.call hb;clear x0 x1 y0 g hb;obtain ⟨x0,x1⟩:=d.c2 w.heap.size _ _ _ Ai;obtain ⟨y0,g⟩:=d.c2 (w.heap.size+1) _ _ _ Ah;go_wp2_with fail;clear x0 x1 y0 g;go_loopw [5] (fun o wr=>∃ k:Nat,o=.int .i64 k/\k<=nr/\Hid (∀ j,j<k->DF nums (gi (Dl rows j).1) nn=zS den*(Dl rows j).2)/\BL w [(w.heap.size+1,#[.slice an nn capn,.string den],30),(w.heap.size,#[.int .i64 nn,.slice ar nr capr],27)] wr) (fun o _=>nr-(intOf o).toNat);case atStart=>exact ⟨0,rfl,Ad,A8 (fun j hj=>absurd hj Ad),d⟩
  case round =>
   clear d;obtain ⟨i,rfl,hi,K,d⟩:=hrel;obtain ⟨x0,x1⟩:=d.c2 w.heap.size _ _ _ Ai;by_cases V:i<nr;case neg =>
    have hil':¬ (i:Int)<nr:=by omega
    obtain rfl:i=nr:=by omega
    have hp:=A8 (q.out true 0 (.inr ⟨rfl,K.out⟩));go_wp2;go_ret;exact ⟨Dm hp.out.symm,d.below⟩
   case pos =>
    have hil':(i:Int)<nr:=by omega
    have hi0:(0:Int)<=i:=by omega
    obtain ⟨hlc,hcb,hvb⟩:=M.out i V;obtain ⟨b,off,cv,ea,hbw,c0,hcs,c1⟩:∃ b off cv,ar=some ⟨b,off,none⟩/\b<w.heap.size/\w.cell? ⟨b,off+i*2,none⟩=some cv/\IE w cv (Dl rows i).1/\w.cell? ⟨b,off+i*2+1,none⟩=some (.int .i64 (Dl rows i).2):=by
     rcases Y.out with ⟨e,u⟩ | ⟨b,off,cap',e,h1,h2,h3,h4⟩
     ·have:=t.out;rw [u] at this;simp at this;omega
     ·cases e
      obtain ⟨cv,c0,hcs,c1⟩:=h4 i _ (Fe (by rw [<-t.out];exact V));exact ⟨b,off,cv,rfl,h3,c0,hcs,c1⟩
    subst ea;obtain ⟨ac,cp,rfl⟩:=hcs.shape;have hpi:=A8 (fun (b:Bool) (h:¬ DF nums (gi (Dl rows i).1) nn=zS den*(Dl rows i).2/\b=false)=>q.out b i (.inl ⟨⟨V,h.1⟩,h.2⟩));have S:=A8 (fun (h:DF nums (gi (Dl rows i).1) nn=zS den*(Dl rows i).2)=>show ∀ j,j<i+1->DF nums (gi (Dl rows j).1) nn=zS den*(Dl rows j).2 from fun j hj=>by
     by_cases e:j=i
     ·subst e;exact h
     ·exact K.out j Ad)
    generalize hr1:(Dl rows i).1=l at *
    generalize hr2:(Dl rows i).2=z at *
    clear hr1 hr2 K;obtain ⟨m,hm⟩:∃ m,m=l.length:=⟨_,rfl⟩;have HC:=A8 hcs;clear hcs;rw [<-hm] at HC c0 hlc;replace hm:=A8 hm;have hmn:m=nn:=by omega
    have hcg:=A8 (PN (B:=30000) Ae hcb);have hsm:Hid (∀ k,k<=nn->Do (DF nums (gi l) k)):=A8 (fun k (hk:k<=nn)=>(sum_small (n:=k) (a:=fun j=>zS (DH nums j)) (f:=gi l) Ad (fun j hj=>⟨(O.out j Ad).2.1,bd11 (by have:=hcg.out j;omega)⟩):Do (DF nums (gi l) k)));have I0:I (DF nums (gi l) 0)=⟨#[48]⟩:=Je.symm;clear hcb hlc;go_wp2_with fail;clear x0 x1;go_loopw [6,7] (fun x o wq=>∃ k:Nat,x=.string (I (DF nums (gi l) k))/\o=.int .i64 k/\k<=nn/\BL w [(w.heap.size+1,#[.slice an nn capn,.string den],30),(w.heap.size,#[.int .i64 nn,.slice (some ⟨b,off,none⟩) nr capr],27)] wq) (fun _ o _=>nn-(intOf o).toNat);case atStart=>exact ⟨0,by rw [I0],rfl,Ad,d⟩
    case round =>
     clear I0 d;obtain ⟨j,rfl,rfl,hj,d⟩:=hrel;obtain ⟨x0,x1⟩:=d.c2 w.heap.size _ _ _ Ai;by_cases hj2:j<nn;case neg =>
      have hjl':¬ (j:Int)<nn:=by omega
      obtain rfl:j=nn:=by omega
      have TV:=A8 (fun W=>Iz (a:=den) (x:=z) q3 (by unfold Dy;omega) ((q4.mul (bd11 (x:=z) Ad)).small Ae) W);have hfe:=I_eq (DF nums (gi l) j) (zS den*z);generalize I (zS den*z)=pd at *
      generalize I (DF nums (gi l) j)=sd at *
      have U:=A8 (show ∀ W,BL w [(w.heap.size+1,#[.slice an j capn,.string den],30),(w.heap.size,#[.int .i64 j,.slice (some ⟨b,off,none⟩) nr capr],27)] W->(W.cell? ⟨w.heap.size+1,1,none⟩=some (.string den)/\W.cell? ⟨w.heap.size,1,none⟩=some (.slice (some ⟨b,off,none⟩) nr capr)/\W.cell? ⟨b,off+i*2+1,none⟩=some (.int .i64 z)) from fun W h=>⟨h.cell _ _ _ Ah 1,h.cell _ _ _ Ai 1,(h.below.cell (p:=⟨_,_,none⟩) hbw).trans c1⟩);clear c0 c1;by_cases y:DF nums (gi l) j=zS den*z
      ·rw [AF y] at hfe
       replace y:=A8 y;go_upto_region 12 with fail;clear x0 x1;obtain ⟨x0,x1,x2⟩:=U.out _ d;replace d:=d.drew;go_region_held3 (fun w'=>w'.cell? ⟨w.heap.size+1,1,none⟩=some (.string den)/\w'.cell? ⟨w.heap.size,1,none⟩=some (.slice (some ⟨b,off,none⟩) nr capr)/\w'.cell? ⟨b,off+i*2+1,none⟩=some (.int .i64 z))
        (first | with_reducible exact U.out _ d | go_keep)
        (first | (go_at_call 50;(with_reducible refine Calls.mono (TV.out _) ?_);rintro e w' ⟨rfl,hb⟩;replace d:=d.call hb;clear hb))
       all_goals (clear x0 x1 x2)
       all_goals (
        go_wp2_with fail
        go_roundw
        case rel=>exact ⟨i+1,by go_num,Ad,A8 (S.out y.out),d⟩
        case measure=>simp [intOf];omega)
      ·rw [Al y] at hfe
       have hp:=A8 (hpi.out false ⟨y,rfl⟩);clear y;go_upto_region 12 with fail;clear x0 x1;obtain ⟨x0,x1,x2⟩:=U.out _ d;replace d:=d.drew;go_region_held3 (fun w'=>w'.cell? ⟨w.heap.size+1,1,none⟩=some (.string den)/\w'.cell? ⟨w.heap.size,1,none⟩=some (.slice (some ⟨b,off,none⟩) nr capr)/\w'.cell? ⟨b,off+i*2+1,none⟩=some (.int .i64 z))
        (first | with_reducible exact U.out _ d | go_keep)
        (first | (go_at_call 50;(with_reducible refine Calls.mono (TV.out _) ?_);rintro e w' ⟨rfl,hb⟩;replace d:=d.call hb;clear hb))
       all_goals (clear x0 x1 x2)
       all_goals (
        go_wp2
        go_ret
        exact ⟨Dm hp.out.symm,d.below⟩)
     case pos =>
      have hjl:(j:Int)<nn:=by omega
      have hjm:(j:Int)<m:=by omega
      have hj0:(0:Int)<=j:=by omega
      obtain ⟨k1,k2,k3⟩:=O.out j hj2;obtain ⟨bn,on,en,hbn,xn⟩:∃ b off,an=some ⟨b,off,none⟩/\b<w.heap.size/\w.cell? ⟨b,off+j,none⟩=some (.string (DH nums j)):=by
       rcases HN.out with ⟨e,u⟩ | ⟨b,off,cap',e,h1,h2,h3,h4⟩
       ·have:=v.out;rw [u] at this;simp at this;omega
       ·cases e
        have:=h4 j _ (FD (by rw [<-v.out];exact hj2));rw [AY] at this;exact ⟨b,off,rfl,h3,this⟩
      subst en;obtain ⟨bc,oc,ec,hbc,xc⟩:∃ b off,ac=some ⟨b,off,none⟩/\b<w.heap.size/\w.cell? ⟨b,off+j,none⟩=some (.int .i64 (gi l j)):=by
       rcases HC.out with ⟨e,u⟩ | ⟨b,off,cap',e,h1,h2,h3,h4⟩
       ·have:=hm.out;rw [u] at this;simp at this;omega
       ·cases e
        exact ⟨b,off,rfl,h3,h4 j (by rw [<-hm.out];omega)⟩
      subst ec;have C:DF nums (gi l) (j+1)=DF nums (gi l) j+zS (DH nums j)*gi l j:=rfl;have hS1:=hsm.out (j+1) Ad;have hS0:=hsm.out j Ad;have hgb:=hcg.out j;have Q:Do (zS (DH nums j)*gi l j):=(k2.mul (bd11 (x:=gi l j) Ad)).small Ae;have TM:=A8 (fun W=>Iz (a:=DH nums j) (x:=gi l j) k1 (by unfold Dy;omega) Q W);have PL:=A8 (fun W=>KM (Eh hS0) (Eh Q) (by rw [Ee,Ee,<-C];exact hS1) W);rw [Ee,Ee,<-C] at PL;have hze:=Np k1;have G:zS (DH nums j)=0->I (DF nums (gi l) j)=I (DF nums (gi l) (j+1)):=fun e=>by rw [C,e,Int.zero_mul,Cq]
      clear C hS1 hS0 Q hgb k1 k2 k3;generalize zS (DH nums j)=zj at *
      generalize DH nums j=s at *
      generalize gi l j=fi at *
      generalize I (zj*fi)=pr at *
      generalize I (DF nums (gi l) j)=out1 at *
      obtain ⟨out2,N⟩:∃ x,x=I (DF nums (gi l) (j+1)):=⟨_,rfl⟩;rw [<-N] at PL G;replace N:=A8 N;have U:=A8 (show ∀ W,BL w [(w.heap.size+1,#[.slice (some ⟨bn,on,none⟩) nn capn,.string den],30),(w.heap.size,#[.int .i64 nn,.slice (some ⟨b,off,none⟩) nr capr],27)] W->(W.cell? ⟨w.heap.size+1,0,none⟩=some (.slice (some ⟨bn,on,none⟩) nn capn)/\W.cell? ⟨w.heap.size,1,none⟩=some (.slice (some ⟨b,off,none⟩) nr capr)/\W.cell? ⟨b,off+i*2,none⟩=some (.slice (some ⟨bc,oc,none⟩) m cp)/\W.cell? ⟨bn,on+j,none⟩=some (.string s)/\W.cell? ⟨bc,oc+j,none⟩=some (.int .i64 fi)) from fun W h=>⟨h.cell _ _ _ Ah 0,h.cell _ _ _ Ai 1,(h.below.cell (p:=⟨_,_,none⟩) hbw).trans c0,(h.below.cell (p:=⟨_,_,none⟩) hbn).trans xn,(h.below.cell (p:=⟨_,_,none⟩) hbc).trans xc⟩);clear c0 c1 xn xc;obtain ⟨y0,g,y2,y3,y4⟩:=U.out _ d;by_cases L:zj=0
      ·rw [AF L] at hze
       replace G:=A8 (G L);clear L;go_wp2_with fail;go_roundw;case rel=>exact ⟨j+1,by rw [G.out,N.out],by go_num,Ad,d⟩
       case measure=>simp [intOf];omega
      ·rw [Al L] at hze
       clear G L;go_upto_region 11 with fail;clear x0 x1;replace d:=d.drew;go_region_held3 (fun w'=>w'.cell? ⟨w.heap.size+1,0,none⟩=some (.slice (some ⟨bn,on,none⟩) nn capn)/\w'.cell? ⟨w.heap.size,1,none⟩=some (.slice (some ⟨b,off,none⟩) nr capr)/\w'.cell? ⟨b,off+i*2,none⟩=some (.slice (some ⟨bc,oc,none⟩) m cp)/\w'.cell? ⟨bn,on+j,none⟩=some (.string s)/\w'.cell? ⟨bc,oc+j,none⟩=some (.int .i64 fi))
        (first | with_reducible exact U.out _ d | go_keep)
        (first | (go_at_call 50;(with_reducible refine Calls.mono (TM.out _) ?_);rintro e w' ⟨rfl,hb⟩;replace d:=d.call hb;clear hb) | (go_at_call 49;(with_reducible refine Calls.mono (PL.out _) ?_);rintro e w' ⟨rfl,hb⟩;replace d:=d.call hb;clear hb))
       all_goals (clear y0 g y2 y3 y4)
       all_goals (
        go_wp2_with fail
        go_roundw
        case rel=>exact ⟨j+1,by rw [N.out],by go_num,Ad,d⟩
        case measure=>simp [intOf];omega)
end
end Go.Proofs.YtioamkekjjkigaaGreatDoor
