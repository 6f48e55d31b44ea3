/- LcN, Eqs, SvF, LqA, RowsQ, OrB, SnA, SnB -/
import Derived.Test.YtioamkekjjkigaaGreatDoorYLcK
import Derived.Deep.Upon
set_option maxHeartbeats 8000000
set_option maxRecDepth 100000
namespace Go.Proofs.YtioamkekjjkigaaGreatDoor
section
open Go.RowKit
attribute [local go_sem] Oper.semAt_some
def Kf (x:DG):List ByteArray×ByteArray×Int:=if JG x=true then ((List.range x.na.length).map (fun j=>I (x.quo (j+1))),I (x.quo 0),0) else ([],⟨#[]⟩,60)
def TH (W:World) (v:Value):Prop:=∀ b,v.ownBlock=some b->∃ cs,Ds W b cs 9
theorem TH.below {W W':World} {v:Value} (h:TH W v) (hb:Below W.heap.size W W'):TH W' v:=fun b e=>by
 obtain ⟨cs,hc⟩:=h b e;exact ⟨cs,hc.below hb⟩
theorem TH.nil (W:World):TH W (.slice none 0 0):=fun b e=>by cases e
theorem TH.own {W:World} {base n:Nat} {v:Value} {xs:List Value} (h:W.ownsRow base 9 1 v n xs):TH W v:=fun b e=>by
 rcases h.2 with ⟨rfl,_⟩ | ⟨g,cap,cur,rfl,_,hg,_⟩
 ·cases e
 ·obtain rfl:g=b:=by simpa [Value.ownBlock] using e
  exact ⟨cur,hg⟩
def GP (x:DG) (w:World) (e:Ending) (w':World):Prop:=Below w.heap.size w w'/\∃ v,DS w' v (Kf x).1/\e=.returned (.tuple #[.agg #[v,.string (Kf x).2.1],.int .i64 (Kf x).2.2])/\TH w' v
theorem GP.bad {x:DG} {w w':World} (h:JG x=false) (hb:Below w.heap.size w w'):GP x w (.returned (.tuple #[.agg #[.slice none 0 0,.string ⟨#[]⟩],.int .i64 60])) w':=by
 refine ⟨hb,.slice none 0 0,?_,?_,TH.nil _⟩
 ·unfold Kf;rw [h];exact .inl ⟨rfl,rfl⟩
 ·unfold Kf;rw [h];rfl
theorem DG.gcd_pos (x:DG) (h:x.num 0≠0):∀ k,0<x.gcd (k+1)
 | 0=>by
  show 0<EM 0 (x.num 0);unfold EM;rw [Int.zero_gcd];omega
 | k+1=>by
  show 0<EM (x.gcd (k+1)) (x.num (k+1));have h1:=x.gcd_pos h k;have:Int.gcd (x.gcd (k+1)) (x.num (k+1))≠0:=fun e=>by rw [Int.gcd_eq_zero_iff] at e;omega
  unfold EM;omega
theorem DG.gcd_small (x:DG) {m:Nat} (h:∀ j,j<m->Do (x.num j)):∀ {k:Nat},k<=m->Do (x.gcd k)
 | 0,_=>LT
 | k+1,hk=>QD (x.gcd_small h Ad) (h k Ad)
theorem Rp {z:Int} (h:Do z):numB (I z)=decide (Bd 100 z):=by unfold numB;rw [Eh h,Ee,AS]
def DG.row (x:DG) (i j:Nat):ByteArray:=if j<i then I (x.quo j) else I (x.num j)
theorem DG.row_open (x:DG) {n base g c:Nat} {W:World} (hf:x.flag n=true) (h:W.ownsRow base 9 1 (.slice (some ⟨g,0,none⟩) (n+1) c) (n+1) ((List.range (n+1)).map fun j=>.string (x.txt j))) :
  ∃ cs,Ds W g cs 9/\base<=g/\n+1<=c/\c<=maxLen/\∀ j,j<=n->cs[j]? = some (.string (x.row 0 j)):=by
 rcases h.2 with ⟨e,_⟩ | ⟨g',cap,cur,e,hb,hg,hn,hm,hs,ht⟩
 ·cases e
 ·cases e
  have hk:Ds W g cur 9:=hg;refine ⟨cur,hk,hb,hn,hm,fun j hj=>?_⟩;have hc:=h.cells (g:=g) rfl j (.string (x.txt j)) (by simp [AQ,AR (show j<n+1 by omega)]);have hadd:(⟨g,0,none⟩:Addr).add j=⟨g,0+j,none⟩:=by unfold Addr.add;split <;> simp_all
  rw [hadd,BN,hk.cell j,(x.good (x.flag_le hf hj)).1] at hc;rw [hc];unfold DG.row;rw [AP Ad]
theorem DG.row_set (x:DG) {n i:Nat} {cs:Array Value} (h:∀ j,j<=n->cs[j]? = some (.string (x.row i j))) (hi:i<=n):∀ j,j<=n->(cs.setIfInBounds i (.string (I (x.quo i))))[j]? = some (.string (x.row (i+1) j)):=fun j hj=>by
 rw [Array.getElem?_setIfInBounds];have hsz:i<cs.size:=(BO.1 (h i hi)).1;by_cases e:i=j
 ·subst e;rw [AU rfl,AU hsz];unfold DG.row;rw [AU Ad]
 ·rw [AP e,h j hj];unfold DG.row
  by_cases e2:j<i
  ·rw [AU e2,AU Ad]
  ·rw [AP e2,AP Ad]
theorem far_two {W:World} {g b:Nat} {u x y:Value} (hg:g≠b) (h:W.cell? ⟨g,0,none⟩=some u):((W.setCell ⟨b,0,none⟩ x).setCell ⟨b,1,none⟩ y).cell? ⟨g,0,none⟩=some u:=by
 have hon:Dr [b] W ((W.setCell ⟨b,0,none⟩ x).setCell ⟨b,1,none⟩ y):=((Dr.refl [b] W).setCell (p:=⟨b,0,none⟩) Af _).setCell (p:=⟨b,1,none⟩) Af _;have hlt:g<W.heap.size:=by
  rcases Nat.lt_or_ge g W.heap.size with h1 | h1
  ·exact h1
  ·exfalso;simp [World.cell?,BP h1] at h
 exact (hon.cell (p:=⟨g,0,none⟩) hlt (by simpa using hg)).trans h
theorem DG.small_m (x:DG) {n m:Nat} (hm:m=n+1) (h:∀ j,j<n+1->Do (x.num j)):∀ j,j<m->Do (x.num j):=by subst hm;exact h
structure MH (x:DG) (w W8:World) (n gf:Nat) (i:Nat) (cs:Array Value) (wr:World):Prop where
 blk:Ds wr gf cs 9
 row:∀ j,j<=n->cs[j]? = some (.string (x.row i j))
 bd:∀ j,j<i->Bd 100 (x.quo j)
 bel:Below w.heap.size w wr
 res:Ds wr (w.heap.size+2) #[.slice none 0 0,.string ⟨#[]⟩] 30
theorem MH.call {x:DG} {w W8 W W':World} {n gf i:Nat} {cs:Array Value} (h:MH x w W8 n gf i cs W) (hb:Below W.heap.size W W'):MH x w W8 n gf i cs W' :=
 ⟨h.blk.below hb,h.row,h.bd,h.bel.trans (hb.mono h.bel.size),h.res.below hb⟩
theorem GP.good {x:DG} {w w':World} {v:Value} (h:JG x=true) (hb:Below w.heap.size w w') (hs:DS w' v ((List.range x.na.length).map (fun j=>I (x.quo (j+1))))) (ht:TH w' v):GP x w (.returned (.tuple #[.agg #[v,.string (I (x.quo 0))],.int .i64 0])) w':=by
 refine ⟨hb,v,?_,?_,ht⟩
 ·unfold Kf;rw [AU h];exact hs
 ·unfold Kf;rw [AU h]
theorem MH.slice {x:DG} {w W8 W W':World} {n gf k cf:Nat} {cs:Array Value} (h:MH x w W8 n gf k cs W) (hk:k=n+1) (hc:k<=cf) (hm:cf<=maxLen) (_hn:n=x.na.length) (hon:Dr [w.heap.size+2] W W') (hne:gf≠w.heap.size+2) :
  DS W' (.slice (if cf=1 then some ⟨gf,0,none⟩ else some ⟨gf,1,none⟩) (k-1) (cf-1)) ((List.range n).map (fun j=>I (x.quo (j+1)))):=by
 have hb:Ds W' gf cs 9:=(hon.block _ h.blk.lt (by simpa using hne)).trans h.blk
 have hl:((List.range n).map (fun j=>I (x.quo (j+1)))).length=k-1:=by simp;omega
 by_cases e:cf=1
 ·rw [AU e]
  refine .inr ⟨gf,0,cf-1,by rw [hl],by rw [hl];omega,Ad,hb.lt,fun j y hj=>?_⟩;have:=(BR.1 hj).1;rw [hl] at this;omega
 ·rw [AP e]
  refine .inr ⟨gf,1,cf-1,by rw [hl],by rw [hl];omega,Ad,hb.lt,fun j y hj=>?_⟩;have hjl:=(BR.1 hj).1;rw [hl] at hjl;rw [AQ,AR Ad] at hj;have hy:=(B4 hj).symm;show W'.cell? ⟨gf,1+j*1,none⟩=some (.string y);rw [hb.cell,AY,Nat.add_comm,h.row (j+1) Ad,show x.row k (j+1)=I (x.quo (j+1)) from AU Ad,hy]
theorem MH.put {x:DG} {w W8 W:World} {n gf i:Nat} {cs:Array Value} (h:MH x w W8 n gf i cs W) (hi:i<=n) (hg:w.heap.size+2<gf) :
  Ds (W.setCell ⟨gf,i,none⟩ (.string (I (x.quo i)))) gf (cs.setIfInBounds i (.string (I (x.quo i)))) 9/\(∀ j,j<=n->(cs.setIfInBounds i (.string (I (x.quo i))))[j]? = some (.string (x.row (i+1) j)))/\Below w.heap.size w (W.setCell ⟨gf,i,none⟩ (.string (I (x.quo i))))/\Ds (W.setCell ⟨gf,i,none⟩ (.string (I (x.quo i)))) (w.heap.size+2) #[.slice none 0 0,.string ⟨#[]⟩] 30:=by
 have hon:Dr [gf] W (W.setCell ⟨gf,i,none⟩ (.string (I (x.quo i)))):=(Dr.refl [gf] W).setCell (p:=⟨gf,i,none⟩) Af _
 exact ⟨h.blk.set i _,x.row_set h.row hi,h.bel.trans (hon.toBelow h.bel.size (by intro z hz;rw [B3.1 hz];omega)),(hon.block _ h.res.lt (by simp;omega)).trans h.res⟩
theorem Vl (x:DG) (va vb:Value) (w:World) (hE:Fp w) (hA:DS w va x.na) (hB:DS w vb x.nb) (h:Gk x=true) :
  Calls Tryz.prog 18 #[.agg #[va,.string x.da],.agg #[vb,.string x.db],.int .i64 x.p,.int .i64 x.q] w (GP x w):=by
 obtain ⟨aa,ca,rfl⟩:=hA.shape
 obtain ⟨ab,cb,rfl⟩:=hB.shape
 have hmB:JG x=(x.flag x.na.length&&(List.range (x.na.length+1)).all (fun i=>decide (Bd 100 (x.quo i)))):=by unfold JG;rw [h,AS]
 unfold Gk at h
 simp only [Ap,Aq] at h
 obtain ⟨⟨⟨⟨h1,h2⟩,h3⟩,h4⟩,h5⟩:=h
 obtain ⟨g1,g2,g3,g4,g5⟩:=Ep h1
 obtain ⟨t1,t2,t3,t4,t5⟩:=Ep h2
 have FA:=fun W (hW:DS W (.slice aa x.na.length ca) x.na)=>Fa _ x.na x.da W hW
 have FB:=fun W (hW:DS W (.slice ab x.nb.length cb) x.nb)=>Fa _ x.nb x.db W hW
 have P3:=G9 x.p 1 1000
 have P4:=G9 x.q 1 1000
 rw [show (decide (1<=x.p)&&decide (x.p<=1000))=true by simp [h4]] at P3
 rw [show (decide (1<=x.q)&&decide (x.q<=1000))=true by simp [h5]] at P4
 rw [h1] at FA
 rw [h2] at FB
 have hnum0:x.num 0≠0:=by
  have:=BS (BS (show 0<x.p+x.q by omega) g5) t5;show (x.p+x.q)*zS x.da*zS x.db≠0;omega
 obtain ⟨n,hn⟩:∃ n,n=x.na.length:=⟨_,rfl⟩
 have hn2:n=x.nb.length:=by omega
 have HA:=A8 hA
 have HB:=A8 hB
 have hok:Hid ((∀ i,i<n->DK (DH x.na i)=true/\DK (DH x.nb i)=true)/\DK x.da=true/\DK x.db=true):=A8 ⟨fun i hi=>⟨(g2 i Ad).1,(t2 i Ad).1⟩,g3,t3⟩
 have hpq:Hid ((1<=x.p/\x.p<=1000)/\(1<=x.q/\x.q<=1000)):=A8 ⟨h4,h5⟩
 have hnn:Hid (n=x.na.length/\n=x.nb.length/\n<=64):=A8 ⟨hn,hn2,Ad⟩
 clear hA hB h1 h2 h3 h4 h5 g1 g2 g3 g4 g5 t1 t2 t3 t4 t5
 rw [<-hn] at FA HA hmB |-
 rw [<-hn2] at FB HB |-
 replace FA:=A8 FA
 replace FB:=A8 FB
 replace P3:=A8 P3
 replace P4:=A8 P4
 replace hE:=A8 hE
 replace hmB:=A8 hmB
 replace hnum0:=A8 hnum0
 replace hn:=A8 hn
 clear hn2
 obtain ⟨V1,e1,S1,z1⟩:=(BL.start w).add' #[.slice aa n ca,.string x.da] 30
 obtain ⟨V2,e2,S2,z2⟩:=S1.add' #[.slice ab n cb,.string x.db] 30
 obtain ⟨V3,e3,hS,z3⟩:=S2.add' #[.slice none 0 0,.string ⟨#[]⟩] 30
 rw [z2,z1] at hS
 replace hS:BL w [(w.heap.size+2,#[.slice none 0 0,.string ⟨#[]⟩],30),(w.heap.size+1,#[.slice ab n cb,.string x.db],30),(w.heap.size,#[.slice aa n ca,.string x.da],30)] V3:=hS
 have hV:V3=((w.alloc (.cells #[.slice aa n ca,.string x.da] 30)).alloc (.cells #[.slice ab n cb,.string x.db] 30)).alloc (.cells #[.slice none 0 0,.string ⟨#[]⟩] 30):=by rw [e3,e2,e1]
 have zz:=A8 (show V3.heap.size=w.heap.size+3 by rw [z3,z2,z1])
 clear e1 e2 e3 S1 S2 z1 z2 z3
 obtain ⟨x0,x1⟩:=hS.c2 w.heap.size _ _ _ Aj
 obtain ⟨y0,y1⟩:=hS.c2 (w.heap.size+1) _ _ _ Ai
 go_enter Tryz.func18,Tryz.ntmps18
 go_upto_region 1 with fail
 rw [<-hV]
 clear hV
 go_wp2_with fail
 refine Calls.mono (FA.out _ (HA.out.below hS.below)) ?_
 rintro e w1 ⟨rfl,hb⟩
 replace hS:=hS.call hb
 have hsz1:=A8 hb.size
 clear x0 x1 y0 y1 hb
 obtain ⟨x0,x1⟩:=hS.c2 w.heap.size _ _ _ Aj
 obtain ⟨y0,y1⟩:=hS.c2 (w.heap.size+1) _ _ _ Ai
 go_wp2_with fail
 refine Calls.mono (FB.out _ (HB.out.below hS.below)) ?_
 rintro e w2 ⟨rfl,hb⟩
 replace hS:=hS.call hb
 have hsz2:=A8 hb.size
 clear x0 x1 y0 y1 hb
 obtain ⟨x0,x1⟩:=hS.c2 w.heap.size _ _ _ Aj
 obtain ⟨y0,y1⟩:=hS.c2 (w.heap.size+1) _ _ _ Ai
 go_wp2_with fail
 refine Calls.mono (P3.out _) ?_
 rintro e w3 ⟨rfl,hb⟩
 replace hS:=hS.call hb
 have hsz3:=A8 hb.size
 clear x0 x1 y0 y1 hb
 obtain ⟨x0,x1⟩:=hS.c2 w.heap.size _ _ _ Aj
 obtain ⟨y0,y1⟩:=hS.c2 (w.heap.size+1) _ _ _ Ai
 go_wp2_with fail
 refine Calls.mono (P4.out _) ?_
 rintro e w4 ⟨rfl,hb⟩
 replace hS:=hS.call hb
 have hsz4:=A8 hb.size
 clear x0 x1 y0 y1 hb
 obtain ⟨x0,x1⟩:=hS.c2 w.heap.size _ _ _ Aj
 obtain ⟨y0,y1⟩:=hS.c2 (w.heap.size+1) _ _ _ Ai
 go_upto_region 5 with fail
 clear x0 x1 y0 y1
 have hlt4:w.heap.size+3<=w4.heap.size:=by have:=zz.out;have:=hsz1.out;have:=hsz2.out;have:=hsz3.out;have:=hsz4.out;omega
 obtain ⟨W5,hW5⟩:∃ W,W=w4.alloc (.cells #[.bool true] 4):=⟨_,rfl⟩
 rw [<-hW5]
 have hk5:Ds W5 w4.heap.size #[.bool true] 4:=by rw [hW5];exact Ds.new w4 #[.bool true] 4
 have hs5:W5.heap.size=w4.heap.size+1:=by rw [hW5,Bh]
 have ho5:Dr [] w4 W5:=by rw [hW5];exact (Dr.refl [] w4).alloc _
 have hS5:=hS.call (ho5.toBelow (Aa _) Af)
 clear hW5 ho5 hS hsz1 hsz2 hsz3 hsz4 zz FA FB P3 P4
 generalize w4.heap.size=Bk at *
 have hA5:=hS5.blks _ Aj
 have hB5:=hS5.blks _ Ai
 have hR5:=hS5.blks _ Ah
 dsimp only at hA5 hB5 hR5
 have cc:∀ (W:World),Dr [Bk] W5 W->Ds W w.heap.size #[.slice aa n ca,.string x.da] 30/\Ds W (w.heap.size+1) #[.slice ab n cb,.string x.db] 30/\Ds W (w.heap.size+2) #[.slice none 0 0,.string ⟨#[]⟩] 30:=fun W hW =>
  ⟨(hW.block _ hA5.lt (by simp;omega)).trans hA5,(hW.block _ hB5.lt (by simp;omega)).trans hB5,(hW.block _ hR5.lt (by simp;omega)).trans hR5⟩
 replace cc:=A8 cc
 replace hs5:=A8 hs5
 replace hlt4:=A8 hlt4
 have hbel5:=A8 hS5.below
 clear hA5 hB5 hR5 hS5
 refine mix_r5 (p:=x.p) (q:=x.q) (pq:=x.p+x.q) (b0:=w.heap.size) (b1:=w.heap.size+1) (Bk:=Bk) (da:=x.da) (db:=x.db) (w0:=w) hE (A8 ⟨hbel5.out,by have:=hlt4.out;omega⟩) (by have:=hpq.out;exact BT _ Ad) (A8 (by have:=hpq.out;exact ⟨by unfold Dy;omega,(bd11 Ad).small Ae⟩)) (A8 hok.out.2)
  (A8 (fun W hW=>⟨(cc.out W hW).1.cell 1,(cc.out W hW).2.1.cell 1⟩)) (A8 (by have:=hs5.out;omega)) (A8 hk5) Ab ?_
 intro v50 v51 v52 v53 v54 v55 v56 v57 v58 v59 v60 v61 gr W6 hO6 hk6 hr6
 clear hk5
 obtain ⟨a6,b6,r6⟩:=cc.out W6 hO6
 have hbel6:=A8 (hbel5.out.trans (hO6.toBelow hbel5.out.size (by intro z hz;rw [B3.1 hz];have:=hlt4.out;omega)))
 have hs6:=A8 hO6.size
 have x0:=a6.cell 0
 replace a6:=A8 a6
 replace b6:=A8 b6
 replace r6:=A8 r6
 replace hk6:=A8 hk6
 replace hr6:=A8 hr6
 clear hO6 cc
 go_wp2_with fail
 refine mix_l0 (x:=x) (b0:=w.heap.size) (b1:=w.heap.size+1) (Bk:=Bk) (n:=n) (base:=W5.heap.size) (g0:=gr) (w0:=w) hE (A8 ⟨hbel6.out,by have:=hlt4.out;omega,by have:=hs5.out;omega,hs6.out⟩) hpq hnn hok
  (A8 ⟨⟨by have:=hs5.out;have:=hlt4.out;omega,by have:=hlt4.out;omega,a6.out.cell 0,a6.out.cell 1⟩,⟨by have:=hs5.out;have:=hlt4.out;omega,by have:=hlt4.out;omega,b6.out.cell 0,b6.out.cell 1⟩⟩) HA HB hk6 hr6 Ab ?_
 intro gf cf u13 u14 u15 u65 u66 u67 u68 u69 u70 u71 u72 u73 u74 u75 u76 u77 u78 u79 u80 u81 u82 u83 u84 u85 u86 u87 u88 u89 u90 u91 u92 u93 u94 u95 u96 u97 u98 u99 u100 u101 u102 u103 u104 u105 W7 hbW hk7 hr7 hs7
 have kR:Hid (Ds W7 (w.heap.size+2) #[.slice none 0 0,.string ⟨#[]⟩] 30):=A8 ((hs7.out (w.heap.size+2) (by have:=hs5.out;have:=hlt4.out;omega) (by have:=hlt4.out;omega)).trans r6.out:Ds W7 (w.heap.size+2) #[.slice none 0 0,.string ⟨#[]⟩] 30)
 have hbs:=A8 (show w.heap.size+3<W5.heap.size by have:=hs5.out;have:=hlt4.out;omega)
 clear x0 hs7 r6 a6 b6 hs6 hbel6 hbel5 hs5 hlt4 hk6 hr6 HA HB hok hpq
 have z0:=(hk7.out.cell 0).trans (show _=some (Value.bool (x.flag n)) from rfl)
 cases hfl:x.flag n
 case false =>
  rw [hfl] at z0;have hbad:Hid (JG x=false):=A8 (by rw [hmB.out,hfl];rfl);have f0:=kR.out.frozen 0;have f1:=kR.out.frozen 1;have r0:=(kR.out.cell 0).trans (show _=some (Value.slice none 0 0) from rfl);have r1:=(kR.out.cell 1).trans (show _=some (Value.string ⟨#[]⟩) from rfl);obtain ⟨⟨k0,k1⟩,hfin,-⟩:=DD kR.out (by show w.heap.size<=w.heap.size+2;omega) hbW.out (.slice none 0 0) (.string ⟨#[]⟩);have hfin:=A8 (GP.bad hbad.out hfin);try dsimp only at k0 k1
  clear kR hbW hbad hk7 hr7 hfl;go_wp2;exact bodyPost_ret (v:=.tuple #[.agg #[.slice none 0 0,.string ⟨#[]⟩],.int .i64 60]) (by simp [results,Tryz.results18,go_sem,k0,k1]) rfl hfin.out
 case true =>
  rw [hfl] at z0;obtain ⟨cs,kr,hgb,hnc,hcm,hcs⟩:=x.row_open hfl hr7.out;have hsm:∀ j,j<n+1->Do (x.num j):=fun j hj=>(x.good (x.flag_le hfl (show j<=n by omega))).2
  clear hk7 hr7;obtain ⟨m,hm⟩:∃ m,m=n+1:=⟨_,rfl⟩;rw [<-hm] at hnc |-;have hsM:=A8 (x.small_m hm hsm);have I1:MH x w W7 n gf 0 cs W7:=⟨kr,hcs,fun j hj=>by omega,hbW.out,kR.out⟩;replace I1:=A8 I1;have hgp:Hid (0<x.gcd m):=A8 (by rw [hm];exact x.gcd_pos hnum0.out n);have hg2:Hid (w.heap.size+2<gf):=A8 (by have:=hbs.out;omega);replace hmB:Hid (JG x=(List.range m).all fun i=>decide (Bd 100 (x.quo i))):=A8 (by rw [hmB.out,hfl,hm];rfl);have hqe:Hid (∀ i,x.quo i=x.num i / x.gcd m):=A8 (fun i=>by unfold DG.quo;rw [hm,hn.out]);have hI0:Value.string ⟨#[48]⟩=.string (I (x.gcd 0)):=by rw [show x.gcd 0=0 from rfl,Sf]
  have hm64:m<=65:=by have:=hnn.out.2.2;omega
  replace hm:=A8 hm;replace hI0:=A8 hI0;replace hfl:=A8 hfl;clear hsm hcs kr kR hbW hbs hgb hnn hnum0;go_wp2_with fail;go_loopw [16,111] (fun s o wr=>∃ i:Nat,s=.string (I (x.gcd i))/\o=.int .i64 i/\i<=m/\Hid (Below W7.heap.size W7 wr)) (fun _ o _=>m-(intOf o).toNat);case atStart=>exact ⟨0,hI0.out,rfl,Ad,A8 (Below.refl _ _)⟩
  case round =>
   clear z0;obtain ⟨i,rfl,rfl,hi,hB⟩:=hrel;by_cases him:i<m;case pos =>
    have him':(i:Int)<m:=by omega
    have hi0:(0:Int)<=i:=by omega
    have y0:=((I1.out.call hB.out).blk.cell i).trans ((I1.out.call hB.out).row i (by have:=hm.out;omega));rw [show x.row 0 i=I (x.num i) from AP Ad] at y0;have GC:=A8 (fun W (hW:Fp W)=>(by have:=gcd_any (I (x.gcd i)) (I (x.num i)) W hW;rw [Eh (x.gcd_small hsM.out hi),Eh (hsM.out i him),Ee,Ee,AX,show EM (x.gcd i) (x.num i)=x.gcd (i+1) from rfl,F6 (x.gcd_small hsM.out him)] at this;exact this:Calls Tryz.prog 54 #[.string (I (x.gcd i)),.string (I (x.num i))] W (DA W fun r _=>r=.tuple #[.string (I (x.gcd (i+1))),.int .i64 0])));have hEr:=A8 (hE.out.below (I1.out.call hB.out).bel (Aa _));generalize I (x.num i)=t1 at *
    generalize I (x.gcd i)=t2 at *
    generalize ht3:I (x.gcd (i+1))=t3 at *
    replace ht3:=A8 ht3;go_wp2_with fail;refine Calls.mono (GC.out _ hEr.out) ?_;rintro e w9 ⟨⟨r,rfl,rfl⟩,hb⟩;replace hB:=A8 (hB.out.trans (hb.mono hB.out.size));clear y0 GC hEr hb;go_wp2_with fail;go_roundw;case rel=>exact ⟨i+1,by rw [ht3.out],by go_num,Ad,hB⟩
    case measure=>simp [intOf];omega
   case neg =>
    have him':¬ (i:Int)<m:=by omega
    obtain rfl:i=m:=by omega
    replace I1:=A8 (I1.out.call hB.out);clear hB hi;have hGs:=A8 (x.gcd_small hsM.out (Aa _));go_wp2_with fail;go_loopw [124] (fun o wr2=>∃ (k:Nat) (ds:Array Value),o=.int .i64 k/\k<=i/\Hid (MH x w W7 n gf k ds wr2)) (fun o _=>i-(intOf o).toNat);case atStart=>exact ⟨0,cs,rfl,Ad,I1⟩
    case round =>
     clear I1 him him';obtain ⟨k,ds,rfl,hk,J⟩:=hrel;by_cases hki:k<i;case pos =>
      have hki':(k:Int)<i:=by omega
      have hk0:(0:Int)<=k:=by omega
      have hkn:k<=n:=by have:=hm.out;omega
      have y0:=(J.out.blk.cell k).trans (J.out.row k hkn);rw [show x.row k k=I (x.num k) from AP Ad] at y0;have hqs:Do (x.quo k):=by rw [hqe.out];exact (HI (hsM.out k hki)).1
      have DV:=A8 (fun W (hW:Fp W)=>(by have:=div_any (I (x.num k)) (I (x.gcd i)) W hW;rw [Eh hGs.out,Eh (hsM.out k hki),Ee,Ee,AX] at this;unfold GF at this;rw [AU (by have:=hgp.out;simp;omega),<-hqe.out k] at this;exact this:Calls Tryz.prog 55 #[.string (I (x.num k)),.string (I (x.gcd i))] W (DA W fun r _=>r=.tuple #[.string (I (x.quo k)),.string (I (x.num k % x.gcd i)),.int .i64 0])));have IN:=A8 (fun W=>(by have:=Ip (I (x.quo k)) W;rw [Rp hqs] at this;exact this:Calls Tryz.prog 56 #[.string (I (x.quo k))] W (DR W (.bool (decide (Bd 100 (x.quo k)))))));have hEr:=A8 (hE.out.below J.out.bel (Aa _));obtain ⟨tq,htq⟩:∃ t,t=I (x.quo k):=⟨_,rfl⟩;rw [<-htq] at DV IN;generalize I (x.num k)=t1 at *
      generalize ht2:I (x.gcd i)=t2 at *
      generalize I (x.num k % x.gcd i)=t3 at *
      replace ht2:=A8 ht2;clear hqs;go_wp2_with fail;refine Calls.mono (DV.out _ hEr.out) ?_;rintro e w9 ⟨⟨r,rfl,rfl⟩,hb⟩;replace J:=A8 (J.out.call hb);clear y0 DV hEr hb;have y0:=(J.out.blk.cell k).trans (J.out.row k hkn);have y1:=J.out.blk.frozen k;obtain ⟨q1,q2,q3,q4⟩:=J.out.put hkn hg2.out;rw [<-htq] at q1 q2 q3 q4;have q5:=(q1.cell k).trans ((q2 k hkn).trans (by rw [show x.row (k+1) k=I (x.quo k) from AU Ad,<-htq]));replace htq:=A8 htq;replace q1:=A8 q1;replace q2:=A8 q2;replace q3:=A8 q3;replace q4:=A8 q4;go_upto_region 25 with fail;generalize w9.setCell ⟨gf,k,none⟩ (.string tq)=W10 at *
      clear y0 y1;go_wp2_with fail;refine Calls.mono (IN.out _) ?_;rintro e w11 ⟨rfl,hb⟩;replace q1:=A8 (q1.out.below hb);replace q3:=A8 (q3.out.trans (hb.mono q3.out.size));replace q4:=A8 (q4.out.below hb);clear q5 hb IN;by_cases hbd:Bd 100 (x.quo k)
      ·rw [AF hbd]
       have J2:=A8 (⟨q1.out,q2.out,fun j hj=>if e:j=k then e ▸ hbd else J.out.bd j Ad,q3.out,q4.out⟩:MH x w W7 n gf (k+1) _ w11);clear q1 q2 q3 q4 J hbd;go_wp2_with fail;go_roundw;case rel=>exact ⟨k+1,_,by go_num,Ad,J2⟩
       case measure=>simp [intOf];omega
      ·rw [Al hbd]
       have hbad:Hid (JG x=false):=A8 (by rw [hmB.out,AA];exact ⟨k,AB.2 hki,by simpa using hbd⟩);have hbW:=q3;have kR:=q4;clear q1 q2 q3 q4 hbd J;have f0:=kR.out.frozen 0;have f1:=kR.out.frozen 1;have r0:=(kR.out.cell 0).trans (show _=some (Value.slice none 0 0) from rfl);have r1:=(kR.out.cell 1).trans (show _=some (Value.string ⟨#[]⟩) from rfl);obtain ⟨⟨k0,k1⟩,hfin,-⟩:=DD kR.out (by show w.heap.size<=w.heap.size+2;omega) hbW.out (.slice none 0 0) (.string ⟨#[]⟩);have hfin:=A8 (GP.bad hbad.out hfin);try dsimp only at k0 k1
       clear kR hbW hbad;go_wp2;exact bodyPost_ret (v:=.tuple #[.agg #[.slice none 0 0,.string ⟨#[]⟩],.int .i64 60]) (by simp [results,Tryz.results18,go_sem,k0,k1]) rfl hfin.out
     case neg =>
      have hki':¬ (k:Int)<i:=by omega
      obtain rfl:k=i:=by omega
      have hgood:Hid (JG x=true):=A8 (by rw [hmB.out,AE];intro j hj;simpa using J.out.bd j (AB.1 hj));have hk1:(1:Int)<=k:=by have:=hm.out;omega
      have hkc:(k:Int)<=cf:=by omega
      have y0:=(J.out.blk.cell 0).trans (J.out.row 0 Ad);rw [show x.row k 0=I (x.quo 0) from AU Ad] at y0;have hne:gf≠w.heap.size+2:=by have:=hg2.out;omega
      have f0:=J.out.res.frozen 0;have f1:=J.out.res.frozen 1;have r0:=(J.out.res.cell 0).trans (show _=some (Value.slice none 0 0) from rfl);have r1:=(J.out.res.cell 1).trans (show _=some (Value.string ⟨#[]⟩) from rfl);go_upto_region 28 with fail;clear hE hqe hm64 hsM hmB;have hC:=A8 (fun (W:World) (hW:Below wr.heap.size wr W)=>(hW.cell (p:=⟨gf,0,none⟩) J.out.blk.lt).trans y0);have hk01:(0:Int)<k:=by omega
      have hk02:0<k:=by omega
      have hk03:1<=k:=by omega
      have hk04:1<=cf:=by omega
      have hk05:k<=cf:=by omega
      have hk06:(1:Int)<=cf:=by omega
      generalize hq0:I (x.quo 0)=q0 at *
      replace hq0:=A8 hq0;go_region_held3 (fun w'=>w'.cell? ⟨gf,0,none⟩=some (.string q0))
       (first | (with_reducible exact y0) | (with_reducible exact hC.out _ (Dq wr 1)) | (refine far_two hne ?_;first | (with_reducible exact y0) | (with_reducible exact hC.out _ (Dq wr 1))) | go_keep) (fail)
      obtain ⟨⟨k0,k1⟩,hfin,hon⟩:=DD J.out.res (by show w.heap.size<=w.heap.size+2;omega) J.out.bel (.slice (if cf=1 then some ⟨gf,0,none⟩ else some ⟨gf,1,none⟩) (k-1) (cf-1)) (.string q0);have hsl:=J.out.slice hm.out hnc hcm hn.out hon hne;have hty:TH _ (.slice (if cf=1 then some ⟨gf,0,none⟩ else some ⟨gf,1,none⟩) (k-1) (cf-1)):=fun b e=>by
       have e2:gf=b:=by by_cases h1:cf=1 <;> simp [h1,Value.ownBlock] at e <;> exact e
       subst e2;exact ⟨_,(hon.block _ J.out.blk.lt (by simpa using hne)).trans J.out.blk⟩
      try dsimp only at k0 k1
      generalize (if cf=1 then some (⟨gf,0,none⟩:Addr) else some ⟨gf,1,none⟩)=sa at *
      have hend:=A8 (GP.good hgood.out (hfin.trans ((Dq _ 1).mono hfin.size)) (by rw [<-hn.out];exact hsl.below (Dq _ 1)) (hty.below (Dq _ 1)));rw [hq0.out] at hend;clear hfin hon hsl hty y0 r0 r1 f0 f1 hC J hgood;go_wp2;exact bodyPost_ret (v:=.tuple #[.agg #[.slice sa (k-1) (cf-1),.string q0],.int .i64 0]) (by simp [results,Tryz.results18,go_sem,k0,k1]) rfl hend.out
end
section
open Go.RowKit
def Nm (fs:Ei) (v:Value) (l:List Int):Prop :=
 (v=.slice none 0 0/\l=[])∨∃ g cap cs,v=.slice (some ⟨g,0,none⟩) l.length cap/\l.length<=cap/\cap<=maxLen/\cs.size=cap/\(g,cs,(3:TypeId))∈fs/\cs.toList.take l.length=l.map (Value.int .i64)
theorem Nm.mono {fs gs:Ei} {v:Value} {l:List Int} (h:Nm fs v l) (hs:∀ p∈fs,p∈gs):Nm gs v l:=by
 rcases h with h | ⟨g,cap,cs,h1,h2,h3,h4,h5,h6⟩
 ·exact .inl h
 ·exact .inr ⟨g,cap,cs,h1,h2,h3,h4,hs _ h5,h6⟩
theorem Nm.shape {fs:Ei} {v:Value} {l:List Int} (h:Nm fs v l):∃ a cap,v=.slice a l.length cap:=by
 rcases h with ⟨rfl,rfl⟩ | ⟨g,cap,cs,h1,_⟩
 ·exact ⟨_,_,rfl⟩
 ·exact ⟨_,_,h1⟩
theorem Nm.sl {fs:Ei} {v:Value} {l:List Int} (h:Nm fs v l) {w W:World} {L:Ei} {R:List En} (hM:Dp w L R W) (hs:∀ p∈fs,p∈L):Sl W v l:=by
 rcases h with h | ⟨g,cap,cs,h1,h2,h3,h4,h5,h6⟩
 ·exact .inl h
 ·have hb:=hM.blks _ (hs _ h5)
  refine .inr ⟨g,0,cap,h1,h2,h3,hb.lt,fun j hj=>?_⟩;rw [BN,hb.cell];have e:=BK (fun z=>z[j]?) h6;simp only [BM,hj,if_true,AQ,Ax hj] at e;rw [BU] at e;rw [e,FE hj];rfl
theorem Dp.freezeI {w W:World} {L:Ei} {R:List En} {v:Value} {l:List Int} {n:Nat} (hn:n=l.length) (h:Dp w L (⟨3,1,v,n,l.map (Value.int .i64)⟩ :: R) W):∃ gs:Ei,Nm gs v l/\Dp w (gs++L) R W:=by
 subst hn;rcases h.freeze with ⟨rfl,h1,h2,h3⟩ | ⟨g,cap,cs,rfl,h1,h2,h3,h4,h5⟩
 ·exact ⟨[],.inl ⟨rfl,by simpa using h2⟩,h3⟩
 ·exact ⟨[(g,cs,3)],.inr ⟨g,cap,cs,rfl,h1,h2,Ad,Br,by rw [AY] at h4;exact h4⟩,h5⟩
structure H9 (fs:Ei) (rows:List (List Int×Int)) (xs:List Value):Prop where
 len:xs.length=rows.length*2
 at_:∀ j r,rows[j]? = some r->∃ v,xs[j*2]? = some v/\xs[j*2+1]? = some (.int .i64 r.2)/\Nm fs v r.1
theorem H9.nil (fs:Ei):H9 fs [] []:=⟨rfl,fun j r h=>by simp at h⟩
theorem H9.snoc {fs gs:Ei} {rows:List (List Int×Int)} {xs:List Value} {v:Value} {l:List Int} {z:Int} (h:H9 fs rows xs) (hv:Nm gs v l) (hs:∀ p∈fs,p∈gs):H9 gs (rows++[(l,z)]) (xs++[v,.int .i64 z]):=by
 refine ⟨by simp [h.len];omega,fun j r hj=>?_⟩;by_cases hlt:j<rows.length
 ·rw [BV hlt] at hj
  obtain ⟨u,h1,h2,h3⟩:=h.at_ j r hj;refine ⟨u,?_,?_,h3.mono hs⟩
  ·rw [BV (by rw [h.len];omega)];exact h1
  ·rw [BV (by rw [h.len];omega)];exact h2
 ·have hj':j=rows.length:=by
   have:=(BR.1 hj).1;simp at this;omega
  subst hj'
  simp at hj
  subst hj
  refine ⟨v,?_,?_,hv⟩
  ·rw [BW (by rw [h.len];omega),h.len];simp
  ·rw [BW (by rw [h.len];omega),h.len,show rows.length*2+1-rows.length*2=1 by omega];rfl
theorem H9.mono {fs gs:Ei} {rows:List (List Int×Int)} {xs:List Value} (h:H9 fs rows xs) (hs:∀ p∈fs,p∈gs):H9 gs rows xs:=⟨h.len,fun j r hj=>by
 obtain ⟨v,h1,h2,h3⟩:=h.at_ j r hj;exact ⟨v,h1,h2,h3.mono hs⟩⟩
theorem H9.slE {w W:World} {L fs:Ei} {R:List En} {v:Value} {n:Nat} {rows:List (List Int×Int)} {xs:List Value} (h:H9 fs rows xs) (hM:Dp w L (⟨57,2,v,n,xs⟩ :: R) W) (hn:n=rows.length) (hs:∀ p∈fs,p∈L):EX W v rows:=by
 refine JJ.of_own hM.own0 hn fun b hb hc j r hj=>?_
 obtain ⟨u,h1,h2,h3⟩:=h.at_ j r hj;exact ⟨u,hc _ _ h1,(h3.sl hM hs).w,hc _ _ h2⟩
theorem On {o:Oper} {a:Act} {Q:Exit->Act->World->Prop} {K:Act->World->Prop} {w0 w:World} {L:Ei} {R:List En} {s x:Operand} {g:Nat} (ho:o.op=.call { callee:=.builtin .append,args:=#[s,x],argTypes:=#[22,22] })
  (hM:Dp w0 ((g,#[],3) :: L) R w) (hs:a.eval s=.slice (some ⟨g,0,none⟩) 0 0) {u:Value} (hx:a.eval x=u) {l:List Int} (hu:Sl w u l) (hn:l.length<=1000000)
  (h:∀ (gs:Ei) (av:Option Addr) (cap:Nat) (w':World),Nm gs (.slice av l.length cap) l->Dp w0 (gs++L) R w'->K (a.put o.dst (.slice av l.length cap)) w'):Oper.wp Tryz.prog o a w K Q:=by
 obtain ⟨i0,hi,hz0,hz1,hz2⟩:=info_parts FJ
 have H:∃ gs av cap w',(Builtin.append_ #[22,22] o.type #[.slice (some ⟨g,0,none⟩) 0 0,u]).run Tryz.prog w=.ok (.slice av l.length cap) w'/\Nm gs (.slice av l.length cap) l/\Dp w0 (gs++L) R w':=by
  by_cases hl:l=[]
  ·subst hl
   have hsrc:Src Tryz.prog i0.size 22 u 0 [] w:=by
    rcases hu with ⟨rfl,_⟩ | ⟨b,off,cap,rfl,_⟩
    ·exact Src.ofNil w Tryz.underlying22 0
    ·exact Src.ofSlice w Tryz.underlying22 ⟨b,off,none⟩ 0 cap [] Af Af Af
   exact ⟨[(g,#[],3)],some ⟨g,0,none⟩,0,w,run_append_nothing w 22 22 o.type 3 i0 Tryz.underlying22 hi _ 0 0 (Aa _) u hsrc,.inr ⟨g,0,#[],rfl,Aa _,AO _,rfl,Br,rfl⟩,hM⟩
  ·rcases hu with ⟨_,e⟩ | ⟨b,off,cap,rfl,h1,h2,h3,h4⟩
   ·exact absurd e hl
   have hpos:0<l.length:=List.length_pos_iff.2 hl;obtain ⟨v',w',hrun,r1,r2⟩:=run_append_arg_grows (P:=Tryz.prog) w 22 o.type 3 i0 (.int .i64 0) 1 8 Tryz.underlying22 hi hz0 hz1 hz2 rfl Ae ⟨g,0,none⟩ 0 0 [] rfl (fun j u hj=>by simp at hj) ⟨b,off,none⟩ l.length cap (l.map (Value.int .i64)) Af (fun j y hj=>by
    rw [Es];rw [AQ] at hj;by_cases hjl:j<l.length
    ·rw [h4 j hjl,FE hjl]
     rw [Ax hjl] at hj;exact hj
    ·rw [BX Ad] at hj;cases hj) Ad (by unfold maxLen;omega) Ad
   have hM1:Dp w0 L (⟨3,1,v',0+l.length,[]++l.map (Value.int .i64)⟩ :: R) w':=(hM.tail.row0 3 1).app0 r2 (IL r1 hM.size) (fun b hb=>.inr (r1.lt b hb).1);rw [BN,BY] at hM1;obtain ⟨gs,hin,hM2⟩:=hM1.freezeI (l:=l) rfl;obtain ⟨av,cp,rfl⟩:=hin.shape;exact ⟨gs,av,cp,w',hrun,hin,hM2⟩
 obtain ⟨gs,av,cap,w',hrun,hin,hM2⟩:=H
 unfold Oper.wp
 simp [execOp,ho,resolve,invoke,builtin,hs,hx,hrun,Result.andThen]
 exact h gs av cap w' hin hM2
def SolP (cols:Nat) (rows:List (List Int×Int)) (w:World) (e:Ending) (w':World):Prop:=Below w.heap.size w w' /\
 ((∃ nv nums den,e=.returned (.tuple #[.agg #[.bool true,nv,.string den,.slice none 0 0],.int .i64 0])/\DS w' nv nums/\Fu cols rows nums den=true) ∨
  (∃ wv ws,e=.returned (.tuple #[.agg #[.bool false,.slice none 0 0,.string ⟨#[]⟩,wv],.int .i64 0])/\DS w' wv ws/\Em cols rows ws=true))
theorem KD (cols:Nat) (v:Value) (rows:List (List Int×Int)) (w:World) (hE:Fp w) (h:EX w v rows) (hv:Ea cols rows=true) (h8:rows.length<=8) :
  Calls Tryz.prog 9 #[.agg #[.int .i64 cols,v]] w (SolP cols rows w):=by
 have hl:=low8 hv h8
 refine (UY cols v rows w hE h hv (low_wd hl) (low_tx hl)).mono ?_
 rintro e w' ⟨B,hI,hend,hb,⟨h0,nv,he,hs⟩ | ⟨h0,wv,he,hs⟩⟩
 ·exact ⟨hb,.inl ⟨nv,_,_,he,hs,Ty hv hl hI h0⟩⟩
 ·exact ⟨hb,.inr ⟨wv,_,he,hs,PS hv hl hI hend h0⟩⟩
end
section
open Go.RowKit
open LnM (sm)
structure TA (rows:List (List Int×Int)) (n:Nat) (x:Nat->Int) (d:Int):Prop where
 pos:0<d
 nn:∀ k,k<n->0<=x k
 eq:∀ i,i<rows.length->sm n (fun k=>x k*gi (Dl rows i).1 k)=d*(Dl rows i).2
structure RefZ (rows:List (List Int×Int)) (n:Nat) (w:Nat->Int):Prop where
 nn:∀ k,k<n->0<=sm rows.length (fun i=>w i*gi (Dl rows i).1 k)
 neg:sm rows.length (fun i=>w i*(Dl rows i).2)<0
theorem TB {rows:List (List Int×Int)} {n:Nat} {x w:Nat->Int} {d:Int} (h:TA rows n x d) (g:RefZ rows n w):False:=by
 have e1:sm rows.length (fun i=>w i*sm n (fun k=>x k*gi (Dl rows i).1 k))=d*sm rows.length (fun i=>w i*(Dl rows i).2):=by
  rw [<-LnM.sm_mul];exact LnM.sm_congr fun i hi=>by rw [h.eq i hi,<-AL,AM (w i),AL]
 have e2:sm rows.length (fun i=>w i*sm n (fun k=>x k*gi (Dl rows i).1 k))=sm n (fun k=>x k*sm rows.length (fun i=>w i*gi (Dl rows i).1 k)):=by
  rw [show (fun i=>w i*sm n (fun k=>x k*gi (Dl rows i).1 k))=(fun i=>sm n (fun k=>w i*(x k*gi (Dl rows i).1 k))) from by funext i;rw [LnM.sm_mul],LnM.sm_swap];refine LnM.sm_congr fun k _=>?_
  rw [<-LnM.sm_mul];exact LnM.sm_congr fun i _=>by rw [<-AL,AM (w i),AL]
 have e3:0<=sm n (fun k=>x k*sm rows.length (fun i=>w i*gi (Dl rows i).1 k)):=LnM.sm_nonneg fun k hk=>BZ (h.nn k hk) (g.nn k hk)
 have e4:=C0 h.pos g.neg;omega
theorem I4 {cols:Int} {rows:List (List Int×Int)} {nums:List ByteArray} {den:ByteArray} (h:Fu cols rows nums den=true):Ea cols rows=true/\DX nums den=true/\(nums.length:Int)=cols:=by
 unfold Fu at h;simp only [Ap,C4] at h;exact ⟨h.1.1.1,h.1.1.2,h.1.2⟩
theorem Ma {cols:Int} {rows:List (List Int×Int)} {nums:List ByteArray} {den:ByteArray} (h:Fu cols rows nums den=true):TA rows nums.length (fun k=>zS (DH nums k)) (zS den):=by
 obtain ⟨_,hf,_⟩:=I4 h;obtain ⟨_,q2,_,_,q5⟩:=Ep hf;unfold Fu at h;simp only [Ap] at h;refine ⟨q5,fun k hk=>(q2 k hk).2.2,fun i hi=>?_⟩;have:=AE.1 h.2 _ (Ga hi);rw [Aq] at this;exact this
theorem IQ {cols:Int} {rows:List (List Int×Int)} {ws:List ByteArray} (h:Em cols rows ws=true):Ea cols rows=true/\ws.length=rows.length/\(∀ s∈ws,numB s=true):=by
 unfold Em at h;simp only [Ap,Aq,C4,Ar,As] at h;exact ⟨h.1.1.1.1,by have:=h.1.1.1.2;omega,fun s hs=>by have:=h.1.1.2 s hs;simpa using this⟩
theorem Od {cols:Nat} {rows:List (List Int×Int)} {ws:List ByteArray} (h:Em cols rows ws=true):RefZ rows cols (fun i=>zS (DH ws i)):=by
 obtain ⟨_,hl,_⟩:=IQ h;unfold Em at h;simp only [Ap,Aq] at h;obtain ⟨⟨_,hk⟩,hneg⟩:=h;rw [hl] at hk hneg;refine ⟨fun k hkc=>?_,hneg⟩;have:=AE.1 hk k (AB.2 (by simpa using hkc));rw [Aq] at this;exact this
def E6.hidN (x:E6):List ByteArray:=(List.range x.c).map (fun k=>I (x.hid k))
theorem V9 {n:Nat} (f:Nat->Int) {k:Nat} (h:k<n):gi ((List.range n).map f) k=f k:=by
 unfold gi;rw [AQ,AR h];rfl
theorem Va {z:Int} (h:z.natAbs<10 ^ 9):Bd 100 z:=by
 have:Bd 9 z:=by unfold Bd;omega
 exact this.mono Ae
theorem Mb {z:Int} (h:z.natAbs<10 ^ 9):numB (I z)=true:=Ll (Va h)
theorem tdivL3 {m:Int} (h:Dy m):Dy (m.tdiv 3)/\IntKind.i64.wrap (m.tdiv 3)=m.tdiv 3:=by
 have h1:m.tdiv 3<=9223372036854775807/\-9223372036854775808<=m.tdiv 3:=by
  have:=Int.natAbs_tdiv_le_natAbs m 3;unfold Dy at h;refine ⟨?_,Ad⟩;rcases Int.lt_or_le 0 m with h0 | h0
  ·omega
  ·obtain ⟨b,rfl⟩:∃ b:Int,m=-b:=⟨-m,Ad⟩
   rw [Int.neg_tdiv,C5 Ad];omega
 exact ⟨⟨h1.2,h1.1⟩,BT _ ⟨h1.2,h1.1⟩⟩
theorem tdivL30 {m:Int} (h:Dy m):Dy (m.tdiv 30)/\IntKind.i64.wrap (m.tdiv 30)=m.tdiv 30:=by
 have h1:m.tdiv 30<=9223372036854775807/\-9223372036854775808<=m.tdiv 30:=by
  have:=Int.natAbs_tdiv_le_natAbs m 30;unfold Dy at h;refine ⟨?_,Ad⟩;rcases Int.lt_or_le 0 m with h0 | h0
  ·omega
  ·obtain ⟨b,rfl⟩:∃ b:Int,m=-b:=⟨-m,Ad⟩
   rw [Int.neg_tdiv,C5 Ad];omega
 exact ⟨⟨h1.2,h1.1⟩,BT _ ⟨h1.2,h1.1⟩⟩
end
section
open Go.RowKit
structure Ru (w:World) (sb so:Nat) (rows:List (List Int×Int)) (c:Nat):Prop where
 lt:sb<w.heap.size
 row:∀ i,i<rows.length->∃ cb co cc,w.cell? ⟨sb,so+i*2,none⟩=some (.slice (some ⟨cb,co,none⟩) c cc)/\Sl w (.slice (some ⟨cb,co,none⟩) c cc) (Dl rows i).1/\cb<w.heap.size/\(∀ k,k<c->w.cell? ⟨cb,co+k,none⟩=some (.int .i64 (gi (Dl rows i).1 k)))/\w.cell? ⟨sb,so+i*2+1,none⟩=some (.int .i64 (Dl rows i).2)
theorem Ru.below {w W:World} {sb so:Nat} {rows:List (List Int×Int)} {c:Nat} (h:Ru w sb so rows c) (hb:Below w.heap.size w W):Ru W sb so rows c :=
 ⟨A9 h.lt hb.size,fun i hi=>by
  obtain ⟨cb,co,cc,h1,h2,h3,h4,h5⟩:=h.row i hi;exact ⟨cb,co,cc,(hb.cell (p:=⟨_,_,none⟩) h.lt).trans h1,h2.below hb,A9 h3 hb.size,fun k hk=>(hb.cell (p:=⟨_,_,none⟩) h3).trans (h4 k hk),(hb.cell (p:=⟨_,_,none⟩) h.lt).trans h5⟩⟩
end
section
open Go.RowKit
attribute [local go_sem] Oper.semAt_some
theorem Dp.swap {w W:World} {L:Ei} {R:List En} {a b:Nat×Array Value×TypeId} (h:Dp w (a :: b :: L) R W):Dp w (b :: a :: L) R W:=h.perm (List.Perm.swap _ _ _)
structure Mr (w:World) (rows:List (List Int×Int)) (xs:List Value):Prop where
 len:xs.length=rows.length*2
 at_:∀ j r,rows[j]? = some r->∃ v,xs[j*2]? = some v/\xs[j*2+1]? = some (.int .i64 r.2)/\IE w v r.1
theorem Mr.nil (w:World):Mr w [] []:=⟨rfl,fun j r h=>by simp at h⟩
theorem Mr.snoc {w:World} {rows:List (List Int×Int)} {xs:List Value} {v:Value} {r:List Int×Int} (h:Mr w rows xs) (hv:IE w v r.1):Mr w (rows++[r]) (xs++[v,.int .i64 r.2]):=by
 refine ⟨by simp [h.len];omega,fun j r' hj=>?_⟩;by_cases hlt:j<rows.length
 ·rw [BV hlt] at hj
  obtain ⟨u,h1,h2,h3⟩:=h.at_ j r' hj;refine ⟨u,?_,?_,h3⟩
  ·rw [BV (by rw [h.len];omega)];exact h1
  ·rw [BV (by rw [h.len];omega)];exact h2
 ·have hj':j=rows.length:=by
   have:=(BR.1 hj).1;simp at this;omega
  subst hj'
  simp at hj
  subst hj
  refine ⟨v,?_,?_,hv⟩
  ·rw [BW (by rw [h.len];omega),h.len];simp
  ·rw [BW (by rw [h.len];omega),h.len,show rows.length*2+1-rows.length*2=1 by omega];rfl
theorem Mr.slE {w W:World} {L:Ei} {R:List En} {v:Value} {n:Nat} {rows:List (List Int×Int)} {xs:List Value} (h:Mr w rows xs) (hM:Dp w L (⟨57,2,v,n,xs⟩ :: R) W) (hn:n=rows.length):EX W v rows:=by
 refine JJ.of_own hM.own0 hn fun b hb hc j r hj=>?_
 obtain ⟨u,h1,h2,h3⟩:=h.at_ j r hj;exact ⟨u,hc _ _ h1,h3.below hM.below,hc _ _ h2⟩
end
section
open Go.RowKit
open LnM (sm)
theorem sm2 (f:Nat->Int):sm 2 f=f 0+f 1:=by show (0+f 0)+f 1=_;omega
theorem Q9 {a b:Int} {x:Nat->Int} {d:Int} (h:TA (EI a b) 2 x d):x 0+x 1=d*a/\x 0-x 1=d*b/\0<=x 0/\0<=x 1/\0<d:=by
 have e0:=h.eq 0 (show 0<2 by decide);have e1:=h.eq 1 (show 1<2 by decide);rw [sm2] at e0 e1;have g0:x 0*1+x 1*1=d*a:=e0;have g1:x 0*1+x 1*(-1)=d*b:=e1;exact ⟨Ad,Ad,h.nn 0 Ae,h.nn 1 Ae,h.pos⟩
theorem Qa {a b:Int} (x:Nat->Int) {d:Int} (h0:x 0+x 1=d*a) (h1:x 0-x 1=d*b) (h2:0<=x 0) (h3:0<=x 1) (h4:0<d):TA (EI a b) 2 x d:=by
 refine ⟨h4,fun k hk=>?_,fun i hi=>?_⟩
 ·match k,hk with
  | 0,_=>exact h2
  | 1,_=>exact h3
 ·rw [sm2]
  match i,hi with
  | 0,_=>show x 0*1+x 1*1=d*a;omega
  | 1,_=>show x 0*1+x 1*(-1)=d*b;omega
theorem Nr {a b:Int} (ha:-1000<=a/\a<=1000) (hb:-1000<=b/\b<=1000):Ea 2 (EI a b)=true:=by
 unfold Ea EI Hn;have l1:([1,1]:List Int).any Gg=false:=by decide
 have l2:([1,-1]:List Int).any Gg=false:=by decide
 simp only [List.any_cons,List.any_nil,l1,l2];simp;omega
theorem two_eq {nums:List ByteArray} {den:ByteArray} (h:Fu 2 (EI 3 1) nums den=true):Iy nums den [⟨#[52]⟩,⟨#[50]⟩] ⟨#[50]⟩=true:=by
 obtain ⟨_,hf,hl⟩:=I4 h;have hl2:nums.length=2:=by omega
 have hs:=Ma h;rw [hl2] at hs;obtain ⟨e0,e1,_,_,_⟩:=Q9 hs;have f2:DX [⟨#[52]⟩,⟨#[50]⟩] ⟨#[50]⟩=true:=by kernel_rfl
 have z2:zS ⟨#[50]⟩=2:=by kernel_rfl
 have z4:zS ⟨#[52]⟩=4:=by kernel_rfl
 unfold Iy;rw [hf,f2,hl2];simp only [AS,Ap,AE,Aq];refine ⟨Af,fun i hi=>?_⟩;rw [z2];match i,AB.1 hi with
 | 0,_=>show _=zS ⟨#[52]⟩*_;rw [z4];omega
 | 1,_=>show _=zS ⟨#[50]⟩*_;rw [z2];omega
theorem L9 (cols:Nat) (v:Value) (rows:List (List Int×Int)) (w:World) (hE:Fp w) (h:EX w v rows) (hv:Ea cols rows=true) (h8:rows.length<=8) {x:Nat->Int} {d:Int} (hs:TA rows cols x d) :
  Calls Tryz.prog 9 #[.agg #[.int .i64 cols,v]] w fun e w'=>∃ nv nums den,e=.returned (.tuple #[.agg #[.bool true,nv,.string den,.slice none 0 0],.int .i64 0])/\DS w' nv nums/\Fu cols rows nums den=true/\Below w.heap.size w w' :=
 (KD cols v rows w hE h hv h8).mono fun e w' ⟨hb,hh⟩=>by
  rcases hh with ⟨nv,nums,den,he,hn,hc⟩ | ⟨wv,ws,he,hw,hr⟩
  ·exact ⟨nv,nums,den,he,hn,hc,hb⟩
  ·exact (TB hs (Od hr)).elim
theorem Mo (cols:Nat) (v:Value) (rows:List (List Int×Int)) (w:World) (hE:Fp w) (h:EX w v rows) (hv:Ea cols rows=true) (h8:rows.length<=8) (hs:∀ x d,¬ TA rows cols x d) :
  Calls Tryz.prog 9 #[.agg #[.int .i64 cols,v]] w fun e w'=>∃ wv ws,e=.returned (.tuple #[.agg #[.bool false,.slice none 0 0,.string ⟨#[]⟩,wv],.int .i64 0])/\DS w' wv ws/\Em cols rows ws=true/\Below w.heap.size w w' :=
 (KD cols v rows w hE h hv h8).mono fun e w' ⟨hb,hh⟩=>by
  rcases hh with ⟨nv,nums,den,he,hn,hc⟩ | ⟨wv,ws,he,hw,hr⟩
  ·have hl:=(I4 hc).2.2
   have hl2:nums.length=cols:=by omega
   have:=Ma hc;rw [hl2] at this;exact (hs _ _ this).elim
  ·exact ⟨wv,ws,he,hw,hr,hb⟩
theorem solve31 (v:Value) (w:World) (hE:Fp w) (h:EX w v (EI 3 1)) :
  Calls Tryz.prog 9 #[.agg #[.int .i64 2,v]] w fun e w'=>∃ a nums den cp,e=.returned (.tuple #[.agg #[.bool true,.slice a nums.length cp,.string den,.slice none 0 0],.int .i64 0])/\DS w' (.slice a nums.length cp) nums/\Iy nums den [⟨#[52]⟩,⟨#[50]⟩] ⟨#[50]⟩=true/\Below w.heap.size w w' :=
 (L9 2 v (EI 3 1) w hE h (Nr Ad Ad) Ae (Qa (fun k=>if k=0 then 2 else 1) (d:=1) Ae Ae Ae Ae Ae)).mono fun e w' ⟨nv,nums,den,he,hn,hc,hb⟩=>by
  obtain ⟨a,cp,rfl⟩:=hn.shape;exact ⟨a,nums,den,cp,he,hn,two_eq hc,hb⟩
theorem solve34 (v:Value) (w:World) (hE:Fp w) (h:EX w v (EI 3 4)) :
  Calls Tryz.prog 9 #[.agg #[.int .i64 2,v]] w fun e w'=>∃ a ws cp,e=.returned (.tuple #[.agg #[.bool false,.slice none 0 0,.string ⟨#[]⟩,.slice a ws.length cp],.int .i64 0])/\DS w' (.slice a ws.length cp) ws/\Em 2 (EI 3 4) ws=true/\Below w.heap.size w w' :=
 (Mo 2 v (EI 3 4) w hE h (Nr Ad Ad) Ae (fun x d hs=>by
  obtain ⟨e0,e1,_,h1,h2⟩:=Q9 hs;omega)).mono fun e w' ⟨wv,ws,he,hn,hr,hb⟩=>by
  obtain ⟨a,cp,rfl⟩:=hn.shape;exact ⟨a,ws,cp,he,hn,hr,hb⟩
theorem solve00 (v:Value) (w:World) (hE:Fp w) (h:EX w v [([],0)]) :
  Calls Tryz.prog 9 #[.agg #[.int .i64 0,v]] w fun e w'=>∃ a den cp,e=.returned (.tuple #[.agg #[.bool true,.slice a 0 cp,.string den,.slice none 0 0],.int .i64 0])/\Below w.heap.size w w' :=
 (L9 0 v [([],0)] w hE h (by rw [show ((0:Nat):Int)=0 from rfl];decide) Ae (x:=fun _=>0) (d:=1) ⟨Ae,fun k hk=>by omega,fun i hi=>by
  obtain rfl:i=0:=by simp at hi;exact hi
  rfl⟩).mono fun e w' ⟨nv,nums,den,he,hn,hc,hb⟩=>by
  obtain ⟨a,cp,rfl⟩:=hn.shape;have hl:=(I4 hc).2.2;rw [show nums.length=0 by omega] at he;exact ⟨a,den,cp,he,hb⟩
theorem solve01 (v:Value) (w:World) (hE:Fp w) (h:EX w v [([],1)]) :
  Calls Tryz.prog 9 #[.agg #[.int .i64 0,v]] w fun e w'=>∃ a cp,e=.returned (.tuple #[.agg #[.bool false,.slice none 0 0,.string ⟨#[]⟩,.slice a 1 cp],.int .i64 0])/\Below w.heap.size w w' :=
 (Mo 0 v [([],1)] w hE h (by rw [show ((0:Nat):Int)=0 from rfl];decide) Ae (fun x d hs=>by
  have e:=hs.eq 0 Ae;have g:(0:Int)=d*1:=e;have:=hs.pos;omega)).mono fun e w' ⟨wv,ws,he,hn,hr,hb⟩=>by
  obtain ⟨a,cp,rfl⟩:=hn.shape;have hl:=(IQ hr).2.1;rw [show ws.length=1 from hl] at he;exact ⟨a,cp,he,hb⟩
theorem solve10 (v:Value) (w:World) (h:EX w v [([],0)]) :
  Calls Tryz.prog 9 #[.agg #[.int .i64 1,v]] w (DR w (.tuple #[.agg #[.bool false,.slice none 0 0,.string ⟨#[]⟩,.slice none 0 0],.int .i64 60])) :=
 Nh 1 v [([],0)] w h Ae
theorem DS.of2 {W:World} {B:Nat} {s t:ByteArray} (h:Ds W B #[.string s,.string t] 9):DS W (.slice (some ⟨B,0,none⟩) 2 2) [s,t]:=by
 refine .inr ⟨B,0,2,rfl,Aa _,by unfold maxLen;decide,h.lt,fun j x hj=>?_⟩;match j,hj with
 | 0,hj=>cases hj;exact h.cell 0
 | 1,hj=>cases hj;exact h.cell 1
theorem EX.of1 {W:World} {B:Nat} {z:Int} (h:Ds W B #[.slice none 0 0,.int .i64 z] 57):EX W (.slice (some ⟨B,0,none⟩) 1 1) [([],z)]:=by
 refine .inr ⟨B,0,1,rfl,Aa _,by unfold maxLen;decide,h.lt,fun j x hj=>?_⟩;match j,hj with
 | 0,hj=>cases hj;exact ⟨_,h.cell 0,.inl ⟨⟨_,rfl⟩,rfl⟩,h.cell 1⟩
theorem mix13:Kf { p:=1,q:=3,na:=[⟨#[49]⟩,⟨#[48]⟩],nb:=[⟨#[48]⟩,⟨#[49]⟩],da:=⟨#[49]⟩,db:=⟨#[49]⟩ }=([⟨#[49]⟩,⟨#[51]⟩],⟨#[52]⟩,0):=by kernel_rfl
structure MS (w:World) (L:Ei) (ss:List (Value×List ByteArray)) (W:World):Prop where
 mem:Dp w L [] W
 ss:∀ p∈ss,DS W p.1 p.2
section
variable {w W W':World} {L:Ei} {ss:List (Value×List ByteArray)}
theorem MS.start (w:World):MS w [] [] w:=⟨Dp.start w,fun p h=>by cases h⟩
theorem MS.call (h:MS w L ss W) (hb:Below W.heap.size W W'):MS w L ss W':=⟨h.mem.call hb,fun p hp=>(h.ss p hp).below hb⟩
theorem MS.new (h:MS w L ss W) (o:Obj):MS w L ss (W.alloc o):=h.call ((Below.refl _ _).alloc (Aa _) o)
theorem MS.add' (h:MS w L ss W) (cs:Array Value) (t:TypeId):∃ W' B,W'=W.alloc (.cells cs t)/\B=W.heap.size/\MS w ((B,cs,t) :: L) ss W':=⟨_,_,rfl,rfl,h.mem.add cs t,(h.new _).ss⟩
theorem MS.slice (h:MS w L ss W) {v:Value} {l:List ByteArray} (hv:DS W v l):MS w L ((v,l) :: ss) W:=⟨h.mem,fun p hp=>by
 rcases Aw.1 hp with rfl | hp
 ·exact hv
 ·exact h.ss p hp⟩
theorem MS.cell (h:MS w L ss W) (B:Nat) (cs:Array Value) (t:TypeId) (hm:(B,cs,t)∈L) (i:Nat):W.cell? ⟨B,i,none⟩=cs[i]? := h.mem.cell B cs t hm i
theorem MS.env (h:MS w L ss W) (hE:Fp w):Fp W:=h.mem.env hE
end
theorem ck31:Fu 2 (EI 3 1) [⟨#[52]⟩,⟨#[50]⟩] ⟨#[50]⟩=true:=by kernel_rfl
theorem ck32:Fu 2 (EI 3 2) [⟨#[52]⟩,⟨#[50]⟩] ⟨#[50]⟩=false:=by kernel_rfl
theorem rf34:Em 2 (EI 3 4) [⟨#[49]⟩,⟨#[45,49]⟩]=true:=by kernel_rfl
theorem rf34n:Em 2 (EI 3 4) [⟨#[45,49]⟩,⟨#[49]⟩]=false:=by kernel_rfl
theorem rf31n:Em 2 (EI 3 1) [⟨#[49]⟩,⟨#[45,49]⟩]=false:=by kernel_rfl
theorem vl11:Ea 2 (EI 1 1)=true:=by kernel_rfl
theorem vl65:Ea 65 []=false:=by kernel_rfl
end
section
open Go.RowKit
attribute [local go_sem] Oper.semAt_some
theorem TL {Q:Exit->Act->World->Prop} {us:List Value} {bV bA bB bC bD bS n1 n2 k1 k2 k3 k4:Nat} {a1 a2 a3 a4:Option Addr} {d1:ByteArray} {w W0:World} {L:Ei} {R:List En}    (x80:DQ w L R bA 0 (.bool true)) (x83_0:DQ w L R bA 1 (.slice a1 n1 k1)) (x83_1:DQ w L R bA 2 (.string d1)) (x84_0:DQ w L R bV 0 (.slice (some ⟨bS,0,none⟩) 2 2)) (x84_1:DQ w L R bV 1 (.string ⟨#[50]⟩)) (C85:EW w L R 16 #[.agg #[.slice a1 n1 k1,.string d1],.agg #[.slice (some ⟨bS,0,none⟩) 2 2,.string ⟨#[50]⟩]] (.bool true)) (x89:DQ w L R bA 3 (.slice none 0 0)) (x95:DQ w L R bB 0 (.bool false)) (C99:Hid (∀ W,Dp w L R W->Calls Tryz.prog 25 #[.int .i64 3,.int .i64 4] W fun e W'=>∃ (v99':Value),e=.returned (.agg #[.int .i64 2,v99'])/\EX W' v99' (EI 3 4)/\Below W.heap.size W W')) (x101:DQ w L R bB 3 (.slice a2 n2 k2)) (C102:Hid (∀ W (v99':Value),Dp w L R W->EX W v99' (EI 3 4)->Calls Tryz.prog 23 #[.agg #[.int .i64 2,v99'],.slice a2 n2 k2] W (DR W (.bool true)))) (x106:DQ w L R bC 0 (.bool true)) (x111:DQ w L R bC 1 (.slice a3 0 k3)) (x117:DQ w L R bD 0 (.bool false)) (x122:DQ w L R bD 3 (.slice a4 1 k4)) (h0:Hid (Dp w L R W0)) (hN:us.length=171) (g1:us[1]? = some (.pointer (some ⟨bV,0,none⟩))) (g2:us[2]? = some (.pointer (some ⟨bA,0,none⟩))) (g4:us[4]? = some (.pointer (some ⟨bB,0,none⟩))) (g6:us[6]? = some (.pointer (some ⟨bC,0,none⟩))) (g8:us[8]? = some (.pointer (some ⟨bD,0,none⟩))) {ops:Array Oper} (ho:Dt Tryz.f4.body 10=some ops)
  (hQ:∀ (x:Nat->Value)  (W':World),x 14=.bool true->Hid (Dp w L R W')->Q .normal { tmps:=(Eb [79,80,81,82,83,84,85,86,87,88,89,90,91,92,93,94,95,96,97,98,99,100,101,102,103,104,105,106,107,108,109,110,111,112,113,114,115,116,117,118,119,120,121,122,123,124,125,14] x us).toArray,defers:=[] } W') :
  (Code.region 10 ops true).wp Tryz.prog Q { tmps:=us.toArray,defers:=[] } W0:=by
 obtain rfl:=B4 (ho.symm.trans (rfl:Dt Tryz.f4.body 10=some _))
 clear ho
 replace hQ:=A8 hQ
 let Fl:Unit->FL:=fun g=>[some (79,.pointer (some ⟨bA,0,none⟩)),some (80,.bool true),some (81,.bool true),some (82,.pointer (some ⟨bA,1,none⟩)),some (83,.agg #[.slice a1 n1 k1,.string d1]),some (84,.agg #[.slice (some ⟨bS,0,none⟩) 2 2,.string ⟨#[50]⟩]),some (85,.bool true),some (86,.bool true),some (87,.bool true),some (88,.pointer (some ⟨bA,3,none⟩)),some (89,.slice none 0 0),some (90,.int .i64 0),some (91,.bool true),some (92,.bool true),some (93,.bool true),some (94,.pointer (some ⟨bB,0,none⟩)),some (95,.bool false),some (96,.bool true),some (97,.bool true),some (98,.bool true),none,some (100,.pointer (some ⟨bB,3,none⟩)),some (101,.slice a2 n2 k2),some (102,.bool true),some (103,.bool true),some (104,.bool true),some (105,.pointer (some ⟨bC,0,none⟩)),some (106,.bool true),some (107,.bool true),some (108,.bool true),some (109,.pointer (some ⟨bC,1,none⟩)),some (110,.pointer (some ⟨bC,1,none⟩)),some (111,.slice a3 0 k3),some (112,.int .i64 0),some (113,.bool true),some (114,.bool true),some (115,.bool true),some (116,.pointer (some ⟨bD,0,none⟩)),some (117,.bool false),some (118,.bool true),some (119,.bool true),some (120,.bool true),some (121,.pointer (some ⟨bD,3,none⟩)),some (122,.slice a4 1 k4),some (123,.int .i64 1),some (124,.bool true),some (125,.bool true),some (14,.bool true)]
 let Ml:Unit->ML:=fun g=>[(20,99,(fun yv W=>∃ (v99':Value),yv=.agg #[.int .i64 2,v99']/\EX W v99' (EI 3 4)),none)]
 let Sl_:Unit->List (World->Prop):=fun g=>[fun W=>Dp w L R W]
 have St:Iu 171 [79,80,81,82,83,84,85,86,87,88,89,90,91,92,93,94,95,96,97,98,99,100,101,102,103,104,105,106,107,108,109,110,111,112,113,114,115,116,117,118,119,120,121,122,123,124,125,14] [20] Fl Ml (Dp w L R) Sl_:=⟨fun _=>by kernel_rfl,fun _=>rfl,fun _ _ hb h=>h.call hb,fun g=>C6.2 ⟨fun yv W W' hb=>fun ⟨g0,e,h⟩=>⟨g0,e,h.below hb⟩,(fun _ h=>by cases h)⟩,fun g=>C6.2 ⟨fun W W' hb h=>h.call hb,(fun _ h=>by cases h)⟩⟩
 refine FM St us [] () hN h0.out.drew h0.out.drew ?_ ?_
 refine sV St ?_ (fun z=>z.u g2)
 refine sV St ?_ (fun z=>z.x 0 rfl) (fun z=>x80 _ z.c)
 refine sV St ?_ (fun z=>z.x 1 rfl)
 refine sG St ?_ 2 (fun z=>z.u g2)
 refine sG St ?_ 2 (fun z=>z.x 3 rfl) (fun z=>x83_0 _ z.c) (fun z=>x83_1 _ z.c)
 refine sG St ?_ 2 (fun z=>z.u g1) (fun z=>x84_0 _ z.c) (fun z=>x84_1 _ z.c)
 refine sH St ?_ 2 (fun z=>C85 _ z.c) (fun z=>z.x 4 rfl) (fun z=>z.x 5 rfl)
 refine sV St ?_ (fun z=>z.x 2 rfl) (fun z=>z.x 6 rfl)
 refine sV St ?_ (fun z=>z.x 7 rfl)
 refine sG St ?_ 8 (fun z=>z.u g2)
 refine sG St ?_ 8 (fun z=>z.x 9 rfl) (fun z=>x89 _ z.c)
 refine sG St ?_ 8 (fun z=>z.x 10 rfl)
 refine sG St ?_ 8 (fun z=>z.x 11 rfl)
 refine sV St ?_ (fun z=>z.x 8 rfl) (fun z=>z.x 12 rfl)
 refine sV St ?_ (fun z=>z.x 13 rfl)
 refine sG St ?_ 14 (fun z=>z.u g4)
 refine sG St ?_ 14 (fun z=>z.x 15 rfl) (fun z=>x95 _ z.c)
 refine sG St ?_ 14 (fun z=>z.x 16 rfl)
 refine sV St ?_ (fun z=>z.x 14 rfl) (fun z=>z.x 17 rfl)
 refine sV St ?_ (fun z=>z.x 18 rfl)
 refine Dk (stM St 20 0 rfl rfl (wg 19 rfl rfl Ab (fun _=>rfl)) (fun _=>rfl) (fun _=>by kernel_rfl) fun g T E W hl hw hs z K J=>by
  have hC:=z.c;go_simp;refine Calls.mono (C99.out W hC) ?_;rintro e W2 ⟨v99',rfl,hp,hb⟩;exact J _ _ hb ⟨v99',rfl,hp⟩) ?_
 refine sG St ?_ 19 (fun z=>z.u g4)
 refine sG St ?_ 19 (fun z=>z.x 21 rfl) (fun z=>x101 _ z.c)
 refine Dk (stH St 23 rfl rfl (wg 19 rfl rfl Ab (fun _=>rfl)) rfl (fun _=>rfl) fun g T E W hl hw hs z K J=>by
  obtain ⟨_,x99,v99',rfl,hm20⟩:=z.y 0 hl hw hs rfl;have x101:=z.x 22 hw rfl;have hC:=z.c;go_simp;refine Calls.mono (C102.out W v99' hC hm20) ?_;rintro e W2 ⟨rfl,hb⟩;exact J _ hb) ?_
 refine sV St ?_ (fun z=>z.x 19 rfl) (fun z=>z.x 23 rfl)
 refine sV St ?_ (fun z=>z.x 24 rfl)
 refine sG St ?_ 25 (fun z=>z.u g6)
 refine sG St ?_ 25 (fun z=>z.x 26 rfl) (fun z=>x106 _ z.c)
 refine sV St ?_ (fun z=>z.x 25 rfl) (fun z=>z.x 27 rfl)
 refine sV St ?_ (fun z=>z.x 28 rfl)
 refine sG St ?_ 29 (fun z=>z.u g6)
 refine sG St ?_ 29 (fun z=>z.x 30 rfl)
 refine sG St ?_ 29 (fun z=>z.x 31 rfl) (fun z=>x111 _ z.c)
 refine sG St ?_ 29 (fun z=>z.x 32 rfl)
 refine sG St ?_ 29 (fun z=>z.x 33 rfl)
 refine sV St ?_ (fun z=>z.x 29 rfl) (fun z=>z.x 34 rfl)
 refine sV St ?_ (fun z=>z.x 35 rfl)
 refine sG St ?_ 36 (fun z=>z.u g8)
 refine sG St ?_ 36 (fun z=>z.x 37 rfl) (fun z=>x117 _ z.c)
 refine sG St ?_ 36 (fun z=>z.x 38 rfl)
 refine sV St ?_ (fun z=>z.x 36 rfl) (fun z=>z.x 39 rfl)
 refine sV St ?_ (fun z=>z.x 40 rfl)
 refine sG St ?_ 41 (fun z=>z.u g8)
 refine sG St ?_ 41 (fun z=>z.x 42 rfl) (fun z=>x122 _ z.c)
 refine sG St ?_ 41 (fun z=>z.x 43 rfl)
 refine sG St ?_ 41 (fun z=>z.x 44 rfl)
 refine sV St ?_ (fun z=>z.x 41 rfl) (fun z=>z.x 45 rfl)
 refine sV St ?_ (fun z=>z.x 46 rfl)
 ·exact Du
 ·intro g a W z q
  have hM9:Dp _ _ _ _:=q;have x14:=z.v.get 47 rfl Ab;rw [z.f.eqs];exact hQ.out _   _ (by simp [x14]) (A8 hM9)
theorem TN {Q:Exit->Act->World->Prop} {us:List Value} {bV bS:Nat} {w W0:World} {L:Ei} {R:List En}    (C126:Hid (∀ W,Dp w L R W->Calls Tryz.prog 25 #[.int .i64 3,.int .i64 1] W fun e W'=>∃ (v126':Value),e=.returned (.agg #[.int .i64 2,v126'])/\EX W' v126' (EI 3 1)/\Below W.heap.size W W')) (x127_0:DQ w L R bV 0 (.slice (some ⟨bS,0,none⟩) 2 2)) (x127_1:DQ w L R bV 1 (.string ⟨#[50]⟩)) (C128:Hid (∀ W (v126':Value),Dp w L R W->EX W v126' (EI 3 1)->Calls Tryz.prog 14 #[.agg #[.int .i64 2,v126'],.agg #[.slice (some ⟨bS,0,none⟩) 2 2,.string ⟨#[50]⟩]] W (DR W (.bool true)))) (C130:Hid (∀ W,Dp w L R W->Calls Tryz.prog 25 #[.int .i64 3,.int .i64 2] W fun e W'=>∃ (v130':Value),e=.returned (.agg #[.int .i64 2,v130'])/\EX W' v130' (EI 3 2)/\Below W.heap.size W W')) (C132:Hid (∀ W (v130':Value),Dp w L R W->EX W v130' (EI 3 2)->Calls Tryz.prog 14 #[.agg #[.int .i64 2,v130'],.agg #[.slice (some ⟨bS,0,none⟩) 2 2,.string ⟨#[50]⟩]] W (DR W (.bool false)))) (C136:Hid (∀ W,Dp w L R W->Calls Tryz.prog 25 #[.int .i64 3,.int .i64 4] W fun e W'=>∃ (v136':Value),e=.returned (.agg #[.int .i64 2,v136'])/\EX W' v136' (EI 3 4)/\Below W.heap.size W W')) (C138:Hid (∀ W (v136':Value) (g137:Nat),Dp w L R W->EX W v136' (EI 3 4)->Ds W g137 #[.string ⟨#[49]⟩,.string ⟨#[45,49]⟩] 9->Calls Tryz.prog 23 #[.agg #[.int .i64 2,v136'],.slice (some ⟨g137,0,none⟩) 2 2] W (DR W (.bool true)))) (C141:Hid (∀ W,Dp w L R W->Calls Tryz.prog 25 #[.int .i64 3,.int .i64 4] W fun e W'=>∃ (v141':Value),e=.returned (.agg #[.int .i64 2,v141'])/\EX W' v141' (EI 3 4)/\Below W.heap.size W W')) (C143:Hid (∀ W (v141':Value) (g142:Nat),Dp w L R W->EX W v141' (EI 3 4)->Ds W g142 #[.string ⟨#[45,49]⟩,.string ⟨#[49]⟩] 9->Calls Tryz.prog 23 #[.agg #[.int .i64 2,v141'],.slice (some ⟨g142,0,none⟩) 2 2] W (DR W (.bool false)))) (C147:Hid (∀ W,Dp w L R W->Calls Tryz.prog 25 #[.int .i64 3,.int .i64 1] W fun e W'=>∃ (v147':Value),e=.returned (.agg #[.int .i64 2,v147'])/\EX W' v147' (EI 3 1)/\Below W.heap.size W W')) (C149:Hid (∀ W (v147':Value) (g148:Nat),Dp w L R W->EX W v147' (EI 3 1)->Ds W g148 #[.string ⟨#[49]⟩,.string ⟨#[45,49]⟩] 9->Calls Tryz.prog 23 #[.agg #[.int .i64 2,v147'],.slice (some ⟨g148,0,none⟩) 2 2] W (DR W (.bool false)))) (h0:Hid (Dp w L R W0)) (hN:us.length=171) (g1:us[1]? = some (.pointer (some ⟨bV,0,none⟩))) {ops:Array Oper} (ho:Dt Tryz.f4.body 11=some ops)
  (hQ:∀ (x:Nat->Value)  (W':World),x 15=.bool true->Hid (Dp w L R W')->Q .normal { tmps:=(Eb [126,127,128,129,130,131,132,133,134,135,136,137,138,139,140,141,142,143,144,145,146,147,148,149,150,151,15] x us).toArray,defers:=[] } W') :
  (Code.region 11 ops true).wp Tryz.prog Q { tmps:=us.toArray,defers:=[] } W0:=by
 obtain rfl:=B4 (ho.symm.trans (rfl:Dt Tryz.f4.body 11=some _))
 clear ho
 replace hQ:=A8 hQ
 let Fl:Unit->FL:=fun g=>[none,some (127,.agg #[.slice (some ⟨bS,0,none⟩) 2 2,.string ⟨#[50]⟩]),some (128,.bool true),some (129,.bool true),none,some (131,.agg #[.slice (some ⟨bS,0,none⟩) 2 2,.string ⟨#[50]⟩]),some (132,.bool false),some (133,.bool true),some (134,.bool true),some (135,.bool true),none,none,some (138,.bool true),some (139,.bool true),some (140,.bool true),none,none,some (143,.bool false),some (144,.bool true),some (145,.bool true),some (146,.bool true),none,none,some (149,.bool false),some (150,.bool true),some (151,.bool true),some (15,.bool true)]
 let Ml:Unit->ML:=fun g=>[(0,126,(fun yv W=>∃ (v126':Value),yv=.agg #[.int .i64 2,v126']/\EX W v126' (EI 3 1)),none),(4,130,(fun yv W=>∃ (v130':Value),yv=.agg #[.int .i64 2,v130']/\EX W v130' (EI 3 2)),none),(10,136,(fun yv W=>∃ (v136':Value),yv=.agg #[.int .i64 2,v136']/\EX W v136' (EI 3 4)),none),(11,137,(fun yv W=>∃ (g137:Nat),yv=.slice (some ⟨g137,0,none⟩) 2 2/\Ds W g137 #[.string ⟨#[49]⟩,.string ⟨#[45,49]⟩] 9),none),(15,141,(fun yv W=>∃ (v141':Value),yv=.agg #[.int .i64 2,v141']/\EX W v141' (EI 3 4)),none),(16,142,(fun yv W=>∃ (g142:Nat),yv=.slice (some ⟨g142,0,none⟩) 2 2/\Ds W g142 #[.string ⟨#[45,49]⟩,.string ⟨#[49]⟩] 9),none),(21,147,(fun yv W=>∃ (v147':Value),yv=.agg #[.int .i64 2,v147']/\EX W v147' (EI 3 1)),none),(22,148,(fun yv W=>∃ (g148:Nat),yv=.slice (some ⟨g148,0,none⟩) 2 2/\Ds W g148 #[.string ⟨#[49]⟩,.string ⟨#[45,49]⟩] 9),none)]
 let Sl_:Unit->List (World->Prop):=fun g=>[fun W=>Dp w L R W]
 have St:Iu 171 [126,127,128,129,130,131,132,133,134,135,136,137,138,139,140,141,142,143,144,145,146,147,148,149,150,151,15] [0,4,10,11,15,16,21,22] Fl Ml (Dp w L R) Sl_:=⟨fun _=>by kernel_rfl,fun _=>rfl,fun _ _ hb h=>h.call hb,fun g=>C6.2 ⟨fun yv W W' hb=>fun ⟨g0,e,h⟩=>⟨g0,e,h.below hb⟩,C6.2 ⟨fun yv W W' hb=>fun ⟨g0,e,h⟩=>⟨g0,e,h.below hb⟩,C6.2 ⟨fun yv W W' hb=>fun ⟨g0,e,h⟩=>⟨g0,e,h.below hb⟩,C6.2 ⟨fun yv W W' hb=>fun ⟨g,e,h⟩=>⟨g,e,h.below hb⟩,C6.2 ⟨fun yv W W' hb=>fun ⟨g0,e,h⟩=>⟨g0,e,h.below hb⟩,C6.2 ⟨fun yv W W' hb=>fun ⟨g,e,h⟩=>⟨g,e,h.below hb⟩,C6.2 ⟨fun yv W W' hb=>fun ⟨g0,e,h⟩=>⟨g0,e,h.below hb⟩,C6.2 ⟨fun yv W W' hb=>fun ⟨g,e,h⟩=>⟨g,e,h.below hb⟩,(fun _ h=>by cases h)⟩⟩⟩⟩⟩⟩⟩⟩,fun g=>C6.2 ⟨fun W W' hb h=>h.call hb,(fun _ h=>by cases h)⟩⟩
 refine FM St us [] () hN h0.out.drew h0.out.drew ?_ ?_
 refine Dk (stM St 0 0 rfl rfl (.inl rfl) (fun _=>rfl) (fun _=>by kernel_rfl) fun g T E W hl hw hs z K J=>by
  have hC:=z.c;go_simp;refine Calls.mono (C126.out W hC) ?_;rintro e W2 ⟨v126',rfl,hp,hb⟩;exact J _ _ hb ⟨v126',rfl,hp⟩) ?_
 refine sV St ?_ (fun z=>z.u g1) (fun z=>x127_0 _ z.c) (fun z=>x127_1 _ z.c)
 refine Dk (stC St 2 rfl rfl rfl (fun _=>rfl) fun g T E W hl hw hs z K J=>by
  obtain ⟨_,x126,v126',rfl,hm0⟩:=z.y 0 hl hw hs rfl;have x127:=z.x 1 hw rfl;have hC:=z.c;go_simp;refine Calls.mono (C128.out W v126' hC hm0) ?_;rintro e W2 ⟨rfl,hb⟩;exact J _ hb) ?_
 refine sV St ?_ (fun z=>z.x 2 rfl)
 refine Dk (stM St 4 1 rfl rfl (wg 3 rfl rfl Ab (fun _=>rfl)) (fun _=>rfl) (fun _=>by kernel_rfl) fun g T E W hl hw hs z K J=>by
  have hC:=z.c;go_simp;refine Calls.mono (C130.out W hC) ?_;rintro e W2 ⟨v130',rfl,hp,hb⟩;exact J _ _ hb ⟨v130',rfl,hp⟩) ?_
 refine sG St ?_ 3 (fun z=>z.u g1) (fun z=>x127_0 _ z.c) (fun z=>x127_1 _ z.c)
 refine Dk (stH St 6 rfl rfl (wg 3 rfl rfl Ab (fun _=>rfl)) rfl (fun _=>rfl) fun g T E W hl hw hs z K J=>by
  obtain ⟨_,x130,v130',rfl,hm4⟩:=z.y 1 hl hw hs rfl;have x131:=z.x 5 hw rfl;have hC:=z.c;go_simp;refine Calls.mono (C132.out W v130' hC hm4) ?_;rintro e W2 ⟨rfl,hb⟩;exact J _ hb) ?_
 refine sG St ?_ 3 (fun z=>z.x 6 rfl)
 refine sV St ?_ (fun z=>z.x 3 rfl) (fun z=>z.x 7 rfl)
 refine sV St ?_ (fun z=>z.x 8 rfl)
 refine Dk (stM St 10 2 rfl rfl (wg 9 rfl rfl Ab (fun _=>rfl)) (fun _=>rfl) (fun _=>by kernel_rfl) fun g T E W hl hw hs z K J=>by
  have hC:=z.c;go_simp;refine Calls.mono (C136.out W hC) ?_;rintro e W2 ⟨v136',rfl,hp,hb⟩;exact J _ _ hb ⟨v136',rfl,hp⟩) ?_
 refine Dk (stM St 11 3 rfl rfl (wg 9 rfl rfl Ab (fun _=>rfl)) (fun _=>rfl) (fun _=>by kernel_rfl) fun g T E W hl hw hs z K J=>by
  go_simp;exact J _ _ ((Below.refl _ _).alloc (Aa _) _) ⟨_,rfl,Ds.new _ _ _⟩) ?_
 refine Dk (stH St 12 rfl rfl (wg 9 rfl rfl Ab (fun _=>rfl)) rfl (fun _=>rfl) fun g T E W hl hw hs z K J=>by
  obtain ⟨_,x136,v136',rfl,hm10⟩:=z.y 2 hl hw hs rfl;obtain ⟨_,x137,g137,rfl,hb11⟩:=z.y 3 hl hw hs rfl;have hC:=z.c;go_simp;refine Calls.mono (C138.out W v136' g137 hC hm10 hb11) ?_;rintro e W2 ⟨rfl,hb⟩;exact J _ hb) ?_
 refine sV St ?_ (fun z=>z.x 9 rfl) (fun z=>z.x 12 rfl)
 refine sV St ?_ (fun z=>z.x 13 rfl)
 refine Dk (stM St 15 4 rfl rfl (wg 14 rfl rfl Ab (fun _=>rfl)) (fun _=>rfl) (fun _=>by kernel_rfl) fun g T E W hl hw hs z K J=>by
  have hC:=z.c;go_simp;refine Calls.mono (C141.out W hC) ?_;rintro e W2 ⟨v141',rfl,hp,hb⟩;exact J _ _ hb ⟨v141',rfl,hp⟩) ?_
 refine Dk (stM St 16 5 rfl rfl (wg 14 rfl rfl Ab (fun _=>rfl)) (fun _=>rfl) (fun _=>by kernel_rfl) fun g T E W hl hw hs z K J=>by
  go_simp;exact J _ _ ((Below.refl _ _).alloc (Aa _) _) ⟨_,rfl,Ds.new _ _ _⟩) ?_
 refine Dk (stH St 17 rfl rfl (wg 14 rfl rfl Ab (fun _=>rfl)) rfl (fun _=>rfl) fun g T E W hl hw hs z K J=>by
  obtain ⟨_,x141,v141',rfl,hm15⟩:=z.y 4 hl hw hs rfl;obtain ⟨_,x142,g142,rfl,hb16⟩:=z.y 5 hl hw hs rfl;have hC:=z.c;go_simp;refine Calls.mono (C143.out W v141' g142 hC hm15 hb16) ?_;rintro e W2 ⟨rfl,hb⟩;exact J _ hb) ?_
 refine sG St ?_ 14 (fun z=>z.x 17 rfl)
 refine sV St ?_ (fun z=>z.x 14 rfl) (fun z=>z.x 18 rfl)
 refine sV St ?_ (fun z=>z.x 19 rfl)
 refine Dk (stM St 21 6 rfl rfl (wg 20 rfl rfl Ab (fun _=>rfl)) (fun _=>rfl) (fun _=>by kernel_rfl) fun g T E W hl hw hs z K J=>by
  have hC:=z.c;go_simp;refine Calls.mono (C147.out W hC) ?_;rintro e W2 ⟨v147',rfl,hp,hb⟩;exact J _ _ hb ⟨v147',rfl,hp⟩) ?_
 refine Dk (stM St 22 7 rfl rfl (wg 20 rfl rfl Ab (fun _=>rfl)) (fun _=>rfl) (fun _=>by kernel_rfl) fun g T E W hl hw hs z K J=>by
  go_simp;exact J _ _ ((Below.refl _ _).alloc (Aa _) _) ⟨_,rfl,Ds.new _ _ _⟩) ?_
 refine Dk (stH St 23 rfl rfl (wg 20 rfl rfl Ab (fun _=>rfl)) rfl (fun _=>rfl) fun g T E W hl hw hs z K J=>by
  obtain ⟨_,x147,v147',rfl,hm21⟩:=z.y 6 hl hw hs rfl;obtain ⟨_,x148,g148,rfl,hb22⟩:=z.y 7 hl hw hs rfl;have hC:=z.c;go_simp;refine Calls.mono (C149.out W v147' g148 hC hm21 hb22) ?_;rintro e W2 ⟨rfl,hb⟩;exact J _ hb) ?_
 refine sG St ?_ 20 (fun z=>z.x 23 rfl)
 refine sV St ?_ (fun z=>z.x 20 rfl) (fun z=>z.x 24 rfl)
 refine sV St ?_ (fun z=>z.x 25 rfl)
 ·exact Du
 ·intro g a W z q
  have hM9:Dp _ _ _ _:=q;have x15:=z.v.get 26 rfl Ab;rw [z.f.eqs];exact hQ.out _   _ (by simp [x15]) (A8 hM9)
end
end Go.Proofs.YtioamkekjjkigaaGreatDoor
