/- LcN, SvF, LqA, OrP, SnA, EqP -/
import Derived.Test.YtcmomjnailihpaaGreatDoorYLcK
set_option maxHeartbeats 8000000
set_option maxRecDepth 100000
namespace Go.Proofs.YtcmomjnailihpaaGreatDoor
section
open Go.RowKit
attribute [local go_sem] Oper.semAt_some
def mixR (x:MixA):List ByteArray×ByteArray×Int:=if mixB x=true then ((List.range x.na.length).map (fun j=>I (x.quo (j+1))),I (x.quo 0),0) else ([],⟨#[]⟩,60)
def MixP (x:MixA) (w:World) (e:Ending) (w':World):Prop:=Below w.heap.size w w'∧∃ v,SlS w' v (mixR x).1∧e=.returned (.tuple #[.agg #[v,.string (mixR x).2.1],.int .i64 (mixR x).2.2])
theorem MixP.bad {x:MixA} {w w':World} (h:mixB x=false) (hb:Below w.heap.size w w'):MixP x w (.returned (.tuple #[.agg #[.slice none 0 0,.string ⟨#[]⟩],.int .i64 60])) w':=by
 refine ⟨hb,.slice none 0 0,?_,?_⟩
 ·unfold mixR;rw [h];exact .inl ⟨rfl,rfl⟩
 ·unfold mixR;rw [h];rfl
theorem MixA.gcd_pos (x:MixA) (h:x.num 0≠0):∀ k,0<x.gcd (k+1)
 | 0=>by
  show 0<gcdZ 0 (x.num 0)
  unfold gcdZ;rw [Int.zero_gcd];omega
 | k+1=>by
  show 0<gcdZ (x.gcd (k+1)) (x.num (k+1))
  have h1:=x.gcd_pos h k
  have:Int.gcd (x.gcd (k+1)) (x.num (k+1))≠0:=fun e=>by rw [Int.gcd_eq_zero_iff] at e;omega
  unfold gcdZ;omega
theorem MixA.gcd_small (x:MixA) {m:Nat} (h:∀ j,j<m→Small (x.num j)):∀ {k:Nat},k≤m→Small (x.gcd k)
 | 0,_=>EL
 | k+1,hk=>II (x.gcd_small h (by omega)) (h k (by omega))
theorem numB_I {z:Int} (h:Small z):numB (I z)=decide (Bd 100 z):=by unfold numB;rw [BU h,C8,Bool.true_and]
def MixA.row (x:MixA) (i j:Nat):ByteArray:=if j<i then I (x.quo j) else I (x.num j)
theorem MixA.row_open (x:MixA) {n base g c:Nat} {W:World} (hf:x.flag n=true) (h:W.ownsRow base 9 1 (.slice (some ⟨g,0,none⟩) (n+1) c) (n+1) ((List.range (n+1)).map fun j=>.string (x.txt j))) :
  ∃ cs,Blk W g cs 9∧base≤g∧n+1≤c∧c≤maxLen∧∀ j,j≤n→cs[j]? = some (.string (x.row 0 j)):=by
 rcases h.2 with ⟨e,_⟩ | ⟨g',cap,cur,e,hb,hg,hn,hm,hs,ht⟩
 ·cases e
 ·cases e
  have hk:Blk W g cur 9:=hg
  refine ⟨cur,hk,hb,hn,hm,fun j hj=>?_⟩
  have hc:=h.cells (g:=g) rfl j (.string (x.txt j)) (by simp [List.getElem?_map,List.getElem?_range (show j<n+1 by omega)])
  have hadd:(⟨g,0,none⟩:Addr).add j=⟨g,0+j,none⟩:=by unfold Addr.add;split <;> simp_all
  rw [hadd,Nat.zero_add,hk.cell j,(x.good (x.flag_le hf hj)).1] at hc
  rw [hc];unfold MixA.row;rw [if_neg (by omega)]
theorem MixA.row_set (x:MixA) {n i:Nat} {cs:Array Value} (h:∀ j,j≤n→cs[j]? = some (.string (x.row i j))) (hi:i≤n):∀ j,j≤n→(cs.setIfInBounds i (.string (I (x.quo i))))[j]? = some (.string (x.row (i+1) j)):=fun j hj=>by
 rw [Array.getElem?_setIfInBounds]
 have hsz:i<cs.size:=(Array.getElem?_eq_some_iff.1 (h i hi)).1
 by_cases e:i=j
 ·subst e;rw [if_pos rfl,if_pos hsz];unfold MixA.row;rw [if_pos (by omega)]
 ·rw [if_neg e,h j hj];unfold MixA.row
  by_cases e2:j<i
  ·rw [if_pos e2,if_pos (by omega)]
  ·rw [if_neg e2,if_neg (by omega)]
theorem far_two {W:World} {g b:Nat} {u x y:Value} (hg:g≠b) (h:W.cell? ⟨g,0,none⟩=some u):((W.setCell ⟨b,0,none⟩ x).setCell ⟨b,1,none⟩ y).cell? ⟨g,0,none⟩=some u:=by
 have hon:Only [b] W ((W.setCell ⟨b,0,none⟩ x).setCell ⟨b,1,none⟩ y):=((Only.refl [b] W).setCell (p:=⟨b,0,none⟩) (by simp) _).setCell (p:=⟨b,1,none⟩) (by simp) _
 have hlt:g<W.heap.size:=by
  rcases Nat.lt_or_ge g W.heap.size with h1 | h1
  ·exact h1
  ·exfalso;simp [World.cell?,Array.getElem?_eq_none h1] at h
 exact (hon.cell (p:=⟨g,0,none⟩) hlt (by simpa using hg)).trans h
theorem MixA.small_m (x:MixA) {n m:Nat} (hm:m=n+1) (h:∀ j,j<n+1→Small (x.num j)):∀ j,j<m→Small (x.num j):=by subst hm;exact h
structure MixI (x:MixA) (w W8:World) (n gf:Nat) (i:Nat) (cs:Array Value) (wr:World):Prop where
 blk:Blk wr gf cs 9
 row:∀ j,j≤n→cs[j]? = some (.string (x.row i j))
 bd:∀ j,j<i→Bd 100 (x.quo j)
 bel:Below w.heap.size w wr
 res:Blk wr (w.heap.size+2) #[.slice none 0 0,.string ⟨#[]⟩] 30
theorem MixI.call {x:MixA} {w W8 W W':World} {n gf i:Nat} {cs:Array Value} (h:MixI x w W8 n gf i cs W) (hb:Below W.heap.size W W'):MixI x w W8 n gf i cs W' :=
 ⟨h.blk.below hb,h.row,h.bd,h.bel.trans (hb.mono h.bel.size),h.res.below hb⟩
theorem MixP.good {x:MixA} {w w':World} {v:Value} (h:mixB x=true) (hb:Below w.heap.size w w') (hs:SlS w' v ((List.range x.na.length).map (fun j=>I (x.quo (j+1))))):MixP x w (.returned (.tuple #[.agg #[v,.string (I (x.quo 0))],.int .i64 0])) w':=by
 refine ⟨hb,v,?_,?_⟩
 ·unfold mixR;rw [if_pos h];exact hs
 ·unfold mixR;rw [if_pos h]
theorem MixI.slice {x:MixA} {w W8 W W':World} {n gf k cf:Nat} {cs:Array Value} (h:MixI x w W8 n gf k cs W) (hk:k=n+1) (hc:k≤cf) (hm:cf≤maxLen) (_hn:n=x.na.length) (hon:Only [w.heap.size+2] W W') (hne:gf≠w.heap.size+2) :
  SlS W' (.slice (if cf=1 then some ⟨gf,0,none⟩ else some ⟨gf,1,none⟩) (k-1) (cf-1)) ((List.range n).map (fun j=>I (x.quo (j+1)))):=by
 have hb:Blk W' gf cs 9:=(hon.block _ h.blk.lt (by simpa using hne)).trans h.blk
 have hl:((List.range n).map (fun j=>I (x.quo (j+1)))).length=k-1:=by simp;omega
 by_cases e:cf=1
 ·rw [if_pos e]
  refine .inr ⟨gf,0,cf-1,by rw [hl],by rw [hl];omega,by omega,hb.lt,fun j y hj=>?_⟩
  have:=(List.getElem?_eq_some_iff.1 hj).1
  rw [hl] at this;omega
 ·rw [if_neg e]
  refine .inr ⟨gf,1,cf-1,by rw [hl],by rw [hl];omega,by omega,hb.lt,fun j y hj=>?_⟩
  have hjl:=(List.getElem?_eq_some_iff.1 hj).1
  rw [hl] at hjl
  rw [List.getElem?_map,List.getElem?_range (by omega)] at hj
  have hy:=(Option.some.inj hj).symm
  show W'.cell? ⟨gf,1+j*1,none⟩=some (.string y)
  rw [hb.cell,Nat.mul_one,Nat.add_comm,h.row (j+1) (by omega),show x.row k (j+1)=I (x.quo (j+1)) from if_pos (by omega),hy]
theorem MixI.put {x:MixA} {w W8 W:World} {n gf i:Nat} {cs:Array Value} (h:MixI x w W8 n gf i cs W) (hi:i≤n) (hg:w.heap.size+2<gf) :
  Blk (W.setCell ⟨gf,i,none⟩ (.string (I (x.quo i)))) gf (cs.setIfInBounds i (.string (I (x.quo i)))) 9∧(∀ j,j≤n→(cs.setIfInBounds i (.string (I (x.quo i))))[j]? = some (.string (x.row (i+1) j)))∧Below w.heap.size w (W.setCell ⟨gf,i,none⟩ (.string (I (x.quo i))))∧Blk (W.setCell ⟨gf,i,none⟩ (.string (I (x.quo i)))) (w.heap.size+2) #[.slice none 0 0,.string ⟨#[]⟩] 30:=by
 have hon:Only [gf] W (W.setCell ⟨gf,i,none⟩ (.string (I (x.quo i)))):=(Only.refl [gf] W).setCell (p:=⟨gf,i,none⟩) (by simp) _
 exact ⟨h.blk.set i _,x.row_set h.row hi,h.bel.trans (hon.toBelow h.bel.size (by intro z hz;rw [List.mem_singleton.1 hz];omega)),(hon.block _ h.res.lt (by simp;omega)).trans h.res⟩
theorem mix_ok (x:MixA) (va vb:Value) (w:World) (hE:Env w) (hA:SlS w va x.na) (hB:SlS w vb x.nb) (h:mixArg x=true) :
  Calls Tryz.prog 23 #[.agg #[va,.string x.da],.agg #[vb,.string x.db],.int .i64 x.p,.int .i64 x.q] w (MixP x w):=by
 obtain ⟨aa,ca,rfl⟩:=hA.shape
 obtain ⟨ab,cb,rfl⟩:=hB.shape
 have hmB:mixB x=(x.flag x.na.length&&(List.range (x.na.length+1)).all (fun i=>decide (Bd 100 (x.quo i)))):=by unfold mixB;rw [h,Bool.true_and]
 unfold mixArg at h
 simp only [Bool.and_eq_true,decide_eq_true_eq] at h
 obtain ⟨⟨⟨⟨h1,h2⟩,h3⟩,h4⟩,h5⟩:=h
 obtain ⟨g1,g2,g3,g4,g5⟩:=Br h1
 obtain ⟨t1,t2,t3,t4,t5⟩:=Br h2
 have FA:=fun W (hW:SlS W (.slice aa x.na.length ca) x.na)=>BB _ x.na x.da W hW
 have FB:=fun W (hW:SlS W (.slice ab x.nb.length cb) x.nb)=>BB _ x.nb x.db W hW
 have P3:=Cq x.p 1 1000
 have P4:=Cq x.q 1 1000
 rw [show (decide (1≤x.p)&&decide (x.p≤1000))=true by simp [h4]] at P3
 rw [show (decide (1≤x.q)&&decide (x.q≤1000))=true by simp [h5]] at P4
 rw [h1] at FA
 rw [h2] at FB
 have hnum0:x.num 0≠0:=by
  have:=Int.mul_pos (Int.mul_pos (show 0<x.p+x.q by omega) g5) t5
  show (x.p+x.q)*zS x.da*zS x.db≠0
  omega
 obtain ⟨n,hn⟩:∃ n,n=x.na.length:=⟨_,rfl⟩
 have hn2:n=x.nb.length:=by omega
 have HA:=A8 hA
 have HB:=A8 hB
 have hok:Hid ((∀ i,i<n→okS (sAt x.na i)=true∧okS (sAt x.nb i)=true)∧okS x.da=true∧okS x.db=true):=A8 ⟨fun i hi=>⟨(g2 i (by omega)).1,(t2 i (by omega)).1⟩,g3,t3⟩
 have hpq:Hid ((1≤x.p∧x.p≤1000)∧(1≤x.q∧x.q≤1000)):=A8 ⟨h4,h5⟩
 have hnn:Hid (n=x.na.length∧n=x.nb.length∧n≤64):=A8 ⟨hn,hn2,by omega⟩
 clear hA hB h1 h2 h3 h4 h5 g1 g2 g3 g4 g5 t1 t2 t3 t4 t5
 rw [←hn] at FA HA hmB ⊢
 rw [←hn2] at FB HB ⊢
 replace FA:=A8 FA
 replace FB:=A8 FB
 replace P3:=A8 P3
 replace P4:=A8 P4
 replace hE:=A8 hE
 replace hmB:=A8 hmB
 replace hnum0:=A8 hnum0
 replace hn:=A8 hn
 clear hn2
 obtain ⟨V1,e1,S1,z1⟩:=(BL.start w).add' #[.slice aa n ca,.string x.da] 30
 obtain ⟨V2,e2,S2,z2⟩:=S1.add' #[.slice ab n cb,.string x.db] 30
 obtain ⟨V3,e3,hS,z3⟩:=S2.add' #[.slice none 0 0,.string ⟨#[]⟩] 30
 rw [z2,z1] at hS
 replace hS:BL w [(w.heap.size+2,#[.slice none 0 0,.string ⟨#[]⟩],30),(w.heap.size+1,#[.slice ab n cb,.string x.db],30),(w.heap.size,#[.slice aa n ca,.string x.da],30)] V3:=hS
 have hV:V3=((w.alloc (.cells #[.slice aa n ca,.string x.da] 30)).alloc (.cells #[.slice ab n cb,.string x.db] 30)).alloc (.cells #[.slice none 0 0,.string ⟨#[]⟩] 30):=by rw [e3,e2,e1]
 have zz:=A8 (show V3.heap.size=w.heap.size+3 by rw [z3,z2,z1])
 clear e1 e2 e3 S1 S2 z1 z2 z3
 obtain ⟨x0,x1⟩:=hS.c2 w.heap.size _ _ _ (.tail _ (.tail _ (.head _)))
 obtain ⟨y0,y1⟩:=hS.c2 (w.heap.size+1) _ _ _ (.tail _ (.head _))
 go_enter Tryz.func23,Tryz.ntmps23
 go_upto_region 1 with fail
 rw [←hV]
 clear hV
 go_wp2_with fail
 refine Calls.mono (FA.out _ (HA.out.below hS.below)) ?_
 rintro e w1 ⟨rfl,hb⟩
 replace hS:=hS.call hb
 have hsz1:=A8 hb.size
 clear x0 x1 y0 y1 hb
 obtain ⟨x0,x1⟩:=hS.c2 w.heap.size _ _ _ (.tail _ (.tail _ (.head _)))
 obtain ⟨y0,y1⟩:=hS.c2 (w.heap.size+1) _ _ _ (.tail _ (.head _))
 go_wp2_with fail
 refine Calls.mono (FB.out _ (HB.out.below hS.below)) ?_
 rintro e w2 ⟨rfl,hb⟩
 replace hS:=hS.call hb
 have hsz2:=A8 hb.size
 clear x0 x1 y0 y1 hb
 obtain ⟨x0,x1⟩:=hS.c2 w.heap.size _ _ _ (.tail _ (.tail _ (.head _)))
 obtain ⟨y0,y1⟩:=hS.c2 (w.heap.size+1) _ _ _ (.tail _ (.head _))
 go_wp2_with fail
 refine Calls.mono (P3.out _) ?_
 rintro e w3 ⟨rfl,hb⟩
 replace hS:=hS.call hb
 have hsz3:=A8 hb.size
 clear x0 x1 y0 y1 hb
 obtain ⟨x0,x1⟩:=hS.c2 w.heap.size _ _ _ (.tail _ (.tail _ (.head _)))
 obtain ⟨y0,y1⟩:=hS.c2 (w.heap.size+1) _ _ _ (.tail _ (.head _))
 go_wp2_with fail
 refine Calls.mono (P4.out _) ?_
 rintro e w4 ⟨rfl,hb⟩
 replace hS:=hS.call hb
 have hsz4:=A8 hb.size
 clear x0 x1 y0 y1 hb
 obtain ⟨x0,x1⟩:=hS.c2 w.heap.size _ _ _ (.tail _ (.tail _ (.head _)))
 obtain ⟨y0,y1⟩:=hS.c2 (w.heap.size+1) _ _ _ (.tail _ (.head _))
 go_upto_region 5 with fail
 clear x0 x1 y0 y1
 have hlt4:w.heap.size+3≤w4.heap.size:=by have:=zz.out;have:=hsz1.out;have:=hsz2.out;have:=hsz3.out;have:=hsz4.out;omega
 obtain ⟨W5,hW5⟩:∃ W,W=w4.alloc (.cells #[.bool true] 4):=⟨_,rfl⟩
 rw [←hW5]
 have hk5:Blk W5 w4.heap.size #[.bool true] 4:=by rw [hW5];exact Blk.new w4 #[.bool true] 4
 have hs5:W5.heap.size=w4.heap.size+1:=by rw [hW5,World.size_alloc]
 have ho5:Only [] w4 W5:=by rw [hW5];exact (Only.refl [] w4).alloc _
 have hS5:=hS.call (ho5.toBelow (Aa _) (by simp))
 clear hW5 ho5 hS hsz1 hsz2 hsz3 hsz4 zz FA FB P3 P4
 generalize w4.heap.size=Bk at *
 have hA5:=hS5.blks _ (.tail _ (.tail _ (.head _)))
 have hB5:=hS5.blks _ (.tail _ (.head _))
 have hR5:=hS5.blks _ (.head _)
 dsimp only at hA5 hB5 hR5
 have cc:∀ (W:World),Only [Bk] W5 W→Blk W w.heap.size #[.slice aa n ca,.string x.da] 30∧Blk W (w.heap.size+1) #[.slice ab n cb,.string x.db] 30∧Blk W (w.heap.size+2) #[.slice none 0 0,.string ⟨#[]⟩] 30:=fun W hW =>
  ⟨(hW.block _ hA5.lt (by simp;omega)).trans hA5,(hW.block _ hB5.lt (by simp;omega)).trans hB5,(hW.block _ hR5.lt (by simp;omega)).trans hR5⟩
 replace cc:=A8 cc
 replace hs5:=A8 hs5
 replace hlt4:=A8 hlt4
 have hbel5:=A8 hS5.below
 clear hA5 hB5 hR5 hS5
 refine mix_r5 (p:=x.p) (q:=x.q) (pq:=x.p+x.q) (b0:=w.heap.size) (b1:=w.heap.size+1) (Bk:=Bk) (da:=x.da) (db:=x.db) (w0:=w) hE (A8 ⟨hbel5.out,by have:=hlt4.out;omega⟩) (by have:=hpq.out;exact IntWalk.i64_in _ (by omega)) (A8 (by have:=hpq.out;exact ⟨by unfold Fits;omega,(bd11 (by omega)).small (by decide)⟩)) (A8 hok.out.2)
  (A8 (fun W hW=>⟨(cc.out W hW).1.cell 1,(cc.out W hW).2.1.cell 1⟩)) (A8 (by have:=hs5.out;omega)) (A8 hk5) (by kernel_rfl) ?_
 intro v50 v51 v52 v53 v54 v55 v56 v57 v58 v59 v60 v61 gr W6 hO6 hk6 hr6
 clear hk5
 obtain ⟨a6,b6,r6⟩:=cc.out W6 hO6
 have hbel6:=A8 (hbel5.out.trans (hO6.toBelow hbel5.out.size (by intro z hz;rw [List.mem_singleton.1 hz];have:=hlt4.out;omega)))
 have hs6:=A8 hO6.size
 have x0:=a6.cell 0
 replace a6:=A8 a6
 replace b6:=A8 b6
 replace r6:=A8 r6
 replace hk6:=A8 hk6
 replace hr6:=A8 hr6
 clear hO6 cc
 go_wp2_with fail
 refine mix_l0 (x:=x) (b0:=w.heap.size) (b1:=w.heap.size+1) (Bk:=Bk) (n:=n) (base:=W5.heap.size) (g0:=gr) (w0:=w) hE (A8 ⟨hbel6.out,by have:=hlt4.out;omega,by have:=hs5.out;omega,hs6.out⟩) hpq hnn hok
  (A8 ⟨⟨by have:=hs5.out;have:=hlt4.out;omega,by have:=hlt4.out;omega,a6.out.cell 0,a6.out.cell 1⟩,⟨by have:=hs5.out;have:=hlt4.out;omega,by have:=hlt4.out;omega,b6.out.cell 0,b6.out.cell 1⟩⟩) HA HB hk6 hr6 (by kernel_rfl) ?_
 intro gf cf u13 u14 u15 u65 u66 u67 u68 u69 u70 u71 u72 u73 u74 u75 u76 u77 u78 u79 u80 u81 u82 u83 u84 u85 u86 u87 u88 u89 u90 u91 u92 u93 u94 u95 u96 u97 u98 u99 u100 u101 u102 u103 u104 u105 W7 hbW hk7 hr7 hs7
 have kR:Hid (Blk W7 (w.heap.size+2) #[.slice none 0 0,.string ⟨#[]⟩] 30):=A8 ((hs7.out (w.heap.size+2) (by have:=hs5.out;have:=hlt4.out;omega) (by have:=hlt4.out;omega)).trans r6.out:Blk W7 (w.heap.size+2) #[.slice none 0 0,.string ⟨#[]⟩] 30)
 have hbs:=A8 (show w.heap.size+3<W5.heap.size by have:=hs5.out;have:=hlt4.out;omega)
 clear x0 hs7 r6 a6 b6 hs6 hbel6 hbel5 hs5 hlt4 hk6 hr6 HA HB hok hpq
 have z0:=(hk7.out.cell 0).trans (show _=some (Value.bool (x.flag n)) from rfl)
 cases hfl:x.flag n
 case false =>
  rw [hfl] at z0
  have hbad:Hid (mixB x=false):=A8 (by rw [hmB.out,hfl];rfl)
  have f0:=kR.out.frozen 0
  have f1:=kR.out.frozen 1
  have r0:=(kR.out.cell 0).trans (show _=some (Value.slice none 0 0) from rfl)
  have r1:=(kR.out.cell 1).trans (show _=some (Value.string ⟨#[]⟩) from rfl)
  obtain ⟨⟨k0,k1⟩,hfin,-⟩:=CR kR.out (by show w.heap.size≤w.heap.size+2;omega) hbW.out (.slice none 0 0) (.string ⟨#[]⟩)
  have hfin:=A8 (MixP.bad hbad.out hfin)
  try dsimp only at k0 k1
  clear kR hbW hbad hk7 hr7 hfl
  go_wp2
  exact bodyPost_ret (v:=.tuple #[.agg #[.slice none 0 0,.string ⟨#[]⟩],.int .i64 60]) (by simp [results,Tryz.results23,go_sem,k0,k1]) rfl hfin.out
 case true =>
  rw [hfl] at z0
  obtain ⟨cs,kr,hgb,hnc,hcm,hcs⟩:=x.row_open hfl hr7.out
  have hsm:∀ j,j<n+1→Small (x.num j):=fun j hj=>(x.good (x.flag_le hfl (show j≤n by omega))).2
  clear hk7 hr7
  obtain ⟨m,hm⟩:∃ m,m=n+1:=⟨_,rfl⟩
  rw [←hm] at hnc ⊢
  have hsM:=A8 (x.small_m hm hsm)
  have I1:MixI x w W7 n gf 0 cs W7:=⟨kr,hcs,fun j hj=>by omega,hbW.out,kR.out⟩
  replace I1:=A8 I1
  have hgp:Hid (0<x.gcd m):=A8 (by rw [hm];exact x.gcd_pos hnum0.out n)
  have hg2:Hid (w.heap.size+2<gf):=A8 (by have:=hbs.out;omega)
  replace hmB:Hid (mixB x=(List.range m).all fun i=>decide (Bd 100 (x.quo i))):=A8 (by rw [hmB.out,hfl,hm];rfl)
  have hqe:Hid (∀ i,x.quo i=x.num i / x.gcd m):=A8 (fun i=>by unfold MixA.quo;rw [hm,hn.out])
  have hI0:Value.string ⟨#[48]⟩=.string (I (x.gcd 0)):=by rw [show x.gcd 0=0 from rfl,JH]
  have hm64:m≤65:=by have:=hnn.out.2.2;omega
  replace hm:=A8 hm
  replace hI0:=A8 hI0
  replace hfl:=A8 hfl
  clear hsm hcs kr kR hbW hbs hgb hnn hnum0
  go_wp2_with fail
  go_loopw [16,111] (fun s o wr=>∃ i:Nat,s=.string (I (x.gcd i))∧o=.int .i64 i∧i≤m∧Hid (Below W7.heap.size W7 wr)) (fun _ o _=>m-(intOf o).toNat)
  case atStart=>exact ⟨0,hI0.out,rfl,by omega,A8 (Below.refl _ _)⟩
  case round =>
   clear z0
   obtain ⟨i,rfl,rfl,hi,hB⟩:=hrel
   by_cases him:i<m
   case pos =>
    have him':(i:Int)<m:=by omega
    have hi0:(0:Int)≤i:=by omega
    have y0:=((I1.out.call hB.out).blk.cell i).trans ((I1.out.call hB.out).row i (by have:=hm.out;omega))
    rw [show x.row 0 i=I (x.num i) from if_neg (by omega)] at y0
    have GC:=A8 (fun W (hW:Env W)=>(by have:=gcd_any (I (x.gcd i)) (I (x.num i)) W hW;rw [BU (x.gcd_small hsM.out hi),BU (hsM.out i him),C8,C8,Bool.and_self,show gcdZ (x.gcd i) (x.num i)=x.gcd (i+1) from rfl,BG (x.gcd_small hsM.out him)] at this;exact this:Calls Tryz.prog 60 #[.string (I (x.gcd i)),.string (I (x.num i))] W (Gives W fun r _=>r=.tuple #[.string (I (x.gcd (i+1))),.int .i64 0])))
    have hEr:=A8 (hE.out.below (I1.out.call hB.out).bel (Aa _))
    generalize I (x.num i)=t1 at *
    generalize I (x.gcd i)=t2 at *
    generalize ht3:I (x.gcd (i+1))=t3 at *
    replace ht3:=A8 ht3
    go_wp2_with fail
    refine Calls.mono (GC.out _ hEr.out) ?_
    rintro e w9 ⟨⟨r,rfl,rfl⟩,hb⟩
    replace hB:=A8 (hB.out.trans (hb.mono hB.out.size))
    clear y0 GC hEr hb
    go_wp2_with fail
    go_roundw
    case rel=>exact ⟨i+1,by rw [ht3.out],by go_num,by omega,hB⟩
    case measure=>simp [intOf];omega
   case neg =>
    have him':¬ (i:Int)<m:=by omega
    obtain rfl:i=m:=by omega
    replace I1:=A8 (I1.out.call hB.out)
    clear hB hi
    have hGs:=A8 (x.gcd_small hsM.out (Aa _))
    go_wp2_with fail
    go_loopw [124] (fun o wr2=>∃ (k:Nat) (ds:Array Value),o=.int .i64 k∧k≤i∧Hid (MixI x w W7 n gf k ds wr2)) (fun o _=>i-(intOf o).toNat)
    case atStart=>exact ⟨0,cs,rfl,by omega,I1⟩
    case round =>
     clear I1 him him'
     obtain ⟨k,ds,rfl,hk,J⟩:=hrel
     by_cases hki:k<i
     case pos =>
      have hki':(k:Int)<i:=by omega
      have hk0:(0:Int)≤k:=by omega
      have hkn:k≤n:=by have:=hm.out;omega
      have y0:=(J.out.blk.cell k).trans (J.out.row k hkn)
      rw [show x.row k k=I (x.num k) from if_neg (by omega)] at y0
      have hqs:Small (x.quo k):=by rw [hqe.out];exact (DN (hsM.out k hki)).1
      have DV:=A8 (fun W (hW:Env W)=>(by have:=div_any (I (x.num k)) (I (x.gcd i)) W hW;rw [BU hGs.out,BU (hsM.out k hki),C8,C8,Bool.and_self] at this;unfold divT at this;rw [if_pos (by have:=hgp.out;simp;omega),←hqe.out k] at this;exact this:Calls Tryz.prog 61 #[.string (I (x.num k)),.string (I (x.gcd i))] W (Gives W fun r _=>r=.tuple #[.string (I (x.quo k)),.string (I (x.num k % x.gcd i)),.int .i64 0])))
      have IN:=A8 (fun W=>(by have:=CG (I (x.quo k)) W;rw [numB_I hqs] at this;exact this:Calls Tryz.prog 62 #[.string (I (x.quo k))] W (Rets W (.bool (decide (Bd 100 (x.quo k)))))))
      have hEr:=A8 (hE.out.below J.out.bel (Aa _))
      obtain ⟨tq,htq⟩:∃ t,t=I (x.quo k):=⟨_,rfl⟩
      rw [←htq] at DV IN
      generalize I (x.num k)=t1 at *
      generalize ht2:I (x.gcd i)=t2 at *
      generalize I (x.num k % x.gcd i)=t3 at *
      replace ht2:=A8 ht2
      clear hqs
      go_wp2_with fail
      refine Calls.mono (DV.out _ hEr.out) ?_
      rintro e w9 ⟨⟨r,rfl,rfl⟩,hb⟩
      replace J:=A8 (J.out.call hb)
      clear y0 DV hEr hb
      have y0:=(J.out.blk.cell k).trans (J.out.row k hkn)
      have y1:=J.out.blk.frozen k
      obtain ⟨q1,q2,q3,q4⟩:=J.out.put hkn hg2.out
      rw [←htq] at q1 q2 q3 q4
      have q5:=(q1.cell k).trans ((q2 k hkn).trans (by rw [show x.row (k+1) k=I (x.quo k) from if_pos (by omega),←htq]))
      replace htq:=A8 htq
      replace q1:=A8 q1
      replace q2:=A8 q2
      replace q3:=A8 q3
      replace q4:=A8 q4
      go_upto_region 25 with fail
      generalize w9.setCell ⟨gf,k,none⟩ (.string tq)=W10 at *
      clear y0 y1
      go_wp2_with fail
      refine Calls.mono (IN.out _) ?_
      rintro e w11 ⟨rfl,hb⟩
      replace q1:=A8 (q1.out.below hb)
      replace q3:=A8 (q3.out.trans (hb.mono q3.out.size))
      replace q4:=A8 (q4.out.below hb)
      clear q5 hb IN
      by_cases hbd:Bd 100 (x.quo k)
      ·rw [decide_eq_true hbd]
       have J2:=A8 (⟨q1.out,q2.out,fun j hj=>if e:j=k then e ▸ hbd else J.out.bd j (by omega),q3.out,q4.out⟩:MixI x w W7 n gf (k+1) _ w11)
       clear q1 q2 q3 q4 J hbd
       go_wp2_with fail
       go_roundw
       case rel=>exact ⟨k+1,_,by go_num,by omega,J2⟩
       case measure=>simp [intOf];omega
      ·rw [decide_eq_false hbd]
       have hbad:Hid (mixB x=false):=A8 (by rw [hmB.out,List.all_eq_false];exact ⟨k,List.mem_range.2 hki,by simpa using hbd⟩)
       have hbW:=q3
       have kR:=q4
       clear q1 q2 q3 q4 hbd J
       have f0:=kR.out.frozen 0
       have f1:=kR.out.frozen 1
       have r0:=(kR.out.cell 0).trans (show _=some (Value.slice none 0 0) from rfl)
       have r1:=(kR.out.cell 1).trans (show _=some (Value.string ⟨#[]⟩) from rfl)
       obtain ⟨⟨k0,k1⟩,hfin,-⟩:=CR kR.out (by show w.heap.size≤w.heap.size+2;omega) hbW.out (.slice none 0 0) (.string ⟨#[]⟩)
       have hfin:=A8 (MixP.bad hbad.out hfin)
       try dsimp only at k0 k1
       clear kR hbW hbad
       go_wp2
       exact bodyPost_ret (v:=.tuple #[.agg #[.slice none 0 0,.string ⟨#[]⟩],.int .i64 60]) (by simp [results,Tryz.results23,go_sem,k0,k1]) rfl hfin.out
     case neg =>
      have hki':¬ (k:Int)<i:=by omega
      obtain rfl:k=i:=by omega
      have hgood:Hid (mixB x=true):=A8 (by rw [hmB.out,List.all_eq_true];intro j hj;simpa using J.out.bd j (List.mem_range.1 hj))
      have hk1:(1:Int)≤k:=by have:=hm.out;omega
      have hkc:(k:Int)≤cf:=by omega
      have y0:=(J.out.blk.cell 0).trans (J.out.row 0 (by omega))
      rw [show x.row k 0=I (x.quo 0) from if_pos (by omega)] at y0
      have hne:gf≠w.heap.size+2:=by have:=hg2.out;omega
      have f0:=J.out.res.frozen 0
      have f1:=J.out.res.frozen 1
      have r0:=(J.out.res.cell 0).trans (show _=some (Value.slice none 0 0) from rfl)
      have r1:=(J.out.res.cell 1).trans (show _=some (Value.string ⟨#[]⟩) from rfl)
      go_upto_region 28 with fail
      clear hE hqe hm64 hsM hmB
      have hC:=A8 (fun (W:World) (hW:Below wr.heap.size wr W)=>(hW.cell (p:=⟨gf,0,none⟩) J.out.blk.lt).trans y0)
      have hk01:(0:Int)<k:=by omega
      have hk02:0<k:=by omega
      have hk03:1≤k:=by omega
      have hk04:1≤cf:=by omega
      have hk05:k≤cf:=by omega
      have hk06:(1:Int)≤cf:=by omega
      generalize hq0:I (x.quo 0)=q0 at *
      replace hq0:=A8 hq0
      go_region_held3 (fun w'=>w'.cell? ⟨gf,0,none⟩=some (.string q0))
       (first | (with_reducible exact y0) | (with_reducible exact hC.out _ (Ac wr 1)) | (refine far_two hne ?_;first | (with_reducible exact y0) | (with_reducible exact hC.out _ (Ac wr 1))) | go_keep) (fail)
      obtain ⟨⟨k0,k1⟩,hfin,hon⟩:=CR J.out.res (by show w.heap.size≤w.heap.size+2;omega) J.out.bel (.slice (if cf=1 then some ⟨gf,0,none⟩ else some ⟨gf,1,none⟩) (k-1) (cf-1)) (.string q0)
      have hsl:=J.out.slice hm.out hnc hcm hn.out hon hne
      try dsimp only at k0 k1
      generalize (if cf=1 then some (⟨gf,0,none⟩:Addr) else some ⟨gf,1,none⟩)=sa at *
      have hend:=A8 (MixP.good hgood.out (hfin.trans ((Ac _ 1).mono hfin.size)) (by rw [←hn.out];exact hsl.below (Ac _ 1)))
      rw [hq0.out] at hend
      clear hfin hon hsl y0 r0 r1 f0 f1 hC J hgood
      go_wp2
      exact bodyPost_ret (v:=.tuple #[.agg #[.slice sa (k-1) (cf-1),.string q0],.int .i64 0]) (by simp [results,Tryz.results23,go_sem,k0,k1]) rfl hend.out
end
section
open Go.RowKit
def SolP (cols:Nat) (rows:List (List Int×Int)) (w:World) (e:Ending) (w':World):Prop:=Below w.heap.size w w' ∧
 ((∃ nv nums den,e=.returned (.tuple #[.agg #[.bool true,nv,.string den,.slice none 0 0],.int .i64 0])∧SlS w' nv nums∧checkL cols rows nums den=true) ∨
  (∃ wv ws,e=.returned (.tuple #[.agg #[.bool false,.slice none 0 0,.string ⟨#[]⟩,wv],.int .i64 0])∧SlS w' wv ws∧refutesL cols rows ws=true))
theorem E6 (cols:Nat) (v:Value) (rows:List (List Int×Int)) (w:World) (hE:Env w) (h:SlE w v rows) (hv:validL cols rows=true) (h8:rows.length≤8) :
  Calls Tryz.prog 14 #[.agg #[.int .i64 cols,v]] w (SolP cols rows w):=by
 have hl:=low8 hv h8
 refine (LO cols v rows w hE h hv (low_wd hl) (low_tx hl)).mono ?_
 rintro e w' ⟨B,hI,hend,hb,⟨h0,nv,he,hs⟩ | ⟨h0,wv,he,hs⟩⟩
 ·exact ⟨hb,.inl ⟨nv,_,_,he,hs,KM hv hl hI h0⟩⟩
 ·exact ⟨hb,.inr ⟨wv,_,he,hs,Id hv hl hI hend h0⟩⟩
end
section
open Go.RowKit
open LnM (sm)
structure SolZ (rows:List (List Int×Int)) (n:Nat) (x:Nat→Int) (d:Int):Prop where
 pos:0<d
 nn:∀ k,k<n→0≤x k
 eq:∀ i,i<rows.length→sm n (fun k=>x k*gi (rowOf rows i).1 k)=d*(rowOf rows i).2
structure RefZ (rows:List (List Int×Int)) (n:Nat) (w:Nat→Int):Prop where
 nn:∀ k,k<n→0≤sm rows.length (fun i=>w i*gi (rowOf rows i).1 k)
 neg:sm rows.length (fun i=>w i*(rowOf rows i).2)<0
theorem G5 {rows:List (List Int×Int)} {n:Nat} {x w:Nat→Int} {d:Int} (h:SolZ rows n x d) (g:RefZ rows n w):False:=by
 have e1:sm rows.length (fun i=>w i*sm n (fun k=>x k*gi (rowOf rows i).1 k))=d*sm rows.length (fun i=>w i*(rowOf rows i).2):=by
  rw [←LnM.sm_mul]
  exact LnM.sm_congr fun i hi=>by rw [h.eq i hi,←Int.mul_assoc,Int.mul_comm (w i),Int.mul_assoc]
 have e2:sm rows.length (fun i=>w i*sm n (fun k=>x k*gi (rowOf rows i).1 k))=sm n (fun k=>x k*sm rows.length (fun i=>w i*gi (rowOf rows i).1 k)):=by
  rw [show (fun i=>w i*sm n (fun k=>x k*gi (rowOf rows i).1 k))=(fun i=>sm n (fun k=>w i*(x k*gi (rowOf rows i).1 k))) from by funext i;rw [LnM.sm_mul],LnM.sm_swap]
  refine LnM.sm_congr fun k _=>?_
  rw [←LnM.sm_mul]
  exact LnM.sm_congr fun i _=>by rw [←Int.mul_assoc,Int.mul_comm (w i),Int.mul_assoc]
 have e3:0≤sm n (fun k=>x k*sm rows.length (fun i=>w i*gi (rowOf rows i).1 k)):=LnM.sm_nonneg fun k hk=>Int.mul_nonneg (h.nn k hk) (g.nn k hk)
 have e4:=Int.mul_neg_of_pos_of_neg h.pos g.neg
 omega
theorem C5 {cols:Int} {rows:List (List Int×Int)} {nums:List ByteArray} {den:ByteArray} (h:checkL cols rows nums den=true):validL cols rows=true∧formedL nums den=true∧(nums.length:Int)=cols:=by
 unfold checkL at h
 simp only [Bool.and_eq_true,beq_iff_eq] at h
 exact ⟨h.1.1.1,h.1.1.2,h.1.2⟩
theorem CQ {cols:Int} {rows:List (List Int×Int)} {nums:List ByteArray} {den:ByteArray} (h:checkL cols rows nums den=true):SolZ rows nums.length (fun k=>zS (sAt nums k)) (zS den):=by
 obtain ⟨_,hf,_⟩:=C5 h
 obtain ⟨_,q2,_,_,q5⟩:=Br hf
 unfold checkL at h
 simp only [Bool.and_eq_true] at h
 refine ⟨q5,fun k hk=>(q2 k hk).2.2,fun i hi=>?_⟩
 have:=List.all_eq_true.1 h.2 _ (Av hi)
 rw [decide_eq_true_eq] at this
 exact this
theorem Je {cols:Int} {rows:List (List Int×Int)} {nums:List ByteArray} {den:ByteArray} (hv:validL cols rows=true) (hf:formedL nums den=true) (hl:(nums.length:Int)=cols) (h:SolZ rows nums.length (fun k=>zS (sAt nums k)) (zS den)):checkL cols rows nums den=true:=by
 unfold checkL
 rw [hv,hf]
 simp only [Bool.and_eq_true,Bool.true_and,beq_iff_eq]
 refine ⟨hl,?_⟩
 rw [List.all_eq_true]
 intro r hr
 obtain ⟨i,hi,rfl⟩:=List.mem_iff_getElem.1 hr
 have hrow:rowOf rows i=rows[i]:=by unfold rowOf;rw [List.getElem?_eq_getElem hi];rfl
 rw [←hrow,decide_eq_true_eq]
 exact h.eq i hi
theorem El {cols:Int} {rows:List (List Int×Int)} {ws:List ByteArray} (h:refutesL cols rows ws=true):validL cols rows=true∧ws.length=rows.length∧(∀ s∈ws,numB s=true):=by
 unfold refutesL at h
 simp only [Bool.and_eq_true,decide_eq_true_eq,beq_iff_eq,Bool.not_eq_true',List.any_eq_false] at h
 exact ⟨h.1.1.1.1,by have:=h.1.1.1.2;omega,fun s hs=>by have:=h.1.1.2 s hs;simpa using this⟩
theorem DG {cols:Nat} {rows:List (List Int×Int)} {ws:List ByteArray} (h:refutesL cols rows ws=true):RefZ rows cols (fun i=>zS (sAt ws i)):=by
 obtain ⟨_,hl,_⟩:=El h
 unfold refutesL at h
 simp only [Bool.and_eq_true,decide_eq_true_eq] at h
 obtain ⟨⟨_,hk⟩,hneg⟩:=h
 rw [hl] at hk hneg
 refine ⟨fun k hkc=>?_,hneg⟩
 have:=List.all_eq_true.1 hk k (List.mem_range.2 (by simpa using hkc))
 rw [decide_eq_true_eq] at this
 exact this
def NumL.hidN (x:NumL):List ByteArray:=(List.range x.c).map (fun k=>I (x.hid k))
theorem gi_map {n:Nat} (f:Nat→Int) {k:Nat} (h:k<n):gi ((List.range n).map f) k=f k:=by
 unfold gi
 rw [List.getElem?_map,List.getElem?_range h];rfl
theorem tdivL3 {m:Int} (h:Fits m):Fits (m.tdiv 3)∧IntKind.i64.wrap (m.tdiv 3)=m.tdiv 3:=by
 have h1:m.tdiv 3≤9223372036854775807∧-9223372036854775808≤m.tdiv 3:=by
  have:=Int.natAbs_tdiv_le_natAbs m 3
  unfold Fits at h
  refine ⟨?_,by omega⟩
  rcases Int.lt_or_le 0 m with h0 | h0
  ·omega
  ·obtain ⟨b,rfl⟩:∃ b:Int,m=-b:=⟨-m,by omega⟩
   rw [Int.neg_tdiv,Int.tdiv_eq_ediv_of_nonneg (by omega)]
   omega
 exact ⟨⟨h1.2,h1.1⟩,IntWalk.i64_in _ ⟨h1.2,h1.1⟩⟩
theorem tdivL30 {m:Int} (h:Fits m):Fits (m.tdiv 30)∧IntKind.i64.wrap (m.tdiv 30)=m.tdiv 30:=by
 have h1:m.tdiv 30≤9223372036854775807∧-9223372036854775808≤m.tdiv 30:=by
  have:=Int.natAbs_tdiv_le_natAbs m 30
  unfold Fits at h
  refine ⟨?_,by omega⟩
  rcases Int.lt_or_le 0 m with h0 | h0
  ·omega
  ·obtain ⟨b,rfl⟩:∃ b:Int,m=-b:=⟨-m,by omega⟩
   rw [Int.neg_tdiv,Int.tdiv_eq_ediv_of_nonneg (by omega)]
   omega
 exact ⟨⟨h1.2,h1.1⟩,IntWalk.i64_in _ ⟨h1.2,h1.1⟩⟩
end
section
open LnM (sm)
theorem LX {cols:Nat} {rows:List (List Int×Int)} (hc:cols≤64) (hl:rows.length≤18) (h:∀ r∈rows,r.1.length=cols∧(∀ x∈r.1,-30000≤x∧x≤30000)∧-1000000000≤r.2∧r.2≤1000000000):validL cols rows=true:=by
 unfold validL
 simp only [Bool.and_eq_true,decide_eq_true_eq,Bool.not_eq_true',List.any_eq_false]
 refine ⟨⟨⟨by omega,by omega⟩,hl⟩,fun e he=>?_⟩
 obtain ⟨h1,h2,h3,h4⟩:=h e he
 have hany:e.1.any largeB=false:=by
  rw [List.any_eq_false]
  intro z hz
  have:=h2 z hz
  unfold largeB
  simp;omega
 unfold badE
 rw [hany]
 simp;omega
end
section
open Go.RowKit
open LnM (sm)
theorem sm2 (f:Nat→Int):sm 2 f=f 0+f 1:=by show (0+f 0)+f 1=_;omega
theorem Ij {a b:Int} {x:Nat→Int} {d:Int} (h:SolZ (twoL a b) 2 x d):x 0+x 1=d*a∧x 0-x 1=d*b∧0≤x 0∧0≤x 1∧0<d:=by
 have e0:=h.eq 0 (show 0<2 by decide)
 have e1:=h.eq 1 (show 1<2 by decide)
 rw [sm2] at e0 e1
 have g0:x 0*1+x 1*1=d*a:=e0
 have g1:x 0*1+x 1*(-1)=d*b:=e1
 exact ⟨by omega,by omega,h.nn 0 (by decide),h.nn 1 (by decide),h.pos⟩
theorem Ik {a b:Int} (x:Nat→Int) {d:Int} (h0:x 0+x 1=d*a) (h1:x 0-x 1=d*b) (h2:0≤x 0) (h3:0≤x 1) (h4:0<d):SolZ (twoL a b) 2 x d:=by
 refine ⟨h4,fun k hk=>?_,fun i hi=>?_⟩
 ·match k,hk with
  | 0,_=>exact h2
  | 1,_=>exact h3
 ·rw [sm2]
  match i,hi with
  | 0,_=>show x 0*1+x 1*1=d*a;omega
  | 1,_=>show x 0*1+x 1*(-1)=d*b;omega
theorem G9 {a b:Int} (ha:-1000≤a∧a≤1000) (hb:-1000≤b∧b≤1000):validL 2 (twoL a b)=true:=by
 unfold validL twoL badE
 have l1:([1,1]:List Int).any largeB=false:=by decide
 have l2:([1,-1]:List Int).any largeB=false:=by decide
 simp only [List.any_cons,List.any_nil,l1,l2]
 simp
 omega
theorem two_eq {nums:List ByteArray} {den:ByteArray} (h:checkL 2 (twoL 3 1) nums den=true):equalL nums den [⟨#[52]⟩,⟨#[50]⟩] ⟨#[50]⟩=true:=by
 obtain ⟨_,hf,hl⟩:=C5 h
 have hl2:nums.length=2:=by omega
 have hs:=CQ h
 rw [hl2] at hs
 obtain ⟨e0,e1,_,_,_⟩:=Ij hs
 have f2:formedL [⟨#[52]⟩,⟨#[50]⟩] ⟨#[50]⟩=true:=by kernel_rfl
 have z2:zS ⟨#[50]⟩=2:=by kernel_rfl
 have z4:zS ⟨#[52]⟩=4:=by kernel_rfl
 unfold equalL
 rw [hf,f2,hl2]
 simp only [Bool.true_and,Bool.and_eq_true,List.all_eq_true,decide_eq_true_eq]
 refine ⟨by simp,fun i hi=>?_⟩
 rw [z2]
 match i,List.mem_range.1 hi with
 | 0,_=>show _=zS ⟨#[52]⟩*_;rw [z4];omega
 | 1,_=>show _=zS ⟨#[50]⟩*_;rw [z2];omega
theorem Bt (cols:Nat) (v:Value) (rows:List (List Int×Int)) (w:World) (hE:Env w) (h:SlE w v rows) (hv:validL cols rows=true) (h8:rows.length≤8) {x:Nat→Int} {d:Int} (hs:SolZ rows cols x d) :
  Calls Tryz.prog 14 #[.agg #[.int .i64 cols,v]] w fun e w'=>∃ nv nums den,e=.returned (.tuple #[.agg #[.bool true,nv,.string den,.slice none 0 0],.int .i64 0])∧SlS w' nv nums∧checkL cols rows nums den=true∧Below w.heap.size w w' :=
 (E6 cols v rows w hE h hv h8).mono fun e w' ⟨hb,hh⟩=>by
  rcases hh with ⟨nv,nums,den,he,hn,hc⟩ | ⟨wv,ws,he,hw,hr⟩
  ·exact ⟨nv,nums,den,he,hn,hc,hb⟩
  ·exact (G5 hs (DG hr)).elim
theorem CT (cols:Nat) (v:Value) (rows:List (List Int×Int)) (w:World) (hE:Env w) (h:SlE w v rows) (hv:validL cols rows=true) (h8:rows.length≤8) (hs:∀ x d,¬ SolZ rows cols x d) :
  Calls Tryz.prog 14 #[.agg #[.int .i64 cols,v]] w fun e w'=>∃ wv ws,e=.returned (.tuple #[.agg #[.bool false,.slice none 0 0,.string ⟨#[]⟩,wv],.int .i64 0])∧SlS w' wv ws∧refutesL cols rows ws=true∧Below w.heap.size w w' :=
 (E6 cols v rows w hE h hv h8).mono fun e w' ⟨hb,hh⟩=>by
  rcases hh with ⟨nv,nums,den,he,hn,hc⟩ | ⟨wv,ws,he,hw,hr⟩
  ·have hl:=(C5 hc).2.2
   have hl2:nums.length=cols:=by omega
   have:=CQ hc
   rw [hl2] at this
   exact (hs _ _ this).elim
  ·exact ⟨wv,ws,he,hw,hr,hb⟩
theorem solve31 (v:Value) (w:World) (hE:Env w) (h:SlE w v (twoL 3 1)) :
  Calls Tryz.prog 14 #[.agg #[.int .i64 2,v]] w fun e w'=>∃ a nums den cp,e=.returned (.tuple #[.agg #[.bool true,.slice a nums.length cp,.string den,.slice none 0 0],.int .i64 0])∧SlS w' (.slice a nums.length cp) nums∧equalL nums den [⟨#[52]⟩,⟨#[50]⟩] ⟨#[50]⟩=true∧Below w.heap.size w w' :=
 (Bt 2 v (twoL 3 1) w hE h (G9 (by omega) (by omega)) (by decide) (Ik (fun k=>if k=0 then 2 else 1) (d:=1) (by decide) (by decide) (by decide) (by decide) (by decide))).mono fun e w' ⟨nv,nums,den,he,hn,hc,hb⟩=>by
  obtain ⟨a,cp,rfl⟩:=hn.shape
  exact ⟨a,nums,den,cp,he,hn,two_eq hc,hb⟩
theorem solve34 (v:Value) (w:World) (hE:Env w) (h:SlE w v (twoL 3 4)) :
  Calls Tryz.prog 14 #[.agg #[.int .i64 2,v]] w fun e w'=>∃ a ws cp,e=.returned (.tuple #[.agg #[.bool false,.slice none 0 0,.string ⟨#[]⟩,.slice a ws.length cp],.int .i64 0])∧SlS w' (.slice a ws.length cp) ws∧refutesL 2 (twoL 3 4) ws=true∧Below w.heap.size w w' :=
 (CT 2 v (twoL 3 4) w hE h (G9 (by omega) (by omega)) (by decide) (fun x d hs=>by
  obtain ⟨e0,e1,_,h1,h2⟩:=Ij hs
  omega)).mono fun e w' ⟨wv,ws,he,hn,hr,hb⟩=>by
  obtain ⟨a,cp,rfl⟩:=hn.shape
  exact ⟨a,ws,cp,he,hn,hr,hb⟩
theorem solve00 (v:Value) (w:World) (hE:Env w) (h:SlE w v [([],0)]) :
  Calls Tryz.prog 14 #[.agg #[.int .i64 0,v]] w fun e w'=>∃ a den cp,e=.returned (.tuple #[.agg #[.bool true,.slice a 0 cp,.string den,.slice none 0 0],.int .i64 0])∧Below w.heap.size w w' :=
 (Bt 0 v [([],0)] w hE h (by rw [show ((0:Nat):Int)=0 from rfl];decide) (by decide) (x:=fun _=>0) (d:=1) ⟨by decide,fun k hk=>by omega,fun i hi=>by
  obtain rfl:i=0:=by simp at hi;exact hi
  rfl⟩).mono fun e w' ⟨nv,nums,den,he,hn,hc,hb⟩=>by
  obtain ⟨a,cp,rfl⟩:=hn.shape
  have hl:=(C5 hc).2.2
  rw [show nums.length=0 by omega] at he
  exact ⟨a,den,cp,he,hb⟩
theorem solve01 (v:Value) (w:World) (hE:Env w) (h:SlE w v [([],1)]) :
  Calls Tryz.prog 14 #[.agg #[.int .i64 0,v]] w fun e w'=>∃ a cp,e=.returned (.tuple #[.agg #[.bool false,.slice none 0 0,.string ⟨#[]⟩,.slice a 1 cp],.int .i64 0])∧Below w.heap.size w w' :=
 (CT 0 v [([],1)] w hE h (by rw [show ((0:Nat):Int)=0 from rfl];decide) (by decide) (fun x d hs=>by
  have e:=hs.eq 0 (by decide)
  have g:(0:Int)=d*1:=e
  have:=hs.pos
  omega)).mono fun e w' ⟨wv,ws,he,hn,hr,hb⟩=>by
  obtain ⟨a,cp,rfl⟩:=hn.shape
  have hl:=(El hr).2.1
  rw [show ws.length=1 from hl] at he
  exact ⟨a,cp,he,hb⟩
theorem solve10 (v:Value) (w:World) (h:SlE w v [([],0)]) :
  Calls Tryz.prog 14 #[.agg #[.int .i64 1,v]] w (Rets w (.tuple #[.agg #[.bool false,.slice none 0 0,.string ⟨#[]⟩,.slice none 0 0],.int .i64 60])) :=
 KH 1 v [([],0)] w h (by decide)
theorem SlS.of2 {W:World} {B:Nat} {s t:ByteArray} (h:Blk W B #[.string s,.string t] 9):SlS W (.slice (some ⟨B,0,none⟩) 2 2) [s,t]:=by
 refine .inr ⟨B,0,2,rfl,Aa _,by unfold maxLen;decide,h.lt,fun j x hj=>?_⟩
 match j,hj with
 | 0,hj=>cases hj;exact h.cell 0
 | 1,hj=>cases hj;exact h.cell 1
theorem SlE.of1 {W:World} {B:Nat} {z:Int} (h:Blk W B #[.slice none 0 0,.int .i64 z] 60):SlE W (.slice (some ⟨B,0,none⟩) 1 1) [([],z)]:=by
 refine .inr ⟨B,0,1,rfl,Aa _,by unfold maxLen;decide,h.lt,fun j x hj=>?_⟩
 match j,hj with
 | 0,hj=>cases hj;exact ⟨_,h.cell 0,.inl ⟨rfl,rfl⟩,h.cell 1⟩
theorem mix13:mixR { p:=1,q:=3,na:=[⟨#[49]⟩,⟨#[48]⟩],nb:=[⟨#[48]⟩,⟨#[49]⟩],da:=⟨#[49]⟩,db:=⟨#[49]⟩ }=([⟨#[49]⟩,⟨#[51]⟩],⟨#[52]⟩,0):=by kernel_rfl
structure MS (w:World) (L:BLs) (ss:List (Value×List ByteArray)) (W:World):Prop where
 mem:Mem w L [] W
 ss:∀ p∈ss,SlS W p.1 p.2
section
variable {w W W':World} {L:BLs} {ss:List (Value×List ByteArray)}
theorem MS.start (w:World):MS w [] [] w:=⟨Mem.start w,fun p h=>by cases h⟩
theorem MS.call (h:MS w L ss W) (hb:Below W.heap.size W W'):MS w L ss W':=⟨h.mem.call hb,fun p hp=>(h.ss p hp).below hb⟩
theorem MS.new (h:MS w L ss W) (o:Obj):MS w L ss (W.alloc o):=h.call ((Below.refl _ _).alloc (Aa _) o)
theorem MS.add' (h:MS w L ss W) (cs:Array Value) (t:TypeId):∃ W' B,W'=W.alloc (.cells cs t)∧B=W.heap.size∧MS w ((B,cs,t) :: L) ss W':=⟨_,_,rfl,rfl,h.mem.add cs t,(h.new _).ss⟩
theorem MS.slice (h:MS w L ss W) {v:Value} {l:List ByteArray} (hv:SlS W v l):MS w L ((v,l) :: ss) W:=⟨h.mem,fun p hp=>by
 rcases List.mem_cons.1 hp with rfl | hp
 ·exact hv
 ·exact h.ss p hp⟩
theorem MS.cell (h:MS w L ss W) (B:Nat) (cs:Array Value) (t:TypeId) (hm:(B,cs,t)∈L) (i:Nat):W.cell? ⟨B,i,none⟩=cs[i]? := h.mem.cell B cs t hm i
theorem MS.env (h:MS w L ss W) (hE:Env w):Env W:=h.mem.env hE
end
theorem ck31:checkL 2 (twoL 3 1) [⟨#[52]⟩,⟨#[50]⟩] ⟨#[50]⟩=true:=by kernel_rfl
theorem ck32:checkL 2 (twoL 3 2) [⟨#[52]⟩,⟨#[50]⟩] ⟨#[50]⟩=false:=by kernel_rfl
theorem rf34:refutesL 2 (twoL 3 4) [⟨#[49]⟩,⟨#[45,49]⟩]=true:=by kernel_rfl
theorem rf34n:refutesL 2 (twoL 3 4) [⟨#[45,49]⟩,⟨#[49]⟩]=false:=by kernel_rfl
theorem rf31n:refutesL 2 (twoL 3 1) [⟨#[49]⟩,⟨#[45,49]⟩]=false:=by kernel_rfl
theorem vl11:validL 2 (twoL 1 1)=true:=by kernel_rfl
theorem vl65:validL 65 []=false:=by kernel_rfl
end
section
open LnM (sm)
def upTo (rows:List (List Int×Int)) (g:Nat→List Int×Int→List Int×Int) (i:Nat):List (List Int×Int):=(List.range rows.length).map fun j=>if j<i then g j (rowOf rows j) else rowOf rows j
section
variable {rows:List (List Int×Int)} {g:Nat→List Int×Int→List Int×Int} {i j:Nat}
theorem Bh:(upTo rows g i).length=rows.length:=by unfold upTo;simp
theorem Ch (hj:j<rows.length):(upTo rows g i)[j]? = some (if j<i then g j (rowOf rows j) else rowOf rows j):=by
 unfold upTo;rw [List.getElem?_map,List.getElem?_range hj];rfl
theorem E7:upTo rows g 0=rows:=by
 refine List.ext_getElem? fun j=>?_
 by_cases hj:j<rows.length
 ·rw [Ch hj,Cv hj];rfl
 ·rw [List.getElem?_eq_none (by rw [Bh];omega),List.getElem?_eq_none (by omega)]
theorem D9:upTo rows g (i+1)=(upTo rows g i).set i (g i (rowOf rows i)):=by
 refine List.ext_getElem? fun j=>?_
 by_cases hj:j<rows.length
 ·by_cases e:i=j
  ·subst e
   rw [List.getElem?_set_self (by rw [Bh];exact hj),Ch hj,if_pos (by omega)]
  ·rw [List.getElem?_set_ne e,Ch hj,Ch hj]
   by_cases h2:j<i
   ·rw [if_pos (by omega),if_pos h2]
   ·rw [if_neg (by omega),if_neg h2]
 ·rw [List.getElem?_eq_none (by rw [Bh];omega),List.getElem?_eq_none (by rw [List.length_set,Bh];omega)]
theorem Ie (hj:j<rows.length):rowOf (upTo rows g rows.length) j=g j (rowOf rows j):=by
 unfold rowOf;rw [Ch hj,if_pos hj];rfl
theorem If {r:List Int×Int} (h:r∈upTo rows g rows.length):∃ j,j<rows.length∧r=g j (rowOf rows j):=by
 obtain ⟨j,hj⟩:=List.mem_iff_getElem?.1 h
 have hl:j<rows.length:=by have:=(List.getElem?_eq_some_iff.1 hj).1;rwa [Bh] at this
 rw [Ch hl,if_pos hl] at hj
 exact ⟨j,hl,(Option.some.inj hj).symm⟩
theorem E8 {r:List Int×Int} (hi:i<rows.length):rowOf (rows.set i r) j=if j=i then r else rowOf rows j:=by
 unfold rowOf
 by_cases e:j=i
 ·subst e;rw [List.getElem?_set_self hi,if_pos rfl];rfl
 ·rw [List.getElem?_set_ne (Ne.symm e),if_neg e]
end
def upK (l:List Int) (h:Nat→Int) (k:Nat):List Int:=(List.range l.length).map fun q=>if q<k then h q else gi l q
section
variable {l:List Int} {h:Nat→Int} {k q:Nat}
theorem B7:(upK l h k).length=l.length:=by unfold upK;simp
theorem E9 (hq:q<l.length):(upK l h k)[q]? = some (if q<k then h q else gi l q):=by
 unfold upK;rw [List.getElem?_map,List.getElem?_range hq];rfl
theorem GJ (hq:q<l.length):gi (upK l h k) q=if q<k then h q else gi l q:=by
 show ((upK l h k)[q]?).getD 0=_
 rw [E9 hq];rfl
theorem Ig:upK l h 0=l:=by
 refine List.ext_getElem? fun q=>?_
 by_cases hq:q<l.length
 ·rw [E9 hq,if_neg (by omega),Bc hq,List.getElem?_eq_getElem hq]
 ·rw [List.getElem?_eq_none (by rw [B7];omega),List.getElem?_eq_none (by omega)]
theorem Ih:upK l h (k+1)=(upK l h k).set k (h k):=by
 refine List.ext_getElem? fun q=>?_
 by_cases hq:q<l.length
 ·by_cases e:k=q
  ·subst e
   rw [List.getElem?_set_self (by rw [B7];exact hq),E9 hq,if_pos (by omega)]
  ·rw [List.getElem?_set_ne e,E9 hq,E9 hq]
   by_cases h2:q<k
   ·rw [if_pos (by omega),if_pos h2]
   ·rw [if_neg (by omega),if_neg h2]
 ·rw [List.getElem?_eq_none (by rw [B7];omega),List.getElem?_eq_none (by rw [List.length_set,B7];omega)]
theorem JM {x:Int} (hx:x∈upK l h l.length):∃ q,q<l.length∧x=h q:=by
 obtain ⟨q,hq⟩:=List.mem_iff_getElem?.1 hx
 have hl:q<l.length:=by have:=(List.getElem?_eq_some_iff.1 hq).1;rwa [B7] at this
 rw [E9 hl,if_pos hl] at hq
 exact ⟨q,hl,(Option.some.inj hq).symm⟩
end
def mulR (f:Int) (r:List Int×Int):List Int×Int:=(upK r.1 (fun q=>gi r.1 q*f) r.1.length,r.2*f)
def addR (r s:List Int×Int):List Int×Int:=(upK r.1 (fun q=>gi r.1 q+gi s.1 q) r.1.length,r.2+s.2)
def mulRows (rows:List (List Int×Int)) (F:Nat→Int):List (List Int×Int):=upTo rows (fun i r=>mulR (F i) r) rows.length
def valRows (rows:List (List Int×Int)) (b:Int):List (List Int×Int):=upTo rows (fun _ r=>(r.1,r.2*b)) rows.length
def SmallR (n:Nat) (K V:Int) (rows:List (List Int×Int)):Prop:=∀ r∈rows,r.1.length=n∧(∀ x∈r.1,-K≤x∧x≤K)∧-V≤r.2∧r.2≤V
theorem SmallR.valid {n:Nat} {K V:Int} {rows:List (List Int×Int)} (h:SmallR n K V rows) (hn:n≤64) (hl:rows.length≤18) (hK:K≤30000) (hV:V≤1000000000):validL n rows=true :=
 LX hn hl fun r hr=>by
  obtain ⟨h1,h2,h3,h4⟩:=h r hr
  exact ⟨h1,fun x hx=>by have:=h2 x hx;omega,by omega,by omega⟩
theorem SmallR.gi {n:Nat} {K V:Int} {rows:List (List Int×Int)} (h:SmallR n K V rows) {i:Nat} (hi:i<rows.length) (q:Nat) (hK:0≤K):-K≤gi (rowOf rows i).1 q∧gi (rowOf rows i).1 q≤K:=by
 obtain ⟨_,h2,_⟩:=h _ (Av hi)
 by_cases hq:q<(rowOf rows i).1.length
 ·rw [Bc hq];exact h2 _ (List.getElem_mem hq)
 ·rw [Bp (by omega)];omega
theorem Do {a f K F:Int} (ha:-K≤a∧a≤K) (hf:-F≤f∧f≤F):-(K*F)≤a*f∧a*f≤K*F:=by
 have h1:(a.natAbs:Int)≤K:=by omega
 have h2:(f.natAbs:Int)≤F:=by omega
 have h3:((a*f).natAbs:Int)≤K*F:=by
  rw [Int.natAbs_mul,Int.natCast_mul]
  exact Int.mul_le_mul h1 h2 (by omega) (by omega)
 omega
theorem KN {n:Nat} {K V F:Int} {rows:List (List Int×Int)} {f:Nat→Int} (h:SmallR n K V rows) (hK:0≤K) (hf:∀ i,-F≤f i∧f i≤F):SmallR n (K*F) (V*F) (mulRows rows f):=fun r hr=>by
 obtain ⟨j,hj,rfl⟩:=If hr
 obtain ⟨h1,_,h3⟩:=h _ (Av hj)
 refine ⟨by show (upK _ _ _).length=n;rw [B7];exact h1,fun x hx=>?_,Do h3 (hf j)⟩
 obtain ⟨q,hq,rfl⟩:=JM hx
 exact Do (h.gi hj q hK) (hf j)
theorem KO {n:Nat} {K V:Int} {rows:List (List Int×Int)} {i j:Nat} (h:SmallR n K V rows) (hK:0≤K) (hi:i<rows.length) (hj:j<rows.length):SmallR n (2*K) (2*V) (rows.set i (addR (rowOf rows i) (rowOf rows j))):=fun r hr=>by
 rcases List.mem_or_eq_of_mem_set hr with h1 | rfl
 ·obtain ⟨a,b,c⟩:=h r h1
  exact ⟨a,fun x hx=>by have:=b x hx;omega,by omega,by omega⟩
 ·obtain ⟨a,_,c⟩:=h _ (Av hi)
  obtain ⟨_,_,c2⟩:=h _ (Av hj)
  refine ⟨by show (upK _ _ _).length=n;rw [B7];exact a,fun x hx=>?_,by show _≤_+_;omega,by show _+_≤_;omega⟩
  obtain ⟨q,hq,rfl⟩:=JM hx
  have h1:=h.gi hi q hK
  have h2:=h.gi hj q hK
  omega
theorem G6 {n:Nat} {K V F b:Int} {rows:List (List Int×Int)} (h:SmallR n K V rows) (hb:-F≤b∧b≤F):SmallR n K (V*F) (valRows rows b):=fun r hr=>by
 obtain ⟨j,hj,rfl⟩:=If hr
 obtain ⟨h1,h2,h3⟩:=h _ (Av hj)
 exact ⟨h1,h2,Do h3 hb⟩
theorem mulR_gi (f:Int) (r:List Int×Int) (q:Nat):gi (mulR f r).1 q=gi r.1 q*f:=by
 by_cases hq:q<r.1.length
 ·show gi (upK _ _ _) q=_;rw [GJ hq,if_pos hq]
 ·show gi (upK _ _ _) q=_;rw [Bp (by rw [B7];omega),Bp (by omega),Int.zero_mul]
theorem addR_gi {r s:List Int×Int} (h:r.1.length=s.1.length) (q:Nat):gi (addR r s).1 q=gi r.1 q+gi s.1 q:=by
 by_cases hq:q<r.1.length
 ·show gi (upK _ _ _) q=_;rw [GJ hq,if_pos hq]
 ·show gi (upK _ _ _) q=_;rw [Bp (by rw [B7];omega),Bp (by omega),Bp (by omega)];rfl
theorem LY {rows:List (List Int×Int)} {n:Nat} {F x:Nat→Int} {d:Int} (hF:∀ i,F i≠0):SolZ (mulRows rows F) n x d↔SolZ rows n x d:=by
 have e:∀ i,i<rows.length→(sm n (fun k=>x k*gi (rowOf (mulRows rows F) i).1 k)=d*(rowOf (mulRows rows F) i).2↔sm n (fun k=>x k*gi (rowOf rows i).1 k)=d*(rowOf rows i).2):=fun i hi=>by
  unfold mulRows
  rw [Ie hi]
  have e1:sm n (fun k=>x k*gi (mulR (F i) (rowOf rows i)).1 k)=F i*sm n (fun k=>x k*gi (rowOf rows i).1 k):=by
   rw [←LnM.sm_mul]
   exact LnM.sm_congr fun k _=>by rw [mulR_gi,←Int.mul_assoc,Int.mul_comm]
  rw [e1,show d*(mulR (F i) (rowOf rows i)).2=F i*(d*(rowOf rows i).2) by show d*(_*_)=_;rw [←Int.mul_assoc,Int.mul_comm]]
  exact ⟨fun h=>Int.eq_of_mul_eq_mul_left (hF i) h,fun h=>by rw [h]⟩
 have hl:(mulRows rows F).length=rows.length:=Bh
 exact ⟨fun h=>⟨h.pos,h.nn,fun i hi=>(e i hi).1 (h.eq i (by rw [hl];exact hi))⟩,fun h=>⟨h.pos,h.nn,fun i hi=>(e i (by rw [hl] at hi;exact hi)).2 (h.eq i (by rw [hl] at hi;exact hi))⟩⟩
theorem LZ {rows:List (List Int×Int)} {n i j:Nat} {x:Nat→Int} {d:Int} (hij:i≠j) (hi:i<rows.length) (hj:j<rows.length) (hl:(rowOf rows i).1.length=(rowOf rows j).1.length):SolZ (rows.set i (addR (rowOf rows i) (rowOf rows j))) n x d↔SolZ rows n x d:=by
 have e:sm n (fun k=>x k*gi (addR (rowOf rows i) (rowOf rows j)).1 k)=sm n (fun k=>x k*gi (rowOf rows i).1 k)+sm n (fun k=>x k*gi (rowOf rows j).1 k):=by
  rw [←LnM.sm_add]
  exact LnM.sm_congr fun k _=>by rw [addR_gi hl,Int.mul_add]
 have e2:d*(addR (rowOf rows i) (rowOf rows j)).2=d*(rowOf rows i).2+d*(rowOf rows j).2:=by show d*(_+_)=_;rw [Int.mul_add]
 constructor
 ·intro h
  have hlen:(rows.set i (addR (rowOf rows i) (rowOf rows j))).length=rows.length:=by simp
  have hj':=h.eq j (by rw [hlen];exact hj)
  rw [E8 hi,if_neg (Ne.symm hij)] at hj'
  refine ⟨h.pos,h.nn,fun q hq=>?_⟩
  have hq':=h.eq q (by rw [hlen];exact hq)
  rw [E8 hi] at hq'
  by_cases eq:q=i
  ·subst eq
   rw [if_pos rfl,e,e2] at hq'
   omega
  ·rw [if_neg eq] at hq';exact hq'
 ·intro h
  refine ⟨h.pos,h.nn,fun q hq=>?_⟩
  have hq':q<rows.length:=by simpa using hq
  rw [E8 hi]
  by_cases eq:q=i
  ·subst eq
   rw [if_pos rfl,e,e2,h.eq q hi,h.eq j hj]
  ·rw [if_neg eq];exact h.eq q hq'
theorem GK {rows:List (List Int×Int)} {b:Int} {i:Nat} (hi:i<rows.length):rowOf (valRows rows b) i=((rowOf rows i).1,(rowOf rows i).2*b):=Ie hi
theorem BY {rows:List (List Int×Int)} {b:Int}:(valRows rows b).length=rows.length:=Bh
theorem Jf {rows:List (List Int×Int)} {n:Nat} {x:Nat→Int} {d b:Int} (hb:0<b) (h:SolZ rows n x d):SolZ (valRows rows b) n (fun k=>x k*b) d :=
 ⟨h.pos,fun k hk=>Int.mul_nonneg (h.nn k hk) (by omega),fun i hi=>by
  rw [BY] at hi
  rw [GK hi]
  show sm n (fun k=>x k*b*gi (rowOf rows i).1 k)=d*((rowOf rows i).2*b)
  rw [←Int.mul_assoc,←h.eq i hi,←LnM.sm_mul_right]
  exact LnM.sm_congr fun k _=>by rw [Int.mul_assoc,Int.mul_comm b,Int.mul_assoc]⟩
theorem Jg {rows:List (List Int×Int)} {n:Nat} {x:Nat→Int} {d b:Int} (hb:0<b) (h:SolZ (valRows rows b) n x d):SolZ rows n x (d*b) :=
 ⟨Int.mul_pos h.pos hb,h.nn,fun i hi=>by
  have:=h.eq i (by rw [BY];exact hi)
  rw [GK hi] at this
  rw [this]
  show d*(_*b)=d*b*_
  rw [Int.mul_comm _ b,Int.mul_assoc]⟩
theorem G7 (rows:List (List Int×Int)) (n:Nat):SolZ (valRows rows 0) n (fun _=>0) 1 :=
 ⟨by decide,fun _ _=>Int.le_refl _,fun i hi=>by
  rw [BY] at hi
  rw [GK hi]
  show sm n (fun k=>0*gi (rowOf rows i).1 k)=1*((rowOf rows i).2*0)
  rw [LnM.sm_zero fun k _=>Int.zero_mul _];omega⟩
theorem G8 {c:Nat} {rows rows2:List (List Int×Int)} {nums:List ByteArray} {den:ByteArray} (h1:validL c rows=true) (h2:validL c rows2=true) (h:∀ x d,SolZ rows2 c x d↔SolZ rows c x d):checkL c rows2 nums den=checkL c rows nums den:=by
 have key:∀ {a b:List (List Int×Int)},validL c b=true→(∀ x d,SolZ a c x d→SolZ b c x d)→checkL c a nums den=true→checkL c b nums den=true:=fun {a b} hb hab hc=>by
  obtain ⟨_,hf,hl⟩:=C5 hc
  have hl':nums.length=c:=by omega
  have hs:=CQ hc
  rw [hl'] at hs
  exact Je hb hf hl (by rw [hl'];exact hab _ _ hs)
 rw [Bool.eq_iff_iff]
 exact ⟨key h1 fun x d=>(h x d).1,key h2 fun x d=>(h x d).2⟩
end
end Go.Proofs.YtcmomjnailihpaaGreatDoor
