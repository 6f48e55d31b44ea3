/- DecB, DecC, DecD, DecK -/
import Derived.Test.YtdkonnnmkceagaaGreatDoorZDecM
import Derived.Test.YtdkonnnmkceagaaGreatDoorZPkF
import Derived.Deep.RegionHeld3
import Derived.Deep.DeepCutAuto
import Derived.Deep.RegionWith
import Derived.Deep.QuietTactic
import Derived.BigQuiet
import Derived.RegionTactic
import Derived.BigRegion
set_option maxHeartbeats 16000000
set_option maxRecDepth 100000
namespace Go.Proofs.YtdkonnnmkceagaaGreatDoor
section
open Go.RowKit
open DecM (Dt gd Fv Eb Lc Fi Ln)
attribute [local go_sem] Oper.semAt_some
theorem Th {l:List Dt} {k:Nat} (p:Dt->Bool) (h:k<l.length):(l.drop k).any p=(p (gd l k) || (l.drop (k+1)).any p):=by rw [JA h,List.any_cons]
theorem OJ (v:Value) (l:List Dt) (g:Nat) (lb:Array Value) (p:Dt->Bool) (w:World) (h:Gp w v l)
  (hE:∀ (args:Array Value) (w:World),(callFunc g args).run Tryz.prog w=.ok (.enter g args) w)
  (hF:∀ (W:World) (x:Dt),x∈l->Below w.heap.size w W->Calls Tryz.prog g (#[.agg #[.int .i64 x.t,.int .i64 x.lo,.int .i64 x.hi]]++lb) W fun e W'=>e=.returned (.bool (p x))/\Below W.heap.size W W') :
  Calls Tryz.prog 50 #[v,.func (.func g) #[] lb] w fun e w'=>(∃ z:Int,e=.returned (.int .i64 z)/\-1<=z/\(0<=z↔l.any p=true))/\Below w.heap.size w w':=by
 have hl:=h.len_le
 unfold maxLen at hl
 rcases h with ⟨rfl,rfl⟩ | ⟨b,off,cap,rfl,h1,h2,h3,h4⟩
 ·go_enter Tryz.func50,Tryz.ntmps50
  go_wp2_with fail;go_loopw [8] (fun i wr=>i=.int .i64 0/\wr=w) (fun _ _=>0);case atStart=>exact ⟨rfl,rfl⟩
  case round =>
   obtain ⟨rfl,rfl⟩:=hrel;go_wp2;go_ret;exact ⟨⟨-1,rfl,Ad,Af⟩,Below.refl _ _⟩
 ·go_enter Tryz.func50,Tryz.ntmps50
  go_wp2_with fail;go_loopw [8] (fun i wr=>∃ (k:Nat),i=.int .i64 k/\k<=l.length/\Hid (l.any p=(l.drop k).any p)/\Below w.heap.size w wr)
   (fun i _=>l.length-(intOf i).toNat)
  case atStart=>exact ⟨0,rfl,Ad,rfl,Below.refl _ _⟩
  case round =>
   obtain ⟨k,rfl,hk,hp,hB⟩:=hrel;by_cases hkl:k<l.length
   ·obtain ⟨c0,c1,c2⟩:=(h4 k hkl).below hB h3
    rw [Th p hkl] at hp;have hFk:=hF wr (gd l k) (Eb hkl) hB;cases hpk:p (gd l k) with
    | true =>
     replace hp:=A8 (show l.any p=true by rw [hp.out,hpk] <;> rfl);rw [hpk] at hFk;clear hpk;replace hFk:=A8 hFk;generalize gd l k=x at *
     go_wp2_with fail;refine hFk.out.mono ?_;rintro e W' ⟨rfl,hb⟩;go_wp2;go_ret;exact ⟨⟨k,rfl,Ad,by rw [hp.out];simp⟩,Cv hb hB (Aa _)⟩
    | false =>
     replace hp:=A8 (show l.any p=(l.drop (k+1)).any p by rw [hp.out,hpk] <;> rfl);rw [hpk] at hFk;clear hpk;replace hFk:=A8 hFk;generalize gd l k=x at *
     go_wp2_with fail;refine hFk.out.mono ?_;rintro e W' ⟨rfl,hb⟩;go_wp2_with fail;go_roundw;case rel=>exact ⟨k+1,by go_num,Ad,hp,Cv hb hB (Aa _)⟩
     case measure=>simp [intOf];omega
   ·have hp:=A8 (show l.any p=false by rw [hp.out,List.drop_eq_nil_of_le Ad];rfl)
    go_wp2;go_ret;exact ⟨⟨-1,rfl,Ad,by rw [hp.out];simp⟩,hB⟩
theorem Hx (v:Value) (l:List Dt) (g:Nat) (lb:Array Value) (p:Dt->Bool) (w:World) (h:Gp w v l)
  (hE:∀ (args:Array Value) (w:World),(callFunc g args).run Tryz.prog w=.ok (.enter g args) w)
  (hF:∀ (W:World) (x:Dt),x∈l->Below w.heap.size w W->Calls Tryz.prog g (#[.agg #[.int .i64 x.t,.int .i64 x.lo,.int .i64 x.hi]]++lb) W fun e W'=>e=.returned (.bool (p x))/\Below W.heap.size W W') :
  Calls Tryz.prog 26 #[v,.func (.func g) #[] lb] w fun e w'=>e=.returned (.bool (l.any p))/\Below w.heap.size w w':=by
 have hI:=A8 (OJ v l g lb p w h hE hF)
 go_enter Tryz.func26,Tryz.ntmps26
 go_wp2_with fail
 refine hI.out.mono ?_
 rintro e w' ⟨⟨z,rfl,hz0,hz⟩,hb⟩
 replace hz:=A8 (show decide (0<=z)=l.any p by cases hc:l.any p <;> simp [hc] at hz |- <;> omega)
 go_wp2
 go_ret
 exact ⟨D6 hz.out,hb⟩
structure Gq (x:Ln):Prop where
 t:0<=x.t/\x.t<=800000
 u:0<=x.u/\x.u<=800000
 v:-1000000<=x.v/\x.v<=1000000
 w:-1000000<=x.w/\x.w<=1000000
theorem GM {a b:Int} (A B:Nat) (ha:-(A:Int)<=a/\a<=A) (hb:-(B:Int)<=b/\b<=B):-((A*B:Nat):Int)<=a*b/\a*b<=((A*B:Nat):Int):=by
 have h:(a*b).natAbs<=A*B:=by rw [Int.natAbs_mul];exact Nat.mul_le_mul Ad Ad
 omega
theorem on_bd {x:Ln} (h:Gq x) {t:Int} (ht:0<=t/\t<=800000):(-800000000000<=x.v*(x.u-t)/\x.v*(x.u-t)<=800000000000)/\(-800000000000<=x.w*(t-x.t)/\x.w*(t-x.t)<=800000000000):=by
 obtain ⟨h1,h2,h3,h4⟩:=h;have a:=GM (a:=x.v) (b:=x.u-t) 1000000 800000 Ad Ad;have b:=GM (a:=x.w) (b:=t-x.t) 1000000 800000 Ad Ad;exact ⟨Ad,Ad⟩
theorem Np {x:Ln} (h:Gq x) {t:Int} (ht:0<=t/\t<=800000):-1600000000000<=x.on t/\x.on t<=1600000000000:=by
 have:=on_bd h ht;unfold DecM.Ln.on;omega
theorem J1 (x:Ln) (t:Int) (h:Gq x) (ht:0<=t/\t<=800000) (w:World) :
  Calls Tryz.prog 17 #[.agg #[.int .i64 x.t,.int .i64 x.v,.int .i64 x.u,.int .i64 x.w],.int .i64 t] w fun e w'=>e=.returned (.int .i64 (x.on t))/\Below w.heap.size w w':=by
 obtain ⟨⟨b1,b2⟩,b3,b4⟩:=on_bd h ht
 obtain ⟨⟨t0,t1⟩,⟨u0,u1⟩,_,_⟩:=h
 obtain ⟨ht0,ht1⟩:=ht
 have he:=A8 (show x.v*(x.u-t)+x.w*(t-x.t)=x.on t from rfl)
 generalize x.on t=r at *
 obtain ⟨p,v,u,q⟩:=x
 dsimp only at *
 have w1:IntKind.i64.wrap (u-t)=u-t:=Bz _ Ad
 have w2:IntKind.i64.wrap (t-p)=t-p:=Bz _ Ad
 have w3:IntKind.i64.wrap (v*(u-t))=v*(u-t):=Bz _ Ad
 have w4:IntKind.i64.wrap (q*(t-p))=q*(t-p):=Bz _ Ad
 have w5:IntKind.i64.wrap (v*(u-t)+q*(t-p))=v*(u-t)+q*(t-p):=Bz _ Ad
 have hB:=Es (Below.refl w.heap.size w) (.cells #[.int .i64 p,.int .i64 v,.int .i64 u,.int .i64 q] 56)
 go_enter Tryz.func17,Tryz.ntmps17
 go_wp2
 go_ret
 exact ⟨D9 he.out,hB⟩
theorem OK (n lo hi:Int) (w:World):Calls Tryz.prog 37 #[.int .i64 n,.int .i64 lo,.int .i64 hi] w (CM w (.bool (decide (lo<=n)&&decide (n<=hi)))) :=
 (Km n lo hi w).mono fun _ _ h=>⟨h.1,by rw [<-h.2];exact Below.refl _ _⟩
structure Ti (d:Dt):Prop where
 t:0<=d.t/\d.t<=800000
 lo:-1000000<=d.lo/\d.lo<=1000000
 hi:-1000000<=d.hi/\d.hi<=1000000
theorem H9 {l:List Dt} (h:Fi l=true) {d:Dt} (hd:d∈l):Ti d:=by
 obtain ⟨_,h2,_⟩:=DecM.okD_iff.1 h;have:=h2 d hd;exact ⟨Ad,Ad,Ad⟩
def R7 (x:Ln) (d:Dt):Bool:=!(decide (d.lo*(x.u-x.t)<=x.on d.t)&&decide (x.on d.t<=d.hi*(x.u-x.t)))
theorem Tj (x:Ln) (l:List Dt):(!l.any (R7 x))=x.fits l:=by
 unfold DecM.Ln.fits R7;induction l with
 | nil=>rfl
 | cons d l ih=>rw [List.any_cons,List.all_cons,<-ih,Bool.not_or,Bool.not_not]
theorem R8 (x:Ln) (d:Dt) (Bx Bn:Nat) (hx:Gq x) (hd:Ti d) (w:World) (k1:CO w Bx #[.int .i64 x.t,.int .i64 x.v,.int .i64 x.u,.int .i64 x.w] 56) (k2:CO w Bn #[.int .i64 (x.u-x.t)] 3) :
  Calls Tryz.prog 118 #[.agg #[.int .i64 d.t,.int .i64 d.lo,.int .i64 d.hi],.pointer (some ⟨Bx,0,none⟩),.pointer (some ⟨Bn,0,none⟩)] w (CM w (.bool (R7 x d))):=by
 have ON:=A8 (fun W=>J1 x d.t hx hd.t W)
 have hob:=Np hx hd.t
 obtain ⟨n,hn⟩:∃ n:Int,n=x.u-x.t:=⟨_,rfl⟩
 unfold R7
 rw [<-hn] at k2 |-
 have nb:-800000<=n/\n<=800000:=by have:=hx.t;have:=hx.u;omega
 have m1:=GM (a:=d.lo) (b:=n) 1000000 800000 (by have:=hd.lo;omega) Ad
 have m2:=GM (a:=d.hi) (b:=n) 1000000 800000 (by have:=hd.hi;omega) Ad
 generalize x.on d.t=r at *
 obtain ⟨p,hp⟩:∃ p:Int,p=d.lo*n:=⟨_,rfl⟩
 obtain ⟨u,hu⟩:∃ u:Int,u=d.hi*n:=⟨_,rfl⟩
 have IN:=A8 (fun W=>OK r (d.lo*n) (d.hi*n) W)
 generalize (decide (d.lo*n<=r)&&decide (r<=d.hi*n))=bb at *
 have w1:IntKind.i64.wrap (d.lo*n)=d.lo*n:=Bz _ Ad
 have w2:IntKind.i64.wrap (d.hi*n)=d.hi*n:=Bz _ Ad
 clear m1 m2 hp hu hob nb hn hx hd
 have S0:BL w [(Bn,#[.int .i64 n],3),(Bx,#[.int .i64 x.t,.int .i64 x.v,.int .i64 x.u,.int .i64 x.w],56)] w:=⟨Below.refl _ _,fun p hp=>by rcases As.1 hp with rfl | hp;exact k2;rcases As.1 hp with rfl | hp;exact k1;cases hp⟩
 obtain ⟨V,hV,hS,hz⟩:=S0.add' #[.int .i64 d.t,.int .i64 d.lo,.int .i64 d.hi] 28
 clear S0 hz k1 k2
 go_enter Tryz.func118,Tryz.ntmps118
 go_upto_region 1 with fail
 rw [<-hV]
 clear hV
 have hC0:∀ W',BL w [(w.heap.size,#[.int .i64 d.t,.int .i64 d.lo,.int .i64 d.hi],28),(Bn,#[.int .i64 n],3),(Bx,#[.int .i64 x.t,.int .i64 x.v,.int .i64 x.u,.int .i64 x.w],56)] W'->(W'.cell? ⟨w.heap.size,0,none⟩=some (.int .i64 d.t)/\W'.cell? ⟨w.heap.size,1,none⟩=some (.int .i64 d.lo)/\W'.cell? ⟨w.heap.size,2,none⟩=some (.int .i64 d.hi)/\W'.cell? ⟨Bx,0,none⟩=some (.int .i64 x.t)/\W'.cell? ⟨Bx,1,none⟩=some (.int .i64 x.v)/\W'.cell? ⟨Bx,2,none⟩=some (.int .i64 x.u)/\W'.cell? ⟨Bx,3,none⟩=some (.int .i64 x.w)/\W'.cell? ⟨Bn,0,none⟩=some (.int .i64 n)):=fun W' h=>⟨(h.cell (w.heap.size) _ _ Ah 0),(h.cell (w.heap.size) _ _ Ah 1),(h.cell (w.heap.size) _ _ Ah 2),(h.cell (Bx) _ _ Aj 0),(h.cell (Bx) _ _ Aj 1),(h.cell (Bx) _ _ Aj 2),(h.cell (Bx) _ _ Aj 3),(h.cell (Bn) _ _ Ai 0)⟩
 have hC:=A8 hC0
 clear hC0
 obtain ⟨x0',x1',x2',x3',x4',x5',x6',x7'⟩:=hC.out _ hS
 replace hS:=hS.drew
 go_region_held3 (fun w'=>w'.cell? ⟨w.heap.size,0,none⟩=some (.int .i64 d.t)/\w'.cell? ⟨w.heap.size,1,none⟩=some (.int .i64 d.lo)/\w'.cell? ⟨w.heap.size,2,none⟩=some (.int .i64 d.hi)/\w'.cell? ⟨Bx,0,none⟩=some (.int .i64 x.t)/\w'.cell? ⟨Bx,1,none⟩=some (.int .i64 x.v)/\w'.cell? ⟨Bx,2,none⟩=some (.int .i64 x.u)/\w'.cell? ⟨Bx,3,none⟩=some (.int .i64 x.w)/\w'.cell? ⟨Bn,0,none⟩=some (.int .i64 n))
  (first | with_reducible exact hC.out _ hS | go_keep)
  (first | (go_at_call 17;(with_reducible refine Calls.mono (ON.out _) ?_);rintro e w' ⟨rfl,hb⟩;replace hS:=hS.call hb;clear hb) | (go_at_call 37;(with_reducible refine Calls.mono (IN.out _) ?_);rintro e w' ⟨rfl,hb⟩;replace hS:=hS.call hb;clear hb))
 go_wp2
 go_ret
 exact ⟨rfl,hS.below⟩
theorem R9 (x:Ln) (v:Value) (l:List Dt) (hx:Gq x) (hl:∀ d∈l,Ti d) (w:World) (h:Gp w v l) :
  Calls Tryz.prog 99 #[.agg #[.int .i64 x.t,.int .i64 x.v,.int .i64 x.u,.int .i64 x.w],v] w (CM w (.bool (x.fits l))):=by
 rw [<-Tj]
 have k1:=CO.new w #[.int .i64 x.t,.int .i64 x.v,.int .i64 x.u,.int .i64 x.w] 56
 have b1:=Es (Below.refl w.heap.size w) (.cells #[.int .i64 x.t,.int .i64 x.v,.int .i64 x.u,.int .i64 x.w] 56)
 have k2:=CO.new (w.alloc (.cells #[.int .i64 x.t,.int .i64 x.v,.int .i64 x.u,.int .i64 x.w] 56)) #[.int .i64 (x.u-x.t)] 3
 have b2:=Es b1 (.cells #[.int .i64 (x.u-x.t)] 3)
 have k1:=k1.alloc (.cells #[.int .i64 (x.u-x.t)] 3)
 obtain ⟨V,hV⟩:∃ V,V=(w.alloc (.cells #[.int .i64 x.t,.int .i64 x.v,.int .i64 x.u,.int .i64 x.w] 56)).alloc (.cells #[.int .i64 (x.u-x.t)] 3):=⟨_,rfl⟩
 rw [<-hV] at k1 k2 b2
 rw [AP] at k2
 have C:=A8 (Hx v l 118 #[.pointer (some ⟨w.heap.size,0,none⟩),.pointer (some ⟨w.heap.size+1,0,none⟩)] (R7 x) V (h.below b2) (Go.Proofs.enters_of Tryz.func118 Ab rfl) (fun W d hd hb=>R8 x d w.heap.size (w.heap.size+1) hx (hl d hd) W (k1.below hb) (k2.below hb)))
 have w1:IntKind.i64.wrap (x.u-x.t)=x.u-x.t:=Bz _ (by have:=hx.t;have:=hx.u;omega)
 generalize l.any (R7 x)=bb at *
 obtain ⟨a,cap,rfl⟩:=h.shape
 clear hx hl h k1 k2 b1
 go_enter Tryz.func99,Tryz.ntmps99
 go_wp2_with fail
 rw [<-hV]
 clear hV
 refine Calls.mono C.out ?_
 rintro e w' ⟨rfl,hb⟩
 go_wp2
 go_ret
 exact ⟨rfl,Cv hb b2 (Aa _)⟩
end
section
open Go.RowKit Go.Shelf
open DecM (Dt gd Fv Eb Lc Fi Ln D7 OI T9 EM)
attribute [local go_sem] Oper.semAt_some
def JB (S:List Nat) (W W':World):Prop:=W.heap.size<=W'.heap.size/\∀ (k:Nat) (o:Obj),k∉S->W.heap[k]? = some o->o.isCells=true->W'.heap[k]? = some o
theorem JB.refl (S:List Nat) (W:World):JB S W W:=⟨Aa _,fun _ _ _ h _=>h⟩
theorem JB.trans {S:List Nat} {A B C:World} (h:JB S A B) (k:JB S B C):JB S A C:=⟨AN h.1 k.1,fun i o hs hi ho=>k.2 i o hs (h.2 i o hs hi ho) ho⟩
theorem JB.of_below {S:List Nat} {W W':World} (hb:Below W.heap.size W W'):JB S W W':=⟨hb.size,fun k _ _ hk _=>(hb.block k (Bu.1 hk).1).trans hk⟩
theorem JB.putObj {S:List Nat} {W:World} {l:Nat} {o:Obj} (o':Obj) (hl:W.heap[l]? = some o) (ho:o.isCells=false):JB S W (W.putObj l o') :=
 ⟨by simp [World.putObj],fun k u _ hk hu=>by
  by_cases e:k=l
  ·subst e;rw [hl] at hk;cases hk;rw [ho] at hu;cases hu
  ·rw [World.putObj_heap_other e];exact hk⟩
theorem JB.blk {S:List Nat} {W W':World} (h:JB S W W') {B:Nat} {cs:Array Value} {t:TypeId} (hb:CO W B cs t) (hs:B∉S):CO W' B cs t:=h.2 B _ hs hb rfl
theorem JB.cell {S:List Nat} {W W':World} (h:JB S W W') {p:Addr} {v:Value} (hc:W.cell? p=some v) (hs:p.block∉S):W'.cell? p=some v:=by
 obtain ⟨o,ho,hi⟩:=cells_of_cell hc;exact (World.cell?_of_block ((h.2 _ _ hs ho hi).trans ho.symm)).trans hc
theorem JB.dcell {S:List Nat} {W W':World} (h:JB S W W') {b o:Nat} {p:Dt} (hc:Hw W b o p) (hs:b∉S):Hw W' b o p:=⟨h.cell hc.1 hs,h.cell hc.2.1 hs,h.cell hc.2.2 hs⟩
abbrev FLn (ds:List Dt):={ x:Ln // x∈D7 ds }
def flV {ds:List Dt} (x:FLn ds):Array Value:=#[.agg #[.int .i64 x.1.t,.int .i64 x.1.v,.int .i64 x.1.u,.int .i64 x.1.w]]
theorem Tk {ds:List Dt} {i:Nat} (h:i<ds.length):OI (ds.drop i)=((ds.drop (i+1)).map (fun q=>(gd ds i,q))).flatMap (fun x=>EM x.1 x.2)++OI (ds.drop (i+1)):=by
 unfold OI;rw [JA h,T9,List.flatMap_append]
theorem Tl {ds:List Dt} {p:Dt} {j:Nat} (h:j<ds.length):((ds.drop j).map (fun q=>(p,q))).flatMap (fun x=>EM x.1 x.2)=EM p (gd ds j)++((ds.drop (j+1)).map (fun q=>(p,q))).flatMap (fun x=>EM x.1 x.2):=by
 rw [JA h];simp
theorem Le {p q:Dt} (hp:Ti p) (hq:Ti q) {x:Ln} (hx:x∈EM p q):Gq x:=by
 simp only [EM,As,AQ,or_false] at hx;rcases hx with rfl | rfl | rfl | rfl
 ·exact ⟨hp.t,hq.t,hp.lo,hq.lo⟩
 ·exact ⟨hp.t,hq.t,hp.lo,hq.hi⟩
 ·exact ⟨hp.t,hq.t,hp.hi,hq.lo⟩
 ·exact ⟨hp.t,hq.t,hp.hi,hq.hi⟩
theorem Kp {ds:List Dt} (h:Fi ds=true) {x:Ln} (hx:x∈D7 ds):Gq x:=by
 have hx:=(List.mem_filter.1 hx).1;unfold OI at hx;obtain ⟨y,hy,hx⟩:=List.mem_flatMap.1 hx;obtain ⟨h1,h2,_⟩:=(DecM.mem_prs (DecM.okD_good h) (p:=y.1) (q:=y.2)).1 hy;exact Le (H9 h h1) (H9 h h2) hx
structure Rx (Bs b off cap:Nat) (ds:List Dt) (W:World):Prop where
 box:W.cell? ⟨Bs,0,none⟩=some (.slice (some ⟨b,off,none⟩) ds.length cap)
 lt:b<W.heap.size
 cells:∀ j,j<ds.length->Hw W b (off+j*3) (gd ds j)
theorem Rx.below {Bs b off cap:Nat} {ds:List Dt} {W W':World} (h:Rx Bs b off cap ds W) (hb:Below W.heap.size W W'):Rx Bs b off cap ds W' :=
 ⟨(hb.cell (p:=⟨Bs,0,none⟩) (Ck W _ h.box)).trans h.box,A9 h.lt hb.size,fun j hj=>(h.cells j hj).below hb h.lt⟩
theorem Rx.kpc {S:List Nat} {Bs b off cap:Nat} {ds:List Dt} {W W':World} (h:Rx Bs b off cap ds W) (hk:JB S W W') (h1:Bs∉S) (h2:b∉S):Rx Bs b off cap ds W' :=
 ⟨hk.cell h.box h1,A9 h.lt hk.1,fun j hj=>hk.dcell (h.cells j hj) h2⟩
theorem Rx.sl {Bs b off cap:Nat} {ds:List Dt} {W:World} (h:Rx Bs b off cap ds W) (h1:ds.length<=cap) (h2:cap<=maxLen):Gp W (.slice (some ⟨b,off,none⟩) ds.length cap) ds:=.inr ⟨b,off,cap,rfl,h1,h2,h.lt,h.cells⟩
theorem Ra (l:Nat) (Bs b off cap:Nat) (ds:List Dt) (S:List Nat) (hok:Fi ds=true) (h1:ds.length<=cap) (h2:cap<=maxLen) (hs1:Bs∉S) (hs2:b∉S) (J Jx:List (FLn ds)->World->Prop)
  (W:World) (hS:∀ k∈S,k<W.heap.size) (hJ:AbidesFrom W.heap.size J)
  (hY:∀ pre x W,J pre W->pre.length<(D7 ds).length->YieldAt Fence.wide 3 Tryz.prog l (flV x) W fun e W' =>
   (e=.returned (.bool true)/\J (pre++[x]) W'/\JB S W W')∨(e=.returned (.bool false)/\Jx (pre++[x]) W'))
  (hD:Rx Bs b off cap ds W) (h0:J [] W) :
  CallsIn Fence.wide 4 Tryz.prog 98 #[.func (.yield l) #[] #[],.pointer (some ⟨Bs,0,none⟩)] W fun e W'=>(∃ v,e=.returned v) /\
   ((∃ ys:List (FLn ds),ys.map (·.1)=D7 ds/\J ys W')∨(∃ pre,True/\Jx pre W')):=by
 have hl:ds.length<=16:=(DecM.okD_iff.1 hok).2.2
 unfold maxLen at h2
 refine callsIn_of_wp Tryz.func98 rfl trivial ?_ rfl
 simp only [Tryz.ntmps98,Bg,C4,Cf,Nat.reduceAdd,Nat.reduceSub,Cg,Ch,Ci,Cj,BC,BK]
 have hbx:=hD.box
 gi_wp2
 gi_loopw [11] (fun i wr=>∃ (k:Nat) (pre:List (FLn ds)),i=.int .i64 k/\k<=ds.length/\W.heap.size<=wr.heap.size/\J pre wr/\Hid (pre.map (·.1)++(OI (ds.drop k)).filter (fun x=>x.fits ds)=D7 ds)/\Rx Bs b off cap ds wr)
  (fun i _=>ds.length-(intOf i).toNat)
 case atStart=>exact ⟨0,[],rfl,Ad,Aa _,h0,rfl,hD⟩
 case round =>
  clear hbx hD h0;obtain ⟨k,pre,rfl,hk,hle,hJs,hpre,hD⟩:=hrel;by_cases hkl:k<ds.length
  ·obtain ⟨c0,c1,c2⟩:=hD.cells k hkl
   have hbx:=hD.box;have hp:=H9 hok (Eb hkl);replace hpre:=A8 (hpre.out.symm.trans (by rw [Tk hkl])).symm;generalize gd ds k=p at *
   have kp:=CO.new wr #[.int .i64 p.t,.int .i64 p.lo,.int .i64 p.hi] 28;have hb1:=Es (Below.refl wr.heap.size wr) (.cells #[.int .i64 p.t,.int .i64 p.lo,.int .i64 p.hi] 28);have hD1:=hD.below hb1;have hJ1:=hJ _ _ _ _ hJs (Db hb1) (fun r e=>by cases e);have hbx1:=hD1.box;have hw1:W.heap.size<=(wr.alloc (.cells #[.int .i64 p.t,.int .i64 p.lo,.int .i64 p.hi] 28)).heap.size:=AN hle hb1.size;by_cases hcap:cap=k+1
   ·have hkn:ds.length=k+1:=by omega
    rw [List.drop_eq_nil_of_le Ad] at hpre;obtain ⟨V,hV⟩:∃ V,V=wr.alloc (.cells #[.int .i64 p.t,.int .i64 p.lo,.int .i64 p.hi] 28):=⟨_,rfl⟩;gi_wp2;rw [<-hV] at kp hD1 hJ1 hw1 |-;clear hV hbx1 hb1;gi_loopw [21] (fun i wr'=>i=.int .i64 0/\wr'=V) (fun _ _=>0);case atStart=>exact ⟨rfl,rfl⟩
    case round =>
     obtain ⟨rfl,rfl⟩:=hrel;gi_wp2;go_roundw;case rel=>exact ⟨k+1,pre,by go_num,Ad,hw1,hJ1,by rw [List.drop_eq_nil_of_le Ad];exact hpre,hD1⟩
     case measure=>simp [intOf];omega
   ·obtain ⟨V,hV⟩:∃ V,V=wr.alloc (.cells #[.int .i64 p.t,.int .i64 p.lo,.int .i64 p.hi] 28):=⟨_,rfl⟩
    gi_wp2;rw [<-hV] at kp hD1 hJ1 hw1 |-;clear hV hbx1 hb1 hbx c0 c1 c2 hD hJs;have hpS:wr.heap.size∉S:=fun h=>by have:=hS _ h;omega
    clear hle;generalize wr.heap.size=Bp at *
    gi_loopw [21] (fun i wr'=>∃ (j:Nat) (pre:List (FLn ds)),i=.int .i64 j/\j<=ds.length-(k+1)/\W.heap.size<=wr'.heap.size/\J pre wr'/\Hid (pre.map (·.1)++(((ds.drop (k+1+j)).map (fun q=>(p,q))).flatMap (fun x=>EM x.1 x.2)++OI (ds.drop (k+1))).filter (fun x=>x.fits ds)=D7 ds)/\Rx Bs b off cap ds wr'/\CO wr' Bp #[.int .i64 p.t,.int .i64 p.lo,.int .i64 p.hi] 28)
     (fun i _=>ds.length-(k+1)-(intOf i).toNat)
    case atStart=>exact ⟨0,pre,rfl,Ad,hw1,hJ1,hpre,hD1,kp⟩
    case round =>
     clear kp hD1 hJ1 hw1 hpre;obtain ⟨j,pre,rfl,hj,hle,hJs,hpre,hD,kp⟩:=hrel;by_cases hjl:j<ds.length-(k+1)
     ·have hjn:k+1+j<ds.length:=by omega
      have hdc:=hD.cells (k+1+j) hjn;rw [show off+(k+1+j)*3=off+(k+1)*3+j*3 by omega] at hdc;obtain ⟨d0,d1,d2⟩:=hdc;have hq:=H9 hok (Eb hjn);replace hpre:=A8 (hpre.out.symm.trans (by rw [Tl hjn,List.append_assoc])).symm;generalize gd ds (k+1+j)=q at *
      have hb1:=Es (Below.refl wr.heap.size wr) (.cells #[.int .i64 q.t,.int .i64 q.lo,.int .i64 q.hi] 28);have kp1:=kp.below hb1;have p0:=kp1.cell 0;have p1:=kp1.cell 1;have p2:=kp1.cell 2;simp only [BR,Cm,Cn] at p0 p1 p2;have hb2:=Es hb1 (.cells #[.int .i64 p.t,.int .i64 p.lo,.int .i64 q.t,.int .i64 q.lo,.int .i64 p.t,.int .i64 p.lo,.int .i64 q.t,.int .i64 q.hi,.int .i64 p.t,.int .i64 p.hi,.int .i64 q.t,.int .i64 q.lo,.int .i64 p.t,.int .i64 p.hi,.int .i64 q.t,.int .i64 q.hi] 56);have kl:=CO.new (wr.alloc (.cells #[.int .i64 q.t,.int .i64 q.lo,.int .i64 q.hi] 28)) #[.int .i64 p.t,.int .i64 p.lo,.int .i64 q.t,.int .i64 q.lo,.int .i64 p.t,.int .i64 p.lo,.int .i64 q.t,.int .i64 q.hi,.int .i64 p.t,.int .i64 p.hi,.int .i64 q.t,.int .i64 q.lo,.int .i64 p.t,.int .i64 p.hi,.int .i64 q.t,.int .i64 q.hi] 56;rw [AP] at kl;obtain ⟨V2,hV2⟩:∃ V2,V2=(wr.alloc (.cells #[.int .i64 q.t,.int .i64 q.lo,.int .i64 q.hi] 28)).alloc (.cells #[.int .i64 p.t,.int .i64 p.lo,.int .i64 q.t,.int .i64 q.lo,.int .i64 p.t,.int .i64 p.lo,.int .i64 q.t,.int .i64 q.hi,.int .i64 p.t,.int .i64 p.hi,.int .i64 q.t,.int .i64 q.lo,.int .i64 p.t,.int .i64 p.hi,.int .i64 q.t,.int .i64 q.hi] 56):=⟨_,rfl⟩;gi_wp2;rw [<-hV2] at kl hb2 |-;have hD2:=hD.below hb2;have hJ2:=hJ _ _ _ _ hJs (Db hb2) (fun r e=>by cases e);have hle2:=AN hle hb2.size;have kp2:=kp.below hb2;clear hV2 hb1 hb2 kp1 p0 p1 p2 d0 d1 d2 hD hJs kp;obtain ⟨Bl,hBl⟩:∃ Bl,Bl=wr.heap.size+1:=⟨_,rfl⟩;rw [<-hBl] at kl |-;have hlS:Bl∉S:=fun h=>by have:=hS _ h;omega
      clear hBl hle;obtain ⟨R,hR⟩:∃ R,R=(((ds.drop (k+1+j+1)).map (fun q=>(p,q))).flatMap (fun x=>EM x.1 x.2)++OI (ds.drop (k+1))):=⟨_,rfl⟩;rw [<-hR] at hpre;replace hR:=A8 hR;gi_loopw [63] (fun i wr'=>∃ (m:Nat) (pre:List (FLn ds)),i=.int .i64 m/\m<=4/\W.heap.size<=wr'.heap.size/\J pre wr'/\Hid (pre.map (·.1)++((EM p q).drop m++R).filter (fun x=>x.fits ds)=D7 ds)/\Rx Bs b off cap ds wr'/\CO wr' Bp #[.int .i64 p.t,.int .i64 p.lo,.int .i64 p.hi] 28/\CO wr' Bl #[.int .i64 p.t,.int .i64 p.lo,.int .i64 q.t,.int .i64 q.lo,.int .i64 p.t,.int .i64 p.lo,.int .i64 q.t,.int .i64 q.hi,.int .i64 p.t,.int .i64 p.hi,.int .i64 q.t,.int .i64 q.lo,.int .i64 p.t,.int .i64 p.hi,.int .i64 q.t,.int .i64 q.hi] 56)
       (fun i _=>4-(intOf i).toNat)
      case atStart=>exact ⟨0,pre,rfl,Ad,hle2,hJ2,hpre,hD2,kp2,kl⟩
      case round =>
       clear kl kp2 hD2 hJ2 hle2 hpre;obtain ⟨m,pre,rfl,hm,hle,hJs,hpre,hD,kp,kl⟩:=hrel;by_cases hm4:m<4
       ·have hcl:∃ x:Ln,(EM p q).drop m=x :: (EM p q).drop (m+1)/\x∈EM p q/\wr.cell? ⟨Bl,m*4,none⟩=some (.int .i64 x.t)/\wr.cell? ⟨Bl,m*4+1,none⟩=some (.int .i64 x.v)/\wr.cell? ⟨Bl,m*4+2,none⟩=some (.int .i64 x.u)/\wr.cell? ⟨Bl,m*4+3,none⟩=some (.int .i64 x.w):=by
         match m,hm4 with
         | 0,_=>exact ⟨⟨p.t,p.lo,q.t,q.lo⟩,rfl,by simp [EM],kl.cell 0,kl.cell 1,kl.cell 2,kl.cell 3⟩
         | 1,_=>exact ⟨⟨p.t,p.lo,q.t,q.hi⟩,rfl,by simp [EM],kl.cell 4,kl.cell 5,kl.cell 6,kl.cell 7⟩
         | 2,_=>exact ⟨⟨p.t,p.hi,q.t,q.lo⟩,rfl,by simp [EM],kl.cell 8,kl.cell 9,kl.cell 10,kl.cell 11⟩
         | 3,_=>exact ⟨⟨p.t,p.hi,q.t,q.hi⟩,rfl,by simp [EM],kl.cell 12,kl.cell 13,kl.cell 14,kl.cell 15⟩
        obtain ⟨x,hx1,hx2,l0,l1,l2,l3⟩:=hcl
        have hlx:=Le hp hq hx2
        have hb3:=Es (Below.refl wr.heap.size wr) (.cells #[.int .i64 x.t,.int .i64 x.v,.int .i64 x.u,.int .i64 x.w] 56)
        have kx:=CO.new wr #[.int .i64 x.t,.int .i64 x.v,.int .i64 x.u,.int .i64 x.w] 56
        have hD3:=hD.below hb3
        have hJ3:=hJ _ _ _ _ hJs (Db hb3) (fun r e=>by cases e)
        have hle3:=AN hle hb3.size
        have kp3:=kp.below hb3
        have kl3:=kl.below hb3
        have hbx3:=hD3.box
        have LF:=A8 (R9 x _ ds hlx (fun d hd=>H9 hok hd) _ (hD3.sl h1 h2))
        rw [hx1,BK,List.filter_cons] at hpre
        cases hf:x.fits ds with
        | false =>
         rw [hf,AF Ae] at hpre;rw [hf] at LF;gi_wp2_with (refine ⟨trivial,?_⟩;gi_at_call 99;refine (callsIn_wide.2 LF.out).mono ?_;rintro e W4 ⟨rfl,hb4⟩;have hJ4:=hJ _ _ _ _ hJ3 (Db hb4) (fun r e=>by cases e));refine ⟨fun _ h=>(by cases h),?_⟩;gi_wp2;go_roundw;case rel=>exact ⟨m+1,pre,by go_num,Ad,AN hle3 hb4.size,hJ4,hpre,hD3.below hb4,kp3.below hb4,kl3.below hb4⟩
         case measure=>simp [intOf];omega
        | true =>
         rw [hf,AI rfl] at hpre;rw [hf] at LF;have xm:x∈D7 ds:=by rw [<-hpre.out];simp
         have hlen:pre.length<(D7 ds).length:=by rw [<-hpre.out];simp
         gi_wp2_with (refine ⟨trivial,?_⟩;gi_at_call 99;refine (callsIn_wide.2 LF.out).mono ?_;rintro e W4 ⟨rfl,hb4⟩;have hJ4:=hJ _ _ _ _ hJ3 (Db hb4) (fun r e=>by cases e);have kx4:=kx.below hb4;have x0:=kx4.cell 0;have x1:=kx4.cell 1;have x2:=kx4.cell 2;have x3:=kx4.cell 3;simp only [BR,Cm,Cn] at x0 x1 x2 x3;obtain ⟨fn,tmps,assign,body,hy,hRd⟩:=hY pre ⟨x,xm⟩ W4 hJ4 hlen;dsimp only [flV] at hy);refine hRd.mono ?_;rintro e W5 (⟨rfl,hJ5,hk5⟩ | ⟨rfl,hJx5⟩)
         ·gi_wp2
          go_roundw;case rel=>exact ⟨m+1,pre++[⟨x,xm⟩],by go_num,Ad,AN (AN hle3 hb4.size) hk5.1,hJ5,A8 (by have:=hpre.out;simpa using this),(hD3.below hb4).kpc hk5 hs1 hs2,hk5.blk (kp3.below hb4) hpS,hk5.blk (kl3.below hb4) hlS⟩
          case measure=>simp [intOf];omega
         ·gi_wp2
          refine bodyPost_ret (results_none rfl _ _ _) rfl ?_;exact ⟨⟨_,rfl⟩,.inr ⟨_,trivial,hJx5⟩⟩
       ·gi_wp2
        go_roundw;case rel=>exact ⟨j+1,pre,by go_num,Ad,hle,hJs,by rw [List.drop_eq_nil_of_le (show (EM p q).length<=m by simp [EM];omega),BC,hR.out] at hpre;exact hpre,hD,kp⟩
        case measure=>simp [intOf];omega
     ·gi_wp2
      go_roundw;case rel=>exact ⟨k+1,pre,by go_num,Ad,hle,hJs,by rw [List.drop_eq_nil_of_le (show ds.length<=k+1+j by omega)] at hpre;exact hpre,hD⟩
      case measure=>simp [intOf];omega
  ·gi_wp2
   go_end0;refine ⟨⟨_,rfl⟩,.inl ⟨pre,?_,hJs⟩⟩;have:=hpre.out;rw [List.drop_eq_nil_of_le Ad] at this;simpa [OI,T9] using this
theorem KJ (l Bs:Nat) {α:Type} (J:List α->World->Prop) (W:World) (hBs:W.cell? ⟨Bs,0,none⟩=some (.slice none 0 0)) (h0:J [] W) :
  CallsIn Fence.wide 4 Tryz.prog 98 #[.func (.yield l) #[] #[],.pointer (some ⟨Bs,0,none⟩)] W fun e W'=>(∃ v,e=.returned v)/\J [] W':=by
 refine callsIn_of_wp Tryz.func98 rfl trivial ?_ rfl
 simp only [Tryz.ntmps98,Bg,C4,Cf,Nat.reduceAdd,Nat.reduceSub,Cg,Ch,Ci,Cj,BC,BK]
 gi_wp2
 gi_loopw [11] (fun i wr=>i=.int .i64 0/\J [] wr) (fun _ _=>0)
 case atStart=>exact ⟨rfl,h0⟩
 case round =>
  obtain ⟨rfl,hJs⟩:=hrel;gi_wp2;go_end0;exact ⟨⟨_,rfl⟩,hJs⟩
theorem Tm (v:Value) (w:World) (hv:∃ a len cap,v=.slice a len cap) :
  CallsIn Fence.wide 4 Tryz.prog 68 #[v] w fun e w'=>e=.returned (.func (.func 98) #[] #[.pointer (some ⟨w.heap.size,0,none⟩)])/\w.alloc (.cells #[v] 29)=w':=by
 obtain ⟨a,len,cap,rfl⟩:=hv
 refine callsIn_of_wp Tryz.func68 rfl trivial ?_ rfl
 simp only [Tryz.ntmps68,Bg,C4,Cf,Nat.reduceAdd,Nat.reduceSub,Cg,Ch,Ci,Cj,BC,BK]
 gi_wp2
 go_ret
 exact ⟨rfl,rfl⟩
theorem Nq (Bs:Nat) (S:List Nat) (sv:Value) (ds:List Dt) (w:World) (hok:Fi ds=true) (hBs:Bs∉S) (hS:∀ k∈S,k<w.heap.size)
  (hc:w.cell? ⟨Bs,0,none⟩=some sv) (hI:Gp w sv ds) (hsv:∀ b o,sv.ptr? = some (b,o)->b∉S) :
  SeqStopsK Fence.wide 4 Tryz.prog 98 #[.pointer (some ⟨Bs,0,none⟩)] (flV (ds:=ds)) (JB S) (fun ys=>ys.map (·.1)=D7 ds) (fun _=>True) (D7 ds).length w:=fun l J Jx W hW hJ _ hY h0=>by
 have hlt:Bs<w.heap.size:=Ck w _ hc
 have hc':=(hW.cell (p:=⟨Bs,0,none⟩) hlt).trans hc
 rcases hI.below hW with ⟨rfl,rfl⟩ | ⟨b,off,cap,rfl,h1,h2,h3,h4⟩
 ·exact (KJ l Bs J W hc' h0).mono fun e W' ⟨he,hj⟩=>⟨he,.inl ⟨_,rfl,hj⟩⟩
 ·exact Ra l Bs b off cap ds S hok h1 h2 hBs (hsv b off rfl) J Jx W (fun k hk=>A9 (hS k hk) hW.size) hJ hY ⟨hc',h3,h4⟩ h0
end
section
open Go.RowKit
open DecM (Dt gd Eb Fv Fi Ln Hf f1 f2 f3 apB It)
attribute [local go_sem] Oper.semAt_some
structure GR (p:Prop):Prop where
 out:p
section
variable {P:Program} {ops:Array Oper} {C:World->Prop} {Q:Act->Prop} {a:Act} {o:Oper} {rest:List Oper}
theorem qWant (hw:Region.wanted o (yielded ops a.tmps)=true) (h:∀ K:Act->Prop,(∀ a,GR (wpQuiet P ops C Q rest a)->K a)->o.quiet P a C K):GR (wpQuiet P ops C Q (o :: rest) a) :=
 ⟨BigFrame.wpQuiet_want hw fun K hK=>h K fun a h'=>hK a h'.out⟩
theorem qStep (h:∀ K:Act->Prop,(∀ a,GR (wpQuiet P ops C Q rest a)->K a)->if Region.wanted o (yielded ops a.tmps) then o.quiet P a C K else K (a.put o.dst undef)):GR (wpQuiet P ops C Q (o :: rest) a) :=
 ⟨wpQuiet_step fun K hK=>h K fun a h'=>hK a h'.out⟩
theorem qNil (h:Q a):GR (wpQuiet P ops C Q [] a):=⟨h⟩
end
def triL (o:DecM.Tri):List Int:=match o with
 | some (i,j,k)=>[(i:Int),(j:Int),(k:Int)]
 | none=>[]
def TG (l:List Dt):DecM.Tri:=if Fi l then Hf l else none
theorem resT2 {fn:Func} {t u:Tmp} (h:fn.results=#[.tmp t,.tmp u]) (tmps:Array Value) (Pr:Program) (w:World) :
 (results fn tmps).run Pr w=.ok (.tuple #[tmps.getD t undef,tmps.getD u undef]) w:=by simp [results,h]
theorem tri_sl (W:World) (a b c:Int):Sl (W.alloc (.cells #[.int .i64 a,.int .i64 b,.int .i64 c] 3)) (.slice (some ⟨W.heap.size,0,none⟩) 3 3) [a,b,c]:=by
 have hb:=CO.new W #[.int .i64 a,.int .i64 b,.int .i64 c] 3;refine .inr ⟨W.heap.size,0,3,rfl,Af,by unfold maxLen;omega,hb.lt,fun j hj=>?_⟩;match j,hj with
 | 0,_=>exact hb.cell 0
 | 1,_=>exact hb.cell 1
 | 2,_=>exact hb.cell 2
theorem Ro (p q r:Dt):decide (It p q r)=(decide (q.hi*(r.t-p.t)<(⟨p.t,p.lo,r.t,r.lo⟩:Ln).on q.t) || decide (q.lo*(r.t-p.t) > (⟨p.t,p.hi,r.t,r.hi⟩:Ln).on q.t)):=by
 rw [Bool.eq_iff_iff,C0,Ar,C0,C0];exact Iff.rfl
structure RI (w:World) (b oi oj ok:Nat) (p q r:Dt) (L:Ec) (W:World):Prop where
 bl:BL w L W
 lt:b<W.heap.size
 p:Hw W b oi p
 q:Hw W b oj q
 r:Hw W b ok r
theorem RI.call {w:World} {b oi oj ok:Nat} {p q r:Dt} {L:Ec} {W W':World} (h:RI w b oi oj ok p q r L W) (hb:Below W.heap.size W W'):RI w b oi oj ok p q r L W' :=
 ⟨h.bl.call hb,A9 h.lt hb.size,h.p.below hb h.lt,h.q.below hb h.lt,h.r.below hb h.lt⟩
theorem RI.drew {w:World} {b oi oj ok:Nat} {p q r:Dt} {L:Ec} {W:World} (h:RI w b oi oj ok p q r L W):RI w b oi oj ok p q r L W.drew:=h.call (CN W 1)
theorem RI.add {w:World} {b oi oj ok:Nat} {p q r:Dt} {L:Ec} {W:World} (h:RI w b oi oj ok p q r L W) (cs:Array Value) (t:TypeId):RI w b oi oj ok p q r ((W.heap.size,cs,t) :: L) (W.alloc (.cells cs t)):=by
 have k:=h.call (Es (Below.refl W.heap.size W) (.cells cs t));exact ⟨h.bl.add cs t,k.lt,k.p,k.q,k.r⟩
def RefP (w:World) (l:List Dt):Ending->World->Prop:=fun e w'=>∃ v,e=.returned (.tuple #[v,.bool (TG l).isSome])/\Sl w' v (triL (TG l))/\Below w.heap.size w w'
theorem P4 (v:Value) (l:List Dt) (w:World) (h:Gp w v l) :
  Calls Tryz.prog 10 #[v] w (RefP w l):=by
 have VD:=fun W (h:Gp W v l)=>I4 v l W h
 have hl:=h.len_le
 unfold maxLen at hl
 unfold RefP TG
 cases hok:Fi l with
 | false =>
  rw [hok] at VD;have V0:=A8 (VD w h);obtain ⟨ag,cap,rfl⟩:=h.shape;clear VD h hok;go_enter Tryz.func10,Tryz.ntmps10;go_wp2_with fail;refine V0.out.mono ?_;rintro e w1 ⟨rfl,hb⟩;go_wp2;refine bodyPost_ret (resT2 rfl _ _ _) rfl ?_;exact ⟨_,rfl,Sl.nil _,hb⟩
 | true =>
  rw [hok] at VD;have hdt:=fun d (hd:d∈l)=>H9 hok hd
  have V0:=A8 (VD w h);have HD:=A8 hdt;clear VD hok hdt;rcases h with ⟨rfl,rfl⟩ | ⟨b,off,cap,rfl,h1,h2,h3,h4⟩
  ·go_enter Tryz.func10,Tryz.ntmps10
   go_wp2_with fail;refine V0.out.mono ?_;rintro e w1 ⟨rfl,hb⟩;go_wp2_with fail;go_loopw [15] (fun i wr=>i=.int .i64 0/\wr=w1) (fun _ _=>0);case atStart=>exact ⟨rfl,rfl⟩
   case round =>
    obtain ⟨rfl,rfl⟩:=hrel;go_wp2;refine bodyPost_ret (resT2 rfl _ _ _) rfl ?_;exact ⟨_,rfl,Sl.nil _,hb⟩
  ·go_enter Tryz.func10,Tryz.ntmps10
   go_wp2_with fail;refine V0.out.mono ?_;rintro e w1 ⟨rfl,hb⟩;clear V0;go_wp2_with fail;go_loopw [15] (fun a wr=>∃ i:Nat,a=.int .i64 i/\i<=l.length/\Hid (Hf l=f1 l i)/\Below w.heap.size w wr) (fun a _=>l.length-(intOf a).toNat);case atStart=>exact ⟨0,rfl,Ad,rfl,hb⟩
   case round =>
    clear hb;obtain ⟨i,rfl,hi,hR,hB⟩:=hrel;by_cases hil:i<l.length
    ·replace hR:=A8 (hR.out.trans (DecM.f1_step hil))
     go_wp2_with fail;go_loopw [5] (fun a wr=>∃ j:Nat,a=.int .i64 j/\i<j/\j<=l.length/\Hid (Hf l=(f2 l i j).or (f1 l (i+1)))/\Below w.heap.size w wr) (fun a _=>l.length-(intOf a).toNat);case atStart=>exact ⟨i+1,by go_num,Ad,Ad,hR,hB⟩
     case round =>
      clear hR hB;obtain ⟨j,rfl,hij,hj,hR,hB⟩:=hrel;by_cases hjl:j<l.length
      ·replace hR:=A8 (hR.out.trans (by rw [DecM.f2_step hjl,Option.or_assoc]:(f2 l i j).or (f1 l (i+1))=(f3 l i j (j+1)).or ((f2 l i (j+1)).or (f1 l (i+1)))))
       go_wp2_with fail;go_loopw [6] (fun a wr=>∃ k:Nat,a=.int .i64 k/\j<k/\k<=l.length/\Hid (Hf l=(f3 l i j k).or ((f2 l i (j+1)).or (f1 l (i+1))))/\Below w.heap.size w wr) (fun a _=>l.length-(intOf a).toNat);case atStart=>exact ⟨j+1,by go_num,Ad,Ad,hR,hB⟩
       case round =>
        clear hR hB;obtain ⟨k,rfl,hjk,hk,hR,hB⟩:=hrel;by_cases hkl:k<l.length
        ·obtain ⟨a0,a1,a2⟩:=(h4 i Ad).below hB h3
         obtain ⟨b0,b1,b2⟩:=(h4 j Ad).below hB h3;obtain ⟨c0,c1,c2⟩:=(h4 k Ad).below hB h3;have dp:=HD.out _ (Eb (show i<l.length by omega));have dq:=HD.out _ (Eb (show j<l.length by omega));have dr:=HD.out _ (Eb (show k<l.length by omega));replace hR:=A8 (hR.out.trans (by rw [DecM.f3_step hkl,show apB l i j k=decide (It (gd l i) (gd l j) (gd l k)) from rfl,Ro]:(f3 l i j k).or ((f2 l i (j+1)).or (f1 l (i+1)))=_));generalize gd l i=p at *
         generalize gd l j=q at *
         generalize gd l k=r at *
         have wn:IntKind.i64.wrap (r.t-p.t)=r.t-p.t:=Bz _ (by have:=dp.t;have:=dr.t;omega);have m1:=GM (a:=q.hi) (b:=r.t-p.t) 1000000 800000 (by have:=dq.hi;omega) (by have:=dp.t;have:=dr.t;omega);have m2:=GM (a:=q.lo) (b:=r.t-p.t) 1000000 800000 (by have:=dq.lo;omega) (by have:=dp.t;have:=dr.t;omega);obtain ⟨z1,hz1⟩:∃ z:Int,z=q.hi*(r.t-p.t):=⟨_,rfl⟩;obtain ⟨z2,hz2⟩:∃ z:Int,z=q.lo*(r.t-p.t):=⟨_,rfl⟩;have wm1:IntKind.i64.wrap (q.hi*(r.t-p.t))=z1:=by rw [hz1];exact Bz _ Ad
         have wm2:IntKind.i64.wrap (q.lo*(r.t-p.t))=z2:=by rw [hz2];exact Bz _ Ad
         have O1:=A8 (fun W=>J1 ⟨p.t,p.lo,r.t,r.lo⟩ q.t ⟨dp.t,dr.t,dp.lo,dr.lo⟩ dq.t W);have O2:=A8 (fun W=>J1 ⟨p.t,p.hi,r.t,r.hi⟩ q.t ⟨dp.t,dr.t,dp.hi,dr.hi⟩ dq.t W);generalize (⟨p.t,p.lo,r.t,r.lo⟩:Ln).on q.t=y1 at *
         generalize (⟨p.t,p.hi,r.t,r.hi⟩:Ln).on q.t=y2 at *
         have hI:RI w b (off+i*3) (off+j*3) (off+k*3) p q r [] wr:=⟨⟨hB,fun _ h=>by cases h⟩,A9 h3 hB.size,⟨a0,a1,a2⟩,⟨b0,b1,b2⟩,⟨c0,c1,c2⟩⟩;obtain ⟨za0,za1,za2⟩:=(hI.add #[.int .i64 0,.int .i64 0,.int .i64 0,.int .i64 0] 56).p;obtain ⟨zc0,zc1,zc2⟩:=(hI.add #[.int .i64 0,.int .i64 0,.int .i64 0,.int .i64 0] 56).r;rw [<-hz1,<-hz2] at hR;clear m1 m2 dp dq dr b0 b1 b2 hB hz1 hz2;go_upto_region 12 with fail;go_cut [7] (fun s wx=>∃ g:Nat,s=.pointer (some ⟨g,0,none⟩)/\RI w b (off+i*3) (off+j*3) (off+k*3) p q r [(g,#[.int .i64 p.t,.int .i64 p.lo,.int .i64 r.t,.int .i64 r.lo],56)] wx);case first=>as_aux_lemma =>
          go_region;go_wp2_with fail;go_meet;exact ⟨_,rfl,(hI.add _ _).drew⟩
         case rest =>
          clear za0 za1 za2 zc0 zc1 zc2 a0 a1 a2 c0 c1 c2 hI;obtain ⟨g,rfl,hI⟩:=hcut;obtain ⟨a0,a1,a2⟩:=hI.p;obtain ⟨c0,c1,c2⟩:=hI.r;obtain ⟨za0,za1,za2⟩:=(hI.add #[.int .i64 0,.int .i64 0,.int .i64 0,.int .i64 0] 56).p;obtain ⟨zc0,zc1,zc2⟩:=(hI.add #[.int .i64 0,.int .i64 0,.int .i64 0,.int .i64 0] 56).r;go_upto_region 13 with fail;go_cut [8] (fun s wx=>∃ g2:Nat,s=.pointer (some ⟨g2,0,none⟩)/\RI w b (off+i*3) (off+j*3) (off+k*3) p q r [(g2,#[.int .i64 p.t,.int .i64 p.hi,.int .i64 r.t,.int .i64 r.hi],56),(g,#[.int .i64 p.t,.int .i64 p.lo,.int .i64 r.t,.int .i64 r.lo],56)] wx);case first=>as_aux_lemma =>
           go_region;go_wp2_with fail;go_meet;exact ⟨_,rfl,(hI.add _ _).drew⟩
          case rest =>
           clear za0 za1 za2 zc0 zc1 zc2 a0 a1 a2 c0 c1 c2 hI;obtain ⟨g2,rfl,hI⟩:=hcut;obtain ⟨a0,a1,a2⟩:=hI.p;obtain ⟨c0,c1,c2⟩:=hI.r;go_upto_region 14 with fail;go_region;replace hI:=hI.drew;clear a0 a1 a2 c0 c1 c2;have hC:=A8 (show ∀ w',RI w b (off+i*3) (off+j*3) (off+k*3) p q r [(g2,#[.int .i64 p.t,.int .i64 p.hi,.int .i64 r.t,.int .i64 r.hi],56),(g,#[.int .i64 p.t,.int .i64 p.lo,.int .i64 r.t,.int .i64 r.lo],56)] w'->(w'.cell? ⟨b,off+j*3,none⟩=some (.int .i64 q.t)/\w'.cell? ⟨b,off+j*3+1,none⟩=some (.int .i64 q.lo)/\w'.cell? ⟨b,off+j*3+2,none⟩=some (.int .i64 q.hi)/\w'.cell? ⟨g,0,none⟩=some (.int .i64 (p.t))/\w'.cell? ⟨g,1,none⟩=some (.int .i64 (p.lo))/\w'.cell? ⟨g,2,none⟩=some (.int .i64 (r.t))/\w'.cell? ⟨g,3,none⟩=some (.int .i64 (r.lo))/\w'.cell? ⟨g2,0,none⟩=some (.int .i64 (p.t))/\w'.cell? ⟨g2,1,none⟩=some (.int .i64 (p.hi))/\w'.cell? ⟨g2,2,none⟩=some (.int .i64 (r.t))/\w'.cell? ⟨g2,3,none⟩=some (.int .i64 (r.hi))) from fun W' h=>⟨h.q.1,h.q.2.1,h.q.2.2,h.bl.cell g _ _ Ai 0,h.bl.cell g _ _ Ai 1,h.bl.cell g _ _ Ai 2,h.bl.cell g _ _ Ai 3,h.bl.cell g2 _ _ Ah 0,h.bl.cell g2 _ _ Ah 1,h.bl.cell g2 _ _ Ah 2,h.bl.cell g2 _ _ Ah 3⟩);go_upto_region 15 with fail;obtain ⟨d1,hd1⟩:∃ d1:Bool,d1=decide (z1<y1):=⟨_,rfl⟩;obtain ⟨d2,hd2⟩:∃ d2:Bool,d2=decide (z2 > y2):=⟨_,rfl⟩;go_cut [118] (fun s wx=>s=.bool (d1 || d2)/\RI w b (off+i*3) (off+j*3) (off+k*3) p q r [(g2,#[.int .i64 p.t,.int .i64 p.hi,.int .i64 r.t,.int .i64 r.hi],56),(g,#[.int .i64 p.t,.int .i64 p.lo,.int .i64 r.t,.int .i64 r.lo],56)] wx);case first=>as_aux_lemma =>
            obtain ⟨x0',x1',x2',x3',x4',x5',x6',x7',x8',x9',x10'⟩:=hC.out _ hI;cases d1 with
            | true =>
             have c1:z1<y1:=BS hd1.symm;clear hd1 hd2;refine wp_region_quiet (C:=fun W'=>RI w b (off+i*3) (off+j*3) (off+k*3) p q r [(g2,#[.int .i64 p.t,.int .i64 p.hi,.int .i64 r.t,.int .i64 r.hi],56),(g,#[.int .i64 p.t,.int .i64 p.lo,.int .i64 r.t,.int .i64 r.lo],56)] W') rfl Ab hI.drew (GR.out ?_);refine qWant rfl fun K hK=>?_
             go_simp;refine ⟨_,fun _ _=>rfl,hK _ ?_⟩;clear hK K;refine qWant rfl fun K hK=>?_
             go_simp;refine ⟨_,fun _ _=>rfl,hK _ ?_⟩;clear hK K;refine qWant rfl fun K hK=>?_
             go_simp;refine ⟨_,fun _ _=>rfl,hK _ ?_⟩;clear hK K;refine qWant rfl fun K hK=>?_
             go_simp;refine ⟨_,fun _ _=>rfl,hK _ ?_⟩;clear hK K;refine qWant rfl fun K hK=>?_
             go_simp;refine ⟨.int .i64 q.hi,fun W hW=>?_,hK _ ?_⟩
             ·obtain ⟨x0',x1',x2',x3',x4',x5',x6',x7',x8',x9',x10'⟩:=hC.out W hW
              go_simp
             clear hK K;refine qWant rfl fun K hK=>?_
             go_simp;refine ⟨_,fun _ _=>rfl,hK _ ?_⟩;clear hK K;refine qWant rfl fun K hK=>?_
             go_simp;refine ⟨_,fun _ _=>rfl,hK _ ?_⟩;clear hK K;refine qWant rfl fun K hK=>?_
             go_simp;refine ⟨.agg #[.int .i64 p.t,.int .i64 p.lo,.int .i64 r.t,.int .i64 r.lo],fun W hW=>?_,hK _ ?_⟩
             ·obtain ⟨x0',x1',x2',x3',x4',x5',x6',x7',x8',x9',x10'⟩:=hC.out W hW
              go_simp
             clear hK K;refine qWant rfl fun K hK=>?_
             go_simp;refine ⟨_,fun _ _=>rfl,hK _ ?_⟩;clear hK K;refine qWant rfl fun K hK=>?_
             go_simp;refine ⟨_,fun _ _=>rfl,hK _ ?_⟩;clear hK K;refine qWant rfl fun K hK=>?_
             go_simp;refine ⟨_,fun _ _=>rfl,hK _ ?_⟩;clear hK K;refine qWant rfl fun K hK=>?_
             go_simp;refine ⟨_,fun _ _=>rfl,hK _ ?_⟩;clear hK K;refine qWant rfl fun K hK=>?_
             go_simp;refine ⟨.int .i64 q.t,fun W hW=>?_,hK _ ?_⟩
             ·obtain ⟨x0',x1',x2',x3',x4',x5',x6',x7',x8',x9',x10'⟩:=hC.out W hW
              go_simp
             clear hK K;refine qWant rfl fun K hK=>?_
             go_simp;refine ⟨.int .i64 y1,fun W hW=>(O1.out W).mono fun e w' h=>⟨h.1,hW.call h.2⟩,hK _ ?_⟩;clear hK K;refine qWant rfl fun K hK=>?_
             go_simp;refine ⟨_,fun _ _=>rfl,hK _ ?_⟩;clear hK K;refine qWant rfl fun K hK=>?_
             go_simp;refine ⟨_,fun _ _=>rfl,hK _ ?_⟩;clear hK K;refine qStep fun K hK=>?_
             go_simp;refine hK _ ?_;clear hK K;refine qStep fun K hK=>?_
             go_simp;refine hK _ ?_;clear hK K;refine qStep fun K hK=>?_
             go_simp;refine hK _ ?_;clear hK K;refine qStep fun K hK=>?_
             go_simp;refine hK _ ?_;clear hK K;refine qStep fun K hK=>?_
             go_simp;refine hK _ ?_;clear hK K;refine qStep fun K hK=>?_
             go_simp;refine hK _ ?_;clear hK K;refine qStep fun K hK=>?_
             go_simp;refine hK _ ?_;clear hK K;refine qStep fun K hK=>?_
             go_simp;refine hK _ ?_;clear hK K;refine qStep fun K hK=>?_
             go_simp;refine hK _ ?_;clear hK K;refine qStep fun K hK=>?_
             go_simp;refine hK _ ?_;clear hK K;refine qStep fun K hK=>?_
             go_simp;refine hK _ ?_;clear hK K;refine qStep fun K hK=>?_
             go_simp;refine hK _ ?_;clear hK K;refine qStep fun K hK=>?_
             go_simp;refine hK _ ?_;clear hK K;refine qStep fun K hK=>?_
             go_simp;refine hK _ ?_;clear hK K;refine qStep fun K hK=>?_
             go_simp;refine hK _ ?_;clear hK K;refine qWant rfl fun K hK=>?_
             go_simp;refine ⟨_,fun _ _=>rfl,hK _ ?_⟩;clear hK K;refine qNil ?_;intro W' hI;go_wp2_with fail;go_meet;exact ⟨rfl,hI⟩
            | false =>
             have c1:¬ z1<y1:=Cu hd1.symm;have c1':decide (z1<y1)=false:=hd1.symm;have c1'':(z1<y1)=False:=eq_false c1;clear hd1;cases d2 with
             | true =>
              have c2:y2<z2:=BS hd2.symm;clear hd2;refine wp_region_quiet (C:=fun W'=>RI w b (off+i*3) (off+j*3) (off+k*3) p q r [(g2,#[.int .i64 p.t,.int .i64 p.hi,.int .i64 r.t,.int .i64 r.hi],56),(g,#[.int .i64 p.t,.int .i64 p.lo,.int .i64 r.t,.int .i64 r.lo],56)] W') rfl Ab hI.drew (GR.out ?_);refine qWant rfl fun K hK=>?_
              go_simp;refine ⟨_,fun _ _=>rfl,hK _ ?_⟩;clear hK K;refine qWant rfl fun K hK=>?_
              go_simp;refine ⟨_,fun _ _=>rfl,hK _ ?_⟩;clear hK K;refine qWant rfl fun K hK=>?_
              go_simp;refine ⟨_,fun _ _=>rfl,hK _ ?_⟩;clear hK K;refine qWant rfl fun K hK=>?_
              go_simp;refine ⟨_,fun _ _=>rfl,hK _ ?_⟩;clear hK K;refine qWant rfl fun K hK=>?_
              go_simp;refine ⟨.int .i64 q.hi,fun W hW=>?_,hK _ ?_⟩
              ·obtain ⟨x0',x1',x2',x3',x4',x5',x6',x7',x8',x9',x10'⟩:=hC.out W hW
               go_simp
              clear hK K;refine qWant rfl fun K hK=>?_
              go_simp;refine ⟨_,fun _ _=>rfl,hK _ ?_⟩;clear hK K;refine qWant rfl fun K hK=>?_
              go_simp;refine ⟨_,fun _ _=>rfl,hK _ ?_⟩;clear hK K;refine qWant rfl fun K hK=>?_
              go_simp;refine ⟨.agg #[.int .i64 p.t,.int .i64 p.lo,.int .i64 r.t,.int .i64 r.lo],fun W hW=>?_,hK _ ?_⟩
              ·obtain ⟨x0',x1',x2',x3',x4',x5',x6',x7',x8',x9',x10'⟩:=hC.out W hW
               go_simp
              clear hK K;refine qWant rfl fun K hK=>?_
              go_simp;refine ⟨_,fun _ _=>rfl,hK _ ?_⟩;clear hK K;refine qWant rfl fun K hK=>?_
              go_simp;refine ⟨_,fun _ _=>rfl,hK _ ?_⟩;clear hK K;refine qWant rfl fun K hK=>?_
              go_simp;refine ⟨_,fun _ _=>rfl,hK _ ?_⟩;clear hK K;refine qWant rfl fun K hK=>?_
              go_simp;refine ⟨_,fun _ _=>rfl,hK _ ?_⟩;clear hK K;refine qWant rfl fun K hK=>?_
              go_simp;refine ⟨.int .i64 q.t,fun W hW=>?_,hK _ ?_⟩
              ·obtain ⟨x0',x1',x2',x3',x4',x5',x6',x7',x8',x9',x10'⟩:=hC.out W hW
               go_simp
              clear hK K;refine qWant rfl fun K hK=>?_
              go_simp;refine ⟨.int .i64 y1,fun W hW=>(O1.out W).mono fun e w' h=>⟨h.1,hW.call h.2⟩,hK _ ?_⟩;clear hK K;refine qWant rfl fun K hK=>?_
              go_simp;refine ⟨_,fun _ _=>rfl,hK _ ?_⟩;clear hK K;refine qWant rfl fun K hK=>?_
              go_simp;refine ⟨_,fun _ _=>rfl,hK _ ?_⟩;clear hK K;refine qWant rfl fun K hK=>?_
              go_simp;refine ⟨_,fun _ _=>rfl,hK _ ?_⟩;clear hK K;refine qWant rfl fun K hK=>?_
              go_simp;refine ⟨_,fun _ _=>rfl,hK _ ?_⟩;clear hK K;refine qWant rfl fun K hK=>?_
              go_simp;refine ⟨_,fun _ _=>rfl,hK _ ?_⟩;clear hK K;refine qWant rfl fun K hK=>?_
              go_simp;refine ⟨_,fun _ _=>rfl,hK _ ?_⟩;clear hK K;refine qWant rfl fun K hK=>?_
              go_simp;refine ⟨.int .i64 q.lo,fun W hW=>?_,hK _ ?_⟩
              ·obtain ⟨x0',x1',x2',x3',x4',x5',x6',x7',x8',x9',x10'⟩:=hC.out W hW
               go_simp
              clear hK K;refine qWant rfl fun K hK=>?_
              go_simp;refine ⟨_,fun _ _=>rfl,hK _ ?_⟩;clear hK K;refine qWant rfl fun K hK=>?_
              go_simp;refine ⟨_,fun _ _=>rfl,hK _ ?_⟩;clear hK K;refine qWant rfl fun K hK=>?_
              go_simp;refine ⟨.agg #[.int .i64 p.t,.int .i64 p.hi,.int .i64 r.t,.int .i64 r.hi],fun W hW=>?_,hK _ ?_⟩
              ·obtain ⟨x0',x1',x2',x3',x4',x5',x6',x7',x8',x9',x10'⟩:=hC.out W hW
               go_simp
              clear hK K;refine qWant rfl fun K hK=>?_
              go_simp;refine ⟨_,fun _ _=>rfl,hK _ ?_⟩;clear hK K;refine qWant rfl fun K hK=>?_
              go_simp;refine ⟨_,fun _ _=>rfl,hK _ ?_⟩;clear hK K;refine qWant rfl fun K hK=>?_
              go_simp;refine ⟨_,fun _ _=>rfl,hK _ ?_⟩;clear hK K;refine qWant rfl fun K hK=>?_
              go_simp;refine ⟨_,fun _ _=>rfl,hK _ ?_⟩;clear hK K;refine qWant rfl fun K hK=>?_
              go_simp;refine ⟨.int .i64 q.t,fun W hW=>?_,hK _ ?_⟩
              ·obtain ⟨x0',x1',x2',x3',x4',x5',x6',x7',x8',x9',x10'⟩:=hC.out W hW
               go_simp
              clear hK K;refine qWant rfl fun K hK=>?_
              go_simp;refine ⟨.int .i64 y2,fun W hW=>(O2.out W).mono fun e w' h=>⟨h.1,hW.call h.2⟩,hK _ ?_⟩;clear hK K;refine qWant rfl fun K hK=>?_
              go_simp;refine ⟨_,fun _ _=>rfl,hK _ ?_⟩;clear hK K;refine qWant rfl fun K hK=>?_
              go_simp;refine ⟨_,fun _ _=>rfl,hK _ ?_⟩;clear hK K;refine qNil ?_;intro W' hI;go_wp2_with fail;go_meet;exact ⟨rfl,hI⟩
             | false =>
              have c2:z2<=y2:=Int.not_lt.1 (Cu hd2.symm);clear hd2;refine wp_region_quiet (C:=fun W'=>RI w b (off+i*3) (off+j*3) (off+k*3) p q r [(g2,#[.int .i64 p.t,.int .i64 p.hi,.int .i64 r.t,.int .i64 r.hi],56),(g,#[.int .i64 p.t,.int .i64 p.lo,.int .i64 r.t,.int .i64 r.lo],56)] W') rfl Ab hI.drew (GR.out ?_);refine qWant rfl fun K hK=>?_
              go_simp;refine ⟨_,fun _ _=>rfl,hK _ ?_⟩;clear hK K;refine qWant rfl fun K hK=>?_
              go_simp;refine ⟨_,fun _ _=>rfl,hK _ ?_⟩;clear hK K;refine qWant rfl fun K hK=>?_
              go_simp;refine ⟨_,fun _ _=>rfl,hK _ ?_⟩;clear hK K;refine qWant rfl fun K hK=>?_
              go_simp;refine ⟨_,fun _ _=>rfl,hK _ ?_⟩;clear hK K;refine qWant rfl fun K hK=>?_
              go_simp;refine ⟨.int .i64 q.hi,fun W hW=>?_,hK _ ?_⟩
              ·obtain ⟨x0',x1',x2',x3',x4',x5',x6',x7',x8',x9',x10'⟩:=hC.out W hW
               go_simp
              clear hK K;refine qWant rfl fun K hK=>?_
              go_simp;refine ⟨_,fun _ _=>rfl,hK _ ?_⟩;clear hK K;refine qWant rfl fun K hK=>?_
              go_simp;refine ⟨_,fun _ _=>rfl,hK _ ?_⟩;clear hK K;refine qWant rfl fun K hK=>?_
              go_simp;refine ⟨.agg #[.int .i64 p.t,.int .i64 p.lo,.int .i64 r.t,.int .i64 r.lo],fun W hW=>?_,hK _ ?_⟩
              ·obtain ⟨x0',x1',x2',x3',x4',x5',x6',x7',x8',x9',x10'⟩:=hC.out W hW
               go_simp
              clear hK K;refine qWant rfl fun K hK=>?_
              go_simp;refine ⟨_,fun _ _=>rfl,hK _ ?_⟩;clear hK K;refine qWant rfl fun K hK=>?_
              go_simp;refine ⟨_,fun _ _=>rfl,hK _ ?_⟩;clear hK K;refine qWant rfl fun K hK=>?_
              go_simp;refine ⟨_,fun _ _=>rfl,hK _ ?_⟩;clear hK K;refine qWant rfl fun K hK=>?_
              go_simp;refine ⟨_,fun _ _=>rfl,hK _ ?_⟩;clear hK K;refine qWant rfl fun K hK=>?_
              go_simp;refine ⟨.int .i64 q.t,fun W hW=>?_,hK _ ?_⟩
              ·obtain ⟨x0',x1',x2',x3',x4',x5',x6',x7',x8',x9',x10'⟩:=hC.out W hW
               go_simp
              clear hK K;refine qWant rfl fun K hK=>?_
              go_simp;refine ⟨.int .i64 y1,fun W hW=>(O1.out W).mono fun e w' h=>⟨h.1,hW.call h.2⟩,hK _ ?_⟩;clear hK K;refine qWant rfl fun K hK=>?_
              go_simp;refine ⟨_,fun _ _=>rfl,hK _ ?_⟩;clear hK K;refine qWant rfl fun K hK=>?_
              go_simp;refine ⟨_,fun _ _=>rfl,hK _ ?_⟩;clear hK K;refine qWant rfl fun K hK=>?_
              go_simp;refine ⟨_,fun _ _=>rfl,hK _ ?_⟩;clear hK K;refine qWant rfl fun K hK=>?_
              go_simp;refine ⟨_,fun _ _=>rfl,hK _ ?_⟩;clear hK K;refine qWant rfl fun K hK=>?_
              go_simp;refine ⟨_,fun _ _=>rfl,hK _ ?_⟩;clear hK K;refine qWant rfl fun K hK=>?_
              go_simp;refine ⟨_,fun _ _=>rfl,hK _ ?_⟩;clear hK K;refine qWant rfl fun K hK=>?_
              go_simp;refine ⟨.int .i64 q.lo,fun W hW=>?_,hK _ ?_⟩
              ·obtain ⟨x0',x1',x2',x3',x4',x5',x6',x7',x8',x9',x10'⟩:=hC.out W hW
               go_simp
              clear hK K;refine qWant rfl fun K hK=>?_
              go_simp;refine ⟨_,fun _ _=>rfl,hK _ ?_⟩;clear hK K;refine qWant rfl fun K hK=>?_
              go_simp;refine ⟨_,fun _ _=>rfl,hK _ ?_⟩;clear hK K;refine qWant rfl fun K hK=>?_
              go_simp;refine ⟨.agg #[.int .i64 p.t,.int .i64 p.hi,.int .i64 r.t,.int .i64 r.hi],fun W hW=>?_,hK _ ?_⟩
              ·obtain ⟨x0',x1',x2',x3',x4',x5',x6',x7',x8',x9',x10'⟩:=hC.out W hW
               go_simp
              clear hK K;refine qWant rfl fun K hK=>?_
              go_simp;refine ⟨_,fun _ _=>rfl,hK _ ?_⟩;clear hK K;refine qWant rfl fun K hK=>?_
              go_simp;refine ⟨_,fun _ _=>rfl,hK _ ?_⟩;clear hK K;refine qWant rfl fun K hK=>?_
              go_simp;refine ⟨_,fun _ _=>rfl,hK _ ?_⟩;clear hK K;refine qWant rfl fun K hK=>?_
              go_simp;refine ⟨_,fun _ _=>rfl,hK _ ?_⟩;clear hK K;refine qWant rfl fun K hK=>?_
              go_simp;refine ⟨.int .i64 q.t,fun W hW=>?_,hK _ ?_⟩
              ·obtain ⟨x0',x1',x2',x3',x4',x5',x6',x7',x8',x9',x10'⟩:=hC.out W hW
               go_simp
              clear hK K;refine qWant rfl fun K hK=>?_
              go_simp;refine ⟨.int .i64 y2,fun W hW=>(O2.out W).mono fun e w' h=>⟨h.1,hW.call h.2⟩,hK _ ?_⟩;clear hK K;refine qWant rfl fun K hK=>?_
              go_simp;refine ⟨_,fun _ _=>rfl,hK _ ?_⟩;clear hK K;refine qWant rfl fun K hK=>?_
              go_simp;refine ⟨_,fun _ _=>rfl,hK _ ?_⟩;clear hK K;refine qNil ?_;intro W' hI;go_wp2_with fail;go_meet;exact ⟨by rw [Al (show ¬ y2<z2 by omega)];rfl,hI⟩
           case rest =>
            clear hC;obtain ⟨rfl,hI⟩:=hcut;have hB2:=hI.bl.below;clear hI;cases hd:(d1 || d2) with
            | true =>
             have hfin:=A8 (show Hf l=some (i,j,k) by rw [hR.out,<-hd1,<-hd2,hd,AI rfl];rfl);clear hR;go_wp2;refine bodyPost_ret (resT2 rfl _ _ _) rfl ?_;exact ⟨_,by rw [hfin.out];rfl,by rw [hfin.out];exact tri_sl _ _ _ _,Es hB2 _⟩
            | false =>
             have hR2:=A8 (show Hf l=(f3 l i j (k+1)).or ((f2 l i (j+1)).or (f1 l (i+1))) by rw [hR.out,<-hd1,<-hd2,hd,AF Ae,Option.none_or]);clear hR;go_wp2_with fail;go_roundw;case rel=>exact ⟨k+1,by go_num,Ad,Ad,hR2,hB2⟩
             case measure=>simp [intOf];omega
        ·go_wp2_with fail
         go_roundw;case rel=>exact ⟨j+1,by go_num,Ad,Ad,by rw [DecM.f3_end hkl,Option.none_or] at hR;exact hR,hB⟩
         case measure=>simp [intOf];omega
      ·go_wp2_with fail
       go_roundw;case rel=>exact ⟨i+1,by go_num,Ad,by rw [DecM.f2_end hjl,Option.none_or] at hR;exact hR,hB⟩
       case measure=>simp [intOf];omega
    ·have hn:=A8 (show Hf l=none by rw [hR.out,DecM.f1_end hil])
     go_wp2;refine bodyPost_ret (resT2 rfl _ _ _) rfl ?_;exact ⟨_,by rw [hn.out];rfl,by rw [hn.out];exact Sl.nil _,hB⟩
end
end Go.Proofs.YtdkonnnmkceagaaGreatDoor
