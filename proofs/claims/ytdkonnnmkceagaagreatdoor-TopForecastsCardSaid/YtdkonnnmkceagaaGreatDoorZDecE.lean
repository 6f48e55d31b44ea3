/- DecE, DecF, DecG -/
import Derived.Test.YtdkonnnmkceagaaGreatDoorZDecB
import Derived.Deep.RegionHeld3
import Derived.Deep.QuietTactic
import Derived.BigQuiet
set_option maxHeartbeats 16000000
set_option maxRecDepth 100000
namespace Go.Proofs.YtdkonnnmkceagaaGreatDoor
section
open Go.RowKit Go.Shelf
open DecM (Dt gd Fv Eb Lc Fi Ln D7 OI T9 EM stepB Jz sg)
attribute [local go_sem] Oper.semAt_some
structure OO (w:World) (gm:Nat) (lbm:Array Value) (m:Ln->Int):Prop where
 enters:∀ (args:Array Value) (w:World),(callFunc gm args).run Tryz.prog w=.ok (.enter gm args) w
 bd:∀ x,Gq x->-1600000000000<=m x/\m x<=1600000000000
 call:∀ (W:World) (x:Ln),Gq x->Below w.heap.size w W->Calls Tryz.prog gm (#[.agg #[.int .i64 x.t,.int .i64 x.v,.int .i64 x.u,.int .i64 x.w]]++lbm) W (CM W (.int .i64 (m x)))
theorem OO.below {w w':World} {gm:Nat} {lbm:Array Value} {m:Ln->Int} (h:OO w gm lbm m) (hb:Below w.heap.size w w'):OO w' gm lbm m :=
 ⟨h.enters,h.bd,fun W x hx hw=>h.call W x hx (Cv hw hb (Aa _))⟩
theorem Tn (b:Bool) (w:World):Calls Tryz.prog 40 #[.bool b] w (CM w (.int .i64 (sg b))):=by
 cases b;all_goals
  go_enter Tryz.func40,Tryz.ntmps40
  go_wp2
  go_ret
  exact ⟨rfl,Below.refl _ _⟩
theorem Rb (x:Ln) (t:Int) (hi:Bool) (Bh Bt:Nat) (hx:Gq x) (ht:0<=t/\t<=800000) (w:World) (k1:CO w Bh #[.bool hi] 4) (k2:CO w Bt #[.int .i64 t] 3) :
  Calls Tryz.prog 39 #[.agg #[.int .i64 x.t,.int .i64 x.v,.int .i64 x.u,.int .i64 x.w],.pointer (some ⟨Bh,0,none⟩),.pointer (some ⟨Bt,0,none⟩)] w (CM w (.int .i64 (sg hi*x.on t))):=by
 have ON:=A8 (fun W=>J1 x t hx ht W)
 have SG:=A8 (fun W=>Tn hi W)
 have hob:=Np hx ht
 have hsg:sg hi=1∨sg hi=-1:=by cases hi <;> simp [sg]
 generalize x.on t=r at *
 generalize sg hi=s at *
 have w1:IntKind.i64.wrap (s*r)=s*r:=Bz _ (by rcases hsg with rfl | rfl <;> omega)
 clear hsg hob hx ht
 have S0:BL w [(Bt,#[.int .i64 t],3),(Bh,#[.bool hi],4)] w:=⟨Below.refl _ _,fun p hp=>by rcases As.1 hp with rfl | hp;exact k2;rcases As.1 hp with rfl | hp;exact k1;cases hp⟩
 obtain ⟨V,hV,hS,hz⟩:=S0.add' #[.int .i64 x.t,.int .i64 x.v,.int .i64 x.u,.int .i64 x.w] 56
 clear S0 hz k1 k2
 go_enter Tryz.func39,Tryz.ntmps39
 go_upto_region 1 with fail
 rw [<-hV]
 clear hV
 have hC0:∀ W',BL w [(w.heap.size,#[.int .i64 x.t,.int .i64 x.v,.int .i64 x.u,.int .i64 x.w],56),(Bt,#[.int .i64 t],3),(Bh,#[.bool hi],4)] W'->(W'.cell? ⟨w.heap.size,0,none⟩=some (.int .i64 x.t)/\W'.cell? ⟨w.heap.size,1,none⟩=some (.int .i64 x.v)/\W'.cell? ⟨w.heap.size,2,none⟩=some (.int .i64 x.u)/\W'.cell? ⟨w.heap.size,3,none⟩=some (.int .i64 x.w)/\W'.cell? ⟨Bt,0,none⟩=some (.int .i64 t)/\W'.cell? ⟨Bh,0,none⟩=some (.bool hi)):=fun W' h=>⟨(h.cell (w.heap.size) _ _ Ah 0),(h.cell (w.heap.size) _ _ Ah 1),(h.cell (w.heap.size) _ _ Ah 2),(h.cell (w.heap.size) _ _ Ah 3),(h.cell (Bt) _ _ Ai 0),(h.cell (Bh) _ _ Aj 0)⟩
 have hC:=A8 hC0
 clear hC0
 obtain ⟨x0',x1',x2',x3',x4',x5'⟩:=hC.out _ hS
 replace hS:=hS.drew
 go_region_held3 (fun w'=>w'.cell? ⟨w.heap.size,0,none⟩=some (.int .i64 x.t)/\w'.cell? ⟨w.heap.size,1,none⟩=some (.int .i64 x.v)/\w'.cell? ⟨w.heap.size,2,none⟩=some (.int .i64 x.u)/\w'.cell? ⟨w.heap.size,3,none⟩=some (.int .i64 x.w)/\w'.cell? ⟨Bt,0,none⟩=some (.int .i64 t)/\w'.cell? ⟨Bh,0,none⟩=some (.bool hi))
  (first | with_reducible exact hC.out _ hS | go_keep)
  (first | (go_at_call 17;(with_reducible refine Calls.mono (ON.out _) ?_);rintro e w' ⟨rfl,hb⟩;replace hS:=hS.call hb;clear hb) | (go_at_call 40;(with_reducible refine Calls.mono (SG.out _) ?_);rintro e w' ⟨rfl,hb⟩;replace hS:=hS.call hb;clear hb))
 go_wp2
 go_ret
 exact ⟨rfl,hS.below⟩
theorem sg_on {x:Ln} (hx:Gq x) {t:Int} (ht:0<=t/\t<=800000) (hi:Bool):-1600000000000<=sg hi*x.on t/\sg hi*x.on t<=1600000000000:=by
 have:=Np hx ht;cases hi
 ·show -1600000000000<=-1*x.on t/\-1*x.on t<=1600000000000
  omega
 ·show -1600000000000<=1*x.on t/\1*x.on t<=1600000000000
  omega
theorem Rc (t:Int) (hi:Bool) (Bh Bt:Nat) (ht:0<=t/\t<=800000) (w:World) (k1:CO w Bh #[.bool hi] 4) (k2:CO w Bt #[.int .i64 t] 3) :
  OO w 39 #[.pointer (some ⟨Bh,0,none⟩),.pointer (some ⟨Bt,0,none⟩)] (fun x=>sg hi*x.on t) :=
 ⟨Go.Proofs.enters_of Tryz.func39 Ab rfl,fun x hx=>sg_on hx ht hi,
  fun W x hx hb=>Rb x t hi Bh Bt hx ht W (k1.below hb) (k2.below hb)⟩
def isB (m:Ln->Int) (o:Option Ln) (x:Ln):Bool:=match o with
 | none=>true
 | some y=>decide (m y*(x.u-x.t)<m x*(y.u-y.t))
theorem To (m:Ln->Int) (o:Option Ln) (x:Ln):stepB m o x=if isB m o x then some x else o:=by
 cases o with
 | none=>rfl
 | some y=>unfold stepB isB;simp
def oC (o:Option Ln):Array Value:=match o with
 | none=>#[.int .i64 0,.int .i64 0,.int .i64 0,.int .i64 0]
 | some x=>#[.int .i64 x.t,.int .i64 x.v,.int .i64 x.u,.int .i64 x.w]
theorem is_none (x:Ln) (Bo Bm gm:Nat) (lbm:Array Value) (w:World) (k1:CO w Bo #[.int .i64 0,.int .i64 0,.int .i64 0,.int .i64 0] 56) (k2:CO w Bm #[.func (.func gm) #[] lbm] 87) :
  Calls Tryz.prog 67 #[.agg #[.int .i64 x.t,.int .i64 x.v,.int .i64 x.u,.int .i64 x.w],.pointer (some ⟨Bo,0,none⟩),.pointer (some ⟨Bm,0,none⟩)] w (CM w (.bool true)):=by
 have S0:BL w [(Bm,#[.func (.func gm) #[] lbm],87),(Bo,#[.int .i64 0,.int .i64 0,.int .i64 0,.int .i64 0],56)] w:=⟨Below.refl _ _,fun p hp=>by rcases As.1 hp with rfl | hp;exact k2;rcases As.1 hp with rfl | hp;exact k1;cases hp⟩
 obtain ⟨V,hV,hS,hz⟩:=S0.add' #[.int .i64 x.t,.int .i64 x.v,.int .i64 x.u,.int .i64 x.w] 56
 clear S0 hz k1 k2
 go_enter Tryz.func67,Tryz.ntmps67
 go_upto_region 1 with fail
 rw [<-hV]
 clear hV
 obtain ⟨c_x_0,c_x_1,c_x_2,c_x_3⟩:=hS.c4 (w.heap.size) _ _ _ _ _ Ah
 have c_m_0:=hS.c1 (Bm) _ _ Ai
 obtain ⟨c_o_0,c_o_1,c_o_2,c_o_3⟩:=hS.c4 (Bo) _ _ _ _ _ Aj
 go_quiet (fail)
 go_wp2
 go_ret
 exact ⟨rfl,(hS.drewN _).below⟩
theorem is_some (m:Ln->Int) (y:Ln) (x:Ln) (Bo Bm gm:Nat) (lbm:Array Value) (hx:Gq x) (hy:Gq y) (hy0:y.t<y.u) (w:World) (hM:OO w gm lbm m) (k1:CO w Bo #[.int .i64 y.t,.int .i64 y.v,.int .i64 y.u,.int .i64 y.w] 56) (k2:CO w Bm #[.func (.func gm) #[] lbm] 87) :
  Calls Tryz.prog 67 #[.agg #[.int .i64 x.t,.int .i64 x.v,.int .i64 x.u,.int .i64 x.w],.pointer (some ⟨Bo,0,none⟩),.pointer (some ⟨Bm,0,none⟩)] w (CM w (.bool (decide (m y*(x.u-x.t)<m x*(y.u-y.t))))):=by
 have S0:BL w [(Bm,#[.func (.func gm) #[] lbm],87),(Bo,#[.int .i64 y.t,.int .i64 y.v,.int .i64 y.u,.int .i64 y.w],56)] w:=⟨Below.refl _ _,fun p hp=>by rcases As.1 hp with rfl | hp;exact k2;rcases As.1 hp with rfl | hp;exact k1;cases hp⟩
 have MX:=A8 (fun W hb=>hM.call W x hx hb)
 have MY:=A8 (fun W hb=>hM.call W y hy hb)
 have hE:=hM.enters
 have bx:=hM.bd x hx
 have by':=hM.bd y hy
 have m1:=GM (a:=m y) (b:=x.u-x.t) 1600000000000 800000 Ad (by have:=hx.t;have:=hx.u;omega)
 have m2:=GM (a:=m x) (b:=y.u-y.t) 1600000000000 800000 Ad (by have:=hy.t;have:=hy.u;omega)
 generalize m x=mx at *
 generalize m y=my at *
 have w1:IntKind.i64.wrap (x.u-x.t)=x.u-x.t:=Bz _ (by have:=hx.t;have:=hx.u;omega)
 have w2:IntKind.i64.wrap (y.u-y.t)=y.u-y.t:=Bz _ (by have:=hy.t;have:=hy.u;omega)
 have w3:IntKind.i64.wrap (my*(x.u-x.t))=my*(x.u-x.t):=Bz _ Ad
 have w4:IntKind.i64.wrap (mx*(y.u-y.t))=mx*(y.u-y.t):=Bz _ Ad
 have hz1:(¬ y.t=0)∨(y.t=0/\¬ y.v=0)∨(y.t=0/\y.v=0/\¬ y.u=0):=by omega
 clear m1 m2 bx by' hx hy hy0 hM
 obtain ⟨V,hV,hS,hzz⟩:=S0.add' #[.int .i64 x.t,.int .i64 x.v,.int .i64 x.u,.int .i64 x.w] 56
 clear S0 hzz k1 k2
 go_enter Tryz.func67,Tryz.ntmps67
 go_upto_region 1 with fail
 rw [<-hV]
 clear hV
 have hC0:∀ W',BL w [(w.heap.size,#[.int .i64 x.t,.int .i64 x.v,.int .i64 x.u,.int .i64 x.w],56),(Bm,#[.func (.func gm) #[] lbm],87),(Bo,#[.int .i64 y.t,.int .i64 y.v,.int .i64 y.u,.int .i64 y.w],56)] W'->(W'.cell? ⟨w.heap.size,0,none⟩=some (.int .i64 x.t)/\W'.cell? ⟨w.heap.size,1,none⟩=some (.int .i64 x.v)/\W'.cell? ⟨w.heap.size,2,none⟩=some (.int .i64 x.u)/\W'.cell? ⟨w.heap.size,3,none⟩=some (.int .i64 x.w)/\W'.cell? ⟨Bm,0,none⟩=some (.func (.func gm) #[] lbm)/\W'.cell? ⟨Bo,0,none⟩=some (.int .i64 y.t)/\W'.cell? ⟨Bo,1,none⟩=some (.int .i64 y.v)/\W'.cell? ⟨Bo,2,none⟩=some (.int .i64 y.u)/\W'.cell? ⟨Bo,3,none⟩=some (.int .i64 y.w)):=fun W' h=>⟨(h.cell (w.heap.size) _ _ Ah 0),(h.cell (w.heap.size) _ _ Ah 1),(h.cell (w.heap.size) _ _ Ah 2),(h.cell (w.heap.size) _ _ Ah 3),(h.cell (Bm) _ _ Ai 0),(h.cell (Bo) _ _ Aj 0),(h.cell (Bo) _ _ Aj 1),(h.cell (Bo) _ _ Aj 2),(h.cell (Bo) _ _ Aj 3)⟩
 have hC:=A8 hC0
 clear hC0
 obtain ⟨x0',x1',x2',x3',x4',x5',x6',x7',x8'⟩:=hC.out _ hS
 replace hS:=hS.drew
 rcases hz1 with h1 | ⟨h0,h1⟩ | ⟨h0,h2,h1⟩
 ·have e1:(y.t==0)=false:=by simp [h1]
  clear h1;go_region_held3 (fun w'=>w'.cell? ⟨w.heap.size,0,none⟩=some (.int .i64 x.t)/\w'.cell? ⟨w.heap.size,1,none⟩=some (.int .i64 x.v)/\w'.cell? ⟨w.heap.size,2,none⟩=some (.int .i64 x.u)/\w'.cell? ⟨w.heap.size,3,none⟩=some (.int .i64 x.w)/\w'.cell? ⟨Bm,0,none⟩=some (.func (.func gm) #[] lbm)/\w'.cell? ⟨Bo,0,none⟩=some (.int .i64 y.t)/\w'.cell? ⟨Bo,1,none⟩=some (.int .i64 y.v)/\w'.cell? ⟨Bo,2,none⟩=some (.int .i64 y.u)/\w'.cell? ⟨Bo,3,none⟩=some (.int .i64 y.w))
   (first | with_reducible exact hC.out _ hS | go_keep)
   (first | ((with_reducible refine Calls.mono (MX.out _ hS.below) ?_);rintro e w' ⟨rfl,hb⟩;replace hS:=hS.call hb;clear hb) | ((with_reducible refine Calls.mono (MY.out _ hS.below) ?_);rintro e w' ⟨rfl,hb⟩;replace hS:=hS.call hb;clear hb))
  go_wp2;go_ret;exact ⟨rfl,hS.below⟩
 ·have e1:(y.t==0)=true:=by simp [h0]
  have e2:(y.v==0)=false:=by simp [h1]
  clear h0 h1;go_region_held3 (fun w'=>w'.cell? ⟨w.heap.size,0,none⟩=some (.int .i64 x.t)/\w'.cell? ⟨w.heap.size,1,none⟩=some (.int .i64 x.v)/\w'.cell? ⟨w.heap.size,2,none⟩=some (.int .i64 x.u)/\w'.cell? ⟨w.heap.size,3,none⟩=some (.int .i64 x.w)/\w'.cell? ⟨Bm,0,none⟩=some (.func (.func gm) #[] lbm)/\w'.cell? ⟨Bo,0,none⟩=some (.int .i64 y.t)/\w'.cell? ⟨Bo,1,none⟩=some (.int .i64 y.v)/\w'.cell? ⟨Bo,2,none⟩=some (.int .i64 y.u)/\w'.cell? ⟨Bo,3,none⟩=some (.int .i64 y.w))
   (first | with_reducible exact hC.out _ hS | go_keep)
   (first | ((with_reducible refine Calls.mono (MX.out _ hS.below) ?_);rintro e w' ⟨rfl,hb⟩;replace hS:=hS.call hb;clear hb) | ((with_reducible refine Calls.mono (MY.out _ hS.below) ?_);rintro e w' ⟨rfl,hb⟩;replace hS:=hS.call hb;clear hb))
  go_wp2;go_ret;exact ⟨rfl,hS.below⟩
 ·have e1:(y.t==0)=true:=by simp [h0]
  have e2:(y.v==0)=true:=by simp [h2]
  have e3:(y.u==0)=false:=by simp [h1]
  clear h0 h1 h2;go_region_held3 (fun w'=>w'.cell? ⟨w.heap.size,0,none⟩=some (.int .i64 x.t)/\w'.cell? ⟨w.heap.size,1,none⟩=some (.int .i64 x.v)/\w'.cell? ⟨w.heap.size,2,none⟩=some (.int .i64 x.u)/\w'.cell? ⟨w.heap.size,3,none⟩=some (.int .i64 x.w)/\w'.cell? ⟨Bm,0,none⟩=some (.func (.func gm) #[] lbm)/\w'.cell? ⟨Bo,0,none⟩=some (.int .i64 y.t)/\w'.cell? ⟨Bo,1,none⟩=some (.int .i64 y.v)/\w'.cell? ⟨Bo,2,none⟩=some (.int .i64 y.u)/\w'.cell? ⟨Bo,3,none⟩=some (.int .i64 y.w))
   (first | with_reducible exact hC.out _ hS | go_keep)
   (first | ((with_reducible refine Calls.mono (MX.out _ hS.below) ?_);rintro e w' ⟨rfl,hb⟩;replace hS:=hS.call hb;clear hb) | ((with_reducible refine Calls.mono (MY.out _ hS.below) ?_);rintro e w' ⟨rfl,hb⟩;replace hS:=hS.call hb;clear hb))
  go_wp2;go_ret;exact ⟨rfl,hS.below⟩
theorem Ns (o:Option Ln):∃ a b c d:Int,oC o=#[.int .i64 a,.int .i64 b,.int .i64 c,.int .i64 d]:=by
 cases o with
 | none=>exact ⟨_,_,_,_,rfl⟩
 | some x=>exact ⟨_,_,_,_,rfl⟩
theorem Nt (m:Ln->Int) (L:List Ln) (x:Ln):Jz m (L++[x])=if isB m (Jz m L) x then some x else Jz m L:=by
 rw [<-To];unfold Jz;rw [Cl];rfl
structure BI (W0:World) (B0 B1 B2 B3 gm:Nat) (lbm:Array Value) (o:Option Ln) (W:World):Prop where
 m:CO W B0 #[.func (.func gm) #[] lbm] 87
 r:CO W B1 #[.int .i64 0,.int .i64 0,.int .i64 0,.int .i64 0] 56
 o:CO W B2 (oC o) 56
 i:CO W B3 #[.func (.func 67) #[] #[.pointer (some ⟨B2,0,none⟩),.pointer (some ⟨B0,0,none⟩)]] 117
 only:CG [B2] W0 W
theorem CS.blk {W W':World} (h:CS W W') {B:Nat} {cs:Array Value} {t:TypeId} (hb:CO W B cs t):CO W' B cs t:=h.2 B _ hb rfl
theorem BI.cells {W0:World} {B0 B1 B2 B3 gm:Nat} {lbm:Array Value} {o:Option Ln} {W W':World} (h:BI W0 B0 B1 B2 B3 gm lbm o W) (k:CS W W') (ho:CG [B2] W0 W'):BI W0 B0 B1 B2 B3 gm lbm o W' :=
 ⟨k.blk h.m,k.blk h.r,k.blk h.o,k.blk h.i,ho⟩
theorem bst_ok {ds:List Dt} (hok:Fi ds=true) {m:Ln->Int} {pre:List (FLn ds)} {y:Ln} (h:Jz m (pre.map (·.1))=some y):Gq y/\y.t<y.u:=by
 have hf:∀ x∈pre.map (·.1),x∈D7 ds:=fun x hx=>by
  obtain ⟨z,_,rfl⟩:=AJ.1 hx;exact z.2
 have hm:=(DecM.bst_some (fun x hx=>(DecM.fitting_fit (DecM.okD_good hok) (hf x hx)).1) h).1;exact ⟨Kp hok (hf y hm),(DecM.fitting_fit (DecM.okD_good hok) (hf y hm)).1⟩
theorem isd_any (m:Ln->Int) (o:Option Ln) (x:Ln) (Bo Bm gm:Nat) (lbm:Array Value) (hx:Gq x) (ho:∀ y,o=some y->Gq y/\y.t<y.u) (w:World) (hM:OO w gm lbm m) (k1:CO w Bo (oC o) 56) (k2:CO w Bm #[.func (.func gm) #[] lbm] 87) :
  Calls Tryz.prog 67 #[.agg #[.int .i64 x.t,.int .i64 x.v,.int .i64 x.u,.int .i64 x.w],.pointer (some ⟨Bo,0,none⟩),.pointer (some ⟨Bm,0,none⟩)] w (CM w (.bool (isB m o x))):=by
 cases o with
 | none=>exact is_none x Bo Bm gm lbm w k1 k2
 | some y=>exact is_some m y x Bo Bm gm lbm hx (ho y rfl).1 (ho y rfl).2 w hM k1 k2
theorem Tp {S:List Nat} {W W':World} (h:CG S W W'):JB S W W':=⟨h.size,fun k _ hs hk _=>(h.block k (Bu.1 hk).1 hs).trans hk⟩
theorem BI.call {W0:World} {B0 B1 B2 B3 gm:Nat} {lbm:Array Value} {o:Option Ln} {W W':World} (h:BI W0 B0 B1 B2 B3 gm lbm o W) (hb:Below W.heap.size W W'):BI W0 B0 B1 B2 B3 gm lbm o W' :=
 ⟨h.m.below hb,h.r.below hb,h.o.below hb,h.i.below hb,h.only.below hb⟩
theorem Tq (v:Value) (ds:List Dt) (m:Ln->Int) (gm:Nat) (lbm:Array Value) (hok:Fi ds=true) (w:World) (h:Gp w v ds) (hM:OO w gm lbm m) :
  Calls Tryz.prog 38 #[v,.func (.func gm) #[] lbm] w (CM w (.agg (oC (Jz m (D7 ds))))):=by
 obtain ⟨U0,e0,S0,z0⟩:=(BL.start w).add' #[.func (.func gm) #[] lbm] 87
 obtain ⟨U1,e1,S1,z1⟩:=S0.add' #[.int .i64 0,.int .i64 0,.int .i64 0,.int .i64 0] 56
 obtain ⟨U2,e2,S2,z2⟩:=S1.add' #[.int .i64 0,.int .i64 0,.int .i64 0,.int .i64 0] 56
 rw [z0] at S1
 rw [z1,z0] at S2
 obtain ⟨U3,e3,S3,z3⟩:=S2.add' #[.func (.func 67) #[] #[.pointer (some ⟨w.heap.size+1+1,0,none⟩),.pointer (some ⟨w.heap.size,0,none⟩)]] 117
 obtain ⟨U4,e4,S4,z4⟩:=S3.add' #[v] 29
 rw [z2,z1,z0] at S3
 rw [z3,z2,z1,z0] at S4
 have hV:U4=((((w.alloc (.cells #[.func (.func gm) #[] lbm] 87)).alloc (.cells #[.int .i64 0,.int .i64 0,.int .i64 0,.int .i64 0] 56)).alloc (.cells #[.int .i64 0,.int .i64 0,.int .i64 0,.int .i64 0] 56)).alloc (.cells #[.func (.func 67) #[] #[.pointer (some ⟨w.heap.size+1+1,0,none⟩),.pointer (some ⟨w.heap.size,0,none⟩)]] 117)).alloc (.cells #[v] 29):=by rw [e4,e3,e2,e1,e0]
 rw [z3,z2,z1,z0] at z4
 clear e0 e1 e2 e3 e4 z0 z1 z2 z3 S0 S1 S2 S3
 have hv0:=h.below S4.below
 have hvp:∀ b o,v.ptr? = some (b,o)->b<w.heap.size:=fun b o e=>by
  rcases h with ⟨rfl,_⟩ | ⟨b',off,cap,rfl,_,_,h3,_⟩
  ·cases e
  ·cases e;exact h3
 have hb4:=S4.below
 have k0:=S4.blks _ (.tail _ Ak)
 have k1:=S4.blks _ Ak
 have k2:=S4.blks _ Aj
 have k3:=S4.blks _ Ai
 have k4:=S4.blks _ Ah
 dsimp only at k0 k1 k2 k3 k4
 obtain ⟨a1,c1,rfl⟩:=h.shape
 clear h S4
 refine (callsIn_wide (n:=5)).1 ?_
 refine callsIn_of_wp_marks Tryz.func38 rfl trivial ?_ rfl
 simp only [Tryz.ntmps38,Bg,C4,Cf,Nat.reduceAdd,Nat.reduceSub,Cg,Ch,Ci,Cj,BC,BK]
 gi_wp2_with (refine ⟨trivial,?_⟩;gi_at_call 68;refine (Tm _ _ ⟨_,_,_,rfl⟩).mono ?_;rintro e w' ⟨rfl,rfl⟩)
 rw [<-hV]
 clear hV
 have hlt2:w.heap.size+1+1<U4.heap.size:=by omega
 refine wpIn_rangeFunc_ownH (F:=Fence.wide) (n:=5) (gf:=98) (lb:=#[.pointer (some ⟨w.heap.size+1+1+1+1,0,none⟩)]) (N:=(D7 ds).length) rfl Ae rfl trivial (Go.Proofs.enters_of Tryz.func98 Ab rfl)
  (Nq (w.heap.size+1+1+1+1) [w.heap.size+1+1] _ ds U4 hok (by simp;omega) (by simp;omega) (k4.cell 0) hv0 (fun b o e=>by have:=hvp b o e;simp;omega)) (fun h k=>h.trans k) (fun W l o o' _ hl ho _=>JB.putObj o' hl ho) (Below.refl _ _) (fun _=>rfl)
  (fun pre W=>BI U4 w.heap.size (w.heap.size+1) (w.heap.size+1+1) (w.heap.size+1+1+1) gm lbm (Jz m (pre.map (·.1))) W) (fun _ _ _=>False)
  (fun s A B row hs hg hr=>hs.cells (Dh hg (fun r e=>(hr r e).2)) (F9 (S:=[w.heap.size+1+1]) (w:=U4) s A B row hs.only hg hr)) (fun _ _ _ _ _ hs _ _=>hs)
  ⟨k0,k1,k2,k3,CG.refl _ _⟩
  (fun x a' W=>∃ Bx,U4.heap.size<=Bx/\CO W Bx #[.int .i64 x.1.t,.int .i64 x.1.v,.int .i64 x.1.u,.int .i64 x.1.w] 56/\a'={ tmps:=#[.slice a1 ds.length c1,.func (.func gm) #[] lbm,undef,.pointer (some ⟨w.heap.size,0,none⟩),.pointer (some ⟨w.heap.size+1,0,none⟩),.pointer (some ⟨w.heap.size+1+1,0,none⟩),.pointer (some ⟨w.heap.size+1+1+1,0,none⟩),.pointer (some ⟨Bx,0,none⟩),
   .func (.func 67) #[] #[.pointer (some ⟨w.heap.size+1+1,0,none⟩),.pointer (some ⟨w.heap.size,0,none⟩)],.slice a1 ds.length c1,.func (.func 98) #[] #[.pointer (some ⟨w.heap.size+1+1+1+1,0,none⟩)],.agg #[.int .i64 x.1.t,.int .i64 x.1.v,.int .i64 x.1.u,.int .i64 x.1.w],undef,undef,undef,undef,undef],defers:=[] })
  (fun x a' u A B row ⟨Bx,h1,h2,h3⟩ hg hr=>⟨Bx,h1,(Dh hg (fun r e=>(hr r e).2)).blk h2,h3⟩) ?assign ?body ?done ?stop
 case assign =>
  intro l pre x W K hi hK;unfold flV;gi_wp2;exact hK _ _ ((KeepsOthers.alloc _ _).from _) (JB.of_below (Es (Below.refl _ _) _)) (hi.call (Es (Below.refl _ _) _)) ⟨W.heap.size,hi.only.size,CO.new _ _ _,rfl⟩
 case body =>
  rintro l pre x a' W hl ⟨r,hr⟩ hi ⟨Bx,hBx,kx,rfl⟩ hlen;clear k0 k1 k2 k3 k4 hr hl hlen;have hMW:=hM.below (hb4.trans (hi.only.toBelow hb4.size (by simp;omega)));have IS:=isd_any m (Jz m (pre.map (·.1))) x.1 (w.heap.size+1+1) w.heap.size gm lbm (Kp hok x.2) (fun y hy=>bst_ok hok hy) W hMW hi.o hi.m;have x0:=kx.cell 0;have x1:=kx.cell 1;have x2:=kx.cell 2;have x3:=kx.cell 3;have i0:=hi.i.cell 0;simp only [BR,Cm,Cn] at x0 x1 x2 x3 i0;cases hb:isB m (Jz m (pre.map (·.1))) x.1 with
  | false =>
   rw [hb] at IS;have IS:=A8 IS;gi_wp2_with (refine ⟨trivial,?_⟩;gi_at_call 67;refine (CallsIn.inRound l (callsIn_wide.2 IS.out)).mono ?_;rintro e w' ⟨rfl,hb'⟩);refine ⟨(KeepsOthers.of_grownBy (Db hb') (fun j o e=>by cases e)).from _,JB.of_below hb',?_⟩;show BI U4 w.heap.size (w.heap.size+1) (w.heap.size+1+1) (w.heap.size+1+1+1) gm lbm (Jz m (List.map (·.1) (pre++[x]))) w';rw [AO,List.map_cons,List.map_nil,Nt,hb,AF Ae];exact hi.call hb'
  | true =>
   rw [hb] at IS;have IS:=A8 IS;obtain ⟨a,b,c,d,hoc⟩:=Ns (Jz m (pre.map (·.1)));gi_wp2_with (refine ⟨trivial,?_⟩;gi_at_call 67;refine (CallsIn.inRound l (callsIn_wide.2 IS.out)).mono ?_;rintro e w' ⟨rfl,hb'⟩;have hi':=hi.call hb';have kx':=kx.below hb';have ko:=hi'.o;rw [hoc] at ko;have y0:=kx'.cell 0;have y1:=kx'.cell 1;have y2:=kx'.cell 2;have y3:=kx'.cell 3;have o0:=ko.cell 0;have o1:=ko.cell 1;have o2:=ko.cell 2;have o3:=ko.cell 3;have f0:=ko.frozen 0;have f1:=ko.frozen 1;have f2:=ko.frozen 2;have f3:=ko.frozen 3;simp only [BR,Cm,Cn] at y0 y1 y2 y3 o0 o1 o2 o3);have ho:=(((((CG.refl [w.heap.size+1+1] w').setCell (p:=⟨w.heap.size+1+1,0,none⟩) Af (.int .i64 x.1.t)).setCell (p:=⟨w.heap.size+1+1,1,none⟩) Af (.int .i64 x.1.v)).setCell (p:=⟨w.heap.size+1+1,2,none⟩) Af (.int .i64 x.1.u)).setCell (p:=⟨w.heap.size+1+1,3,none⟩) Af (.int .i64 x.1.w));have kn:=((((ko.set 0 (.int .i64 x.1.t)).set 1 (.int .i64 x.1.v)).set 2 (.int .i64 x.1.u)).set 3 (.int .i64 x.1.w));simp only [A0,A6,A5] at kn;have hpre:Jz m (List.map (·.1) (pre++[x]))=some x.1:=by rw [AO,List.map_cons,List.map_nil,Nt,hb,AI rfl]
   have hI:BI U4 w.heap.size (w.heap.size+1) (w.heap.size+1+1) (w.heap.size+1+1+1) gm lbm (Jz m (List.map (·.1) (pre++[x]))) ((((w'.setCell ⟨w.heap.size+1+1,0,none⟩ (.int .i64 x.1.t)).setCell ⟨w.heap.size+1+1,1,none⟩ (.int .i64 x.1.v)).setCell ⟨w.heap.size+1+1,2,none⟩ (.int .i64 x.1.u)).setCell ⟨w.heap.size+1+1,3,none⟩ (.int .i64 x.1.w)):=by
    rw [hpre];exact ⟨hi'.m.only ho (by simp <;> omega),hi'.r.only ho (by simp <;> omega),kn,hi'.i.only ho (by simp <;> omega),hi'.only.trans ho⟩
   refine ⟨(((KeepsOthers.of_grownBy (Db hb') (fun j o e=>by cases e)).trans ((((KeepsOthers.setCell _ _ _).trans (KeepsOthers.setCell _ _ _)).trans (KeepsOthers.setCell _ _ _)).trans (KeepsOthers.setCell _ _ _))).from _),(JB.of_below hb').trans (Tp ho),hI⟩
 case done =>
  rintro D xs W hD hxs hi hK;rw [hxs] at hi;obtain ⟨a,b,c,d,hoc⟩:=Ns (Jz m (D7 ds));have ko:=hi.o;rw [hoc] at ko;have o0:=ko.cell 0;have o1:=ko.cell 1;have o2:=ko.cell 2;have o3:=ko.cell 3;have r0:=hi.r.cell 0;have r1:=hi.r.cell 1;have r2:=hi.r.cell 2;have r3:=hi.r.cell 3;have f0:=hi.r.frozen 0;have f1:=hi.r.frozen 1;have f2:=hi.r.frozen 2;have f3:=hi.r.frozen 3;simp only [BR,Cm,Cn] at o0 o1 o2 o3 r0 r1 r2 r3;gi_wp2;have kr:=((((hi.r.set 0 (.int .i64 a)).set 1 (.int .i64 b)).set 2 (.int .i64 c)).set 3 (.int .i64 d));simp only [A0,A6,A5] at kr;have ho:=(((((hi.only.mono (T:=[w.heap.size+1,w.heap.size+1+1]) Af).setCell (p:=⟨w.heap.size+1,0,none⟩) Af (.int .i64 a)).setCell (p:=⟨w.heap.size+1,1,none⟩) Af (.int .i64 b)).setCell (p:=⟨w.heap.size+1,2,none⟩) Af (.int .i64 c)).setCell (p:=⟨w.heap.size+1,3,none⟩) Af (.int .i64 d));have hK':=((((KeepsOthers.setCell W ⟨w.heap.size+1,0,none⟩ (.int .i64 a)).trans (KeepsOthers.setCell _ ⟨w.heap.size+1,1,none⟩ (.int .i64 b))).trans (KeepsOthers.setCell _ ⟨w.heap.size+1,2,none⟩ (.int .i64 c))).trans (KeepsOthers.setCell _ ⟨w.heap.size+1,3,none⟩ (.int .i64 d))).same D _ hK rfl;have kf:=(CS.putObj (.deferred none) hK' rfl).blk kr;have q0:=kf.cell 0;have q1:=kf.cell 1;have q2:=kf.cell 2;have q3:=kf.cell 3;simp only [BR,Cm,Cn] at q0 q1 q2 q3;exact DW hK' (v:=.agg #[.int .i64 a,.int .i64 b,.int .i64 c,.int .i64 d]) (by simp [results,Tryz.results38,go_sem,q0,q1,q2,q3])
   ⟨by rw [hoc],hb4.trans ((ho.putObj hD _).toBelow hb4.size (by simp;omega))⟩
 case stop =>
  rintro D c pre W hD _ h;exact h.elim
end
section
open Go.RowKit
open DecM (Dt gd Fi Ex)
attribute [local go_sem] Oper.semAt_some
def oq (n d:ByteArray):Option Rat:=oIf (rOk n d) (rv n d)
theorem GS (n d:ByteArray):(rOk n d=true/\∃ r,oq n d=some r/\n=tN (some r)/\d=tD (some r)/\Fy (some r))∨(rOk n d=false/\oq n d=none):=by
 cases h:rOk n d with
 | true =>
  obtain ⟨h1,h2,h3⟩:=QF h;exact .inl ⟨rfl,rv n d,by unfold oq oIf;rw [h];rfl,h1,h2,Fy.some h3⟩
 | false=>exact .inr ⟨rfl,by unfold oq oIf;rw [h];rfl⟩
theorem oq_t {o:Option Rat} (h:Fy o):oq (tN o) (tD o)=o:=by
 unfold oq oIf;rw [K8 h];cases o with
 | none=>rfl
 | some r=>show (if true=true then some (rv (F4 r) (F5 r)) else none)=some r;rw [AI rfl,rv_of rfl rfl]
theorem JD (n d:ByteArray):(oq n d).isSome=rOk n d:=by
 rcases GS n d with ⟨h,r,e,_⟩ | ⟨h,e⟩ <;> rw [e,h] <;> rfl
theorem qadd_t (n1 d1 n2 d2:ByteArray) (w:World) (hE:Dv w):Calls Tryz.prog 52 #[.agg #[.string n1,.string d1],.agg #[.string n2,.string d2]] w (CM w (oV (Na (oq n1 d1) (oq n2 d2)))):=by
 rcases GS n1 d1 with ⟨_,r,e,hn,hd,h⟩ | ⟨hf,e⟩
 ·rcases GS n2 d2 with ⟨_,s,e2,hn2,hd2,h2⟩ | ⟨hf,e2⟩
  ·rw [e,e2,hn,hd,hn2,hd2];exact qadd_o h h2 w hE
  ·have k:=K7 n1 d1 n2 d2 w hE
   rw [hf,Bool.and_false] at k;simp only [Bool.false_and] at k;rw [FH rfl] at k;rw [e,e2];exact k
 ·have k:=K7 n1 d1 n2 d2 w hE
  rw [hf] at k;simp only [Bool.false_and] at k;rw [FH rfl] at k;rw [e];exact k
theorem qmul_t (n1 d1 n2 d2:ByteArray) (w:World) (hE:Dv w):Calls Tryz.prog 51 #[.agg #[.string n1,.string d1],.agg #[.string n2,.string d2]] w (CM w (oV (LX (oq n1 d1) (oq n2 d2)))):=by
 rcases GS n1 d1 with ⟨_,r,e,hn,hd,h⟩ | ⟨hf,e⟩
 ·rcases GS n2 d2 with ⟨_,s,e2,hn2,hd2,h2⟩ | ⟨hf,e2⟩
  ·rw [e,e2,hn,hd,hn2,hd2];exact qmul_o h h2 w hE
  ·have k:=K6 n1 d1 n2 d2 w hE
   rw [hf,Bool.and_false] at k;simp only [Bool.false_and] at k;rw [FH rfl] at k;rw [e,e2];exact k
 ·have k:=K6 n1 d1 n2 d2 w hE
  rw [hf] at k;simp only [Bool.false_and] at k;rw [FH rfl] at k;rw [e];exact k
def eD (o:Option Rat):Int:=match o with
 | some _=>0
 | none=>260
def dV (o:Option Rat):Value:=.tuple #[.agg #[.string (tN o),.string (tD o)],.int .i64 (eD o)]
def Ma (a b:Option Rat) (t:Int):Option Rat:=if a.isSome&&b.isSome&&Ex t then Na a (LX b (some (t:Rat))) else none
theorem JE (t:Int):oOf t 1=some (t:Rat):=by
 unfold oOf oIf;rw [AI Ae];congr 1;rw [Rat.divInt_eq_div];grind
theorem Fy.val {a b:Option Rat} {t:Int}:Fy (Ma a b t):=by
 unfold Ma;split
 ·exact Fy.add
 ·exact Fy.none
theorem Q3 (t:Int):(decide (0<=t)&&decide (t<=800000))=Ex t:=rfl
theorem Rp (n1 d1 n2 d2:ByteArray) (t:Int) (ht:CI t) (w:World) (hE:Dv w) :
  Calls Tryz.prog 28 #[.agg #[.string n1,.string d1],.agg #[.string n2,.string d2],.int .i64 t] w (CM w (dV (Ma (oq n1 d1) (oq n2 d2) t))):=by
 have VA:=fun W (hE:Dv W)=>DY n1 d1 W hE
 have VB:=fun W (hE:Dv W)=>DY n2 d2 W hE
 have IN:=fun W=>OK t 0 800000 W
 rw [Q3] at IN
 have OF:=fun W (hE:Dv W)=>Nb t 1 ht Ae W hE
 rw [JE] at OF
 unfold oV at OF
 have MU:=fun W (hE:Dv W)=>qmul_t n2 d2 (tN (some (t:Rat))) (tD (some (t:Rat))) W hE
 rw [oq_t (Fy.some (show Ei (t:Rat) from ⟨Kb ht,L0⟩))] at MU
 have AD:=fun W (hE:Dv W)=>qadd_t n1 d1 (tN (LX (oq n2 d2) (some (t:Rat)))) (tD (LX (oq n2 d2) (some (t:Rat)))) W hE
 rw [oq_t Fy.mul] at AD
 unfold oV at MU AD
 unfold Ma
 rw [JD,JD]
 generalize oq n1 d1=oa at *
 generalize LX (oq n2 d2) (some (t:Rat))=om at *
 have hnone:om=none->Na oa om=none:=by rintro rfl;cases oa <;> rfl
 generalize Na oa om=ov at *
 generalize tN (some (t:Rat))=tn at *
 generalize tD (some (t:Rat))=td at *
 generalize eO (some (t:Rat))=te at *
 generalize rOk n1 d1=b1 at *
 generalize rOk n2 d2=b2 at *
 generalize Ex t=b3 at *
 clear ht
 have Sv0:=BL.start w
 obtain ⟨V1,ev1,Sv1,zv1⟩:=Sv0.add' #[.string n1,.string d1] 31
 obtain ⟨V2,ev2,Sv2,zv2⟩:=Sv1.add' #[.string n2,.string d2] 31
 obtain ⟨V3,ev3,Sv3,zv3⟩:=Sv2.add' #[.string ⟨#[]⟩,.string ⟨#[]⟩] 31
 rw [zv1] at Sv2
 rw [zv2,zv1] at Sv3
 have hV:V3=(((w.alloc (.cells #[.string n1,.string d1] 31)).alloc (.cells #[.string n2,.string d2] 31)).alloc (.cells #[.string ⟨#[]⟩,.string ⟨#[]⟩] 31)):=by rw [ev3,ev2,ev1]
 have hS:BL w [(w.heap.size+1+1,#[.string ⟨#[]⟩,.string ⟨#[]⟩],31),(w.heap.size+1,#[.string n2,.string d2],31),(w.heap.size,#[.string n1,.string d1],31)] V3:=Sv3
 clear ev1 ev2 ev3 zv1 zv2 zv3 Sv0 Sv1 Sv2 Sv3
 replace IN:=A8 IN
 replace OF:=A8 OF
 replace VA:=A8 VA
 replace VB:=A8 VB
 cases b1 with
 | false =>
  show Calls _ _ _ _ (CM w (.tuple #[.agg #[.string ⟨#[]⟩,.string ⟨#[]⟩],.int .i64 260]));go_enter Tryz.func28,Tryz.ntmps28;go_upto_region 1 with fail;rw [<-hV];clear hV;obtain ⟨c_a_0,c_a_1⟩:=hS.c2 (w.heap.size) _ _ _ Aj;obtain ⟨c_b_0,c_b_1⟩:=hS.c2 (w.heap.size+1) _ _ _ Ai;go_wp2_with fail;refine Calls.mono (VA.out _ (hS.env hE)) ?_;rintro e w1 ⟨rfl,hb⟩;clear c_a_0 c_a_1 c_b_0 c_b_1;replace hS:=hS.call hb;clear hb;obtain ⟨k0,k1,q0,q1,y0,y1,hfin⟩:=Di (hS.blks _ Ah) ⟨#[]⟩ ⟨#[]⟩;have hfin:=A8 (hfin w hS.below Ad);clear hS;go_wp2;exact bodyPost_ret (v:=.tuple #[.agg #[.string ⟨#[]⟩,.string ⟨#[]⟩],.int .i64 260]) (by simp [results,Tryz.results28,go_sem,y0,y1]) rfl ⟨rfl,hfin.out⟩
 | true =>
  cases b2 with
  | false =>
   show Calls _ _ _ _ (CM w (.tuple #[.agg #[.string ⟨#[]⟩,.string ⟨#[]⟩],.int .i64 260]));go_enter Tryz.func28,Tryz.ntmps28;go_upto_region 1 with fail;rw [<-hV];clear hV;obtain ⟨c_a_0,c_a_1⟩:=hS.c2 (w.heap.size) _ _ _ Aj;obtain ⟨c_b_0,c_b_1⟩:=hS.c2 (w.heap.size+1) _ _ _ Ai;go_wp2_with fail;refine Calls.mono (VA.out _ (hS.env hE)) ?_;rintro e w1 ⟨rfl,hb⟩;clear c_a_0 c_a_1 c_b_0 c_b_1;replace hS:=hS.call hb;clear hb;obtain ⟨c_b_0,c_b_1⟩:=hS.c2 (w.heap.size+1) _ _ _ Ai;go_wp2_with fail;refine Calls.mono (VB.out _ (hS.env hE)) ?_;rintro e w2 ⟨rfl,hb⟩;clear c_b_0 c_b_1;replace hS:=hS.call hb;clear hb;obtain ⟨k0,k1,q0,q1,y0,y1,hfin⟩:=Di (hS.blks _ Ah) ⟨#[]⟩ ⟨#[]⟩;have hfin:=A8 (hfin w hS.below Ad);clear hS;go_wp2;exact bodyPost_ret (v:=.tuple #[.agg #[.string ⟨#[]⟩,.string ⟨#[]⟩],.int .i64 260]) (by simp [results,Tryz.results28,go_sem,y0,y1]) rfl ⟨rfl,hfin.out⟩
  | true =>
   cases b3 with
   | false =>
    show Calls _ _ _ _ (CM w (.tuple #[.agg #[.string ⟨#[]⟩,.string ⟨#[]⟩],.int .i64 260]));go_enter Tryz.func28,Tryz.ntmps28;go_upto_region 1 with fail;rw [<-hV];clear hV;obtain ⟨c_a_0,c_a_1⟩:=hS.c2 (w.heap.size) _ _ _ Aj;obtain ⟨c_b_0,c_b_1⟩:=hS.c2 (w.heap.size+1) _ _ _ Ai;go_wp2_with fail;refine Calls.mono (VA.out _ (hS.env hE)) ?_;rintro e w1 ⟨rfl,hb⟩;clear c_a_0 c_a_1 c_b_0 c_b_1;replace hS:=hS.call hb;clear hb;obtain ⟨c_b_0,c_b_1⟩:=hS.c2 (w.heap.size+1) _ _ _ Ai;go_wp2_with fail;refine Calls.mono (VB.out _ (hS.env hE)) ?_;rintro e w2 ⟨rfl,hb⟩;clear c_b_0 c_b_1;replace hS:=hS.call hb;clear hb;go_wp2_with fail;refine Calls.mono (IN.out _) ?_;rintro e w3 ⟨rfl,hb⟩;replace hS:=hS.call hb;clear hb;obtain ⟨k0,k1,q0,q1,y0,y1,hfin⟩:=Di (hS.blks _ Ah) ⟨#[]⟩ ⟨#[]⟩;have hfin:=A8 (hfin w hS.below Ad);clear hS;go_wp2;exact bodyPost_ret (v:=.tuple #[.agg #[.string ⟨#[]⟩,.string ⟨#[]⟩],.int .i64 260]) (by simp [results,Tryz.results28,go_sem,y0,y1]) rfl ⟨rfl,hfin.out⟩
   | true =>
    show Calls _ _ _ _ (CM w (dV ov));cases om with
    | none =>
     rw [hnone rfl];clear AD hnone;show Calls _ _ _ _ (CM w (.tuple #[.agg #[.string ⟨#[]⟩,.string ⟨#[]⟩],.int .i64 260]));have MU:∀ W,Dv W->Calls Tryz.prog 51 #[.agg #[.string n2,.string d2],.agg #[.string tn,.string td]] W (CM W (.tuple #[.agg #[.string ⟨#[]⟩,.string ⟨#[]⟩],.int .i64 40])):=MU;replace MU:=A8 MU;go_enter Tryz.func28,Tryz.ntmps28;go_upto_region 1 with fail;rw [<-hV];clear hV;obtain ⟨c_a_0,c_a_1⟩:=hS.c2 (w.heap.size) _ _ _ Aj;obtain ⟨c_b_0,c_b_1⟩:=hS.c2 (w.heap.size+1) _ _ _ Ai;go_wp2_with fail;refine Calls.mono (VA.out _ (hS.env hE)) ?_;rintro e w1 ⟨rfl,hb⟩;clear c_a_0 c_a_1 c_b_0 c_b_1;replace hS:=hS.call hb;clear hb;obtain ⟨c_b_0,c_b_1⟩:=hS.c2 (w.heap.size+1) _ _ _ Ai;go_wp2_with fail;refine Calls.mono (VB.out _ (hS.env hE)) ?_;rintro e w2 ⟨rfl,hb⟩;clear c_b_0 c_b_1;replace hS:=hS.call hb;clear hb;go_wp2_with fail;refine Calls.mono (IN.out _) ?_;rintro e w3 ⟨rfl,hb⟩;replace hS:=hS.call hb;clear hb;go_wp2_with fail;refine Calls.mono (OF.out _ (hS.env hE)) ?_;rintro e w4 ⟨rfl,hb⟩;replace hS:=hS.call hb;clear hb;replace hS:=hS.add' #[.string tn,.string td] 31;obtain ⟨W0,hW0,hS,hz0⟩:=hS;obtain ⟨W,hW⟩:∃ W,W=(w4.alloc (.cells #[.string tn,.string td] 31)):=⟨_,rfl⟩;replace hS:BL w [(w4.heap.size,#[.string tn,.string td],31),(w.heap.size+1+1,#[.string ⟨#[]⟩,.string ⟨#[]⟩],31),(w.heap.size+1,#[.string n2,.string d2],31),(w.heap.size,#[.string n1,.string d1],31)] W:=by rw [hW,<-hW0];exact hS
     clear hz0 hW0;go_upto_region 4 with fail;rw [<-hW];clear hW;obtain ⟨c_b_0,c_b_1⟩:=hS.c2 (w.heap.size+1) _ _ _ Aj;obtain ⟨c_days_0,c_days_1⟩:=hS.c2 (w4.heap.size) _ _ _ Ah;go_wp2_with fail;refine Calls.mono (MU.out _ (hS.env hE)) ?_;rintro e w5 ⟨rfl,hb⟩;clear c_b_0 c_b_1 c_days_0 c_days_1;replace hS:=hS.call hb;clear hb;replace hS:=hS.add' #[.string ⟨#[]⟩,.string ⟨#[]⟩] 31;obtain ⟨W0,hW0,hS,hz0⟩:=hS;obtain ⟨W,hW⟩:∃ W,W=(w5.alloc (.cells #[.string ⟨#[]⟩,.string ⟨#[]⟩] 31)):=⟨_,rfl⟩;replace hS:BL w [(w5.heap.size,#[.string ⟨#[]⟩,.string ⟨#[]⟩],31),(w4.heap.size,#[.string tn,.string td],31),(w.heap.size+1+1,#[.string ⟨#[]⟩,.string ⟨#[]⟩],31),(w.heap.size+1,#[.string n2,.string d2],31),(w.heap.size,#[.string n1,.string d1],31)] W:=by rw [hW,<-hW0];exact hS
     clear hz0 hW0;go_upto_region 6 with fail;rw [<-hW];clear hW;obtain ⟨k0,k1,q0,q1,y0,y1,hfin⟩:=Di (hS.blks _ Aj) ⟨#[]⟩ ⟨#[]⟩;have hfin:=A8 (hfin w hS.below Ad);clear hS;go_wp2;exact bodyPost_ret (v:=.tuple #[.agg #[.string ⟨#[]⟩,.string ⟨#[]⟩],.int .i64 260]) (by simp [results,Tryz.results28,go_sem,y0,y1]) rfl ⟨rfl,hfin.out⟩
    | some m =>
     clear hnone;generalize tN (some m)=mn at *
     generalize tD (some m)=md at *
     replace MU:∀ W,Dv W->Calls Tryz.prog 51 #[.agg #[.string n2,.string d2],.agg #[.string tn,.string td]] W (CM W (.tuple #[.agg #[.string mn,.string md],.int .i64 0])):=MU;replace MU:=A8 MU;cases ov with
     | none =>
      show Calls _ _ _ _ (CM w (.tuple #[.agg #[.string ⟨#[]⟩,.string ⟨#[]⟩],.int .i64 260]));have AD:∀ W,Dv W->Calls Tryz.prog 52 #[.agg #[.string n1,.string d1],.agg #[.string mn,.string md]] W (CM W (.tuple #[.agg #[.string ⟨#[]⟩,.string ⟨#[]⟩],.int .i64 40])):=AD;replace AD:=A8 AD;go_enter Tryz.func28,Tryz.ntmps28;go_upto_region 1 with fail;rw [<-hV];clear hV;obtain ⟨c_a_0,c_a_1⟩:=hS.c2 (w.heap.size) _ _ _ Aj;obtain ⟨c_b_0,c_b_1⟩:=hS.c2 (w.heap.size+1) _ _ _ Ai;go_wp2_with fail;refine Calls.mono (VA.out _ (hS.env hE)) ?_;rintro e w1 ⟨rfl,hb⟩;clear c_a_0 c_a_1 c_b_0 c_b_1;replace hS:=hS.call hb;clear hb;obtain ⟨c_b_0,c_b_1⟩:=hS.c2 (w.heap.size+1) _ _ _ Ai;go_wp2_with fail;refine Calls.mono (VB.out _ (hS.env hE)) ?_;rintro e w2 ⟨rfl,hb⟩;clear c_b_0 c_b_1;replace hS:=hS.call hb;clear hb;go_wp2_with fail;refine Calls.mono (IN.out _) ?_;rintro e w3 ⟨rfl,hb⟩;replace hS:=hS.call hb;clear hb;go_wp2_with fail;refine Calls.mono (OF.out _ (hS.env hE)) ?_;rintro e w4 ⟨rfl,hb⟩;replace hS:=hS.call hb;clear hb;replace hS:=hS.add' #[.string tn,.string td] 31;obtain ⟨W0,hW0,hS,hz0⟩:=hS;obtain ⟨W,hW⟩:∃ W,W=(w4.alloc (.cells #[.string tn,.string td] 31)):=⟨_,rfl⟩;replace hS:BL w [(w4.heap.size,#[.string tn,.string td],31),(w.heap.size+1+1,#[.string ⟨#[]⟩,.string ⟨#[]⟩],31),(w.heap.size+1,#[.string n2,.string d2],31),(w.heap.size,#[.string n1,.string d1],31)] W:=by rw [hW,<-hW0];exact hS
      clear hz0 hW0;go_upto_region 4 with fail;rw [<-hW];clear hW;obtain ⟨c_b_0,c_b_1⟩:=hS.c2 (w.heap.size+1) _ _ _ Aj;obtain ⟨c_days_0,c_days_1⟩:=hS.c2 (w4.heap.size) _ _ _ Ah;go_wp2_with fail;refine Calls.mono (MU.out _ (hS.env hE)) ?_;rintro e w5 ⟨rfl,hb⟩;clear c_b_0 c_b_1 c_days_0 c_days_1;replace hS:=hS.call hb;clear hb;replace hS:=hS.add' #[.string mn,.string md] 31;obtain ⟨W0,hW0,hS,hz0⟩:=hS;obtain ⟨W,hW⟩:∃ W,W=(w5.alloc (.cells #[.string mn,.string md] 31)):=⟨_,rfl⟩;replace hS:BL w [(w5.heap.size,#[.string mn,.string md],31),(w4.heap.size,#[.string tn,.string td],31),(w.heap.size+1+1,#[.string ⟨#[]⟩,.string ⟨#[]⟩],31),(w.heap.size+1,#[.string n2,.string d2],31),(w.heap.size,#[.string n1,.string d1],31)] W:=by rw [hW,<-hW0];exact hS
      clear hz0 hW0;go_upto_region 7 with fail;rw [<-hW];clear hW;obtain ⟨c_a_0,c_a_1⟩:=hS.c2 (w.heap.size) _ _ _ (.tail _ Ak);obtain ⟨c_more_0,c_more_1⟩:=hS.c2 (w5.heap.size) _ _ _ Ah;go_wp2_with fail;refine Calls.mono (AD.out _ (hS.env hE)) ?_;rintro e w6 ⟨rfl,hb⟩;clear c_a_0 c_a_1 c_more_0 c_more_1;replace hS:=hS.call hb;clear hb;replace hS:=hS.add' #[.string ⟨#[]⟩,.string ⟨#[]⟩] 31;obtain ⟨W0,hW0,hS,hz0⟩:=hS;obtain ⟨W,hW⟩:∃ W,W=(w6.alloc (.cells #[.string ⟨#[]⟩,.string ⟨#[]⟩] 31)):=⟨_,rfl⟩;replace hS:BL w [(w6.heap.size,#[.string ⟨#[]⟩,.string ⟨#[]⟩],31),(w5.heap.size,#[.string mn,.string md],31),(w4.heap.size,#[.string tn,.string td],31),(w.heap.size+1+1,#[.string ⟨#[]⟩,.string ⟨#[]⟩],31),(w.heap.size+1,#[.string n2,.string d2],31),(w.heap.size,#[.string n1,.string d1],31)] W:=by rw [hW,<-hW0];exact hS
      clear hz0 hW0;go_upto_region 9 with fail;rw [<-hW];clear hW;obtain ⟨k0,k1,q0,q1,y0,y1,hfin⟩:=Di (hS.blks _ Ak) ⟨#[]⟩ ⟨#[]⟩;have hfin:=A8 (hfin w hS.below Ad);clear hS;go_wp2;exact bodyPost_ret (v:=.tuple #[.agg #[.string ⟨#[]⟩,.string ⟨#[]⟩],.int .i64 260]) (by simp [results,Tryz.results28,go_sem,y0,y1]) rfl ⟨rfl,hfin.out⟩
     | some v =>
      show Calls _ _ _ _ (CM w (.tuple #[.agg #[.string (tN (some v)),.string (tD (some v))],.int .i64 0]));generalize tN (some v)=an at *
      generalize tD (some v)=ad at *
      replace AD:∀ W,Dv W->Calls Tryz.prog 52 #[.agg #[.string n1,.string d1],.agg #[.string mn,.string md]] W (CM W (.tuple #[.agg #[.string an,.string ad],.int .i64 0])):=AD;replace AD:=A8 AD;go_enter Tryz.func28,Tryz.ntmps28;go_upto_region 1 with fail;rw [<-hV];clear hV;obtain ⟨c_a_0,c_a_1⟩:=hS.c2 (w.heap.size) _ _ _ Aj;obtain ⟨c_b_0,c_b_1⟩:=hS.c2 (w.heap.size+1) _ _ _ Ai;go_wp2_with fail;refine Calls.mono (VA.out _ (hS.env hE)) ?_;rintro e w1 ⟨rfl,hb⟩;clear c_a_0 c_a_1 c_b_0 c_b_1;replace hS:=hS.call hb;clear hb;obtain ⟨c_b_0,c_b_1⟩:=hS.c2 (w.heap.size+1) _ _ _ Ai;go_wp2_with fail;refine Calls.mono (VB.out _ (hS.env hE)) ?_;rintro e w2 ⟨rfl,hb⟩;clear c_b_0 c_b_1;replace hS:=hS.call hb;clear hb;go_wp2_with fail;refine Calls.mono (IN.out _) ?_;rintro e w3 ⟨rfl,hb⟩;replace hS:=hS.call hb;clear hb;go_wp2_with fail;refine Calls.mono (OF.out _ (hS.env hE)) ?_;rintro e w4 ⟨rfl,hb⟩;replace hS:=hS.call hb;clear hb;replace hS:=hS.add' #[.string tn,.string td] 31;obtain ⟨W0,hW0,hS,hz0⟩:=hS;obtain ⟨W,hW⟩:∃ W,W=(w4.alloc (.cells #[.string tn,.string td] 31)):=⟨_,rfl⟩;replace hS:BL w [(w4.heap.size,#[.string tn,.string td],31),(w.heap.size+1+1,#[.string ⟨#[]⟩,.string ⟨#[]⟩],31),(w.heap.size+1,#[.string n2,.string d2],31),(w.heap.size,#[.string n1,.string d1],31)] W:=by rw [hW,<-hW0];exact hS
      clear hz0 hW0;go_upto_region 4 with fail;rw [<-hW];clear hW;obtain ⟨c_b_0,c_b_1⟩:=hS.c2 (w.heap.size+1) _ _ _ Aj;obtain ⟨c_days_0,c_days_1⟩:=hS.c2 (w4.heap.size) _ _ _ Ah;go_wp2_with fail;refine Calls.mono (MU.out _ (hS.env hE)) ?_;rintro e w5 ⟨rfl,hb⟩;clear c_b_0 c_b_1 c_days_0 c_days_1;replace hS:=hS.call hb;clear hb;replace hS:=hS.add' #[.string mn,.string md] 31;obtain ⟨W0,hW0,hS,hz0⟩:=hS;obtain ⟨W,hW⟩:∃ W,W=(w5.alloc (.cells #[.string mn,.string md] 31)):=⟨_,rfl⟩;replace hS:BL w [(w5.heap.size,#[.string mn,.string md],31),(w4.heap.size,#[.string tn,.string td],31),(w.heap.size+1+1,#[.string ⟨#[]⟩,.string ⟨#[]⟩],31),(w.heap.size+1,#[.string n2,.string d2],31),(w.heap.size,#[.string n1,.string d1],31)] W:=by rw [hW,<-hW0];exact hS
      clear hz0 hW0;go_upto_region 7 with fail;rw [<-hW];clear hW;obtain ⟨c_a_0,c_a_1⟩:=hS.c2 (w.heap.size) _ _ _ (.tail _ Ak);obtain ⟨c_more_0,c_more_1⟩:=hS.c2 (w5.heap.size) _ _ _ Ah;go_wp2_with fail;refine Calls.mono (AD.out _ (hS.env hE)) ?_;rintro e w6 ⟨rfl,hb⟩;clear c_a_0 c_a_1 c_more_0 c_more_1;replace hS:=hS.call hb;clear hb;replace hS:=hS.add' #[.string an,.string ad] 31;obtain ⟨W0,hW0,hS,hz0⟩:=hS;obtain ⟨W,hW⟩:∃ W,W=(w6.alloc (.cells #[.string an,.string ad] 31)):=⟨_,rfl⟩;replace hS:BL w [(w6.heap.size,#[.string an,.string ad],31),(w5.heap.size,#[.string mn,.string md],31),(w4.heap.size,#[.string tn,.string td],31),(w.heap.size+1+1,#[.string ⟨#[]⟩,.string ⟨#[]⟩],31),(w.heap.size+1,#[.string n2,.string d2],31),(w.heap.size,#[.string n1,.string d1],31)] W:=by rw [hW,<-hW0];exact hS
      clear hz0 hW0;go_upto_region 10 with fail;rw [<-hW];clear hW;obtain ⟨c_o_0,c_o_1⟩:=hS.c2 (w6.heap.size) _ _ _ Ah;obtain ⟨k0,k1,q0,q1,y0,y1,hfin⟩:=Di (hS.blks _ Ak) an ad;have hfin:=A8 (hfin w hS.below Ad);clear hS;go_wp2;exact bodyPost_ret (v:=.tuple #[.agg #[.string an,.string ad],.int .i64 0]) (by simp [results,Tryz.results28,go_sem,y0,y1]) rfl ⟨rfl,hfin.out⟩
end
end Go.Proofs.YtdkonnnmkceagaaGreatDoor
