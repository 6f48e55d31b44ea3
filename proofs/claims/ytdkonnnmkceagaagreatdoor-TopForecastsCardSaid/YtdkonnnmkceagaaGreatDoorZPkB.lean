/- PkB -/
import Derived.Test.YtdkonnnmkceagaaGreatDoorZPkA
import Derived.Test.YtdkonnnmkceagaaGreatDoorZShelf
import Derived.Test.YtdkonnnmkceagaaGreatDoorProg
import Derived.Deep.RegionWith
import Derived.OrdersHeld
import Derived.OrdersIn
import Derived.Deep.RegionHeld
import Derived.Laws.EntriesVeiled
set_option maxHeartbeats 4000000
set_option maxRecDepth 100000
namespace Go.Proofs.YtdkonnnmkceagaaGreatDoor
section
open Go.RowKit Go.Shelf
attribute [local go_sem] Oper.semAt_some
def Eg (xs ys:List Int):Nat->Int
 | 0=>0
 | k+1=>if gi xs k=gi ys k then Eg xs ys k else Lib.compareInt (gi xs k) (gi ys k)
def Ia (xs ys:List Int):Int:=if xs.length=ys.length then Eg xs ys xs.length else Lib.compareInt xs.length ys.length
theorem Lx (v u:Value) (xs ys:List Int) (w:World) (hv:Sl w v xs) (hu:Sl w u ys) (hne:¬ xs.length=ys.length) :
  Calls Tryz.prog 59 #[v,u] w fun e w'=>e=.returned (.int .i64 (Ia xs ys))/\Below w.heap.size w w':=by
 have hc:Ia xs ys=Lib.compareInt xs.length ys.length:=AF hne
 obtain ⟨a1,c1,rfl⟩:=hv.shape
 obtain ⟨a2,c2,rfl⟩:=hu.shape
 rw [hc]
 have hb:((xs.length:Int) != ys.length)=true:=by simp;omega
 clear hc hv hu
 refine (callsIn_wide (n:=5)).1 ?_
 refine callsIn_of_wp_marks Tryz.func59 rfl trivial ?_ rfl
 simp only [Tryz.ntmps59,Bg,C4,Cf,Nat.reduceAdd,Nat.reduceSub,Cg,Ch,Ci,Cj,BC,BK]
 gi_wp2_with fail
 refine ⟨trivial,(callsIn_wide.2 (Tryz.cmp_Compare_int _ _ _)).mono ?_⟩
 rintro e w' ⟨rfl,rfl⟩
 gi_wp2_with fail
 exact ⟨.int .i64 (Lib.compareInt xs.length ys.length),by simp [results,Tryz.results59,go_sem],rfl,((Below.refl _ _).alloc (Aa _) _).alloc Af _⟩
def Ly (xs ys:List Int) (pre:List (Fin xs.length)):Prop:=∀ x∈pre,gi xs x.1=gi ys x.1
theorem Gf {xs ys:List Int}:∀ k,k<=xs.length->Ly xs ys (CZ xs.length k)->Eg xs ys xs.length=Eg xs ys (xs.length-k)
 | 0,_,_=>rfl
 | k+1,h,ha=>by
  rw [DU Ad] at ha;have h1:Ly xs ys (CZ xs.length k):=fun x hx=>ha x (B7.2 (.inl hx))
  have h2:=ha ⟨xs.length-1-k,Ad⟩ (B7.2 (.inr Af));rw [Gf k Ad h1];have e:xs.length-k=(xs.length-1-k)+1:=by omega
  have e2:xs.length-(k+1)=xs.length-1-k:=by omega
  rw [e,e2,Eg,AI h2]
def Found (xs ys:List Int) (r:Int) (pre:List (Fin xs.length)):Prop:=∃ p x,pre=p++[x]/\Ly xs ys p/\gi xs x.1≠gi ys x.1/\r=Lib.compareInt (gi xs x.1) (gi ys x.1)
theorem Lz {xs ys:List Int} {r:Int} {k:Nat} (hk:k<=xs.length) (h:Found xs ys r (CZ xs.length k)):Eg xs ys xs.length=r:=by
 obtain ⟨p,x,he,ha,hne,hr⟩:=h;cases k with
 | zero=>simp [CZ] at he
 | succ k =>
  rw [DU Ad] at he;have h1:=List.append_inj' he rfl;obtain ⟨rfl,h2⟩:=h1;have h3:x.1=xs.length-1-k:=by
   have:(⟨xs.length-1-k,Ad⟩:Fin xs.length)=x:=by simpa using h2
   exact (Bk Fin.val this).symm
  rw [Gf k Ad ha];have e:xs.length-k=x.1+1:=by omega
  rw [e,Eg,AF hne,hr]
theorem O4 (v u:Value) (xs ys:List Int) (w:World) (hv:Sl w v xs) (hu:Sl w u ys) (hl:xs.length=ys.length) :
  Calls Tryz.prog 59 #[v,u] w fun e w'=>e=.returned (.int .i64 (Eg xs ys xs.length))/\Below w.heap.size w w':=by
 have hb:((xs.length:Int) != ys.length)=false:=by simp;omega
 have Hl:=A8 hl
 clear hl
 have hw0:Below w.heap.size w (((w.alloc (.cells #[u] 97)).alloc (.cells #[.int .i64 0] 3)).alloc (.cells #[v] 97)):=(((Below.refl _ _).alloc (Aa _) _).alloc Af _).alloc (by simp;omega) _
 have hv0:=hv.below hw0
 have hu0:=hu.below hw0
 have hvp:=hv.ptr_lt
 have b1:Boxed (((w.alloc (.cells #[u] 97)).alloc (.cells #[.int .i64 0] 3)).alloc (.cells #[v] 97)) w.heap.size 97 u:=((Boxed.new w _ _).alloc _).alloc _
 have b2:Boxed (((w.alloc (.cells #[u] 97)).alloc (.cells #[.int .i64 0] 3)).alloc (.cells #[v] 97)) (w.heap.size+1) 3 (.int .i64 0):=by
  have:=(Boxed.new (w.alloc (.cells #[u] 97)) 3 (.int .i64 0)).alloc (.cells #[v] 97);rwa [AP] at this
 have b3:Boxed (((w.alloc (.cells #[u] 97)).alloc (.cells #[.int .i64 0] 3)).alloc (.cells #[v] 97)) (w.heap.size+1+1) 97 v:=by
  have:=Boxed.new ((w.alloc (.cells #[u] 97)).alloc (.cells #[.int .i64 0] 3)) 97 v;rwa [AP,AP] at this
 obtain ⟨a1,c1,rfl⟩:=hv.shape
 obtain ⟨a2,c2,rfl⟩:=hu.shape
 refine (callsIn_wide (n:=5)).1 ?_
 refine callsIn_of_wp_marks Tryz.func59 rfl trivial ?_ rfl
 simp only [Tryz.ntmps59,Bg,C4,Cf,Nat.reduceAdd,Nat.reduceSub,Cg,Ch,Ci,Cj,BC,BK]
 gi_wp2_with (refine ⟨trivial,?_⟩;gi_at_call 84;refine (Jr Fence.wide 4 trivial rfl _ _ ⟨_,_,_,rfl⟩).mono ?_;rintro e w' ⟨rfl,rfl⟩)
 refine Lu (w.heap.size+1+1) [w.heap.size+1] (.slice a1 xs.length c1) xs rfl b3.cell hv0 Af (fun b o e=>by have:=hvp b o e;simp;omega) rfl
  (fun pre W=>Boxed W w.heap.size 97 (.slice a2 ys.length c2)/\Boxed W (w.heap.size+1) 3 (.int .i64 0)/\Sl W (.slice a2 ys.length c2) ys/\Ly xs ys pre)
  (fun pre W=>∃ r,Boxed W (w.heap.size+1) 3 (.int .i64 r)/\Found xs ys r pre)
  (fun pre W W' h k=>⟨k.boxed h.1,k.boxed h.2.1,k.sl h.2.2.1,h.2.2.2⟩) (fun pre W W' ⟨r,h1,h2⟩ k=>⟨r,k.boxed h1,h2⟩)
  (fun pre W h k hk=>by simp at hk;subst hk;exact ⟨_,h.2.1,rfl⟩) ⟨b1,b2,hu0,fun _ h=>by cases h⟩
  (fun x=>{ tmps:=#[.slice a1 xs.length c1,.slice a2 ys.length c2,undef,.pointer (some ⟨w.heap.size,0,none⟩),.pointer (some ⟨w.heap.size+1,0,none⟩),.int .i64 (x.1:Int),.int .i64 (gi xs x.1),.slice a1 xs.length c1,
   .int .i64 xs.length,.slice a2 ys.length c2,.int .i64 ys.length,.bool false,undef,undef,undef,undef,undef,.slice a1 xs.length c1,.func (.func 110) #[] #[.pointer (some ⟨w.heap.size+1+1,0,none⟩)],
   .int .i64 (x.1:Int),.int .i64 (gi xs x.1),undef,undef,undef,undef,undef,undef,undef,undef,undef,undef,undef,undef],defers:=[] }) ?assign ?body ?done ?stop
 case assign =>
  intro l x W K hK;gi_wp2;exact hK
 case body =>
  rintro l pre x W ho ⟨h1,h2,h3,h4⟩ hlen;have hx2:x.1<ys.length:=by have:=Hl.out;omega
  rcases h3 with ⟨_,h0⟩ | ⟨b,off,cap,he,g1,g2,g3,g4⟩
  ·rw [h0] at hx2;cases hx2
  ·cases he
   have hc:=g4 x.1 hx2;have hc1:=h1.cell;have hc2:=h2.cell;have hf2:=h2.frozen;by_cases heq:gi xs x.1=gi ys x.1
   ·have hne:(gi xs x.1 != gi ys x.1)=false:=by simp [heq]
    have He:=A8 heq;clear heq;gi_wp2;refine ⟨CG.refl _ _,h1,h2,.inr ⟨b,off,c2,rfl,g1,g2,g3,g4⟩,fun y hy=>?_⟩;rcases B7.1 hy with hy | hy
    ·exact h4 y hy
    ·simp at hy;subst hy;exact He.out
   ·have hne:(gi xs x.1 != gi ys x.1)=true:=by simp [heq]
    gi_wp2_with (refine ⟨trivial,?_⟩;gi_at_call 96;refine (CallsIn.inRound l (callsIn_wide.2 (Tryz.cmp_Compare_int _ _ _))).mono ?_;rintro e w' ⟨rfl,rfl⟩);exact ⟨(CG.refl _ _).setCell Af _,_,h2.set _,pre,x,rfl,h4,heq,rfl⟩
 case done =>
  rintro D W hD ho ⟨h1,h2,h3,h4⟩ hK;have hc2:=h2.cell;have hf2:=h2.frozen;have hz:Eg xs ys xs.length=0:=by rw [Gf _ (Aa _) h4,Nat.sub_self];rfl
  have Hz:=A8 hz;clear hz;gi_wp2;have hK':=(KeepsOthers.setCell W ⟨w.heap.size+1,0,none⟩ (.int .i64 0)).same D _ hK rfl;have hc:=((CS.putObj (.deferred none) hK' rfl).boxed (h2.set (.int .i64 0))).cell;exact DW hK' (v:=.int .i64 0) (by simp [results,Tryz.results59,go_sem,hc])
   ⟨by rw [Hz.out],hw0.trans (((ho.setCell Af _).putObj hD _).toBelow (by simp;omega) Af)⟩
 case stop =>
  rintro D k W hk hD ho ⟨r,h1,h2⟩ hK;have hz:=A8 (Lz hk h2);gi_wp2;have hc:=((CS.putObj (.deferred none) hK rfl).boxed h1).cell;exact DW hK (v:=.int .i64 r) (by simp [results,Tryz.results59,go_sem,hc])
   ⟨by rw [hz.out],hw0.trans ((ho.putObj hD _).toBelow (by simp;omega) Af)⟩
theorem F0 (v u:Value) (xs ys:List Int) (w:World) (hv:Sl w v xs) (hu:Sl w u ys) :
  Calls Tryz.prog 59 #[v,u] w fun e w'=>e=.returned (.int .i64 (Ia xs ys))/\Below w.heap.size w w':=by
 by_cases hl:xs.length=ys.length
 ·unfold Ia;rw [AI hl];exact O4 v u xs ys w hv hu hl
 ·exact Lx v u xs ys w hv hu hl
theorem Cy {a b:Int} (h:a<b):Lib.compareInt a b=-1:=AI h
theorem Cz {a b:Int} (h:b<a):Lib.compareInt a b=1:=by unfold Lib.compareInt;rw [AF (by omega:¬ a<b),AI h]
theorem CU (a:Int):Lib.compareInt a a=0:=by unfold Lib.compareInt;rw [AF (by omega:¬ a<a),AF (by omega:¬ a > a)]
theorem JL (a b c:Int):Lib.compareInt (a+c) (b+c)=Lib.compareInt a b:=by
 rcases Cr a b with h | rfl | h
 ·rw [Cy h,Cy Ad]
 ·rw [CU,CU]
 ·rw [Cz h,Cz Ad]
theorem HB (b:Int) (hb:1<b) {xs ys:List Int} (hx:DA b xs) (hy:DA b ys):∀ k,k<=xs.length->k<=ys.length->Eg xs ys k=Lib.compareInt (val b (xs.take k)) (val b (ys.take k))
 | 0,_,_=>by simp [Eg,Lib.compareInt]
 | k+1,h1,h2=>by
  have ex:val b (xs.take (k+1))=val b (xs.take k)+gi xs k*b ^ k:=by rw [Ez Ad,DN,B9,Be Ad]
  have ey:val b (ys.take (k+1))=val b (ys.take k)+gi ys k*b ^ k:=by rw [Ez Ad,DN,B9,Be Ad]
  have bx:=Dk hb (hx.take k);have bY:=Dk hb (hy.take k);rw [B9,Be Ad] at bx bY;rw [ex,ey,Eg];by_cases he:gi xs k=gi ys k
  ·rw [AI he,HB b hb hx hy k Ad Ad,he,JL]
  ·rw [AF he]
   by_cases c1:gi xs k<gi ys k
   ·have:(gi xs k+1)*b ^ k<=gi ys k*b ^ k:=Az Ad (Ce (Ed Ad k))
    rw [Cb,AM] at this;rw [Cy c1,Cy Ad]
   ·have:(gi ys k+1)*b ^ k<=gi xs k*b ^ k:=Az Ad (Ce (Ed Ad k))
    rw [Cb,AM] at this;rw [Cz Ad,Cz Ad]
theorem Gz {xs ys:List Int} {a b:Int} (hx:Dm 10000 xs a) (hy:Dm 10000 ys b):Ia xs ys=Lib.compareInt a b:=by
 unfold Ia;by_cases hl:xs.length=ys.length
 ·rw [AI hl,HB 10000 Ae hx.dig hy.dig _ (Aa _) Ad,BM,hl,BM,hx.val,hy.val]
 ·rw [AF hl]
  by_cases c:xs.length<ys.length
  ·rw [Cy Ad,Cy (hx.len_lt Ae hy c)]
  ·rw [Cz Ad,Cz (hy.len_lt Ae hx Ad)]
theorem List.reverseRecOn' {α:Type} {motive:List α->Prop} (l:List α) (nil:motive []) (snoc:∀ pre x,motive pre->motive (pre++[x])):motive l:=by
 have:∀ k:List α,motive k.reverse:=by
  intro k;induction k with
  | nil=>exact nil
  | cons a k ih=>rw [List.reverse_cons];exact snoc _ _ ih
 have h:=this l.reverse;rwa [List.reverse_reverse] at h
def IG (a:Int) (ys:List Int):List (Fin ys.length)->Int:=fun pre=>pre.foldl (fun s x=>s*10000+a*gi ys x.1) 0
theorem IH (a:Int) (ys:List Int) (pre:List (Fin ys.length)) (x:Fin ys.length):IG a ys (pre++[x])=IG a ys pre*10000+a*gi ys x.1:=by
 unfold IG;rw [Cl];rfl
theorem Mm {a:Int} (ha:0<=a) {ys:List Int} (hy:DA 10000 ys) (pre:List (Fin ys.length)):0<=IG a ys pre/\IG a ys pre<=a*(10000 ^ pre.length-1):=by
 induction pre using Go.Proofs.YtdkonnnmkceagaaGreatDoor.List.reverseRecOn' with
 | nil=>simp [IG]
 | snoc pre x ih =>
  rw [IH,BP];have hd:=hy.gi Ae x.1;have h1:0<=a*gi ys x.1:=BF ha hd.1;have h2:a*gi ys x.1<=a*9999:=BV Ad ha;refine ⟨Ad,?_⟩;have e:a*(10000 ^ (pre.length+[x].length)-1)=a*(10000 ^ pre.length-1)*10000+a*9999:=by
   simp only [C4,Cf,Br,BW,C9,Int.sub_mul];rw [AA];omega
  rw [e];omega
theorem JM (a:Int) (ys:List Int):∀ k,k<=ys.length->IG a ys (CZ ys.length k)=a*val 10000 (ys.drop (ys.length-k))
 | 0,_=>by simp [CZ,IG,val]
 | k+1,h=>by
  rw [DU Ad,IH,JM a ys k Ad];have e:ys.drop (ys.length-(k+1))=gi ys (ys.length-1-k) :: ys.drop (ys.length-k):=by
   rw [show ys.length-(k+1)=ys.length-1-k by omega,Cp Ad,Hi Ad,show ys.length-1-k+1=ys.length-k by omega]
  rw [e];simp only [val,C8];rw [AA,AB (val _ _) 10000];omega
theorem RM (a:Int) (ys:List Int):IG a ys (CZ ys.length ys.length)=a*val 10000 ys:=by
 rw [JM a ys _ (Aa _),Nat.sub_self,Co]
theorem RN {xs ys zs:List Int} (hx:DA 10000 xs) (hy:DA 10000 ys) {pre:List (Fin ys.length)} (hz:Dm 10000 zs (IG (val 10000 xs) ys pre)):zs.length<=xs.length+pre.length:=by
 have h1:=Dk (show (1:Int)<10000 by decide) hx;have h2:=(Mm h1.1 hy pre).2;refine hz.length_le Ae ?_;have p1:=Ed (show (0:Int)<10000 by decide) pre.length;have h3:val 10000 xs*(10000 ^ pre.length-1)<=10000 ^ xs.length*(10000 ^ pre.length-1):=Az Ad Ad;have p2:=Ed (show (0:Int)<10000 by decide) xs.length;simp only [C9,Ca] at h2 h3;rw [Int.pow_add];omega
theorem RO {xs rs:List Int} {d:Int} (hx:DA 10000 xs) (hn:Dm 10000 rs (val 10000 xs*d)) (hl:xs.length<=99999) (h1:d<=9999):rs.length<=100000:=by
 have hv:=Dk (show (1:Int)<10000 by decide) hx;have p2:=Ed (show (0:Int)<10000 by decide) xs.length;have h2:val 10000 xs*d<=val 10000 xs*9999:=BV h1 hv.1;have:=hn.length_le (show (1:Int)<10000 by decide) (m:=xs.length+1) (by rw [BW];omega);omega
theorem J3 {W w1 w2:World} {H:Nat} {vl vo r:Value} {xs zs rs ts os ys:List Int} {pre:List (Fin ys.length)} {x:Fin ys.length} (W0:World) (h1:Boxed W H 97 vl) (h2:Sl W vl xs) (h3:Boxed W (H+1) 97 vo) (hvo:∀ n,vo≠.int .i64 n)
  (ho:CG [H+1] W0 W) (hb:Below W.heap.size W w1) (hb2:Below w1.heap.size w1 w2) (hr2:Sl w2 r ts) (h5:val 10000 zs=IG (val 10000 xs) ys pre) (hos:val 10000 os=val 10000 zs*10000) (hn:Dm 10000 rs (val 10000 xs*gi ys x.1))
  (hn2:Dm 10000 ts (val 10000 os+val 10000 rs)) :
  CG [H+1] W0 (w2.setCell ⟨H+1,0,none⟩ r)/\(Boxed (w2.setCell ⟨H+1,0,none⟩ r) H 97 vl/\Sl (w2.setCell ⟨H+1,0,none⟩ r) vl xs /\
   ∃ vo zs,Boxed (w2.setCell ⟨H+1,0,none⟩ r) (H+1) 97 vo/\Sl (w2.setCell ⟨H+1,0,none⟩ r) vo zs/\Dm 10000 zs (IG (val 10000 xs) ys (pre++[x]))):=by
 have g1:=CQ (CQ h1 hb) hb2
 have g3:=CQ (CQ h3 hb) hb2
 refine ⟨((ho.below hb).below hb2).setCell Af _,Da g1 Ad _,((h2.below hb).below hb2).setBox g3 hvo _,r,ts,g3.set r,hr2.setBox g3 hvo _,?_⟩
 rw [IH,<-h5,<-hos,<-hn.val]
 exact hn2
theorem Qe (v u : Value) (xs ys : List Int) (w : World) (hv : Sl w v xs) (hu : Sl w u ys) (hx : DA 10000 xs) (hy : DA 10000 ys) (hlx : xs.length <= 1000) (hly : ys.length <= 1000) :
   Calls Tryz.prog 131 #[v, u] w (CR w fun r w' => ∃ zs, Sl w' r zs /\ Dm 10000 zs (val 10000 xs * val 10000 ys)) := by
 have hvp := hu.ptr_lt
 refine (callsIn_wide (n := 5)).1 ?_
 refine callsIn_of_wp_marks Tryz.func131 rfl trivial ?_ rfl
 simp only [Tryz.ntmps131, Bg, C4, Cf, Nat.reduceAdd, Nat.reduceSub, Cg, Ch, Ci, Cj, BC, BK]
 obtain ⟨a1, c1, rfl⟩ := hv.shape
 obtain ⟨a2, c2, rfl⟩ := hu.shape
 gi_wp2_with (refine ⟨trivial, ?_⟩; gi_at_call 84; refine (Jr Fence.wide 4 trivial rfl _ _ ⟨_, _, _, rfl⟩).mono ?_; rintro e w' ⟨rfl, rfl⟩)
 have hw0 : Below w.heap.size w (((w.alloc (.cells #[.slice a1 xs.length c1] 97)).alloc (.cells #[.slice none 0 0] 97)).alloc (.cells #[.slice a2 ys.length c2] 97)) := (((Below.refl _ _).alloc (Aa _) _).alloc Af _).alloc (by simp; omega) _
 have b1 : Boxed (((w.alloc (.cells #[.slice a1 xs.length c1] 97)).alloc (.cells #[.slice none 0 0] 97)).alloc (.cells #[.slice a2 ys.length c2] 97)) w.heap.size 97 (.slice a1 xs.length c1) := ((Boxed.new w _ _).alloc _).alloc _
 have b2 : Boxed (((w.alloc (.cells #[.slice a1 xs.length c1] 97)).alloc (.cells #[.slice none 0 0] 97)).alloc (.cells #[.slice a2 ys.length c2] 97)) (w.heap.size + 1) 97 (.slice none 0 0) := by
   have := (Boxed.new (w.alloc (.cells #[.slice a1 xs.length c1] 97)) 97 (.slice none 0 0)).alloc (.cells #[.slice a2 ys.length c2] 97)
   rwa [AP] at this
 have b3 : Boxed (((w.alloc (.cells #[.slice a1 xs.length c1] 97)).alloc (.cells #[.slice none 0 0] 97)).alloc (.cells #[.slice a2 ys.length c2] 97)) (w.heap.size + 1 + 1) 97 (.slice a2 ys.length c2) := by
   have := Boxed.new ((w.alloc (.cells #[.slice a1 xs.length c1] 97)).alloc (.cells #[.slice none 0 0] 97)) 97 (.slice a2 ys.length c2)
   rwa [AP, AP] at this
 have hv0 := hv.below hw0
 have hu0 := hu.below hw0
 refine Lu (w.heap.size + 1 + 1) [w.heap.size + 1] (.slice a2 ys.length c2) ys rfl b3.cell hu0 Af (fun b o e => by have := hvp b o e; simp; omega) rfl
   (fun pre W => Boxed W w.heap.size 97 (.slice a1 xs.length c1) /\ Sl W (.slice a1 xs.length c1) xs /\ ∃ vo zs, Boxed W (w.heap.size + 1) 97 vo /\ Sl W vo zs /\ Dm 10000 zs (IG (val 10000 xs) ys pre))
   (fun _ _ => False)
   (fun pre W W' ⟨h1, h2, vo, zs, h3, h4, h5⟩ k => ⟨k.boxed h1, k.sl h2, vo, zs, k.boxed h3, k.sl h4, h5⟩) (fun pre W W' h k => h)
   (fun pre W ⟨h1, h2, vo, zs, h3, h4, h5⟩ k hk => by simp at hk; subst hk; exact ⟨_, h3, rfl⟩) ⟨b1, hv0, _, [], b2, Sl.nil _, DA.nil _, (fun k h => by cases h), rfl⟩
   (fun x => { tmps := #[.slice a1 xs.length c1, .slice a2 ys.length c2, .pointer (some ⟨w.heap.size, 0, none⟩), undef, .slice none 0 0, .pointer (some ⟨w.heap.size + 1, 0, none⟩), undef, .int .i64 (gi ys x.1), .slice a2 ys.length c2,
     .func (.func 110) #[] #[.pointer (some ⟨w.heap.size + 1 + 1, 0, none⟩)], .int .i64 (x.1 : Int), .int .i64 (gi ys x.1), undef, undef, undef, undef, undef, undef, undef, undef, undef, undef, undef, undef], defers := [] }) ?assign ?body ?done ?stop
 case assign =>
   intro l x W K hK
   gi_wp2
   exact hK
 case body =>
   rintro l pre x W ho ⟨h1, h2, vo, zs, h3, h4, h5⟩ hlen
   have hzl := RN hx hy h5
   have hd := hy.gi Ae x.1
   have hc1 := h1.cell
   have hc3 := h3.cell
   have hf3 := h3.frozen
   obtain ⟨a3, c3, rfl⟩ := h4.shape
   cases zs with
   | nil =>
     have hmx : Tryz.prog.follows .mixedOrders = true := by kernel_rfl
     gi_wp2_with fail
     have k1 := h1; have k2 := h2; have k3 := h3; have k4 := h4
     have kO : CG [w.heap.size + 1] W W := CG.refl _ _
     have kv : val 10000 ([] : List Int) = val 10000 ([] : List Int) * 10000 := rfl
     have kd : DA 10000 ([] : List Int) := DA.nil _
     have kl : ([] : List Int).length <= 100000 := by simp
     have hvW := k2.below (Below.refl _ _).drew
     have h4W := k4.below (Below.refl _ _).drew
     have hbl := k3.lt
     gi_region_with (first
       | (refine ⟨trivial, ?_⟩
          gi_at_call 86
          refine (CallsIn.inRound l (callsIn_wide.2 (JJ _ _ xs _ hvW hx Ad hd.1 Ad))).mono ?_
          rintro e w1 ⟨⟨r, rfl, rs, hr, hn, _⟩, hb⟩
          have hc3 := (hb.cell (p := ⟨w.heap.size + 1, 0, none⟩) hbl).trans hc3
          have hc1 := (hb.cell (p := ⟨w.heap.size, 0, none⟩) (Nat.lt_of_succ_lt hbl)).trans hc1
          have hf3 := (hb.frozen (p := ⟨w.heap.size + 1, 0, none⟩) hbl).trans hf3
          have hvo := h4W.below hb
          have hrl : rs.length <= 100000 := RO hx hn Ad Ad
          have hbl2 := A9 hbl hb.size)
       | (refine ⟨trivial, ?_⟩
          gi_at_call 55
          refine (CallsIn.inRound l (callsIn_wide.2 (I7 _ _ _ rs _ hvo hr kd hn.dig kl hrl))).mono ?_
          rintro e w2 ⟨⟨r2, rfl, ts, hr2, hn2, _⟩, hb2⟩
          obtain ⟨a5, c5, rfl⟩ := hr2.shape
          have hc4 := (hb2.cell (p := ⟨w.heap.size + 1, 0, none⟩) hbl2).trans hc3
          have hf4 := (hb2.frozen (p := ⟨w.heap.size + 1, 0, none⟩) hbl2).trans hf3))
     all_goals gi_wp2
     all_goals exact J3 _ (CQ k1 (Below.refl _ _).drew) (k2.below (Below.refl _ _).drew) (CQ k3 (Below.refl _ _).drew) (fun n e => by cases e) (kO.below (Below.refl _ _).drew) hb hb2 hr2 h5.val kv hn hn2
   | cons z zs =>
     have hmx : Tryz.prog.follows .mixedOrders = true := by kernel_rfl
     have hpos : (0 : Int) < ((z :: zs).length : Int) := by simp
     have hbl : w.heap.size + 1 < W.heap.size := h3.lt
     gi_wp2_with (gi_at_builtin; refine J2 97 Tryz.underlying97 rfl _ _ rfl rfl rfl (I9 W 0) (h4.below ((Below.refl _ W).alloc (Aa _) _)) (by simp at hzl |-; omega) Ae Af ?_; intro g cap w0 hown hgr hbw; have hbw' := ((Below.refl _ W).alloc (Aa _) _).trans hbw; have hf0 := (hbw'.frozen (p := ⟨w.heap.size + 1, 0, none⟩) hbl).trans hf3; have hc0 := (hbw'.cell (p := ⟨w.heap.size + 1, 0, none⟩) hbl).trans hc3)
     have q3 := CQ h3 hbw'
     have k1 := Da (CQ h1 hbw') (show w.heap.size ≠ w.heap.size + 1 by omega) (.slice (some ⟨g, 0, none⟩) (1 + (z :: zs).length) cap)
     have k2 := (h2.below hbw').setBox q3 (fun n e => by cases e) (.slice (some ⟨g, 0, none⟩) (1 + (z :: zs).length) cap)
     have k3 := q3.set (.slice (some ⟨g, 0, none⟩) (1 + (z :: zs).length) cap)
     have k4 := (Sl.of_own hown).setBox q3 (fun n e => by cases e) (.slice (some ⟨g, 0, none⟩) (1 + (z :: zs).length) cap)
     have kO : CG [w.heap.size + 1] W (w0.setCell ⟨w.heap.size + 1, 0, none⟩ (.slice (some ⟨g, 0, none⟩) (1 + (z :: zs).length) cap)) := ((CG.refl _ W).below hbw').setCell Af _
     have kv : val 10000 (0 :: z :: zs) = val 10000 (z :: zs) * 10000 := by rw [val]; omega
     have kd : DA 10000 (0 :: z :: zs) := fun y hy => by
       rcases As.1 hy with rfl | hy
       · omega
       · exact h5.dig y hy
     have kl : (0 :: z :: zs).length <= 100000 := by simp at hzl |-; omega
     generalize hWb : w0.setCell ⟨w.heap.size + 1, 0, none⟩ (.slice (some ⟨g, 0, none⟩) (1 + (z :: zs).length) cap) = Wb at *
     clear hWb hc1 hc3 hf3 hc0 hf0 hown hgr hbw hbw' q3
     have k4' : Sl Wb (.slice (some ⟨g, 0, none⟩) (1 + (z :: zs).length) cap) (0 :: z :: zs) := k4
     clear k4
     have k4 := k4'
     have hc1 := k1.cell
     have hc3 := k3.cell
     have hf3 := k3.frozen
     have hvW := k2.below (Below.refl _ _).drew
     have h4W := k4.below (Below.refl _ _).drew
     have hbl := k3.lt
     gi_region_with (first
       | (refine ⟨trivial, ?_⟩
          gi_at_call 86
          refine (CallsIn.inRound l (callsIn_wide.2 (JJ _ _ xs _ hvW hx Ad hd.1 Ad))).mono ?_
          rintro e w1 ⟨⟨r, rfl, rs, hr, hn, _⟩, hb⟩
          have hc3 := (hb.cell (p := ⟨w.heap.size + 1, 0, none⟩) hbl).trans hc3
          have hc1 := (hb.cell (p := ⟨w.heap.size, 0, none⟩) (Nat.lt_of_succ_lt hbl)).trans hc1
          have hf3 := (hb.frozen (p := ⟨w.heap.size + 1, 0, none⟩) hbl).trans hf3
          have hvo := h4W.below hb
          have hrl : rs.length <= 100000 := RO hx hn Ad Ad
          have hbl2 := A9 hbl hb.size)
       | (refine ⟨trivial, ?_⟩
          gi_at_call 55
          refine (CallsIn.inRound l (callsIn_wide.2 (I7 _ _ _ rs _ hvo hr kd hn.dig kl hrl))).mono ?_
          rintro e w2 ⟨⟨r2, rfl, ts, hr2, hn2, _⟩, hb2⟩
          obtain ⟨a5, c5, rfl⟩ := hr2.shape
          have hc4 := (hb2.cell (p := ⟨w.heap.size + 1, 0, none⟩) hbl2).trans hc3
          have hf4 := (hb2.frozen (p := ⟨w.heap.size + 1, 0, none⟩) hbl2).trans hf3))
     all_goals gi_wp2
     all_goals exact J3 _ (CQ k1 (Below.refl _ _).drew) (k2.below (Below.refl _ _).drew) (CQ k3 (Below.refl _ _).drew) (fun n e => by cases e) (kO.below (Below.refl _ _).drew) hb hb2 hr2 h5.val kv hn hn2
 case done =>
   rintro D W hD ho ⟨h1, h2, vo, zs, h3, h4, h5⟩ hK
   have hc3 := h3.cell
   gi_wp2
   refine DW hK (v := vo) (results_tmp (t := 4) rfl _ _ _) ⟨⟨_, rfl, zs, (CS.putObj (.deferred none) hK rfl).sl h4, by rw [<- RM]; exact h5⟩, hw0.trans ((ho.putObj hD _).toBelow (by simp; omega) Af)⟩
 case stop =>
   rintro D k W hk hD ho h hK
   exact h.elim
end
section
open Go.RowKit
def JN (p:Nat->Bool) (lo hi n:Nat):Prop:=(∀ j,lo=j+1->p j=false)/\(hi<n->p hi=true)
theorem O5 (g:Nat) (cap:Array Value) (n:Nat) (p:Nat->Bool) (w:World) (hn:n<=1000000)
  (hE:∀ (args:Array Value) (w:World),(callFunc g args).run Tryz.prog w=.ok (.enter g args) w)
  (hF:∀ (W:World) (i:Nat),Below w.heap.size w W->i<n->Calls Tryz.prog g (#[.int .i64 i]++cap) W fun e W'=>e=.returned (.bool (p i))/\Below W.heap.size W W') :
  Calls Tryz.prog 88 #[.int .i64 n,.func (.func g) #[] cap] w (CR w fun v _=>∃ i:Nat,v=.int .i64 i/\i<=n/\JN p i i n):=by
 have HF:=A8 hF
 clear hF
 go_enter Tryz.func88,Tryz.ntmps88
 go_wp2
 go_outline
 go_loopw [5,6] (fun s5 s6 wr=>∃ (lo hi:Nat),s5=.int .i64 lo/\s6=.int .i64 hi/\lo<=hi/\hi<=n/\Hid (JN p lo hi n)/\Below w.heap.size w wr)
  (fun s5 s6 _=>(intOf s6-intOf s5).toNat)
 case atStart=>exact ⟨0,n,rfl,rfl,Ad,Ad,(⟨fun j h=>Ad,fun h=>Ad⟩:JN p 0 n n),Below.refl _ _⟩
 case round =>
  obtain ⟨lo,hi,rfl,rfl,hlh,hin,hP,hnx⟩:=hrel;by_cases hlt:lo<hi
  ·have hc:=HF.out wr ((lo+hi) / 2) hnx Ad
   rw [show (((lo+hi) / 2:Nat):Int)=((lo:Int)+(hi:Int)) / 2 by omega] at hc;cases hp:p ((lo+hi) / 2) <;> rw [hp] at hc
   ·have Hp:=A8 hp
    clear hp;go_wp2_with fail;refine hc.mono ?_;rintro e W' ⟨rfl,hb⟩;go_wp2_with fail;go_roundw;case rel=>exact ⟨(lo+hi) / 2+1,hi,by rw [show ((lo:Int)+(hi:Int)) / 2+1=(((lo+hi) / 2+1:Nat):Int) by omega],rfl,Ad,hin,(⟨fun j h=>by rw [show j=(lo+hi) / 2 by omega];exact Hp.out,hP.out.2⟩:JN p _ _ n),hnx.trans (hb.mono hnx.size)⟩
    case measure=>simp [intOf];omega
   ·have Hp:=A8 hp
    clear hp;go_wp2_with fail;refine hc.mono ?_;rintro e W' ⟨rfl,hb⟩;go_wp2_with fail;go_roundw;case rel=>exact ⟨lo,(lo+hi) / 2,rfl,by rw [show ((lo:Int)+(hi:Int)) / 2=(((lo+hi) / 2:Nat):Int) by omega],Ad,Ad,(⟨hP.out.1,fun _=>Hp.out⟩:JN p _ _ n),hnx.trans (hb.mono hnx.size)⟩
    case measure=>simp [intOf];omega
  ·obtain rfl:lo=hi:=by omega
   go_wp2_with fail;go_ret;exact ⟨⟨_,rfl,lo,rfl,hin,hP.out⟩,hnx⟩
end
section
open Go.RowKit Go.Shelf
attribute [local go_sem] Oper.semAt_some
def Gg (m r:Int) (d:Nat):Bool:=decide (r<m*(d+1))
theorem Mn {m r:Int} (d:Nat) {xs ys:List Int} (hx:Dm 10000 xs (m*(d+1))) (hy:Dm 10000 ys r):decide (0<Ia xs ys)=Gg m r d:=by
 rw [Gz hx hy];unfold Gg;rcases Cr (m*(d+1)) r with h | h | h
 ·rw [Cy h,Al Ae,Al Ad]
 ·rw [h,CU,Al Ae,Al Ad]
 ·rw [Cz h,Ay Ae,Ay Ad]
theorem Qf (d B8 B5 : Nat) (mv rv : Value) (ms rs : List Int) (m r : Int) (w : World) (h8 : w.cell? ⟨B8, 0, none⟩ = some (.func (.func 86) #[mv] #[])) (h5 : w.cell? ⟨B5, 0, none⟩ = some rv)
   (hm : Sl w mv ms) (hr : Sl w rv rs) (nm : Dm 10000 ms m) (nr : Dm 10000 rs r) (hlm : ms.length <= 1000) (hd : d < 9999) :
   Calls Tryz.prog 87 #[.int .i64 d, .pointer (some ⟨B8, 0, none⟩), .pointer (some ⟨B5, 0, none⟩)] w fun e w' => e = .returned (.bool (Gg m r d)) /\ Below w.heap.size w w' := by
 have hb5 : B5 < w.heap.size := Ck w _ h5
 have e1 : IntKind.i64.wrap ((d : Int) + 1) = (d : Int) + 1 := Bz _ Ad
 have hmW := hm.below (Below.refl _ _).drew
 have hrW := hr.below (Below.refl _ _).drew
 go_enter Tryz.func87, Tryz.ntmps87
 go_wp2_with fail
 go_region_with (first
   | (go_at_call 86
      refine (JJ _ _ ms _ hmW nm.dig Ad Ad Ad).mono ?_
      rintro e w1 ⟨⟨q, rfl, qs, hq, nq, _⟩, hb⟩
      have h5 := (hb.cell (p := ⟨B5, 0, none⟩) hb5).trans h5
      have hr1 := hrW.below hb)
   | (go_at_call 59
      refine (F0 _ _ _ _ _ hq hr1).mono ?_
      rintro e w2 ⟨rfl, hb2⟩))
 all_goals go_wp2
 all_goals go_ret
 all_goals exact ⟨D6 (by rw [<- Mn d (by rw [<- nm.val]; exact nq) nr]), ((Below.refl _ _).drew.trans hb).trans (hb2.mono hb.size)⟩
def FN (xs:List Int) (m:Int) (pre:List (Fin xs.length)):Int:=pre.foldl (fun r x=>(r*10000+gi xs x.1) % m) 0
def Em (xs:List Int) (m:Int) (pre:List (Fin xs.length)):List Int×Int:=pre.foldl (fun s x=>(s.1.set x.1 ((s.2*10000+gi xs x.1) / m),(s.2*10000+gi xs x.1) % m)) (List.replicate xs.length 0,0)
theorem GW (xs:List Int) (m:Int) (pre:List (Fin xs.length)) (x:Fin xs.length):FN xs m (pre++[x])=(FN xs m pre*10000+gi xs x.1) % m:=by
 unfold FN;rw [Cl];rfl
theorem RP (xs:List Int) (m:Int) (pre:List (Fin xs.length)):(Em xs m pre).2=FN xs m pre:=by
 induction pre using Go.Proofs.YtdkonnnmkceagaaGreatDoor.List.reverseRecOn' with
 | nil=>rfl
 | snoc pre x ih=>rw [GW,<-ih];unfold Em;rw [Cl];rfl
theorem FX (xs:List Int) (m:Int) (pre:List (Fin xs.length)) (x:Fin xs.length):(Em xs m (pre++[x])).1=(Em xs m pre).1.set x.1 ((FN xs m pre*10000+gi xs x.1) / m):=by
 rw [<-RP];unfold Em;rw [Cl];rfl
theorem Mo (xs:List Int) (m:Int) (pre:List (Fin xs.length)):(Em xs m pre).1.length=xs.length:=by
 induction pre using Go.Proofs.YtdkonnnmkceagaaGreatDoor.List.reverseRecOn' with
 | nil=>simp [Em]
 | snoc pre x ih=>rw [FX,BJ,ih]
theorem FD {xs:List Int} {m:Int} (hm:0<m) (pre:List (Fin xs.length)):0<=FN xs m pre/\FN xs m pre<m:=by
 induction pre using Go.Proofs.YtdkonnnmkceagaaGreatDoor.List.reverseRecOn' with
 | nil=>exact ⟨Cc _,hm⟩
 | snoc pre x _=>rw [GW];exact ⟨BY _ Ad,BU _ hm⟩
theorem Mp {xs:List Int} (hx:DA 10000 xs) {m:Int} (hm:0<m) (pre:List (Fin xs.length)) (x:Fin xs.length):0<=(FN xs m pre*10000+gi xs x.1) / m/\(FN xs m pre*10000+gi xs x.1) / m<10000:=by
 have h1:=FD hm pre;have h2:=hx.gi Ae x.1;exact ⟨BT Ad Ad,Int.ediv_lt_of_lt_mul hm (by rw [AB 10000 m];omega)⟩
theorem RR {xs:List Int} (hx:DA 10000 xs) {m:Int} (hm:0<m) (pre:List (Fin xs.length)):DA 10000 (Em xs m pre).1:=by
 induction pre using Go.Proofs.YtdkonnnmkceagaaGreatDoor.List.reverseRecOn' with
 | nil=>intro y hy;simp [Em] at hy;omega
 | snoc pre x ih =>
  rw [FX];intro y hy;rcases List.mem_or_eq_of_mem_set hy with h | h
  ·exact ih y h
  ·subst h;exact Mp hx hm pre x
theorem Pj (b:Int):∀ (l:List Int) (i:Nat) (y:Int),i<l.length->val b (l.set i y)=val b l+(y-gi l i)*b ^ i
 | [],i,_,h=>by simp at h
 | a :: l,0,y,_=>by simp only [A6,val,gi,Cm,Option.getD_some,Int.pow_zero,Ca];omega
 | a :: l,i+1,y,h=>by
  have e:gi (a :: l) (i+1)=gi l i:=by simp [gi]
  rw [A5,val,val,Pj b l i y (by simpa using h),e,C8,BW];rw [AB (b ^ i) b,<-AA,<-AA,AB b (y-_)];omega
theorem RS {l:List Int} {i j:Nat} (y:Int) (h:i≠j):gi (l.set i y) j=gi l j:=by simp [gi,Bj h]
theorem KQ (xs:List Int) (m:Int):∀ k,k<=xs.length->∀ j,j+k<xs.length->gi (Em xs m (CZ xs.length k)).1 j=0
 | 0,_,j,_=>by simp [CZ,Em,gi];rw [List.getElem?_replicate];split <;> rfl
 | k+1,h,j,hj=>by
  rw [DU Ad,FX,RS _ (by simp;omega)];exact KQ xs m k Ad j Ad
theorem Mq (xs:List Int) (m:Int):∀ k,k<=xs.length ->
  val 10000 (Em xs m (CZ xs.length k)).1*m+FN xs m (CZ xs.length k)*10000 ^ (xs.length-k)+val 10000 (xs.take (xs.length-k))=val 10000 xs
 | 0,_=>by
  have e:val 10000 (List.replicate xs.length (0:Int))=0:=by
   generalize xs.length=n;induction n with
   | zero=>rfl
   | succ n ih=>rw [C5,val,ih];rfl
  simp [CZ,Em,FN,e]
 | k+1,h=>by
  have ih:=Mq xs m k Ad;rw [DU Ad,GW,FX,Pj _ _ _ _ (by rw [Mo];simp;omega),KQ xs m k Ad _ (by simp;omega)];rw [<-ih];have e:xs.length-k=(xs.length-1-k)+1:=by omega
  have e2:xs.length-(k+1)=xs.length-1-k:=by omega
  rw [e,e2,Ez Ad,DN,B9,Be Ad,BW];simp only [Int.sub_zero];generalize hP:(10000:Int) ^ (xs.length-1-k)=P;generalize hr:FN xs m (CZ xs.length k)=r;generalize hg:gi xs (xs.length-1-k)=g;generalize val 10000 (Em xs m (CZ xs.length k)).1=q;generalize val 10000 (xs.take (xs.length-1-k))=t;have hd:(r*10000+g) / m*m+(r*10000+g) % m=r*10000+g:=by rw [AB];exact Int.mul_ediv_add_emod _ _
  have h3:(r*10000+g) / m*P*m+(r*10000+g) % m*P=(r*10000+g)*P:=by
   rw [<-hd,Cb,hd,Int.mul_right_comm]
  have h4:(r*10000+g)*P=r*(P*10000)+g*P:=by
   rw [Cb,AA,AB 10000 P]
  rw [Cb];omega
theorem LA {xs:List Int} {m:Int} (hm:0<m):val 10000 (Em xs m (CZ xs.length xs.length)).1=val 10000 xs / m/\FN xs m (CZ xs.length xs.length)=val 10000 xs % m:=by
 have h:=Mq xs m _ (Aa _);rw [Nat.sub_self,Int.pow_zero,Ca,List.take_zero,val,Int.add_zero] at h;have hb:=FD hm (CZ xs.length xs.length);generalize val 10000 (Em xs m (CZ xs.length xs.length)).1=q at *
 generalize FN xs m (CZ xs.length xs.length)=r at *
 rw [<-h];constructor
 ·rw [Int.add_comm,Int.add_mul_ediv_right _ _ Ad,Int.ediv_eq_zero_of_lt hb.1 hb.2,Int.zero_add]
 ·rw [Int.add_comm,Int.add_mul_emod_self_right,Int.emod_eq_of_lt hb.1 hb.2]
theorem Mr {m r:Int} (hm:0<m) (h0:0<=r) (h1:r<m*10000) {i:Nat} (hi:i<=9999) (hp:JN (Gg m r) i i 9999):(i:Int)=r / m:=by
 have a1:m*i<=r:=by
  cases i with
  | zero=>simp;exact h0
  | succ j =>
   have:=hp.1 j rfl;unfold Gg at this;have:=Cu this;rw [show ((j+1:Nat):Int)=(j:Int)+1 by omega];omega
 have a2:r<m*(i+1):=by
  by_cases h:i<9999
  ·exact BS (hp.2 h)
  ·obtain rfl:i=9999:=by omega
   exact h1
 have b1:(i:Int)<=r / m:=(Int.le_ediv_iff_mul_le hm).2 (by rw [AB];exact a1);have b2:r / m<i+1:=Int.ediv_lt_of_lt_mul hm (by rw [AB];exact a2);omega
theorem quot_le {m r d:Int} {ys:List Int} (hm:0<m) (hd:d=r / m) (hy:Dm 10000 ys m):val 10000 ys*d<=r/\r-val 10000 ys*d=r % m:=by
 rw [hy.val,hd];have h1:=Int.mul_ediv_add_emod r m;have h2:=BY r (show m≠0 by omega);omega
structure Pm (H B8:Nat) (W:World) (mv qv rv:Value) (ys rs qs:List Int) (n:Nat):Prop where
 b1:Boxed W H 97 mv
 b2:Boxed W (H+1) 97 qv
 b3:Boxed W (H+1+1) 97 rv
 b8:Boxed W B8 141 (.func (.func 86) #[mv] #[])
 q:W.ownsRow (H+1+1+1) 3 1 qv n (qs.map (Value.int .i64))
 m:Sl W mv ys
 r:Sl W rv rs
def OvS (H B8:Nat) (mv qv:Value) (x:Nat) (d:Int) (W:World):Prop :=
 W.cell? ⟨H+1,0,none⟩=some qv/\W.cell? ⟨B8,0,none⟩=some (.func (.func 86) #[mv] #[])/\W.cell? ⟨H+1+1+1,x,none⟩=some (.int .i64 d)
theorem Pm.below {H B8:Nat} {W W':World} {mv qv rv:Value} {ys rs qs:List Int} {n:Nat} (h:Pm H B8 W mv qv rv ys rs qs n) (hb:Below W.heap.size W W'):Pm H B8 W' mv qv rv ys rs qs n :=
 ⟨CQ h.b1 hb,CQ h.b2 hb,CQ h.b3 hb,CQ h.b8 hb,DE h.q hb,h.m.below hb,h.r.below hb⟩
theorem Pm.cellq {H B8:Nat} {W:World} {mv rv:Value} {ys rs qs:List Int} {n cap:Nat} (h:Pm H B8 W mv (.slice (some ⟨H+1+1+1,0,none⟩) n cap) rv ys rs qs n) (hl:qs.length=n) {j:Nat} (hj:j<n):W.cell? ⟨H+1+1+1,j,none⟩=some (.int .i64 (gi qs j)):=by
 have:=h.q.cellAt j Ad;rw [this,AG,Au Ad,Hi Ad];rfl
theorem Pm.search {H B8:Nat} {W:World} {mv qv rv:Value} {ys rs qs:List Int} {n:Nat} {m r:Int} (h:Pm H B8 W mv qv rv ys rs qs n) (nm:Dm 10000 ys m) (nr:Dm 10000 rs r) (hly:ys.length<=1000) :
  Calls Tryz.prog 88 #[.int .i64 9999,.func (.func 87) #[] #[.pointer (some ⟨B8,0,none⟩),.pointer (some ⟨H+1+1,0,none⟩)]] W
   (CR W fun v _=>∃ i:Nat,v=.int .i64 i/\i<=9999/\JN (Gg m r) i i 9999) :=
 O5 87 _ 9999 (Gg m r) W Ae (Go.Proofs.enters_of Tryz.func87 Ab rfl)
  (fun W' i hb hi=>Qf i B8 (H+1+1) mv rv ys rs m r W' (h.below hb).b8.cell (h.below hb).b3.cell (h.below hb).m (h.below hb).r nm nr hly hi)
theorem Pm.store {H B8:Nat} {W:World} {mv rv:Value} {ys rs qs:List Int} {n cap:Nat} (h:Pm H B8 W mv (.slice (some ⟨H+1+1+1,0,none⟩) n cap) rv ys rs qs n) (j:Nat) (d:Int) (h8:H+1+1+1<B8)
  (hm:∀ b o,mv.ptr? = some (b,o)->b<H) (hr:∀ b o,rv.ptr? = some (b,o)->b≠H+1+1+1) :
  Pm H B8 (W.setCell ⟨H+1+1+1,j,none⟩ (.int .i64 d)) mv (.slice (some ⟨H+1+1+1,0,none⟩) n cap) rv ys rs (qs.set j d) n:=by
 obtain ⟨g1,g2⟩:=h.q.stored j (.int .i64 d)
 have ho:CG [H+1+1+1] W (W.setCell ⟨H+1+1+1,j,none⟩ (.int .i64 d)):=(CG.refl _ _).setCell Af _
 exact ⟨h.b1.kept g2 (by simp;omega),h.b2.kept g2 Af,h.b3.kept g2 Af,h.b8.kept g2 (by simp;omega),by rw [List.map_set];exact g1,
  h.m.only ho (fun b o e=>by have:=hm b o e;simp;omega),h.r.only ho (fun b o e=>by have:=hr b o e;simpa using this)⟩
end
section
open Go.RowKit
theorem KB {l n:Nat} {P:Program} {row:String} {args:Array Value} {w:World} {R:Value->World->Prop} (h:Rows P row args w R):RowsIn (Fence.wide.inRound l) n P row args w R :=
 fun c cs _=>let ⟨v,w',r,s⟩:=h c cs;⟨v,w',r,stepsIn_wide.2 s⟩
theorem KC {l n:Nat} {P:Program} {o:Oper} {K:Act->World->Prop} {Q:Exit->Act->World->Prop} {a:Act} {w:World} (hd:∀ c,o.op≠.defer c) (h:o.wp P a w K Q):o.wpIn (Fence.wide.inRound l) n P a w K Q:=by
 unfold Oper.wp at h;unfold Oper.wpIn;refine ⟨fun _ _=>trivial,?_⟩;have e:o.semAt (Fence.wide.inRound l).round a.eval=execOp a.eval o:=Oper.semAt_some l _ _ hd;rw [e];generalize (execOp a.eval o).run P w=r at *
 cases r with
 | ok x w' =>
  cases x with
  | value v=>exact h
  | skip=>exact h
  | defer d=>exact h
  | enter f args=>exact ⟨fun h0=>by simp [Fence.wide] at h0,CallsIn.inRound l (callsIn_wide.2 h)⟩
  | row row args=>exact ⟨fun h0=>by simp [Fence.wide] at h0,KB h⟩
  | _=>exact h.elim
 | halt x w'=>cases x <;> simp only [Oper.upon,Oper.uponIn] at h |- <;> exact h
def LB (o:Oper):Bool:=match o.op with | .defer _=>false | _=>true
theorem LC {ops:Array Oper} (h:ops.all LB=true):∀ (i:Nat) (o:Oper),ops[i]? = some o->∀ c,o.op≠.defer c:=by
 intro i o ho c hc;have:=Array.all_eq_true.1 h i (Bu.1 ho).1;rw [(Bu.1 ho).2] at this;unfold LB at this;rw [hc] at this;cases this
theorem LD {l n:Nat} {P:Program} {md:Region.Mode} {ops:Array Oper} {Q:Exit->Act->World->Prop} (hd:∀ (i:Nat) (o:Oper),ops[i]? = some o->∀ c,o.op≠.defer c) (hQ:¬ LetsOut Q) :
  ∀ (fuel:Nat) (listed:Array Bool) (a:Act) (w:World),wpAny P md ops Q fuel listed a w->wpAnyIn (Fence.wide.inRound l) n P md ops Q fuel listed a w:=by
 intro fuel
 induction fuel with
 | zero=>exact fun _ _ _ h=>h
 | succ fuel ih =>
  intro listed a w h;refine ⟨h.1,fun i hi=>?_⟩;have h2:=h.2 i hi;unfold wpOp at h2;unfold wpOpIn;cases ho:ops[i]? with
  | none=>simp only [ho] at h2 |-;exact ih _ _ _ h2
  | some o =>
   simp only [ho] at h2 |-;split
   ·rename_i hw
    simp only [hw,if_true] at h2;rcases h2 with h2 | ⟨_,h2⟩
    ·exact Oper.wpIn_mono (fun a w=>ih _ a w) (KC (hd i o ho) h2)
    ·exact absurd h2 hQ
   ·rename_i hw
    simp only [hw] at h2;exact ⟨fun _ _=>trivial,ih _ _ _ h2⟩
theorem Ib {l n:Nat} {P:Program} {id:Nat} {ops:Array Oper} {S:World->Prop} {R:Act->World->Prop} {a:Act} {w:World} (hm:P.follows .mixedOrders=true) (hd:ops.all LB=true)
  (h:wpAnyH P .any ops (fun e a w=>e=.normal/\R a w) S ops.size (Array.replicate ops.size false) a w.drew):(Code.region id ops true).wpIn (Fence.wide.inRound l) n P (fun e a w=>e=.normal/\R a w) a w :=
 wpIn_region_any hm (LD (LC hd) (fun h=>by obtain ⟨_,_,h0,_⟩:=h;cases h0) _ _ _ _ (wpAny_of_held _ _ _ _ h))
section
variable {P:Program} {ops:Array Oper} {S:World->Prop} {o:Oper} {a:Act}
theorem II {ty:TypeId} {p:Operand} {ad:Addr} {v:Value} (hg:o.guard=none) (ho:o.op=.load ty p) (hp:a.eval p=.pointer (some ad)) (hagg:∀ w,(isAgg ty).run P w=.ok false w) (hc:∀ w,S w->w.cell? ad=some v) :
  YieldsIf P ops S o v a:=by
 refine .inl ⟨by simp [Region.wanted,hg],fun w hs=>?_⟩
 have h:=hc w hs
 simp only [execOp,ho,hp]
 simp [go_sem,hagg,h]
theorem Qg {x:Operand} {v:Value} (hg:o.guard=none) (ho:o.op=.move x) (hv:a.eval x=v):YieldsIf P ops S o v a :=
 .inl ⟨by simp [Region.wanted,hg],fun w _=>by simp [execOp,ho,hv]⟩
theorem O6 {ty e:TypeId} {x i:Operand} {b n cap k:Nat} {v:Value} (hg:o.guard=none) (ho:o.op=.indexAddr ty x i) (hx:a.eval x=.slice (some ⟨b,0,none⟩) n cap) (hi:a.eval i=.int .i64 (k:Nat)) (ht:P.underlying ty=some (.slice e)) (hk:k<n) (hz:∀ w,(Go.sizeOf e).run P w=.ok 1 w) (hv:v=.pointer (some ⟨b,k,none⟩)) :
  YieldsIf P ops S o v a:=by
 refine .inl ⟨by simp [Region.wanted,hg],fun w _=>?_⟩
 subst hv
 simp only [execOp,ho,hx,hi]
 simp [Instr.indexAt,run_underlying ht,asIntOf,hz,hk,E5]
variable {Q:Exit->Act->World->Prop} {md:Region.Mode}
theorem FY {i:Nat} {dst:Option Tmp} {op:Op} {ty:TypeId} {ps:String} {af:Array Edge} {v:Value} {fuel:Nat} {l l':Array Bool} {t t':Array Value} {w:World} (hi:ops[i]? = some { dst:=dst,op:=op,type:=ty,pos:=ps,after:=af,guard:=none })
  (hs:Region.noSelect ops=true) (hf:Region.free md ops l i=true) (hr:(Region.ready md ops l).contains i=true) (hQ:∀ c a w,Q (.panic c) (a.put dst v) w->Q (.panic c) a w)
  (hy:YieldsIf P ops S { dst:=dst,op:=op,type:=ty,pos:=ps,after:=af,guard:=none } v { tmps:=t,defers:=[] }) (hS:S w) (hl:l.setIfInBounds i true=l') (ht:Act.put { tmps:=t,defers:=[] } dst v={ tmps:=t',defers:=[] })
  (h:wpAnyH P md ops Q S fuel l' { tmps:=t',defers:=[] } w):wpAnyH P md ops Q S (fuel+1) l { tmps:=t,defers:=[] } w:=by
 refine wpAnyH_take hi hs hf hr hQ hy hS ?_
 rw [hl]
 show wpAnyH P md ops Q S fuel l' (Act.put { tmps:=t,defers:=[] } dst v) w
 rw [ht];exact h
theorem Fb {i:Nat} {dst:Option Tmp} {op:Op} {ty:TypeId} {ps:String} {af:Array Edge} {fuel:Nat} {l l':Array Bool} {w:World} (hi:ops[i]? = some { dst:=dst,op:=op,type:=ty,pos:=ps,after:=af,guard:=none })
  (hr:Region.ready md ops l=[i]) (hl:l.setIfInBounds i true=l')
  (h:Oper.wp P { dst:=dst,op:=op,type:=ty,pos:=ps,after:=af,guard:=none } a w (fun a' w'=>S w'/\wpAnyH P md ops Q S fuel l' a' w') Q):wpAnyH P md ops Q S (fuel+1) l a w:=by
 refine wpAnyH_all hr Af (fun j hj=>?_)
 simp at hj
 subst hj
 unfold wpOp
 simp only [hi,hl]
 rw [AI (by simp [Region.wanted])]
 exact .inl h
theorem RT {i j:Nat} {dst dst2:Option Tmp} {op op2:Op} {ty ty2:TypeId} {ps ps2:String} {af af2:Array Edge} {fuel:Nat} {l l' l2:Array Bool} {w:World} (hi:ops[i]? = some { dst:=dst,op:=op,type:=ty,pos:=ps,after:=af,guard:=none })
  (hj:ops[j]? = some { dst:=dst2,op:=op2,type:=ty2,pos:=ps2,after:=af2,guard:=none }) (hr:Region.ready md ops l=[i,j]) (hl:l.setIfInBounds i true=l') (hl2:l.setIfInBounds j true=l2)
  (h:Oper.wp P { dst:=dst,op:=op,type:=ty,pos:=ps,after:=af,guard:=none } a w (fun a' w'=>S w'/\wpAnyH P md ops Q S fuel l' a' w') Q)
  (h2:Oper.wp P { dst:=dst2,op:=op2,type:=ty2,pos:=ps2,after:=af2,guard:=none } a w (fun a' w'=>S w'/\wpAnyH P md ops Q S fuel l2 a' w') Q):wpAnyH P md ops Q S (fuel+1) l a w:=by
 refine wpAnyH_all hr Af (fun k hk=>?_)
 simp at hk
 rcases hk with rfl | rfl
 ·unfold wpOp
  simp only [hi,hl];rw [AI (by simp [Region.wanted])];exact .inl h
 ·unfold wpOp
  simp only [hj,hl2];rw [AI (by simp [Region.wanted])];exact .inl h2
end
theorem FZ {w:World} {p q:Addr} (h:q.block≠p.block) (u:Value):(w.setCell p u).cell? q=w.cell? q:=World.cell?_of_block (w:=w) (Below.heap_setCell w p u q.block h)
end
section
open Go.RowKit Go.Shelf
attribute [local go_sem] Oper.semAt_some
theorem JO (v u : Value) (xs ys : List Int) (m : Int) (w : World) (hv : Sl w v xs) (hu : Sl w u ys) (hx : DA 10000 xs) (hy : Dm 10000 ys m) (hm : 0 < m) (hlx : xs.length <= 1000) (hly : ys.length <= 1000) :
   Calls Tryz.prog 54 #[v, u] w (CR w fun r w' => ∃ r1 r2 qs rs, r = .tuple #[r1, r2] /\ Sl w' r1 qs /\ Dm 10000 qs (val 10000 xs / m) /\ Sl w' r2 rs /\ Dm 10000 rs (val 10000 xs % m)) := by
 have hvp := hv.ptr_lt
 refine (callsIn_wide (n := 5)).1 ?_
 refine callsIn_of_wp_marks Tryz.func54 rfl trivial ?_ rfl
 simp only [Tryz.ntmps54, Bg, C4, Cf, Nat.reduceAdd, Nat.reduceSub, Cg, Ch, Ci, Cj, BC, BK]
 obtain ⟨a1, c1, rfl⟩ := hv.shape
 obtain ⟨a2, c2, rfl⟩ := hu.shape
 have hw0 : Below w.heap.size w (((w.alloc (.cells #[.slice a2 ys.length c2] 97)).alloc (.cells #[.slice none 0 0] 97)).alloc (.cells #[.slice none 0 0] 97)) := (((Below.refl _ _).alloc (Aa _) _).alloc Af _).alloc (by simp; omega) _
 have b1 : Boxed (((w.alloc (.cells #[.slice a2 ys.length c2] 97)).alloc (.cells #[.slice none 0 0] 97)).alloc (.cells #[.slice none 0 0] 97)) w.heap.size 97 (.slice a2 ys.length c2) := ((Boxed.new w _ _).alloc _).alloc _
 have b2 : Boxed (((w.alloc (.cells #[.slice a2 ys.length c2] 97)).alloc (.cells #[.slice none 0 0] 97)).alloc (.cells #[.slice none 0 0] 97)) (w.heap.size + 1) 97 (.slice none 0 0) := by
   have := (Boxed.new (w.alloc (.cells #[.slice a2 ys.length c2] 97)) 97 (.slice none 0 0)).alloc (.cells #[.slice none 0 0] 97)
   rwa [AP] at this
 have b3 : Boxed (((w.alloc (.cells #[.slice a2 ys.length c2] 97)).alloc (.cells #[.slice none 0 0] 97)).alloc (.cells #[.slice none 0 0] 97)) (w.heap.size + 1 + 1) 97 (.slice none 0 0) := by
   have := Boxed.new ((w.alloc (.cells #[.slice a2 ys.length c2] 97)).alloc (.cells #[.slice none 0 0] 97)) 97 (.slice none 0 0)
   rwa [AP, AP] at this
 have hs3 : (((w.alloc (.cells #[.slice a2 ys.length c2] 97)).alloc (.cells #[.slice none 0 0] 97)).alloc (.cells #[.slice none 0 0] 97)).heap.size = w.heap.size + 1 + 1 + 1 := by simp
 have Hs3 := A8 hs3
 clear hs3
 gi_wp2_with (first
   | (refine ⟨trivial, ?_⟩; gi_at_call 84; refine (Jr Fence.wide 4 trivial rfl _ _ ⟨_, _, _, rfl⟩).mono ?_; rintro e w' ⟨rfl, rfl⟩)
   | (gi_at_make; refine Kz 97 Tryz.underlying97 rfl _ _ rfl _ _ xs.length rfl rfl Ad ?_; intro w0 hown0 hb0; have q2 := CQ b2 hb0; have q2c := q2.cell; have q2f := q2.frozen))
 have q1 := CQ b1 hb0
 have q3 := CQ b3 hb0
 have hz0 := hb0.size
 rw [Hs3.out] at hz0
 have hv1 := (hv.below hw0).below hb0
 have hu1 := (hu.below hw0).below hb0
 have hw1 := hw0.trans (hb0.mono hw0.size)
 have hu2 := hu1.setBox q2 (fun n e => by cases e) (.slice (some ⟨w.heap.size + 1 + 1 + 1, 0, none⟩) xs.length xs.length)
 have hv2 := hv1.setBox q2 (fun n e => by cases e) (.slice (some ⟨w.heap.size + 1 + 1 + 1, 0, none⟩) xs.length xs.length)
 rw [Hs3.out] at hown0
 have hlt3 : w.heap.size + 1 + 1 + 1 < w0.heap.size := (hown0.lt _ rfl).2
 have p1 := (Da q1 (show w.heap.size ≠ w.heap.size + 1 by omega) (.slice (some ⟨w.heap.size + 1 + 1 + 1, 0, none⟩) xs.length xs.length)).alloc (.cells #[.slice a1 xs.length c1] 97)
 have p2 := (q2.set (.slice (some ⟨w.heap.size + 1 + 1 + 1, 0, none⟩) xs.length xs.length)).alloc (.cells #[.slice a1 xs.length c1] 97)
 have p3 := (Da q3 (show w.heap.size + 1 + 1 ≠ w.heap.size + 1 by omega) (.slice (some ⟨w.heap.size + 1 + 1 + 1, 0, none⟩) xs.length xs.length)).alloc (.cells #[.slice a1 xs.length c1] 97)
 have pq := (hown0.kept (grownBy_setCell' w0 (w.heap.size + 1) (.slice (some ⟨w.heap.size + 1 + 1 + 1, 0, none⟩) xs.length xs.length)) (.inr (by simp [Value.ownBlock]; omega))).alloc (.cells #[.slice a1 xs.length c1] 97)
 have pu := hu2.below ((Below.refl _ _).alloc (Aa _) (.cells #[.slice a1 xs.length c1] 97))
 have pv := hv2.below ((Below.refl _ _).alloc (Aa _) (.cells #[.slice a1 xs.length c1] 97))
 have pB : Boxed ((w0.setCell ⟨w.heap.size + 1, 0, none⟩ (.slice (some ⟨w.heap.size + 1 + 1 + 1, 0, none⟩) xs.length xs.length)).alloc (.cells #[.slice a1 xs.length c1] 97)) w0.heap.size 97 (.slice a1 xs.length c1) := by
   have := Boxed.new (w0.setCell ⟨w.heap.size + 1, 0, none⟩ (.slice (some ⟨w.heap.size + 1 + 1 + 1, 0, none⟩) xs.length xs.length)) 97 (.slice a1 xs.length c1)
   rwa [World.size_setCell] at this
 have pw : Below w.heap.size w ((w0.setCell ⟨w.heap.size + 1, 0, none⟩ (.slice (some ⟨w.heap.size + 1 + 1 + 1, 0, none⟩) xs.length xs.length)).alloc (.cells #[.slice a1 xs.length c1] 97)) := (hw1.setCell (p := ⟨w.heap.size + 1, 0, none⟩) Af _).alloc (by have := hw1.size; simp; omega) _
 clear hv1 hu1 hu2 hv2 q1 q2 q3 q2c q2f hb0 hown0 b1 b2 b3 hw0 hw1 Hs3
 generalize hWL : (w0.setCell ⟨w.heap.size + 1, 0, none⟩ (.slice (some ⟨w.heap.size + 1 + 1 + 1, 0, none⟩) xs.length xs.length)).alloc (.cells #[.slice a1 xs.length c1] 97) = WL at *
 clear hWL
 generalize w0.heap.size = B0 at *
 refine Lu B0 [w.heap.size + 1 + 1, w.heap.size + 1 + 1 + 1] (.slice a1 xs.length c1) xs rfl pB.cell pv (by simp; omega) (fun b o e => by have := hvp b o e; simp; omega) rfl
   (fun pre W => Boxed W w.heap.size 97 (.slice a2 ys.length c2) /\ Boxed W (w.heap.size + 1) 97 (.slice (some ⟨w.heap.size + 1 + 1 + 1, 0, none⟩) xs.length xs.length) /\ (∃ rv rs, Boxed W (w.heap.size + 1 + 1) 97 rv /\ Sl W rv rs /\ Dm 10000 rs (FN xs m pre)) /\
     W.ownsRow (w.heap.size + 1 + 1 + 1) 3 1 (.slice (some ⟨w.heap.size + 1 + 1 + 1, 0, none⟩) xs.length xs.length) xs.length ((Em xs m pre).1.map (Value.int .i64)) /\ Sl W (.slice a2 ys.length c2) ys)
   (fun _ _ => False)
   (fun pre W W' ⟨h1, h2, ⟨rv, rs, h3, hr, nr⟩, hq, hm'⟩ k => ⟨k.boxed h1, k.boxed h2, ⟨rv, rs, k.boxed h3, k.sl hr, nr⟩, k.own hq, k.sl hm'⟩) (fun pre W W' h k => h)
   (fun pre W ⟨h1, h2, ⟨rv, rs, h3, hr, nr⟩, hq, hm'⟩ k hk => by
     simp at hk
     rcases hk with rfl | rfl
     · exact ⟨_, h3, rfl⟩
     · rcases hq.2 with ⟨h', _⟩ | ⟨g, cap, cur, h', _, hg, _⟩
       · cases h'
       · cases h'; exact ⟨_, hg, rfl⟩)
   ⟨p1, p2, ⟨_, [], p3, Sl.nil _, DA.nil _, (fun k h => by cases h), rfl⟩, pq, pu⟩
   (fun x => { tmps := #[.slice a1 xs.length c1, .slice a2 ys.length c2, undef, .pointer (some ⟨w.heap.size, 0, none⟩), .pointer (some ⟨w.heap.size + 1, 0, none⟩), .pointer (some ⟨w.heap.size + 1 + 1, 0, none⟩), .int .i64 (x.1 : Int), .int .i64 (gi xs x.1), undef, undef,
     .slice a1 xs.length c1, .int .i64 xs.length, (.slice (some ⟨w.heap.size + 1 + 1 + 1, 0, none⟩) xs.length xs.length), .slice a1 xs.length c1, .func (.func 110) #[] #[.pointer (some ⟨B0, 0, none⟩)], .int .i64 (x.1 : Int), .int .i64 (gi xs x.1),
     undef, undef, undef, undef, undef, undef, undef, undef, undef, undef, undef, undef, undef, undef, undef, undef, undef, undef, undef, undef, undef, undef, undef, undef], defers := [] }) ?assign ?body ?done ?stop
 case assign =>
   intro l x W K hK
   gi_wp2
   exact hK
 case body =>
   rintro l pre x W ho ⟨h1, h2, ⟨rv, rs, h3, hr, nr⟩, hq, hm'⟩ hlen
   have hmx : Tryz.prog.follows .mixedOrders = true := by kernel_rfl
   have hc3 := h3.cell
   have hf3 := h3.frozen
   have hbl : w.heap.size + 1 + 1 < W.heap.size := h3.lt
   obtain ⟨a3, c3, rfl⟩ := hr.shape
   have hrl : rs.length <= 1000 := by
     have hb := FD (xs := xs) hm pre
     have := nr.length_le (show (1 : Int) < 10000 by decide) (m := ys.length) (Int.lt_trans hb.2 (hy.lt Ae))
     omega
   gi_wp2_with (first
     | (gi_at_builtin; refine J2 97 Tryz.underlying97 rfl _ _ rfl rfl rfl (I9 W (gi xs x.1)) (hr.below ((Below.refl _ W).alloc (Aa _) _)) Ad Ae Af ?_
        intro g cap w1 hown hgr hbw
        have hbw' := ((Below.refl _ W).alloc (Aa _) _).trans hbw
        have hf0 := (hbw'.frozen (p := ⟨w.heap.size + 1 + 1, 0, none⟩) hbl).trans hf3
        have hc0 := (hbw'.cell (p := ⟨w.heap.size + 1 + 1, 0, none⟩) hbl).trans hc3
        have hcm0 := (hbw'.cell (p := ⟨w.heap.size, 0, none⟩) h1.lt).trans h1.cell)
     | (refine ⟨trivial, ?_⟩
        gi_at_call 85
        refine (CallsIn.inRound l (callsIn_wide.2 (ED _ ([gi xs x.1] ++ rs) _ (Sl.of_own hown)))).mono ?_
        rintro e w' ⟨⟨r2, rfl, hz2, hp2⟩, rfl⟩
        obtain ⟨a5, c5, rfl⟩ := hz2.shape))
   -- the memory behind the first statements of the round
   have hrem := FD (xs := xs) hm pre
   have hgx := hx.gi Ae x.1
   have nt : Dm 10000 (trim (gi xs x.1 :: rs)) (FN xs m pre * 10000 + gi xs x.1) := by
     have h := Dm.trim (b := 10000) (xs := gi xs x.1 :: rs) (fun y hy => by
       rcases As.1 hy with rfl | hy
       · exact hgx
       · exact nr.dig y hy)
     rw [val, nr.val] at h
     rw [show FN xs m pre * 10000 + gi xs x.1 = gi xs x.1 + 10000 * FN xs m pre by omega]; exact h
   have hqp : W.heap.size <= g := by
     rcases hown.2 with ⟨h', _⟩ | ⟨g', cap', cur, h', hg, _⟩
     · cases h'
     · cases h'; exact hg
   have hsz1 := hbw'.size
   have hqlt : w.heap.size + 1 + 1 + 1 < W.heap.size := (hq.lt (w.heap.size + 1 + 1 + 1) rfl).2
   have q1 := CQ h1 hbw'
   have q2 := CQ h2 hbw'
   have q3 := CQ h3 hbw'
   have qq := DE hq hbw'
   have qm := hm'.below hbw'
   have hS0 : Pm w.heap.size w1.heap.size ((w1.setCell ⟨w.heap.size + 1 + 1, 0, none⟩ (.slice a5 (trim (gi xs x.1 :: rs)).length c5)).alloc (.cells #[.func (.func 86) #[.slice a2 ys.length c2] #[]] 141))
       (.slice a2 ys.length c2) (.slice (some ⟨w.heap.size + 1 + 1 + 1, 0, none⟩) xs.length xs.length) (.slice a5 (trim (gi xs x.1 :: rs)).length c5) ys (trim (gi xs x.1 :: rs)) (Em xs m pre).1 xs.length := by
     refine ⟨(Da q1 Ad _).alloc _, (Da q2 Ad _).alloc _, (q3.set _).alloc _, ?_, (qq.kept (grownBy_setCell' _ _ _) (.inr (by simp [Value.ownBlock]))).alloc _, (qm.setBox q3 (fun n e => by cases e) _).below ((Below.refl _ _).alloc (Aa _) _), (hz2.setBox q3 (fun n e => by cases e) _).below ((Below.refl _ _).alloc (Aa _) _)⟩
     have := Boxed.new (w1.setCell ⟨w.heap.size + 1 + 1, 0, none⟩ (.slice a5 (trim (gi xs x.1 :: rs)).length c5)) 141 (.func (.func 86) #[.slice a2 ys.length c2] #[])
     rwa [World.size_setCell] at this
   have hO : CG [w.heap.size + 1 + 1, w.heap.size + 1 + 1 + 1] W ((w1.setCell ⟨w.heap.size + 1 + 1, 0, none⟩ (.slice a5 (trim (gi xs x.1 :: rs)).length c5)).alloc (.cells #[.func (.func 86) #[.slice a2 ys.length c2] #[]] 141)) :=
     (((CG.refl _ _).below hbw').setCell Af _).alloc _
   have hr5 : ∀ b o, (Value.slice a5 (trim (gi xs x.1 :: rs)).length c5).ptr? = some (b, o) -> b ≠ w.heap.size + 1 + 1 + 1 := fun b o e => by
     have e' : (Value.slice (some ⟨g, 0, none⟩) (1 + rs.length) cap).ptr? = some (b, o) := hp2.symm.trans e
     have e2 : g = b := by simpa [Go.Value.ptr?] using Bk (Option.map Prod.fst) e'
     omega
   have h8 : w.heap.size + 1 + 1 + 1 < w1.heap.size := A9 hqlt hsz1
   have hmp : ∀ b o, (Value.slice a2 ys.length c2).ptr? = some (b, o) -> b < w.heap.size := hu.ptr_lt
   clear q1 q2 q3 qq qm hc0 hf0 hcm0 hc3 hf3 hown hgr hbw hz2 hp2
   generalize (w1.setCell ⟨w.heap.size + 1 + 1, 0, none⟩ (.slice a5 (trim (gi xs x.1 :: rs)).length c5)).alloc (.cells #[.func (.func 86) #[.slice a2 ys.length c2] #[]] 141) = Wc at *
   clear hbw' hsz1
   generalize w1.heap.size = B8 at *
   clear w1
   have hql := Mo xs m pre
   have htl : (trim (gi xs x.1 :: rs)).length <= 100000 := AN (RE _) (by simp; omega)
   have hxl := x.2
   refine Go.wpIn_mono (Q := fun e a' w' => e = .normal /\ ∃ d : Nat, a' = { tmps := #[.slice a1 xs.length c1, .slice a2 ys.length c2, undef, .pointer (some ⟨w.heap.size, 0, none⟩), .pointer (some ⟨w.heap.size + 1, 0, none⟩), .pointer (some ⟨w.heap.size + 1 + 1, 0, none⟩), .int .i64 (x.1 : Int), .int .i64 (gi xs x.1), .pointer (some ⟨B8, 0, none⟩),
       .func (.func 87) #[] #[.pointer (some ⟨B8, 0, none⟩), .pointer (some ⟨w.heap.size + 1 + 1, 0, none⟩)], .slice a1 xs.length c1, .int .i64 xs.length, (.slice (some ⟨w.heap.size + 1 + 1 + 1, 0, none⟩) xs.length xs.length), .slice a1 xs.length c1, .func (.func 110) #[] #[.pointer (some ⟨B0, 0, none⟩)], .int .i64 (x.1 : Int), .int .i64 (gi xs x.1),
       .int .i64 (gi xs x.1), .slice (some ⟨W.heap.size, 0, none⟩) 1 1, .slice a3 rs.length c3, .slice (some ⟨g, 0, none⟩) (1 + rs.length) cap, .slice a5 (trim (gi xs x.1 :: rs)).length c5, .slice a2 ys.length c2, .func (.func 86) #[.slice a2 ys.length c2] #[],
       .func (.func 87) #[] #[.pointer (some ⟨B8, 0, none⟩), .pointer (some ⟨w.heap.size + 1 + 1, 0, none⟩)], (.slice (some ⟨w.heap.size + 1 + 1 + 1, 0, none⟩) xs.length xs.length), .int .i64 (x.1 : Int), .func (.func 87) #[] #[.pointer (some ⟨B8, 0, none⟩), .pointer (some ⟨w.heap.size + 1 + 1, 0, none⟩)], .int .i64 (d : Nat), .pointer (some ⟨w.heap.size + 1 + 1 + 1, x.1, none⟩),
       undef, undef, undef, undef, undef, undef, undef, undef, undef, undef, undef], defers := [] } /\ (d : Int) = (FN xs m pre * 10000 + gi xs x.1) / m /\ d <= 9999 /\
     Pm w.heap.size B8 w' (.slice a2 ys.length c2) (.slice (some ⟨w.heap.size + 1 + 1 + 1, 0, none⟩) xs.length xs.length) (.slice a5 (trim (gi xs x.1 :: rs)).length c5) ys (trim (gi xs x.1 :: rs)) ((Em xs m pre).1.set x.1 d) xs.length /\ CG [w.heap.size + 1 + 1, w.heap.size + 1 + 1 + 1] W w') ?_ ?_
   · have hS := hS0.below (Below.refl _ Wc).drew
     have cQ := hS0.b2.cell
     gi_region_with (refine ⟨trivial, ?_⟩
                     gi_at_call 88
                     refine (CallsIn.inRound l (callsIn_wide.2 (hS.search hy nt hly))).mono ?_
                     rintro e w3 ⟨⟨v3, rfl, d, rfl, hd, hP⟩, hb3⟩
                     have hS3 := hS.below hb3
                     have cQ3 := hS3.b2.cell
                     have cR := hS3.cellq hql hxl
                     have fR := hS3.q.frozenAt x.1)
     all_goals exact ⟨rfl, d, rfl, Mr hm Ad Ad hd hP, hd, hS3.store x.1 d h8 hmp hr5, ((hO.below (Below.refl _ _).drew).below hb3).setCell Af _⟩
   · rintro e a' Wd ⟨rfl, d, rfl, hdq, hd, hSd, hOd⟩
     clear hS0 hO
     have Hdq := A8 hdq
     clear hdq
     have hql2 : ((Em xs m pre).1.set x.1 d).length = xs.length := by rw [BJ, hql]
     have cQ := hSd.b2.cell
     have cR := hSd.b3.cell
     have fR := hSd.b3.frozen
     have c8 := hSd.b8.cell
     have cD : Wd.cell? ⟨w.heap.size + 1 + 1 + 1, x.1, none⟩ = some (.int .i64 d) := by
       have := hSd.cellq hql2 hxl
       rwa [show gi ((Em xs m pre).1.set x.1 d) x.1 = d by simp [gi, hql]] at this
     have hSe := hSd.below (Below.refl _ Wd).drew
     gi_wp2_with fail
     refine Go.wpIn_mono (Q := fun e _ w' => e = .normal /\ ∃ rm ms w5, w' = w5.setCell ⟨w.heap.size + 1 + 1, 0, none⟩ rm /\ Pm w.heap.size B8 w5 (.slice a2 ys.length c2) (.slice (some ⟨w.heap.size + 1 + 1 + 1, 0, none⟩) xs.length xs.length) (.slice a5 (trim (gi xs x.1 :: rs)).length c5) ys (trim (gi xs x.1 :: rs)) ((Em xs m pre).1.set x.1 d) xs.length /\
       Sl w5 rm ms /\ Dm 10000 ms ((FN xs m pre * 10000 + gi xs x.1) % m) /\ Wd.heap.size <= w5.heap.size /\ Et Wd rm /\ Below Wd.heap.size Wd w5) ?_ ?_
     · rename_i Q1 K1 A1 Q2
       clear hOd hSd hql2 hql hmp hr5 hqlt hqp hrem hgx Q2 hr hrl h3 hbl hlen hm' hq nr h2 h1 ho pB hlt3 hz0 pw pv pu pq p3 p2 p1 A1 K1 Q1 hvp hv hu
       generalize hTR : trim (gi xs x.1 :: rs) = tr at *
       generalize hQQ : (Em xs m pre).1.set x.1 ↑d = qq at *
       generalize hRM : FN xs m pre * 10000 + gi xs x.1 = r' at *
       clear hTR hQQ hRM
       have hle := quot_le hm Hdq.out hy
       have hSof : ∀ W', Pm w.heap.size B8 W' (.slice a2 ys.length c2) (.slice (some ⟨w.heap.size + 1 + 1 + 1, 0, none⟩) xs.length xs.length) (.slice a5 tr.length c5) ys tr qq xs.length -> OvS w.heap.size B8 (.slice a2 ys.length c2) (.slice (some ⟨w.heap.size + 1 + 1 + 1, 0, none⟩) xs.length xs.length) x.1 d W' := fun W' h => by
         refine ⟨h.b2.cell, h.b8.cell, ?_⟩
         rw [<- cD]
         exact (h.q.cellAt x.1 Ad).trans (hSe.q.cellAt x.1 Ad).symm
       have hS0 := hSof _ hSe
       have cRe := hSe.b3.cell
       refine Ib (S := OvS w.heap.size B8 (.slice a2 ys.length c2) (.slice (some ⟨w.heap.size + 1 + 1 + 1, 0, none⟩) xs.length xs.length) x.1 d) hmx Ab ?_
       refine FY (i := 1) rfl Ab Ab Ab (fun _ _ _ h => by cases h.1) (II (v := .func (.func 86) #[.slice a2 ys.length c2] #[]) rfl rfl rfl (Go.Proofs.run_isAgg_plain Tryz.underlying141 rfl) (fun W' h => h.2.1)) hS0 (l' := #[false, true, false, false, false, false, false, false, false]) Ab rfl ?_
       simp only [A0, A6, A5]
       refine FY (i := 2) rfl Ab Ab Ab (fun _ _ _ h => by cases h.1) (II (v := (.slice (some ⟨w.heap.size + 1 + 1 + 1, 0, none⟩) xs.length xs.length)) rfl rfl rfl (Go.Proofs.run_isAgg_plain Tryz.underlying97 rfl) (fun W' h => h.1)) hS0 (l' := #[false, true, true, false, false, false, false, false, false]) Ab rfl ?_
       simp only [A0, A6, A5]
       refine FY (i := 3) rfl Ab Ab Ab (fun _ _ _ h => by cases h.1) (Qg (v := .int .i64 (x.1 : Int)) rfl rfl rfl) hS0 (l' := #[false, true, true, true, false, false, false, false, false]) Ab rfl ?_
       simp only [A0, A6, A5]
       refine FY (i := 4) rfl Ab Ab Ab (fun _ _ _ h => by cases h.1) (O6 (v := .pointer (some ⟨w.heap.size + 1 + 1 + 1, x.1, none⟩)) rfl rfl rfl rfl Tryz.underlying97 hxl (fun _ => by kernel_rfl) rfl) hS0 (l' := #[false, true, true, true, true, false, false, false, false]) Ab rfl ?_
       simp only [A0, A6, A5]
       refine FY (i := 5) rfl Ab Ab Ab (fun _ _ _ h => by cases h.1) (II (v := .int .i64 d) rfl rfl rfl (Go.Proofs.run_isAgg_plain Tryz.underlying3 rfl) (fun W' h => h.2.2)) hS0 (l' := #[false, true, true, true, true, true, false, false, false]) Ab rfl ?_
       simp only [A0, A6, A5]
       refine RT (i := 0) (j := 6) rfl rfl Ab (l' := #[true, true, true, true, true, true, false, false, false]) (l2 := #[false, true, true, true, true, true, true, false, false]) Ab Ab ?_ ?_
       · unfold Oper.wp
         go_simp
         refine Fb (i := 6) rfl Ab (l' := #[true, true, true, true, true, true, true, false, false]) Ab ?_
         unfold Oper.wp
         go_simp
         refine (JJ _ _ ys _ hSe.m hy.dig Ad Ad Ad).mono ?_
         rintro e w4 ⟨⟨rb, rfl, bs, hrb, nb, _⟩, hb4⟩
         have hS4 := hSe.below hb4
         have cR4 := hS4.b3.cell
         have hlb := nb.len_le Ae nt hle.1
         refine ⟨hSof _ hS4, ?_⟩
         refine Fb (i := 7) rfl Ab (l' := #[true, true, true, true, true, true, true, true, false]) Ab ?_
         unfold Oper.wp
         go_simp
         refine (FU _ _ tr bs _ hS4.r hrb nt.dig nb.dig Ad hlb (by rw [nb.val, nt.val]; exact hle.1)).mono ?_
         rintro e w5 ⟨⟨rm, rfl, ms, hrm, nm, hfm⟩, hb5⟩
         obtain ⟨a7, c7, rfl⟩ := hrm.shape
         have hS5 := hS4.below hb5
         have cR5 := hS5.b3.cell
         have fR5 := hS5.b3.frozen
         refine ⟨hSof _ hS5, ?_⟩
         refine Fb (i := 8) rfl Ab (l' := #[true, true, true, true, true, true, true, true, true]) Ab ?_
         unfold Oper.wp
         go_simp
         refine ⟨?_, wpAnyH_done Ab ⟨rfl, _, ms, w5, rfl, hS5, hrm, by rw [<- hle.2, <- nt.val, <- nb.val]; exact nm, ?_, Et.mono (w' := w4) hfm hb4.size, ((Below.refl _ _).drew.trans hb4).trans (hb5.mono hb4.size)⟩ _⟩
         · obtain ⟨g1, g2, g3⟩ := hSof _ hS5
           exact ⟨(FZ Af _).trans g1, (FZ (by simp; omega) _).trans g2, (FZ Af _).trans g3⟩
         · exact AN hb4.size hb5.size
       · skip
         unfold Oper.wp
         go_simp
         refine (JJ _ _ ys _ hSe.m hy.dig Ad Ad Ad).mono ?_
         rintro e w4 ⟨⟨rb, rfl, bs, hrb, nb, _⟩, hb4⟩
         have hS4 := hSe.below hb4
         have cR4 := hS4.b3.cell
         have hlb := nb.len_le Ae nt hle.1
         refine ⟨hSof _ hS4, ?_⟩
         refine Fb (i := 0) rfl Ab (l' := #[true, true, true, true, true, true, true, false, false]) Ab ?_
         unfold Oper.wp
         go_simp
         refine Fb (i := 7) rfl Ab (l' := #[true, true, true, true, true, true, true, true, false]) Ab ?_
         unfold Oper.wp
         go_simp
         refine (FU _ _ tr bs _ hS4.r hrb nt.dig nb.dig Ad hlb (by rw [nb.val, nt.val]; exact hle.1)).mono ?_
         rintro e w5 ⟨⟨rm, rfl, ms, hrm, nm, hfm⟩, hb5⟩
         obtain ⟨a7, c7, rfl⟩ := hrm.shape
         have hS5 := hS4.below hb5
         have cR5 := hS5.b3.cell
         have fR5 := hS5.b3.frozen
         refine ⟨hSof _ hS5, ?_⟩
         refine Fb (i := 8) rfl Ab (l' := #[true, true, true, true, true, true, true, true, true]) Ab ?_
         unfold Oper.wp
         go_simp
         refine ⟨?_, wpAnyH_done Ab ⟨rfl, _, ms, w5, rfl, hS5, hrm, by rw [<- hle.2, <- nt.val, <- nb.val]; exact nm, ?_, Et.mono (w' := w4) hfm hb4.size, ((Below.refl _ _).drew.trans hb4).trans (hb5.mono hb4.size)⟩ _⟩
         · obtain ⟨g1, g2, g3⟩ := hSof _ hS5
           exact ⟨(FZ Af _).trans g1, (FZ (by simp; omega) _).trans g2, (FZ Af _).trans g3⟩
         · exact AN hb4.size hb5.size
     · rintro e a' w' ⟨rfl, rm, ms, w5, rfl, hS5, hrm, nm, hsz, hfm, hb5⟩
       have hrp : ∀ b o, rm.ptr? = some (b, o) -> b ≠ w.heap.size + 1 + 1 + 1 := fun b o e => by
         have h1 := hfm b o e
         have h2 := (hSd.q.lt (w.heap.size + 1 + 1 + 1) rfl).2
         omega
       refine ⟨(hOd.below hb5).setCell Af _, Da hS5.b1 Ad _, Da hS5.b2 Ad _, ⟨rm, ms, hS5.b3.set _, hrm.setBox hS5.b3 (fun n e => by cases e) _, by rw [GW]; exact nm⟩, ?_, hS5.m.setBox hS5.b3 (fun n e => by cases e) _⟩
       rw [FX, <- Hdq.out]
       exact hS5.q.kept (grownBy_setCell' _ _ _) (.inr (by simp [Value.ownBlock]))
 case done =>
   rintro D W hD ho ⟨h1, h2, ⟨rv, rs, h3, hr, nr⟩, hq, hm'⟩ hK
   have hmx : Tryz.prog.follows .mixedOrders = true := by kernel_rfl
   have hc2 := h2.cell
   have hf2 := h2.frozen
   have hc3 := h3.cell
   have hf3 := h3.frozen
   obtain ⟨a3, c3, rfl⟩ := hr.shape
   have hqs : Sl W.drew (.slice (some ⟨w.heap.size + 1 + 1 + 1, 0, none⟩) xs.length xs.length) (Em xs m (CZ xs.length xs.length)).1 := (Sl.of_own hq).below (Below.refl _ _).drew
   have hle := LA (xs := xs) hm
   have Hle := A8 hle
   clear hle
   gi_wp2_with fail
   gi_region_with (refine ⟨trivial, ?_⟩
                   gi_at_call 85
                   refine (callsIn_wide.2 (ED _ _ _ hqs)).mono ?_
                   rintro e w' ⟨⟨r2, rfl, hz2, hp2⟩, rfl⟩
                   obtain ⟨a5, c5, rfl⟩ := hz2.shape)
   all_goals gi_wp2
   all_goals
     have hz3 : Sl W (.slice a5 (trim (Em xs m (CZ xs.length xs.length)).1).length c5) (trim (Em xs m (CZ xs.length xs.length)).1) := hz2
     have k2 := Da (h2.set (.slice a5 (trim (Em xs m (CZ xs.length xs.length)).1).length c5)) (show w.heap.size + 1 ≠ w.heap.size + 1 + 1 by omega) (.slice a3 rs.length c3)
     have k3 := (Da h3 (show w.heap.size + 1 + 1 ≠ w.heap.size + 1 by omega) (.slice a5 (trim (Em xs m (CZ xs.length xs.length)).1).length c5)).set (.slice a3 rs.length c3)
     have k3' := Da h3 (show w.heap.size + 1 + 1 ≠ w.heap.size + 1 by omega) (.slice a5 (trim (Em xs m (CZ xs.length xs.length)).1).length c5)
     have kz := ((hz3.setBox h2 (fun n e => by cases e) (.slice a5 (trim (Em xs m (CZ xs.length xs.length)).1).length c5)).setBox k3' (fun n e => by cases e) (.slice a3 rs.length c3)).below (Below.refl _ _).drew
     have kr := ((hr.setBox h2 (fun n e => by cases e) (.slice a5 (trim (Em xs m (CZ xs.length xs.length)).1).length c5)).setBox k3' (fun n e => by cases e) (.slice a3 rs.length c3)).below (Below.refl _ _).drew
     have l2 := CQ k2 (Below.refl _ _).drew
     have l3 := CQ k3 (Below.refl _ _).drew
     have hKF := (KeepsOthers.drew _).same D _ ((KeepsOthers.setCell _ ⟨w.heap.size + 1 + 1, 0, none⟩ (.slice a3 rs.length c3)).same D _ ((KeepsOthers.setCell W ⟨w.heap.size + 1, 0, none⟩ (.slice a5 (trim (Em xs m (CZ xs.length xs.length)).1).length c5)).same D _ hK rfl) rfl) rfl
     have ck := CS.putObj (.deferred none) hKF rfl
     have cA := (ck.boxed l2).cell
     have cB := (ck.boxed l3).cell
     have ho2 := ((((ho.mono (T := [w.heap.size + 1, w.heap.size + 1 + 1, w.heap.size + 1 + 1 + 1]) Af).setCell (p := ⟨w.heap.size + 1, 0, none⟩) Af (.slice a5 (trim (Em xs m (CZ xs.length xs.length)).1).length c5)).setCell (p := ⟨w.heap.size + 1 + 1, 0, none⟩) Af (.slice a3 rs.length c3)).below (Below.refl _ _).drew).putObj hD (.deferred none)
     exact DW hKF (v := .tuple #[.slice a5 (trim (Em xs m (CZ xs.length xs.length)).1).length c5, .slice a3 rs.length c3]) (by simp [results, Tryz.results54, go_sem, cA, cB])
       ⟨⟨_, rfl, _, _, _, rs, rfl, ck.sl kz, by rw [<- Hle.out.1]; exact Dm.trim (RR hx hm _), ck.sl kr, by rw [<- Hle.out.2]; exact nr⟩, pw.trans (ho2.toBelow (by have := pw.size; omega) (by simp; omega))⟩
 case stop =>
   rintro D k W hk hD ho h hK
   exact h.elim
end
end Go.Proofs.YtdkonnnmkceagaaGreatDoor
