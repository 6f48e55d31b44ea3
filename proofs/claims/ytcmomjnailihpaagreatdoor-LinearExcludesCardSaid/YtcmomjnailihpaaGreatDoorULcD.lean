/- LcD, LcE, LcF, RowsQ, SvD, SvE, SvF, LcG, LcH, LcI, LcJ -/
import Derived.Test.YtcmomjnailihpaaGreatDoorUSvB
import Derived.Deep.RegionHeld3
set_option maxHeartbeats 8000000
set_option maxRecDepth 100000
namespace Go.Proofs.YtcmomjnailihpaaGreatDoor
section
open Go.RowKit
open LnM (sm)
attribute [local go_sem] Oper.semAt_some
def sAt (l:List ByteArray) (i:Nat):ByteArray:=l[i]?.getD ⟨#[]⟩
theorem Do {l:List ByteArray} {i:Nat} (h:i<l.length):l[i]? = some (sAt l i):=by unfold sAt;rw [List.getElem?_eq_getElem h];rfl
theorem JW {l:List ByteArray} {i:Nat} (h:i<l.length):sAt l i∈l:=List.mem_of_getElem? (Do h)
def sumZ (l:List ByteArray) (f:Nat→Int) (k:Nat):Int:=sm k (fun i=>zS (sAt l i)*f i)
theorem sum_bd (a f:Nat→Int):∀ (n:Nat),(∀ i,i<n→Bd 100 (a i)∧Bd 11 (f i))→Bd 111 (sm n (fun i=>a i*f i))∨((sm n (fun i=>a i*f i)).natAbs≤n*10 ^ 111)
 | 0,_=>.inr (by simp [sm])
 | n+1,h=>by
  refine .inr ?_
  have h1:(sm n (fun i=>a i*f i)).natAbs≤n*10 ^ 111:=by
   rcases sum_bd a f n (fun i hi=>h i (by omega)) with h1 | h1
   ·rcases Nat.eq_zero_or_pos n with rfl | hn
    ·simp [sm]
    ·have:=(Bd.nat.1 h1)
     have:10 ^ 111≤n*10 ^ 111:=Nat.le_mul_of_pos_left _ hn
     omega
   ·exact h1
  have h2:=Bd.nat.1 ((h n (by omega)).1.mul (h n (by omega)).2)
  show (sm n (fun i=>a i*f i)+a n*f n).natAbs≤_
  have h3:=Int.natAbs_add_le (sm n (fun i=>a i*f i)) (a n*f n)
  rw [Nat.add_mul]
  omega
theorem sum_small {a f:Nat→Int} {n:Nat} (hn:n≤1000) (h:∀ i,i<n→Bd 100 (a i)∧Bd 11 (f i)):Small (sm n (fun i=>a i*f i)):=by
 have hb:Bd 200 (sm n (fun i=>a i*f i)):=by
  rcases sum_bd a f n h with h1 | h1
  ·exact h1.mono (by decide)
  ·rw [Bd.nat]
   refine Nat.lt_of_le_of_lt h1 (Nat.lt_of_le_of_lt (Nat.mul_le_mul_right _ hn) ?_)
   decide
 exact hb.small (by decide)
theorem bd11 {x:Int} (h:-10000000000≤x∧x≤10000000000):Bd 11 x:=by unfold Bd;omega
theorem mul_I {s:ByteArray} {x:Int} (hs:okS s=true) (hx:Small x) (hp:Small (zS s*x)) (W:World) (hW:Env W):Calls Tryz.prog 50 #[.string s,.string (I x)] W (Rets W (.tuple #[.string (I (zS s*x)),.int .i64 0])):=by
 have:=Ev s (I x) W hW
 rw [hs,BS hx,BA,Bool.and_self,BE hp] at this
 exact this.mono fun e w' h=>by
  obtain ⟨⟨r,h1,h2⟩,hb⟩:=h
  exact ⟨by rw [h1,h2],hb⟩
theorem GO {x:Int} (h:Fits x) (W:World) (hW:Env W):Calls Tryz.prog 51 #[.int .i64 x] W (Rets W (.string (I x))):=Eh x h.1 h.2 W hW
theorem Fc (v:Value) (l:List ByteArray) (g:Nat) (lb:Array Value) (f:Nat→Int) (w:World) (hE:Env w) (h:SlS w v l) (hl:l.length≤1000) (hok:∀ i,i<l.length→okS (sAt l i)=true∧Bd 100 (zS (sAt l i))∧Bd 11 (f i))
  (hen:∀ (args:Array Value) (w:World),(callFunc g args).run Tryz.prog w=.ok (.enter g args) w)
  (hF:∀ (W:World) (i:Nat),i<l.length→Below w.heap.size w W→Calls Tryz.prog g (#[.int .i64 i]++lb) W (Rets W (.int .i64 (f i)))) :
  Calls Tryz.prog 52 #[v,.func (.func g) #[] lb] w (Rets w (.string (I (sumZ l f l.length)))):=by
 obtain ⟨a,cap,rfl⟩:=h.shape
 have H:=A8 h
 replace hok:=A8 hok
 replace hE:=A8 hE
 replace hF:=A8 hF
 have I0:I (sumZ l f 0)=⟨#[48]⟩:=by show I 0=_;unfold I;rw [Ao (by decide),Ap (by decide)];rfl
 obtain ⟨n,hn⟩:∃ n,n=l.length:=⟨_,rfl⟩
 rw [←hn] at hl ⊢
 replace hn:=A8 hn
 clear h
 go_enter Tryz.func52,Tryz.ntmps52
 go_wp2_with fail
 go_loopw [5,13] (fun x o wr=>∃ i:Nat,x=.string (I (sumZ l f i))∧o=.int .i64 i∧i≤n∧Hid (Below w.heap.size w wr)) (fun _ o _=>n-(intOf o).toNat)
 case atStart=>exact ⟨0,by rw [I0],rfl,by omega,A8 (Below.refl _ _)⟩
 case round =>
  clear I0
  obtain ⟨i,rfl,rfl,hi,hB⟩:=hrel
  by_cases hlt:i<n
  case neg =>
   have hlt':¬ (i:Int)<n:=by omega
   obtain rfl:i=n:=by omega
   go_wp2
   go_ret
   exact ⟨rfl,hB.out⟩
  case pos =>
   have hlt':(i:Int)<n:=by omega
   have hi0:(0:Int)≤i:=by omega
   obtain ⟨b,off,ha,hb,x0⟩:∃ b off,a=some ⟨b,off,none⟩∧b<w.heap.size∧w.cell? ⟨b,off+i,none⟩=some (.string (sAt l i)):=by
    rcases H.out with ⟨e,e2⟩ | ⟨b,off,cap',e,h1,h2,h3,h4⟩
    ·have:=hn.out;rw [e2] at this;simp at this;omega
    ·cases e
     have:=h4 i _ (Do (by rw [←hn.out];exact hlt))
     rw [Nat.mul_one] at this
     exact ⟨b,off,rfl,h3,this⟩
   subst ha
   replace x0:=(hB.out.cell (p:=⟨_,_,none⟩) hb).trans x0
   obtain ⟨k1,k2,k3⟩:=hok.out i (by rw [←hn.out];exact hlt)
   have hFi:=A8 (hF.out wr i (by rw [←hn.out];exact hlt) hB.out)
   have hsum:sumZ l f (i+1)=sumZ l f i+zS (sAt l i)*f i:=rfl
   have hS1:Small (sumZ l f (i+1)):=sum_small (by omega) (fun j hj=>(hok.out j (by rw [←hn.out];omega)).2)
   have hS0:Small (sumZ l f i):=sum_small (by omega) (fun j hj=>(hok.out j (by rw [←hn.out];omega)).2)
   have hSp:Small (zS (sAt l i)*f i):=(k2.mul k3).small (by decide)
   obtain ⟨s,hs⟩:∃ s,s=sAt l i:=⟨_,rfl⟩
   obtain ⟨fi,hfi⟩:∃ x,x=f i:=⟨_,rfl⟩
   rw [←hs,←hfi] at hsum hSp
   rw [←hs] at k1 k2 x0
   rw [←hfi] at hFi k3
   have hfit:-9223372036854775808≤fi∧fi≤9223372036854775807:=by unfold Bd at k3;omega
   have FI:=A8 (fun W (hW:Env W)=>Eh fi hfit.1 hfit.2 W hW)
   have MU:=A8 (fun W (hW:Env W)=>(by have:=Ev s (I fi) W hW;rw [k1,BS (k3.small (by decide)),BA,Bool.and_self,BE hSp] at this;exact this:Calls Tryz.prog 50 #[.string s,.string (I fi)] W (Gives W fun r _=>r=.tuple #[.string (I (zS s*fi)),.int .i64 0])))
   have AD:=A8 (fun W (hW:Env W)=>(by have:=JH (I (sumZ l f i)) (I (zS s*fi)) W hW;rw [BS hS0,BS hSp,BA,BA,Bool.and_self,←hsum,BE hS1] at this;exact this:Calls Tryz.prog 59 #[.string (I (sumZ l f i)),.string (I (zS s*fi))] W (Gives W fun r _=>r=.tuple #[.string (I (sumZ l f (i+1))),.int .i64 0])))
   have hz0:fi=0→I (sumZ l f i)=I (sumZ l f (i+1)):=fun e=>by rw [hsum,e,Int.mul_zero,Int.add_zero]
   generalize I (sumZ l f i)=out at *
   obtain ⟨out2,ho2⟩:∃ x,x=I (sumZ l f (i+1)):=⟨_,rfl⟩
   rw [←ho2] at AD hz0
   replace ho2:=A8 ho2
   replace hz0:=A8 hz0
   generalize I (zS s*fi)=pr at *
   clear hsum hS1 hS0 hSp k1 k2 k3 hs hfi
   go_wp2_with fail
   refine Calls.mono hFi.out ?_
   rintro e w1 ⟨rfl,hb1⟩
   have hB1:=A8 (hB.out.trans (hb1.mono hB.out.size))
   clear x0 hb1 hFi
   by_cases hf0:fi=0
   ·have hf1:(fi==0)=true:=by simp [hf0]
    have hf2:(fi != 0)=false:=by simp [hf0]
    have he:=hz0.out hf0
    clear FI MU AD hz0 hf0
    go_wp2_with fail
    go_roundw
    case rel=>exact ⟨i+1,by rw [ho2.out],by go_num,by omega,hB1⟩
    case measure=>simp [intOf];omega
   ·have hf1:(fi==0)=false:=by simp [hf0]
    have hf2:(fi != 0)=true:=by simp [hf0]
    go_wp2_with fail
    refine Calls.mono (FI.out _ (hE.out.below hB1.out (Aa _))) ?_
    rintro e w2 ⟨rfl,hb2⟩
    have hB2:=A8 (hB1.out.trans (hb2.mono hB1.out.size))
    go_wp2_with fail
    refine Calls.mono (MU.out _ (hE.out.below hB2.out (Aa _))) ?_
    rintro e w3 ⟨⟨r,rfl,rfl⟩,hb3⟩
    have hB3:=A8 (hB2.out.trans (hb3.mono hB2.out.size))
    go_wp2_with fail
    refine Calls.mono (AD.out _ (hE.out.below hB3.out (Aa _))) ?_
    rintro e w4 ⟨⟨r,rfl,rfl⟩,hb4⟩
    have hB4:=A8 (hB3.out.trans (hb4.mono hB3.out.size))
    clear hb2 hb3 hb4
    go_wp2_with fail
    go_roundw
    case rel=>exact ⟨i+1,by rw [ho2.out],by go_num,by omega,hB4⟩
    case measure=>simp [intOf];omega
def checkL (cols:Int) (rows:List (List Int×Int)) (nums:List ByteArray) (den:ByteArray):Bool :=
 validL cols rows&&formedL nums den&&((nums.length:Int)==cols)&&rows.all (fun r=>decide (sumZ nums (gi r.1) nums.length=zS den*r.2))
theorem I_inj6 {a b:Int} (h:I a=I b):a=b:=by rw [←BA a,h,BA]
theorem I_eq (a b:Int):((I a).toList==(I b).toList)=decide (a=b):=by
 by_cases h:a=b
 ·subst h;simp
 ·rw [decide_eq_false h,beq_eq_false_iff_ne]
  intro e
  refine h (I_inj6 ?_)
  rw [ByteArray.toList_eq,ByteArray.toList_eq] at e
  exact ByteArray.ext (Array.toList_inj.1 e)
theorem Bq {l:List ByteArray} {den:ByteArray} (h:formedL l den=true):l.length≤64∧(∀ i,i<l.length→okS (sAt l i)=true∧Bd 100 (zS (sAt l i))∧0≤zS (sAt l i))∧okS den=true∧Bd 100 (zS den)∧0<zS den:=by
 unfold formedL at h
 simp only [Bool.and_eq_true,decide_eq_true_eq,Bool.not_eq_true'] at h
 obtain ⟨⟨h1,h2⟩,h3,h4⟩:=h
 unfold numB at h3
 simp only [Bool.and_eq_true,decide_eq_true_eq] at h3
 refine ⟨h1,fun i hi=>?_,h3.1,h3.2,h4⟩
 rw [List.any_eq_false] at h2
 have:=h2 _ (JW hi)
 unfold badB numB at this
 simp only [Bool.or_eq_true,Bool.not_eq_true',Bool.and_eq_false_imp,decide_eq_true_eq,decide_eq_false_iff_not,not_or] at this
 obtain ⟨t1,t2⟩:=this
 refine ⟨?_,?_,by omega⟩
 ·refine Classical.byContradiction fun hc=>t1 fun hk=>absurd hk hc
 ·exact Classical.byContradiction fun hc=>t1 fun _=>hc
theorem Ih (coef:List Int) (cv:Value) (val:Int) (Be:Nat) (w:World) (h:Sl w cv coef) (k:Blk w Be #[cv,.int .i64 val] 60) (i:Nat) (hi:i<coef.length) :
  Calls Tryz.prog 53 #[.int .i64 i,.pointer (some ⟨Be,0,none⟩)] w (Rets w (.int .i64 (gi coef i))):=by
 rcases h with ⟨rfl,rfl⟩ | ⟨b,off,cap,rfl,h1,h2,h3,h4⟩
 ·simp at hi
 ·have x0:=h4 i hi
  have y0:w.cell? ⟨Be,0,none⟩=some (.slice (some ⟨b,off,none⟩) coef.length cap):=k.cell 0
  have hi':(i:Int)<coef.length:=by omega
  have hi0:(0:Int)≤i:=by omega
  generalize gi coef i=z at *
  generalize coef.length=n at *
  clear h4 k
  go_enter Tryz.func53,Tryz.ntmps53
  go_wp2
  go_ret
  exact ⟨rfl,Below.refl _ _⟩
theorem Js (nums:List ByteArray) (den:ByteArray) (nv:Value) (coef:List Int) (cv:Value) (val:Int) (Bv:Nat) (w:World) (hE:Env w) (hN:SlS w nv nums) (h:Sl w cv coef) (k:Blk w Bv #[nv,.string den] 30)
  (hlen:coef.length=nums.length) (hn:nums.length≤64) (hok:∀ i,i<nums.length→okS (sAt nums i)=true∧Bd 100 (zS (sAt nums i))) (hc:∀ x∈coef,-30000≤x∧x≤30000) (hd:okS den=true∧Bd 100 (zS den)) (hv:-1000000000≤val∧val≤1000000000) :
  Calls Tryz.prog 49 #[.agg #[cv,.int .i64 val],.pointer (some ⟨Bv,0,none⟩)] w (Rets w (.bool (!decide (sumZ nums (gi coef) nums.length=zS den*val)))):=by
 obtain ⟨V,hV,hS,z1⟩:=(show BL w [(Bv,#[nv,.string den],30)] w from ⟨Below.refl _ _,fun p hp=>by rcases List.mem_cons.1 hp with rfl | hp;exact k;cases hp⟩).add' #[cv,.int .i64 val] 60
 have hcb:=M0 (B:=30000) (by decide) hc
 have SU:=A8 (fun W (hW:BL w [(w.heap.size,#[cv,.int .i64 val],60),(Bv,#[nv,.string den],30)] W)=>Fc nv nums 53 #[.pointer (some ⟨w.heap.size,0,none⟩)] (gi coef) W (hW.env hE) (hN.below hW.below) (by omega) (fun i hi=>⟨(hok i hi).1,(hok i hi).2,bd11 (by have:=hcb i;omega)⟩) (Go.Proofs.enters_of Tryz.func53 (by kernel_rfl) rfl)
  (fun W' i hi hb=>Ih coef cv val w.heap.size W' ((h.below hW.below).below hb) ((hW.blks _ (.head _)).below hb) i (by omega)))
 have hvf:Fits val:=by unfold Fits;omega
 have hpr:Small (zS den*val):=(hd.2.mul (bd11 (x:=val) (by omega))).small (by decide)
 have FI:=A8 (fun W (hW:Env W)=>GO hvf W hW)
 have MU:=A8 (fun W (hW:Env W)=>mul_I hd.1 ((bd11 (x:=val) (by omega)).small (by decide)) hpr W hW)
 have hfe:=I_eq (sumZ nums (gi coef) nums.length) (zS den*val)
 generalize decide (sumZ nums (gi coef) nums.length=zS den*val)=bb at *
 generalize I (sumZ nums (gi coef) nums.length)=sx at *
 generalize I (zS den*val)=px at *
 generalize I val=vx at *
 obtain ⟨a,cap,rfl⟩:=hN.shape
 obtain ⟨a2,cap2,rfl⟩:=h.shape
 generalize nums.length=n at *
 generalize coef.length=m at *
 replace hE:=A8 hE
 clear hlen hn hok hc hd hv hcb hvf hpr k hN h z1
 go_enter Tryz.func49,Tryz.ntmps49
 go_upto_region 1 with fail
 rw [←hV]
 clear hV
 have hC:=A8 (show ∀ w',BL w [(w.heap.size,#[.slice a2 m cap2,.int .i64 val],60),(Bv,#[.slice a n cap,.string den],30)] w'→(w'.cell? ⟨w.heap.size,0,none⟩=some (.slice a2 m cap2)∧w'.cell? ⟨w.heap.size,1,none⟩=some (.int .i64 val)∧w'.cell? ⟨Bv,0,none⟩=some (.slice a n cap)∧w'.cell? ⟨Bv,1,none⟩=some (.string den)) from fun W' h=>⟨h.cell _ _ _ (.head _) 0,h.cell _ _ _ (.head _) 1,h.cell _ _ _ (.tail _ (.head _)) 0,h.cell _ _ _ (.tail _ (.head _)) 1⟩)
 obtain ⟨x0,x1,x2,x3⟩:=hC.out _ hS
 replace hS:=hS.drew
 go_region_held3 (fun w'=>w'.cell? ⟨w.heap.size,0,none⟩=some (.slice a2 m cap2)∧w'.cell? ⟨w.heap.size,1,none⟩=some (.int .i64 val)∧w'.cell? ⟨Bv,0,none⟩=some (.slice a n cap)∧w'.cell? ⟨Bv,1,none⟩=some (.string den))
  (first | with_reducible exact hC.out _ hS | go_keep)
  (first | (go_at_call 51;(with_reducible refine Calls.mono (FI.out _ (hS.env hE.out)) ?_);rintro e w' ⟨rfl,hb⟩;replace hS:=hS.call hb;clear hb) | (go_at_call 50;(with_reducible refine Calls.mono (MU.out _ (hS.env hE.out)) ?_);rintro e w' ⟨rfl,hb⟩;replace hS:=hS.call hb;clear hb))
 all_goals (clear x0 x1 x2 x3)
 obtain ⟨x0,x1,x2,x3⟩:=hC.out _ hS
 go_wp2_with fail
 refine Calls.mono (SU.out _ hS) ?_
 rintro e w4 ⟨rfl,hb⟩
 replace hS:=hS.call hb
 go_wp2
 go_ret
 exact ⟨Ae (by simp),hS.below⟩
theorem Cv (cols:Int) (rv nv:Value) (rows:List (List Int×Int)) (nums:List ByteArray) (den:ByteArray) (w:World) (hE:Env w) (hR:SlE w rv rows) (hN:SlS w nv nums) :
  Calls Tryz.prog 19 #[.agg #[.int .i64 cols,rv],.agg #[nv,.string den]] w (Rets w (.bool (checkL cols rows nums den))):=by
 obtain ⟨ar,capr,rfl⟩:=hR.shape
 obtain ⟨an,capn,rfl⟩:=hN.shape
 have HR:=A8 hR
 have HN:=A8 hN
 have VA:=A8 (fun W (hW:SlE W (.slice ar rows.length capr) rows)=>BG cols _ rows W hW)
 have FO:=A8 (fun W (hW:SlS W (.slice an nums.length capn) nums)=>Bw _ nums den W hW)
 unfold checkL
 cases hv:validL cols rows
 ·rw [hv] at VA
  clear hv hR hN
  generalize rows.length=nr at *
  generalize nums.length=nn at *
  obtain ⟨V1,e1,S1,z1⟩:=(BL.start w).add' #[.int .i64 cols,.slice ar nr capr] 27
  obtain ⟨V2,e2,hS,z2⟩:=S1.add' #[.slice an nn capn,.string den] 30
  rw [z1] at hS
  have hV:V2=(w.alloc (.cells #[.int .i64 cols,.slice ar nr capr] 27)).alloc (.cells #[.slice an nn capn,.string den] 30):=by rw [e2,e1]
  clear e1 e2 S1 z1 z2
  obtain ⟨x0,x1⟩:=hS.c2 w.heap.size _ _ _ (.tail _ (.head _))
  obtain ⟨y0,y1⟩:=hS.c2 (w.heap.size+1) _ _ _ (.head _)
  go_enter Tryz.func19,Tryz.ntmps19
  go_upto_region 1 with fail
  rw [←hV]
  clear hV
  go_wp2_with fail
  refine Calls.mono (VA.out _ (HR.out.below hS.below)) ?_
  rintro e w1 ⟨rfl,hb⟩
  replace hS:=hS.call hb
  clear x0 x1 y0 y1 hb
  obtain ⟨x0,x1⟩:=hS.c2 w.heap.size _ _ _ (.tail _ (.head _))
  obtain ⟨y0,y1⟩:=hS.c2 (w.heap.size+1) _ _ _ (.head _)
  go_wp2
  go_ret
  exact ⟨Ae (by simp),hS.below⟩
 cases hf:formedL nums den
 ·rw [hv] at VA
  rw [hf] at FO
  clear hv hf hR hN
  generalize rows.length=nr at *
  generalize nums.length=nn at *
  obtain ⟨V1,e1,S1,z1⟩:=(BL.start w).add' #[.int .i64 cols,.slice ar nr capr] 27
  obtain ⟨V2,e2,hS,z2⟩:=S1.add' #[.slice an nn capn,.string den] 30
  rw [z1] at hS
  have hV:V2=(w.alloc (.cells #[.int .i64 cols,.slice ar nr capr] 27)).alloc (.cells #[.slice an nn capn,.string den] 30):=by rw [e2,e1]
  clear e1 e2 S1 z1 z2
  obtain ⟨x0,x1⟩:=hS.c2 w.heap.size _ _ _ (.tail _ (.head _))
  obtain ⟨y0,y1⟩:=hS.c2 (w.heap.size+1) _ _ _ (.head _)
  go_enter Tryz.func19,Tryz.ntmps19
  go_upto_region 1 with fail
  rw [←hV]
  clear hV
  go_wp2_with fail
  refine Calls.mono (VA.out _ (HR.out.below hS.below)) ?_
  rintro e w1 ⟨rfl,hb⟩
  replace hS:=hS.call hb
  clear x0 x1 y0 y1 hb
  obtain ⟨x0,x1⟩:=hS.c2 w.heap.size _ _ _ (.tail _ (.head _))
  obtain ⟨y0,y1⟩:=hS.c2 (w.heap.size+1) _ _ _ (.head _)
  go_wp2_with fail
  refine Calls.mono (FO.out _ (HN.out.below hS.below)) ?_
  rintro e w2 ⟨rfl,hb⟩
  replace hS:=hS.call hb
  clear x0 x1 y0 y1 hb
  obtain ⟨x0,x1⟩:=hS.c2 w.heap.size _ _ _ (.tail _ (.head _))
  obtain ⟨y0,y1⟩:=hS.c2 (w.heap.size+1) _ _ _ (.head _)
  go_wp2
  go_ret
  exact ⟨Ae (by simp),hS.below⟩
 by_cases hl:(nums.length:Int)=cols
 ·have hl1:((nums.length:Int)==cols)=true:=by simp [hl]
  have hl2:((nums.length:Int) != cols)=false:=by simp [hl]
  obtain ⟨p1,p2,p3,p4⟩:=AQ hv
  obtain ⟨q1,q2,q3,q4,q5⟩:=Bq hf
  have CE:=A8 (fun W (hW:BL w [(w.heap.size+1,#[.slice an nums.length capn,.string den],30),(w.heap.size,#[.int .i64 cols,.slice ar rows.length capr],27)] W)=>De (.slice ar rows.length capr) rows 49 #[.pointer (some ⟨w.heap.size+1,0,none⟩)] (fun r=>!decide (sumZ nums (gi r.1) nums.length=zS den*r.2)) W (hR.below hW.below) (Go.Proofs.enters_of Tryz.func49 (by kernel_rfl) rfl)
   (fun W' x v hx hb hv'=>Js nums den (.slice an nums.length capn) x.1 v x.2 (w.heap.size+1) W' ((hW.call hb).env hE) ((hN.below hW.below).below hb) hv' ((hW.blks _ (.head _)).below hb) (by have:=(p4 x hx).1;omega) q1 (fun i hi=>⟨(q2 i hi).1,(q2 i hi).2.1⟩) (p4 x hx).2.1 ⟨q3,q4⟩ (p4 x hx).2.2))
  rw [hv] at VA
  rw [hf] at FO
  rw [hl1]
  have hall:(!rows.any fun r=>!decide (sumZ nums (gi r.1) nums.length=zS den*r.2))=rows.all (fun r=>decide (sumZ nums (gi r.1) nums.length=zS den*r.2)):=by
   rw [List.not_any_eq_all_not];simp
  rw [←hall]
  clear hall
  generalize (rows.any fun r=>!decide (sumZ nums (gi r.1) nums.length=zS den*r.2))=bb at *
  clear hv hf hR hN p4 q2 hl
  generalize rows.length=nr at *
  generalize nums.length=nn at *
  obtain ⟨V1,e1,S1,z1⟩:=(BL.start w).add' #[.int .i64 cols,.slice ar nr capr] 27
  obtain ⟨V2,e2,hS,z2⟩:=S1.add' #[.slice an nn capn,.string den] 30
  rw [z1] at hS
  have hV:V2=(w.alloc (.cells #[.int .i64 cols,.slice ar nr capr] 27)).alloc (.cells #[.slice an nn capn,.string den] 30):=by rw [e2,e1]
  clear e1 e2 S1 z1 z2
  obtain ⟨x0,x1⟩:=hS.c2 w.heap.size _ _ _ (.tail _ (.head _))
  obtain ⟨y0,y1⟩:=hS.c2 (w.heap.size+1) _ _ _ (.head _)
  go_enter Tryz.func19,Tryz.ntmps19
  go_upto_region 1 with fail
  rw [←hV]
  clear hV
  go_wp2_with fail
  refine Calls.mono (VA.out _ (HR.out.below hS.below)) ?_
  rintro e w1 ⟨rfl,hb⟩
  replace hS:=hS.call hb
  clear x0 x1 y0 y1 hb
  obtain ⟨x0,x1⟩:=hS.c2 w.heap.size _ _ _ (.tail _ (.head _))
  obtain ⟨y0,y1⟩:=hS.c2 (w.heap.size+1) _ _ _ (.head _)
  go_wp2_with fail
  refine Calls.mono (FO.out _ (HN.out.below hS.below)) ?_
  rintro e w2 ⟨rfl,hb⟩
  replace hS:=hS.call hb
  clear x0 x1 y0 y1 hb
  obtain ⟨x0,x1⟩:=hS.c2 w.heap.size _ _ _ (.tail _ (.head _))
  obtain ⟨y0,y1⟩:=hS.c2 (w.heap.size+1) _ _ _ (.head _)
  go_wp2_with fail
  refine Calls.mono (CE.out _ hS) ?_
  rintro e w3 ⟨rfl,hb⟩
  replace hS:=hS.call hb
  go_wp2
  go_ret
  exact ⟨Ae (by simp),hS.below⟩
 ·have hl1:((nums.length:Int)==cols)=false:=by simp [hl]
  have hl2:((nums.length:Int) != cols)=true:=by simp [hl]
  rw [hv] at VA
  rw [hf] at FO
  rw [hl1]
  clear hv hf hR hN hl
  generalize rows.length=nr at *
  generalize nums.length=nn at *
  obtain ⟨V1,e1,S1,z1⟩:=(BL.start w).add' #[.int .i64 cols,.slice ar nr capr] 27
  obtain ⟨V2,e2,hS,z2⟩:=S1.add' #[.slice an nn capn,.string den] 30
  rw [z1] at hS
  have hV:V2=(w.alloc (.cells #[.int .i64 cols,.slice ar nr capr] 27)).alloc (.cells #[.slice an nn capn,.string den] 30):=by rw [e2,e1]
  clear e1 e2 S1 z1 z2
  obtain ⟨x0,x1⟩:=hS.c2 w.heap.size _ _ _ (.tail _ (.head _))
  obtain ⟨y0,y1⟩:=hS.c2 (w.heap.size+1) _ _ _ (.head _)
  go_enter Tryz.func19,Tryz.ntmps19
  go_upto_region 1 with fail
  rw [←hV]
  clear hV
  go_wp2_with fail
  refine Calls.mono (VA.out _ (HR.out.below hS.below)) ?_
  rintro e w1 ⟨rfl,hb⟩
  replace hS:=hS.call hb
  clear x0 x1 y0 y1 hb
  obtain ⟨x0,x1⟩:=hS.c2 w.heap.size _ _ _ (.tail _ (.head _))
  obtain ⟨y0,y1⟩:=hS.c2 (w.heap.size+1) _ _ _ (.head _)
  go_wp2_with fail
  refine Calls.mono (FO.out _ (HN.out.below hS.below)) ?_
  rintro e w2 ⟨rfl,hb⟩
  replace hS:=hS.call hb
  clear x0 x1 y0 y1 hb
  obtain ⟨x0,x1⟩:=hS.c2 w.heap.size _ _ _ (.tail _ (.head _))
  obtain ⟨y0,y1⟩:=hS.c2 (w.heap.size+1) _ _ _ (.head _)
  go_wp2
  go_ret
  exact ⟨Ae (by simp),hS.below⟩
def refutesL (cols:Int) (rows:List (List Int×Int)) (ws:List ByteArray):Bool :=
 validL cols rows&&((ws.length:Int)==rows.length)&&!(ws.any fun s=>!numB s)&&(List.range cols.toNat).all (fun k=>decide (0≤sumZ ws (fun i=>gi (rowOf rows i).1 k) ws.length))&&decide (sumZ ws (fun i=>(rowOf rows i).2) ws.length<0)
theorem DM {rows:List (List Int×Int)} {i:Nat} (h:i<rows.length):rows[i]? = some (rowOf rows i):=by unfold rowOf;rw [List.getElem?_eq_getElem h];rfl
theorem C0 {rows:List (List Int×Int)} {i:Nat} (h:i<rows.length):rowOf rows i∈rows:=List.mem_of_getElem? (DM h)
theorem Gb {z:Int} (h:Small z):∃ s,s=I z∧∃ h0:0<s.size,(((s[0]).toNat:Int)==45)=decide (z<0):=by
 refine ⟨I z,rfl,?_⟩
 have:=Dl (BS h)
 rwa [BA] at this
theorem M7 (cols:Int) (rows:List (List Int×Int)) (rv:Value) (Bs Bk k:Nat) (w:World) (h:SlE w rv rows) (k1:Blk w Bs #[.int .i64 cols,rv] 27) (k2:Blk w Bk #[.int .i64 k] 3) (i:Nat) (hi:i<rows.length) (hk:k<(rowOf rows i).1.length) :
  Calls Tryz.prog 70 #[.int .i64 i,.pointer (some ⟨Bs,0,none⟩),.pointer (some ⟨Bk,0,none⟩)] w (Rets w (.int .i64 (gi (rowOf rows i).1 k))):=by
 rcases h with ⟨rfl,rfl⟩ | ⟨b,off,cap,rfl,h1,h2,h3,h4⟩
 ·simp at hi
 ·obtain ⟨cv,c0,hcs,c1⟩:=h4 i _ (DM hi)
  rcases hcs with ⟨rfl,e2⟩ | ⟨b2,off2,cap2,rfl,g1,g2,g3,g4⟩
  ·rw [e2] at hk;simp at hk
  ·have d0:=g4 k hk
   have x0:w.cell? ⟨Bs,1,none⟩=some (.slice (some ⟨b,off,none⟩) rows.length cap):=k1.cell 1
   have x1:w.cell? ⟨Bk,0,none⟩=some (.int .i64 k):=k2.cell 0
   have hi':(i:Int)<rows.length:=by omega
   have hk':(k:Int)<(rowOf rows i).1.length:=by omega
   have hi0:(0:Int)≤i:=by omega
   have hk0:(0:Int)≤k:=by omega
   generalize gi (rowOf rows i).1 k=z at *
   generalize (rowOf rows i).1.length=nc at *
   clear h4 g4 k1 k2 c1
   have hC:=A8 (show ∀ w',Below w.heap.size w w'→True from fun _ _=>trivial)
   go_enter Tryz.func70,Tryz.ntmps70
   go_upto_region 1 with fail
   go_region_held3 (fun w'=>w'.cell? ⟨Bs,1,none⟩=some (.slice (some ⟨b,off,none⟩) rows.length cap)∧w'.cell? ⟨Bk,0,none⟩=some (.int .i64 k)∧w'.cell? ⟨b,off+i*2,none⟩=some (.slice (some ⟨b2,off2,none⟩) nc cap2)∧w'.cell? ⟨b2,off2+k,none⟩=some (.int .i64 z))
    (first | go_keep)
    (fail)
   all_goals go_wp2
   all_goals go_ret
   all_goals exact ⟨rfl,Ac w 1⟩
theorem M8 (cols:Int) (rows:List (List Int×Int)) (rv:Value) (Bs:Nat) (w:World) (h:SlE w rv rows) (k1:Blk w Bs #[.int .i64 cols,rv] 27) (i:Nat) (hi:i<rows.length) :
  Calls Tryz.prog 71 #[.int .i64 i,.pointer (some ⟨Bs,0,none⟩)] w (Rets w (.int .i64 (rowOf rows i).2)):=by
 rcases h with ⟨rfl,rfl⟩ | ⟨b,off,cap,rfl,h1,h2,h3,h4⟩
 ·simp at hi
 ·obtain ⟨cv,c0,hcs,c1⟩:=h4 i _ (DM hi)
  have x0:w.cell? ⟨Bs,1,none⟩=some (.slice (some ⟨b,off,none⟩) rows.length cap):=k1.cell 1
  have hi':(i:Int)<rows.length:=by omega
  have hi0:(0:Int)≤i:=by omega
  generalize (rowOf rows i).2=z at *
  clear h4 k1 hcs
  go_enter Tryz.func71,Tryz.ntmps71
  go_wp2
  go_ret
  exact ⟨rfl,Below.refl _ _⟩
theorem M9 (s:ByteArray) (w:World):Calls Tryz.prog 69 #[.string s] w (Rets w (.bool (!numB s))):=by
 have IN:=A8 (fun W=>CJ s W)
 generalize numB s=b at *
 go_enter Tryz.func69,Tryz.ntmps69
 go_wp2_with fail
 refine Calls.mono (IN.out _) ?_
 rintro e w1 ⟨rfl,hb⟩
 go_wp2
 go_ret
 exact ⟨rfl,hb⟩
theorem AZ (cols:Int) (rv wv:Value) (rows:List (List Int×Int)) (ws:List ByteArray) (w:World) (hE:Env w) (hR:SlE w rv rows) (hW:SlS w wv ws) :
  Calls Tryz.prog 28 #[.agg #[.int .i64 cols,rv],wv] w (Rets w (.bool (refutesL cols rows ws))):=by
 obtain ⟨ar,capr,rfl⟩:=hR.shape
 obtain ⟨aw,capw,rfl⟩:=hW.shape
 have hlw:ws.length≤maxLen:=hW.len_le
 unfold maxLen at hlw
 have HR:=A8 hR
 have HW:=A8 hW
 have VA:=A8 (fun W (hW:SlE W (.slice ar rows.length capr) rows)=>BG cols _ rows W hW)
 have CS:=A8 (fun W (hW:SlS W (.slice aw ws.length capw) ws)=>Dd _ ws 69 #[] (fun s=>!numB s) W hW (Go.Proofs.enters_of Tryz.func69 (by kernel_rfl) rfl) (fun W x _ _=>by rw [Array.append_empty];exact M9 x W))
 unfold refutesL
 cases hv:validL cols rows
 ·rw [hv] at VA
  clear hv hR hW
  generalize rows.length=nr at *
  generalize ws.length=nw at *
  obtain ⟨V,hV,hS,z1⟩:=(BL.start w).add' #[.int .i64 cols,.slice ar nr capr] 27
  clear z1
  obtain ⟨x0,x1⟩:=hS.c2 w.heap.size _ _ _ (.head _)
  go_enter Tryz.func28,Tryz.ntmps28
  go_upto_region 1 with fail
  rw [←hV]
  clear hV
  go_wp2_with fail
  refine Calls.mono (VA.out _ (HR.out.below hS.below)) ?_
  rintro e w1 ⟨rfl,hb⟩
  replace hS:=hS.call hb
  clear x0 x1 hb
  obtain ⟨x0,x1⟩:=hS.c2 w.heap.size _ _ _ (.head _)
  go_wp2
  go_ret
  exact ⟨Ae (by simp),hS.below⟩
 by_cases hl:ws.length=rows.length
 case neg =>
  have hl1:((ws.length:Int)==rows.length)=false:=by simp;omega
  have hl2:((ws.length:Int) != rows.length)=true:=by simp;omega
  rw [hv] at VA
  rw [hl1]
  clear hv hR hW hl
  generalize rows.length=nr at *
  generalize ws.length=nw at *
  obtain ⟨V,hV,hS,z1⟩:=(BL.start w).add' #[.int .i64 cols,.slice ar nr capr] 27
  clear z1
  obtain ⟨x0,x1⟩:=hS.c2 w.heap.size _ _ _ (.head _)
  go_enter Tryz.func28,Tryz.ntmps28
  go_upto_region 1 with fail
  rw [←hV]
  clear hV
  go_wp2_with fail
  refine Calls.mono (VA.out _ (HR.out.below hS.below)) ?_
  rintro e w1 ⟨rfl,hb⟩
  replace hS:=hS.call hb
  clear x0 x1 hb
  obtain ⟨x0,x1⟩:=hS.c2 w.heap.size _ _ _ (.head _)
  go_wp2
  go_ret
  exact ⟨Ae (by simp),hS.below⟩
 case pos =>
  have hl1:((ws.length:Int)==rows.length)=true:=by simp [hl]
  have hl2:((ws.length:Int) != rows.length)=false:=by simp [hl]
  rw [hl1]
  cases ha:(ws.any fun s=>!numB s)
  case true =>
   rw [hv] at VA
   rw [ha] at CS
   clear hv hR hW hl ha
   generalize rows.length=nr at *
   generalize ws.length=nw at *
   obtain ⟨V,hV,hS,z1⟩:=(BL.start w).add' #[.int .i64 cols,.slice ar nr capr] 27
   clear z1
   obtain ⟨x0,x1⟩:=hS.c2 w.heap.size _ _ _ (.head _)
   go_enter Tryz.func28,Tryz.ntmps28
   go_upto_region 1 with fail
   rw [←hV]
   clear hV
   go_wp2_with fail
   refine Calls.mono (VA.out _ (HR.out.below hS.below)) ?_
   rintro e w1 ⟨rfl,hb⟩
   replace hS:=hS.call hb
   clear x0 x1 hb
   obtain ⟨x0,x1⟩:=hS.c2 w.heap.size _ _ _ (.head _)
   go_wp2_with fail
   refine Calls.mono (CS.out _ (HW.out.below hS.below)) ?_
   rintro e w2 ⟨rfl,hb⟩
   replace hS:=hS.call hb
   clear x0 x1 hb
   obtain ⟨x0,x1⟩:=hS.c2 w.heap.size _ _ _ (.head _)
   go_wp2
   go_ret
   exact ⟨Ae (by simp),hS.below⟩
  case false =>
   obtain ⟨p1,p2,p3,p4⟩:=AQ hv
   obtain ⟨nc,hnc⟩:∃ nc:Nat,cols=nc:=⟨cols.toNat,by omega⟩
   subst hnc
   have hnum:∀ i,i<ws.length→okS (sAt ws i)=true∧Bd 100 (zS (sAt ws i)):=fun i hi=>by
    rw [List.any_eq_false] at ha
    have:=ha _ (JW hi)
    simp only [Bool.not_eq_true',Bool.not_eq_false] at this
    unfold numB at this
    simpa using this
   have hb2:∀ (k i:Nat),i<ws.length→okS (sAt ws i)=true∧Bd 100 (zS (sAt ws i))∧Bd 11 (gi (rowOf rows i).1 k):=fun k i hi=>⟨(hnum i hi).1,(hnum i hi).2,bd11 (by have:=M0 (B:=30000) (by decide) (p4 _ (C0 (by omega:i<rows.length))).2.1 k;omega)⟩
   have hb3:∀ i,i<ws.length→okS (sAt ws i)=true∧Bd 100 (zS (sAt ws i))∧Bd 11 (rowOf rows i).2:=fun i hi=>⟨(hnum i hi).1,(hnum i hi).2,bd11 (by have:=(p4 _ (C0 (by omega:i<rows.length))).2.2;omega)⟩
   have S2:=A8 (fun (k Bk:Nat) (hk:k<nc) W (hS:BL w [(Bk,#[.int .i64 k],3),(w.heap.size,#[.int .i64 (nc:Int),.slice ar rows.length capr],27)] W)=>Fc (.slice aw ws.length capw) ws 70 #[.pointer (some ⟨w.heap.size,0,none⟩),.pointer (some ⟨Bk,0,none⟩)] (fun i=>gi (rowOf rows i).1 k) W (hS.env hE) (hW.below hS.below) (by omega) (hb2 k) (Go.Proofs.enters_of Tryz.func70 (by kernel_rfl) rfl)
    (fun W' i hi hb=>M7 nc rows _ w.heap.size Bk k W' ((hR.below hS.below).below hb) ((hS.blks _ (.tail _ (.head _))).below hb) ((hS.blks _ (.head _)).below hb) i (by omega) (by have:=(p4 _ (C0 (by omega:i<rows.length))).1;omega)))
   have S3:=A8 (fun W (hS:BL w [(w.heap.size,#[.int .i64 (nc:Int),.slice ar rows.length capr],27)] W)=>Fc (.slice aw ws.length capw) ws 71 #[.pointer (some ⟨w.heap.size,0,none⟩)] (fun i=>(rowOf rows i).2) W (hS.env hE) (hW.below hS.below) (by omega) hb3 (Go.Proofs.enters_of Tryz.func71 (by kernel_rfl) rfl)
    (fun W' i hi hb=>M8 nc rows _ w.heap.size W' ((hR.below hS.below).below hb) ((hS.blks _ (.head _)).below hb) i (by omega)))
   have G2:=A8 (fun k=>Gb (z:=sumZ ws (fun i=>gi (rowOf rows i).1 k) ws.length) (sum_small (by omega) (fun i hi=>(hb2 k i hi).2)))
   have G3:=Gb (z:=sumZ ws (fun i=>(rowOf rows i).2) ws.length) (sum_small (by omega) (fun i hi=>(hb3 i hi).2))
   rw [show ((nc:Int)).toNat=nc from Int.toNat_natCast nc]
   obtain ⟨F,hF⟩:∃ F:Nat→Int,F=fun k=>sumZ ws (fun i=>gi (rowOf rows i).1 k) ws.length:=⟨_,rfl⟩
   have hF':∀ k,sumZ ws (fun i=>gi (rowOf rows i).1 k) ws.length=F k:=fun k=>by rw [hF]
   simp only [hF'] at S2 G2 ⊢
   generalize sumZ ws (fun i=>(rowOf rows i).2) ws.length=z3 at *
   have hpost:Hid (∀ (b:Bool) k,(b=false∧k<nc∧F k<0)∨(b=decide (z3<0)∧∀ j,j<nc→0≤F j)→((true&&true&&!false&&(List.range nc).all (fun k=>decide (0≤F k))&&decide (z3<0))=b)):=A8 (fun b k h=>by
    rcases h with ⟨rfl,h1,h2⟩ | ⟨rfl,h1⟩
    ·have:(List.range nc).all (fun k=>decide (0≤F k))=false:=by
      rw [List.all_eq_false]
      exact ⟨k,List.mem_range.2 h1,by simp;omega⟩
     rw [this];simp
    ·have:(List.range nc).all (fun k=>decide (0≤F k))=true:=by
      rw [List.all_eq_true]
      intro j hj
      exact decide_eq_true (h1 j (List.mem_range.1 hj))
     rw [this];simp)
   rw [hv] at VA
   rw [ha] at CS
   clear hv hR hW hl ha hnum hb2 hb3 p4 hF hF'
   generalize rows.length=nr at *
   generalize ws.length=nw at *
   obtain ⟨V,hV,hS,z1⟩:=(BL.start w).add' #[.int .i64 (nc:Int),.slice ar nr capr] 27
   clear z1
   obtain ⟨x0,x1⟩:=hS.c2 w.heap.size _ _ _ (.head _)
   go_enter Tryz.func28,Tryz.ntmps28
   go_upto_region 1 with fail
   rw [←hV]
   clear hV
   go_wp2_with fail
   refine Calls.mono (VA.out _ (HR.out.below hS.below)) ?_
   rintro e w1 ⟨rfl,hb⟩
   replace hS:=hS.call hb
   clear x0 x1 hb
   obtain ⟨x0,x1⟩:=hS.c2 w.heap.size _ _ _ (.head _)
   go_wp2_with fail
   refine Calls.mono (CS.out _ (HW.out.below hS.below)) ?_
   rintro e w2 ⟨rfl,hb⟩
   replace hS:=hS.call hb
   clear x0 x1 hb
   obtain ⟨x0,x1⟩:=hS.c2 w.heap.size _ _ _ (.head _)
   go_wp2_with fail
   clear x0 x1
   go_loopw [23] (fun o wr=>∃ k:Nat,o=.int .i64 k∧k≤nc∧Hid (∀ j,j<k→0≤F j)∧BL w [(w.heap.size,#[.int .i64 (nc:Int),.slice ar nr capr],27)] wr) (fun o _=>nc-(intOf o).toNat)
   case atStart=>exact ⟨0,rfl,by omega,A8 (fun j hj=>absurd hj (by omega)),hS⟩
   case round =>
    clear hS
    obtain ⟨k,rfl,hk,hall,hS⟩:=hrel
    by_cases hkn:k<nc
    case pos =>
     have hkn':(k:Int)<nc:=by omega
     go_upto_region 6 with fail
     obtain ⟨W5,hW5,S5,z5⟩:=hS.add' #[.int .i64 k] 3
     rw [←hW5]
     clear hW5 z5
     have hSU:=A8 (S2.out k _ hkn W5 S5)
     obtain ⟨sx,hsx,h0,hfb⟩:=G2.out k
     rw [←hsx] at hSU
     clear hsx
     by_cases hneg:F k<0
     ·rw [decide_eq_true hneg] at hfb
      go_wp2_with fail
      refine Calls.mono hSU.out ?_
      rintro e w6 ⟨rfl,hb⟩
      have hBf:=(S5.call hb).below
      go_wp2
      go_ret
      exact ⟨Ae (hpost.out false k (.inl ⟨rfl,hkn,hneg⟩)).symm,hBf⟩
     ·rw [decide_eq_false hneg] at hfb
      go_wp2_with fail
      refine Calls.mono hSU.out ?_
      rintro e w6 ⟨rfl,hb⟩
      have S6:=(S5.call hb).drop (M:=[(w.heap.size,#[.int .i64 (nc:Int),.slice ar nr capr],27)]) (fun p hp=>.tail _ hp)
      have hall2:=A8 (show ∀ j,j<k+1→0≤F j from fun j hj=>by
       by_cases e:j=k
       ·subst e;omega
       ·exact hall.out j (by omega))
      clear hb S5 hS hneg hall
      go_wp2_with fail
      go_roundw
      case rel=>exact ⟨k+1,by go_num,by omega,hall2,S6⟩
      case measure=>simp [intOf];omega
    case neg =>
     have hkn':¬ (k:Int)<nc:=by omega
     obtain rfl:k=nc:=by omega
     have hSU:=A8 (S3.out wr hS)
     obtain ⟨sx,hsx,h0,hfb⟩:=G3
     rw [←hsx] at hSU
     clear hsx
     obtain ⟨b3,hb3⟩:∃ b,b=decide (z3<0):=⟨_,rfl⟩
     rw [←hb3] at hfb
     have hb3':=A8 hb3
     clear hb3
     go_wp2_with fail
     refine Calls.mono hSU.out ?_
     rintro e w6 ⟨rfl,hb⟩
     have hBf:=(hS.call hb).below
     go_wp2
     go_ret
     exact ⟨Ae (by rw [hpost.out b3 0 (.inr ⟨hb3'.out,hall.out⟩)]),hBf⟩
end
section
open Go.RowKit
structure RowsAt (w:World) (sb so:Nat) (rows:List (List Int×Int)) (c:Nat):Prop where
 lt:sb<w.heap.size
 row:∀ i,i<rows.length→∃ cb co cc,w.cell? ⟨sb,so+i*2,none⟩=some (.slice (some ⟨cb,co,none⟩) c cc)∧Sl w (.slice (some ⟨cb,co,none⟩) c cc) (rowOf rows i).1∧cb<w.heap.size∧(∀ k,k<c→w.cell? ⟨cb,co+k,none⟩=some (.int .i64 (gi (rowOf rows i).1 k)))∧w.cell? ⟨sb,so+i*2+1,none⟩=some (.int .i64 (rowOf rows i).2)
theorem rows_at {w:World} {v:Value} {rows:List (List Int×Int)} {c:Nat} (h:SlE w v rows) (h0:0<rows.length) (hc:0<c) (hl:∀ r∈rows,r.1.length=c):∃ sb so mc,v=.slice (some ⟨sb,so,none⟩) rows.length mc∧RowsAt w sb so rows c:=by
 rcases h with ⟨_,rfl⟩ | ⟨sb,so,mc,rfl,k1,k2,k3,k4⟩
 ·simp at h0
 refine ⟨sb,so,mc,rfl,k3,fun i hi=>?_⟩
 obtain ⟨u,c1,c2,c3⟩:=k4 i _ (DM hi)
 have hlen:=hl _ (C0 hi)
 have c2':=c2
 rcases c2 with ⟨_,e⟩ | ⟨cb,co,cc,rfl,q1,q2,q3,q4⟩
 ·rw [e] at hlen;simp at hlen;omega
 ·rw [hlen] at c1 q4 c2'
  exact ⟨cb,co,cc,c1,c2',q3,q4,c3⟩
theorem RowsAt.below {w W:World} {sb so:Nat} {rows:List (List Int×Int)} {c:Nat} (h:RowsAt w sb so rows c) (hb:Below w.heap.size w W):RowsAt W sb so rows c :=
 ⟨A9 h.lt hb.size,fun i hi=>by
  obtain ⟨cb,co,cc,h1,h2,h3,h4,h5⟩:=h.row i hi
  exact ⟨cb,co,cc,(hb.cell (p:=⟨_,_,none⟩) h.lt).trans h1,h2.below hb,A9 h3 hb.size,fun k hk=>(hb.cell (p:=⟨_,_,none⟩) h3).trans (h4 k hk),(hb.cell (p:=⟨_,_,none⟩) h.lt).trans h5⟩⟩
end
section
namespace LnM
def Kb:Int:=10 ^ 98
theorem Ez {z:Int} (h:(z.natAbs:Int)≤19*(Kb*Kb)):Wide z:=by
 have hp:2*(19*(Kb*Kb))<P 12:=by unfold Kb;decide
 unfold Wide
 omega
theorem Kb_pos:1≤Kb:=by unfold Kb;decide
theorem KK:Kb≤Kb*Kb:=by unfold Kb;decide
theorem Dq {a b x y:Int} (ha:(a.natAbs:Int)≤x) (hb:(b.natAbs:Int)≤y):((a*b).natAbs:Int)≤x*y:=by
 rw [Int.natAbs_mul,Int.natCast_mul]
 exact Int.mul_le_mul ha hb (by omega) (by omega)
structure Sys.Low (s:Sys):Prop where
 m:s.m≤18
 d:∀ B,s.Inv B→((s.d B).natAbs:Int)≤Kb
 T:∀ B,s.Inv B→∀ i,i<s.m→∀ j,j≤s.n+s.m→((s.T B i j).natAbs:Int)≤Kb
theorem Sys.Low.C {s:Sys} (h:s.Low) {B:Nat→Nat} (hI:s.Inv B) {j:Nat} (hj:j≤s.n+s.m):((s.C B j).natAbs:Int)≤19*Kb:=by
 have h1:=bd_C (s:=s) (X:=Kb) (B:=B) (j:=j) (h.d B hI) (fun i hi=>h.T B hI i hi j hj)
 have h2:=h.m
 have h3:((s.m:Int)+1)*Kb≤19*Kb:=Int.mul_le_mul_of_nonneg_right (by omega) (by have:=Kb_pos;omega)
 omega
theorem Sys.Low.of_bd {s:Sys} {A V:Int} (h:s.Bd A V) (hm:s.m≤18) (h1:A ^ s.m≤Kb) (h2:0<s.m→A ^ (s.m-1)*V≤Kb):s.Low:=by
 refine ⟨hm,fun B hI=>Int.le_trans (bd_d h hI.bas) h1,fun B hI i hi j hj=>?_⟩
 by_cases e:j=s.n+s.m
 ·subst e;exact Int.le_trans (bd_Tv h hI.bas hi) (h2 (by omega))
 ·exact Int.le_trans (bd_T h hI.bas hi (by omega)) h1
end LnM
open LnM
theorem low_wd {s:LnM.Sys} (h:s.Low):SysWd s:=by
 have k0:=Kb_pos
 have kk:=KK
 have w1:∀ {z:Int},(z.natAbs:Int)≤19*Kb→Wide z:=fun hz=>Ez (by omega)
 have w2:∀ {a b:Int},(a.natAbs:Int)≤Kb→(b.natAbs:Int)≤19*Kb→Wide (a*b):=fun {a b} ha hb=>Ez (by
  have:=Dq ha hb
  rw [show Kb*(19*Kb)=19*(Kb*Kb) by rw [←Int.mul_assoc,Int.mul_comm Kb 19,Int.mul_assoc]] at this
  exact this)
 refine ⟨fun B hI=>w1 (by have:=h.d B hI;omega),fun B hI i hi j hj=>w1 (by have:=h.T B hI i hi j hj;omega),fun B hI j hj=>w1 (h.C hI hj),fun B hI i r k hi hr hk=>?_,fun B r k hI hl hk i hi j hj=>?_,fun B r k hI hl hk j hj=>?_⟩
 ·have a1:=Dq (h.T B hI i hi _ (Aa _)) (h.T B hI r hr k hk)
  have a2:=Dq (h.T B hI r hr _ (Aa _)) (h.T B hI i hi k hk)
  refine Ez ?_
  generalize s.T B i (s.n+s.m)*s.T B r k=a at *
  generalize s.T B r (s.n+s.m)*s.T B i k=b at *
  generalize Kb*Kb=q at *
  omega
 ·exact w2 (h.d B hI) (by have:=h.T _ (hI.pivot hk hl) i hi j hj;omega)
 ·exact w2 (h.d B hI) (h.C (hI.pivot hk hl) hj)
theorem low_tx {s:LnM.Sys} (h:s.Low):SysTx s:=by
 have k0:=Kb_pos
 have kk:=KK
 have w1:∀ {z:Int},(z.natAbs:Int)≤20*Kb→Wide z:=fun hz=>Ez (by
  have:(2:Int)*Kb≤Kb*Kb:=by unfold Kb;decide
  omega)
 have w2:∀ {z:Int},(z.natAbs:Int)≤20*Kb→Wide z∧Wide (-z):=fun hz=>⟨w1 hz,w1 (by rw [Int.natAbs_neg];exact hz)⟩
 refine ⟨fun B hI=>w2 (by have:=h.d B hI;omega),fun B hI i hi=>w2 (by have:=h.T B hI i hi _ (Aa _);omega),fun B hI i hi=>w2 ?_⟩
 have h1:=h.d B hI
 have h2:=h.C hI (j:=s.n+i) (by omega)
 unfold LnM.Sys.w
 omega
theorem sys_low {cols:Nat} {rows:List (List Int×Int)} {K V:Nat} (hm:rows.length≤18) (hK:1≤K) (hc:∀ r∈rows,∀ x∈r.1,x.natAbs≤K) (hv:∀ r∈rows,r.2.natAbs≤V)
  (h1:((rows.length*K:Nat):Int) ^ rows.length≤Kb) (h2:0<rows.length→((rows.length*K:Nat):Int) ^ (rows.length-1)*((rows.length*V:Nat):Int)≤Kb):(sysOf cols rows).Low:=by
 by_cases h0:rows.length=0
 ·refine ⟨hm,fun B _=>?_,fun B _ i hi=>?_⟩
  ·have e:(sysOf cols rows).m=0:=h0
   unfold LnM.Sys.d
   rw [e]
   show (((1:Int).natAbs:Nat):Int)≤Kb
   have:=Kb_pos;simpa using this
  ·have:i<rows.length:=hi
   omega
 have hrow:∀ i,i<rows.length→rowOf rows i∈rows:=fun i hi=>by
  unfold rowOf
  rw [List.getElem?_eq_getElem hi]
  exact List.getElem_mem hi
 have hgi:∀ i,i<rows.length→∀ j,(gi (rowOf rows i).1 j).natAbs≤K:=fun i hi j=>by
  by_cases hj:j<(rowOf rows i).1.length
  ·rw [Bo hj];exact hc _ (hrow i hi) _ (List.getElem_mem hj)
  ·rw [BT (by omega)];simp
 have hsg:∀ i (z:Int),(sgnOf rows i*z).natAbs=z.natAbs:=fun i z=>by
  rcases DK rows i with e | e <;> rw [e] <;> simp
 have hsum:∀ (f:Nat→Int) (X m:Nat),(∀ i,i<m→(f i).natAbs≤X)→sm m (fun i=>((f i).natAbs:Int))≤((m*X:Nat):Int):=fun f X m=>by
  induction m with
  | zero=>intro _;simp [sm]
  | succ m ih =>
   intro h
   have a:=ih (fun i hi=>h i (by omega))
   have b:=h m (by omega)
   rw [sm,Nat.succ_mul]
   omega
 refine LnM.Sys.Low.of_bd (A:=((rows.length*K:Nat):Int)) (V:=((rows.length*V:Nat):Int)) ⟨?_,fun j hj=>?_,?_⟩ hm h1 h2
 ·have:1≤rows.length*K:=Nat.mul_pos (by omega) hK
  omega
 ·refine hsum _ K rows.length fun i hi=>?_
  show (if j<cols then sgnOf rows i*gi (rowOf rows i).1 j else if j<cols+rows.length then (if i=j-cols then (1:Int) else 0) else sgnOf rows i*(rowOf rows i).2).natAbs≤K
  have hj':j<cols+rows.length:=hj
  split
  ·rw [hsg];exact hgi i hi j
  ·split
   ·exact hK
   ·exact Nat.zero_le _
 ·refine hsum _ V rows.length fun i hi=>?_
  show (if cols+rows.length<cols then _ else if cols+rows.length<cols+rows.length then _ else sgnOf rows i*(rowOf rows i).2).natAbs≤V
  rw [if_neg (by omega),if_neg (by omega),hsg]
  exact hv _ (hrow i hi)
end
section
open LnM (sm)
def solN (cols:Nat) (rows:List (List Int×Int)) (B:Nat→Nat):List ByteArray:=(List.range cols).map fun k=>I10 ((sysOf cols rows).x B k)
def solW (cols:Nat) (rows:List (List Int×Int)) (B:Nat→Nat):List ByteArray:=(List.range rows.length).map fun i=>I10 (sgnOf rows i*(sysOf cols rows).w B i)
theorem Is (z:Int):I10 z=I z:=rfl
theorem bd100 {z:Int} (h:(z.natAbs:Int)≤20*LnM.Kb):Bd 100 z:=by
 have:(20:Int)*LnM.Kb<10 ^ 100:=by unfold LnM.Kb;decide
 unfold Bd
 generalize (10:Int) ^ 100=q at *
 omega
theorem GS {n:Nat} (f:Nat→ByteArray) {i:Nat} (h:i<n):sAt ((List.range n).map f) i=f i:=by
 unfold sAt
 rw [List.getElem?_map,List.getElem?_range h];rfl
theorem EA {z:Int} (h:Bd 100 z):numB (I10 z)=true:=by
 rw [Is];unfold numB;rw [BS (h.small (by decide)),BA,Bool.true_and];exact decide_eq_true h
theorem x_low {s:LnM.Sys} (h:s.Low) {B:Nat→Nat} (hI:s.Inv B) (k:Nat):((s.x B k).natAbs:Int)≤LnM.Kb:=by
 have k0:=LnM.Kb_pos
 unfold LnM.Sys.x
 by_cases hk:∃ i,i<s.m∧B i=k
 ·obtain ⟨i,hi,rfl⟩:=hk
  rw [LnM.sm_single hi (fun j hj hne=>if_neg (fun e=>hne (hI.dist hj hi e))),if_pos rfl]
  exact h.T B hI i hi _ (Aa _)
 ·rw [LnM.sm_zero (fun j hj=>if_neg (fun e=>hk ⟨j,hj,e⟩))]
  simp;omega
theorem Fi {rows:List (List Int×Int)} {i:Nat} {a b:Int} (h:sgnOf rows i*a=sgnOf rows i*b):a=b:=by
 rcases DK rows i with e | e <;> rw [e] at h <;> omega
theorem sys_S {cols:Nat} {rows:List (List Int×Int)} (i:Nat) {k:Nat} (hk:k<cols):(sysOf cols rows).S i k=sgnOf rows i*gi (rowOf rows i).1 k:=by
 show (if k<cols then _ else _)=_
 rw [if_pos hk]
theorem sys_V {cols:Nat} {rows:List (List Int×Int)} (i:Nat):(sysOf cols rows).S i (cols+rows.length)=sgnOf rows i*(rowOf rows i).2:=by
 show (if cols+rows.length<cols then _ else if cols+rows.length<cols+rows.length then _ else _)=_
 rw [if_neg (by omega),if_neg (by omega)]
theorem L5 {cols:Nat} {rows:List (List Int×Int)} (hv:validL cols rows=true) (hl:(sysOf cols rows).Low) {B:Nat→Nat} (hI:(sysOf cols rows).Inv B) (h0:(sysOf cols rows).C B (cols+rows.length)=0) :
  checkL cols rows (solN cols rows B) (I10 ((sysOf cols rows).d B))=true:=by
 obtain ⟨p1,p2,p3,p4⟩:=AQ hv
 obtain ⟨s1,s2⟩:=LnM.solves hI h0
 have hd:Bd 100 ((sysOf cols rows).d B):=bd100 (by have:=hl.d B hI;have:=LnM.Kb_pos;omega)
 have hx:∀ k,Bd 100 ((sysOf cols rows).x B k):=fun k=>bd100 (by have:=x_low hl hI k;have:=LnM.Kb_pos;omega)
 have hzd:zS (I10 ((sysOf cols rows).d B))=(sysOf cols rows).d B:=by rw [Is,BA]
 have hlen:(solN cols rows B).length=cols:=by unfold solN;simp
 have hform:formedL (solN cols rows B) (I10 ((sysOf cols rows).d B))=true:=by
  unfold formedL
  rw [EA hd,hzd,decide_eq_true hI.dpos,hlen,decide_eq_true (by omega)]
  have:(solN cols rows B).any badB=false:=by
   rw [List.any_eq_false]
   intro t ht
   unfold solN at ht
   obtain ⟨k,_,rfl⟩:=List.mem_map.1 ht
   unfold badB
   rw [EA (hx k),Is,BA]
   have:=s1 k
   simp;omega
  rw [this];rfl
 unfold checkL
 rw [hv,hform,hlen]
 simp only [Bool.and_true,beq_self_eq_true,Bool.true_and]
 rw [List.all_eq_true]
 intro r hr
 obtain ⟨i,hi,rfl⟩:=List.mem_iff_getElem.1 hr
 have hrow:rowOf rows i=rows[i]:=by unfold rowOf;rw [List.getElem?_eq_getElem hi];rfl
 rw [←hrow,decide_eq_true_eq,hzd]
 have e:=s2 i hi
 refine Fi (rows:=rows) (i:=i) ?_
 have e2:(sysOf cols rows).S i ((sysOf cols rows).n+(sysOf cols rows).m)=sgnOf rows i*(rowOf rows i).2:=sys_V i
 rw [e2] at e
 rw [show sgnOf rows i*((sysOf cols rows).d B*(rowOf rows i).2)=(sysOf cols rows).d B*(sgnOf rows i*(rowOf rows i).2) by rw [←Int.mul_assoc,Int.mul_comm (sgnOf rows i),Int.mul_assoc],←e]
 unfold sumZ
 rw [←LnM.sm_mul]
 refine LnM.sm_congr fun k hk=>?_
 have hk':k<cols:=hk
 rw [sys_S i hk']
 unfold solN
 rw [GS _ hk',Is,BA,←Int.mul_assoc,←Int.mul_assoc,Int.mul_comm (sgnOf rows i)]
theorem It {cols:Nat} {rows:List (List Int×Int)} (hv:validL cols rows=true) (hl:(sysOf cols rows).Low) {B:Nat→Nat} (hI:(sysOf cols rows).Inv B) (hend:∀ k,k<cols→0≤(sysOf cols rows).C B k) (h0:(sysOf cols rows).C B (cols+rows.length)≠0) :
  refutesL cols rows (solW cols rows B)=true:=by
 obtain ⟨s1,s2⟩:=LnM.refutes (Jm cols rows) hI hend h0
 have hw:∀ i,i<rows.length→Bd 100 (sgnOf rows i*(sysOf cols rows).w B i):=fun i hi=>bd100 (by
  have h1:=hl.d B hI
  have h2:=hl.C hI (j:=cols+i) (by show cols+i≤cols+rows.length;omega)
  have e:(sgnOf rows i*(sysOf cols rows).w B i).natAbs=((sysOf cols rows).w B i).natAbs:=by rcases DK rows i with e | e <;> rw [e] <;> simp
  rw [e]
  show ((((sysOf cols rows).C B (cols+i)-(sysOf cols rows).d B).natAbs:Nat):Int)≤_
  omega)
 have hlen:(solW cols rows B).length=rows.length:=by unfold solW;simp
 have hany:((solW cols rows B).any fun s=>!numB s)=false:=by
  rw [List.any_eq_false]
  intro t ht
  unfold solW at ht
  obtain ⟨k,hk,rfl⟩:=List.mem_map.1 ht
  rw [EA (hw k (List.mem_range.1 hk))]
  decide
 have hsum:∀ (f:Nat→Int) (j:Nat),(∀ i,i<rows.length→(sysOf cols rows).S i j=sgnOf rows i*f i)→sumZ (solW cols rows B) f rows.length=sm rows.length (fun l=>(sysOf cols rows).w B l*(sysOf cols rows).S l j):=fun f j hj=>by
  unfold sumZ
  refine LnM.sm_congr fun i hi=>?_
  rw [hj i hi]
  unfold solW
  rw [GS _ hi,Is,BA,Int.mul_comm (sgnOf rows i),Int.mul_assoc]
 unfold refutesL
 rw [hv,hlen,hany,hsum (fun i=>(rowOf rows i).2) (cols+rows.length) (fun i _=>sys_V i)]
 simp only [Bool.true_and,beq_self_eq_true,Bool.not_false,Bool.and_eq_true,decide_eq_true_eq,List.all_eq_true]
 refine ⟨fun k hk=>?_,s2⟩
 have hk':k<cols:=by simpa using hk
 rw [hsum (fun i=>gi (rowOf rows i).1 k) k (fun i _=>sys_S i hk')]
 exact s1 k hk'
theorem low_num {m:Nat} (h:m≤8):((m*30000:Nat):Int) ^ m≤LnM.Kb∧((m*30000:Nat):Int) ^ (m-1)*((m*1000000000:Nat):Int)≤LnM.Kb:=by
 unfold LnM.Kb
 match m,h with
 | 0,_=>decide
 | 1,_=>decide
 | 2,_=>decide
 | 3,_=>decide
 | 4,_=>decide
 | 5,_=>decide
 | 6,_=>decide
 | 7,_=>decide
 | 8,_=>decide
theorem low8 {cols:Nat} {rows:List (List Int×Int)} (hv:validL cols rows=true) (h8:rows.length≤8):(sysOf cols rows).Low:=by
 obtain ⟨_,_,_,p4⟩:=AQ hv
 obtain ⟨h1,h2⟩:=low_num h8
 exact sys_low (K:=30000) (V:=1000000000) (by omega) (by decide) (fun r hr x hx=>by have:=(p4 r hr).2.1 x hx;omega) (fun r hr=>by have:=(p4 r hr).2.2;omega) h1 (fun _=>h2)
end
section
open Go.RowKit
def SolP (cols:Nat) (rows:List (List Int×Int)) (w:World) (e:Ending) (w':World):Prop:=Below w.heap.size w w' ∧
 ((∃ nv nums den,e=.returned (.tuple #[.agg #[.bool true,nv,.string den,.slice none 0 0],.int .i64 0])∧SlS w' nv nums∧checkL cols rows nums den=true) ∨
  (∃ wv ws,e=.returned (.tuple #[.agg #[.bool false,.slice none 0 0,.string ⟨#[]⟩,wv],.int .i64 0])∧SlS w' wv ws∧refutesL cols rows ws=true))
theorem Ec (cols:Nat) (v:Value) (rows:List (List Int×Int)) (w:World) (hE:Env w) (h:SlE w v rows) (hv:validL cols rows=true) (h8:rows.length≤8) :
  Calls Tryz.prog 14 #[.agg #[.int .i64 cols,v]] w (SolP cols rows w):=by
 have hl:=low8 hv h8
 refine (M6 cols v rows w hE h hv (low_wd hl) (low_tx hl)).mono ?_
 rintro e w' ⟨B,hI,hend,hb,⟨h0,nv,he,hs⟩ | ⟨h0,wv,he,hs⟩⟩
 ·exact ⟨hb,.inl ⟨nv,_,_,he,hs,L5 hv hl hI h0⟩⟩
 ·exact ⟨hb,.inr ⟨wv,_,he,hs,It hv hl hI hend h0⟩⟩
end
section
open Go.RowKit
open LnM (sm)
attribute [local go_sem] Oper.semAt_some
def equalL (na:List ByteArray) (da:ByteArray) (nb:List ByteArray) (db:ByteArray):Bool :=
 formedL na da&&formedL nb db&&((na.length:Int)==nb.length)&&(List.range na.length).all (fun i=>decide (zS (sAt na i)*zS db=zS (sAt nb i)*zS da))
theorem mul_T {a b:ByteArray} (ha:okS a=true) (hb:okS b=true) (hp:Small (zS a*zS b)) (W:World) (hW:Env W):Calls Tryz.prog 50 #[.string a,.string b] W (Rets W (.tuple #[.string (I (zS a*zS b)),.int .i64 0])):=by
 have:=Ev a b W hW
 rw [ha,hb,Bool.and_self,BE hp] at this
 exact this.mono fun e w' h=>by
  obtain ⟨⟨r,h1,h2⟩,hb⟩:=h
  exact ⟨by rw [h1,h2],hb⟩
theorem KZ (va vb:Value) (na nb:List ByteArray) (da db:ByteArray) (w:World) (hE:Env w) (hA:SlS w va na) (hB:SlS w vb nb) :
  Calls Tryz.prog 21 #[.agg #[va,.string da],.agg #[vb,.string db]] w (Rets w (.bool (equalL na da nb db))):=by
 obtain ⟨aa,ca,rfl⟩:=hA.shape
 obtain ⟨ab,cb,rfl⟩:=hB.shape
 have HA:=A8 hA
 have HB:=A8 hB
 have FA:=A8 (fun W (hW:SlS W (.slice aa na.length ca) na)=>Bw _ na da W hW)
 have FB:=A8 (fun W (hW:SlS W (.slice ab nb.length cb) nb)=>Bw _ nb db W hW)
 unfold equalL
 cases hf:formedL na da
 ·rw [hf] at FA
  clear hf hA hB
  generalize na.length=la at *
  generalize nb.length=lb at *
  obtain ⟨V1,e1,S1,z1⟩:=(BL.start w).add' #[.slice aa la ca,.string da] 30
  obtain ⟨V2,e2,hS,z2⟩:=S1.add' #[.slice ab lb cb,.string db] 30
  rw [z1] at hS
  have hV:V2=(w.alloc (.cells #[.slice aa la ca,.string da] 30)).alloc (.cells #[.slice ab lb cb,.string db] 30):=by rw [e2,e1]
  clear e1 e2 S1 z1 z2
  obtain ⟨x0,x1⟩:=hS.c2 w.heap.size _ _ _ (.tail _ (.head _))
  obtain ⟨y0,y1⟩:=hS.c2 (w.heap.size+1) _ _ _ (.head _)
  go_enter Tryz.func21,Tryz.ntmps21
  go_upto_region 1 with fail
  rw [←hV]
  clear hV
  go_wp2_with fail
  refine Calls.mono (FA.out _ (HA.out.below hS.below)) ?_
  rintro e w1 ⟨rfl,hb⟩
  replace hS:=hS.call hb
  clear x0 x1 y0 y1 hb
  obtain ⟨x0,x1⟩:=hS.c2 w.heap.size _ _ _ (.tail _ (.head _))
  obtain ⟨y0,y1⟩:=hS.c2 (w.heap.size+1) _ _ _ (.head _)
  go_wp2
  go_ret
  exact ⟨Ae (by simp),hS.below⟩
 cases hg:formedL nb db
 ·rw [hf] at FA
  rw [hg] at FB
  clear hf hg hA hB
  generalize na.length=la at *
  generalize nb.length=lb at *
  obtain ⟨V1,e1,S1,z1⟩:=(BL.start w).add' #[.slice aa la ca,.string da] 30
  obtain ⟨V2,e2,hS,z2⟩:=S1.add' #[.slice ab lb cb,.string db] 30
  rw [z1] at hS
  have hV:V2=(w.alloc (.cells #[.slice aa la ca,.string da] 30)).alloc (.cells #[.slice ab lb cb,.string db] 30):=by rw [e2,e1]
  clear e1 e2 S1 z1 z2
  obtain ⟨x0,x1⟩:=hS.c2 w.heap.size _ _ _ (.tail _ (.head _))
  obtain ⟨y0,y1⟩:=hS.c2 (w.heap.size+1) _ _ _ (.head _)
  go_enter Tryz.func21,Tryz.ntmps21
  go_upto_region 1 with fail
  rw [←hV]
  clear hV
  go_wp2_with fail
  refine Calls.mono (FA.out _ (HA.out.below hS.below)) ?_
  rintro e w1 ⟨rfl,hb⟩
  replace hS:=hS.call hb
  clear x0 x1 y0 y1 hb
  obtain ⟨x0,x1⟩:=hS.c2 w.heap.size _ _ _ (.tail _ (.head _))
  obtain ⟨y0,y1⟩:=hS.c2 (w.heap.size+1) _ _ _ (.head _)
  go_wp2_with fail
  refine Calls.mono (FB.out _ (HB.out.below hS.below)) ?_
  rintro e w2 ⟨rfl,hb⟩
  replace hS:=hS.call hb
  clear x0 x1 y0 y1 hb
  obtain ⟨x0,x1⟩:=hS.c2 w.heap.size _ _ _ (.tail _ (.head _))
  obtain ⟨y0,y1⟩:=hS.c2 (w.heap.size+1) _ _ _ (.head _)
  go_wp2
  go_ret
  exact ⟨Ae (by simp),hS.below⟩
 by_cases hl:na.length=nb.length
 case neg =>
  have hl1:((na.length:Int)==nb.length)=false:=by simp;omega
  have hl2:((na.length:Int) != nb.length)=true:=by simp;omega
  rw [hf] at FA
  rw [hg] at FB
  rw [hl1]
  clear hf hg hA hB hl
  generalize na.length=la at *
  generalize nb.length=lb at *
  obtain ⟨V1,e1,S1,z1⟩:=(BL.start w).add' #[.slice aa la ca,.string da] 30
  obtain ⟨V2,e2,hS,z2⟩:=S1.add' #[.slice ab lb cb,.string db] 30
  rw [z1] at hS
  have hV:V2=(w.alloc (.cells #[.slice aa la ca,.string da] 30)).alloc (.cells #[.slice ab lb cb,.string db] 30):=by rw [e2,e1]
  clear e1 e2 S1 z1 z2
  obtain ⟨x0,x1⟩:=hS.c2 w.heap.size _ _ _ (.tail _ (.head _))
  obtain ⟨y0,y1⟩:=hS.c2 (w.heap.size+1) _ _ _ (.head _)
  go_enter Tryz.func21,Tryz.ntmps21
  go_upto_region 1 with fail
  rw [←hV]
  clear hV
  go_wp2_with fail
  refine Calls.mono (FA.out _ (HA.out.below hS.below)) ?_
  rintro e w1 ⟨rfl,hb⟩
  replace hS:=hS.call hb
  clear x0 x1 y0 y1 hb
  obtain ⟨x0,x1⟩:=hS.c2 w.heap.size _ _ _ (.tail _ (.head _))
  obtain ⟨y0,y1⟩:=hS.c2 (w.heap.size+1) _ _ _ (.head _)
  go_wp2_with fail
  refine Calls.mono (FB.out _ (HB.out.below hS.below)) ?_
  rintro e w2 ⟨rfl,hb⟩
  replace hS:=hS.call hb
  clear x0 x1 y0 y1 hb
  obtain ⟨x0,x1⟩:=hS.c2 w.heap.size _ _ _ (.tail _ (.head _))
  obtain ⟨y0,y1⟩:=hS.c2 (w.heap.size+1) _ _ _ (.head _)
  go_wp2
  go_ret
  exact ⟨Ae (by simp),hS.below⟩
 case pos =>
  have hl1:((na.length:Int)==nb.length)=true:=by simp [hl]
  have hl2:((na.length:Int) != nb.length)=false:=by simp [hl]
  obtain ⟨p1,p2,p3,p4,p5⟩:=Bq hf
  obtain ⟨q1,q2,q3,q4,q5⟩:=Bq hg
  rw [hf] at FA
  rw [hg] at FB
  rw [hl1]
  have hps:Hid (∀ i,i<na.length→okS (sAt na i)=true∧okS (sAt nb i)=true∧okS da=true∧okS db=true∧Small (zS (sAt na i)*zS db)∧Small (zS (sAt nb i)*zS da)):=A8 (fun i hi =>
   ⟨(p2 i hi).1,(q2 i (by omega)).1,p3,q3,((p2 i hi).2.1.mul q4).small (by decide),((q2 i (by omega)).2.1.mul p4).small (by decide)⟩)
  have hpost:Hid (∀ (b:Bool) k,(b=false∧k<na.length∧zS (sAt na k)*zS db≠zS (sAt nb k)*zS da)∨(b=true∧∀ j,j<na.length→zS (sAt na j)*zS db=zS (sAt nb j)*zS da)→((true&&true&&true&&(List.range na.length).all (fun i=>decide (zS (sAt na i)*zS db=zS (sAt nb i)*zS da)))=b)):=A8 (fun b k h=>by
   rcases h with ⟨rfl,h1,h2⟩ | ⟨rfl,h1⟩
   ·have:(List.range na.length).all (fun i=>decide (zS (sAt na i)*zS db=zS (sAt nb i)*zS da))=false:=by
     rw [List.all_eq_false]
     exact ⟨k,List.mem_range.2 h1,by simp [h2]⟩
    rw [this];rfl
   ·have:(List.range na.length).all (fun i=>decide (zS (sAt na i)*zS db=zS (sAt nb i)*zS da))=true:=by
     rw [List.all_eq_true]
     intro j hj
     exact decide_eq_true (h1 j (List.mem_range.1 hj))
    rw [this];rfl)
  have hlh:=A8 hl
  replace hE:=A8 hE
  clear hf hg hA hB hl p2 q2 p3 q3 p4 q4 p5 q5
  obtain ⟨la,hla⟩:∃ n,n=na.length:=⟨_,rfl⟩
  obtain ⟨lb,hlb⟩:∃ n,n=nb.length:=⟨_,rfl⟩
  rw [←hla] at HA FA hl1 hl2 p1 hps hpost hlh ⊢
  rw [←hlb] at HB FB hl1 hl2 q1 hlh ⊢
  replace hla:=A8 hla
  replace hlb:=A8 hlb
  obtain ⟨V1,e1,S1,z1⟩:=(BL.start w).add' #[.slice aa la ca,.string da] 30
  obtain ⟨V2,e2,hS,z2⟩:=S1.add' #[.slice ab lb cb,.string db] 30
  rw [z1] at hS
  have hV:V2=(w.alloc (.cells #[.slice aa la ca,.string da] 30)).alloc (.cells #[.slice ab lb cb,.string db] 30):=by rw [e2,e1]
  clear e1 e2 S1 z1 z2
  obtain ⟨x0,x1⟩:=hS.c2 w.heap.size _ _ _ (.tail _ (.head _))
  obtain ⟨y0,y1⟩:=hS.c2 (w.heap.size+1) _ _ _ (.head _)
  go_enter Tryz.func21,Tryz.ntmps21
  go_upto_region 1 with fail
  rw [←hV]
  clear hV
  go_wp2_with fail
  refine Calls.mono (FA.out _ (HA.out.below hS.below)) ?_
  rintro e w1 ⟨rfl,hb⟩
  replace hS:=hS.call hb
  clear x0 x1 y0 y1 hb
  obtain ⟨x0,x1⟩:=hS.c2 w.heap.size _ _ _ (.tail _ (.head _))
  obtain ⟨y0,y1⟩:=hS.c2 (w.heap.size+1) _ _ _ (.head _)
  go_wp2_with fail
  refine Calls.mono (FB.out _ (HB.out.below hS.below)) ?_
  rintro e w2 ⟨rfl,hb⟩
  replace hS:=hS.call hb
  clear x0 x1 y0 y1 hb
  obtain ⟨x0,x1⟩:=hS.c2 w.heap.size _ _ _ (.tail _ (.head _))
  obtain ⟨y0,y1⟩:=hS.c2 (w.heap.size+1) _ _ _ (.head _)
  go_wp2_with fail
  clear x0 x1 y0 y1
  go_loopw [30] (fun o wr=>∃ k:Nat,o=.int .i64 k∧k≤la∧Hid (∀ j,j<k→zS (sAt na j)*zS db=zS (sAt nb j)*zS da)∧BL w [(w.heap.size+1,#[.slice ab lb cb,.string db],30),(w.heap.size,#[.slice aa la ca,.string da],30)] wr) (fun o _=>la-(intOf o).toNat)
  case atStart=>exact ⟨0,rfl,by omega,A8 (fun j hj=>absurd hj (by omega)),hS⟩
  case round =>
   clear hS
   obtain ⟨i,rfl,hi,hall,hS⟩:=hrel
   by_cases hil:i<la
   case neg =>
    have hil':¬ (i:Int)<la:=by omega
    obtain rfl:i=la:=by omega
    go_wp2
    go_ret
    exact ⟨Ae (hpost.out true 0 (.inr ⟨rfl,hall.out⟩)).symm,hS.below⟩
   case pos =>
    have hil':(i:Int)<la:=by omega
    have hil2:(i:Int)<lb:=by have:=hlh.out;omega
    have hi0:(0:Int)≤i:=by omega
    obtain ⟨k1,k2,k3,k4,k5,k6⟩:=hps.out i hil
    obtain ⟨ba,oa,ea,hba,xa⟩:∃ b off,aa=some ⟨b,off,none⟩∧b<w.heap.size∧w.cell? ⟨b,off+i,none⟩=some (.string (sAt na i)):=by
     rcases HA.out with ⟨e,e2⟩ | ⟨b,off,cap',e,h1,h2,h3,h4⟩
     ·have:=hla.out;rw [e2] at this;simp at this;omega
     ·cases e
      have:=h4 i _ (Do (by rw [←hla.out];exact hil))
      rw [Nat.mul_one] at this
      exact ⟨b,off,rfl,h3,this⟩
    obtain ⟨bb,ob,eb,hbb,xb⟩:∃ b off,ab=some ⟨b,off,none⟩∧b<w.heap.size∧w.cell? ⟨b,off+i,none⟩=some (.string (sAt nb i)):=by
     rcases HB.out with ⟨e,e2⟩ | ⟨b,off,cap',e,h1,h2,h3,h4⟩
     ·have:=hlb.out;rw [e2] at this;simp at this;omega
     ·cases e
      have:=h4 i _ (Do (by rw [←hlb.out];omega))
      rw [Nat.mul_one] at this
      exact ⟨b,off,rfl,h3,this⟩
    subst ea
    subst eb
    have M1:=A8 (fun W (hW:Env W)=>mul_T k1 k4 k5 W hW)
    have M2:=A8 (fun W (hW:Env W)=>mul_T k2 k3 k6 W hW)
    have hfe:=I_eq (zS (sAt na i)*zS db) (zS (sAt nb i)*zS da)
    obtain ⟨sa,hsa⟩:∃ s,s=sAt na i:=⟨_,rfl⟩
    obtain ⟨sb,hsb⟩:∃ s,s=sAt nb i:=⟨_,rfl⟩
    rw [←hsa] at xa M1 hfe
    rw [←hsb] at xb M2 hfe
    obtain ⟨px,hpx⟩:∃ s,s=I (zS sa*zS db):=⟨_,rfl⟩
    obtain ⟨py,hpy⟩:∃ s,s=I (zS sb*zS da):=⟨_,rfl⟩
    rw [←hpx] at M1 hfe
    rw [←hpy] at M2 hfe
    replace hsa:=A8 hsa
    replace hsb:=A8 hsb
    have hC:=A8 (show ∀ W,BL w [(w.heap.size+1,#[.slice (some ⟨bb,ob,none⟩) lb cb,.string db],30),(w.heap.size,#[.slice (some ⟨ba,oa,none⟩) la ca,.string da],30)] W→(W.cell? ⟨w.heap.size,0,none⟩=some (.slice (some ⟨ba,oa,none⟩) la ca)∧W.cell? ⟨w.heap.size,1,none⟩=some (.string da)∧W.cell? ⟨w.heap.size+1,0,none⟩=some (.slice (some ⟨bb,ob,none⟩) lb cb)∧W.cell? ⟨w.heap.size+1,1,none⟩=some (.string db)∧W.cell? ⟨ba,oa+i,none⟩=some (.string sa)∧W.cell? ⟨bb,ob+i,none⟩=some (.string sb)) from fun W h=>⟨h.cell _ _ _ (.tail _ (.head _)) 0,h.cell _ _ _ (.tail _ (.head _)) 1,h.cell _ _ _ (.head _) 0,h.cell _ _ _ (.head _) 1,(h.below.cell (p:=⟨_,_,none⟩) hba).trans xa,(h.below.cell (p:=⟨_,_,none⟩) hbb).trans xb⟩)
    clear k1 k2 k3 k4 k5 k6 hpx hpy xa xb
    go_upto_region 6 with fail
    obtain ⟨x0,x1,x2,x3,x4,x5⟩:=hC.out _ hS
    replace hS:=hS.drew
    go_region_held3 (fun w'=>w'.cell? ⟨w.heap.size,0,none⟩=some (.slice (some ⟨ba,oa,none⟩) la ca)∧w'.cell? ⟨w.heap.size,1,none⟩=some (.string da)∧w'.cell? ⟨w.heap.size+1,0,none⟩=some (.slice (some ⟨bb,ob,none⟩) lb cb)∧w'.cell? ⟨w.heap.size+1,1,none⟩=some (.string db)∧w'.cell? ⟨ba,oa+i,none⟩=some (.string sa)∧w'.cell? ⟨bb,ob+i,none⟩=some (.string sb))
     (first | with_reducible exact hC.out _ hS | go_keep)
     (first | (go_at_call 50;(with_reducible refine Calls.mono (M1.out _ (hS.env hE.out)) ?_);rintro e w' ⟨rfl,hb⟩;replace hS:=hS.call hb;clear hb))
    all_goals (clear x0 x1 x2 x3 x4 x5)
    go_upto_region 7 with fail
    obtain ⟨x0,x1,x2,x3,x4,x5⟩:=hC.out _ hS
    replace hS:=hS.drew
    go_region_held3 (fun w'=>w'.cell? ⟨w.heap.size,0,none⟩=some (.slice (some ⟨ba,oa,none⟩) la ca)∧w'.cell? ⟨w.heap.size,1,none⟩=some (.string da)∧w'.cell? ⟨w.heap.size+1,0,none⟩=some (.slice (some ⟨bb,ob,none⟩) lb cb)∧w'.cell? ⟨w.heap.size+1,1,none⟩=some (.string db)∧w'.cell? ⟨ba,oa+i,none⟩=some (.string sa)∧w'.cell? ⟨bb,ob+i,none⟩=some (.string sb))
     (first | with_reducible exact hC.out _ hS | go_keep)
     (first | (go_at_call 50;(with_reducible refine Calls.mono (M2.out _ (hS.env hE.out)) ?_);rintro e w' ⟨rfl,hb⟩;replace hS:=hS.call hb;clear hb))
    all_goals (clear x0 x1 x2 x3 x4 x5)
    by_cases heq:zS sa*zS db=zS sb*zS da
    ·rw [decide_eq_true heq] at hfe
     have hall2:=A8 (show ∀ j,j<i+1→zS (sAt na j)*zS db=zS (sAt nb j)*zS da from fun j hj=>by
      by_cases e:j=i
      ·subst e;rw [←hsa.out,←hsb.out];exact heq
      ·exact hall.out j (by omega))
     clear heq hall
     go_wp2_with fail
     go_roundw
     case rel=>exact ⟨i+1,by go_num,by omega,hall2,hS⟩
     case measure=>simp [intOf];omega
    ·rw [decide_eq_false heq] at hfe
     have hp:=hpost.out false i (.inl ⟨rfl,hil,by rw [←hsa.out,←hsb.out];exact heq⟩)
     replace hp:=A8 hp
     clear heq
     go_wp2
     go_ret
     exact ⟨Ae hp.out.symm,hS.below⟩
end
section
open Go.RowKit
attribute [local go_sem] Oper.semAt_some
def prodZ (l:List ByteArray):Nat→Int
 | 0=>1
 | k+1=>prodZ l k*zS (sAt l k)
def prodB (l:List ByteArray) (k:Nat):Bool:=(List.range k).all (fun j=>decide (Small (prodZ l (j+1))))
theorem Fd (l:List ByteArray) (k:Nat):prodB l (k+1)=(prodB l k&&decide (Small (prodZ l (k+1)))):=by
 unfold prodB
 rw [List.range_succ,List.all_append]
 simp
theorem Ma {l:List ByteArray} {k n:Nat} (h:prodB l n=true) (hk:k≤n):prodB l k=true:=by
 unfold prodB at *
 rw [List.all_eq_true] at *
 intro j hj
 exact h j (List.mem_range.2 (by have:=List.mem_range.1 hj;omega))
def mixF (b0:Bool) (l:List ByteArray) (n:Nat):Bool:=b0&&prodB l n
def mixS (b0:Bool) (l:List ByteArray) (n:Nat):ByteArray:=if b0&&prodB l n then I (prodZ l n) else ⟨#[48]⟩
theorem Gc:Small 1:=by unfold Small;constructor <;> decide
theorem Dp {l:List ByteArray}:∀ {k:Nat},prodB l k=true→Small (prodZ l k)
 | 0,_=>Gc
 | k+1,h=>by rw [Fd,Bool.and_eq_true,decide_eq_true_eq] at h;exact h.2
theorem Fe (l:List ByteArray) (b off cap:Nat) (Bk:Nat) (b0:Bool) (w:World) (hl:l.length≤1000) (hpos:0<l.length) (hbw:b<w.heap.size) (hcell:∀ j,j<l.length→w.cell? ⟨b,off+j,none⟩=some (.string (sAt l j))) (hok:∀ j,j<l.length→okS (sAt l j)=true)
  (hk:Blk w Bk #[.bool b0] 4) (hbk:b≠Bk) (w0:World) (hE0:Env w0) (hw0:Below w0.heap.size w0 w) (hBk:w0.heap.size≤Bk) :
  Calls Tryz.prog 58 #[.slice (some ⟨b,off,none⟩) l.length cap,.pointer (some ⟨Bk,0,none⟩)] w fun e w' =>
   e=.returned (.string (mixS b0 l l.length))∧Blk w' Bk #[.bool (mixF b0 l l.length)] 4∧Only [Bk] w w':=by
 have hcell':=A8 hcell
 replace hok:=A8 hok
 replace hE0:=A8 hE0
 replace hk:=A8 hk
 have I1:I (prodZ l 0)=⟨#[49]⟩:=by show I 1=_;unfold I;rw [Ao (by decide),Ap (by decide)];rfl
 have hpost:Hid (∀ (r:ByteArray) (b1:Bool),(r=⟨#[48]⟩∧b1=false∧(b0&&prodB l l.length)=false)∨(r=I (prodZ l l.length)∧b1=true∧(b0&&prodB l l.length)=true)→mixS b0 l l.length=r∧mixF b0 l l.length=b1):=A8 (fun r b1 h=>by
  unfold mixS mixF
  rcases h with ⟨rfl,rfl,h⟩ | ⟨rfl,rfl,h⟩
  ·rw [h];exact ⟨rfl,rfl⟩
  ·rw [h];exact ⟨rfl,rfl⟩)
 obtain ⟨n,hn⟩:∃ n,n=l.length:=⟨_,rfl⟩
 rw [←hn] at hl hpos hcell' hok hpost ⊢
 clear hcell hn
 go_enter Tryz.func58,Tryz.ntmps58
 go_wp2_with fail
 go_loopw [4,11] (fun x o wr=>∃ i:Nat,x=.string (I (prodZ l i))∧o=.int .i64 i∧i≤n∧Hid ((i=0∨(b0=true∧prodB l i=true)))∧Hid (Only [Bk] w wr)∧Hid (Blk wr Bk #[.bool b0] 4)) (fun _ o _=>n-(intOf o).toNat)
 case atStart=>exact ⟨0,by rw [I1],rfl,by omega,A8 (.inl rfl),A8 (Only.refl _ _),hk⟩
 case round =>
  clear I1
  obtain ⟨i,rfl,rfl,hi,hst,hO,hB⟩:=hrel
  by_cases hlt:i<n
  case neg =>
   have hlt':¬ (i:Int)<n:=by omega
   obtain rfl:i=n:=by omega
   have hp:=hst.out.resolve_left (by omega)
   obtain ⟨p1,p2⟩:=hpost.out (I (prodZ l i)) true (.inr ⟨rfl,rfl,by rw [hp.1,hp.2];rfl⟩)
   have hb0:=hp.1
   replace p1:=A8 p1
   replace p2:=A8 p2
   replace hb0:=A8 hb0
   clear hp
   go_wp2
   go_ret
   exact ⟨by rw [p1.out];rfl,by rw [p2.out,←hb0.out];exact hB.out,hO.out⟩
  case pos =>
   have hlt':(i:Int)<n:=by omega
   have hi0:(0:Int)≤i:=by omega
   have x0:=(hO.out.cell (p:=⟨b,off+i,none⟩) hbw (by simpa using hbk)).trans (hcell'.out i hlt)
   have k1:=hok.out i hlt
   have hsi:Small (prodZ l i):=by
    rcases hst.out with rfl | h
    ·exact Gc
    ·exact Dp h.2
   have hpr:prodZ l (i+1)=prodZ l i*zS (sAt l i):=rfl
   have hbs:=Fd l i
   obtain ⟨s,hs⟩:∃ s,s=sAt l i:=⟨_,rfl⟩
   rw [←hs] at x0 k1 hpr
   obtain ⟨z,hz⟩:∃ z,z=prodZ l (i+1):=⟨_,rfl⟩
   have MU:=A8 (fun W (hW:Env W)=>(by have:=Ev (I (prodZ l i)) s W hW;rw [BS hsi,k1,BA,Bool.and_self,←hpr,←hz] at this;exact this:Calls Tryz.prog 50 #[.string (I (prodZ l i)),.string s] W (Gives W fun r _=>r=resT true z)))
   have hEr:=hE0.out.below (hw0.trans (hO.out.toBelow hw0.size (by intro x hx;rw [List.mem_singleton.1 hx];exact hBk))) (Aa _)
   replace hEr:=A8 hEr
   generalize I (prodZ l i)=out at *
   replace hz:=A8 hz
   replace hbs:=A8 hbs
   clear hsi hpr hs k1
   by_cases hsm:Small z
   ·rw [BE hsm] at MU
    have hz1:prodB l (i+1)=prodB l i:=by rw [hbs.out,←hz.out,decide_eq_true hsm,Bool.and_true]
    cases b0 with
    | true =>
     have hst2:prodB l (i+1)=true:=by
      rw [hz1]
      rcases hst.out with rfl | h
      ·rfl
      ·exact h.2
     replace hst2:=A8 hst2
     go_wp2_with fail
     refine Calls.mono (MU.out _ hEr.out) ?_
     rintro e w1 ⟨⟨r,rfl,rfl⟩,hb⟩
     have hO1:=A8 (hO.out.below hb)
     have hB1:=hB.out.below hb
     have y0:=hB1.cell 0
     have y1:=hB1.frozen 0
     have hB2:=hB1.set 0 (.bool true)
     have hO2:=A8 (hO1.out.setCell (p:=⟨Bk,0,none⟩) (by simp) (.bool true))
     clear x0 hb hsm hz1
     go_wp2_with fail
     go_roundw
     case rel=>exact ⟨i+1,by rw [hz.out],by go_num,by omega,A8 (.inr ⟨(by first | trivial | rfl),hst2.out⟩),hO2,A8 hB2⟩
     case measure=>simp [intOf];omega
    | false =>
     obtain ⟨p1,p2⟩:=hpost.out ⟨#[48]⟩ false (.inl ⟨rfl,rfl,rfl⟩)
     replace p1:=A8 p1
     replace p2:=A8 p2
     go_wp2_with fail
     refine Calls.mono (MU.out _ hEr.out) ?_
     rintro e w1 ⟨⟨r,rfl,rfl⟩,hb⟩
     have hO1:=A8 (hO.out.below hb)
     have hB1:=hB.out.below hb
     have y0:=hB1.cell 0
     have y1:=hB1.frozen 0
     have hB2:=hB1.set 0 (.bool false)
     have hO2:=A8 (hO1.out.setCell (p:=⟨Bk,0,none⟩) (by simp) (.bool false))
     clear x0 hb hsm hz1
     go_wp2
     go_ret
     exact ⟨by rw [p1.out];rfl,by rw [p2.out];exact hB2,hO2.out⟩
   ·rw [Lz hsm] at MU
    have hz1:(b0&&prodB l n)=false:=by
     cases hc:prodB l n with
     | false=>rw [Bool.and_false]
     | true =>
      have h1:=Ma hc (show i+1≤n by omega)
      rw [hbs.out,←hz.out,decide_eq_false hsm,Bool.and_false] at h1
      cases h1
    obtain ⟨p1,p2⟩:=hpost.out ⟨#[48]⟩ false (.inl ⟨rfl,rfl,hz1⟩)
    replace p1:=A8 p1
    replace p2:=A8 p2
    have e30:((30:Int)==0)=false:=rfl
    clear hz1 hsm
    cases b0 <;>
    ·go_wp2_with fail
     refine Calls.mono (MU.out _ hEr.out) ?_
     rintro e w1 ⟨⟨r,rfl,rfl⟩,hb⟩
     have hO1:=A8 (hO.out.below hb)
     have hB1:=hB.out.below hb
     have y0:=hB1.cell 0
     have y1:=hB1.frozen 0
     have hB2:=hB1.set 0 (.bool false)
     have hO2:=A8 (hO1.out.setCell (p:=⟨Bk,0,none⟩) (by simp) (.bool false))
     clear x0 hb
     go_wp2
     go_ret
     exact ⟨by rw [p1.out];rfl,by rw [p2.out];exact hB2,hO2.out⟩
theorem JX:I 0=⟨#[48]⟩:=by unfold I;rw [Ao (by decide),Ap (by decide)];rfl
theorem JY {l:List ByteArray} {n:Nat} (b:Bool):okS (mixS b l n)=true:=by
 unfold mixS
 split
 ·rename_i h
  rw [Bool.and_eq_true] at h
  exact BS (Dp h.2)
 ·rw [←JX];exact BS EP
theorem own_one {W:World} {base:Nat} {x:Value} {t:TypeId} (hb:base≤W.heap.size):(W.alloc (.cells #[x] t)).ownsRow base t 1 (.slice (some ⟨W.heap.size,0,none⟩) 1 1) 1 [x] :=
 ⟨rfl,.inr ⟨W.heap.size,1,#[x],rfl,hb,Blk.new W #[x] t,Aa _,by unfold maxLen;decide,rfl,rfl⟩⟩
theorem above {Bk:Nat} {W W2:World} (hb:Below W.heap.size W W2):∀ g o:Nat,g≠Bk→g<W.heap.size→W2.cell? ⟨g,o,none⟩=W.cell? ⟨g,o,none⟩:=fun _ _ _ h2=>hb.cell (p:=⟨_,_,none⟩) h2
theorem beside {Bk:Nat} {W W2:World} (hb:Only [Bk] W W2):∀ g o:Nat,g≠Bk→g<W.heap.size→W2.cell? ⟨g,o,none⟩=W.cell? ⟨g,o,none⟩:=fun _ _ h1 h2=>hb.cell (p:=⟨_,_,none⟩) h2 (by simpa using h1)
theorem cells3 {W:World} {g:Nat} {a b c:ByteArray} (h:W.cell? ⟨g,0,none⟩=some (.string a)∧W.cell? ⟨g,1,none⟩=some (.string b)∧W.cell? ⟨g,2,none⟩=some (.string c)):∀ j,j < [a,b,c].length→W.cell? ⟨g,0+j,none⟩=some (.string (sAt [a,b,c] j)):=fun j hj=>by
 match j,hj with
 | 0,_=>exact h.1
 | 1,_=>exact h.2.1
 | 2,_=>exact h.2.2
theorem oks3 {a b c:ByteArray} (h:okS a=true∧okS b=true∧okS c=true):∀ j,j < [a,b,c].length→okS (sAt [a,b,c] j)=true:=fun j hj=>by
 match j,hj with
 | 0,_=>exact h.1
 | 1,_=>exact h.2.1
 | 2,_=>exact h.2.2
theorem mix_r5 {Q:Exit→Act→World→Prop} {u0 u1 u6 u7 u8 u9 u10 u12 u13 u14 u15 u16 u17 u18 u19 u20 u21 u22 u23 u24 u25 u26 u27 u28 u29 u30 u31 u32 u33 u34 u35 u36 u37 u38 u39 u40 u41 u42 u43 u44 u45 u46 u47 u48 u49 u50 u51 u52 u53 u54 u55 u56 u57 u58 u59 u60 u61 u62 u63 u64 u65 u66 u67 u68 u69 u70 u71 u72 u73 u74 u75 u76 u77 u78 u79 u80 u81 u82 u83 u84 u85 u86 u87 u88 u89 u90 u91 u92 u93 u94 u95 u96 u97 u98 u99 u100 u101 u102 u103 u104 u105 u106 u107 u108 u109 u110 u111 u112 u113 u114 u115 u116 u117 u118 u119 u120 u121 u122 u123 u124 u125 u126 u127 u128 u129 u130 u131 u132 u133 u134 u135 u136 u137 u138 u139 u140 u141 u142 u143 u144 u145 u146 u147 u148 u149 u150 u151 u152:Value} {p q pq:Int} {b0 b1 Bk:Nat} {da db:ByteArray} {w0 w:World} (hE:Hid (Env w0)) (h0:Hid (Below w0.heap.size w0 w∧w0.heap.size≤Bk)) (hpq:IntKind.i64.wrap (p+q)=pq) (hfp:Hid (Fits pq∧Small pq)) (hd:Hid (okS da=true∧okS db=true)) (hcell:Hid (∀ W,Only [Bk] w W→W.cell? ⟨b0,1,none⟩=some (.string da)∧W.cell? ⟨b1,1,none⟩=some (.string db))) (hBk:Hid (Bk<w.heap.size)) (hB:Hid (Blk w Bk #[.bool true] 4)) {ops:Array Oper} (ho:getOps Tryz.f23.body 5=some ops)
  (hQ:∀ (v50 v51 v52 v53 v54 v55 v56 v57 v58 v59 v60 v61:Value) (gr:Nat) (W':World),Only [Bk] w W'→Blk W' Bk #[.bool (mixF true [I pq,da,db] 3)] 4→W'.ownsRow w.heap.size 9 1 (.slice (some ⟨gr,0,none⟩) 1 1) 1 [.string (mixS true [I pq,da,db] 3)]→Q .normal { tmps:=List.toArray (u0::u1::.int .i64 p::.int .i64 q::.pointer (some ⟨b0,0,none⟩)::.pointer (some ⟨b1,0,none⟩)::u6::u7::u8::u9::u10::.func (.func 58) #[] #[.pointer (some ⟨Bk,0,none⟩)]::.slice (some ⟨gr,0,none⟩) 1 1::u13::u14::u15::u16::u17::u18::u19::u20::u21::u22::u23::u24::u25::u26::u27::u28::u29::u30::u31::u32::u33::u34::u35::u36::u37::u38::u39::u40::u41::u42::u43::u44::u45::u46::u47::u48::u49::v50::v51::v52::v53::v54::v55::v56::v57::v58::v59::v60::v61::u62::u63::u64::u65::u66::u67::u68::u69::u70::u71::u72::u73::u74::u75::u76::u77::u78::u79::u80::u81::u82::u83::u84::u85::u86::u87::u88::u89::u90::u91::u92::u93::u94::u95::u96::u97::u98::u99::u100::u101::u102::u103::u104::u105::u106::u107::u108::u109::u110::u111::u112::u113::u114::u115::u116::u117::u118::u119::u120::u121::u122::u123::u124::u125::u126::u127::u128::u129::u130::u131::u132::u133::u134::u135::u136::u137::u138::u139::u140::u141::u142::u143::u144::u145::u146::u147::u148::u149::u150::u151::u152::[]),defers:=[] } W') :
  (Code.region 5 ops true).wp Tryz.prog Q { tmps:=List.toArray (u0::u1::.int .i64 p::.int .i64 q::.pointer (some ⟨b0,0,none⟩)::.pointer (some ⟨b1,0,none⟩)::u6::u7::u8::u9::u10::.func (.func 58) #[] #[.pointer (some ⟨Bk,0,none⟩)]::u12::u13::u14::u15::u16::u17::u18::u19::u20::u21::u22::u23::u24::u25::u26::u27::u28::u29::u30::u31::u32::u33::u34::u35::u36::u37::u38::u39::u40::u41::u42::u43::u44::u45::u46::u47::u48::u49::u50::u51::u52::u53::u54::u55::u56::u57::u58::u59::u60::u61::u62::u63::u64::u65::u66::u67::u68::u69::u70::u71::u72::u73::u74::u75::u76::u77::u78::u79::u80::u81::u82::u83::u84::u85::u86::u87::u88::u89::u90::u91::u92::u93::u94::u95::u96::u97::u98::u99::u100::u101::u102::u103::u104::u105::u106::u107::u108::u109::u110::u111::u112::u113::u114::u115::u116::u117::u118::u119::u120::u121::u122::u123::u124::u125::u126::u127::u128::u129::u130::u131::u132::u133::u134::u135::u136::u137::u138::u139::u140::u141::u142::u143::u144::u145::u146::u147::u148::u149::u150::u151::u152::[]),defers:=[] } w:=by
 obtain rfl:=Option.some.inj (ho.symm.trans (rfl:getOps Tryz.f23.body 5=some _))
 clear ho
 replace hQ:=A8 hQ
 obtain ⟨Iv,hI⟩:∃ Iv:(Nat→Bool)→Act→World→Prop,∀ l a W,Iv l a W↔(∃ s50 s51 s52 s53 s54 s55 s56 s57 s58 s59 s60 s61 s12:Value,a={ tmps:=List.toArray (u0::u1::.int .i64 p::.int .i64 q::.pointer (some ⟨b0,0,none⟩)::.pointer (some ⟨b1,0,none⟩)::u6::u7::u8::u9::u10::.func (.func 58) #[] #[.pointer (some ⟨Bk,0,none⟩)]::s12::u13::u14::u15::u16::u17::u18::u19::u20::u21::u22::u23::u24::u25::u26::u27::u28::u29::u30::u31::u32::u33::u34::u35::u36::u37::u38::u39::u40::u41::u42::u43::u44::u45::u46::u47::u48::u49::s50::s51::s52::s53::s54::s55::s56::s57::s58::s59::s60::s61::u62::u63::u64::u65::u66::u67::u68::u69::u70::u71::u72::u73::u74::u75::u76::u77::u78::u79::u80::u81::u82::u83::u84::u85::u86::u87::u88::u89::u90::u91::u92::u93::u94::u95::u96::u97::u98::u99::u100::u101::u102::u103::u104::u105::u106::u107::u108::u109::u110::u111::u112::u113::u114::u115::u116::u117::u118::u119::u120::u121::u122::u123::u124::u125::u126::u127::u128::u129::u130::u131::u132::u133::u134::u135::u136::u137::u138::u139::u140::u141::u142::u143::u144::u145::u146::u147::u148::u149::u150::u151::u152::[]),defers:=[] }∧Only [Bk] w W∧Vs [(0,.func (.func 58) #[] #[.pointer (some ⟨Bk,0,none⟩)],s50),(1,.int .i64 p,s51),(2,.int .i64 q,s52),(3,.int .i64 pq,s53),(5,.pointer (some ⟨b0,1,none⟩),s55),(6,.string da,s56),(7,.pointer (some ⟨b1,1,none⟩),s57),(8,.string db,s58)] l∧(l 4=true→.string (I pq)=s54)∧(l 9=true→(l 10=false→∃ g:Nat,s59=.slice (some ⟨g,0,none⟩) 3 3∧(W.cell? ⟨g,0,none⟩=some (.string (I pq))∧W.cell? ⟨g,1,none⟩=some (.string (da))∧W.cell? ⟨g,2,none⟩=some (.string (db)))∧g<W.heap.size∧g≠Bk))∧(l 10=true→.string (mixS true [I pq,da,db] 3)=s60)∧(l 11=true→(∃ g:Nat,s61=.slice (some ⟨g,0,none⟩) 1 1∧W.ownsRow w.heap.size 9 1 (.slice (some ⟨g,0,none⟩) 1 1) 1 [.string (mixS true [I pq,da,db] 3)]))∧(l 12=true→(∃ g:Nat,s12=.slice (some ⟨g,0,none⟩) 1 1∧W.ownsRow w.heap.size 9 1 (.slice (some ⟨g,0,none⟩) 1 1) 1 [.string (mixS true [I pq,da,db] 3)]))∧((l 10=false→Blk W Bk #[.bool true] 4)∧(l 10=true→Blk W Bk #[.bool (mixF true [I pq,da,db] 3)] 4))):=⟨_,fun _ _ _=>Iff.rfl⟩
 refine Ak Iv (by kernel_rfl) (by kernel_rfl) ((hI _ _ _).2 ⟨_,_,_,_,_,_,_,_,_,_,_,_,_,rfl,(Only.refl [Bk] w).drewN 1,Vs.zero,fun h=>off h,fun h=>off h,fun h=>off h,fun h=>off h,fun h=>off h,⟨fun _=>hB.out.below (Ac w 1),fun h=>off h⟩⟩) (Ab (k:=0) ?_ (Ab (k:=1) ?_ (Ab (k:=2) ?_ (Ab (k:=3) ?_ (Ab (k:=4) ?_ (Ab (k:=5) ?_ (Ab (k:=6) ?_ (Ab (k:=7) ?_ (Ab (k:=8) ?_ (Ab (k:=9) ?_ (Ab (k:=10) ?_ (Ab (k:=11) ?_ (Ab (k:=12) ?_ (Af)))))))))))))) ?_
 ·intro l a W hl hw hsh h K hK
  rw [hI] at h;iterate 13 obtain ⟨_,h⟩:=h
  obtain ⟨rfl,hC,hP,f4,f9,f10,h⟩:=h;obtain ⟨f11,f12,g⟩:=h
  go_simp
  apply hK.out;rw [hI];iterate 13 apply Exists.intro
  exact ⟨rfl,hC,hP.put 0 rfl rfl rfl,f4,f9,f10,f11,f12,g⟩
 ·intro l a W hl hw hsh h K hK
  rw [hI] at h;iterate 13 obtain ⟨_,h⟩:=h
  obtain ⟨rfl,hC,hP,f4,f9,f10,h⟩:=h;obtain ⟨f11,f12,g⟩:=h
  go_simp
  apply hK.out;rw [hI];iterate 13 apply Exists.intro
  exact ⟨rfl,hC,hP.put 1 rfl rfl rfl,f4,f9,f10,f11,f12,g⟩
 ·intro l a W hl hw hsh h K hK
  rw [hI] at h;iterate 13 obtain ⟨_,h⟩:=h
  obtain ⟨rfl,hC,hP,f4,f9,f10,h⟩:=h;obtain ⟨f11,f12,g⟩:=h
  go_simp
  apply hK.out;rw [hI];iterate 13 apply Exists.intro
  exact ⟨rfl,hC,hP.put 2 rfl rfl rfl,f4,f9,f10,f11,f12,g⟩
 ·intro l a W hl hw hsh h K hK
  rw [hI] at h;iterate 13 obtain ⟨_,h⟩:=h
  obtain ⟨rfl,hC,hP,f4,f9,f10,h⟩:=h;obtain ⟨f11,f12,g⟩:=h
  obtain rfl:=hP.get 1 rfl (hw 1 (by kernel_rfl))
  obtain rfl:=hP.get 2 rfl (hw 2 (by kernel_rfl))
  go_simp
  apply hK.out;rw [hI];iterate 13 apply Exists.intro
  exact ⟨rfl,hC,hP.put 3 rfl rfl rfl,f4,f9,f10,f11,f12,g⟩
 ·intro l a W hl hw hsh h K hK
  rw [hI] at h;iterate 13 obtain ⟨_,h⟩:=h
  obtain ⟨rfl,hC,hP,f4,f9,f10,h⟩:=h;obtain ⟨f11,f12,g⟩:=h
  obtain rfl:=hP.get 3 rfl (hw 3 (by kernel_rfl))
  go_simp
  go_at_call 51
  refine Calls.mono (GO hfp.out.1 _ (hE.out.below (h0.out.1.trans (hC.toBelow h0.out.1.size (by intro x hx;rw [List.mem_singleton.1 hx];exact h0.out.2))) (Aa _))) ?_
  rintro e W2 ⟨rfl,hb⟩
  have hcellx:=@above Bk _ _ hb
  have hsz:=hb.size
  apply hK.out;rw [hI];iterate 13 apply Exists.intro
  exact ⟨rfl,hC.below hb,hP.skip 4 rfl,fun _=>rfl,(fun h h5=>(let ⟨g,e,⟨a,b,c⟩,u,v⟩:=f9 h h5;⟨g,e,⟨(hcellx g 0 v u).trans a,(hcellx g 1 v u).trans b,(hcellx g 2 v u).trans c⟩,A9 u hsz,v⟩)),f10,(fun h=>(let ⟨g,e,a⟩:=f11 h;⟨g,e,As a hb⟩)),(fun h=>(let ⟨g,e,a⟩:=f12 h;⟨g,e,As a hb⟩)),⟨fun h=>(g.1 h).below hb,fun h=>(g.2 h).below hb⟩⟩
 ·intro l a W hl hw hsh h K hK
  rw [hI] at h;iterate 13 obtain ⟨_,h⟩:=h
  obtain ⟨rfl,hC,hP,f4,f9,f10,h⟩:=h;obtain ⟨f11,f12,g⟩:=h
  go_simp
  apply hK.out;rw [hI];iterate 13 apply Exists.intro
  exact ⟨rfl,hC,hP.put 4 rfl rfl rfl,f4,f9,f10,f11,f12,g⟩
 ·intro l a W hl hw hsh h K hK
  rw [hI] at h;iterate 13 obtain ⟨_,h⟩:=h
  obtain ⟨rfl,hC,hP,f4,f9,f10,h⟩:=h;obtain ⟨f11,f12,g⟩:=h
  obtain rfl:=hP.get 4 rfl (hw 5 (by kernel_rfl))
  obtain ⟨x0,x1⟩:=hcell.out _ hC
  go_simp
  apply hK.out;rw [hI];iterate 13 apply Exists.intro
  exact ⟨rfl,hC,hP.put 5 rfl rfl rfl,f4,f9,f10,f11,f12,g⟩
 ·intro l a W hl hw hsh h K hK
  rw [hI] at h;iterate 13 obtain ⟨_,h⟩:=h
  obtain ⟨rfl,hC,hP,f4,f9,f10,h⟩:=h;obtain ⟨f11,f12,g⟩:=h
  go_simp
  apply hK.out;rw [hI];iterate 13 apply Exists.intro
  exact ⟨rfl,hC,hP.put 6 rfl rfl rfl,f4,f9,f10,f11,f12,g⟩
 ·intro l a W hl hw hsh h K hK
  rw [hI] at h;iterate 13 obtain ⟨_,h⟩:=h
  obtain ⟨rfl,hC,hP,f4,f9,f10,h⟩:=h;obtain ⟨f11,f12,g⟩:=h
  obtain rfl:=hP.get 6 rfl (hw 7 (by kernel_rfl))
  obtain ⟨x0,x1⟩:=hcell.out _ hC
  go_simp
  apply hK.out;rw [hI];iterate 13 apply Exists.intro
  exact ⟨rfl,hC,hP.put 7 rfl rfl rfl,f4,f9,f10,f11,f12,g⟩
 ·intro l a W hl hw hsh h K hK
  rw [hI] at h;iterate 13 obtain ⟨_,h⟩:=h
  obtain ⟨rfl,hC,hP,f4,f9,f10,h⟩:=h;obtain ⟨f11,f12,g⟩:=h
  obtain rfl:=f4 (hw 4 (by kernel_rfl))
  obtain rfl:=hP.get 5 rfl (hw 6 (by kernel_rfl))
  obtain rfl:=hP.get 7 rfl (hw 8 (by kernel_rfl))
  go_simp
  have hb:=(Below.refl W.heap.size W).alloc (Aa _) (.cells #[.string (I pq),.string (da),.string (db)] 9)
  have kn:=Blk.new W #[.string (I pq),.string (da),.string (db)] 9
  have hcellx:=@above Bk _ _ hb
  have hsz:=hb.size
  apply hK.out;rw [hI];iterate 13 apply Exists.intro
  exact ⟨rfl,hC.below hb,hP.skip 9 rfl,f4,fun _ _=>⟨_,rfl,⟨kn.cell 0,kn.cell 1,kn.cell 2⟩,kn.lt,fun e=>by have:=A9 hBk.out hC.size;omega⟩,f10,(fun h=>(let ⟨g,e,a⟩:=f11 h;⟨g,e,As a hb⟩)),(fun h=>(let ⟨g,e,a⟩:=f12 h;⟨g,e,As a hb⟩)),⟨fun h=>(g.1 h).below hb,fun h=>(g.2 h).below hb⟩⟩
 ·intro l a W hl hw hsh h K hK
  rw [hI] at h;iterate 13 obtain ⟨_,h⟩:=h
  obtain ⟨rfl,hC,hP,f4,f9,f10,h⟩:=h;obtain ⟨f11,f12,g⟩:=h
  obtain rfl:=hP.get 0 rfl (hw 0 (by kernel_rfl))
  have h11:l 11=true→true=false:=fun h=>absurd (hsh 11 10 _ rfl h (by kernel_rfl)) (by simp [hl])
  have h12:l 12=true→true=false:=fun h=>absurd (hsh 11 10 _ rfl (hsh 12 11 _ rfl h (by kernel_rfl)) (by kernel_rfl)) (by simp [hl])
  obtain ⟨gl,el,hgc,hgl,hgne⟩:=f9 (hw 9 (by kernel_rfl)) hl
  subst el
  go_simp
  go_at_call 58
  refine Calls.mono (Fe [I pq,da,db] gl 0 3 Bk true W (by simp) (by simp) hgl (cells3 hgc) (oks3 ⟨BS hfp.out.2,hd.out⟩) (g.1 hl) hgne w0 hE.out (h0.out.1.trans (hC.toBelow h0.out.1.size (by intro x hx;rw [List.mem_singleton.1 hx];exact h0.out.2))) h0.out.2) ?_
  rintro e W2 ⟨rfl,hk2,ho2⟩
  have hcellx:=beside ho2
  have hsz:=ho2.size
  apply hK.out;rw [hI];iterate 13 apply Exists.intro
  exact ⟨rfl,hC.trans ho2,hP.skip 10 rfl,f4,(fun _ h5=>off h5.symm),fun _=>rfl,(fun h=>off ((h11 h).symm)),(fun h=>off ((h12 h).symm)),⟨fun h=>off h.symm,fun _=>hk2⟩⟩
 ·intro l a W hl hw hsh h K hK
  rw [hI] at h;iterate 13 obtain ⟨_,h⟩:=h
  obtain ⟨rfl,hC,hP,f4,f9,f10,h⟩:=h;obtain ⟨f11,f12,g⟩:=h
  obtain rfl:=f10 (hw 10 (by kernel_rfl))
  go_simp
  have hb:=(Below.refl W.heap.size W).alloc (Aa _) (.cells #[.string (mixS true [I pq,da,db] 3)] 9)
  have hcellx:=@above Bk _ _ hb
  have hsz:=hb.size
  apply hK.out;rw [hI];iterate 13 apply Exists.intro
  exact ⟨rfl,hC.below hb,hP.skip 11 rfl,f4,(fun h h5=>(let ⟨g,e,⟨a,b,c⟩,u,v⟩:=f9 h h5;⟨g,e,⟨(hcellx g 0 v u).trans a,(hcellx g 1 v u).trans b,(hcellx g 2 v u).trans c⟩,A9 u hsz,v⟩)),f10,fun _=>⟨_,rfl,own_one hC.size⟩,(fun h=>(let ⟨g,e,a⟩:=f12 h;⟨g,e,As a hb⟩)),⟨fun h=>(g.1 h).below hb,fun h=>(g.2 h).below hb⟩⟩
 ·intro l a W hl hw hsh h K hK
  rw [hI] at h;iterate 13 obtain ⟨_,h⟩:=h
  obtain ⟨rfl,hC,hP,f4,f9,f10,h⟩:=h;obtain ⟨f11,f12,g⟩:=h
  obtain ⟨gr,rfl,hrow⟩:=f11 (hw 11 (by kernel_rfl))
  go_simp
  apply hK.out;rw [hI];iterate 13 apply Exists.intro
  exact ⟨rfl,hC,hP.skip 12 rfl,f4,f9,f10,f11,fun _=>⟨gr,rfl,hrow⟩,g⟩
 ·intro a W hI'
  have h:=(hI _ _ _).1 hI';clear hI';iterate 13 obtain ⟨_,h⟩:=h
  obtain ⟨rfl,hC,hP,f4,f9,f10,h⟩:=h;obtain ⟨f11,f12,g⟩:=h
  clear f4
  clear f9
  clear f10
  clear f11
  obtain ⟨gr,rfl,hrow⟩:=f12 (by kernel_rfl)
  exact hQ.out _ _ _ _ _ _ _ _ _ _ _ _ gr _ hC (g.2 (by kernel_rfl)) hrow
theorem mix_r9 {Q:Exit→Act→World→Prop} {u0 u1 u6 u7 u8 u9 u10 u12 u14 u15 u16 u17 u18 u19 u20 u21 u22 u23 u24 u25 u26 u27 u28 u29 u30 u31 u32 u33 u34 u35 u36 u37 u38 u39 u40 u41 u42 u43 u44 u45 u46 u47 u48 u49 u50 u51 u52 u53 u54 u55 u56 u57 u58 u59 u60 u61 u62 u63 u64 u65 u66 u67 u68 u69 u70 u71 u72 u73 u74 u75 u76 u77 u78 u79 u80 u81 u82 u83 u84 u85 u86 u87 u88 u89 u90 u91 u92 u93 u94 u95 u96 u97 u98 u99 u100 u101 u102 u103 u104 u105 u106 u107 u108 u109 u110 u111 u112 u113 u114 u115 u116 u117 u118 u119 u120 u121 u122 u123 u124 u125 u126 u127 u128 u129 u130 u131 u132 u133 u134 u135 u136 u137 u138 u139 u140 u141 u142 u143 u144 u145 u146 u147 u148 u149 u150 u151 u152:Value} {p q:Int} {b0 b1 Bk n i ga oa ca gb ob cb:Nat} {fl:Bool} {da db sa sb S:ByteArray} {E:Int} {w0 w:World} (hE:Hid (Env w0)) (h0:Hid (Below w0.heap.size w0 w∧w0.heap.size≤Bk)) (hfp:Hid (Fits p∧Small p)) (hfq:Hid (Fits q∧Small q)) (hd:Hid (okS da=true∧okS db=true∧okS sa=true∧okS sb=true)) (hi:(i:Int)<n) (hi0:(0:Int)≤i)
  (hcell:Hid (∀ W,Only [Bk] w W→W.cell? ⟨b0,0,none⟩=some (.slice (some ⟨ga,oa,none⟩) n ca)∧W.cell? ⟨b0,1,none⟩=some (.string da)∧W.cell? ⟨b1,0,none⟩=some (.slice (some ⟨gb,ob,none⟩) n cb)∧W.cell? ⟨b1,1,none⟩=some (.string db)∧W.cell? ⟨ga,oa+i,none⟩=some (.string sa)∧W.cell? ⟨gb,ob+i,none⟩=some (.string sb))) (hBk:Hid (Bk<w.heap.size)) (hB:Hid (Blk w Bk #[.bool fl] 4))
  (hAd:Hid (resT true (zS (mixS fl [I p,sa,db] 3)+zS (mixS (mixF fl [I p,sa,db] 3) [I q,sb,da] 3))=.tuple #[.string S,.int .i64 E])) {ops:Array Oper} (ho:getOps Tryz.f23.body 9=some ops)
  (hQ:∀ (v69 v70 v71 v72 v73 v74 v75 v76 v77 v78 v79 v80 v81 v82 v83 v84 v85 v86 v87 v88 v89 v90 v91 v92 v93 v68 v94 v95:Value)  (W':World),Only [Bk] w W'→Blk W' Bk #[.bool (mixF (mixF fl [I p,sa,db] 3) [I q,sb,da] 3)] 4→Q .normal { tmps:=List.toArray (u0::u1::.int .i64 p::.int .i64 q::.pointer (some ⟨b0,0,none⟩)::.pointer (some ⟨b1,0,none⟩)::u6::u7::u8::u9::u10::.func (.func 58) #[] #[.pointer (some ⟨Bk,0,none⟩)]::u12::.int .i64 i::.string S::.int .i64 E::u16::u17::u18::u19::u20::u21::u22::u23::u24::u25::u26::u27::u28::u29::u30::u31::u32::u33::u34::u35::u36::u37::u38::u39::u40::u41::u42::u43::u44::u45::u46::u47::u48::u49::u50::u51::u52::u53::u54::u55::u56::u57::u58::u59::u60::u61::u62::u63::u64::u65::u66::u67::v68::v69::v70::v71::v72::v73::v74::v75::v76::v77::v78::v79::v80::v81::v82::v83::v84::v85::v86::v87::v88::v89::v90::v91::v92::v93::v94::v95::u96::u97::u98::u99::u100::u101::u102::u103::u104::u105::u106::u107::u108::u109::u110::u111::u112::u113::u114::u115::u116::u117::u118::u119::u120::u121::u122::u123::u124::u125::u126::u127::u128::u129::u130::u131::u132::u133::u134::u135::u136::u137::u138::u139::u140::u141::u142::u143::u144::u145::u146::u147::u148::u149::u150::u151::u152::[]),defers:=[] } W') :
  (Code.region 9 ops true).wp Tryz.prog Q { tmps:=List.toArray (u0::u1::.int .i64 p::.int .i64 q::.pointer (some ⟨b0,0,none⟩)::.pointer (some ⟨b1,0,none⟩)::u6::u7::u8::u9::u10::.func (.func 58) #[] #[.pointer (some ⟨Bk,0,none⟩)]::u12::.int .i64 i::u14::u15::u16::u17::u18::u19::u20::u21::u22::u23::u24::u25::u26::u27::u28::u29::u30::u31::u32::u33::u34::u35::u36::u37::u38::u39::u40::u41::u42::u43::u44::u45::u46::u47::u48::u49::u50::u51::u52::u53::u54::u55::u56::u57::u58::u59::u60::u61::u62::u63::u64::u65::u66::u67::u68::u69::u70::u71::u72::u73::u74::u75::u76::u77::u78::u79::u80::u81::u82::u83::u84::u85::u86::u87::u88::u89::u90::u91::u92::u93::u94::u95::u96::u97::u98::u99::u100::u101::u102::u103::u104::u105::u106::u107::u108::u109::u110::u111::u112::u113::u114::u115::u116::u117::u118::u119::u120::u121::u122::u123::u124::u125::u126::u127::u128::u129::u130::u131::u132::u133::u134::u135::u136::u137::u138::u139::u140::u141::u142::u143::u144::u145::u146::u147::u148::u149::u150::u151::u152::[]),defers:=[] } w:=by
 obtain rfl:=Option.some.inj (ho.symm.trans (rfl:getOps Tryz.f23.body 9=some _))
 clear ho
 replace hQ:=A8 hQ
 obtain ⟨Iv,hI⟩:∃ Iv:(Nat→Bool)→Act→World→Prop,∀ l a W,Iv l a W↔(∃ s69 s70 s71 s72 s73 s74 s75 s76 s77 s78 s79 s80 s81 s82 s83 s84 s85 s86 s87 s88 s89 s90 s91 s92 s93 s68 s94 s95 s14 s15:Value,a={ tmps:=List.toArray (u0::u1::.int .i64 p::.int .i64 q::.pointer (some ⟨b0,0,none⟩)::.pointer (some ⟨b1,0,none⟩)::u6::u7::u8::u9::u10::.func (.func 58) #[] #[.pointer (some ⟨Bk,0,none⟩)]::u12::.int .i64 i::s14::s15::u16::u17::u18::u19::u20::u21::u22::u23::u24::u25::u26::u27::u28::u29::u30::u31::u32::u33::u34::u35::u36::u37::u38::u39::u40::u41::u42::u43::u44::u45::u46::u47::u48::u49::u50::u51::u52::u53::u54::u55::u56::u57::u58::u59::u60::u61::u62::u63::u64::u65::u66::u67::s68::s69::s70::s71::s72::s73::s74::s75::s76::s77::s78::s79::s80::s81::s82::s83::s84::s85::s86::s87::s88::s89::s90::s91::s92::s93::s94::s95::u96::u97::u98::u99::u100::u101::u102::u103::u104::u105::u106::u107::u108::u109::u110::u111::u112::u113::u114::u115::u116::u117::u118::u119::u120::u121::u122::u123::u124::u125::u126::u127::u128::u129::u130::u131::u132::u133::u134::u135::u136::u137::u138::u139::u140::u141::u142::u143::u144::u145::u146::u147::u148::u149::u150::u151::u152::[]),defers:=[] }∧Only [Bk] w W∧Vs [(0,.func (.func 58) #[] #[.pointer (some ⟨Bk,0,none⟩)],s69),(1,.int .i64 p,s70),(3,.pointer (some ⟨b0,0,none⟩),s72),(4,.slice (some ⟨ga,oa,none⟩) n ca,s73),(5,.int .i64 i,s74),(6,.pointer (some ⟨ga,oa+i,none⟩),s75),(7,.string sa,s76),(8,.pointer (some ⟨b1,1,none⟩),s77),(9,.string db,s78),(12,.func (.func 58) #[] #[.pointer (some ⟨Bk,0,none⟩)],s81),(13,.int .i64 q,s82),(15,.pointer (some ⟨b1,0,none⟩),s84),(16,.slice (some ⟨gb,ob,none⟩) n cb,s85),(17,.int .i64 i,s86),(18,.pointer (some ⟨gb,ob+i,none⟩),s87),(19,.string sb,s88),(20,.pointer (some ⟨b0,1,none⟩),s89),(21,.string da,s90),(25,.tuple #[.string S,.int .i64 E],s68),(26,.string S,s94),(27,.int .i64 E,s95),(28,.string S,s14),(29,.int .i64 E,s15)] l∧(l 2=true→.string (I p)=s71)∧(l 10=true→(l 11=false→∃ g:Nat,s79=.slice (some ⟨g,0,none⟩) 3 3∧(W.cell? ⟨g,0,none⟩=some (.string (I p))∧W.cell? ⟨g,1,none⟩=some (.string (sa))∧W.cell? ⟨g,2,none⟩=some (.string (db)))∧g<W.heap.size∧g≠Bk))∧(l 11=true→.string (mixS fl [I p,sa,db] 3)=s80)∧(l 14=true→.string (I q)=s83)∧(l 22=true→(l 23=false→∃ g:Nat,s91=.slice (some ⟨g,0,none⟩) 3 3∧(W.cell? ⟨g,0,none⟩=some (.string (I q))∧W.cell? ⟨g,1,none⟩=some (.string (sb))∧W.cell? ⟨g,2,none⟩=some (.string (da)))∧g<W.heap.size∧g≠Bk))∧(l 23=true→.string (mixS (mixF fl [I p,sa,db] 3) [I q,sb,da] 3)=s92)∧(l 24=true→.tuple #[.string S,.int .i64 E]=s93)∧((l 11=false→Blk W Bk #[.bool fl] 4)∧(l 11=true→l 23=false→Blk W Bk #[.bool (mixF fl [I p,sa,db] 3)] 4)∧(l 23=true→Blk W Bk #[.bool (mixF (mixF fl [I p,sa,db] 3) [I q,sb,da] 3)] 4))):=⟨_,fun _ _ _=>Iff.rfl⟩
 refine Ak Iv (by kernel_rfl) (by kernel_rfl) ((hI _ _ _).2 ⟨_,_,_,_,_,_,_,_,_,_,_,_,_,_,_,_,_,_,_,_,_,_,_,_,_,_,_,_,_,_,rfl,(Only.refl [Bk] w).drewN 1,Vs.zero,fun h=>off h,fun h=>off h,fun h=>off h,fun h=>off h,fun h=>off h,fun h=>off h,fun h=>off h,⟨fun _=>hB.out.below (Ac w 1),fun h=>off h,fun h=>off h⟩⟩) (Ab (k:=0) ?_ (Ab (k:=1) ?_ (Ab (k:=2) ?_ (Ab (k:=3) ?_ (Ab (k:=4) ?_ (Ab (k:=5) ?_ (Ab (k:=6) ?_ (Ab (k:=7) ?_ (Ab (k:=8) ?_ (Ab (k:=9) ?_ (Ab (k:=10) ?_ (Ab (k:=11) ?_ (Ab (k:=12) ?_ (Ab (k:=13) ?_ (Ab (k:=14) ?_ (Ab (k:=15) ?_ (Ab (k:=16) ?_ (Ab (k:=17) ?_ (Ab (k:=18) ?_ (Ab (k:=19) ?_ (Ab (k:=20) ?_ (Ab (k:=21) ?_ (Ab (k:=22) ?_ (Ab (k:=23) ?_ (Ab (k:=24) ?_ (Ab (k:=25) ?_ (Ab (k:=26) ?_ (Ab (k:=27) ?_ (Ab (k:=28) ?_ (Ab (k:=29) ?_ (Af))))))))))))))))))))))))))))))) ?_
 ·intro l a W hl hw hsh h K hK
  rw [hI] at h;iterate 30 obtain ⟨_,h⟩:=h
  obtain ⟨rfl,hC,hP,f2,f10,f11,h⟩:=h;obtain ⟨f14,f22,f23,f24,g⟩:=h
  go_simp
  apply hK.out;rw [hI];iterate 30 apply Exists.intro
  exact ⟨rfl,hC,hP.put 0 rfl rfl rfl,f2,f10,f11,f14,f22,f23,f24,g⟩
 ·intro l a W hl hw hsh h K hK
  rw [hI] at h;iterate 30 obtain ⟨_,h⟩:=h
  obtain ⟨rfl,hC,hP,f2,f10,f11,h⟩:=h;obtain ⟨f14,f22,f23,f24,g⟩:=h
  go_simp
  apply hK.out;rw [hI];iterate 30 apply Exists.intro
  exact ⟨rfl,hC,hP.put 1 rfl rfl rfl,f2,f10,f11,f14,f22,f23,f24,g⟩
 ·intro l a W hl hw hsh h K hK
  rw [hI] at h;iterate 30 obtain ⟨_,h⟩:=h
  obtain ⟨rfl,hC,hP,f2,f10,f11,h⟩:=h;obtain ⟨f14,f22,f23,f24,g⟩:=h
  obtain rfl:=hP.get 1 rfl (hw 1 (by kernel_rfl))
  go_simp
  go_at_call 51
  refine Calls.mono (GO hfp.out.1 _ (hE.out.below (h0.out.1.trans (hC.toBelow h0.out.1.size (by intro x hx;rw [List.mem_singleton.1 hx];exact h0.out.2))) (Aa _))) ?_
  rintro e W2 ⟨rfl,hb⟩
  have hcellx:=@above Bk _ _ hb
  have hsz:=hb.size
  apply hK.out;rw [hI];iterate 30 apply Exists.intro
  exact ⟨rfl,hC.below hb,hP.skip 2 rfl,fun _=>rfl,(fun h h5=>(let ⟨g,e,⟨a,b,c⟩,u,v⟩:=f10 h h5;⟨g,e,⟨(hcellx g 0 v u).trans a,(hcellx g 1 v u).trans b,(hcellx g 2 v u).trans c⟩,A9 u hsz,v⟩)),f11,f14,(fun h h5=>(let ⟨g,e,⟨a,b,c⟩,u,v⟩:=f22 h h5;⟨g,e,⟨(hcellx g 0 v u).trans a,(hcellx g 1 v u).trans b,(hcellx g 2 v u).trans c⟩,A9 u hsz,v⟩)),f23,f24,⟨fun h=>(g.1 h).below hb,fun h h2=>(g.2.1 h h2).below hb,fun h=>(g.2.2 h).below hb⟩⟩
 ·intro l a W hl hw hsh h K hK
  rw [hI] at h;iterate 30 obtain ⟨_,h⟩:=h
  obtain ⟨rfl,hC,hP,f2,f10,f11,h⟩:=h;obtain ⟨f14,f22,f23,f24,g⟩:=h
  go_simp
  apply hK.out;rw [hI];iterate 30 apply Exists.intro
  exact ⟨rfl,hC,hP.put 2 rfl rfl rfl,f2,f10,f11,f14,f22,f23,f24,g⟩
 ·intro l a W hl hw hsh h K hK
  rw [hI] at h;iterate 30 obtain ⟨_,h⟩:=h
  obtain ⟨rfl,hC,hP,f2,f10,f11,h⟩:=h;obtain ⟨f14,f22,f23,f24,g⟩:=h
  obtain rfl:=hP.get 2 rfl (hw 3 (by kernel_rfl))
  obtain ⟨x0,x1,x2,x3,x4,x5⟩:=hcell.out _ hC
  go_simp
  apply hK.out;rw [hI];iterate 30 apply Exists.intro
  exact ⟨rfl,hC,hP.put 3 rfl rfl rfl,f2,f10,f11,f14,f22,f23,f24,g⟩
 ·intro l a W hl hw hsh h K hK
  rw [hI] at h;iterate 30 obtain ⟨_,h⟩:=h
  obtain ⟨rfl,hC,hP,f2,f10,f11,h⟩:=h;obtain ⟨f14,f22,f23,f24,g⟩:=h
  go_simp
  apply hK.out;rw [hI];iterate 30 apply Exists.intro
  exact ⟨rfl,hC,hP.put 4 rfl rfl rfl,f2,f10,f11,f14,f22,f23,f24,g⟩
 ·intro l a W hl hw hsh h K hK
  rw [hI] at h;iterate 30 obtain ⟨_,h⟩:=h
  obtain ⟨rfl,hC,hP,f2,f10,f11,h⟩:=h;obtain ⟨f14,f22,f23,f24,g⟩:=h
  obtain rfl:=hP.get 3 rfl (hw 4 (by kernel_rfl))
  obtain rfl:=hP.get 4 rfl (hw 5 (by kernel_rfl))
  go_simp
  apply hK.out;rw [hI];iterate 30 apply Exists.intro
  exact ⟨rfl,hC,hP.put 5 rfl rfl rfl,f2,f10,f11,f14,f22,f23,f24,g⟩
 ·intro l a W hl hw hsh h K hK
  rw [hI] at h;iterate 30 obtain ⟨_,h⟩:=h
  obtain ⟨rfl,hC,hP,f2,f10,f11,h⟩:=h;obtain ⟨f14,f22,f23,f24,g⟩:=h
  obtain rfl:=hP.get 5 rfl (hw 6 (by kernel_rfl))
  obtain ⟨x0,x1,x2,x3,x4,x5⟩:=hcell.out _ hC
  go_simp
  apply hK.out;rw [hI];iterate 30 apply Exists.intro
  exact ⟨rfl,hC,hP.put 6 rfl rfl rfl,f2,f10,f11,f14,f22,f23,f24,g⟩
 ·intro l a W hl hw hsh h K hK
  rw [hI] at h;iterate 30 obtain ⟨_,h⟩:=h
  obtain ⟨rfl,hC,hP,f2,f10,f11,h⟩:=h;obtain ⟨f14,f22,f23,f24,g⟩:=h
  go_simp
  apply hK.out;rw [hI];iterate 30 apply Exists.intro
  exact ⟨rfl,hC,hP.put 7 rfl rfl rfl,f2,f10,f11,f14,f22,f23,f24,g⟩
 ·intro l a W hl hw hsh h K hK
  rw [hI] at h;iterate 30 obtain ⟨_,h⟩:=h
  obtain ⟨rfl,hC,hP,f2,f10,f11,h⟩:=h;obtain ⟨f14,f22,f23,f24,g⟩:=h
  obtain rfl:=hP.get 7 rfl (hw 8 (by kernel_rfl))
  obtain ⟨x0,x1,x2,x3,x4,x5⟩:=hcell.out _ hC
  go_simp
  apply hK.out;rw [hI];iterate 30 apply Exists.intro
  exact ⟨rfl,hC,hP.put 8 rfl rfl rfl,f2,f10,f11,f14,f22,f23,f24,g⟩
 ·intro l a W hl hw hsh h K hK
  rw [hI] at h;iterate 30 obtain ⟨_,h⟩:=h
  obtain ⟨rfl,hC,hP,f2,f10,f11,h⟩:=h;obtain ⟨f14,f22,f23,f24,g⟩:=h
  obtain rfl:=f2 (hw 2 (by kernel_rfl))
  obtain rfl:=hP.get 6 rfl (hw 7 (by kernel_rfl))
  obtain rfl:=hP.get 8 rfl (hw 9 (by kernel_rfl))
  go_simp
  have hb:=(Below.refl W.heap.size W).alloc (Aa _) (.cells #[.string (I p),.string (sa),.string (db)] 9)
  have kn:=Blk.new W #[.string (I p),.string (sa),.string (db)] 9
  have hcellx:=@above Bk _ _ hb
  have hsz:=hb.size
  apply hK.out;rw [hI];iterate 30 apply Exists.intro
  exact ⟨rfl,hC.below hb,hP.skip 10 rfl,f2,fun _ _=>⟨_,rfl,⟨kn.cell 0,kn.cell 1,kn.cell 2⟩,kn.lt,fun e=>by have:=A9 hBk.out hC.size;omega⟩,f11,f14,(fun h h5=>(let ⟨g,e,⟨a,b,c⟩,u,v⟩:=f22 h h5;⟨g,e,⟨(hcellx g 0 v u).trans a,(hcellx g 1 v u).trans b,(hcellx g 2 v u).trans c⟩,A9 u hsz,v⟩)),f23,f24,⟨fun h=>(g.1 h).below hb,fun h h2=>(g.2.1 h h2).below hb,fun h=>(g.2.2 h).below hb⟩⟩
 ·intro l a W hl hw hsh h K hK
  rw [hI] at h;iterate 30 obtain ⟨_,h⟩:=h
  obtain ⟨rfl,hC,hP,f2,f10,f11,h⟩:=h;obtain ⟨f14,f22,f23,f24,g⟩:=h
  obtain rfl:=hP.get 0 rfl (hw 0 (by kernel_rfl))
  have h23:l 23=true→true=false:=fun h=>absurd (hsh 14 11 _ rfl (hsh 23 14 _ rfl h (by kernel_rfl)) (by kernel_rfl)) (by simp [hl])
  obtain ⟨gl,el,hgc,hgl,hgne⟩:=f10 (hw 10 (by kernel_rfl)) hl
  subst el
  go_simp
  go_at_call 58
  refine Calls.mono (Fe [I p,sa,db] gl 0 3 Bk fl W (by simp) (by simp) hgl (cells3 hgc) (oks3 ⟨BS hfp.out.2,hd.out.2.2.1,hd.out.2.1⟩) (g.1 hl) hgne w0 hE.out (h0.out.1.trans (hC.toBelow h0.out.1.size (by intro x hx;rw [List.mem_singleton.1 hx];exact h0.out.2))) h0.out.2) ?_
  rintro e W2 ⟨rfl,hk2,ho2⟩
  have hcellx:=beside ho2
  have hsz:=ho2.size
  apply hK.out;rw [hI];iterate 30 apply Exists.intro
  exact ⟨rfl,hC.trans ho2,hP.skip 11 rfl,f2,(fun _ h5=>off h5.symm),fun _=>rfl,f14,(fun h h5=>(let ⟨g,e,⟨a,b,c⟩,u,v⟩:=f22 h h5;⟨g,e,⟨(hcellx g 0 v u).trans a,(hcellx g 1 v u).trans b,(hcellx g 2 v u).trans c⟩,A9 u hsz,v⟩)),f23,f24,⟨fun h=>off h.symm,fun _ _=>hk2,fun h=>off (h23 h).symm⟩⟩
 ·intro l a W hl hw hsh h K hK
  rw [hI] at h;iterate 30 obtain ⟨_,h⟩:=h
  obtain ⟨rfl,hC,hP,f2,f10,f11,h⟩:=h;obtain ⟨f14,f22,f23,f24,g⟩:=h
  go_simp
  apply hK.out;rw [hI];iterate 30 apply Exists.intro
  exact ⟨rfl,hC,hP.put 9 rfl rfl rfl,f2,f10,f11,f14,f22,f23,f24,g⟩
 ·intro l a W hl hw hsh h K hK
  rw [hI] at h;iterate 30 obtain ⟨_,h⟩:=h
  obtain ⟨rfl,hC,hP,f2,f10,f11,h⟩:=h;obtain ⟨f14,f22,f23,f24,g⟩:=h
  go_simp
  apply hK.out;rw [hI];iterate 30 apply Exists.intro
  exact ⟨rfl,hC,hP.put 10 rfl rfl rfl,f2,f10,f11,f14,f22,f23,f24,g⟩
 ·intro l a W hl hw hsh h K hK
  rw [hI] at h;iterate 30 obtain ⟨_,h⟩:=h
  obtain ⟨rfl,hC,hP,f2,f10,f11,h⟩:=h;obtain ⟨f14,f22,f23,f24,g⟩:=h
  obtain rfl:=hP.get 10 rfl (hw 13 (by kernel_rfl))
  go_simp
  go_at_call 51
  refine Calls.mono (GO hfq.out.1 _ (hE.out.below (h0.out.1.trans (hC.toBelow h0.out.1.size (by intro x hx;rw [List.mem_singleton.1 hx];exact h0.out.2))) (Aa _))) ?_
  rintro e W2 ⟨rfl,hb⟩
  have hcellx:=@above Bk _ _ hb
  have hsz:=hb.size
  apply hK.out;rw [hI];iterate 30 apply Exists.intro
  exact ⟨rfl,hC.below hb,hP.skip 14 rfl,f2,(fun h h5=>(let ⟨g,e,⟨a,b,c⟩,u,v⟩:=f10 h h5;⟨g,e,⟨(hcellx g 0 v u).trans a,(hcellx g 1 v u).trans b,(hcellx g 2 v u).trans c⟩,A9 u hsz,v⟩)),f11,fun _=>rfl,(fun h h5=>(let ⟨g,e,⟨a,b,c⟩,u,v⟩:=f22 h h5;⟨g,e,⟨(hcellx g 0 v u).trans a,(hcellx g 1 v u).trans b,(hcellx g 2 v u).trans c⟩,A9 u hsz,v⟩)),f23,f24,⟨fun h=>(g.1 h).below hb,fun h h2=>(g.2.1 h h2).below hb,fun h=>(g.2.2 h).below hb⟩⟩
 ·intro l a W hl hw hsh h K hK
  rw [hI] at h;iterate 30 obtain ⟨_,h⟩:=h
  obtain ⟨rfl,hC,hP,f2,f10,f11,h⟩:=h;obtain ⟨f14,f22,f23,f24,g⟩:=h
  go_simp
  apply hK.out;rw [hI];iterate 30 apply Exists.intro
  exact ⟨rfl,hC,hP.put 11 rfl rfl rfl,f2,f10,f11,f14,f22,f23,f24,g⟩
 ·intro l a W hl hw hsh h K hK
  rw [hI] at h;iterate 30 obtain ⟨_,h⟩:=h
  obtain ⟨rfl,hC,hP,f2,f10,f11,h⟩:=h;obtain ⟨f14,f22,f23,f24,g⟩:=h
  obtain rfl:=hP.get 11 rfl (hw 15 (by kernel_rfl))
  obtain ⟨x0,x1,x2,x3,x4,x5⟩:=hcell.out _ hC
  go_simp
  apply hK.out;rw [hI];iterate 30 apply Exists.intro
  exact ⟨rfl,hC,hP.put 12 rfl rfl rfl,f2,f10,f11,f14,f22,f23,f24,g⟩
 ·intro l a W hl hw hsh h K hK
  rw [hI] at h;iterate 30 obtain ⟨_,h⟩:=h
  obtain ⟨rfl,hC,hP,f2,f10,f11,h⟩:=h;obtain ⟨f14,f22,f23,f24,g⟩:=h
  go_simp
  apply hK.out;rw [hI];iterate 30 apply Exists.intro
  exact ⟨rfl,hC,hP.put 13 rfl rfl rfl,f2,f10,f11,f14,f22,f23,f24,g⟩
 ·intro l a W hl hw hsh h K hK
  rw [hI] at h;iterate 30 obtain ⟨_,h⟩:=h
  obtain ⟨rfl,hC,hP,f2,f10,f11,h⟩:=h;obtain ⟨f14,f22,f23,f24,g⟩:=h
  obtain rfl:=hP.get 12 rfl (hw 16 (by kernel_rfl))
  obtain rfl:=hP.get 13 rfl (hw 17 (by kernel_rfl))
  go_simp
  apply hK.out;rw [hI];iterate 30 apply Exists.intro
  exact ⟨rfl,hC,hP.put 14 rfl rfl rfl,f2,f10,f11,f14,f22,f23,f24,g⟩
 ·intro l a W hl hw hsh h K hK
  rw [hI] at h;iterate 30 obtain ⟨_,h⟩:=h
  obtain ⟨rfl,hC,hP,f2,f10,f11,h⟩:=h;obtain ⟨f14,f22,f23,f24,g⟩:=h
  obtain rfl:=hP.get 14 rfl (hw 18 (by kernel_rfl))
  obtain ⟨x0,x1,x2,x3,x4,x5⟩:=hcell.out _ hC
  go_simp
  apply hK.out;rw [hI];iterate 30 apply Exists.intro
  exact ⟨rfl,hC,hP.put 15 rfl rfl rfl,f2,f10,f11,f14,f22,f23,f24,g⟩
 ·intro l a W hl hw hsh h K hK
  rw [hI] at h;iterate 30 obtain ⟨_,h⟩:=h
  obtain ⟨rfl,hC,hP,f2,f10,f11,h⟩:=h;obtain ⟨f14,f22,f23,f24,g⟩:=h
  go_simp
  apply hK.out;rw [hI];iterate 30 apply Exists.intro
  exact ⟨rfl,hC,hP.put 16 rfl rfl rfl,f2,f10,f11,f14,f22,f23,f24,g⟩
 ·intro l a W hl hw hsh h K hK
  rw [hI] at h;iterate 30 obtain ⟨_,h⟩:=h
  obtain ⟨rfl,hC,hP,f2,f10,f11,h⟩:=h;obtain ⟨f14,f22,f23,f24,g⟩:=h
  obtain rfl:=hP.get 16 rfl (hw 20 (by kernel_rfl))
  obtain ⟨x0,x1,x2,x3,x4,x5⟩:=hcell.out _ hC
  go_simp
  apply hK.out;rw [hI];iterate 30 apply Exists.intro
  exact ⟨rfl,hC,hP.put 17 rfl rfl rfl,f2,f10,f11,f14,f22,f23,f24,g⟩
 ·intro l a W hl hw hsh h K hK
  rw [hI] at h;iterate 30 obtain ⟨_,h⟩:=h
  obtain ⟨rfl,hC,hP,f2,f10,f11,h⟩:=h;obtain ⟨f14,f22,f23,f24,g⟩:=h
  obtain rfl:=f14 (hw 14 (by kernel_rfl))
  obtain rfl:=hP.get 15 rfl (hw 19 (by kernel_rfl))
  obtain rfl:=hP.get 17 rfl (hw 21 (by kernel_rfl))
  go_simp
  have hb:=(Below.refl W.heap.size W).alloc (Aa _) (.cells #[.string (I q),.string (sb),.string (da)] 9)
  have kn:=Blk.new W #[.string (I q),.string (sb),.string (da)] 9
  have hcellx:=@above Bk _ _ hb
  have hsz:=hb.size
  apply hK.out;rw [hI];iterate 30 apply Exists.intro
  exact ⟨rfl,hC.below hb,hP.skip 22 rfl,f2,(fun h h5=>(let ⟨g,e,⟨a,b,c⟩,u,v⟩:=f10 h h5;⟨g,e,⟨(hcellx g 0 v u).trans a,(hcellx g 1 v u).trans b,(hcellx g 2 v u).trans c⟩,A9 u hsz,v⟩)),f11,f14,fun _ _=>⟨_,rfl,⟨kn.cell 0,kn.cell 1,kn.cell 2⟩,kn.lt,fun e=>by have:=A9 hBk.out hC.size;omega⟩,f23,f24,⟨fun h=>(g.1 h).below hb,fun h h2=>(g.2.1 h h2).below hb,fun h=>(g.2.2 h).below hb⟩⟩
 ·intro l a W hl hw hsh h K hK
  rw [hI] at h;iterate 30 obtain ⟨_,h⟩:=h
  obtain ⟨rfl,hC,hP,f2,f10,f11,h⟩:=h;obtain ⟨f14,f22,f23,f24,g⟩:=h
  obtain rfl:=hP.get 9 rfl (hw 12 (by kernel_rfl))
  have h11:l 11=true:=hsh 14 11 _ rfl (hw 14 (by kernel_rfl)) (by kernel_rfl)
  obtain ⟨gl,el,hgc,hgl,hgne⟩:=f22 (hw 22 (by kernel_rfl)) hl
  subst el
  go_simp
  go_at_call 58
  refine Calls.mono (Fe [I q,sb,da] gl 0 3 Bk (mixF fl [I p,sa,db] 3) W (by simp) (by simp) hgl (cells3 hgc) (oks3 ⟨BS hfq.out.2,hd.out.2.2.2,hd.out.1⟩) (g.2.1 h11 hl) hgne w0 hE.out (h0.out.1.trans (hC.toBelow h0.out.1.size (by intro x hx;rw [List.mem_singleton.1 hx];exact h0.out.2))) h0.out.2) ?_
  rintro e W2 ⟨rfl,hk2,ho2⟩
  have hcellx:=beside ho2
  have hsz:=ho2.size
  apply hK.out;rw [hI];iterate 30 apply Exists.intro
  exact ⟨rfl,hC.trans ho2,hP.skip 23 rfl,f2,(fun _ h5=>off (h5.symm.trans h11)),f11,f14,(fun _ h5=>off h5.symm),fun _=>rfl,f24,⟨fun h=>off (h.symm.trans h11),fun _ h=>off h.symm,fun _=>hk2⟩⟩
 ·intro l a W hl hw hsh h K hK
  rw [hI] at h;iterate 30 obtain ⟨_,h⟩:=h
  obtain ⟨rfl,hC,hP,f2,f10,f11,h⟩:=h;obtain ⟨f14,f22,f23,f24,g⟩:=h
  obtain rfl:=f11 (hw 11 (by kernel_rfl))
  obtain rfl:=f23 (hw 23 (by kernel_rfl))
  go_simp
  go_at_call 59
  refine Calls.mono (JH (mixS fl [I p,sa,db] 3) (mixS (mixF fl [I p,sa,db] 3) [I q,sb,da] 3) _ (hE.out.below (h0.out.1.trans (hC.toBelow h0.out.1.size (by intro x hx;rw [List.mem_singleton.1 hx];exact h0.out.2))) (Aa _))) ?_
  rw [JY,JY,Bool.and_self,hAd.out]
  rintro e W2 ⟨⟨v,rfl,rfl⟩,hb⟩
  have hcellx:=@above Bk _ _ hb
  have hsz:=hb.size
  apply hK.out;rw [hI];iterate 30 apply Exists.intro
  exact ⟨rfl,hC.below hb,hP.skip 24 rfl,f2,(fun h h5=>(let ⟨g,e,⟨a,b,c⟩,u,v⟩:=f10 h h5;⟨g,e,⟨(hcellx g 0 v u).trans a,(hcellx g 1 v u).trans b,(hcellx g 2 v u).trans c⟩,A9 u hsz,v⟩)),f11,f14,(fun h h5=>(let ⟨g,e,⟨a,b,c⟩,u,v⟩:=f22 h h5;⟨g,e,⟨(hcellx g 0 v u).trans a,(hcellx g 1 v u).trans b,(hcellx g 2 v u).trans c⟩,A9 u hsz,v⟩)),f23,fun _=>rfl,⟨fun h=>(g.1 h).below hb,fun h h2=>(g.2.1 h h2).below hb,fun h=>(g.2.2 h).below hb⟩⟩
 ·intro l a W hl hw hsh h K hK
  rw [hI] at h;iterate 30 obtain ⟨_,h⟩:=h
  obtain ⟨rfl,hC,hP,f2,f10,f11,h⟩:=h;obtain ⟨f14,f22,f23,f24,g⟩:=h
  obtain rfl:=f24 (hw 24 (by kernel_rfl))
  go_simp
  apply hK.out;rw [hI];iterate 30 apply Exists.intro
  exact ⟨rfl,hC,hP.put 18 rfl rfl rfl,f2,f10,f11,f14,f22,f23,f24,g⟩
 ·intro l a W hl hw hsh h K hK
  rw [hI] at h;iterate 30 obtain ⟨_,h⟩:=h
  obtain ⟨rfl,hC,hP,f2,f10,f11,h⟩:=h;obtain ⟨f14,f22,f23,f24,g⟩:=h
  obtain rfl:=hP.get 18 rfl (hw 25 (by kernel_rfl))
  go_simp
  apply hK.out;rw [hI];iterate 30 apply Exists.intro
  exact ⟨rfl,hC,hP.put 19 rfl rfl rfl,f2,f10,f11,f14,f22,f23,f24,g⟩
 ·intro l a W hl hw hsh h K hK
  rw [hI] at h;iterate 30 obtain ⟨_,h⟩:=h
  obtain ⟨rfl,hC,hP,f2,f10,f11,h⟩:=h;obtain ⟨f14,f22,f23,f24,g⟩:=h
  obtain rfl:=hP.get 18 rfl (hw 25 (by kernel_rfl))
  go_simp
  apply hK.out;rw [hI];iterate 30 apply Exists.intro
  exact ⟨rfl,hC,hP.put 20 rfl rfl rfl,f2,f10,f11,f14,f22,f23,f24,g⟩
 ·intro l a W hl hw hsh h K hK
  rw [hI] at h;iterate 30 obtain ⟨_,h⟩:=h
  obtain ⟨rfl,hC,hP,f2,f10,f11,h⟩:=h;obtain ⟨f14,f22,f23,f24,g⟩:=h
  obtain rfl:=hP.get 19 rfl (hw 26 (by kernel_rfl))
  go_simp
  apply hK.out;rw [hI];iterate 30 apply Exists.intro
  exact ⟨rfl,hC,hP.put 21 rfl rfl rfl,f2,f10,f11,f14,f22,f23,f24,g⟩
 ·intro l a W hl hw hsh h K hK
  rw [hI] at h;iterate 30 obtain ⟨_,h⟩:=h
  obtain ⟨rfl,hC,hP,f2,f10,f11,h⟩:=h;obtain ⟨f14,f22,f23,f24,g⟩:=h
  obtain rfl:=hP.get 20 rfl (hw 27 (by kernel_rfl))
  go_simp
  apply hK.out;rw [hI];iterate 30 apply Exists.intro
  exact ⟨rfl,hC,hP.put 22 rfl rfl rfl,f2,f10,f11,f14,f22,f23,f24,g⟩
 ·intro a W hI'
  have h:=(hI _ _ _).1 hI';clear hI';iterate 30 obtain ⟨_,h⟩:=h
  obtain ⟨rfl,hC,hP,f2,f10,f11,h⟩:=h;obtain ⟨f14,f22,f23,f24,g⟩:=h
  clear f2
  clear f10
  clear f11
  clear f14
  clear f22
  clear f23
  clear f24
  obtain rfl:=hP.get 21 rfl (by kernel_rfl)
  obtain rfl:=hP.get 22 rfl (by kernel_rfl)
  exact hQ.out _ _ _ _ _ _ _ _ _ _ _ _ _ _ _ _ _ _ _ _ _ _ _ _ _ _ _ _ _ hC (g.2.2 (by kernel_rfl))
end
end Go.Proofs.YtcmomjnailihpaaGreatDoor
