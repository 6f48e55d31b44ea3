/- PkF, PkJ, Blq, Asq, Mem -/
import Derived.Test.YtdkonnnmkceagaaGreatDoorZPkE
import Derived.Test.YtdkonnnmkceagaaGreatDoorZPkH
import Derived.Laws.Small
import Derived.Deep.RegionHeld3
import Derived.Deep.DeepCutAuto
set_option maxHeartbeats 8000000
set_option maxRecDepth 100000
namespace Go.Proofs.YtdkonnnmkceagaaGreatDoor
section
open Go.RowKit
attribute [local go_sem] Oper.semAt_some
def IB (w:World) (G:Nat) (xs:List Int):Prop:=CO w G (xs.map (Value.int .i64)).toArray 3
theorem IB.cell {w:World} {G:Nat} {xs:List Int} (h:IB w G xs) {j:Nat} (hj:j<xs.length):w.cell? ⟨G,j,none⟩=some (.int .i64 (gi xs j)):=by
 have h':CO w G _ _:=h;rw [h'.cell j];simp [gi,hj]
theorem IB.frozen {w:World} {G:Nat} {xs:List Int} (h:IB w G xs) (j:Nat):w.frozen? ⟨G,j,none⟩=false:=CO.frozen (show CO w G _ _ from h) j
theorem IB.below {w w':World} {G:Nat} {xs:List Int} (h:IB w G xs) (hb:Below w.heap.size w w'):IB w' G xs:=CO.below (show CO w G _ _ from h) hb
theorem IB.lt {w:World} {G:Nat} {xs:List Int} (h:IB w G xs):G<w.heap.size:=CO.lt (show CO w G _ _ from h)
theorem IB.set {w:World} {G:Nat} {xs:List Int} (h:IB w G xs) (i:Nat) (y:Int):IB (w.setCell ⟨G,i,none⟩ (.int .i64 y)) G (xs.set i y):=by
 have:=CO.set (show CO w G _ _ from h) i (.int .i64 y);show CO _ _ _ _;rwa [A0,<-List.map_set] at this
theorem IB.sl {w:World} {G:Nat} {xs:List Int} (h:IB w G xs) (hl:xs.length<=maxLen):Sl w (.slice (some ⟨G,0,none⟩) xs.length xs.length) xs :=
 .inr ⟨G,0,xs.length,rfl,Aa _,hl,h.lt,fun j hj=>by rw [Br];exact h.cell hj⟩
theorem IB.of_make {w:World} {base g n:Nat} {xs:List Int} (h:w.ownsRow base 3 1 (.slice (some ⟨g,0,none⟩) n n) n (xs.map (Value.int .i64))):IB w g xs:=by
 have hl:n=xs.length:=by have:=h.1;simpa using this.symm
 rcases h.2 with ⟨h1,_⟩ | ⟨g',cap,cur,h1,hb,hg,hn,hm,hs,ht⟩
 ·cases h1
 ·cases h1
  show w.heap[g]? = _;rw [hg];have e:cur=(xs.map (Value.int .i64)).toArray:=by
   apply Array.ext';rw [<-ht,Bf (by rw [Bc,hs];omega)]
  rw [e]
theorem dig_set {os:List Int} (h:DA 10 os) (i:Nat) {y:Int} (h0:0<=y) (h1:y<10):DA 10 (os.set i y):=fun x hx=>by
 rcases List.mem_or_eq_of_mem_set hx with h2 | rfl
 ·exact h x h2
 ·exact ⟨h0,h1⟩
theorem Sh (k j:Nat):gi (List.replicate k (0:Int)) j=0:=by unfold gi;rw [List.getElem?_replicate];split <;> rfl
theorem QA (k:Nat):DA 10 (List.replicate k (0:Int)):=fun x hx=>by
 have:=(List.mem_replicate.1 hx).2;subst this;omega
theorem N5 {xs:List Int} {t:Nat} (h:t<xs.length):val 10 (xs.drop t)=gi xs t+10*val 10 (xs.drop (t+1)):=by
 rw [Js h];rfl
theorem Si (qs:List Int) (t:Nat) (d:Int):(qs.set t d).drop (t+1)=qs.drop (t+1):=by
 rw [List.drop_set_of_lt Ad]
theorem J6 {l:List Int} {i:Nat} (h:i<l.length) (y:Int):gi (l.set i y) i=y:=by simp [gi,h]
theorem Sj {l:List Int} {i:Nat} (h:gi l i=0) (hi:i<l.length):l.set i 0=l:=by
 have e:l[i]=0:=by rw [<-Hi hi];exact h
 rw [<-e];exact List.set_getElem_self hi
theorem Sk {N x m R d R' Q:Int} (hm:0<m) (hR:R=N % m) (hQ:Q=N / m) (h:R'+d*m=R*10+x) (h0:0<=R') (h1:R'<m):R'=(x+10*N) % m/\d+10*Q=(x+10*N) / m:=by
 have e:=Ct N m;have hu:=(Int.ediv_emod_unique hm (a:=x+10*N) (r:=R') (q:=d+10*Q)).2 ⟨by
  rw [C8,Int.mul_left_comm,hQ];rw [AB d m] at h;generalize m*(N / m)=P at *
  omega,h0,h1⟩
 exact ⟨hu.2.symm,hu.1.symm⟩
theorem Sn {R x m d R':Int} (hm:0<m) (hR:R<m) (hx:x<10) (h:R'+d*m=R*10+x) (h0:m<=R'):d<9:=by
 rcases Int.lt_or_le d 9 with h1 | h1
 ·exact h1
 ·have:=Az h1 (Ce hm)
  omega
theorem GC (v u:Value) (xs ys:List Int) (m:Int) (w:World) (hv:Sl w v xs) (hu:Sl w u ys) (hx:DA 10 xs) (hy:Dm 10 ys m) (hm:0<m) (hlx:xs.length<=10000) (hly:ys.length<=10000) :
  Calls Tryz.prog 63 #[v,u] w (CR w fun r w'=>∃ r1 r2 qs rs,r=.tuple #[r1,r2]/\Sl w' r1 qs/\Dm 10 qs (val 10 xs / m)/\Sl w' r2 rs/\Dm 10 rs (val 10 xs % m)):=by
 obtain ⟨a1,b1,o1,c1,rfl,h1,h2,h4⟩:=hv.place
 obtain ⟨a2,c2,rfl⟩:=hu.shape
 have H4:=A8 h4
 have H1:=A8 h1
 have HX:=A8 hx
 have HY:=A8 hy
 obtain ⟨W1,hmk,hown,hb1⟩:=LL w 22 Tryz.underlying22 .i64 .i64 xs.length Ad
 have hib:=IB.of_make hown
 have HU:=A8 hu
 clear hv hu h4 h1 hx hy hown
 go_enter Tryz.func63,Tryz.ntmps63
 go_wp2
 go_loopw [7,8] (fun s7 s8 wr=>∃ (t:Nat) (q:Int) (qs rs:List Int) (R:Int) (a3:Option Addr) (c3:Nat),s8=.int .i64 q/\Hid (q=(t:Int)-1)/\t<=xs.length/\s7=.slice a3 rs.length c3/\Sl wr (.slice a3 rs.length c3) rs/\Dm 10 rs R/\R<m /\
   IB wr w.heap.size qs/\Hid (qs.length=xs.length)/\DA 10 qs/\Hid (R=val 10 (xs.drop t) % m)/\Hid (val 10 (qs.drop t)=val 10 (xs.drop t) / m)/\Hid (∀ j,j<t->gi qs j=0)/\Below w.heap.size w wr)
  (fun _ s8 _=>(intOf s8+1).toNat)
 case atStart =>
  refine ⟨xs.length,_,List.replicate xs.length 0,[],0,none,0,rfl,rfl,Aa _,rfl,Sl.nil _,Dm.trim (xs:=[]) (DA.nil 10),hm,hib,(show _=_ by simp),QA _,?_,?_,fun j _=>Sh _ j,hb1⟩
  ·show _=_
   rw [List.drop_length];rfl
  ·show _=_
   rw [List.drop_length,List.drop_of_length_le Af];simp [val]
 case round =>
  clear hib hb1 hmk;obtain ⟨t,q,qs,rs,R,a3,c3,rfl,hq,ht,rfl,hr,hnr,hRm,hib,hlq,hdq,hR,hQ,hZ,hB⟩:=hrel;cases t with
  | zero =>
   obtain rfl:q=-1:=by have:=hq.out;omega
   have hfin:=Dm.trim hdq;have e1:=hQ.out;have e2:=hR.out;rw [Co,Co] at e1;rw [Co] at e2;rw [e1] at hfin;have HF:=A8 hfin;have HR:=A8 (show Dm 10 rs (val 10 xs % m) by rw [<-e2];exact hnr);have hsl:=hib.sl (by rw [hlq.out];unfold maxLen;omega);rw [hlq.out] at hsl;clear hfin e1 e2;go_wp2_with fail;refine (IJ _ qs _ hsl).mono ?_;rintro e w2 ⟨⟨v',rfl,hz,_⟩,rfl⟩;go_wp2;go_ret2;exact ⟨⟨_,rfl,_,_,_,rs,rfl,hz,HF.out,hr,HR.out⟩,hB⟩
  | succ t =>
   obtain rfl:q=(t:Int):=by have:=hq.out;omega
   obtain ⟨rfl,h3⟩:=H1.out Ad;have htl:t<xs.length:=by omega
   have i1:(t:Int)<(xs.length:Int):=by omega
   have i0:(0:Int)<=(t:Int):=by omega
   have e1:=(hB.cell (p:=⟨b1,o1+t,none⟩) h3).trans (H4.out t htl);have x0:=(HX.out.gi Ae t).1;have x1:=(HX.out.gi Ae t).2;have hR0:=hnr.nonneg Ae;have hlr:rs.length<=10000:=by have:=hnr.len_le Ae HY.out (Ce hRm);omega
   have HDV:=A8 (N5 htl);have hnx:Dm 10 (trim (gi xs t :: rs)) (gi xs t+10*R):=by
    have:=Dm.trim (b:=10) (xs:=gi xs t :: rs) (fun z hz=>by
     rcases As.1 hz with rfl | hz
     ·exact ⟨x0,x1⟩
     ·exact hnr.dig z hz)
    simpa [val,hnr.val] using this
   generalize hxx:gi xs t=x at *
   have HNX:=A8 hnx;clear hxx hnx;have Hr:=A8 (hr.below ((Below.refl wr.heap.size wr).alloc (Aa _) (.cells #[.int .i64 x] 3)));go_wp2_with (at_builtin;refine Qb (base:=wr.heap.size) (xs:=[x]) (ys:=rs) 22 Tryz.underlying22 rfl _ _ rfl rfl rfl (I9 wr x) Hr.out Ad Ae Af ?_;intro g cp w2 hown2 hg2 hb2;clear hg2);have hb3:Below wr.heap.size wr w2:=((Below.refl wr.heap.size wr).alloc (Aa _) _).trans hb2;have hsl2:=Sl.of_own hown2;clear hb2 hown2 hr Hr;go_wp2_with fail;refine (IJ _ (x :: rs) _ hsl2).mono ?_;rintro e w3 ⟨⟨v',rfl,hz,_⟩,rfl⟩;obtain ⟨a5,c5,rfl⟩:=hz.shape;have hib2:=hib.below hb3;have hB2:=hB.trans (hb3.mono hB.size);have HQ0:=A8 (Sj (hZ.out t Ad) (show t<qs.length by have:=hlq.out;omega));have hR0x:0<=x+10*R:=by omega
   generalize trim (x :: rs)=rs0 at *
   clear hib hb3 hsl2 e1 i1 i0 H1 hlr;go_wp2;obtain ⟨wo,rfl⟩:∃ wo:World,wo=wr:=⟨_,rfl⟩;have HBo:=A8 hB;clear hB hnr;go_loopw [7] (fun s7 wr=>∃ (d R1:Int) (rs1 ps:List Int) (a6:Option Addr) (c6:Nat),s7=.slice a6 rs1.length c6/\Sl wr (.slice a6 rs1.length c6) rs1/\Dm 10 rs1 R1/\Hid (R1+d*m=R*10+x)/\0<=d/\d<=9/\IB wr w.heap.size ps/\Hid (ps=qs.set t d)/\Below w.heap.size w wr)
    (fun s7 wr=>(val 10 (JT wr s7)).toNat)
   case atStart=>exact ⟨0,_,rs0,qs,_,_,rfl,hz,HNX.out,(show _=_ by omega),Ae,Ae,hib2,HQ0.out.symm,hB2⟩
   case round =>
    clear hz hib2 hB2;obtain ⟨d,R1,rs1,ps,a6,c6,rfl,hr1,hn1,hE1,hd0,hd1,hib,hps,hB⟩:=hrel;have hy1:=HU.out.below hB;have hrd:=A8 hr1.rd;have hl1:rs1.length<=100000:=by
     have h1:=hn1.length_le Ae (m:=10001) ?_
     ·omega
     ·have h2:=HY.out.lt Ae
      have h3:=Ee (b:=10) Ae hly;have h4:(10:Int) ^ 10001=10 ^ 10000*10:=BW ..;have h5:=hE1.out;have h6:=BF hd0 (Ce hm);generalize (10:Int) ^ 10000=P at *
      generalize (10:Int) ^ 10001=Q at *
      omega
    go_wp2_with fail;refine (G6 _ _ rs1 ys _ hr1 hy1).mono ?_;rintro e w4 ⟨rfl,hb4⟩;rw [cmpL10 hn1 HY.out];have hr4:=hr1.below hb4;have hy4:=hy1.below hb4;have hB4:=Cv hb4 hB (Aa _);have hib4:=hib.below hb4;by_cases hle:m<=R1
    ·have hc:=N4.2 hle
     generalize Lib.compareInt R1 m=c at *
     have hd9:=Sn hm hRm x1 hE1.out hle;have htq:t<ps.length:=by rw [hps.out,BJ];have:=hlq.out;omega
     have htx:(t:Int)<(xs.length:Int):=by omega
     have ht0:(0:Int)<=(t:Int):=by omega
     have hgd:gi ps t=d:=by rw [hps.out];exact J6 (by have:=hlq.out;omega) d
     clear hr1 hy1 hib hB hb4;go_wp2_with fail;have hG4:=hib4.lt;refine (Ij _ _ rs1 ys R1 m _ hr4 hy4 hn1 HY.out hle hl1).mono ?_;rintro e w5 ⟨⟨r,rfl,zs,hz,hnz,hfr⟩,hb5⟩;obtain ⟨a7,c7,rfl⟩:=hz.shape;have hib5:=hib4.below hb5;have hB5:=Cv hb5 hB4 (Aa _);have e3:=hib5.cell htq;rw [hgd] at e3;have e4:=hib5.frozen t;have hGz:Sl (w5.setCell ⟨w.heap.size,t,none⟩ (.int .i64 (d+1))) (.slice a7 zs.length c7) zs:=hz.only ((CG.refl [w.heap.size] w5).setCell (p:=⟨w.heap.size,t,none⟩) Af _) (fun b o e=>by have:=hfr b o e;simp;omega);have hrd5:=A8 hGz.rd;clear hgd hr4 hy4 hib4 hB4 hb5;go_wp2;go_roundw;case rel=>exact ⟨d+1,R1-m,zs,ps.set t (d+1),_,_,rfl,hGz,hnz,(show _=_ by rw [Cb];have:=hE1.out;omega),Ad,Ad,hib5.set t _,(show _=_ by rw [hps.out,List.set_set]),hB5.setCell (p:=⟨w.heap.size,t,none⟩) (Aa _) _⟩
     case measure =>
      show (val 10 (JT _ _)).toNat<(val 10 (JT _ _)).toNat;rw [hrd.out,hrd5.out,hnz.val,hn1.val];omega
    ·have hcl:=Cy (show R1<m by omega)
     rw [hcl];obtain ⟨k1,k2⟩:=Sk hm hR.out hQ.out hE1.out (hn1.nonneg Ae) Ad;rw [<-HDV.out] at k1 k2;have htq:t<qs.length:=by have:=hlq.out;omega
     have K2:=A8 (show val 10 ((qs.set t d).drop t)=val 10 (xs.drop t) / m by
      rw [N5 (by rw [BJ];exact htq),J6 htq,Si,k2])
     have K1:=A8 k1;have hR1m:R1<m:=by omega
     clear hcl k1 k2 hr1 hy1 hib hB hb4 hle;rw [hps.out] at hib4;go_wp2;go_roundw;case rel=>exact ⟨t,_,qs.set t d,rs1,R1,_,_,rfl,rfl,Ad,rfl,hr4,hn1,hR1m,hib4,(show _=_ by rw [BJ];exact hlq.out),dig_set hdq t hd0 Ad,K1,K2,(fun j hj=>by rw [RS _ (show t≠j by omega)];exact hZ.out j Ad),hB4⟩
     case measure=>simp [intOf]
theorem IK {b:ByteArray} (h:okS b=true):(zS b=0->b=⟨#[48]⟩)/\(zS b≠0->(b.toList==[48])=false):=by
 have h5:=(E8 (show DX b.data.toList=true from h)).1;constructor
 ·intro hz
  have h6:FV b.data.toList=0:=hz;rw [h6,show Lib.itoa (0:Int)=[48] from H0 false] at h5;exact An (Array.ext' h5)
 ·intro hz
  rw [ByteArray.toList_eq];refine Am.2 (fun e=>hz ?_);show FV _=0;rw [e];decide +kernel
theorem rgcd_ok (a b:ByteArray) (ha:okS a=true) (hb:okS b=true) (hsa:a.size<=9223372036854775807) (hsb:b.size<=9223372036854775807) (w:World) :
  Calls Tryz.prog 34 #[.string a,.string b] w (CR w fun r _=>r=E6 true (CY (zS a) (zS b))):=by
 have V1:=fun W=>CJ a hsa W
 have V2:=fun W=>CJ b hsb W
 have D1:=fun W=>Dy a ha W
 have D2:=fun W=>Dy b hb W
 have Sa:=Dr ha
 have Sb:=Dr hb
 rw [ha] at V1
 rw [hb] at V2
 have G0:=A8 (MC (zS a) (zS b))
 go_enter Tryz.func34,Tryz.ntmps34
 go_wp2_with fail
 refine (V1 _).mono ?_
 rintro e w1 ⟨rfl,hb1⟩
 go_wp2_with fail
 refine (V2 _).mono ?_
 rintro e w2 ⟨rfl,hb2⟩
 have hB2:=Cv hb2 hb1 (Aa _)
 go_wp2_with fail
 refine (D1 _).mono ?_
 rintro e w3 ⟨⟨r,rfl,v,xs,rfl,hx,hnx⟩,hb3⟩
 have hB3:=Cv hb3 hB2 (Aa _)
 have lx:=len10 hnx Sa
 go_wp2_with fail
 refine (D2 _).mono ?_
 rintro e w4 ⟨⟨r,rfl,u,ys,rfl,hy,hny⟩,hb4⟩
 have hB4:=Cv hb4 hB3 (Aa _)
 have ly:=len10 hny Sb
 have hx4:=hx.below hb4
 clear hb1 hb2 hb3 hb4 hB2 hB3 hx
 have Bx:=DI Sa
 have By:=DI Sb
 obtain ⟨a1,c1,rfl⟩:=hx4.shape
 obtain ⟨a2,c2,rfl⟩:=hy.shape
 generalize decide (zS a<0)=s at *
 generalize decide (zS b<0)=t at *
 go_wp2
 go_loopw [7,9] (fun k l wr=>∃ a3 c3 a4 c4 ks ls m n,k=.slice a3 ks.length c3/\l=.slice a4 ls.length c4/\Sl wr (.slice a3 ks.length c3) ks/\Sl wr (.slice a4 ls.length c4) ls/\Dm 10 ks m/\Dm 10 ls n/\m<FB/\n<FB /\
   Hid (CY m n=CY (zS a) (zS b))/\Below w.heap.size w wr)
  (fun _ l wr=>(val 10 (JT wr l)).toNat)
 case atStart=>exact ⟨_,_,_,_,_,_,_,_,rfl,rfl,hx4,hy,hnx,hny,Bx,By,G0.out,hB4⟩
 case round =>
  clear hx4 hy hnx hny Bx By hB4 G0 Sa Sb lx ly;obtain ⟨a3,c3,a4,c4,ks,ls,m,n,rfl,rfl,hk,hl,hnk,hnl,Bm,Bn,hG,hW⟩:=hrel;have lk:ks.length<=200:=hnk.length_le Ae Bm;have ll:ls.length<=200:=hnl.length_le Ae Bn;by_cases h0:0<ls.length
  ·have hn0:0<n:=by
    have:=hnl.nonneg Ae;have h1:¬ n=0:=fun e=>by have:=(hnl.zero_iff Ae).2 e;rw [this] at h0;simp at h0
    omega
   have hm0:=hnk.nonneg Ae
   have hrd:=A8 hl.rd
   go_wp2_with fail
   refine (GC _ _ ks ls n _ hk hl hnk.dig hnl hn0 Ad Ad).mono ?_
   rintro e w2 ⟨⟨r,rfl,r1,r2,qs,rs,rfl,hq,hnq,hr,hnr⟩,hb2⟩
   rw [hnk.val] at hnq hnr
   obtain ⟨a5,c5,rfl⟩:=hq.shape
   obtain ⟨a6,c6,rfl⟩:=hr.shape
   have hlt:=BU m hn0
   have hmod:=BY m (by omega:n≠0)
   have hl2:=hl.below hb2
   have hrd2:=A8 hr.rd
   have hW2:=Cv hb2 hW (Aa _)
   go_wp2
   go_roundw
   case rel=>exact ⟨_,_,_,_,ls,rs,n,m % n,rfl,rfl,hl2,hr,hnl,hnr,Bn,Ad,(KT hm0 hn0).trans hG.out,hW2⟩
   case measure =>
    show (val 10 (JT _ _)).toNat<(val 10 (JT _ _)).toNat;rw [hrd.out,hrd2.out,hnl.val,hnr.val];omega
  ·have e0:ls=[]:=AS Ad
   have en:=(hnl.zero_iff Ae).1 e0;subst e0 en;have hm0:=hnk.nonneg Ae;have hf:Do false m=CY (zS a) (zS b):=by rw [<-hG.out,KU hm0];rfl
   have HF:=A8 hf;have hsm:Cw (CY (zS a) (zS b)):=by rw [<-hf];unfold Cw Do;simp;omega
   have HS:=A8 (DP hsm);clear hf hG hsm;go_wp2_with fail;refine (EE false _ ks m _ hk hnk Ad).mono ?_;rintro e w2 ⟨⟨r,rfl,rfl⟩,hb2⟩;rw [HF.out,HS.out];go_wp2;go_ret2;exact ⟨⟨_,rfl,HS.out.symm⟩,Cv hb2 hW (Aa _)⟩
theorem So (a b:ByteArray) (h:okS a=false∨okS b=false) (hsa:a.size<=9223372036854775807) (hsb:b.size<=9223372036854775807) (w:World) :
  Calls Tryz.prog 34 #[.string a,.string b] w (CR w fun r _=>r=E6 false 0):=by
 have V1:=fun W=>CJ a hsa W
 have V2:=fun W=>CJ b hsb W
 cases ha:okS a with
 | false =>
  rw [ha] at V1;go_enter Tryz.func34,Tryz.ntmps34;go_wp2_with fail;refine (V1 _).mono ?_;rintro e w1 ⟨rfl,hb1⟩;go_wp2;go_ret2;exact ⟨⟨_,rfl,rfl⟩,hb1⟩
 | true =>
  have hb:okS b=false:=by rcases h with h | h;rw [ha] at h;cases h;exact h
  rw [ha] at V1;rw [hb] at V2;go_enter Tryz.func34,Tryz.ntmps34;go_wp2_with fail;refine (V1 _).mono ?_;rintro e w1 ⟨rfl,hb1⟩;go_wp2_with fail;refine (V2 _).mono ?_;rintro e w2 ⟨rfl,hb2⟩;go_wp2;go_ret2;exact ⟨⟨_,rfl,rfl⟩,(Cv hb2 hb1 (Aa _))⟩
theorem Sp (a b:ByteArray) (hsa:a.size<=9223372036854775807) (hsb:b.size<=9223372036854775807) (w:World) :
  Calls Tryz.prog 34 #[.string a,.string b] w (CR w fun r _=>r=E6 (okS a&&okS b) (CY (zS a) (zS b))):=by
 by_cases h:okS a=true/\okS b=true
 ·rw [h.1,h.2];exact rgcd_ok a b h.1 h.2 hsa hsb w
 ·rw [(CK h).1,S8 _ 0];exact So a b (CK h).2 hsa hsb w
theorem QB:Dm 10 [1] 1:=by
 refine ⟨fun x hx=>?_,fun j hj=>?_,rfl⟩
 ·simp at hx;subst hx;omega
 ·have e:j=0:=by simp at hj;omega
  subst e;decide
theorem Ol (a b:ByteArray) (ha:okS a=true) (hb:okS b=true) (hsa:a.size<=9223372036854775807) (hsb:b.size<=9223372036854775807) (h0:zS b≠0) (hneg:¬ (zS a<0/\0<((zS a).natAbs:Int) % (zS b).natAbs)) (w:World) :
  Calls Tryz.prog 35 #[.string a,.string b] w (CR w fun r _=>r=F7 true (zS a) (zS b)):=by
 have V1:=fun W=>CJ a hsa W
 have V2:=fun W=>CJ b hsb W
 have D1:=fun W=>Dy a ha W
 have D2:=fun W=>Dy b hb W
 have Sa:=Dr ha
 have Sb:=Dr hb
 rw [ha] at V1
 rw [hb] at V2
 have hp:=GY (zS a) (zS b) h0
 have hsm:=GZ (x:=zS a) (y:=zS b) Sa
 rw [AF hneg,AF hneg] at hp
 have hne:=(IK hb).2 h0
 have hm:(0:Int)<(zS b).natAbs:=by omega
 have HN:=A8 hneg
 have HP:=A8 hp
 have HS:=A8 (DP hsm.1)
 have HD:=A8 (show F7 true (zS a) (zS b)=.tuple #[.string ⟨(Lib.itoa (zS a / zS b)).toArray⟩,.string ⟨(Lib.itoa (zS a % zS b)).toArray⟩,.int .i64 0] by unfold F7;rw [AI];simpa using h0)
 clear hneg hp hsm h0
 go_enter Tryz.func35,Tryz.ntmps35
 go_wp2_with fail
 refine (V1 _).mono ?_
 rintro e w1 ⟨rfl,hb1⟩
 go_wp2_with fail
 refine (V2 _).mono ?_
 rintro e w2 ⟨rfl,hb2⟩
 have hB2:=Cv hb2 hb1 (Aa _)
 go_wp2_with fail
 refine (D1 _).mono ?_
 rintro e w3 ⟨⟨r,rfl,v,xs,rfl,hx,hnx⟩,hb3⟩
 have hB3:=Cv hb3 hB2 (Aa _)
 have lx:=len10 hnx Sa
 go_wp2_with fail
 refine (D2 _).mono ?_
 rintro e w4 ⟨⟨r,rfl,u,ys,rfl,hy,hny⟩,hb4⟩
 have hB4:=Cv hb4 hB3 (Aa _)
 have ly:=len10 hny Sb
 have hx4:=hx.below hb4
 clear hb1 hb2 hb3 hb4 hB2 hB3 hx
 go_wp2_with fail
 refine (GC _ _ xs ys _ _ hx4 hy hnx.dig hny hm Ad Ad).mono ?_
 rintro e w5 ⟨⟨r,rfl,r1,r2,qs,rs,rfl,hq,hnq,hr,hnr⟩,hb5⟩
 rw [hnx.val] at hnq hnr
 have hB5:=Cv hb5 hB4 (Aa _)
 have lq:=hnq.len_le Ae hnx (BZ _ Ad)
 have lr:=hnr.len_le Ae hny (Ce (BU _ hm))
 obtain ⟨a5,c5,rfl⟩:=hr.shape
 have hcond:decide (zS a<0)=true->¬ (0:Int)<(rs.length:Int):=by
  intro hst hl;have hxn:zS a<0:=BS hst;have:¬ ((zS a).natAbs:Int) % (zS b).natAbs=0:=fun e=>by
   have:=(hnr.zero_iff Ae).2 e;rw [this] at hl;simp at hl
  exact HN.out ⟨hxn,by have:=hnr.nonneg Ae;omega⟩
 have hP1:=HP.out.1
 have hP2:=HP.out.2
 generalize ((zS a).natAbs:Int) / (zS b).natAbs=Q at *
 generalize ((zS a).natAbs:Int) % (zS b).natAbs=R at *
 generalize decide (zS b<0)=t at *
 generalize decide (zS a<0)=s at *
 have HP1:=A8 hP1
 have HP2:=A8 hP2
 clear hP1 hP2 HN HP
 cases s
 all_goals
  try have hc2:=hcond rfl
  clear hcond
  go_wp2_with fail
  refine (EE _ _ qs _ _ hq hnq Ad).mono ?_
  rintro e w8 ⟨⟨r,rfl,rfl⟩,hb8⟩
  have hr8:=hr.below hb8
  first | rw [show Do t Q=zS a / zS b by rw [<-HP1.out];cases t <;> rfl,HS.out] | rw [show Do (!t) Q=zS a / zS b by rw [<-HP1.out];cases t <;> rfl,HS.out]
  go_wp2_with fail
  refine (Fe false _ rs _ _ hr8 hnr Ad).mono ?_
  rintro e w9 ⟨rfl,hb9⟩
  rw [show Do false R=zS a % zS b from HP2.out]
  go_wp2
  refine bodyPost_ret (v:=.tuple #[.string ⟨(Lib.itoa (zS a / zS b)).toArray⟩,.string ⟨(Lib.itoa (zS a % zS b)).toArray⟩,.int .i64 0]) (by simp [results,Tryz.results35,go_sem]) rfl ?_
  exact ⟨⟨_,rfl,HD.out.symm⟩,Cv hb9 (Cv hb8 hB5 (Aa _)) (Aa _)⟩
theorem Om (a b:ByteArray) (ha:okS a=true) (hb:okS b=true) (hsa:a.size<=9223372036854775807) (hsb:b.size<=9223372036854775807) (h0:zS b≠0) (hneg:zS a<0/\0<((zS a).natAbs:Int) % (zS b).natAbs) (w:World) :
  Calls Tryz.prog 35 #[.string a,.string b] w (CR w fun r _=>r=F7 true (zS a) (zS b)):=by
 have V1:=fun W=>CJ a hsa W
 have V2:=fun W=>CJ b hsb W
 have D1:=fun W=>Dy a ha W
 have D2:=fun W=>Dy b hb W
 have Sa:=Dr ha
 have Sb:=Dr hb
 rw [ha] at V1
 rw [hb] at V2
 have hp:=GY (zS a) (zS b) h0
 have hsm:=GZ (x:=zS a) (y:=zS b) Sa
 rw [AI hneg,AI hneg] at hp
 have hne:=(IK hb).2 h0
 have hm:(0:Int)<(zS b).natAbs:=by omega
 have HN:=A8 hneg
 have HP:=A8 hp
 have HS:=A8 (DP hsm.1)
 have HD:=A8 (show F7 true (zS a) (zS b)=.tuple #[.string ⟨(Lib.itoa (zS a / zS b)).toArray⟩,.string ⟨(Lib.itoa (zS a % zS b)).toArray⟩,.int .i64 0] by unfold F7;rw [AI];simpa using h0)
 clear hneg hp hsm h0
 go_enter Tryz.func35,Tryz.ntmps35
 go_wp2_with fail
 refine (V1 _).mono ?_
 rintro e w1 ⟨rfl,hb1⟩
 go_wp2_with fail
 refine (V2 _).mono ?_
 rintro e w2 ⟨rfl,hb2⟩
 have hB2:=Cv hb2 hb1 (Aa _)
 go_wp2_with fail
 refine (D1 _).mono ?_
 rintro e w3 ⟨⟨r,rfl,v,xs,rfl,hx,hnx⟩,hb3⟩
 have hB3:=Cv hb3 hB2 (Aa _)
 have lx:=len10 hnx Sa
 go_wp2_with fail
 refine (D2 _).mono ?_
 rintro e w4 ⟨⟨r,rfl,u,ys,rfl,hy,hny⟩,hb4⟩
 have hB4:=Cv hb4 hB3 (Aa _)
 have ly:=len10 hny Sb
 have hx4:=hx.below hb4
 clear hb1 hb2 hb3 hb4 hB2 hB3 hx
 go_wp2_with fail
 refine (GC _ _ xs ys _ _ hx4 hy hnx.dig hny hm Ad Ad).mono ?_
 rintro e w5 ⟨⟨r,rfl,r1,r2,qs,rs,rfl,hq,hnq,hr,hnr⟩,hb5⟩
 rw [hnx.val] at hnq hnr
 have hB5:=Cv hb5 hB4 (Aa _)
 have lq:=hnq.len_le Ae hnx (BZ _ Ad)
 have lr:=hnr.len_le Ae hny (Ce (BU _ hm))
 obtain ⟨a5,c5,rfl⟩:=hr.shape
 have hsb:decide (zS a<0)=true:=Ay HN.out.1
 rw [hsb]
 have hrl:(0:Int)<(rs.length:Int):=by
  have:rs≠[]:=fun e=>by
   have:=(hnr.zero_iff Ae).1 e;have:=HN.out.2;omega
  have:=List.length_pos_iff.2 this;omega
 have hle:((zS a).natAbs:Int) % (zS b).natAbs<=(zS b).natAbs:=Ce (BU _ hm)
 have hy5:=hy.below hb5
 have hP1:Do (true != decide (zS b<0)) (((zS a).natAbs:Int) / (zS b).natAbs+1)=zS a / zS b:=by rw [<-hsb];exact HP.out.1
 have hP2:=HP.out.2
 generalize ((zS a).natAbs:Int) / (zS b).natAbs=Q at *
 generalize ((zS a).natAbs:Int) % (zS b).natAbs=R at *
 generalize decide (zS b<0)=t at *
 have HP1:=A8 (show Do (!t) (Q+1)=zS a / zS b by rw [<-hP1];cases t <;> rfl)
 have HP2:=A8 hP2
 clear hP1 hP2 hsb HN
 go_wp2_with fail
 have hba:Below w5.heap.size w5 (w5.alloc (.cells #[.int .i64 1] 3)):=(Below.refl _ _).alloc (Aa _) _
 refine (KV _ _ qs [1] Q 1 _ (hq.below hba) (Sl.of_own (I9 w5 1)) hnq QB Ad Ae).mono ?_
 rintro e w6 ⟨⟨r,rfl,zs,hz,hnz⟩,hb6⟩
 have hB6:=Cv hb6 (Cv hba hB5 (Aa _)) (Aa _)
 have hr6:=(hr.below hba).below hb6
 have hy6:=(hy5.below hba).below hb6
 obtain ⟨a6,c6,rfl⟩:=hz.shape
 have lz:zs.length<=201:=hnz.length_le Ae (by
  have h1:=hnq.lt Ae;have h2:=Ee (b:=10) Ae (show qs.length<=200 by omega);have h3:(10:Int) ^ 201=10 ^ 200*10:=BW ..;have h4:(0:Int)<10 ^ 200:=Int.pow_pos Ae;generalize (10:Int) ^ 200=P at *
  generalize (10:Int) ^ 201=P' at *
  omega)
 go_wp2_with fail
 refine (HK _ _ ys rs _ R _ hy6 hr6 hny hnr hle Ad).mono ?_
 rintro e w7 ⟨⟨r,rfl,ws,hw7,hnw⟩,hb7⟩
 have hB7:=Cv hb7 hB6 (Aa _)
 have hz7:=hz.below hb7
 have lw:=hnw.len_le Ae hny (by have:=hnr.nonneg Ae;omega)
 go_wp2_with fail
 refine (EE (!t) _ zs _ _ hz7 hnz Ad).mono ?_
 rintro e w8 ⟨⟨r,rfl,rfl⟩,hb8⟩
 have hw8:=hw7.below hb8
 rw [HP1.out,HS.out]
 go_wp2_with fail
 refine (Fe false _ ws _ _ hw8 hnw Ad).mono ?_
 rintro e w9 ⟨rfl,hb9⟩
 rw [show Do false (((zS b).natAbs:Int)-R)=zS a % zS b from HP2.out]
 go_wp2
 refine bodyPost_ret (v:=.tuple #[.string ⟨(Lib.itoa (zS a / zS b)).toArray⟩,.string ⟨(Lib.itoa (zS a % zS b)).toArray⟩,.int .i64 0]) (by simp [results,Tryz.results35,go_sem]) rfl ?_
 exact ⟨⟨_,rfl,HD.out.symm⟩,Cv hb9 (Cv hb8 hB7 (Aa _)) (Aa _)⟩
theorem QC (a b:ByteArray) (ha:okS a=true) (hb:okS b=true) (hsa:a.size<=9223372036854775807) (hsb:b.size<=9223372036854775807) (h0:zS b=0) (w:World) :
  Calls Tryz.prog 35 #[.string a,.string b] w (CR w fun r _=>r=F7 true (zS a) (zS b)):=by
 have V1:=fun W=>CJ a hsa W
 have V2:=fun W=>CJ b hsb W
 rw [ha] at V1
 rw [hb] at V2
 have hE:=A8 (show F7 true (zS a) (zS b)=.tuple #[.string ⟨#[]⟩,.string ⟨#[]⟩,.int .i64 30] by rw [h0];simp [F7])
 have e:=(IK hb).1 h0
 subst e
 clear h0
 go_enter Tryz.func35,Tryz.ntmps35
 go_wp2_with fail
 refine (V1 _).mono ?_
 rintro e w1 ⟨rfl,hb1⟩
 go_wp2_with fail
 refine (V2 _).mono ?_
 rintro e w2 ⟨rfl,hb2⟩
 go_wp2
 refine bodyPost_ret (v:=.tuple #[.string ⟨#[]⟩,.string ⟨#[]⟩,.int .i64 30]) (by simp [results,Tryz.results35,go_sem]) rfl ?_
 exact ⟨⟨_,rfl,hE.out.symm⟩,Cv hb2 hb1 (Aa _)⟩
theorem Sq (a b:ByteArray) (h:okS a=false∨okS b=false) (hsa:a.size<=9223372036854775807) (hsb:b.size<=9223372036854775807) (w:World) :
  Calls Tryz.prog 35 #[.string a,.string b] w (CR w fun r _=>r=F7 false 0 0):=by
 have V1:=fun W=>CJ a hsa W
 have V2:=fun W=>CJ b hsb W
 cases ha:okS a with
 | false =>
  rw [ha] at V1;go_enter Tryz.func35,Tryz.ntmps35;go_wp2_with fail;refine (V1 _).mono ?_;rintro e w1 ⟨rfl,hb1⟩;go_wp2;refine bodyPost_ret (v:=.tuple #[.string ⟨#[]⟩,.string ⟨#[]⟩,.int .i64 30]) (by simp [results,Tryz.results35,go_sem]) rfl ?_;exact ⟨⟨_,rfl,rfl⟩,hb1⟩
 | true =>
  have hb:okS b=false:=by rcases h with h | h;rw [ha] at h;cases h;exact h
  rw [ha] at V1;rw [hb] at V2;go_enter Tryz.func35,Tryz.ntmps35;go_wp2_with fail;refine (V1 _).mono ?_;rintro e w1 ⟨rfl,hb1⟩;go_wp2_with fail;refine (V2 _).mono ?_;rintro e w2 ⟨rfl,hb2⟩;go_wp2;refine bodyPost_ret (v:=.tuple #[.string ⟨#[]⟩,.string ⟨#[]⟩,.int .i64 30]) (by simp [results,Tryz.results35,go_sem]) rfl ?_;exact ⟨⟨_,rfl,rfl⟩,(Cv hb2 hb1 (Aa _))⟩
theorem Sr (a b:ByteArray) (hsa:a.size<=9223372036854775807) (hsb:b.size<=9223372036854775807) (w:World) :
  Calls Tryz.prog 35 #[.string a,.string b] w (CR w fun r _=>r=F7 (okS a&&okS b) (zS a) (zS b)):=by
 by_cases h:okS a=true/\okS b=true
 ·rw [h.1,h.2]
  by_cases h0:zS b=0
  ·exact QC a b h.1 h.2 hsa hsb h0 w
  ·by_cases hneg:zS a<0/\0<((zS a).natAbs:Int) % (zS b).natAbs
   ·exact Om a b h.1 h.2 hsa hsb h0 hneg w
   ·exact Ol a b h.1 h.2 hsa hsb h0 hneg w
 ·rw [(CK h).1]
  exact (Sq a b (CK h).2 hsa hsb w).mono fun _ _ h=>h
def FT (zs:List Int) (M N:Int):Prop:=DA 10 zs/\val 10 zs+M*10 ^ zs.length=N/\(M=0->Top zs)
theorem FT.start (N:Int):FT [] N N:=⟨DA.nil 10,by simp [val],fun _ k hk=>by simp at hk⟩
theorem FT.next {zs:List Int} {M N:Int} (h:FT zs M N) (h0:0<M):FT (zs++[M % 10]) (M / 10) N:=by
 obtain ⟨h1,h2,h3⟩:=h;refine ⟨h1.snoc Ad Ad,?_,fun e=>(JX Ad).out⟩;rw [DN,BP,List.length_singleton,BW,<-h2];have e:M=M % 10+10*(M / 10):=by omega
 have e2:M*10 ^ zs.length=M % 10*10 ^ zs.length+10*(M / 10)*10 ^ zs.length:=by rw [<-Cb,<-e]
 have e3:M / 10*(10 ^ zs.length*10)=10*(M / 10)*10 ^ zs.length:=by
  rw [AB (10 ^ zs.length) 10,<-AA,AB (M / 10) 10]
 omega
theorem FT.len {zs:List Int} {M N:Int} (h:FT zs M N) (h0:0<M) (hN:N<10 ^ 20):zs.length<20:=by
 obtain ⟨h1,h2,_⟩:=h;have h3:=(Dk Ae h1).1;have h4:=Az (show (1:Int)<=M by omega) (Ce (Ed (b:=10) Ae zs.length));exact pow_lt (b:=10) Ae Ad
theorem FT.num {zs:List Int} {N:Int} (h:FT zs 0 N):Dm 10 zs N:=⟨h.1,h.2.2 rfl,by have:=h.2.1;omega⟩
theorem N6 {x k:Int} (h:x<0):x.tdiv k=-((-x) / k):=by
 rw [Go.tdiv_eq_if,AF Ad]
theorem N7 {x k:Int} (h:x<0):x.tmod k=-((-x) % k):=by
 rw [Go.tmod_eq_if,AF Ad]
theorem QD (n:Int) (h0:0<=n) (h1:n<=9223372036854775807) (w:World) :
  Calls Tryz.prog 14 #[.int .i64 n] w (CR w fun r _=>r=.string (I n)):=by
 have HS:=A8 (show Do (decide (n<0)) n=n by rw [Al Ad];rfl)
 go_enter Tryz.func14,Tryz.ntmps14
 go_wp2
 go_loopw [3,4] (fun o m wr=>∃ (M:Int) (zs:List Int),m=.int .i64 M/\0<=M/\M<=9223372036854775807/\Hid (FT zs M n)/\zs.length<=20/\wr.ownsRow w.heap.size 3 1 o zs.length (zs.map (Value.int .i64))/\Below w.heap.size w wr)
  (fun _ m _=>(intOf m).toNat)
 case atStart=>exact ⟨n,[],rfl,h0,h1,FT.start n,Af,World.ownsRow_nil _ _ _ _,Below.refl _ _⟩
 case round =>
  obtain ⟨M,zs,rfl,hM0,hM1,hF,hlen,hown,hB⟩:=hrel;by_cases hz:M=0
  ·subst hz
   have hsl:=Sl.of_own hown;have hnum:=hF.out.num;clear hown;go_wp2_with fail;refine (Fe _ _ zs _ _ hsl hnum Ad).mono ?_;rintro e w2 ⟨rfl,hb2⟩;go_wp2;go_ret;exact ⟨⟨_,rfl,Bk (fun z=>Value.string ⟨(Lib.itoa z).toArray⟩) HS.out⟩,Cv hb2 hB (Aa _)⟩
  ·have hMp:0<M:=by omega
   have hl20:=hF.out.len hMp Ad;have HF:=A8 (hF.out.next hMp);clear hlen;go_wp2_with (at_builtin;refine D4 (M % 10) 22 Tryz.underlying22 rfl _ _ rfl rfl rfl hown Ad hB.size ?_;intro g cp w2 hown2 hg2 hb2);go_roundw;case rel=>exact ⟨M / 10,zs++[M % 10],rfl,Ad,Ad,HF.out,(by rw [BP];simp;omega),(by rw [BP];exact hown2),hB.trans hb2⟩
   case measure=>simp [intOf];omega
theorem QE (n:Int) (h0:n<0) (h1:-9223372036854775808<=n) (w:World) :
  Calls Tryz.prog 14 #[.int .i64 n] w (CR w fun r _=>r=.string (I n)):=by
 have HS:=A8 (show Do true (-n)=n by show -(-n)=n;omega)
 go_enter Tryz.func14,Tryz.ntmps14
 go_wp2
 go_loopw [3,4] (fun o m wr=>∃ (M:Int) (zs:List Int),m=.int .i64 M/\M<=0/\-9223372036854775808<=M/\Hid (FT zs (-M) (-n))/\zs.length<=20/\wr.ownsRow w.heap.size 3 1 o zs.length (zs.map (Value.int .i64))/\Below w.heap.size w wr)
  (fun _ m _=>(-intOf m).toNat)
 case atStart=>exact ⟨n,[],rfl,Ad,h1,FT.start (-n),Af,World.ownsRow_nil _ _ _ _,Below.refl _ _⟩
 case round =>
  obtain ⟨M,zs,rfl,hM0,hM1,hF,hlen,hown,hB⟩:=hrel;by_cases hz:M=0
  ·subst hz
   have hsl:=Sl.of_own hown;have hnum:=hF.out.num;clear hown;go_wp2_with fail;refine (Fe _ _ zs _ _ hsl hnum Ad).mono ?_;rintro e w2 ⟨rfl,hb2⟩;go_wp2;go_ret;exact ⟨⟨_,rfl,Bk (fun z=>Value.string ⟨(Lib.itoa z).toArray⟩) HS.out⟩,Cv hb2 hB (Aa _)⟩
  ·have hMp:0 < -M:=by omega
   have hl20:=hF.out.len hMp Ad;have HF:=A8 (hF.out.next hMp);have q1:M.tdiv 10=-((-M) / 10):=by rw [N6 Ad]
   have q2:M.tmod 10=-((-M) % 10):=by rw [N7 Ad]
   have Q1:=A8 q1;have Q2:=A8 q2;have d0:-9<=M.tmod 10:=by omega
   have d1:M.tmod 10<=0:=by omega
   clear hlen q1 q2;by_cases hd:M.tmod 10<0
   ·go_wp2_with (at_builtin;refine D4 (-(M.tmod 10)) 22 Tryz.underlying22 rfl _ _ rfl rfl rfl hown Ad hB.size ?_;intro g cp w2 hown2 hg2 hb2)
    go_roundw;case rel=>exact ⟨M.tdiv 10,zs++[-(M.tmod 10)],rfl,by have:=Q1.out;omega,by have:=Q1.out;omega,(show FT _ _ _ by rw [Q1.out,Q2.out,Int.neg_neg,Int.neg_neg];exact HF.out),(by rw [BP];simp;omega),(by rw [BP];exact hown2),hB.trans hb2⟩
    case measure=>have:=Q1.out;simp [intOf];omega
   ·have hd0:M.tmod 10=0:=by omega
    have HD0:=A8 hd0;clear hd0;go_wp2_with (at_builtin;refine D4 (M.tmod 10) 22 Tryz.underlying22 rfl _ _ rfl rfl rfl hown Ad hB.size ?_;intro g cp w2 hown2 hg2 hb2);go_roundw;case rel=>exact ⟨M.tdiv 10,zs++[M.tmod 10],rfl,by have:=Q1.out;omega,by have:=Q1.out;omega,(show FT _ _ _ by
     have e:M.tmod 10=-M % 10:=by have:=Q2.out;have:=HD0.out;omega
     rw [Q1.out,e,Int.neg_neg];exact HF.out),(by rw [BP];simp;omega),(by rw [BP];exact hown2),hB.trans hb2⟩
    case measure=>have:=Q1.out;simp [intOf];omega
theorem KZ (n:Int) (h0:-9223372036854775808<=n) (h1:n<=9223372036854775807) (w:World) :
  Calls Tryz.prog 14 #[.int .i64 n] w (CR w fun r _=>r=.string (I n)):=by
 by_cases h:n<0
 ·exact QE n h h0 w
 ·exact QD n Ad h1 w
theorem I_len {z:Int} (h:Cw z):(I z).size<=201:=I_size (k:=200) h Ae
theorem FQ {z:Int} (h:Cw z):(I z).size<=9223372036854775807:=AN (I_len h) Ae
section
variable {x y:Int} {a b:ByteArray} (ha:a=I x) (hb:b=I y) (hx:Cw x) (hy:Cw y) (w:World)
include ha hb hx hy
theorem PD (hs:Cw (x-y)):Calls Tryz.prog 33 #[.string a,.string b] w (CM w (.tuple #[.string (I (x-y)),.int .i64 0])):=by
 refine CM.of (Sd a b (by rw [ha];exact FQ hx) (by rw [hb];exact FQ hy) w) ?_;rw [ha,hb,DR hx,DR hy,Er,Er];exact Fo hs
theorem PE:Calls Tryz.prog 34 #[.string a,.string b] w (CM w (.tuple #[.string (I (CY x y)),.int .i64 0])):=by
 refine CM.of (Sp a b (by rw [ha];exact FQ hx) (by rw [hb];exact FQ hy) w) ?_;rw [ha,hb,DR hx,DR hy,Er,Er];exact Fo (ER hx hy)
theorem Jv (h0:y≠0):Calls Tryz.prog 35 #[.string a,.string b] w (CM w (.tuple #[.string (I (x / y)),.string (I (x % y)),.int .i64 0])):=by
 refine CM.of (Sr a b (by rw [ha];exact FQ hx) (by rw [hb];exact FQ hy) w) ?_;rw [ha,hb,DR hx,DR hy,Er,Er];unfold F7;rw [AI (by simpa using h0)];rfl
theorem PF:Calls Tryz.prog 32 #[.string a,.string b] w (CM w (.int .i64 (Lib.compareInt x y))):=by
 refine (Sf a b (by rw [ha];exact FQ hx) (by rw [hb];exact FQ hy) w).mono fun _ _ h=>⟨?_,h.2⟩
 rw [h.1,ha,hb];unfold MA;rw [DR hx,DR hy,Er,Er];rfl
end
theorem Ov (a b:ByteArray) (hsa:a.size<=9223372036854775807) (hsb:b.size<=9223372036854775807) (h:okS a=false∨okS b=false) (w:World) :
  Calls Tryz.prog 13 #[.string a,.string b] w (CM w (qT false 0)):=by
 have V1:=fun W=>CJ a hsa W
 have V2:=fun W=>CJ b hsb W
 have hor:okS a=false∨okS a=true/\okS b=false:=by cases hn:okS a with
  | false=>exact Or.inl rfl
  | true=>rcases h with h | h;rw [hn] at h;cases h;exact Or.inr ⟨rfl,h⟩
 generalize okS a=c1 at *
 generalize okS b=c2 at *
 clear h
 rcases hor with rfl | ⟨rfl,rfl⟩
 all_goals
  obtain ⟨W0,hW0,hR0,hB0⟩:=Dc w (.string ⟨#[]⟩) (.string ⟨#[]⟩) 31
  go_enter Tryz.func13,Tryz.ntmps13
  go_wp2_with fail
  rw [<-hW0]
  clear hW0
  refine (V1 _).mono ?_
  rintro e w1 ⟨rfl,hb⟩
  have hR1:=hR0.below hb
  have hB1:=Cv hb hB0 (Aa _)
  clear hR0 hB0 hb
  go_wp2_with fail
  refine (V2 _).mono ?_
  rintro e w2 ⟨rfl,hb⟩
  have hR2:=hR1.below hb
  have hB2:=Cv hb hB1 (Aa _)
  clear hR1 hB1 hb
  obtain ⟨k0,k1,q0,q1,y0,y1,hfin⟩:=Di hR2 ⟨#[]⟩ ⟨#[]⟩
  have hfin:=A8 (hfin w hB2 (Aa _))
  clear hR2 hB2
  go_wp2
  exact bodyPost_ret (v:=.tuple #[.agg #[.string ⟨#[]⟩,.string ⟨#[]⟩],.int .i64 40]) (by simp [results,Tryz.results13,go_sem,y0,y1]) rfl ⟨rfl,hfin.out⟩
theorem N9 (a b:ByteArray) (hsa:a.size<=9223372036854775807) (hsb:b.size<=9223372036854775807) (ha:okS a=true) (hb:okS b=true) (h0:zS b=0) (w:World) :
  Calls Tryz.prog 13 #[.string a,.string b] w (CM w (qT false 0)):=by
 have V1:=fun W=>CJ a hsa W
 have V2:=fun W=>CJ b hsb W
 have hz:=FG ((txtS hb).trans (Bk I h0))
 rw [ha] at V1
 rw [hb] at V2
 clear ha hb h0
 obtain ⟨W0,hW0,hR0,hB0⟩:=Dc w (.string ⟨#[]⟩) (.string ⟨#[]⟩) 31
 go_enter Tryz.func13,Tryz.ntmps13
 go_wp2_with fail
 rw [<-hW0]
 clear hW0
 refine (V1 _).mono ?_
 rintro e w1 ⟨rfl,hb⟩
 have hR1:=hR0.below hb
 have hB1:=Cv hb hB0 (Aa _)
 clear hR0 hB0 hb
 go_wp2_with fail
 refine (V2 _).mono ?_
 rintro e w2 ⟨rfl,hb⟩
 have hR2:=hR1.below hb
 have hB2:=Cv hb hB1 (Aa _)
 clear hR1 hB1 hb
 obtain ⟨k0,k1,q0,q1,y0,y1,hfin⟩:=Di hR2 ⟨#[]⟩ ⟨#[]⟩
 have hfin:=A8 (hfin w hB2 (Aa _))
 clear hR2 hB2
 go_wp2
 exact bodyPost_ret (v:=.tuple #[.agg #[.string ⟨#[]⟩,.string ⟨#[]⟩],.int .i64 40]) (by simp [results,Tryz.results13,go_sem,y0,y1]) rfl ⟨rfl,hfin.out⟩
theorem Ow (a b:ByteArray) (hsa:a.size<=9223372036854775807) (hsb:b.size<=9223372036854775807) (ha:okS a=true) (hb:okS b=true) (h0:0<zS b) (w:World) :
  Calls Tryz.prog 13 #[.string a,.string b] w (CM w (qT true (Rat.divInt (zS a) (zS b)))):=by
 have V1:=fun W=>CJ a hsa W
 have V2:=fun W=>CJ b hsb W
 have sx:=smallS ha
 have sy:=smallS hb
 have hne:=Eh (txtS hb) (show zS b≠0 by omega)
 have C1:=fun W=>PF (txtS hb) EI sy Ej W
 rw [Cz h0] at C1
 have hg0:CY (zS a) (zS b)≠0:=by have:=Ik (x:=zS a) h0;omega
 have hgs:=ER sx sy
 have G1:=fun W=>PE (x:=zS a) (y:=zS b) (txtS ha) (txtS hb) sx sy W
 have D1:=fun W=>Jv (x:=zS a) (y:=CY (zS a) (zS b)) (txtS ha) rfl sx hgs W hg0
 have D2:=fun W=>Jv (x:=zS b) (y:=CY (zS a) (zS b)) (txtS hb) rfl sy hgs W hg0
 have HQ:=A8 (show Value.tuple #[.agg #[.string (I ((zS a) / CY (zS a) (zS b))),.string (I ((zS b) / CY (zS a) (zS b)))],.int .i64 0]=qT true (Rat.divInt (zS a) (zS b)) by
  rw [Jt];unfold F4 F5;rw [(Dl h0).1,(Dl h0).2])
 rw [ha] at V1
 rw [hb] at V2
 generalize I ((zS a) / CY (zS a) (zS b))=p at *
 generalize I ((zS b) / CY (zS a) (zS b))=q at *
 generalize I ((zS a) % CY (zS a) (zS b))=r1 at *
 generalize I ((zS b) % CY (zS a) (zS b))=r2 at *
 generalize I (CY (zS a) (zS b))=g at *
 clear ha hb h0 hg0
 obtain ⟨W0,hW0,hR0,hB0⟩:=Dc w (.string ⟨#[]⟩) (.string ⟨#[]⟩) 31
 go_enter Tryz.func13,Tryz.ntmps13
 go_wp2_with fail
 rw [<-hW0]
 clear hW0
 refine (V1 _).mono ?_
 rintro e w1 ⟨rfl,hb⟩
 have hR1:=hR0.below hb
 have hB1:=Cv hb hB0 (Aa _)
 clear hR0 hB0 hb
 go_wp2_with fail
 refine (V2 _).mono ?_
 rintro e w2 ⟨rfl,hb⟩
 have hR2:=hR1.below hb
 have hB2:=Cv hb hB1 (Aa _)
 clear hR1 hB1 hb
 go_wp2_with fail
 refine (C1 _).mono ?_
 rintro e w3 ⟨rfl,hb⟩
 have hR3:=hR2.below hb
 have hB3:=Cv hb hB2 (Aa _)
 clear hR2 hB2 hb
 go_wp2_with fail
 refine (G1 _).mono ?_
 rintro e w4 ⟨rfl,hb⟩
 have hR4:=hR3.below hb
 have hB4:=Cv hb hB3 (Aa _)
 clear hR3 hB3 hb
 go_wp2_with fail
 refine (D1 _).mono ?_
 rintro e w5 ⟨rfl,hb⟩
 have hR5:=hR4.below hb
 have hB5:=Cv hb hB4 (Aa _)
 clear hR4 hB4 hb
 go_wp2_with fail
 refine (D2 _).mono ?_
 rintro e w6 ⟨rfl,hb⟩
 have hR6:=hR5.below hb
 have hB6:=Cv hb hB5 (Aa _)
 clear hR5 hB5 hb
 obtain ⟨k0,k1,q0,q1,y0,y1,hfin⟩:=Di hR6 p q
 have hfin:=A8 (hfin w hB6 (Aa _))
 clear hR6 hB6
 go_wp2
 exact bodyPost_ret (v:=.tuple #[.agg #[.string p,.string q],.int .i64 0]) (by simp [results,Tryz.results13,go_sem,y0,y1]) rfl ⟨Bk Ending.returned HQ.out,hfin.out⟩
theorem Ox (a b:ByteArray) (hsa:a.size<=9223372036854775807) (hsb:b.size<=9223372036854775807) (ha:okS a=true) (hb:okS b=true) (h0:zS b<0) (w:World) :
  Calls Tryz.prog 13 #[.string a,.string b] w (CM w (qT true (Rat.divInt (zS a) (zS b)))):=by
 have V1:=fun W=>CJ a hsa W
 have V2:=fun W=>CJ b hsb W
 have sx:=smallS ha
 have sy:=smallS hb
 have hne:=Eh (txtS hb) (show zS b≠0 by omega)
 have C1:=fun W=>PF (txtS hb) EI sy Ej W
 rw [Cy h0] at C1
 have tx:=Fg sx
 have ty:=Fg sy
 have S1:=fun W=>PD EI (txtS ha) Ej sx W (by rw [Int.zero_sub];exact tx)
 have S2:=fun W=>PD EI (txtS hb) Ej sy W (by rw [Int.zero_sub];exact ty)
 rw [Int.zero_sub] at S1 S2
 have h0':0 < -zS b:=by omega
 have hg0:CY (-zS a) (-zS b)≠0:=by have:=Ik (x:=-zS a) h0';omega
 have hgs:=ER tx ty
 have G1:=fun W=>PE (x:=-zS a) (y:=-zS b) rfl rfl tx ty W
 have D1:=fun W=>Jv (x:=-zS a) (y:=CY (-zS a) (-zS b)) rfl rfl tx hgs W hg0
 have D2:=fun W=>Jv (x:=-zS b) (y:=CY (-zS a) (-zS b)) rfl rfl ty hgs W hg0
 have HQ:=A8 (show Value.tuple #[.agg #[.string (I ((-zS a) / CY (-zS a) (-zS b))),.string (I ((-zS b) / CY (-zS a) (-zS b)))],.int .i64 0]=qT true (Rat.divInt (zS a) (zS b)) by
  rw [<-Fq,Jt];unfold F4 F5;rw [(Dl h0').1,(Dl h0').2])
 rw [ha] at V1
 rw [hb] at V2
 generalize I ((-zS a) / CY (-zS a) (-zS b))=p at *
 generalize I ((-zS b) / CY (-zS a) (-zS b))=q at *
 generalize I ((-zS a) % CY (-zS a) (-zS b))=r1 at *
 generalize I ((-zS b) % CY (-zS a) (-zS b))=r2 at *
 generalize I (CY (-zS a) (-zS b))=g at *
 generalize I (-zS a)=a' at *
 generalize I (-zS b)=b' at *
 clear ha hb h0 hg0 h0'
 obtain ⟨W0,hW0,hR0,hB0⟩:=Dc w (.string ⟨#[]⟩) (.string ⟨#[]⟩) 31
 go_enter Tryz.func13,Tryz.ntmps13
 go_wp2_with fail
 rw [<-hW0]
 clear hW0
 refine (V1 _).mono ?_
 rintro e w1 ⟨rfl,hb⟩
 have hR1:=hR0.below hb
 have hB1:=Cv hb hB0 (Aa _)
 clear hR0 hB0 hb
 go_wp2_with fail
 refine (V2 _).mono ?_
 rintro e w2 ⟨rfl,hb⟩
 have hR2:=hR1.below hb
 have hB2:=Cv hb hB1 (Aa _)
 clear hR1 hB1 hb
 go_wp2_with fail
 refine (C1 _).mono ?_
 rintro e w3 ⟨rfl,hb⟩
 have hR3:=hR2.below hb
 have hB3:=Cv hb hB2 (Aa _)
 clear hR2 hB2 hb
 go_wp2_with fail
 refine (S1 _).mono ?_
 rintro e w4 ⟨rfl,hb⟩
 have hR4:=hR3.below hb
 have hB4:=Cv hb hB3 (Aa _)
 clear hR3 hB3 hb
 go_wp2_with fail
 refine (S2 _).mono ?_
 rintro e w5 ⟨rfl,hb⟩
 have hR5:=hR4.below hb
 have hB5:=Cv hb hB4 (Aa _)
 clear hR4 hB4 hb
 go_wp2_with fail
 refine (G1 _).mono ?_
 rintro e w6 ⟨rfl,hb⟩
 have hR6:=hR5.below hb
 have hB6:=Cv hb hB5 (Aa _)
 clear hR5 hB5 hb
 go_wp2_with fail
 refine (D1 _).mono ?_
 rintro e w7 ⟨rfl,hb⟩
 have hR7:=hR6.below hb
 have hB7:=Cv hb hB6 (Aa _)
 clear hR6 hB6 hb
 go_wp2_with fail
 refine (D2 _).mono ?_
 rintro e w8 ⟨rfl,hb⟩
 have hR8:=hR7.below hb
 have hB8:=Cv hb hB7 (Aa _)
 clear hR7 hB7 hb
 obtain ⟨k0,k1,q0,q1,y0,y1,hfin⟩:=Di hR8 p q
 have hfin:=A8 (hfin w hB8 (Aa _))
 clear hR8 hB8
 go_wp2
 exact bodyPost_ret (v:=.tuple #[.agg #[.string p,.string q],.int .i64 0]) (by simp [results,Tryz.results13,go_sem,y0,y1]) rfl ⟨Bk Ending.returned HQ.out,hfin.out⟩
theorem Oy (a b:ByteArray) (hsa:a.size<=9223372036854775807) (hsb:b.size<=9223372036854775807) (w:World) :
  Calls Tryz.prog 13 #[.string a,.string b] w (CM w (qT (okS a&&okS b&&decide (zS b≠0)) (Rat.divInt (zS a) (zS b)))):=by
 by_cases h:okS a=true/\okS b=true
 ·rw [h.1,h.2]
  rcases Cr (zS b) 0 with h0 | h0 | h0
  ·rw [Ay (show zS b≠0 by omega)];exact Ox a b hsa hsb h.1 h.2 h0 w
  ·rw [Al (show ¬ zS b≠0 by omega),show (true&&true&&false)=false from rfl,GD _ 0];exact N9 a b hsa hsb h.1 h.2 h0 w
  ·rw [Ay (show zS b≠0 by omega)];exact Ow a b hsa hsb h.1 h.2 h0 w
 ·rw [(CK h).1,Bool.false_and,GD _ 0];exact Ov a b hsa hsb (CK h).2 w
theorem SE (n d:Int) (hn:CI n) (hd:CI d) (w:World) :
  Calls Tryz.prog 4 #[.int .i64 n,.int .i64 d] w (CM w (qT (decide (d≠0)) (Rat.divInt n d))):=by
 have F1:=fun W=>CM.of (KZ n hn.1 hn.2 W) rfl
 have F2:=fun W=>CM.of (KZ d hd.1 hd.2 W) rfl
 have Bn:Bd 20 n:=by unfold CI at hn;unfold Bd;omega
 have Bq:Bd 20 d:=by unfold CI at hd;unfold Bd;omega
 have sn:=Bn.small Ae
 have sd:=Bq.small Ae
 have M1:=fun W=>Oy (I n) (I d) (FQ sn) (FQ sd) W
 rw [DR sn,DR sd,Er,Er,show (true&&true&&decide (d≠0))=decide (d≠0) from rfl] at M1
 generalize decide (d≠0)=c at *
 obtain ⟨s,t,e,hq⟩:=Io c (Rat.divInt n d)
 rw [hq] at M1 |-
 clear hq
 generalize I n=a at *
 generalize I d=b at *
 clear hn hd Bn Bq sn sd
 obtain ⟨W0,hW0,hR0,hB0⟩:=Dc w (.string ⟨#[]⟩) (.string ⟨#[]⟩) 31
 go_enter Tryz.func4,Tryz.ntmps4
 go_wp2_with fail
 rw [<-hW0]
 clear hW0
 refine (F1 _).mono ?_
 rintro e w1 ⟨rfl,hb⟩
 have hR1:=hR0.below hb
 have hB1:=Cv hb hB0 (Aa _)
 clear hR0 hB0 hb
 go_wp2_with fail
 refine (F2 _).mono ?_
 rintro e w2 ⟨rfl,hb⟩
 have hR2:=hR1.below hb
 have hB2:=Cv hb hB1 (Aa _)
 clear hR1 hB1 hb
 go_wp2_with fail
 refine (M1 _).mono ?_
 rintro e w3 ⟨rfl,hb⟩
 have hR3:=hR2.below hb
 have hB3:=Cv hb hB2 (Aa _)
 clear hR2 hB2 hb
 obtain ⟨k0,k1,q0,q1,y0,y1,hfin⟩:=Di hR3 s t
 have hfin:=A8 (hfin w hB3 (Aa _))
 clear hR3 hB3 M1 F1 F2
 go_wp2
 exact bodyPost_ret (v:=.tuple #[.agg #[.string s,.string t],.int .i64 e]) (by simp [results,Tryz.results4,go_sem,y0,y1]) rfl ⟨rfl,hfin.out⟩
def tN (o:Option Rat):ByteArray:=match o with
 | some r=>F4 r
 | none=>⟨#[]⟩
def tD (o:Option Rat):ByteArray:=match o with
 | some r=>F5 r
 | none=>⟨#[]⟩
def eO (o:Option Rat):Int:=match o with
 | some _=>0
 | none=>40
def oV (o:Option Rat):Value:=.tuple #[.agg #[.string (tN o),.string (tD o)],.int .i64 (eO o)]
def Fy (o:Option Rat):Prop:=∀ r,o=some r->Ei r
theorem Fy.none:Fy none:=fun r h=>by cases h
theorem Fy.some {r:Rat} (h:Ei r):Fy (some r):=fun s e=>by cases e;exact h
def oIf (c:Bool) (r:Rat):Option Rat:=if c then some r else none
theorem LW (c:Bool) (r:Rat):qT c r=oV (oIf c r):=by cases c <;> rfl
theorem Fy.oIf {c:Bool} {r:Rat} (h:c=true->Ei r):Fy (oIf c r):=by
 unfold Proofs.YtdkonnnmkceagaaGreatDoor.oIf;split
 ·exact Fy.some (h ‹_›)
 ·exact Fy.none
theorem K8 {o:Option Rat} (h:Fy o):rOk (tN o) (tD o)=o.isSome:=by
 cases o with
 | none=>show rOk ⟨#[]⟩ ⟨#[]⟩=false;decide +kernel
 | some r=>exact rOk_of rfl rfl (h r rfl)
theorem zN (r:Rat):zS (tN (some r))=r.num:=Er _
theorem zD (r:Rat):zS (tD (some r))=r.den:=Er _
theorem SF (r:Rat):(r.den:Int)≠0:=by have:=r.den_pos;omega
theorem HO (x y:Rat):Rat.divInt (x.num*y.den+y.num*x.den) (x.den*y.den)=x+y:=by
 rw [Rat.add_def',<-Rat.divInt_ofNat,Int.natCast_mul]
theorem K9 (x y:Rat):Rat.divInt (x.num*y.den-y.num*x.den) (x.den*y.den)=x-y:=by
 rw [Rat.sub_def',<-Rat.divInt_ofNat,Int.natCast_mul]
theorem HV (x y:Rat):Rat.divInt (x.num*y.num) (x.den*y.den)=x*y:=by
 rw [Rat.mul_def',<-Rat.divInt_ofNat,Int.natCast_mul]
def SJ (x y:Rat):Bool:=decide (Cw (x.num*y.den))&&decide (Cw (y.num*x.den))&&decide (Cw (x.num*y.den+y.num*x.den))&&decide (Cw ((x.den:Int)*y.den))
def fSub (x y:Rat):Bool:=decide (Cw (x.num*y.den))&&decide (Cw (y.num*x.den))&&decide (Cw (x.num*y.den-y.num*x.den))&&decide (Cw ((x.den:Int)*y.den))
def SK (x y:Rat):Bool:=decide (Cw (x.num*y.num))&&decide (Cw ((x.den:Int)*y.den))
def oBin (f:Rat->Rat->Bool) (g:Rat->Rat->Rat) (a b:Option Rat):Option Rat:=match a,b with
 | some x,some y=>oIf (f x y) (g x y)
 | _,_=>none
def Na:=oBin SJ (·+·)
def oSub:=oBin fSub (· - ·)
def LX:=oBin SK (· * ·)
theorem Ka (x y:Rat):(x.den:Int)*y.den≠0:=Int.mul_ne_zero (SF x) (SF y)
theorem Gj {x y:Rat} {n:Int} (h:Cw n) (hd:Cw ((x.den:Int)*y.den)):Ei (Rat.divInt n (x.den*y.den)) :=
 FP h hd (Bw (DS x) (DS y))
theorem Fy.add {a b:Option Rat}:Fy (Na a b):=by
 cases a with
 | none=>exact Fy.none
 | some x=>cases b with
  | none=>exact Fy.none
  | some y =>
   refine Fy.oIf fun e=>?_
   unfold SJ at e;simp at e;show Ei (x+y);rw [<-HO];exact Gj e.1.2 e.2
theorem Fy.sub {a b:Option Rat}:Fy (oSub a b):=by
 cases a with
 | none=>exact Fy.none
 | some x=>cases b with
  | none=>exact Fy.none
  | some y =>
   refine Fy.oIf fun e=>?_
   unfold fSub at e;simp at e;show Ei (x-y);rw [<-K9];exact Gj e.1.2 e.2
theorem Fy.mul {a b:Option Rat}:Fy (LX a b):=by
 cases a with
 | none=>exact Fy.none
 | some x=>cases b with
  | none=>exact Fy.none
  | some y =>
   refine Fy.oIf fun e=>?_
   unfold SK at e;simp at e;show Ei (x*y);rw [<-HV];exact Gj e.1 e.2
theorem L4 (x y:Rat):Na (some x) (some y)=oIf (SJ x y) (x+y):=rfl
theorem L5 (x y:Rat):LX (some x) (some y)=oIf (SK x y) (x*y):=rfl
theorem FH {c:Bool} {r:Rat} (h:c=false):qT c r=oV none:=by rw [h];rfl
section
variable {a b:Option Rat} (ha:Fy a) (hb:Fy b) (w:World) (hE:Dv w)
include ha hb hE
theorem qadd_o:Calls Tryz.prog 52 #[.agg #[.string (tN a),.string (tD a)],.agg #[.string (tN b),.string (tD b)]] w (CM w (oV (Na a b))):=by
 have h:=K7 (tN a) (tD a) (tN b) (tD b) w hE;rw [K8 ha,K8 hb] at h;cases a with
 | none=>rw [show ((none:Option Rat).isSome&&b.isSome)=false from rfl,Bool.false_and,Bool.false_and,Bool.false_and,Bool.false_and,Bool.false_and,FH rfl] at h;exact h
 | some x=>cases b with
  | none=>rw [show ((some x).isSome&&(none:Option Rat).isSome)=false from rfl,Bool.false_and,Bool.false_and,Bool.false_and,Bool.false_and,Bool.false_and,FH rfl] at h;exact h
  | some y =>
   rw [zN,zN,zD,zD,HO,Ay (Ka x y),Bool.and_true,show ((some x).isSome&&(some y).isSome)=true from rfl,AH,LW] at h;rw [L4];unfold SJ;exact h
theorem qmul_o:Calls Tryz.prog 51 #[.agg #[.string (tN a),.string (tD a)],.agg #[.string (tN b),.string (tD b)]] w (CM w (oV (LX a b))):=by
 have h:=K6 (tN a) (tD a) (tN b) (tD b) w hE;rw [K8 ha,K8 hb] at h;cases a with
 | none=>rw [show ((none:Option Rat).isSome&&b.isSome)=false from rfl,Bool.false_and,Bool.false_and,Bool.false_and,FH rfl] at h;exact h
 | some x=>cases b with
  | none=>rw [show ((some x).isSome&&(none:Option Rat).isSome)=false from rfl,Bool.false_and,Bool.false_and,Bool.false_and,FH rfl] at h;exact h
  | some y =>
   rw [zN,zN,zD,zD,HV,Ay (Ka x y),Bool.and_true,show ((some x).isSome&&(some y).isSome)=true from rfl,AH,LW] at h;rw [L5];unfold SK;exact h
end
def Hb (x y:Rat):Int:=Lib.compareInt (x.num*y.den) (y.num*x.den)
def oCmp (a b:Option Rat):Int:=match a,b with
 | some x,some y=>Hb x y
 | _,_=>0
theorem LY {a b:Option Rat} (ha:Fy a) (hb:Fy b) (w:World) (hE:Dv w) :
  Calls Tryz.prog 12 #[.agg #[.string (tN a),.string (tD a)],.agg #[.string (tN b),.string (tD b)]] w (CM w (.int .i64 (oCmp a b))):=by
 have h:=SD (tN a) (tD a) (tN b) (tD b) w hE
 rw [K8 ha,K8 hb] at h
 cases a with
 | none=>exact h
 | some x=>cases b with
  | none=>exact h
  | some y=>rw [zN,zN,zD,zD] at h;exact h
theorem cmpQ_lt {x y:Rat} (h:x<y):Hb x y=-1:=Cy ((Rat.lt_iff x y).1 h)
theorem cmpQ_gt {x y:Rat} (h:y<x):Hb x y=1:=Cz ((Rat.lt_iff y x).1 h)
theorem cmpQ_eq (x:Rat):Hb x x=0:=CU _
theorem HW (x y:Rat):(x<y/\Hb x y=-1)∨(x=y/\Hb x y=0)∨(y<x/\Hb x y=1):=by
 by_cases h:x<y
 ·exact .inl ⟨h,cmpQ_lt h⟩
 ·by_cases h2:y<x
  ·exact .inr (.inr ⟨h2,cmpQ_gt h2⟩)
  ·have e:x=y:=Rat.le_antisymm (Rat.not_lt.1 h2) (Rat.not_lt.1 h)
   subst e;exact .inr (.inl ⟨rfl,cmpQ_eq x⟩)
theorem PG {x y:Rat}:Hb x y<=0↔x<=y:=by
 rcases HW x y with ⟨h,e⟩ | ⟨h,e⟩ | ⟨h,e⟩
 ·rw [e];exact ⟨fun _=>Rat.le_of_lt h,fun _=>by decide⟩
 ·rw [e,h];exact ⟨fun _=>Rat.le_refl,fun _=>by decide⟩
 ·rw [e];exact ⟨fun h'=>by omega,fun h'=>absurd h (Rat.not_lt.2 h')⟩
def oOf (n d:Int):Option Rat:=oIf (decide (d≠0)) (Rat.divInt n d)
theorem QN {n d:Int} (hn:Cw n) (hd:Cw d) (h0:d≠0):Ei (Rat.divInt n d):=by
 rcases Int.lt_or_gt_of_ne h0 with h | h
 ·rw [<-Fq];exact FP (Fg hn) (Fg hd) Ad
 ·exact FP hn hd h
theorem Fy.of {n d:Int} (hn:Cw n) (hd:Cw d):Fy (oOf n d):=Fy.oIf fun e=>QN hn hd (by simpa using e)
theorem Kb {z:Int} (h:CI z):Cw z:=(show Bd 20 z by unfold CI at h;unfold Bd;omega).small Ae
theorem Nb (n d:Int) (hn:CI n) (hd:CI d) (w:World) (hE:Dv w):Calls Tryz.prog 16 #[.int .i64 n,.int .i64 d] w (CM w (oV (oOf n d))):=by
 have h:=qof_any n d hn hd w hE;rw [LW] at h;exact h
theorem SM (n d:Int) (hn:CI n) (hd:CI d) (w:World):Calls Tryz.prog 4 #[.int .i64 n,.int .i64 d] w (CM w (oV (oOf n d))):=by
 have h:=SE n d hn hd w;rw [LW] at h;exact h
def DB (c m:Int):Int:=(if c<0 then -(c+1) else c) % m
theorem CP {c m:Int} (h:0<m):0<=DB c m:=BY _ Ad
theorem Ds {c m:Int} (h:0<m):DB c m<m:=BU _ h
structure BL (w:World) (L:List (Nat×Array Value×TypeId)) (W:World):Prop where
 below:Below w.heap.size w W
 blks:∀ p∈L,CO W p.1 p.2.1 p.2.2
abbrev Ec:=List (Nat×Array Value×TypeId)
theorem BL.start (w:World):BL w [] w:=⟨Below.refl _ _,fun p h=>by cases h⟩
theorem BL.call {w W W':World} {L:Ec} (h:BL w L W) (hb:Below W.heap.size W W'):BL w L W' :=
 ⟨Cv hb h.below (Aa _),fun p hp=>(h.blks p hp).below hb⟩
theorem BL.drew {w W:World} {L:Ec} (h:BL w L W):BL w L W.drew:=h.call (CN W 1)
theorem BL.drewN {w W:World} {L:Ec} (h:BL w L W) (n:Nat):BL w L (W.drewN n):=h.call (CN W n)
theorem BL.new {w W:World} {L:Ec} (h:BL w L W) (o:Obj):BL w L (W.alloc o):=h.call ((Below.refl _ _).alloc (Aa _) o)
theorem BL.add {w W:World} {L:Ec} (h:BL w L W) (cs:Array Value) (t:TypeId):BL w ((W.heap.size,cs,t) :: L) (W.alloc (.cells cs t)):=by
 refine ⟨(h.new _).below,fun p hp=>?_⟩;rcases As.1 hp with rfl | hp
 ·exact CO.new _ _ _
 ·exact (h.new _).blks p hp
theorem BL.add' {w W:World} {L:Ec} (h:BL w L W) (cs:Array Value) (t:TypeId):∃ W',W'=W.alloc (.cells cs t)/\BL w ((W.heap.size,cs,t) :: L) W'/\W'.heap.size=W.heap.size+1 :=
 ⟨_,rfl,h.add cs t,AP _ _⟩
theorem BL.lts {w W:World} {L:Ec} (h:BL w L W):∀ p∈L,p.1<W.heap.size:=fun p hp=>(h.blks p hp).lt
theorem BL.drop {w W:World} {L M:Ec} (h:BL w L W) (hm:∀ p∈M,p∈L):BL w M W:=⟨h.below,fun p hp=>h.blks p (hm p hp)⟩
theorem BL.cell {w W:World} {L:Ec} (h:BL w L W) (B:Nat) (cs:Array Value) (t:TypeId) (hm:(B,cs,t)∈L) (i:Nat):W.cell? ⟨B,i,none⟩=cs[i]? := (h.blks _ hm).cell i
theorem BL.frozen {w W:World} {L:Ec} (h:BL w L W) (B:Nat) (cs:Array Value) (t:TypeId) (hm:(B,cs,t)∈L) (i:Nat):W.frozen? ⟨B,i,none⟩=false:=(h.blks _ hm).frozen i
theorem BL.c1 {w W:World} {L:Ec} (h:BL w L W) (B:Nat) (a:Value) (t:TypeId) (hm:(B,#[a],t)∈L):W.cell? ⟨B,0,none⟩=some a:=h.cell B _ t hm 0
theorem BL.c2 {w W:World} {L:Ec} (h:BL w L W) (B:Nat) (a b:Value) (t:TypeId) (hm:(B,#[a,b],t)∈L):W.cell? ⟨B,0,none⟩=some a/\W.cell? ⟨B,1,none⟩=some b:=⟨h.cell B _ t hm 0,h.cell B _ t hm 1⟩
theorem BL.c4 {w W:World} {L:Ec} (h:BL w L W) (B:Nat) (a b c d:Value) (t:TypeId) (hm:(B,#[a,b,c,d],t)∈L):W.cell? ⟨B,0,none⟩=some a/\W.cell? ⟨B,1,none⟩=some b/\W.cell? ⟨B,2,none⟩=some c/\W.cell? ⟨B,3,none⟩=some d :=
 ⟨h.cell B _ t hm 0,h.cell B _ t hm 1,h.cell B _ t hm 2,h.cell B _ t hm 3⟩
theorem BL.c8 {w W:World} {L:Ec} (h:BL w L W) (B:Nat) (a b c d e f g k:Value) (t:TypeId) (hm:(B,#[a,b,c,d,e,f,g,k],t)∈L):W.cell? ⟨B,0,none⟩=some a/\W.cell? ⟨B,1,none⟩=some b/\W.cell? ⟨B,2,none⟩=some c/\W.cell? ⟨B,3,none⟩=some d /\
  W.cell? ⟨B,4,none⟩=some e/\W.cell? ⟨B,5,none⟩=some f/\W.cell? ⟨B,6,none⟩=some g/\W.cell? ⟨B,7,none⟩=some k :=
 ⟨h.cell B _ t hm 0,h.cell B _ t hm 1,h.cell B _ t hm 2,h.cell B _ t hm 3,h.cell B _ t hm 4,h.cell B _ t hm 5,h.cell B _ t hm 6,h.cell B _ t hm 7⟩
theorem BL.only {w W W':World} {L:Ec} {S:List Nat} (h:BL w L W) (ho:CG S W W') (hS:∀ k∈S,w.heap.size<=k) (hL:∀ p∈L,p.1∉S):BL w L W' :=
 ⟨h.below.trans (ho.toBelow h.below.size hS),fun p hp=>(h.blks p hp).only ho (hL p hp)⟩
theorem BL.setG {w W:World} {L:Ec} {g:Nat} (h:BL w L W) (hge:w.heap.size<=g) (hlt:∀ p∈L,p.1<g) (x y:Value):BL w L ((W.setCell ⟨g,0,none⟩ x).setCell ⟨g,1,none⟩ y) :=
 h.only (S:=[g]) (((CG.refl [g] W).setCell (p:=⟨g,0,none⟩) Af x).setCell (p:=⟨g,1,none⟩) Af y) (by simpa using hge) (fun p hp=>by have:=hlt p hp;simp;omega)
theorem BL.env {w W:World} {L:Ec} (h:BL w L W) (hE:Dv w):Dv W:=hE.below h.below (Aa _)
theorem nres {W W':World} (hb:Below (W.alloc (.cells #[.string ⟨#[]⟩,.string ⟨#[]⟩] 31)).heap.size (W.alloc (.cells #[.string ⟨#[]⟩,.string ⟨#[]⟩] 31)) W'):CO W' W.heap.size #[.string ⟨#[]⟩,.string ⟨#[]⟩] 31:=(CO.new _ _ _).below hb
theorem H3 {W W':World} (hb:Below (W.alloc (.cells #[.string ⟨#[]⟩,.string ⟨#[]⟩] 31)).drew.heap.size (W.alloc (.cells #[.string ⟨#[]⟩,.string ⟨#[]⟩] 31)).drew W'):CO W' W.heap.size #[.string ⟨#[]⟩,.string ⟨#[]⟩] 31:=((CO.new _ _ _).below (CN _ 1)).below hb
def BQ (k:Nat) (r:Rat):Prop:=Bd k r.num/\Bd k (r.den:Int)
theorem BQ.small {k:Nat} {r:Rat} (h:BQ k r) (hk:k<=200):Ei r:=⟨h.1.small hk,h.2.small hk⟩
theorem BQ.ok {k:Nat} {r:Rat} (h:BQ k r) (hk:k<=200):Fy (some r):=Fy.some (h.small hk)
theorem BQ.mono {j k:Nat} {r:Rat} (h:BQ j r) (hk:j<=k):BQ k r:=⟨h.1.mono hk,h.2.mono hk⟩
theorem H5 {k:Nat} {x y:Int} (hx:Bd k x) (hy:Bd k y) (h0:0<y):BQ k (Rat.divInt x y):=by
 obtain ⟨e1,e2⟩:=Dl (x:=x) h0;unfold BQ;rw [e1,e2];exact ⟨hx.ediv,hy.ediv⟩
end
section
open Go.RowKit
structure QO (w:World) (L:Ec):Prop where
 ge:∀ p∈L,w.heap.size<=p.1
 asc:L.Pairwise (fun p q=>q.1<p.1)
theorem QO.nil (w:World):QO w []:=⟨(fun p hp=>by cases hp),List.Pairwise.nil⟩
theorem QO.add {w W:World} {L:Ec} (h:QO w L) (hS:BL w L W) (cs:Array Value) (t:TypeId):QO w ((W.heap.size,cs,t) :: L) :=
 ⟨fun p hp=>by
  rcases As.1 hp with rfl | hp
  ·exact hS.below.size
  ·exact h.ge p hp,AU.2 ⟨fun p hp=>hS.lts p hp,h.asc⟩⟩
theorem QO.put {w:World} {A C:Ec} {B:Nat} {cs ds:Array Value} {t:TypeId} (h:QO w (A++(B,cs,t) :: C)):QO w (A++(B,ds,t) :: C):=by
 refine ⟨fun p hp=>?_,?_⟩
 ·rcases B7.1 hp with h1 | h1
  ·exact h.ge p (AY _ h1)
  ·rcases As.1 h1 with rfl | h1
   ·exact h.ge (B,cs,t) (AV _ AW)
   ·exact h.ge p (AV _ (AZ _ h1))
 ·have h2:=AX.1 h.asc
  refine AX.2 ⟨h2.1,AU.2 (AU.1 h2.2.1),fun p hp q hq=>?_⟩;rcases As.1 hq with rfl | hq
  ·exact h2.2.2 p hp (B,cs,t) AW
  ·exact h2.2.2 p hp q (AZ _ hq)
theorem QO.ne {w:World} {A C:Ec} {B:Nat} {cs:Array Value} {t:TypeId} (h:QO w (A++(B,cs,t) :: C)):∀ p∈A++C,p.1≠B:=by
 intro p hp;have h2:=AX.1 h.asc;rcases B7.1 hp with h1 | h1
 ·have:B<p.1:=h2.2.2 p h1 (B,cs,t) AW
  omega
 ·have:p.1<B:=(AU.1 h2.2.1).1 p h1
  omega
theorem QO.base {w:World} {A C:Ec} {B:Nat} {cs:Array Value} {t:TypeId} (h:QO w (A++(B,cs,t) :: C)):w.heap.size<=B:=h.ge (B,cs,t) (AV _ AW)
theorem BL.put {w W:World} {A C:Ec} {B:Nat} {a b:Value} {t:TypeId} (hO:QO w (A++(B,#[a,b],t) :: C)) (h:BL w (A++(B,#[a,b],t) :: C) W) (x y:Value) :
  BL w (A++(B,#[x,y],t) :: C) ((W.setCell ⟨B,0,none⟩ x).setCell ⟨B,1,none⟩ y):=by
 have ho:CG [B] W ((W.setCell ⟨B,0,none⟩ x).setCell ⟨B,1,none⟩ y):=((CG.refl [B] W).setCell (p:=⟨B,0,none⟩) Af x).setCell (p:=⟨B,1,none⟩) Af y
 have h1:=(h.drop (M:=A++C) (fun p hp=>by
  rcases B7.1 hp with h1 | h1
  ·exact AY _ h1
  ·exact AV _ (AZ _ h1))).only ho (by simpa using hO.base) (fun p hp=>by simpa using hO.ne p hp)
 refine ⟨h1.below,fun p hp=>?_⟩
 rcases B7.1 hp with h2 | h2
 ·exact h1.blks p (AY _ h2)
 ·rcases As.1 h2 with rfl | h2
  ·exact ((h.blks (B,#[a,b],t) (AV _ AW)).set 0 x).set 1 y
  ·exact h1.blks p (AV _ h2)
structure E9 where
 e:TypeId
 k:Nat
 v:Value
 n:Nat
 xs:List Value
structure CE (w:World) (L:Ec) (R:List E9) (W:World):Prop where
 below:Below w.heap.size w W
 ge:∀ p∈L,w.heap.size<=p.1
 blks:∀ p∈L,CO W p.1 p.2.1 p.2.2
 dup:L.Pairwise (fun p q=>p.1≠q.1)
 rows:∀ r∈R,W.ownsRow w.heap.size r.e r.k r.v r.n r.xs
 rdis:R.Pairwise (fun r s=>∀ b,r.v.ownBlock=some b->s.v.ownBlock≠some b)
 rL:∀ r∈R,∀ p∈L,r.v.ownBlock≠some p.1
section
variable {w W W':World} {L A C:Ec} {R RA RC:List E9} {B:Nat} {cs:Array Value} {t:TypeId}
theorem CE.start (w:World):CE w [] [] w:=⟨Below.refl _ _,fun p h=>(by cases h),fun p h=>(by cases h),.nil,fun p h=>(by cases h),.nil,fun p h=>(by cases h)⟩
theorem CE.call (h:CE w L R W) (hb:Below W.heap.size W W'):CE w L R W' :=
 ⟨Cv hb h.below (Aa _),h.ge,fun p hp=>(h.blks p hp).below hb,h.dup,fun r hr=>DE (h.rows r hr) hb,h.rdis,h.rL⟩
theorem CE.drew (h:CE w L R W):CE w L R W.drew:=h.call (CN W 1)
theorem CE.drewN (h:CE w L R W) (n:Nat):CE w L R (W.drewN n):=h.call (CN W n)
theorem CE.new (h:CE w L R W) (o:Obj):CE w L R (W.alloc o):=h.call ((Below.refl _ _).alloc (Aa _) o)
theorem CE.lt (h:CE w L R W):∀ p∈L,p.1<W.heap.size:=fun p hp=>(h.blks p hp).lt
theorem CE.add (h:CE w L R W) (cs:Array Value) (t:TypeId):CE w ((W.heap.size,cs,t) :: L) R (W.alloc (.cells cs t)):=by
 have h1:=h.new (.cells cs t);refine ⟨h1.below,fun p hp=>?_,fun p hp=>?_,AU.2 ⟨fun p hp=>?_,h.dup⟩,h1.rows,h.rdis,fun r hr p hp=>?_⟩
 ·rcases As.1 hp with rfl | hp
  ·exact h.below.size
  ·exact h.ge p hp
 ·rcases As.1 hp with rfl | hp
  ·exact CO.new _ _ _
  ·exact h1.blks p hp
 ·have:=h.lt p hp;show W.heap.size≠p.1;omega
 ·rcases As.1 hp with rfl | hp
  ·intro e;have:=((h.rows r hr).lt _ e).2;omega
  ·exact h.rL r hr p hp
theorem CE.add' (h:CE w L R W) (cs:Array Value) (t:TypeId):∃ W',W'=W.alloc (.cells cs t)/\CE w ((W.heap.size,cs,t) :: L) R W'/\W'.heap.size=W.heap.size+1:=⟨_,rfl,h.add cs t,AP _ _⟩
theorem CE.addB (h:CE w L R W) (cs:Array Value) (t:TypeId):∃ W' B,W'=W.alloc (.cells cs t)/\B=W.heap.size/\CE w ((B,cs,t) :: L) R W':=⟨_,_,rfl,rfl,h.add cs t⟩
theorem CE.sub {L':Ec} (h:CE w L R W) (hs:L'.Sublist L):CE w L' R W :=
 ⟨h.below,fun p hp=>h.ge p (hs.subset hp),fun p hp=>h.blks p (hs.subset hp),h.dup.sublist hs,h.rows,h.rdis,fun r hr p hp=>h.rL r hr p (hs.subset hp)⟩
theorem CE.rsub {R':List E9} (h:CE w L R W) (hs:R'.Sublist R):CE w L R' W :=
 ⟨h.below,h.ge,h.blks,h.dup,fun r hr=>h.rows r (hs.subset hr),h.rdis.sublist hs,fun r hr=>h.rL r (hs.subset hr)⟩
theorem CE.perm {L':Ec} (h:CE w L R W) (hs:L.Perm L'):CE w L' R W :=
 ⟨h.below,fun p hp=>h.ge p (hs.mem_iff.2 hp),fun p hp=>h.blks p (hs.mem_iff.2 hp),(hs.pairwise_iff (fun {_ _} hab e=>hab e.symm)).1 h.dup,h.rows,h.rdis,fun r hr p hp=>h.rL r hr p (hs.mem_iff.2 hp)⟩
theorem CE.cell (h:CE w L R W) (B:Nat) (cs:Array Value) (t:TypeId) (hm:(B,cs,t)∈L) (i:Nat):W.cell? ⟨B,i,none⟩=cs[i]? := (h.blks _ hm).cell i
theorem CE.frozen (h:CE w L R W) (B:Nat) (cs:Array Value) (t:TypeId) (hm:(B,cs,t)∈L) (i:Nat):W.frozen? ⟨B,i,none⟩=false:=(h.blks _ hm).frozen i
theorem CE.old (h:CE w L R W) {b k:Nat} {u:Value} (hb:b<w.heap.size) (hu:w.cell? ⟨b,k,none⟩=some u):W.cell? ⟨b,k,none⟩=some u:=(h.below.cell (p:=⟨b,k,none⟩) hb).trans hu
theorem CE.size (h:CE w L R W):w.heap.size<=W.heap.size:=h.below.size
theorem CE.put (h:CE w (A++(B,cs,t) :: C) R W) (i:Nat) (x:Value):CE w (A++(B,cs.setIfInBounds i x,t) :: C) R (W.setCell ⟨B,i,none⟩ x):=by
 have hB:(B,cs,t)∈A++(B,cs,t) :: C:=AV _ AW;have ho:CG [B] W (W.setCell ⟨B,i,none⟩ x):=(CG.refl [B] W).setCell (p:=⟨B,i,none⟩) Af x;have hd:=AX.1 h.dup;have hdc:=AU.1 hd.2.1;have hge:=h.ge _ hB;have old:∀ p,p∈A∨p∈C->p∈A++(B,cs,t) :: C/\p.1≠B:=fun p hp=>by
  rcases hp with hp | hp
  ·exact ⟨AY _ hp,hd.2.2 p hp _ AW⟩
  ·exact ⟨AV _ (AZ _ hp),fun e=>hdc.1 p hp e.symm⟩
 have split:∀ p,p∈A++(B,cs.setIfInBounds i x,t) :: C->p=(B,cs.setIfInBounds i x,t)∨(p∈A∨p∈C):=fun p hp=>by
  rcases B7.1 hp with h1 | h1
  ·exact .inr (.inl h1)
  ·rcases As.1 h1 with h1 | h1
   ·exact .inl h1
   ·exact .inr (.inr h1)
 refine ⟨h.below.trans (ho.toBelow h.below.size (by simpa using hge)),fun p hp=>?_,fun p hp=>?_,?_,fun r hr=>?_,h.rdis,fun r hr p hp=>?_⟩
 ·rcases split p hp with rfl | hp
  ·exact hge
  ·exact h.ge p (old p hp).1
 ·rcases split p hp with rfl | hp
  ·exact (h.blks _ hB).set i x
  ·exact (h.blks p (old p hp).1).only ho (by simpa using (old p hp).2)
 ·refine AX.2 ⟨hd.1,AU.2 ⟨hdc.1,hdc.2⟩,fun p hp q hq=>?_⟩
  rcases As.1 hq with rfl | hq
  ·exact hd.2.2 p hp (B,cs,t) AW
  ·exact hd.2.2 p hp q (AZ _ hq)
 ·refine (h.rows r hr).kept (D0 W B i x) ?_
  cases hb:r.v.ownBlock with
  | none=>exact .inl rfl
  | some b=>exact .inr fun e=>h.rL r hr _ hB (by rw [hb,e])
 ·rcases split p hp with rfl | hp
  ·exact h.rL r hr (B,cs,t) hB
  ·exact h.rL r hr p (old p hp).1
theorem CE.row0 (h:CE w L R W) (e:TypeId) (k:Nat):CE w L (⟨e,k,.slice none 0 0,0,[]⟩ :: R) W:=by
 refine ⟨h.below,h.ge,h.blks,h.dup,fun r hr=>?_,AU.2 ⟨fun s _ b hb=>(by cases hb),h.rdis⟩,fun r hr p hp=>?_⟩
 ·rcases As.1 hr with rfl | hr
  ·exact World.ownsRow_nil _ _ _ _
  ·exact h.rows r hr
 ·rcases As.1 hr with rfl | hr
  ·intro e;cases e
  ·exact h.rL r hr p hp
theorem CE.app {e:TypeId} {k n n':Nat} {v v':Value} {xs xs':List Value} (h:CE w L (RA++⟨e,k,v,n,xs⟩ :: RC) W) (hg:W.grownBy W' v.ownBlock) (hr:W'.ownsRow w.heap.size e k v' n' xs') (hv:∀ b,v'.ownBlock=some b->v.ownBlock=some b∨W.heap.size<=b) :
  CE w L (RA++⟨e,k,v',n',xs'⟩ :: RC) W':=by
 have hM:(⟨e,k,v,n,xs⟩:E9)∈RA++⟨e,k,v,n,xs⟩ :: RC:=AV _ AW
 have hd:=AX.1 h.rdis
 have hdc:=AU.1 hd.2.1
 have old:∀ s,s∈RA∨s∈RC->s∈RA++⟨e,k,v,n,xs⟩ :: RC/\(∀ b,s.v.ownBlock=some b->v.ownBlock≠some b):=fun s hs=>by
  rcases hs with hs | hs
  ·exact ⟨AY _ hs,fun b hb=>hd.2.2 s hs _ AW b hb⟩
  ·exact ⟨AV _ (AZ _ hs),fun b hb e'=>hdc.1 s hs b e' hb⟩
 have split:∀ s,s∈RA++⟨e,k,v',n',xs'⟩ :: RC->s=⟨e,k,v',n',xs'⟩∨(s∈RA∨s∈RC):=fun p hp=>by
  rcases B7.1 hp with h1 | h1
  ·exact .inr (.inl h1)
  ·rcases As.1 h1 with h1 | h1
   ·exact .inl h1
   ·exact .inr (.inr h1)
 have hge:∀ b,v.ownBlock=some b->w.heap.size<=b:=fun b hb=>((h.rows _ hM).lt b hb).1
 have dis:∀ s,s∈RA∨s∈RC->∀ b,s.v.ownBlock=some b->v'.ownBlock≠some b:=fun s hs b hb e'=>by
  rcases hv b e' with h1 | h1
  ·exact (old s hs).2 b hb h1
  ·have:=((h.rows s (old s hs).1).lt b hb).2;omega
 refine ⟨⟨hg.os.trans h.below.os,hg.tape.trans h.below.tape,hg.output.trans h.below.output,AN h.below.size hg.size,fun i hi=>(hg.block i (A9 hi h.below.size) (fun e'=>by have:=hge i e'.symm;omega)).trans (h.below.block i hi)⟩,h.ge,fun p hp=>?_,h.dup,fun s hs=>?_,?_,fun s hs p hp=>?_⟩
 ·exact (h.blks p hp).kept hg (fun e'=>h.rL _ hM p hp e'.symm)
 ·rcases split s hs with rfl | hs
  ·exact hr
  ·refine (h.rows s (old s hs).1).kept hg ?_
   cases hb:s.v.ownBlock with
   | none=>exact .inl rfl
   | some b=>exact .inr fun e'=>(old s hs).2 b hb e'.symm
 ·refine AX.2 ⟨hd.1,AU.2 ⟨fun s hs b hb e'=>dis s (.inr hs) b e' hb,hdc.2⟩,fun s hs q hq=>?_⟩
  rcases As.1 hq with rfl | hq
  ·exact fun b hb=>dis s (.inl hs) b hb
  ·exact hd.2.2 s hs q (AZ _ hq)
 ·rcases split s hs with rfl | hs
  ·intro e'
   rcases hv p.1 e' with h1 | h1
   ·exact h.rL _ hM p hp h1
   ·have:=h.lt p hp;omega
  ·exact h.rL s (old s hs).1 p hp
theorem CE.own {e:TypeId} {k n:Nat} {v:Value} {xs:List Value} (h:CE w L R W) (hr:(⟨e,k,v,n,xs⟩:E9)∈R):W.ownsRow w.heap.size e k v n xs:=h.rows _ hr
theorem CE.env (h:CE w L R W) (hE:Dv w):Dv W:=hE.below h.below (Aa _)
theorem CE.within (h:CE w L R W) (hs:CE W A RA W'):CE w (A++L) (RA++R) W':=by
 have h1:=h.call hs.below;refine ⟨h1.below,fun p hp=>?_,fun p hp=>?_,AX.2 ⟨hs.dup,h.dup,fun p hp q hq e=>?_⟩,fun r hr=>?_,AX.2 ⟨hs.rdis,h.rdis,fun r hr s hs' b hb e=>?_⟩,fun r hr p hp=>?_⟩
 ·rcases B7.1 hp with hp | hp
  ·exact AN h.size (hs.ge p hp)
  ·exact h.ge p hp
 ·rcases B7.1 hp with hp | hp
  ·exact hs.blks p hp
  ·exact h1.blks p hp
 ·have:=hs.ge p hp;have:=h.lt q hq;omega
 ·rcases B7.1 hr with hr | hr
  ·obtain ⟨a,b⟩:=hs.rows r hr
   exact ⟨a,b.imp id fun ⟨g,cap,cur,e1,e2,r⟩=>⟨g,cap,cur,e1,AN h.size e2,r⟩⟩
  ·exact h1.rows r hr
 ·have:=((hs.rows r hr).lt b hb).1;have:=((h.rows s hs').lt b e).2;omega
 ·rcases B7.1 hr with hr | hr
  ·rcases B7.1 hp with hp | hp
   ·exact hs.rL r hr p hp
   ·intro e;have:=((hs.rows r hr).lt _ e).1;have:=h.lt p hp;omega
  ·rcases B7.1 hp with hp | hp
   ·intro e;have:=hs.ge p hp;have:=((h.rows r hr).lt _ e).2;omega
   ·exact h1.rL r hr p hp
theorem CE.tail (h:CE w ((B,cs,t) :: L) R W):CE w L R W:=h.sub (List.sublist_cons_self _ _)
theorem CE.join {W0:World} {cs':Array Value} {t':TypeId} (h0:CE w ((B,cs,t) :: L) R W0) (h:CE w L R W) (hb:CO W B cs' t'):CE w ((B,cs',t') :: L) R W:=by
 refine ⟨h.below,fun p hp=>?_,fun p hp=>?_,AU.2 ⟨(AU.1 h0.dup).1,h.dup⟩,h.rows,h.rdis,fun r hr p hp=>?_⟩
 ·rcases As.1 hp with rfl | hp
  ·exact h0.ge (B,cs,t) AW
  ·exact h.ge p hp
 ·rcases As.1 hp with rfl | hp
  ·exact hb
  ·exact h.blks p hp
 ·rcases As.1 hp with rfl | hp
  ·exact h0.rL r hr (B,cs,t) AW
  ·exact h.rL r hr p hp
theorem CE.put0 (h:CE w ((B,cs,t) :: L) R W) (i:Nat) (x:Value):CE w ((B,cs.setIfInBounds i x,t) :: L) R (W.setCell ⟨B,i,none⟩ x):=h.put (A:=[]) i x
theorem CE.off {W0:World} {ds:Array Value} {t':TypeId} (h0:CE w ((B,ds,t') :: L) R W0) (h:CE w L R W) (hb:CO W B cs t) (i:Nat) (x:Value):CE w L R (W.setCell ⟨B,i,none⟩ x):=((h0.join h hb).put0 i x).tail
theorem CE.app0 {e:TypeId} {k n n':Nat} {v v':Value} {xs xs':List Value} (h:CE w L (⟨e,k,v,n,xs⟩ :: R) W) (hg:W.grownBy W' v.ownBlock) (hr:W'.ownsRow w.heap.size e k v' n' xs') (hv:∀ b,v'.ownBlock=some b->v.ownBlock=some b∨W.heap.size<=b) :
 CE w L (⟨e,k,v',n',xs'⟩ :: R) W':=h.app (RA:=[]) hg hr hv
theorem CE.own0 {e:TypeId} {k n:Nat} {v:Value} {xs:List Value} (h:CE w L (⟨e,k,v,n,xs⟩ :: R) W):W.ownsRow w.heap.size e k v n xs:=h.rows _ AW
theorem CE.rtail {r:E9} (h:CE w L (r :: R) W):CE w L R W:=h.rsub (List.sublist_cons_self _ _)
theorem PH {O:Nat} {a b:Value} (h:CO W O #[a,b] t) (x y:Value):W.cell? ⟨O,0,none⟩=some a/\W.cell? ⟨O,1,none⟩=some b/\W.frozen? ⟨O,0,none⟩=false/\W.frozen? ⟨O,1,none⟩=false /\
  ((W.setCell ⟨O,0,none⟩ x).setCell ⟨O,1,none⟩ y).cell? ⟨O,0,none⟩=some x/\((W.setCell ⟨O,0,none⟩ x).setCell ⟨O,1,none⟩ y).cell? ⟨O,1,none⟩=some y :=
 ⟨h.cell 0,h.cell 1,h.frozen 0,h.frozen 1,((h.set 0 x).set 1 y).cell 0,((h.set 0 x).set 1 y).cell 1⟩
end
end
end Go.Proofs.YtdkonnnmkceagaaGreatDoor
