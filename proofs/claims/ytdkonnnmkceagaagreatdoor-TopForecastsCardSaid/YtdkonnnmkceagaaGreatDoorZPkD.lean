/- PkD, PkG -/
import Derived.Test.YtdkonnnmkceagaaGreatDoorZPkC
import Derived.Lib.UnsafeStr
import Derived.Outline
import Derived.Shelf.Abstract
set_option maxHeartbeats 8000000
set_option maxRecDepth 100000
namespace Go.Proofs.YtdkonnnmkceagaaGreatDoor
section
open Go.RowKit
attribute [local go_sem] Oper.semAt_some
theorem one_any (w:World):Calls Tryz.prog 56 #[] w (CR w fun r w'=>∃ b,r=.slice (some ⟨b,0,none⟩) 1 1/\Sl w' r [1]):=by
 go_enter Tryz.func56,Tryz.ntmps56;go_wp2;go_ret;exact ⟨⟨_,rfl,_,rfl,Sl.of_own (I9 w 1)⟩,(Below.refl _ _).alloc (Aa _) _⟩
def F7 (ok:Bool) (x y:Int):Value:=if ok&&decide (y≠0) then .tuple #[.string ⟨(Lib.itoa (x / y)).toArray⟩,.string ⟨(Lib.itoa (x % y)).toArray⟩,.int .i64 0] else .tuple #[.string ⟨#[]⟩,.string ⟨#[]⟩,.int .i64 30]
theorem Qm (a b:ByteArray) (w:World) (hE:Dv w) (ha:okS a=true) (hb:okS b=true) (h0:zS b≠0) (hneg:¬ (zS a<0/\0<((zS a).natAbs:Int) % (zS b).natAbs)) :
  Calls Tryz.prog 29 #[.string a,.string b] w (CR w fun r _=>r=F7 true (zS a) (zS b)):=by
 have Ba:=Dr ha
 have Bb:=Dr hb
 have Pk:=fun W=>FE a b W ha hb
 have hp:=GY (zS a) (zS b) h0
 have hsm:=GZ (x:=zS a) (y:=zS b) Ba
 have hsm1:=hsm.1
 have hsm2:=hsm.2 h0 Bb
 have hr0:=BY (zS a) h0
 have he1:Md (zS a / zS b)=0:=AI hsm1
 have ht1:Ie (zS a / zS b)=Lib.itoa (zS a / zS b):=AI hsm1
 have ht2:Ie (zS a % zS b)=Lib.itoa (zS a % zS b):=AI hsm2
 rw [AF hneg,AF hneg] at hp
 go_enter Tryz.func29,Tryz.ntmps29
 go_wp2_with fail
 refine (Pk _).mono ?_
 rintro e W1 ⟨⟨r,rfl,v,u,rfl,⟨x,xs,rfl,hx,hnx⟩,⟨y,ys,rfl,hy,hny⟩⟩,hb1⟩
 have lx:=DC hnx (DI Ba)
 have ly:=DC hny (DI Bb)
 have hy0:((ys.length:Int)==0)=false:=by
  rw [Am];intro e;have:=(hny.zero_iff Ae).1 (AS Ad);omega
 obtain ⟨a1,c1,rfl⟩:=hx.shape
 obtain ⟨a2,c2,rfl⟩:=hy.shape
 have hm:(0:Int)<(zS b).natAbs:=by omega
 have hM:=A8 hneg
 clear hneg
 generalize hs:decide (zS a<0)=s at *
 generalize ht:decide (zS b<0)=t at *
 obtain ⟨W2,hW2,h1,h2,h3,h4,h5⟩:=G5 W1 s t (.slice a1 xs.length c1) (.slice a2 ys.length c2)
 go_wp2_with fail
 rw [<-hW2]
 clear hW2
 refine (JO _ _ xs ys _ _ (hx.below h5) (hy.below h5) hnx.dig hny hm Ad Ad).mono ?_
 rintro e W3 ⟨⟨r,rfl,r1,r2,qs,rs,rfl,hq,hnq,hr,hnr⟩,hb3⟩
 rw [hnx.val] at hnq hnr
 obtain ⟨a3,c3,rfl⟩:=hq.shape
 obtain ⟨a4,c4,rfl⟩:=hr.shape
 have g1:=CV hb3 h1
 have g2:=CV hb3 h2
 have g3:=CV hb3 h3
 have g4:=CV hb3 h4
 have hb13:=Cv hb3 h5 (Aa _)
 have hbw:=Cv hb13 hb1 (Aa _)
 have lq:qs.length<=10000:=by
  have:=hnq.len_le Ae hnx (BZ _ Ad);omega
 have lr:rs.length<=10000:=by
  have:=hnr.len_le Ae hny (Ce (BU _ hm));omega
 have hE3:=hE.below hbw (Aa _)
 have hcond:s=true->¬ (0:Int)<(rs.length:Int):=by
  intro hst hl;subst hst;have hxn:zS a<0:=by simpa using hs
  have:¬ ((zS a).natAbs:Int) % (zS b).natAbs=0:=fun e=>by
   have:=(hnr.zero_iff Ae).2 e;rw [this] at hl;simp at hl
  exact hM.out ⟨hxn,by have:=hnr.nonneg Ae;omega⟩
 have hp1:Do (!s==t) (((zS a).natAbs:Int) / (zS b).natAbs)=zS a / zS b:=hp.1
 have HH:=A8 (And.intro hp1 (And.intro hp.2 (And.intro ht1 (And.intro ht2 he1))))
 have Hy0:=A8 h0
 have lx':=lx
 clear hp hp1 hs ht hsm hsm1 hsm2 he1 ht1 ht2 hr0 hy0 lx ly lx' Ba Bb hm h0
 cases s
 ·go_wp2_with fail
  have hp1:Do t (((zS a).natAbs:Int) / (zS b).natAbs)=zS a / zS b:=by have:=HH.out.1;cases t <;> exact this
  have he:Md (Do t (((zS a).natAbs:Int) / (zS b).natAbs))=0:=by rw [hp1];exact HH.out.2.2.2.2
  have hR:Do false (((zS a).natAbs:Int) % (zS b).natAbs)=zS a % zS b:=HH.out.2.1;have hfv:(F7 true (zS a) (zS b))=.tuple #[.string ⟨(Ie (Do t (((zS a).natAbs:Int) / (zS b).natAbs))).toArray⟩,.string ⟨(Ie (Do false (((zS a).natAbs:Int) % (zS b).natAbs))).toArray⟩,.int .i64 0]:=by
   rw [hp1,hR,HH.out.2.2.1,HH.out.2.2.2.1];unfold F7;rw [AI];simpa using Hy0.out
  have HF:=A8 hfv;clear hp1 hR hfv;refine (Eu t _ qs _ W3 hE3 hq hnq lq).mono ?_;rintro e W4 ⟨rfl,hb4⟩;rw [he];go_wp2_with fail;refine (Eu false _ rs _ W4 (hE3.below hb4 (Aa _)) (hr.below hb4) hnr lr).mono ?_;rintro e W5 ⟨rfl,hb5⟩;go_wp2;refine bodyPost_ret (v:=.tuple #[.string ⟨(Ie (Do t (((zS a).natAbs:Int) / (zS b).natAbs))).toArray⟩,.string ⟨(Ie (Do false (((zS a).natAbs:Int) % (zS b).natAbs))).toArray⟩,.int .i64 0]) (by simp [results,Tryz.results29,go_sem]) rfl ?_;exact ⟨⟨_,rfl,HF.out.symm⟩,Cv hb5 (Cv hb4 hbw (Aa _)) (Aa _)⟩
 ·have hc2:=hcond rfl
  clear hcond;go_wp2_with fail;have hp1:Do (!t) (((zS a).natAbs:Int) / (zS b).natAbs)=zS a / zS b:=by have:=HH.out.1;cases t <;> exact this
  have he:Md (Do (!t) (((zS a).natAbs:Int) / (zS b).natAbs))=0:=by rw [hp1];exact HH.out.2.2.2.2
  have hR:Do false (((zS a).natAbs:Int) % (zS b).natAbs)=zS a % zS b:=HH.out.2.1;have hfv:(F7 true (zS a) (zS b))=.tuple #[.string ⟨(Ie (Do (!t) (((zS a).natAbs:Int) / (zS b).natAbs))).toArray⟩,.string ⟨(Ie (Do false (((zS a).natAbs:Int) % (zS b).natAbs))).toArray⟩,.int .i64 0]:=by
   rw [hp1,hR,HH.out.2.2.1,HH.out.2.2.2.1];unfold F7;rw [AI];simpa using Hy0.out
  have HF:=A8 hfv;clear hp1 hR hfv;refine (Eu (!t) _ qs _ W3 hE3 hq hnq lq).mono ?_;rintro e W4 ⟨rfl,hb4⟩;rw [he];go_wp2_with fail;refine (Eu false _ rs _ W4 (hE3.below hb4 (Aa _)) (hr.below hb4) hnr lr).mono ?_;rintro e W5 ⟨rfl,hb5⟩;go_wp2;refine bodyPost_ret (v:=.tuple #[.string ⟨(Ie (Do (!t) (((zS a).natAbs:Int) / (zS b).natAbs))).toArray⟩,.string ⟨(Ie (Do false (((zS a).natAbs:Int) % (zS b).natAbs))).toArray⟩,.int .i64 0]) (by simp [results,Tryz.results29,go_sem]) rfl ?_;exact ⟨⟨_,rfl,HF.out.symm⟩,Cv hb5 (Cv hb4 hbw (Aa _)) (Aa _)⟩
theorem dig_one:DA 10000 [1]:=fun x hx=>by simp at hx;subst hx;omega
theorem Pu:val 10000 [1]=1:=by simp [val]
theorem Qn (a b:ByteArray) (w:World) (hE:Dv w) (ha:okS a=true) (hb:okS b=true) (h0:zS b≠0) (hneg:zS a<0/\0<((zS a).natAbs:Int) % (zS b).natAbs) :
  Calls Tryz.prog 29 #[.string a,.string b] w (CR w fun r _=>r=F7 true (zS a) (zS b)):=by
 have Ba:=Dr ha
 have Bb:=Dr hb
 have Pk:=fun W=>FE a b W ha hb
 have hp:=GY (zS a) (zS b) h0
 have hsm:=GZ (x:=zS a) (y:=zS b) Ba
 have hsm1:=hsm.1
 have hsm2:=hsm.2 h0 Bb
 have hr0:=BY (zS a) h0
 have he1:Md (zS a / zS b)=0:=AI hsm1
 have ht1:Ie (zS a / zS b)=Lib.itoa (zS a / zS b):=AI hsm1
 have ht2:Ie (zS a % zS b)=Lib.itoa (zS a % zS b):=AI hsm2
 rw [AI hneg,AI hneg] at hp
 go_enter Tryz.func29,Tryz.ntmps29
 go_wp2_with fail
 refine (Pk _).mono ?_
 rintro e W1 ⟨⟨r,rfl,v,u,rfl,⟨x,xs,rfl,hx,hnx⟩,⟨y,ys,rfl,hy,hny⟩⟩,hb1⟩
 have lx:=DC hnx (DI Ba)
 have ly:=DC hny (DI Bb)
 have hy0:((ys.length:Int)==0)=false:=by
  rw [Am];intro e;have:=(hny.zero_iff Ae).1 (AS Ad);omega
 obtain ⟨a1,c1,rfl⟩:=hx.shape
 obtain ⟨a2,c2,rfl⟩:=hy.shape
 have hm:(0:Int)<(zS b).natAbs:=by omega
 have hM:=A8 hneg
 clear hneg
 generalize hs:decide (zS a<0)=s at *
 generalize ht:decide (zS b<0)=t at *
 obtain ⟨W2,hW2,h1,h2,h3,h4,h5⟩:=G5 W1 s t (.slice a1 xs.length c1) (.slice a2 ys.length c2)
 go_wp2_with fail
 rw [<-hW2]
 clear hW2
 refine (JO _ _ xs ys _ _ (hx.below h5) (hy.below h5) hnx.dig hny hm Ad Ad).mono ?_
 rintro e W3 ⟨⟨r,rfl,r1,r2,qs,rs,rfl,hq,hnq,hr,hnr⟩,hb3⟩
 rw [hnx.val] at hnq hnr
 obtain ⟨a3,c3,rfl⟩:=hq.shape
 obtain ⟨a4,c4,rfl⟩:=hr.shape
 have g1:=CV hb3 h1
 have g2:=CV hb3 h2
 have g3:=CV hb3 h3
 have g4:=CV hb3 h4
 have hb13:=Cv hb3 h5 (Aa _)
 have hbw:=Cv hb13 hb1 (Aa _)
 have hqs:=hnq.len_le Ae hnx (BZ _ Ad)
 have hrs:=hnr.len_le Ae hny (Ce (BU _ hm))
 have lq1:qs.length<=100000:=by omega
 have ly1:ys.length<=100000:=by omega
 have hst:s=true:=by rw [<-hs];simp [hM.out.1]
 have hcond:(0:Int)<(rs.length:Int):=by
  have:rs≠[]:=fun e=>by
   have:=(hnr.zero_iff Ae).1 e;have:=hM.out.2;omega
  have:=List.length_pos_iff.2 this;omega
 have hle:val 10000 rs<=val 10000 ys:=by
  rw [hnr.val,hny.val];exact Ce (BU _ hm)
 subst hst
 have hp1:Do (!true==t) (((zS a).natAbs:Int) / (zS b).natAbs+1)=zS a / zS b:=hp.1
 have HH:=A8 (And.intro hp1 (And.intro hp.2 (And.intro ht1 (And.intro ht2 he1))))
 have Hy0:=A8 h0
 have lzs:∀ zs,Dm 10000 zs (val 10000 qs+val 10000 [1])->zs.length<=10000:=fun zs hz=>by
  rw [hnq.val,Pu] at hz;have h1:=hz.length_le Ae (m:=51) (by
   have h2:=BZ ((zS b).natAbs:Int) (a:=((zS a).natAbs:Int)) Ad;have h3:=DI Ba;have h4:FB+1<=(10000:Int) ^ 51:=by unfold FB;decide
   omega)
  omega
 have lzr:∀ zr,Dm 10000 zr (val 10000 ys-val 10000 rs)->zr.length<=10000:=fun zr hz=>by
  have:=hz.len_le Ae hny (by rw [hny.val,hnr.val];have:=BY ((zS a).natAbs:Int) (b:=((zS b).natAbs:Int)) Ad;omega);omega
 clear hp hp1 hs ht hsm hsm1 hsm2 he1 ht1 ht2 hr0 hy0 lx ly Ba Bb hm h0 hqs
 go_wp2_with fail
 have hb0:=DH (Below.refl W3.heap.size W3)
 go_region_held3 (fun w'=>w'.cell? ⟨W1.heap.size,0,none⟩=some (.bool true)/\w'.cell? ⟨W1.heap.size,1,none⟩=some (.slice a1 xs.length c1)/\w'.cell? ⟨W1.heap.size+1,0,none⟩=some (.bool t)/\w'.cell? ⟨W1.heap.size+1,1,none⟩=some (.slice a2 ys.length c2)/\Below W3.heap.size W3 w')
  (first | exact JS hbz3 (by assumption) | exact JS hbz2 (by assumption) | exact JS hbz1 ⟨g1,g2,g3,g4,hb0⟩ | exact ⟨g1,g2,g3,g4,hb0⟩ | assumption | go_keep)
  (first | (go_at_call 56;refine (one_any _).mono ?_;rintro e w4 ⟨⟨r,rfl,b1,rfl,hz1⟩,hbz1⟩;have hw4:=Cv hbz1 hb0 (Aa _)) | (go_at_call 55;refine (I7 _ _ qs [1] _ (hq.below hw4) hz1 hnq.dig dig_one lq1 Ae).mono ?_;rintro e w5 ⟨⟨r,rfl,zs,hz2,hz3,_⟩,hbz2⟩;obtain ⟨a5,c5,rfl⟩:=hz2.shape;have hw5:=Cv hbz2 hw4 (Aa _)) | (go_at_call 57;refine (FU _ _ ys rs _ (hy.below (Cv hw5 hb13 (Aa _))) (hr.below hw5) hny.dig hnr.dig ly1 hrs hle).mono ?_;rintro e w6 ⟨⟨r,rfl,zr,hz6,hz7,_⟩,hbz3⟩;obtain ⟨a6,c6,rfl⟩:=hz6.shape;have hw6:=Cv hbz3 hw5 (Aa _)))
 have hh:w6.cell? ⟨W1.heap.size,0,none⟩=some (.bool true)/\w6.cell? ⟨W1.heap.size,1,none⟩=some (.slice a1 xs.length c1)/\w6.cell? ⟨W1.heap.size+1,0,none⟩=some (.bool t)/\w6.cell? ⟨W1.heap.size+1,1,none⟩=some (.slice a2 ys.length c2)/\Below W3.heap.size W3 w6:=by assumption
 obtain ⟨k1,k2,k3,k4,_⟩:=hh
 have l1:=lzs _ hz3
 have l2:=lzr _ hz7
 have hz26:=hz2.below hbz3
 rw [hnq.val,Pu] at hz3
 rw [hny.val,hnr.val] at hz7
 have hbw6:=Cv hw6 hbw (Aa _)
 have hE6:=hE.below hbw6 (Aa _)
 have hp1:Do (!t) (((zS a).natAbs:Int) / (zS b).natAbs+1)=zS a / zS b:=by have:=HH.out.1;cases t <;> exact this
 have he:Md (Do (!t) (((zS a).natAbs:Int) / (zS b).natAbs+1))=0:=by rw [hp1];exact HH.out.2.2.2.2
 have hR:Do false (((zS b).natAbs:Int)-((zS a).natAbs:Int) % (zS b).natAbs)=zS a % zS b:=HH.out.2.1
 have hfv:(F7 true (zS a) (zS b))=.tuple #[.string ⟨(Ie (Do (!t) (((zS a).natAbs:Int) / (zS b).natAbs+1))).toArray⟩,.string ⟨(Ie (Do false (((zS b).natAbs:Int)-((zS a).natAbs:Int) % (zS b).natAbs))).toArray⟩,.int .i64 0]:=by
  rw [hp1,hR,HH.out.2.2.1,HH.out.2.2.2.1];unfold F7;rw [AI];simpa using Hy0.out
 have HF:=A8 hfv
 have He:=A8 he
 clear hp1 hR hfv he lzs lzr hle hcond hnq hnr hny hnx g1 g2 g3 g4 h1 h2 h3 h4
 generalize ((zS a).natAbs:Int) / (zS b).natAbs+1=Q at *
 generalize ((zS b).natAbs:Int)-((zS a).natAbs:Int) % (zS b).natAbs=R at *
 go_wp2_with fail
 refine (Eu (!t) _ zs Q w6 hE6 hz26 hz3 l1).mono ?_
 rintro e w7 ⟨rfl,hb7⟩
 rw [He.out]
 go_wp2_with fail
 refine (Eu false _ zr R w7 (hE6.below hb7 (Aa _)) (hz6.below hb7) hz7 l2).mono ?_
 rintro e w8 ⟨rfl,hb8⟩
 go_wp2
 refine bodyPost_ret (v:=.tuple #[.string ⟨(Ie (Do (!t) Q)).toArray⟩,.string ⟨(Ie (Do false R)).toArray⟩,.int .i64 0]) (by simp [results,Tryz.results29,go_sem]) rfl ?_
 exact ⟨⟨_,rfl,HF.out.symm⟩,Cv hb8 (Cv hb7 hbw6 (Aa _)) (Aa _)⟩
theorem div_bad (a b:ByteArray) (w:World) (h:okS a=false∨okS b=false) :
  Calls Tryz.prog 29 #[.string a,.string b] w (CR w fun r _=>r=F7 false 0 0):=by
 have Pk:=fun W=>G3 a b W h
 go_enter Tryz.func29,Tryz.ntmps29
 go_wp2_with fail
 refine (Pk _).mono ?_
 rintro e W1 ⟨⟨r,rfl,rfl⟩,hb1⟩
 go_wp2
 refine bodyPost_ret (v:=.tuple #[.string ⟨#[]⟩,.string ⟨#[]⟩,.int .i64 30]) (by simp [results,Tryz.results29,go_sem]) rfl ?_
 exact ⟨⟨_,rfl,rfl⟩,Cv (Dz W1 _ _) hb1 (Aa _)⟩
theorem RW (a b:ByteArray) (w:World) (ha:okS a=true) (hb:okS b=true) (h0:zS b=0) :
  Calls Tryz.prog 29 #[.string a,.string b] w (CR w fun r _=>r=F7 true (zS a) 0):=by
 have Pk:=fun W=>FE a b W ha hb
 rw [h0] at Pk
 go_enter Tryz.func29,Tryz.ntmps29
 go_wp2_with fail
 refine (Pk _).mono ?_
 rintro e W1 ⟨⟨r,rfl,v,u,rfl,⟨x,xs,rfl,hx,hnx⟩,⟨y,ys,rfl,hy,hny⟩⟩,hb1⟩
 have e0:ys=[]:=(hny.zero_iff Ae).2 rfl
 subst e0
 obtain ⟨a1,c1,rfl⟩:=hx.shape
 obtain ⟨a2,c2,rfl⟩:=hy.shape
 generalize hs:decide (zS a<0)=s at *
 generalize ht:decide ((0:Int)<0)=t at *
 obtain ⟨W2,hW2,h1,h2,h3,h4,h5⟩:=G5 W1 s t (.slice a1 xs.length c1) (.slice a2 ([]:List Int).length c2)
 simp only [Cf] at h4 hW2
 go_wp2_with fail
 rw [<-hW2]
 clear hW2 hs ht
 go_wp2
 refine bodyPost_ret (v:=.tuple #[.string ⟨#[]⟩,.string ⟨#[]⟩,.int .i64 30]) (by simp [results,Tryz.results29,go_sem]) rfl ?_
 exact ⟨⟨_,rfl,by simp [F7]⟩,Cv h5 hb1 (Aa _)⟩
theorem div_any (a b:ByteArray) (w:World) (hE:Dv w) :
  Calls Tryz.prog 29 #[.string a,.string b] w (CR w fun r _=>r=F7 (okS a&&okS b) (zS a) (zS b)):=by
 by_cases h:okS a=true/\okS b=true
 ·rw [h.1,h.2]
  by_cases h0:zS b=0
  ·rw [h0];exact RW a b w h.1 h.2 h0
  ·by_cases hneg:zS a<0/\0<((zS a).natAbs:Int) % (zS b).natAbs
   ·exact Qn a b w hE h.1 h.2 h0 hneg
   ·exact Qm a b w hE h.1 h.2 h0 hneg
 ·rw [(CK h).1]
  exact (div_bad a b w (CK h).2).mono fun _ _ h=>h
def JT (w:World) (v:Value):List Int:=match v with
 | .slice (some a) n _=>(List.range n).map fun j=>match w.cell? ⟨a.block,a.off+j,none⟩ with
  | some (.int _ z)=>z
  | _=>0
 | _=>[]
theorem Sl.rd {w:World} {v:Value} {xs:List Int} (h:Sl w v xs):JT w v=xs:=by
 rcases h with ⟨rfl,rfl⟩ | ⟨b,off,cap,rfl,h1,h2,h3,h4⟩
 ·rfl
 ·unfold JT
  apply List.ext_getElem
  ·simp
  ·intro i h5 h6
   simp only [List.getElem_map,List.getElem_range];rw [h4 i h6,Hi h6]
theorem LJ {xs:List Int} {n:Int} (h:Dm 10000 xs n) (hn:n<FB):xs.length<=50:=DC h hn
theorem gcd_ok (a b:ByteArray) (w:World) (hE:Dv w) (ha:okS a=true) (hb:okS b=true) :
  Calls Tryz.prog 49 #[.string a,.string b] w (CR w fun r _=>r=E6 true (CY (zS a) (zS b))):=by
 have Ba:=Dr ha
 have Bb:=Dr hb
 have Pk:=fun W=>FE a b W ha hb
 have G0:=A8 (MC (zS a) (zS b))
 go_enter Tryz.func49,Tryz.ntmps49
 go_wp2_with fail
 refine (Pk _).mono ?_
 rintro e W1 ⟨⟨r,rfl,v,u,rfl,⟨x,xs,rfl,hx,hnx⟩,⟨y,ys,rfl,hy,hny⟩⟩,hb1⟩
 have Bx:=DI Ba
 have By:=DI Bb
 obtain ⟨a1,c1,rfl⟩:=hx.shape
 obtain ⟨a2,c2,rfl⟩:=hy.shape
 generalize hs:decide (zS a<0)=s at *
 generalize ht:decide (zS b<0)=t at *
 obtain ⟨W2,hW2,h1,h2,h3,h4,h5⟩:=G5 W1 s t (.slice a1 xs.length c1) (.slice a2 ys.length c2)
 go_wp2_with fail
 rw [<-hW2]
 clear hW2 hs ht
 go_quiet (fail)
 go_wp2_with fail
 have hW:Below w.heap.size w (W2.drewN nq):=Cv (CN _ _) (Cv h5 hb1 (Aa _)) (Aa _)
 have hx2:=(hx.below h5).drewN nq
 have hy2:=(hy.below h5).drewN nq
 clear h1 h2 h3 h4 h5 hx hy
 go_loopw [9,10] (fun k l wr=>∃ a3 c3 a4 c4 ks ls m n,k=.slice a3 ks.length c3/\l=.slice a4 ls.length c4/\Sl wr (.slice a3 ks.length c3) ks/\Sl wr (.slice a4 ls.length c4) ls/\Dm 10000 ks m/\Dm 10000 ls n/\m<FB/\n<FB /\
   Hid (CY m n=CY (zS a) (zS b))/\Below w.heap.size w wr)
  (fun _ l wr=>(val 10000 (JT wr l)).toNat)
 case atStart=>exact ⟨_,_,_,_,_,_,_,_,rfl,rfl,hx2,hy2,hnx,hny,Bx,By,G0.out,hW⟩
 case round =>
  clear hx2 hy2 hnx hny Bx By hW G0 Ba Bb;obtain ⟨a3,c3,a4,c4,ks,ls,m,n,rfl,rfl,hk,hl,hnk,hnl,Bm,Bn,hG,hW⟩:=hrel;by_cases h0:0<ls.length
  ·have hn0:0<n:=by
    have:=hnl.nonneg Ae;have h1:¬ n=0:=fun e=>by have:=(hnl.zero_iff Ae).2 e;rw [this] at h0;simp at h0
    omega
   have hm0:=hnk.nonneg Ae
   have lk:=LJ hnk Bm
   have ll:=LJ hnl Bn
   have hrd:=A8 hl.rd
   go_wp2_with fail
   refine (JO _ _ ks ls n _ hk hl hnk.dig hnl hn0 Ad Ad).mono ?_
   rintro e w2 ⟨⟨r,rfl,r1,r2,qs,rs,rfl,hq,hnq,hr,hnr⟩,hb2⟩
   rw [hnk.val] at hnq hnr
   obtain ⟨a5,c5,rfl⟩:=hq.shape
   obtain ⟨a6,c6,rfl⟩:=hr.shape
   have hlt:=BU m hn0
   have hmod:=BY m (by omega:n≠0)
   have hl2:=hl.below hb2
   have hrd2:=A8 hr.rd
   have hW2:=Cv hb2 hW (Aa _)
   go_wp2
   go_roundw
   case rel=>exact ⟨_,_,_,_,ls,rs,n,m % n,rfl,rfl,hl2,hr,hnl,hnr,Bn,Ad,(KT hm0 hn0).trans hG.out,hW2⟩
   case measure =>
    show (val 10000 (JT _ _)).toNat<(val 10000 (JT _ _)).toNat;rw [hrd.out,hrd2.out,hnl.val,hnr.val];omega
  ·have e0:ls=[]:=AS Ad
   have en:=(hnl.zero_iff Ae).1 e0;subst e0 en;have hm0:=hnk.nonneg Ae;have hf:Do false m=CY (zS a) (zS b):=by rw [<-hG.out,KU hm0];rfl
   have HF:=A8 hf;have lk:=LJ hnk Bm;have hE2:=hE.below hW (Aa _);clear hf hG;go_wp2_with fail;refine (Eu false _ ks m _ hE2 hk hnk Ad).mono ?_;rintro e w2 ⟨rfl,hb2⟩;rw [HF.out];go_wp2;go_ret2;exact ⟨⟨_,rfl,rfl⟩,Cv hb2 hW (Aa _)⟩
theorem gcd_bad (a b:ByteArray) (w:World) (h:okS a=false∨okS b=false) :
  Calls Tryz.prog 49 #[.string a,.string b] w (CR w fun r _=>r=E6 false 0):=by
 have Pk:=fun W=>G3 a b W h
 go_enter Tryz.func49,Tryz.ntmps49
 go_wp2_with fail
 refine (Pk _).mono ?_
 rintro e W1 ⟨⟨r,rfl,rfl⟩,hb1⟩
 go_wp2
 go_ret2
 exact ⟨⟨_,rfl,rfl⟩,Cv (Dz W1 _ _) hb1 (Aa _)⟩
theorem Og (x y:Int):E6 false x=E6 false y:=rfl
theorem Pv (a b:ByteArray) (w:World) (hE:Dv w) :
  Calls Tryz.prog 49 #[.string a,.string b] w (CR w fun r _=>r=E6 (okS a&&okS b) (CY (zS a) (zS b))):=by
 by_cases h:okS a=true/\okS b=true
 ·rw [h.1,h.2];exact gcd_ok a b w hE h.1 h.2
 ·rw [(CK h).1,Og (CY (zS a) (zS b)) 0];exact gcd_bad a b w (CK h).2
theorem LL (w:World) (t:TypeId) (ht:Tryz.prog.underlying t=some (.slice 3)) (kl kc:IntKind) (n:Nat) (hn:n<=1000000) :
  ∃ w',(Instr.makeSlice t (.int kl n) (.int kc n)).run Tryz.prog w=.ok (.slice (some ⟨w.heap.size,0,none⟩) n n) w'/\w'.ownsRow w.heap.size 3 1 (.slice (some ⟨w.heap.size,0,none⟩) n n) n ((List.replicate n (0:Int)).map (Value.int .i64))/\Below w.heap.size w w':=by
 obtain ⟨i0,hi,hz0,hz1,hz2⟩:=info_parts Gx
 obtain ⟨w',hrun,r1,r2⟩:=run_make_full (P:=Tryz.prog) w w.heap.size t 3 i0 (.int .i64 0) 1 ht hi hz0 hz1 kl kc n (by rw [hz2];omega) (by unfold maxLen;omega) (Aa _)
 exact ⟨w',hrun,by rw [<-Hj];exact r1,(Below.refl _ w).grown r2 (Aa _) (fun k e=>by cases e)⟩
def I (z:Int):ByteArray:=⟨(Lib.itoa z).toArray⟩
theorem DR {z:Int} (h:Cw z):okS (I z)=true:=O3 h.1 h.2
theorem Er (z:Int):zS (I z)=z:=(IF z).1
theorem I_inj {x y:Int} (h:I x=I y):x=y:=by have:=Bk zS h;rwa [Er,Er] at this
theorem MF {s:ByteArray} (h:okS s=true):s=I (zS s)/\Cw (zS s):=by
 obtain ⟨h1,h2,h3⟩:=E8 h;refine ⟨?_,h2,h3⟩;apply An;show s.data=(Lib.itoa (FV s.data.toList)).toArray;rw [<-h1]
theorem lit_I (l:List UInt8) (z:Int) (hv:DX l=true) (hz:FV l=z):(⟨l.toArray⟩:ByteArray)=I z:=by
 obtain ⟨h1,_,_⟩:=E8 hv;unfold I;rw [<-hz,<-h1]
def Bd (k:Nat) (z:Int):Prop:=-(10 ^ k)<z/\z<10 ^ k
theorem Bd.small {k:Nat} {z:Int} (h:Bd k z) (hk:k<=200):Cw z:=by
 have:=Ee (b:=10) Ae hk;unfold Cw FB;unfold Bd at h;omega
theorem Bd.mono {j k:Nat} {z:Int} (h:Bd j z) (hk:j<=k):Bd k z:=by
 have:=Ee (b:=10) Ae hk;unfold Bd at *;omega
theorem Bd.add {k:Nat} {x y:Int} (h:Bd k x) (g:Bd k y):Bd (k+1) (x+y):=by
 have:(10:Int) ^ (k+1)=10 ^ k*10:=BW ..;unfold Bd at *;omega
theorem Bd.sub {k:Nat} {x y:Int} (h:Bd k x) (g:Bd k y):Bd (k+1) (x-y):=by
 have:(10:Int) ^ (k+1)=10 ^ k*10:=BW ..;unfold Bd at *;omega
theorem Bd.abs {k:Nat} {x:Int}:Bd k x↔(x.natAbs:Int)<10 ^ k:=by unfold Bd;omega
theorem Bd.nat {k:Nat} {x:Int}:Bd k x↔x.natAbs<10 ^ k:=by
 rw [Bd.abs,show ((10:Int) ^ k)=((10 ^ k:Nat):Int) by simp];omega
theorem Bd.mul {j k:Nat} {x y:Int} (h:Bd j x) (g:Bd k y):Bd (j+k) (x*y):=by
 rw [Bd.nat] at *
 rw [Int.natAbs_mul,Nat.pow_add];exact Nat.mul_lt_mul'' h g
theorem Bd.neg {k:Nat} {x:Int} (h:Bd k x):Bd k (-x):=by unfold Bd at *;omega
theorem Bd.ediv {k:Nat} {x y:Int} (h:Bd k x):Bd k (x / y):=by
 rw [Bd.nat] at *
 exact Nat.lt_of_le_of_lt (Int.natAbs_ediv_le_natAbs x y) h
theorem Bd.gcd {k:Nat} {x y:Int} (h:Bd k x) (g:Bd k y):Bd k (CY x y):=by
 rw [Bd.nat] at *
 unfold CY;rw [Int.natAbs_natCast];by_cases h0:x=0
 ·subst h0;rw [Int.zero_gcd];exact g
 ·exact Nat.lt_of_le_of_lt (Int.gcd_le_natAbs_left y h0) h
theorem Bd.lit {z:Int} (k:Nat) (h:-(10 ^ k)<z/\z<10 ^ k):Bd k z:=h
theorem Qo {z:Int} (h:Cw z):Ie z=Lib.itoa z:=AI h
theorem Qp {z:Int} (h:Cw z):Md z=0:=AI h
theorem txt_big {z:Int} (h:¬ Cw z):Ie z=[]:=AF h
theorem erz_big {z:Int} (h:¬ Cw z):Md z=30:=AF h
theorem Fo {z:Int} (h:Cw z):E6 true z=.tuple #[.string (I z),.int .i64 0]:=by unfold E6;rw [AI rfl,Qo h,Qp h];rfl
theorem RX {z:Int} (h:¬ Cw z):E6 true z=.tuple #[.string ⟨#[]⟩,.int .i64 30]:=by unfold E6;rw [AI rfl,txt_big h,erz_big h]
def CM (w:World) (v:Value):Ending->World->Prop:=fun e w'=>e=.returned v/\Below w.heap.size w w'
theorem CM.of {f:FuncId} {args:Array Value} {w:World} {u v:Value} (h:Calls Tryz.prog f args w (CR w fun r _=>r=u)) (e:u=v):Calls Tryz.prog f args w (CM w v) :=
 h.mono fun _ _ ⟨⟨r,h1,h2⟩,hb⟩=>⟨by rw [h1,h2,e],hb⟩
section
variable {x y:Int} {a b:ByteArray} (ha:a=I x) (hb:b=I y) (hx:Cw x) (hy:Cw y) (w:World) (hE:Dv w)
include ha hb hx hy hE
theorem Oh (q r:Int) (c d:ByteArray) (h0:y≠0) (hq:q=x / y) (hr:r=x % y) (hc:c=I q) (hd:d=I r):Calls Tryz.prog 29 #[.string a,.string b] w (CM w (.tuple #[.string c,.string d,.int .i64 0])):=by
 refine CM.of (div_any a b w hE) ?_;rw [ha,hb,DR hx,DR hy,Er,Er,hc,hd,hq,hr];unfold F7;rw [AI (by simpa using h0)];rfl
end
theorem Oi {x y:Int} {a b:ByteArray} (ha:a=I x) (hb:b=I y) (hx:Cw x) (hy:Cw y) (w:World) (c:Int) (hc:c=Lib.compareInt x y) :
  Calls Tryz.prog 30 #[.string a,.string b] w (CM w (.int .i64 c)):=by
 refine (GB a b w).mono fun _ _ h=>⟨?_,h.2⟩
 rw [h.1,ha,hb]
 unfold MA
 rw [DR hx,DR hy,Er,Er,hc];rfl
theorem JU (n:Int) (h:CI n) (w:World) (hE:Dv w):Calls Tryz.prog 42 #[.int .i64 n] w (CM w (.string (I n))):=MB n h.1 h.2 w hE
end
section
open Go.RowKit
def LM (x:Int):UInt8:=UInt8.ofNat (48+x.toNat)
theorem Ih {x:Int} (h0:0<=x) (h1:x<10):((LM x).toNat:Int)=48+x:=by
 unfold LM;rw [Ef Ad];omega
def DJ (xs:List Int):List UInt8:=xs.reverse.map LM
theorem Ii (x:Int) (xs:List Int):DJ (x :: xs)=DJ xs++[LM x]:=by simp [DJ]
theorem J5 (xs:List Int):(DJ xs).length=xs.length:=by simp [DJ]
theorem MG {xs:List Int} (h:DA 10 xs):∀ b∈DJ xs,FR b=true:=by
 intro b hb;obtain ⟨x,hx,rfl⟩:=AJ.1 hb;have h1:=h x (List.mem_reverse.1 hx);have:=Ih h1.1 h1.2;rw [Dw];omega
theorem MH {xs:List Int} (h:DA 10 xs):(Df (DJ xs):Int)=val 10 xs:=by
 induction xs with
 | nil=>rfl
 | cons x xs ih =>
  have h1:=h.cons;have h2:=Ih h1.1.1 h1.1.2;rw [Ii,GV,val];have:=ih h1.2;omega
theorem MI {xs:List Int} {n:Int} (h:Dm 10 xs n) (h0:xs≠[]):DJ xs=Lib.decDigits n.toNat/\0<n:=by
 have hn0:¬ n=0:=fun e=>h0 ((h.zero_iff Ae).2 e)
 have hn:=h.nonneg Ae;have e:Df (DJ xs)=n.toNat:=by have:=MH h.dig;rw [h.val] at this;omega
 refine ⟨?_,Ad⟩;rw [<-e];refine (EG _ (MG h.dig) (fun e=>h0 (by have:=Bk List.length e;rw [J5] at this;exact AS (by simpa using this))) ?_).symm;intro b hb;obtain ⟨k,hk⟩:∃ k,xs.length=k+1:=by
  cases xs with
  | nil=>exact absurd rfl h0
  | cons x r=>exact ⟨r.length,rfl⟩
 have ht:=h.top k hk;have hg:=h.dig.gi Ae k;have hb':b=LM (gi xs k):=by
  rw [List.head?_eq_getElem?] at hb;unfold DJ at hb;rw [AG,List.getElem?_reverse Ad,hk,Nat.add_sub_cancel,Nat.sub_zero] at hb;rw [Hi Ad];rw [Au Ad] at hb;simpa using hb.symm
 subst hb';have:=Ih hg.1 hg.2;omega
theorem MJ {xs:List Int} {n:Int} (h:Dm 10 xs n) (h0:xs≠[]) (neg:Bool):Lib.itoa (Do neg n)=(if neg then [45] else [])++DJ xs:=by
 obtain ⟨e,hp⟩:=MI h h0;rw [e];cases neg
 ·rw [show Do false n=n from rfl,Dx Ad];rfl
 ·rw [show Do true n=-n from rfl,FW Ad]
  rw [show (-n).natAbs=n.toNat by omega];rfl
theorem H0 (neg:Bool):Lib.itoa (Do neg 0)=[48]:=by
 have:Do neg 0=0:=by cases neg <;> rfl
 rw [this,Dx Ae];exact DF Ae
theorem MM {xs:List Int} {k:Nat} (h:k<xs.length):DJ (xs.drop k)=DJ (xs.drop (k+1))++[LM (gi xs k)]:=by
 rw [Js h,Ii]
theorem JV (l:List UInt8) (b:UInt8):Lib.byteCells (l++[b])=Lib.byteCells l++[.int .u8 b.toNat]:=by simp [Lib.byteCells]
theorem KG (l:List UInt8):(Lib.byteCells l).length=l.length:=by simp [Lib.byteCells]
theorem MN {a:ByteArray} {x:Int} (ha:a=I x):a.toList=Lib.itoa x:=by rw [ByteArray.toList_eq,ha];rfl
theorem MO {x y:Int} (h:Lib.itoa x=Lib.itoa y):x=y:=I_inj (by unfold I;rw [h])
theorem Eh {a:ByteArray} {x:Int} (ha:a=I x) (h:x≠0):(a.toList==[48])=false:=by
 rw [MN ha];have e:Lib.itoa 0=[48]:=H0 false;rw [<-e];exact Am.2 (fun e=>h (MO e))
theorem cmp_le {x y:Int} (h:x<=y):∃ c,c=Lib.compareInt x y/\c<=0/\-1<=c:=by
 rcases Int.lt_or_le x y with h1 | h1
 ·exact ⟨-1,(Cy h1).symm,Ae,Ae⟩
 ·have:x=y:=by omega
  exact ⟨0,by rw [this];exact (CU y).symm,Ae,Ae⟩
theorem RY {z:Int} {k:Nat} (h:Bd k z) (hk:1<=k):(Lib.itoa z).length<=k+1:=by
 have h1:=EX (Bd.nat.1 h) hk;by_cases hz:z<0
 ·rw [FW hz];simp;exact h1
 ·rw [Dx Ad,show z.toNat=z.natAbs by omega];omega
theorem I_size {z:Int} {k:Nat} (h:Bd k z) (hk:1<=k):(I z).size<=k+1:=RY h hk
def rOk (n d:ByteArray):Bool:=okS n&&okS d&&decide (0<zS d)&&decide (CY (zS n) (zS d)=1)
def rv (n d:ByteArray):Rat:=Rat.divInt (zS n) (zS d)
def F4 (r:Rat):ByteArray:=I r.num
def F5 (r:Rat):ByteArray:=I (r.den:Int)
def Ei (r:Rat):Prop:=Cw r.num/\Cw (r.den:Int)
instance (r:Rat):Decidable (Ei r):=inferInstanceAs (Decidable (_/\_))
def qT (c:Bool) (r:Rat):Value:=if c then .tuple #[.agg #[.string (F4 r),.string (F5 r)],.int .i64 0] else .tuple #[.agg #[.string ⟨#[]⟩,.string ⟨#[]⟩],.int .i64 40]
theorem GD (x y:Rat):qT false x=qT false y:=rfl
theorem Ik {x y:Int} (hy:0<y):0<CY x y:=by
 have:=Int.gcd_pos_of_ne_zero_right x (show y≠0 by omega);unfold CY;omega
theorem Dl {x y:Int} (hy:0<y):(Rat.divInt x y).num=x / CY x y/\((Rat.divInt x y).den:Int)=y / CY x y:=by
 have e:CY x y=(y.gcd x:Int):=by unfold CY;rw [Int.gcd_comm]
 rw [Rat.num_divInt,Rat.den_divInt,AF Ad,e,Int.sign_eq_one_of_pos hy,AM];refine ⟨rfl,?_⟩;rw [Int.natCast_ediv,Int.natAbs_of_nonneg Ad]
theorem DS (r:Rat):(0:Int)<(r.den:Int):=by have:=r.den_pos;omega
theorem rat_gcd (r:Rat):CY r.num r.den=1:=by
 have:=r.reduced;unfold CY;rw [Int.gcd_eq_natAbs_gcd_natAbs,Int.natAbs_natCast];rw [Nat.Coprime] at this;omega
theorem Il (r:Rat):Rat.divInt r.num r.den=r:=Rat.num_divInt_den r
theorem rOk_of {n d:ByteArray} {r:Rat} (hn:n=F4 r) (hd:d=F5 r) (hs:Ei r):rOk n d=true:=by
 unfold rOk F4 F5 at *
 rw [hn,hd,DR hs.1,DR hs.2,Er,Er,rat_gcd];simp [r.den_pos]
theorem rv_of {n d:ByteArray} {r:Rat} (hn:n=F4 r) (hd:d=F5 r):rv n d=r:=by
 unfold rv F4 F5 at *
 rw [hn,hd,Er,Er];exact Il r
theorem Ff {n d:ByteArray} (h:rOk n d=true):okS n=true/\okS d=true/\0<zS d/\CY (zS n) (zS d)=1:=by
 unfold rOk at h;simp at h;exact ⟨h.1.1.1,h.1.1.2,h.1.2,h.2⟩
theorem rv_num {n d:ByteArray} (h:rOk n d=true):(rv n d).num=zS n/\((rv n d).den:Int)=zS d:=by
 obtain ⟨_,_,h0,h1⟩:=Ff h;have:=Dl (x:=zS n) h0;rw [h1,Int.ediv_one,Int.ediv_one] at this;exact this
theorem QF {n d:ByteArray} (h:rOk n d=true):n=F4 (rv n d)/\d=F5 (rv n d)/\Ei (rv n d):=by
 obtain ⟨h1,h2,_,_⟩:=Ff h;obtain ⟨e1,e2⟩:=rv_num h;unfold F4 F5 Ei;rw [e1,e2];exact ⟨(MF h1).1,(MF h2).1,(MF h1).2,(MF h2).2⟩
theorem Fg {z:Int} (h:Cw z):Cw (-z):=by unfold Cw at *;omega
theorem Eo {x y:Int} (h:Cw x):Cw (x / y):=by
 have h1:=Int.natAbs_ediv_le_natAbs x y;unfold Cw at *;omega
theorem FP {x y:Int} (hx:Cw x) (hy:Cw y) (h0:0<y):Ei (Rat.divInt x y):=by
 obtain ⟨e1,e2⟩:=Dl (x:=x) h0;unfold Ei;rw [e1,e2];exact ⟨Eo hx,Eo hy⟩
theorem Fq (x y:Int):Rat.divInt (-x) (-y)=Rat.divInt x y:=Rat.neg_divInt_neg x y
theorem Jt (r:Rat):qT true r=.tuple #[.agg #[.string (F4 r),.string (F5 r)],.int .i64 0]:=rfl
theorem L0:Cw 1:=by decide
end
section
open Go.RowKit
attribute [local go_sem] Oper.semAt_some
theorem L2 {d:ByteArray} (h:okS d=true):MA d ⟨#[48]⟩=Lib.compareInt (zS d) 0:=by
 unfold MA;rw [h,show okS ⟨#[48]⟩=true by decide +kernel,show zS ⟨#[48]⟩=0 by decide +kernel];rfl
theorem str_one {a:ByteArray} {x:Int} (ha:a=I x):(a.toList==[49])=decide (x=1):=by
 rw [MN ha];have e:Lib.itoa 1=[49]:=by decide +kernel
 rw [<-e];by_cases h:x=1
 ·rw [h];simp
 ·rw [Al h]
  exact Am.2 (fun e=>h (MO e))
theorem CC {W:World} {B:Nat} {v u:Value} {t:TypeId} (h:CO W B #[v,u] t):W.cell? ⟨B,0,none⟩=some v/\W.cell? ⟨B,1,none⟩=some u:=⟨h.cell 0,h.cell 1⟩
theorem Dc (w:World) (v u:Value) (t:TypeId):∃ W,W=w.alloc (.cells #[v,u] t)/\CO W w.heap.size #[v,u] t/\Below w.heap.size w W :=
 ⟨_,rfl,CO.new _ _ _,(Below.refl _ _).alloc (Aa _) _⟩
theorem QG (n d:ByteArray) (hn:okS n=true) (hd:okS d=true) (h0:0<zS d) (w:World) (hE:Dv w) :
  Calls Tryz.prog 25 #[.agg #[.string n,.string d]] w (CM w (.bool (decide (CY (zS n) (zS d)=1)))):=by
 have V1:=fun W=>En n W
 have V2:=fun W=>En d W
 have C1:=fun W=>GB d ⟨#[48]⟩ W
 rw [hn] at V1
 rw [hd] at V2
 rw [L2 hd,Cz h0] at C1
 obtain ⟨g,Hg⟩:∃ g:ByteArray,Hid (g=I (CY (zS n) (zS d))):=⟨_,rfl⟩
 have G1:=fun W (hE:Dv W)=>Pv n d W hE
 rw [hn,hd,show (true&&true)=true from rfl,Fo (ER (MF hn).2 (MF hd).2),<-Hg.out] at G1
 obtain ⟨W0,hW0,hk0,hB0⟩:=Dc w (.string n) (.string d) 31
 have hs:=str_one Hg.out
 generalize decide (CY (zS n) (zS d)=1)=b at *
 clear hn hd h0
 obtain ⟨c0,c1⟩:=CC hk0
 go_enter Tryz.func25,Tryz.ntmps25
 go_wp2_with fail
 rw [<-hW0]
 clear hW0
 refine (V1 _).mono ?_
 rintro e w1 ⟨rfl,hb⟩
 have hk1:=hk0.below hb
 have hB1:=Cv hb hB0 (Aa _)
 clear c0 c1 hk0 hB0 hb
 obtain ⟨c0,c1⟩:=CC hk1
 go_wp2_with fail
 refine (V2 _).mono ?_
 rintro e w2 ⟨rfl,hb⟩
 have hk2:=hk1.below hb
 have hB2:=Cv hb hB1 (Aa _)
 clear c0 c1 hk1 hB1 hb
 obtain ⟨c0,c1⟩:=CC hk2
 go_wp2_with fail
 refine (C1 _).mono ?_
 rintro e w3 ⟨rfl,hb⟩
 have hk3:=hk2.below hb
 have hB3:=Cv hb hB2 (Aa _)
 clear c0 c1 hk2 hB2 hb
 obtain ⟨c0,c1⟩:=CC hk3
 go_wp2_with fail
 refine (G1 _ (hE.below hB3 (Aa _))).mono ?_
 rintro e w4 ⟨⟨_,rfl,rfl⟩,hb⟩
 have hB4:=Cv hb hB3 (Aa _)
 clear c0 c1 hk3 hB3 hb
 go_wp2
 go_ret
 exact ⟨rfl,hB4⟩
theorem On (n d:ByteArray) (hn:okS n=true) (hd:okS d=true) (h0:¬ 0<zS d) (w:World) :
  Calls Tryz.prog 25 #[.agg #[.string n,.string d]] w (CM w (.bool false)):=by
 have V1:=fun W=>En n W
 have V2:=fun W=>En d W
 have C1:=fun W=>GB d ⟨#[48]⟩ W
 rw [hn] at V1
 rw [hd] at V2
 obtain ⟨c,hc,hc0,_⟩:=cmp_le (x:=zS d) (y:=0) Ad
 rw [L2 hd,<-hc] at C1
 obtain ⟨W0,hW0,hk0,hB0⟩:=Dc w (.string n) (.string d) 31
 clear hn hd h0 hc
 obtain ⟨c0,c1⟩:=CC hk0
 go_enter Tryz.func25,Tryz.ntmps25
 go_wp2_with fail
 rw [<-hW0]
 clear hW0
 refine (V1 _).mono ?_
 rintro e w1 ⟨rfl,hb⟩
 have hk1:=hk0.below hb
 have hB1:=Cv hb hB0 (Aa _)
 clear c0 c1 hk0 hB0 hb
 obtain ⟨c0,c1⟩:=CC hk1
 go_wp2_with fail
 refine (V2 _).mono ?_
 rintro e w2 ⟨rfl,hb⟩
 have hk2:=hk1.below hb
 have hB2:=Cv hb hB1 (Aa _)
 clear c0 c1 hk1 hB1 hb
 obtain ⟨c0,c1⟩:=CC hk2
 go_wp2_with fail
 refine (C1 _).mono ?_
 rintro e w3 ⟨rfl,hb⟩
 have hB3:=Cv hb hB2 (Aa _)
 clear c0 c1 hk2 hB2 hb
 go_wp2
 go_ret
 exact ⟨rfl,hB3⟩
theorem Oo (n d:ByteArray) (h:okS n=false∨okS d=false) (w:World) :
  Calls Tryz.prog 25 #[.agg #[.string n,.string d]] w (CM w (.bool false)):=by
 have V1:=fun W=>En n W
 have V2:=fun W=>En d W
 obtain ⟨W0,hW0,hk0,hB0⟩:=Dc w (.string n) (.string d) 31
 obtain ⟨c0,c1⟩:=CC hk0
 cases hn:okS n with
 | false =>
  rw [hn] at V1;clear h hn V2;go_enter Tryz.func25,Tryz.ntmps25;go_wp2_with fail;rw [<-hW0];clear hW0;refine (V1 _).mono ?_;rintro e w1 ⟨rfl,hb⟩;have hB1:=Cv hb hB0 (Aa _);clear c0 c1 hk0 hB0 hb;go_wp2;go_ret;exact ⟨rfl,hB1⟩
 | true =>
  have hd:okS d=false:=by rcases h with h | h;rw [hn] at h;cases h;exact h
  rw [hn] at V1;rw [hd] at V2;clear h hn hd;go_enter Tryz.func25,Tryz.ntmps25;go_wp2_with fail;rw [<-hW0];clear hW0;refine (V1 _).mono ?_;rintro e w1 ⟨rfl,hb⟩;have hk1:=hk0.below hb;have hB1:=Cv hb hB0 (Aa _);clear c0 c1 hk0 hB0 hb;obtain ⟨c0,c1⟩:=CC hk1;go_wp2_with fail;refine (V2 _).mono ?_;rintro e w2 ⟨rfl,hb⟩;have hB2:=Cv hb hB1 (Aa _);clear c0 c1 hk1 hB1 hb;go_wp2;go_ret;exact ⟨rfl,hB2⟩
theorem DY (n d:ByteArray) (w:World) (hE:Dv w) :
  Calls Tryz.prog 25 #[.agg #[.string n,.string d]] w (CM w (.bool (rOk n d))):=by
 unfold rOk
 by_cases h:okS n=true/\okS d=true
 ·rw [h.1,h.2]
  by_cases h0:0<zS d
  ·rw [Ay h0];exact QG n d h.1 h.2 h0 w hE
  ·rw [Al h0];exact On n d h.1 h.2 h0 w
 ·rw [(CK h).1];exact Oo n d (CK h).2 w
def Wk (W:World) (B:Nat) (bad:Bool):Prop:=CO W B #[.bool bad] 123
theorem Wk.c0 {W:World} {B:Nat} {bad:Bool} (h:Wk W B bad):W.cell? ⟨B,0,none⟩=some (.bool bad):=CO.cell h 0
theorem Wk.f0 {W:World} {B:Nat} {bad:Bool} (h:Wk W B bad):W.frozen? ⟨B,0,none⟩=false:=CO.frozen h 0
theorem Wk.below {W W':World} {B:Nat} {bad:Bool} (h:Wk W B bad) (hb:Below W.heap.size W W'):Wk W' B bad:=CO.below h hb
theorem Wk.set {W:World} {B:Nat} {bad:Bool} (h:Wk W B bad) (c:Bool):Wk (W.setCell ⟨B,0,none⟩ (.bool c)) B c:=CO.set h 0 (.bool c)
theorem Wk.lt {W:World} {B:Nat} {bad:Bool} (h:Wk W B bad):B<W.heap.size:=CO.lt h
def LR (W:World) (B:Nat) (c:Bool) (z:Int):Ending->World->Prop:=fun e w'=>∃ s,e=.returned (.string s)/\Wk w' B c/\CG [B] W w'/\(c=false->s=I z/\Cw z)
theorem qdo_bad (v:Value) (a b:ByteArray) (W:World) (B:Nat) (hk:Wk W B true) (z:Int) :
  Calls Tryz.prog 100 #[.pointer (some ⟨B,0,none⟩),v,.string a,.string b] W (LR W B true z):=by
 have c0:=hk.c0
 go_enter Tryz.func100,Tryz.ntmps100
 go_wp2
 go_ret
 exact ⟨_,rfl,hk,CG.refl _ _,fun h=>by cases h⟩
theorem Pw (f:Nat) (a b s:ByteArray) (er:Int) (W:World) (B:Nat) (hk:Wk W B false)
  (hE:∀ (args:Array Value) (w:World),(callFunc f args).run Tryz.prog w=.ok (.enter f args) w)
  (hF:Calls Tryz.prog f #[.string a,.string b] W (CM W (.tuple #[.string s,.int .i64 er]))) :
  Calls Tryz.prog 100 #[.pointer (some ⟨B,0,none⟩),.func (.func f) #[] #[],.string a,.string b] W fun e w'=>e=.returned (.string s)/\Wk w' B (er != 0)/\CG [B] W w':=by
 have c0:=hk.c0
 have hF:=A8 hF
 go_enter Tryz.func100,Tryz.ntmps100
 go_wp2_with fail
 refine hF.out.mono ?_
 rintro e w1 ⟨rfl,hb⟩
 have hk1:=hk.below hb
 have ho:CG [B] W (w1.setCell ⟨B,0,none⟩ (.bool (er != 0))):=(CG.of_below hb).setCell Af _
 have hk2:=hk1.set (er != 0)
 have c0:=hk1.c0
 have f0:=hk1.f0
 go_wp2
 go_ret
 exact ⟨rfl,hk2,ho⟩
theorem Im (f:Nat) (a b:ByteArray) (z:Int) (bad:Bool) (W:World) (B:Nat) (hk:Wk W B bad)
  (hE:∀ (args:Array Value) (w:World),(callFunc f args).run Tryz.prog w=.ok (.enter f args) w)
  (hF:bad=false->Calls Tryz.prog f #[.string a,.string b] W (CM W (E6 true z))) :
  Calls Tryz.prog 100 #[.pointer (some ⟨B,0,none⟩),.func (.func f) #[] #[],.string a,.string b] W (LR W B (bad || !decide (Cw z)) z):=by
 cases bad with
 | true=>rw [Bool.true_or];exact qdo_bad _ a b W B hk z
 | false =>
  rw [Bool.false_or];have h:=hF rfl;by_cases hs:Cw z
  ·rw [Fo hs] at h
   rw [Ay hs];exact (Pw f a b _ _ W B hk hE h).mono fun e w' ⟨h1,h2,h3⟩=>⟨_,h1,h2,h3,fun _=>⟨rfl,hs⟩⟩
  ·rw [RX hs] at h
   rw [Al hs];exact (Pw f a b _ _ W B hk hE h).mono fun e w' ⟨h1,h2,h3⟩=>⟨_,h1,h2,h3,fun e=>by cases e⟩
def IL (bad:Bool) (a b:ByteArray) (x y:Int):Prop:=bad=false->a=I x/\b=I y/\Cw x/\Cw y
theorem ent_mul:∀ (args:Array Value) (w:World),(callFunc 107 args).run Tryz.prog w=.ok (.enter 107 args) w:=Go.Proofs.enters_of Tryz.func107 Ab rfl
theorem ent_add:∀ (args:Array Value) (w:World),(callFunc 82 args).run Tryz.prog w=.ok (.enter 82 args) w:=Go.Proofs.enters_of Tryz.func82 Ab rfl
theorem ent_sub:∀ (args:Array Value) (w:World),(callFunc 101 args).run Tryz.prog w=.ok (.enter 101 args) w:=Go.Proofs.enters_of Tryz.func101 Ab rfl
theorem ent_gcd:∀ (args:Array Value) (w:World),(callFunc 49 args).run Tryz.prog w=.ok (.enter 49 args) w:=Go.Proofs.enters_of Tryz.func49 Ab rfl
theorem ent_quo:∀ (args:Array Value) (w:World),(callFunc 119 args).run Tryz.prog w=.ok (.enter 119 args) w:=Go.Proofs.enters_of Tryz.func119 Ab rfl
theorem qdo_mul {a b:ByteArray} {x y:Int} {bad:Bool} (h:IL bad a b x y) (W:World) (hE:Dv W) (B:Nat) (hk:Wk W B bad) :
  Calls Tryz.prog 100 #[.pointer (some ⟨B,0,none⟩),.func (.func 107) #[] #[],.string a,.string b] W (LR W B (bad || !decide (Cw (x*y))) (x*y)) :=
 Im _ a b _ bad W B hk ent_mul fun e=>by
  obtain ⟨h1,h2,h3,h4⟩:=h e;refine CM.of (mul_any a b W hE) ?_;rw [h1,h2,DR h3,DR h4,Er,Er];rfl
theorem qdo_add {a b:ByteArray} {x y:Int} {bad:Bool} (h:IL bad a b x y) (W:World) (hE:Dv W) (B:Nat) (hk:Wk W B bad) :
  Calls Tryz.prog 100 #[.pointer (some ⟨B,0,none⟩),.func (.func 82) #[] #[],.string a,.string b] W (LR W B (bad || !decide (Cw (x+y))) (x+y)) :=
 Im _ a b _ bad W B hk ent_add fun e=>by
  obtain ⟨h1,h2,h3,h4⟩:=h e;refine CM.of (add_any a b W hE) ?_;rw [h1,h2,DR h3,DR h4,Er,Er];rfl
theorem Px {a b:ByteArray} {x y:Int} {bad:Bool} (h:IL bad a b x y) (W:World) (hE:Dv W) (B:Nat) (hk:Wk W B bad) :
  Calls Tryz.prog 100 #[.pointer (some ⟨B,0,none⟩),.func (.func 101) #[] #[],.string a,.string b] W (LR W B (bad || !decide (Cw (x-y))) (x-y)) :=
 Im _ a b _ bad W B hk ent_sub fun e=>by
  obtain ⟨h1,h2,h3,h4⟩:=h e;refine CM.of (sub_any a b W hE) ?_;rw [h1,h2,DR h3,DR h4,Er,Er];rfl
theorem Py {a b:ByteArray} {x y:Int} {bad:Bool} (h:IL bad a b x y) (W:World) (hE:Dv W) (B:Nat) (hk:Wk W B bad) :
  Calls Tryz.prog 100 #[.pointer (some ⟨B,0,none⟩),.func (.func 49) #[] #[],.string a,.string b] W (LR W B (bad || !decide (Cw (CY x y))) (CY x y)) :=
 Im _ a b _ bad W B hk ent_gcd fun e=>by
  obtain ⟨h1,h2,h3,h4⟩:=h e;refine CM.of (Pv a b W hE) ?_;rw [h1,h2,DR h3,DR h4,Er,Er];rfl
theorem QH (a b:ByteArray) (x y:Int) (ha:a=I x) (hb:b=I y) (hx:Cw x) (hy:Cw y) (h0:y≠0) (w:World) (hE:Dv w) :
  Calls Tryz.prog 119 #[.string a,.string b] w (CM w (E6 true (x / y))):=by
 have D1:=fun W (hE:Dv W)=>Oh ha hb hx hy W hE (x / y) (x % y) _ _ h0 rfl rfl rfl rfl
 rw [Fo (Eo hx)]
 generalize I (x / y)=q at *
 generalize I (x % y)=r at *
 clear ha hb
 go_enter Tryz.func119,Tryz.ntmps119
 go_wp2_with fail
 refine (D1 _ hE).mono ?_
 rintro e w1 ⟨rfl,hb⟩
 go_wp2
 go_ret2
 exact ⟨rfl,hb⟩
theorem GE {a b:ByteArray} {x y:Int} {bad:Bool} (h:IL bad a b x y) (W:World) (hE:Dv W) (B:Nat) (hk:Wk W B bad) :
  Calls Tryz.prog 80 #[.pointer (some ⟨B,0,none⟩),.string a,.string b] W (LR W B (bad || !decide (Cw (x*y))) (x*y)):=by
 have Q:=A8 (qdo_mul h W hE B hk)
 clear h hk
 go_enter Tryz.func80,Tryz.ntmps80
 go_wp2_with fail
 refine Q.out.mono ?_
 rintro e w1 ⟨s,rfl,h1,h2,h3⟩
 go_wp2
 go_ret
 exact ⟨_,rfl,h1,h2,h3⟩
theorem In {a b:ByteArray} {x y:Int} {bad:Bool} (h:IL bad a b x y) (h0:y≠0) (W:World) (hE:Dv W) (B:Nat) (hk:Wk W B bad) :
  Calls Tryz.prog 102 #[.pointer (some ⟨B,0,none⟩),.string a,.string b] W (LR W B (bad || !decide (Cw (x / y))) (x / y)):=by
 have Q:=A8 (Im 119 a b (x / y) bad W B hk ent_quo fun e=>QH a b x y (h e).1 (h e).2.1 (h e).2.2.1 (h e).2.2.2 h0 W hE)
 clear h hk
 go_enter Tryz.func102,Tryz.ntmps102
 go_wp2_with fail
 refine Q.out.mono ?_
 rintro e w1 ⟨s,rfl,h1,h2,h3⟩
 go_wp2
 go_ret
 exact ⟨_,rfl,h1,h2,h3⟩
theorem LR.ok {f:FuncId} {args:Array Value} {W:World} {B:Nat} {z:Int} (hs:Cw z) (h:Calls Tryz.prog f args W (LR W B (false || !decide (Cw z)) z)) :
  Calls Tryz.prog f args W fun e w'=>e=.returned (.string (I z))/\Wk w' B false/\CG [B] W w':=by
 rw [Ay hs] at h
 exact h.mono fun e w' ⟨s,h1,h2,h3,h4⟩=>⟨by rw [h1,(h4 rfl).1],h2,h3⟩
theorem CO.only {S:List Nat} {W W':World} {B:Nat} {cs:Array Value} {t:TypeId} (h:CO W B cs t) (ho:CG S W W') (hB:B∉S):CO W' B cs t:=(ho.block B h.lt hB).trans h
structure Cx (w0 W:World) (B:Nat) (bad:Bool):Prop where
 env:Dv w0
 below:Below w0.heap.size w0 W
 le:w0.heap.size<=B
 wk:Wk W B bad
theorem Cx.envW {w0 W:World} {B:Nat} {bad:Bool} (h:Cx w0 W B bad):Dv W:=h.env.below h.below (Aa _)
theorem Cx.next {w0 W W':World} {B:Nat} {bad c:Bool} (h:Cx w0 W B bad) (hk:Wk W' B c) (ho:CG [B] W W'):Cx w0 W' B c :=
 ⟨h.env,h.below.trans (ho.toBelow h.below.size (fun k hk=>by simp at hk;subst hk;exact h.le)),h.le,hk⟩
theorem Cx.call {w0 W W':World} {B:Nat} {bad:Bool} (h:Cx w0 W B bad) (hb:Below W.heap.size W W'):Cx w0 W' B bad:=h.next (h.wk.below hb) (CG.of_below hb)
theorem Ss (a b:ByteArray) (w0 W:World) (B:Nat) (hx:Cx w0 W B true) :
  Calls Tryz.prog 69 #[.pointer (some ⟨B,0,none⟩),.string a,.string b] W fun e w'=>e=.returned (qT false 0)/\CG [B] W w':=by
 obtain ⟨_,rfl,hR1,hB1⟩:=Dc W (.string ⟨#[]⟩) (.string ⟨#[]⟩) 31
 have c0:=(hx.call hB1).wk.c0
 have ho:=(CG.of_below (S:=[B]) hB1).setNew (p:=⟨W.heap.size,0,none⟩) (Aa _) (.string ⟨#[]⟩)
 have ho2:=ho.setNew (p:=⟨W.heap.size,1,none⟩) (Aa _) (.string ⟨#[]⟩)
 go_enter Tryz.func69,Tryz.ntmps69
 go_wp2
 exact bodyPost_ret (v:=.tuple #[.agg #[.string ⟨#[]⟩,.string ⟨#[]⟩],.int .i64 40]) (by simp [results,Tryz.results69,go_sem]) rfl ⟨rfl,CG.of_below hB1⟩
theorem EI:(⟨#[48]⟩:ByteArray)=I 0:=lit_I [48] 0 (by decide +kernel) (by decide +kernel)
theorem FG {a:ByteArray} (h:a=I 0):(a.toList==[48])=true:=by
 rw [h,<-EI];decide +kernel
theorem Ej:Cw 0:=by decide
theorem QI (a b:ByteArray) (hb:b=I 0) (w0 W:World) (B:Nat) (hx:Cx w0 W B false) :
  Calls Tryz.prog 69 #[.pointer (some ⟨B,0,none⟩),.string a,.string b] W fun e w'=>e=.returned (qT false 0)/\CG [B] W w':=by
 obtain ⟨_,rfl,hR1,hB1⟩:=Dc W (.string ⟨#[]⟩) (.string ⟨#[]⟩) 31
 have c0:=(hx.call hB1).wk.c0
 have hz:=FG hb
 clear hb
 go_enter Tryz.func69,Tryz.ntmps69
 go_wp2
 exact bodyPost_ret (v:=.tuple #[.agg #[.string ⟨#[]⟩,.string ⟨#[]⟩],.int .i64 40]) (by simp [results,Tryz.results69,go_sem]) rfl ⟨rfl,CG.of_below hB1⟩
theorem K0 {W:World} {B R:Nat} (hR:CO W R #[.string ⟨#[]⟩,.string ⟨#[]⟩] 31) (hk:Wk W B false) (p q:ByteArray) :
  ∃ W1,W1=W.alloc (.cells #[.string p,.string q] 31)/\W1.cell? ⟨B,0,none⟩=some (.bool false)/\W1.cell? ⟨W.heap.size,0,none⟩=some (.string p)/\W1.cell? ⟨W.heap.size,1,none⟩=some (.string q) /\
   W1.cell? ⟨R,0,none⟩=some (.string ⟨#[]⟩)/\W1.cell? ⟨R,1,none⟩=some (.string ⟨#[]⟩)/\W1.frozen? ⟨R,0,none⟩=false/\W1.frozen? ⟨R,1,none⟩=false /\
   ((W1.setCell ⟨R,0,none⟩ (.string p)).setCell ⟨R,1,none⟩ (.string q)).cell? ⟨R,0,none⟩=some (.string p)/\((W1.setCell ⟨R,0,none⟩ (.string p)).setCell ⟨R,1,none⟩ (.string q)).cell? ⟨R,1,none⟩=some (.string q) /\
   (∀ B' V,CG [B'] V W->V.heap.size<=R->CG [B'] V ((W1.setCell ⟨R,0,none⟩ (.string p)).setCell ⟨R,1,none⟩ (.string q))):=by
 obtain ⟨_,rfl,h1,hb⟩:=Dc W (.string p) (.string q) 31
 have hR1:=hR.below hb
 have m2:=(hR1.set 0 (.string p)).set 1 (.string q)
 exact ⟨_,rfl,(hk.below hb).c0,(CC h1).1,(CC h1).2,(CC hR1).1,(CC hR1).2,hR1.frozen 0,hR1.frozen 1,m2.cell 0,m2.cell 1,
  fun B' V ho hV=>((ho.below hb).setNew (p:=⟨R,0,none⟩) hV _).setNew (p:=⟨R,1,none⟩) hV _⟩
theorem Su {a b:ByteArray} {x y:Int} (ha:a=I x) (hb:b=I y) (hx:Cw x) (hy:Cw y) (h0:0<y) (w0 W:World) (B:Nat) (hc:Cx w0 W B false) :
  Calls Tryz.prog 69 #[.pointer (some ⟨B,0,none⟩),.string a,.string b] W fun e w'=>e=.returned (qT true (Rat.divInt x y))/\CG [B] W w':=by
 obtain ⟨_,rfl,hR1,hB1⟩:=Dc W (.string ⟨#[]⟩) (.string ⟨#[]⟩) 31
 have hc1:=hc.call hB1
 have hBR:W.heap.size∉[B]:=by have:=hc.wk.lt;simp;omega
 have c0:=hc1.wk.c0
 have hne:=Eh hb (show y≠0 by omega)
 have C1:=fun W=>Oi hb EI hy Ej W 1 (Cz h0).symm
 have hg0:CY x y≠0:=by have:=Ik (x:=x) h0;omega
 have hgs:=ER hx hy
 have D1:=fun (W:World) (h:Cx w0 W B false)=>LR.ok hgs (Py (bad:=false) (fun _=>⟨ha,hb,hx,hy⟩) W h.envW B h.wk)
 have D2:=fun (W:World) (h:Cx w0 W B false)=>LR.ok (Eo hx) (In (y:=CY x y) (bad:=false) (fun _=>⟨ha,rfl,hx,hgs⟩) hg0 W h.envW B h.wk)
 have D3:=fun (W:World) (h:Cx w0 W B false)=>LR.ok (Eo hy) (In (y:=CY x y) (bad:=false) (fun _=>⟨hb,rfl,hy,hgs⟩) hg0 W h.envW B h.wk)
 have HQ:=A8 (show qT true (Rat.divInt x y)=.tuple #[.agg #[.string (I (x / CY x y)),.string (I (y / CY x y))],.int .i64 0] by
  rw [Jt];unfold F4 F5;rw [(Dl h0).1,(Dl h0).2])
 generalize I (CY x y)=g at *
 generalize I (x / CY x y)=p at *
 generalize I (y / CY x y)=q at *
 clear ha hb hg0 h0
 go_enter Tryz.func69,Tryz.ntmps69
 go_wp2_with fail
 refine (C1 _).mono ?_
 rintro e w2 ⟨rfl,hb2⟩
 have hc2:=hc1.call hb2
 have ho2:=(CG.of_below (S:=[B]) hB1).below hb2
 have hR2:=hR1.below hb2
 clear hc1 hB1 hR1 hb2 c0 C1
 go_wp2_with fail
 refine (D1 _ hc2).mono ?_
 rintro e w3 ⟨rfl,hk3,ho⟩
 have hc3:=hc2.next hk3 ho
 have ho3:=ho2.trans ho
 have hR3:=hR2.only ho hBR
 clear hc2 ho2 hR2 ho hk3 D1
 go_wp2_with fail
 refine (D2 _ hc3).mono ?_
 rintro e w4 ⟨rfl,hk4,ho⟩
 have hc4:=hc3.next hk4 ho
 have ho4:=ho3.trans ho
 have hR4:=hR3.only ho hBR
 clear hc3 ho3 hR3 ho hk4 D2
 go_wp2_with fail
 refine (D3 _ hc4).mono ?_
 rintro e w5 ⟨rfl,hk5,ho⟩
 have ho5:=ho4.trans ho
 have hR5:=hR4.only ho hBR
 obtain ⟨_,rfl,c0,k0,k1,r0,r1,f0,f1,y0,y1,hfin⟩:=K0 hR5 hk5 p q
 have hfin:=A8 (hfin _ _ ho5 (Aa _))
 clear hc4 ho4 hR4 ho hk5 D3 ho5 hR5
 go_wp2
 refine bodyPost_ret (v:=.tuple #[.agg #[.string p,.string q],.int .i64 0]) (by simp [results,Tryz.results69,go_sem,y0,y1]) rfl ?_
 exact ⟨Bk Ending.returned HQ.out.symm,hfin.out⟩
theorem Sv {a b:ByteArray} {x y:Int} (ha:a=I x) (hb:b=I y) (hx:Cw x) (hy:Cw y) (h0:y<0) (w0 W:World) (B:Nat) (hc:Cx w0 W B false) :
  Calls Tryz.prog 69 #[.pointer (some ⟨B,0,none⟩),.string a,.string b] W fun e w'=>e=.returned (qT true (Rat.divInt x y))/\CG [B] W w':=by
 obtain ⟨_,rfl,hR1,hB1⟩:=Dc W (.string ⟨#[]⟩) (.string ⟨#[]⟩) 31
 have hc1:=hc.call hB1
 have hBR:W.heap.size∉[B]:=by have:=hc.wk.lt;simp;omega
 have c0:=hc1.wk.c0
 have hne:=Eh hb (show y≠0 by omega)
 have C1:=fun W=>Oi hb EI hy Ej W (-1) (Cy h0).symm
 have hx':=Fg hx
 have hy':=Fg hy
 have h0':0 < -y:=by omega
 have hg0:CY (-x) (-y)≠0:=by have:=Ik (x:=-x) h0';omega
 have hgs:=ER hx' hy'
 have S1:=fun (W:World) (h:Cx w0 W B false)=>LR.ok (show Cw (0-x) by rw [Int.zero_sub];exact hx') (Px (bad:=false) (fun _=>⟨EI,ha,Ej,hx⟩) W h.envW B h.wk)
 have S2:=fun (W:World) (h:Cx w0 W B false)=>LR.ok (show Cw (0-y) by rw [Int.zero_sub];exact hy') (Px (bad:=false) (fun _=>⟨EI,hb,Ej,hy⟩) W h.envW B h.wk)
 rw [Int.zero_sub] at S1 S2
 have D1:=fun (W:World) (h:Cx w0 W B false)=>LR.ok hgs (Py (x:=-x) (y:=-y) (bad:=false) (fun _=>⟨rfl,rfl,hx',hy'⟩) W h.envW B h.wk)
 have D2:=fun (W:World) (h:Cx w0 W B false)=>LR.ok (Eo hx') (In (x:=-x) (y:=CY (-x) (-y)) (bad:=false) (fun _=>⟨rfl,rfl,hx',hgs⟩) hg0 W h.envW B h.wk)
 have D3:=fun (W:World) (h:Cx w0 W B false)=>LR.ok (Eo hy') (In (x:=-y) (y:=CY (-x) (-y)) (bad:=false) (fun _=>⟨rfl,rfl,hy',hgs⟩) hg0 W h.envW B h.wk)
 have HQ:=A8 (show qT true (Rat.divInt x y)=.tuple #[.agg #[.string (I (-x / CY (-x) (-y))),.string (I (-y / CY (-x) (-y)))],.int .i64 0] by
  rw [<-Fq,Jt];unfold F4 F5;rw [(Dl h0').1,(Dl h0').2])
 generalize I (-x / CY (-x) (-y))=p at *
 generalize I (-y / CY (-x) (-y))=q at *
 generalize I (CY (-x) (-y))=g at *
 generalize I (-x)=a' at *
 generalize I (-y)=b' at *
 clear ha hb hg0 h0 h0'
 go_enter Tryz.func69,Tryz.ntmps69
 go_wp2_with fail
 refine (C1 _).mono ?_
 rintro e w2 ⟨rfl,hb2⟩
 have hc2:=hc1.call hb2
 have ho2:=(CG.of_below (S:=[B]) hB1).below hb2
 have hR2:=hR1.below hb2
 clear hc1 hB1 hR1 hb2 c0 C1
 go_wp2_with fail
 refine (S1 _ hc2).mono ?_
 rintro e v3 ⟨rfl,hk3,ho⟩
 have hd3:=hc2.next hk3 ho
 have hp3:=ho2.trans ho
 have hS3:=hR2.only ho hBR
 clear hc2 ho2 hR2 ho hk3 S1
 go_wp2_with fail
 refine (S2 _ hd3).mono ?_
 rintro e v4 ⟨rfl,hk4,ho⟩
 have hd4:=hd3.next hk4 ho
 have hp4:=hp3.trans ho
 have hS4:=hS3.only ho hBR
 clear hd3 hp3 hS3 ho hk4 S2
 go_wp2_with fail
 refine (D1 _ hd4).mono ?_
 rintro e w3 ⟨rfl,hk3,ho⟩
 have hc3:=hd4.next hk3 ho
 have ho3:=hp4.trans ho
 have hR3:=hS4.only ho hBR
 clear hd4 hp4 hS4 ho hk3 D1
 go_wp2_with fail
 refine (D2 _ hc3).mono ?_
 rintro e w4 ⟨rfl,hk4,ho⟩
 have hc4:=hc3.next hk4 ho
 have ho4:=ho3.trans ho
 have hR4:=hR3.only ho hBR
 clear hc3 ho3 hR3 ho hk4 D2
 go_wp2_with fail
 refine (D3 _ hc4).mono ?_
 rintro e w5 ⟨rfl,hk5,ho⟩
 have ho5:=ho4.trans ho
 have hR5:=hR4.only ho hBR
 obtain ⟨_,rfl,c0,k0,k1,r0,r1,f0,f1,y0,y1,hfin⟩:=K0 hR5 hk5 p q
 have hfin:=A8 (hfin _ _ ho5 (Aa _))
 clear hc4 ho4 hR4 ho hk5 D3 ho5 hR5
 go_wp2
 refine bodyPost_ret (v:=.tuple #[.agg #[.string p,.string q],.int .i64 0]) (by simp [results,Tryz.results69,go_sem,y0,y1]) rfl ?_
 exact ⟨Bk Ending.returned HQ.out.symm,hfin.out⟩
theorem Sw {a b:ByteArray} {x y:Int} {bad:Bool} (h:IL bad a b x y) (w0 W:World) (B:Nat) (hc:Cx w0 W B bad) :
  Calls Tryz.prog 69 #[.pointer (some ⟨B,0,none⟩),.string a,.string b] W fun e w'=>e=.returned (qT (!bad&&decide (y≠0)) (Rat.divInt x y))/\CG [B] W w':=by
 cases bad with
 | true=>rw [Bool.not_true,Bool.false_and,GD _ 0];exact Ss a b w0 W B hc
 | false =>
  obtain ⟨h1,h2,h3,h4⟩:=h rfl;rcases Cr y 0 with hy | hy | hy
  ·rw [Ay (show y≠0 by omega)];exact Sv h1 h2 h3 h4 hy w0 W B hc
  ·subst hy;rw [Al Af,show (!false&&false)=false from rfl,GD _ 0];exact QI a b h2 w0 W B hc
  ·rw [Ay (show y≠0 by omega)];exact Su h1 h2 h3 h4 hy w0 W B hc
end
end Go.Proofs.YtdkonnnmkceagaaGreatDoor
