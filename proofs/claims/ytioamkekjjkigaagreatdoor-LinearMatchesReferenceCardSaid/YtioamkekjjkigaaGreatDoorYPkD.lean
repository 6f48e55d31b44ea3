/- PkD, PkE -/
import Derived.Test.YtioamkekjjkigaaGreatDoorYPkC
import Derived.Lib.UnsafeStr
import Derived.Laws.IdiomStrings
import Derived.Deep.RegionHeld3
import Derived.Deep.DeepCutAuto
set_option maxHeartbeats 8000000
set_option maxRecDepth 100000
namespace Go.Proofs.YtioamkekjjkigaaGreatDoor
section
open Go.RowKit
attribute [local go_sem] Oper.semAt_some
theorem one_any (w:World):Calls Tryz.prog 93 #[] w (DA w fun r w'=>∃ b,r=.slice (some ⟨b,0,none⟩) 1 1/\Sl w' r [1]):=by
 go_enter Tryz.func93,Tryz.ntmps93;go_wp2;go_ret;exact ⟨⟨_,rfl,_,rfl,Sl.of_own (JM w 1)⟩,(Below.refl _ _).alloc (Aa _) _⟩
def GF (ok:Bool) (x y:Int):Value:=if ok&&decide (y≠0) then .tuple #[.string ⟨(Lib.itoa (x / y)).toArray⟩,.string ⟨(Lib.itoa (x % y)).toArray⟩,.int .i64 0] else .tuple #[.string ⟨#[]⟩,.string ⟨#[]⟩,.int .i64 30]
theorem SI (a b:ByteArray) (w:World) (hE:Fp w) (ha:DK a=true) (hb:DK b=true) (h0:zS b≠0) (hneg:¬ (zS a<0/\0<((zS a).natAbs:Int) % (zS b).natAbs)) :
  Calls Tryz.prog 55 #[.string a,.string b] w (DA w fun r _=>r=GF true (zS a) (zS b)):=by
 have Ba:=Eq ha
 have Bb:=Eq hb
 have Pk:=fun W=>J6 a b W ha hb
 have hp:=J7 (zS a) (zS b) h0
 have hsm:=HI (x:=zS a) (y:=zS b) Ba
 have hsm1:=hsm.1
 have hsm2:=hsm.2 h0 Bb
 have hr0:=Cy (zS a) h0
 have he1:MT (zS a / zS b)=0:=AU hsm1
 have ht1:txt (zS a / zS b)=Lib.itoa (zS a / zS b):=AU hsm1
 have ht2:txt (zS a % zS b)=Lib.itoa (zS a % zS b):=AU hsm2
 rw [AP hneg,AP hneg] at hp
 go_enter Tryz.func55,Tryz.ntmps55
 go_wp2_with fail
 refine (Pk _).mono ?_
 rintro e W1 ⟨⟨r,rfl,v,u,rfl,⟨x,xs,rfl,hx,hnx⟩,⟨y,ys,rfl,hy,hny⟩⟩,hb1⟩
 have lx:=F5 hnx (ED Ba)
 have ly:=F5 hny (ED Bb)
 have hy0:((ys.length:Int)==0)=false:=by
  rw [Am];intro e;have:=(hny.zero_iff Ae).1 (Bo Ad);omega
 obtain ⟨a1,c1,rfl⟩:=hx.shape
 obtain ⟨a2,c2,rfl⟩:=hy.shape
 have hm:(0:Int)<(zS b).natAbs:=by omega
 have hM:=A8 hneg
 clear hneg
 generalize hs:decide (zS a<0)=s at *
 generalize ht:decide (zS b<0)=t at *
 obtain ⟨W2,hW2,h1,h2,h3,h4,h5⟩:=HG W1 s t (.slice a1 xs.length c1) (.slice a2 ys.length c2)
 go_wp2_with fail
 rw [<-hW2]
 clear hW2
 refine (LH _ _ xs ys _ _ (hx.below h5) (hy.below h5) hnx.dig hny hm Ad Ad).mono ?_
 rintro e W3 ⟨⟨r,rfl,r1,r2,qs,rs,rfl,hq,hnq,hr,hnr⟩,hb3⟩
 rw [hnx.val] at hnq hnr
 obtain ⟨a3,c3,rfl⟩:=hq.shape
 obtain ⟨a4,c4,rfl⟩:=hr.shape
 have g1:=DU hb3 h1
 have g2:=DU hb3 h2
 have g3:=DU hb3 h3
 have g4:=DU hb3 h4
 have hb13:=Dn hb3 h5 (Aa _)
 have hbw:=Dn hb13 hb1 (Aa _)
 have lq:qs.length<=10000:=by
  have:=hnq.len_le Ae hnx (CA _ Ad);omega
 have lr:rs.length<=10000:=by
  have:=hnr.len_le Ae hny (CY (Cu _ hm));omega
 have hE3:=hE.below hbw (Aa _)
 have hcond:s=true->¬ (0:Int)<(rs.length:Int):=by
  intro hst hl;subst hst;have hxn:zS a<0:=by simpa using hs
  have:¬ ((zS a).natAbs:Int) % (zS b).natAbs=0:=fun e=>by
   have:=(hnr.zero_iff Ae).2 e;rw [this] at hl;simp at hl
  exact hM.out ⟨hxn,by have:=hnr.nonneg Ae;omega⟩
 have hp1:sgn (!s==t) (((zS a).natAbs:Int) / (zS b).natAbs)=zS a / zS b:=hp.1
 have HH:=A8 (And.intro hp1 (And.intro hp.2 (And.intro ht1 (And.intro ht2 he1))))
 have Hy0:=A8 h0
 have lx':=lx
 clear hp hp1 hs ht hsm hsm1 hsm2 he1 ht1 ht2 hr0 hy0 lx ly lx' Ba Bb hm h0
 cases s
 ·go_wp2_with fail
  have hp1:sgn t (((zS a).natAbs:Int) / (zS b).natAbs)=zS a / zS b:=by have:=HH.out.1;cases t <;> exact this
  have he:MT (sgn t (((zS a).natAbs:Int) / (zS b).natAbs))=0:=by rw [hp1];exact HH.out.2.2.2.2
  have hR:sgn false (((zS a).natAbs:Int) % (zS b).natAbs)=zS a % zS b:=HH.out.2.1;have hfv:(GF true (zS a) (zS b))=.tuple #[.string ⟨(txt (sgn t (((zS a).natAbs:Int) / (zS b).natAbs))).toArray⟩,.string ⟨(txt (sgn false (((zS a).natAbs:Int) % (zS b).natAbs))).toArray⟩,.int .i64 0]:=by
   rw [hp1,hR,HH.out.2.2.1,HH.out.2.2.2.1];unfold GF;rw [AU];simpa using Hy0.out
  have HF:=A8 hfv;clear hp1 hR hfv;refine (Gc t _ qs _ W3 hE3 hq hnq lq).mono ?_;rintro e W4 ⟨rfl,hb4⟩;rw [he];go_wp2_with fail;refine (Gc false _ rs _ W4 (hE3.below hb4 (Aa _)) (hr.below hb4) hnr lr).mono ?_;rintro e W5 ⟨rfl,hb5⟩;go_wp2;refine bodyPost_ret (v:=.tuple #[.string ⟨(txt (sgn t (((zS a).natAbs:Int) / (zS b).natAbs))).toArray⟩,.string ⟨(txt (sgn false (((zS a).natAbs:Int) % (zS b).natAbs))).toArray⟩,.int .i64 0]) (by simp [results,Tryz.results55,go_sem]) rfl ?_;exact ⟨⟨_,rfl,HF.out.symm⟩,Dn hb5 (Dn hb4 hbw (Aa _)) (Aa _)⟩
 ·have hc2:=hcond rfl
  clear hcond;go_wp2_with fail;have hp1:sgn (!t) (((zS a).natAbs:Int) / (zS b).natAbs)=zS a / zS b:=by have:=HH.out.1;cases t <;> exact this
  have he:MT (sgn (!t) (((zS a).natAbs:Int) / (zS b).natAbs))=0:=by rw [hp1];exact HH.out.2.2.2.2
  have hR:sgn false (((zS a).natAbs:Int) % (zS b).natAbs)=zS a % zS b:=HH.out.2.1;have hfv:(GF true (zS a) (zS b))=.tuple #[.string ⟨(txt (sgn (!t) (((zS a).natAbs:Int) / (zS b).natAbs))).toArray⟩,.string ⟨(txt (sgn false (((zS a).natAbs:Int) % (zS b).natAbs))).toArray⟩,.int .i64 0]:=by
   rw [hp1,hR,HH.out.2.2.1,HH.out.2.2.2.1];unfold GF;rw [AU];simpa using Hy0.out
  have HF:=A8 hfv;clear hp1 hR hfv;refine (Gc (!t) _ qs _ W3 hE3 hq hnq lq).mono ?_;rintro e W4 ⟨rfl,hb4⟩;rw [he];go_wp2_with fail;refine (Gc false _ rs _ W4 (hE3.below hb4 (Aa _)) (hr.below hb4) hnr lr).mono ?_;rintro e W5 ⟨rfl,hb5⟩;go_wp2;refine bodyPost_ret (v:=.tuple #[.string ⟨(txt (sgn (!t) (((zS a).natAbs:Int) / (zS b).natAbs))).toArray⟩,.string ⟨(txt (sgn false (((zS a).natAbs:Int) % (zS b).natAbs))).toArray⟩,.int .i64 0]) (by simp [results,Tryz.results55,go_sem]) rfl ?_;exact ⟨⟨_,rfl,HF.out.symm⟩,Dn hb5 (Dn hb4 hbw (Aa _)) (Aa _)⟩
theorem dig_one:Ew 10000 [1]:=fun x hx=>by simp at hx;subst hx;omega
theorem RW:val 10000 [1]=1:=by simp [val]
theorem SJ (a b:ByteArray) (w:World) (hE:Fp w) (ha:DK a=true) (hb:DK b=true) (h0:zS b≠0) (hneg:zS a<0/\0<((zS a).natAbs:Int) % (zS b).natAbs) :
  Calls Tryz.prog 55 #[.string a,.string b] w (DA w fun r _=>r=GF true (zS a) (zS b)):=by
 have Ba:=Eq ha
 have Bb:=Eq hb
 have Pk:=fun W=>J6 a b W ha hb
 have hp:=J7 (zS a) (zS b) h0
 have hsm:=HI (x:=zS a) (y:=zS b) Ba
 have hsm1:=hsm.1
 have hsm2:=hsm.2 h0 Bb
 have hr0:=Cy (zS a) h0
 have he1:MT (zS a / zS b)=0:=AU hsm1
 have ht1:txt (zS a / zS b)=Lib.itoa (zS a / zS b):=AU hsm1
 have ht2:txt (zS a % zS b)=Lib.itoa (zS a % zS b):=AU hsm2
 rw [AU hneg,AU hneg] at hp
 go_enter Tryz.func55,Tryz.ntmps55
 go_wp2_with fail
 refine (Pk _).mono ?_
 rintro e W1 ⟨⟨r,rfl,v,u,rfl,⟨x,xs,rfl,hx,hnx⟩,⟨y,ys,rfl,hy,hny⟩⟩,hb1⟩
 have lx:=F5 hnx (ED Ba)
 have ly:=F5 hny (ED Bb)
 have hy0:((ys.length:Int)==0)=false:=by
  rw [Am];intro e;have:=(hny.zero_iff Ae).1 (Bo Ad);omega
 obtain ⟨a1,c1,rfl⟩:=hx.shape
 obtain ⟨a2,c2,rfl⟩:=hy.shape
 have hm:(0:Int)<(zS b).natAbs:=by omega
 have hM:=A8 hneg
 clear hneg
 generalize hs:decide (zS a<0)=s at *
 generalize ht:decide (zS b<0)=t at *
 obtain ⟨W2,hW2,h1,h2,h3,h4,h5⟩:=HG W1 s t (.slice a1 xs.length c1) (.slice a2 ys.length c2)
 go_wp2_with fail
 rw [<-hW2]
 clear hW2
 refine (LH _ _ xs ys _ _ (hx.below h5) (hy.below h5) hnx.dig hny hm Ad Ad).mono ?_
 rintro e W3 ⟨⟨r,rfl,r1,r2,qs,rs,rfl,hq,hnq,hr,hnr⟩,hb3⟩
 rw [hnx.val] at hnq hnr
 obtain ⟨a3,c3,rfl⟩:=hq.shape
 obtain ⟨a4,c4,rfl⟩:=hr.shape
 have g1:=DU hb3 h1
 have g2:=DU hb3 h2
 have g3:=DU hb3 h3
 have g4:=DU hb3 h4
 have hb13:=Dn hb3 h5 (Aa _)
 have hbw:=Dn hb13 hb1 (Aa _)
 have hqs:=hnq.len_le Ae hnx (CA _ Ad)
 have hrs:=hnr.len_le Ae hny (CY (Cu _ hm))
 have lq1:qs.length<=100000:=by omega
 have ly1:ys.length<=100000:=by omega
 have hst:s=true:=by rw [<-hs];simp [hM.out.1]
 have hcond:(0:Int)<(rs.length:Int):=by
  have:rs≠[]:=fun e=>by
   have:=(hnr.zero_iff Ae).1 e;have:=hM.out.2;omega
  have:=List.length_pos_iff.2 this;omega
 have hle:val 10000 rs<=val 10000 ys:=by
  rw [hnr.val,hny.val];exact CY (Cu _ hm)
 subst hst
 have hp1:sgn (!true==t) (((zS a).natAbs:Int) / (zS b).natAbs+1)=zS a / zS b:=hp.1
 have HH:=A8 (And.intro hp1 (And.intro hp.2 (And.intro ht1 (And.intro ht2 he1))))
 have Hy0:=A8 h0
 have lzs:∀ zs,Ef 10000 zs (val 10000 qs+val 10000 [1])->zs.length<=10000:=fun zs hz=>by
  rw [hnq.val,RW] at hz;have h1:=hz.length_le Ae (m:=51) (by
   have h2:=CA ((zS b).natAbs:Int) (a:=((zS a).natAbs:Int)) Ad;have h3:=ED Ba;have h4:GU+1<=(10000:Int) ^ 51:=by unfold GU;decide
   omega)
  omega
 have lzr:∀ zr,Ef 10000 zr (val 10000 ys-val 10000 rs)->zr.length<=10000:=fun zr hz=>by
  have:=hz.len_le Ae hny (by rw [hny.val,hnr.val];have:=Cy ((zS a).natAbs:Int) (b:=((zS b).natAbs:Int)) Ad;omega);omega
 clear hp hp1 hs ht hsm hsm1 hsm2 he1 ht1 ht2 hr0 hy0 lx ly Ba Bb hm h0 hqs
 go_wp2_with fail
 have hb0:=ES (Below.refl W3.heap.size W3)
 go_region_held3 (fun w'=>w'.cell? ⟨W1.heap.size,0,none⟩=some (.bool true)/\w'.cell? ⟨W1.heap.size,1,none⟩=some (.slice a1 xs.length c1)/\w'.cell? ⟨W1.heap.size+1,0,none⟩=some (.bool t)/\w'.cell? ⟨W1.heap.size+1,1,none⟩=some (.slice a2 ys.length c2)/\Below W3.heap.size W3 w')
  (first | exact LM hbz3 (by assumption) | exact LM hbz2 (by assumption) | exact LM hbz1 ⟨g1,g2,g3,g4,hb0⟩ | exact ⟨g1,g2,g3,g4,hb0⟩ | assumption | go_keep)
  (first | (go_at_call 93;refine (one_any _).mono ?_;rintro e w4 ⟨⟨r,rfl,b1,rfl,hz1⟩,hbz1⟩;have hw4:=Dn hbz1 hb0 (Aa _)) | (go_at_call 92;refine (JK _ _ qs [1] _ (hq.below hw4) hz1 hnq.dig dig_one lq1 Ae).mono ?_;rintro e w5 ⟨⟨r,rfl,zs,hz2,hz3,_⟩,hbz2⟩;obtain ⟨a5,c5,rfl⟩:=hz2.shape;have hw5:=Dn hbz2 hw4 (Aa _)) | (go_at_call 94;refine (Hs _ _ ys rs _ (hy.below (Dn hw5 hb13 (Aa _))) (hr.below hw5) hny.dig hnr.dig ly1 hrs hle).mono ?_;rintro e w6 ⟨⟨r,rfl,zr,hz6,hz7,_⟩,hbz3⟩;obtain ⟨a6,c6,rfl⟩:=hz6.shape;have hw6:=Dn hbz3 hw5 (Aa _)))
 have hh:w6.cell? ⟨W1.heap.size,0,none⟩=some (.bool true)/\w6.cell? ⟨W1.heap.size,1,none⟩=some (.slice a1 xs.length c1)/\w6.cell? ⟨W1.heap.size+1,0,none⟩=some (.bool t)/\w6.cell? ⟨W1.heap.size+1,1,none⟩=some (.slice a2 ys.length c2)/\Below W3.heap.size W3 w6:=by assumption
 obtain ⟨k1,k2,k3,k4,_⟩:=hh
 have l1:=lzs _ hz3
 have l2:=lzr _ hz7
 have hz26:=hz2.below hbz3
 rw [hnq.val,RW] at hz3
 rw [hny.val,hnr.val] at hz7
 have hbw6:=Dn hw6 hbw (Aa _)
 have hE6:=hE.below hbw6 (Aa _)
 have hp1:sgn (!t) (((zS a).natAbs:Int) / (zS b).natAbs+1)=zS a / zS b:=by have:=HH.out.1;cases t <;> exact this
 have he:MT (sgn (!t) (((zS a).natAbs:Int) / (zS b).natAbs+1))=0:=by rw [hp1];exact HH.out.2.2.2.2
 have hR:sgn false (((zS b).natAbs:Int)-((zS a).natAbs:Int) % (zS b).natAbs)=zS a % zS b:=HH.out.2.1
 have hfv:(GF true (zS a) (zS b))=.tuple #[.string ⟨(txt (sgn (!t) (((zS a).natAbs:Int) / (zS b).natAbs+1))).toArray⟩,.string ⟨(txt (sgn false (((zS b).natAbs:Int)-((zS a).natAbs:Int) % (zS b).natAbs))).toArray⟩,.int .i64 0]:=by
  rw [hp1,hR,HH.out.2.2.1,HH.out.2.2.2.1];unfold GF;rw [AU];simpa using Hy0.out
 have HF:=A8 hfv
 have He:=A8 he
 clear hp1 hR hfv he lzs lzr hle hcond hnq hnr hny hnx g1 g2 g3 g4 h1 h2 h3 h4
 generalize ((zS a).natAbs:Int) / (zS b).natAbs+1=Q at *
 generalize ((zS b).natAbs:Int)-((zS a).natAbs:Int) % (zS b).natAbs=R at *
 go_wp2_with fail
 refine (Gc (!t) _ zs Q w6 hE6 hz26 hz3 l1).mono ?_
 rintro e w7 ⟨rfl,hb7⟩
 rw [He.out]
 go_wp2_with fail
 refine (Gc false _ zr R w7 (hE6.below hb7 (Aa _)) (hz6.below hb7) hz7 l2).mono ?_
 rintro e w8 ⟨rfl,hb8⟩
 go_wp2
 refine bodyPost_ret (v:=.tuple #[.string ⟨(txt (sgn (!t) Q)).toArray⟩,.string ⟨(txt (sgn false R)).toArray⟩,.int .i64 0]) (by simp [results,Tryz.results55,go_sem]) rfl ?_
 exact ⟨⟨_,rfl,HF.out.symm⟩,Dn hb8 (Dn hb7 hbw6 (Aa _)) (Aa _)⟩
theorem div_bad (a b:ByteArray) (w:World) (h:DK a=false∨DK b=false) :
  Calls Tryz.prog 55 #[.string a,.string b] w (DA w fun r _=>r=GF false 0 0):=by
 have Pk:=fun W=>JV a b W h
 go_enter Tryz.func55,Tryz.ntmps55
 go_wp2_with fail
 refine (Pk _).mono ?_
 rintro e W1 ⟨⟨r,rfl,rfl⟩,hb1⟩
 go_wp2
 refine bodyPost_ret (v:=.tuple #[.string ⟨#[]⟩,.string ⟨#[]⟩,.int .i64 30]) (by simp [results,Tryz.results55,go_sem]) rfl ?_
 exact ⟨⟨_,rfl,rfl⟩,Dn (GS W1 _ _) hb1 (Aa _)⟩
theorem Un (a b:ByteArray) (w:World) (ha:DK a=true) (hb:DK b=true) (h0:zS b=0) :
  Calls Tryz.prog 55 #[.string a,.string b] w (DA w fun r _=>r=GF true (zS a) 0):=by
 have Pk:=fun W=>J6 a b W ha hb
 rw [h0] at Pk
 go_enter Tryz.func55,Tryz.ntmps55
 go_wp2_with fail
 refine (Pk _).mono ?_
 rintro e W1 ⟨⟨r,rfl,v,u,rfl,⟨x,xs,rfl,hx,hnx⟩,⟨y,ys,rfl,hy,hny⟩⟩,hb1⟩
 have e0:ys=[]:=(hny.zero_iff Ae).2 rfl
 subst e0
 obtain ⟨a1,c1,rfl⟩:=hx.shape
 obtain ⟨a2,c2,rfl⟩:=hy.shape
 generalize hs:decide (zS a<0)=s at *
 generalize ht:decide ((0:Int)<0)=t at *
 obtain ⟨W2,hW2,h1,h2,h3,h4,h5⟩:=HG W1 s t (.slice a1 xs.length c1) (.slice a2 ([]:List Int).length c2)
 simp only [CZ] at h4 hW2
 go_wp2_with fail
 rw [<-hW2]
 clear hW2 hs ht
 go_wp2
 refine bodyPost_ret (v:=.tuple #[.string ⟨#[]⟩,.string ⟨#[]⟩,.int .i64 30]) (by simp [results,Tryz.results55,go_sem]) rfl ?_
 exact ⟨⟨_,rfl,by simp [GF]⟩,Dn h5 hb1 (Aa _)⟩
theorem div_any (a b:ByteArray) (w:World) (hE:Fp w) :
  Calls Tryz.prog 55 #[.string a,.string b] w (DA w fun r _=>r=GF (DK a&&DK b) (zS a) (zS b)):=by
 by_cases h:DK a=true/\DK b=true
 ·rw [h.1,h.2]
  by_cases h0:zS b=0
  ·rw [h0];exact Un a b w h.1 h.2 h0
  ·by_cases hneg:zS a<0/\0<((zS a).natAbs:Int) % (zS b).natAbs
   ·exact SJ a b w hE h.1 h.2 h0 hneg
   ·exact SI a b w hE h.1 h.2 h0 hneg
 ·rw [(E3 h).1]
  exact (div_bad a b w (E3 h).2).mono fun _ _ h=>h
def LN (w:World) (v:Value):List Int:=match v with
 | .slice (some a) n _=>(List.range n).map fun j=>match w.cell? ⟨a.block,a.off+j,none⟩ with
  | some (.int _ z)=>z
  | _=>0
 | _=>[]
theorem Sl.rd {w:World} {v:Value} {xs:List Int} (h:Sl w v xs):LN w v=xs:=by
 rcases h with ⟨rfl,rfl⟩ | ⟨b,off,cap,rfl,h1,h2,h3,h4⟩
 ·rfl
 ·unfold LN
  apply List.ext_getElem
  ·simp
  ·intro i h5 h6
   simp only [List.getElem_map,List.getElem_range];rw [h4 i h6,FE h6]
theorem NT {xs:List Int} {n:Int} (h:Ef 10000 xs n) (hn:n<GU):xs.length<=50:=F5 h hn
theorem gcd_ok (a b:ByteArray) (w:World) (hE:Fp w) (ha:DK a=true) (hb:DK b=true) :
  Calls Tryz.prog 54 #[.string a,.string b] w (DA w fun r _=>r=EY true (EM (zS a) (zS b))):=by
 have Ba:=Eq ha
 have Bb:=Eq hb
 have Pk:=fun W=>J6 a b W ha hb
 have G0:=A8 (OZ (zS a) (zS b))
 go_enter Tryz.func54,Tryz.ntmps54
 go_wp2_with fail
 refine (Pk _).mono ?_
 rintro e W1 ⟨⟨r,rfl,v,u,rfl,⟨x,xs,rfl,hx,hnx⟩,⟨y,ys,rfl,hy,hny⟩⟩,hb1⟩
 have Bx:=ED Ba
 have By:=ED Bb
 obtain ⟨a1,c1,rfl⟩:=hx.shape
 obtain ⟨a2,c2,rfl⟩:=hy.shape
 generalize hs:decide (zS a<0)=s at *
 generalize ht:decide (zS b<0)=t at *
 obtain ⟨W2,hW2,h1,h2,h3,h4,h5⟩:=HG W1 s t (.slice a1 xs.length c1) (.slice a2 ys.length c2)
 go_wp2_with fail
 rw [<-hW2]
 clear hW2 hs ht
 go_quiet (fail)
 go_wp2_with fail
 have hW:Below w.heap.size w (W2.drewN nq):=Dn (Dq _ _) (Dn h5 hb1 (Aa _)) (Aa _)
 have hx2:=(hx.below h5).drewN nq
 have hy2:=(hy.below h5).drewN nq
 clear h1 h2 h3 h4 h5 hx hy
 go_loopw [9,10] (fun k l wr=>∃ a3 c3 a4 c4 ks ls m n,k=.slice a3 ks.length c3/\l=.slice a4 ls.length c4/\Sl wr (.slice a3 ks.length c3) ks/\Sl wr (.slice a4 ls.length c4) ls/\Ef 10000 ks m/\Ef 10000 ls n/\m<GU/\n<GU /\
   Hid (EM m n=EM (zS a) (zS b))/\Below w.heap.size w wr)
  (fun _ l wr=>(val 10000 (LN wr l)).toNat)
 case atStart=>exact ⟨_,_,_,_,_,_,_,_,rfl,rfl,hx2,hy2,hnx,hny,Bx,By,G0.out,hW⟩
 case round =>
  clear hx2 hy2 hnx hny Bx By hW G0 Ba Bb;obtain ⟨a3,c3,a4,c4,ks,ls,m,n,rfl,rfl,hk,hl,hnk,hnl,Bm,Bn,hG,hW⟩:=hrel;by_cases h0:0<ls.length
  ·have hn0:0<n:=by
    have:=hnl.nonneg Ae;have h1:¬ n=0:=fun e=>by have:=(hnl.zero_iff Ae).2 e;rw [this] at h0;simp at h0
    omega
   have hm0:=hnk.nonneg Ae
   have lk:=NT hnk Bm
   have ll:=NT hnl Bn
   have hrd:=A8 hl.rd
   go_wp2_with fail
   refine (LH _ _ ks ls n _ hk hl hnk.dig hnl hn0 Ad Ad).mono ?_
   rintro e w2 ⟨⟨r,rfl,r1,r2,qs,rs,rfl,hq,hnq,hr,hnr⟩,hb2⟩
   rw [hnk.val] at hnq hnr
   obtain ⟨a5,c5,rfl⟩:=hq.shape
   obtain ⟨a6,c6,rfl⟩:=hr.shape
   have hlt:=Cu m hn0
   have hmod:=Cy m (by omega:n≠0)
   have hl2:=hl.below hb2
   have hrd2:=A8 hr.rd
   have hW2:=Dn hb2 hW (Aa _)
   go_wp2
   go_roundw
   case rel=>exact ⟨_,_,_,_,ls,rs,n,m % n,rfl,rfl,hl2,hr,hnl,hnr,Bn,Ad,(MW hm0 hn0).trans hG.out,hW2⟩
   case measure =>
    show (val 10000 (LN _ _)).toNat<(val 10000 (LN _ _)).toNat;rw [hrd.out,hrd2.out,hnl.val,hnr.val];omega
  ·have e0:ls=[]:=Bo Ad
   have en:=(hnl.zero_iff Ae).1 e0;subst e0 en;have hm0:=hnk.nonneg Ae;have hf:sgn false m=EM (zS a) (zS b):=by rw [<-hG.out,MY hm0];rfl
   have HF:=A8 hf;have lk:=NT hnk Bm;have hE2:=hE.below hW (Aa _);clear hf hG;go_wp2_with fail;refine (Gc false _ ks m _ hE2 hk hnk Ad).mono ?_;rintro e w2 ⟨rfl,hb2⟩;rw [HF.out];go_wp2;go_ret2;exact ⟨⟨_,rfl,rfl⟩,Dn hb2 hW (Aa _)⟩
theorem gcd_bad (a b:ByteArray) (w:World) (h:DK a=false∨DK b=false) :
  Calls Tryz.prog 54 #[.string a,.string b] w (DA w fun r _=>r=EY false 0):=by
 have Pk:=fun W=>JV a b W h
 go_enter Tryz.func54,Tryz.ntmps54
 go_wp2_with fail
 refine (Pk _).mono ?_
 rintro e W1 ⟨⟨r,rfl,rfl⟩,hb1⟩
 go_wp2
 go_ret2
 exact ⟨⟨_,rfl,rfl⟩,Dn (GS W1 _ _) hb1 (Aa _)⟩
theorem QE (x y:Int):EY false x=EY false y:=rfl
theorem gcd_any (a b:ByteArray) (w:World) (hE:Fp w) :
  Calls Tryz.prog 54 #[.string a,.string b] w (DA w fun r _=>r=EY (DK a&&DK b) (EM (zS a) (zS b))):=by
 by_cases h:DK a=true/\DK b=true
 ·rw [h.1,h.2];exact gcd_ok a b w hE h.1 h.2
 ·rw [(E3 h).1,QE (EM (zS a) (zS b)) 0];exact gcd_bad a b w (E3 h).2
theorem Ih (w:World) (t:TypeId) (ht:Tryz.prog.underlying t=some (.slice 3)) (kl kc:IntKind) (n:Nat) (hn:n<=1000000) :
  ∃ w',(Instr.makeSlice t (.int kl n) (.int kc n)).run Tryz.prog w=.ok (.slice (some ⟨w.heap.size,0,none⟩) n n) w'/\w'.ownsRow w.heap.size 3 1 (.slice (some ⟨w.heap.size,0,none⟩) n n) n ((List.replicate n (0:Int)).map (Value.int .i64))/\Below w.heap.size w w':=by
 obtain ⟨i0,hi,hz0,hz1,hz2⟩:=info_parts FJ
 obtain ⟨w',hrun,r1,r2⟩:=run_make_full (P:=Tryz.prog) w w.heap.size t 3 i0 (.int .i64 0) 1 ht hi hz0 hz1 kl kc n (by rw [hz2];omega) (by unfold maxLen;omega) (Aa _)
 exact ⟨w',hrun,by rw [<-Ji];exact r1,(Below.refl _ w).grown r2 (Aa _) (fun k e=>by cases e)⟩
def I (z:Int):ByteArray:=⟨(Lib.itoa z).toArray⟩
theorem Eh {z:Int} (h:Do z):DK (I z)=true:=Qn h.1 h.2
theorem Ee (z:Int):zS (I z)=z:=(Kl z).1
def Bd (k:Nat) (z:Int):Prop:=-(10 ^ k)<z/\z<10 ^ k
theorem Bd.small {k:Nat} {z:Int} (h:Bd k z) (hk:k<=200):Do z:=by
 have:=Fk (b:=10) Ae hk;unfold Do GU;unfold Bd at h;omega
theorem Bd.mono {j k:Nat} {z:Int} (h:Bd j z) (hk:j<=k):Bd k z:=by
 have:=Fk (b:=10) Ae hk;unfold Bd at *;omega
theorem Bd.add {k:Nat} {x y:Int} (h:Bd k x) (g:Bd k y):Bd (k+1) (x+y):=by
 have:(10:Int) ^ (k+1)=10 ^ k*10:=Cx ..;unfold Bd at *;omega
theorem Bd.sub {k:Nat} {x y:Int} (h:Bd k x) (g:Bd k y):Bd (k+1) (x-y):=by
 have:(10:Int) ^ (k+1)=10 ^ k*10:=Cx ..;unfold Bd at *;omega
theorem Bd.abs {k:Nat} {x:Int}:Bd k x↔(x.natAbs:Int)<10 ^ k:=by unfold Bd;omega
theorem Bd.nat {k:Nat} {x:Int}:Bd k x↔x.natAbs<10 ^ k:=by
 rw [Bd.abs,show ((10:Int) ^ k)=((10 ^ k:Nat):Int) by simp];omega
theorem Bd.mul {j k:Nat} {x y:Int} (h:Bd j x) (g:Bd k y):Bd (j+k) (x*y):=by
 rw [Bd.nat] at *
 rw [Int.natAbs_mul,Nat.pow_add];exact Nat.mul_lt_mul'' h g
theorem Bd.neg {k:Nat} {x:Int} (h:Bd k x):Bd k (-x):=by unfold Bd at *;omega
theorem Bd.gcd {k:Nat} {x y:Int} (h:Bd k x) (g:Bd k y):Bd k (EM x y):=by
 rw [Bd.nat] at *
 unfold EM;rw [Int.natAbs_natCast];by_cases h0:x=0
 ·subst h0;rw [Int.zero_gcd];exact g
 ·exact Nat.lt_of_le_of_lt (Int.gcd_le_natAbs_left y h0) h
theorem Bd.lit {z:Int} (k:Nat) (h:-(10 ^ k)<z/\z<10 ^ k):Bd k z:=h
theorem MZ {z:Int} (h:Do z):txt z=Lib.itoa z:=AU h
theorem SK {z:Int} (h:Do z):MT z=0:=AU h
theorem txt_big {z:Int} (h:¬ Do z):txt z=[]:=AP h
theorem erz_big {z:Int} (h:¬ Do z):MT z=30:=AP h
theorem F6 {z:Int} (h:Do z):EY true z=.tuple #[.string (I z),.int .i64 0]:=by unfold EY;rw [AU rfl,MZ h,SK h];rfl
theorem LO {z:Int} (h:¬ Do z):EY true z=.tuple #[.string ⟨#[]⟩,.int .i64 30]:=by unfold EY;rw [AU rfl,txt_big h,erz_big h]
def DR (w:World) (v:Value):Ending->World->Prop:=fun e w'=>e=.returned v/\Below w.heap.size w w'
theorem DR.of {f:FuncId} {args:Array Value} {w:World} {u v:Value} (h:Calls Tryz.prog f args w (DA w fun r _=>r=u)) (e:u=v):Calls Tryz.prog f args w (DR w v) :=
 h.mono fun _ _ ⟨⟨r,h1,h2⟩,hb⟩=>⟨by rw [h1,h2,e],hb⟩
section
variable {x y:Int} {a b:ByteArray} (ha:a=I x) (hb:b=I y) (hx:Do x) (hy:Do y) (w:World) (hE:Fp w)
include ha hb hx hy hE
end
end
section
open Go.RowKit
def NU (x:Int):UInt8:=UInt8.ofNat (48+x.toNat)
theorem JW {x:Int} (h0:0<=x) (h1:x<10):((NU x).toNat:Int)=48+x:=by
 unfold NU;rw [Fm Ad];omega
def EE (xs:List Int):List UInt8:=xs.reverse.map NU
theorem JX (x:Int) (xs:List Int):EE (x :: xs)=EE xs++[NU x]:=by simp [EE]
theorem KX (xs:List Int):(EE xs).length=xs.length:=by simp [EE]
theorem P5 {xs:List Int} (h:Ew 10 xs):∀ b∈EE xs,Hi b=true:=by
 intro b hb;obtain ⟨x,hx,rfl⟩:=AV.1 hb;have h1:=h x (List.mem_reverse.1 hx);have:=JW h1.1 h1.2;rw [Ev];omega
theorem P6 {xs:List Int} (h:Ew 10 xs):(E9 (EE xs):Int)=val 10 xs:=by
 induction xs with
 | nil=>rfl
 | cons x xs ih =>
  have h1:=h.cons;have h2:=JW h1.1.1 h1.1.2;rw [JX,J3,val];have:=ih h1.2;omega
theorem P7 {xs:List Int} {n:Int} (h:Ef 10 xs n) (h0:xs≠[]):EE xs=Lib.decDigits n.toNat/\0<n:=by
 have hn0:¬ n=0:=fun e=>h0 ((h.zero_iff Ae).2 e)
 have hn:=h.nonneg Ae;have e:E9 (EE xs)=n.toNat:=by have:=P6 h.dig;rw [h.val] at this;omega
 refine ⟨?_,Ad⟩;rw [<-e];refine (Fn _ (P5 h.dig) (fun e=>h0 (by have:=BK List.length e;rw [KX] at this;exact Bo (by simpa using this))) ?_).symm;intro b hb;obtain ⟨k,hk⟩:∃ k,xs.length=k+1:=by
  cases xs with
  | nil=>exact absurd rfl h0
  | cons x r=>exact ⟨r.length,rfl⟩
 have ht:=h.top k hk;have hg:=h.dig.gi Ae k;have hb':b=NU (gi xs k):=by
  rw [List.head?_eq_getElem?] at hb;unfold EE at hb;rw [AQ,List.getElem?_reverse Ad,hk,Nat.add_sub_cancel,Nat.sub_zero] at hb;rw [FE Ad];rw [Ax Ad] at hb;simpa using hb.symm
 subst hb';have:=JW hg.1 hg.2;omega
theorem P8 {xs:List Int} {n:Int} (h:Ef 10 xs n) (h0:xs≠[]) (neg:Bool):Lib.itoa (sgn neg n)=(if neg then [45] else [])++EE xs:=by
 obtain ⟨e,hp⟩:=P7 h h0;rw [e];cases neg
 ·rw [show sgn false n=n from rfl,DP Ad];rfl
 ·rw [show sgn true n=-n from rfl,Gb Ad]
  rw [show (-n).natAbs=n.toNat by omega];rfl
theorem Kw (neg:Bool):Lib.itoa (sgn neg 0)=[48]:=by
 have:sgn neg 0=0:=by cases neg <;> rfl
 rw [this,DP Ae];exact DT Ae
theorem P9 {xs:List Int} {k:Nat} (h:k<xs.length):EE (xs.drop k)=EE (xs.drop (k+1))++[NU (gi xs k)]:=by
 rw [Lg h,JX]
theorem LP (l:List UInt8) (b:UInt8):Lib.byteCells (l++[b])=Lib.byteCells l++[.int .u8 b.toNat]:=by simp [Lib.byteCells]
theorem MB (l:List UInt8):(Lib.byteCells l).length=l.length:=by simp [Lib.byteCells]
end
section
open Go.RowKit
attribute [local go_sem] Oper.semAt_some
theorem J8 (v:Value) (xs:List Int) (w:World) (h:Sl w v xs) :
  Calls Tryz.prog 118 #[v] w fun e w'=>(∃ v',e=.returned v'/\Sl w v' (trim xs)/\v'.ptr? = v.ptr?)/\w=w':=by
 have hl:=h.len_le
 unfold maxLen at hl
 rcases h with ⟨rfl,rfl⟩ | ⟨b,off,cap,rfl,h1,h2,h3,h4⟩
 ·go_enter Tryz.func118,Tryz.ntmps118
  go_wp2;go_loop [0] (fun s=>s=.slice none 0 0) (fun _=>0);case atStart=>rfl
  case round =>
   obtain rfl:=hrel;go_wp2;go_ret;exact ⟨⟨_,rfl,.inl ⟨rfl,rfl⟩,rfl⟩,rfl⟩
 ·go_enter Tryz.func118,Tryz.ntmps118
  go_wp2;go_loop [0] (fun s=>∃ k:Nat,s=.slice (some ⟨b,off,none⟩) k cap/\k<=xs.length/\Hid (Gv xs xs.length=Gv xs k)) (fun s=>Lp s);case atStart=>exact ⟨_,rfl,Aa _,rfl⟩
  case round =>
   obtain ⟨k,rfl,hk,hT⟩:=hrel;cases k with
   | zero =>
    go_wp2;go_ret;exact ⟨⟨_,rfl,by unfold trim;rw [hT.out];exact Sl.take 0 (AO _) h1 h2 h3 h4,rfl⟩,rfl⟩
   | succ k =>
    have hc:=h4 k Ad;by_cases hz:gi xs k=0
    ·have hz':(gi xs k==0)=true:=by simp [hz]
     go_wp2;go_round;case rel=>exact ⟨k,by rfl,Ad,hT.out.trans (Ic hz)⟩
     case measure=>simp [Lp]
    ·have hz':(gi xs k==0)=false:=by simp [hz]
     go_wp2;go_ret;refine ⟨⟨_,rfl,?_,rfl⟩,rfl⟩;have e:trim xs=xs.take (k+1):=by unfold trim;rw [hT.out,J0 hz]
     rw [e];exact Sl.take (k+1) hk h1 h2 h3 h4
theorem ret_sb {s t:ByteArray} {p q:Bool} (h:s=t) (k:p=q):Ending.returned (.tuple #[.string s,.bool p])=.returned (.tuple #[.string t,.bool q]):=by rw [h,k]
theorem info_u8:(Tryz.prog.info? 5).map (fun i=>(i.zero,i.size,i.bytes))=some (some (.int .u8 0),1,1):=by kernel_rfl
theorem SM {ops:Array Oper} {rest:List Oper} {o:Oper} {a:Act} {Q:Exit->Act->World->Prop} {wr:World} {base:Nat} {v:Value} {n:Nat} {l:List UInt8} (y:Int) (b:UInt8) (hy:y=b.toNat) (t:TypeId)
  (ht:Tryz.prog.underlying t=some (.slice 5)) (hgd:o.guard=none) (s x:Operand) (ho:o.op=.call { callee:=.builtin .append,args:=#[s,x],argTypes:=#[t,t] })
  (hs:a.eval s=v) (hx:a.eval x=.slice (some ⟨wr.heap.size,0,none⟩) 1 1) (hown:wr.ownsRow base 5 1 v n (Lib.byteCells l)) (hn:n+1<=1000000000000) (hbase:base<=wr.heap.size)
  (h:∀ g cap w',w'.ownsRow base 5 1 (.slice (some ⟨g,0,none⟩) (n+1) cap) (n+1) (Lib.byteCells (l++[b]))->(wr.alloc (.cells #[.int .u8 y] 5)).grownBy w' v.ownBlock->Below base wr w'->wpList Tryz.prog ops Q rest (a.put o.dst (.slice (some ⟨g,0,none⟩) (n+1) cap)) w') :
  wpList Tryz.prog ops Q (o :: rest) a (wr.alloc (.cells #[.int .u8 y] 5)):=by
 obtain ⟨i0,hi,hz0,hz1,hz2⟩:=info_parts info_u8
 refine wpList_append_own _ hgd s x t ho base 5 i0 (.int .u8 0) 1 1 ht hi hz0 hz1 hz2 rfl Ae v n _ hs (hown.alloc _) ⟨wr.heap.size,0,none⟩ 1 1 [.int .u8 y] hx rfl (by intro t u ht;match t,ht with | 0,ht=>simp at ht;subst ht;simp [Addr.add]) (by intro u hu;simp at hu;subst hu;rfl) (by unfold maxLen;omega) Ad (by simp;omega) ?_
 intro v' w' hown' hgrow hnil
 rcases hown'.2 with ⟨_,h0⟩ | ⟨g,cap,cur,rfl,hg⟩
 ·omega
 ·refine h g cap w' (by rw [LP,<-hy];exact hown') hgrow ?_
  refine ((Below.refl base wr).alloc hbase _).grown hgrow (by simp;omega) (fun k hk=>?_);exact (hown.lt k hk).1
theorem Pc {w:World} {base:Nat} {g cap n:Nat} {l:List UInt8} (hown:w.ownsRow base 5 1 (.slice (some ⟨g,0,none⟩) n cap) n (Lib.byteCells l)) (t:TypeId) (ht:Tryz.prog.underlying t=some (.slice 5)) :
  (convert t 9 (.slice (some ⟨g,0,none⟩) n cap)).run Tryz.prog w=.ok (.string ⟨l.toArray⟩) w:=by
 have hl:n=l.length:=by have:=hown.1;rw [MB] at this;omega
 subst hl
 refine run_convert_bytes_back w t 9 5 _ cap l ht Ab Ab ?_
 intro j hj
 exact hown.cells (g:=g) rfl j _ (by simp [Lib.byteCells,hj])
theorem SN (w:World):(((w.alloc (.cells #[.int .u8 45] 5)).alloc (.cells (#[.int .u8 45]++Builtin.zeroCells #[.int .u8 0] ((Question.appendCap 1 0 5).cut (w.tape w.drawn (Question.appendCap 1 0 5))-1)) 5)).drew).ownsRow w.heap.size 5 1
  (.slice (some ⟨w.heap.size+1,0,none⟩) 1 ((Question.appendCap 1 0 5).cut (w.tape w.drawn (Question.appendCap 1 0 5)))) 1 (Lib.byteCells [45]):=by
 have h1:=grownCap_ge w 1 0 5
 have h2:=grownCap_le_maxLen w 1 0 5 (by unfold maxLen;omega)
 unfold grownCap at h1 h2
 generalize (Question.appendCap 1 0 5).cut (w.tape w.drawn (Question.appendCap 1 0 5))=C at *
 refine ⟨rfl,.inr ⟨w.heap.size+1,C,#[.int .u8 45]++Builtin.zeroCells #[.int .u8 0] (C-1),rfl,Ad,?_,h1,h2,?_,?_⟩⟩
 ·have:=World.alloc_heap_new (w.alloc (.cells #[.int .u8 45] 5)) (.cells (#[.int .u8 45]++Builtin.zeroCells #[.int .u8 0] (C-1)) 5)
  rw [Bh] at this;exact this
 ·rw [Array.size_append,size_zeroCells];simp;omega
 ·simp [Lib.byteCells]
theorem Pd (w:World) {A B:Obj}:Below w.heap.size w (((w.alloc A).alloc B).drew):=by
 have h:=((Below.refl _ w).alloc (Aa _) A).alloc Af B;exact ⟨h.os,h.tape,h.output,h.size,h.block⟩
theorem QF (neg:Bool) (v:Value) (w:World) (hv:Sl w v []) :
  Calls Tryz.prog 80 #[.bool neg,v] w fun e w'=>e=.returned (.tuple #[.string ⟨#[48]⟩,.bool true])/\Below w.heap.size w w':=by
 obtain ⟨a1,c1,rfl⟩:=hv.shape
 go_enter Tryz.func80,Tryz.ntmps80
 go_wp2
 go_ret2
 exact ⟨rfl,Below.refl _ _⟩
theorem SO (neg:Bool) (v:Value) (xs:List Int) (n:Int) (w:World) (hv:Sl w v xs) (hn:Ef 10 xs n) (hl:xs.length<=1000000) (h0:xs.length≠0) :
  Calls Tryz.prog 80 #[.bool neg,v] w fun e w'=>e=.returned (.tuple #[.string ⟨(Lib.itoa (sgn neg n)).toArray⟩,.bool (decide (xs.length<=200))])/\Below w.heap.size w w':=by
 have Hd:=A8 (P8 hn (fun e=>h0 (by rw [e];rfl)) neg)
 have hne:((xs.length:Int)==0)=false:=by rw [Am];omega
 have Hdig:=A8 hn.dig
 rcases hv with ⟨rfl,rfl⟩ | ⟨bb,off,cap,rfl,h1,h2,h3,h4⟩
 ·exact absurd rfl h0
 unfold maxLen at h2
 have H4:=A8 h4
 have Hn0:=A8 h0
 clear h4 h0 hn
 go_enter Tryz.func80,Tryz.ntmps80
 have hb45:((45:UInt8).toNat:Int)=45:=rfl
 cases neg
 go_wp2
 have hown0:w.ownsRow w.heap.size 5 1 (.slice none 0 0) ([]:List UInt8).length (Lib.byteCells []):=World.ownsRow_nil _ _ _ _
 have hbw:Below w.heap.size w w:=Below.refl _ _
 obtain ⟨l0,hl0,hl1⟩:∃ l0:List UInt8,Hid (l0=[])/\l0.length<=1:=⟨[],rfl,Af⟩
 rw [<-hl0.out] at hown0
 rotate_left
 go_wp2
 have hown2:=SN w
 have hbw:=Pd w (A:=.cells #[.int .u8 45] 5) (B:=.cells (#[.int .u8 45]++Builtin.zeroCells #[.int .u8 0] ((Question.appendCap 1 0 5).cut (w.tape w.drawn (Question.appendCap 1 0 5))-1)) 5)
 generalize (Question.appendCap 1 0 5).cut (w.tape w.drawn (Question.appendCap 1 0 5))=cp at *
 generalize ((w.alloc (.cells #[.int .u8 45] 5)).alloc (.cells (#[.int .u8 45]++Builtin.zeroCells #[.int .u8 0] (cp-1)) 5)).drew=w2 at *
 obtain ⟨l0,hl0,hl1⟩:∃ l0:List UInt8,Hid (l0=[45])/\l0.length<=1:=⟨[45],rfl,Af⟩
 have hown0:w2.ownsRow w.heap.size 5 1 (.slice (some ⟨w.heap.size+1,0,none⟩) 1 cp) l0.length (Lib.byteCells l0):=by rw [hl0.out];exact hown2
 clear hown2
 rotate_left
 all_goals
  go_loopw [6,7] (fun o i wr=>∃ (r:Nat) (q:Int) (l:List UInt8),r<=xs.length/\i=.int .i64 q/\Hid (q=(r:Int)-1)/\wr.ownsRow w.heap.size 5 1 o l.length (Lib.byteCells l)/\l.length+r<=xs.length+1/\Hid (l=l0++EE (xs.drop r))/\Below w.heap.size w wr)
   (fun _ i _=>(intOf i+1).toNat)
  case atStart=>exact ⟨xs.length,_,l0,Aa _,rfl,rfl,hown0,Ad,(show l0=l0++EE (xs.drop xs.length) by rw [List.drop_length,show EE []=[] from rfl,List.append_nil]),hbw⟩
  case round =>
   clear hown0 hbw;obtain ⟨r,q,l,hr,rfl,hq,hown,hlen,hL,hB⟩:=hrel;cases r with
   | zero =>
    obtain rfl:q=-1:=by have:=hq.out;omega
    rcases hown.2 with ⟨rfl,h00⟩ | ⟨g,cp,cur,rfl,hg⟩
    ·have:=BK List.length hL.out
     rw [Ci,KX,Db] at this;exact absurd (by omega:xs.length=0) Hn0.out
    ·have hcv:=Pc hown 132 Tryz.underlying132
     have hfin:=Hd.out.trans (show _=l by rw [hL.out,hl0.out];rfl);have HF:=A8 hfin;clear hfin;go_wp2;go_ret2;exact ⟨ret_sb (by rw [HF.out]) (decide_eq_decide.2 Ad),hB⟩
   | succ r =>
    obtain rfl:q=(r:Int):=by have:=hq.out;omega
    have hd:=Hdig.out.gi Ae r;have hd0:=hd.1;have hd1:=hd.2;have hc:=(hB.cell (p:=⟨bb,off+r,none⟩) h3).trans (H4.out r Ad);have h8:=JW hd0 hd1;have H8:=A8 h8.symm;have hrl:(r:Int)<(xs.length:Int):=by omega
    clear h8 hd;go_wp2_with (at_builtin;refine SM (48+gi xs r) (NU (gi xs r)) H8.out 132 Tryz.underlying132 rfl _ _ rfl rfl rfl hown Ad hB.size ?_;intro g cp w2 hown2 hg2 hb2);go_roundw;case rel=>exact ⟨r,_,l++[NU (gi xs r)],Ad,rfl,rfl,(by rw [Ci];exact hown2),(by rw [Ci];simp;omega),(show l++[NU (gi xs r)]=l0++EE (xs.drop r) by rw [hL.out,P9 (k:=r) Ad,Cb]),hB.trans hb2⟩
    case measure=>simp [intOf]
theorem GT (neg:Bool) (v:Value) (xs:List Int) (n:Int) (w:World) (hv:Sl w v xs) (hn:Ef 10 xs n) (hl:xs.length<=1000000) :
  Calls Tryz.prog 80 #[.bool neg,v] w fun e w'=>e=.returned (.tuple #[.string ⟨(Lib.itoa (sgn neg n)).toArray⟩,.bool (decide (xs.length<=200))])/\Below w.heap.size w w':=by
 by_cases h0:xs.length=0
 ·obtain rfl:=Bo h0
  have:=(hn.zero_iff Ae).1 rfl;subst this;rw [Kw];exact QF neg v w hv
 ·exact SO neg v xs n w hv hn hl h0
theorem Sl.cellAt {w:World} {v:Value} {xs:List Int} (h:Sl w v xs) (h0:xs.length≠0):∃ b off cap,v=.slice (some ⟨b,off,none⟩) xs.length cap/\xs.length<=cap/\cap<=maxLen/\b<w.heap.size/\∀ j,j<xs.length->w.cell? ⟨b,off+j,none⟩=some (.int .i64 (gi xs j)):=by
 rcases h with ⟨_,rfl⟩ | h
 ·exact absurd rfl h0
 ·exact h
theorem QG (v u:Value) (xs ys:List Int) (w:World) (hv:Sl w v xs) (hu:Sl w u ys) (hne:¬ xs.length=ys.length) :
  Calls Tryz.prog 101 #[v,u] w fun e w'=>e=.returned (.int .i64 (JR xs ys))/\Below w.heap.size w w':=by
 have hc:JR xs ys=Lib.compareInt xs.length ys.length:=AP hne
 obtain ⟨a1,c1,rfl⟩:=hv.shape
 obtain ⟨a2,c2,rfl⟩:=hu.shape
 have hb:((xs.length:Int) != ys.length)=true:=by simp;omega
 rw [hc]
 by_cases hlt:xs.length<ys.length
 ·rw [Dz (show (xs.length:Int)<ys.length by omega)]
  clear hc hv hu hne;go_enter Tryz.func101,Tryz.ntmps101;go_wp2;go_ret;exact ⟨rfl,Below.refl _ _⟩
 ·rw [DM (show (ys.length:Int)<xs.length by omega)]
  clear hc hv hu hne;go_enter Tryz.func101,Tryz.ntmps101;go_wp2;go_ret;exact ⟨rfl,Below.refl _ _⟩
theorem Uo (v u:Value) (xs ys:List Int) (w:World) (hv:Sl w v xs) (hu:Sl w u ys) (hl:xs.length=ys.length) (h0:xs.length≠0) :
  Calls Tryz.prog 101 #[v,u] w fun e w'=>e=.returned (.int .i64 (JR xs ys))/\Below w.heap.size w w':=by
 have hc:JR xs ys=Fo xs ys xs.length:=AU hl
 obtain ⟨b1,o1,c1,rfl,h1,h2,h3,h4⟩:=hv.cellAt h0
 obtain ⟨b2,o2,c2,rfl,g1,g2,g3,g4⟩:=hu.cellAt Ad
 rw [hc]
 unfold maxLen at h2 g2
 have Hl:=A8 hl
 have H4:=A8 h4
 have G4:=A8 g4
 have hle:xs.length<=ys.length:=by omega
 have hge:ys.length<=xs.length:=by omega
 have hb:((xs.length:Int) != ys.length)=false:=by simp;omega
 clear hv hu hc hl h4 g4 h0
 go_enter Tryz.func101,Tryz.ntmps101
 go_wp2
 go_loopw [5] (fun i wr=>∃ (r:Nat) (q:Int),r<=xs.length/\i=.int .i64 q/\Hid (q=(r:Int)-1)/\Hid (Fo xs ys xs.length=Fo xs ys r)/\Below w.heap.size w wr) (fun i _=>(intOf i+1).toNat)
 case atStart=>exact ⟨xs.length,_,Aa _,rfl,rfl,rfl,Below.refl _ _⟩
 case round =>
  obtain ⟨r,q,hr,rfl,hq,hC,hB⟩:=hrel;cases r with
  | zero =>
   obtain rfl:q=-1:=by have:=hq.out;omega
   go_wp2;go_ret;exact ⟨ER (by rw [hC.out];rfl),hB⟩
  | succ r =>
   obtain rfl:q=(r:Int):=by have:=hq.out;omega
   have c1:=(hB.cell (p:=⟨b1,o1+r,none⟩) h3).trans (H4.out r Ad);have c2:=(hB.cell (p:=⟨b2,o2+r,none⟩) g3).trans (G4.out r Ad);have i1:(r:Int)<(xs.length:Int):=by omega
   have i2:(r:Int)<(ys.length:Int):=by omega
   have i3:(0:Int)<=(r:Int):=by omega
   have hS:Fo xs ys (r+1)=if gi xs r=gi ys r then Fo xs ys r else Lib.compareInt (gi xs r) (gi ys r):=rfl
   have hr1:r<=xs.length:=by omega
   generalize hx:gi xs r=x at *
   generalize hy:gi ys r=y at *
   by_cases he:x=y
   ·have hS':=A8 (hC.out.trans (hS.trans (AU he)))
    have hne:(x != y)=false:=by simp [he]
    clear hx hy hS hC hr hq he;go_wp2_with fail;go_quiet (fail);go_wp2;go_roundw;case rel=>exact ⟨r,_,hr1,rfl,rfl,hS',hB.trans ((Dq wr nq).mono hB.size)⟩
    case measure=>simp [intOf]
   ·have hS':=hC.out.trans (hS.trans (AP he))
    have hne:(x != y)=true:=by simp [he]
    by_cases hlt:x<y
    ·rw [Dz hlt] at hS'
     have HS:=A8 hS';clear hx hy hS hC hr hq he hS';go_wp2_with fail;go_quiet (fail);go_wp2_with fail;go_quiet (fail);go_wp2;go_ret;exact ⟨ER (by rw [HS.out]),(hB.trans ((Dq wr _).mono hB.size)).trans ((Dq _ _).mono (by simp;exact hB.size))⟩
    ·rw [DM Ad] at hS'
     have HS:=A8 hS';have hlt2:y<=x:=by omega
     clear hx hy hS hC hr hq he hS' hlt;go_wp2_with fail;go_quiet (fail);go_wp2_with fail;go_quiet (fail);go_wp2;go_ret;exact ⟨ER (by rw [HS.out]),(hB.trans ((Dq wr _).mono hB.size)).trans ((Dq _ _).mono (by simp;exact hB.size))⟩
theorem SP (v u:Value) (w:World) (hv:Sl w v []) (hu:Sl w u []) :
  Calls Tryz.prog 101 #[v,u] w fun e w'=>e=.returned (.int .i64 0)/\Below w.heap.size w w':=by
 obtain ⟨a1,c1,rfl⟩:=hv.shape
 obtain ⟨a2,c2,rfl⟩:=hu.shape
 clear hv hu
 simp only [CZ]
 go_enter Tryz.func101,Tryz.ntmps101
 go_wp2
 go_loop [5] (fun i=>i=.int .i64 (-1)) (fun _=>0)
 case atStart=>rfl
 case round =>
  obtain rfl:=hrel;go_wp2;go_ret;exact ⟨rfl,Below.refl _ _⟩
theorem HJ (v u:Value) (xs ys:List Int) (w:World) (hv:Sl w v xs) (hu:Sl w u ys) :
  Calls Tryz.prog 101 #[v,u] w fun e w'=>e=.returned (.int .i64 (JR xs ys))/\Below w.heap.size w w':=by
 by_cases hl:xs.length=ys.length
 ·by_cases h0:xs.length=0
  ·obtain rfl:=Bo h0
   obtain rfl:=Bo (hl.symm.trans h0);exact SP v u w hv hu
  ·exact Uo v u xs ys w hv hu hl h0
 ·exact QG v u xs ys w hv hu hl
theorem Sl.place {w:World} {v:Value} {xs:List Int} (h:Sl w v xs):∃ (a:Option Addr) (b off cap:Nat),v=.slice a xs.length cap/\(0<xs.length->a=some ⟨b,off,none⟩/\b<w.heap.size)/\xs.length<=9223372036854775807/\∀ j,j<xs.length->w.cell? ⟨b,off+j,none⟩=some (.int .i64 (gi xs j)):=by
 have hl:=h.len_le;unfold maxLen at hl;rcases h with ⟨rfl,rfl⟩ | ⟨b,off,cap,rfl,h1,h2,h3,h4⟩
 ·exact ⟨none,0,0,0,rfl,fun h=>by simp at h,Af,fun j hj=>by simp at hj⟩
 ·exact ⟨_,b,off,cap,rfl,fun _=>⟨rfl,h3⟩,Ad,h4⟩
theorem Jy (s c p v d q c':Int) (hv:v+c*p=s) (he:d+c=q+10*c'):(v+q*p)+c'*(p*10)=s+d*p:=by
 have e:c'*(p*10)=(10*c')*p:=by rw [AM p,<-AL,AM c']
 have e2:d+c-q=10*c':=by omega
 have e3:(d+c-q)*p=d*p+c*p-q*p:=by rw [Int.sub_mul,CT]
 rw [e,<-e2,e3];omega
def Pe (xs ys:List Int) (k:Nat):Int:=Fc 10 (fun j=>gi xs j+gi ys j) k
theorem J9 {xs ys zs:List Int} {k:Nat} {c x y n:Int} (hdig:Ew 10 zs) (hlen:zs.length=k) (hc0:0<=c) (hc1:c<=1) (hS:Hid (val 10 zs+c*10 ^ k=Pe xs ys k)) (hx:0<=x/\x<10/\x=gi xs k) (hy:0<=y/\y<10/\y=gi ys k) (hn:n=c+x+y) :
  Ew 10 (zs++[n % 10])/\0<=n / 10/\n / 10<=1/\Hid (val 10 (zs++[n % 10])+n / 10*10 ^ (k+1)=Pe xs ys (k+1)):=by
 refine ⟨hdig.snoc Ad Ad,Ad,Ad,?_⟩
 show _=_
 rw [EA,hlen,Cx]
 exact Jy (Pe xs ys k) c (10 ^ k) (val 10 zs) (gi xs k+gi ys k) (n % 10) (n / 10) hS.out Ad
theorem Uq (xs ys:List Int) {k:Nat} (h1:xs.length<=k) (h2:ys.length<=k):Pe xs ys k=val 10 xs+val 10 ys:=by
 unfold Pe;rw [Lq,EC 10 xs h1,EC 10 ys h2]
theorem SQ {zs:List Int} (hd:Ew 10 zs) (h:∀ j,zs.length=j+1->10 ^ j<=val 10 zs):Top zs:=by
 intro j hj h0;have h1:=h j hj;have h2:val 10 zs=val 10 (zs.take j):=by
  have e:=F2 (xs:=zs) (k:=j) Ad;rw [BG Ad,h0] at e;rw [e,EA];simp;rw [<-e]
 have h3:=(Eg Ae (hd.take j)).2;rw [BB,BE Ad] at h3;omega
theorem Ur {xs ys zs:List Int} {m n:Int} {k:Nat} (hx:Ef 10 xs m) (hy:Ef 10 ys n) (hdig:Ew 10 zs) (hlen:zs.length=k) (h1:xs.length<=k) (h2:ys.length<=k)
  (hS:Hid (val 10 zs+(0:Int)*10 ^ k=Pe xs ys k)) (hT:k<=max xs.length ys.length∨Top zs):Ef 10 zs (m+n):=by
 have hv:val 10 zs=m+n:=by have:=hS.out;rw [Uq xs ys h1 h2,hx.val,hy.val] at this;omega
 refine ⟨hdig,?_,hv⟩
 rcases hT with h | h
 ·refine SQ hdig fun j hj=>?_
  have hm:=hx.nonneg Ae;have hn:=hy.nonneg Ae;rw [hv];rcases Nat.le_total xs.length ys.length with hl | hl
  ·have:=hy.ge Ae (k:=j) Ad;omega
  ·have:=hx.ge Ae (k:=j) Ad;omega
 ·exact h
theorem LQ {zs:List Int} {d:Int} (h:d≠0):Hid (Top (zs++[d])):=by
 show Top _;intro j hj;have:j=zs.length:=by simp at hj;omega
 subst this;simpa [gi] using h
theorem N1 (v u:Value) (xs ys:List Int) (m n:Int) (w:World) (hv:Sl w v xs) (hu:Sl w u ys) (hx:Ef 10 xs m) (hy:Ef 10 ys n) (hlx:xs.length<=100000) (hly:ys.length<=100000) :
  Calls Tryz.prog 98 #[v,u] w (DA w fun r w'=>∃ zs,Sl w' r zs/\Ef 10 zs (m+n)):=by
 obtain ⟨a1,b1,o1,c1,rfl,h1,h2,h4⟩:=hv.place
 obtain ⟨a2,b2,o2,c2,rfl,g1,g2,g4⟩:=hu.place
 have H4:=A8 h4
 have G4:=A8 g4
 have H1:=A8 h1
 have G1:=A8 g1
 have HX:=A8 hx
 have HY:=A8 hy
 clear hv hu h4 g4 h1 g1 hx hy
 go_enter Tryz.func98,Tryz.ntmps98
 go_wp2
 go_loopw [5,6,7] (fun o cr i wr=>∃ (k:Nat) (c:Int) (zs:List Int),i=.int .i64 k/\cr=.int .i64 c/\0<=c/\c<=1/\zs.length=k/\Ew 10 zs/\Hid (val 10 zs+c*10 ^ k=Pe xs ys k) /\
   (k<=max xs.length ys.length∨k=max xs.length ys.length+1/\c<=0/\Hid (Top zs))/\wr.ownsRow w.heap.size 3 1 o zs.length (zs.map (Value.int .i64))/\Below w.heap.size w wr)
  (fun _ _ i _=>max xs.length ys.length+1-(intOf i).toNat)
 case atStart=>exact ⟨0,0,[],rfl,rfl,Ae,Ae,rfl,Ew.nil _,by show _=_;simp [val,Pe,Fc],.inl (AO _),World.ownsRow_nil _ _ _ _,Below.refl _ _⟩
 case round =>
  obtain ⟨k,c,zs,rfl,rfl,hc0,hc1,hlen,hdig,hS,hT,hown,hB⟩:=hrel;have hxd:0<=gi xs k/\gi xs k<10/\gi xs k=gi xs k:=⟨(HX.out.dig.gi Ae k).1,(HX.out.dig.gi Ae k).2,rfl⟩;have hyd:0<=gi ys k/\gi ys k<10/\gi ys k=gi ys k:=⟨(HY.out.dig.gi Ae k).1,(HY.out.dig.gi Ae k).2,rfl⟩;have x0:=hxd.1;have x1:=hxd.2.1;have y0:=hyd.1;have y1:=hyd.2.1;have hcase:(k<xs.length/\k<ys.length)∨(k<xs.length/\ys.length<=k)∨(xs.length<=k/\k<ys.length)∨(xs.length<=k/\ys.length<=k/\0<c)∨(xs.length<=k/\ys.length<=k/\c<=0):=by omega
  rcases hcase with ⟨k1,k2⟩ | ⟨k1,k2⟩ | ⟨k1,k2⟩ | ⟨k1,k2,k3⟩ | ⟨k1,k2,k3⟩
  ·obtain ⟨rfl,h3⟩:=H1.out Ad
   obtain ⟨rfl,g3⟩:=G1.out Ad;have c1:=(hB.cell (p:=⟨b1,o1+k,none⟩) h3).trans (H4.out k Ad);have i1:(k:Int)<(xs.length:Int):=by omega
   have c2:=(hB.cell (p:=⟨b2,o2+k,none⟩) g3).trans (G4.out k Ad);have i2:(k:Int)<(ys.length:Int):=by omega
   obtain ⟨a1,a2,a3,a4⟩:=J9 (x:=gi xs k) (y:=gi ys k) (n:=c+gi xs k+gi ys k) hdig hlen hc0 hc1 hS hxd hyd Ad;have HA:=A8 (And.intro a1 a4);have Hlen:=A8 hlen;clear hlen a1 a4;go_wp2_with (at_builtin;refine E0 ((c+gi xs k+gi ys k) % 10) 22 Tryz.underlying22 rfl _ _ rfl rfl rfl hown (by have:=Hlen.out;omega) hB.size ?_;intro g cp w2 hown2 hg2 hb2);go_roundw;case rel=>exact ⟨k+1,_,zs++[(c+gi xs k+gi ys k) % 10],by go_num,rfl,a2,a3,(by rw [Ci,Hlen.out];rfl),HA.out.1,HA.out.2,(.inl Ad),(by rw [Ci];exact hown2),hB.trans hb2⟩
   case measure=>simp [intOf];omega
  ·obtain ⟨rfl,h3⟩:=H1.out Ad
   have c1:=(hB.cell (p:=⟨b1,o1+k,none⟩) h3).trans (H4.out k Ad);have i1:(k:Int)<(xs.length:Int):=by omega
   have hy2:=Gl k2;obtain ⟨a1,a2,a3,a4⟩:=J9 (x:=gi xs k) (y:=gi ys k) (n:=c+gi xs k) hdig hlen hc0 hc1 hS hxd hyd Ad;have HA:=A8 (And.intro a1 a4);have Hlen:=A8 hlen;clear hlen a1 a4;go_wp2_with (at_builtin;refine E0 ((c+gi xs k) % 10) 22 Tryz.underlying22 rfl _ _ rfl rfl rfl hown (by have:=Hlen.out;omega) hB.size ?_;intro g cp w2 hown2 hg2 hb2);go_roundw;case rel=>exact ⟨k+1,_,zs++[(c+gi xs k) % 10],by go_num,rfl,a2,a3,(by rw [Ci,Hlen.out];rfl),HA.out.1,HA.out.2,(.inl Ad),(by rw [Ci];exact hown2),hB.trans hb2⟩
   case measure=>simp [intOf];omega
  ·obtain ⟨rfl,g3⟩:=G1.out Ad
   have c2:=(hB.cell (p:=⟨b2,o2+k,none⟩) g3).trans (G4.out k Ad);have i2:(k:Int)<(ys.length:Int):=by omega
   have hx2:=Gl k1;obtain ⟨a1,a2,a3,a4⟩:=J9 (x:=gi xs k) (y:=gi ys k) (n:=c+gi ys k) hdig hlen hc0 hc1 hS hxd hyd Ad;have HA:=A8 (And.intro a1 a4);have Hlen:=A8 hlen;clear hlen a1 a4;go_wp2_with (at_builtin;refine E0 ((c+gi ys k) % 10) 22 Tryz.underlying22 rfl _ _ rfl rfl rfl hown (by have:=Hlen.out;omega) hB.size ?_;intro g cp w2 hown2 hg2 hb2);go_roundw;case rel=>exact ⟨k+1,_,zs++[(c+gi ys k) % 10],by go_num,rfl,a2,a3,(by rw [Ci,Hlen.out];rfl),HA.out.1,HA.out.2,(.inl Ad),(by rw [Ci];exact hown2),hB.trans hb2⟩
   case measure=>simp [intOf];omega
  ·have hx2:=Gl k1
   have hy2:=Gl k2;obtain ⟨a1,a2,a3,a4⟩:=J9 (x:=gi xs k) (y:=gi ys k) (n:=c) hdig hlen hc0 hc1 hS hxd hyd Ad;have HA:=A8 (And.intro a1 a4);have Hlen:=A8 hlen;clear hlen a1 a4;go_wp2_with (at_builtin;refine E0 ((c) % 10) 22 Tryz.underlying22 rfl _ _ rfl rfl rfl hown (by have:=Hlen.out;omega) hB.size ?_;intro g cp w2 hown2 hg2 hb2);go_roundw;case rel=>exact ⟨k+1,_,zs++[(c) % 10],by go_num,rfl,a2,a3,(by rw [Ci,Hlen.out];rfl),HA.out.1,HA.out.2,(.inr ⟨Ad,Ad,LQ Ad⟩),(by rw [Ci];exact hown2),hB.trans hb2⟩
   case measure=>simp [intOf];omega
  ·obtain rfl:c=0:=by omega
   have hfin:=A8 (Ur HX.out HY.out hdig hlen k1 k2 hS (by rcases hT with h | h;exact .inl h;exact .inr h.2.2.out));have hsl:=Sl.of_own hown;clear hlen hdig hS hT hown;go_wp2;go_ret;exact ⟨⟨_,rfl,zs,hsl,hfin.out⟩,hB⟩
def Pf (xs ys:List Int) (k:Nat):Int:=Fc 10 (fun j=>gi xs j-gi ys j) k
theorem Ii {xs ys zs:List Int} {k:Nat} {c x y n q c':Int} (hdig:Ew 10 zs) (hlen:zs.length=k) (hS:Hid (val 10 zs-c*10 ^ k=Pf xs ys k)) (hx:x=gi xs k) (hy:y=gi ys k) (hn:n=x-c-y) (hq:n=q-10*c') (h0:0<=q) (h1:q<10) :
  Ew 10 (zs++[q])/\Hid (val 10 (zs++[q])-c'*10 ^ (k+1)=Pf xs ys (k+1)):=by
 refine ⟨hdig.snoc h0 h1,?_⟩
 show _=_
 rw [EA,hlen,Cx]
 have:=Jy (Pf xs ys k) (-c) (10 ^ k) (val 10 zs) (gi xs k-gi ys k) q (-c') (by rw [Df];have:=hS.out;omega) Ad
 rw [Df] at this
 exact this
theorem Us (xs ys:List Int) {k:Nat} (h1:xs.length<=k) (h2:ys.length<=k):Pf xs ys k=val 10 xs-val 10 ys:=by
 unfold Pf;rw [Lr,EC 10 xs h1,EC 10 ys h2]
theorem SR {xs ys zs:List Int} {m n c:Int} {k:Nat} (hx:Ef 10 xs m) (hy:Ef 10 ys n) (hle:n<=m) (hdig:Ew 10 zs) (hlen:zs.length=k) (h1:xs.length<=k) (h2:ys.length<=k) (hc:0<=c)
  (hS:Hid (val 10 zs-c*10 ^ k=Pf xs ys k)):Ef 10 (trim zs) (m-n):=by
 have hv:=hS.out
 rw [Us xs ys h1 h2,hx.val,hy.val] at hv
 have hb:=Eg (b:=10) Ae hdig
 rw [hlen] at hb
 have hc0:c=0:=by
  rcases Int.lt_or_le 0 c with h | h
  ·have:10 ^ k<=c*10 ^ k:=by
    have:=AJ (show (1:Int)<=c by omega) (CY (Fj (b:=10) Ae k));omega
   omega
  ·omega
 subst hc0
 have e:val 10 zs=m-n:=by omega
 rw [<-e]
 exact Ef.trim hdig
theorem JY (v u:Value) (xs ys:List Int) (m n:Int) (w:World) (hv:Sl w v xs) (hu:Sl w u ys) (hx:Ef 10 xs m) (hy:Ef 10 ys n) (hle:n<=m) (hlx:xs.length<=100000) :
  Calls Tryz.prog 99 #[v,u] w (DA w fun r w'=>∃ zs,Sl w' r zs/\Ef 10 zs (m-n)/\FG w r):=by
 have hly:=hy.len_le Ae hx hle
 obtain ⟨a1,b1,o1,c1,rfl,h1,h2,h4⟩:=hv.place
 obtain ⟨a2,b2,o2,c2,rfl,g1,g2,g4⟩:=hu.place
 have H4:=A8 h4
 have G4:=A8 g4
 have H1:=A8 h1
 have G1:=A8 g1
 have HX:=A8 hx
 have HY:=A8 hy
 clear hv hu h4 g4 h1 g1 hx hy
 go_enter Tryz.func99,Tryz.ntmps99
 go_wp2
 go_loopw [5,6,7] (fun o cr i wr=>∃ (k:Nat) (c:Int) (zs:List Int),i=.int .i64 k/\cr=.int .i64 c/\0<=c/\c<=1/\zs.length=k/\Ew 10 zs/\Hid (val 10 zs-c*10 ^ k=Pf xs ys k) /\
   k<=xs.length/\wr.ownsRow w.heap.size 3 1 o zs.length (zs.map (Value.int .i64))/\Below w.heap.size w wr)
  (fun _ _ i _=>xs.length-(intOf i).toNat)
 case atStart=>exact ⟨0,0,[],rfl,rfl,Ae,Ae,rfl,Ew.nil _,by show _=_;simp [val,Pf,Fc],AO _,World.ownsRow_nil _ _ _ _,Below.refl _ _⟩
 case round =>
  obtain ⟨k,c,zs,rfl,rfl,hc0,hc1,hlen,hdig,hS,hk,hown,hB⟩:=hrel;have x0:=(HX.out.dig.gi Ae k).1;have x1:=(HX.out.dig.gi Ae k).2;have y0:=(HY.out.dig.gi Ae k).1;have y1:=(HY.out.dig.gi Ae k).2;by_cases hk1:k<xs.length
  ·obtain ⟨rfl,h3⟩:=H1.out Ad
   have c1:=(hB.cell (p:=⟨b1,o1+k,none⟩) h3).trans (H4.out k Ad);have i1:(k:Int)<(xs.length:Int):=by omega
   have Hlen:=A8 hlen;by_cases hk2:k<ys.length
   ·obtain ⟨rfl,g3⟩:=G1.out Ad
    have c2:=(hB.cell (p:=⟨b2,o2+k,none⟩) g3).trans (G4.out k Ad);have i2:(k:Int)<(ys.length:Int):=by omega
    by_cases hneg:gi xs k-c-gi ys k<0
    ·obtain ⟨d1,d2⟩:=Ii (x:=gi xs k) (y:=gi ys k) (n:=gi xs k-c-gi ys k) (q:=gi xs k-c-gi ys k+10) (c':=1) hdig hlen hS rfl rfl Ad Ad Ad Ad
     have HA:=A8 (And.intro d1 d2);skip;clear hlen d1 d2;go_wp2_with (at_builtin;refine E0 (gi xs k-c-gi ys k+10) 22 Tryz.underlying22 rfl _ _ rfl rfl rfl hown (by have:=Hlen.out;omega) hB.size ?_;intro g cp w2 hown2 hg2 hb2);go_roundw;case rel=>exact ⟨k+1,1,zs++[gi xs k-c-gi ys k+10],by go_num,rfl,Ae,Ae,(by rw [Ci,Hlen.out];rfl),HA.out.1,HA.out.2,Ad,(by rw [Ci];exact hown2),hB.trans hb2⟩
     case measure=>simp [intOf];omega
    ·obtain ⟨d1,d2⟩:=Ii (x:=gi xs k) (y:=gi ys k) (n:=gi xs k-c-gi ys k) (q:=gi xs k-c-gi ys k) (c':=0) hdig hlen hS rfl rfl Ad Ad Ad Ad
     have HA:=A8 (And.intro d1 d2);have hnn:0<=gi xs k-c-gi ys k:=by omega
     clear hlen d1 d2 hneg;go_wp2_with (at_builtin;refine E0 (gi xs k-c-gi ys k) 22 Tryz.underlying22 rfl _ _ rfl rfl rfl hown (by have:=Hlen.out;omega) hB.size ?_;intro g cp w2 hown2 hg2 hb2);go_roundw;case rel=>exact ⟨k+1,0,zs++[gi xs k-c-gi ys k],by go_num,rfl,Ae,Ae,(by rw [Ci,Hlen.out];rfl),HA.out.1,HA.out.2,Ad,(by rw [Ci];exact hown2),hB.trans hb2⟩
     case measure=>simp [intOf];omega
   ·have hy2:=Gl (xs:=ys) (i:=k) Ad
    have hk3:ys.length<=k:=by omega
    by_cases hneg:gi xs k-c<0
    ·obtain ⟨d1,d2⟩:=Ii (x:=gi xs k) (y:=gi ys k) (n:=gi xs k-c) (q:=gi xs k-c+10) (c':=1) hdig hlen hS rfl rfl Ad Ad Ad Ad
     have HA:=A8 (And.intro d1 d2);skip;clear hlen d1 d2;go_wp2_with (at_builtin;refine E0 (gi xs k-c+10) 22 Tryz.underlying22 rfl _ _ rfl rfl rfl hown (by have:=Hlen.out;omega) hB.size ?_;intro g cp w2 hown2 hg2 hb2);go_roundw;case rel=>exact ⟨k+1,1,zs++[gi xs k-c+10],by go_num,rfl,Ae,Ae,(by rw [Ci,Hlen.out];rfl),HA.out.1,HA.out.2,Ad,(by rw [Ci];exact hown2),hB.trans hb2⟩
     case measure=>simp [intOf];omega
    ·obtain ⟨d1,d2⟩:=Ii (x:=gi xs k) (y:=gi ys k) (n:=gi xs k-c) (q:=gi xs k-c) (c':=0) hdig hlen hS rfl rfl Ad Ad Ad Ad
     have HA:=A8 (And.intro d1 d2);have hnn:0<=gi xs k-c:=by omega
     clear hlen d1 d2 hneg;go_wp2_with (at_builtin;refine E0 (gi xs k-c) 22 Tryz.underlying22 rfl _ _ rfl rfl rfl hown (by have:=Hlen.out;omega) hB.size ?_;intro g cp w2 hown2 hg2 hb2);go_roundw;case rel=>exact ⟨k+1,0,zs++[gi xs k-c],by go_num,rfl,Ae,Ae,(by rw [Ci,Hlen.out];rfl),HA.out.1,HA.out.2,Ad,(by rw [Ci];exact hown2),hB.trans hb2⟩
     case measure=>simp [intOf];omega
  ·have hfin:=A8 (SR HX.out HY.out hle hdig hlen Ad Ad hc0 hS)
   have hsl:=Sl.of_own hown;have HFr:=A8 (FG.of_own (w:=w) hown (Aa _));clear hlen hdig hS hown;go_wp2_with fail;refine (J8 _ zs _ hsl).mono ?_;rintro e w2 ⟨⟨v',rfl,hz,hpt⟩,rfl⟩;have HFr2:=A8 (HFr.out.of_ptr hpt);clear hpt HFr;go_wp2;go_ret;exact ⟨⟨_,rfl,_,hz,hfin.out,HFr2.out⟩,hB⟩
theorem Jz (v u:Value) (xs ys:List Int) (m n:Int) (w:World) (hv:Sl w v xs) (hu:Sl w u ys) (hx:Ef 10 xs m) (hy:Ef 10 ys n) (hle:n<=m) (hlx:xs.length<=100000) :
  Calls Tryz.prog 99 #[v,u] w (DA w fun r w'=>∃ zs,Sl w' r zs/\Ef 10 zs (m-n)) :=
 (JY v u xs ys m n w hv hu hx hy hle hlx).mono fun _ _ ⟨⟨r,h1,zs,h2,h3,_⟩,hb⟩=>⟨⟨r,h1,zs,h2,h3⟩,hb⟩
def GZ (l:List UInt8):Bool:=!l.isEmpty&&decide (l.length<=200)&&l.all Hi&&(decide (l=[48]) || decide (l.head? ≠ some 48))
theorem Et (t:ByteArray):t.data.toList.length=t.size:=by rw [BC];rfl
theorem Gd (t:ByteArray) (k:Nat) (h:k<t.size):t.data.toList[k]'(by rw [Et];exact h)=t[k]:=rfl
theorem Pg (t:ByteArray) (k:Nat) (h:k<t.size):(t.data.toList.take (k+1)).all Hi=((t.data.toList.take k).all Hi&&Hi t[k]):=by
 rw [List.take_succ_eq_append_getElem (by rw [Et];exact h),List.all_append,Gd t k h];simp
theorem Ph (t:ByteArray) (k:Nat) (h:k<t.size) (hd:Hi t[k]=false):GZ t.data.toList=false:=by
 have:t.data.toList.all Hi=false:=by
  rw [AA];exact ⟨t[k],by rw [<-Gd t k h];exact AN _,by simp [hd]⟩
 unfold GZ;rw [this];simp
theorem LR (t:ByteArray) (h:t.size=0):GZ t.data.toList=false:=by
 have:t.data.toList=[]:=Bo (by rw [Et];exact h);rw [this];rfl
theorem N2 (t:ByteArray) (h:200<t.size):GZ t.data.toList=false:=by
 unfold GZ;rw [Et,Al Ad];simp
theorem N3 (t:ByteArray) (h:t.toList=[48]):GZ t.data.toList=true:=by
 rw [ByteArray.toList_eq] at h;rw [h];decide
theorem N4 (t:ByteArray) (h0:0<t.size) (h2:t.size<=200) (ha:t.data.toList.all Hi=true) (hz:¬ t.toList=[48]):GZ t.data.toList=(((t[0]).toNat:Int) != 48):=by
 rw [ByteArray.toList_eq] at hz;have hl:=Et t;have e:t.data.toList.head? = some t[0]:=by rw [List.head?_eq_getElem?,Ax Ad,Gd t 0 h0]
 unfold GZ;rw [e,ha,Al hz,AF (by omega:t.data.toList.length<=200),RS];have:t.data.toList.isEmpty=false:=by
  cases hh:t.data.toList with
  | nil=>rw [hh] at hl;simp at hl;omega
  | cons _ _=>rfl
 rw [this];simp [bne,BEq.beq]
theorem Pi {t:ByteArray} (h0:0<t.size) (h:t[0]≠45):∀ c r,t.data.toList=c :: r->c≠45:=by
 intro c r e hc;have h1:=Gd t 0 h0;have h2:t.data.toList[0]'(by rw [Et];exact h0)=c:=by simp only [e];rfl
 rw [h2] at h1;exact h (h1.symm.trans hc)
theorem Pj {s:ByteArray} (h0:0<s.size) (h:s[0]=45):s.data.toList=45 :: (s.extract 1 s.size).data.toList:=by
 rw [Lib.extract_to_end];have h1:=Gd s 0 h0;rw [<-Db (l:=s.data.toList),Dc (by rw [Et];exact h0),h1,h];rfl
theorem JA {c:UInt8} (h:c≠45):((c.toNat:Int)==45)=false:=by
 refine Am.2 (fun e=>h (UInt8.toNat_inj.1 ?_));have:(45:UInt8).toNat=45:=rfl;omega
theorem Pm {l:List UInt8} (h:∀ c r,l=c :: r->c≠45):Fg l=GZ l:=by
 have e:body l=l:=by
  cases l with
  | nil=>rfl
  | cons c r=>exact GV r (h c r rfl)
 unfold Fg GZ;rw [e]
theorem Pn {r:List UInt8}:Fg (45 :: r)=(!decide (r=[48])&&GZ r):=by
 unfold Fg GZ;rw [Gn];by_cases h:r=[48]
 ·subst h;decide
 ·simp [h]
theorem NV (t:ByteArray) (h0:0<t.size) (h:t[0]≠45) (hs:t.size<=9223372036854775807) (w:World):Calls Tryz.prog 86 #[.string t] w fun e w'=>e=.returned (.bool (DK t))/\Below w.heap.size w w':=by
 have HC:=A8 (show DK t=GZ t.data.toList from Pm (Pi h0 h));have hm:(((t[0]).toNat:Int)==45)=false:=JA h;have hpi:(0:Int)<(t.size:Int):=by omega
 clear h;go_enter Tryz.func86,Tryz.ntmps86;go_wp2;go_loop [3] (fun i=>∃ k:Nat,k<=t.size/\i=.int .i64 k/\Hid ((t.data.toList.take k).all Hi=true)) (fun i=>t.size-(intOf i).toNat);case atStart=>exact ⟨0,AO _,rfl,rfl⟩
 case round =>
  obtain ⟨k,hk,rfl,hA⟩:=hrel;by_cases hlt:k<t.size
  ·have hidx:(k:Int)<(t.size:Int):=by omega
   have hstep:=Pg t k hlt;by_cases hd:Hi t[k]=true
   ·have hd2:=Ev.1 hd
    have l1:(48:Int)<=((t[k]).toNat:Int):=by omega
    have l2:((t[k]).toNat:Int)<=57:=by omega
    have HA:=A8 (show (t.data.toList.take (k+1)).all Hi=true by rw [hstep,hA.out,hd];rfl);clear hstep hd hd2;go_wp2;go_round;case rel=>exact ⟨k+1,Ad,by go_num,HA⟩
    case measure=>simp [intOf];omega
   ·have hd2:¬ (48<=(t[k]).toNat/\(t[k]).toNat<=57):=fun h=>hd (Ev.2 h)
    have HF:=A8 (HC.out.trans (Ph t k hlt (by simpa using hd)));have hcs:((t[k]).toNat:Int)<48∨(48:Int)<=((t[k]).toNat:Int)/\(57:Int)<((t[k]).toNat:Int):=by omega
    clear hstep hd hd2;rcases hcs with h | ⟨h,h'⟩
    ·go_wp2
     go_ret;exact ⟨Dm HF.out.symm,Below.refl _ _⟩
    ·go_wp2
     go_ret;exact ⟨Dm HF.out.symm,Below.refl _ _⟩
  ·obtain rfl:k=t.size:=by omega
   have hall:t.data.toList.all Hi=true:=by have:=hA.out;rwa [BG (by rw [Et];exact Aa _)] at this
   clear hA hlt;by_cases h0:t.size=0
   ·have HF:=A8 (HC.out.trans (LR t h0))
    have e0:t=⟨#[]⟩:=Ao (Array.eq_empty_of_size_eq_zero h0);clear HC hall h0;subst e0;go_wp2;go_ret;exact ⟨Dm HF.out.symm,Below.refl _ _⟩
   ·have hp:0<t.size:=by omega
    have hpi:(0:Int)<(t.size:Int):=by omega
    clear h0;by_cases h2:t.size<=200
    ·have h2i:(t.size:Int)<=200:=by omega
     by_cases hz:t.toList=[48]
     ·have HF:=A8 (HC.out.trans (N3 t hz))
      have hzb:(t.toList==[48])=true:=by rw [hz];rfl
      clear hz HC hall;go_wp2;go_ret;exact ⟨Dm HF.out.symm,Below.refl _ _⟩
     ·have hzb:(t.toList==[48])=false:=Am.2 hz
      have HF:=A8 (HC.out.trans (N4 t hp h2 hall hz));clear hz HC hall;go_wp2;go_ret;exact ⟨Dm (by rw [HF.out]),Below.refl _ _⟩
    ·have h2i:(200:Int)<(t.size:Int):=by omega
     have HF:=A8 (HC.out.trans (N2 t Ad));clear HC hall h2;go_wp2;go_ret;exact ⟨Dm HF.out.symm,Below.refl _ _⟩
theorem NW (w:World):Calls Tryz.prog 86 #[.string ⟨#[]⟩] w fun e w'=>e=.returned (.bool (DK ⟨#[]⟩))/\Below w.heap.size w w':=by
 have HF:=A8 (show DK ⟨#[]⟩=false from rfl);go_enter Tryz.func86,Tryz.ntmps86;go_wp2;go_loop [3] (fun i=>i=.int .i64 0) (fun _=>0);case atStart=>rfl
 case round =>
  obtain rfl:=hrel;go_wp2;go_ret;exact ⟨Dm HF.out.symm,Below.refl _ _⟩
theorem NX (s:ByteArray) (h0:0<s.size) (h:s[0]=45) (hs:s.size<=9223372036854775807) (w:World):Calls Tryz.prog 86 #[.string s] w fun e w'=>e=.returned (.bool (DK s))/\Below w.heap.size w w':=by
 have hv:DK s=(!decide ((s.extract 1 s.size).data.toList=[48])&&GZ (s.extract 1 s.size).data.toList):=by
  unfold DK;rw [Pj h0 h];exact Pn
 have hm:(((s[0]).toNat:Int)==45)=true:=by rw [h];rfl
 have hpi:(0:Int)<(s.size:Int):=by omega
 have hts:(s.extract 1 s.size).size<=9223372036854775807:=by simp;omega
 clear h;by_cases hz:(s.extract 1 s.size).data.toList=[48]
 ·have HF:=A8 (show DK s=false by rw [hv,AF hz];rfl)
  have hzb:((s.extract 1 s.size).toList==[48])=true:=by rw [ByteArray.toList_eq,hz];rfl
  clear hv hz hts;go_enter Tryz.func86,Tryz.ntmps86;go_wp2;go_ret;exact ⟨Dm HF.out.symm,Below.refl _ _⟩
 have HC:=A8 (show DK s=GZ (s.extract 1 s.size).data.toList by rw [hv,Al hz];rfl);have hzb:((s.extract 1 s.size).toList==[48])=false:=by rw [ByteArray.toList_eq];exact Am.2 hz
 clear hv hz;go_enter Tryz.func86,Tryz.ntmps86;go_wp2;generalize s.extract 1 s.size=t at *
 clear hzb;go_loop [3] (fun i=>∃ k:Nat,k<=t.size/\i=.int .i64 k/\Hid ((t.data.toList.take k).all Hi=true)) (fun i=>t.size-(intOf i).toNat);case atStart=>exact ⟨0,AO _,rfl,rfl⟩
 case round =>
  obtain ⟨k,hk,rfl,hA⟩:=hrel;by_cases hlt:k<t.size
  ·have hidx:(k:Int)<(t.size:Int):=by omega
   have hstep:=Pg t k hlt;by_cases hd:Hi t[k]=true
   ·have hd2:=Ev.1 hd
    have l1:(48:Int)<=((t[k]).toNat:Int):=by omega
    have l2:((t[k]).toNat:Int)<=57:=by omega
    have HA:=A8 (show (t.data.toList.take (k+1)).all Hi=true by rw [hstep,hA.out,hd];rfl);clear hstep hd hd2;go_wp2;go_round;case rel=>exact ⟨k+1,Ad,by go_num,HA⟩
    case measure=>simp [intOf];omega
   ·have hd2:¬ (48<=(t[k]).toNat/\(t[k]).toNat<=57):=fun h=>hd (Ev.2 h)
    have HF:=A8 (HC.out.trans (Ph t k hlt (by simpa using hd)));have hcs:((t[k]).toNat:Int)<48∨(48:Int)<=((t[k]).toNat:Int)/\(57:Int)<((t[k]).toNat:Int):=by omega
    clear hstep hd hd2;rcases hcs with h | ⟨h,h'⟩
    ·go_wp2
     go_ret;exact ⟨Dm HF.out.symm,Below.refl _ _⟩
    ·go_wp2
     go_ret;exact ⟨Dm HF.out.symm,Below.refl _ _⟩
  ·obtain rfl:k=t.size:=by omega
   have hall:t.data.toList.all Hi=true:=by have:=hA.out;rwa [BG (by rw [Et];exact Aa _)] at this
   clear hA hlt;by_cases h0:t.size=0
   ·have HF:=A8 (HC.out.trans (LR t h0))
    have e0:t=⟨#[]⟩:=Ao (Array.eq_empty_of_size_eq_zero h0);clear HC hall h0;subst e0;go_wp2;go_ret;exact ⟨Dm HF.out.symm,Below.refl _ _⟩
   ·have hp:0<t.size:=by omega
    have hpi:(0:Int)<(t.size:Int):=by omega
    clear h0;by_cases h2:t.size<=200
    ·have h2i:(t.size:Int)<=200:=by omega
     by_cases hz:t.toList=[48]
     ·have HF:=A8 (HC.out.trans (N3 t hz))
      have hzb:(t.toList==[48])=true:=by rw [hz];rfl
      clear hz HC hall;go_wp2;go_ret;exact ⟨Dm HF.out.symm,Below.refl _ _⟩
     ·have hzb:(t.toList==[48])=false:=Am.2 hz
      have HF:=A8 (HC.out.trans (N4 t hp h2 hall hz));clear hz HC hall;go_wp2;go_ret;exact ⟨Dm (by rw [HF.out]),Below.refl _ _⟩
    ·have h2i:(200:Int)<(t.size:Int):=by omega
     have HF:=A8 (HC.out.trans (N2 t Ad));clear HC hall h2;go_wp2;go_ret;exact ⟨Dm HF.out.symm,Below.refl _ _⟩
theorem DI (s:ByteArray) (hs:s.size<=9223372036854775807) (w:World):Calls Tryz.prog 86 #[.string s] w fun e w'=>e=.returned (.bool (DK s))/\Below w.heap.size w w':=by
 by_cases h0:s.size=0
 ·obtain rfl:s=⟨#[]⟩:=Ao (Array.eq_empty_of_size_eq_zero h0)
  exact NW w
 ·have hp:0<s.size:=by omega
  by_cases h:s[0]=45
  ·exact NX s hp h hs w
  ·exact NV s hp h hs w
def Gx (l:List UInt8):List Int:=l.reverse.map fun b=>(b.toNat:Int)-48
theorem Ij (b:UInt8) (l:List UInt8):Gx (b :: l)=Gx l++[(b.toNat:Int)-48]:=by simp [Gx]
theorem SS (l:List UInt8):(Gx l).length=l.length:=by simp [Gx]
theorem SV {l:List UInt8} (h:∀ b∈l,Hi b=true):Ew 10 (Gx l):=by
 intro x hx;obtain ⟨b,hb,rfl⟩:=AV.1 hx;have:=Ev.1 (h b (List.mem_reverse.1 hb));omega
theorem SW {l:List UInt8} (h:∀ b∈l,Hi b=true):val 10 (Gx l)=E9 l:=by
 induction l with
 | nil=>rfl
 | cons b l ih =>
  have hb:=Ev.1 (h b Af);rw [Ij,EA,ih (fun c hc=>h c (by simp [hc])),SS];rw [show b :: l=[b]++l from rfl,Gw];have e:E9 [b]=b.toNat-48:=by simp [E9,MO]
  rw [e];have e2:((b.toNat:Int)-48)=((b.toNat-48:Nat):Int):=by omega
  rw [e2];simp;omega
theorem SX {l:List UInt8} (h:∀ b∈l,Hi b=true) (h0:l≠[]) (hh:∀ b,l.head? = some b->b.toNat≠48):Ef 10 (Gx l) (E9 l):=by
 refine ⟨SV h,?_,SW h⟩;cases l with
 | nil=>exact absurd rfl h0
 | cons b l =>
  rw [Ij];have hb:=Ev.1 (h b Af);have:=hh b rfl;exact (LQ (zs:=Gx l) (d:=(b.toNat:Int)-48) Ad).out
def DV (w:World) (r:Value) (z:Int):Prop:=∃ v xs,r=.tuple #[.bool (decide (z<0)),v]/\Sl w v xs/\Ef 10 xs z.natAbs
theorem NY (w:World):Calls Tryz.prog 87 #[.string ⟨#[48]⟩] w (DA w fun r w'=>DV w' r 0):=by
 go_enter Tryz.func87,Tryz.ntmps87;go_wp2;go_loop [5,6] (fun o i=>o=.slice none 0 0/\i=.int .i64 0) (fun _ _=>0);case atStart=>exact ⟨rfl,rfl⟩
 case round =>
  obtain ⟨rfl,rfl⟩:=hrel;go_wp2;go_ret2;exact ⟨⟨_,rfl,_,[],rfl,Sl.nil _,Ef.trim (xs:=[]) (Ew.nil 10)⟩,Below.refl _ _⟩
theorem Po (t:ByteArray) (z:Int) (hA:∀ b∈t.data.toList,Hi b=true) (hN:Ef 10 (Gx t.data.toList) z.natAbs) (hz:0<z) (h0:0<t.size) (h2:t.size<=200) (h:t[0]≠45) (hne:(t.toList==[48])=false) (w:World) :
  Calls Tryz.prog 87 #[.string t] w (DA w fun r w'=>DV w' r z):=by
 have HA:=A8 hA
 have HN:=A8 hN
 have HZ:=A8 (show decide (z<0)=false from Al Ad)
 have hm:(((t[0]).toNat:Int)==45)=false:=JA h
 have hpi:(0:Int)<(t.size:Int):=by omega
 clear h hA hN hz
 go_enter Tryz.func87,Tryz.ntmps87
 go_wp2
 go_loopw [5,6] (fun o i wr=>∃ (r:Nat) (q:Int) (ds:List Int),r<=t.size/\i=.int .i64 q/\Hid (q=(r:Int)-1)/\Hid (ds=Gx (t.data.toList.drop r))/\ds.length+r=t.size/\wr.ownsRow w.heap.size 3 1 o ds.length (ds.map (Value.int .i64))/\Below w.heap.size w wr)
  (fun _ i _=>(intOf i+1).toNat)
 case atStart=>exact ⟨t.size,_,[],Aa _,rfl,(by show _=_;omega),(show []=Gx (t.data.toList.drop t.size) by rw [List.drop_of_length_le (by rw [Et];exact Aa _)];rfl),Af,World.ownsRow_nil _ _ _ _,Below.refl _ _⟩
 case round =>
  obtain ⟨r,q,ds,hr,rfl,hq,hD,hlen,hown,hB⟩:=hrel;cases r with
  | zero =>
   obtain rfl:q=-1:=by have:=hq.out;omega
   have hsl:=Sl.of_own hown;have hds:=hD.out;rw [Db] at hds;have HDS:=A8 hds;clear hlen hds hown;go_wp2;go_ret2;exact ⟨⟨_,rfl,_,ds,by rw [HZ.out];rfl,hsl,by rw [HDS.out];exact HN.out⟩,hB⟩
  | succ r =>
   obtain rfl:q=(r:Int):=by have:=hq.out;omega
   have hlt:r<t.size:=by omega
   have hidx:(r:Int)<(t.size:Int):=by omega
   have hd:=Ev.1 (HA.out t[r] (by rw [<-Gd t r hlt];exact AN _));have l1:(48:Int)<=((t[r]).toNat:Int):=by omega
   have l2:((t[r]).toNat:Int)<=57:=by omega
   have HD2:=A8 (show ds++[((t[r]).toNat:Int)-48]=Gx (t.data.toList.drop r) by
    rw [Dc (i:=r) (by rw [Et];exact hlt),Gd t r hlt,Ij,<-hD.out])
   have Hlen:=A8 hlen;have hdl:ds.length<=1000:=by omega
   clear hd hlen;go_wp2_with (at_builtin;refine E0 (((t[r]).toNat:Int)-48) 22 Tryz.underlying22 rfl _ _ rfl rfl rfl hown Ad hB.size ?_;intro g cp w2 hown2 hg2 hb2);go_roundw;case rel=>exact ⟨r,_,ds++[((t[r]).toNat:Int)-48],Ad,rfl,rfl,HD2,(by rw [Ci];have:=Hlen.out;simp;omega),(by rw [Ci];exact hown2),hB.trans hb2⟩
   case measure=>simp [intOf]
theorem Pp (s:ByteArray) (z:Int) (hA:∀ b∈(s.extract 1 s.size).data.toList,Hi b=true) (hN:Ef 10 (Gx (s.extract 1 s.size).data.toList) z.natAbs) (hz:z<0) (h0:0<s.size) (h2:s.size<=201) (h:s[0]=45) (hne:((s.extract 1 s.size).toList==[48])=false) (w:World) :
  Calls Tryz.prog 87 #[.string s] w (DA w fun r w'=>DV w' r z):=by
 have HA:=A8 hA
 have HN:=A8 hN
 have HZ:=A8 (show decide (z<0)=true from AF Ad)
 have hm:(((s[0]).toNat:Int)==45)=true:=by rw [h];rfl
 have hpi:(0:Int)<(s.size:Int):=by omega
 have hts:(s.extract 1 s.size).size=s.size-1:=by simp
 have hts2:(((s.extract 1 s.size).size:Nat):Int)=(s.size:Int)-1:=by omega
 clear h hA hN hz
 go_enter Tryz.func87,Tryz.ntmps87
 go_wp2
 generalize s.extract 1 s.size=t at *
 clear hts2
 go_loopw [5,6] (fun o i wr=>∃ (r:Nat) (q:Int) (ds:List Int),r<=t.size/\i=.int .i64 q/\Hid (q=(r:Int)-1)/\Hid (ds=Gx (t.data.toList.drop r))/\ds.length+r=t.size/\wr.ownsRow w.heap.size 3 1 o ds.length (ds.map (Value.int .i64))/\Below w.heap.size w wr)
  (fun _ i _=>(intOf i+1).toNat)
 case atStart=>exact ⟨t.size,_,[],Aa _,rfl,(by show _=_;omega),(show []=Gx (t.data.toList.drop t.size) by rw [List.drop_of_length_le (by rw [Et];exact Aa _)];rfl),Af,World.ownsRow_nil _ _ _ _,Below.refl _ _⟩
 case round =>
  obtain ⟨r,q,ds,hr,rfl,hq,hD,hlen,hown,hB⟩:=hrel;cases r with
  | zero =>
   obtain rfl:q=-1:=by have:=hq.out;omega
   have hsl:=Sl.of_own hown;have hds:=hD.out;rw [Db] at hds;have HDS:=A8 hds;clear hlen hds hown;go_wp2;go_ret2;exact ⟨⟨_,rfl,_,ds,by rw [HZ.out];rfl,hsl,by rw [HDS.out];exact HN.out⟩,hB⟩
  | succ r =>
   obtain rfl:q=(r:Int):=by have:=hq.out;omega
   have hlt:r<t.size:=by omega
   have hidx:(r:Int)<(t.size:Int):=by omega
   have hd:=Ev.1 (HA.out t[r] (by rw [<-Gd t r hlt];exact AN _));have l1:(48:Int)<=((t[r]).toNat:Int):=by omega
   have l2:((t[r]).toNat:Int)<=57:=by omega
   have HD2:=A8 (show ds++[((t[r]).toNat:Int)-48]=Gx (t.data.toList.drop r) by
    rw [Dc (i:=r) (by rw [Et];exact hlt),Gd t r hlt,Ij,<-hD.out])
   have Hlen:=A8 hlen;have hdl:ds.length<=1000:=by omega
   clear hd hlen;go_wp2_with (at_builtin;refine E0 (((t[r]).toNat:Int)-48) 22 Tryz.underlying22 rfl _ _ rfl rfl rfl hown Ad hB.size ?_;intro g cp w2 hown2 hg2 hb2);go_roundw;case rel=>exact ⟨r,_,ds++[((t[r]).toNat:Int)-48],Ad,rfl,rfl,HD2,(by rw [Ci];have:=Hlen.out;simp;omega),(by rw [Ci];exact hown2),hB.trans hb2⟩
   case measure=>simp [intOf]
theorem Ek (s:ByteArray) (h:DK s=true) (w:World):Calls Tryz.prog 87 #[.string s] w (DA w fun r w'=>DV w' r (zS s)):=by
 obtain ⟨h1,h2,h3,h4⟩:=KV h;have hv:Fg s.data.toList=true:=h;by_cases hz:zS s=0
 ·have e:s=⟨#[48]⟩:=by
   have h5:=(Ff hv).1;have h6:GK s.data.toList=0:=hz;rw [h6,show Lib.itoa (0:Int)=[48] from Kw false] at h5;exact Ao (Array.ext' h5)
  rw [hz,e]
  exact NY w
 ·have hne:body s.data.toList≠[]:=fun e=>by
   unfold Fg at hv;rw [e] at hv;simp at hv
  have h0:0<s.size:=by
   rw [<-Et];cases hl:s.data.toList with
   | nil=>rw [hl] at hne;exact absurd rfl hne
   | cons _ _=>simp
  have hd0:E9 (body s.data.toList)≠0:=fun e=>by
   rw [e] at h4;exact hz (by show GK _=0;omega)
  have hhead:∀ b,(body s.data.toList).head? = some b->b.toNat≠48:=by
   intro b hb e;have hb2:b=48:=UInt8.toNat_inj.1 e;subst hb2;unfold Fg at hv;rw [hb] at hv;simp at hv;have h7:=hv.2;rw [h7] at hd0;exact hd0 rfl
  have hN:=SX h1 hne hhead
  rw [h4] at hN
  have hb48:body s.data.toList≠[48]:=fun e=>by rw [e] at hd0;exact hd0 rfl
  by_cases hm:s[0]=45
  ·have e:=Pj h0 hm
   have eb:body s.data.toList=(s.extract 1 s.size).data.toList:=by rw [e,Gn]
   rw [eb] at h1 h2 h3 hN hb48;have hneg:zS s<0:=by
    have hl:decide ((s.extract 1 s.size).data.toList.length<s.data.toList.length)=true:=AF (by rw [e];simp);rw [hl] at h3;exact Cs h3.symm
   rw [Et] at h2;refine Pp s (zS s) h1 hN hneg h0 (by have:(s.extract 1 s.size).size=s.size-1:=Af;omega) hm ?_ w;rw [ByteArray.toList_eq];exact Am.2 hb48
  ·have eb:body s.data.toList=s.data.toList:=by
    cases hl:s.data.toList with
    | nil=>rfl
    | cons c r=>exact GV r (Pi h0 hm c r hl)
   rw [eb] at h1 h2 h3 hN hb48
   have hneg:¬ zS s<0:=by
    have hl:decide (s.data.toList.length<s.data.toList.length)=false:=Al Ad;rw [hl] at h3;exact Dh h3.symm
   rw [Et] at h2
   refine Po s (zS s) h1 hN Ad h0 h2 hm ?_ w
   rw [ByteArray.toList_eq];exact Am.2 hb48
theorem Fq (neg:Bool) (v:Value) (xs:List Int) (n:Int) (w:World) (hv:Sl w v xs) (hn:Ef 10 xs n) (hl:xs.length<=1000000) :
  Calls Tryz.prog 88 #[.bool neg,v] w (DA w fun r _=>r=EY true (sgn neg n)):=by
 have hs:xs.length<=200↔Do (sgn neg n):=by
  rw [MV (hn.nonneg Ae)];constructor
  ·intro h;exact Int.lt_of_lt_of_le (hn.lt Ae) (by unfold GU;exact Fk Ae h)
  ·intro h;exact hn.length_le Ae h
 by_cases h:xs.length<=200
 ·have e:EY true (sgn neg n)=.tuple #[.string ⟨(Lib.itoa (sgn neg n)).toArray⟩,.int .i64 0]:=by
   unfold EY txt MT;rw [AU rfl,AU (hs.1 h),AU (hs.1 h)]
  have HE:=A8 e
  have hd:decide (xs.length<=200)=true:=AF h
  clear hs e h
  go_enter Tryz.func88,Tryz.ntmps88
  go_wp2_with fail
  refine (GT neg v xs n w hv hn hl).mono ?_
  rintro e w1 ⟨rfl,hb⟩
  rw [hd]
  go_wp2
  go_ret2
  exact ⟨⟨_,rfl,HE.out.symm⟩,hb⟩
 ·have e:EY true (sgn neg n)=.tuple #[.string ⟨#[]⟩,.int .i64 30]:=by
   unfold EY txt MT;rw [AU rfl,AP (fun k=>h (hs.2 k)),AP (fun k=>h (hs.2 k))]
  have HE:=A8 e
  have hd:decide (xs.length<=200)=false:=Al h
  clear hs e h
  go_enter Tryz.func88,Tryz.ntmps88
  go_wp2_with fail
  refine (GT neg v xs n w hv hn hl).mono ?_
  rintro e w1 ⟨rfl,hb⟩
  rw [hd]
  go_wp2
  go_ret2
  exact ⟨⟨_,rfl,HE.out.symm⟩,hb⟩
theorem cmpL10 {xs ys:List Int} {a b:Int} (hx:Ef 10 xs a) (hy:Ef 10 ys b):JR xs ys=Lib.compareInt a b:=by
 unfold JR;by_cases hl:xs.length=ys.length
 ·rw [AU hl,Ju 10 Ae hx.dig hy.dig _ (Aa _) Ad,Cd,hl,Cd,hx.val,hy.val]
 ·rw [AP hl]
  by_cases c:xs.length<ys.length
  ·rw [Dz Ad,Dz (hx.len_lt Ae hy c)]
  ·rw [DM Ad,DM (hy.len_lt Ae hx Ad)]
theorem Ey {z:Int} (h:Do z):EY true z=.tuple #[.string ⟨(Lib.itoa z).toArray⟩,.int .i64 0]:=by unfold EY txt MT;rw [AU rfl,AU h,AU h]
theorem Gt {z:Int} (h:¬ Do z):EY true z=.tuple #[.string ⟨#[]⟩,.int .i64 30]:=by unfold EY txt MT;rw [AU rfl,AP h,AP h]
theorem QH (x y:Int):EY false x=EY false y:=rfl
theorem Pq {a b:Int}:(0<=Lib.compareInt a b↔b<=a):=by
 rcases De a b with h | h | h
 ·rw [Dz h];omega
 ·rw [h,EL];omega
 ·rw [DM h];omega
theorem Ut (s t:Bool) (v u:Value) (xs ys:List Int) (m n:Int) (w:World) (hv:Sl w v xs) (hu:Sl w u ys) (hx:Ef 10 xs m) (hy:Ef 10 ys n) (hlx:xs.length<=1000) (hly:ys.length<=1000) :
  Calls Tryz.prog 96 #[.bool s,v,.bool t,u] w (DA w fun r _=>r=EY true (sgn s m+sgn t n)):=by
 have hm0:=hx.nonneg Ae
 have hn0:=hy.nonneg Ae
 have lz:∀ zs k,Ef 10 zs k->k<=m+n->zs.length<=10000:=fun zs k hz hk=>hz.length_le Ae (Int.lt_of_le_of_lt hk (by
  have h1:=hx.lt Ae;have h2:=hy.lt Ae;have h3:=Fk (b:=10) Ae hlx;have h4:=Fk (b:=10) Ae hly;have h5:(10:Int) ^ 1001=10 ^ 1000*10:=Cx ..;have h6:=Fk (b:=10) Ae (show 1001<=10000 by decide);generalize (10:Int) ^ 1000=P at *
  generalize (10:Int) ^ 1001=Q at *
  generalize (10:Int) ^ 10000=R at *
  omega))
 have LZ:=A8 lz
 clear lz
 by_cases hst:s=t
 ·subst hst
  have HE:=A8 (show sgn s m+sgn s n=sgn s (m+n) by cases s <;> simp [sgn] <;> omega);have hsb:(s==s)=true:=by simp
  go_enter Tryz.func96,Tryz.ntmps96;go_wp2_with fail;refine (N1 _ _ xs ys m n _ hv hu hx hy Ad Ad).mono ?_;rintro e w1 ⟨⟨r,rfl,zs,hz,hnz⟩,hb⟩;have hl:=LZ.out zs _ hnz Ad;go_wp2_with fail;refine (Fq s _ zs _ _ hz hnz Ad).mono ?_;rintro e w2 ⟨⟨r,rfl,rfl⟩,hb2⟩;obtain ⟨z,hzz⟩:∃ z,Hid (sgn s (m+n)=z):=⟨_,A8 rfl⟩;rw [hzz.out];cases hs:decide (Do z) with
  | true =>
   rw [Ey (Cs hs)];go_wp2;go_ret2;exact ⟨⟨_,rfl,by rw [HE.out,hzz.out];exact (Ey (Cs hs)).symm⟩,Dn hb2 hb (Aa _)⟩
  | false =>
   rw [Gt (Dh hs)];go_wp2;go_ret2;exact ⟨⟨_,rfl,by rw [HE.out,hzz.out];exact (Gt (Dh hs)).symm⟩,Dn hb2 hb (Aa _)⟩
 ·have hsb:(s==t)=false:=by simp [hst]
  have hst2:t=!s:=by cases s <;> cases t <;> simp_all
  clear hst;by_cases hle:n<=m
  ·have HE:=A8 (show sgn s m+sgn t n=sgn s (m-n) by rw [hst2];cases s <;> simp [sgn] <;> omega)
   have hc:=Pq.2 hle;have HC:=A8 (cmpL10 hx hy);clear hst2;go_enter Tryz.func96,Tryz.ntmps96;go_wp2_with fail;refine (HJ _ _ xs ys _ hv hu).mono ?_;rintro e w1 ⟨rfl,hb0⟩;rw [HC.out];generalize Lib.compareInt m n=c at *
   have hv1:=hv.below hb0;have hu1:=hu.below hb0;go_wp2_with fail;refine (Jz _ _ xs ys m n _ hv1 hu1 hx hy hle Ad).mono ?_;rintro e w2 ⟨⟨r,rfl,zs,hz,hnz⟩,hb⟩;have hl:=LZ.out zs _ hnz Ad;go_wp2_with fail;refine (Fq s _ zs _ _ hz hnz Ad).mono ?_;rintro e w3 ⟨⟨r,rfl,rfl⟩,hb2⟩;obtain ⟨z,hzz⟩:∃ z,Hid (sgn s (m-n)=z):=⟨_,A8 rfl⟩;rw [hzz.out];cases hs:decide (Do z) with
   | true =>
    rw [Ey (Cs hs)];go_wp2;go_ret2;exact ⟨⟨_,rfl,by rw [HE.out,hzz.out];exact (Ey (Cs hs)).symm⟩,Dn hb2 (Dn hb hb0 (Aa _)) (Aa _)⟩
   | false =>
    rw [Gt (Dh hs)];go_wp2;go_ret2;exact ⟨⟨_,rfl,by rw [HE.out,hzz.out];exact (Gt (Dh hs)).symm⟩,Dn hb2 (Dn hb hb0 (Aa _)) (Aa _)⟩
  ·have hle2:m<=n:=by omega
   have HE:=A8 (show sgn s m+sgn t n=sgn t (n-m) by rw [hst2];cases s <;> simp [sgn] <;> omega);have HC:=A8 ((cmpL10 hx hy).trans (Dz Ad));clear hst2 hle;go_enter Tryz.func96,Tryz.ntmps96;go_wp2_with fail;refine (HJ _ _ xs ys _ hv hu).mono ?_;rintro e w1 ⟨rfl,hb0⟩;rw [HC.out];have hv1:=hv.below hb0;have hu1:=hu.below hb0;go_wp2_with fail;refine (Jz _ _ ys xs n m _ hu1 hv1 hy hx hle2 Ad).mono ?_;rintro e w2 ⟨⟨r,rfl,zs,hz,hnz⟩,hb⟩;have hl:=LZ.out zs _ hnz Ad;go_wp2_with fail;refine (Fq t _ zs _ _ hz hnz Ad).mono ?_;rintro e w3 ⟨⟨r,rfl,rfl⟩,hb2⟩;obtain ⟨z,hzz⟩:∃ z,Hid (sgn t (n-m)=z):=⟨_,A8 rfl⟩;rw [hzz.out];cases hs:decide (Do z) with
   | true =>
    rw [Ey (Cs hs)];go_wp2;go_ret2;exact ⟨⟨_,rfl,by rw [HE.out,hzz.out];exact (Ey (Cs hs)).symm⟩,Dn hb2 (Dn hb hb0 (Aa _)) (Aa _)⟩
   | false =>
    rw [Gt (Dh hs)];go_wp2;go_ret2;exact ⟨⟨_,rfl,by rw [HE.out,hzz.out];exact (Gt (Dh hs)).symm⟩,Dn hb2 (Dn hb hb0 (Aa _)) (Aa _)⟩
theorem len10 {xs:List Int} {z:Int} (h:Ef 10 xs z.natAbs) (hz:Do z):xs.length<=200:=h.length_le Ae (by unfold Do GU at hz;omega)
theorem radd_ok (a b:ByteArray) (ha:DK a=true) (hb:DK b=true) (hsa:a.size<=9223372036854775807) (hsb:b.size<=9223372036854775807) (w:World) :
  Calls Tryz.prog 58 #[.string a,.string b] w (DA w fun r _=>r=EY true (zS a+zS b)):=by
 have V1:=fun W=>DI a hsa W
 have V2:=fun W=>DI b hsb W
 have D1:=fun W=>Ek a ha W
 have D2:=fun W=>Ek b hb W
 have Sa:=Eq ha
 have Sb:=Eq hb
 rw [ha] at V1
 rw [hb] at V2
 go_enter Tryz.func58,Tryz.ntmps58
 go_wp2_with fail
 refine (V1 _).mono ?_
 rintro e w1 ⟨rfl,hb1⟩
 go_wp2_with fail
 refine (V2 _).mono ?_
 rintro e w2 ⟨rfl,hb2⟩
 have hB2:=Dn hb2 hb1 (Aa _)
 go_wp2_with fail
 refine (D1 _).mono ?_
 rintro e w3 ⟨⟨r,rfl,v,xs,rfl,hx,hnx⟩,hb3⟩
 have hB3:=Dn hb3 hB2 (Aa _)
 have lx:=len10 hnx Sa
 go_wp2_with fail
 refine (D2 _).mono ?_
 rintro e w4 ⟨⟨r,rfl,u,ys,rfl,hy,hny⟩,hb4⟩
 have hB4:=Dn hb4 hB3 (Aa _)
 have ly:=len10 hny Sb
 have hx4:=hx.below hb4
 go_wp2_with fail
 refine (Ut (decide (zS a<0)) (decide (zS b<0)) _ _ xs ys _ _ _ hx4 hy hnx hny Ad Ad).mono ?_
 rw [sgn_abs,sgn_abs]
 rintro e w5 ⟨⟨r,rfl,rfl⟩,hb5⟩
 obtain ⟨z,hzz⟩:∃ z,Hid (zS a+zS b=z):=⟨_,A8 rfl⟩
 rw [hzz.out]
 cases hs:decide (Do z) with
 | true =>
  rw [Ey (Cs hs)];go_wp2;go_ret2;exact ⟨⟨_,rfl,by rw [hzz.out];exact (Ey (Cs hs)).symm⟩,Dn hb5 hB4 (Aa _)⟩
 | false =>
  rw [Gt (Dh hs)];go_wp2;go_ret2;exact ⟨⟨_,rfl,by rw [hzz.out];exact (Gt (Dh hs)).symm⟩,Dn hb5 hB4 (Aa _)⟩
theorem Uu (a b:ByteArray) (h:DK a=false∨DK b=false) (hsa:a.size<=9223372036854775807) (hsb:b.size<=9223372036854775807) (w:World) :
  Calls Tryz.prog 58 #[.string a,.string b] w (DA w fun r _=>r=EY false 0):=by
 have V1:=fun W=>DI a hsa W
 have V2:=fun W=>DI b hsb W
 cases ha:DK a with
 | false =>
  rw [ha] at V1;go_enter Tryz.func58,Tryz.ntmps58;go_wp2_with fail;refine (V1 _).mono ?_;rintro e w1 ⟨rfl,hb1⟩;go_wp2;go_ret2;exact ⟨⟨_,rfl,rfl⟩,hb1⟩
 | true =>
  have hb:DK b=false:=by rcases h with h | h;rw [ha] at h;cases h;exact h
  rw [ha] at V1;rw [hb] at V2;go_enter Tryz.func58,Tryz.ntmps58;go_wp2_with fail;refine (V1 _).mono ?_;rintro e w1 ⟨rfl,hb1⟩;go_wp2_with fail;refine (V2 _).mono ?_;rintro e w2 ⟨rfl,hb2⟩;go_wp2;go_ret2;exact ⟨⟨_,rfl,rfl⟩,(Dn hb2 hb1 (Aa _))⟩
theorem Pr (a b:ByteArray) (hsa:a.size<=9223372036854775807) (hsb:b.size<=9223372036854775807) (w:World) :
  Calls Tryz.prog 58 #[.string a,.string b] w (DA w fun r _=>r=EY (DK a&&DK b) (zS a+zS b)):=by
 by_cases h:DK a=true/\DK b=true
 ·rw [h.1,h.2];exact radd_ok a b h.1 h.2 hsa hsb w
 ·rw [(E3 h).1,QH _ 0];exact Uu a b (E3 h).2 hsa hsb w
theorem rcmp_ok (a b:ByteArray) (ha:DK a=true) (hb:DK b=true) (hsa:a.size<=9223372036854775807) (hsb:b.size<=9223372036854775807) (w:World) :
  Calls Tryz.prog 67 #[.string a,.string b] w fun e w'=>e=.returned (.int .i64 (Lib.compareInt (zS a) (zS b)))/\Below w.heap.size w w':=by
 have V1:=fun W=>DI a hsa W
 have V2:=fun W=>DI b hsb W
 have D1:=fun W=>Ek a ha W
 have D2:=fun W=>Ek b hb W
 rw [ha] at V1
 rw [hb] at V2
 go_enter Tryz.func67,Tryz.ntmps67
 go_wp2_with fail
 refine (V1 _).mono ?_
 rintro e w1 ⟨rfl,hb1⟩
 go_wp2_with fail
 refine (V2 _).mono ?_
 rintro e w2 ⟨rfl,hb2⟩
 have hB2:=Dn hb2 hb1 (Aa _)
 go_wp2_with fail
 refine (D1 _).mono ?_
 rintro e w3 ⟨⟨r,rfl,v,xs,rfl,hx,hnx⟩,hb3⟩
 have hB3:=Dn hb3 hB2 (Aa _)
 go_wp2_with fail
 refine (D2 _).mono ?_
 rintro e w4 ⟨⟨r,rfl,u,ys,rfl,hy,hny⟩,hb4⟩
 have hB4:=Dn hb4 hB3 (Aa _)
 have hx4:=hx.below hb4
 clear hb1 hb2 hb3 hb4 hB2 hB3 hx
 by_cases na:zS a<0
 ·have da:decide (zS a<0)=true:=by simp [na]
  rw [da];by_cases nb:zS b<0
  ·have db:decide (zS b<0)=true:=by simp [nb]
   have hc:=A8 ((cmpL10 hny hnx).trans (cmp_neg na nb));rw [db];clear na nb da db hnx hny;go_wp2_with fail;refine (HJ _ _ ys xs _ hy hx4).mono ?_;rintro e w5 ⟨rfl,hb5⟩;rw [hc.out];go_wp2;go_ret;exact ⟨rfl,Dn hb5 hB4 (Aa _)⟩
  ·have db:decide (zS b<0)=false:=by simp [nb]
   have hc:=A8 (Dz (a:=zS a) (b:=zS b) Ad);rw [db];clear na nb da db hnx hny;go_wp2;go_ret;exact ⟨ER hc.out.symm,hB4⟩
 ·have da:decide (zS a<0)=false:=by simp [na]
  rw [da];by_cases nb:zS b<0
  ·have db:decide (zS b<0)=true:=by simp [nb]
   have hc:=A8 (DM (a:=zS a) (b:=zS b) Ad);rw [db];clear na nb da db hnx hny;go_wp2;go_ret;exact ⟨ER hc.out.symm,hB4⟩
  ·have db:decide (zS b<0)=false:=by simp [nb]
   have hc:=A8 ((cmpL10 hnx hny).trans (cmp_pos na nb));rw [db];clear na nb da db hnx hny;go_wp2_with fail;refine (HJ _ _ xs ys _ hx4 hy).mono ?_;rintro e w5 ⟨rfl,hb5⟩;rw [hc.out];go_wp2;go_ret;exact ⟨rfl,Dn hb5 hB4 (Aa _)⟩
end
end Go.Proofs.YtioamkekjjkigaaGreatDoor
