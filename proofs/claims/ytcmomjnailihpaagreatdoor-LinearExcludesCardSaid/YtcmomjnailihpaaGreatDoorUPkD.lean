/- PkD, PkE, PkF -/
import Derived.Test.YtcmomjnailihpaaGreatDoorUPkC
import Derived.Lib.UnsafeStr
import Derived.Laws.IdiomStrings
import Derived.Deep.RegionHeld3
import Derived.Deep.DeepCutAuto
import Derived.Laws.Small
set_option maxHeartbeats 8000000
set_option maxRecDepth 100000
/- Div. -/
namespace Go.Proofs.YtcmomjnailihpaaGreatDoor
section
open Go.RowKit
attribute [local go_sem] Oper.semAt_some
theorem one_any (w:World):Calls Tryz.prog 99 #[] w (Gives w fun r w'=>∃ b,r=.slice (some ⟨b,0,none⟩) 1 1∧Sl w' r [1]):=by
 go_enter Tryz.func99,Tryz.ntmps99
 go_wp2
 go_ret
 exact ⟨⟨_,rfl,_,rfl,Sl.of_own (Gk w 1)⟩,(Below.refl _ _).alloc (Aa _) _⟩
def divT (ok:Bool) (x y:Int):Value:=if ok&&decide (y≠0) then .tuple #[.string ⟨(Lib.itoa (x / y)).toArray⟩,.string ⟨(Lib.itoa (x % y)).toArray⟩,.int .i64 0] else .tuple #[.string ⟨#[]⟩,.string ⟨#[]⟩,.int .i64 30]
theorem Kp (a b:ByteArray) (w:World) (hE:Env w) (ha:okS a=true) (hb:okS b=true) (h0:zS b≠0) (hneg:¬ (zS a<0∧0<((zS a).natAbs:Int) % (zS b).natAbs)) :
  Calls Tryz.prog 61 #[.string a,.string b] w (Gives w fun r _=>r=divT true (zS a) (zS b)):=by
 have Ba:=BM ha
 have Bb:=BM hb
 have Pk:=fun W=>D6 a b W ha hb
 have hp:=FS (zS a) (zS b) h0
 have hsm:=DU (x:=zS a) (y:=zS b) Ba
 have hsm1:=hsm.1
 have hsm2:=hsm.2 h0 Bb
 have hr0:=Int.emod_nonneg (zS a) h0
 have he1:erz (zS a / zS b)=0:=if_pos hsm1
 have ht1:txt (zS a / zS b)=Lib.itoa (zS a / zS b):=if_pos hsm1
 have ht2:txt (zS a % zS b)=Lib.itoa (zS a % zS b):=if_pos hsm2
 rw [if_neg hneg,if_neg hneg] at hp
 go_enter Tryz.func61,Tryz.ntmps61
 go_wp2_with fail
 refine (Pk _).mono ?_
 rintro e W1 ⟨⟨r,rfl,v,u,rfl,⟨x,xs,rfl,hx,hnx⟩,⟨y,ys,rfl,hy,hny⟩⟩,hb1⟩
 have lx:=AL hnx (B4 Ba)
 have ly:=AL hny (B4 Bb)
 have hy0:((ys.length:Int)==0)=false:=by
  rw [beq_eq_false_iff_ne]
  intro e
  have:=(hny.zero_iff (by decide)).1 (List.eq_nil_of_length_eq_zero (by omega))
  omega
 obtain ⟨a1,c1,rfl⟩:=hx.shape
 obtain ⟨a2,c2,rfl⟩:=hy.shape
 have hm:(0:Int)<(zS b).natAbs:=by omega
 have hM:=A8 hneg
 clear hneg
 generalize hs:decide (zS a<0)=s at *
 generalize ht:decide (zS b<0)=t at *
 obtain ⟨W2,hW2,h1,h2,h3,h4,h5⟩:=Cp W1 s t (.slice a1 xs.length c1) (.slice a2 ys.length c2)
 go_wp2_with fail
 rw [←hW2]
 clear hW2
 refine (EI _ _ xs ys _ _ (hx.below h5) (hy.below h5) hnx.dig hny hm (by omega) (by omega)).mono ?_
 rintro e W3 ⟨⟨r,rfl,r1,r2,qs,rs,rfl,hq,hnq,hr,hnr⟩,hb3⟩
 rw [hnx.val] at hnq hnr
 obtain ⟨a3,c3,rfl⟩:=hq.shape
 obtain ⟨a4,c4,rfl⟩:=hr.shape
 have g1:=An hb3 h1
 have g2:=An hb3 h2
 have g3:=An hb3 h3
 have g4:=An hb3 h4
 have hb13:=Ad hb3 h5 (Aa _)
 have hbw:=Ad hb13 hb1 (Aa _)
 have lq:qs.length≤10000:=by
  have:=hnq.len_le (by decide) hnx (Int.ediv_le_self _ (by omega))
  omega
 have lr:rs.length≤10000:=by
  have:=hnr.len_le (by decide) hny (Int.le_of_lt (Int.emod_lt_of_pos _ hm))
  omega
 have hE3:=hE.below hbw (Aa _)
 have hcond:s=true→¬ (0:Int)<(rs.length:Int):=by
  intro hst hl
  subst hst
  have hxn:zS a<0:=by simpa using hs
  have:¬ ((zS a).natAbs:Int) % (zS b).natAbs=0:=fun e=>by
   have:=(hnr.zero_iff (by decide)).2 e
   rw [this] at hl;simp at hl
  exact hM.out ⟨hxn,by have:=hnr.nonneg (by decide);omega⟩
 have hp1:sgn (!s==t) (((zS a).natAbs:Int) / (zS b).natAbs)=zS a / zS b:=hp.1
 have HH:=A8 (And.intro hp1 (And.intro hp.2 (And.intro ht1 (And.intro ht2 he1))))
 have Hy0:=A8 h0
 have lx':=lx
 clear hp hp1 hs ht hsm hsm1 hsm2 he1 ht1 ht2 hr0 hy0 lx ly lx' Ba Bb hm h0
 cases s
 ·go_wp2_with fail
  have hp1:sgn t (((zS a).natAbs:Int) / (zS b).natAbs)=zS a / zS b:=by have:=HH.out.1;cases t <;> exact this
  have he:erz (sgn t (((zS a).natAbs:Int) / (zS b).natAbs))=0:=by rw [hp1];exact HH.out.2.2.2.2
  have hR:sgn false (((zS a).natAbs:Int) % (zS b).natAbs)=zS a % zS b:=HH.out.2.1
  have hfv:(divT true (zS a) (zS b))=.tuple #[.string ⟨(txt (sgn t (((zS a).natAbs:Int) / (zS b).natAbs))).toArray⟩,.string ⟨(txt (sgn false (((zS a).natAbs:Int) % (zS b).natAbs))).toArray⟩,.int .i64 0]:=by
   rw [hp1,hR,HH.out.2.2.1,HH.out.2.2.2.1];unfold divT;rw [if_pos];simpa using Hy0.out
  have HF:=A8 hfv
  clear hp1 hR hfv
  refine (Bu t _ qs _ W3 hE3 hq hnq lq).mono ?_
  rintro e W4 ⟨rfl,hb4⟩
  rw [he]
  go_wp2_with fail
  refine (Bu false _ rs _ W4 (hE3.below hb4 (Aa _)) (hr.below hb4) hnr lr).mono ?_
  rintro e W5 ⟨rfl,hb5⟩
  go_wp2
  refine bodyPost_ret (v:=.tuple #[.string ⟨(txt (sgn t (((zS a).natAbs:Int) / (zS b).natAbs))).toArray⟩,.string ⟨(txt (sgn false (((zS a).natAbs:Int) % (zS b).natAbs))).toArray⟩,.int .i64 0]) (by simp [results,Tryz.results61,go_sem]) rfl ?_
  exact ⟨⟨_,rfl,HF.out.symm⟩,Ad hb5 (Ad hb4 hbw (Aa _)) (Aa _)⟩
 ·have hc2:=hcond rfl
  clear hcond
  go_wp2_with fail
  have hp1:sgn (!t) (((zS a).natAbs:Int) / (zS b).natAbs)=zS a / zS b:=by have:=HH.out.1;cases t <;> exact this
  have he:erz (sgn (!t) (((zS a).natAbs:Int) / (zS b).natAbs))=0:=by rw [hp1];exact HH.out.2.2.2.2
  have hR:sgn false (((zS a).natAbs:Int) % (zS b).natAbs)=zS a % zS b:=HH.out.2.1
  have hfv:(divT true (zS a) (zS b))=.tuple #[.string ⟨(txt (sgn (!t) (((zS a).natAbs:Int) / (zS b).natAbs))).toArray⟩,.string ⟨(txt (sgn false (((zS a).natAbs:Int) % (zS b).natAbs))).toArray⟩,.int .i64 0]:=by
   rw [hp1,hR,HH.out.2.2.1,HH.out.2.2.2.1];unfold divT;rw [if_pos];simpa using Hy0.out
  have HF:=A8 hfv
  clear hp1 hR hfv
  refine (Bu (!t) _ qs _ W3 hE3 hq hnq lq).mono ?_
  rintro e W4 ⟨rfl,hb4⟩
  rw [he]
  go_wp2_with fail
  refine (Bu false _ rs _ W4 (hE3.below hb4 (Aa _)) (hr.below hb4) hnr lr).mono ?_
  rintro e W5 ⟨rfl,hb5⟩
  go_wp2
  refine bodyPost_ret (v:=.tuple #[.string ⟨(txt (sgn (!t) (((zS a).natAbs:Int) / (zS b).natAbs))).toArray⟩,.string ⟨(txt (sgn false (((zS a).natAbs:Int) % (zS b).natAbs))).toArray⟩,.int .i64 0]) (by simp [results,Tryz.results61,go_sem]) rfl ?_
  exact ⟨⟨_,rfl,HF.out.symm⟩,Ad hb5 (Ad hb4 hbw (Aa _)) (Aa _)⟩
theorem dig_one:Dig 10000 [1]:=fun x hx=>by simp at hx;subst hx;omega
theorem JI:val 10000 [1]=1:=by simp [val]
theorem Kq (a b:ByteArray) (w:World) (hE:Env w) (ha:okS a=true) (hb:okS b=true) (h0:zS b≠0) (hneg:zS a<0∧0<((zS a).natAbs:Int) % (zS b).natAbs) :
  Calls Tryz.prog 61 #[.string a,.string b] w (Gives w fun r _=>r=divT true (zS a) (zS b)):=by
 have Ba:=BM ha
 have Bb:=BM hb
 have Pk:=fun W=>D6 a b W ha hb
 have hp:=FS (zS a) (zS b) h0
 have hsm:=DU (x:=zS a) (y:=zS b) Ba
 have hsm1:=hsm.1
 have hsm2:=hsm.2 h0 Bb
 have hr0:=Int.emod_nonneg (zS a) h0
 have he1:erz (zS a / zS b)=0:=if_pos hsm1
 have ht1:txt (zS a / zS b)=Lib.itoa (zS a / zS b):=if_pos hsm1
 have ht2:txt (zS a % zS b)=Lib.itoa (zS a % zS b):=if_pos hsm2
 rw [if_pos hneg,if_pos hneg] at hp
 go_enter Tryz.func61,Tryz.ntmps61
 go_wp2_with fail
 refine (Pk _).mono ?_
 rintro e W1 ⟨⟨r,rfl,v,u,rfl,⟨x,xs,rfl,hx,hnx⟩,⟨y,ys,rfl,hy,hny⟩⟩,hb1⟩
 have lx:=AL hnx (B4 Ba)
 have ly:=AL hny (B4 Bb)
 have hy0:((ys.length:Int)==0)=false:=by
  rw [beq_eq_false_iff_ne]
  intro e
  have:=(hny.zero_iff (by decide)).1 (List.eq_nil_of_length_eq_zero (by omega))
  omega
 obtain ⟨a1,c1,rfl⟩:=hx.shape
 obtain ⟨a2,c2,rfl⟩:=hy.shape
 have hm:(0:Int)<(zS b).natAbs:=by omega
 have hM:=A8 hneg
 clear hneg
 generalize hs:decide (zS a<0)=s at *
 generalize ht:decide (zS b<0)=t at *
 obtain ⟨W2,hW2,h1,h2,h3,h4,h5⟩:=Cp W1 s t (.slice a1 xs.length c1) (.slice a2 ys.length c2)
 go_wp2_with fail
 rw [←hW2]
 clear hW2
 refine (EI _ _ xs ys _ _ (hx.below h5) (hy.below h5) hnx.dig hny hm (by omega) (by omega)).mono ?_
 rintro e W3 ⟨⟨r,rfl,r1,r2,qs,rs,rfl,hq,hnq,hr,hnr⟩,hb3⟩
 rw [hnx.val] at hnq hnr
 obtain ⟨a3,c3,rfl⟩:=hq.shape
 obtain ⟨a4,c4,rfl⟩:=hr.shape
 have g1:=An hb3 h1
 have g2:=An hb3 h2
 have g3:=An hb3 h3
 have g4:=An hb3 h4
 have hb13:=Ad hb3 h5 (Aa _)
 have hbw:=Ad hb13 hb1 (Aa _)
 have hqs:=hnq.len_le (by decide) hnx (Int.ediv_le_self _ (by omega))
 have hrs:=hnr.len_le (by decide) hny (Int.le_of_lt (Int.emod_lt_of_pos _ hm))
 have lq1:qs.length≤100000:=by omega
 have ly1:ys.length≤100000:=by omega
 have hst:s=true:=by rw [←hs];simp [hM.out.1]
 have hcond:(0:Int)<(rs.length:Int):=by
  have:rs≠[]:=fun e=>by
   have:=(hnr.zero_iff (by decide)).1 e
   have:=hM.out.2
   omega
  have:=List.length_pos_iff.2 this
  omega
 have hle:val 10000 rs≤val 10000 ys:=by
  rw [hnr.val,hny.val];exact Int.le_of_lt (Int.emod_lt_of_pos _ hm)
 subst hst
 have hp1:sgn (!true==t) (((zS a).natAbs:Int) / (zS b).natAbs+1)=zS a / zS b:=hp.1
 have HH:=A8 (And.intro hp1 (And.intro hp.2 (And.intro ht1 (And.intro ht2 he1))))
 have Hy0:=A8 h0
 have lzs:∀ zs,Num 10000 zs (val 10000 qs+val 10000 [1])→zs.length≤10000:=fun zs hz=>by
  rw [hnq.val,JI] at hz
  have h1:=hz.length_le (by decide) (m:=51) (by
   have h2:=Int.ediv_le_self ((zS b).natAbs:Int) (a:=((zS a).natAbs:Int)) (by omega)
   have h3:=B4 Ba
   have h4:Big+1≤(10000:Int) ^ 51:=by unfold Big;decide
   omega)
  omega
 have lzr:∀ zr,Num 10000 zr (val 10000 ys-val 10000 rs)→zr.length≤10000:=fun zr hz=>by
  have:=hz.len_le (by decide) hny (by rw [hny.val,hnr.val];have:=Int.emod_nonneg ((zS a).natAbs:Int) (b:=((zS b).natAbs:Int)) (by omega);omega)
  omega
 clear hp hp1 hs ht hsm hsm1 hsm2 he1 ht1 ht2 hr0 hy0 lx ly Ba Bb hm h0 hqs
 go_wp2_with fail
 have hb0:=AG (Below.refl W3.heap.size W3)
 go_region_held3 (fun w'=>w'.cell? ⟨W1.heap.size,0,none⟩=some (.bool true)∧w'.cell? ⟨W1.heap.size,1,none⟩=some (.slice a1 xs.length c1)∧w'.cell? ⟨W1.heap.size+1,0,none⟩=some (.bool t)∧w'.cell? ⟨W1.heap.size+1,1,none⟩=some (.slice a2 ys.length c2)∧Below W3.heap.size W3 w')
  (first | exact EM hbz3 (by assumption) | exact EM hbz2 (by assumption) | exact EM hbz1 ⟨g1,g2,g3,g4,hb0⟩ | exact ⟨g1,g2,g3,g4,hb0⟩ | assumption | go_keep)
  (first | (go_at_call 99;refine (one_any _).mono ?_;rintro e w4 ⟨⟨r,rfl,b1,rfl,hz1⟩,hbz1⟩;have hw4:=Ad hbz1 hb0 (Aa _)) | (go_at_call 98;refine (Dv _ _ qs [1] _ (hq.below hw4) hz1 hnq.dig dig_one lq1 (by decide)).mono ?_;rintro e w5 ⟨⟨r,rfl,zs,hz2,hz3,_⟩,hbz2⟩;obtain ⟨a5,c5,rfl⟩:=hz2.shape;have hw5:=Ad hbz2 hw4 (Aa _)) | (go_at_call 100;refine (Cl _ _ ys rs _ (hy.below (Ad hw5 hb13 (Aa _))) (hr.below hw5) hny.dig hnr.dig ly1 hrs hle).mono ?_;rintro e w6 ⟨⟨r,rfl,zr,hz6,hz7,_⟩,hbz3⟩;obtain ⟨a6,c6,rfl⟩:=hz6.shape;have hw6:=Ad hbz3 hw5 (Aa _)))
 have hh:w6.cell? ⟨W1.heap.size,0,none⟩=some (.bool true)∧w6.cell? ⟨W1.heap.size,1,none⟩=some (.slice a1 xs.length c1)∧w6.cell? ⟨W1.heap.size+1,0,none⟩=some (.bool t)∧w6.cell? ⟨W1.heap.size+1,1,none⟩=some (.slice a2 ys.length c2)∧Below W3.heap.size W3 w6:=by assumption
 obtain ⟨k1,k2,k3,k4,_⟩:=hh
 have l1:=lzs _ hz3
 have l2:=lzr _ hz7
 have hz26:=hz2.below hbz3
 rw [hnq.val,JI] at hz3
 rw [hny.val,hnr.val] at hz7
 have hbw6:=Ad hw6 hbw (Aa _)
 have hE6:=hE.below hbw6 (Aa _)
 have hp1:sgn (!t) (((zS a).natAbs:Int) / (zS b).natAbs+1)=zS a / zS b:=by have:=HH.out.1;cases t <;> exact this
 have he:erz (sgn (!t) (((zS a).natAbs:Int) / (zS b).natAbs+1))=0:=by rw [hp1];exact HH.out.2.2.2.2
 have hR:sgn false (((zS b).natAbs:Int)-((zS a).natAbs:Int) % (zS b).natAbs)=zS a % zS b:=HH.out.2.1
 have hfv:(divT true (zS a) (zS b))=.tuple #[.string ⟨(txt (sgn (!t) (((zS a).natAbs:Int) / (zS b).natAbs+1))).toArray⟩,.string ⟨(txt (sgn false (((zS b).natAbs:Int)-((zS a).natAbs:Int) % (zS b).natAbs))).toArray⟩,.int .i64 0]:=by
  rw [hp1,hR,HH.out.2.2.1,HH.out.2.2.2.1];unfold divT;rw [if_pos];simpa using Hy0.out
 have HF:=A8 hfv
 have He:=A8 he
 clear hp1 hR hfv he lzs lzr hle hcond hnq hnr hny hnx g1 g2 g3 g4 h1 h2 h3 h4
 generalize ((zS a).natAbs:Int) / (zS b).natAbs+1=Q at *
 generalize ((zS b).natAbs:Int)-((zS a).natAbs:Int) % (zS b).natAbs=R at *
 go_wp2_with fail
 refine (Bu (!t) _ zs Q w6 hE6 hz26 hz3 l1).mono ?_
 rintro e w7 ⟨rfl,hb7⟩
 rw [He.out]
 go_wp2_with fail
 refine (Bu false _ zr R w7 (hE6.below hb7 (Aa _)) (hz6.below hb7) hz7 l2).mono ?_
 rintro e w8 ⟨rfl,hb8⟩
 go_wp2
 refine bodyPost_ret (v:=.tuple #[.string ⟨(txt (sgn (!t) Q)).toArray⟩,.string ⟨(txt (sgn false R)).toArray⟩,.int .i64 0]) (by simp [results,Tryz.results61,go_sem]) rfl ?_
 exact ⟨⟨_,rfl,HF.out.symm⟩,Ad hb8 (Ad hb7 hbw6 (Aa _)) (Aa _)⟩
/- Div,where one of the strings is no integer. -/
theorem div_bad (a b:ByteArray) (w:World) (h:okS a=false∨okS b=false) :
  Calls Tryz.prog 61 #[.string a,.string b] w (Gives w fun r _=>r=divT false 0 0):=by
 have Pk:=fun W=>DB a b W h
 go_enter Tryz.func61,Tryz.ntmps61
 go_wp2_with fail
 refine (Pk _).mono ?_
 rintro e W1 ⟨⟨r,rfl,rfl⟩,hb1⟩
 go_wp2
 refine bodyPost_ret (v:=.tuple #[.string ⟨#[]⟩,.string ⟨#[]⟩,.int .i64 30]) (by simp [results,Tryz.results61,go_sem]) rfl ?_
 exact ⟨⟨_,rfl,rfl⟩,Ad (BZ W1 _ _) hb1 (Aa _)⟩
/- Div by zero. -/
theorem Ly (a b:ByteArray) (w:World) (ha:okS a=true) (hb:okS b=true) (h0:zS b=0) :
  Calls Tryz.prog 61 #[.string a,.string b] w (Gives w fun r _=>r=divT true (zS a) 0):=by
 have Pk:=fun W=>D6 a b W ha hb
 rw [h0] at Pk
 go_enter Tryz.func61,Tryz.ntmps61
 go_wp2_with fail
 refine (Pk _).mono ?_
 rintro e W1 ⟨⟨r,rfl,v,u,rfl,⟨x,xs,rfl,hx,hnx⟩,⟨y,ys,rfl,hy,hny⟩⟩,hb1⟩
 have e0:ys=[]:=(hny.zero_iff (by decide)).2 rfl
 subst e0
 obtain ⟨a1,c1,rfl⟩:=hx.shape
 obtain ⟨a2,c2,rfl⟩:=hy.shape
 generalize hs:decide (zS a<0)=s at *
 generalize ht:decide ((0:Int)<0)=t at *
 obtain ⟨W2,hW2,h1,h2,h3,h4,h5⟩:=Cp W1 s t (.slice a1 xs.length c1) (.slice a2 ([]:List Int).length c2)
 simp only [List.length_nil] at h4 hW2
 go_wp2_with fail
 rw [←hW2]
 clear hW2 hs ht
 go_wp2
 refine bodyPost_ret (v:=.tuple #[.string ⟨#[]⟩,.string ⟨#[]⟩,.int .i64 30]) (by simp [results,Tryz.results61,go_sem]) rfl ?_
 exact ⟨⟨_,rfl,by simp [divT]⟩,Ad h5 hb1 (Aa _)⟩
theorem div_any (a b:ByteArray) (w:World) (hE:Env w) :
  Calls Tryz.prog 61 #[.string a,.string b] w (Gives w fun r _=>r=divT (okS a&&okS b) (zS a) (zS b)):=by
 by_cases h:okS a=true∧okS b=true
 ·rw [h.1,h.2]
  by_cases h0:zS b=0
  ·rw [h0];exact Ly a b w h.1 h.2 h0
  ·by_cases hneg:zS a<0∧0<((zS a).natAbs:Int) % (zS b).natAbs
   ·exact Kq a b w hE h.1 h.2 h0 hneg
   ·exact Kp a b w hE h.1 h.2 h0 hneg
 ·rw [(B6 h).1]
  exact (div_bad a b w (B6 h).2).mono fun _ _ h=>h
end
end Go.Proofs.YtcmomjnailihpaaGreatDoor
/- Gcd. -/
namespace Go.Proofs.YtcmomjnailihpaaGreatDoor
section
open Go.RowKit
attribute [local go_sem] Oper.semAt_some
def rdSl (w:World) (v:Value):List Int:=match v with
 | .slice (some a) n _=>(List.range n).map fun j=>match w.cell? ⟨a.block,a.off+j,none⟩ with
  | some (.int _ z)=>z
  | _=>0
 | _=>[]
theorem Sl.rd {w:World} {v:Value} {xs:List Int} (h:Sl w v xs):rdSl w v=xs:=by
 rcases h with ⟨rfl,rfl⟩ | ⟨b,off,cap,rfl,h1,h2,h3,h4⟩
 ·rfl
 ·unfold rdSl
  apply List.ext_getElem
  ·simp
  ·intro i h5 h6
   simp only [List.getElem_map,List.getElem_range]
   rw [h4 i h6,Bo h6]
theorem Gz {xs:List Int} {n:Int} (h:Num 10000 xs n) (hn:n<Big):xs.length≤50:=AL h hn
theorem gcd_ok (a b:ByteArray) (w:World) (hE:Env w) (ha:okS a=true) (hb:okS b=true) :
  Calls Tryz.prog 60 #[.string a,.string b] w (Gives w fun r _=>r=resT true (gcdZ (zS a) (zS b))):=by
 have Ba:=BM ha
 have Bb:=BM hb
 have Pk:=fun W=>D6 a b W ha hb
 have G0:=A8 (Lx (zS a) (zS b))
 go_enter Tryz.func60,Tryz.ntmps60
 go_wp2_with fail
 refine (Pk _).mono ?_
 rintro e W1 ⟨⟨r,rfl,v,u,rfl,⟨x,xs,rfl,hx,hnx⟩,⟨y,ys,rfl,hy,hny⟩⟩,hb1⟩
 have Bx:=B4 Ba
 have By:=B4 Bb
 obtain ⟨a1,c1,rfl⟩:=hx.shape
 obtain ⟨a2,c2,rfl⟩:=hy.shape
 generalize hs:decide (zS a<0)=s at *
 generalize ht:decide (zS b<0)=t at *
 obtain ⟨W2,hW2,h1,h2,h3,h4,h5⟩:=Cp W1 s t (.slice a1 xs.length c1) (.slice a2 ys.length c2)
 go_wp2_with fail
 rw [←hW2]
 clear hW2 hs ht
 go_quiet (fail)
 go_wp2_with fail
 have hW:Below w.heap.size w (W2.drewN nq):=Ad (Ac _ _) (Ad h5 hb1 (Aa _)) (Aa _)
 have hx2:=(hx.below h5).drewN nq
 have hy2:=(hy.below h5).drewN nq
 clear h1 h2 h3 h4 h5 hx hy
 go_loopw [9,10] (fun k l wr=>∃ a3 c3 a4 c4 ks ls m n,k=.slice a3 ks.length c3∧l=.slice a4 ls.length c4∧Sl wr (.slice a3 ks.length c3) ks∧Sl wr (.slice a4 ls.length c4) ls∧Num 10000 ks m∧Num 10000 ls n∧m<Big∧n<Big ∧
   Hid (gcdZ m n=gcdZ (zS a) (zS b))∧Below w.heap.size w wr)
  (fun _ l wr=>(val 10000 (rdSl wr l)).toNat)
 case atStart=>exact ⟨_,_,_,_,_,_,_,_,rfl,rfl,hx2,hy2,hnx,hny,Bx,By,G0.out,hW⟩
 case round =>
  clear hx2 hy2 hnx hny Bx By hW G0 Ba Bb
  obtain ⟨a3,c3,a4,c4,ks,ls,m,n,rfl,rfl,hk,hl,hnk,hnl,Bm,Bn,hG,hW⟩:=hrel
  by_cases h0:0<ls.length
  ·have hn0:0<n:=by
    have:=hnl.nonneg (by decide)
    have h1:¬ n=0:=fun e=>by have:=(hnl.zero_iff (by decide)).2 e;rw [this] at h0;simp at h0
    omega
   have hm0:=hnk.nonneg (by decide)
   have lk:=Gz hnk Bm
   have ll:=Gz hnl Bn
   have hrd:=A8 hl.rd
   go_wp2_with fail
   refine (EI _ _ ks ls n _ hk hl hnk.dig hnl hn0 (by omega) (by omega)).mono ?_
   rintro e w2 ⟨⟨r,rfl,r1,r2,qs,rs,rfl,hq,hnq,hr,hnr⟩,hb2⟩
   rw [hnk.val] at hnq hnr
   obtain ⟨a5,c5,rfl⟩:=hq.shape
   obtain ⟨a6,c6,rfl⟩:=hr.shape
   have hlt:=Int.emod_lt_of_pos m hn0
   have hmod:=Int.emod_nonneg m (by omega:n≠0)
   have hl2:=hl.below hb2
   have hrd2:=A8 hr.rd
   have hW2:=Ad hb2 hW (Aa _)
   go_wp2
   go_roundw
   case rel=>exact ⟨_,_,_,_,ls,rs,n,m % n,rfl,rfl,hl2,hr,hnl,hnr,Bn,by omega,(Kn hm0 hn0).trans hG.out,hW2⟩
   case measure =>
    show (val 10000 (rdSl _ _)).toNat<(val 10000 (rdSl _ _)).toNat
    rw [hrd.out,hrd2.out,hnl.val,hnr.val]
    omega
  ·have e0:ls=[]:=List.eq_nil_of_length_eq_zero (by omega)
   have en:=(hnl.zero_iff (by decide)).1 e0
   subst e0 en
   have hm0:=hnk.nonneg (by decide)
   have hf:sgn false m=gcdZ (zS a) (zS b):=by rw [←hG.out,Ko hm0];rfl
   have HF:=A8 hf
   have lk:=Gz hnk Bm
   have hE2:=hE.below hW (Aa _)
   clear hf hG
   go_wp2_with fail
   refine (Bu false _ ks m _ hE2 hk hnk (by omega)).mono ?_
   rintro e w2 ⟨rfl,hb2⟩
   rw [HF.out]
   go_wp2
   go_ret2
   exact ⟨⟨_,rfl,rfl⟩,Ad hb2 hW (Aa _)⟩
theorem gcd_bad (a b:ByteArray) (w:World) (h:okS a=false∨okS b=false) :
  Calls Tryz.prog 60 #[.string a,.string b] w (Gives w fun r _=>r=resT false 0):=by
 have Pk:=fun W=>DB a b W h
 go_enter Tryz.func60,Tryz.ntmps60
 go_wp2_with fail
 refine (Pk _).mono ?_
 rintro e W1 ⟨⟨r,rfl,rfl⟩,hb1⟩
 go_wp2
 go_ret2
 exact ⟨⟨_,rfl,rfl⟩,Ad (BZ W1 _ _) hb1 (Aa _)⟩
theorem J3 (x y:Int):resT false x=resT false y:=rfl
theorem gcd_any (a b:ByteArray) (w:World) (hE:Env w) :
  Calls Tryz.prog 60 #[.string a,.string b] w (Gives w fun r _=>r=resT (okS a&&okS b) (gcdZ (zS a) (zS b))):=by
 by_cases h:okS a=true∧okS b=true
 ·rw [h.1,h.2];exact gcd_ok a b w hE h.1 h.2
 ·rw [(B6 h).1,J3 (gcdZ (zS a) (zS b)) 0];exact gcd_bad a b w (B6 h).2
theorem GA (w:World) (t:TypeId) (ht:Tryz.prog.underlying t=some (.slice 3)) (kl kc:IntKind) (n:Nat) (hn:n≤1000000) :
  ∃ w',(Instr.makeSlice t (.int kl n) (.int kc n)).run Tryz.prog w=.ok (.slice (some ⟨w.heap.size,0,none⟩) n n) w'∧w'.ownsRow w.heap.size 3 1 (.slice (some ⟨w.heap.size,0,none⟩) n n) n ((List.replicate n (0:Int)).map (Value.int .i64))∧Below w.heap.size w w':=by
 obtain ⟨i0,hi,hz0,hz1,hz2⟩:=info_parts Bt
 obtain ⟨w',hrun,r1,r2⟩:=run_make_full (P:=Tryz.prog) w w.heap.size t 3 i0 (.int .i64 0) 1 ht hi hz0 hz1 kl kc n (by rw [hz2];omega) (by unfold maxLen;omega) (Aa _)
 exact ⟨w',hrun,by rw [←Db];exact r1,(Below.refl _ w).grown r2 (Aa _) (fun k e=>by cases e)⟩
end
end Go.Proofs.YtcmomjnailihpaaGreatDoor
/- The contracts of package integer on the texts of integers. -/
namespace Go.Proofs.YtcmomjnailihpaaGreatDoor
section
open Go.RowKit
attribute [local go_sem] Oper.semAt_some
def I (z:Int):ByteArray:=⟨(Lib.itoa z).toArray⟩
theorem BS {z:Int} (h:Small z):okS (I z)=true:=IR h.1 h.2
theorem BA (z:Int):zS (I z)=z:=(DR z).1
def Bd (k:Nat) (z:Int):Prop:=-(10 ^ k)<z∧z<10 ^ k
theorem Bd.small {k:Nat} {z:Int} (h:Bd k z) (hk:k≤200):Small z:=by
 have:=CV (b:=10) (by decide) hk
 unfold Small Big;unfold Bd at h;omega
theorem Bd.mono {j k:Nat} {z:Int} (h:Bd j z) (hk:j≤k):Bd k z:=by
 have:=CV (b:=10) (by decide) hk
 unfold Bd at *;omega
theorem Bd.add {k:Nat} {x y:Int} (h:Bd k x) (g:Bd k y):Bd (k+1) (x+y):=by
 have:(10:Int) ^ (k+1)=10 ^ k*10:=Int.pow_succ ..
 unfold Bd at *;omega
theorem Bd.sub {k:Nat} {x y:Int} (h:Bd k x) (g:Bd k y):Bd (k+1) (x-y):=by
 have:(10:Int) ^ (k+1)=10 ^ k*10:=Int.pow_succ ..
 unfold Bd at *;omega
theorem Bd.abs {k:Nat} {x:Int}:Bd k x↔(x.natAbs:Int)<10 ^ k:=by unfold Bd;omega
theorem Bd.nat {k:Nat} {x:Int}:Bd k x↔x.natAbs<10 ^ k:=by
 rw [Bd.abs,show ((10:Int) ^ k)=((10 ^ k:Nat):Int) by simp];omega
theorem Bd.mul {j k:Nat} {x y:Int} (h:Bd j x) (g:Bd k y):Bd (j+k) (x*y):=by
 rw [Bd.nat] at *
 rw [Int.natAbs_mul,Nat.pow_add]
 exact Nat.mul_lt_mul'' h g
theorem Bd.neg {k:Nat} {x:Int} (h:Bd k x):Bd k (-x):=by unfold Bd at *;omega
theorem Bd.gcd {k:Nat} {x y:Int} (h:Bd k x) (g:Bd k y):Bd k (gcdZ x y):=by
 rw [Bd.nat] at *
 unfold gcdZ
 rw [Int.natAbs_natCast]
 by_cases h0:x=0
 ·subst h0;rw [Int.zero_gcd];exact g
 ·exact Nat.lt_of_le_of_lt (Int.gcd_le_natAbs_left y h0) h
theorem FV {z:Int} (h:Small z):txt z=Lib.itoa z:=if_pos h
theorem Kr {z:Int} (h:Small z):erz z=0:=if_pos h
theorem txt_big {z:Int} (h:¬ Small z):txt z=[]:=if_neg h
theorem erz_big {z:Int} (h:¬ Small z):erz z=30:=if_neg h
theorem BE {z:Int} (h:Small z):resT true z=.tuple #[.string (I z),.int .i64 0]:=by unfold resT;rw [if_pos rfl,FV h,Kr h];rfl
theorem Lz {z:Int} (h:¬ Small z):resT true z=.tuple #[.string ⟨#[]⟩,.int .i64 30]:=by unfold resT;rw [if_pos rfl,txt_big h,erz_big h]
def Rets (w:World) (v:Value):Ending→World→Prop:=fun e w'=>e=.returned v∧Below w.heap.size w w'
theorem Rets.of {f:FuncId} {args:Array Value} {w:World} {u v:Value} (h:Calls Tryz.prog f args w (Gives w fun r _=>r=u)) (e:u=v):Calls Tryz.prog f args w (Rets w v) :=
 h.mono fun _ _ ⟨⟨r,h1,h2⟩,hb⟩=>⟨by rw [h1,h2,e],hb⟩
section
variable {x y:Int} {a b:ByteArray} (ha:a=I x) (hb:b=I y) (hx:Small x) (hy:Small y) (w:World) (hE:Env w)
include ha hb hx hy hE
end
end
end Go.Proofs.YtcmomjnailihpaaGreatDoor
/- Lists of decimal digits as texts (no program). -/
namespace Go.Proofs.YtcmomjnailihpaaGreatDoor
section
open Go.RowKit
def dig8 (x:Int):UInt8:=UInt8.ofNat (48+x.toNat)
theorem DC {x:Int} (h0:0≤x) (h1:x<10):((dig8 x).toNat:Int)=48+x:=by
 unfold dig8;rw [AV (by omega)];omega
def digits8 (xs:List Int):List UInt8:=xs.reverse.map dig8
theorem DD (x:Int) (xs:List Int):digits8 (x :: xs)=digits8 xs++[dig8 x]:=by simp [digits8]
theorem Ei (xs:List Int):(digits8 xs).length=xs.length:=by simp [digits8]
theorem Hy {xs:List Int} (h:Dig 10 xs):∀ b∈digits8 xs,isD b=true:=by
 intro b hb
 obtain ⟨x,hx,rfl⟩:=List.mem_map.1 hb
 have h1:=h x (List.mem_reverse.1 hx)
 have:=DC h1.1 h1.2
 rw [BJ];omega
theorem HE {xs:List Int} (h:Dig 10 xs):(dnum (digits8 xs):Int)=val 10 xs:=by
 induction xs with
 | nil=>rfl
 | cons x xs ih =>
  have h1:=h.cons
  have h2:=DC h1.1.1 h1.1.2
  rw [DD,D4,val]
  have:=ih h1.2
  omega
theorem HG {xs:List Int} {n:Int} (h:Num 10 xs n) (h0:xs≠[]):digits8 xs=Lib.decDigits n.toNat∧0<n:=by
 have hn0:¬ n=0:=fun e=>h0 ((h.zero_iff (by decide)).2 e)
 have hn:=h.nonneg (by decide)
 have e:dnum (digits8 xs)=n.toNat:=by have:=HE h.dig;rw [h.val] at this;omega
 refine ⟨?_,by omega⟩
 rw [←e]
 refine (AX _ (Hy h.dig) (fun e=>h0 (by have:=congrArg List.length e;rw [Ei] at this;exact List.eq_nil_of_length_eq_zero (by simpa using this))) ?_).symm
 intro b hb
 obtain ⟨k,hk⟩:∃ k,xs.length=k+1:=by
  cases xs with
  | nil=>exact absurd rfl h0
  | cons x r=>exact ⟨r.length,rfl⟩
 have ht:=h.top k hk
 have hg:=h.dig.gi (by decide) k
 have hb':b=dig8 (gi xs k):=by
  rw [List.head?_eq_getElem?] at hb
  unfold digits8 at hb
  rw [List.getElem?_map,List.getElem?_reverse (by omega),hk,Nat.add_sub_cancel,Nat.sub_zero] at hb
  rw [Bo (by omega)]
  rw [List.getElem?_eq_getElem (by omega)] at hb
  simpa using hb.symm
 subst hb'
 have:=DC hg.1 hg.2
 omega
theorem HI {xs:List Int} {n:Int} (h:Num 10 xs n) (h0:xs≠[]) (neg:Bool):Lib.itoa (sgn neg n)=(if neg then [45] else [])++digits8 xs:=by
 obtain ⟨e,hp⟩:=HG h h0
 rw [e]
 cases neg
 ·rw [show sgn false n=n from rfl,Ao (by omega)];rfl
 ·rw [show sgn true n=-n from rfl,BR (by omega)]
  rw [show (-n).natAbs=n.toNat by omega];rfl
theorem Ks (neg:Bool):Lib.itoa (sgn neg 0)=[48]:=by
 have:sgn neg 0=0:=by cases neg <;> rfl
 rw [this,Ao (by decide)]
 exact Ap (by decide)
theorem HJ {xs:List Int} {k:Nat} (h:k<xs.length):digits8 (xs.drop k)=digits8 (xs.drop (k+1))++[dig8 (gi xs k)]:=by
 rw [Gw h,DD]
theorem EN (l:List UInt8) (b:UInt8):Lib.byteCells (l++[b])=Lib.byteCells l++[.int .u8 b.toNat]:=by simp [Lib.byteCells]
theorem FG (l:List UInt8):(Lib.byteCells l).length=l.length:=by simp [Lib.byteCells]
end
end Go.Proofs.YtcmomjnailihpaaGreatDoor
/- Facts for the tests of the laws. -/
namespace Go.Proofs.YtcmomjnailihpaaGreatDoor
section
open Go.RowKit
end
end Go.Proofs.YtcmomjnailihpaaGreatDoor
/- The reference: trim,text,Made. -/
namespace Go.Proofs.YtcmomjnailihpaaGreatDoor
section
open Go.RowKit
attribute [local go_sem] Oper.semAt_some
theorem ret_sb {s t:ByteArray} {p q:Bool} (h:s=t) (k:p=q):Ending.returned (.tuple #[.string s,.bool p])=.returned (.tuple #[.string t,.bool q]):=by rw [h,k]
theorem info_u8:(Tryz.prog.info? 5).map (fun i=>(i.zero,i.size,i.bytes))=some (some (.int .u8 0),1,1):=by kernel_rfl
theorem Kt {ops:Array Oper} {rest:List Oper} {o:Oper} {a:Act} {Q:Exit→Act→World→Prop} {wr:World} {base:Nat} {v:Value} {n:Nat} {l:List UInt8} (y:Int) (b:UInt8) (hy:y=b.toNat) (t:TypeId)
  (ht:Tryz.prog.underlying t=some (.slice 5)) (hgd:o.guard=none) (s x:Operand) (ho:o.op=.call { callee:=.builtin .append,args:=#[s,x],argTypes:=#[t,t] })
  (hs:a.eval s=v) (hx:a.eval x=.slice (some ⟨wr.heap.size,0,none⟩) 1 1) (hown:wr.ownsRow base 5 1 v n (Lib.byteCells l)) (hn:n+1≤1000000000000) (hbase:base≤wr.heap.size)
  (h:∀ g cap w',w'.ownsRow base 5 1 (.slice (some ⟨g,0,none⟩) (n+1) cap) (n+1) (Lib.byteCells (l++[b]))→(wr.alloc (.cells #[.int .u8 y] 5)).grownBy w' v.ownBlock→Below base wr w'→wpList Tryz.prog ops Q rest (a.put o.dst (.slice (some ⟨g,0,none⟩) (n+1) cap)) w') :
  wpList Tryz.prog ops Q (o :: rest) a (wr.alloc (.cells #[.int .u8 y] 5)):=by
 obtain ⟨i0,hi,hz0,hz1,hz2⟩:=info_parts info_u8
 refine wpList_append_own _ hgd s x t ho base 5 i0 (.int .u8 0) 1 1 ht hi hz0 hz1 hz2 rfl (by decide) v n _ hs (hown.alloc _) ⟨wr.heap.size,0,none⟩ 1 1 [.int .u8 y] hx rfl (by intro t u ht;match t,ht with | 0,ht=>simp at ht;subst ht;simp [Addr.add]) (by intro u hu;simp at hu;subst hu;rfl) (by unfold maxLen;omega) (by omega) (by simp;omega) ?_
 intro v' w' hown' hgrow hnil
 rcases hown'.2 with ⟨_,h0⟩ | ⟨g,cap,cur,rfl,hg⟩
 ·omega
 ·refine h g cap w' (by rw [EN,←hy];exact hown') hgrow ?_
  refine ((Below.refl base wr).alloc hbase _).grown hgrow (by simp;omega) (fun k hk=>?_)
  exact (hown.lt k hk).1
theorem HK {w:World} {base:Nat} {g cap n:Nat} {l:List UInt8} (hown:w.ownsRow base 5 1 (.slice (some ⟨g,0,none⟩) n cap) n (Lib.byteCells l)) (t:TypeId) (ht:Tryz.prog.underlying t=some (.slice 5)) :
  (convert t 9 (.slice (some ⟨g,0,none⟩) n cap)).run Tryz.prog w=.ok (.string ⟨l.toArray⟩) w:=by
 have hl:n=l.length:=by have:=hown.1;rw [FG] at this;omega
 subst hl
 refine run_convert_bytes_back w t 9 5 _ cap l ht (by kernel_rfl) (by kernel_rfl) ?_
 intro j hj
 exact hown.cells (g:=g) rfl j _ (by simp [Lib.byteCells,hj])
theorem Ku (w:World):(((w.alloc (.cells #[.int .u8 45] 5)).alloc (.cells (#[.int .u8 45]++Builtin.zeroCells #[.int .u8 0] ((Question.appendCap 1 0 5).cut (w.tape w.drawn (Question.appendCap 1 0 5))-1)) 5)).drew).ownsRow w.heap.size 5 1
  (.slice (some ⟨w.heap.size+1,0,none⟩) 1 ((Question.appendCap 1 0 5).cut (w.tape w.drawn (Question.appendCap 1 0 5)))) 1 (Lib.byteCells [45]):=by
 have h1:=grownCap_ge w 1 0 5
 have h2:=grownCap_le_maxLen w 1 0 5 (by unfold maxLen;omega)
 unfold grownCap at h1 h2
 generalize (Question.appendCap 1 0 5).cut (w.tape w.drawn (Question.appendCap 1 0 5))=C at *
 refine ⟨rfl,.inr ⟨w.heap.size+1,C,#[.int .u8 45]++Builtin.zeroCells #[.int .u8 0] (C-1),rfl,by omega,?_,h1,h2,?_,?_⟩⟩
 ·have:=World.alloc_heap_new (w.alloc (.cells #[.int .u8 45] 5)) (.cells (#[.int .u8 45]++Builtin.zeroCells #[.int .u8 0] (C-1)) 5)
  rw [World.size_alloc] at this
  exact this
 ·rw [Array.size_append,size_zeroCells];simp;omega
 ·simp [Lib.byteCells]
theorem HM (w:World) {A B:Obj}:Below w.heap.size w (((w.alloc A).alloc B).drew):=by
 have h:=((Below.refl _ w).alloc (Aa _) A).alloc (by simp) B
 exact ⟨h.os,h.tape,h.output,h.size,h.block⟩
theorem J4 (neg:Bool) (v:Value) (w:World) (hv:Sl w v []) :
  Calls Tryz.prog 74 #[.bool neg,v] w fun e w'=>e=.returned (.tuple #[.string ⟨#[48]⟩,.bool true])∧Below w.heap.size w w':=by
 obtain ⟨a1,c1,rfl⟩:=hv.shape
 go_enter Tryz.func74,Tryz.ntmps74
 go_wp2
 go_ret2
 exact ⟨rfl,Below.refl _ _⟩
theorem Kv (neg:Bool) (v:Value) (xs:List Int) (n:Int) (w:World) (hv:Sl w v xs) (hn:Num 10 xs n) (hl:xs.length≤1000000) (h0:xs.length≠0) :
  Calls Tryz.prog 74 #[.bool neg,v] w fun e w'=>e=.returned (.tuple #[.string ⟨(Lib.itoa (sgn neg n)).toArray⟩,.bool (decide (xs.length≤200))])∧Below w.heap.size w w':=by
 have Hd:=A8 (HI hn (fun e=>h0 (by rw [e];rfl)) neg)
 have hne:((xs.length:Int)==0)=false:=by rw [beq_eq_false_iff_ne];omega
 have Hdig:=A8 hn.dig
 rcases hv with ⟨rfl,rfl⟩ | ⟨bb,off,cap,rfl,h1,h2,h3,h4⟩
 ·exact absurd rfl h0
 unfold maxLen at h2
 have H4:=A8 h4
 have Hn0:=A8 h0
 clear h4 h0 hn
 go_enter Tryz.func74,Tryz.ntmps74
 have hb45:((45:UInt8).toNat:Int)=45:=rfl
 cases neg
 go_wp2
 have hown0:w.ownsRow w.heap.size 5 1 (.slice none 0 0) ([]:List UInt8).length (Lib.byteCells []):=World.ownsRow_nil _ _ _ _
 have hbw:Below w.heap.size w w:=Below.refl _ _
 obtain ⟨l0,hl0,hl1⟩:∃ l0:List UInt8,Hid (l0=[])∧l0.length≤1:=⟨[],rfl,by simp⟩
 rw [←hl0.out] at hown0
 rotate_left
 go_wp2
 have hown2:=Ku w
 have hbw:=HM w (A:=.cells #[.int .u8 45] 5) (B:=.cells (#[.int .u8 45]++Builtin.zeroCells #[.int .u8 0] ((Question.appendCap 1 0 5).cut (w.tape w.drawn (Question.appendCap 1 0 5))-1)) 5)
 generalize (Question.appendCap 1 0 5).cut (w.tape w.drawn (Question.appendCap 1 0 5))=cp at *
 generalize ((w.alloc (.cells #[.int .u8 45] 5)).alloc (.cells (#[.int .u8 45]++Builtin.zeroCells #[.int .u8 0] (cp-1)) 5)).drew=w2 at *
 obtain ⟨l0,hl0,hl1⟩:∃ l0:List UInt8,Hid (l0=[45])∧l0.length≤1:=⟨[45],rfl,by simp⟩
 have hown0:w2.ownsRow w.heap.size 5 1 (.slice (some ⟨w.heap.size+1,0,none⟩) 1 cp) l0.length (Lib.byteCells l0):=by rw [hl0.out];exact hown2
 clear hown2
 rotate_left
 all_goals
  go_loopw [6,7] (fun o i wr=>∃ (r:Nat) (q:Int) (l:List UInt8),r≤xs.length∧i=.int .i64 q∧Hid (q=(r:Int)-1)∧wr.ownsRow w.heap.size 5 1 o l.length (Lib.byteCells l)∧l.length+r≤xs.length+1∧Hid (l=l0++digits8 (xs.drop r))∧Below w.heap.size w wr)
   (fun _ i _=>(intOf i+1).toNat)
  case atStart=>exact ⟨xs.length,_,l0,Aa _,rfl,rfl,hown0,by omega,(show l0=l0++digits8 (xs.drop xs.length) by rw [List.drop_length,show digits8 []=[] from rfl,List.append_nil]),hbw⟩
  case round =>
   clear hown0 hbw
   obtain ⟨r,q,l,hr,rfl,hq,hown,hlen,hL,hB⟩:=hrel
   cases r with
   | zero =>
    obtain rfl:q=-1:=by have:=hq.out;omega
    rcases hown.2 with ⟨rfl,h00⟩ | ⟨g,cp,cur,rfl,hg⟩
    ·have:=congrArg List.length hL.out
     rw [List.length_append,Ei,List.drop_zero] at this
     exact absurd (by omega:xs.length=0) Hn0.out
    ·have hcv:=HK hown 132 Tryz.underlying132
     have hfin:=Hd.out.trans (show _=l by rw [hL.out,hl0.out];rfl)
     have HF:=A8 hfin
     clear hfin
     go_wp2
     go_ret2
     exact ⟨ret_sb (by rw [HF.out]) (decide_eq_decide.2 (by omega)),hB⟩
   | succ r =>
    obtain rfl:q=(r:Int):=by have:=hq.out;omega
    have hd:=Hdig.out.gi (by decide) r
    have hd0:=hd.1
    have hd1:=hd.2
    have hc:=(hB.cell (p:=⟨bb,off+r,none⟩) h3).trans (H4.out r (by omega))
    have h8:=DC hd0 hd1
    have H8:=A8 h8.symm
    have hrl:(r:Int)<(xs.length:Int):=by omega
    clear h8 hd
    go_wp2_with (at_builtin;refine Kt (48+gi xs r) (dig8 (gi xs r)) H8.out 132 Tryz.underlying132 rfl _ _ rfl rfl rfl hown (by omega) hB.size ?_;intro g cp w2 hown2 hg2 hb2)
    go_roundw
    case rel=>exact ⟨r,_,l++[dig8 (gi xs r)],by omega,rfl,rfl,(by rw [List.length_append];exact hown2),(by rw [List.length_append];simp;omega),(show l++[dig8 (gi xs r)]=l0++digits8 (xs.drop r) by rw [hL.out,HJ (k:=r) (by omega),List.append_assoc]),hB.trans hb2⟩
    case measure=>simp [intOf]
theorem FW (neg:Bool) (v:Value) (xs:List Int) (n:Int) (w:World) (hv:Sl w v xs) (hn:Num 10 xs n) (hl:xs.length≤1000000) :
  Calls Tryz.prog 74 #[.bool neg,v] w fun e w'=>e=.returned (.tuple #[.string ⟨(Lib.itoa (sgn neg n)).toArray⟩,.bool (decide (xs.length≤200))])∧Below w.heap.size w w':=by
 by_cases h0:xs.length=0
 ·obtain rfl:=List.eq_nil_of_length_eq_zero h0
  have:=(hn.zero_iff (by decide)).1 rfl
  subst this
  rw [Ks]
  exact J4 neg v w hv
 ·exact Kv neg v xs n w hv hn hl h0
end
end Go.Proofs.YtcmomjnailihpaaGreatDoor
/- The reference: order,plus,minus. -/
namespace Go.Proofs.YtcmomjnailihpaaGreatDoor
section
open Go.RowKit
attribute [local go_sem] Oper.semAt_some
theorem Sl.cellAt {w:World} {v:Value} {xs:List Int} (h:Sl w v xs) (h0:xs.length≠0):∃ b off cap,v=.slice (some ⟨b,off,none⟩) xs.length cap∧xs.length≤cap∧cap≤maxLen∧b<w.heap.size∧∀ j,j<xs.length→w.cell? ⟨b,off+j,none⟩=some (.int .i64 (gi xs j)):=by
 rcases h with ⟨_,rfl⟩ | h
 ·exact absurd rfl h0
 ·exact h
end
end Go.Proofs.YtcmomjnailihpaaGreatDoor
/- The reference: plus,minus. -/
namespace Go.Proofs.YtcmomjnailihpaaGreatDoor
section
open Go.RowKit
attribute [local go_sem] Oper.semAt_some
theorem Sl.place {w:World} {v:Value} {xs:List Int} (h:Sl w v xs):∃ (a:Option Addr) (b off cap:Nat),v=.slice a xs.length cap∧(0<xs.length→a=some ⟨b,off,none⟩∧b<w.heap.size)∧xs.length≤9223372036854775807∧∀ j,j<xs.length→w.cell? ⟨b,off+j,none⟩=some (.int .i64 (gi xs j)):=by
 have hl:=h.len_le
 unfold maxLen at hl
 rcases h with ⟨rfl,rfl⟩ | ⟨b,off,cap,rfl,h1,h2,h3,h4⟩
 ·exact ⟨none,0,0,0,rfl,fun h=>by simp at h,by simp,fun j hj=>by simp at hj⟩
 ·exact ⟨_,b,off,cap,rfl,fun _=>⟨rfl,h3⟩,by omega,h4⟩
theorem LA {zs:List Int} {d:Int} (h:d≠0):Hid (Top (zs++[d])):=by
 show Top _
 intro j hj
 have:j=zs.length:=by simp at hj;omega
 subst this
 simpa [gi] using h
end
end Go.Proofs.YtcmomjnailihpaaGreatDoor
/- The reference: Valid,digits,checked. -/
namespace Go.Proofs.YtcmomjnailihpaaGreatDoor
section
open Go.RowKit
attribute [local go_sem] Oper.semAt_some
theorem J5 {c:UInt8} (h:c≠45):((c.toNat:Int)==45)=false:=by
 refine beq_eq_false_iff_ne.2 (fun e=>h (UInt8.toNat_inj.1 ?_))
 have:(45:UInt8).toNat=45:=rfl
 omega
def DV (w:World) (r:Value) (z:Int):Prop:=∃ v xs,r=.tuple #[.bool (decide (z<0)),v]∧Sl w v xs∧Num 10 xs z.natAbs
/- putlogref03.checked. -/
end
end Go.Proofs.YtcmomjnailihpaaGreatDoor
/- The reference: sum,Add,Sub,Compare. -/
namespace Go.Proofs.YtcmomjnailihpaaGreatDoor
section
open Go.RowKit
attribute [local go_sem] Oper.semAt_some
end
end Go.Proofs.YtcmomjnailihpaaGreatDoor
/- The reference: times. -/
namespace Go.Proofs.YtcmomjnailihpaaGreatDoor
section
open Go.RowKit
attribute [local go_sem] Oper.semAt_some
def IB (w:World) (G:Nat) (xs:List Int):Prop:=Blk w G (xs.map (Value.int .i64)).toArray 3
theorem IB.cell {w:World} {G:Nat} {xs:List Int} (h:IB w G xs) {j:Nat} (hj:j<xs.length):w.cell? ⟨G,j,none⟩=some (.int .i64 (gi xs j)):=by
 have h':Blk w G _ _:=h
 rw [h'.cell j];simp [gi,hj]
theorem IB.frozen {w:World} {G:Nat} {xs:List Int} (h:IB w G xs) (j:Nat):w.frozen? ⟨G,j,none⟩=false:=Blk.frozen (show Blk w G _ _ from h) j
theorem IB.below {w w':World} {G:Nat} {xs:List Int} (h:IB w G xs) (hb:Below w.heap.size w w'):IB w' G xs:=Blk.below (show Blk w G _ _ from h) hb
theorem IB.lt {w:World} {G:Nat} {xs:List Int} (h:IB w G xs):G<w.heap.size:=Blk.lt (show Blk w G _ _ from h)
theorem IB.set {w:World} {G:Nat} {xs:List Int} (h:IB w G xs) (i:Nat) (y:Int):IB (w.setCell ⟨G,i,none⟩ (.int .i64 y)) G (xs.set i y):=by
 have:=Blk.set (show Blk w G _ _ from h) i (.int .i64 y)
 show Blk _ _ _ _
 rwa [A0,←List.map_set] at this
theorem IB.sl {w:World} {G:Nat} {xs:List Int} (h:IB w G xs) (hl:xs.length≤maxLen):Sl w (.slice (some ⟨G,0,none⟩) xs.length xs.length) xs :=
 .inr ⟨G,0,xs.length,rfl,Aa _,hl,h.lt,fun j hj=>by rw [Nat.zero_add];exact h.cell hj⟩
end
end Go.Proofs.YtcmomjnailihpaaGreatDoor
/- The reference: divided,trimmed. -/
namespace Go.Proofs.YtcmomjnailihpaaGreatDoor
section
open Go.RowKit
attribute [local go_sem] Oper.semAt_some
end
end Go.Proofs.YtcmomjnailihpaaGreatDoor
/- The reference: Mul,Div,Gcd. -/
namespace Go.Proofs.YtcmomjnailihpaaGreatDoor
section
open Go.RowKit
attribute [local go_sem] Oper.semAt_some
end
end Go.Proofs.YtcmomjnailihpaaGreatDoor
/- The reference: Root of whatever text,FromInt,ToInt. -/
namespace Go.Proofs.YtcmomjnailihpaaGreatDoor
section
open Go.RowKit
attribute [local go_sem] Oper.semAt_some
def FT (zs:List Int) (M N:Int):Prop:=Dig 10 zs∧val 10 zs+M*10 ^ zs.length=N∧(M=0→Top zs)
theorem FT.start (N:Int):FT [] N N:=⟨Dig.nil 10,by simp [val],fun _ k hk=>by simp at hk⟩
theorem FT.next {zs:List Int} {M N:Int} (h:FT zs M N) (h0:0<M):FT (zs++[M % 10]) (M / 10) N:=by
 obtain ⟨h1,h2,h3⟩:=h
 refine ⟨h1.snoc (by omega) (by omega),?_,fun e=>(LA (by omega)).out⟩
 rw [Br,List.length_append,List.length_singleton,Int.pow_succ,←h2]
 have e:M=M % 10+10*(M / 10):=by omega
 have e2:M*10 ^ zs.length=M % 10*10 ^ zs.length+10*(M / 10)*10 ^ zs.length:=by rw [←Int.add_mul,←e]
 have e3:M / 10*(10 ^ zs.length*10)=10*(M / 10)*10 ^ zs.length:=by
  rw [Int.mul_comm (10 ^ zs.length) 10,←Int.mul_assoc,Int.mul_comm (M / 10) 10]
 omega
theorem FT.len {zs:List Int} {M N:Int} (h:FT zs M N) (h0:0<M) (hN:N<10 ^ 20):zs.length<20:=by
 obtain ⟨h1,h2,_⟩:=h
 have h3:=(Ay (by decide) h1).1
 have h4:=Int.mul_le_mul_of_nonneg_right (show (1:Int)≤M by omega) (Int.le_of_lt (Bg (b:=10) (by decide) zs.length))
 exact pow_lt (b:=10) (by decide) (by omega)
theorem FT.num {zs:List Int} {N:Int} (h:FT zs 0 N):Num 10 zs N:=⟨h.1,h.2.2 rfl,by have:=h.2.1;omega⟩
theorem HO {x k:Int} (h:x<0):x.tdiv k=-((-x) / k):=by
 rw [Go.tdiv_eq_if,if_neg (by omega)]
theorem HP {x k:Int} (h:x<0):x.tmod k=-((-x) % k):=by
 rw [Go.tmod_eq_if,if_neg (by omega)]
theorem Kw (n:Int) (h0:0≤n) (h1:n≤9223372036854775807) (w:World) :
  Calls Tryz.prog 33 #[.int .i64 n] w (Gives w fun r _=>r=.string (I n)):=by
 have HS:=A8 (show sgn (decide (n<0)) n=n by rw [decide_eq_false (by omega)];rfl)
 go_enter Tryz.func33,Tryz.ntmps33
 go_wp2
 go_loopw [3,4] (fun o m wr=>∃ (M:Int) (zs:List Int),m=.int .i64 M∧0≤M∧M≤9223372036854775807∧Hid (FT zs M n)∧zs.length≤20∧wr.ownsRow w.heap.size 3 1 o zs.length (zs.map (Value.int .i64))∧Below w.heap.size w wr)
  (fun _ m _=>(intOf m).toNat)
 case atStart=>exact ⟨n,[],rfl,h0,h1,FT.start n,by simp,World.ownsRow_nil _ _ _ _,Below.refl _ _⟩
 case round =>
  obtain ⟨M,zs,rfl,hM0,hM1,hF,hlen,hown,hB⟩:=hrel
  by_cases hz:M=0
  ·subst hz
   have hsl:=Sl.of_own hown
   have hnum:=hF.out.num
   clear hown
   go_wp2_with fail
   refine (FW _ _ zs _ _ hsl hnum (by omega)).mono ?_
   rintro e w2 ⟨rfl,hb2⟩
   go_wp2
   go_ret
   exact ⟨⟨_,rfl,congrArg (fun z=>Value.string ⟨(Lib.itoa z).toArray⟩) HS.out⟩,Ad hb2 hB (Aa _)⟩
  ·have hMp:0<M:=by omega
   have hl20:=hF.out.len hMp (by omega)
   have HF:=A8 (hF.out.next hMp)
   clear hlen
   go_wp2_with (at_builtin;refine AU (M % 10) 22 Tryz.underlying22 rfl _ _ rfl rfl rfl hown (by omega) hB.size ?_;intro g cp w2 hown2 hg2 hb2)
   go_roundw
   case rel=>exact ⟨M / 10,zs++[M % 10],rfl,by omega,by omega,HF.out,(by rw [List.length_append];simp;omega),(by rw [List.length_append];exact hown2),hB.trans hb2⟩
   case measure=>simp [intOf];omega
theorem Kx (n:Int) (h0:n<0) (h1:-9223372036854775808≤n) (w:World) :
  Calls Tryz.prog 33 #[.int .i64 n] w (Gives w fun r _=>r=.string (I n)):=by
 have HS:=A8 (show sgn true (-n)=n by show -(-n)=n;omega)
 go_enter Tryz.func33,Tryz.ntmps33
 go_wp2
 go_loopw [3,4] (fun o m wr=>∃ (M:Int) (zs:List Int),m=.int .i64 M∧M≤0∧-9223372036854775808≤M∧Hid (FT zs (-M) (-n))∧zs.length≤20∧wr.ownsRow w.heap.size 3 1 o zs.length (zs.map (Value.int .i64))∧Below w.heap.size w wr)
  (fun _ m _=>(-intOf m).toNat)
 case atStart=>exact ⟨n,[],rfl,by omega,h1,FT.start (-n),by simp,World.ownsRow_nil _ _ _ _,Below.refl _ _⟩
 case round =>
  obtain ⟨M,zs,rfl,hM0,hM1,hF,hlen,hown,hB⟩:=hrel
  by_cases hz:M=0
  ·subst hz
   have hsl:=Sl.of_own hown
   have hnum:=hF.out.num
   clear hown
   go_wp2_with fail
   refine (FW _ _ zs _ _ hsl hnum (by omega)).mono ?_
   rintro e w2 ⟨rfl,hb2⟩
   go_wp2
   go_ret
   exact ⟨⟨_,rfl,congrArg (fun z=>Value.string ⟨(Lib.itoa z).toArray⟩) HS.out⟩,Ad hb2 hB (Aa _)⟩
  ·have hMp:0 < -M:=by omega
   have hl20:=hF.out.len hMp (by omega)
   have HF:=A8 (hF.out.next hMp)
   have q1:M.tdiv 10=-((-M) / 10):=by rw [HO (by omega)]
   have q2:M.tmod 10=-((-M) % 10):=by rw [HP (by omega)]
   have Q1:=A8 q1
   have Q2:=A8 q2
   have d0:-9≤M.tmod 10:=by omega
   have d1:M.tmod 10≤0:=by omega
   clear hlen q1 q2
   by_cases hd:M.tmod 10<0
   ·go_wp2_with (at_builtin;refine AU (-(M.tmod 10)) 22 Tryz.underlying22 rfl _ _ rfl rfl rfl hown (by omega) hB.size ?_;intro g cp w2 hown2 hg2 hb2)
    go_roundw
    case rel=>exact ⟨M.tdiv 10,zs++[-(M.tmod 10)],rfl,by have:=Q1.out;omega,by have:=Q1.out;omega,(show FT _ _ _ by rw [Q1.out,Q2.out,Int.neg_neg,Int.neg_neg];exact HF.out),(by rw [List.length_append];simp;omega),(by rw [List.length_append];exact hown2),hB.trans hb2⟩
    case measure=>have:=Q1.out;simp [intOf];omega
   ·have hd0:M.tmod 10=0:=by omega
    have HD0:=A8 hd0
    clear hd0
    go_wp2_with (at_builtin;refine AU (M.tmod 10) 22 Tryz.underlying22 rfl _ _ rfl rfl rfl hown (by omega) hB.size ?_;intro g cp w2 hown2 hg2 hb2)
    go_roundw
    case rel=>exact ⟨M.tdiv 10,zs++[M.tmod 10],rfl,by have:=Q1.out;omega,by have:=Q1.out;omega,(show FT _ _ _ by
     have e:M.tmod 10=-M % 10:=by have:=Q2.out;have:=HD0.out;omega
     rw [Q1.out,e,Int.neg_neg];exact HF.out),(by rw [List.length_append];simp;omega),(by rw [List.length_append];exact hown2),hB.trans hb2⟩
    case measure=>have:=Q1.out;simp [intOf];omega
theorem Ky (n:Int) (h0:-9223372036854775808≤n) (h1:n≤9223372036854775807) (w:World) :
  Calls Tryz.prog 33 #[.int .i64 n] w (Gives w fun r _=>r=.string (I n)):=by
 by_cases h:n<0
 ·exact Kx n h h0 w
 ·exact Kw n (by omega) h1 w
end
end Go.Proofs.YtcmomjnailihpaaGreatDoor
/- The reference: ToInt. -/
namespace Go.Proofs.YtcmomjnailihpaaGreatDoor
section
open Go.RowKit
attribute [local go_sem] Oper.semAt_some
end
end Go.Proofs.YtcmomjnailihpaaGreatDoor
