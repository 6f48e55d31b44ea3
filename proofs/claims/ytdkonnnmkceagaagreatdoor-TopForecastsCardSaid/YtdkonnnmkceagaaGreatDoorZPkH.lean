/- PkH, PkI, LaidQ -/
import Derived.Test.YtdkonnnmkceagaaGreatDoorZPkD
import Derived.Deep.RegionHeld3
import Derived.Scope
import Derived.ScopeJumps
import Derived.WalkMore
import Derived.BigRegion
import Derived.RegionTactic
import Derived.Shelf.Vars
import Derived.Handed
import Derived.WideShapes
import Derived.Lib.LaidTab
import Derived.Lib.LaidU8
import Derived.OpenShut
import Derived.Lib.SmallJoins
set_option maxHeartbeats 16000000
set_option maxRecDepth 100000
namespace Go.Proofs.YtdkonnnmkceagaaGreatDoor
section
open Go.RowKit
attribute [local go_sem] Oper.semAt_some
theorem smallS {s:ByteArray} (h:okS s=true):Cw (zS s):=(MF h).2
theorem txtS {s:ByteArray} (h:okS s=true):s=I (zS s):=(MF h).1
theorem Io (c:Bool) (r:Rat):∃ s t e,qT c r=.tuple #[.agg #[.string s,.string t],.int .i64 e]:=by
 unfold qT;split <;> exact ⟨_,_,_,rfl⟩
theorem Ju {a b:ByteArray} {x y:Int} {bad:Bool} (h:IL bad a b x y) (w0 W:World) (B:Nat) (hc:Cx w0 W B bad) :
  ∃ s t e,qT (!bad&&decide (y≠0)) (Rat.divInt x y)=.tuple #[.agg #[.string s,.string t],.int .i64 e] /\
   Calls Tryz.prog 69 #[.pointer (some ⟨B,0,none⟩),.string a,.string b] W fun e' w'=>e'=.returned (.tuple #[.agg #[.string s,.string t],.int .i64 e])/\CG [B] W w':=by
 obtain ⟨s,t,e,hq⟩:=Io (!bad&&decide (y≠0)) (Rat.divInt x y)
 exact ⟨s,t,e,hq,by rw [<-hq];exact Sw h w0 W B hc⟩
theorem Di {W:World} {R:Nat} (hR:CO W R #[.string ⟨#[]⟩,.string ⟨#[]⟩] 31) (p q:ByteArray) :
  W.cell? ⟨R,0,none⟩=some (.string ⟨#[]⟩)/\W.cell? ⟨R,1,none⟩=some (.string ⟨#[]⟩)/\W.frozen? ⟨R,0,none⟩=false/\W.frozen? ⟨R,1,none⟩=false /\
   ((W.setCell ⟨R,0,none⟩ (.string p)).setCell ⟨R,1,none⟩ (.string q)).cell? ⟨R,0,none⟩=some (.string p)/\((W.setCell ⟨R,0,none⟩ (.string p)).setCell ⟨R,1,none⟩ (.string q)).cell? ⟨R,1,none⟩=some (.string q) /\
   (∀ V,Below V.heap.size V W->V.heap.size<=R->Below V.heap.size V ((W.setCell ⟨R,0,none⟩ (.string p)).setCell ⟨R,1,none⟩ (.string q))):=by
 have m2:=(hR.set 0 (.string p)).set 1 (.string q)
 exact ⟨(CC hR).1,(CC hR).2,hR.frozen 0,hR.frozen 1,m2.cell 0,m2.cell 1,
  fun V hb hV=>(hb.setCell (p:=⟨R,0,none⟩) hV _).setCell (p:=⟨R,1,none⟩) hV _⟩
theorem Oq (W:World) (bad:Bool):∃ W1,W1=W.alloc (.cells #[.bool bad] 123)/\Wk W1 W.heap.size bad/\Below W.heap.size W W1 :=
 ⟨_,rfl,CO.new _ _ _,(Below.refl _ _).alloc (Aa _) _⟩
theorem qmake_a (a b:ByteArray) (ha:okS a=false) (w:World) (hE:Dv w) :
  Calls Tryz.prog 41 #[.string a,.string b] w (CM w (qT false 0)):=by
 have V1:=fun W=>En a W
 rw [ha] at V1
 clear ha
 obtain ⟨W1,hW1,hR1,hB1⟩:=Dc w (.string ⟨#[]⟩) (.string ⟨#[]⟩) 31
 go_enter Tryz.func41,Tryz.ntmps41
 go_wp2_with fail
 rw [<-hW1]
 clear hW1
 refine (V1 _).mono ?_
 rintro e w2 ⟨rfl,hb⟩
 have hR2:=hR1.below hb
 have hB2:=Cv hb hB1 (Aa _)
 clear hR1 hB1 hb V1
 obtain ⟨_,rfl,hk3,hb3⟩:=Oq w2 true
 have hR3:=hR2.below hb3
 have hB3:=Cv hb3 hB2 (Aa _)
 have hne:w.heap.size∉[w2.heap.size]:=by have:=hR2.lt;simp;omega
 have hle:=hB2.size
 go_wp2_with fail
 obtain ⟨s,t,e,hq,RQ⟩:=Ju (x:=0) (y:=0) (bad:=true) (fun e=>by cases e) _ _ _ ⟨hE,hB3,hle,hk3⟩
 have HQ:=A8 hq
 clear hq
 refine RQ.mono ?_
 rintro e' w9 ⟨rfl,ho⟩
 clear RQ
 have hR9:=hR3.only ho hne
 have hB9:=hB3.trans (ho.toBelow hB3.size (fun k hk=>by simp at hk;subst hk;exact hle))
 obtain ⟨k0,k1,f0,f1,y0,y1,hfin⟩:=Di hR9 s t
 have hfin:=A8 (hfin w hB9 (Aa _))
 clear ho hR9 hB9
 go_wp2
 refine bodyPost_ret (v:=.tuple #[.agg #[.string s,.string t],.int .i64 e]) (by simp [results,Tryz.results41,go_sem,y0,y1]) rfl ?_
 exact ⟨(Bk Ending.returned (HQ.out.symm.trans (rfl))),hfin.out⟩
theorem qmake_b (a b:ByteArray) (ha:okS a=true) (w:World) (hE:Dv w) :
  Calls Tryz.prog 41 #[.string a,.string b] w (CM w (qT (okS b&&decide (zS b≠0)) (Rat.divInt (zS a) (zS b)))):=by
 have V1:=fun W=>En a W
 have V2:=fun W=>En b W
 have hx:IL (!okS b) a b (zS a) (zS b):=fun e=>by
  have hb:okS b=true:=by simpa using e
  exact ⟨txtS ha,txtS hb,smallS ha,smallS hb⟩
 rw [ha] at V1
 have HBB:=A8 (show (!(!okS b)&&decide (zS b≠0))=(okS b&&decide (zS b≠0)) by rw [Bool.not_not])
 generalize hbb:okS b=bb at *
 clear ha hbb
 obtain ⟨W1,hW1,hR1,hB1⟩:=Dc w (.string ⟨#[]⟩) (.string ⟨#[]⟩) 31
 go_enter Tryz.func41,Tryz.ntmps41
 go_wp2_with fail
 rw [<-hW1]
 clear hW1
 refine (V1 _).mono ?_
 rintro e w2 ⟨rfl,hb⟩
 have hR2:=hR1.below hb
 have hB2:=Cv hb hB1 (Aa _)
 clear hR1 hB1 hb V1
 go_wp2_with fail
 refine (V2 _).mono ?_
 rintro e w4 ⟨rfl,hb⟩
 have hR4:=hR2.below hb
 have hB4:=Cv hb hB2 (Aa _)
 clear hR2 hB2 hb V2
 obtain ⟨_,rfl,hk3,hb3⟩:=Oq w4 (!bb)
 have hR3:=hR4.below hb3
 have hB3:=Cv hb3 hB4 (Aa _)
 have hne:w.heap.size∉[w4.heap.size]:=by have:=hR4.lt;simp;omega
 have hle:=hB4.size
 go_wp2_with fail
 obtain ⟨s,t,e,hq,RQ⟩:=Ju (x:=zS a) (y:=zS b) (bad:=!bb) hx _ _ _ ⟨hE,hB3,hle,hk3⟩
 have HQ:=A8 hq
 clear hq
 refine RQ.mono ?_
 rintro e' w9 ⟨rfl,ho⟩
 clear RQ
 have hR9:=hR3.only ho hne
 have hB9:=hB3.trans (ho.toBelow hB3.size (fun k hk=>by simp at hk;subst hk;exact hle))
 obtain ⟨k0,k1,f0,f1,y0,y1,hfin⟩:=Di hR9 s t
 have hfin:=A8 (hfin w hB9 (Aa _))
 clear ho hR9 hB9
 go_wp2
 refine bodyPost_ret (v:=.tuple #[.agg #[.string s,.string t],.int .i64 e]) (by simp [results,Tryz.results41,go_sem,y0,y1]) rfl ?_
 exact ⟨(Bk Ending.returned (HQ.out.symm.trans (by rw [HBB.out]))),hfin.out⟩
theorem QJ (a b:ByteArray) (w:World) (hE:Dv w) :
  Calls Tryz.prog 41 #[.string a,.string b] w (CM w (qT (okS a&&okS b&&decide (zS b≠0)) (Rat.divInt (zS a) (zS b)))):=by
 cases h:okS a with
 | false=>rw [Bool.false_and,Bool.false_and,GD _ 0];exact qmake_a a b h w hE
 | true=>rw [AH];exact qmake_b a b h w hE
theorem qof_any (n d:Int) (hn:CI n) (hd:CI d) (w:World) (hE:Dv w) :
  Calls Tryz.prog 16 #[.int .i64 n,.int .i64 d] w (CM w (qT (decide (d≠0)) (Rat.divInt n d))):=by
 have F1:=fun W (hE:Dv W)=>JU n hn W hE
 have F2:=fun W (hE:Dv W)=>JU d hd W hE
 have Bn:Bd 20 n:=by unfold CI at hn;unfold Bd;omega
 have Bq:Bd 20 d:=by unfold CI at hd;unfold Bd;omega
 have sn:=Bn.small Ae
 have sd:=Bq.small Ae
 have M1:=fun W (hE:Dv W)=>QJ (I n) (I d) W hE
 rw [DR sn,DR sd,Er,Er,show (true&&true&&decide (d≠0))=decide (d≠0) from rfl] at M1
 generalize decide (d≠0)=c at *
 obtain ⟨s,t,e,hq⟩:=Io c (Rat.divInt n d)
 rw [hq] at M1 |-
 clear hq
 generalize I n=a at *
 generalize I d=b at *
 clear hn hd Bn Bq sn sd
 obtain ⟨W1,hW1,hR1,hB1⟩:=Dc w (.string ⟨#[]⟩) (.string ⟨#[]⟩) 31
 go_enter Tryz.func16,Tryz.ntmps16
 go_wp2_with fail
 rw [<-hW1]
 clear hW1
 refine (F1 _ (hE.below hB1 (Aa _))).mono ?_
 rintro e w2 ⟨rfl,hb⟩
 have hR2:=hR1.below hb
 have hB2:=Cv hb hB1 (Aa _)
 clear hR1 hB1 hb F1
 go_wp2_with fail
 refine (F2 _ (hE.below hB2 (Aa _))).mono ?_
 rintro e w3 ⟨rfl,hb⟩
 have hR3:=hR2.below hb
 have hB3:=Cv hb hB2 (Aa _)
 clear hR2 hB2 hb F2
 go_wp2_with fail
 refine (M1 _ (hE.below hB3 (Aa _))).mono ?_
 rintro e w4 ⟨rfl,hb⟩
 have hR4:=hR3.below hb
 have hB4:=Cv hb hB3 (Aa _)
 clear hR3 hB3 hb M1
 obtain ⟨k0,k1,f0,f1,y0,y1,hfin⟩:=Di hR4 s t
 have hfin:=A8 (hfin w hB4 (Aa _))
 clear hR4 hB4
 go_wp2
 refine bodyPost_ret (v:=.tuple #[.agg #[.string s,.string t],.int .i64 e]) (by simp [results,Tryz.results16,go_sem,y0,y1]) rfl ?_
 exact ⟨rfl,hfin.out⟩
def K3 (W:World) (S:Nat) (l:List (ByteArray×ByteArray)):Prop:=∀ (j:Nat) (h:j<l.length),W.cell? ⟨S,j*2,none⟩=some (.string (l[j]).1)/\W.cell? ⟨S,j*2+1,none⟩=some (.string (l[j]).2)
def allOk (l:List (ByteArray×ByteArray)):Bool:=l.all fun r=>rOk r.1 r.2
theorem Ot (l:List (ByteArray×ByteArray)) (k:Nat) (h:k<l.length):allOk (l.take (k+1))=(allOk (l.take k)&&rOk (l[k]).1 (l[k]).2):=by
 unfold allOk;rw [List.take_succ_eq_append_getElem h,List.all_append];simp
theorem K3.only {B:List Nat} {W W':World} {S:Nat} {l:List (ByteArray×ByteArray)} (h:K3 W S l) (ho:CG B W W') (hS:S<W.heap.size) (hB:S∉B):K3 W' S l:=fun j hj =>
 ⟨(ho.cell (p:=⟨S,j*2,none⟩) hS hB).trans (h j hj).1,(ho.cell (p:=⟨S,j*2+1,none⟩) hS hB).trans (h j hj).2⟩
theorem K4 (l:List (ByteArray×ByteArray)) (S c:Nat) (bad:Bool) (w0 W:World) (B:Nat) (hx:Cx w0 W B bad) (hl:K3 W S l) (hS:S<W.heap.size) (hne:S≠B) (hlen:l.length<=1000) :
  Calls Tryz.prog 79 #[.pointer (some ⟨B,0,none⟩),.slice (some ⟨S,0,none⟩) l.length c] W fun e w'=>e=.returned (.tuple #[])/\Wk w' B (bad || !allOk l)/\CG [B] W w':=by
 have Hne:S∉[B]:=by simp;exact hne
 go_enter Tryz.func79,Tryz.ntmps79
 go_wp2
 go_loopw [8] (fun i wr=>∃ k:Nat,i=.int .i64 k/\k<=l.length/\Wk wr B (bad || !allOk (l.take k))/\CG [B] W wr) (fun i _=>l.length-(intOf i).toNat)
 case atStart=>exact ⟨0,rfl,Ad,(by have:=hx.wk;simpa [allOk] using this),CG.refl _ _⟩
 case round =>
  obtain ⟨k,rfl,hk,hwk,ho⟩:=hrel;have hcx:=hx.next hwk ho;by_cases hlt:k<l.length
  ·obtain ⟨d0,d1⟩:=hl.only ho hS Hne k hlt
   have c0:=hwk.c0;have f0:=hwk.f0;generalize hbk:(bad || !allOk (l.take k))=bk at *
   have hnx:(bad || !allOk (l.take (k+1)))=(bk || !rOk (l[k]).1 (l[k]).2):=by
    rw [Ot l k hlt,<-hbk];cases bad <;> cases allOk (l.take k) <;> simp
   have Hnx:=A8 hnx;clear hnx hbk;have Q:=fun W (hE:Dv W)=>DY (l[k]).1 (l[k]).2 W hE
   generalize (l[k]).1=n at *
   generalize (l[k]).2=d at *
   generalize rOk n d=b at *
   have hi0:(0:Int)<=(k:Int):=by omega
   have hi1:(k:Int)<(l.length:Int):=by omega
   obtain ⟨W1,hW1,hr1,hb1⟩:=Dc wr (.string n) (.string d) 31;have hk1:=hwk.below hb1;have ho1:=ho.below hb1;have e0:=hk1.c0;have g0:=hk1.f0;cases bk with
   | true =>
    have hk2:=hk1.set true;have ho2:=ho1.setCell (p:=⟨B,0,none⟩) Af (.bool true);rw [hW1] at e0 g0 hk2 ho2;clear Q hk1 ho1 hr1 hb1 hW1 c0 f0 hwk ho hcx;go_wp2;go_roundw;case rel=>exact ⟨k+1,by go_num,Ad,(by rw [Hnx.out];exact hk2),ho2⟩
    case measure=>simp [intOf];omega
   | false =>
    have r0:=(CC hr1).1;have r1:=(CC hr1).2;rw [hW1] at e0 g0 r0 r1 hk1 ho1 hb1;have hcx1:=hcx.call hb1;clear hcx ho hwk c0 f0 hr1 hW1;go_wp2_with fail;refine (Q _ hcx1.envW).mono ?_;rintro e w2 ⟨rfl,hb2⟩;have hk2:=hk1.below hb2;have ho2:=ho1.below hb2;have hk3:=hk2.set (!b);have ho3:=ho2.setCell (p:=⟨B,0,none⟩) Af (.bool (!b));clear hk1 ho1 hcx1 e0 g0 r0 r1 hb2 hb1;have e0:=hk2.c0;have g0:=hk2.f0;go_wp2;go_roundw;case rel=>exact ⟨k+1,by go_num,Ad,(by rw [Hnx.out,Bool.false_or];exact hk3),ho3⟩
    case measure=>simp [intOf];omega
  ·have hkl:k=l.length:=by omega
   subst hkl;rw [Bf (Aa _)] at hwk;go_wp2;go_end0;exact ⟨rfl,hwk,ho⟩
theorem L3 (w:World) (n1 d1 n2 d2:ByteArray):∃ W,
  W=((((w.alloc (.cells #[.string n1,.string d1] 31)).alloc (.cells #[.string n2,.string d2] 31)).alloc (.cells #[.string ⟨#[]⟩,.string ⟨#[]⟩] 31)).alloc (.cells #[.bool false] 123)).alloc (.cells #[.string n1,.string d1,.string n2,.string d2] 31) /\
  CO W w.heap.size #[.string n1,.string d1] 31/\CO W (w.heap.size+1) #[.string n2,.string d2] 31/\CO W (w.heap.size+1+1) #[.string ⟨#[]⟩,.string ⟨#[]⟩] 31 /\
  Wk W (w.heap.size+1+1+1) false/\K3 W (w.heap.size+1+1+1+1) [(n1,d1),(n2,d2)]/\Below w.heap.size w W/\W.heap.size=w.heap.size+1+1+1+1+1:=by
 obtain ⟨V1,e1,a1,b1⟩:=Dc w (.string n1) (.string d1) 31
 obtain ⟨V2,e2,a2,b2⟩:=Dc V1 (.string n2) (.string d2) 31
 obtain ⟨V3,e3,a3,b3⟩:=Dc V2 (.string ⟨#[]⟩) (.string ⟨#[]⟩) 31
 obtain ⟨V4,e4,a4,b4⟩:=Oq V3 false
 have z1:V1.heap.size=w.heap.size+1:=by rw [e1,AP]
 have z2:V2.heap.size=w.heap.size+1+1:=by rw [e2,AP,z1]
 have z3:V3.heap.size=w.heap.size+1+1+1:=by rw [e3,AP,z2]
 have z4:V4.heap.size=w.heap.size+1+1+1+1:=by rw [e4,AP,z3]
 have a5:=CO.new V4 #[.string n1,.string d1,.string n2,.string d2] 31
 have b5:Below V4.heap.size V4 (V4.alloc (.cells #[.string n1,.string d1,.string n2,.string d2] 31)):=(Below.refl _ _).alloc (Aa _) _
 rw [z1] at a2
 rw [z2] at a3
 rw [z3] at a4
 rw [z4] at a5
 refine ⟨_,rfl,?_⟩
 rw [<-e1,<-e2,<-e3,<-e4]
 refine ⟨(((a1.below b2).below b3).below b4).below b5,((a2.below b3).below b4).below b5,(a3.below b4).below b5,a4.below b5,?_,?_,by rw [AP,z4]⟩
 ·intro j hj
  match j,hj with
  | 0,_=>exact ⟨a5.cell 0,a5.cell 1⟩
  | 1,_=>exact ⟨a5.cell 2,a5.cell 3⟩
 ·exact Cv b5 (Cv b4 (Cv b3 (Cv b2 b1 (Aa _)) (Aa _)) (Aa _)) (Aa _)
theorem Pz {n1 d1 n2 d2:ByteArray}:allOk [(n1,d1),(n2,d2)]=(rOk n1 d1&&rOk n2 d2):=by simp [allOk]
theorem K5 {n1 d1 n2 d2:ByteArray} (h:(!(rOk n1 d1&&rOk n2 d2))=false):okS n1=true/\okS d1=true/\okS n2=true/\okS d2=true:=by
 have h1:rOk n1 d1=true/\rOk n2 d2=true:=by simpa using h
 have p1:=Ff h1.1;have p2:=Ff h1.2;exact ⟨p1.1,p1.2.1,p2.1,p2.2.1⟩
theorem Ip {bad c:Bool} {a b:ByteArray} (hc:bad=false->c=false) (h:c=false->okS a=true/\okS b=true):IL bad a b (zS a) (zS b):=fun e=>by
 obtain ⟨h1,h2⟩:=h (hc e);exact ⟨txtS h1,txtS h2,smallS h1,smallS h2⟩
theorem K6 (n1 d1 n2 d2:ByteArray) (w:World) (hE:Dv w) :
  Calls Tryz.prog 51 #[.agg #[.string n1,.string d1],.agg #[.string n2,.string d2]] w
   (CM w (qT (rOk n1 d1&&rOk n2 d2&&decide (Cw (zS n1*zS n2))&&decide (Cw (zS d1*zS d2))&&decide (zS d1*zS d2≠0)) (Rat.divInt (zS n1*zS n2) (zS d1*zS d2)))):=by
 obtain ⟨W,hW,hA,hC,hR,hk,hl,hB,hz⟩:=L3 w n1 d1 n2 d2
 have hle:w.heap.size<=w.heap.size+1+1+1:=by omega
 have hcx:Cx w W (w.heap.size+1+1+1) false:=⟨hE,hB,hle,hk⟩
 have K:=K4 [(n1,d1),(n2,d2)] (w.heap.size+1+1+1+1) 2 false w W _ hcx hl Ad Ad Af
 rw [Pz,Bool.false_or] at K
 have hp:=K5 (n1:=n1) (d1:=d1) (n2:=n2) (d2:=d2)
 generalize hg0:(!(rOk n1 d1&&rOk n2 d2))=g0 at *
 go_enter Tryz.func51,Tryz.ntmps51
 go_wp2_with fail
 rw [<-hW]
 clear hW hl hk hz
 refine K.mono ?_
 rintro e w1 ⟨rfl,hk,ho⟩
 have c1:=hcx.next hk ho
 have A1:=hA.only ho (by simp <;> omega)
 have C1:=hC.only ho (by simp <;> omega)
 have R1:=hR.only ho (by simp <;> omega)
 clear hcx hA hC hR hk ho hB K
 obtain ⟨x0,x1⟩:=CC A1
 obtain ⟨x2,x3⟩:=CC C1
 go_wp2_with fail
 refine (GE (Ip (fun e=>e) (fun e=>⟨(hp e).1,(hp e).2.2.1⟩)) _ c1.envW _ c1.wk).mono ?_
 rintro e w2 ⟨s1,rfl,hk,ho,hs1⟩
 generalize hg1:(g0 || !decide (Cw (zS n1*zS n2)))=g1 at *
 have i1:g1=false->g0=false:=fun e=>by rw [e] at hg1;exact (Bool.or_eq_false_iff.1 hg1).1
 have c2:=c1.next hk ho
 have A2:=A1.only ho (by simp <;> omega)
 have C2:=C1.only ho (by simp <;> omega)
 have R2:=R1.only ho (by simp <;> omega)
 clear c1 A1 C1 R1 hk ho x0 x1 x2 x3
 obtain ⟨x0,x1⟩:=CC A2
 obtain ⟨x2,x3⟩:=CC C2
 have hs1:=A8 hs1
 have HG1:=A8 hg1
 have HG0:=A8 hg0
 clear hg1 hg0
 go_wp2_with fail
 refine (GE (Ip i1 (fun e=>⟨(hp e).2.1,(hp e).2.2.2⟩)) _ c2.envW _ c2.wk).mono ?_
 rintro e w3 ⟨s2,rfl,hk,ho,hs2⟩
 generalize hg2:(g1 || !decide (Cw (zS d1*zS d2)))=g2 at *
 have i2:g2=false->g1=false:=fun e=>by rw [e] at hg2;exact (Bool.or_eq_false_iff.1 hg2).1
 have c3:=c2.next hk ho
 have R3:=R2.only ho (by simp <;> omega)
 clear c2 A2 C2 R2 hk ho x0 x1 x2 x3
 have hs2:=A8 hs2
 have HG2:=A8 hg2
 clear hg2
 go_wp2_with fail
 obtain ⟨s,t,er,hq,RQ⟩:=Ju (x:=zS n1*zS n2) (y:=zS d1*zS d2) (bad:=g2) (fun e=>⟨(hs1.out (i2 e)).1,(hs2.out e).1,(hs1.out (i2 e)).2,(hs2.out e).2⟩) _ _ _ c3
 have HQ:=A8 hq
 clear hq
 refine RQ.mono ?_
 rintro e w4 ⟨rfl,ho⟩
 have R4:=R3.only ho (by simp <;> omega)
 have B4:=c3.below.trans (ho.toBelow c3.below.size (fun k hk=>by simp at hk;subst hk;exact hle))
 clear RQ c3 R3 ho
 obtain ⟨k0,k1,f0,f1,y0,y1,hfin⟩:=Di R4 s t
 have hfin:=A8 (hfin w B4 Ad)
 clear R4 B4
 go_wp2
 refine bodyPost_ret (v:=.tuple #[.agg #[.string s,.string t],.int .i64 er]) (by simp [results,Tryz.results51,go_sem,y0,y1]) rfl ?_
 refine ⟨Bk Ending.returned (HQ.out.symm.trans ?_),hfin.out⟩
 rw [<-HG2.out,<-HG1.out,<-HG0.out]
 simp only [Bool.not_or,Bool.not_not]
def Steps (f:Nat) (z:Int->Int->Int):Prop:=∀ (a b:ByteArray) (x y:Int) (bad:Bool),IL bad a b x y->∀ (W:World),Dv W->∀ (B:Nat),Wk W B bad ->
 Calls Tryz.prog 100 #[.pointer (some ⟨B,0,none⟩),.func (.func f) #[] #[],.string a,.string b] W (LR W B (bad || !decide (Cw (z x y))) (z x y))
theorem QK:Steps 82 (fun x y=>x+y):=fun _ _ _ _ _ h W hE B hk=>qdo_add h W hE B hk
structure TQ (w W:World) (n1 d1 n2 d2:ByteArray) (g:Bool):Prop where
 cx:Cx w W (w.heap.size+1+1+1) g
 a:CO W w.heap.size #[.string n1,.string d1] 31
 c:CO W (w.heap.size+1) #[.string n2,.string d2] 31
 r:CO W (w.heap.size+1+1) #[.string ⟨#[]⟩,.string ⟨#[]⟩] 31
theorem TQ.next {w W W':World} {n1 d1 n2 d2:ByteArray} {g h:Bool} (o:TQ w W n1 d1 n2 d2 g) (hk:Wk W' (w.heap.size+1+1+1) h) (ho:CG [w.heap.size+1+1+1] W W'):TQ w W' n1 d1 n2 d2 h :=
 ⟨o.cx.next hk ho,o.a.only ho (by simp <;> omega),o.c.only ho (by simp <;> omega),o.r.only ho (by simp <;> omega)⟩
theorem TQ.drew {w W:World} {n1 d1 n2 d2:ByteArray} {g:Bool} (o:TQ w W n1 d1 n2 d2 g):TQ w W.drew n1 d1 n2 d2 g :=
 o.next (o.cx.wk.below (CN W 1)) (CG.of_below (CN W 1))
theorem TQ.cells {w W:World} {n1 d1 n2 d2:ByteArray} {g:Bool} (o:TQ w W n1 d1 n2 d2 g) :
  W.cell? ⟨w.heap.size,0,none⟩=some (.string n1)/\W.cell? ⟨w.heap.size,1,none⟩=some (.string d1)/\W.cell? ⟨w.heap.size+1,0,none⟩=some (.string n2)/\W.cell? ⟨w.heap.size+1,1,none⟩=some (.string d2) :=
 ⟨(CC o.a).1,(CC o.a).2,(CC o.c).1,(CC o.c).2⟩
theorem F6 {a b:Bool} (h:(a || b)=false):a=false:=(Bool.or_eq_false_iff.1 h).1
theorem Sx (f:Nat) (z:Int->Int->Int) (hz:Steps f z) (n1 d1 n2 d2:ByteArray) (w:World) (hE:Dv w) :
  Calls Tryz.prog 81 #[.func (.func f) #[] #[],.agg #[.string n1,.string d1],.agg #[.string n2,.string d2]] w
   (CM w (qT (rOk n1 d1&&rOk n2 d2&&decide (Cw (zS n1*zS d2))&&decide (Cw (zS n2*zS d1))&&decide (Cw (z (zS n1*zS d2) (zS n2*zS d1)))&&decide (Cw (zS d1*zS d2))&&decide (zS d1*zS d2≠0)) (Rat.divInt (z (zS n1*zS d2) (zS n2*zS d1)) (zS d1*zS d2)))):=by
 obtain ⟨W,hW,hA,hC,hR,hk,hl,hB,hsz⟩:=L3 w n1 d1 n2 d2
 have hle:w.heap.size<=w.heap.size+1+1+1:=by omega
 have hcx:Cx w W (w.heap.size+1+1+1) false:=⟨hE,hB,hle,hk⟩
 have K:=K4 [(n1,d1),(n2,d2)] (w.heap.size+1+1+1+1) 2 false w W _ hcx hl Ad Ad Af
 rw [Pz,Bool.false_or] at K
 have hp:=K5 (n1:=n1) (d1:=d1) (n2:=n2) (d2:=d2)
 have o0:TQ w W n1 d1 n2 d2 false:=⟨hcx,hA,hC,hR⟩
 generalize hg0:(!(rOk n1 d1&&rOk n2 d2))=g0 at *
 have hz:=A8 hz
 go_enter Tryz.func81,Tryz.ntmps81
 go_wp2_with fail
 rw [<-hW]
 clear hW hl hk hsz hcx hA hC hR hB
 refine K.mono ?_
 rintro e w1 ⟨rfl,hk,ho⟩
 have o1:=o0.next hk ho
 clear o0 hk ho K
 have p1:=o1.drew
 have T1:=Ip (bad:=g0) (c:=g0) (a:=n1) (b:=d2) (fun e=>e) (fun e=>⟨(hp e).1,(hp e).2.2.2⟩)
 obtain ⟨x0,x1,x2,x3⟩:=o1.cells
 have HG0:=A8 hg0
 clear hg0
 have p1:=A8 p1
 have T1:=A8 T1
 have hp:=A8 hp
 clear o1
 go_wp2_with fail
 go_region_held3 (fun w'=>w'.cell? ⟨w.heap.size,0,none⟩=some (.string n1)/\w'.cell? ⟨w.heap.size,1,none⟩=some (.string d1)/\w'.cell? ⟨w.heap.size+1,0,none⟩=some (.string n2)/\w'.cell? ⟨w.heap.size+1,1,none⟩=some (.string d2))
  (first | exact o4.out.cells | exact o3.out.cells | exact o2.out.cells | exact p1.out.cells | go_keep)
  (first | (go_at_call 100;refine (hz.out _ _ _ _ _ T3.out _ o3.out.cx.envW _ o3.out.cx.wk).mono ?_;rintro e w4 ⟨s3,rfl,hk,ho,hs3⟩;have o4:=A8 (o3.out.next hk ho);have hs3:=A8 hs3;clear hk ho) | (go_at_call 80;refine (GE T2.out _ o2.out.cx.envW _ o2.out.cx.wk).mono ?_;rintro e w3 ⟨s2,rfl,hk,ho,hs2⟩;have o3:=A8 (o2.out.next hk ho);have hs2:=A8 hs2;clear hk ho;have T3:=A8 (show IL ((g0 || !decide (Cw (zS n1*zS d2))) || !decide (Cw (zS n2*zS d1))) s1 s2 (zS n1*zS d2) (zS n2*zS d1) from fun e=>⟨(hs1.out (F6 e)).1,(hs2.out e).1,(hs1.out (F6 e)).2,(hs2.out e).2⟩)) | (go_at_call 80;refine (GE T1.out _ p1.out.cx.envW _ p1.out.cx.wk).mono ?_;rintro e w2 ⟨s1,rfl,hk,ho,hs1⟩;have o2:=A8 (p1.out.next hk ho);have hs1:=A8 hs1;clear hk ho;have T2:=A8 (Ip (bad:=g0 || !decide (Cw (zS n1*zS d2))) (c:=g0) (a:=n2) (b:=d1) F6 (fun e=>⟨(hp.out e).2.2.1,(hp.out e).2.1⟩))))
 clear T1 T2 T3 p1 o2 o3 x0 x1 x2 x3
 obtain ⟨x0,x1,x2,x3⟩:=o4.out.cells
 have T4:=A8 (Ip (bad:=g0 || !decide (Cw (zS n1*zS d2)) || !decide (Cw (zS n2*zS d1)) || !decide (Cw (z (zS n1*zS d2) (zS n2*zS d1)))) (c:=g0) (a:=d1) (b:=d2) (fun e=>F6 (F6 (F6 e))) (fun e=>⟨(hp.out e).2.1,(hp.out e).2.2.2⟩))
 go_wp2_with fail
 refine (GE T4.out _ o4.out.cx.envW _ o4.out.cx.wk).mono ?_
 rintro e w5 ⟨s4,rfl,hk,ho,hs4⟩
 have o5:=o4.out.next hk ho
 have c5:=o5.cx
 have R5:=o5.r
 have hs4:=A8 hs4
 clear hk ho o4 x0 x1 x2 x3 T4 o5
 generalize hg5:(g0 || !decide (Cw (zS n1*zS d2)) || !decide (Cw (zS n2*zS d1)) || !decide (Cw (z (zS n1*zS d2) (zS n2*zS d1))) || !decide (Cw (zS d1*zS d2)))=g5 at *
 have HG5:=A8 hg5
 clear hg5
 have T5:IL g5 s3 s4 (z (zS n1*zS d2) (zS n2*zS d1)) (zS d1*zS d2):=fun e=>⟨(hs3.out (F6 (HG5.out.trans e))).1,(hs4.out e).1,(hs3.out (F6 (HG5.out.trans e))).2,(hs4.out e).2⟩
 go_wp2_with fail
 obtain ⟨s,t,er,hq,RQ⟩:=Ju T5 _ _ _ c5
 have HQ:=A8 hq
 clear hq T5
 refine RQ.mono ?_
 rintro e w6 ⟨rfl,ho⟩
 have R6:=R5.only ho (by simp <;> omega)
 have B6:=c5.below.trans (ho.toBelow c5.below.size (fun k hk=>by simp at hk;subst hk;exact hle))
 clear RQ c5 R5 ho
 obtain ⟨k0,k1,f0,f1,y0,y1,hfin⟩:=Di R6 s t
 have hfin:=A8 (hfin w B6 Ad)
 clear R6 B6
 go_wp2
 refine bodyPost_ret (v:=.tuple #[.agg #[.string s,.string t],.int .i64 er]) (by simp [results,Tryz.results81,go_sem,y0,y1]) rfl ?_
 refine ⟨Bk Ending.returned (HQ.out.symm.trans ?_),hfin.out⟩
 rw [<-HG5.out,<-HG0.out]
 simp only [Bool.not_or,Bool.not_not]
theorem K7 (n1 d1 n2 d2:ByteArray) (w:World) (hE:Dv w) :
  Calls Tryz.prog 52 #[.agg #[.string n1,.string d1],.agg #[.string n2,.string d2]] w
   (CM w (qT (rOk n1 d1&&rOk n2 d2&&decide (Cw (zS n1*zS d2))&&decide (Cw (zS n2*zS d1))&&decide (Cw (zS n1*zS d2+zS n2*zS d1))&&decide (Cw (zS d1*zS d2))&&decide (zS d1*zS d2≠0)) (Rat.divInt (zS n1*zS d2+zS n2*zS d1) (zS d1*zS d2)))):=by
 have Q:=fun W (hE:Dv W)=>Sx _ _ QK n1 d1 n2 d2 W hE
 generalize (rOk n1 d1&&rOk n2 d2&&decide (Cw (zS n1*zS d2))&&decide (Cw (zS n2*zS d1))&&decide (Cw (zS n1*zS d2+zS n2*zS d1))&&decide (Cw (zS d1*zS d2))&&decide (zS d1*zS d2≠0))=c at *
 generalize Rat.divInt (zS n1*zS d2+zS n2*zS d1) (zS d1*zS d2)=r at *
 obtain ⟨s,t,e,hq⟩:=Io c r
 rw [hq] at Q |-
 clear hq
 obtain ⟨V1,e1,a1,b1⟩:=Dc w (.string n1) (.string d1) 31
 obtain ⟨V2,e2,a2,b2⟩:=Dc V1 (.string n2) (.string d2) 31
 obtain ⟨V3,e3,R3,b3⟩:=Dc V2 (.string ⟨#[]⟩) (.string ⟨#[]⟩) 31
 have z1:V1.heap.size=w.heap.size+1:=by rw [e1,AP]
 have z2:V2.heap.size=w.heap.size+1+1:=by rw [e2,AP,z1]
 rw [z2] at R3
 have B3:Below w.heap.size w V3:=Cv b3 (Cv b2 b1 (Aa _)) (Aa _)
 have hV:V3=((w.alloc (.cells #[.string n1,.string d1] 31)).alloc (.cells #[.string n2,.string d2] 31)).alloc (.cells #[.string ⟨#[]⟩,.string ⟨#[]⟩] 31):=by rw [e3,e2,e1]
 clear e1 e2 e3 a1 a2 b1 b2 b3 z1 z2
 go_enter Tryz.func52,Tryz.ntmps52
 go_wp2_with fail
 rw [<-hV]
 clear hV
 refine (Q _ (hE.below B3 (Aa _))).mono ?_
 rintro e' w4 ⟨rfl,hb⟩
 have R4:=R3.below hb
 have B4:=Cv hb B3 (Aa _)
 obtain ⟨k0,k1,f0,f1,y0,y1,hfin⟩:=Di R4 s t
 have hfin:=A8 (hfin w B4 Ad)
 clear R3 B3 hb R4 B4 Q
 go_wp2
 refine bodyPost_ret (v:=.tuple #[.agg #[.string s,.string t],.int .i64 e]) (by simp [results,Tryz.results52,go_sem,y0,y1]) rfl ?_
 exact ⟨rfl,hfin.out⟩
theorem Ou {P:Program} {a:Act} {w:World} {Q:Exit->Act->World->Prop} {c rest:Code} (l:Nat) (J:Act->World->Prop) (μ:Act->World->Nat) (hf:findLabel c l=some (Code.skip.seq rest))
  (pass:∀ a w,J a w->rest.wp P (Exit.jump l (fun a' w'=>J a' w'/\μ a' w' < μ a w) Q) a w)
  (first:(∀ a w,J a w->rest.wp P (Exit.jump l J Q) a w)->c.wp P (Exit.jump l J Q) a w):(Code.scope c).wp P Q a w :=
 wp_scope_jumps l J μ hf (first fun a w h=>Code.wp_mono (fun e a' w' h'=>by
  cases e with
  | goto l'=>exact ⟨h'.1,h'.2.1⟩
  | normal=>exact h'
  | exit _=>exact h'
  | ret=>exact h'
  | panic _=>exact h'
  | outgrown=>exact h') (pass a w h)) (fun a w h=>wp_seq (wp_skip (pass a w h)))
def CmpAt (w:World) (tgt:Int) (h:Nat) (sg:Int) (W:World):Prop:=∃ x1 y1 x2 y2:Int,Cw x1/\Cw y1/\Cw x2/\Cw y2/\0<y1/\0<y2/\(sg=1∨sg=-1)/\sg*Lib.compareInt (x1*y2) (x2*y1)=tgt /\
 CO W h #[.string (I x1),.string (I y1)] 31/\CO W (h+1) #[.string (I x2),.string (I y2)] 31/\Below w.heap.size w W
def Sy (W:World) (h:Nat):Nat:=match W.cell? ⟨h,1,none⟩ with
 | some (.string s)=>(zS s).toNat
 | _=>0
theorem N8 {W:World} {h:Nat} {n:ByteArray} {y:Int} {t:TypeId} (hb:CO W h #[.string n,.string (I y)] t):Sy W h=y.toNat:=by
 unfold Sy;rw [(CC hb).2];simp only [Er]
theorem cmp_quo {x1 y1 x2 y2:Int} (h1:0<y1) (h2:0<y2) (hne:x1 / y1≠x2 / y2):Lib.compareInt (x1*y2) (x2*y1)=Lib.compareInt (x1 / y1) (x2 / y2):=by
 have e1:=Ct x1 y1;have e2:=Ct x2 y2;have a1:=BY x1 (show y1≠0 by omega);have a2:=BY x2 (show y2≠0 by omega);have b1:=BU x1 h1;have b2:=BU x2 h2;generalize x1 / y1=p at *
 generalize x2 / y2=q at *
 generalize x1 % y1=r at *
 generalize x2 % y2=s at *
 subst e1 e2;have key:∀ p q r s y1 y2:Int,0<y1->0<y2->r<y1->0<=s->p<q->(r+y1*p)*y2<(s+y2*q)*y1:=by
  intro p q r s y1 y2 h1 h2 hr hs hpq;have t1:(r+y1*p)*y2=r*y2+y1*y2*p:=by grind
  have t2:(s+y2*q)*y1=s*y1+y1*y2*q:=by grind
  have t3:r*y2<y1*y2:=Int.mul_lt_mul_of_pos_right hr h2;have t4:0<=s*y1:=BF hs (Ce h1);have t5:y1*y2*(p+1)<=y1*y2*q:=BV Ad (Ce (Bw h1 h2));have t6:y1*y2*(p+1)=y1*y2*p+y1*y2:=by grind
  omega
 rcases Cr p q with h | h | h
 ·rw [Cy h,Cy (key p q r s y1 y2 h1 h2 b1 a2 h)]
 ·exact absurd h hne
 ·rw [Cz h,Cz (key q p s r y2 y1 h2 h1 b2 a1 h)]
theorem Sz {x1 y1 x2 y2:Int} (he:x1 / y1=x2 / y2):Lib.compareInt (x1*y2) (x2*y1)=Lib.compareInt (x1 % y1*y2) (x2 % y2*y1):=by
 have e1:=Ct x1 y1;have e2:=Ct x2 y2;rw [he] at e1;generalize x2 / y2=q at *
 generalize x1 % y1=r at *
 generalize x2 % y2=s at *
 subst e1 e2;have t1:(r+y1*q)*y2=r*y2+y1*y2*q:=by grind
 have t2:(s+y2*q)*y1=s*y1+y1*y2*q:=by grind
 rw [t1,t2];rcases Cr (r*y2) (s*y1) with h | h | h
 ·rw [Cy h,Cy Ad]
 ·rw [h,CU,CU]
 ·rw [Cz h,Cz Ad]
theorem SA (x y:Int):Lib.compareInt y x=-Lib.compareInt x y:=by
 rcases Cr x y with h | h | h
 ·rw [Cy h,Cz h];rfl
 ·rw [h,CU];rfl
 ·rw [Cz h,Cy h]
theorem SB (x y:Int):Lib.compareInt x y=0∨Lib.compareInt x y=1∨Lib.compareInt x y=-1:=by
 rcases Cr x y with h | h | h
 ·rw [Cy h];simp
 ·subst h;rw [CU];exact Or.inl rfl
 ·rw [Cz h];simp
theorem LT {x y:Int}:Lib.compareInt x y=0↔x=y:=by
 rcases Cr x y with h | h | h
 ·rw [Cy h];constructor <;> intro e <;> omega
 ·subst h;rw [CU];exact ⟨fun _=>rfl,fun _=>rfl⟩
 ·rw [Cz h];constructor <;> intro e <;> omega
def CmpJ (w:World) (tgt:Int) (h:Nat) (n1 d1 n2 d2:ByteArray) (a':Act) (w':World):Prop:=∃ (sg:Int) (u4 u6 u7 u8 u9 u10 u11 u12 u13 u14 u15 u16 u17 u18 u19 u20 u21 u22 u23 u24 u25 u26 u27 u28 u29 u30 u31 u32 u33 u34 u35 u36 u37 u38 u39 u40 u41 u42 u43 u44 u45 u46 u47 u48 u49 u50 u51 u52 u53 u54 u55 u56 u57 u58 u59 u60 u61 u62 u63 u64 u65 u66 u67 u68 u69 u70 u71 u72 u73:Value),a'={ tmps:=#[.agg #[.string n1,.string d1],.agg #[.string n2,.string d2],.pointer (some ⟨h,0,none⟩),.pointer (some ⟨h+1,0,none⟩),u4,.int .i64 sg,u6,u7,u8,u9,u10,u11,u12,u13,u14,u15,u16,u17,u18,u19,u20,u21,u22,u23,u24,u25,u26,u27,u28,u29,u30,u31,u32,u33,u34,u35,u36,u37,u38,u39,u40,u41,u42,u43,u44,u45,u46,u47,u48,u49,u50,u51,u52,u53,u54,u55,u56,u57,u58,u59,u60,u61,u62,u63,u64,u65,u66,u67,u68,u69,u70,u71,u72,u73],defers:=[] }/\CmpAt w tgt h sg w'
theorem QL {W w:World} {h:Nat} {a b c d:ByteArray} (bA:CO W h #[.string a,.string b] 31) (bC:CO W (h+1) #[.string c,.string d] 31) (hB:Below w.heap.size w W) (hh:w.heap.size<=h) (a' b' c' d':ByteArray) :
  CO ((((W.setCell ⟨h,0,none⟩ (.string a')).setCell ⟨h,1,none⟩ (.string b')).setCell ⟨h+1,0,none⟩ (.string c')).setCell ⟨h+1,1,none⟩ (.string d')).drew h #[.string a',.string b'] 31 /\
  CO ((((W.setCell ⟨h,0,none⟩ (.string a')).setCell ⟨h,1,none⟩ (.string b')).setCell ⟨h+1,0,none⟩ (.string c')).setCell ⟨h+1,1,none⟩ (.string d')).drew (h+1) #[.string c',.string d'] 31 /\
  Below w.heap.size w ((((W.setCell ⟨h,0,none⟩ (.string a')).setCell ⟨h,1,none⟩ (.string b')).setCell ⟨h+1,0,none⟩ (.string c')).setCell ⟨h+1,1,none⟩ (.string d')).drew:=by
 have o1:CG [h] W ((W.setCell ⟨h,0,none⟩ (.string a')).setCell ⟨h,1,none⟩ (.string b')):=((CG.refl [h] W).setCell (p:=⟨h,0,none⟩) Af _).setCell (p:=⟨h,1,none⟩) Af _
 have A1:=(bA.set 0 (.string a')).set 1 (.string b')
 have C1:=bC.only o1 Af
 have o2:=((CG.refl [h+1] ((W.setCell ⟨h,0,none⟩ (.string a')).setCell ⟨h,1,none⟩ (.string b'))).setCell (p:=⟨h+1,0,none⟩) Af (.string c')).setCell (p:=⟨h+1,1,none⟩) Af (.string d')
 have A2:=A1.only o2 Af
 have C2:=(C1.set 0 (.string c')).set 1 (.string d')
 have B2:=(((hB.setCell (p:=⟨h,0,none⟩) hh (.string a')).setCell (p:=⟨h,1,none⟩) hh (.string b')).setCell (p:=⟨h+1,0,none⟩) (Nat.le_succ_of_le hh) (.string c')).setCell (p:=⟨h+1,1,none⟩) (Nat.le_succ_of_le hh) (.string d')
 exact ⟨A2.below (CN _ 1),C2.below (CN _ 1),DH B2⟩
theorem qcmp_ok (n1 d1 n2 d2:ByteArray) (w:World) (hE:Dv w) (h1:rOk n1 d1=true) (h2:rOk n2 d2=true) :
  Calls Tryz.prog 12 #[.agg #[.string n1,.string d1],.agg #[.string n2,.string d2]] w (CM w (.int .i64 (Lib.compareInt (zS n1*zS d2) (zS n2*zS d1)))):=by
 have p1:=Ff h1
 have p2:=Ff h2
 have T0:∀ W:World,CO W w.heap.size #[.string n1,.string d1] 31->CO W (w.heap.size+1) #[.string n2,.string d2] 31->Below w.heap.size w W->CmpAt w (Lib.compareInt (zS n1*zS d2) (zS n2*zS d1)) w.heap.size 1 W:=fun W a c b =>
  ⟨zS n1,zS d1,zS n2,zS d2,smallS p1.1,smallS p1.2.1,smallS p2.1,smallS p2.2.1,p1.2.2.1,p2.2.2.1,Or.inl rfl,AM _,by rw [<-txtS p1.1,<-txtS p1.2.1];exact a,by rw [<-txtS p2.1,<-txtS p2.2.1];exact c,b⟩
 generalize Lib.compareInt (zS n1*zS d2) (zS n2*zS d1)=tgt at *
 have Q1:=fun W (hE:Dv W)=>DY n1 d1 W hE
 have Q2:=fun W (hE:Dv W)=>DY n2 d2 W hE
 rw [h1] at Q1
 rw [h2] at Q2
 clear h1 h2 p1 p2
 obtain ⟨h,hh⟩:∃ h:Nat,h=w.heap.size:=⟨_,rfl⟩
 have hBh:w.heap.size<=h:=by omega
 obtain ⟨V1,e1,a1,b1⟩:=Dc w (.string n1) (.string d1) 31
 obtain ⟨V2,e2,a2,b2⟩:=Dc V1 (.string n2) (.string d2) 31
 have z1:V1.heap.size=w.heap.size+1:=by rw [e1,AP]
 rw [z1] at a2
 have hV:V2=(w.alloc (.cells #[.string n1,.string d1] 31)).alloc (.cells #[.string n2,.string d2] 31):=by rw [e2,e1]
 have hB:=Cv b2 b1 (Aa _)
 have hA:=a1.below b2
 have T0:=A8 T0
 have Hh:=A8 hh
 clear e1 e2 a1 b1 b2 z1 hh
 go_enter Tryz.func12,Tryz.ntmps12
 go_wp2_with fail
 rw [<-hV]
 clear hV
 refine Ou 0 (CmpJ w tgt h n1 d1 n2 d2) (fun _ w'=>Sy w' h) rfl ?_ ?_
 ·intro a' w' hJ
  obtain ⟨sg,u4,u6,u7,u8,u9,u10,u11,u12,u13,u14,u15,u16,u17,u18,u19,u20,u21,u22,u23,u24,u25,u26,u27,u28,u29,u30,u31,u32,u33,u34,u35,u36,u37,u38,u39,u40,u41,u42,u43,u44,u45,u46,u47,u48,u49,u50,u51,u52,u53,u54,u55,u56,u57,u58,u59,u60,u61,u62,u63,u64,u65,u66,u67,u68,u69,u70,u71,u72,u73,rfl,hc⟩:=hJ;obtain ⟨x1,y1,x2,y2,sx1,sy1,sx2,sy2,hy1,hy2,hsg,ht,bA,bC,hB'⟩:=hc;have hEw:=hE.below hB' (Aa _);obtain ⟨c0,c1⟩:=CC bA;obtain ⟨c2,c3⟩:=CC bC;have D1:=fun W (hE:Dv W)=>Oh (a:=I x1) (b:=I y1) rfl rfl sx1 sy1 W hE _ _ _ _ Ad rfl rfl rfl rfl
  have D2:=fun W (hE:Dv W)=>Oh (a:=I x2) (b:=I y2) rfl rfl sx2 sy2 W hE _ _ _ _ Ad rfl rfl rfl rfl
  go_wp2_with fail;refine (D1 _ hEw).mono ?_;rintro e v1 ⟨rfl,hb⟩;have bA1:=bA.below hb;have bC1:=bC.below hb;have hB1:=Cv hb hB' (Aa _);clear c0 c1 c2 c3 hb;obtain ⟨c0,c1⟩:=CC bA1;obtain ⟨c2,c3⟩:=CC bC1;go_wp2_with fail;refine (D2 _ (hE.below hB1 (Aa _))).mono ?_;rintro e v2 ⟨rfl,hb⟩;have bA2:=bA1.below hb;have bC2:=bC1.below hb;have hB2:=Cv hb hB1 (Aa _);clear c0 c1 c2 c3 hb hB1 bA1 bC1 D1 D2;go_wp2_with fail;refine (Oi rfl rfl (Eo sx1) (Eo sx2) _ _ rfl).mono ?_;rintro e v3 ⟨rfl,hb⟩;have bA3:=bA2.below hb;have bC3:=bC2.below hb;have hB3:=Cv hb hB2 (Aa _);clear hb hB2 bA2 bC2;obtain ⟨c0,c1⟩:=CC bA3;obtain ⟨c2,c3⟩:=CC bC3;have hr0:=BY x1 (show y1≠0 by omega);have hs0:=BY x2 (show y2≠0 by omega);have hr1:=BU x1 hy1;have hs1:=BU x2 hy2;have hden:=N8 bA;by_cases hq:x1 / y1=x2 / y2
  ·have ht2:=A8 (show sg*Lib.compareInt (x1 % y1*y2) (x2 % y2*y1)=tgt by rw [<-Sz hq];exact ht)
   rw [hq,CU];clear ht hq;generalize x1 % y1=r at *
   generalize x2 % y2=s at *
   generalize I (x1 / y1)=sp at *
   generalize I (x2 / y2)=sq at *
   by_cases er:r=0
   ·subst er
    have tr:=FG (rfl:I 0=I 0);by_cases es:s=0
    ·subst es
     have hz:=A8 (show (0:Int)=tgt by rw [<-ht2.out,Int.zero_mul,Int.zero_mul,CU,Int.mul_zero]);generalize I 0=z0 at *
     go_wp2;simp only [Exit.jump];go_ret;exact ⟨D9 hz.out,hB3⟩
    ·have ts:=Eh (rfl:I s=I s) es
     have hz:=A8 (show -sg=tgt by rw [<-ht2.out,Int.zero_mul,Cy (Bw Ad hy1)];omega);have hsg0:-1<=sg:=by omega
     have hsg1:sg<=1:=by omega
     generalize I 0=z0 at *
     generalize I s=zs at *
     go_wp2;simp only [Exit.jump];go_ret;exact ⟨D9 hz.out,hB3⟩
   ·have tr:=Eh (rfl:I r=I r) er
    by_cases es:s=0
    ·subst es
     have ts:=FG (rfl:I 0=I 0);have hz:=A8 (show sg=tgt by rw [<-ht2.out,Int.zero_mul,Cz (Bw Ad hy2),Ca]);generalize I 0=z0 at *
     generalize I r=zr at *
     go_wp2;simp only [Exit.jump];go_ret;exact ⟨D9 hz.out,hB3⟩
    ·have ts:=Eh (rfl:I s=I s) es
     have hsg0:-1<=sg:=by omega
     have hsg1:sg<=1:=by omega
     have f0:=bA3.frozen 0;have f1:=bA3.frozen 1;have f2:=bC3.frozen 0;have f3:=bC3.frozen 1;have HT:=A8 ht2;have HD:=A8 hden;have HE:=A8 er;have HS:=A8 es;have bA3:=A8 bA3;have bC3:=A8 bC3;have hB3:=A8 hB3;clear ht2 hden er es hB' bA bC hEw T0 Q1 Q2 hB hA a2;go_wp2;go_region;go_wp2;go_step3;obtain ⟨nA,nC,nB⟩:=QL bA3.out bC3.out hB3.out hBh (I y1) (I r) (I y2) (I s);have sr:Cw r:=by unfold Cw at *;omega
     have ss:Cw s:=by unfold Cw at *;omega
     have nr:0<r:=by have:=HE.out;omega
     have ns:0<s:=by have:=HS.out;omega
     have nt:-sg*Lib.compareInt (y1*s) (y2*r)=tgt:=by
      rw [<-HT.out,SA (y2*r) (y1*s),Int.neg_mul_neg,AB y2 r,AB y1 s]
     refine ⟨rfl,⟨-sg,_,_,_,_,_,_,_,_,_,_,_,_,_,_,_,_,_,_,_,_,_,_,_,_,_,_,_,_,_,_,_,_,_,_,_,_,_,_,_,_,_,_,_,_,_,_,_,_,_,_,_,_,_,_,_,_,_,_,_,_,_,_,_,_,_,_,_,_,_,rfl,y1,r,y2,s,sy1,sr,sy2,ss,nr,ns,Ad,nt,nA,nC,nB⟩,?_⟩;rw [HD.out,N8 nA];omega
  ·have hz:=A8 (show sg*Lib.compareInt (x1 / y1) (x2 / y2)=tgt by rw [<-cmp_quo hy1 hy2 hq];exact ht)
   have hv:=SB (x1 / y1) (x2 / y2);have hv0:Lib.compareInt (x1 / y1) (x2 / y2)≠0:=fun e=>hq (LT.1 e)
   generalize Lib.compareInt (x1 / y1) (x2 / y2)=c at *
   have hm0:-1<=sg*c:=by rcases hsg with rfl | rfl <;> rcases hv with rfl | rfl | rfl <;> decide
   have hm1:sg*c<=1:=by rcases hsg with rfl | rfl <;> rcases hv with rfl | rfl | rfl <;> decide
   have hcb:(c != 0)=true:=by simp [hv0]
   clear ht hq hv0 hsg hv;go_wp2;simp only [Exit.jump];go_ret;exact ⟨D9 hz.out,hB3⟩
 ·intro pass
  have pass:=A8 pass;obtain ⟨c0,c1⟩:=CC hA;obtain ⟨c2,c3⟩:=CC a2;go_wp2_with fail;refine (Q1 _ (hE.below hB (Aa _))).mono ?_;rintro e v1 ⟨rfl,hb⟩;have A1:=hA.below hb;have C1:=a2.below hb;have B1:=Cv hb hB (Aa _);clear c0 c1 c2 c3 hA a2 hB hb;obtain ⟨c0,c1⟩:=CC A1;obtain ⟨c2,c3⟩:=CC C1;go_wp2_with fail;refine (Q2 _ (hE.below B1 (Aa _))).mono ?_;rintro e v2 ⟨rfl,hb⟩;have hT:=T0.out _ (A1.below hb) (C1.below hb) (Cv hb B1 (Aa _));clear c0 c1 c2 c3 A1 C1 B1 hb;rw [<-Hh.out] at hT |-;have hT:=A8 hT;go_wp2;go_step3;rename_i K hK;exact hK _ _ (pass.out _ _ ⟨1,_,_,_,_,_,_,_,_,_,_,_,_,_,_,_,_,_,_,_,_,_,_,_,_,_,_,_,_,_,_,_,_,_,_,_,_,_,_,_,_,_,_,_,_,_,_,_,_,_,_,_,_,_,_,_,_,_,_,_,_,_,_,_,_,_,_,_,_,_,rfl,hT.out⟩)
theorem SC (n1 d1 n2 d2:ByteArray) (w:World) (hE:Dv w) (hb:(rOk n1 d1&&rOk n2 d2)=false) :
  Calls Tryz.prog 12 #[.agg #[.string n1,.string d1],.agg #[.string n2,.string d2]] w (CM w (.int .i64 0)):=by
 have Q1:=fun W (hE:Dv W)=>DY n1 d1 W hE
 have Q2:=fun W (hE:Dv W)=>DY n2 d2 W hE
 obtain ⟨V1,e1,a1,b1⟩:=Dc w (.string n1) (.string d1) 31
 obtain ⟨V2,e2,a2,b2⟩:=Dc V1 (.string n2) (.string d2) 31
 have z1:V1.heap.size=w.heap.size+1:=by rw [e1,AP]
 rw [z1] at a2
 have hV:V2=(w.alloc (.cells #[.string n1,.string d1] 31)).alloc (.cells #[.string n2,.string d2] 31):=by rw [e2,e1]
 have hB:=Cv b2 b1 (Aa _)
 have hA:=a1.below b2
 obtain ⟨c0,c1⟩:=CC hA
 obtain ⟨c2,c3⟩:=CC a2
 clear e1 e2 a1 b1 b2 z1
 cases h1:rOk n1 d1 with
 | false =>
  rw [h1] at Q1;clear h1 hb;go_enter Tryz.func12,Tryz.ntmps12;go_wp2_with fail;rw [<-hV];clear hV;go_step3;go_wp2_with fail;refine (Q1 _ (hE.below hB (Aa _))).mono ?_;rintro e v1 ⟨rfl,hb⟩;have hB1:=Cv hb hB (Aa _);go_wp2;try rw [Exit.noGoto_ret]
  go_ret;exact ⟨rfl,hB1⟩
 | true =>
  have h2:rOk n2 d2=false:=by rw [h1,AH] at hb;exact hb
  rw [h1] at Q1;rw [h2] at Q2;clear h1 h2 hb;go_enter Tryz.func12,Tryz.ntmps12;go_wp2_with fail;rw [<-hV];clear hV;go_step3;go_wp2_with fail;refine (Q1 _ (hE.below hB (Aa _))).mono ?_;rintro e v1 ⟨rfl,hb⟩;have hB1:=Cv hb hB (Aa _);have C1:=a2.below hb;clear c0 c1 c2 c3;obtain ⟨c2,c3⟩:=CC C1;go_wp2_with fail;refine (Q2 _ (hE.below hB1 (Aa _))).mono ?_;rintro e v2 ⟨rfl,hb2⟩;have hB2:=Cv hb2 hB1 (Aa _);go_wp2;try rw [Exit.noGoto_ret]
  go_ret;exact ⟨rfl,hB2⟩
theorem SD (n1 d1 n2 d2:ByteArray) (w:World) (hE:Dv w) :
  Calls Tryz.prog 12 #[.agg #[.string n1,.string d1],.agg #[.string n2,.string d2]] w (CM w (.int .i64 (if rOk n1 d1&&rOk n2 d2 then Lib.compareInt (zS n1*zS d2) (zS n2*zS d1) else 0))):=by
 cases hb:(rOk n1 d1&&rOk n2 d2) with
 | false=>rw [AF Ae];exact SC n1 d1 n2 d2 w hE hb
 | true =>
  rw [AI rfl];have h:rOk n1 d1=true/\rOk n2 d2=true:=by simpa using hb
  exact qcmp_ok n1 d1 n2 d2 w hE h.1 h.2
structure QM (w:World):Prop where
 env:Dv w
 max:∃ m,w.cell? ⟨3,0,none⟩=some (.int .i64 m)
theorem QM.below {w w':World} {B:Nat} (h:QM w) (hb:Below B w w') (hB:w.heap.size<=B):QM w':=by
 obtain ⟨m,hm⟩:=h.max;exact ⟨h.env.below hb hB,m,(hb.cell (p:=⟨3,0,none⟩) (A9 (Ck w _ hm) hB)).trans hm⟩
end
section
open Go.RowKit
section
variable {H:Type} {enc:TypeId×Value->H}
theorem Fa {a:Assume} {C:Checked} {os:Os} {f:FuncId} {fn:Func} {s:ChangeSpec} {conds:List PathCond} {apart fresh handsOn again:Bool} {X:World->Array Value->Prop}
  (hX:∀ (w w':World) (args:Array Value),w.heap=w'.heap->X w args->X w' args)
  (own:ownKnob C.prog.godebug=none) (started:os.Started) (noInit:C.prog.inits.idxOf? f=none) (hfn:C.prog.funcs[f]? = some fn)
  (witness:∃ (w:World) (tape:Tape) (i:Input),w.os=os/\(w.forCall tape i).Shaped C.prog/\i.vars=[]/\Input.okWide C.prog (w.forCall tape i) .any w.heap.size f i /\
   ((s.pre enc C.prog fn conds apart (w.forCall tape i).memory i.args/\X (w.forCall tape i).memory i.args)/\sizedMet enc C.prog fn (OpenSpec.ofChange s) apart (w.forCall tape i).memory i.args)/\a.holds C.prog (lone (Frame.enter C.prog f i.args .normal) [] (w.forCall tape i)))
  (contract:∀ (W:World) (base:Nat) (args:Array Value) (ds gs:List (DataW H)) (before:List MemPlace),
   (∀ (j:Nat) t v,fn.params[j]? = some t->args[j]? = some v->Value.okWide C.prog W .any base t v) ->
   DataW.Whole enc C.prog fn.params.toList s.vars apart W args.toList ds gs before ->
   conds.all (PathCond.test C.prog ⟨fn.params.toList,ds,s.plain.varTypes C.prog,gs⟩)=true ->
   (DataW.weightsEach C.prog (fn.params.toList++s.plain.varTypes C.prog) (ds++gs)).all (·<=reachBytes)=true->X W args->W.ShapedOpen C.prog ->
   a.holds C.prog (lone (Frame.enter C.prog f args .normal) [] W) ->
   Calls C.prog f args W fun e W'=>∃ v,e=.returned v/\s.post enc C.prog fn apart fresh handsOn again W args v W') :
  ReturnsInHanded a C os f .any (fun w args=>(s.pre enc C.prog fn conds apart w args/\X w args)/\sizedMet enc C.prog fn (OpenSpec.ofChange s) apart w args) (s.post enc C.prog fn apart fresh handsOn again):=by
 refine returnsInHanded_of_calls own started noInit witness ?_
 intro w tape i _ hsh _ hok hpre hholds
 obtain ⟨_,_,_,fn',hfn',_,_,_,_,hval⟩:=hok
 have e:fn'=fn:=AL (hfn'.symm.trans hfn)
 subst e
 obtain ⟨⟨⟨ds,gs,before,hw,hc⟩,hx⟩,hz⟩:=hpre
 have hw':=DataW.Whole.of_heap (w':=w.forCall tape i) (by rfl) hw
 refine (contract (w.forCall tape i) w.heap.size i.args ds gs before hval hw' hc (hz.weights hw) (hX _ _ _ (by rfl) hx) hsh hholds).mono fun e W' ⟨v,he,hp⟩=>?_
 subst he
 exact ChangeSpec.post_blind hp
end
theorem LU {W:World} (h:W.ShapedOpen Tryz.prog):∃ m,W.cell? ⟨3,0,none⟩=some (.int .i64 m):=Go.Proofs.cell_of_shapedOpen_int (zero:=#[.int .i64 0]) (t:=3) h (BS Ab) Ab rfl Ab Ab Tryz.underlying3
end
section
open Go.RowKit Go.Lib
theorem gPow : Tryz.prog.globalNamed "internal/strconv.uint64pow10" = some 0 := by kernel_rfl
theorem Ky {P:Program} {W:World} {name:String} {k:IntKind} {zs:List Int} {g:Nat} {t e:TypeId} {n:Nat}
  (hg:P.globalNamed name=some g) (hty:(P.globals[g]?).map (·.type)=some t) (ht:P.underlying t=some (.array n e)) (he:P.underlying e=some (.int k)) (hce:P.cellsOf e=1) (hct:P.cellsOf t=n)
  (h:VarReads P W name (tabData k zs)):TabIs P W name k zs:=by
 obtain ⟨g',t',cs,fuel,p,hg',ht',hvar,hd⟩:=h
 obtain rfl:=AL (hg.symm.trans hg')
 obtain rfl:=AL (hty.symm.trans ht')
 unfold TabIs
 rw [hvar,<-cells_of_tab ht he hce hct hd]
theorem tPow:(Tryz.prog.globals[0]?).map (·.type)=some 205:=by kernel_rfl
theorem cPow:Tryz.prog.cellsOf 205=20:=by kernel_rfl
theorem Mc {W : World} (h : VarReads Tryz.prog W "internal/strconv.uint64pow10" (tabData .u64 pow10Tab)) : Dv W :=
 ⟨Ky gPow tPow Tryz.underlying205 Tryz.underlying184 Ab cPow h⟩
theorem envQ_of {W : World} (h : VarReads Tryz.prog W "internal/strconv.uint64pow10" (tabData .u64 pow10Tab)) (hs : W.ShapedOpen Tryz.prog) : QM W := ⟨Mc h, LU hs⟩
end
end Go.Proofs.YtdkonnnmkceagaaGreatDoor
