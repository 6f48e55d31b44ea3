/- DecH, DecI, DecJ, DecS, DecV, DecW, DecX, DecY, TfP -/
import Derived.Test.YtdkonnnmkceagaaGreatDoorZMemN
import Derived.Deep.RegionHeld3
import Derived.Deep.QuietTactic
import Derived.BigQuiet
import Derived.Deep.DeepCutAuto
import Derived.RegionTactic
import Derived.BigRegion
set_option maxHeartbeats 16000000
set_option maxRecDepth 100000
namespace Go.Proofs.YtdkonnnmkceagaaGreatDoor
section
open Go.RowKit
open DecM (Dt gd Fi Ex Ln D7 Jz ext sg)
attribute [local go_sem] Oper.semAt_some
theorem BL.c3 {w W:World} {L:Ec} (h:BL w L W) (B:Nat) (a b c:Value) (t:TypeId) (hm:(B,#[a,b,c],t)∈L):W.cell? ⟨B,0,none⟩=some a/\W.cell? ⟨B,1,none⟩=some b/\W.cell? ⟨B,2,none⟩=some c:=⟨h.cell B _ t hm 0,h.cell B _ t hm 1,h.cell B _ t hm 2⟩
def P5 (a b:Option Rat) (d:Dt):Bool:=match Ma a b d.t with
 | none=>true
 | some v=>decide (v<(d.lo:Rat)) || decide ((d.hi:Rat)<v)
def TH (l:List Dt) (a b:Option Rat):Bool:=Fi l&&a.isSome&&b.isSome&&!l.any (P5 a b)
theorem TI (x y:Rat):decide (Hb x y<0)=decide (x<y):=by
 rcases HW x y with ⟨h,e⟩ | ⟨h,e⟩ | ⟨h,e⟩
 ·rw [e];simp [h]
 ·rw [e];subst h;simp [Rat.lt_irrefl]
 ·rw [e];simp;exact Rat.not_lt.2 (Rat.le_of_lt h)
theorem TJ (x y:Rat):decide (Hb x y > 0)=decide (y<x):=by
 rcases HW x y with ⟨h,e⟩ | ⟨h,e⟩ | ⟨h,e⟩
 ·rw [e];simp;exact Rat.not_lt.2 (Rat.le_of_lt h)
 ·rw [e];subst h;simp [Rat.lt_irrefl]
 ·rw [e];simp [h]
theorem TK {z:Int} (h:CI z):Fy (some (z:Rat)):=Fy.some (show Ei (z:Rat) from ⟨Kb h,L0⟩)
theorem P6 (n1 d1 n2 d2:ByteArray) (d:Dt) (Ba Bb:Nat) (h0:CI d.t) (h1:CI d.lo) (h2:CI d.hi) (w:World) (hE:Dv w) (k1:CO w Ba #[.string n1,.string d1] 31) (k2:CO w Bb #[.string n2,.string d2] 31) :
  Calls Tryz.prog 27 #[.agg #[.int .i64 d.t,.int .i64 d.lo,.int .i64 d.hi],.pointer (some ⟨Ba,0,none⟩),.pointer (some ⟨Bb,0,none⟩)] w (CM w (.bool (P5 (oq n1 d1) (oq n2 d2) d))):=by
 have VL:=fun W (hE:Dv W)=>Rp n1 d1 n2 d2 d.t h0 W hE
 unfold dV at VL
 have OL:=fun W (hE:Dv W)=>Nb d.lo 1 h1 Ae W hE
 rw [JE] at OL
 unfold oV at OL
 have OH:=fun W (hE:Dv W)=>Nb d.hi 1 h2 Ae W hE
 rw [JE] at OH
 unfold oV at OH
 have hvo:Fy (Ma (oq n1 d1) (oq n2 d2) d.t):=Fy.val
 have CL:=fun W (hE:Dv W)=>LY hvo (TK h1) W hE
 have CH:=fun W (hE:Dv W)=>LY hvo (TK h2) W hE
 unfold P5
 clear hvo h0 h1 h2
 generalize Ma (oq n1 d1) (oq n2 d2) d.t=ov at *
 generalize tN (some (d.lo:Rat))=ln at *
 generalize tD (some (d.lo:Rat))=ld at *
 generalize eO (some (d.lo:Rat))=le at *
 generalize tN (some (d.hi:Rat))=hn at *
 generalize tD (some (d.hi:Rat))=hd at *
 generalize eO (some (d.hi:Rat))=he at *
 have S0:BL w [(Bb,#[.string n2,.string d2],31),(Ba,#[.string n1,.string d1],31)] w:=⟨Below.refl _ _,fun p hp=>by rcases As.1 hp with rfl | hp;exact k2;rcases As.1 hp with rfl | hp;exact k1;cases hp⟩
 obtain ⟨V1,ev1,S1,zv1⟩:=S0.add' #[.int .i64 d.t,.int .i64 d.lo,.int .i64 d.hi] 28
 have hV:V1=(w.alloc (.cells #[.int .i64 d.t,.int .i64 d.lo,.int .i64 d.hi] 28)):=by rw [ev1]
 have hS:BL w [(w.heap.size,#[.int .i64 d.t,.int .i64 d.lo,.int .i64 d.hi],28),(Bb,#[.string n2,.string d2],31),(Ba,#[.string n1,.string d1],31)] V1:=S1
 clear ev1 zv1 S0 S1
 clear k1 k2
 replace OL:=A8 OL
 replace OH:=A8 OH
 cases ov with
 | none =>
  clear CL CH;replace VL:∀ W,Dv W->Calls Tryz.prog 28 #[.agg #[.string n1,.string d1],.agg #[.string n2,.string d2],.int .i64 d.t] W (CM W (.tuple #[.agg #[.string ⟨#[]⟩,.string ⟨#[]⟩],.int .i64 260])):=VL;replace VL:=A8 VL;go_enter Tryz.func27,Tryz.ntmps27;go_upto_region 1 with fail;rw [<-hV];clear hV;obtain ⟨c_a_0,c_a_1⟩:=hS.c2 (Ba) _ _ _ Aj;obtain ⟨c_b_0,c_b_1⟩:=hS.c2 (Bb) _ _ _ Ai;obtain ⟨c_d_0,c_d_1,c_d_2⟩:=hS.c3 (w.heap.size) _ _ _ _ Ah;go_wp2_with fail;refine Calls.mono (VL.out _ (hS.env hE)) ?_;rintro e w1 ⟨rfl,hb⟩;clear c_a_0 c_a_1 c_b_0 c_b_1 c_d_0 c_d_1 c_d_2;replace hS:=hS.call hb;clear hb;replace hS:=hS.add' #[.string ⟨#[]⟩,.string ⟨#[]⟩] 31;obtain ⟨W0,hW0,hS,hz0⟩:=hS;obtain ⟨W,hW⟩:∃ W,W=(w1.alloc (.cells #[.string ⟨#[]⟩,.string ⟨#[]⟩] 31)):=⟨_,rfl⟩;replace hS:BL w [(w1.heap.size,#[.string ⟨#[]⟩,.string ⟨#[]⟩],31),(w.heap.size,#[.int .i64 d.t,.int .i64 d.lo,.int .i64 d.hi],28),(Bb,#[.string n2,.string d2],31),(Ba,#[.string n1,.string d1],31)] W:=by rw [hW,<-hW0];exact hS
  clear hz0 hW0;go_upto_region 2 with fail;rw [<-hW];clear hW;obtain ⟨c_d_0,c_d_1,c_d_2⟩:=hS.c3 (w.heap.size) _ _ _ _ Ai;go_wp2_with fail;refine Calls.mono (OL.out _ (hS.env hE)) ?_;rintro e w2 ⟨rfl,hb⟩;clear c_d_0 c_d_1 c_d_2;replace hS:=hS.call hb;clear hb;replace hS:=hS.add' #[.string ln,.string ld] 31;obtain ⟨W0,hW0,hS,hz0⟩:=hS;obtain ⟨W,hW⟩:∃ W,W=(w2.alloc (.cells #[.string ln,.string ld] 31)):=⟨_,rfl⟩;replace hS:BL w [(w2.heap.size,#[.string ln,.string ld],31),(w1.heap.size,#[.string ⟨#[]⟩,.string ⟨#[]⟩],31),(w.heap.size,#[.int .i64 d.t,.int .i64 d.lo,.int .i64 d.hi],28),(Bb,#[.string n2,.string d2],31),(Ba,#[.string n1,.string d1],31)] W:=by rw [hW,<-hW0];exact hS
  clear hz0 hW0;go_upto_region 3 with fail;rw [<-hW];clear hW;obtain ⟨c_d_0,c_d_1,c_d_2⟩:=hS.c3 (w.heap.size) _ _ _ _ Aj;go_wp2_with fail;refine Calls.mono (OH.out _ (hS.env hE)) ?_;rintro e w3 ⟨rfl,hb⟩;clear c_d_0 c_d_1 c_d_2;replace hS:=hS.call hb;clear hb;replace hS:=hS.add' #[.string hn,.string hd] 31;obtain ⟨W0,hW0,hS,hz0⟩:=hS;obtain ⟨W,hW⟩:∃ W,W=(w3.alloc (.cells #[.string hn,.string hd] 31)):=⟨_,rfl⟩;replace hS:BL w [(w3.heap.size,#[.string hn,.string hd],31),(w2.heap.size,#[.string ln,.string ld],31),(w1.heap.size,#[.string ⟨#[]⟩,.string ⟨#[]⟩],31),(w.heap.size,#[.int .i64 d.t,.int .i64 d.lo,.int .i64 d.hi],28),(Bb,#[.string n2,.string d2],31),(Ba,#[.string n1,.string d1],31)] W:=by rw [hW,<-hW0];exact hS
  clear hz0 hW0;go_upto_region 4 with fail;rw [<-hW];clear hW;go_wp2;go_ret;exact ⟨rfl,hS.below⟩
 | some v =>
  show Calls _ _ _ _ (CM w (.bool (decide (v<(d.lo:Rat)) || decide ((d.hi:Rat)<v))));rw [<-TI,<-TJ];replace CL:∀ W,Dv W->Calls Tryz.prog 12 #[.agg #[.string (tN (some v)),.string (tD (some v))],.agg #[.string ln,.string ld]] W (CM W (.int .i64 (Hb v (d.lo:Rat)))):=CL;replace CH:∀ W,Dv W->Calls Tryz.prog 12 #[.agg #[.string (tN (some v)),.string (tD (some v))],.agg #[.string hn,.string hd]] W (CM W (.int .i64 (Hb v (d.hi:Rat)))):=CH;replace VL:∀ W,Dv W->Calls Tryz.prog 28 #[.agg #[.string n1,.string d1],.agg #[.string n2,.string d2],.int .i64 d.t] W (CM W (.tuple #[.agg #[.string (tN (some v)),.string (tD (some v))],.int .i64 0])):=VL;generalize tN (some v)=vn at *
  generalize tD (some v)=vd at *
  generalize Hb v (d.lo:Rat)=cl at *
  generalize Hb v (d.hi:Rat)=ch at *
  replace CL:=A8 CL;replace CH:=A8 CH;replace VL:=A8 VL;by_cases c1:cl<0
  ·rw [Ay c1,Bool.true_or]
   go_enter Tryz.func27,Tryz.ntmps27;go_upto_region 1 with fail;rw [<-hV];clear hV;obtain ⟨c_a_0,c_a_1⟩:=hS.c2 (Ba) _ _ _ Aj;obtain ⟨c_b_0,c_b_1⟩:=hS.c2 (Bb) _ _ _ Ai;obtain ⟨c_d_0,c_d_1,c_d_2⟩:=hS.c3 (w.heap.size) _ _ _ _ Ah;go_wp2_with fail;refine Calls.mono (VL.out _ (hS.env hE)) ?_;rintro e w1 ⟨rfl,hb⟩;clear c_a_0 c_a_1 c_b_0 c_b_1 c_d_0 c_d_1 c_d_2;replace hS:=hS.call hb;clear hb;replace hS:=hS.add' #[.string vn,.string vd] 31;obtain ⟨W0,hW0,hS,hz0⟩:=hS;obtain ⟨W,hW⟩:∃ W,W=(w1.alloc (.cells #[.string vn,.string vd] 31)):=⟨_,rfl⟩;replace hS:BL w [(w1.heap.size,#[.string vn,.string vd],31),(w.heap.size,#[.int .i64 d.t,.int .i64 d.lo,.int .i64 d.hi],28),(Bb,#[.string n2,.string d2],31),(Ba,#[.string n1,.string d1],31)] W:=by rw [hW,<-hW0];exact hS
   clear hz0 hW0;go_upto_region 2 with fail;rw [<-hW];clear hW;obtain ⟨c_d_0,c_d_1,c_d_2⟩:=hS.c3 (w.heap.size) _ _ _ _ Ai;go_wp2_with fail;refine Calls.mono (OL.out _ (hS.env hE)) ?_;rintro e w2 ⟨rfl,hb⟩;clear c_d_0 c_d_1 c_d_2;replace hS:=hS.call hb;clear hb;replace hS:=hS.add' #[.string ln,.string ld] 31;obtain ⟨W0,hW0,hS,hz0⟩:=hS;obtain ⟨W,hW⟩:∃ W,W=(w2.alloc (.cells #[.string ln,.string ld] 31)):=⟨_,rfl⟩;replace hS:BL w [(w2.heap.size,#[.string ln,.string ld],31),(w1.heap.size,#[.string vn,.string vd],31),(w.heap.size,#[.int .i64 d.t,.int .i64 d.lo,.int .i64 d.hi],28),(Bb,#[.string n2,.string d2],31),(Ba,#[.string n1,.string d1],31)] W:=by rw [hW,<-hW0];exact hS
   clear hz0 hW0;go_upto_region 3 with fail;rw [<-hW];clear hW;obtain ⟨c_d_0,c_d_1,c_d_2⟩:=hS.c3 (w.heap.size) _ _ _ _ Aj;go_wp2_with fail;refine Calls.mono (OH.out _ (hS.env hE)) ?_;rintro e w3 ⟨rfl,hb⟩;clear c_d_0 c_d_1 c_d_2;replace hS:=hS.call hb;clear hb;replace hS:=hS.add' #[.string hn,.string hd] 31;obtain ⟨W0,hW0,hS,hz0⟩:=hS;obtain ⟨W,hW⟩:∃ W,W=(w3.alloc (.cells #[.string hn,.string hd] 31)):=⟨_,rfl⟩;replace hS:BL w [(w3.heap.size,#[.string hn,.string hd],31),(w2.heap.size,#[.string ln,.string ld],31),(w1.heap.size,#[.string vn,.string vd],31),(w.heap.size,#[.int .i64 d.t,.int .i64 d.lo,.int .i64 d.hi],28),(Bb,#[.string n2,.string d2],31),(Ba,#[.string n1,.string d1],31)] W:=by rw [hW,<-hW0];exact hS
   clear hz0 hW0;go_upto_region 4 with fail;rw [<-hW];clear hW;obtain ⟨c_v_0,c_v_1⟩:=hS.c2 (w1.heap.size) _ _ _ Aj;obtain ⟨c_lo_0,c_lo_1⟩:=hS.c2 (w2.heap.size) _ _ _ Ai;go_wp2_with fail;refine Calls.mono (CL.out _ (hS.env hE)) ?_;rintro e w4 ⟨rfl,hb⟩;clear c_v_0 c_v_1 c_lo_0 c_lo_1;replace hS:=hS.call hb;clear hb;go_wp2;go_ret;exact ⟨rfl,hS.below⟩
  ·rw [Al c1,Bool.false_or]
   go_enter Tryz.func27,Tryz.ntmps27;go_upto_region 1 with fail;rw [<-hV];clear hV;obtain ⟨c_a_0,c_a_1⟩:=hS.c2 (Ba) _ _ _ Aj;obtain ⟨c_b_0,c_b_1⟩:=hS.c2 (Bb) _ _ _ Ai;obtain ⟨c_d_0,c_d_1,c_d_2⟩:=hS.c3 (w.heap.size) _ _ _ _ Ah;go_wp2_with fail;refine Calls.mono (VL.out _ (hS.env hE)) ?_;rintro e w1 ⟨rfl,hb⟩;clear c_a_0 c_a_1 c_b_0 c_b_1 c_d_0 c_d_1 c_d_2;replace hS:=hS.call hb;clear hb;replace hS:=hS.add' #[.string vn,.string vd] 31;obtain ⟨W0,hW0,hS,hz0⟩:=hS;obtain ⟨W,hW⟩:∃ W,W=(w1.alloc (.cells #[.string vn,.string vd] 31)):=⟨_,rfl⟩;replace hS:BL w [(w1.heap.size,#[.string vn,.string vd],31),(w.heap.size,#[.int .i64 d.t,.int .i64 d.lo,.int .i64 d.hi],28),(Bb,#[.string n2,.string d2],31),(Ba,#[.string n1,.string d1],31)] W:=by rw [hW,<-hW0];exact hS
   clear hz0 hW0;go_upto_region 2 with fail;rw [<-hW];clear hW;obtain ⟨c_d_0,c_d_1,c_d_2⟩:=hS.c3 (w.heap.size) _ _ _ _ Ai;go_wp2_with fail;refine Calls.mono (OL.out _ (hS.env hE)) ?_;rintro e w2 ⟨rfl,hb⟩;clear c_d_0 c_d_1 c_d_2;replace hS:=hS.call hb;clear hb;replace hS:=hS.add' #[.string ln,.string ld] 31;obtain ⟨W0,hW0,hS,hz0⟩:=hS;obtain ⟨W,hW⟩:∃ W,W=(w2.alloc (.cells #[.string ln,.string ld] 31)):=⟨_,rfl⟩;replace hS:BL w [(w2.heap.size,#[.string ln,.string ld],31),(w1.heap.size,#[.string vn,.string vd],31),(w.heap.size,#[.int .i64 d.t,.int .i64 d.lo,.int .i64 d.hi],28),(Bb,#[.string n2,.string d2],31),(Ba,#[.string n1,.string d1],31)] W:=by rw [hW,<-hW0];exact hS
   clear hz0 hW0;go_upto_region 3 with fail;rw [<-hW];clear hW;obtain ⟨c_d_0,c_d_1,c_d_2⟩:=hS.c3 (w.heap.size) _ _ _ _ Aj;go_wp2_with fail;refine Calls.mono (OH.out _ (hS.env hE)) ?_;rintro e w3 ⟨rfl,hb⟩;clear c_d_0 c_d_1 c_d_2;replace hS:=hS.call hb;clear hb;replace hS:=hS.add' #[.string hn,.string hd] 31;obtain ⟨W0,hW0,hS,hz0⟩:=hS;obtain ⟨W,hW⟩:∃ W,W=(w3.alloc (.cells #[.string hn,.string hd] 31)):=⟨_,rfl⟩;replace hS:BL w [(w3.heap.size,#[.string hn,.string hd],31),(w2.heap.size,#[.string ln,.string ld],31),(w1.heap.size,#[.string vn,.string vd],31),(w.heap.size,#[.int .i64 d.t,.int .i64 d.lo,.int .i64 d.hi],28),(Bb,#[.string n2,.string d2],31),(Ba,#[.string n1,.string d1],31)] W:=by rw [hW,<-hW0];exact hS
   clear hz0 hW0;go_upto_region 4 with fail;rw [<-hW];clear hW;obtain ⟨c_v_0,c_v_1⟩:=hS.c2 (w1.heap.size) _ _ _ Aj;obtain ⟨c_lo_0,c_lo_1⟩:=hS.c2 (w2.heap.size) _ _ _ Ai;go_wp2_with fail;refine Calls.mono (CL.out _ (hS.env hE)) ?_;rintro e w4 ⟨rfl,hb⟩;clear c_v_0 c_v_1 c_lo_0 c_lo_1;replace hS:=hS.call hb;clear hb;obtain ⟨c_v_0,c_v_1⟩:=hS.c2 (w1.heap.size) _ _ _ Aj;obtain ⟨c_hi_0,c_hi_1⟩:=hS.c2 (w3.heap.size) _ _ _ Ah;go_wp2_with fail;refine Calls.mono (CH.out _ (hS.env hE)) ?_;rintro e w5 ⟨rfl,hb⟩;clear c_v_0 c_v_1 c_hi_0 c_hi_1;replace hS:=hS.call hb;clear hb;go_wp2;go_ret;exact ⟨D6 (by rw [Al (show ¬ cl<0 by omega),Bool.false_or]),hS.below⟩
theorem Rq (v:Value) (l:List Dt) (n1 d1 n2 d2:ByteArray) (hf:∀ d∈l,CI d.t/\CI d.lo/\CI d.hi) (w:World) (hE:Dv w) (h:Gp w v l) :
  Calls Tryz.prog 11 #[v,.agg #[.string n1,.string d1],.agg #[.string n2,.string d2]] w (CM w (.bool (TH l (oq n1 d1) (oq n2 d2)))):=by
 have VD:=fun W (h:Gp W v l)=>I4 v l W h
 have VA:=fun W (hE:Dv W)=>DY n1 d1 W hE
 have VB:=fun W (hE:Dv W)=>DY n2 d2 W hE
 have CF:=fun W (hW:Gp W v l) (hE:Dv W) Ba Bb (k1:CO W Ba #[.string n1,.string d1] 31) (k2:CO W Bb #[.string n2,.string d2] 31)=>Hx v l 27 #[.pointer (some ⟨Ba,0,none⟩),.pointer (some ⟨Bb,0,none⟩)] (P5 (oq n1 d1) (oq n2 d2)) W hW (Go.Proofs.enters_of Tryz.func27 Ab rfl) (fun W' d hd hb=>P6 n1 d1 n2 d2 d Ba Bb (hf d hd).1 (hf d hd).2.1 (hf d hd).2.2 W' (hE.below hb (Aa _)) (k1.below hb) (k2.below hb))
 unfold TH
 rw [JD,JD]
 generalize l.any (P5 (oq n1 d1) (oq n2 d2))=an at *
 generalize rOk n1 d1=b1 at *
 generalize rOk n2 d2=b2 at *
 generalize Fi l=b0 at *
 have HL:=A8 h
 obtain ⟨ag,cap,rfl⟩:=h.shape
 clear h hf
 have Sv0:=BL.start w
 obtain ⟨V1,ev1,Sv1,zv1⟩:=Sv0.add' #[.string n1,.string d1] 31
 obtain ⟨V2,ev2,Sv2,zv2⟩:=Sv1.add' #[.string n2,.string d2] 31
 rw [zv1] at Sv2
 have hV:V2=((w.alloc (.cells #[.string n1,.string d1] 31)).alloc (.cells #[.string n2,.string d2] 31)):=by rw [ev2,ev1]
 have hS:BL w [(w.heap.size+1,#[.string n2,.string d2],31),(w.heap.size,#[.string n1,.string d1],31)] V2:=Sv2
 clear ev1 ev2 zv1 zv2 Sv0 Sv1 Sv2
 replace VD:=A8 VD
 replace VA:=A8 VA
 replace VB:=A8 VB
 replace CF:=A8 CF
 cases b0 with
 | false =>
  rw [Bool.false_and,Bool.false_and,Bool.false_and];go_enter Tryz.func11,Tryz.ntmps11;go_wp2_with fail;rw [<-hV];clear hV;refine Calls.mono (VD.out _ (HL.out.below hS.below)) ?_;rintro e w1 ⟨rfl,hb⟩;replace hS:=hS.call hb;clear hb;go_wp2;go_ret;exact ⟨rfl,hS.below⟩
 | true =>
  cases b1 with
  | false =>
   rw [Bool.and_false,Bool.false_and,Bool.false_and];go_enter Tryz.func11,Tryz.ntmps11;go_wp2_with fail;rw [<-hV];clear hV;refine Calls.mono (VD.out _ (HL.out.below hS.below)) ?_;rintro e w1 ⟨rfl,hb⟩;replace hS:=hS.call hb;clear hb;obtain ⟨c_a_0,c_a_1⟩:=hS.c2 (w.heap.size) _ _ _ Ai;go_wp2_with fail;refine Calls.mono (VA.out _ (hS.env hE)) ?_;rintro e w2 ⟨rfl,hb⟩;clear c_a_0 c_a_1;replace hS:=hS.call hb;clear hb;go_wp2;go_ret;exact ⟨rfl,hS.below⟩
  | true =>
   cases b2 with
   | false =>
    rw [Bool.and_false,Bool.false_and];go_enter Tryz.func11,Tryz.ntmps11;go_wp2_with fail;rw [<-hV];clear hV;refine Calls.mono (VD.out _ (HL.out.below hS.below)) ?_;rintro e w1 ⟨rfl,hb⟩;replace hS:=hS.call hb;clear hb;obtain ⟨c_a_0,c_a_1⟩:=hS.c2 (w.heap.size) _ _ _ Ai;go_wp2_with fail;refine Calls.mono (VA.out _ (hS.env hE)) ?_;rintro e w2 ⟨rfl,hb⟩;clear c_a_0 c_a_1;replace hS:=hS.call hb;clear hb;obtain ⟨c_b_0,c_b_1⟩:=hS.c2 (w.heap.size+1) _ _ _ Ah;go_wp2_with fail;refine Calls.mono (VB.out _ (hS.env hE)) ?_;rintro e w3 ⟨rfl,hb⟩;clear c_b_0 c_b_1;replace hS:=hS.call hb;clear hb;go_wp2;go_ret;exact ⟨rfl,hS.below⟩
   | true =>
    rw [AH,AH,AH];go_enter Tryz.func11,Tryz.ntmps11;go_wp2_with fail;rw [<-hV];clear hV;refine Calls.mono (VD.out _ (HL.out.below hS.below)) ?_;rintro e w1 ⟨rfl,hb⟩;replace hS:=hS.call hb;clear hb;obtain ⟨c_a_0,c_a_1⟩:=hS.c2 (w.heap.size) _ _ _ Ai;go_wp2_with fail;refine Calls.mono (VA.out _ (hS.env hE)) ?_;rintro e w2 ⟨rfl,hb⟩;clear c_a_0 c_a_1;replace hS:=hS.call hb;clear hb;obtain ⟨c_b_0,c_b_1⟩:=hS.c2 (w.heap.size+1) _ _ _ Ah;go_wp2_with fail;refine Calls.mono (VB.out _ (hS.env hE)) ?_;rintro e w3 ⟨rfl,hb⟩;clear c_b_0 c_b_1;replace hS:=hS.call hb;clear hb;go_wp2_with fail;refine Calls.mono (CF.out _ (HL.out.below hS.below) (hS.env hE) _ _ (hS.blks _ Ai) (hS.blks _ Ah)) ?_;rintro e w9 ⟨rfl,hb⟩;replace hS:=hS.call hb;clear hb;go_wp2;go_ret;exact ⟨rfl,hS.below⟩
end
section
open Go.RowKit
open DecM (Dt gd Fi Ex Ln D7 Jz ext top sg Gn)
attribute [local go_sem] Oper.semAt_some
theorem BL.pushB {w W:World} {L:Ec} (h:BL w L W) {g:Nat} {cs:Array Value} {t:TypeId} (hb:CO W g cs t):BL w ((g,cs,t) :: L) W :=
 ⟨h.below,fun p hp=>by
  rcases As.1 hp with rfl | hp
  ·exact hb
  ·exact h.blks p hp⟩
theorem EW {W:World} {R:Nat} {x0 x1 x2 x3:Value} (hR:CO W R #[x0,x1,x2,x3] 56) (a b c d:Value) :
  W.cell? ⟨R,0,none⟩=some x0/\W.cell? ⟨R,1,none⟩=some x1/\W.cell? ⟨R,2,none⟩=some x2/\W.cell? ⟨R,3,none⟩=some x3/\W.frozen? ⟨R,0,none⟩=false/\W.frozen? ⟨R,1,none⟩=false/\W.frozen? ⟨R,2,none⟩=false/\W.frozen? ⟨R,3,none⟩=false /\
   ((((W.setCell ⟨R,0,none⟩ a).setCell ⟨R,1,none⟩ b).setCell ⟨R,2,none⟩ c).setCell ⟨R,3,none⟩ d).cell? ⟨R,0,none⟩=some a/\((((W.setCell ⟨R,0,none⟩ a).setCell ⟨R,1,none⟩ b).setCell ⟨R,2,none⟩ c).setCell ⟨R,3,none⟩ d).cell? ⟨R,1,none⟩=some b /\
   ((((W.setCell ⟨R,0,none⟩ a).setCell ⟨R,1,none⟩ b).setCell ⟨R,2,none⟩ c).setCell ⟨R,3,none⟩ d).cell? ⟨R,2,none⟩=some c/\((((W.setCell ⟨R,0,none⟩ a).setCell ⟨R,1,none⟩ b).setCell ⟨R,2,none⟩ c).setCell ⟨R,3,none⟩ d).cell? ⟨R,3,none⟩=some d /\
   (∀ V,Below V.heap.size V W->V.heap.size<=R->Below V.heap.size V ((((W.setCell ⟨R,0,none⟩ a).setCell ⟨R,1,none⟩ b).setCell ⟨R,2,none⟩ c).setCell ⟨R,3,none⟩ d)):=by
 have m:=(((hR.set 0 a).set 1 b).set 2 c).set 3 d
 exact ⟨hR.cell 0,hR.cell 1,hR.cell 2,hR.cell 3,hR.frozen 0,hR.frozen 1,hR.frozen 2,hR.frozen 3,m.cell 0,m.cell 1,m.cell 2,m.cell 3,
  fun V hb hV=>(((hb.setCell (p:=⟨R,0,none⟩) hV _).setCell (p:=⟨R,1,none⟩) hV _).setCell (p:=⟨R,2,none⟩) hV _).setCell (p:=⟨R,3,none⟩) hV _⟩
def NM (l:List Dt) (t:Int) (hi:Bool):Option Ln:=if Fi l&&Ex t then ext l t hi else none
def eL (o:Option Ln):Int:=match o with
 | some _=>0
 | none=>260
def xV (o:Option Ln):Value:=.tuple #[.agg (oC o),.int .i64 (eL o)]
theorem I5 {l:List Dt} {t:Int} {hi:Bool} {y:Ln} (h:NM l t hi=some y):Gq y/\y.t<y.u:=by
 unfold NM at h;split at h
 ·rename_i hc
  rw [Ao] at hc;have hm:=(DecM.bst_some (DecM.fitting_lt (DecM.okD_good hc.1)) h).1;exact ⟨Kp hc.1 hm,DecM.fitting_lt (DecM.okD_good hc.1) y hm⟩
 ·cases h
theorem Jj (v:Value) (l:List Dt) (t:Int) (hi:Bool) (w:World) (h:Gp w v l) :
  Calls Tryz.prog 15 #[v,.int .i64 t,.bool hi] w (CM w (xV (NM l t hi))):=by
 have VD:=fun W (h:Gp W v l)=>I4 v l W h
 have IN:=fun W=>OK t 0 800000 W
 rw [Q3] at IN
 have BE:=fun (hok:Fi l=true) (hd:Ex t=true) W (hW:Gp W v l) Bh Bt (k1:CO W Bh #[.bool hi] 4) (k2:CO W Bt #[.int .i64 t] 3)=>Tq v l (fun x=>sg hi*x.on t) 39 #[.pointer (some ⟨Bh,0,none⟩),.pointer (some ⟨Bt,0,none⟩)] hok W hW (Rc t hi Bh Bt (DecM.inDay_iff.1 hd) W k1 k2)
 have hxo:=fun y=>I5 (l:=l) (t:=t) (hi:=hi) (y:=y)
 unfold NM at hxo |-
 replace BE:∀ (hok:Fi l=true) (hd:Ex t=true) W (hW:Gp W v l) Bh Bt (k1:CO W Bh #[.bool hi] 4) (k2:CO W Bt #[.int .i64 t] 3),Calls Tryz.prog 38 #[v,.func (.func 39) #[] #[.pointer (some ⟨Bh,0,none⟩),.pointer (some ⟨Bt,0,none⟩)]] W (CM W (.agg (oC (ext l t hi)))):=BE
 generalize ext l t hi=ox at *
 generalize Fi l=b0 at *
 generalize Ex t=b1 at *
 have HL:=A8 h
 obtain ⟨ag,cap,rfl⟩:=h.shape
 clear h
 have S0:=BL.start w
 obtain ⟨V1,ev1,S1,zv1⟩:=S0.add' #[.int .i64 t] 3
 obtain ⟨V2,ev2,S2,zv2⟩:=S1.add' #[.bool hi] 4
 rw [zv1] at S2 zv2
 obtain ⟨V3,ev3,S3,zv3⟩:=S2.add' #[.int .i64 0,.int .i64 0,.int .i64 0,.int .i64 0] 56
 rw [zv2] at S3 zv3
 have hV:V3=(((w.alloc (.cells #[.int .i64 t] 3)).alloc (.cells #[.bool hi] 4)).alloc (.cells #[.int .i64 0,.int .i64 0,.int .i64 0,.int .i64 0] 56)):=by rw [ev3,ev2,ev1]
 have hS:BL w [(w.heap.size+1+1,#[.int .i64 0,.int .i64 0,.int .i64 0,.int .i64 0],56),(w.heap.size+1,#[.bool hi],4),(w.heap.size,#[.int .i64 t],3)] V3:=S3
 clear ev1 ev2 ev3 zv1 zv2 zv3 S0 S1 S2 S3
 replace VD:=A8 VD
 replace IN:=A8 IN
 cases b0 with
 | false =>
  clear BE hxo;show Calls _ _ _ _ (CM w (.tuple #[.agg #[.int .i64 0,.int .i64 0,.int .i64 0,.int .i64 0],.int .i64 260]));go_enter Tryz.func15,Tryz.ntmps15;go_wp2_with fail;rw [<-hV];clear hV;refine Calls.mono (VD.out _ (HL.out.below hS.below)) ?_;rintro e w1 ⟨rfl,hb⟩;replace hS:=hS.call hb;clear hb;obtain ⟨k0,k1,k2,k3,q0,q1,q2,q3,y0,y1,y2,y3,hfin⟩:=EW (hS.blks _ Ah) (.int .i64 0) (.int .i64 0) (.int .i64 0) (.int .i64 0);have hfin:=A8 (hfin w hS.below Ad);clear hS;go_wp2;exact bodyPost_ret (v:=.tuple #[.agg #[.int .i64 0,.int .i64 0,.int .i64 0,.int .i64 0],.int .i64 260]) (by simp [results,Tryz.results15,go_sem,y0,y1,y2,y3]) rfl ⟨rfl,hfin.out⟩
 | true =>
  cases b1 with
  | false =>
   clear BE hxo;show Calls _ _ _ _ (CM w (.tuple #[.agg #[.int .i64 0,.int .i64 0,.int .i64 0,.int .i64 0],.int .i64 260]));go_enter Tryz.func15,Tryz.ntmps15;go_wp2_with fail;rw [<-hV];clear hV;refine Calls.mono (VD.out _ (HL.out.below hS.below)) ?_;rintro e w1 ⟨rfl,hb⟩;replace hS:=hS.call hb;clear hb;have c_t_0:=hS.c1 (w.heap.size) _ _ Aj;go_wp2_with fail;refine Calls.mono (IN.out _) ?_;rintro e w2 ⟨rfl,hb⟩;clear c_t_0;replace hS:=hS.call hb;clear hb;obtain ⟨k0,k1,k2,k3,q0,q1,q2,q3,y0,y1,y2,y3,hfin⟩:=EW (hS.blks _ Ah) (.int .i64 0) (.int .i64 0) (.int .i64 0) (.int .i64 0);have hfin:=A8 (hfin w hS.below Ad);clear hS;go_wp2;exact bodyPost_ret (v:=.tuple #[.agg #[.int .i64 0,.int .i64 0,.int .i64 0,.int .i64 0],.int .i64 260]) (by simp [results,Tryz.results15,go_sem,y0,y1,y2,y3]) rfl ⟨rfl,hfin.out⟩
  | true =>
   replace BE:=A8 (BE rfl rfl);show Calls _ _ _ _ (CM w (xV ox));cases ox with
   | none =>
    clear hxo;show Calls _ _ _ _ (CM w (.tuple #[.agg #[.int .i64 0,.int .i64 0,.int .i64 0,.int .i64 0],.int .i64 260]));unfold oC at BE;go_enter Tryz.func15,Tryz.ntmps15;go_wp2_with fail;rw [<-hV];clear hV;refine Calls.mono (VD.out _ (HL.out.below hS.below)) ?_;rintro e w1 ⟨rfl,hb⟩;replace hS:=hS.call hb;clear hb;have c_t_0:=hS.c1 (w.heap.size) _ _ Aj;go_wp2_with fail;refine Calls.mono (IN.out _) ?_;rintro e w2 ⟨rfl,hb⟩;clear c_t_0;replace hS:=hS.call hb;clear hb;go_wp2_with fail;refine Calls.mono (BE.out _ (HL.out.below hS.below) _ _ (hS.blks _ Ai) (hS.blks _ Aj)) ?_;rintro e w3 ⟨rfl,hb⟩;replace hS:=hS.call hb;clear hb;replace hS:=hS.add' #[.int .i64 0,.int .i64 0,.int .i64 0,.int .i64 0] 56;obtain ⟨W0,hW0,hS,hz0⟩:=hS;obtain ⟨W,hW⟩:∃ W,W=(w3.alloc (.cells #[.int .i64 0,.int .i64 0,.int .i64 0,.int .i64 0] 56)):=⟨_,rfl⟩;replace hS:BL w [(w3.heap.size,#[.int .i64 0,.int .i64 0,.int .i64 0,.int .i64 0],56),(w.heap.size+1+1,#[.int .i64 0,.int .i64 0,.int .i64 0,.int .i64 0],56),(w.heap.size+1,#[.bool hi],4),(w.heap.size,#[.int .i64 t],3)] W:=by rw [hW,<-hW0];exact hS
    clear hz0 hW0;go_upto_region 4 with fail;rw [<-hW];clear hW;obtain ⟨c_x_0,c_x_1,c_x_2,c_x_3⟩:=hS.c4 (w3.heap.size) _ _ _ _ _ Ah;go_upto_region 5 with fail;clear c_x_0 c_x_1 c_x_2 c_x_3;obtain ⟨k0,k1,k2,k3,q0,q1,q2,q3,y0,y1,y2,y3,hfin⟩:=EW (hS.blks _ Ai) (.int .i64 0) (.int .i64 0) (.int .i64 0) (.int .i64 0);have hfin:=A8 (hfin w hS.below Ad);clear hS;go_wp2;exact bodyPost_ret (v:=.tuple #[.agg #[.int .i64 0,.int .i64 0,.int .i64 0,.int .i64 0],.int .i64 260]) (by simp [results,Tryz.results15,go_sem,y0,y1,y2,y3]) rfl ⟨rfl,hfin.out⟩
   | some y =>
    obtain ⟨_,hy⟩:=hxo y rfl;clear hxo;show Calls _ _ _ _ (CM w (.tuple #[.agg #[.int .i64 y.t,.int .i64 y.v,.int .i64 y.u,.int .i64 y.w],.int .i64 0]));unfold oC at BE;have hz1:(¬ y.t=0)∨(y.t=0/\¬ y.v=0)∨(y.t=0/\y.v=0/\¬ y.u=0):=by omega
    clear hy;rcases hz1 with h1 | ⟨h0,h1⟩ | ⟨h0,h2,h1⟩
    ·have e1:(y.t==0)=false:=by simp [h1]
     clear h1;go_enter Tryz.func15,Tryz.ntmps15;go_wp2_with fail;rw [<-hV];clear hV;refine Calls.mono (VD.out _ (HL.out.below hS.below)) ?_;rintro e w1 ⟨rfl,hb⟩;replace hS:=hS.call hb;clear hb;have c_t_0:=hS.c1 (w.heap.size) _ _ Aj;go_wp2_with fail;refine Calls.mono (IN.out _) ?_;rintro e w2 ⟨rfl,hb⟩;clear c_t_0;replace hS:=hS.call hb;clear hb;go_wp2_with fail;refine Calls.mono (BE.out _ (HL.out.below hS.below) _ _ (hS.blks _ Ai) (hS.blks _ Aj)) ?_;rintro e w3 ⟨rfl,hb⟩;replace hS:=hS.call hb;clear hb;replace hS:=hS.add' #[.int .i64 y.t,.int .i64 y.v,.int .i64 y.u,.int .i64 y.w] 56;obtain ⟨W0,hW0,hS,hz0⟩:=hS;obtain ⟨W,hW⟩:∃ W,W=(w3.alloc (.cells #[.int .i64 y.t,.int .i64 y.v,.int .i64 y.u,.int .i64 y.w] 56)):=⟨_,rfl⟩;replace hS:BL w [(w3.heap.size,#[.int .i64 y.t,.int .i64 y.v,.int .i64 y.u,.int .i64 y.w],56),(w.heap.size+1+1,#[.int .i64 0,.int .i64 0,.int .i64 0,.int .i64 0],56),(w.heap.size+1,#[.bool hi],4),(w.heap.size,#[.int .i64 t],3)] W:=by rw [hW,<-hW0];exact hS
     clear hz0 hW0;go_upto_region 4 with fail;rw [<-hW];clear hW;obtain ⟨c_x_0,c_x_1,c_x_2,c_x_3⟩:=hS.c4 (w3.heap.size) _ _ _ _ _ Ah;go_upto_region 6 with fail;obtain ⟨k0,k1,k2,k3,q0,q1,q2,q3,y0,y1,y2,y3,hfin⟩:=EW (hS.blks _ Ai) (.int .i64 y.t) (.int .i64 y.v) (.int .i64 y.u) (.int .i64 y.w);have hfin:=A8 (hfin w hS.below Ad);clear hS;go_wp2;exact bodyPost_ret (v:=.tuple #[.agg #[.int .i64 y.t,.int .i64 y.v,.int .i64 y.u,.int .i64 y.w],.int .i64 0]) (by simp [results,Tryz.results15,go_sem,y0,y1,y2,y3]) rfl ⟨rfl,hfin.out⟩
    ·have e1:(y.t==0)=true:=by simp [h0]
     have e2:(y.v==0)=false:=by simp [h1]
     clear h0 h1;go_enter Tryz.func15,Tryz.ntmps15;go_wp2_with fail;rw [<-hV];clear hV;refine Calls.mono (VD.out _ (HL.out.below hS.below)) ?_;rintro e w1 ⟨rfl,hb⟩;replace hS:=hS.call hb;clear hb;have c_t_0:=hS.c1 (w.heap.size) _ _ Aj;go_wp2_with fail;refine Calls.mono (IN.out _) ?_;rintro e w2 ⟨rfl,hb⟩;clear c_t_0;replace hS:=hS.call hb;clear hb;go_wp2_with fail;refine Calls.mono (BE.out _ (HL.out.below hS.below) _ _ (hS.blks _ Ai) (hS.blks _ Aj)) ?_;rintro e w3 ⟨rfl,hb⟩;replace hS:=hS.call hb;clear hb;replace hS:=hS.add' #[.int .i64 y.t,.int .i64 y.v,.int .i64 y.u,.int .i64 y.w] 56;obtain ⟨W0,hW0,hS,hz0⟩:=hS;obtain ⟨W,hW⟩:∃ W,W=(w3.alloc (.cells #[.int .i64 y.t,.int .i64 y.v,.int .i64 y.u,.int .i64 y.w] 56)):=⟨_,rfl⟩;replace hS:BL w [(w3.heap.size,#[.int .i64 y.t,.int .i64 y.v,.int .i64 y.u,.int .i64 y.w],56),(w.heap.size+1+1,#[.int .i64 0,.int .i64 0,.int .i64 0,.int .i64 0],56),(w.heap.size+1,#[.bool hi],4),(w.heap.size,#[.int .i64 t],3)] W:=by rw [hW,<-hW0];exact hS
     clear hz0 hW0;go_upto_region 4 with fail;rw [<-hW];clear hW;obtain ⟨c_x_0,c_x_1,c_x_2,c_x_3⟩:=hS.c4 (w3.heap.size) _ _ _ _ _ Ah;go_upto_region 6 with fail;obtain ⟨k0,k1,k2,k3,q0,q1,q2,q3,y0,y1,y2,y3,hfin⟩:=EW (hS.blks _ Ai) (.int .i64 y.t) (.int .i64 y.v) (.int .i64 y.u) (.int .i64 y.w);have hfin:=A8 (hfin w hS.below Ad);clear hS;go_wp2;exact bodyPost_ret (v:=.tuple #[.agg #[.int .i64 y.t,.int .i64 y.v,.int .i64 y.u,.int .i64 y.w],.int .i64 0]) (by simp [results,Tryz.results15,go_sem,y0,y1,y2,y3]) rfl ⟨rfl,hfin.out⟩
    ·have e1:(y.t==0)=true:=by simp [h0]
     have e2:(y.v==0)=true:=by simp [h2]
     have e3:(y.u==0)=false:=by simp [h1]
     clear h0 h1 h2;go_enter Tryz.func15,Tryz.ntmps15;go_wp2_with fail;rw [<-hV];clear hV;refine Calls.mono (VD.out _ (HL.out.below hS.below)) ?_;rintro e w1 ⟨rfl,hb⟩;replace hS:=hS.call hb;clear hb;have c_t_0:=hS.c1 (w.heap.size) _ _ Aj;go_wp2_with fail;refine Calls.mono (IN.out _) ?_;rintro e w2 ⟨rfl,hb⟩;clear c_t_0;replace hS:=hS.call hb;clear hb;go_wp2_with fail;refine Calls.mono (BE.out _ (HL.out.below hS.below) _ _ (hS.blks _ Ai) (hS.blks _ Aj)) ?_;rintro e w3 ⟨rfl,hb⟩;replace hS:=hS.call hb;clear hb;replace hS:=hS.add' #[.int .i64 y.t,.int .i64 y.v,.int .i64 y.u,.int .i64 y.w] 56;obtain ⟨W0,hW0,hS,hz0⟩:=hS;obtain ⟨W,hW⟩:∃ W,W=(w3.alloc (.cells #[.int .i64 y.t,.int .i64 y.v,.int .i64 y.u,.int .i64 y.w] 56)):=⟨_,rfl⟩;replace hS:BL w [(w3.heap.size,#[.int .i64 y.t,.int .i64 y.v,.int .i64 y.u,.int .i64 y.w],56),(w.heap.size+1+1,#[.int .i64 0,.int .i64 0,.int .i64 0,.int .i64 0],56),(w.heap.size+1,#[.bool hi],4),(w.heap.size,#[.int .i64 t],3)] W:=by rw [hW,<-hW0];exact hS
     clear hz0 hW0;go_upto_region 4 with fail;rw [<-hW];clear hW;obtain ⟨c_x_0,c_x_1,c_x_2,c_x_3⟩:=hS.c4 (w3.heap.size) _ _ _ _ _ Ah;go_upto_region 6 with fail;obtain ⟨k0,k1,k2,k3,q0,q1,q2,q3,y0,y1,y2,y3,hfin⟩:=EW (hS.blks _ Ai) (.int .i64 y.t) (.int .i64 y.v) (.int .i64 y.u) (.int .i64 y.w);have hfin:=A8 (hfin w hS.below Ad);clear hS;go_wp2;exact bodyPost_ret (v:=.tuple #[.agg #[.int .i64 y.t,.int .i64 y.v,.int .i64 y.u,.int .i64 y.w],.int .i64 0]) (by simp [results,Tryz.results15,go_sem,y0,y1,y2,y3]) rfl ⟨rfl,hfin.out⟩
theorem Lp {W:World} {R1 R2:Nat} (h1:CO W R1 #[.string ⟨#[]⟩,.string ⟨#[]⟩] 31) (h2:CO W R2 #[.string ⟨#[]⟩,.string ⟨#[]⟩] 31) (hne:R1≠R2) (a b c d:ByteArray) :
  W.cell? ⟨R1,0,none⟩=some (.string ⟨#[]⟩)/\W.cell? ⟨R1,1,none⟩=some (.string ⟨#[]⟩)/\W.cell? ⟨R2,0,none⟩=some (.string ⟨#[]⟩)/\W.cell? ⟨R2,1,none⟩=some (.string ⟨#[]⟩) /\
   W.frozen? ⟨R1,0,none⟩=false/\W.frozen? ⟨R1,1,none⟩=false/\W.frozen? ⟨R2,0,none⟩=false/\W.frozen? ⟨R2,1,none⟩=false /\
   ((((W.setCell ⟨R1,0,none⟩ (.string a)).setCell ⟨R1,1,none⟩ (.string b)).setCell ⟨R2,0,none⟩ (.string c)).setCell ⟨R2,1,none⟩ (.string d)).cell? ⟨R1,0,none⟩=some (.string a) /\
   ((((W.setCell ⟨R1,0,none⟩ (.string a)).setCell ⟨R1,1,none⟩ (.string b)).setCell ⟨R2,0,none⟩ (.string c)).setCell ⟨R2,1,none⟩ (.string d)).cell? ⟨R1,1,none⟩=some (.string b) /\
   ((((W.setCell ⟨R1,0,none⟩ (.string a)).setCell ⟨R1,1,none⟩ (.string b)).setCell ⟨R2,0,none⟩ (.string c)).setCell ⟨R2,1,none⟩ (.string d)).cell? ⟨R2,0,none⟩=some (.string c) /\
   ((((W.setCell ⟨R1,0,none⟩ (.string a)).setCell ⟨R1,1,none⟩ (.string b)).setCell ⟨R2,0,none⟩ (.string c)).setCell ⟨R2,1,none⟩ (.string d)).cell? ⟨R2,1,none⟩=some (.string d) /\
   (∀ V,Below V.heap.size V W->V.heap.size<=R1->V.heap.size<=R2->Below V.heap.size V ((((W.setCell ⟨R1,0,none⟩ (.string a)).setCell ⟨R1,1,none⟩ (.string b)).setCell ⟨R2,0,none⟩ (.string c)).setCell ⟨R2,1,none⟩ (.string d))):=by
 have m1:=(h1.set 0 (.string a)).set 1 (.string b)
 have o1:CG [R1] W ((W.setCell ⟨R1,0,none⟩ (.string a)).setCell ⟨R1,1,none⟩ (.string b)):=((CG.refl [R1] W).setCell (p:=⟨R1,0,none⟩) Af _).setCell (p:=⟨R1,1,none⟩) Af _
 have m2:=((h2.only o1 (by simp;exact fun h=>hne h.symm)).set 0 (.string c)).set 1 (.string d)
 have o2:CG [R2] ((W.setCell ⟨R1,0,none⟩ (.string a)).setCell ⟨R1,1,none⟩ (.string b)) ((((W.setCell ⟨R1,0,none⟩ (.string a)).setCell ⟨R1,1,none⟩ (.string b)).setCell ⟨R2,0,none⟩ (.string c)).setCell ⟨R2,1,none⟩ (.string d)):=((CG.refl [R2] _).setCell (p:=⟨R2,0,none⟩) Af _).setCell (p:=⟨R2,1,none⟩) Af _
 have m3:=m1.only o2 (by simp;exact hne)
 exact ⟨h1.cell 0,h1.cell 1,h2.cell 0,h2.cell 1,h1.frozen 0,h1.frozen 1,h2.frozen 0,h2.frozen 1,m3.cell 0,m3.cell 1,m2.cell 0,m2.cell 1,
  fun V hb hV1 hV2=>(((hb.setCell (p:=⟨R1,0,none⟩) hV1 _).setCell (p:=⟨R1,1,none⟩) hV1 _).setCell (p:=⟨R2,0,none⟩) hV2 _).setCell (p:=⟨R2,1,none⟩) hV2 _⟩
def fV (o:Option (Rat×Rat)):Value:=match o with
 | some (a,b)=>.tuple #[.agg #[.string (F4 a),.string (F5 a)],.agg #[.string (F4 b),.string (F5 b)],.int .i64 0]
 | none=>.tuple #[.agg #[.string ⟨#[]⟩,.string ⟨#[]⟩],.agg #[.string ⟨#[]⟩,.string ⟨#[]⟩],.int .i64 260]
theorem ex_pair {l:List Dt} {t:Int}:NM l t false=none↔NM l t true=none:=by
 unfold NM;cases hc:(Fi l&&Ex t) with
 | false=>simp
 | true =>
  rw [Ao] at hc;have g:=DecM.okD_good hc.1;simp only [if_true];rw [DecM.ext_none g,DecM.ext_none g]
theorem NH (l:List Dt) (t:Int):Gn l t=match NM l t false,NM l t true with
  | some x,some y=>some (x.val t,y.val t)
  | _,_=>none:=by
 unfold Gn NM
 cases Fi l&&Ex t <;> rfl
theorem Lq {n d:Int} (h:d≠0):oOf n d=some (DecM.ratio n d):=by
 unfold oOf oIf DecM.ratio;rw [AI (by simpa using h),Rat.divInt_eq_div]
theorem Q4 {x:Ln} (h:Gq x) {t:Int} (ht:0<=t/\t<=800000):CI (x.on t):=by have:=Np h ht;unfold CI;omega
theorem Mb {l:List Dt} {t:Int} {hi:Bool} {y:Ln} (h:NM l t hi=some y):0<=t/\t<=800000:=by
 unfold NM at h;split at h
 ·rename_i hc
  rw [Ao] at hc;exact DecM.inDay_iff.1 hc.2
 ·cases h
theorem Iz (v:Value) (l:List Dt) (t:Int) (w:World) (hE:Dv w) (h:Gp w v l) :
  Calls Tryz.prog 5 #[v,.int .i64 t] w (CM w (fV (Gn l t))):=by
 have X0:=fun W (h:Gp W v l)=>Jj v l t false W h
 have X1:=fun W (h:Gp W v l)=>Jj v l t true W h
 have hpair:=ex_pair (l:=l) (t:=t)
 have ho0:=fun y=>I5 (l:=l) (t:=t) (hi:=false) (y:=y)
 have ho1:=fun y=>I5 (l:=l) (t:=t) (hi:=true) (y:=y)
 have hday:=fun y=>Mb (l:=l) (t:=t) (hi:=false) (y:=y)
 rw [NH]
 generalize NM l t false=o0 at *
 generalize NM l t true=o1 at *
 have HL:=A8 h
 obtain ⟨ag,cap,rfl⟩:=h.shape
 clear h
 have S0:=BL.start w
 obtain ⟨V1,ev1,S1,zv1⟩:=S0.add' #[.string ⟨#[]⟩,.string ⟨#[]⟩] 31
 obtain ⟨V2,ev2,S2,zv2⟩:=S1.add' #[.string ⟨#[]⟩,.string ⟨#[]⟩] 31
 rw [zv1] at S2 zv2
 have hV:V2=((w.alloc (.cells #[.string ⟨#[]⟩,.string ⟨#[]⟩] 31)).alloc (.cells #[.string ⟨#[]⟩,.string ⟨#[]⟩] 31)):=by rw [ev2,ev1]
 have hS:BL w [(w.heap.size+1,#[.string ⟨#[]⟩,.string ⟨#[]⟩],31),(w.heap.size,#[.string ⟨#[]⟩,.string ⟨#[]⟩],31)] V2:=S2
 clear ev1 ev2 zv1 zv2 S0 S1 S2
 cases o0 with
 | none =>
  obtain rfl:=hpair.1 rfl;clear hpair ho0 ho1 hday;show Calls _ _ _ _ (CM w (.tuple #[.agg #[.string ⟨#[]⟩,.string ⟨#[]⟩],.agg #[.string ⟨#[]⟩,.string ⟨#[]⟩],.int .i64 260]));unfold xV oC at X0 X1;replace X0:=A8 X0;replace X1:=A8 X1;go_enter Tryz.func5,Tryz.ntmps5;go_wp2_with fail;rw [<-hV];clear hV;refine Calls.mono (X0.out _ (HL.out.below hS.below)) ?_;rintro e w1 ⟨rfl,hb⟩;replace hS:=hS.call hb;clear hb;replace hS:=hS.add' #[.int .i64 0,.int .i64 0,.int .i64 0,.int .i64 0] 56;obtain ⟨W0,hW0,hS,hz0⟩:=hS;obtain ⟨W,hW⟩:∃ W,W=(w1.alloc (.cells #[.int .i64 0,.int .i64 0,.int .i64 0,.int .i64 0] 56)):=⟨_,rfl⟩;replace hS:BL w [(w1.heap.size,#[.int .i64 0,.int .i64 0,.int .i64 0,.int .i64 0],56),(w.heap.size+1,#[.string ⟨#[]⟩,.string ⟨#[]⟩],31),(w.heap.size,#[.string ⟨#[]⟩,.string ⟨#[]⟩],31)] W:=by rw [hW,<-hW0];exact hS
  clear hz0 hW0;go_wp2_with fail;rw [<-hW];clear hW;refine Calls.mono (X1.out _ (HL.out.below hS.below)) ?_;rintro e w2 ⟨rfl,hb⟩;replace hS:=hS.call hb;clear hb;replace hS:=hS.add' #[.int .i64 0,.int .i64 0,.int .i64 0,.int .i64 0] 56;obtain ⟨W0,hW0,hS,hz0⟩:=hS;obtain ⟨W,hW⟩:∃ W,W=(w2.alloc (.cells #[.int .i64 0,.int .i64 0,.int .i64 0,.int .i64 0] 56)):=⟨_,rfl⟩;replace hS:BL w [(w2.heap.size,#[.int .i64 0,.int .i64 0,.int .i64 0,.int .i64 0],56),(w1.heap.size,#[.int .i64 0,.int .i64 0,.int .i64 0,.int .i64 0],56),(w.heap.size+1,#[.string ⟨#[]⟩,.string ⟨#[]⟩],31),(w.heap.size,#[.string ⟨#[]⟩,.string ⟨#[]⟩],31)] W:=by rw [hW,<-hW0];exact hS
  clear hz0 hW0;go_upto_region 4 with fail;rw [<-hW];clear hW;obtain ⟨k0,k1,k2,k3,q0,q1,q2,q3,y0,y1,y2,y3,hfin⟩:=Lp (hS.blks _ Ak) (hS.blks _ Aj) Ad ⟨#[]⟩ ⟨#[]⟩ ⟨#[]⟩ ⟨#[]⟩;have hfin:=A8 (hfin w hS.below Ad Ad);clear hS;go_wp2;exact bodyPost_ret (v:=.tuple #[.agg #[.string ⟨#[]⟩,.string ⟨#[]⟩],.agg #[.string ⟨#[]⟩,.string ⟨#[]⟩],.int .i64 260]) (by simp [results,Tryz.results5,go_sem,y0,y1,y2,y3]) rfl ⟨rfl,hfin.out⟩
 | some x =>
  cases o1 with
  | none=>exact absurd (hpair.2 rfl) Af
  | some y =>
   obtain ⟨hx,hx0⟩:=ho0 x rfl;obtain ⟨hy,hy0⟩:=ho1 y rfl;have ht:=hday x rfl;clear hpair ho0 ho1 hday;unfold xV oC at X0 X1;replace X0:=A8 X0;replace X1:=A8 X1;have NX:=A8 (fun W=>J1 x t hx ht W);have OX:=fun W (hE:Dv W)=>Nb (x.on t) (x.u-x.t) (Q4 hx ht) (by unfold CI;have:=hx.t;have:=hx.u;omega) W hE
   rw [Lq Ad] at OX;have wx:IntKind.i64.wrap (x.u-x.t)=x.u-x.t:=Bz _ (by have:=hx.t;have:=hx.u;omega);have NY:=A8 (fun W=>J1 y t hy ht W);have OY:=fun W (hE:Dv W)=>Nb (y.on t) (y.u-y.t) (Q4 hy ht) (by unfold CI;have:=hy.t;have:=hy.u;omega) W hE
   rw [Lq Ad] at OY;have wy:IntKind.i64.wrap (y.u-y.t)=y.u-y.t:=Bz _ (by have:=hy.t;have:=hy.u;omega);unfold oV at OX OY;show Calls _ _ _ _ (CM w (.tuple #[.agg #[.string (tN (some (DecM.ratio (x.on t) (x.u-x.t)))),.string (tD (some (DecM.ratio (x.on t) (x.u-x.t))))],.agg #[.string (tN (some (DecM.ratio (y.on t) (y.u-y.t)))),.string (tD (some (DecM.ratio (y.on t) (y.u-y.t))))],.int .i64 0]));generalize tN (some (DecM.ratio (x.on t) (x.u-x.t)))=an at *
   generalize tD (some (DecM.ratio (x.on t) (x.u-x.t)))=ad at *
   generalize eO (some (DecM.ratio (x.on t) (x.u-x.t)))=ae at *
   generalize x.on t=xo at *
   generalize tN (some (DecM.ratio (y.on t) (y.u-y.t)))=bn at *
   generalize tD (some (DecM.ratio (y.on t) (y.u-y.t)))=bd at *
   generalize eO (some (DecM.ratio (y.on t) (y.u-y.t)))=be at *
   generalize y.on t=yo at *
   clear hx hy hx0 hy0 ht;replace OX:=A8 OX;replace OY:=A8 OY;go_enter Tryz.func5,Tryz.ntmps5;go_wp2_with fail;rw [<-hV];clear hV;refine Calls.mono (X0.out _ (HL.out.below hS.below)) ?_;rintro e w1 ⟨rfl,hb⟩;replace hS:=hS.call hb;clear hb;replace hS:=hS.add' #[.int .i64 x.t,.int .i64 x.v,.int .i64 x.u,.int .i64 x.w] 56;obtain ⟨W0,hW0,hS,hz0⟩:=hS;obtain ⟨W,hW⟩:∃ W,W=(w1.alloc (.cells #[.int .i64 x.t,.int .i64 x.v,.int .i64 x.u,.int .i64 x.w] 56)):=⟨_,rfl⟩;replace hS:BL w [(w1.heap.size,#[.int .i64 x.t,.int .i64 x.v,.int .i64 x.u,.int .i64 x.w],56),(w.heap.size+1,#[.string ⟨#[]⟩,.string ⟨#[]⟩],31),(w.heap.size,#[.string ⟨#[]⟩,.string ⟨#[]⟩],31)] W:=by rw [hW,<-hW0];exact hS
   clear hz0 hW0;go_wp2_with fail;rw [<-hW];clear hW;refine Calls.mono (X1.out _ (HL.out.below hS.below)) ?_;rintro e w2 ⟨rfl,hb⟩;replace hS:=hS.call hb;clear hb;replace hS:=hS.add' #[.int .i64 y.t,.int .i64 y.v,.int .i64 y.u,.int .i64 y.w] 56;obtain ⟨W0,hW0,hS,hz0⟩:=hS;obtain ⟨W,hW⟩:∃ W,W=(w2.alloc (.cells #[.int .i64 y.t,.int .i64 y.v,.int .i64 y.u,.int .i64 y.w] 56)):=⟨_,rfl⟩;replace hS:BL w [(w2.heap.size,#[.int .i64 y.t,.int .i64 y.v,.int .i64 y.u,.int .i64 y.w],56),(w1.heap.size,#[.int .i64 x.t,.int .i64 x.v,.int .i64 x.u,.int .i64 x.w],56),(w.heap.size+1,#[.string ⟨#[]⟩,.string ⟨#[]⟩],31),(w.heap.size,#[.string ⟨#[]⟩,.string ⟨#[]⟩],31)] W:=by rw [hW,<-hW0];exact hS
   clear hz0 hW0;go_upto_region 5 with fail;rw [<-hW];clear hW;have hC0:∀ W',BL w [(w2.heap.size,#[.int .i64 y.t,.int .i64 y.v,.int .i64 y.u,.int .i64 y.w],56),(w1.heap.size,#[.int .i64 x.t,.int .i64 x.v,.int .i64 x.u,.int .i64 x.w],56),(w.heap.size+1,#[.string ⟨#[]⟩,.string ⟨#[]⟩],31),(w.heap.size,#[.string ⟨#[]⟩,.string ⟨#[]⟩],31)] W'->(W'.cell? ⟨w1.heap.size,0,none⟩=some (.int .i64 x.t)/\W'.cell? ⟨w1.heap.size,1,none⟩=some (.int .i64 x.v)/\W'.cell? ⟨w1.heap.size,2,none⟩=some (.int .i64 x.u)/\W'.cell? ⟨w1.heap.size,3,none⟩=some (.int .i64 x.w)):=fun W' h=>⟨(h.cell (w1.heap.size) _ _ Ai 0),(h.cell (w1.heap.size) _ _ Ai 1),(h.cell (w1.heap.size) _ _ Ai 2),(h.cell (w1.heap.size) _ _ Ai 3)⟩
   have hC:=A8 hC0;clear hC0;have h0:=hS;obtain ⟨x0',x1',x2',x3'⟩:=hC.out _ hS;replace hS:=hS.drew;go_cut [11,12] (fun s e wx=>∃ g:Nat,s=.pointer (some ⟨g,0,none⟩)/\e=.int .i64 ae/\w.heap.size<=g/\(∀ p∈([(w2.heap.size,#[.int .i64 y.t,.int .i64 y.v,.int .i64 y.u,.int .i64 y.w],56),(w1.heap.size,#[.int .i64 x.t,.int .i64 x.v,.int .i64 x.u,.int .i64 x.w],56),(w.heap.size+1,#[.string ⟨#[]⟩,.string ⟨#[]⟩],31),(w.heap.size,#[.string ⟨#[]⟩,.string ⟨#[]⟩],31)]:Ec),p.1<g)/\BL w ((g,#[.string an,.string ad],31) :: [(w2.heap.size,#[.int .i64 y.t,.int .i64 y.v,.int .i64 y.u,.int .i64 y.w],56),(w1.heap.size,#[.int .i64 x.t,.int .i64 x.v,.int .i64 x.u,.int .i64 x.w],56),(w.heap.size+1,#[.string ⟨#[]⟩,.string ⟨#[]⟩],31),(w.heap.size,#[.string ⟨#[]⟩,.string ⟨#[]⟩],31)]) wx);case first=>as_aux_lemma =>
    go_region_held3 (fun w'=>w'.cell? ⟨w1.heap.size,0,none⟩=some (.int .i64 x.t)/\w'.cell? ⟨w1.heap.size,1,none⟩=some (.int .i64 x.v)/\w'.cell? ⟨w1.heap.size,2,none⟩=some (.int .i64 x.u)/\w'.cell? ⟨w1.heap.size,3,none⟩=some (.int .i64 x.w))
     (first | with_reducible exact hC.out _ hS | with_reducible exact hC.out _ (hS.new _) | with_reducible exact hC.out _ ((h0.new _).drew) | with_reducible exact hC.out _ (hS.setG hge hlt _ _) | go_keep)
     (first | (go_at_call 17;(with_reducible refine Calls.mono (NX.out _) ?_);rintro e w' ⟨rfl,hb⟩;(first | (replace hS:=hS.call hb;first | (replace hN:=hN.below hb;have n0:=(CC hN).1;have n1:=(CC hN).2;have m0:=hN.frozen 0;have m1:=hN.frozen 1) | skip) | (have hlt:=hS.lts;have hge:=hS.below.size;have hN:=nres hb;have n0:=(CC hN).1;have n1:=(CC hN).2;have m0:=hN.frozen 0;have m1:=hN.frozen 1;replace hS:=(hS.new _).call hb) | (have hlt:=h0.lts;have hge:=h0.below.size;have hN:=H3 hb;have n0:=(CC hN).1;have n1:=(CC hN).2;have m0:=hN.frozen 0;have m1:=hN.frozen 1;replace hS:=((h0.new _).drew).call hb));clear hb) | (go_at_call 16;(with_reducible refine Calls.mono (OX.out _ ?_) ?_);(first | exact hS.env hE | exact (hS.new _).env hE | exact ((h0.new _).drew).env hE);rintro e w' ⟨rfl,hb⟩;(first | (replace hS:=hS.call hb;first | (replace hN:=hN.below hb;have n0:=(CC hN).1;have n1:=(CC hN).2;have m0:=hN.frozen 0;have m1:=hN.frozen 1) | skip) | (have hlt:=hS.lts;have hge:=hS.below.size;have hN:=nres hb;have n0:=(CC hN).1;have n1:=(CC hN).2;have m0:=hN.frozen 0;have m1:=hN.frozen 1;replace hS:=(hS.new _).call hb) | (have hlt:=h0.lts;have hge:=h0.below.size;have hN:=H3 hb;have n0:=(CC hN).1;have n1:=(CC hN).2;have m0:=hN.frozen 0;have m1:=hN.frozen 1;replace hS:=((h0.new _).drew).call hb));clear hb))
    all_goals (go_wp2_with fail;go_meet;first | exact ⟨_,rfl,rfl,hS.below.size,hS.lts,hS.add _ _⟩ | exact ⟨_,rfl,rfl,hge,hlt,(hS.setG hge hlt _ _).pushB ((hN.set 0 (.string an)).set 1 (.string ad))⟩)
   case rest =>
    clear hS h0 hC x0' x1' x2' x3';obtain ⟨g1,rfl,rfl,g1ge,g1lt,hS⟩:=hcut;go_upto_region 6 with fail;have hC0:∀ W',BL w [(g1,#[.string an,.string ad],31),(w2.heap.size,#[.int .i64 y.t,.int .i64 y.v,.int .i64 y.u,.int .i64 y.w],56),(w1.heap.size,#[.int .i64 x.t,.int .i64 x.v,.int .i64 x.u,.int .i64 x.w],56),(w.heap.size+1,#[.string ⟨#[]⟩,.string ⟨#[]⟩],31),(w.heap.size,#[.string ⟨#[]⟩,.string ⟨#[]⟩],31)] W'->(W'.cell? ⟨w2.heap.size,0,none⟩=some (.int .i64 y.t)/\W'.cell? ⟨w2.heap.size,1,none⟩=some (.int .i64 y.v)/\W'.cell? ⟨w2.heap.size,2,none⟩=some (.int .i64 y.u)/\W'.cell? ⟨w2.heap.size,3,none⟩=some (.int .i64 y.w)):=fun W' h=>⟨(h.cell (w2.heap.size) _ _ Ai 0),(h.cell (w2.heap.size) _ _ Ai 1),(h.cell (w2.heap.size) _ _ Ai 2),(h.cell (w2.heap.size) _ _ Ai 3)⟩
    have hC:=A8 hC0;clear hC0;have h0:=hS;obtain ⟨x0',x1',x2',x3'⟩:=hC.out _ hS;replace hS:=hS.drew;go_cut [13,14] (fun s e wx=>∃ g:Nat,s=.pointer (some ⟨g,0,none⟩)/\e=.int .i64 be/\w.heap.size<=g/\(∀ p∈([(g1,#[.string an,.string ad],31),(w2.heap.size,#[.int .i64 y.t,.int .i64 y.v,.int .i64 y.u,.int .i64 y.w],56),(w1.heap.size,#[.int .i64 x.t,.int .i64 x.v,.int .i64 x.u,.int .i64 x.w],56),(w.heap.size+1,#[.string ⟨#[]⟩,.string ⟨#[]⟩],31),(w.heap.size,#[.string ⟨#[]⟩,.string ⟨#[]⟩],31)]:Ec),p.1<g)/\BL w ((g,#[.string bn,.string bd],31) :: [(g1,#[.string an,.string ad],31),(w2.heap.size,#[.int .i64 y.t,.int .i64 y.v,.int .i64 y.u,.int .i64 y.w],56),(w1.heap.size,#[.int .i64 x.t,.int .i64 x.v,.int .i64 x.u,.int .i64 x.w],56),(w.heap.size+1,#[.string ⟨#[]⟩,.string ⟨#[]⟩],31),(w.heap.size,#[.string ⟨#[]⟩,.string ⟨#[]⟩],31)]) wx);case first=>as_aux_lemma =>
     go_region_held3 (fun w'=>w'.cell? ⟨w2.heap.size,0,none⟩=some (.int .i64 y.t)/\w'.cell? ⟨w2.heap.size,1,none⟩=some (.int .i64 y.v)/\w'.cell? ⟨w2.heap.size,2,none⟩=some (.int .i64 y.u)/\w'.cell? ⟨w2.heap.size,3,none⟩=some (.int .i64 y.w))
      (first | with_reducible exact hC.out _ hS | with_reducible exact hC.out _ (hS.new _) | with_reducible exact hC.out _ ((h0.new _).drew) | with_reducible exact hC.out _ (hS.setG hge hlt _ _) | go_keep)
      (first | (go_at_call 17;(with_reducible refine Calls.mono (NY.out _) ?_);rintro e w' ⟨rfl,hb⟩;(first | (replace hS:=hS.call hb;first | (replace hN:=hN.below hb;have n0:=(CC hN).1;have n1:=(CC hN).2;have m0:=hN.frozen 0;have m1:=hN.frozen 1) | skip) | (have hlt:=hS.lts;have hge:=hS.below.size;have hN:=nres hb;have n0:=(CC hN).1;have n1:=(CC hN).2;have m0:=hN.frozen 0;have m1:=hN.frozen 1;replace hS:=(hS.new _).call hb) | (have hlt:=h0.lts;have hge:=h0.below.size;have hN:=H3 hb;have n0:=(CC hN).1;have n1:=(CC hN).2;have m0:=hN.frozen 0;have m1:=hN.frozen 1;replace hS:=((h0.new _).drew).call hb));clear hb) | (go_at_call 16;(with_reducible refine Calls.mono (OY.out _ ?_) ?_);(first | exact hS.env hE | exact (hS.new _).env hE | exact ((h0.new _).drew).env hE);rintro e w' ⟨rfl,hb⟩;(first | (replace hS:=hS.call hb;first | (replace hN:=hN.below hb;have n0:=(CC hN).1;have n1:=(CC hN).2;have m0:=hN.frozen 0;have m1:=hN.frozen 1) | skip) | (have hlt:=hS.lts;have hge:=hS.below.size;have hN:=nres hb;have n0:=(CC hN).1;have n1:=(CC hN).2;have m0:=hN.frozen 0;have m1:=hN.frozen 1;replace hS:=(hS.new _).call hb) | (have hlt:=h0.lts;have hge:=h0.below.size;have hN:=H3 hb;have n0:=(CC hN).1;have n1:=(CC hN).2;have m0:=hN.frozen 0;have m1:=hN.frozen 1;replace hS:=((h0.new _).drew).call hb));clear hb))
     all_goals (go_wp2_with fail;go_meet;first | exact ⟨_,rfl,rfl,hS.below.size,hS.lts,hS.add _ _⟩ | exact ⟨_,rfl,rfl,hge,hlt,(hS.setG hge hlt _ _).pushB ((hN.set 0 (.string bn)).set 1 (.string bd))⟩)
    case rest =>
     clear hS h0 hC x0' x1' x2' x3';obtain ⟨g2,rfl,rfl,g2ge,g2lt,hS⟩:=hcut;have g1ne:=g1lt _ Ak;have g1ne2:=g1lt _ Aj;have g2ne:=g2lt _ (.tail _ Ak);have g2ne2:=g2lt _ Ak;clear g1lt g2lt;dsimp only at g1ne g1ne2 g2ne g2ne2;go_upto_region 7 with fail;obtain ⟨c_a_0,c_a_1⟩:=hS.c2 (g1) _ _ _ Ai;obtain ⟨c_b_0,c_b_1⟩:=hS.c2 (g2) _ _ _ Ah;obtain ⟨k0,k1,k2,k3,q0,q1,q2,q3,y0,y1,y2,y3,hfin⟩:=Lp (hS.blks _ (.tail _ (.tail _ Ak))) (hS.blks _ (.tail _ Ak)) Ad an ad bn bd;have hfin:=A8 (hfin w hS.below Ad Ad);clear hS;go_region;go_wp2;exact bodyPost_ret (v:=.tuple #[.agg #[.string an,.string ad],.agg #[.string bn,.string bd],.int .i64 0]) (by simp [results,Tryz.results5,go_sem,World.cell?_drew,y0,y1,y2,y3]) rfl ⟨rfl,DH hfin.out⟩
end
section
open Go.RowKit
open DecM (Dt gd Fv Eb Fi Ln)
attribute [local go_sem] Oper.semAt_some
def NN (ds:List Dt):List Value:=ds.flatMap fun p=>[.int .i64 p.t,.int .i64 p.lo,.int .i64 p.hi]
theorem Kv:∀ ds:List Dt,(NN ds).length=ds.length*3
 | []=>rfl
 | p :: ds=>by
  have:=Kv ds;unfold NN at this |-;rw [List.flatMap_cons,BP,this];simp;omega
theorem TL (ds:List Dt) (p:Dt):NN (ds++[p])=NN ds++[.int .i64 p.t,.int .i64 p.lo,.int .i64 p.hi]:=by unfold NN;simp
theorem Q5:∀ (ds:List Dt) (j:Nat),j<ds.length->(NN ds)[j*3]? = some (.int .i64 (gd ds j).t)/\(NN ds)[j*3+1]? = some (.int .i64 (gd ds j).lo)/\(NN ds)[j*3+2]? = some (.int .i64 (gd ds j).hi)
 | [],j,h=>by cases h
 | p :: ds,0,_=>by simp [NN,gd]
 | p :: ds,j+1,h=>by
  have ih:=Q5 ds j (by simpa using h);have e:NN (p :: ds)=[.int .i64 p.t,.int .i64 p.lo,.int .i64 p.hi]++NN ds:=rfl;have g:gd (p :: ds) (j+1)=gd ds j:=rfl;rw [e,g,show (j+1)*3=3+j*3 by omega,show 3+j*3+1=3+(j*3+1) by omega,show 3+j*3+2=3+(j*3+2) by omega];have key:∀ i,([.int .i64 p.t,.int .i64 p.lo,.int .i64 p.hi]++NN ds:List Value)[3+i]? = (NN ds)[i]? := fun i=>by
   rw [BA Af];simp
  rw [key,key,key];exact ih
theorem Gp.of_own {w:World} {base n:Nat} {e:TypeId} {v:Value} {ds:List Dt} (h:w.ownsRow base e 3 v n (NN ds)):Gp w v ds:=by
 have hl:n=ds.length:=by have:=h.1;rw [Kv] at this;omega
 subst hl;rcases h.2 with ⟨rfl,h0⟩ | ⟨g,cap,cur,rfl,hb,hg,hn,hm,hs,ht⟩
 ·exact .inl ⟨rfl,AS h0⟩
 ·refine .inr ⟨g,0,cap,rfl,hn,hm,(Bu.1 hg).1,fun j hj=>?_⟩
  obtain ⟨k0,k1,k2⟩:=Q5 ds j hj;have c0:=h.cells (g:=g) rfl (j*3) _ k0;have c1:=h.cells (g:=g) rfl (j*3+1) _ k1;have c2:=h.cells (g:=g) rfl (j*3+2) _ k2;rw [E5] at c0 c1 c2;exact ⟨c0,c1,c2⟩
end
section
open Go.RowKit
open DecM (Dt Gn Fi Ln)
def ex1:List Dt:=[⟨0,0,2⟩,⟨10,4,6⟩,⟨20,9,10⟩]
end
section
open Go.RowKit
open DecM (Dt gd Fv Eb Fi Ln)
attribute [local go_sem] Oper.semAt_some
theorem Gp.of3 {W:World} {B:Nat} {p q r:Dt} (h:CO W B #[.int .i64 p.t,.int .i64 p.lo,.int .i64 p.hi,.int .i64 q.t,.int .i64 q.lo,.int .i64 q.hi,.int .i64 r.t,.int .i64 r.lo,.int .i64 r.hi] 28):Gp W (.slice (some ⟨B,0,none⟩) 3 3) [p,q,r]:=by
 refine .inr ⟨B,0,3,rfl,Af,by unfold maxLen;omega,h.lt,fun j hj=>?_⟩;match j,hj with
 | 0,_=>exact ⟨h.cell 0,h.cell 1,h.cell 2⟩
 | 1,_=>exact ⟨h.cell 3,h.cell 4,h.cell 5⟩
 | 2,_=>exact ⟨h.cell 6,h.cell 7,h.cell 8⟩
end
section
open Go.RowKit
open DecM (Dt Gn gd Fv Eb Fi Ln)
attribute [local go_sem] Oper.semAt_some
theorem exS1 {W:World} {B:Nat} (h:CO W B #[.int .i64 0,.int .i64 0,.int .i64 2,.int .i64 10,.int .i64 4,.int .i64 6,.int .i64 20,.int .i64 9,.int .i64 10] 28):Gp W (.slice (some ⟨B,0,none⟩) 3 3) ex1:=Gp.of3 (p:=⟨0,0,2⟩) (q:=⟨10,4,6⟩) (r:=⟨20,9,10⟩) h
theorem BL.bad {w W:World} {L:Ec} {B:Nat} (h:BL w ((B,#[.int .i64 0,.int .i64 0,.int .i64 2,.int .i64 10,.int .i64 4,.int .i64 6,.int .i64 20,.int .i64 9,.int .i64 10],28) :: L) W) (hge:w.heap.size<=B) (hne:∀ p∈L,p.1<B) :
  BL w ((B,#[.int .i64 0,.int .i64 0,.int .i64 2,.int .i64 10,.int .i64 7,.int .i64 8,.int .i64 20,.int .i64 9,.int .i64 10],28) :: L) (((W.setCell ⟨B,3,none⟩ (.int .i64 10)).setCell ⟨B,4,none⟩ (.int .i64 7)).setCell ⟨B,5,none⟩ (.int .i64 8)):=by
 have ho:CG [B] W (((W.setCell ⟨B,3,none⟩ (.int .i64 10)).setCell ⟨B,4,none⟩ (.int .i64 7)).setCell ⟨B,5,none⟩ (.int .i64 8)):=(((CG.refl [B] W).setCell (p:=⟨B,3,none⟩) Af _).setCell (p:=⟨B,4,none⟩) Af _).setCell (p:=⟨B,5,none⟩) Af _
 have h1:=(h.drop (M:=L) (fun p hp=>AZ _ hp)).only ho (by simpa using hge) (fun p hp=>by have:=hne p hp;simp;omega)
 exact h1.pushB ((((h.blks _ Ah).set 3 _).set 4 _).set 5 _)
theorem Sl.new {W:World} {v:Value} {xs:List Int} (h:Sl W v xs) (o:Obj):Sl (W.alloc o) v xs:=h.below ((Below.refl _ W).alloc (Aa _) o)
structure SI (w:World) (L:Ec) (v:Value) (W:World):Prop where
 bl:BL w L W
 sl:Sl W v [0,1,2]
theorem SI.call {w W W':World} {L:Ec} {v:Value} (h:SI w L v W) (hb:Below W.heap.size W W'):SI w L v W':=⟨h.bl.call hb,h.sl.below hb⟩
theorem SI.drew {w W:World} {L:Ec} {v:Value} (h:SI w L v W):SI w L v W.drew:=h.call (CN W 1)
theorem SI.new {w W:World} {L:Ec} {v:Value} (h:SI w L v W) (o:Obj):SI w L v (W.alloc o):=⟨h.bl.new o,h.sl.new o⟩
theorem exF40 (v:Value) (W:World) (hE:Dv W) (h:Gp W v ex1):Calls Tryz.prog 5 #[v,.int .i64 40] W (CM W (.tuple #[.agg #[.string ⟨#[49,54]⟩,.string ⟨#[49]⟩],.agg #[.string ⟨#[50,48]⟩,.string ⟨#[49]⟩],.int .i64 0])):=by
 have:=Iz v ex1 40 W hE h;rwa [show fV (Gn ex1 40)=.tuple #[.agg #[.string ⟨#[49,54]⟩,.string ⟨#[49]⟩],.agg #[.string ⟨#[50,48]⟩,.string ⟨#[49]⟩],.int .i64 0] by kernel_rfl] at this
end
section
open Go.RowKit
open DecM (Dt Gn Fi Ex Ln Dj IsLow OG EK EL ext top)
theorem BQ.mul {k:Nat} {a b:Rat} (h:BQ k a) (g:BQ k b):BQ (k+k) (a*b):=by
 rw [<-HV];exact H5 (h.1.mul g.1) (h.2.mul g.2) (Bw (DS a) (DS b))
theorem BQ.add {k:Nat} {a b:Rat} (h:BQ k a) (g:BQ k b):BQ (k+k+1) (a+b):=by
 rw [<-HO];exact H5 ((h.1.mul g.2).add (g.1.mul h.2)) ((h.2.mul g.2).mono Ad) (Bw (DS a) (DS b))
theorem BQ.sub {k:Nat} {a b:Rat} (h:BQ k a) (g:BQ k b):BQ (k+k+1) (a-b):=by
 rw [<-K9];exact H5 ((h.1.mul g.2).sub (g.1.mul h.2)) ((h.2.mul g.2).mono Ad) (Bw (DS a) (DS b))
theorem BQ.oadd {k:Nat} {a b:Rat} (h:BQ k a) (g:BQ k b) (hk:k+k+1<=200):Na (some a) (some b)=some (a+b):=by
 rw [L4];unfold oIf SJ;rw [Ay ((h.1.mul g.2).small Ad),Ay ((g.1.mul h.2).small Ad),Ay (((h.1.mul g.2).add (g.1.mul h.2)).small Ad),Ay ((h.2.mul g.2).small Ad)];rfl
theorem BQ.omul {k:Nat} {a b:Rat} (h:BQ k a) (g:BQ k b) (hk:k+k<=200):LX (some a) (some b)=some (a*b):=by
 rw [L5];unfold oIf SK;rw [Ay ((h.1.mul g.1).small Ad),Ay ((h.2.mul g.2).small Ad)];rfl
theorem bd13 {z:Int} (h:-9000000000000<=z/\z<=9000000000000):Bd 13 z:=Bd.lit 13 Ad
theorem BQ.int {z:Int} (h:-9000000000000<=z/\z<=9000000000000):BQ 13 (z:Rat):=⟨bd13 h,show Bd 13 ((1:Nat):Int) from bd13 Ae⟩
theorem TM {n d:Int} (h:-9000000000000<=n/\n<=9000000000000) (h0:0<d) (h1:d<=9000000000000):BQ 13 (DecM.ratio n d):=by
 unfold DecM.ratio;rw [<-Rat.divInt_eq_div];exact H5 (bd13 h) (bd13 Ad) h0
theorem TN {x:Ln} (h:Gq x) (h0:x.t<x.u) {t:Int} (ht:0<=t/\t<=800000):BQ 13 (x.val t) :=
 TM (by have:=Np h ht;omega) Ad (by have:=h.t;have:=h.u;omega)
theorem fcst_bq {l:List Dt} {t:Int} {a b:Rat} (h:Gn l t=some (a,b)):BQ 13 a/\BQ 13 b:=by
 rw [NH] at h;cases c0:NM l t false with
 | none=>rw [c0] at h;cases h
 | some x=>cases c1:NM l t true with
  | none=>rw [c0,c1] at h;cases h
  | some y =>
   rw [c0,c1] at h;cases h;exact ⟨TN (I5 c0).1 (I5 c0).2 (Mb c0),TN (I5 c1).1 (I5 c1).2 (Mb c1)⟩
theorem valO_bq {p q:Rat} (hp:BQ 13 p) (hq:BQ 13 q) {t:Int} (ht:Ex t=true):Ma (some p) (some q) t=some (p+q*t):=by
 have h:=DecM.inDay_iff.1 ht;have hm:=hq.omul (BQ.int (z:=t) Ad) Ad;have ha:=(hp.mono (k:=26) Ad).oadd (hq.mul (BQ.int (z:=t) Ad)) Ad;unfold Ma;rw [ht,hm,ha];rfl
theorem fitO_of {l:List Dt} (hok:Fi l=true) {p q:Rat} (hp:BQ 13 p) (hq:BQ 13 q) (h:Dj 0 p q l):TH l (some p) (some q)=true:=by
 have hd:=(DecM.okD_iff.1 hok).2.1;unfold TH;rw [hok];have:l.any (P5 (some p) (some q))=false:=by
  rw [List.any_eq_false];intro d hm;have h1:=hd d hm;obtain ⟨h2,h3⟩:=h d hm;have e:q*((d.t:Rat)-((0:Int):Rat))=q*d.t:=by rw [Rat.intCast_zero];grind
  rw [e] at h2 h3;unfold P5;rw [valO_bq hp hq (DecM.inDay_iff.2 ⟨h1.1,h1.2.1⟩)];show ¬ ((decide (p+q*(d.t:Rat)<(d.lo:Rat)) || decide ((d.hi:Rat)<p+q*(d.t:Rat)))=true);rw [Al (Rat.not_lt.2 h2),Al (Rat.not_lt.2 h3)];decide
 rw [this];rfl
end
section
open Go.RowKit
open DecM (Dt Gn Fi Ex Fu Dj EL EK QX)
structure Me (v0 each:Int) (l:List Dt) (a:Int):Prop where
 asc:l.Pairwise (fun p q=>p.t<q.t)
 bd:∀ p∈l,1<=p.t/\p.t<=a/\-1000000<=p.lo/\p.lo<=v0+each*p.t/\v0+each*p.t<=p.hi/\p.hi<=1000000
theorem Me.nil (v0 each a:Int):Me v0 each [] a:=⟨List.Pairwise.nil,fun p h=>by cases h⟩
theorem Me.snoc {v0 each a:Int} {l:List Dt} (h:Me v0 each l a) (d:Dt) (h0:a<d.t) (h1:1<=d.t) (h2:-1000000<=d.lo) (h3:d.lo<=v0+each*d.t) (h4:v0+each*d.t<=d.hi) (h5:d.hi<=1000000):Me v0 each (l++[d]) d.t:=by
 refine ⟨AX.2 ⟨h.asc,List.pairwise_singleton _ _,fun p hp q hq=>?_⟩,fun p hp=>?_⟩
 ·obtain rfl:=AK.1 hq
  have:=(h.bd p hp).2.1;omega
 ·rcases B7.1 hp with hp | hp
  ·have:=h.bd p hp;omega
  ·obtain rfl:=AK.1 hp
   exact ⟨h1,Cc _,h2,h3,h4,h5⟩
theorem Me.ok {v0 each a:Int} {l:List Dt} (h:Me v0 each l a) (hl:l.length<=8) (ha:a<=1000):Fi l=true :=
 DecM.okD_iff.2 ⟨h.asc,fun p hp=>by have:=h.bd p hp;omega,Ad⟩
theorem Me.fit {v0 each a:Int} {l:List Dt} (h:Me v0 each l a):Dj 0 v0 each l:=fun p hp=>by
 have:=h.bd p hp;have e:(v0:Rat)+each*((p.t:Rat)-((0:Int):Rat))=((v0+each*p.t:Int):Rat):=by
  rw [Rat.intCast_zero,Rat.intCast_add,Rat.intCast_mul];grind
 unfold DecM.Fit;rw [e];exact ⟨Rat.intCast_le_intCast.2 this.2.2.2.1,Rat.intCast_le_intCast.2 this.2.2.2.2.1⟩
theorem Me.ref {v0 each a:Int} {l:List Dt} (h:Me v0 each l a) (hl:l.length<=8) (ha:a<=1000):(TG l).isSome=false:=by
 have hok:=h.ok hl ha;unfold TG;rw [AI hok];exact (DecM.refD_isSome (DecM.okD_good hok)).2 ⟨v0,each,h.fit⟩
theorem Me.fits {v0 each a:Int} {l:List Dt} (h:Me v0 each l a) (hl:l.length<=8) (ha:a<=1000) (h0:-10000<=v0/\v0<=10000) (h1:-10000<=each/\each<=10000):TH l (some v0) (some each)=true :=
 fitO_of (h.ok hl ha) (BQ.int Ad) (BQ.int Ad) h.fit
theorem Me.cast {v0 each a:Int} {l:List Dt} (h:Me v0 each l a) (hl:l.length<=8) (ha:a<=1000) {s:Int} (hs:0<=s/\s<=800000):(Gn l s=none/\l.length<2)∨∃ x y,Gn l s=some (x,y)/\x<=((v0+each*s:Int):Rat)/\((v0+each*s:Int):Rat)<=y:=by
 have hok:=h.ok hl ha;have hd:=DecM.inDay_iff.2 hs;have hf:Fu l:=⟨v0,each,h.fit⟩;cases c:Gn l s with
 | none =>
  have h1:=(DecM.fcst_none hok hd).1 c;refine .inl ⟨rfl,?_⟩;rcases Nat.lt_or_ge l.length 2 with h2 | h2
  ·exact h2
  ·exact absurd ⟨(DecM.two_iff (DecM.okD_good hok)).2 h2,hf⟩ h1
 | some xy =>
  obtain ⟨x,y⟩:=xy;obtain ⟨_,_,hx,hy⟩:=DecM.fcst_some c;have hm:=h.fit.move s;have e:(v0:Rat)+each*((s:Rat)-((0:Int):Rat))=((v0+each*s:Int):Rat):=by
   rw [Rat.intCast_zero,Rat.intCast_add,Rat.intCast_mul];grind
  rw [e] at hm;exact .inr ⟨x,y,rfl,hx.le _ _ hm,hy.le _ _ hm⟩
end
end Go.Proofs.YtdkonnnmkceagaaGreatDoor
