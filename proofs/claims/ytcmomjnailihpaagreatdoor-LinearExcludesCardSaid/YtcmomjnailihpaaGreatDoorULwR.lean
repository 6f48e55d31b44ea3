/- LwR -/
import Derived.Test.YtcmomjnailihpaaGreatDoorULwE
import Derived.Deep.RegionHeld3
import Derived.Deep.DeepCutAuto
set_option maxHeartbeats 8000000
set_option maxRecDepth 100000
namespace Go.Proofs.YtcmomjnailihpaaGreatDoor
section
open Go.RowKit
open LnM (wd upd)
attribute [local go_sem] Oper.semAt_some
def tabF (s:LnM.Sys) (B:Nat→Nat) (i j:Nat):Int:=if i<s.m then s.T B i j else s.C B j
theorem F6 {z:Int} (h:LnM.Wide z) (W:World):Calls Tryz.prog 76 #[.agg (wc (wd z))] W (Rets W (.bool (decide (z<0)))):=by
 have:=DG (wd z) W
 rwa [show (wd z 11 / 9223372036854775808==1)=decide (z<0) by rw [Bool.eq_iff_iff,beq_iff_eq,decide_eq_true_iff];exact LnM.wd_neg h] at this
theorem Ic (t:Tb) (s:LnM.Sys) (F:Nat→Nat→Int) (B:Nat→Nat) (sg:Nat→Int) (d:Int) (k:Nat) (w:World) (h:Tbl w t F B sg d) (hm:t.m=s.m) (hn:t.n=s.n+s.m+1) (hF:∀ i,i<s.m→∀ j,j<t.n→F i j=s.T B i j)
  (hk:k<s.n+s.m) (hm0:0<s.m) (hm1:t.m≤100000) (hn1:t.n≤100000) (hw1:∀ i,i<s.m→LnM.Wide (s.T B i k))
  (hw2:∀ i r,i<s.m→r<s.m→LnM.Wide (s.T B i (s.n+s.m)*s.T B r k-s.T B r (s.n+s.m)*s.T B i k)) :
  Calls Tryz.prog 78 #[.pointer (some ⟨t.tb,0,none⟩),.int .i64 k] w fun e w'=>(∃ b:Int,e=.returned (.int .i64 b)∧((b=-1∧∀ i,i<s.m→s.T B i k≤0)∨∃ r:Nat,b=r∧s.LeaveTo B k s.m r))∧Below w.heap.size w w':=by
 have hmt:0<t.m:=by omega
 have H:=A8 h
 have c0:=h.c0
 rw [BI hmt] at c0
 have c1:=h.c1
 obtain ⟨la,hla⟩:∃ la,la=s.n+s.m:=⟨_,rfl⟩
 have hla1:IntKind.i64.wrap ((t.n:Int)-1)=la:=by rw [IntWalk.i64_in _ (by omega)];omega
 have hlan:la<t.n:=by omega
 have hkn:k<t.n:=by omega
 have hk0:(0:Int)≤k:=by omega
 have hk1:(k:Int)<t.n:=by omega
 have hl0:(0:Int)≤la:=by omega
 have hl1:(la:Int)<t.n:=by omega
 rw [←hla] at hw2
 replace hw1:=A8 hw1
 replace hw2:=A8 hw2
 replace hF:=A8 hF
 replace hm:=A8 hm
 replace hla:=A8 hla
 clear h hn hk
 go_enter Tryz.func78,Tryz.ntmps78
 go_wp2_with fail
 clear c0 c1
 go_loopw [5,21] (fun b o wr=>∃ i:Nat,o=.int .i64 i∧i≤t.m∧Below w.heap.size w wr∧((b=.int .i64 (-1)∧Hid (∀ j,j<i→s.T B j k≤0))∨∃ r:Nat,b=.int .i64 r∧Hid (s.LeaveTo B k i r))) (fun _ o _=>t.m-(intOf o).toNat)
 case atStart=>exact ⟨0,rfl,by omega,Below.refl _ _,.inl ⟨rfl,A8 (fun j hj=>by omega)⟩⟩
 case round =>
  obtain ⟨i,rfl,hi,hB,hbest⟩:=hrel
  by_cases him:i<t.m
  ·have him':(i:Int)<t.m:=by omega
   have hi0:(0:Int)≤i:=by omega
   have hims:i<s.m:=by have:=hm.out;omega
   have Hr:=A8 (H.out.below hB)
   have x0:=Hr.out.xs i him
   obtain ⟨b0,b1,b2,b3,b4,b5,b6,b7,b8,b9,b10,b11⟩:=Ax ((Hr.out.grid.row i (by omega)).rd k hkn)
   rw [hF.out i hims k hkn] at b0 b1 b2 b3 b4 b5 b6 b7 b8 b9 b10 b11
   obtain ⟨v,hv⟩:∃ v,v=s.T B i k:=⟨_,rfl⟩
   rw [←hv] at b0 b1 b2 b3 b4 b5 b6 b7 b8 b9 b10 b11
   have hvw:LnM.Wide v:=by rw [hv];exact hw1.out i hims
   have NG:=fun W=>F6 hvw W
   replace hv:=A8 hv
   by_cases hneg:v<0
   ·rw [show decide (v<0)=true by simp [hneg]] at NG
    have hnp:s.T B i k≤0:=by rw [←hv.out];omega
    obtain ⟨f,hf⟩:∃ f,f=wd v:=⟨_,rfl⟩
    rw [←hf] at b0 b1 b2 b3 b4 b5 b6 b7 b8 b9 b10 b11 NG
    clear hneg hvw hf
    replace NG:=A8 NG
    go_wp2_with fail
    refine Calls.mono (NG.out _) ?_
    rintro e w1 ⟨rfl,hb⟩
    have hB1:Below w.heap.size w w1:=hB.trans (hb.mono hB.size)
    go_wp2_with fail
    go_roundw
    case rel =>
     refine ⟨i+1,by go_num,by omega,hB1,?_⟩
     rcases hbest with ⟨e,hn⟩ | ⟨r,e,hl⟩
     ·refine .inl ⟨e,A8 (fun j hj=>?_)⟩
      by_cases ej:j=i
      ·subst ej;exact hnp
      ·exact hn.out j (by omega)
     ·exact .inr ⟨r,e,A8 (LnM.leaveTo_skip hl.out (Int.not_lt.2 hnp))⟩
    case measure=>simp [intOf];omega
   ·by_cases hzero:v=0
    ·rw [show decide (v<0)=false by simp;omega] at NG
     have EQ:=fun W=>AO hvw (b:=true) (by simp [hzero]) W
     have hnp:s.T B i k≤0:=by rw [←hv.out];omega
     obtain ⟨f,hf⟩:∃ f,f=wd v:=⟨_,rfl⟩
     rw [←hf] at b0 b1 b2 b3 b4 b5 b6 b7 b8 b9 b10 b11 NG EQ
     dsimp only [wc] at EQ
     have hf':=A8 hf
     clear hneg hvw hf hzero
     replace NG:=A8 NG
     go_wp2_with fail
     refine Calls.mono (NG.out _) ?_
     rintro e w1 ⟨rfl,hb⟩
     have hB1:Below w.heap.size w w1:=hB.trans (hb.mono hB.size)
     have H1:=(Hr.out.below hb)
     clear b0 b1 b2 b3 b4 b5 b6 b7 b8 b9 b10 b11
     obtain ⟨b0,b1,b2,b3,b4,b5,b6,b7,b8,b9,b10,b11⟩:=Ax ((H1.grid.row i (by omega)).rd k hkn)
     rw [hF.out i hims k hkn,←hv.out,←hf'.out] at b0 b1 b2 b3 b4 b5 b6 b7 b8 b9 b10 b11
     clear H1
     go_wp2_with fail
     go_roundw
     case rel =>
      refine ⟨i+1,by go_num,by omega,hB1,?_⟩
      rcases hbest with ⟨e,hn⟩ | ⟨r,e,hl⟩
      ·refine .inl ⟨e,A8 (fun j hj=>?_)⟩
       by_cases ej:j=i
       ·subst ej;exact hnp
       ·exact hn.out j (by omega)
      ·exact .inr ⟨r,e,A8 (LnM.leaveTo_skip hl.out (Int.not_lt.2 hnp))⟩
     case measure=>simp [intOf];omega
    ·have hpos:0<s.T B i k:=by rw [←hv.out];omega
     rw [show decide (v<0)=false by simp;omega] at NG
     have EQ:=fun W=>AO hvw (b:=false) (by simp [hzero]) W
     obtain ⟨f,hf⟩:∃ f,f=wd v:=⟨_,rfl⟩
     rw [←hf] at b0 b1 b2 b3 b4 b5 b6 b7 b8 b9 b10 b11 NG EQ
     dsimp only [wc] at EQ
     replace hf:=A8 hf
     replace hpos:=A8 hpos
     clear hneg hvw hzero
     replace NG:=A8 NG
     go_wp2_with fail
     refine Calls.mono (NG.out _) ?_
     rintro e w1 ⟨rfl,hb⟩
     have hB1:Below w.heap.size w w1:=hB.trans (hb.mono hB.size)
     have H1:=A8 (Hr.out.below hb)
     clear b0 b1 b2 b3 b4 b5 b6 b7 b8 b9 b10 b11 NG hb
     obtain ⟨b0,b1,b2,b3,b4,b5,b6,b7,b8,b9,b10,b11⟩:=Ax ((H1.out.grid.row i (by omega)).rd k hkn)
     rw [hF.out i hims k hkn,←hv.out,←hf.out] at b0 b1 b2 b3 b4 b5 b6 b7 b8 b9 b10 b11
     rcases hbest with ⟨rfl,hn⟩ | ⟨r,rfl,hl⟩
     ·go_wp2_with fail
      go_roundw
      case rel=>exact ⟨i+1,by go_num,by omega,hB1,.inr ⟨i,rfl,A8 (LnM.leaveTo_first (fun j hj=>Int.not_lt.2 (hn.out j hj)) hpos.out)⟩⟩
      case measure=>simp [intOf];omega
     ·have hrs:r<s.m:=by have:=hl.out.lt;omega
      have hrm:r<t.m:=by have:=hm.out;omega
      have hr0:(0:Int)≤r:=by omega
      have hr1:(r:Int)<t.m:=by omega
      have hrn:¬ (r:Int)<0:=by omega
      go_upto_region 9 with fail
      clear b0 b1 b2 b3 b4 b5 b6 b7 b8 b9 b10 b11 EQ x0
      have hDw:=hw2.out i r hims hrs
      have T1:=Bl (s.T B i la) (s.T B r k)
      have T2:=Bl (s.T B r la) (s.T B i k)
      have MI:=Bj (s.T B i la*s.T B r k) (s.T B r la*s.T B i k)
      obtain ⟨D,hD⟩:∃ D,D=s.T B i la*s.T B r k-s.T B r la*s.T B i k:=⟨_,rfl⟩
      rw [←hD] at MI hDw
      replace hD:=A8 hD
      rw [←Aw,←Aw,←Aw] at T1 T2 MI
      obtain ⟨ca,ea⟩:∃ c,c=wl (wd (s.T B i la)):=⟨_,rfl⟩
      obtain ⟨cb,eb⟩:∃ c,c=wl (wd (s.T B r k)):=⟨_,rfl⟩
      obtain ⟨cc,ec⟩:∃ c,c=wl (wd (s.T B r la)):=⟨_,rfl⟩
      obtain ⟨cd,ed⟩:∃ c,c=wl (wd (s.T B i k)):=⟨_,rfl⟩
      obtain ⟨c1,e1⟩:∃ c,c=wl (wd (s.T B i la*s.T B r k)):=⟨_,rfl⟩
      obtain ⟨c2,e2⟩:∃ c,c=wl (wd (s.T B r la*s.T B i k)):=⟨_,rfl⟩
      obtain ⟨c3,e3⟩:∃ c,c=wl (wd D):=⟨_,rfl⟩
      rw [←ea,←eb,←e1] at T1
      rw [←ec,←ed,←e2] at T2
      rw [←e1,←e2,←e3] at MI
      have l3:c3.length=12:=by rw [e3];rfl
      have o3:∀ v∈c3,v.oneCell'=true:=by rw [e3];exact Dn _
      have ua:(Tryz.prog.info? 73).map (·.size)=some ca.length:=by rw [ea];kernel_rfl
      have ub:(Tryz.prog.info? 73).map (·.size)=some cb.length:=by rw [eb];kernel_rfl
      have uc:(Tryz.prog.info? 73).map (·.size)=some cc.length:=by rw [ec];kernel_rfl
      have ud:(Tryz.prog.info? 73).map (·.size)=some cd.length:=by rw [ed];kernel_rfl
      have u3:(Tryz.prog.info? 73).map (·.size)=some c3.length:=by rw [l3];kernel_rfl
      have hu:=Tryz.underlying73
      have hC:=A8 (show ∀ W',Below w1.heap.size w1 W'→(W'.rangeAt (t.R i) (la*12) ca∧W'.rangeAt (t.R r) (k*12) cb∧W'.rangeAt (t.R r) (la*12) cc∧W'.rangeAt (t.R i) (k*12) cd∧W'.cell? ⟨t.tb,0,none⟩=some (.slice (some ⟨t.xb,0,none⟩) t.m t.cx)∧W'.cell? ⟨t.xb,r,none⟩=some (.slice (some ⟨t.R r,0,none⟩) t.n t.n)) from fun W' hb=>by
       have HW:=H1.out.below hb
       have q0:=HW.c0
       rw [BI hmt] at q0
       have q1:=(HW.grid.row i (by omega)).rd la hlan
       have q2:=(HW.grid.row r (by omega)).rd k hkn
       have q3:=(HW.grid.row r (by omega)).rd la hlan
       have q4:=(HW.grid.row i (by omega)).rd k hkn
       rw [hF.out i hims la hlan,←ea] at q1
       rw [hF.out r hrs k hkn,←eb] at q2
       rw [hF.out r hrs la hlan,←ec] at q3
       rw [hF.out i hims k hkn,←ed] at q4
       exact ⟨q1,q2,q3,q4,q0,HW.xs r hrm⟩)
      replace T1:=A8 T1
      replace T2:=A8 T2
      replace MI:=A8 MI
      clear ea eb ec ed e1 e2
      replace e3:=A8 e3
      have hb:=Ac w1 1
      go_cut [9] (fun sx wx=>∃ g,sx=.pointer (some ⟨g,0,none⟩)∧Below w1.heap.size w1 wx∧Blk wx g (wc (wd D)) 73)
      case first =>
       refine wp_region_held_drew (S:=fun w'=>w'.rangeAt (t.R i) (la*12) ca∧w'.rangeAt (t.R r) (k*12) cb∧w'.rangeAt (t.R r) (la*12) cc∧w'.rangeAt (t.R i) (k*12) cd∧w'.cell? ⟨t.tb,0,none⟩=some (.slice (some ⟨t.xb,0,none⟩) t.m t.cx)∧w'.cell? ⟨t.xb,r,none⟩=some (.slice (some ⟨t.R r,0,none⟩) t.n t.n)) (by kernel_rfl) (hC.out _ hb) (fun hHeld=>?_)
       refine tkV 0 (.slice (some ⟨t.R i,0,none⟩) t.n t.n) (fun w' hw=>?_) hHeld ?_
       ·go_simp
       try simp only [A7,A3,Act.put,A0,A5,A6]
       refine tkV 1 (.int .i64 la) (fun w' hw=>?_) hHeld ?_
       ·go_simp
       try simp only [A7,A4,A3,Act.put,A0,A5,A6]
       refine tkV 2 (.pointer (some ⟨t.R i,la*12,none⟩)) (fun w' hw=>?_) hHeld ?_
       ·go_simp
       try simp only [A7,A4,A3,Act.put,A0,A5,A6]
       refine tkY 3 (.agg (ca).toArray) rfl (yieldsIf_load_mid (by rfl) _ _ rfl _ _ rfl _ _ (fun w' hw=>hw.1) hu rfl ua) hHeld ?_
       try simp only [A7,A4,A3,Act.put,A0,A5,A6]
       refine tkV 4 (.pointer (some ⟨t.tb,0,none⟩)) (fun w' hw=>?_) hHeld ?_
       ·go_simp
       try simp only [A7,A4,A3,Act.put,A0,A5,A6]
       refine tkV 5 (.pointer (some ⟨t.tb,0,none⟩)) (fun w' hw=>?_) hHeld ?_
       ·go_simp
       try simp only [A7,A4,A3,Act.put,A0,A5,A6]
       refine tkV 6 (.pointer (some ⟨t.tb,0,none⟩)) (fun w' hw=>?_) hHeld ?_
       ·go_simp
       try simp only [A7,A4,A3,Act.put,A0,A5,A6]
       refine tkV 7 (.slice (some ⟨t.xb,0,none⟩) t.m t.cx) (fun w' hw=>?_) hHeld ?_
       ·go_simp
       try simp only [A7,A4,A3,Act.put,A0,A5,A6]
       refine tkV 8 (.int .i64 r) (fun w' hw=>?_) hHeld ?_
       ·go_simp
       try simp only [A7,A4,A3,Act.put,A0,A5,A6]
       refine tkV 9 (.pointer (some ⟨t.xb,r,none⟩)) (fun w' hw=>?_) hHeld ?_
       ·go_simp
       try simp only [A7,A4,A3,Act.put,A0,A5,A6]
       refine tkV 10 (.slice (some ⟨t.R r,0,none⟩) t.n t.n) (fun w' hw=>?_) hHeld ?_
       ·go_simp
       try simp only [A7,A4,A3,Act.put,A0,A5,A6]
       refine tkV 11 (.int .i64 k) (fun w' hw=>?_) hHeld ?_
       ·go_simp
       try simp only [A7,A4,A3,Act.put,A0,A5,A6]
       refine tkV 12 (.pointer (some ⟨t.R r,k*12,none⟩)) (fun w' hw=>?_) hHeld ?_
       ·go_simp
       try simp only [A7,A4,A3,Act.put,A0,A5,A6]
       refine tkY 13 (.agg (cb).toArray) rfl (yieldsIf_load_mid (by rfl) _ _ rfl _ _ rfl _ _ (fun w' hw=>hw.2.1) hu rfl ub) hHeld ?_
       try simp only [A7,A4,A3,Act.put,A0,A5,A6]
       refine tkV 15 (.pointer (some ⟨t.tb,0,none⟩)) (fun w' hw=>?_) hHeld ?_
       ·go_simp
       try simp only [A7,A4,A3,Act.put,A0,A5,A6]
       refine tkV 16 (.pointer (some ⟨t.tb,0,none⟩)) (fun w' hw=>?_) hHeld ?_
       ·go_simp
       try simp only [A7,A4,A3,Act.put,A0,A5,A6]
       refine tkV 17 (.pointer (some ⟨t.tb,0,none⟩)) (fun w' hw=>?_) hHeld ?_
       ·go_simp
       try simp only [A7,A4,A3,Act.put,A0,A5,A6]
       refine tkV 18 (.slice (some ⟨t.xb,0,none⟩) t.m t.cx) (fun w' hw=>?_) hHeld ?_
       ·go_simp
       try simp only [A7,A4,A3,Act.put,A0,A5,A6]
       refine tkV 19 (.int .i64 r) (fun w' hw=>?_) hHeld ?_
       ·go_simp
       try simp only [A7,A4,A3,Act.put,A0,A5,A6]
       refine tkV 20 (.pointer (some ⟨t.xb,r,none⟩)) (fun w' hw=>?_) hHeld ?_
       ·go_simp
       try simp only [A7,A4,A3,Act.put,A0,A5,A6]
       refine tkV 21 (.slice (some ⟨t.R r,0,none⟩) t.n t.n) (fun w' hw=>?_) hHeld ?_
       ·go_simp
       try simp only [A7,A4,A3,Act.put,A0,A5,A6]
       refine tkV 22 (.int .i64 la) (fun w' hw=>?_) hHeld ?_
       ·go_simp
       try simp only [A7,A4,A3,Act.put,A0,A5,A6]
       refine tkV 23 (.pointer (some ⟨t.R r,la*12,none⟩)) (fun w' hw=>?_) hHeld ?_
       ·go_simp
       try simp only [A7,A4,A3,Act.put,A0,A5,A6]
       refine tkY 24 (.agg (cc).toArray) rfl (yieldsIf_load_mid (by rfl) _ _ rfl _ _ rfl _ _ (fun w' hw=>hw.2.2.1) hu rfl uc) hHeld ?_
       try simp only [A7,A4,A3,Act.put,A0,A5,A6]
       refine tkV 25 (.slice (some ⟨t.R i,0,none⟩) t.n t.n) (fun w' hw=>?_) hHeld ?_
       ·go_simp
       try simp only [A7,A4,A3,Act.put,A0,A5,A6]
       refine tkV 26 (.int .i64 k) (fun w' hw=>?_) hHeld ?_
       ·go_simp
       try simp only [A7,A4,A3,Act.put,A0,A5,A6]
       refine tkV 27 (.pointer (some ⟨t.R i,k*12,none⟩)) (fun w' hw=>?_) hHeld ?_
       ·go_simp
       try simp only [A7,A4,A3,Act.put,A0,A5,A6]
       refine tkY 28 (.agg (cd).toArray) rfl (yieldsIf_load_mid (by rfl) _ _ rfl _ _ rfl _ _ (fun w' hw=>hw.2.2.2.1) hu rfl ud) hHeld ?_
       try simp only [A7,A4,A3,Act.put,A0,A5,A6]
       refine wpAnyH_ready (rs:=[14,31]) (by kernel_rfl) (by simp) ?_
       refine AllReadyH.cons rfl (fun K hK=>?_) (AllReadyH.cons rfl (fun K hK=>?_) AllReadyH.nil)
       ·go_simp
        go_at_call 109
        with_reducible refine Calls.mono (T1.out _) ?_
        rintro e wx0 ⟨rfl,hbx⟩
        replace hb:=hb.trans (hbx.mono hb.size)
        clear hbx
        refine hK.out _ _ (hC.out _ hb) (fun hHeld=>?_)
        clear hK K
        try simp only [A7,A4,A3,Act.put,A0,A5,A6]
        refine wpAnyH_ready (rs:=[29,31]) (by kernel_rfl) (by simp) ?_
        refine AllReadyH.cons rfl (fun K hK=>?_) (AllReadyH.cons rfl (fun K hK=>?_) AllReadyH.nil)
        ·go_simp
         go_at_call 109
         with_reducible refine Calls.mono (T2.out _) ?_
         rintro e wx1 ⟨rfl,hbx⟩
         replace hb:=hb.trans (hbx.mono hb.size)
         clear hbx
         refine hK.out _ _ (hC.out _ hb) (fun hHeld=>?_)
         clear hK K
         try simp only [A7,A4,A3,Act.put,A0,A5,A6]
         refine wpAnyH_ready (rs:=[30,31]) (by kernel_rfl) (by simp) ?_
         refine AllReadyH.cons rfl (fun K hK=>?_) (AllReadyH.cons rfl (fun K hK=>?_) AllReadyH.nil)
         ·go_simp
          go_at_call 39
          with_reducible refine Calls.mono (MI.out _) ?_
          rintro e wx2 ⟨rfl,hbx⟩
          replace hb:=hb.trans (hbx.mono hb.size)
          clear hbx
          refine hK.out _ _ (hC.out _ hb) (fun hHeld=>?_)
          clear hK K
          try simp only [A7,A4,A3,Act.put,A0,A5,A6]
          refine wpAnyH_ready (rs:=[31]) (by kernel_rfl) (by simp) ?_
          refine AllReadyH.cons rfl (fun K hK=>?_) AllReadyH.nil
          go_simp
          obtain ⟨Wn,hWn⟩:∃ Wn,Wn=wx2.alloc (.cells (wc (fun _=>0)) 73):=⟨_,rfl⟩
          have hgB:Blk Wn wx2.heap.size (wc (fun _=>0)) 73:=by rw [hWn];exact Blk.new wx2 _ _
          obtain ⟨g,hg⟩:∃ g,g=wx2.heap.size:=⟨_,rfl⟩
          have hgg:w1.heap.size≤g:=by rw [hg];exact hb.size
          replace hb:Below w1.heap.size w1 Wn:=by rw [hWn];exact hb.alloc hb.size _
          rw [←hWn]
          clear hWn
          rw [←hg] at hgB ⊢
          clear hg
          refine hK.out _ _ (hC.out _ hb) (fun hHeld=>?_)
          clear hK K
          try simp only [A7,A4,A3,Act.put,A0,A5,A6]
          refine wpAnyH_ready (rs:=[32]) (by kernel_rfl) (by simp) ?_
          refine AllReadyH.cons rfl (fun K hK=>?_) AllReadyH.nil
          rw [if_pos (by rfl)]
          have hth:Wn.there g 0 12:=BL.there (w:=w1) (L:=[(g,wc (fun _=>0),73)]) ⟨hb,fun p hp=>by rcases List.mem_cons.1 hp with rfl | hp;exact hgB;cases hp⟩ g _ 73 (.head _) 12 rfl
          refine wp_store_mid _ _ _ rfl _ _ (List.toArray _) rfl rfl (by rw [List.size_toArray,l3];exact hth) (by rw [List.size_toArray];exact u3) (all_oneCell_toArray o3) ?_
          rw [List.toList_toArray]
          have hb9:Below w1.heap.size w1 (Wn.setCells g 0 c3):=hb.trans ((Ag c3 0 Wn).toBelow hb.size (by intro x hx;rw [List.mem_singleton.1 hx];exact hgg))
          have hk9:Blk (Wn.setCells g 0 c3) g (wc (wd D)) 73:=by rw [e3.out,Cr];exact AY hgB
          refine hK.out _ _ (hC.out _ hb9) (fun hHeld=>?_)
          clear hK K
          try simp only [A7,A4,A3,Act.put]
          refine wpAnyH_done (by kernel_rfl) ?_ _
          go_wp2_with fail
          go_meet
          exact ⟨g,rfl,hb9,hk9⟩
         ·go_simp
          obtain ⟨Wn,hWn⟩:∃ Wn,Wn=wx1.alloc (.cells (wc (fun _=>0)) 73):=⟨_,rfl⟩
          have hgB:Blk Wn wx1.heap.size (wc (fun _=>0)) 73:=by rw [hWn];exact Blk.new wx1 _ _
          obtain ⟨g,hg⟩:∃ g,g=wx1.heap.size:=⟨_,rfl⟩
          have hgg:w1.heap.size≤g:=by rw [hg];exact hb.size
          replace hb:Below w1.heap.size w1 Wn:=by rw [hWn];exact hb.alloc hb.size _
          rw [←hWn]
          clear hWn
          rw [←hg] at hgB ⊢
          clear hg
          refine hK.out _ _ (hC.out _ hb) (fun hHeld=>?_)
          clear hK K
          try simp only [A7,A4,A3,Act.put,A0,A5,A6]
          refine wpAnyH_ready (rs:=[30]) (by kernel_rfl) (by simp) ?_
          refine AllReadyH.cons rfl (fun K hK=>?_) AllReadyH.nil
          go_simp
          go_at_call 39
          with_reducible refine Calls.mono (MI.out _) ?_
          rintro e wx2 ⟨rfl,hbx⟩
          replace hb:=hb.trans (hbx.mono hb.size)
          replace hgB:=hgB.below hbx
          clear hbx
          refine hK.out _ _ (hC.out _ hb) (fun hHeld=>?_)
          clear hK K
          try simp only [A7,A4,A3,Act.put,A0,A5,A6]
          refine wpAnyH_ready (rs:=[32]) (by kernel_rfl) (by simp) ?_
          refine AllReadyH.cons rfl (fun K hK=>?_) AllReadyH.nil
          rw [if_pos (by rfl)]
          have hth:wx2.there g 0 12:=BL.there (w:=w1) (L:=[(g,wc (fun _=>0),73)]) ⟨hb,fun p hp=>by rcases List.mem_cons.1 hp with rfl | hp;exact hgB;cases hp⟩ g _ 73 (.head _) 12 rfl
          refine wp_store_mid _ _ _ rfl _ _ (List.toArray _) rfl rfl (by rw [List.size_toArray,l3];exact hth) (by rw [List.size_toArray];exact u3) (all_oneCell_toArray o3) ?_
          rw [List.toList_toArray]
          have hb9:Below w1.heap.size w1 (wx2.setCells g 0 c3):=hb.trans ((Ag c3 0 wx2).toBelow hb.size (by intro x hx;rw [List.mem_singleton.1 hx];exact hgg))
          have hk9:Blk (wx2.setCells g 0 c3) g (wc (wd D)) 73:=by rw [e3.out,Cr];exact AY hgB
          refine hK.out _ _ (hC.out _ hb9) (fun hHeld=>?_)
          clear hK K
          try simp only [A7,A4,A3,Act.put]
          refine wpAnyH_done (by kernel_rfl) ?_ _
          go_wp2_with fail
          go_meet
          exact ⟨g,rfl,hb9,hk9⟩
        ·go_simp
         obtain ⟨Wn,hWn⟩:∃ Wn,Wn=wx0.alloc (.cells (wc (fun _=>0)) 73):=⟨_,rfl⟩
         have hgB:Blk Wn wx0.heap.size (wc (fun _=>0)) 73:=by rw [hWn];exact Blk.new wx0 _ _
         obtain ⟨g,hg⟩:∃ g,g=wx0.heap.size:=⟨_,rfl⟩
         have hgg:w1.heap.size≤g:=by rw [hg];exact hb.size
         replace hb:Below w1.heap.size w1 Wn:=by rw [hWn];exact hb.alloc hb.size _
         rw [←hWn]
         clear hWn
         rw [←hg] at hgB ⊢
         clear hg
         refine hK.out _ _ (hC.out _ hb) (fun hHeld=>?_)
         clear hK K
         try simp only [A7,A4,A3,Act.put,A0,A5,A6]
         refine wpAnyH_ready (rs:=[29]) (by kernel_rfl) (by simp) ?_
         refine AllReadyH.cons rfl (fun K hK=>?_) AllReadyH.nil
         go_simp
         go_at_call 109
         with_reducible refine Calls.mono (T2.out _) ?_
         rintro e wx1 ⟨rfl,hbx⟩
         replace hb:=hb.trans (hbx.mono hb.size)
         replace hgB:=hgB.below hbx
         clear hbx
         refine hK.out _ _ (hC.out _ hb) (fun hHeld=>?_)
         clear hK K
         try simp only [A7,A4,A3,Act.put,A0,A5,A6]
         refine wpAnyH_ready (rs:=[30]) (by kernel_rfl) (by simp) ?_
         refine AllReadyH.cons rfl (fun K hK=>?_) AllReadyH.nil
         go_simp
         go_at_call 39
         with_reducible refine Calls.mono (MI.out _) ?_
         rintro e wx2 ⟨rfl,hbx⟩
         replace hb:=hb.trans (hbx.mono hb.size)
         replace hgB:=hgB.below hbx
         clear hbx
         refine hK.out _ _ (hC.out _ hb) (fun hHeld=>?_)
         clear hK K
         try simp only [A7,A4,A3,Act.put,A0,A5,A6]
         refine wpAnyH_ready (rs:=[32]) (by kernel_rfl) (by simp) ?_
         refine AllReadyH.cons rfl (fun K hK=>?_) AllReadyH.nil
         rw [if_pos (by rfl)]
         have hth:wx2.there g 0 12:=BL.there (w:=w1) (L:=[(g,wc (fun _=>0),73)]) ⟨hb,fun p hp=>by rcases List.mem_cons.1 hp with rfl | hp;exact hgB;cases hp⟩ g _ 73 (.head _) 12 rfl
         refine wp_store_mid _ _ _ rfl _ _ (List.toArray _) rfl rfl (by rw [List.size_toArray,l3];exact hth) (by rw [List.size_toArray];exact u3) (all_oneCell_toArray o3) ?_
         rw [List.toList_toArray]
         have hb9:Below w1.heap.size w1 (wx2.setCells g 0 c3):=hb.trans ((Ag c3 0 wx2).toBelow hb.size (by intro x hx;rw [List.mem_singleton.1 hx];exact hgg))
         have hk9:Blk (wx2.setCells g 0 c3) g (wc (wd D)) 73:=by rw [e3.out,Cr];exact AY hgB
         refine hK.out _ _ (hC.out _ hb9) (fun hHeld=>?_)
         clear hK K
         try simp only [A7,A4,A3,Act.put]
         refine wpAnyH_done (by kernel_rfl) ?_ _
         go_wp2_with fail
         go_meet
         exact ⟨g,rfl,hb9,hk9⟩
       ·go_simp
        obtain ⟨Wn,hWn⟩:∃ Wn,Wn=(w1.alloc (.cells (wc (fun _=>0)) 73)).drew:=⟨_,rfl⟩
        have hgB:Blk Wn w1.heap.size (wc (fun _=>0)) 73:=by rw [hWn];exact (Blk.new w1 _ _).below (Ac _ 1)
        obtain ⟨g,hg⟩:∃ g,g=w1.heap.size:=⟨_,rfl⟩
        have hgg:w1.heap.size≤g:=by rw [hg];exact hb.size
        replace hb:Below w1.heap.size w1 Wn:=by rw [hWn];exact AG ((Below.refl _ _).alloc (Aa _) _)
        rw [←hWn]
        clear hWn
        rw [←hg] at hgB ⊢
        clear hg
        refine hK.out _ _ (hC.out _ hb) (fun hHeld=>?_)
        clear hK K
        try simp only [A7,A4,A3,Act.put,A0,A5,A6]
        refine wpAnyH_ready (rs:=[14]) (by kernel_rfl) (by simp) ?_
        refine AllReadyH.cons rfl (fun K hK=>?_) AllReadyH.nil
        go_simp
        go_at_call 109
        with_reducible refine Calls.mono (T1.out _) ?_
        rintro e wx0 ⟨rfl,hbx⟩
        replace hb:=hb.trans (hbx.mono hb.size)
        replace hgB:=hgB.below hbx
        clear hbx
        refine hK.out _ _ (hC.out _ hb) (fun hHeld=>?_)
        clear hK K
        try simp only [A7,A4,A3,Act.put,A0,A5,A6]
        refine wpAnyH_ready (rs:=[29]) (by kernel_rfl) (by simp) ?_
        refine AllReadyH.cons rfl (fun K hK=>?_) AllReadyH.nil
        go_simp
        go_at_call 109
        with_reducible refine Calls.mono (T2.out _) ?_
        rintro e wx1 ⟨rfl,hbx⟩
        replace hb:=hb.trans (hbx.mono hb.size)
        replace hgB:=hgB.below hbx
        clear hbx
        refine hK.out _ _ (hC.out _ hb) (fun hHeld=>?_)
        clear hK K
        try simp only [A7,A4,A3,Act.put,A0,A5,A6]
        refine wpAnyH_ready (rs:=[30]) (by kernel_rfl) (by simp) ?_
        refine AllReadyH.cons rfl (fun K hK=>?_) AllReadyH.nil
        go_simp
        go_at_call 39
        with_reducible refine Calls.mono (MI.out _) ?_
        rintro e wx2 ⟨rfl,hbx⟩
        replace hb:=hb.trans (hbx.mono hb.size)
        replace hgB:=hgB.below hbx
        clear hbx
        refine hK.out _ _ (hC.out _ hb) (fun hHeld=>?_)
        clear hK K
        try simp only [A7,A4,A3,Act.put,A0,A5,A6]
        refine wpAnyH_ready (rs:=[32]) (by kernel_rfl) (by simp) ?_
        refine AllReadyH.cons rfl (fun K hK=>?_) AllReadyH.nil
        rw [if_pos (by rfl)]
        have hth:wx2.there g 0 12:=BL.there (w:=w1) (L:=[(g,wc (fun _=>0),73)]) ⟨hb,fun p hp=>by rcases List.mem_cons.1 hp with rfl | hp;exact hgB;cases hp⟩ g _ 73 (.head _) 12 rfl
        refine wp_store_mid _ _ _ rfl _ _ (List.toArray _) rfl rfl (by rw [List.size_toArray,l3];exact hth) (by rw [List.size_toArray];exact u3) (all_oneCell_toArray o3) ?_
        rw [List.toList_toArray]
        have hb9:Below w1.heap.size w1 (wx2.setCells g 0 c3):=hb.trans ((Ag c3 0 wx2).toBelow hb.size (by intro x hx;rw [List.mem_singleton.1 hx];exact hgg))
        have hk9:Blk (wx2.setCells g 0 c3) g (wc (wd D)) 73:=by rw [e3.out,Cr];exact AY hgB
        refine hK.out _ _ (hC.out _ hb9) (fun hHeld=>?_)
        clear hK K
        try simp only [A7,A4,A3,Act.put]
        refine wpAnyH_done (by kernel_rfl) ?_ _
        go_wp2_with fail
        go_meet
        exact ⟨g,rfl,hb9,hk9⟩
      case rest =>
       clear hC T1 T2 MI hb u3 o3 l3 e3 ua ub uc ud
       rename World=>wx
       obtain ⟨g,rfl,hb2,kD⟩:=hcut
       go_upto_region 10 with fail
       have HX:=H1.out.below hb2
       have hB2:Below w.heap.size w wx:=hB1.trans (hb2.mono hB1.size)
       obtain ⟨q1,-⟩:=HX.bas i him
       obtain ⟨q2,-⟩:=HX.bas r hrm
       have q3:=HX.c2
       rw [BI hmt] at q3
       have NGD:=fun W=>F6 hDw W
       have EQD:=fun (b:Bool) (hb:b=decide (D=0)) W=>AO hDw hb W
       rw [←Aw] at NGD kD
       simp only [←Aw (wd D)] at EQD
       obtain ⟨c3,e3⟩:∃ c,c=wl (wd D):=⟨_,rfl⟩
       rw [←e3] at NGD kD
       simp only [←e3] at EQD
       have u3:(Tryz.prog.info? 73).map (·.size)=some c3.length:=by rw [e3];kernel_rfl
       clear e3
       obtain ⟨bi,hbi⟩:∃ x,x=B i:=⟨_,rfl⟩
       obtain ⟨br,hbr⟩:∃ x,x=B r:=⟨_,rfl⟩
       rw [←hbi] at q1
       rw [←hbr] at q2
       have hbi':=A8 hbi
       have hbr':=A8 hbr
       clear hbi hbr
       have hC:=A8 (show ∀ W',Below wx.heap.size wx W'→(W'.rangeAt g 0 c3∧W'.cell? ⟨t.tb,2,none⟩=some (.slice (some ⟨t.bb,0,none⟩) t.m t.cb)∧W'.cell? ⟨t.bb,i,none⟩=some (.int .i64 bi)∧W'.cell? ⟨t.bb,r,none⟩=some (.int .i64 br)) from fun W' hb=>by
        refine ⟨BL.range (w:=wx) (L:=[(g,c3.toArray,73)]) ⟨hb,fun p hp=>by rcases List.mem_cons.1 hp with rfl | hp;exact kD.below hb;cases hp⟩ g c3 73 (.head _),(hb.cell (p:=⟨_,_,none⟩) HX.lt).trans q3,(hb.cell (p:=⟨_,_,none⟩) (HX.lb hmt)).trans q1,(hb.cell (p:=⟨_,_,none⟩) (HX.lb hmt)).trans q2⟩)
       have HXh:=A8 HX
       clear HX q1 q2 q3 kD
       have hb:=Ac wx 1
       by_cases hneg:D<0
       ·replace NGD:=A8 (show ∀ W,Calls Tryz.prog 76 #[.agg c3.toArray] W (Rets W (.bool true)) from by rwa [show decide (D<0)=true by simp [hneg]] at NGD)
        clear EQD
        have hl2:=A8 (LnM.leaveTo_turn hl.out hpos.out (.inl (by rw [←hla.out,←hD.out];exact hneg)))
        clear hneg
        refine wp_region_held_drew (S:=fun w'=>w'.rangeAt g 0 c3∧w'.cell? ⟨t.tb,2,none⟩=some (.slice (some ⟨t.bb,0,none⟩) t.m t.cb)∧w'.cell? ⟨t.bb,i,none⟩=some (.int .i64 bi)∧w'.cell? ⟨t.bb,r,none⟩=some (.int .i64 br)) (by kernel_rfl) (hC.out _ hb) (fun hHeld=>?_)
        refine tkY 0 (.agg (c3).toArray) rfl (yieldsIf_load_mid (by rfl) _ _ rfl _ _ rfl _ _ (fun w' hw=>hw.1) hu rfl u3) hHeld ?_
        try simp only [A7,A3,Act.put,A0,A5,A6]
        refine wpAnyH_ready (rs:=[1]) (by kernel_rfl) (by simp) ?_
        refine AllReadyH.cons rfl (fun K hK=>?_) AllReadyH.nil
        go_simp
        go_at_call 76
        with_reducible refine Calls.mono (NGD.out _) ?_
        rintro e wy ⟨rfl,hbx⟩
        replace hb:=hb.trans (hbx.mono hb.size)
        clear hbx
        refine hK.out _ _ (hC.out _ hb) (fun hHeld=>?_)
        clear hK K
        try simp only [A7,A4,A3,Act.put,A0,A5,A6]
        refine tkV 2 (.bool true) (fun w' hw=>?_) hHeld ?_
        ·go_simp
        try simp only [A7,A4,A3,Act.put,A0,A5,A6]
        refine tkY 3 (undef) rfl (Or.inr ⟨by rfl,rfl⟩) hHeld ?_
        try simp only [A7,A4,A3,Act.put,A0,A5,A6]
        refine tkY 4 (undef) rfl (Or.inr ⟨by rfl,rfl⟩) hHeld ?_
        try simp only [A7,A4,A3,Act.put,A0,A5,A6]
        refine tkY 5 (undef) rfl (Or.inr ⟨by rfl,rfl⟩) hHeld ?_
        try simp only [A7,A4,A3,Act.put,A0,A5,A6]
        refine tkY 6 (undef) rfl (Or.inr ⟨by rfl,rfl⟩) hHeld ?_
        try simp only [A7,A4,A3,Act.put,A0,A5,A6]
        refine tkY 7 (undef) rfl (Or.inr ⟨by rfl,rfl⟩) hHeld ?_
        try simp only [A7,A4,A3,Act.put,A0,A5,A6]
        refine tkY 8 (undef) rfl (Or.inr ⟨by rfl,rfl⟩) hHeld ?_
        try simp only [A7,A4,A3,Act.put,A0,A5,A6]
        refine tkY 9 (undef) rfl (Or.inr ⟨by rfl,rfl⟩) hHeld ?_
        try simp only [A7,A4,A3,Act.put,A0,A5,A6]
        refine tkY 10 (undef) rfl (Or.inr ⟨by rfl,rfl⟩) hHeld ?_
        try simp only [A7,A4,A3,Act.put,A0,A5,A6]
        refine tkY 11 (undef) rfl (Or.inr ⟨by rfl,rfl⟩) hHeld ?_
        try simp only [A7,A4,A3,Act.put,A0,A5,A6]
        refine tkY 12 (undef) rfl (Or.inr ⟨by rfl,rfl⟩) hHeld ?_
        try simp only [A7,A4,A3,Act.put,A0,A5,A6]
        refine tkY 13 (undef) rfl (Or.inr ⟨by rfl,rfl⟩) hHeld ?_
        try simp only [A7,A4,A3,Act.put,A0,A5,A6]
        refine tkY 14 (undef) rfl (Or.inr ⟨by rfl,rfl⟩) hHeld ?_
        try simp only [A7,A4,A3,Act.put,A0,A5,A6]
        refine tkY 15 (undef) rfl (Or.inr ⟨by rfl,rfl⟩) hHeld ?_
        try simp only [A7,A4,A3,Act.put,A0,A5,A6]
        refine tkY 16 (undef) rfl (Or.inr ⟨by rfl,rfl⟩) hHeld ?_
        try simp only [A7,A4,A3,Act.put,A0,A5,A6]
        refine tkY 17 (undef) rfl (Or.inr ⟨by rfl,rfl⟩) hHeld ?_
        try simp only [A7,A4,A3,Act.put,A0,A5,A6]
        refine tkY 18 (undef) rfl (Or.inr ⟨by rfl,rfl⟩) hHeld ?_
        try simp only [A7,A4,A3,Act.put,A0,A5,A6]
        refine tkY 19 (undef) rfl (Or.inr ⟨by rfl,rfl⟩) hHeld ?_
        try simp only [A7,A4,A3,Act.put,A0,A5,A6]
        refine tkY 20 (undef) rfl (Or.inr ⟨by rfl,rfl⟩) hHeld ?_
        try simp only [A7,A4,A3,Act.put,A0,A5,A6]
        refine tkY 21 (undef) rfl (Or.inr ⟨by rfl,rfl⟩) hHeld ?_
        try simp only [A7,A4,A3,Act.put,A0,A5,A6]
        refine tkY 22 (undef) rfl (Or.inr ⟨by rfl,rfl⟩) hHeld ?_
        try simp only [A7,A4,A3,Act.put,A0,A5,A6]
        refine tkV 23 (.bool true) (fun w' hw=>?_) hHeld ?_
        ·go_simp
        try simp only [A7,A4,A3,Act.put,A0,A5,A6]
        refine wpAnyH_done (by kernel_rfl) ?_ _
        have hBy:Below w.heap.size w wy:=hB2.trans (hb.mono hB2.size)
        clear hb hHeld
        go_wp2_with fail
        go_roundw
        case rel=>exact ⟨i+1,by go_num,by omega,hBy,.inr ⟨i,rfl,hl2⟩⟩
        case measure=>simp [intOf];omega
       ·replace NGD:=A8 (show ∀ W,Calls Tryz.prog 76 #[.agg c3.toArray] W (Rets W (.bool false)) from by rwa [show decide (D<0)=false by simp;omega] at NGD)
        by_cases hzero:D=0
        ·replace EQD:=EQD true (by simp [hzero])
         dsimp only [wc] at EQD
         by_cases hless:bi<br
         ·have hl2:=A8 (LnM.leaveTo_turn hl.out hpos.out (.inr ⟨by rw [←hla.out,←hD.out];exact hzero,by rw [←hbi'.out,←hbr'.out];exact hless⟩))
          have hless':(bi:Int)<br:=by omega
          clear hzero hneg hless
          refine wp_region_held_drew (S:=fun w'=>w'.rangeAt g 0 c3∧w'.cell? ⟨t.tb,2,none⟩=some (.slice (some ⟨t.bb,0,none⟩) t.m t.cb)∧w'.cell? ⟨t.bb,i,none⟩=some (.int .i64 bi)∧w'.cell? ⟨t.bb,r,none⟩=some (.int .i64 br)) (by kernel_rfl) (hC.out _ hb) (fun hHeld=>?_)
          refine tkY 0 (.agg (c3).toArray) rfl (yieldsIf_load_mid (by rfl) _ _ rfl _ _ rfl _ _ (fun w' hw=>hw.1) hu rfl u3) hHeld ?_
          try simp only [A7,A3,Act.put,A0,A5,A6]
          refine wpAnyH_ready (rs:=[1]) (by kernel_rfl) (by simp) ?_
          refine AllReadyH.cons rfl (fun K hK=>?_) AllReadyH.nil
          go_simp
          go_at_call 76
          with_reducible refine Calls.mono (NGD.out _) ?_
          rintro e wy ⟨rfl,hbx⟩
          replace hb:=hb.trans (hbx.mono hb.size)
          clear hbx
          refine hK.out _ _ (hC.out _ hb) (fun hHeld=>?_)
          clear hK K
          try simp only [A7,A4,A3,Act.put,A0,A5,A6]
          refine tkV 2 (.bool false) (fun w' hw=>?_) hHeld ?_
          ·go_simp
          try simp only [A7,A4,A3,Act.put,A0,A5,A6]
          refine tkY 3 (.agg (c3).toArray) rfl (yieldsIf_load_mid (by rfl) _ _ rfl _ _ rfl _ _ (fun w' hw=>hw.1) hu rfl u3) hHeld ?_
          try simp only [A7,A4,A3,Act.put,A0,A5,A6]
          refine tkV 4 (.agg (wc (fun _=>0))) (fun w' hw=>?_) hHeld ?_
          ·go_simp
          try simp only [A7,A4,A3,Act.put,A0,A5,A6]
          refine tkV 5 (.bool true) (fun w' hw=>?_) hHeld ?_
          ·go_simp
          try simp only [A7,A4,A3,Act.put,A0,A5,A6]
          refine tkV 6 (.bool true) (fun w' hw=>?_) hHeld ?_
          ·go_simp
          try simp only [A7,A4,A3,Act.put,A0,A5,A6]
          refine tkV 7 (.pointer (some ⟨t.tb,0,none⟩)) (fun w' hw=>?_) hHeld ?_
          ·go_simp
          try simp only [A7,A4,A3,Act.put,A0,A5,A6]
          refine tkV 8 (.pointer (some ⟨t.tb,0,none⟩)) (fun w' hw=>?_) hHeld ?_
          ·go_simp
          try simp only [A7,A4,A3,Act.put,A0,A5,A6]
          refine tkV 9 (.pointer (some ⟨t.tb,2,none⟩)) (fun w' hw=>?_) hHeld ?_
          ·go_simp
          try simp only [A7,A4,A3,Act.put,A0,A5,A6]
          refine tkV 10 (.slice (some ⟨t.bb,0,none⟩) t.m t.cb) (fun w' hw=>?_) hHeld ?_
          ·go_simp
          try simp only [A7,A4,A3,Act.put,A0,A5,A6]
          refine tkV 11 (.int .i64 i) (fun w' hw=>?_) hHeld ?_
          ·go_simp
          try simp only [A7,A4,A3,Act.put,A0,A5,A6]
          refine tkV 12 (.pointer (some ⟨t.bb,i,none⟩)) (fun w' hw=>?_) hHeld ?_
          ·go_simp
          try simp only [A7,A4,A3,Act.put,A0,A5,A6]
          refine tkV 13 (.int .i64 bi) (fun w' hw=>?_) hHeld ?_
          ·go_simp
          try simp only [A7,A4,A3,Act.put,A0,A5,A6]
          refine tkV 14 (.pointer (some ⟨t.tb,0,none⟩)) (fun w' hw=>?_) hHeld ?_
          ·go_simp
          try simp only [A7,A4,A3,Act.put,A0,A5,A6]
          refine tkV 15 (.pointer (some ⟨t.tb,0,none⟩)) (fun w' hw=>?_) hHeld ?_
          ·go_simp
          try simp only [A7,A4,A3,Act.put,A0,A5,A6]
          refine tkV 16 (.pointer (some ⟨t.tb,2,none⟩)) (fun w' hw=>?_) hHeld ?_
          ·go_simp
          try simp only [A7,A4,A3,Act.put,A0,A5,A6]
          refine tkV 17 (.slice (some ⟨t.bb,0,none⟩) t.m t.cb) (fun w' hw=>?_) hHeld ?_
          ·go_simp
          try simp only [A7,A4,A3,Act.put,A0,A5,A6]
          refine tkV 18 (.int .i64 r) (fun w' hw=>?_) hHeld ?_
          ·go_simp
          try simp only [A7,A4,A3,Act.put,A0,A5,A6]
          refine tkV 19 (.pointer (some ⟨t.bb,r,none⟩)) (fun w' hw=>?_) hHeld ?_
          ·go_simp
          try simp only [A7,A4,A3,Act.put,A0,A5,A6]
          refine tkV 20 (.int .i64 br) (fun w' hw=>?_) hHeld ?_
          ·go_simp
          try simp only [A7,A4,A3,Act.put,A0,A5,A6]
          refine tkV 21 (.bool true) (fun w' hw=>?_) hHeld ?_
          ·go_simp
          try simp only [A7,A4,A3,Act.put,A0,A5,A6]
          refine tkV 22 (.bool true) (fun w' hw=>?_) hHeld ?_
          ·go_simp
          try simp only [A7,A4,A3,Act.put,A0,A5,A6]
          refine tkV 23 (.bool true) (fun w' hw=>?_) hHeld ?_
          ·go_simp
          try simp only [A7,A4,A3,Act.put,A0,A5,A6]
          refine wpAnyH_done (by kernel_rfl) ?_ _
          have hBy:Below w.heap.size w wy:=hB2.trans (hb.mono hB2.size)
          clear hb hHeld
          go_wp2_with fail
          go_roundw
          case rel=>exact ⟨i+1,by go_num,by omega,hBy,.inr ⟨i,rfl,hl2⟩⟩
          case measure=>simp [intOf];omega
         ·have hl2:=A8 (LnM.leaveTo_keep hl.out (by rw [←hla.out,←hD.out];omega) (fun _=>by rw [←hbi'.out,←hbr'.out];omega))
          have hless':¬ (bi:Int)<br:=by omega
          clear hzero hneg hless
          refine wp_region_held_drew (S:=fun w'=>w'.rangeAt g 0 c3∧w'.cell? ⟨t.tb,2,none⟩=some (.slice (some ⟨t.bb,0,none⟩) t.m t.cb)∧w'.cell? ⟨t.bb,i,none⟩=some (.int .i64 bi)∧w'.cell? ⟨t.bb,r,none⟩=some (.int .i64 br)) (by kernel_rfl) (hC.out _ hb) (fun hHeld=>?_)
          refine tkY 0 (.agg (c3).toArray) rfl (yieldsIf_load_mid (by rfl) _ _ rfl _ _ rfl _ _ (fun w' hw=>hw.1) hu rfl u3) hHeld ?_
          try simp only [A7,A3,Act.put,A0,A5,A6]
          refine wpAnyH_ready (rs:=[1]) (by kernel_rfl) (by simp) ?_
          refine AllReadyH.cons rfl (fun K hK=>?_) AllReadyH.nil
          go_simp
          go_at_call 76
          with_reducible refine Calls.mono (NGD.out _) ?_
          rintro e wy ⟨rfl,hbx⟩
          replace hb:=hb.trans (hbx.mono hb.size)
          clear hbx
          refine hK.out _ _ (hC.out _ hb) (fun hHeld=>?_)
          clear hK K
          try simp only [A7,A4,A3,Act.put,A0,A5,A6]
          refine tkV 2 (.bool false) (fun w' hw=>?_) hHeld ?_
          ·go_simp
          try simp only [A7,A4,A3,Act.put,A0,A5,A6]
          refine tkY 3 (.agg (c3).toArray) rfl (yieldsIf_load_mid (by rfl) _ _ rfl _ _ rfl _ _ (fun w' hw=>hw.1) hu rfl u3) hHeld ?_
          try simp only [A7,A4,A3,Act.put,A0,A5,A6]
          refine tkV 4 (.agg (wc (fun _=>0))) (fun w' hw=>?_) hHeld ?_
          ·go_simp
          try simp only [A7,A4,A3,Act.put,A0,A5,A6]
          refine tkV 5 (.bool true) (fun w' hw=>?_) hHeld ?_
          ·go_simp
          try simp only [A7,A4,A3,Act.put,A0,A5,A6]
          refine tkV 6 (.bool true) (fun w' hw=>?_) hHeld ?_
          ·go_simp
          try simp only [A7,A4,A3,Act.put,A0,A5,A6]
          refine tkV 7 (.pointer (some ⟨t.tb,0,none⟩)) (fun w' hw=>?_) hHeld ?_
          ·go_simp
          try simp only [A7,A4,A3,Act.put,A0,A5,A6]
          refine tkV 8 (.pointer (some ⟨t.tb,0,none⟩)) (fun w' hw=>?_) hHeld ?_
          ·go_simp
          try simp only [A7,A4,A3,Act.put,A0,A5,A6]
          refine tkV 9 (.pointer (some ⟨t.tb,2,none⟩)) (fun w' hw=>?_) hHeld ?_
          ·go_simp
          try simp only [A7,A4,A3,Act.put,A0,A5,A6]
          refine tkV 10 (.slice (some ⟨t.bb,0,none⟩) t.m t.cb) (fun w' hw=>?_) hHeld ?_
          ·go_simp
          try simp only [A7,A4,A3,Act.put,A0,A5,A6]
          refine tkV 11 (.int .i64 i) (fun w' hw=>?_) hHeld ?_
          ·go_simp
          try simp only [A7,A4,A3,Act.put,A0,A5,A6]
          refine tkV 12 (.pointer (some ⟨t.bb,i,none⟩)) (fun w' hw=>?_) hHeld ?_
          ·go_simp
          try simp only [A7,A4,A3,Act.put,A0,A5,A6]
          refine tkV 13 (.int .i64 bi) (fun w' hw=>?_) hHeld ?_
          ·go_simp
          try simp only [A7,A4,A3,Act.put,A0,A5,A6]
          refine tkV 14 (.pointer (some ⟨t.tb,0,none⟩)) (fun w' hw=>?_) hHeld ?_
          ·go_simp
          try simp only [A7,A4,A3,Act.put,A0,A5,A6]
          refine tkV 15 (.pointer (some ⟨t.tb,0,none⟩)) (fun w' hw=>?_) hHeld ?_
          ·go_simp
          try simp only [A7,A4,A3,Act.put,A0,A5,A6]
          refine tkV 16 (.pointer (some ⟨t.tb,2,none⟩)) (fun w' hw=>?_) hHeld ?_
          ·go_simp
          try simp only [A7,A4,A3,Act.put,A0,A5,A6]
          refine tkV 17 (.slice (some ⟨t.bb,0,none⟩) t.m t.cb) (fun w' hw=>?_) hHeld ?_
          ·go_simp
          try simp only [A7,A4,A3,Act.put,A0,A5,A6]
          refine tkV 18 (.int .i64 r) (fun w' hw=>?_) hHeld ?_
          ·go_simp
          try simp only [A7,A4,A3,Act.put,A0,A5,A6]
          refine tkV 19 (.pointer (some ⟨t.bb,r,none⟩)) (fun w' hw=>?_) hHeld ?_
          ·go_simp
          try simp only [A7,A4,A3,Act.put,A0,A5,A6]
          refine tkV 20 (.int .i64 br) (fun w' hw=>?_) hHeld ?_
          ·go_simp
          try simp only [A7,A4,A3,Act.put,A0,A5,A6]
          refine tkV 21 (.bool false) (fun w' hw=>?_) hHeld ?_
          ·go_simp
          try simp only [A7,A4,A3,Act.put,A0,A5,A6]
          refine tkV 22 (.bool false) (fun w' hw=>?_) hHeld ?_
          ·go_simp
          try simp only [A7,A4,A3,Act.put,A0,A5,A6]
          refine tkV 23 (.bool false) (fun w' hw=>?_) hHeld ?_
          ·go_simp
          try simp only [A7,A4,A3,Act.put,A0,A5,A6]
          refine wpAnyH_done (by kernel_rfl) ?_ _
          have hBy:Below w.heap.size w wy:=hB2.trans (hb.mono hB2.size)
          clear hb hHeld
          go_wp2_with fail
          go_roundw
          case rel=>exact ⟨i+1,by go_num,by omega,hBy,.inr ⟨r,rfl,hl2⟩⟩
          case measure=>simp [intOf];omega
        ·replace EQD:=EQD false (by simp [hzero])
         dsimp only [wc] at EQD
         have hl2:=A8 (LnM.leaveTo_keep hl.out (by rw [←hla.out,←hD.out];omega) (fun h=>by rw [←hla.out,←hD.out] at h;exact absurd h hzero))
         clear hzero hneg
         refine wp_region_held_drew (S:=fun w'=>w'.rangeAt g 0 c3∧w'.cell? ⟨t.tb,2,none⟩=some (.slice (some ⟨t.bb,0,none⟩) t.m t.cb)∧w'.cell? ⟨t.bb,i,none⟩=some (.int .i64 bi)∧w'.cell? ⟨t.bb,r,none⟩=some (.int .i64 br)) (by kernel_rfl) (hC.out _ hb) (fun hHeld=>?_)
         refine tkY 0 (.agg (c3).toArray) rfl (yieldsIf_load_mid (by rfl) _ _ rfl _ _ rfl _ _ (fun w' hw=>hw.1) hu rfl u3) hHeld ?_
         try simp only [A7,A3,Act.put,A0,A5,A6]
         refine wpAnyH_ready (rs:=[1]) (by kernel_rfl) (by simp) ?_
         refine AllReadyH.cons rfl (fun K hK=>?_) AllReadyH.nil
         go_simp
         go_at_call 76
         with_reducible refine Calls.mono (NGD.out _) ?_
         rintro e wy ⟨rfl,hbx⟩
         replace hb:=hb.trans (hbx.mono hb.size)
         clear hbx
         refine hK.out _ _ (hC.out _ hb) (fun hHeld=>?_)
         clear hK K
         try simp only [A7,A4,A3,Act.put,A0,A5,A6]
         refine tkV 2 (.bool false) (fun w' hw=>?_) hHeld ?_
         ·go_simp
         try simp only [A7,A4,A3,Act.put,A0,A5,A6]
         refine tkY 3 (.agg (c3).toArray) rfl (yieldsIf_load_mid (by rfl) _ _ rfl _ _ rfl _ _ (fun w' hw=>hw.1) hu rfl u3) hHeld ?_
         try simp only [A7,A4,A3,Act.put,A0,A5,A6]
         refine tkV 4 (.agg (wc (fun _=>0))) (fun w' hw=>?_) hHeld ?_
         ·go_simp
         try simp only [A7,A4,A3,Act.put,A0,A5,A6]
         refine tkV 5 (.bool false) (fun w' hw=>?_) hHeld ?_
         ·go_simp
         try simp only [A7,A4,A3,Act.put,A0,A5,A6]
         refine tkV 6 (.bool false) (fun w' hw=>?_) hHeld ?_
         ·go_simp
         try simp only [A7,A4,A3,Act.put,A0,A5,A6]
         refine tkY 7 (undef) rfl (Or.inr ⟨by rfl,rfl⟩) hHeld ?_
         try simp only [A7,A4,A3,Act.put,A0,A5,A6]
         refine tkY 8 (undef) rfl (Or.inr ⟨by rfl,rfl⟩) hHeld ?_
         try simp only [A7,A4,A3,Act.put,A0,A5,A6]
         refine tkY 9 (undef) rfl (Or.inr ⟨by rfl,rfl⟩) hHeld ?_
         try simp only [A7,A4,A3,Act.put,A0,A5,A6]
         refine tkY 10 (undef) rfl (Or.inr ⟨by rfl,rfl⟩) hHeld ?_
         try simp only [A7,A4,A3,Act.put,A0,A5,A6]
         refine tkY 11 (undef) rfl (Or.inr ⟨by rfl,rfl⟩) hHeld ?_
         try simp only [A7,A4,A3,Act.put,A0,A5,A6]
         refine tkY 12 (undef) rfl (Or.inr ⟨by rfl,rfl⟩) hHeld ?_
         try simp only [A7,A4,A3,Act.put,A0,A5,A6]
         refine tkY 13 (undef) rfl (Or.inr ⟨by rfl,rfl⟩) hHeld ?_
         try simp only [A7,A4,A3,Act.put,A0,A5,A6]
         refine tkY 14 (undef) rfl (Or.inr ⟨by rfl,rfl⟩) hHeld ?_
         try simp only [A7,A4,A3,Act.put,A0,A5,A6]
         refine tkY 15 (undef) rfl (Or.inr ⟨by rfl,rfl⟩) hHeld ?_
         try simp only [A7,A4,A3,Act.put,A0,A5,A6]
         refine tkY 16 (undef) rfl (Or.inr ⟨by rfl,rfl⟩) hHeld ?_
         try simp only [A7,A4,A3,Act.put,A0,A5,A6]
         refine tkY 17 (undef) rfl (Or.inr ⟨by rfl,rfl⟩) hHeld ?_
         try simp only [A7,A4,A3,Act.put,A0,A5,A6]
         refine tkY 18 (undef) rfl (Or.inr ⟨by rfl,rfl⟩) hHeld ?_
         try simp only [A7,A4,A3,Act.put,A0,A5,A6]
         refine tkY 19 (undef) rfl (Or.inr ⟨by rfl,rfl⟩) hHeld ?_
         try simp only [A7,A4,A3,Act.put,A0,A5,A6]
         refine tkY 20 (undef) rfl (Or.inr ⟨by rfl,rfl⟩) hHeld ?_
         try simp only [A7,A4,A3,Act.put,A0,A5,A6]
         refine tkY 21 (undef) rfl (Or.inr ⟨by rfl,rfl⟩) hHeld ?_
         try simp only [A7,A4,A3,Act.put,A0,A5,A6]
         refine tkV 22 (.bool false) (fun w' hw=>?_) hHeld ?_
         ·go_simp
         try simp only [A7,A4,A3,Act.put,A0,A5,A6]
         refine tkV 23 (.bool false) (fun w' hw=>?_) hHeld ?_
         ·go_simp
         try simp only [A7,A4,A3,Act.put,A0,A5,A6]
         refine wpAnyH_done (by kernel_rfl) ?_ _
         have hBy:Below w.heap.size w wy:=hB2.trans (hb.mono hB2.size)
         clear hb hHeld
         go_wp2_with fail
         go_roundw
         case rel=>exact ⟨i+1,by go_num,by omega,hBy,.inr ⟨r,rfl,hl2⟩⟩
         case measure=>simp [intOf];omega
  ·obtain rfl:i=t.m:=by omega
   have him':¬ (t.m:Int)<t.m:=by omega
   rcases hbest with ⟨rfl,hn⟩ | ⟨r,rfl,hl⟩
   ·go_wp2
    go_ret
    exact ⟨⟨-1,rfl,.inl ⟨rfl,fun j hj=>hn.out j (by have:=hm.out;omega)⟩⟩,hB⟩
   ·go_wp2
    go_ret
    exact ⟨⟨r,rfl,.inr ⟨r,rfl,by rw [←hm.out];exact hl.out⟩⟩,hB⟩
end
end Go.Proofs.YtcmomjnailihpaaGreatDoor
