/- MdC, Hid, SnC, Vec, SvL, OrE, Stay, LnOpen, VcOpen -/
import Derived.Test.YtcmomjnailihpaaGreatDoorURgK
import Derived.Deep.DeepCutAuto
import Derived.OpenShut
import Derived.ChangeStays
import Derived.ChangeBook
import Derived.ChangeOld
import Derived.ChangeShapes
import Derived.Lib.SmallJoins
import Derived.Laws.IdiomArrays
import Derived.Deep.Strs
set_option maxHeartbeats 8000000
set_option maxRecDepth 100000
namespace Go.Proofs.YtcmomjnailihpaaGreatDoor
section
open Go.RowKit
attribute [local go_sem] Oper.semAt_some
theorem made_l0 {Q:Exit→Act→World→Prop} {u0 u2 u6 u7 u8 u9 u10 u11 u12 u13 u14 u15 u16 u17 u18 u19 u20 u21 u22 u23 u24 u25 u26 u27 u28 u29 u30 u31 u32 u33 u34 u35 u36 u37 u38 u39 u40 u41 u42 u43 u44 u45 u46 u47 u48 u49 u50 u51 u52 u53 u54 u55 u56 u57 u58 u59 u60 u61 u62 u63 u64 u65 u66 u67 u68 u69 u70 u71 u72 u73 u74 u75 u76 u77 u78 u79 u80 u81 u82 u83 u84:Value} {x:NumL} {bN bS r c:Nat} {ac ah:Option Addr} {nc cc nh ch:Nat} {w W0:World} {L:BLs} {R:List RowD} (hc:Hid (c=x.c)) (hr:Hid (r=x.r)) (hN:Hid ((bN,#[.int .i64 x.cols,.int .i64 x.rows,.slice ac nc cc,.slice ah nh ch,.int .i64 x.miss],24)∈L))
  (AC:Hid (∀ W,Below w.heap.size w W→∀ k:Nat,Calls Tryz.prog 36 #[.slice ac nc cc,.int .i64 k] W (Rets W (.int .i64 (atv x.coefs k))))) (AH:Hid (∀ W,Below w.heap.size w W→∀ k:Nat,Calls Tryz.prog 36 #[.slice ah nh ch,.int .i64 k] W (Rets W (.int .i64 (atv x.hidden k))))) (hf:Hid (∀ k,Fits (atv x.coefs k)∧Fits (atv x.hidden k))) (hm:Hid (Fits x.miss)) (h0:Hid (Mem w ((bS,#[.int .i64 c,.slice none 0 0],27) :: L) R W0)) {body:Code} (hbody:getLoop Tryz.f11.body 0=some body)
  (hQ:∀ (fs:BLs) (sv:Value) (xs:List Value) (v5 v6 v7 v8 v18 v19 v20 v21 v22 v23 v24 v25 v26 v27 v28 v29 v30 v31 v32 v33 v34 v35 v36 v37 v38 v39 v40 v41 v42 v43 v44 v45 v46 v47 v48 v49 v50 v51 v52 v53 v54 v55 v56 v57 v58 v59 v60 v61 v62 v63 v64 v65 v66 v67 v68 v69 v70 v71 v72 v73 v74 v75 v76 v77 v78 v79 v80 v81 v82 v83:Value) (W':World),Hid (Mem w ((bS,#[.int .i64 c,sv],27) :: (fs++L)) (⟨60,2,sv,r,xs⟩ :: R) W'∧EqsAt fs ((List.range r).map x.row) xs)→Q (.exit 0) { tmps:=List.toArray (u0::.pointer (some ⟨bN,0,none⟩)::u2::.pointer (some ⟨bS,0,none⟩)::.int .i64 r::v5::v6::v7::v8::u9::u10::u11::u12::u13::u14::u15::u16::u17::v18::v19::v20::v21::v22::v23::v24::v25::v26::v27::v28::v29::v30::v31::v32::v33::v34::v35::v36::v37::v38::v39::v40::v41::v42::v43::v44::v45::v46::v47::v48::v49::v50::v51::v52::v53::v54::v55::v56::v57::v58::v59::v60::v61::v62::v63::v64::v65::v66::v67::v68::v69::v70::v71::v72::v73::v74::v75::v76::v77::v78::v79::v80::v81::v82::v83::u84::[]),defers:=[] } W') :
  (Code.loop body).wp Tryz.prog Q { tmps:=List.toArray (u0::.pointer (some ⟨bN,0,none⟩)::u2::.pointer (some ⟨bS,0,none⟩)::.int .i64 r::.int .i64 0::u6::u7::u8::u9::u10::u11::u12::u13::u14::u15::u16::u17::u18::u19::u20::u21::u22::u23::u24::u25::u26::u27::u28::u29::u30::u31::u32::u33::u34::u35::u36::u37::u38::u39::u40::u41::u42::u43::u44::u45::u46::u47::u48::u49::u50::u51::u52::u53::u54::u55::u56::u57::u58::u59::u60::u61::u62::u63::u64::u65::u66::u67::u68::u69::u70::u71::u72::u73::u74::u75::u76::u77::u78::u79::u80::u81::u82::u83::u84::[]),defers:=[] } W0:=by
 obtain rfl:=Option.some.inj (hbody.symm.trans (rfl:getLoop Tryz.f11.body 0=some _))
 clear hbody
 replace hQ:=A8 hQ
 go_loopw [5] (fun s wr=>∃ (i:Nat) (fs:BLs) (sv:Value) (xs:List Value),s=.int .i64 i∧i≤r∧Hid (Mem w ((bS,#[.int .i64 c,sv],27) :: (fs++L)) (⟨60,2,sv,i,xs⟩ :: R) wr∧EqsAt fs ((List.range i).map x.row) xs)) (fun s _=>r-(intOf s).toNat)
 case atStart=>exact ⟨0,[],.slice none 0 0,[],rfl,by omega,A8 ⟨h0.out.row0 60 2,EqsAt.nil _⟩⟩
 case round =>
  clear h0
  obtain ⟨i,fs,sv,xs,rfl,hi,hM⟩:=hrel
  by_cases hir:i<r
  case neg =>
   have hir':¬ (i:Int)<r:=by omega
   obtain rfl:i=r:=by omega
   go_wp2_with fail
   exact hQ.out fs sv xs _ _ _ _ _ _ _ _ _ _ _ _ _ _ _ _ _ _ _ _ _ _ _ _ _ _ _ _ _ _ _ _ _ _ _ _ _ _ _ _ _ _ _ _ _ _ _ _ _ _ _ _ _ _ _ _ _ _ _ _ _ _ _ _ _ _ _ _ _ _ _ hM
  case pos =>
   have hir':(i:Int)<r:=by omega
   obtain ⟨W1,eW,hM1,hB⟩:=hM.out.1.add' #[.slice none 0 0,.int .i64 0] 60
   have hE:=A8 hM.out.2
   obtain ⟨B,eB⟩:∃ B,B=wr.heap.size:=⟨_,rfl⟩
   rw [←eB] at hM1 hB
   go_upto_region 7 with fail
   rw [←eW,←eB]
   replace hM1:=A8 hM1
   clear hM eW hB eB
   go_wp2_with fail
   refine made_l2 (x:=x) (bN:=bN) (bS:=bS) (bE:=B) (i:=i) (c:=c) (cv:=.slice ac nc cc) (hv:=.slice ah nh ch) (w:=w) (L:=(bS,#[.int .i64 c,sv],27) :: (fs++L)) (R:=⟨60,2,sv,i,xs⟩ :: R) hc (A8 (by have:=x.r_eq;have:=hr.out;omega)) (A8 fun W hW=>⟨hW.cell _ _ _ (List.mem_cons_of_mem _ (List.mem_append_right _ hN.out)) 2,hW.cell _ _ _ (List.mem_cons_of_mem _ (List.mem_append_right _ hN.out)) 3⟩) (A8 fun W hW=>hW.cell _ _ _ List.mem_cons_self 0) (A8 fun W hW k=>AC.out W hW.below k) (A8 fun W hW k=>AH.out W hW.below k) hf hM1 (by kernel_rfl) ?_
   intro vf u7 u8 u24 u25 u26 u27 u28 u29 u30 u31 u32 u33 u34 u35 u36 u37 u38 u39 u40 u41 u42 u43 u44 u45 u46 u47 u48 u49 u50 u51 u52 u53 u54 u55 u56 u57 W2 hM2
   clear hM1
   have hxs:((List.range c).map fun k=>Value.int .i64 (x.coef i k))=((List.range c).map (x.coef i)).map (Value.int .i64):=by rw [List.map_map];rfl
   rw [hxs] at hM2
   clear hxs
   have hlen:((List.range c).map (x.coef i)).length=c:=by simp
   obtain ⟨gs,hin,hM3⟩:=hM2.out.freezeI (l:=(List.range c).map (x.coef i)) hlen.symm
   obtain ⟨av,cp,rfl⟩:=hin.shape
   rw [hlen] at hin hM3 hM2
   clear hM2 hlen
   replace hin:=A8 hin
   have hM3:=A8 hM3
   have hrb:=x.r_eq
   have hrr:=hr.out
   have hi5:i≤5:=by omega
   have hr5:r≤5:=by omega
   replace hrr:=A8 hrr
   clear hrb
   have hre:Hid ((List.range (i+1)).map x.row=(List.range i).map x.row++[((List.range c).map (x.coef i),x.val i)]):=A8 (by rw [List.range_succ,List.map_append,hc.out];rfl)
   have hval:Hid (x.val i=if x.hit i then x.sum i c+pkv (x.miss.tdiv 30) 41-20 else x.sum i c):=A8 (by unfold NumL.val;rw [hc.out])
   have hsb:=x.sum_small i (k:=c) (by have:=x.c_eq;have:=hc.out;omega)
   have hmb:=hm.out
   unfold Fits at hmb
   have hmem:Hid (∀ V,(bN,#[.int .i64 x.cols,.int .i64 x.rows,.slice ac nc cc,.slice ah nh ch,.int .i64 x.miss],24)∈(gs++(B,#[.slice av c cp,.int .i64 V],60) :: (bS,#[.int .i64 c,sv],27) :: (fs++L):BLs)):=A8 (fun V=>List.mem_append_right _ (List.mem_cons_of_mem _ (List.mem_cons_of_mem _ (List.mem_append_right _ hN.out))))
   generalize x.sum i c=s0 at *
   have z0:=hM3.out.cell _ _ _ (hmem.out _) 0
   have z1:=hM3.out.cell _ _ _ (hmem.out _) 1
   have z2:=hM3.out.cell _ _ _ (hmem.out _) 2
   have z3:=hM3.out.cell _ _ _ (hmem.out _) 3
   have z4:=hM3.out.cell _ _ _ (hmem.out _) 4
   have MS:=A8 (fun W=>ES x.cols x.rows x.miss (.slice ac nc cc) (.slice ah nh ch) _ _ _ _ _ _ rfl rfl hm.out W)
   have hmd:Fits (x.miss.tdiv 3):=(tdivL3 hm.out).1
   have hmd2:Fits (x.miss.tdiv 30):=(tdivL30 hm.out).1
   have hq1:IntKind.i64.wrap (x.miss.tdiv 3)=x.miss.tdiv 3:=(tdivL3 hm.out).2
   have hq2:IntKind.i64.wrap (x.miss.tdiv 30)=x.miss.tdiv 30:=(tdivL30 hm.out).2
   cases hmis:pkv x.miss 3==2
   case false =>
    have hv:Hid (x.val i=s0):=A8 (by rw [hval.out];unfold NumL.hit NumL.misses;rw [hmis];rfl)
    rw [hmis] at MS
    clear hmis hval
    go_wp2_with fail
    refine Calls.mono (MS.out _) ?_
    rintro e w3 ⟨rfl,hb⟩
    have hM3:=A8 (hM3.out.call hb)
    clear hb z0 z1 z2 z3 z4 hq1 hq2 hmd hmd2
    have hM6:=A8 (hM3.out.front2)
    have y0:=(hM3.out.cell _ _ _ (List.mem_append_right _ List.mem_cons_self) 0).trans (show _=some (Value.slice av c cp) from rfl)
    have y1:=(hM3.out.cell _ _ _ (List.mem_append_right _ List.mem_cons_self) 1).trans (show _=some (Value.int .i64 (s0)) from rfl)
    have y2:=(hM6.out.cell _ _ _ List.mem_cons_self 1).trans (show _=some sv from rfl)
    clear hM3
    go_upto_region 5 with (at_builtin;refine Ch rfl rfl (hM6.out.new _) rfl rfl ((Blk.new _ _ _).cell 0) ((Blk.new _ _ _).cell 1) rfl rfl (by omega) ?_;intro g2 c2 W8 hM8;have q0:=hM8.cell bS _ _ (.head _) 1;have q1:=hM8.frozen bS _ _ (.head _) 1;replace hM8:=hM8.put0 1 (.slice (some ⟨g2,0,none⟩) (i+1) c2))
    go_wp2_with fail
    go_roundw
    case rel=>exact ⟨i+1,gs++fs,_,_,by go_num,by omega,A8 ⟨by rw [List.append_assoc];assumption,by rw [hre.out,hv.out];exact hE.out.snoc (hin.out.mono (fun p hp=>List.mem_append_left _ hp)) (fun p hp=>List.mem_append_right _ hp)⟩⟩
    case measure=>simp [intOf];omega
   case true =>
    have P3:=A8 (fun W=>Au (x.miss.tdiv 3) r hmd (by omega) (by omega) W)
    have P4:=A8 (fun W=>Au (x.miss.tdiv 30) 41 hmd2 (by decide) (by decide) W)
    have hp1:=Av (c:=x.miss.tdiv 30) (m:=41) (by decide)
    have hp2:=BF (c:=x.miss.tdiv 30) (m:=41) (by decide)
    have hhit:Hid (x.hit i=((i:Int)==pkv (x.miss.tdiv 3) r)):=A8 (by unfold NumL.hit NumL.misses;rw [hmis,hrr.out];rfl)
    rw [hmis] at MS
    clear hmis
    generalize pkv (x.miss.tdiv 3) r=p3 at *
    generalize pkv (x.miss.tdiv 30) 41=p4 at *
    go_wp2_with fail
    refine Calls.mono (MS.out _) ?_
    rintro e w3 ⟨rfl,hb⟩
    have hM3:=A8 (hM3.out.call hb)
    clear hb z0 z1 z2 z3 z4
    have z4:=hM3.out.cell _ _ _ (hmem.out _) 4
    go_wp2_with fail
    refine Calls.mono (P3.out _) ?_
    rintro e w4 ⟨rfl,hb⟩
    have hM3:=A8 (hM3.out.call hb)
    clear hb z4
    cases heq:(i:Int)==p3
    case false =>
     have hv:Hid (x.val i=s0):=A8 (by rw [hval.out,hhit.out,heq];rfl)
     clear hval hhit
     have hM6:=A8 (hM3.out.front2)
     have y0:=(hM3.out.cell _ _ _ (List.mem_append_right _ List.mem_cons_self) 0).trans (show _=some (Value.slice av c cp) from rfl)
     have y1:=(hM3.out.cell _ _ _ (List.mem_append_right _ List.mem_cons_self) 1).trans (show _=some (Value.int .i64 (s0)) from rfl)
     have y2:=(hM6.out.cell _ _ _ List.mem_cons_self 1).trans (show _=some sv from rfl)
     clear hM3
     go_upto_region 5 with (at_builtin;refine Ch rfl rfl (hM6.out.new _) rfl rfl ((Blk.new _ _ _).cell 0) ((Blk.new _ _ _).cell 1) rfl rfl (by omega) ?_;intro g2 c2 W8 hM8;have q0:=hM8.cell bS _ _ (.head _) 1;have q1:=hM8.frozen bS _ _ (.head _) 1;replace hM8:=hM8.put0 1 (.slice (some ⟨g2,0,none⟩) (i+1) c2))
     go_wp2_with fail
     go_roundw
     case rel=>exact ⟨i+1,gs++fs,_,_,by go_num,by omega,A8 ⟨by rw [List.append_assoc];assumption,by rw [hre.out,hv.out];exact hE.out.snoc (hin.out.mono (fun p hp=>List.mem_append_left _ hp)) (fun p hp=>List.mem_append_right _ hp)⟩⟩
     case measure=>simp [intOf];omega
    case true =>
     have hv:Hid (x.val i=s0+p4-20):=A8 (by rw [hval.out,hhit.out,heq];rfl)
     clear hval hhit
     go_upto_region 14 with fail
     refine Me (bN:=bN) (bE:=B) (v:=.slice av c cp) (w:=w) (L:=gs++(bS,#[.int .i64 c,sv],27) :: (fs++L)) (R:=⟨60,2,sv,i,xs⟩ :: R) (ms:=x.miss) (mq:=x.miss.tdiv 30) (pk:=p4) (sa:=s0+p4) (s0:=s0) (s1:=s0+p4-20) hq2 (IntWalk.i64_in _ (by omega)) (IntWalk.i64_in _ (by omega)) (A8 fun W hW=>hW.cell _ _ _ (List.mem_append_right _ (List.mem_cons_of_mem _ (List.mem_append_right _ hN.out))) 4) P4 (A8 hM3.out.front) (by kernel_rfl) ?_
     intro z69 z70 z71 z72 z73 z74 z75 z76 z77 W5 hM5
     have hM3:=A8 hM5
     clear hM5
     have hM6:=A8 (hM3.out.tail.front)
     have y0:=(hM3.out.cell _ _ _ List.mem_cons_self 0).trans (show _=some (Value.slice av c cp) from rfl)
     have y1:=(hM3.out.cell _ _ _ List.mem_cons_self 1).trans (show _=some (Value.int .i64 (s0+p4-20)) from rfl)
     have y2:=(hM6.out.cell _ _ _ List.mem_cons_self 1).trans (show _=some sv from rfl)
     clear hM3
     go_upto_region 5 with (at_builtin;refine Ch rfl rfl (hM6.out.new _) rfl rfl ((Blk.new _ _ _).cell 0) ((Blk.new _ _ _).cell 1) rfl rfl (by omega) ?_;intro g2 c2 W8 hM8;have q0:=hM8.cell bS _ _ (.head _) 1;have q1:=hM8.frozen bS _ _ (.head _) 1;replace hM8:=hM8.put0 1 (.slice (some ⟨g2,0,none⟩) (i+1) c2))
     go_wp2_with fail
     go_roundw
     case rel=>exact ⟨i+1,gs++fs,_,_,by go_num,by omega,A8 ⟨by rw [List.append_assoc];assumption,by rw [hre.out,hv.out];exact hE.out.snoc (hin.out.mono (fun p hp=>List.mem_append_left _ hp)) (fun p hp=>List.mem_append_right _ hp)⟩⟩
     case measure=>simp [intOf];omega
def MadeP (x:NumL) (w:World) (e:Ending) (w':World):Prop :=
 ∃ (B cap:Nat) (cs:Array Value) (fs:BLs),e=.returned (.agg #[.int .i64 x.c,.slice (some ⟨B,0,none⟩) x.r cap])∧x.r≤cap∧cap≤maxLen∧cs.size=cap*2∧EqsAt fs x.made (cs.toList.take (x.r*2))∧Mem w ((B,cs,60) :: fs) [] w'
theorem Iu (x:NumL) (vc vh:Value) (w:World) (hc:Sl w vc x.coefs) (hh:Sl w vh x.hidden) (hF:Fits x.cols∧Fits x.rows∧Fits x.miss) (hf:∀ k,Fits (atv x.coefs k)∧Fits (atv x.hidden k)) :
  Calls Tryz.prog 11 #[.agg #[.int .i64 x.cols,.int .i64 x.rows,vc,vh,.int .i64 x.miss]] w (MadeP x w):=by
 obtain ⟨ac,cc,rfl⟩:=hc.shape
 obtain ⟨ah,ch,rfl⟩:=hh.shape
 have HC:=A8 hc
 have HH:=A8 hh
 have AC:=A8 (fun W (hW:Below w.heap.size w W) (k:Nat)=>CK (.slice ac x.coefs.length cc) x.coefs k W (HC.out.below hW))
 have AH:=A8 (fun W (hW:Below w.heap.size w W) (k:Nat)=>CK (.slice ah x.hidden.length ch) x.hidden k W (HH.out.below hW))
 replace hf:=A8 hf
 have hm:=A8 hF.2.2
 have P1:=A8 (fun W=>Au x.cols 8 hF.1 (by decide) (by decide) W)
 have P2:=A8 (fun W=>Au x.rows 5 hF.2.1 (by decide) (by decide) W)
 have hcq:=x.c_eq
 have hrq:=x.r_eq
 obtain ⟨c,hc0⟩:∃ c,c=x.c:=⟨_,rfl⟩
 obtain ⟨r,hr0⟩:∃ r,r=x.r:=⟨_,rfl⟩
 rw [←hc0] at hcq
 rw [←hr0] at hrq
 have hw1:IntKind.i64.wrap (1+pkv x.cols 8)=(c:Int):=by rw [←hcq.1];exact IntWalk.i64_in _ (by omega)
 have hw2:IntKind.i64.wrap (1+pkv x.rows 5)=(r:Int):=by rw [←hrq.1];exact IntWalk.i64_in _ (by omega)
 have hmade:Hid ((List.range r).map x.row=x.made):=A8 (by rw [hr0];rfl)
 replace hc0:=A8 hc0
 replace hr0:=A8 hr0
 generalize pkv x.cols 8=p1 at *
 generalize pkv x.rows 5=p2 at *
 clear hc hh hF hcq hrq
 generalize x.coefs.length=nc at *
 generalize x.hidden.length=nh at *
 obtain ⟨V1,e1,S1,s1⟩:=(Mem.start w).add' #[.int .i64 x.cols,.int .i64 x.rows,.slice ac nc cc,.slice ah nh ch,.int .i64 x.miss] 24
 obtain ⟨V2,e2,S2,s2⟩:=S1.add' #[.int .i64 0,.slice none 0 0] 27
 rw [s1] at S2
 rw [e1] at e2
 have hM:=A8 S2
 have z0:=S2.cell w.heap.size _ _ (.tail _ (.head _)) 0
 have z1:=S2.cell w.heap.size _ _ (.tail _ (.head _)) 1
 clear e1 S1 s1 S2 s2 HC HH
 go_enter Tryz.func11,Tryz.ntmps11
 go_upto_region 1 with fail
 rw [←e2]
 clear e2
 go_wp2_with fail
 refine Calls.mono (P1.out _) ?_
 rintro e w1 ⟨rfl,hb⟩
 replace hM:=A8 (hM.out.call hb)
 clear z0 z1 hb
 obtain ⟨V3,e3,S3,s3⟩:=hM.out.add' #[.int .i64 c,.slice none 0 0] 27
 have z1:=S3.cell w.heap.size _ _ (.tail _ (.tail _ (.head _))) 1
 obtain ⟨B,hB⟩:∃ B,B=w1.heap.size:=⟨_,rfl⟩
 rw [←hB] at S3
 replace hM:=A8 S3
 clear S3 s3
 go_upto_region 2 with fail
 rw [←e3,←hB]
 clear e3 hB
 go_wp2_with fail
 refine Calls.mono (P2.out _) ?_
 rintro e w2 ⟨rfl,hb⟩
 replace hM:=A8 (hM.out.call hb)
 clear z1 hb
 go_wp2_with fail
 refine made_l0 (x:=x) (bN:=w.heap.size) (bS:=B) (r:=r) (c:=c) (ac:=ac) (ah:=ah) (nc:=nc) (cc:=cc) (nh:=nh) (ch:=ch) (w:=w) (L:=[(w.heap.size+1,#[.int .i64 0,.slice none 0 0],27),(w.heap.size,#[.int .i64 x.cols,.int .i64 x.rows,.slice ac nc cc,.slice ah nh ch,.int .i64 x.miss],24)]) (R:=[]) hc0 hr0 (A8 (.tail _ (.head _))) AC AH hf hm hM (by kernel_rfl) ?_
 clear hM
 intro fs sv xs _ _ _ _ _ _ _ _ _ _ _ _ _ _ _ _ _ _ _ _ _ _ _ _ _ _ _ _ _ _ _ _ _ _ _ _ _ _ _ _ _ _ _ _ _ _ _ _ _ _ _ _ _ _ _ _ _ _ _ _ _ _ _ _ _ _ _ _ _ _ W3 hM
 have hF:=Mem.front (A:=(B,#[.int .i64 c,sv],27) :: fs) (C:=[(w.heap.size,#[.int .i64 x.cols,.int .i64 x.rows,.slice ac nc cc,.slice ah nh ch,.int .i64 x.miss],24)]) hM.out.1
 have hq:=hM.out.2
 rw [hmade.out] at hq
 have hO:=hF.out2 (.int .i64 c) sv
 obtain ⟨B9,cp,rfl,hfin⟩:∃ B9 cp,sv=.slice (some ⟨B9,0,none⟩) r cp∧Hid (∀ W,W=(W3.setCell ⟨w.heap.size+1,0,none⟩ (.int .i64 c)).setCell ⟨w.heap.size+1,1,none⟩ sv→MadeP x w (.returned (.agg #[.int .i64 c,sv])) W):=by
  rcases hO.freeze with ⟨_,h0,_,_⟩ | ⟨g,cap,ds,rfl,h1,h2,h3,h4,h5⟩
  ·have:=x.r_eq;have:=hr0.out;omega
  ·refine ⟨g,cap,rfl,A8 fun W hW=>⟨g,cap,ds,fs,by rw [hc0.out,hr0.out],by rw [←hr0.out];exact h1,h2,h3,by rw [←hr0.out,h4];exact hq,?_⟩⟩
   rw [hW]
   exact h5.sub (List.Sublist.cons_cons _ (List.Sublist.cons _ (List.Sublist.cons _ (List.sublist_append_left fs _))))
 obtain ⟨k0,k1,f0,f1,y0,y1⟩:=GE (hF.blks _ List.mem_cons_self) (.int .i64 c) (.slice (some ⟨B9,0,none⟩) r cp)
 have z0:=(hM.out.1.cell _ _ _ List.mem_cons_self 0).trans (show _=some (Value.int .i64 c) from rfl)
 have z1:=(hM.out.1.cell _ _ _ List.mem_cons_self 1).trans (show _=some (Value.slice (some ⟨B9,0,none⟩) r cp) from rfl)
 clear hM hF hO hq
 have hfin:=A8 (hfin.out _ rfl)
 clear hw1 hw2
 go_wp2
 exact bodyPost_ret (v:=.agg #[.int .i64 c,.slice (some ⟨B9,0,none⟩) r cp]) (by simp [results,Tryz.results11,go_sem,y0,y1]) rfl hfin.out
theorem Mg (x:NumL) (vc vh:Value) (w:World) (hc:Sl w vc x.coefs) (hh:Sl w vh x.hidden) (hF:Fits x.cols∧Fits x.rows∧Fits x.miss) (hf:∀ k,Fits (atv x.coefs k)∧Fits (atv x.hidden k)) :
  Calls Tryz.prog 11 #[.agg #[.int .i64 x.cols,.int .i64 x.rows,vc,vh,.int .i64 x.miss]] w fun e w'=>∃ v,e=.returned (.agg #[.int .i64 x.c,v])∧SlE w' v x.made∧Below w.heap.size w w' :=
 (Iu x vc vh w hc hh hF hf).mono fun e w' ⟨B,cap,cs,fs,he,h1,h2,h3,h4,h5⟩=>by
  refine ⟨_,he,?_,h5.below⟩
  exact h4.slE (h5.thaw (k:=2) h1 h2 h3 rfl) x.made_len.symm (fun p hp=>hp)
theorem Fj {x:Int} (h:Fits x) (W:World):Calls Tryz.prog 33 #[.int .i64 x] W (Rets W (.string (I x))) :=
 (Ky x h.1 h.2 W).mono fun e w' h=>by
  obtain ⟨⟨r,h1,h2⟩,hb⟩:=h
  exact ⟨by rw [h1,h2],hb⟩
theorem L6 {Q:Exit→Act→World→Prop} {us:List Value} {bN bV n:Nat} {v cv hv:Value} {xs:List Value} {d:ByteArray} {nc nr ms j:Int} {w W0:World} {L:BLs} {R:List RowD} {c19:Int} {c20:Int} {c21:ByteArray} (hn:Hid (n≤1000000)) (mN:(bN,#[.int .i64 nc,.int .i64 nr,cv,hv,.int .i64 ms],24)∈L) (C19:Hid (∀ W,Mem w L R W→Calls Tryz.prog 36 #[hv,.int .i64 j] W (Rets W (.int .i64 c19)))) (C20:Hid (∀ W,Mem w L R W→Calls Tryz.prog 35 #[.int .i64 c19,.int .i64 6] W (Rets W (.int .i64 c20)))) (C21:Hid (∀ W,Mem w L R W→Calls Tryz.prog 33 #[.int .i64 c20] W (Rets W (.string c21)))) (h0:Hid (Mem w ((bV,#[v,.string d],30) :: L) (⟨9,1,v,n,xs⟩ :: R) W0)) (hN:us.length=26) (g1:us[1]? = some (.pointer (some ⟨bN,0,none⟩))) (g3:us[3]? = some (.pointer (some ⟨bV,0,none⟩))) (g4:us[4]? = some (.int .i64 j)) {ops:Array Oper} (ho:getOps Tryz.f17.body 5=some ops)
  (hQ:∀ (x:Nat→Value) (G23:Nat) (cap23:Nat) (W':World),Hid (Mem w ((bV,#[.slice (some ⟨G23,0,none⟩) (n+1) cap23,.string d],30) :: L) (⟨9,1,.slice (some ⟨G23,0,none⟩) (n+1) cap23,n+1,xs++[.string c21]⟩ :: R) W')→Q .normal { tmps:=(sets [14,15,16,17,18,19,20,21,22,23,24] x us).toArray,defers:=[] } W') :
  (Code.region 5 ops true).wp Tryz.prog Q { tmps:=us.toArray,defers:=[] } W0:=by
 obtain rfl:=Option.some.inj (ho.symm.trans (rfl:getOps Tryz.f17.body 5=some _))
 clear ho
 replace hQ:=A8 hQ
 let Fl:Nat×Nat→FL:=fun g=>[some (14,.pointer (some ⟨bV,0,none⟩)),some (15,v),some (16,.pointer (some ⟨bN,3,none⟩)),some (17,hv),some (18,.int .i64 j),some (19,.int .i64 c19),some (20,.int .i64 c20),some (21,.string c21),none,some (23,.slice (some ⟨g.1,0,none⟩) (n+1) g.2),some (24,.pointer (some ⟨bV,0,none⟩)),none]
 let Ml:Nat×Nat→ML:=fun g=>[(8,22,(fun yv W=>∃ (g22:Nat),yv=.slice (some ⟨g22,0,none⟩) 1 1∧Blk W g22 #[.string c21] 9),some 9)]
 let Sl_:Nat×Nat→List (World→Prop):=fun g=>[fun W=>Mem w ((bV,#[v,.string d],30) :: L) (⟨9,1,v,n,xs⟩ :: R) W,fun W=>Mem w ((bV,#[v,.string d],30) :: L) (⟨9,1,.slice (some ⟨g.1,0,none⟩) (n+1) g.2,n+1,xs++[.string c21]⟩ :: R) W,fun W=>Mem w ((bV,#[.slice (some ⟨g.1,0,none⟩) (n+1) g.2,.string d],30) :: L) (⟨9,1,.slice (some ⟨g.1,0,none⟩) (n+1) g.2,n+1,xs++[.string c21]⟩ :: R) W]
 have St:RgS 26 [14,15,16,17,18,19,20,21,22,23,24] [8] Fl Ml (Mem w L R) Sl_:=⟨fun _=>by kernel_rfl,fun _=>rfl,fun _ _ hb h=>h.call hb,fun g=>List.forall_mem_cons.2 ⟨fun yv W W' hb=>fun ⟨g,e,h⟩=>⟨g,e,h.below hb⟩,(fun _ h=>by cases h)⟩,fun g=>List.forall_mem_cons.2 ⟨fun W W' hb h=>h.call hb,List.forall_mem_cons.2 ⟨fun W W' hb h=>h.call hb,List.forall_mem_cons.2 ⟨fun W W' hb h=>h.call hb,(fun _ h=>by cases h)⟩⟩⟩⟩
 refine Aq 26 us [14,15,16,17,18,19,20,21,22,23,24] Fl Ml [9,11] (Mem w L R) Sl_ hN (by kernel_rfl) (by kernel_rfl) ⟨0,0⟩ h0.out.tail.rtail.drew h0.out.drew (by kernel_rfl) ?_ ?_
 refine Ab (stV St 0 rfl rfl rfl (fun _=>rfl) fun g T E W hl hw hs z K J=>by
  have x3:=z.u g3
  go_simp;exact J) ?_
 refine Ab (stV St 1 rfl rfl rfl (fun _=>rfl) fun g T E W hl hw hs z K J=>by
  have x14:=z.x 0 hw rfl
  have k0:W.cell? ⟨bV,0,none⟩=some (v:Value):=z.ld 1 0 0 hl hw hs rfl (by kernel_rfl) (fun s=>Mem.cell (s) _ _ _ (.head _) 0)
  go_simp;exact J) ?_
 refine Ab (stV St 2 rfl rfl rfl (fun _=>rfl) fun g T E W hl hw hs z K J=>by
  have x1:=z.u g1
  go_simp;exact J) ?_
 refine Ab (stV St 3 rfl rfl rfl (fun _=>rfl) fun g T E W hl hw hs z K J=>by
  have x16:=z.x 2 hw rfl
  have hC:=z.c
  have k0:=(hC.cell _ _ _ mN 3).trans (show _=some (hv:Value) from rfl)
  go_simp;exact J) ?_
 refine Ab (stV St 4 rfl rfl rfl (fun _=>rfl) fun g T E W hl hw hs z K J=>by
  have x4:=z.u g4
  go_simp;exact J) ?_
 refine Ab (stC St 5 rfl rfl rfl (fun _=>rfl) fun g T E W hl hw hs z K J=>by
  have x17:=z.x 3 hw rfl
  have x18:=z.x 4 hw rfl
  have hC:=z.c
  go_simp
  refine Calls.mono (C19.out W hC) ?_
  rintro e W2 ⟨rfl,hb⟩
  exact J _ hb) ?_
 refine Ab (stC St 6 rfl rfl rfl (fun _=>rfl) fun g T E W hl hw hs z K J=>by
  have x19:=z.x 5 hw rfl
  have hC:=z.c
  go_simp
  refine Calls.mono (C20.out W hC) ?_
  rintro e W2 ⟨rfl,hb⟩
  exact J _ hb) ?_
 refine Ab (stC St 7 rfl rfl rfl (fun _=>rfl) fun g T E W hl hw hs z K J=>by
  have x20:=z.x 6 hw rfl
  have hC:=z.c
  go_simp
  refine Calls.mono (C21.out W hC) ?_
  rintro e W2 ⟨rfl,hb⟩
  exact J _ hb) ?_
 refine Ab (stM St 8 0 rfl rfl (.inl rfl) (fun _=>rfl) (fun _=>by kernel_rfl) fun g T E W hl hw hs z K J=>by
  have x21:=z.x 7 hw rfl
  go_simp;exact J _ _ ((Below.refl _ _).alloc (Aa _) _) ⟨_,rfl,Blk.new _ _ _⟩) ?_
 refine Ab (stF St 9 0 rfl (.inl rfl) rfl rfl (by kernel_rfl) (fun _=>by kernel_rfl) fun g T E W hl hw hs z q K J=>by
  have x15:=z.x 1 hw rfl
  obtain ⟨_,x22,g22,rfl,hb8⟩:=z.y 0 hl hw hs rfl
  have hM0:Mem _ _ _ _:=q
  refine Cx rfl hM0 (by go_simp) (by go_simp) (hb8.cell 0) hn.out ?_
  intro G23' cap23' W2 hM2
  exact J ⟨G23',cap23'⟩ _ _ rfl (by kernel_rfl) (hM2.tail.rtail) hM2) ?_
 refine Ab (stV St 10 rfl rfl rfl (fun _=>rfl) fun g T E W hl hw hs z K J=>by
  have x3:=z.u g3
  go_simp;exact J) ?_
 refine Ab (stE 11 1 (.inl rfl) rfl rfl (fun _=>rfl) (by kernel_rfl) (fun _=>by kernel_rfl) fun g T E W hl hw hs z q K J=>by
  have x23:=z.x 9 hw rfl
  have x24:=z.x 10 hw rfl
  have hM0:Mem _ _ _ _:=q
  have y0:=hM0.cell _ _ _ (.head _) 0
  have w0:=hM0.frozen _ _ _ (.head _) 0
  go_simp;exact J _ ((hM0.put0 0 _).tail.rtail) (hM0.put0 0 _)) ?_
 ·exact Af
 ·intro g a W z q
  have hM9:Mem _ _ _ _:=q
  rw [z.f.eqs]
  exact hQ.out _ g.1 g.2  _  (A8 hM9)
theorem L7 {Q:Exit→Act→World→Prop} {us:List Value} {bV n:Nat} {v hv:Value} {xs:List Value} {d:ByteArray} {j:Int} {w W0:World} {L:BLs} {R:List RowD} {c23:Int} {c24:Int} {c25:ByteArray} (hn:Hid (n≤1000000))  (C23:Hid (∀ W,Mem w L R W→Calls Tryz.prog 36 #[hv,.int .i64 j] W (Rets W (.int .i64 c23)))) (C24:Hid (∀ W,Mem w L R W→Calls Tryz.prog 35 #[.int .i64 c23,.int .i64 50] W (Rets W (.int .i64 c24)))) (C25:Hid (∀ W,Mem w L R W→Calls Tryz.prog 33 #[.int .i64 c24] W (Rets W (.string c25)))) (h0:Hid (Mem w ((bV,#[v,.string d],30) :: L) (⟨9,1,v,n,xs⟩ :: R) W0)) (hN:us.length=30) (g1:us[1]? = some (hv)) (g7:us[7]? = some (.pointer (some ⟨bV,0,none⟩))) (g8:us[8]? = some (.int .i64 j)) {ops:Array Oper} (ho:getOps Tryz.f18.body 5=some ops)
  (hQ:∀ (x:Nat→Value) (G27:Nat) (cap27:Nat) (W':World),Hid (Mem w ((bV,#[.slice (some ⟨G27,0,none⟩) (n+1) cap27,.string d],30) :: L) (⟨9,1,.slice (some ⟨G27,0,none⟩) (n+1) cap27,n+1,xs++[.string c25]⟩ :: R) W')→Q .normal { tmps:=(sets [19,20,21,22,23,24,25,26,27,28] x us).toArray,defers:=[] } W') :
  (Code.region 5 ops true).wp Tryz.prog Q { tmps:=us.toArray,defers:=[] } W0:=by
 obtain rfl:=Option.some.inj (ho.symm.trans (rfl:getOps Tryz.f18.body 5=some _))
 clear ho
 replace hQ:=A8 hQ
 let Fl:Nat×Nat→FL:=fun g=>[some (19,.pointer (some ⟨bV,0,none⟩)),some (20,v),some (21,hv),some (22,.int .i64 j),some (23,.int .i64 c23),some (24,.int .i64 c24),some (25,.string c25),none,some (27,.slice (some ⟨g.1,0,none⟩) (n+1) g.2),some (28,.pointer (some ⟨bV,0,none⟩)),none]
 let Ml:Nat×Nat→ML:=fun g=>[(7,26,(fun yv W=>∃ (g26:Nat),yv=.slice (some ⟨g26,0,none⟩) 1 1∧Blk W g26 #[.string c25] 9),some 8)]
 let Sl_:Nat×Nat→List (World→Prop):=fun g=>[fun W=>Mem w ((bV,#[v,.string d],30) :: L) (⟨9,1,v,n,xs⟩ :: R) W,fun W=>Mem w ((bV,#[v,.string d],30) :: L) (⟨9,1,.slice (some ⟨g.1,0,none⟩) (n+1) g.2,n+1,xs++[.string c25]⟩ :: R) W,fun W=>Mem w ((bV,#[.slice (some ⟨g.1,0,none⟩) (n+1) g.2,.string d],30) :: L) (⟨9,1,.slice (some ⟨g.1,0,none⟩) (n+1) g.2,n+1,xs++[.string c25]⟩ :: R) W]
 have St:RgS 30 [19,20,21,22,23,24,25,26,27,28] [7] Fl Ml (Mem w L R) Sl_:=⟨fun _=>by kernel_rfl,fun _=>rfl,fun _ _ hb h=>h.call hb,fun g=>List.forall_mem_cons.2 ⟨fun yv W W' hb=>fun ⟨g,e,h⟩=>⟨g,e,h.below hb⟩,(fun _ h=>by cases h)⟩,fun g=>List.forall_mem_cons.2 ⟨fun W W' hb h=>h.call hb,List.forall_mem_cons.2 ⟨fun W W' hb h=>h.call hb,List.forall_mem_cons.2 ⟨fun W W' hb h=>h.call hb,(fun _ h=>by cases h)⟩⟩⟩⟩
 refine Aq 30 us [19,20,21,22,23,24,25,26,27,28] Fl Ml [8,10] (Mem w L R) Sl_ hN (by kernel_rfl) (by kernel_rfl) ⟨0,0⟩ h0.out.tail.rtail.drew h0.out.drew (by kernel_rfl) ?_ ?_
 refine Ab (stV St 0 rfl rfl rfl (fun _=>rfl) fun g T E W hl hw hs z K J=>by
  have x7:=z.u g7
  go_simp;exact J) ?_
 refine Ab (stV St 1 rfl rfl rfl (fun _=>rfl) fun g T E W hl hw hs z K J=>by
  have x19:=z.x 0 hw rfl
  have k0:W.cell? ⟨bV,0,none⟩=some (v:Value):=z.ld 1 0 0 hl hw hs rfl (by kernel_rfl) (fun s=>Mem.cell (s) _ _ _ (.head _) 0)
  go_simp;exact J) ?_
 refine Ab (stV St 2 rfl rfl rfl (fun _=>rfl) fun g T E W hl hw hs z K J=>by
  have x1:=z.u g1
  go_simp;exact J) ?_
 refine Ab (stV St 3 rfl rfl rfl (fun _=>rfl) fun g T E W hl hw hs z K J=>by
  have x8:=z.u g8
  go_simp;exact J) ?_
 refine Ab (stC St 4 rfl rfl rfl (fun _=>rfl) fun g T E W hl hw hs z K J=>by
  have x21:=z.x 2 hw rfl
  have x22:=z.x 3 hw rfl
  have hC:=z.c
  go_simp
  refine Calls.mono (C23.out W hC) ?_
  rintro e W2 ⟨rfl,hb⟩
  exact J _ hb) ?_
 refine Ab (stC St 5 rfl rfl rfl (fun _=>rfl) fun g T E W hl hw hs z K J=>by
  have x23:=z.x 4 hw rfl
  have hC:=z.c
  go_simp
  refine Calls.mono (C24.out W hC) ?_
  rintro e W2 ⟨rfl,hb⟩
  exact J _ hb) ?_
 refine Ab (stC St 6 rfl rfl rfl (fun _=>rfl) fun g T E W hl hw hs z K J=>by
  have x24:=z.x 5 hw rfl
  have hC:=z.c
  go_simp
  refine Calls.mono (C25.out W hC) ?_
  rintro e W2 ⟨rfl,hb⟩
  exact J _ hb) ?_
 refine Ab (stM St 7 0 rfl rfl (.inl rfl) (fun _=>rfl) (fun _=>by kernel_rfl) fun g T E W hl hw hs z K J=>by
  have x25:=z.x 6 hw rfl
  go_simp;exact J _ _ ((Below.refl _ _).alloc (Aa _) _) ⟨_,rfl,Blk.new _ _ _⟩) ?_
 refine Ab (stF St 8 0 rfl (.inl rfl) rfl rfl (by kernel_rfl) (fun _=>by kernel_rfl) fun g T E W hl hw hs z q K J=>by
  have x20:=z.x 1 hw rfl
  obtain ⟨_,x26,g26,rfl,hb7⟩:=z.y 0 hl hw hs rfl
  have hM0:Mem _ _ _ _:=q
  refine Cx rfl hM0 (by go_simp) (by go_simp) (hb7.cell 0) hn.out ?_
  intro G27' cap27' W2 hM2
  exact J ⟨G27',cap27'⟩ _ _ rfl (by kernel_rfl) (hM2.tail.rtail) hM2) ?_
 refine Ab (stV St 9 rfl rfl rfl (fun _=>rfl) fun g T E W hl hw hs z K J=>by
  have x7:=z.u g7
  go_simp;exact J) ?_
 refine Ab (stE 10 1 (.inl rfl) rfl rfl (fun _=>rfl) (by kernel_rfl) (fun _=>by kernel_rfl) fun g T E W hl hw hs z q K J=>by
  have x27:=z.x 8 hw rfl
  have x28:=z.x 9 hw rfl
  have hM0:Mem _ _ _ _:=q
  have y0:=hM0.cell _ _ _ (.head _) 0
  have w0:=hM0.frozen _ _ _ (.head _) 0
  go_simp;exact J _ ((hM0.put0 0 _).tail.rtail) (hM0.put0 0 _)) ?_
 ·exact Af
 ·intro g a W z q
  have hM9:Mem _ _ _ _:=q
  rw [z.f.eqs]
  exact hQ.out _ g.1 g.2  _  (A8 hM9)
theorem Jv (x:NumL) (vc vh:Value) (w:World) (hc:Sl w vc x.coefs) (hh:Sl w vh x.hidden) (hF:Fits x.cols) (hf:∀ k,Fits (atv x.hidden k)) :
  Calls Tryz.prog 17 #[.agg #[.int .i64 x.cols,.int .i64 x.rows,vc,vh,.int .i64 x.miss]] w fun e w'=>∃ v,e=.returned (.agg #[v,.string ⟨#[49]⟩])∧SlS w' v x.hidN∧Below w.heap.size w w':=by
 obtain ⟨ac,cc,rfl⟩:=hc.shape
 obtain ⟨ah,ch,rfl⟩:=hh.shape
 have HH:=A8 hh
 have AH:=A8 (fun W (hW:Below w.heap.size w W) (k:Nat)=>CK (.slice ah x.hidden.length ch) x.hidden k W (HH.out.below hW))
 have PH:=A8 (fun W (k:Nat)=>by have:=Au (atv x.hidden k) 6 (hf k) (by decide) (by decide) W;exact (this:Calls Tryz.prog 35 #[.int .i64 (atv x.hidden k),.int .i64 6] W (Rets W (.int .i64 (x.hid k)))))
 have FH:=A8 (fun W (k:Nat)=>Fj (x:=x.hid k) (by have:=x.hid_bd k;unfold Fits;omega) W)
 have P1:=A8 (fun W=>Au x.cols 8 hF (by decide) (by decide) W)
 have hcq:=x.c_eq
 obtain ⟨c,hc0⟩:∃ c,c=x.c:=⟨_,rfl⟩
 rw [←hc0] at hcq
 have hw1:IntKind.i64.wrap (1+pkv x.cols 8)=(c:Int):=by rw [←hcq.1];exact IntWalk.i64_in _ (by omega)
 have hc8:c≤8:=hcq.2.2
 have hend:Hid (∀ W v,Mem w [(w.heap.size+1+1,#[v,.string ⟨#[49]⟩],30),(w.heap.size+1,#[.slice none 0 0,.string ⟨#[]⟩],30),(w.heap.size,#[.int .i64 x.cols,.int .i64 x.rows,.slice ac x.coefs.length cc,.slice ah x.hidden.length ch,.int .i64 x.miss],24)] [⟨9,1,v,c,((List.range c).map fun k=>Value.string (I (x.hid k)))⟩] W→∀ W',W'=(W.setCell ⟨w.heap.size+1,0,none⟩ v).setCell ⟨w.heap.size+1,1,none⟩ (.string ⟨#[49]⟩)→SlS W' v x.hidN∧Below w.heap.size w W'):=A8 (fun W v h W' e=>by
  have h1:=(Mem.out2 (h.perm (List.Perm.swap _ _ _)) v (.string ⟨#[49]⟩))
  rw [←e] at h1
  refine ⟨SlS.of_own (n:=c) (l:=x.hidN) (e:=9) (base:=w.heap.size) ?_,h1.below⟩
  have h2:=h1.own0
  unfold NumL.hidN
  rw [List.map_map,←hc0]
  exact h2)
 replace hc0:=A8 hc0
 generalize pkv x.cols 8=p1 at *
 clear hc hh hF hcq
 generalize x.coefs.length=nc at *
 generalize x.hidden.length=nh at *
 obtain ⟨V1,e1,S1,s1⟩:=(Mem.start w).add' #[.int .i64 x.cols,.int .i64 x.rows,.slice ac nc cc,.slice ah nh ch,.int .i64 x.miss] 24
 obtain ⟨V2,e2,S2,s2⟩:=S1.add' #[.slice none 0 0,.string ⟨#[]⟩] 30
 obtain ⟨V3,e3,S3,s3⟩:=S2.add' #[.slice none 0 0,.string ⟨#[49]⟩] 30
 rw [s2,s1] at S3
 rw [e2,e1] at e3
 have hM:=A8 (S3.row0 9 1)
 clear e1 e2 S1 s1 S2 s2 S3 s3 HH
 go_enter Tryz.func17,Tryz.ntmps17
 go_upto_region 2 with fail
 rw [←e3]
 clear e3
 go_wp2_with fail
 go_loopw [4] (fun s wr=>∃ (j:Nat) (v:Value),s=.int .i64 j∧j≤c∧Hid (Mem w [(w.heap.size+1+1,#[v,.string ⟨#[49]⟩],30),(w.heap.size+1,#[.slice none 0 0,.string ⟨#[]⟩],30),(w.heap.size,#[.int .i64 x.cols,.int .i64 x.rows,.slice ac nc cc,.slice ah nh ch,.int .i64 x.miss],24)] [⟨9,1,v,j,((List.range j).map fun k=>Value.string (I (x.hid k)))⟩] wr)) (fun s _=>c-(intOf s).toNat)
 case atStart=>exact ⟨0,.slice none 0 0,rfl,by omega,hM⟩
 case round =>
  clear hM
  obtain ⟨j,v,rfl,hj,hM⟩:=hrel
  have z0:=hM.out.cell w.heap.size _ _ (.tail _ (.tail _ (.head _))) 0
  go_wp2_with fail
  refine Calls.mono (P1.out _) ?_
  rintro e w1 ⟨rfl,hb⟩
  replace hM:=A8 (hM.out.call hb)
  clear z0 hb
  by_cases hjc:j<c
  case neg =>
   have hjc':¬ (j:Int)<c:=by omega
   obtain rfl:j=c:=by omega
   have hfin:=A8 (hend.out _ _ hM.out _ rfl)
   have z0:=(hM.out.cell _ _ _ (.head _) 0).trans (show _=some v from rfl)
   have z1:=(hM.out.cell _ _ _ (.head _) 1).trans (show _=some (Value.string ⟨#[49]⟩) from rfl)
   obtain ⟨k0,k1,f0,f1,y0,y1⟩:=GE (hM.out.blks _ (.tail _ (.head _))) v (.string ⟨#[49]⟩)
   obtain ⟨a,cp,hsv⟩:=hfin.out.1.shape
   generalize x.hidN.length=nm at *
   subst hsv
   clear hM hend
   go_wp2
   exact bodyPost_ret (v:=.agg #[.slice a nm cp,.string ⟨#[49]⟩]) (by simp [results,Tryz.results17,go_sem,y0,y1]) rfl ⟨_,rfl,hfin.out.1,hfin.out.2⟩
  case pos =>
   have hjc':(j:Int)<c:=by omega
   go_upto_region 5 with fail
   refine L6 (bN:=w.heap.size) (bV:=w.heap.size+1+1) (n:=j) (j:=j) (w:=w) (L:=[(w.heap.size+1,#[.slice none 0 0,.string ⟨#[]⟩],30),(w.heap.size,#[.int .i64 x.cols,.int .i64 x.rows,.slice ac nc cc,.slice ah nh ch,.int .i64 x.miss],24)]) (R:=[]) (A8 (by omega)) (.tail _ (.head _)) (A8 fun W hW=>AH.out W hW.below j) (A8 fun W hW=>PH.out W j) (A8 fun W hW=>FH.out W j) hM rfl rfl rfl rfl (by kernel_rfl) ?_
   intro xx G cap W5 hM5
   simp only [sets,List.foldl_cons,List.foldl_nil,A5,A6]
   clear hM
   have hxs:((List.range (j+1)).map fun k=>Value.string (I (x.hid k)))=((List.range j).map fun k=>Value.string (I (x.hid k)))++[.string (I (x.hid j))]:=by rw [List.range_succ,List.map_append];rfl
   rw [←hxs] at hM5
   clear hxs
   go_wp2_with fail
   go_roundw
   case rel=>exact ⟨j+1,_,by go_num,by omega,hM5⟩
   case measure=>simp [intOf];omega
theorem same13 {W:World} {v u:Value} (h1:SlS W v [⟨#[49]⟩,⟨#[51]⟩]) (h2:SlS W u [⟨#[49]⟩,⟨#[51]⟩]):Calls Tryz.prog 26 #[.agg #[v,.string ⟨#[52]⟩],.agg #[u,.string ⟨#[52]⟩]] W (Rets W (.bool true)):=by
 have:=LC v u _ _ ⟨#[52]⟩ ⟨#[52]⟩ W h1 h2
 simpa using this
theorem val11 {W:World} {v:Value} (h:SlE W v (twoL 1 1)):Calls Tryz.prog 15 #[.agg #[.int .i64 2,v]] W (Rets W (.bool true)):=by
 have:=BG 2 v (twoL 1 1) W h
 rwa [vl11] at this
theorem val65 (W:World):Calls Tryz.prog 15 #[.agg #[.int .i64 65,.slice none 0 0]] W (Rets W (.bool false)):=by
 have:=BG 65 _ [] W (SlG.nil W)
 rwa [vl65] at this
theorem Blk.new1 (W:World) (o:Obj) (cs:Array Value) (t:TypeId):Blk ((W.alloc o).alloc (.cells cs t)) (W.heap.size+1) cs t:=by
 have:=Blk.new (W.alloc o) cs t
 rwa [World.size_alloc] at this
theorem La (w:World) (hE:Env w):Calls Tryz.prog 9 #[] w (Rets w (.bool true)):=by
 replace hE:=A8 hE
 obtain ⟨V1,bS,e1,b1,S1⟩:=(MS.start w).add' #[.string ⟨#[52]⟩,.string ⟨#[50]⟩] 9
 obtain ⟨V2,bV,e2,b2,S2⟩:=S1.add' #[.slice (some ⟨bS,0,none⟩) 2 2,.string ⟨#[50]⟩] 30
 have hS:=A8 (S2.slice (SlS.of2 (S2.mem.blks _ (.tail _ (.head _)))))
 rw [b1] at e2
 rw [e1] at e2 b2
 rw [World.size_alloc] at b2
 clear S1 S2 e1
 go_enter Tryz.func9,Tryz.ntmps9
 go_upto_region 2 with fail
 rw [←e2,←b2]
 clear e2 b1 b2
 go_wp2_with fail
 refine Calls.mono (Bz 3 1 _) ?_
 rintro e w1 ⟨v1,rfl,hv,hb⟩
 replace hS:=A8 (hS.out.call hb)
 clear hb
 go_wp2_with fail
 refine Calls.mono (solve31 v1 _ (hS.out.env hE.out) hv) ?_
 rintro e w2 ⟨a1,l1,d1,k1,rfl,hs1,heq,hb⟩
 clear hv
 replace hS:=A8 (hS.out.call hb)
 replace hS:=A8 (hS.out.slice hs1)
 clear hb hs1
 replace heq:=A8 heq
 obtain ⟨n1,hn1⟩:∃ n,n=l1.length:=⟨_,rfl⟩
 rw [←hn1] at hS ⊢
 replace hn1:=A8 hn1
 obtain ⟨W1,bA,e1,b1,S1⟩:=hS.out.add' #[.bool true,.slice a1 n1 k1,.string d1,.slice none 0 0] 38
 replace hS:=A8 S1
 clear S1
 go_upto_region 3 with fail
 rw [←e1,←b1]
 clear e1 b1
 go_wp2_with fail
 refine Calls.mono (Bz 3 4 _) ?_
 rintro e w3 ⟨v2,rfl,hv,hb⟩
 replace hS:=A8 (hS.out.call hb)
 clear hb
 go_wp2_with fail
 refine Calls.mono (solve34 v2 _ (hS.out.env hE.out) hv) ?_
 rintro e w4 ⟨a2,l2,k2,rfl,hs2,hrf,hb⟩
 clear hv
 replace hS:=A8 (hS.out.call hb)
 replace hS:=A8 (hS.out.slice hs2)
 clear hb hs2
 replace hrf:=A8 hrf
 obtain ⟨n2,hn2⟩:∃ n,n=l2.length:=⟨_,rfl⟩
 rw [←hn2] at hS ⊢
 replace hn2:=A8 hn2
 obtain ⟨W1,bB,e1,b1,S1⟩:=hS.out.add' #[.bool false,.slice none 0 0,.string ⟨#[]⟩,.slice a2 n2 k2] 38
 replace hS:=A8 S1
 clear S1
 go_upto_region 4 with fail
 rw [←e1,←b1]
 clear e1 b1
 go_wp2_with fail
 refine Calls.mono (solve00 _ _ ((hS.out.new _).env hE.out) (SlE.of1 (Blk.new _ _ _))) ?_
 rintro e w5 ⟨a3,d3,k3,rfl,hb⟩
 replace hS:=A8 (hS.out.new _ |>.call hb)
 clear hb
 obtain ⟨W1,bC,e1,b1,S1⟩:=hS.out.add' #[.bool true,.slice a3 0 k3,.string d3,.slice none 0 0] 38
 replace hS:=A8 S1
 clear S1
 go_upto_region 5 with fail
 rw [←e1,←b1]
 clear e1 b1
 go_wp2_with fail
 refine Calls.mono (solve01 _ _ ((hS.out.new _).env hE.out) (SlE.of1 (Blk.new _ _ _))) ?_
 rintro e w6 ⟨a4,k4,rfl,hb⟩
 replace hS:=A8 (hS.out.new _ |>.call hb)
 clear hb
 obtain ⟨W1,bD,e1,b1,S1⟩:=hS.out.add' #[.bool false,.slice none 0 0,.string ⟨#[]⟩,.slice a4 1 k4] 38
 replace hS:=A8 S1
 clear S1
 go_upto_region 6 with fail
 rw [←e1,←b1]
 clear e1 b1
 go_wp2_with fail
 refine Calls.mono (mix_ok { p:=1,q:=3,na:=[⟨#[49]⟩,⟨#[48]⟩],nb:=[⟨#[48]⟩,⟨#[49]⟩],da:=⟨#[49]⟩,db:=⟨#[49]⟩ } _ _ _ (((hS.out.new _).new _).env hE.out) ((SlS.of2 (Blk.new _ _ _)).below ((Below.refl _ _).alloc (Aa _) _)) (SlS.of2 (Blk.new1 _ _ _ _)) (by kernel_rfl)) ?_
 intro e w5 hmx
 unfold MixP at hmx
 rw [mix13] at hmx
 obtain ⟨hb,v5,hs5,rfl⟩:=hmx
 obtain ⟨a5,k5,rfl⟩:=hs5.shape
 replace hS:=A8 ((hS.out.new _ |>.new _).call hb)
 replace hS:=A8 (hS.out.slice hs5)
 clear hb hs5
 obtain ⟨W1,bM,e1,b1,S1⟩:=hS.out.add' #[.slice a5 2 k5,.string ⟨#[52]⟩] 30
 replace hS:=A8 S1
 clear S1
 go_upto_region 7 with fail
 rw [←e1,←b1]
 clear e1 b1
 go_wp2_with fail
 refine Calls.mono (solve10 _ _ (SlE.of1 (Blk.new _ _ _))) ?_
 rintro e w8 ⟨rfl,hb⟩
 replace hS:=A8 (hS.out.new _ |>.call hb)
 clear hb
 obtain ⟨W1,bN,e1,b1,S1⟩:=hS.out.add' #[.bool false,.slice none 0 0,.string ⟨#[]⟩,.slice none 0 0] 38
 replace hS:=A8 S1
 clear S1
 go_upto_region 8 with fail
 rw [←e1,←b1]
 clear e1 b1
 go_upto_region 10 with fail
 have rf:=hrf
 clear hrf
 have hn1':=hn1.out
 have hn2':=hn2.out
 subst hn1'
 subst hn2'
 refine L8 (bV:=bV) (bA:=bA) (bB:=bB) (bC:=bC) (bD:=bD) (bS:=bS) (a1:=a1) (n1:=l1.length) (k1:=k1) (a2:=a2) (n2:=l2.length) (k2:=k2) (a3:=a3) (k3:=k3) (a4:=a4) (k4:=k4) (d1:=d1) (w:=W1) (W0:=W1) (L:=[]) (R:=[]) (A8 fun W hW=>(hS.out.call hW.below).cell bA _ _ (.tail _ (.tail _ (.tail _ (.tail _ (.tail _ (.head _)))))) 0) (A8 fun W hW=>(hS.out.call hW.below).cell bA _ _ (.tail _ (.tail _ (.tail _ (.tail _ (.tail _ (.head _)))))) 1) (A8 fun W hW=>(hS.out.call hW.below).cell bA _ _ (.tail _ (.tail _ (.tail _ (.tail _ (.tail _ (.head _)))))) 2) (A8 fun W hW=>(hS.out.call hW.below).cell bV _ _ (.tail _ (.tail _ (.tail _ (.tail _ (.tail _ (.tail _ (.head _))))))) 0) (A8 fun W hW=>(hS.out.call hW.below).cell bV _ _ (.tail _ (.tail _ (.tail _ (.tail _ (.tail _ (.tail _ (.head _))))))) 1) (A8 fun W hW=>(by have:=KZ _ _ l1 _ d1 ⟨#[50]⟩ W ((hS.out.call hW.below).env hE.out) ((hS.out.call hW.below).ss _ (.tail _ (.tail _ (.head _)))) ((hS.out.call hW.below).ss _ (.tail _ (.tail _ (.tail _ (.head _)))));rwa [heq.out] at this)) (A8 fun W hW=>(hS.out.call hW.below).cell bA _ _ (.tail _ (.tail _ (.tail _ (.tail _ (.tail _ (.head _)))))) 3) (A8 fun W hW=>(hS.out.call hW.below).cell bB _ _ (.tail _ (.tail _ (.tail _ (.tail _ (.head _))))) 0) (A8 fun W hW=>(Bz 3 4 W)) (A8 fun W hW=>(hS.out.call hW.below).cell bB _ _ (.tail _ (.tail _ (.tail _ (.tail _ (.head _))))) 3) (A8 fun W v hW hv=>(by have:=AZ 2 v _ (twoL 3 4) l2 W ((hS.out.call hW.below).env hE.out) hv ((hS.out.call hW.below).ss _ (.tail _ (.head _)));rwa [rf.out] at this)) (A8 fun W hW=>(hS.out.call hW.below).cell bC _ _ (.tail _ (.tail _ (.tail _ (.head _)))) 0) (A8 fun W hW=>(hS.out.call hW.below).cell bC _ _ (.tail _ (.tail _ (.tail _ (.head _)))) 1) (A8 fun W hW=>(hS.out.call hW.below).cell bD _ _ (.tail _ (.tail _ (.head _))) 0) (A8 fun W hW=>(hS.out.call hW.below).cell bD _ _ (.tail _ (.tail _ (.head _))) 3) (A8 (Mem.start W1)) rfl rfl rfl rfl rfl rfl (by kernel_rfl) ?_
 intro xx W2 hx14 hW2
 simp only [sets,List.foldl_cons,List.foldl_nil,A5,A6,hx14]
 replace hS:=A8 (hS.out.call hW2.out.below)
 clear hW2 heq rf
 go_upto_region 11 with fail
 refine L9 (bV:=bV) (L:=[]) (R:=[]) (A8 fun W hW=>(Bz 3 1 W)) (A8 fun W hW=>(hS.out.call hW.below).cell bV _ _ (.tail _ (.tail _ (.tail _ (.tail _ (.tail _ (.tail _ (.head _))))))) 0) (A8 fun W hW=>(hS.out.call hW.below).cell bV _ _ (.tail _ (.tail _ (.tail _ (.tail _ (.tail _ (.tail _ (.head _))))))) 1) (A8 fun W v hW hv=>(by have:=Cv 2 v _ (twoL 3 1) _ ⟨#[50]⟩ W ((hS.out.call hW.below).env hE.out) hv ((hS.out.call hW.below).ss _ (.tail _ (.tail _ (.tail _ (.head _)))));rwa [ck31] at this)) (A8 fun W hW=>(Bz 3 2 W)) (A8 fun W hW=>(hS.out.call hW.below).cell bV _ _ (.tail _ (.tail _ (.tail _ (.tail _ (.tail _ (.tail _ (.head _))))))) 0) (A8 fun W hW=>(hS.out.call hW.below).cell bV _ _ (.tail _ (.tail _ (.tail _ (.tail _ (.tail _ (.tail _ (.head _))))))) 1) (A8 fun W v hW hv=>(by have:=Cv 2 v _ (twoL 3 2) _ ⟨#[50]⟩ W ((hS.out.call hW.below).env hE.out) hv ((hS.out.call hW.below).ss _ (.tail _ (.tail _ (.tail _ (.head _)))));rwa [ck32] at this)) (A8 fun W hW=>(Bz 3 4 W)) (A8 fun W v g hW hv hg=>(by have:=AZ 2 v _ (twoL 3 4) _ W ((hS.out.call hW.below).env hE.out) hv (SlS.of2 hg);rwa [rf34] at this)) (A8 fun W hW=>(Bz 3 4 W)) (A8 fun W v g hW hv hg=>(by have:=AZ 2 v _ (twoL 3 4) _ W ((hS.out.call hW.below).env hE.out) hv (SlS.of2 hg);rwa [rf34n] at this)) (A8 fun W hW=>(Bz 3 1 W)) (A8 fun W v g hW hv hg=>(by have:=AZ 2 v _ (twoL 3 1) _ W ((hS.out.call hW.below).env hE.out) hv (SlS.of2 hg);rwa [rf31n] at this)) (A8 (Mem.start _)) rfl rfl (by kernel_rfl) ?_
 intro xx W3 hx15 hW3
 simp only [sets,List.foldl_cons,List.foldl_nil,A5,A6,hx15]
 replace hS:=A8 (hS.out.call hW3.out.below)
 clear hW3
 have z0:=(hS.out.cell bM _ _ (.tail _ (.head _)) 0).trans (show _=some (Value.slice a5 2 k5) from rfl)
 have z1:=(hS.out.cell bM _ _ (.tail _ (.head _)) 1).trans (show _=some (Value.string ⟨#[52]⟩) from rfl)
 go_wp2_with fail
 refine Calls.mono (same13 (hS.out.new _ |>.ss _ (.head _)) (SlS.of2 (Blk.new _ _ _))) ?_
 rintro e w9 ⟨rfl,hb⟩
 replace hS:=A8 (hS.out.new _ |>.call hb)
 clear hb z0 z1
 go_wp2_with fail
 refine Calls.mono (Bz 1 1 _) ?_
 rintro e w10 ⟨v9,rfl,hv,hb⟩
 replace hS:=A8 (hS.out.call hb)
 clear hb
 go_wp2_with fail
 refine Calls.mono (val11 hv) ?_
 rintro e w11 ⟨rfl,hb⟩
 clear hv
 replace hS:=A8 (hS.out.call hb)
 clear hb
 go_wp2_with fail
 refine Calls.mono (val65 _) ?_
 rintro e w12 ⟨rfl,hb⟩
 replace hS:=A8 (hS.out.call hb)
 clear hb
 go_wp2
 go_ret
 exact ⟨rfl,hS.out.mem.below⟩
theorem Gf {l:List Int} (h:∀ z∈l,Fits z) (k:Nat):Fits (atv l k):=by
 unfold atv
 by_cases hk:k % l.length<l.length
 ·rw [Bo hk];exact h _ (List.getElem_mem hk)
 ·rw [BT (by omega)];unfold Fits;decide
def vecN (l:List Int) (k:Nat):Int:=pkv (atv l k) 50
def vecL (n:Nat) (l:List Int):List ByteArray:=(List.range n).map fun k=>I (vecN l k)
theorem vecN_bd (l:List Int) (k:Nat):0≤vecN l k∧vecN l k≤49:=by
 have h1:=Av (c:=atv l k) (m:=50) (by decide)
 have h2:=BF (c:=atv l k) (m:=50) (by decide)
 unfold vecN;omega
def wgtN (l:List Int) (k:Nat):Int:=pkv (atv l k) 101-50
def wgtL (n:Nat) (l:List Int):List ByteArray:=(List.range n).map fun k=>I (wgtN l k)
theorem K3 (l:List Int) (k:Nat):-50≤wgtN l k∧wgtN l k≤50:=by
 have h1:=Av (c:=atv l k) (m:=101) (by decide)
 have h2:=BF (c:=atv l k) (m:=101) (by decide)
 unfold wgtN;omega
theorem Jw (n:Nat) (l:List Int) (den:Int) (lv:Value) (w:World) (hn:n≤1000000) (hl:Sl w lv l) (hf:∀ z∈l,Fits z) (hd:Fits den) :
  Calls Tryz.prog 18 #[.int .i64 n,lv,.int .i64 den] w fun e w'=>∃ v,e=.returned (.agg #[v,.string (I (1+pkv den 9))])∧SlS w' v (vecL n l)∧Below w.heap.size w w':=by
 have HL:=A8 hl
 have AH:=A8 (fun W (hW:Below w.heap.size w W) (k:Nat)=>CK lv l k W (HL.out.below hW))
 have PH:=A8 (fun W (k:Nat)=>by have:=Au (atv l k) 50 (Gf hf k) (by decide) (by decide) W;exact (this:Calls Tryz.prog 35 #[.int .i64 (atv l k),.int .i64 50] W (Rets W (.int .i64 (vecN l k)))))
 have FH:=A8 (fun W (k:Nat)=>Fj (x:=vecN l k) (by have:=vecN_bd l k;unfold Fits;omega) W)
 have P1:=A8 (fun W=>Au den 9 hd (by decide) (by decide) W)
 have hp0:=Av (c:=den) (m:=9) (by decide)
 have hp1:=BF (c:=den) (m:=9) (by decide)
 have F1:=A8 (fun W=>Fj (x:=1+pkv den 9) (by unfold Fits;omega) W)
 have hw1:IntKind.i64.wrap (1+pkv den 9)=1+pkv den 9:=IntWalk.i64_in _ (by omega)
 obtain ⟨D,hD⟩:∃ D,D=I (1+pkv den 9):=⟨_,rfl⟩
 rw [←hD] at F1 ⊢
 replace hD:=A8 hD
 have hend:Hid (∀ B W v,Mem w [(B,#[v,.string D],30),(w.heap.size,#[.slice none 0 0,.string ⟨#[]⟩],30)] [⟨9,1,v,n,((List.range n).map fun k=>Value.string (I (vecN l k)))⟩] W→∀ W',W'=(W.setCell ⟨w.heap.size,0,none⟩ v).setCell ⟨w.heap.size,1,none⟩ (.string D)→SlS W' v (vecL n l)∧Below w.heap.size w W'):=A8 (fun B W v h W' e=>by
  have h1:=(Mem.out2 (h.perm (List.Perm.swap _ _ _)) v (.string D))
  rw [←e] at h1
  refine ⟨SlS.of_own (n:=n) (l:=vecL n l) (e:=9) (base:=w.heap.size) ?_,h1.below⟩
  have h2:=h1.own0
  unfold vecL
  rw [List.map_map]
  exact h2)
 generalize pkv den 9=p1 at *
 clear hl hp0 hp1 hd
 obtain ⟨V1,e1,S1,s1⟩:=(Mem.start w).add' #[.slice none 0 0,.string ⟨#[]⟩] 30
 have hM:=A8 S1
 clear S1 s1 HL
 go_enter Tryz.func18,Tryz.ntmps18
 go_upto_region 1 with fail
 rw [←e1]
 clear e1
 go_wp2_with fail
 refine Calls.mono (P1.out _) ?_
 rintro e w1 ⟨rfl,hb⟩
 replace hM:=A8 (hM.out.call hb)
 clear hb
 go_wp2_with fail
 refine Calls.mono (F1.out _) ?_
 rintro e w2 ⟨rfl,hb⟩
 replace hM:=A8 (hM.out.call hb)
 clear hb hw1
 obtain ⟨V3,e3,S3,s3⟩:=hM.out.add' #[.slice none 0 0,.string D] 30
 obtain ⟨B,hB⟩:∃ B,B=w2.heap.size:=⟨_,rfl⟩
 rw [←hB] at S3
 replace hM:=A8 (S3.row0 9 1)
 clear S3 s3
 go_upto_region 2 with fail
 rw [←e3,←hB]
 clear e3 hB
 go_wp2_with fail
 go_loopw [8] (fun s wr=>∃ (j:Nat) (v:Value),s=.int .i64 j∧j≤n∧Hid (Mem w [(B,#[v,.string D],30),(w.heap.size,#[.slice none 0 0,.string ⟨#[]⟩],30)] [⟨9,1,v,j,((List.range j).map fun k=>Value.string (I (vecN l k)))⟩] wr)) (fun s _=>n-(intOf s).toNat)
 case atStart=>exact ⟨0,.slice none 0 0,rfl,by omega,hM⟩
 case round =>
  clear hM
  obtain ⟨j,v,rfl,hj,hM⟩:=hrel
  by_cases hjc:j<n
  case neg =>
   have hjc':¬ (j:Int)<n:=by omega
   obtain rfl:j=n:=by omega
   have hfin:=A8 (hend.out _ _ _ hM.out _ rfl)
   have z0:=(hM.out.cell _ _ _ (.head _) 0).trans (show _=some v from rfl)
   have z1:=(hM.out.cell _ _ _ (.head _) 1).trans (show _=some (Value.string D) from rfl)
   obtain ⟨k0,k1,f0,f1,y0,y1⟩:=GE (hM.out.blks _ (.tail _ (.head _))) v (.string D)
   obtain ⟨a,cp,hsv⟩:=hfin.out.1.shape
   generalize (vecL j l).length=nm at *
   subst hsv
   clear hM hend
   go_wp2
   exact bodyPost_ret (v:=.agg #[.slice a nm cp,.string D]) (by simp [results,Tryz.results18,go_sem,y0,y1]) rfl ⟨_,rfl,hfin.out.1,hfin.out.2⟩
  case pos =>
   have hjc':(j:Int)<n:=by omega
   go_upto_region 5 with fail
   refine L7 (bV:=B) (n:=j) (j:=j) (w:=w) (L:=[(w.heap.size,#[.slice none 0 0,.string ⟨#[]⟩],30)]) (R:=[]) (A8 (by omega)) (A8 fun W hW=>AH.out W hW.below j) (A8 fun W hW=>PH.out W j) (A8 fun W hW=>FH.out W j) hM rfl rfl rfl rfl (by kernel_rfl) ?_
   intro xx G cap W5 hM5
   simp only [sets,List.foldl_cons,List.foldl_nil,A5,A6]
   clear hM
   have hxs:((List.range (j+1)).map fun k=>Value.string (I (vecN l k)))=((List.range j).map fun k=>Value.string (I (vecN l k)))++[.string (I (vecN l j))]:=by rw [List.range_succ,List.map_append];rfl
   rw [←hxs] at hM5
   clear hxs
   go_wp2_with fail
   go_roundw
   case rel=>exact ⟨j+1,_,by go_num,by omega,hM5⟩
   case measure=>simp [intOf];omega
theorem Iw (n:Nat) (l:List Int) (lv:Value) (w:World) (hn:n≤1000000) (hl:Sl w lv l) (hf:∀ z∈l,Fits z) :
  Calls Tryz.prog 27 #[.int .i64 n,lv] w fun e w'=>∃ v,e=.returned v∧SlS w' v (wgtL n l)∧Below w.heap.size w w':=by
 have HL:=A8 hl
 have AH:=A8 (fun W (hW:Below w.heap.size w W) (k:Nat)=>CK lv l k W (HL.out.below hW))
 have PH:=A8 (fun W (k:Nat)=>Au (atv l k) 101 (Gf hf k) (by decide) (by decide) W)
 have FH:=A8 (fun W (k:Nat)=>Fj (x:=wgtN l k) (by have:=K3 l k;unfold Fits;omega) W)
 have hend:Hid (∀ W v,Mem w [] [⟨9,1,v,n,((List.range n).map fun k=>Value.string (I (wgtN l k)))⟩] W→SlS W v (wgtL n l)∧Below w.heap.size w W):=A8 (fun W v h=>by
  refine ⟨SlS.of_own (n:=n) (l:=wgtL n l) (e:=9) (base:=w.heap.size) ?_,h.below⟩
  have h2:=h.own0
  unfold wgtL
  rw [List.map_map]
  exact h2)
 have hM:=A8 ((Mem.start w).row0 9 1)
 clear hl HL
 go_enter Tryz.func27,Tryz.ntmps27
 go_wp2_with fail
 go_loopw [5,6] (fun u s wr=>∃ (j:Nat),s=.int .i64 j∧j≤n∧Hid (Mem w [] [⟨9,1,u,j,((List.range j).map fun k=>Value.string (I (wgtN l k)))⟩] wr)) (fun _ s _=>n-(intOf s).toNat)
 case atStart=>exact ⟨0,rfl,by omega,hM⟩
 case round =>
  clear hM
  obtain ⟨j,rfl,hj,hM⟩:=hrel
  by_cases hjc:j<n
  case neg =>
   have hjc':¬ (j:Int)<n:=by omega
   obtain rfl:j=n:=by omega
   have hfin:=A8 (hend.out _ _ hM.out)
   clear hM hend
   go_wp2
   go_ret
   exact ⟨_,rfl,hfin.out.1,hfin.out.2⟩
  case pos =>
   have hjc':(j:Int)<n:=by omega
   have hw:IntKind.i64.wrap (pkv (atv l j) 101-50)=wgtN l j:=IntWalk.i64_in _ (by have:=K3 l j;unfold wgtN at this;omega)
   have A1:=A8 (fun W hW=>AH.out W hW j)
   have P1:=A8 (fun W=>PH.out W j)
   have F1:=A8 (fun W=>FH.out W j)
   have hxs:=A8 (show ((List.range (j+1)).map fun k=>Value.string (I (wgtN l k)))=((List.range j).map fun k=>Value.string (I (wgtN l k)))++[.string (I (wgtN l j))] by rw [List.range_succ,List.map_append];rfl)
   generalize pkv (atv l j) 101=p1 at *
   generalize atv l j=a1 at *
   generalize I (wgtN l j)=s1 at *
   generalize wgtN l j=g1 at *
   go_wp2_with fail
   refine Calls.mono (A1.out _ hM.out.below) ?_
   rintro e w1 ⟨rfl,hb⟩
   replace hM:=A8 (hM.out.call hb)
   clear hb
   go_wp2_with fail
   refine Calls.mono (P1.out _) ?_
   rintro e w2 ⟨rfl,hb⟩
   replace hM:=A8 (hM.out.call hb)
   clear hb
   go_wp2_with fail
   refine Calls.mono (F1.out _) ?_
   rintro e w3 ⟨rfl,hb⟩
   replace hM:=A8 (hM.out.call hb)
   clear hb
   go_wp2_with (at_builtin;refine En rfl rfl (hM.out.new _) rfl rfl ((Blk.new _ _ _).cell 0) (by omega) ?_;intro g2 c2 W8 hM8;rw [←hxs.out] at hM8)
   go_roundw
   case rel=>exact ⟨j+1,by go_num,by omega,A8 (by assumption)⟩
   case measure=>simp [intOf];omega
structure NumOk (W:World) (x:NumL) (vc vh:Value):Prop where
 c:Sl W vc x.coefs
 h:Sl W vh x.hidden
 f:Fits x.cols∧Fits x.rows∧Fits x.miss
 fc:∀ z∈x.coefs,Fits z
 fh:∀ z∈x.hidden,Fits z
theorem Cb {l:List Int} (h:∀ z∈l,Fits z) (k:Nat):Fits (atv l k):=by
 unfold atv
 by_cases hk:k % l.length<l.length
 ·rw [Bo hk];exact h _ (List.getElem_mem hk)
 ·rw [BT (by omega)];unfold Fits;decide
theorem NumOk.below {W W':World} {x:NumL} {vc vh:Value} (h:NumOk W x vc vh) (hb:Below W.heap.size W W'):NumOk W' x vc vh:=⟨h.c.below hb,h.h.below hb,h.f,h.fc,h.fh⟩
theorem made_ok {W:World} {x:NumL} {vc vh:Value} (h:NumOk W x vc vh):Calls Tryz.prog 11 #[.agg #[.int .i64 x.cols,.int .i64 x.rows,vc,vh,.int .i64 x.miss]] W fun e w'=>∃ a cp,e=.returned (.agg #[.int .i64 x.c,.slice a x.r cp])∧SlE w' (.slice a x.r cp) x.made∧Below W.heap.size W w' :=
 (Mg x vc vh W h.c h.h h.f (fun k=>⟨Cb h.fc k,Cb h.fh k⟩)).mono fun e w' ⟨v,he,hs,hb⟩=>by
  obtain ⟨a,cp,rfl⟩:=hs.shape
  rw [x.made_len] at hs he
  exact ⟨a,cp,he,hs,hb⟩
theorem Lb {W:World} {x:NumL} {vc vh:Value} (h:NumOk W x vc vh):Calls Tryz.prog 30 #[.agg #[.int .i64 x.cols,.int .i64 x.rows,vc,vh,.int .i64 x.miss]] W (Rets W (.bool x.misses)):=by
 obtain ⟨a,ca,rfl⟩:=h.c.shape
 obtain ⟨b,cb,rfl⟩:=h.h.shape
 exact ES x.cols x.rows x.miss _ _ _ _ _ _ _ _ rfl rfl h.f.2.2 W
theorem Jy (x:NumL):x.made.length≤8:=by rw [x.made_len];have:=x.r_eq;omega
end
section
open Go.RowKit
theorem Lc {W:World} {x:NumL} {vc vh:Value} (h:NumOk W x vc vh):Calls Tryz.prog 17 #[.agg #[.int .i64 x.cols,.int .i64 x.rows,vc,vh,.int .i64 x.miss]] W fun e w'=>∃ a n cp,e=.returned (.agg #[.slice a n cp,.string ⟨#[49]⟩])∧SlS w' (.slice a n cp) x.hidN∧Below W.heap.size W w' :=
 (Jv x vc vh W h.c h.h h.f.1 (fun k=>Cb h.fh k)).mono fun e w' ⟨v,he,hs,hb⟩=>by
  obtain ⟨a,cp,rfl⟩:=hs.shape
  exact ⟨a,_,cp,he,hs,hb⟩
theorem Ld (n:Nat) (l:List Int) (den:Int) (lv:Value) (W:World) (hn:n≤1000000) (hl:Sl W lv l) (hf:∀ z∈l,Fits z) (hd:Fits den) :
  Calls Tryz.prog 18 #[.int .i64 n,lv,.int .i64 den] W fun e w'=>∃ a m cp,e=.returned (.agg #[.slice a m cp,.string (I (1+pkv den 9))])∧SlS w' (.slice a m cp) (vecL n l)∧Below W.heap.size W w' :=
 (Jw n l den lv W hn hl hf hd).mono fun e w' ⟨v,he,hs,hb⟩=>by
  obtain ⟨a,cp,rfl⟩:=hs.shape
  exact ⟨a,_,cp,he,hs,hb⟩
end
section
open Go.RowKit Go.ChangeShapes
section
variable {H:Type} {enc:TypeId×Value→H} {P:Program}
theorem JB {W W':World} (hb:Below W.heap.size W W') {p:MemPlace} (h:p.block<W.heap.size):W.sameAt W' p:=by
 cases p with
 | cell b off=>exact hb.cell (p:=⟨b,off,none⟩) h
 | map b=>exact hb.block b h
theorem Lf (hl:laidOutB P=true) {t:TypeId} (hr:P.readableRec t=true) (hrow:t<P.types.size) (hsz:∀ u e,InBook P t u→P.underlying u=some (.slice e)→0<P.cellsOf e)
  {W W':World} (hb:Below W.heap.size W W') {v:Value} {d:DataW H} {ps:List MemPlace} (hlt:∀ p∈ps,p.block<W.heap.size) (h:DataW.Trod enc P W 0 (fun _=>true) true t v d ps) :
  DataW.Trod enc P W' 0 (fun b=>decide (b<W.heap.size)) true t v d ps:=by
 obtain ⟨n,hn⟩:=h
 refine ⟨n,DataW.trod_stays (kids_book hl hr) (fun {u e} hT hu=>hsz u e hT hu) (fun e=>by cases e) ⟨hrow,book_self t⟩ hn (fun p hp=>JB hb (hlt p hp)) (fun p hp=>by simpa using hlt p hp)⟩
def rowsB (P:Program) (ts:List TypeId):Bool:=ts.all fun t=>P.readableRec t&&decide (t<P.types.size)&&(P.book t).all fun u=>match P.underlying u with
 | some (.slice e)=>decide (0<P.cellsOf e)
 | _=>true
theorem Gh (hl:laidOutB P=true) {W W':World} (hb:Below W.heap.size W W'):∀ {ts:List TypeId} {vs:List Value} {ds:List (DataW H)} {ps:List MemPlace},rowsB P ts=true →
  DataW.TrodAll enc P W 0 (fun _=>true) true ts vs ds ps→DataW.TrodAll enc P W' 0 (fun b=>decide (b<W.heap.size)) true ts vs ds ps
 | [],[],[],_,_,h=>h
 | t :: ts,v :: vs,d :: ds,ps,hr,h=>by
  have hlt:=h.lt
  obtain ⟨p,q,h1,h2,e⟩:=h
  unfold rowsB at hr
  rw [List.all_cons,Bool.and_eq_true] at hr
  obtain ⟨hr1,hr2⟩:=hr
  simp only [Bool.and_eq_true,decide_eq_true_eq,List.all_eq_true] at hr1
  obtain ⟨⟨r1,r2⟩,r3⟩:=hr1
  refine ⟨p,q,Lf hl r1 r2 (fun u e hT hu=>?_) hb (fun x hx=>hlt x (by rw [e];exact List.mem_append_left _ hx)) h1,Gh hl hb hr2 h2,e⟩
  have:=r3 u hT.2
  rw [hu] at this
  simpa using this
end
end
section
open Go.RowKit Go.ChangeShapes Go.WideShapes Go.Deep
theorem Lg {w:World} {b:Nat} {x:TypeId×Nat} (h:w.shape? b=some x):b<w.heap.size:=by
 unfold World.shape? at h
 by_cases hb:b<w.heap.size
 ·exact hb
 ·rw [Array.getElem?_eq_none (by omega)] at h;simp at h
theorem DO {n:Int} (h:(Lit.int .i64 n).wf=true):Fits n:=by simpa [Fits,Lit.wf,IntKind.min,IntKind.max,IntKind.signed,IntKind.bits] using h
section
variable {H:Type} {enc:TypeId×Value→H} {W:World} {sp:Nat→Bool} {held:Bool}
theorem Gi {t e:TypeId} {k b0 fuel:Nat} {v:Value} {y:DataW H×List MemPlace} (hu:Tryz.prog.underlying t=some (.slice e)) (hc:Tryz.prog.cellsOf e=k) (hk:Cell.okWide Tryz.prog W .any b0 t v) (h:DataW.trod enc Tryz.prog W 0 sp held fuel t [v]=some y) :
  v=.slice none 0 0∨∃ b off len cap,v=.slice (some ⟨b,off,none⟩) len cap∧len≤cap∧cap≤maxLen∧b<W.heap.size∧∀ i,i<len→∃ (cs:List Value) (n:Nat) (x:DataW H×List MemPlace),cs.length=k∧(∀ (j:Nat) (h:j<cs.length),W.cell? ⟨b,off+i*k+j,none⟩=some cs[j])∧DataW.trod enc Tryz.prog W 0 sp held n e cs=some x:=by
 rcases open_slice hu h with ⟨hcs,_⟩ | ⟨a,len,cap,m,n,D,Pl,hcs,_,hl,hm,hmm,_,hx⟩
 ·left;simpa using hcs
 ·right
  obtain rfl:v=.slice (some a) len cap:=by simpa using hcs
  have hk2:W.has Tryz.prog .any b0 a e cap:=by
   simp only [Cell.okWide,hu,Cell.ok] at hk
   exact hk.2.2
  obtain ⟨_,hsp,row,cells,hsh,_⟩:=hk2
  have hlt:=Lg hsh
  obtain ⟨b,off,spot⟩:=a
  obtain rfl:spot=none:=hsp
  refine ⟨b,off,len,cap,rfl,hl,hm,hlt,fun i hi=>?_⟩
  obtain ⟨cs',h1,h2⟩:=hx i (by rw [hmm];split <;> omega)
  rw [hc] at h1
  obtain ⟨_,hlen,hcell⟩:=World.cells?_some h1
  refine ⟨cs',n,_,hlen,fun j hj=>?_,h2⟩
  have q:=hcell j (by omega)
  rw [add_add,add_plain,←Nat.add_assoc] at q
  rw [q,List.getElem?_eq_getElem hj]
theorem IH {t e:TypeId} {b0:Nat} {v:Value} {d:DataW H} {p:List MemPlace} (hu:Tryz.prog.underlying t=some (.slice e)) (hv:Value.okWide Tryz.prog W .any b0 t v) (h:DataW.Trod enc Tryz.prog W 0 sp held t v d p):∃ fuel,Cell.okWide Tryz.prog W .any b0 t v∧DataW.trod enc Tryz.prog W 0 sp held fuel t [v]=some (d,p):=by
 obtain ⟨a,len,cap,rfl⟩:=okWide_slice hu hv
 obtain ⟨fuel,hf⟩:=h
 exact ⟨fuel,by simpa [Value.okWide,hu] using hv,hf⟩
theorem Du {b0 fuel:Nat} {v:Value} {y:DataW H×List MemPlace} (hk:Cell.okWide Tryz.prog W .any b0 22 v) (h:DataW.trod enc Tryz.prog W 0 sp held fuel 22 [v]=some y):∃ l:List Int,Sl W v l∧∀ z∈l,Fits z:=by
 have hi:Tryz.prog.underlying 3=some (.int .i64):=by kernel_rfl
 rcases Gi Tryz.underlying22 (k:=1) (by kernel_rfl) hk h with rfl | ⟨b,off,len,cap,rfl,hl,hm,hlt,hx⟩
 ·exact ⟨[],Sl.nil W,fun z hz=>by cases hz⟩
 ·have each:∀ i,i<len→∃ z:Int,W.cell? ⟨b,off+i,none⟩=some (.int .i64 z)∧Fits z:=fun i hi'=>by
   obtain ⟨cs,n,x,hlen,hcell,ht⟩:=hx i hi'
   match cs,hlen with
   | [c0],_ =>
    obtain ⟨z0,e0,_,f0⟩:=DataW.trod_int hi ht
    have q:=hcell 0 (by simp)
    rw [Nat.mul_one] at q
    simp at e0
    subst e0
    exact ⟨z0,q,DO f0⟩
  obtain ⟨q,hq⟩:=choose_lt (α:=Int) (h:=each)
  refine ⟨(List.range len).map q,.inr ⟨b,off,cap,by simp,by simpa using hl,hm,hlt,fun j hj=>?_⟩,fun d hd=>?_⟩
  ·have hj':j<len:=by simpa using hj
   rw [D2 _ hj'];exact (hq j hj').1
  ·obtain ⟨i,hi',rfl⟩:=List.mem_map.1 hd
   exact (hq i (List.mem_range.1 hi')).2
theorem Fv {b0 fuel:Nat} {v:Value} {y:DataW H×List MemPlace} (hk:Cell.okWide Tryz.prog W .any b0 28 v) (h:DataW.trod enc Tryz.prog W 0 sp held fuel 28 [v]=some y):∃ l:List ByteArray,SlS W v l∧∀ s∈l,s.size≤maxLen:=by
 rcases Gi Tryz.underlying28 (k:=1) (by kernel_rfl) hk h with rfl | ⟨b,off,len,cap,rfl,hl,hm,hlt,hx⟩
 ·exact ⟨[],SlG.nil W,fun z hz=>by cases hz⟩
 ·have each:∀ i,i<len→∃ s:ByteArray,W.cell? ⟨b,off+i,none⟩=some (.string s)∧s.size≤maxLen:=fun i hi'=>by
   obtain ⟨cs,n,x,hlen,hcell,ht⟩:=hx i hi'
   match cs,hlen with
   | [c0],_ =>
    obtain ⟨z0,e0,_,f0⟩:=DataW.trod_string Tryz.underlying9 ht
    have q:=hcell 0 (by simp)
    rw [Nat.mul_one] at q
    simp at e0
    subst e0
    exact ⟨z0,q,f0⟩
  haveI:Inhabited ByteArray:=⟨⟨#[]⟩⟩
  obtain ⟨q,hq⟩:=choose_lt (α:=ByteArray) (h:=each)
  refine ⟨(List.range len).map q,.inr ⟨b,off,cap,by simp,by simpa using hl,hm,hlt,fun j x hj=>?_⟩,fun d hd=>?_⟩
  ·have hj':j<len:=by have:=(List.getElem?_eq_some_iff.1 hj).1;simpa using this
   rw [List.getElem?_map,List.getElem?_range hj'] at hj
   cases hj
   rw [Nat.mul_one];exact (hq j hj').1
  ·obtain ⟨i,hi',rfl⟩:=List.mem_map.1 hd
   exact (hq i (List.mem_range.1 hi')).2
theorem Lh:Tryz.prog.cellTypes Tryz.prog.depth 24=some [3,3,22,22,3]:=by kernel_rfl
theorem Mt {b0:Nat} {v:Value} {d:DataW H} {p:List MemPlace} (hv:Value.okWide Tryz.prog W .any b0 24 v) (h:DataW.Trod enc Tryz.prog W 0 sp held 24 v d p) :
  ∃ (x:NumL) (vc vh:Value),v=.agg #[.int .i64 x.cols,.int .i64 x.rows,vc,vh,.int .i64 x.miss]∧NumOk W x vc vh:=by
 have hi:Tryz.prog.underlying 3=some (.int .i64):=by kernel_rfl
 simp only [Value.okWide,Tryz.underlying24] at hv
 obtain ⟨cs,rfl,hsz,ts,hts,hlen,hrow⟩:=hv
 rw [Lh] at hts
 cases hts
 obtain ⟨fuel,hf⟩:=h
 have hsz5:cs.size=5:=by
  have:Tryz.prog.cellsOf 24=5:=by kernel_rfl
  simpa [this] using hsz
 obtain ⟨csl⟩:=cs
 match csl,hsz5 with
 | [c0,c1,c2,c3,c4],_ =>
  obtain ⟨xs,n,_,_,hl,hlen5,hfs⟩:=DataW.trod_struct Tryz.underlying24 hf
  have hc1:Tryz.prog.cellsOf 3=1:=by kernel_rfl
  have hc2:Tryz.prog.cellsOf 22=1:=by kernel_rfl
  have hx5:xs.length=5:=hlen5
  match xs,hx5 with
  | [y0,y1,y2,y3,y4],_ =>
  have g0:DataW.trod enc Tryz.prog W 0 sp held n 3 [c0]=some y0:=by have:=hfs 0 _ rfl;simpa [hc1,Value.cells] using this
  have g1:DataW.trod enc Tryz.prog W 0 sp held n 3 [c1]=some y1:=by have:=hfs 1 _ rfl;simpa [hc1,Value.cells] using this
  have g2:DataW.trod enc Tryz.prog W 0 sp held n 22 [c2]=some y2:=by have:=hfs 2 _ rfl;simpa [hc2,Value.cells] using this
  have g3:DataW.trod enc Tryz.prog W 0 sp held n 22 [c3]=some y3:=by have:=hfs 3 _ rfl;simpa [hc2,Value.cells] using this
  have g4:DataW.trod enc Tryz.prog W 0 sp held n 3 [c4]=some y4:=by have:=hfs 4 _ rfl;simpa [hc1,Value.cells] using this
  obtain ⟨z0,e0,_,f0⟩:=DataW.trod_int hi g0
  obtain ⟨z1,e1,_,f1⟩:=DataW.trod_int hi g1
  obtain ⟨z4,e4,_,f4⟩:=DataW.trod_int hi g4
  obtain ⟨u2,hu2,k2⟩:=hrow 2 c2 rfl
  obtain ⟨u3,hu3,k3⟩:=hrow 3 c3 rfl
  cases hu2
  cases hu3
  obtain ⟨lc,hlc,flc⟩:=Du k2 g2
  obtain ⟨lh,hlh,flh⟩:=Du k3 g3
  simp at e0 e1 e4
  subst e0;subst e1;subst e4
  exact ⟨⟨z0,z1,lc,lh,z4⟩,c2,c3,rfl,hlc,hlh,⟨DO f0,DO f1,DO f4⟩,flc,flh⟩
theorem Fw {b0:Nat} {v:Value} {d:DataW H} {p:List MemPlace} (hv:Value.okWide Tryz.prog W .any b0 22 v) (h:DataW.Trod enc Tryz.prog W 0 sp held 22 v d p):∃ l:List Int,Sl W v l∧∀ z∈l,Fits z:=by
 obtain ⟨fuel,h1,h2⟩:=IH Tryz.underlying22 hv h
 exact Du h1 h2
theorem JC {b0:Nat} {v:Value} {d:DataW H} {p:List MemPlace} (hv:Value.okWide Tryz.prog W .any b0 28 v) (h:DataW.Trod enc Tryz.prog W 0 sp held 28 v d p):∃ l:List ByteArray,SlS W v l∧∀ s∈l,s.size≤maxLen:=by
 obtain ⟨fuel,h1,h2⟩:=IH Tryz.underlying28 hv h
 exact Fv h1 h2
end
section
variable {H:Type} {enc:TypeId×Value→H} {W:World} {sp:Nat→Bool} {held:Bool}
theorem Mu:Tryz.prog.cellTypes Tryz.prog.depth 30=some [28,9]:=by kernel_rfl
theorem Li {b0:Nat} {v:Value} {d:DataW H} {p:List MemPlace} (hv:Value.okWide Tryz.prog W .any b0 30 v) (h:DataW.Trod enc Tryz.prog W 0 sp held 30 v d p) :
  ∃ (vn:Value) (l:List ByteArray) (s:ByteArray),v=.agg #[vn,.string s]∧SlS W vn l∧(∀ s∈l,s.size≤maxLen)∧s.size≤maxLen:=by
 simp only [Value.okWide,Tryz.underlying30] at hv
 obtain ⟨cs,rfl,hsz,ts,hts,hlen,hrow⟩:=hv
 rw [Mu] at hts
 cases hts
 obtain ⟨fuel,hf⟩:=h
 have hsz2:cs.size=2:=by
  have:Tryz.prog.cellsOf 30=2:=by kernel_rfl
  simpa [this] using hsz
 obtain ⟨csl⟩:=cs
 match csl,hsz2 with
 | [c0,c1],_ =>
  obtain ⟨xs,n,_,_,hl,hlen2,hfs⟩:=DataW.trod_struct Tryz.underlying30 hf
  have hc1:Tryz.prog.cellsOf 9=1:=by kernel_rfl
  have hc2:Tryz.prog.cellsOf 28=1:=by kernel_rfl
  have hx2:xs.length=2:=hlen2
  match xs,hx2 with
  | [y0,y1],_ =>
  have g0:DataW.trod enc Tryz.prog W 0 sp held n 28 [c0]=some y0:=by have:=hfs 0 _ rfl;simpa [hc2,Value.cells] using this
  have g1:DataW.trod enc Tryz.prog W 0 sp held n 9 [c1]=some y1:=by have:=hfs 1 _ rfl;simpa [hc1,Value.cells] using this
  obtain ⟨z1,e1,_,f1⟩:=DataW.trod_string Tryz.underlying9 g1
  obtain ⟨u0,hu0,k0⟩:=hrow 0 c0 rfl
  cases hu0
  obtain ⟨l,hlc,flc⟩:=Fv k0 g0
  simp at e1
  subst e1
  exact ⟨c0,l,z1,rfl,hlc,flc,f1⟩
end
end
end Go.Proofs.YtcmomjnailihpaaGreatDoor
