/- MdC, Hid, SnC, Stay, SvL, LnOpen, MoW -/
import Derived.Test.YtcmomjnailihpaaGreatDoorXEqd
import Derived.Deep.DeepCutAuto
import Derived.OpenShut
import Derived.ChangeStays
import Derived.ChangeBook
import Derived.ChangeOld
import Derived.ChangeShapes
import Derived.Lib.SmallJoins
import Derived.Laws.IdiomArrays
import Derived.Deep.Strs
set_option maxHeartbeats 8000000
set_option maxRecDepth 100000
namespace Go.Proofs.YtcmomjnailihpaaGreatDoor
section
open Go.RowKit
attribute [local go_sem] Oper.semAt_some
theorem made_l0 {Q : Exit → Act → World → Prop} {u0 u2 u6 u7 u8 u9 u10 u11 u12 u13 u14 u15 u16 u17 u18 u19 u20 u21 u22 u23 u24 u25 u26 u27 u28 u29 u30 u31 u32 u33 u34 u35 u36 u37 u38 u39 u40 u41 u42 u43 u44 u45 u46 u47 u48 u49 u50 u51 u52 u53 u54 u55 u56 u57 u58 u59 u60 u61 u62 u63 u64 u65 u66 u67 u68 u69 u70 u71 u72 u73 u74 u75 u76 u77 u78 u79 u80 u81 u82 u83 u84 : Value} {x : NumL} {bN bS r c : Nat} {ac ah : Option Addr} {nc cc nh ch : Nat} {w W0 : World} {L : BLs} {R : List RowD} (hc : Hid (c = x.c)) (hr : Hid (r = x.r)) (hN : Hid ((bN, #[.int .i64 x.cols, .int .i64 x.rows, .slice ac nc cc, .slice ah nh ch, .int .i64 x.miss], 24) ∈ L))
  (AC : Hid (∀ W, Below w.heap.size w W → ∀ k : Nat, Calls Tryz.prog 36 #[.slice ac nc cc, .int .i64 k] W (Rets W (.int .i64 (atv x.coefs k))))) (AH : Hid (∀ W, Below w.heap.size w W → ∀ k : Nat, Calls Tryz.prog 36 #[.slice ah nh ch, .int .i64 k] W (Rets W (.int .i64 (atv x.hidden k))))) (hf : Hid (∀ k, Fits (atv x.coefs k) ∧ Fits (atv x.hidden k))) (hm : Hid (Fits x.miss)) (h0 : Hid (Mem w ((bS, #[.int .i64 c, .slice none 0 0], 27) :: L) R W0)) {body : Code} (hbody : getLoop Tryz.f11.body 0 = some body)
  (hQ : ∀ (fs : BLs) (sv : Value) (xs : List Value) (v5 v6 v7 v8 v18 v19 v20 v21 v22 v23 v24 v25 v26 v27 v28 v29 v30 v31 v32 v33 v34 v35 v36 v37 v38 v39 v40 v41 v42 v43 v44 v45 v46 v47 v48 v49 v50 v51 v52 v53 v54 v55 v56 v57 v58 v59 v60 v61 v62 v63 v64 v65 v66 v67 v68 v69 v70 v71 v72 v73 v74 v75 v76 v77 v78 v79 v80 v81 v82 v83 : Value) (W' : World), Hid (Mem w ((bS, #[.int .i64 c, sv], 27) :: (fs ++ L)) (⟨60, 2, sv, r, xs⟩ :: R) W' ∧ EqsAt fs ((List.range r).map x.row) xs) → Q (.exit 0) { tmps := List.toArray (u0::.pointer (some ⟨bN, 0, none⟩)::u2::.pointer (some ⟨bS, 0, none⟩)::.int .i64 r::v5::v6::v7::v8::u9::u10::u11::u12::u13::u14::u15::u16::u17::v18::v19::v20::v21::v22::v23::v24::v25::v26::v27::v28::v29::v30::v31::v32::v33::v34::v35::v36::v37::v38::v39::v40::v41::v42::v43::v44::v45::v46::v47::v48::v49::v50::v51::v52::v53::v54::v55::v56::v57::v58::v59::v60::v61::v62::v63::v64::v65::v66::v67::v68::v69::v70::v71::v72::v73::v74::v75::v76::v77::v78::v79::v80::v81::v82::v83::u84::[]), defers := [] } W') :
  (Code.loop body).wp Tryz.prog Q { tmps := List.toArray (u0::.pointer (some ⟨bN, 0, none⟩)::u2::.pointer (some ⟨bS, 0, none⟩)::.int .i64 r::.int .i64 0::u6::u7::u8::u9::u10::u11::u12::u13::u14::u15::u16::u17::u18::u19::u20::u21::u22::u23::u24::u25::u26::u27::u28::u29::u30::u31::u32::u33::u34::u35::u36::u37::u38::u39::u40::u41::u42::u43::u44::u45::u46::u47::u48::u49::u50::u51::u52::u53::u54::u55::u56::u57::u58::u59::u60::u61::u62::u63::u64::u65::u66::u67::u68::u69::u70::u71::u72::u73::u74::u75::u76::u77::u78::u79::u80::u81::u82::u83::u84::[]), defers := [] } W0 := by
 obtain rfl := Option.some.inj (hbody.symm.trans (rfl : getLoop Tryz.f11.body 0 = some _))
 clear hbody
 replace hQ := A8 hQ
 go_loopw [5] (fun s wr => ∃ (i : Nat) (fs : BLs) (sv : Value) (xs : List Value), s = .int .i64 i ∧ i ≤ r ∧ Hid (Mem w ((bS, #[.int .i64 c, sv], 27) :: (fs ++ L)) (⟨60, 2, sv, i, xs⟩ :: R) wr ∧ EqsAt fs ((List.range i).map x.row) xs)) (fun s _ => r - (intOf s).toNat)
 case atStart => exact ⟨0, [], .slice none 0 0, [], rfl, by omega, A8 ⟨h0.out.row0 60 2, EqsAt.nil _⟩⟩
 case round =>
  clear h0
  obtain ⟨i, fs, sv, xs, rfl, hi, hM⟩ := hrel
  by_cases hir : i < r
  case neg =>
   have hir' : ¬ (i : Int) < r := by omega
   obtain rfl : i = r := by omega
   go_wp2_with fail
   exact hQ.out fs sv xs _ _ _ _ _ _ _ _ _ _ _ _ _ _ _ _ _ _ _ _ _ _ _ _ _ _ _ _ _ _ _ _ _ _ _ _ _ _ _ _ _ _ _ _ _ _ _ _ _ _ _ _ _ _ _ _ _ _ _ _ _ _ _ _ _ _ _ _ _ _ _ hM
  case pos =>
   have hir' : (i : Int) < r := by omega
   obtain ⟨W1, eW, hM1, hB⟩ := hM.out.1.add' #[.slice none 0 0, .int .i64 0] 60
   have hE := A8 hM.out.2
   obtain ⟨B, eB⟩ : ∃ B, B = wr.heap.size := ⟨_, rfl⟩
   rw [← eB] at hM1 hB
   go_upto_region 7 with fail
   rw [← eW, ← eB]
   replace hM1 := A8 hM1
   clear hM eW hB eB
   go_wp2_with fail
   refine made_l2 (x := x) (bN := bN) (bS := bS) (bE := B) (i := i) (c := c) (cv := .slice ac nc cc) (hv := .slice ah nh ch) (w := w) (L := (bS, #[.int .i64 c, sv], 27) :: (fs ++ L)) (R := ⟨60, 2, sv, i, xs⟩ :: R) hc (A8 (by have := x.r_eq; have := hr.out; omega)) (A8 fun W hW => ⟨hW.cell _ _ _ (List.mem_cons_of_mem _ (List.mem_append_right _ hN.out)) 2, hW.cell _ _ _ (List.mem_cons_of_mem _ (List.mem_append_right _ hN.out)) 3⟩) (A8 fun W hW => hW.cell _ _ _ List.mem_cons_self 0) (A8 fun W hW k => AC.out W hW.below k) (A8 fun W hW k => AH.out W hW.below k) hf hM1 (by kernel_rfl) ?_
   intro vf u7 u8 u24 u25 u26 u27 u28 u29 u30 u31 u32 u33 u34 u35 u36 u37 u38 u39 u40 u41 u42 u43 u44 u45 u46 u47 u48 u49 u50 u51 u52 u53 u54 u55 u56 u57 W2 hM2
   clear hM1
   have hxs : ((List.range c).map fun k => Value.int .i64 (x.coef i k)) = ((List.range c).map (x.coef i)).map (Value.int .i64) := by rw [List.map_map]; rfl
   rw [hxs] at hM2
   clear hxs
   have hlen : ((List.range c).map (x.coef i)).length = c := by simp
   obtain ⟨gs, hin, hM3⟩ := hM2.out.freezeI (l := (List.range c).map (x.coef i)) hlen.symm
   obtain ⟨av, cp, rfl⟩ := hin.shape
   rw [hlen] at hin hM3 hM2
   clear hM2 hlen
   replace hin := A8 hin
   have hM3 := A8 hM3
   have hrb := x.r_eq
   have hrr := hr.out
   have hi5 : i ≤ 5 := by omega
   have hr5 : r ≤ 5 := by omega
   replace hrr := A8 hrr
   clear hrb
   have hre : Hid ((List.range (i + 1)).map x.row = (List.range i).map x.row ++ [((List.range c).map (x.coef i), x.val i)]) := A8 (by rw [List.range_succ, List.map_append, hc.out]; rfl)
   have hval : Hid (x.val i = if x.hit i then x.sum i c + pkv (x.miss.tdiv 30) 41 - 20 else x.sum i c) := A8 (by unfold NumL.val; rw [hc.out])
   have hsb := x.sum_small i (k := c) (by have := x.c_eq; have := hc.out; omega)
   have hmb := hm.out
   unfold Fits at hmb
   have hmem : Hid (∀ V, (bN, #[.int .i64 x.cols, .int .i64 x.rows, .slice ac nc cc, .slice ah nh ch, .int .i64 x.miss], 24) ∈ (gs ++ (B, #[.slice av c cp, .int .i64 V], 60) :: (bS, #[.int .i64 c, sv], 27) :: (fs ++ L) : BLs)) := A8 (fun V => List.mem_append_right _ (List.mem_cons_of_mem _ (List.mem_cons_of_mem _ (List.mem_append_right _ hN.out))))
   generalize x.sum i c = s0 at *
   have z0 := hM3.out.cell _ _ _ (hmem.out _) 0
   have z1 := hM3.out.cell _ _ _ (hmem.out _) 1
   have z2 := hM3.out.cell _ _ _ (hmem.out _) 2
   have z3 := hM3.out.cell _ _ _ (hmem.out _) 3
   have z4 := hM3.out.cell _ _ _ (hmem.out _) 4
   have MS := A8 (fun W => IP x.cols x.rows x.miss (.slice ac nc cc) (.slice ah nh ch) _ _ _ _ _ _ rfl rfl hm.out W)
   have hmd : Fits (x.miss.tdiv 3) := (tdivL3 hm.out).1
   have hmd2 : Fits (x.miss.tdiv 30) := (tdivL30 hm.out).1
   have hq1 : IntKind.i64.wrap (x.miss.tdiv 3) = x.miss.tdiv 3 := (tdivL3 hm.out).2
   have hq2 : IntKind.i64.wrap (x.miss.tdiv 30) = x.miss.tdiv 30 := (tdivL30 hm.out).2
   cases hmis : pkv x.miss 3 == 2
   case false =>
    have hv : Hid (x.val i = s0) := A8 (by rw [hval.out]; unfold NumL.hit NumL.misses; rw [hmis]; rfl)
    rw [hmis] at MS
    clear hmis hval
    go_wp2_with fail
    refine Calls.mono (MS.out _) ?_
    rintro e w3 ⟨rfl, hb⟩
    have hM3 := A8 (hM3.out.call hb)
    clear hb z0 z1 z2 z3 z4 hq1 hq2 hmd hmd2
    have hM6 := A8 (hM3.out.front2)
    have y0 := (hM3.out.cell _ _ _ (List.mem_append_right _ List.mem_cons_self) 0).trans (show _ = some (Value.slice av c cp) from rfl)
    have y1 := (hM3.out.cell _ _ _ (List.mem_append_right _ List.mem_cons_self) 1).trans (show _ = some (Value.int .i64 (s0)) from rfl)
    have y2 := (hM6.out.cell _ _ _ List.mem_cons_self 1).trans (show _ = some sv from rfl)
    clear hM3
    go_upto_region 5 with (at_builtin; refine Ch rfl rfl (hM6.out.new _) rfl rfl ((Blk.new _ _ _).cell 0) ((Blk.new _ _ _).cell 1) rfl rfl (by omega) ?_; intro g2 c2 W8 hM8; have q0 := hM8.cell bS _ _ (.head _) 1; have q1 := hM8.frozen bS _ _ (.head _) 1; replace hM8 := hM8.put0 1 (.slice (some ⟨g2, 0, none⟩) (i + 1) c2))
    go_wp2_with fail
    go_roundw
    case rel => exact ⟨i + 1, gs ++ fs, _, _, by go_num, by omega, A8 ⟨by rw [List.append_assoc]; assumption, by rw [hre.out, hv.out]; exact hE.out.snoc (hin.out.mono (fun p hp => List.mem_append_left _ hp)) (fun p hp => List.mem_append_right _ hp)⟩⟩
    case measure => simp [intOf]; omega
   case true =>
    have P3 := A8 (fun W => Bh (x.miss.tdiv 3) r hmd (by omega) (by omega) W)
    have P4 := A8 (fun W => Bh (x.miss.tdiv 30) 41 hmd2 (by decide) (by decide) W)
    have hp1 := AF (c := x.miss.tdiv 30) (m := 41) (by decide)
    have hp2 := Cm (c := x.miss.tdiv 30) (m := 41) (by decide)
    have hhit : Hid (x.hit i = ((i : Int) == pkv (x.miss.tdiv 3) r)) := A8 (by unfold NumL.hit NumL.misses; rw [hmis, hrr.out]; rfl)
    rw [hmis] at MS
    clear hmis
    generalize pkv (x.miss.tdiv 3) r = p3 at *
    generalize pkv (x.miss.tdiv 30) 41 = p4 at *
    go_wp2_with fail
    refine Calls.mono (MS.out _) ?_
    rintro e w3 ⟨rfl, hb⟩
    have hM3 := A8 (hM3.out.call hb)
    clear hb z0 z1 z2 z3 z4
    have z4 := hM3.out.cell _ _ _ (hmem.out _) 4
    go_wp2_with fail
    refine Calls.mono (P3.out _) ?_
    rintro e w4 ⟨rfl, hb⟩
    have hM3 := A8 (hM3.out.call hb)
    clear hb z4
    cases heq : (i : Int) == p3
    case false =>
     have hv : Hid (x.val i = s0) := A8 (by rw [hval.out, hhit.out, heq]; rfl)
     clear hval hhit
     have hM6 := A8 (hM3.out.front2)
     have y0 := (hM3.out.cell _ _ _ (List.mem_append_right _ List.mem_cons_self) 0).trans (show _ = some (Value.slice av c cp) from rfl)
     have y1 := (hM3.out.cell _ _ _ (List.mem_append_right _ List.mem_cons_self) 1).trans (show _ = some (Value.int .i64 (s0)) from rfl)
     have y2 := (hM6.out.cell _ _ _ List.mem_cons_self 1).trans (show _ = some sv from rfl)
     clear hM3
     go_upto_region 5 with (at_builtin; refine Ch rfl rfl (hM6.out.new _) rfl rfl ((Blk.new _ _ _).cell 0) ((Blk.new _ _ _).cell 1) rfl rfl (by omega) ?_; intro g2 c2 W8 hM8; have q0 := hM8.cell bS _ _ (.head _) 1; have q1 := hM8.frozen bS _ _ (.head _) 1; replace hM8 := hM8.put0 1 (.slice (some ⟨g2, 0, none⟩) (i + 1) c2))
     go_wp2_with fail
     go_roundw
     case rel => exact ⟨i + 1, gs ++ fs, _, _, by go_num, by omega, A8 ⟨by rw [List.append_assoc]; assumption, by rw [hre.out, hv.out]; exact hE.out.snoc (hin.out.mono (fun p hp => List.mem_append_left _ hp)) (fun p hp => List.mem_append_right _ hp)⟩⟩
     case measure => simp [intOf]; omega
    case true =>
     have hv : Hid (x.val i = s0 + p4 - 20) := A8 (by rw [hval.out, hhit.out, heq]; rfl)
     clear hval hhit
     go_upto_region 14 with fail
     refine LM (bN := bN) (bE := B) (v := .slice av c cp) (w := w) (L := gs ++ (bS, #[.int .i64 c, sv], 27) :: (fs ++ L)) (R := ⟨60, 2, sv, i, xs⟩ :: R) (ms := x.miss) (mq := x.miss.tdiv 30) (pk := p4) (sa := s0 + p4) (s0 := s0) (s1 := s0 + p4 - 20) hq2 (IntWalk.i64_in _ (by omega)) (IntWalk.i64_in _ (by omega)) (A8 fun W hW => hW.cell _ _ _ (List.mem_append_right _ (List.mem_cons_of_mem _ (List.mem_append_right _ hN.out))) 4) P4 (A8 hM3.out.front) (by kernel_rfl) ?_
     intro z69 z70 z71 z72 z73 z74 z75 z76 z77 W5 hM5
     have hM3 := A8 hM5
     clear hM5
     have hM6 := A8 (hM3.out.tail.front)
     have y0 := (hM3.out.cell _ _ _ List.mem_cons_self 0).trans (show _ = some (Value.slice av c cp) from rfl)
     have y1 := (hM3.out.cell _ _ _ List.mem_cons_self 1).trans (show _ = some (Value.int .i64 (s0 + p4 - 20)) from rfl)
     have y2 := (hM6.out.cell _ _ _ List.mem_cons_self 1).trans (show _ = some sv from rfl)
     clear hM3
     go_upto_region 5 with (at_builtin; refine Ch rfl rfl (hM6.out.new _) rfl rfl ((Blk.new _ _ _).cell 0) ((Blk.new _ _ _).cell 1) rfl rfl (by omega) ?_; intro g2 c2 W8 hM8; have q0 := hM8.cell bS _ _ (.head _) 1; have q1 := hM8.frozen bS _ _ (.head _) 1; replace hM8 := hM8.put0 1 (.slice (some ⟨g2, 0, none⟩) (i + 1) c2))
     go_wp2_with fail
     go_roundw
     case rel => exact ⟨i + 1, gs ++ fs, _, _, by go_num, by omega, A8 ⟨by rw [List.append_assoc]; assumption, by rw [hre.out, hv.out]; exact hE.out.snoc (hin.out.mono (fun p hp => List.mem_append_left _ hp)) (fun p hp => List.mem_append_right _ hp)⟩⟩
     case measure => simp [intOf]; omega
theorem LN (x : NumL) (vc vh : Value) (w : World) (hc : Sl w vc x.coefs) (hh : Sl w vh x.hidden) (hF : Fits x.cols ∧ Fits x.rows ∧ Fits x.miss) (hf : ∀ k, Fits (atv x.coefs k) ∧ Fits (atv x.hidden k)) :
  Calls Tryz.prog 11 #[.agg #[.int .i64 x.cols, .int .i64 x.rows, vc, vh, .int .i64 x.miss]] w fun e w' => ∃ v, e = .returned (.agg #[.int .i64 x.c, v]) ∧ SlE w' v x.made ∧ Below w.heap.size w w' := by
 obtain ⟨ac, cc, rfl⟩ := hc.shape
 obtain ⟨ah, ch, rfl⟩ := hh.shape
 have HC := A8 hc
 have HH := A8 hh
 have AC := A8 (fun W (hW : Below w.heap.size w W) (k : Nat) => Jk (.slice ac x.coefs.length cc) x.coefs k W (HC.out.below hW))
 have AH := A8 (fun W (hW : Below w.heap.size w W) (k : Nat) => Jk (.slice ah x.hidden.length ch) x.hidden k W (HH.out.below hW))
 replace hf := A8 hf
 have hm := A8 hF.2.2
 have P1 := A8 (fun W => Bh x.cols 8 hF.1 (by decide) (by decide) W)
 have P2 := A8 (fun W => Bh x.rows 5 hF.2.1 (by decide) (by decide) W)
 have hcq := x.c_eq
 have hrq := x.r_eq
 obtain ⟨c, hc0⟩ : ∃ c, c = x.c := ⟨_, rfl⟩
 obtain ⟨r, hr0⟩ : ∃ r, r = x.r := ⟨_, rfl⟩
 rw [← hc0] at hcq
 rw [← hr0] at hrq
 have hw1 : IntKind.i64.wrap (1 + pkv x.cols 8) = (c : Int) := by rw [← hcq.1]; exact IntWalk.i64_in _ (by omega)
 have hw2 : IntKind.i64.wrap (1 + pkv x.rows 5) = (r : Int) := by rw [← hrq.1]; exact IntWalk.i64_in _ (by omega)
 have hmade : Hid ((List.range r).map x.row = x.made) := A8 (by rw [hr0]; rfl)
 rw [← hc0]
 replace hc0 := A8 hc0
 replace hr0 := A8 hr0
 generalize pkv x.cols 8 = p1 at *
 generalize pkv x.rows 5 = p2 at *
 clear hc hh hF hcq hrq
 generalize x.coefs.length = nc at *
 generalize x.hidden.length = nh at *
 obtain ⟨V1, e1, S1, s1⟩ := (Mem.start w).add' #[.int .i64 x.cols, .int .i64 x.rows, .slice ac nc cc, .slice ah nh ch, .int .i64 x.miss] 24
 obtain ⟨V2, e2, S2, s2⟩ := S1.add' #[.int .i64 0, .slice none 0 0] 27
 rw [s1] at S2
 rw [e1] at e2
 have hM := A8 S2
 have z0 := S2.cell w.heap.size _ _ (.tail _ (.head _)) 0
 have z1 := S2.cell w.heap.size _ _ (.tail _ (.head _)) 1
 clear e1 S1 s1 S2 s2 HC HH
 go_enter Tryz.func11, Tryz.ntmps11
 go_upto_region 1 with fail
 rw [← e2]
 clear e2
 go_wp2_with fail
 refine Calls.mono (P1.out _) ?_
 rintro e w1 ⟨rfl, hb⟩
 replace hM := A8 (hM.out.call hb)
 clear z0 z1 hb
 obtain ⟨V3, e3, S3, s3⟩ := hM.out.add' #[.int .i64 c, .slice none 0 0] 27
 have z1 := S3.cell w.heap.size _ _ (.tail _ (.tail _ (.head _))) 1
 obtain ⟨B, hB⟩ : ∃ B, B = w1.heap.size := ⟨_, rfl⟩
 rw [← hB] at S3
 replace hM := A8 S3
 clear S3 s3
 go_upto_region 2 with fail
 rw [← e3, ← hB]
 clear e3 hB
 go_wp2_with fail
 refine Calls.mono (P2.out _) ?_
 rintro e w2 ⟨rfl, hb⟩
 replace hM := A8 (hM.out.call hb)
 clear z1 hb
 go_wp2_with fail
 refine made_l0 (x := x) (bN := w.heap.size) (bS := B) (r := r) (c := c) (ac := ac) (ah := ah) (nc := nc) (cc := cc) (nh := nh) (ch := ch) (w := w) (L := [(w.heap.size + 1, #[.int .i64 0, .slice none 0 0], 27), (w.heap.size, #[.int .i64 x.cols, .int .i64 x.rows, .slice ac nc cc, .slice ah nh ch, .int .i64 x.miss], 24)]) (R := []) hc0 hr0 (A8 (.tail _ (.head _))) AC AH hf hm hM (by kernel_rfl) ?_
 clear hM
 intro fs sv xs _ _ _ _ _ _ _ _ _ _ _ _ _ _ _ _ _ _ _ _ _ _ _ _ _ _ _ _ _ _ _ _ _ _ _ _ _ _ _ _ _ _ _ _ _ _ _ _ _ _ _ _ _ _ _ _ _ _ _ _ _ _ _ _ _ _ _ _ _ _ W3 hM
 have hF := Mem.front (A := (B, #[.int .i64 c, sv], 27) :: fs) (C := [(w.heap.size, #[.int .i64 x.cols, .int .i64 x.rows, .slice ac nc cc, .slice ah nh ch, .int .i64 x.miss], 24)]) hM.out.1
 have hrl : r = x.made.length := by rw [x.made_len]; exact hr0.out
 have hq := hM.out.2
 rw [hmade.out] at hq
 obtain ⟨a, cp, hsv⟩ := (hq.slE hM.out.1 hrl (fun p hp => List.mem_cons_of_mem _ (List.mem_append_left _ hp))).shape
 have hO := hF.out2 (.int .i64 c) sv
 have hsl := A8 (hq.slE hO hrl (fun p hp => List.mem_cons_of_mem _ (List.mem_append_left _ (List.mem_cons_of_mem _ hp))))
 have hfin := A8 hO.below
 obtain ⟨k0, k1, f0, f1, y0, y1⟩ := Jj (hF.blks _ List.mem_cons_self) (.int .i64 c) sv
 have z0 := (hM.out.1.cell _ _ _ List.mem_cons_self 0).trans (show _ = some (Value.int .i64 c) from rfl)
 have z1 := (hM.out.1.cell _ _ _ List.mem_cons_self 1).trans (show _ = some sv from rfl)
 clear hM hF hO hq
 generalize x.made.length = nm at *
 subst hsv
 replace hrl := A8 hrl
 clear hw1 hw2
 go_wp2
 exact bodyPost_ret (v := .agg #[.int .i64 c, .slice a nm cp]) (by simp [results, Tryz.results11, go_sem, y0, y1]) rfl ⟨_, rfl, hsl.out, hfin.out⟩
theorem LO {x : Int} (h : Fits x) (W : World) : Calls Tryz.prog 33 #[.int .i64 x] W (Rets W (.string (I x))) :=
 (Ka x h.1 h.2 W).mono fun e w' h => by
  obtain ⟨⟨r, h1, h2⟩, hb⟩ := h
  exact ⟨by rw [h1, h2], hb⟩
theorem same13 {W : World} {v u : Value} (h1 : SlS W v [⟨#[49]⟩, ⟨#[51]⟩]) (h2 : SlS W u [⟨#[49]⟩, ⟨#[51]⟩]) : Calls Tryz.prog 26 #[.agg #[v, .string ⟨#[52]⟩], .agg #[u, .string ⟨#[52]⟩]] W (Rets W (.bool true)) := by
 have := Lb v u _ _ ⟨#[52]⟩ ⟨#[52]⟩ W h1 h2
 simpa using this
theorem val11 {W : World} {v : Value} (h : SlE W v (twoL 1 1)) : Calls Tryz.prog 15 #[.agg #[.int .i64 2, v]] W (Rets W (.bool true)) := by
 have := BG 2 v (twoL 1 1) W h
 rwa [vl11] at this
theorem val65 (W : World) : Calls Tryz.prog 15 #[.agg #[.int .i64 65, .slice none 0 0]] W (Rets W (.bool false)) := by
 have := BG 65 _ [] W (SlG.nil W)
 rwa [vl65] at this
theorem Blk.new1 (W : World) (o : Obj) (cs : Array Value) (t : TypeId) : Blk ((W.alloc o).alloc (.cells cs t)) (W.heap.size + 1) cs t := by
 have := Blk.new (W.alloc o) cs t
 rwa [World.size_alloc] at this
theorem KM (w : World) (hE : Env w) : Calls Tryz.prog 9 #[] w (Rets w (.bool true)) := by
 replace hE := A8 hE
 obtain ⟨V1, bS, e1, b1, S1⟩ := (MS.start w).add' #[.string ⟨#[52]⟩, .string ⟨#[50]⟩] 9
 obtain ⟨V2, bV, e2, b2, S2⟩ := S1.add' #[.slice (some ⟨bS, 0, none⟩) 2 2, .string ⟨#[50]⟩] 30
 have hS := A8 (S2.slice (SlS.of2 (S2.mem.blks _ (.tail _ (.head _)))))
 rw [b1] at e2
 rw [e1] at e2 b2
 rw [World.size_alloc] at b2
 clear S1 S2 e1
 go_enter Tryz.func9, Tryz.ntmps9
 go_upto_region 2 with fail
 rw [← e2, ← b2]
 clear e2 b1 b2
 go_wp2_with fail
 refine Calls.mono (BA 3 1 _) ?_
 rintro e w1 ⟨v1, rfl, hv, hb⟩
 replace hS := A8 (hS.out.call hb)
 clear hb
 go_wp2_with fail
 refine Calls.mono (solve31 v1 _ (hS.out.env hE.out) hv) ?_
 rintro e w2 ⟨a1, l1, d1, k1, rfl, hs1, heq, hb⟩
 clear hv
 replace hS := A8 (hS.out.call hb)
 replace hS := A8 (hS.out.slice hs1)
 clear hb hs1
 replace heq := A8 heq
 obtain ⟨n1, hn1⟩ : ∃ n, n = l1.length := ⟨_, rfl⟩
 rw [← hn1] at hS ⊢
 replace hn1 := A8 hn1
 obtain ⟨W1, bA, e1, b1, S1⟩ := hS.out.add' #[.bool true, .slice a1 n1 k1, .string d1, .slice none 0 0] 38
 replace hS := A8 S1
 clear S1
 go_upto_region 3 with fail
 rw [← e1, ← b1]
 clear e1 b1
 go_wp2_with fail
 refine Calls.mono (BA 3 4 _) ?_
 rintro e w3 ⟨v2, rfl, hv, hb⟩
 replace hS := A8 (hS.out.call hb)
 clear hb
 go_wp2_with fail
 refine Calls.mono (solve34 v2 _ (hS.out.env hE.out) hv) ?_
 rintro e w4 ⟨a2, l2, k2, rfl, hs2, hrf, hb⟩
 clear hv
 replace hS := A8 (hS.out.call hb)
 replace hS := A8 (hS.out.slice hs2)
 clear hb hs2
 replace hrf := A8 hrf
 obtain ⟨n2, hn2⟩ : ∃ n, n = l2.length := ⟨_, rfl⟩
 rw [← hn2] at hS ⊢
 replace hn2 := A8 hn2
 obtain ⟨W1, bB, e1, b1, S1⟩ := hS.out.add' #[.bool false, .slice none 0 0, .string ⟨#[]⟩, .slice a2 n2 k2] 38
 replace hS := A8 S1
 clear S1
 go_upto_region 4 with fail
 rw [← e1, ← b1]
 clear e1 b1
 go_wp2_with fail
 refine Calls.mono (solve00 _ _ ((hS.out.new _).env hE.out) (SlE.of1 (Blk.new _ _ _))) ?_
 rintro e w5 ⟨a3, d3, k3, rfl, hb⟩
 replace hS := A8 (hS.out.new _ |>.call hb)
 clear hb
 obtain ⟨W1, bC, e1, b1, S1⟩ := hS.out.add' #[.bool true, .slice a3 0 k3, .string d3, .slice none 0 0] 38
 replace hS := A8 S1
 clear S1
 go_upto_region 5 with fail
 rw [← e1, ← b1]
 clear e1 b1
 go_wp2_with fail
 refine Calls.mono (solve01 _ _ ((hS.out.new _).env hE.out) (SlE.of1 (Blk.new _ _ _))) ?_
 rintro e w6 ⟨a4, k4, rfl, hb⟩
 replace hS := A8 (hS.out.new _ |>.call hb)
 clear hb
 obtain ⟨W1, bD, e1, b1, S1⟩ := hS.out.add' #[.bool false, .slice none 0 0, .string ⟨#[]⟩, .slice a4 1 k4] 38
 replace hS := A8 S1
 clear S1
 go_upto_region 6 with fail
 rw [← e1, ← b1]
 clear e1 b1
 go_wp2_with fail
 refine Calls.mono (mix_ok { p := 1, q := 3, na := [⟨#[49]⟩, ⟨#[48]⟩], nb := [⟨#[48]⟩, ⟨#[49]⟩], da := ⟨#[49]⟩, db := ⟨#[49]⟩ } _ _ _ (((hS.out.new _).new _).env hE.out) ((SlS.of2 (Blk.new _ _ _)).below ((Below.refl _ _).alloc (Aa _) _)) (SlS.of2 (Blk.new1 _ _ _ _)) (by kernel_rfl)) ?_
 intro e w5 hmx
 unfold MixP at hmx
 rw [mix13] at hmx
 obtain ⟨hb, v5, hs5, rfl⟩ := hmx
 obtain ⟨a5, k5, rfl⟩ := hs5.shape
 replace hS := A8 ((hS.out.new _ |>.new _).call hb)
 replace hS := A8 (hS.out.slice hs5)
 clear hb hs5
 obtain ⟨W1, bM, e1, b1, S1⟩ := hS.out.add' #[.slice a5 2 k5, .string ⟨#[52]⟩] 30
 replace hS := A8 S1
 clear S1
 go_upto_region 7 with fail
 rw [← e1, ← b1]
 clear e1 b1
 go_wp2_with fail
 refine Calls.mono (solve10 _ _ (SlE.of1 (Blk.new _ _ _))) ?_
 rintro e w8 ⟨rfl, hb⟩
 replace hS := A8 (hS.out.new _ |>.call hb)
 clear hb
 obtain ⟨W1, bN, e1, b1, S1⟩ := hS.out.add' #[.bool false, .slice none 0 0, .string ⟨#[]⟩, .slice none 0 0] 38
 replace hS := A8 S1
 clear S1
 go_upto_region 8 with fail
 rw [← e1, ← b1]
 clear e1 b1
 go_upto_region 10 with fail
 have rf := hrf
 clear hrf
 have hn1' := hn1.out
 have hn2' := hn2.out
 subst hn1'
 subst hn2'
 refine KJ (bV := bV) (bA := bA) (bB := bB) (bC := bC) (bD := bD) (bS := bS) (a1 := a1) (n1 := l1.length) (k1 := k1) (a2 := a2) (n2 := l2.length) (k2 := k2) (a3 := a3) (k3 := k3) (a4 := a4) (k4 := k4) (d1 := d1) (w := W1) (W0 := W1) (L := []) (R := []) (A8 fun W hW => (hS.out.call hW.below).cell bA _ _ (.tail _ (.tail _ (.tail _ (.tail _ (.tail _ (.head _)))))) 0) (A8 fun W hW => (hS.out.call hW.below).cell bA _ _ (.tail _ (.tail _ (.tail _ (.tail _ (.tail _ (.head _)))))) 1) (A8 fun W hW => (hS.out.call hW.below).cell bA _ _ (.tail _ (.tail _ (.tail _ (.tail _ (.tail _ (.head _)))))) 2) (A8 fun W hW => (hS.out.call hW.below).cell bV _ _ (.tail _ (.tail _ (.tail _ (.tail _ (.tail _ (.tail _ (.head _))))))) 0) (A8 fun W hW => (hS.out.call hW.below).cell bV _ _ (.tail _ (.tail _ (.tail _ (.tail _ (.tail _ (.tail _ (.head _))))))) 1) (A8 fun W hW => (by have := KC _ _ l1 _ d1 ⟨#[50]⟩ W ((hS.out.call hW.below).env hE.out) ((hS.out.call hW.below).ss _ (.tail _ (.tail _ (.head _)))) ((hS.out.call hW.below).ss _ (.tail _ (.tail _ (.tail _ (.head _))))); rwa [heq.out] at this)) (A8 fun W hW => (hS.out.call hW.below).cell bA _ _ (.tail _ (.tail _ (.tail _ (.tail _ (.tail _ (.head _)))))) 3) (A8 fun W hW => (hS.out.call hW.below).cell bB _ _ (.tail _ (.tail _ (.tail _ (.tail _ (.head _))))) 0) (A8 fun W hW => (BA 3 4 W)) (A8 fun W hW => (hS.out.call hW.below).cell bB _ _ (.tail _ (.tail _ (.tail _ (.tail _ (.head _))))) 3) (A8 fun W v hW hv => (by have := AW 2 v _ (twoL 3 4) l2 W ((hS.out.call hW.below).env hE.out) hv ((hS.out.call hW.below).ss _ (.tail _ (.head _))); rwa [rf.out] at this)) (A8 fun W hW => (hS.out.call hW.below).cell bC _ _ (.tail _ (.tail _ (.tail _ (.head _)))) 0) (A8 fun W hW => (hS.out.call hW.below).cell bC _ _ (.tail _ (.tail _ (.tail _ (.head _)))) 1) (A8 fun W hW => (hS.out.call hW.below).cell bD _ _ (.tail _ (.tail _ (.head _))) 0) (A8 fun W hW => (hS.out.call hW.below).cell bD _ _ (.tail _ (.tail _ (.head _))) 3) (A8 (Mem.start W1)) rfl rfl rfl rfl rfl rfl (by kernel_rfl) ?_
 intro xx W2 hx14 hW2
 simp only [sets, List.foldl_cons, List.foldl_nil, A5, A6, hx14]
 replace hS := A8 (hS.out.call hW2.out.below)
 clear hW2 heq rf
 go_upto_region 11 with fail
 refine KL (bV := bV) (L := []) (R := []) (A8 fun W hW => (BA 3 1 W)) (A8 fun W hW => (hS.out.call hW.below).cell bV _ _ (.tail _ (.tail _ (.tail _ (.tail _ (.tail _ (.tail _ (.head _))))))) 0) (A8 fun W hW => (hS.out.call hW.below).cell bV _ _ (.tail _ (.tail _ (.tail _ (.tail _ (.tail _ (.tail _ (.head _))))))) 1) (A8 fun W v hW hv => (by have := Cz 2 v _ (twoL 3 1) _ ⟨#[50]⟩ W ((hS.out.call hW.below).env hE.out) hv ((hS.out.call hW.below).ss _ (.tail _ (.tail _ (.tail _ (.head _))))); rwa [ck31] at this)) (A8 fun W hW => (BA 3 2 W)) (A8 fun W hW => (hS.out.call hW.below).cell bV _ _ (.tail _ (.tail _ (.tail _ (.tail _ (.tail _ (.tail _ (.head _))))))) 0) (A8 fun W hW => (hS.out.call hW.below).cell bV _ _ (.tail _ (.tail _ (.tail _ (.tail _ (.tail _ (.tail _ (.head _))))))) 1) (A8 fun W v hW hv => (by have := Cz 2 v _ (twoL 3 2) _ ⟨#[50]⟩ W ((hS.out.call hW.below).env hE.out) hv ((hS.out.call hW.below).ss _ (.tail _ (.tail _ (.tail _ (.head _))))); rwa [ck32] at this)) (A8 fun W hW => (BA 3 4 W)) (A8 fun W v g hW hv hg => (by have := AW 2 v _ (twoL 3 4) _ W ((hS.out.call hW.below).env hE.out) hv (SlS.of2 hg); rwa [rf34] at this)) (A8 fun W hW => (BA 3 4 W)) (A8 fun W v g hW hv hg => (by have := AW 2 v _ (twoL 3 4) _ W ((hS.out.call hW.below).env hE.out) hv (SlS.of2 hg); rwa [rf34n] at this)) (A8 fun W hW => (BA 3 1 W)) (A8 fun W v g hW hv hg => (by have := AW 2 v _ (twoL 3 1) _ W ((hS.out.call hW.below).env hE.out) hv (SlS.of2 hg); rwa [rf31n] at this)) (A8 (Mem.start _)) rfl rfl (by kernel_rfl) ?_
 intro xx W3 hx15 hW3
 simp only [sets, List.foldl_cons, List.foldl_nil, A5, A6, hx15]
 replace hS := A8 (hS.out.call hW3.out.below)
 clear hW3
 have z0 := (hS.out.cell bM _ _ (.tail _ (.head _)) 0).trans (show _ = some (Value.slice a5 2 k5) from rfl)
 have z1 := (hS.out.cell bM _ _ (.tail _ (.head _)) 1).trans (show _ = some (Value.string ⟨#[52]⟩) from rfl)
 go_wp2_with fail
 refine Calls.mono (same13 (hS.out.new _ |>.ss _ (.head _)) (SlS.of2 (Blk.new _ _ _))) ?_
 rintro e w9 ⟨rfl, hb⟩
 replace hS := A8 (hS.out.new _ |>.call hb)
 clear hb z0 z1
 go_wp2_with fail
 refine Calls.mono (BA 1 1 _) ?_
 rintro e w10 ⟨v9, rfl, hv, hb⟩
 replace hS := A8 (hS.out.call hb)
 clear hb
 go_wp2_with fail
 refine Calls.mono (val11 hv) ?_
 rintro e w11 ⟨rfl, hb⟩
 clear hv
 replace hS := A8 (hS.out.call hb)
 clear hb
 go_wp2_with fail
 refine Calls.mono (val65 _) ?_
 rintro e w12 ⟨rfl, hb⟩
 replace hS := A8 (hS.out.call hb)
 clear hb
 go_wp2
 go_ret
 exact ⟨rfl, hS.out.mem.below⟩
end
section
open Go.RowKit Go.ChangeShapes
section
variable {H : Type} {enc : TypeId × Value → H} {P : Program}
theorem Jc {W W' : World} (hb : Below W.heap.size W W') {p : MemPlace} (h : p.block < W.heap.size) : W.sameAt W' p := by
 cases p with
 | cell b off => exact hb.cell (p := ⟨b, off, none⟩) h
 | map b => exact hb.block b h
theorem KN (hl : laidOutB P = true) {t : TypeId} (hr : P.readableRec t = true) (hrow : t < P.types.size) (hsz : ∀ u e, InBook P t u → P.underlying u = some (.slice e) → 0 < P.cellsOf e)
  {W W' : World} (hb : Below W.heap.size W W') {v : Value} {d : DataW H} {ps : List MemPlace} (hlt : ∀ p ∈ ps, p.block < W.heap.size) (h : DataW.Trod enc P W 0 (fun _ => true) true t v d ps) :
  DataW.Trod enc P W' 0 (fun b => decide (b < W.heap.size)) true t v d ps := by
 obtain ⟨n, hn⟩ := h
 refine ⟨n, DataW.trod_stays (kids_book hl hr) (fun {u e} hT hu => hsz u e hT hu) (fun e => by cases e) ⟨hrow, book_self t⟩ hn (fun p hp => Jc hb (hlt p hp)) (fun p hp => by simpa using hlt p hp)⟩
def rowsB (P : Program) (ts : List TypeId) : Bool := ts.all fun t => P.readableRec t && decide (t < P.types.size) && (P.book t).all fun u => match P.underlying u with
 | some (.slice e) => decide (0 < P.cellsOf e)
 | _ => true
theorem G6 (hl : laidOutB P = true) {W W' : World} (hb : Below W.heap.size W W') : ∀ {ts : List TypeId} {vs : List Value} {ds : List (DataW H)} {ps : List MemPlace}, rowsB P ts = true →
  DataW.TrodAll enc P W 0 (fun _ => true) true ts vs ds ps → DataW.TrodAll enc P W' 0 (fun b => decide (b < W.heap.size)) true ts vs ds ps
 | [], [], [], _, _, h => h
 | t :: ts, v :: vs, d :: ds, ps, hr, h => by
  have hlt := h.lt
  obtain ⟨p, q, h1, h2, e⟩ := h
  unfold rowsB at hr
  rw [List.all_cons, Bool.and_eq_true] at hr
  obtain ⟨hr1, hr2⟩ := hr
  simp only [Bool.and_eq_true, decide_eq_true_eq, List.all_eq_true] at hr1
  obtain ⟨⟨r1, r2⟩, r3⟩ := hr1
  refine ⟨p, q, KN hl r1 r2 (fun u e hT hu => ?_) hb (fun x hx => hlt x (by rw [e]; exact List.mem_append_left _ hx)) h1, G6 hl hb hr2 h2, e⟩
  have := r3 u hT.2
  rw [hu] at this
  simpa using this
end
end
section
open Go.RowKit
attribute [local go_sem] Oper.semAt_some
structure NumOk (W : World) (x : NumL) (vc vh : Value) : Prop where
 c : Sl W vc x.coefs
 h : Sl W vh x.hidden
 f : Fits x.cols ∧ Fits x.rows ∧ Fits x.miss
 fc : ∀ z ∈ x.coefs, Fits z
 fh : ∀ z ∈ x.hidden, Fits z
theorem If {l : List Int} (h : ∀ z ∈ l, Fits z) (k : Nat) : Fits (atv l k) := by
 unfold atv
 by_cases hk : k % l.length < l.length
 ·rw [BB hk]; exact h _ (List.getElem_mem hk)
 ·rw [Cn (by omega)]; unfold Fits; decide
theorem NumOk.below {W W' : World} {x : NumL} {vc vh : Value} (h : NumOk W x vc vh) (hb : Below W.heap.size W W') : NumOk W' x vc vh := ⟨h.c.below hb, h.h.below hb, h.f, h.fc, h.fh⟩
theorem made_ok {W : World} {x : NumL} {vc vh : Value} (h : NumOk W x vc vh) : Calls Tryz.prog 11 #[.agg #[.int .i64 x.cols, .int .i64 x.rows, vc, vh, .int .i64 x.miss]] W fun e w' => ∃ a cp, e = .returned (.agg #[.int .i64 x.c, .slice a x.r cp]) ∧ SlE w' (.slice a x.r cp) x.made ∧ Below W.heap.size W w' :=
 (LN x vc vh W h.c h.h h.f (fun k => ⟨If h.fc k, If h.fh k⟩)).mono fun e w' ⟨v, he, hs, hb⟩ => by
  obtain ⟨a, cp, rfl⟩ := hs.shape
  rw [x.made_len] at hs he
  exact ⟨a, cp, he, hs, hb⟩
theorem Jb (x : NumL) : x.made.length ≤ 8 := by rw [x.made_len]; have := x.r_eq; omega
end
section
open Go.RowKit Go.ChangeShapes Go.WideShapes Go.Deep
theorem KO {w : World} {b : Nat} {x : TypeId × Nat} (h : w.shape? b = some x) : b < w.heap.size := by
 unfold World.shape? at h
 by_cases hb : b < w.heap.size
 ·exact hb
 ·rw [Array.getElem?_eq_none (by omega)] at h; simp at h
theorem DN {n : Int} (h : (Lit.int .i64 n).wf = true) : Fits n := by simpa [Fits, Lit.wf, IntKind.min, IntKind.max, IntKind.signed, IntKind.bits] using h
section
variable {H : Type} {enc : TypeId × Value → H} {W : World} {sp : Nat → Bool} {held : Bool}
theorem KP {t e : TypeId} {k b0 fuel : Nat} {v : Value} {y : DataW H × List MemPlace} (hu : Tryz.prog.underlying t = some (.slice e)) (hc : Tryz.prog.cellsOf e = k) (hk : Cell.okWide Tryz.prog W .any b0 t v) (h : DataW.trod enc Tryz.prog W 0 sp held fuel t [v] = some y) :
  v = .slice none 0 0 ∨ ∃ b off len cap, v = .slice (some ⟨b, off, none⟩) len cap ∧ len ≤ cap ∧ cap ≤ maxLen ∧ b < W.heap.size ∧ ∀ i, i < len → ∃ (cs : List Value) (n : Nat) (x : DataW H × List MemPlace), cs.length = k ∧ (∀ (j : Nat) (h : j < cs.length), W.cell? ⟨b, off + i * k + j, none⟩ = some cs[j]) ∧ DataW.trod enc Tryz.prog W 0 sp held n e cs = some x := by
 rcases open_slice hu h with ⟨hcs, _⟩ | ⟨a, len, cap, m, n, D, Pl, hcs, _, hl, hm, hmm, _, hx⟩
 ·left; simpa using hcs
 ·right
  obtain rfl : v = .slice (some a) len cap := by simpa using hcs
  have hk2 : W.has Tryz.prog .any b0 a e cap := by
   simp only [Cell.okWide, hu, Cell.ok] at hk
   exact hk.2.2
  obtain ⟨_, hsp, row, cells, hsh, _⟩ := hk2
  have hlt := KO hsh
  obtain ⟨b, off, spot⟩ := a
  obtain rfl : spot = none := hsp
  refine ⟨b, off, len, cap, rfl, hl, hm, hlt, fun i hi => ?_⟩
  obtain ⟨cs', h1, h2⟩ := hx i (by rw [hmm]; split <;> omega)
  rw [hc] at h1
  obtain ⟨_, hlen, hcell⟩ := World.cells?_some h1
  refine ⟨cs', n, _, hlen, fun j hj => ?_, h2⟩
  have q := hcell j (by omega)
  rw [add_add, add_plain, ← Nat.add_assoc] at q
  rw [q, List.getElem?_eq_getElem hj]
theorem LQ {t e : TypeId} {b0 : Nat} {v : Value} {d : DataW H} {p : List MemPlace} (hu : Tryz.prog.underlying t = some (.slice e)) (hv : Value.okWide Tryz.prog W .any b0 t v) (h : DataW.Trod enc Tryz.prog W 0 sp held t v d p) : ∃ fuel, Cell.okWide Tryz.prog W .any b0 t v ∧ DataW.trod enc Tryz.prog W 0 sp held fuel t [v] = some (d, p) := by
 obtain ⟨a, len, cap, rfl⟩ := okWide_slice hu hv
 obtain ⟨fuel, hf⟩ := h
 exact ⟨fuel, by simpa [Value.okWide, hu] using hv, hf⟩
theorem Dt {b0 fuel : Nat} {v : Value} {y : DataW H × List MemPlace} (hk : Cell.okWide Tryz.prog W .any b0 22 v) (h : DataW.trod enc Tryz.prog W 0 sp held fuel 22 [v] = some y) : ∃ l : List Int, Sl W v l ∧ ∀ z ∈ l, Fits z := by
 have hi : Tryz.prog.underlying 3 = some (.int .i64) := by kernel_rfl
 rcases KP Tryz.underlying22 (k := 1) (by kernel_rfl) hk h with rfl | ⟨b, off, len, cap, rfl, hl, hm, hlt, hx⟩
 ·exact ⟨[], Sl.nil W, fun z hz => by cases hz⟩
 ·have each : ∀ i, i < len → ∃ z : Int, W.cell? ⟨b, off + i, none⟩ = some (.int .i64 z) ∧ Fits z := fun i hi' => by
   obtain ⟨cs, n, x, hlen, hcell, ht⟩ := hx i hi'
   match cs, hlen with
   | [c0], _ =>
    obtain ⟨z0, e0, _, f0⟩ := DataW.trod_int hi ht
    have q := hcell 0 (by simp)
    rw [Nat.mul_one] at q
    simp at e0
    subst e0
    exact ⟨z0, q, DN f0⟩
  obtain ⟨q, hq⟩ := choose_lt (α := Int) (h := each)
  refine ⟨(List.range len).map q, .inr ⟨b, off, cap, by simp, by simpa using hl, hm, hlt, fun j hj => ?_⟩, fun d hd => ?_⟩
  ·have hj' : j < len := by simpa using hj
   rw [gi_map _ hj']; exact (hq j hj').1
  ·obtain ⟨i, hi', rfl⟩ := List.mem_map.1 hd
   exact (hq i (List.mem_range.1 hi')).2
theorem KQ : Tryz.prog.cellTypes Tryz.prog.depth 24 = some [3, 3, 22, 22, 3] := by kernel_rfl
theorem LR {b0 : Nat} {v : Value} {d : DataW H} {p : List MemPlace} (hv : Value.okWide Tryz.prog W .any b0 24 v) (h : DataW.Trod enc Tryz.prog W 0 sp held 24 v d p) :
  ∃ (x : NumL) (vc vh : Value), v = .agg #[.int .i64 x.cols, .int .i64 x.rows, vc, vh, .int .i64 x.miss] ∧ NumOk W x vc vh := by
 have hi : Tryz.prog.underlying 3 = some (.int .i64) := by kernel_rfl
 simp only [Value.okWide, Tryz.underlying24] at hv
 obtain ⟨cs, rfl, hsz, ts, hts, hlen, hrow⟩ := hv
 rw [KQ] at hts
 cases hts
 obtain ⟨fuel, hf⟩ := h
 have hsz5 : cs.size = 5 := by
  have : Tryz.prog.cellsOf 24 = 5 := by kernel_rfl
  simpa [this] using hsz
 obtain ⟨csl⟩ := cs
 match csl, hsz5 with
 | [c0, c1, c2, c3, c4], _ =>
  obtain ⟨xs, n, _, _, hl, hlen5, hfs⟩ := DataW.trod_struct Tryz.underlying24 hf
  have hc1 : Tryz.prog.cellsOf 3 = 1 := by kernel_rfl
  have hc2 : Tryz.prog.cellsOf 22 = 1 := by kernel_rfl
  have hx5 : xs.length = 5 := hlen5
  match xs, hx5 with
  | [y0, y1, y2, y3, y4], _ =>
  have g0 : DataW.trod enc Tryz.prog W 0 sp held n 3 [c0] = some y0 := by have := hfs 0 _ rfl; simpa [hc1, Value.cells] using this
  have g1 : DataW.trod enc Tryz.prog W 0 sp held n 3 [c1] = some y1 := by have := hfs 1 _ rfl; simpa [hc1, Value.cells] using this
  have g2 : DataW.trod enc Tryz.prog W 0 sp held n 22 [c2] = some y2 := by have := hfs 2 _ rfl; simpa [hc2, Value.cells] using this
  have g3 : DataW.trod enc Tryz.prog W 0 sp held n 22 [c3] = some y3 := by have := hfs 3 _ rfl; simpa [hc2, Value.cells] using this
  have g4 : DataW.trod enc Tryz.prog W 0 sp held n 3 [c4] = some y4 := by have := hfs 4 _ rfl; simpa [hc1, Value.cells] using this
  obtain ⟨z0, e0, _, f0⟩ := DataW.trod_int hi g0
  obtain ⟨z1, e1, _, f1⟩ := DataW.trod_int hi g1
  obtain ⟨z4, e4, _, f4⟩ := DataW.trod_int hi g4
  obtain ⟨u2, hu2, k2⟩ := hrow 2 c2 rfl
  obtain ⟨u3, hu3, k3⟩ := hrow 3 c3 rfl
  cases hu2
  cases hu3
  obtain ⟨lc, hlc, flc⟩ := Dt k2 g2
  obtain ⟨lh, hlh, flh⟩ := Dt k3 g3
  simp at e0 e1 e4
  subst e0; subst e1; subst e4
  exact ⟨⟨z0, z1, lc, lh, z4⟩, c2, c3, rfl, hlc, hlh, ⟨DN f0, DN f1, DN f4⟩, flc, flh⟩
theorem Fj {b0 : Nat} {v : Value} {d : DataW H} {p : List MemPlace} (hv : Value.okWide Tryz.prog W .any b0 22 v) (h : DataW.Trod enc Tryz.prog W 0 sp held 22 v d p) : ∃ l : List Int, Sl W v l ∧ ∀ z ∈ l, Fits z := by
 obtain ⟨fuel, h1, h2⟩ := LQ Tryz.underlying22 hv h
 exact Dt h1 h2
end
end
section
open Go.RowKit
attribute [local go_sem] Oper.semAt_some
theorem LP (x : NumL) (vc vh rv : Value) (row : List Int) (value : Int) (cv : Value) (col : List Int) (w : World) (hN : NumOk w x vc vh) (hr : Sl w rv row) (hrf : ∀ z ∈ row, Fits z) (hval : Fits value) (hc : Sl w cv col) (hcf : ∀ z ∈ col, Fits z) (hE0 : EnvQ w) :
  Calls Tryz.prog 8 #[.agg #[.int .i64 x.cols, .int .i64 x.rows, vc, vh, .int .i64 x.miss], rv, .int .i64 value, cv] w (Rets w (.bool true)) := by
 have hE := A8 hE0.env
 clear hE0
 obtain ⟨ac, cc, rfl⟩ := hN.c.shape
 obtain ⟨ah, ch, rfl⟩ := hN.h.shape
 have MD := A8 (fun W (hW : NumOk W x (.slice ac x.coefs.length cc) (.slice ah x.hidden.length ch)) => made_ok hW)
 replace hN := A8 hN
 generalize x.coefs.length = nc at *
 generalize x.hidden.length = nh at *
 obtain ⟨ra, rk, rfl, hr0⟩ := hr.row0
 obtain ⟨ca, ck, rfl, hc0⟩ := hc.row0
 have hgr : Hid (∀ k, Fits (gi row k)) := A8 (JH hrf)
 have hgc : Hid (∀ k, Fits (gi col k)) := A8 (JH hcf)
 obtain ⟨rn, hrn⟩ : ∃ n, n = row.length := ⟨_, rfl⟩
 obtain ⟨cn, hcn⟩ : ∃ n, n = col.length := ⟨_, rfl⟩
 rw [← hrn] at hr0 ⊢
 rw [← hcn] at hc0 ⊢
 replace hrn := A8 hrn
 replace hcn := A8 hcn
 replace hr0 := A8 hr0
 replace hc0 := A8 hc0
 clear hr hc hrf hcf
 obtain ⟨V1, bN, e1, b1, S1⟩ := (MS.start w).add' #[.int .i64 x.cols, .int .i64 x.rows, .slice ac nc cc, .slice ah nh ch, .int .i64 x.miss] 24
 have hS := A8 S1
 clear S1
 go_enter Tryz.func8, Tryz.ntmps8
 go_upto_region 1 with fail
 rw [← e1, ← b1]
 clear e1 b1
 go_wp2_with fail
 refine Calls.mono (KM _ (hS.out.env hE.out)) ?_
 rintro e w1 ⟨rfl, hb⟩
 replace hS := A8 (hS.out.call hb)
 clear hb
 go_upto_region 3 with fail
 have z0 := (hS.out.cell bN _ _ (.head _) 0).trans (show _ = some (Value.int .i64 x.cols : Value) from rfl)
 have z1 := (hS.out.cell bN _ _ (.head _) 1).trans (show _ = some (Value.int .i64 x.rows : Value) from rfl)
 have z2 := (hS.out.cell bN _ _ (.head _) 2).trans (show _ = some (Value.slice ac nc cc : Value) from rfl)
 have z3 := (hS.out.cell bN _ _ (.head _) 3).trans (show _ = some (Value.slice ah nh ch : Value) from rfl)
 have z4 := (hS.out.cell bN _ _ (.head _) 4).trans (show _ = some (Value.int .i64 x.miss : Value) from rfl)
 go_wp2_with fail
 refine Calls.mono (MD.out _ (hN.out.below hS.out.mem.below)) ?_
 rintro e w2 ⟨a, cp, rfl, hs, hb⟩
 replace hS := A8 (hS.out.call hb)
 clear hb z0 z1 z2 z3 z4
 have hce := x.c_eq
 have hre := x.r_eq
 have hvl := A8 x.made_valid
 have hml := A8 x.made_len
 have hms := A8 (Jb x)
 generalize x.made = rows at *
 obtain ⟨r, hr⟩ : ∃ r, r = x.r := ⟨_, rfl⟩
 obtain ⟨c, hc⟩ : ∃ c, c = x.c := ⟨_, rfl⟩
 rw [← hr] at hs hre hml ⊢
 rw [← hc] at hce hvl ⊢
 clear hr hc
 have hc0' := A8 (show 0 < c ∧ c ≤ 8 from by omega)
 have hr0' := A8 (show 0 < r ∧ r ≤ 5 from by omega)
 clear hce hre
 have hlen := A8 (show ∀ q ∈ rows, q.1.length = c from fun q hq => by have := (Au hvl.out).2.2.2 q hq; omega)
 obtain ⟨W1, bS, e1, b1, S1⟩ := hS.out.add' #[.int .i64 c, .slice a r cp] 27
 have hR := A8 (show SlE W1 (.slice a r cp) rows from by rw [e1]; exact hs.below ((Below.refl _ _).alloc (Aa _) _))
 replace hS := A8 S1
 clear S1 hs
 go_upto_region 4 with fail
 rw [← e1, ← b1]
 clear e1 b1
 have ltS := A8 ((hS.out.mem.blks _ (.head _)).lt)
 have hSc := A8 (⟨hS.out.cell bS _ _ (.head _) 0, hS.out.cell bS _ _ (.head _) 1⟩ : W1.cell? ⟨bS, 0, none⟩ = some (.int .i64 c) ∧ W1.cell? ⟨bS, 1, none⟩ = some (.slice a r cp))
 have hB1 := A8 hS.out.mem.below
 have hE1 := A8 (hS.out.env hE.out)
 clear hS hE MD hN
 replace hr0 := A8 (hr0.out.below hB1.out)
 replace hc0 := A8 (hc0.out.below hB1.out)
 have CP := A8 (fun W (hW : Below W1.heap.size W1 W) => by have := LK c _ rows W (hR.out.below hW) (by rw [hml.out]; exact hr0'.out.1) (by rw [hml.out]; have := hr0'.out; omega) (fun q hq => by rw [hlen.out q hq]; have := hc0'.out; omega); unfold CopyP at this; rw [hml.out] at this; exact this)
 have z0 := hSc.out.1
 have z1 := hSc.out.2
 go_wp2_with fail
 refine Calls.mono (CP.out _ (Below.refl _ _)) ?_
 rintro e w3 ⟨B, cap, cs, fs, rfl, hb, hM⟩
 replace hb := A8 hb
 replace hM := A8 hM
 clear z0 z1
 obtain ⟨Wn, bT, e1, b1, S1⟩ := hM.out.addB #[.int .i64 c, .slice (some ⟨B, 0, none⟩) r cap] 27
 replace hM := A8 S1
 clear S1
 go_upto_region 5 with fail
 rw [← e1, ← b1]
 clear e1 b1
 have PV := A8 (fun W => DU value 101 hval (by decide) (by decide) W)
 have hp1 := AF (c := value) (m := 101) (by decide)
 have hp2 := Cm (c := value) (m := 101) (by decide)
 generalize pkv value 101 = pv at *
 go_wp2_with fail
 refine Calls.mono (PV.out _) ?_
 rintro e w4 ⟨rfl, hb1⟩
 replace hM := A8 (hM.out.call hb1)
 clear hb1 PV
 obtain ⟨z, hz⟩ : ∃ z, z = pv - 50 := ⟨_, rfl⟩
 have hw : IntKind.i64.wrap (pv - 50) = z := by rw [hz]; exact IntWalk.i64_in _ (by omega)
 have hzb := A8 (show -50 ≤ z ∧ z ≤ 50 by omega)
 clear hz hp1 hp2
 obtain ⟨Wn, bE, e1, b1, S1⟩ := hM.out.addB #[.slice none 0 0, .int .i64 z] 60
 replace hM := A8 S1
 clear S1
 go_upto_region 6 with fail
 rw [← e1, ← b1]
 clear e1 b1
 clear hw
 have y0 := hM.out.old ltS.out hSc.out.1
 go_wp2_with fail
 refine more_l0 (bS := bS) (bE := bE) (c := c) (rn := rn) (rk := rk) (ra := ra) (row := row) (z := z) (w := W1) (L := _) (R := []) (A8 (by have := hc0'.out; omega)) hrn hr0 hgr (A8 fun W hW => hW.old ltS.out hSc.out.1) hM (by kernel_rfl) ?_
 intro vf _ _ _ _ _ _ _ _ _ _ _ _ _ _ _ _ _ _ _ _ _ _ _ _ W5 hM5
 clear hM y0 hr0 hgr hrn
 obtain ⟨mr, hmr⟩ : ∃ mr, mr = (List.range c).map (mc row) := ⟨_, rfl⟩
 have hx : ((List.range c).map fun j => Value.int .i64 (mc row j)) = mr.map (Value.int .i64) := by rw [hmr, List.map_map]; rfl
 have hml2 : mr.length = c := by rw [hmr]; simp
 have hmb := A8 (show ∀ y ∈ mr, -9 ≤ y ∧ y ≤ 9 from fun y hy => by rw [hmr] at hy; obtain ⟨k, _, rfl⟩ := List.mem_map.1 hy; exact JI row k)
 rw [hx] at hM5
 clear hx hmr
 obtain ⟨gs, hin, hM6⟩ := hM5.out.freezeI (l := mr) hml2.symm
 clear hM5
 obtain ⟨av, ak, rfl⟩ := hin.shape
 rw [hml2] at hin hM6
 have hvt := A8 (J8 (r := (mr, z)) hvl.out hms.out hml2 hmb.out hzb.out)
 replace hml2 := A8 hml2
 replace hin := A8 hin
 clear hmb hzb
 replace hM6 := A8 hM6
 have y0 := (hM6.out.cell bE _ _ (List.mem_append_right gs (.head _)) 0).trans (show _ = some (Value.slice av c ak) from rfl)
 have y1 := (hM6.out.cell bE _ _ (List.mem_append_right gs (.head _)) 1).trans (show _ = some (Value.int .i64 z) from rfl)
 have hTh := A8 (Mem.thawT hM6.out (n := r) (by rw [← hml.out]; exact hb.out.le) hb.out.mx hb.out.size)
 have y2 := (hTh.out.cell bT _ _ (.head _) 1).trans (show _ = some (Value.slice (some ⟨B, 0, none⟩) r cap) from rfl)
 have hr9 := hr0'.out.2
 clear hM6
 go_upto_region 14 with (at_builtin; refine Ch rfl rfl (hTh.out.new _) rfl rfl ((Blk.new _ _ _).cell 0) ((Blk.new _ _ _).cell 1) rfl rfl (by omega) ?_; intro g2 c2 W8 hM8; have q0 := hM8.cell bT _ _ (.head _) 1; have q1 := hM8.frozen bT _ _ (.head _) 1; replace hM8 := hM8.put0 1 (.slice (some ⟨g2, 0, none⟩) (r + 1) c2))
 obtain ⟨W6, e6⟩ : ∃ W6, W6 = W8.setCell ⟨bT, 1, none⟩ (.slice (some ⟨g2, 0, none⟩) (r + 1) c2) := ⟨_, rfl⟩
 rw [← e6] at hM8 ⊢
 clear e6 q0 q1 y0 y1 y2 hTh
 have hTl := A8 (show r + 1 = (rows ++ [(mr, z)]).length by rw [List.length_append, hml.out]; rfl)
 have hq : EqsAt (gs ++ fs) (rows ++ [(mr, z)]) (cs.toList.take (r * 2) ++ [.slice av c ak, .int .i64 z]) := by have := hb.out.eq.eqs; rw [hml.out] at this; exact this.snoc (hin.out.mono fun p hp => List.mem_append_left _ hp) (fun p hp => List.mem_append_right _ hp)
 have hT := A8 (show SlE W6 (.slice (some ⟨g2, 0, none⟩) (r + 1) c2) (rows ++ [(mr, z)]) from hq.slE hM8 hTl.out (fun p hp => .tail _ hp))
 have hTc := A8 (⟨(hM8.lt _ (.head _)), (hM8.cell _ _ _ (.head _) 0), (hM8.cell _ _ _ (.head _) 1)⟩ : bT < W6.heap.size ∧ W6.cell? ⟨bT, 0, none⟩ = some (.int .i64 c) ∧ W6.cell? ⟨bT, 1, none⟩ = some (.slice (some ⟨g2, 0, none⟩) (r + 1) c2))
 have hB2 := A8 hM8.below
 clear hM8 hq hin hb hml2
 have hSc6 := A8 (⟨A9 ltS.out hB2.out.size, (hB2.out.cell (p := ⟨bS, 0, none⟩) ltS.out).trans hSc.out.1, (hB2.out.cell (p := ⟨bS, 1, none⟩) ltS.out).trans hSc.out.2⟩ : bS < W6.heap.size ∧ W6.cell? ⟨bS, 0, none⟩ = some (.int .i64 c) ∧ W6.cell? ⟨bS, 1, none⟩ = some (.slice a r cp))
 have hR6 := A8 (hR.out.below hB2.out)
 have hE6 := A8 (hE1.out.below hB2.out (Aa _))
 replace hc0 := A8 (hc0.out.below hB2.out)
 replace CP := CP.out _ hB2.out
 have hB6 := A8 (hB1.out.trans (hB2.out.mono hB1.out.size))
 clear hSc ltS hR hE1 hB1 hB2
 have z0 := hSc6.out.2.1
 have z1 := hSc6.out.2.2
 go_wp2_with fail
 refine Calls.mono CP ?_
 rintro e w5 ⟨B2, cap2, cs2, fs2, rfl, hb, hM⟩
 replace hb := A8 hb
 replace hM := A8 hM
 clear z0 z1
 obtain ⟨Wn, bU, e1, b1, S1⟩ := hM.out.addB #[.int .i64 c, .slice (some ⟨B2, 0, none⟩) r cap2] 27
 replace hM := A8 S1
 clear S1
 go_upto_region 15 with fail
 rw [← e1, ← b1]
 clear e1 b1
 obtain ⟨c1, hc1⟩ : ∃ c1 : Nat, c1 = c + 1 := ⟨_, rfl⟩
 have hw : IntKind.i64.wrap ((c : Int) + 1) = (c1 : Int) := by rw [IntWalk.i64_in _ (by have := hc0'.out; omega), hc1]; rfl
 replace hc1 := A8 hc1
 have z0 := hM.out.old hSc6.out.1 hSc6.out.2.1
 have q0 := (hM.out.cell bU _ _ (.head _) 0).trans (show _ = some (Value.int .i64 c) from rfl)
 have q1 := hM.out.frozen bU _ _ (.head _) 0
 go_wp2_with fail
 refine more_l2 (bU := bU) (B := B2) (cap := cap2) (m := r) (cn := cn) (ck := ck) (ca := ca) (col := col) (rows := rows) (c1 := c1) (cs0 := cs2) (fs0 := fs2) (w := W6) (L := [(bU, #[.int .i64 c1, .slice (some ⟨B2, 0, none⟩) r cap2], 27)]) (R := []) (A8 ⟨hml.out.symm, by have := hr0'.out; omega⟩) hcn hc0 hgc (A8 fun q hq => by rw [hlen.out q hq]; have := hc0'.out; omega) (A8 (.head _)) (A8 ⟨(hM.out.put0 0 (.int .i64 c1)).rot, hb.out⟩) (by kernel_rfl) ?_
 intro cs' fs' _ _ _ _ _ _ _ _ _ _ _ _ _ _ _ _ _ _ _ _ _ _ _ _ _ _ _ _ _ _ _ _ _ W9 hM9
 clear z0 q0 q1 hw hM hb hcn hc0 hgc hlen CP
 have hU := A8 (show SlE W9 (.slice (some ⟨B2, 0, none⟩) r cap2) (wRows rows (mc col)) from by have := hM9.out.2.slE hM9.out.1 (fun p hp => List.mem_append_left _ hp); rwa [BJ, hml.out] at this)
 have hUc := A8 (⟨(hM9.out.1.lt _ (.tail _ (List.mem_append_right _ (.head _)))), (hM9.out.1.cell _ _ _ (.tail _ (List.mem_append_right _ (.head _))) 0), (hM9.out.1.cell _ _ _ (.tail _ (List.mem_append_right _ (.head _))) 1)⟩ : bU < W9.heap.size ∧ W9.cell? ⟨bU, 0, none⟩ = some (.int .i64 c1) ∧ W9.cell? ⟨bU, 1, none⟩ = some (.slice (some ⟨B2, 0, none⟩) r cap2))
 have hB9 := A8 hM9.out.1.below
 clear hM9
 have hSc69 := A8 (⟨A9 hSc6.out.1 hB9.out.size, (hB9.out.cell (p := ⟨bS, 0, none⟩) hSc6.out.1).trans hSc6.out.2.1, (hB9.out.cell (p := ⟨bS, 1, none⟩) hSc6.out.1).trans hSc6.out.2.2⟩ : bS < W9.heap.size ∧ W9.cell? ⟨bS, 0, none⟩ = some (.int .i64 c) ∧ W9.cell? ⟨bS, 1, none⟩ = some (.slice a r cp))
 have hTc9 := A8 (⟨A9 hTc.out.1 hB9.out.size, (hB9.out.cell (p := ⟨bT, 0, none⟩) hTc.out.1).trans hTc.out.2.1, (hB9.out.cell (p := ⟨bT, 1, none⟩) hTc.out.1).trans hTc.out.2.2⟩ : bT < W9.heap.size ∧ W9.cell? ⟨bT, 0, none⟩ = some (.int .i64 c) ∧ W9.cell? ⟨bT, 1, none⟩ = some (.slice (some ⟨g2, 0, none⟩) (r + 1) c2))
 have hR := A8 (hR6.out.below hB9.out)
 replace hT := A8 (hT.out.below hB9.out)
 have hE := A8 (hE6.out.below hB9.out (Aa _))
 have hB := A8 (hB6.out.trans (hB9.out.mono hB6.out.size))
 clear hSc6 hTc hR6 hE6 hB6 hB9
 have hvu := A8 (JF (f := mc col) hvl.out hc0'.out.2 (JI col))
 rw [show ((c + 1 : Nat) : Int) = (c1 : Int) by rw [hc1.out]] at hvu
 have hm8 := A8 (⟨by rw [← hTl.out]; have := hr0'.out; omega, by rw [BJ, hml.out]; have := hr0'.out; omega⟩ : (rows ++ [(mr, z)]).length ≤ 8 ∧ (wRows rows (mc col)).length ≤ 8)
 have hS2 := A8 (MS.start W9)
 have z0 := hS2.out.mem.old hSc69.out.1 hSc69.out.2.1
 have z1 := hS2.out.mem.old hSc69.out.1 hSc69.out.2.2
 go_wp2_with fail
 refine Calls.mono (CD c _ rows _ (hS2.out.env hE.out) (hR.out.below hS2.out.mem.below) hvl.out hms.out) ?_
 rintro e w3 ⟨hb, ⟨nv, nums1, d1, rfl, hs1, hck⟩ | ⟨wv, ws1, rfl, hs1, hrf⟩⟩
 ·obtain ⟨a1, k1, rfl⟩ := hs1.shape
  replace hck := A8 hck
  have hsz := A8 (show SolZ rows c (fun k => zS (sAt nums1 k)) (zS d1) from by have h1 := (B6 hck.out).2.2; have := Cc hck.out; rwa [show nums1.length = c by omega] at this)
  replace hS2 := A8 (hS2.out.call hb)
  replace hS2 := A8 (hS2.out.slice hs1)
  clear hb hs1 z0 z1
  obtain ⟨n1, hn1⟩ : ∃ n, n = nums1.length := ⟨_, rfl⟩
  rw [← hn1] at hS2 ⊢
  replace hn1 := A8 hn1
  obtain ⟨Wn, bA, e1, b1, S1⟩ := hS2.out.add' #[.bool true, .slice a1 n1 k1, .string d1, .slice none 0 0] 38
  replace hS2 := A8 S1
  clear S1
  go_upto_region 24 with fail
  rw [← e1, ← b1]
  clear e1 b1
  have z0 := hS2.out.mem.old hTc9.out.1 hTc9.out.2.1
  have z1 := hS2.out.mem.old hTc9.out.1 hTc9.out.2.2
  go_wp2_with fail
  refine Calls.mono (CD c _ (rows ++ [(mr, z)]) _ (hS2.out.env hE.out) (hT.out.below hS2.out.mem.below) hvt.out hm8.out.1) ?_
  rintro e w4 ⟨hb, ⟨nv2, nums2, d2, rfl, hs2, hck2⟩ | ⟨wv2, ws2, rfl, hs2, hrf2⟩⟩
  ·obtain ⟨a2, k2, rfl⟩ := hs2.shape
   replace hck2 := A8 hck2
   replace hS2 := A8 (hS2.out.call hb)
   replace hS2 := A8 (hS2.out.slice hs2)
   clear hb hs2 z0 z1
   obtain ⟨n2, hn2⟩ : ∃ n, n = nums2.length := ⟨_, rfl⟩
   rw [← hn2] at hS2 ⊢
   replace hn2 := A8 hn2
   obtain ⟨Wn, bB, e1, b1, S1⟩ := hS2.out.add' #[.bool true, .slice a2 n2 k2, .string d2, .slice none 0 0] 38
   replace hS2 := A8 S1
   clear S1
   go_upto_region 25 with fail
   rw [← e1, ← b1]
   clear e1 b1
   have z0 := hS2.out.mem.old hUc.out.1 hUc.out.2.1
   have z1 := hS2.out.mem.old hUc.out.1 hUc.out.2.2
   go_wp2_with fail
   refine Calls.mono (Ci c1 _ (wRows rows (mc col)) _ (hS2.out.env hE.out) (hU.out.below hS2.out.mem.below) (hvu.out) (hm8.out.2) (by rw [hc1.out]; exact J9 hvl.out hsz.out)) ?_
   rintro e w5 ⟨nv3, nums3, d3, rfl, hs3, hck3, hb⟩
   obtain ⟨a3, k3, rfl⟩ := hs3.shape
   replace hck3 := A8 hck3
   replace hS2 := A8 (hS2.out.call hb)
   replace hS2 := A8 (hS2.out.slice hs3)
   clear hb hs3 z0 z1
   obtain ⟨n3, hn3⟩ : ∃ n, n = nums3.length := ⟨_, rfl⟩
   rw [← hn3] at hS2 ⊢
   replace hn3 := A8 hn3
   obtain ⟨Wn, bC, e1, b1, S1⟩ := hS2.out.add' #[.bool true, .slice a3 n3 k3, .string d3, .slice none 0 0] 38
   replace hS2 := A8 S1
   clear S1
   go_upto_region 26 with fail
   rw [← e1, ← b1]
   clear e1 b1
   have y0 := (hS2.out.cell bB _ _ (.tail _ (.head _)) 0).trans (show _ = some (Value.bool true : Value) from rfl)
   have y1 := (hS2.out.cell bB _ _ (.tail _ (.head _)) 1).trans (show _ = some (Value.slice a2 n2 k2 : Value) from rfl)
   have y2 := (hS2.out.cell bB _ _ (.tail _ (.head _)) 2).trans (show _ = some (Value.string d2 : Value) from rfl)
   have y3 := (hS2.out.cell bB _ _ (.tail _ (.head _)) 3).trans (show _ = some (Value.slice none 0 0 : Value) from rfl)
   have x0 := (hS2.out.cell bC _ _ (.head _) 0).trans (show _ = some (Value.bool true : Value) from rfl)
   have x1 := (hS2.out.cell bC _ _ (.head _) 1).trans (show _ = some (Value.slice a3 n3 k3 : Value) from rfl)
   have x2 := (hS2.out.cell bC _ _ (.head _) 2).trans (show _ = some (Value.string d3 : Value) from rfl)
   have x3 := (hS2.out.cell bC _ _ (.head _) 3).trans (show _ = some (Value.slice none 0 0 : Value) from rfl)
   have z0 := hS2.out.mem.old hSc69.out.1 hSc69.out.2.1
   have z1 := hS2.out.mem.old hSc69.out.1 hSc69.out.2.2
   have CK := Cz c _ _ rows nums2 d2 _ (hS2.out.env hE.out) (hR.out.below hS2.out.mem.below) (hS2.out.ss _ (.tail _ (.head _)))
   rw [J7 hvl.out hck2.out] at CK
   go_wp2_with fail
   refine Calls.mono CK ?_
   rintro e w8 ⟨rfl, hb⟩
   replace hS2 := A8 (hS2.out.call hb)
   clear hb z0 z1 y0 y1 y2 y3 x0 x1 x2 x3 CK
   have x0 := (hS2.out.cell bC _ _ (.head _) 0).trans (show _ = some (Value.bool true : Value) from rfl)
   have x1 := (hS2.out.cell bC _ _ (.head _) 1).trans (show _ = some (Value.slice a3 n3 k3 : Value) from rfl)
   have x2 := (hS2.out.cell bC _ _ (.head _) 2).trans (show _ = some (Value.string d3 : Value) from rfl)
   have x3 := (hS2.out.cell bC _ _ (.head _) 3).trans (show _ = some (Value.slice none 0 0 : Value) from rfl)
   have v0 := (hS2.out.cell bA _ _ (.tail _ (.tail _ (.head _))) 0).trans (show _ = some (Value.bool true : Value) from rfl)
   have v1 := (hS2.out.cell bA _ _ (.tail _ (.tail _ (.head _))) 1).trans (show _ = some (Value.slice a1 n1 k1 : Value) from rfl)
   have v2 := (hS2.out.cell bA _ _ (.tail _ (.tail _ (.head _))) 2).trans (show _ = some (Value.string d1 : Value) from rfl)
   have v3 := (hS2.out.cell bA _ _ (.tail _ (.tail _ (.head _))) 3).trans (show _ = some (Value.slice none 0 0 : Value) from rfl)
   go_upto_region 31 with fail
   clear v0 v1 v2 v3 x0 x1 x2 x3
   have hck1' := (B6 hck.out).2.2
   have hn1' := A8 (show nums1.length ≤ 1000000 from by have := hc0'.out; omega)
   clear hck1'
   refine I6 (bA := bA) (n1 := n1) (k1 := k1) (a1 := a1) (d1 := d1) (nums := nums1) (L := []) (R := []) hn1' (A8 fun W hW => (hS2.out.call hW.below).ss _ (.tail _ (.tail _ (.head _)))) (A8 fun W hW => (hS2.out.call hW.below).cell bA _ _ (.tail _ (.tail _ (.head _))) 1) (A8 fun W hW => (hS2.out.call hW.below).cell bA _ _ (.tail _ (.tail _ (.head _))) 2) (A8 (Mem.start _)) rfl rfl (by kernel_rfl) ?_
   intro xx _ _ G capG bV W10 hx23 hM10
   simp only [sets, List.foldl_cons, List.foldl_nil, A5, A6, hx23]
   replace hS2 := A8 (hS2.out.call hM10.out.below)
   have hV := A8 (show SlS W10 (.slice (some ⟨G, 0, none⟩) (nums1.length + 1) capG) (nums1 ++ [⟨#[48]⟩]) from SlS.of_own (by have := hM10.out.own0; rw [List.map_append]; exact this))
   have v0 := (hM10.out.cell bV _ _ (.head _) 0).trans (show _ = some (Value.slice (some ⟨G, 0, none⟩) (nums1.length + 1) capG) from rfl)
   have v1 := (hM10.out.cell bV _ _ (.head _) 1).trans (show _ = some (Value.string d1) from rfl)
   clear hM10 hx23
   generalize nums1.length + 1 = nl at *
   have z0 := hS2.out.mem.old hUc.out.1 hUc.out.2.1
   have z1 := hS2.out.mem.old hUc.out.1 hUc.out.2.2
   have x0 := (hS2.out.cell bC _ _ (.head _) 0).trans (show _ = some (Value.bool true) from rfl)
   have CK := Cz c1 _ _ (wRows rows (mc col)) (nums1 ++ [⟨#[48]⟩]) d1 _ (hS2.out.env hE.out) (hU.out.below hS2.out.mem.below) hV.out
   have hw := JG hc0'.out.2 (JI col) hck.out
   rw [show ((c + 1 : Nat) : Int) = (c1 : Int) by rw [hc1.out]] at hw
   rw [hw] at CK
   clear hw
   go_wp2_with fail
   refine Calls.mono CK ?_
   rintro e w9 ⟨rfl, hb⟩
   have hfin := A8 (hB.out.trans ((hS2.out.call hb).mem.below.mono hB.out.size))
   clear hb z0 z1 v0 v1 x0 CK hS2 hV
   go_wp2
   go_ret
   exact ⟨rfl, hfin.out⟩
  ·obtain ⟨a2, k2, rfl⟩ := hs2.shape
   replace hrf2 := A8 hrf2
   replace hS2 := A8 (hS2.out.call hb)
   replace hS2 := A8 (hS2.out.slice hs2)
   clear hb hs2 z0 z1
   obtain ⟨n2, hn2⟩ : ∃ n, n = ws2.length := ⟨_, rfl⟩
   rw [← hn2] at hS2 ⊢
   replace hn2 := A8 hn2
   obtain ⟨Wn, bB, e1, b1, S1⟩ := hS2.out.add' #[.bool false, .slice none 0 0, .string ⟨#[]⟩, .slice a2 n2 k2] 38
   replace hS2 := A8 S1
   clear S1
   go_upto_region 25 with fail
   rw [← e1, ← b1]
   clear e1 b1
   have z0 := hS2.out.mem.old hUc.out.1 hUc.out.2.1
   have z1 := hS2.out.mem.old hUc.out.1 hUc.out.2.2
   go_wp2_with fail
   refine Calls.mono (Ci c1 _ (wRows rows (mc col)) _ (hS2.out.env hE.out) (hU.out.below hS2.out.mem.below) (hvu.out) (hm8.out.2) (by rw [hc1.out]; exact J9 hvl.out hsz.out)) ?_
   rintro e w5 ⟨nv3, nums3, d3, rfl, hs3, hck3, hb⟩
   obtain ⟨a3, k3, rfl⟩ := hs3.shape
   replace hck3 := A8 hck3
   replace hS2 := A8 (hS2.out.call hb)
   replace hS2 := A8 (hS2.out.slice hs3)
   clear hb hs3 z0 z1
   obtain ⟨n3, hn3⟩ : ∃ n, n = nums3.length := ⟨_, rfl⟩
   rw [← hn3] at hS2 ⊢
   replace hn3 := A8 hn3
   obtain ⟨Wn, bC, e1, b1, S1⟩ := hS2.out.add' #[.bool true, .slice a3 n3 k3, .string d3, .slice none 0 0] 38
   replace hS2 := A8 S1
   clear S1
   go_upto_region 26 with fail
   rw [← e1, ← b1]
   clear e1 b1
   have y0 := (hS2.out.cell bB _ _ (.tail _ (.head _)) 0).trans (show _ = some (Value.bool false : Value) from rfl)
   have y1 := (hS2.out.cell bB _ _ (.tail _ (.head _)) 1).trans (show _ = some (Value.slice none 0 0 : Value) from rfl)
   have y2 := (hS2.out.cell bB _ _ (.tail _ (.head _)) 2).trans (show _ = some (Value.string ⟨#[]⟩ : Value) from rfl)
   have y3 := (hS2.out.cell bB _ _ (.tail _ (.head _)) 3).trans (show _ = some (Value.slice a2 n2 k2 : Value) from rfl)
   have x0 := (hS2.out.cell bC _ _ (.head _) 0).trans (show _ = some (Value.bool true : Value) from rfl)
   have x1 := (hS2.out.cell bC _ _ (.head _) 1).trans (show _ = some (Value.slice a3 n3 k3 : Value) from rfl)
   have x2 := (hS2.out.cell bC _ _ (.head _) 2).trans (show _ = some (Value.string d3 : Value) from rfl)
   have x3 := (hS2.out.cell bC _ _ (.head _) 3).trans (show _ = some (Value.slice none 0 0 : Value) from rfl)
   have v0 := (hS2.out.cell bA _ _ (.tail _ (.tail _ (.head _))) 0).trans (show _ = some (Value.bool true : Value) from rfl)
   have v1 := (hS2.out.cell bA _ _ (.tail _ (.tail _ (.head _))) 1).trans (show _ = some (Value.slice a1 n1 k1 : Value) from rfl)
   have v2 := (hS2.out.cell bA _ _ (.tail _ (.tail _ (.head _))) 2).trans (show _ = some (Value.string d1 : Value) from rfl)
   have v3 := (hS2.out.cell bA _ _ (.tail _ (.tail _ (.head _))) 3).trans (show _ = some (Value.slice none 0 0 : Value) from rfl)
   go_upto_region 31 with fail
   clear v0 v1 v2 v3 x0 x1 x2 x3 y0 y1 y2 y3
   have hck1' := (B6 hck.out).2.2
   have hn1' := A8 (show nums1.length ≤ 1000000 from by have := hc0'.out; omega)
   clear hck1'
   refine I6 (bA := bA) (n1 := n1) (k1 := k1) (a1 := a1) (d1 := d1) (nums := nums1) (L := []) (R := []) hn1' (A8 fun W hW => (hS2.out.call hW.below).ss _ (.tail _ (.tail _ (.head _)))) (A8 fun W hW => (hS2.out.call hW.below).cell bA _ _ (.tail _ (.tail _ (.head _))) 1) (A8 fun W hW => (hS2.out.call hW.below).cell bA _ _ (.tail _ (.tail _ (.head _))) 2) (A8 (Mem.start _)) rfl rfl (by kernel_rfl) ?_
   intro xx _ _ G capG bV W10 hx23 hM10
   simp only [sets, List.foldl_cons, List.foldl_nil, A5, A6, hx23]
   replace hS2 := A8 (hS2.out.call hM10.out.below)
   have hV := A8 (show SlS W10 (.slice (some ⟨G, 0, none⟩) (nums1.length + 1) capG) (nums1 ++ [⟨#[48]⟩]) from SlS.of_own (by have := hM10.out.own0; rw [List.map_append]; exact this))
   have v0 := (hM10.out.cell bV _ _ (.head _) 0).trans (show _ = some (Value.slice (some ⟨G, 0, none⟩) (nums1.length + 1) capG) from rfl)
   have v1 := (hM10.out.cell bV _ _ (.head _) 1).trans (show _ = some (Value.string d1) from rfl)
   clear hM10 hx23
   generalize nums1.length + 1 = nl at *
   have z0 := hS2.out.mem.old hUc.out.1 hUc.out.2.1
   have z1 := hS2.out.mem.old hUc.out.1 hUc.out.2.2
   have x0 := (hS2.out.cell bC _ _ (.head _) 0).trans (show _ = some (Value.bool true) from rfl)
   have CK := Cz c1 _ _ (wRows rows (mc col)) (nums1 ++ [⟨#[48]⟩]) d1 _ (hS2.out.env hE.out) (hU.out.below hS2.out.mem.below) hV.out
   have hw := JG hc0'.out.2 (JI col) hck.out
   rw [show ((c + 1 : Nat) : Int) = (c1 : Int) by rw [hc1.out]] at hw
   rw [hw] at CK
   clear hw
   go_wp2_with fail
   refine Calls.mono CK ?_
   rintro e w9 ⟨rfl, hb⟩
   have hfin := A8 (hB.out.trans ((hS2.out.call hb).mem.below.mono hB.out.size))
   clear hb z0 z1 v0 v1 x0 CK hS2 hV
   go_wp2
   go_ret
   exact ⟨rfl, hfin.out⟩
 ·obtain ⟨a1, k1, rfl⟩ := hs1.shape
  replace hrf := A8 hrf
  have hno := A8 (show ∀ y d, ¬ SolZ rows c y d from fun y d h => G1 h (BX hrf.out))
  replace hS2 := A8 (hS2.out.call hb)
  replace hS2 := A8 (hS2.out.slice hs1)
  clear hb hs1 z0 z1
  obtain ⟨n1, hn1⟩ : ∃ n, n = ws1.length := ⟨_, rfl⟩
  rw [← hn1] at hS2 ⊢
  replace hn1 := A8 hn1
  obtain ⟨Wn, bA, e1, b1, S1⟩ := hS2.out.add' #[.bool false, .slice none 0 0, .string ⟨#[]⟩, .slice a1 n1 k1] 38
  replace hS2 := A8 S1
  clear S1
  go_upto_region 24 with fail
  rw [← e1, ← b1]
  clear e1 b1
  have z0 := hS2.out.mem.old hTc9.out.1 hTc9.out.2.1
  have z1 := hS2.out.mem.old hTc9.out.1 hTc9.out.2.2
  go_wp2_with fail
  refine Calls.mono (Ds c _ (rows ++ [(mr, z)]) _ (hS2.out.env hE.out) (hT.out.below hS2.out.mem.below) (hvt.out) (hm8.out.1) (fun y d h => hno.out _ _ (G4 h))) ?_
  rintro e w4 ⟨wv2, ws2, rfl, hs2, hrf2, hb⟩
  obtain ⟨a2, k2, rfl⟩ := hs2.shape
  replace hrf2 := A8 hrf2
  replace hS2 := A8 (hS2.out.call hb)
  replace hS2 := A8 (hS2.out.slice hs2)
  clear hb hs2 z0 z1
  obtain ⟨n2, hn2⟩ : ∃ n, n = ws2.length := ⟨_, rfl⟩
  rw [← hn2] at hS2 ⊢
  replace hn2 := A8 hn2
  obtain ⟨Wn, bB, e1, b1, S1⟩ := hS2.out.add' #[.bool false, .slice none 0 0, .string ⟨#[]⟩, .slice a2 n2 k2] 38
  replace hS2 := A8 S1
  clear S1
  go_upto_region 25 with fail
  rw [← e1, ← b1]
  clear e1 b1
  have z0 := hS2.out.mem.old hUc.out.1 hUc.out.2.1
  have z1 := hS2.out.mem.old hUc.out.1 hUc.out.2.2
  go_wp2_with fail
  refine Calls.mono (CD c1 _ (wRows rows (mc col)) _ (hS2.out.env hE.out) (hU.out.below hS2.out.mem.below) hvu.out hm8.out.2) ?_
  rintro e w4 ⟨hb, ⟨nv3, nums3, d3, rfl, hs3, hck3⟩ | ⟨wv3, ws3, rfl, hs3, hrf3⟩⟩
  ·obtain ⟨a3, k3, rfl⟩ := hs3.shape
   replace hck3 := A8 hck3
   replace hS2 := A8 (hS2.out.call hb)
   replace hS2 := A8 (hS2.out.slice hs3)
   clear hb hs3 z0 z1
   obtain ⟨n3, hn3⟩ : ∃ n, n = nums3.length := ⟨_, rfl⟩
   rw [← hn3] at hS2 ⊢
   replace hn3 := A8 hn3
   obtain ⟨Wn, bC, e1, b1, S1⟩ := hS2.out.add' #[.bool true, .slice a3 n3 k3, .string d3, .slice none 0 0] 38
   replace hS2 := A8 S1
   clear S1
   go_upto_region 26 with fail
   rw [← e1, ← b1]
   clear e1 b1
   have y0 := (hS2.out.cell bB _ _ (.tail _ (.head _)) 0).trans (show _ = some (Value.bool false : Value) from rfl)
   have y1 := (hS2.out.cell bB _ _ (.tail _ (.head _)) 1).trans (show _ = some (Value.slice none 0 0 : Value) from rfl)
   have y2 := (hS2.out.cell bB _ _ (.tail _ (.head _)) 2).trans (show _ = some (Value.string ⟨#[]⟩ : Value) from rfl)
   have y3 := (hS2.out.cell bB _ _ (.tail _ (.head _)) 3).trans (show _ = some (Value.slice a2 n2 k2 : Value) from rfl)
   have x0 := (hS2.out.cell bC _ _ (.head _) 0).trans (show _ = some (Value.bool true : Value) from rfl)
   have x1 := (hS2.out.cell bC _ _ (.head _) 1).trans (show _ = some (Value.slice a3 n3 k3 : Value) from rfl)
   have x2 := (hS2.out.cell bC _ _ (.head _) 2).trans (show _ = some (Value.string d3 : Value) from rfl)
   have x3 := (hS2.out.cell bC _ _ (.head _) 3).trans (show _ = some (Value.slice none 0 0 : Value) from rfl)
   have v0 := (hS2.out.cell bA _ _ (.tail _ (.tail _ (.head _))) 0).trans (show _ = some (Value.bool false : Value) from rfl)
   have v1 := (hS2.out.cell bA _ _ (.tail _ (.tail _ (.head _))) 1).trans (show _ = some (Value.slice none 0 0 : Value) from rfl)
   have v2 := (hS2.out.cell bA _ _ (.tail _ (.tail _ (.head _))) 2).trans (show _ = some (Value.string ⟨#[]⟩ : Value) from rfl)
   have v3 := (hS2.out.cell bA _ _ (.tail _ (.tail _ (.head _))) 3).trans (show _ = some (Value.slice a1 n1 k1 : Value) from rfl)
   go_upto_region 33 with fail
   clear v0 v1 v2 v3 x0 x1 x2 x3 y0 y1 y2 y3
   have hn1' := A8 (show ws1.length ≤ 1000000 from by rw [(Bq hrf.out).2.1]; have := hms.out; omega)
   refine I7 (bA := bA) (bB := bB) (bT := bT) (n1 := n1) (k1 := k1) (a1 := a1) (ws := ws1) (tv := .slice (some ⟨g2, 0, none⟩) (r + 1) c2) (c := c) (L := []) (R := []) hn1' (A8 fun W hW => (hS2.out.call hW.below).ss _ (.tail _ (.tail _ (.head _)))) (A8 fun W hW => (hS2.out.call hW.below).cell bB _ _ (.tail _ (.head _)) 0) (A8 fun W hW => (hS2.out.call hW.below).mem.old hTc9.out.1 hTc9.out.2.1) (A8 fun W hW => (hS2.out.call hW.below).mem.old hTc9.out.1 hTc9.out.2.2) (A8 fun W hW => (hS2.out.call hW.below).cell bA _ _ (.tail _ (.tail _ (.head _))) 3) (A8 fun W _ => by have := LO (x := 0) (by unfold Fits; decide) W; rwa [show I 0 = ⟨#[48]⟩ by kernel_rfl] at this) (A8 fun W _ _ G capG hW => by have := AW c (.slice (some ⟨g2, 0, none⟩) (r + 1) c2) (.slice (some ⟨G, 0, none⟩) (ws1.length + 1) capG) (rows ++ [(mr, z)]) (ws1 ++ [⟨#[48]⟩]) W ((hS2.out.call hW.below).env hE.out) (hT.out.below (hS2.out.call hW.below).mem.below) (SlS.of_own (by have := hW.own0; rw [List.map_append]; exact this)); rwa [DM hvt.out hrf.out] at this) (A8 (Mem.start _)) rfl rfl rfl rfl (by kernel_rfl) ?_
   intro xx _ _ _ _ W10 hx8 hM10
   simp only [sets, List.foldl_cons, List.foldl_nil, A5, A6, hx8]
   have hfin := A8 (hB.out.trans ((hS2.out.call hM10.out.below).mem.below.mono hB.out.size))
   clear hM10 hx8 hS2
   go_wp2
   go_ret
   exact ⟨rfl, hfin.out⟩
  ·obtain ⟨a3, k3, rfl⟩ := hs3.shape
   replace hrf3 := A8 hrf3
   replace hS2 := A8 (hS2.out.call hb)
   replace hS2 := A8 (hS2.out.slice hs3)
   clear hb hs3 z0 z1
   obtain ⟨n3, hn3⟩ : ∃ n, n = ws3.length := ⟨_, rfl⟩
   rw [← hn3] at hS2 ⊢
   replace hn3 := A8 hn3
   obtain ⟨Wn, bC, e1, b1, S1⟩ := hS2.out.add' #[.bool false, .slice none 0 0, .string ⟨#[]⟩, .slice a3 n3 k3] 38
   replace hS2 := A8 S1
   clear S1
   go_upto_region 26 with fail
   rw [← e1, ← b1]
   clear e1 b1
   have y0 := (hS2.out.cell bB _ _ (.tail _ (.head _)) 0).trans (show _ = some (Value.bool false : Value) from rfl)
   have y1 := (hS2.out.cell bB _ _ (.tail _ (.head _)) 1).trans (show _ = some (Value.slice none 0 0 : Value) from rfl)
   have y2 := (hS2.out.cell bB _ _ (.tail _ (.head _)) 2).trans (show _ = some (Value.string ⟨#[]⟩ : Value) from rfl)
   have y3 := (hS2.out.cell bB _ _ (.tail _ (.head _)) 3).trans (show _ = some (Value.slice a2 n2 k2 : Value) from rfl)
   have x0 := (hS2.out.cell bC _ _ (.head _) 0).trans (show _ = some (Value.bool false : Value) from rfl)
   have x1 := (hS2.out.cell bC _ _ (.head _) 1).trans (show _ = some (Value.slice none 0 0 : Value) from rfl)
   have x2 := (hS2.out.cell bC _ _ (.head _) 2).trans (show _ = some (Value.string ⟨#[]⟩ : Value) from rfl)
   have x3 := (hS2.out.cell bC _ _ (.head _) 3).trans (show _ = some (Value.slice a3 n3 k3 : Value) from rfl)
   have z0 := hS2.out.mem.old hSc69.out.1 hSc69.out.2.1
   have z1 := hS2.out.mem.old hSc69.out.1 hSc69.out.2.2
   have RF := AW c _ _ rows ws3 _ (hS2.out.env hE.out) (hR.out.below hS2.out.mem.below) (hS2.out.ss _ (.head _))
   have hw := hrf3.out
   rw [hc1.out] at hw
   rw [KH hvl.out hw] at RF
   clear hw
   go_wp2_with fail
   refine Calls.mono RF ?_
   rintro e w8 ⟨rfl, hb⟩
   replace hS2 := A8 (hS2.out.call hb)
   clear hb z0 z1 y0 y1 y2 y3 x0 x1 x2 x3 RF
   have v0 := (hS2.out.cell bA _ _ (.tail _ (.tail _ (.head _))) 0).trans (show _ = some (Value.bool false : Value) from rfl)
   have v1 := (hS2.out.cell bA _ _ (.tail _ (.tail _ (.head _))) 1).trans (show _ = some (Value.slice none 0 0 : Value) from rfl)
   have v2 := (hS2.out.cell bA _ _ (.tail _ (.tail _ (.head _))) 2).trans (show _ = some (Value.string ⟨#[]⟩ : Value) from rfl)
   have v3 := (hS2.out.cell bA _ _ (.tail _ (.tail _ (.head _))) 3).trans (show _ = some (Value.slice a1 n1 k1 : Value) from rfl)
   go_upto_region 33 with fail
   clear v0 v1 v2 v3
   have hn1' := A8 (show ws1.length ≤ 1000000 from by rw [(Bq hrf.out).2.1]; have := hms.out; omega)
   refine I7 (bA := bA) (bB := bB) (bT := bT) (n1 := n1) (k1 := k1) (a1 := a1) (ws := ws1) (tv := .slice (some ⟨g2, 0, none⟩) (r + 1) c2) (c := c) (L := []) (R := []) hn1' (A8 fun W hW => (hS2.out.call hW.below).ss _ (.tail _ (.tail _ (.head _)))) (A8 fun W hW => (hS2.out.call hW.below).cell bB _ _ (.tail _ (.head _)) 0) (A8 fun W hW => (hS2.out.call hW.below).mem.old hTc9.out.1 hTc9.out.2.1) (A8 fun W hW => (hS2.out.call hW.below).mem.old hTc9.out.1 hTc9.out.2.2) (A8 fun W hW => (hS2.out.call hW.below).cell bA _ _ (.tail _ (.tail _ (.head _))) 3) (A8 fun W _ => by have := LO (x := 0) (by unfold Fits; decide) W; rwa [show I 0 = ⟨#[48]⟩ by kernel_rfl] at this) (A8 fun W _ _ G capG hW => by have := AW c (.slice (some ⟨g2, 0, none⟩) (r + 1) c2) (.slice (some ⟨G, 0, none⟩) (ws1.length + 1) capG) (rows ++ [(mr, z)]) (ws1 ++ [⟨#[48]⟩]) W ((hS2.out.call hW.below).env hE.out) (hT.out.below (hS2.out.call hW.below).mem.below) (SlS.of_own (by have := hW.own0; rw [List.map_append]; exact this)); rwa [DM hvt.out hrf.out] at this) (A8 (Mem.start _)) rfl rfl rfl rfl (by kernel_rfl) ?_
   intro xx _ _ _ _ W10 hx8 hM10
   simp only [sets, List.foldl_cons, List.foldl_nil, A5, A6, hx8]
   have hfin := A8 (hB.out.trans ((hS2.out.call hM10.out.below).mem.below.mono hB.out.size))
   clear hM10 hx8 hS2
   go_wp2
   go_ret
   exact ⟨rfl, hfin.out⟩
end
end Go.Proofs.YtcmomjnailihpaaGreatDoor
