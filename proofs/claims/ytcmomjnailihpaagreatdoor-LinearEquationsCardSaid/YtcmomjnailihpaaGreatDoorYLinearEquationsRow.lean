/- LinearEquationsRow -/
import Derived.Test.YtcmomjnailihpaaGreatDoorYEqB
import Derived.Test.YtcmomjnailihpaaGreatDoorRows
import Derived.Test.YtcmomjnailihpaaGreatDoorCards
import Derived.Test.YtcmomjnailihpaaGreatDoorTie
import Derived.ProofKit
import Derived.Lay
import Derived.SevenTiedAt
import Derived.OpenShut
import Derived.ChangeMaps5
import Derived.Lib.SmallJoins
import Derived.Stop.LaidErr
set_option maxRecDepth 100000
namespace Go.Proofs.YtcmomjnailihpaaGreatDoor
section
open Go.ChangeMaps Go.ChangeShapes Go.WideShapes Go.ChangeAt Go.WideMaps Go.WideElems Go.RowKit
namespace rowLinearEquations
theorem own:ownKnob Tryz.prog.godebug=none:=by kernel_rfl
theorem lifted (os:Os) (started:os.Started) (H:Type) (enc:TypeId×Value→H) :
  ReturnsInHanded {} Tryz.checked os 6 .any (fun w args=>(Rows.linearEquationsSpec.pre enc Tryz.prog Tryz.f6 [] false w args∧laidMetH Tryz.prog Rows.linearEquationsRow.laid w)∧sizedMet enc Tryz.prog Tryz.f6 (OpenSpec.ofChange Rows.linearEquationsSpec) false w args)
   (Rows.linearEquationsSpec.post enc Tryz.prog Tryz.f6 false true false false):=by
 refine BX (C:=Tryz.checked) (X:=fun w _=>laidMetH Tryz.prog Rows.linearEquationsRow.laid w) (fun _ _ _ hh h=>h.of_heap hh) own started (by kernel_rfl) Tryz.func6
  (ChangeSpec.witness_shaped (enc:=enc) (C:=Tryz.checked) (os:=os) (X:=fun w _=>laidMetH Tryz.prog Rows.linearEquationsRow.laid w) false (World.laidAll Tryz.prog os Rows.linearEquationsRow.laid) #[.agg #[.int .i64 0,.int .i64 0,.slice none 0 0,.slice none 0 0,.int .i64 0],.slice none 0 0,.int .i64 0,.int .i64 0,.int .i64 0,.slice none 0 0,.int .i64 0] 8 (World.laidAll_os _ _ _)
   (World.shaped_of_ZipB (by kernel_rfl) (by kernel_rfl)) (by kernel_rfl) (by kernel_rfl) (by kernel_rfl)
   (by rw [MakeChecks.laidMetH_plain _ _ _ (by kernel_rfl)];exact laidMet_laidAll _ (by kernel_rfl) (by kernel_rfl))) ?_
 intro W base args ds gs before hval0 hW _ _ hL hsh _
 have hval:∀ (j:Nat) t v,Tryz.f6.params[j]? = some t→args[j]? = some v→Value.okWide Tryz.prog W .any base t v:=hval0
 have hW':=hW
 obtain ⟨p,q,hA0,hV,rfl,_,_⟩:=hW
 have hA:DataW.TrodAll enc Tryz.prog W 0 (fun _=>true) true Tryz.f6.params.toList args.toList ds p:=hA0
 rw [Tryz.params6] at hA hval
 have hA1:=hA
 have hin:p=p++[]:=(List.append_nil p).symm
 obtain ⟨v0,vs0,d0,ds0,p0,q0,hargs,rfl,ep0,h0,r0⟩:=trodAll_cons hA
 obtain ⟨v1,vs1,d1,ds1,p1,q1,rfl,rfl,ep1,h1,r1⟩:=trodAll_cons r0
 obtain ⟨v2,vs2,d2,ds2,p2,q2,rfl,rfl,ep2,h2,r2⟩:=trodAll_cons r1
 obtain ⟨v3,vs3,d3,ds3,p3,q3,rfl,rfl,ep3,h3,r3⟩:=trodAll_cons r2
 obtain ⟨v4,vs4,d4,ds4,p4,q4,rfl,rfl,ep4,h4,r4⟩:=trodAll_cons r3
 obtain ⟨v5,vs5,d5,ds5,p5,q5,rfl,rfl,ep5,h5,r5⟩:=trodAll_cons r4
 obtain ⟨v6,vs6,d6,ds6,p6,q6,rfl,rfl,ep6,h6,r6⟩:=trodAll_cons r5
 obtain ⟨rfl,rfl,eq6⟩:=trodAll_nil r6
 obtain rfl:args=#[v0,v1,v2,v3,v4,v5,v6]:=Array.ext' hargs
 obtain ⟨rfl,rfl⟩:=trodVars_none hV
 obtain ⟨x0,vc0,vh0,rfl,hx0⟩:=M7 (hval 0 24 v0 rfl rfl) h0
 obtain ⟨l1,hl1,hf1⟩:=Fh (hval 1 22 v1 rfl rfl) h1
 obtain ⟨n2,rfl,rfl,e2,wn2⟩:=open_int Tryz.underlying3 (hval 2 3 v2 rfl rfl) h2
 have z2:(-9223372036854775808:Int)≤n2∧n2≤9223372036854775807:=by simpa [Lit.wf,IntKind.min,IntKind.max,IntKind.signed,IntKind.bits] using wn2
 obtain ⟨n3,rfl,rfl,e3,wn3⟩:=open_int Tryz.underlying3 (hval 3 3 v3 rfl rfl) h3
 have z3:(-9223372036854775808:Int)≤n3∧n3≤9223372036854775807:=by simpa [Lit.wf,IntKind.min,IntKind.max,IntKind.signed,IntKind.bits] using wn3
 obtain ⟨n4,rfl,rfl,e4,wn4⟩:=open_int Tryz.underlying3 (hval 4 3 v4 rfl rfl) h4
 have z4:(-9223372036854775808:Int)≤n4∧n4≤9223372036854775807:=by simpa [Lit.wf,IntKind.min,IntKind.max,IntKind.signed,IntKind.bits] using wn4
 obtain ⟨l5,hl5,hf5⟩:=Fh (hval 5 22 v5 rfl rfl) h5
 obtain ⟨n6,rfl,rfl,e6,wn6⟩:=open_int Tryz.underlying3 (hval 6 3 v6 rfl rfl) h6
 have z6:(-9223372036854775808:Int)≤n6∧n6≤9223372036854775807:=by simpa [Lit.wf,IntKind.min,IntKind.max,IntKind.signed,IntKind.bits] using wn6
 rw [MakeChecks.laidMetH_plain _ _ _ (by kernel_rfl)] at hL
 have hEQ:EnvQ W:=envQ_of (Lib.laidMet.reads hL (.tail _ (.tail _ (.head _)))) hsh
 refine (Fw x0 vc0 vh0 v1 l1 n2 n3 n4 v5 l5 n6 W hx0 hl1 hf1 z2 z3 z4 hl5 hf5 z6 hEQ).mono fun e W' ⟨he,hb⟩=>?_
 subst he
 exact ⟨_,rfl,_,_,_,[],_,[],hW',trodAll_mk1 (shut_bool Tryz.underlying4 _),Ga (by kernel_rfl) hb (by kernel_rfl) hA1,rfl,hb.frame _,fun h=>by cases h⟩
theorem holds:Rows.LinearEquationsSaid :=
 OpenClaim.holds_of_wide 6 Tryz.f6 rfl rfl rfl rfl rfl rfl rfl ⟨rfl,rfl,rfl,rfl,rfl⟩ rfl rfl rfl rfl rfl (by kernel_rfl) Tryz.func6 (by kernel_rfl)
  (of_decide_eq_true (by kernel_rfl)) (by unfold Func.isWrapper;first | (rw [if_pos (by decide +kernel)];kernel_rfl) | (rw [if_neg (by decide +kernel)];exact ⟨rfl,rfl⟩))
  (fun os started H enc _=>lifted os started H enc)
theorem card_holds:Rows.LinearEquationsCardSaid :=
 Claim7.holds_tied_plain_at .later [] [.data, .data, .data, .data, .sentinel, .sentinel, .pinned] true (true, "9073599f2a3b8ca571d8cb1cfd7a38e582bc95d09afe03ae2054738d8d94594e") true
  holds (fun _ h=>by cases h) (by kernel_rfl) (fun _ h=>by cases h) linearEquations_row_tie rfl ⟨rfl,rfl⟩ (by kernel_rfl) rfl
  (fun f fn hf hfn=>by
   obtain rfl : f = 6 := Option.some.inj ((show Tryz.prog.funcNamed "putlog/putloglaw06.LinearEquations" = some 6 by kernel_rfl).symm.trans hf) |>.symm
   obtain rfl:fn=Tryz.f6:=(Option.some.inj (Tryz.func6.symm.trans hfn)).symm
   exact ⟨by kernel_rfl,fun j t ht=>by
    rw [Tryz.params6] at ht
    have hm:t∈[24,22,3,3,3,22,3]:=by simpa using Array.mem_of_getElem? ht
    have hall:([24,22,3,3,3,22,3].all fun u=>!Tryz.prog.wantsStandIn u)=true:=by kernel_rfl
    exact (show Tryz.prog.wantsStandIn t=false by simpa using List.all_eq_true.1 hall t hm)⟩)
  (by kernel_rfl)
#print axioms card_holds
end rowLinearEquations
end
end Go.Proofs.YtcmomjnailihpaaGreatDoor
