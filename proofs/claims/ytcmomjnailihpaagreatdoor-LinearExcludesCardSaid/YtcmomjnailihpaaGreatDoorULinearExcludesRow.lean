/- LinearExcludesRow -/
import Derived.Test.YtcmomjnailihpaaGreatDoorUExA
import Derived.Test.YtcmomjnailihpaaGreatDoorRows
import Derived.Test.YtcmomjnailihpaaGreatDoorCards
import Derived.Test.YtcmomjnailihpaaGreatDoorTie
import Derived.ProofKit
import Derived.Lay
import Derived.SevenTiedAt
import Derived.OpenShut
import Derived.ChangeMaps5
import Derived.Lib.SmallJoins
import Derived.Stop.LaidErr
set_option maxRecDepth 100000
namespace Go.Proofs.YtcmomjnailihpaaGreatDoor
section
open Go.ChangeMaps Go.ChangeShapes Go.WideShapes Go.ChangeAt Go.WideMaps Go.WideElems Go.RowKit
namespace rowLinearExcludes
theorem own:ownKnob Tryz.prog.godebug=none:=by kernel_rfl
theorem lifted (os:Os) (started:os.Started) (H:Type) (enc:TypeId×Value→H) :
  ReturnsInHanded {} Tryz.checked os 5 .any (fun w args=>(Rows.linearExcludesSpec.pre enc Tryz.prog Tryz.f5 [] false w args∧laidMetH Tryz.prog Rows.linearExcludesRow.laid w)∧sizedMet enc Tryz.prog Tryz.f5 (OpenSpec.ofChange Rows.linearExcludesSpec) false w args)
   (Rows.linearExcludesSpec.post enc Tryz.prog Tryz.f5 false true false false):=by
 refine BW (C:=Tryz.checked) (X:=fun w _=>laidMetH Tryz.prog Rows.linearExcludesRow.laid w) (fun _ _ _ hh h=>h.of_heap hh) own started (by kernel_rfl) Tryz.func5
  (ChangeSpec.witness_shaped (enc:=enc) (C:=Tryz.checked) (os:=os) (X:=fun w _=>laidMetH Tryz.prog Rows.linearExcludesRow.laid w) false (World.laidAll Tryz.prog os Rows.linearExcludesRow.laid) #[.agg #[.int .i64 0,.int .i64 0,.slice none 0 0,.slice none 0 0,.int .i64 0],.slice none 0 0,.slice none 0 0,.int .i64 0,.agg #[.slice none 0 0,.string ⟨#[]⟩],.slice none 0 0] 8 (World.laidAll_os _ _ _)
   (World.shaped_of_ZipB (by kernel_rfl) (by kernel_rfl)) (by kernel_rfl) (by kernel_rfl) (by kernel_rfl)
   (by rw [MakeChecks.laidMetH_plain _ _ _ (by kernel_rfl)];exact laidMet_laidAll _ (by kernel_rfl) (by kernel_rfl))) ?_
 intro W base args ds gs before hval0 hW _ _ hL hsh _
 have hval:∀ (j:Nat) t v,Tryz.f5.params[j]? = some t→args[j]? = some v→Value.okWide Tryz.prog W .any base t v:=hval0
 have hW':=hW
 obtain ⟨p,q,hA0,hV,rfl,_,_⟩:=hW
 have hA:DataW.TrodAll enc Tryz.prog W 0 (fun _=>true) true Tryz.f5.params.toList args.toList ds p:=hA0
 rw [Tryz.params5] at hA hval
 have hA1:=hA
 have hin:p=p++[]:=(List.append_nil p).symm
 obtain ⟨v0,vs0,d0,ds0,p0,q0,hargs,rfl,ep0,h0,r0⟩:=trodAll_cons hA
 obtain ⟨v1,vs1,d1,ds1,p1,q1,rfl,rfl,ep1,h1,r1⟩:=trodAll_cons r0
 obtain ⟨v2,vs2,d2,ds2,p2,q2,rfl,rfl,ep2,h2,r2⟩:=trodAll_cons r1
 obtain ⟨v3,vs3,d3,ds3,p3,q3,rfl,rfl,ep3,h3,r3⟩:=trodAll_cons r2
 obtain ⟨v4,vs4,d4,ds4,p4,q4,rfl,rfl,ep4,h4,r4⟩:=trodAll_cons r3
 obtain ⟨v5,vs5,d5,ds5,p5,q5,rfl,rfl,ep5,h5,r5⟩:=trodAll_cons r4
 obtain ⟨rfl,rfl,eq5⟩:=trodAll_nil r5
 obtain rfl:args=#[v0,v1,v2,v3,v4,v5]:=Array.ext' hargs
 obtain ⟨rfl,rfl⟩:=trodVars_none hV
 obtain ⟨x0,vc0,vh0,rfl,hx0⟩:=Mt (hval 0 24 v0 rfl rfl) h0
 obtain ⟨l1,hl1,hf1⟩:=Fw (hval 1 22 v1 rfl rfl) h1
 obtain ⟨l2,hl2,hf2⟩:=Fw (hval 2 22 v2 rfl rfl) h2
 obtain ⟨n3,rfl,rfl,e3,wn3⟩:=open_int Tryz.underlying3 (hval 3 3 v3 rfl rfl) h3
 have z3:(-9223372036854775808:Int)≤n3∧n3≤9223372036854775807:=by simpa [Lit.wf,IntKind.min,IntKind.max,IntKind.signed,IntKind.bits] using wn3
 obtain ⟨vn4,l4,s4,rfl,hl4,hf4,hs4⟩:=Li (hval 4 30 v4 rfl rfl) h4
 obtain ⟨l5,hl5,hf5⟩:=JC (hval 5 28 v5 rfl rfl) h5
 rw [MakeChecks.laidMetH_plain _ _ _ (by kernel_rfl)] at hL
 have hEQ:EnvQ W:=envQ_of (Lib.laidMet.reads hL (.tail _ (.tail _ (.head _)))) hsh
 refine (GY x0 vc0 vh0 v1 l1 v2 l2 n3 vn4 l4 s4 v5 l5 W hx0 hl1 hf1 hl2 hf2 z3 hl4 hf4 hs4 hl5 hf5 hEQ).mono fun e W' ⟨he,hb⟩=>?_
 subst he
 exact ⟨_,rfl,_,_,_,[],_,[],hW',trodAll_mk1 (shut_bool Tryz.underlying4 _),Gh (by kernel_rfl) hb (by kernel_rfl) hA1,rfl,hb.frame _,fun h=>by cases h⟩
theorem holds:Rows.LinearExcludesSaid :=
 OpenClaim.holds_of_wide 5 Tryz.f5 rfl rfl rfl rfl rfl rfl rfl ⟨rfl,rfl,rfl,rfl,rfl⟩ rfl rfl rfl rfl rfl (by kernel_rfl) Tryz.func5 (by kernel_rfl)
  (of_decide_eq_true (by kernel_rfl)) (by unfold Func.isWrapper;first | (rw [if_pos (by decide +kernel)];kernel_rfl) | (rw [if_neg (by decide +kernel)];exact ⟨rfl,rfl⟩))
  (fun os started H enc _=>lifted os started H enc)
theorem card_holds:Rows.LinearExcludesCardSaid :=
 Claim7.holds_tied_plain_at .later [] [.data, .data, .data, .data, .sentinel, .sentinel, .pinned] true (true, "9073599f2a3b8ca571d8cb1cfd7a38e582bc95d09afe03ae2054738d8d94594e") true
  holds (fun _ h=>by cases h) (by kernel_rfl) (fun _ h=>by cases h) linearExcludes_row_tie rfl ⟨rfl,rfl⟩ (by kernel_rfl) rfl
  (fun f fn hf hfn=>by
   obtain rfl : f = 5 := Option.some.inj ((show Tryz.prog.funcNamed "putlog/putloglaw06.LinearExcludes" = some 5 by kernel_rfl).symm.trans hf) |>.symm
   obtain rfl:fn=Tryz.f5:=(Option.some.inj (Tryz.func5.symm.trans hfn)).symm
   exact ⟨by kernel_rfl,fun j t ht=>by
    rw [Tryz.params5] at ht
    have hm:t∈[24,22,22,3,30,28]:=by simpa using Array.mem_of_getElem? ht
    have hall:([24,22,22,3,30,28].all fun u=>!Tryz.prog.wantsStandIn u)=true:=by kernel_rfl
    exact (show Tryz.prog.wantsStandIn t=false by simpa using List.all_eq_true.1 hall t hm)⟩)
  (by kernel_rfl)
#print axioms card_holds
end rowLinearExcludes
end
end Go.Proofs.YtcmomjnailihpaaGreatDoor
