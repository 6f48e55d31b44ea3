/- TopForecastsRow -/
import Derived.Test.YtdkonnnmkceagaaGreatDoorZTfW
import Derived.Test.YtdkonnnmkceagaaGreatDoorRows
import Derived.Test.YtdkonnnmkceagaaGreatDoorCards
import Derived.Test.YtdkonnnmkceagaaGreatDoorTie
import Derived.ProofKit
import Derived.Lay
import Derived.SevenTiedAt
import Derived.OpenShut
import Derived.ChangeMaps5
import Derived.Lib.SmallJoins
import Derived.Stop.LaidErr
set_option maxRecDepth 100000
namespace Go.Proofs.YtdkonnnmkceagaaGreatDoor
section
open Go.ChangeMaps Go.ChangeShapes Go.WideShapes Go.ChangeAt Go.WideMaps Go.WideElems Go.RowKit
namespace rowTopForecasts
theorem own:ownKnob Tryz.prog.godebug=none:=by kernel_rfl
theorem lifted (os:Os) (started:os.Started) (H:Type) (enc:TypeId×Value->H) :
  ReturnsInHanded {} Tryz.checked os 3 .any (fun w args=>(Rows.topForecastsSpec.pre enc Tryz.prog Tryz.f3 [] false w args/\laidMetH Tryz.prog Rows.topForecastsRow.laid w)/\sizedMet enc Tryz.prog Tryz.f3 (OpenSpec.ofChange Rows.topForecastsSpec) false w args)
   (Rows.topForecastsSpec.post enc Tryz.prog Tryz.f3 false true false false):=by
 refine Fa (C:=Tryz.checked) (X:=fun w _=>laidMetH Tryz.prog Rows.topForecastsRow.laid w) (fun _ _ _ hh h=>h.of_heap hh) own started Ab Tryz.func3
  (ChangeSpec.witness_shaped (enc:=enc) (C:=Tryz.checked) (os:=os) (X:=fun w _=>laidMetH Tryz.prog Rows.topForecastsRow.laid w) false (World.laidAll Tryz.prog os Rows.topForecastsRow.laid) #[.agg #[.int .i64 0,.int .i64 0,.slice none 0 0,.slice none 0 0,.int .i64 0,.int .i64 0,.int .i64 0,.slice none 0 0,.slice none 0 0],.int .i64 0,.slice none 0 0,.int .i64 0] 8 (World.laidAll_os _ _ _)
   (World.shaped_of_ZipB Ab Ab) Ab Ab Ab
   (by rw [MakeChecks.laidMetH_plain _ _ _ Ab];exact laidMet_laidAll _ Ab Ab)) ?_
 intro W base args ds gs before hval0 hW _ _ hL hsh _
 have hval:∀ (j:Nat) t v,Tryz.f3.params[j]? = some t->args[j]? = some v->Value.okWide Tryz.prog W .any base t v:=hval0
 have hW':=hW
 obtain ⟨p,q,hA0,hV,rfl,_,_⟩:=hW
 have hA:DataW.TrodAll enc Tryz.prog W 0 (fun _=>true) true Tryz.f3.params.toList args.toList ds p:=hA0
 rw [Tryz.params3] at hA hval
 have hA1:=hA
 have hin:p=p++[]:=(List.append_nil p).symm
 obtain ⟨v0,vs0,d0,ds0,p0,q0,hargs,rfl,ep0,h0,r0⟩:=trodAll_cons hA
 obtain ⟨v1,vs1,d1,ds1,p1,q1,rfl,rfl,ep1,h1,r1⟩:=trodAll_cons r0
 obtain ⟨v2,vs2,d2,ds2,p2,q2,rfl,rfl,ep2,h2,r2⟩:=trodAll_cons r1
 obtain ⟨v3,vs3,d3,ds3,p3,q3,rfl,rfl,ep3,h3,r3⟩:=trodAll_cons r2
 obtain ⟨rfl,rfl,eq3⟩:=trodAll_nil r3
 obtain rfl:args=#[v0,v1,v2,v3]:=Array.ext' hargs
 obtain ⟨rfl,rfl⟩:=trodVars_none hV
 obtain ⟨x0,ra0,re0,s0,sa0,rfl,hx0⟩:=Pd (hval 0 26 v0 rfl rfl) h0
 obtain ⟨n1,rfl,rfl,e1,wn1⟩:=open_int Tryz.underlying3 (hval 1 3 v1 rfl rfl) h1
 have z1:(-9223372036854775808:Int)<=n1/\n1<=9223372036854775807:=by simpa [Lit.wf,IntKind.min,IntKind.max,IntKind.signed,IntKind.bits] using wn1
 obtain ⟨l2,hl2,hf2⟩:=NJ (hval 2 22 v2 rfl rfl) h2
 obtain ⟨n3,rfl,rfl,e3,wn3⟩:=open_int Tryz.underlying3 (hval 3 3 v3 rfl rfl) h3
 have z3:(-9223372036854775808:Int)<=n3/\n3<=9223372036854775807:=by simpa [Lit.wf,IntKind.min,IntKind.max,IntKind.signed,IntKind.bits] using wn3
 rw [MakeChecks.laidMetH_plain _ _ _ Ab] at hL
 have hEQ:QM W:=envQ_of (Lib.laidMet.reads hL Aj) hsh
 refine (tf_law x0 ra0 re0 s0 sa0 n1 v2 l2 n3 W hx0 z1 hl2 hf2 z3 hEQ).mono fun e W' ⟨he,hb⟩=>?_
 subst he
 exact ⟨_,rfl,_,_,_,[],_,[],hW',trodAll_mk1 (shut_bool Tryz.underlying4 _),Lr Ab hb Ab hA1,rfl,hb.frame _,fun h=>by cases h⟩
theorem holds:Rows.TopForecastsSaid :=
 OpenClaim.holds_of_wide 3 Tryz.f3 rfl rfl rfl rfl rfl rfl rfl ⟨rfl,rfl,rfl,rfl,rfl⟩ rfl rfl rfl rfl rfl Ab Tryz.func3 Ab
  (BS Ab) (by unfold Func.isWrapper;first | (rw [AI (by decide +kernel)];kernel_rfl) | (rw [AF (by decide +kernel)];exact ⟨rfl,rfl⟩))
  (fun os started H enc _=>lifted os started H enc)
theorem card_holds:Rows.TopForecastsCardSaid :=
 Claim7.holds_tied_plain_at .later [] [.data, .data, .data, .data, .sentinel, .sentinel, .pinned] true (true, "71430d61fa2991085ae7b1e5be6a92410f6a18df3f84a6d984bd33a6f1c05c9b") true
  holds (fun _ h=>by cases h) Ab (fun _ h=>by cases h) topForecasts_row_tie rfl ⟨rfl,rfl⟩ Ab rfl
  (fun f fn hf hfn=>by
   obtain rfl : f = 3 := AL ((show Tryz.prog.funcNamed "putlog/putlogtop.TopForecasts" = some 3 by kernel_rfl).symm.trans hf) |>.symm;obtain rfl:fn=Tryz.f3:=(AL (Tryz.func3.symm.trans hfn)).symm;exact ⟨Ab,fun j t ht=>by
    rw [Tryz.params3] at ht;have hm:t∈[26,3,22,3]:=by simpa using Array.mem_of_getElem? ht
    have hall:([26,3,22,3].all fun u=>!Tryz.prog.wantsStandIn u)=true:=by kernel_rfl
    exact (show Tryz.prog.wantsStandIn t=false by simpa using Ax.1 hall t hm)⟩)
  Ab
#print axioms card_holds
end rowTopForecasts
end
end Go.Proofs.YtdkonnnmkceagaaGreatDoor
