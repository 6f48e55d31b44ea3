/- LinearMatchesReferenceRow -/
import Derived.Test.YtioamkekjjkigaaGreatDoorYBnA
import Derived.Test.YtioamkekjjkigaaGreatDoorRows
import Derived.Test.YtioamkekjjkigaaGreatDoorCards
import Derived.Test.YtioamkekjjkigaaGreatDoorTie
import Derived.ProofKit
import Derived.Lay
import Derived.SevenTiedAt
import Derived.OpenShut
import Derived.ChangeMaps5
import Derived.Lib.SmallJoins
import Derived.Stop.LaidErr
set_option maxRecDepth 100000
namespace Go.Proofs.YtioamkekjjkigaaGreatDoor
section
open Go.ChangeMaps Go.ChangeShapes Go.WideShapes Go.ChangeAt Go.WideMaps Go.WideElems Go.RowKit
namespace rowLinearMatchesReference
theorem own:ownKnob Tryz.prog.godebug=none:=by kernel_rfl
theorem lifted (os:Os) (started:os.Started) (H:Type) (enc:TypeId×Value->H) :
  ReturnsInHanded {} Tryz.checked os 3 .any (fun w args=>(Rows.linearMatchesReferenceSpec.pre enc Tryz.prog Tryz.f3 [] false w args/\laidMetH Tryz.prog Rows.linearMatchesReferenceRow.laid w)/\sizedMet enc Tryz.prog Tryz.f3 (OpenSpec.ofChange Rows.linearMatchesReferenceSpec) false w args)
   (Rows.linearMatchesReferenceSpec.post enc Tryz.prog Tryz.f3 false true false false):=by
 refine GM (C:=Tryz.checked) (X:=fun w _=>laidMetH Tryz.prog Rows.linearMatchesReferenceRow.laid w) (fun _ _ _ hh h=>h.of_heap hh) own started Ab Tryz.func3
  (ChangeSpec.witness_shaped (enc:=enc) (C:=Tryz.checked) (os:=os) (X:=fun w _=>laidMetH Tryz.prog Rows.linearMatchesReferenceRow.laid w) false (World.laidAll Tryz.prog os Rows.linearMatchesReferenceRow.laid) #[.agg #[.int .i64 0,.int .i64 0,.slice none 0 0,.slice none 0 0,.int .i64 0],.agg #[.int .i64 0,.slice none 0 0],.int .i64 0,.int .i64 0,.int .i64 0,.agg #[.slice none 0 0,.string ⟨#[]⟩],.int .i64 0,.slice none 0 0,.slice none 0 0,.int .i64 0,.int .i64 0] 8 (World.laidAll_os _ _ _)
   (World.shaped_of_ZipB Ab Ab) Ab Ab Ab
   (by rw [MakeChecks.laidMetH_plain _ _ _ Ab];exact laidMet_laidAll _ Ab Ab)) ?_
 intro W base args ds gs before c P _ _ N n _
 have a:∀ (j:Nat) t v,Tryz.f3.params[j]? = some t->args[j]? = some v->Value.okWide Tryz.prog W .any base t v:=c
 have k:=P
 obtain ⟨p,q,m,Y,rfl,_,_⟩:=P
 have hA:DataW.TrodAll enc Tryz.prog W 0 (fun _=>true) true Tryz.f3.params.toList args.toList ds p:=m
 rw [Tryz.params3] at hA a
 have M:=hA
 have Q:p=p++[]:=(List.append_nil p).symm
 obtain ⟨v0,vs0,d0,ds0,p0,q0,d,rfl,ep0,h0,r0⟩:=trodAll_cons hA
 obtain ⟨v1,vs1,d1,ds1,p1,q1,rfl,rfl,ep1,h1,r1⟩:=trodAll_cons r0
 obtain ⟨v2,vs2,d2,ds2,p2,q2,rfl,rfl,ep2,h2,r2⟩:=trodAll_cons r1
 obtain ⟨v3,vs3,d3,ds3,p3,q3,rfl,rfl,ep3,h3,r3⟩:=trodAll_cons r2
 obtain ⟨v4,vs4,d4,ds4,p4,q4,rfl,rfl,ep4,h4,r4⟩:=trodAll_cons r3
 obtain ⟨v5,vs5,d5,ds5,p5,q5,rfl,rfl,ep5,h5,r5⟩:=trodAll_cons r4
 obtain ⟨O,vs6,d6,ds6,p6,q6,rfl,rfl,ep6,h6,r6⟩:=trodAll_cons r5
 obtain ⟨E,vs7,d7,ds7,p7,q7,rfl,rfl,ep7,h7,T⟩:=trodAll_cons r6
 obtain ⟨g,vs8,d8,ds8,p8,q8,rfl,rfl,ep8,R,r8⟩:=trodAll_cons T
 obtain ⟨v9,vs9,d9,ds9,p9,q9,rfl,rfl,ep9,h9,S⟩:=trodAll_cons r8
 obtain ⟨f,vs10,V,ds10,p10,Z,rfl,rfl,ep10,D,A⟩:=trodAll_cons S
 obtain ⟨rfl,rfl,eq10⟩:=trodAll_nil A
 obtain rfl:args=#[v0,v1,v2,v3,v4,v5,O,E,g,v9,f]:=Array.ext' d
 obtain ⟨rfl,rfl⟩:=trodVars_none Y
 obtain ⟨x0,vc0,vh0,rfl,hx0⟩:=Vw (a 0 24 v0 rfl rfl) h0
 obtain ⟨c1,vr1,l1,rfl,s,G,r⟩:=TY (a 1 27 v1 rfl rfl) h1
 obtain ⟨n2,rfl,rfl,e2,wn2⟩:=open_int Tryz.underlying3 (a 2 3 v2 rfl rfl) h2
 have z2:(-9223372036854775808:Int)<=n2/\n2<=9223372036854775807:=by simpa [Lit.wf,IntKind.min,IntKind.max,IntKind.signed,IntKind.bits] using wn2
 obtain ⟨z,rfl,rfl,e3,wn3⟩:=open_int Tryz.underlying3 (a 3 3 v3 rfl rfl) h3
 have z3:(-9223372036854775808:Int)<=z/\z<=9223372036854775807:=by simpa [Lit.wf,IntKind.min,IntKind.max,IntKind.signed,IntKind.bits] using wn3
 obtain ⟨i,rfl,rfl,e4,wn4⟩:=open_int Tryz.underlying3 (a 4 3 v4 rfl rfl) h4
 have z4:(-9223372036854775808:Int)<=i/\i<=9223372036854775807:=by simpa [Lit.wf,IntKind.min,IntKind.max,IntKind.signed,IntKind.bits] using wn4
 obtain ⟨vn5,l5,s5,rfl,I,B,F⟩:=TX (a 5 30 v5 rfl rfl) h5
 obtain ⟨o,rfl,rfl,e6,wn6⟩:=open_int Tryz.underlying3 (a 6 3 O rfl rfl) h6
 have z6:(-9223372036854775808:Int)<=o/\o<=9223372036854775807:=by simpa [Lit.wf,IntKind.min,IntKind.max,IntKind.signed,IntKind.bits] using wn6
 obtain ⟨U,x,K⟩:=Rz (a 7 28 E rfl rfl) h7
 obtain ⟨l8,J,l⟩:=Ry (a 8 22 g rfl rfl) R
 obtain ⟨u,rfl,rfl,e9,wn9⟩:=open_int Tryz.underlying3 (a 9 3 v9 rfl rfl) h9
 have z9:(-9223372036854775808:Int)<=u/\u<=9223372036854775807:=by simpa [Lit.wf,IntKind.min,IntKind.max,IntKind.signed,IntKind.bits] using wn9
 obtain ⟨b,rfl,rfl,e10,wn10⟩:=open_int Tryz.underlying3 (a 10 3 f rfl rfl) D
 have L:(-9223372036854775808:Int)<=b/\b<=9223372036854775807:=by simpa [Lit.wf,IntKind.min,IntKind.max,IntKind.signed,IntKind.bits] using wn10
 rw [MakeChecks.laidMetH_plain _ _ _ Ab] at N
 have y:T9 W:=envQ_of (Lib.laidMet.reads N Aj) n
 refine (Rw x0 vc0 vh0 c1 vr1 l1 n2 z i vn5 l5 s5 o E U g l8 u b W hx0 s G r z2 z3 z4 I B F z6 x K J l z9 L y).mono fun e W' ⟨he,hb⟩=>?_
 subst he
 exact ⟨_,rfl,_,_,_,[],_,[],k,trodAll_mk1 (shut_bool Tryz.underlying4 _),Ns Ab hb Ab M,rfl,hb.frame _,fun h=>by cases h⟩
theorem holds:Rows.LinearMatchesReferenceSaid :=
 OpenClaim.holds_of_wide 3 Tryz.f3 rfl rfl rfl rfl rfl rfl rfl ⟨rfl,rfl,rfl,rfl,rfl⟩ rfl rfl rfl rfl rfl Ab Tryz.func3 Ab
  (Cs Ab) (by unfold Func.isWrapper;first | (rw [AU (by decide +kernel)];kernel_rfl) | (rw [AP (by decide +kernel)];exact ⟨rfl,rfl⟩))
  (fun os started H enc _=>lifted os started H enc)
theorem card_holds:Rows.LinearMatchesReferenceCardSaid :=
 Claim7.holds_tied_plain_at .later [] [.data, .data, .data, .data, .sentinel, .sentinel, .pinned] true (true, "1dbc1d8ef0bd023ec87e9cbb0eecd89f9bcade56dc1e77c114f7de77817e23d3") true
  holds (fun _ h=>by cases h) Ab (fun _ h=>by cases h) linearMatchesReference_row_tie rfl ⟨rfl,rfl⟩ Ab rfl
  (fun f fn d b=>by
   obtain rfl : f = 3 := B4 ((show Tryz.prog.funcNamed "putlog/putloglaw06.LinearMatchesReference" = some 3 by kernel_rfl).symm.trans d) |>.symm;obtain rfl:fn=Tryz.f3:=(B4 (Tryz.func3.symm.trans b)).symm;exact ⟨Ab,fun j t ht=>by
    rw [Tryz.params3] at ht;have c:t∈[24,27,3,3,3,30,3,28,22,3,3]:=by simpa using Array.mem_of_getElem? ht
    have a:([24,27,3,3,3,30,3,28,22,3,3].all fun u=>!Tryz.prog.wantsStandIn u)=true:=by kernel_rfl
    exact (show Tryz.prog.wantsStandIn t=false by simpa using AE.1 a t c)⟩)
  Ab
#print axioms card_holds
end rowLinearMatchesReference
end
end Go.Proofs.YtioamkekjjkigaaGreatDoor
