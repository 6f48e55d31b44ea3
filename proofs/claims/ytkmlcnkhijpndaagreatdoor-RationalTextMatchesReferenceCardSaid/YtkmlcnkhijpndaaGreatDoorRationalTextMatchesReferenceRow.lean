/- RationalTextMatchesReference: whatever the input, the law returns true and its input reads as before; the row's conditions, with the listed variables tied to the program's text. -/
import Derived.Test.YtkmlcnkhijpndaaGreatDoorTextQ
import Derived.Test.YtkmlcnkhijpndaaGreatDoorLaidQ
import Derived.Test.YtkmlcnkhijpndaaGreatDoorStay
import Derived.Test.YtkmlcnkhijpndaaGreatDoorPkI
import Derived.Test.YtkmlcnkhijpndaaGreatDoorRows
import Derived.Test.YtkmlcnkhijpndaaGreatDoorCards
import Derived.Test.YtkmlcnkhijpndaaGreatDoorTie
import Derived.ProofKit
import Derived.Lay
import Derived.SevenTiedAt
import Derived.OpenShut
import Derived.ChangeMaps5
import Derived.Lib.SmallJoins
import Derived.Stop.LaidErr
namespace Go.Proofs.YtkmlcnkhijpndaaGreatDoor
open Go.ChangeMaps Go.ChangeShapes Go.WideShapes Go.ChangeAt Go.WideMaps Go.WideElems Go.RowKit
namespace rowRationalTextMatchesReference
theorem own : ownKnob Tryz.prog.godebug = none := by kernel_rfl
set_option maxRecDepth 100000 in
theorem lifted (os : Os) (started : os.Started) (H : Type) (enc : TypeId × Value → H) :
    ReturnsInHanded {} Tryz.checked os 3 .any (fun w args => (Rows.rationalTextMatchesReferenceSpec.pre enc Tryz.prog Tryz.f3 [] false w args ∧ laidMetH Tryz.prog Rows.rationalTextMatchesReferenceRow.laid w) ∧ sizedMet enc Tryz.prog Tryz.f3 (OpenSpec.ofChange Rows.rationalTextMatchesReferenceSpec) false w args)
      (Rows.rationalTextMatchesReferenceSpec.post enc Tryz.prog Tryz.f3 false true false false) := by
  refine returnsInHanded_laid_shaped (C := Tryz.checked) (X := fun w _ => laidMetH Tryz.prog Rows.rationalTextMatchesReferenceRow.laid w) (fun _ _ _ hh h => h.of_heap hh) own started (by kernel_rfl) Tryz.func3
    (ChangeSpec.witness_shaped (enc := enc) (C := Tryz.checked) (os := os) (X := fun w _ => laidMetH Tryz.prog Rows.rationalTextMatchesReferenceRow.laid w) false (World.laidAll Tryz.prog os Rows.rationalTextMatchesReferenceRow.laid) #[.agg #[.string ⟨#[]⟩, .string ⟨#[]⟩], .agg #[.int .i64 0, .int .i64 0, .int .i64 0, .int .i64 0], .int .i64 0, .int .u8 0, .string ⟨#[]⟩] 8 (World.laidAll_os _ _ _)
      (World.shaped_of_ZipB (by kernel_rfl) (by kernel_rfl)) (by kernel_rfl) (by kernel_rfl) (by kernel_rfl)
      (by rw [MakeChecks.laidMetH_plain _ _ _ (by kernel_rfl)]; exact laidMet_laidAll _ (by kernel_rfl) (by kernel_rfl))) ?_
  intro W base args ds gs before hval0 hW _ _ hL hsh _
  have hval : ∀ (j : Nat) t v, Tryz.f3.params[j]? = some t → args[j]? = some v → Value.okWide Tryz.prog W .any base t v := hval0
  have hW' := hW
  obtain ⟨p, q, hA0, hV, rfl, _, _⟩ := hW
  have hA : DataW.TrodAll enc Tryz.prog W 0 (fun _ => true) true Tryz.f3.params.toList args.toList ds p := hA0
  rw [Tryz.params3] at hA hval
  have hA1 := hA
  have hin : p = p ++ [] := (List.append_nil p).symm
  obtain ⟨v0, vs0, d0, ds0, p0, q0, hargs, rfl, ep0, h0, r0⟩ := trodAll_cons hA
  obtain ⟨v1, vs1, d1, ds1, p1, q1, rfl, rfl, ep1, h1, r1⟩ := trodAll_cons r0
  obtain ⟨v2, vs2, d2, ds2, p2, q2, rfl, rfl, ep2, h2, r2⟩ := trodAll_cons r1
  obtain ⟨v3, vs3, d3, ds3, p3, q3, rfl, rfl, ep3, h3, r3⟩ := trodAll_cons r2
  obtain ⟨v4, vs4, d4, ds4, p4, q4, rfl, rfl, ep4, h4, r4⟩ := trodAll_cons r3
  obtain ⟨rfl, rfl, eq4⟩ := trodAll_nil r4
  obtain rfl : args = #[v0, v1, v2, v3, v4] := Array.ext' hargs
  obtain ⟨rfl, rfl⟩ := trodVars_none hV
  obtain ⟨u0, t0, y0, y0', nn0, rfl, _, _, hA0, hB0⟩ := Go.Joins.open_agg2 Tryz.underlying23 (by kernel_rfl) (by kernel_rfl) (hval 0 23 v0 rfl rfl) h0
  obtain ⟨s0, es0, _, ws0⟩ := DataW.trod_string Tryz.underlying9 hA0
  obtain ⟨r0s, et0, _, wt0⟩ := DataW.trod_string Tryz.underlying9 hB0
  obtain rfl : u0 = .string s0 := by simpa using es0
  obtain rfl : t0 = .string r0s := by simpa using et0
  have z0 : s0.size ≤ 9223372036854775807 := by unfold maxLen at ws0; omega
  have z0' : r0s.size ≤ 9223372036854775807 := by unfold maxLen at wt0; omega
  obtain ⟨zs1, hl1, rfl, hz1⟩ := open_ints_arr Tryz.underlying24 Tryz.underlying3 (by kernel_rfl) (by kernel_rfl) (hval 1 24 v1 rfl rfl) h1
  obtain ⟨x1_0, x1_1, x1_2, x1_3, rfl⟩ := list4 hl1
  have Fx1_0 : Fits x1_0 := by have := hz1 x1_0 (by simp); simpa [Fits, Lit.wf, IntKind.min, IntKind.max, IntKind.signed, IntKind.bits] using this
  have Fx1_1 : Fits x1_1 := by have := hz1 x1_1 (by simp); simpa [Fits, Lit.wf, IntKind.min, IntKind.max, IntKind.signed, IntKind.bits] using this
  have Fx1_2 : Fits x1_2 := by have := hz1 x1_2 (by simp); simpa [Fits, Lit.wf, IntKind.min, IntKind.max, IntKind.signed, IntKind.bits] using this
  have Fx1_3 : Fits x1_3 := by have := hz1 x1_3 (by simp); simpa [Fits, Lit.wf, IntKind.min, IntKind.max, IntKind.signed, IntKind.bits] using this
  obtain ⟨n2, rfl, rfl, e2, wn2⟩ := open_int Tryz.underlying3 (hval 2 3 v2 rfl rfl) h2
  have z2 : (-9223372036854775808 : Int) ≤ n2 ∧ n2 ≤ 9223372036854775807 := by simpa [Lit.wf, IntKind.min, IntKind.max, IntKind.signed, IntKind.bits] using wn2
  obtain ⟨n3, rfl, rfl, e3, wn3⟩ := open_int Tryz.underlying5 (hval 3 5 v3 rfl rfl) h3
  have z3 : (0 : Int) ≤ n3 ∧ n3 ≤ 255 := by simpa [Lit.wf, IntKind.min, IntKind.max, IntKind.signed, IntKind.bits] using wn3
  obtain ⟨s4, rfl, rfl, e4, ws4⟩ := open_string Tryz.underlying9 (hval 4 9 v4 rfl rfl) h4
  have z4 : s4.size ≤ 9223372036854775807 := by unfold maxLen at ws4; omega
  rw [MakeChecks.laidMetH_plain _ _ _ (by kernel_rfl)] at hL
  have hEQ : EnvQ W := envQ_of (Lib.laidMet.reads hL (.tail _ (.tail _ (.head _)))) hsh
  refine (textq_law s0 r0s x1_0 x1_1 x1_2 x1_3 n2 n3 s4 z0 z0' Fx1_0 Fx1_1 Fx1_2 Fx1_3 z2 z3 z4 W hEQ).mono fun e W' ⟨he, hb⟩ => ?_
  subst he
  exact ⟨_, rfl, _, _, _, [], _, [], hW', trodAll_mk1 (shut_bool Tryz.underlying4 _), args_stay (by kernel_rfl) hb (by kernel_rfl) hA1, rfl, hb.frame _, fun h => by cases h⟩
theorem holds : Rows.RationalTextMatchesReferenceSaid :=
  OpenClaim.holds_of_wide 3 Tryz.f3 rfl rfl rfl rfl rfl rfl rfl ⟨rfl, rfl, rfl, rfl, rfl⟩ rfl rfl rfl rfl rfl (by kernel_rfl) Tryz.func3 (by kernel_rfl)
    (of_decide_eq_true (by kernel_rfl)) (by unfold Func.isWrapper; first | (rw [if_pos (by decide +kernel)]; kernel_rfl) | (rw [if_neg (by decide +kernel)]; exact ⟨rfl, rfl⟩))
    (fun os started H enc _ => lifted os started H enc)
theorem card_holds : Rows.RationalTextMatchesReferenceCardSaid :=
  Claim7.holds_tied_plain_at .later [] [.data, .data, .data, .data, .sentinel, .sentinel, .pinned] true (true, "c92205bfdbb6d1ff355d27cd4ffd4b3cb7a1293c17bab24469bbec313551f28b") true
    holds (fun _ h => by cases h) (by kernel_rfl) (fun _ h => by cases h) rationalTextMatchesReference_row_tie rfl ⟨rfl, rfl⟩ (by kernel_rfl) rfl
    (fun f fn hf hfn => by
      obtain rfl : f = 3 := Option.some.inj ((show Tryz.prog.funcNamed "putlog/putloglaw04.RationalTextMatchesReference" = some 3 by kernel_rfl).symm.trans hf) |>.symm
      obtain rfl : fn = Tryz.f3 := (Option.some.inj (Tryz.func3.symm.trans hfn)).symm
      exact ⟨by kernel_rfl, fun j t ht => by
        rw [Tryz.params3] at ht
        have hm : t ∈ [23, 24, 3, 5, 9] := by simpa using Array.mem_of_getElem? ht
        have hall : ([23, 24, 3, 5, 9].all fun u => !Tryz.prog.wantsStandIn u) = true := by kernel_rfl
        exact (show Tryz.prog.wantsStandIn t = false by simpa using List.all_eq_true.1 hall t hm)⟩)
    (by kernel_rfl)
#print axioms card_holds
end rowRationalTextMatchesReference
end Go.Proofs.YtkmlcnkhijpndaaGreatDoor
