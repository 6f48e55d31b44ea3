/- RationalMatchesReference: whatever the input, the law returns true and its input reads as before; the row's conditions, with the listed variables tied to the program's text. -/
import Derived.Test.YtiekbcbcbgmnmaaGreatDoorMatQ
import Derived.Test.YtiekbcbcbgmnmaaGreatDoorLaidQ
import Derived.Test.YtiekbcbcbgmnmaaGreatDoorStay
import Derived.Test.YtiekbcbcbgmnmaaGreatDoorPkI
import Derived.Test.YtiekbcbcbgmnmaaGreatDoorRows
import Derived.Test.YtiekbcbcbgmnmaaGreatDoorCards
import Derived.Test.YtiekbcbcbgmnmaaGreatDoorTie
import Derived.ProofKit
import Derived.Lay
import Derived.SevenTiedAt
import Derived.OpenShut
import Derived.ChangeMaps5
import Derived.Lib.SmallJoins
import Derived.Stop.LaidErr
namespace Go.Proofs.YtiekbcbcbgmnmaaGreatDoor
open Go.ChangeMaps Go.ChangeShapes Go.WideShapes Go.ChangeAt Go.WideMaps Go.WideElems Go.RowKit
namespace rowRationalMatchesReference
theorem own : ownKnob Tryz.prog.godebug = none := by kernel_rfl
set_option maxRecDepth 100000 in
theorem lifted (os : Os) (started : os.Started) (H : Type) (enc : TypeId × Value → H) :
    ReturnsInHanded {} Tryz.checked os 3 .any (fun w args => (Rows.rationalMatchesReferenceSpec.pre enc Tryz.prog Tryz.f3 [] false w args ∧ laidMetH Tryz.prog Rows.rationalMatchesReferenceRow.laid w) ∧ sizedMet enc Tryz.prog Tryz.f3 (OpenSpec.ofChange Rows.rationalMatchesReferenceSpec) false w args)
      (Rows.rationalMatchesReferenceSpec.post enc Tryz.prog Tryz.f3 false true false false) := by
  refine returnsInHanded_laid_shaped (C := Tryz.checked) (X := fun w _ => laidMetH Tryz.prog Rows.rationalMatchesReferenceRow.laid w) (fun _ _ _ hh h => h.of_heap hh) own started (by kernel_rfl) Tryz.func3
    (ChangeSpec.witness_shaped (enc := enc) (C := Tryz.checked) (os := os) (X := fun w _ => laidMetH Tryz.prog Rows.rationalMatchesReferenceRow.laid w) false (World.laidAll Tryz.prog os Rows.rationalMatchesReferenceRow.laid) #[.agg #[.string ⟨#[]⟩, .string ⟨#[]⟩], .agg #[.string ⟨#[]⟩, .string ⟨#[]⟩], .agg #[.int .i64 0, .int .i64 0, .int .i64 0, .int .i64 0], .agg #[.int .i64 0, .int .i64 0, .int .i64 0, .int .i64 0], .agg #[.int .i64 0, .int .i64 0], .int .i64 0, .int .i64 0, .int .i64 0] 8 (World.laidAll_os _ _ _)
      (World.shaped_of_ZipB (by kernel_rfl) (by kernel_rfl)) (by kernel_rfl) (by kernel_rfl) (by kernel_rfl)
      (by rw [MakeChecks.laidMetH_plain _ _ _ (by kernel_rfl)]; exact laidMet_laidAll _ (by kernel_rfl) (by kernel_rfl))) ?_
  intro W base args ds gs before hval0 hW _ _ hL hsh _
  have hval : ∀ (j : Nat) t v, Tryz.f3.params[j]? = some t → args[j]? = some v → Value.okWide Tryz.prog W .any base t v := hval0
  have hW' := hW
  obtain ⟨p, q, hA0, hV, rfl, _, _⟩ := hW
  have hA : DataW.TrodAll enc Tryz.prog W 0 (fun _ => true) true Tryz.f3.params.toList args.toList ds p := hA0
  rw [Tryz.params3] at hA hval
  have hA1 := hA
  have hin : p = p ++ [] := (List.append_nil p).symm
  obtain ⟨v0, vs0, d0, ds0, p0, q0, hargs, rfl, ep0, h0, r0⟩ := trodAll_cons hA
  obtain ⟨v1, vs1, d1, ds1, p1, q1, rfl, rfl, ep1, h1, r1⟩ := trodAll_cons r0
  obtain ⟨v2, vs2, d2, ds2, p2, q2, rfl, rfl, ep2, h2, r2⟩ := trodAll_cons r1
  obtain ⟨v3, vs3, d3, ds3, p3, q3, rfl, rfl, ep3, h3, r3⟩ := trodAll_cons r2
  obtain ⟨v4, vs4, d4, ds4, p4, q4, rfl, rfl, ep4, h4, r4⟩ := trodAll_cons r3
  obtain ⟨v5, vs5, d5, ds5, p5, q5, rfl, rfl, ep5, h5, r5⟩ := trodAll_cons r4
  obtain ⟨v6, vs6, d6, ds6, p6, q6, rfl, rfl, ep6, h6, r6⟩ := trodAll_cons r5
  obtain ⟨v7, vs7, d7, ds7, p7, q7, rfl, rfl, ep7, h7, r7⟩ := trodAll_cons r6
  obtain ⟨rfl, rfl, eq7⟩ := trodAll_nil r7
  obtain rfl : args = #[v0, v1, v2, v3, v4, v5, v6, v7] := Array.ext' hargs
  obtain ⟨rfl, rfl⟩ := trodVars_none hV
  obtain ⟨u0, t0, y0, y0', nn0, rfl, _, _, hA0, hB0⟩ := Go.Joins.open_agg2 Tryz.underlying23 (by kernel_rfl) (by kernel_rfl) (hval 0 23 v0 rfl rfl) h0
  obtain ⟨s0, es0, _, ws0⟩ := DataW.trod_string Tryz.underlying9 hA0
  obtain ⟨r0s, et0, _, wt0⟩ := DataW.trod_string Tryz.underlying9 hB0
  obtain rfl : u0 = .string s0 := by simpa using es0
  obtain rfl : t0 = .string r0s := by simpa using et0
  have z0 : s0.size ≤ 9223372036854775807 := by unfold maxLen at ws0; omega
  have z0' : r0s.size ≤ 9223372036854775807 := by unfold maxLen at wt0; omega
  obtain ⟨u1, t1, y1, y1', nn1, rfl, _, _, hA1, hB1⟩ := Go.Joins.open_agg2 Tryz.underlying23 (by kernel_rfl) (by kernel_rfl) (hval 1 23 v1 rfl rfl) h1
  obtain ⟨s1, es1, _, ws1⟩ := DataW.trod_string Tryz.underlying9 hA1
  obtain ⟨r1s, et1, _, wt1⟩ := DataW.trod_string Tryz.underlying9 hB1
  obtain rfl : u1 = .string s1 := by simpa using es1
  obtain rfl : t1 = .string r1s := by simpa using et1
  have z1 : s1.size ≤ 9223372036854775807 := by unfold maxLen at ws1; omega
  have z1' : r1s.size ≤ 9223372036854775807 := by unfold maxLen at wt1; omega
  obtain ⟨zs2, hl2, rfl, hz2⟩ := open_ints_arr Tryz.underlying24 Tryz.underlying3 (by kernel_rfl) (by kernel_rfl) (hval 2 24 v2 rfl rfl) h2
  obtain ⟨x2_0, x2_1, x2_2, x2_3, rfl⟩ := list4 hl2
  have Fx2_0 : Fits x2_0 := by have := hz2 x2_0 (by simp); simpa [Fits, Lit.wf, IntKind.min, IntKind.max, IntKind.signed, IntKind.bits] using this
  have Fx2_1 : Fits x2_1 := by have := hz2 x2_1 (by simp); simpa [Fits, Lit.wf, IntKind.min, IntKind.max, IntKind.signed, IntKind.bits] using this
  have Fx2_2 : Fits x2_2 := by have := hz2 x2_2 (by simp); simpa [Fits, Lit.wf, IntKind.min, IntKind.max, IntKind.signed, IntKind.bits] using this
  have Fx2_3 : Fits x2_3 := by have := hz2 x2_3 (by simp); simpa [Fits, Lit.wf, IntKind.min, IntKind.max, IntKind.signed, IntKind.bits] using this
  obtain ⟨zs3, hl3, rfl, hz3⟩ := open_ints_arr Tryz.underlying24 Tryz.underlying3 (by kernel_rfl) (by kernel_rfl) (hval 3 24 v3 rfl rfl) h3
  obtain ⟨x3_0, x3_1, x3_2, x3_3, rfl⟩ := list4 hl3
  have Fx3_0 : Fits x3_0 := by have := hz3 x3_0 (by simp); simpa [Fits, Lit.wf, IntKind.min, IntKind.max, IntKind.signed, IntKind.bits] using this
  have Fx3_1 : Fits x3_1 := by have := hz3 x3_1 (by simp); simpa [Fits, Lit.wf, IntKind.min, IntKind.max, IntKind.signed, IntKind.bits] using this
  have Fx3_2 : Fits x3_2 := by have := hz3 x3_2 (by simp); simpa [Fits, Lit.wf, IntKind.min, IntKind.max, IntKind.signed, IntKind.bits] using this
  have Fx3_3 : Fits x3_3 := by have := hz3 x3_3 (by simp); simpa [Fits, Lit.wf, IntKind.min, IntKind.max, IntKind.signed, IntKind.bits] using this
  obtain ⟨zs4, hl4, rfl, hz4⟩ := open_ints_arr Tryz.underlying25 Tryz.underlying3 (by kernel_rfl) (by kernel_rfl) (hval 4 25 v4 rfl rfl) h4
  obtain ⟨x4_0, x4_1, rfl⟩ := list2 hl4
  have Fx4_0 : Fits x4_0 := by have := hz4 x4_0 (by simp); simpa [Fits, Lit.wf, IntKind.min, IntKind.max, IntKind.signed, IntKind.bits] using this
  have Fx4_1 : Fits x4_1 := by have := hz4 x4_1 (by simp); simpa [Fits, Lit.wf, IntKind.min, IntKind.max, IntKind.signed, IntKind.bits] using this
  obtain ⟨n5, rfl, rfl, e5, wn5⟩ := open_int Tryz.underlying3 (hval 5 3 v5 rfl rfl) h5
  have z5 : (-9223372036854775808 : Int) ≤ n5 ∧ n5 ≤ 9223372036854775807 := by simpa [Lit.wf, IntKind.min, IntKind.max, IntKind.signed, IntKind.bits] using wn5
  obtain ⟨n6, rfl, rfl, e6, wn6⟩ := open_int Tryz.underlying3 (hval 6 3 v6 rfl rfl) h6
  have z6 : (-9223372036854775808 : Int) ≤ n6 ∧ n6 ≤ 9223372036854775807 := by simpa [Lit.wf, IntKind.min, IntKind.max, IntKind.signed, IntKind.bits] using wn6
  obtain ⟨n7, rfl, rfl, e7, wn7⟩ := open_int Tryz.underlying3 (hval 7 3 v7 rfl rfl) h7
  have z7 : (-9223372036854775808 : Int) ≤ n7 ∧ n7 ≤ 9223372036854775807 := by simpa [Lit.wf, IntKind.min, IntKind.max, IntKind.signed, IntKind.bits] using wn7
  rw [MakeChecks.laidMetH_plain _ _ _ (by kernel_rfl)] at hL
  have hEQ : EnvQ W := envQ_of (Lib.laidMet.reads hL (.tail _ (.tail _ (.head _)))) hsh
  refine (match_row s0 r0s s1 r1s x2_0 x2_1 x2_2 x2_3 x3_0 x3_1 x3_2 x3_3 x4_0 x4_1 n5 n6 n7 z0 z0' z1 z1' Fx2_0 Fx2_1 Fx2_2 Fx2_3 Fx3_0 Fx3_1 Fx3_2 Fx3_3 Fx4_0 Fx4_1 z5 z6 z7 W hEQ).mono fun e W' ⟨he, hb⟩ => ?_
  subst he
  exact ⟨_, rfl, _, _, _, [], _, [], hW', trodAll_mk1 (shut_bool Tryz.underlying4 _), args_stay (by kernel_rfl) hb (by kernel_rfl) hA1, rfl, hb.frame _, fun h => by cases h⟩
theorem holds : Rows.RationalMatchesReferenceSaid :=
  OpenClaim.holds_of_wide 3 Tryz.f3 rfl rfl rfl rfl rfl rfl rfl ⟨rfl, rfl, rfl, rfl, rfl⟩ rfl rfl rfl rfl rfl (by kernel_rfl) Tryz.func3 (by kernel_rfl)
    (of_decide_eq_true (by kernel_rfl)) (by unfold Func.isWrapper; first | (rw [if_pos (by decide +kernel)]; kernel_rfl) | (rw [if_neg (by decide +kernel)]; exact ⟨rfl, rfl⟩))
    (fun os started H enc _ => lifted os started H enc)
theorem card_holds : Rows.RationalMatchesReferenceCardSaid :=
  Claim7.holds_tied_plain_at .later [] [.data, .data, .data, .data, .sentinel, .sentinel, .pinned] true (true, "a46c1128665334944f1a506d4c7c04b715e514d3cbef3006bb700858b5f52893") true
    holds (fun _ h => by cases h) (by kernel_rfl) (fun _ h => by cases h) rationalMatchesReference_row_tie rfl ⟨rfl, rfl⟩ (by kernel_rfl) rfl
    (fun f fn hf hfn => by
      obtain rfl : f = 3 := Option.some.inj ((show Tryz.prog.funcNamed "putlog/putloglaw04.RationalMatchesReference" = some 3 by kernel_rfl).symm.trans hf) |>.symm
      obtain rfl : fn = Tryz.f3 := (Option.some.inj (Tryz.func3.symm.trans hfn)).symm
      exact ⟨by kernel_rfl, fun j t ht => by
        rw [Tryz.params3] at ht
        have hm : t ∈ [23, 23, 24, 24, 25, 3, 3, 3] := by simpa using Array.mem_of_getElem? ht
        have hall : ([23, 23, 24, 24, 25, 3, 3, 3].all fun u => !Tryz.prog.wantsStandIn u) = true := by kernel_rfl
        exact (show Tryz.prog.wantsStandIn t = false by simpa using List.all_eq_true.1 hall t hm)⟩)
    (by kernel_rfl)
#print axioms card_holds
end rowRationalMatchesReference
end Go.Proofs.YtiekbcbcbgmnmaaGreatDoor
