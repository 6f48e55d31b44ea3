/- DecayMatchesReference: whatever the input, the law returns true and its input reads as before; the row's conditions, with the listed variables tied to the program's text. -/
import Derived.Test.YtebokdboodgkpaaGreatDoorMatD
import Derived.Test.YtebokdboodgkpaaGreatDoorLaidQ
import Derived.Test.YtebokdboodgkpaaGreatDoorPkS
import Derived.Test.YtebokdboodgkpaaGreatDoorStay
import Derived.Test.YtebokdboodgkpaaGreatDoorPkI
import Derived.Test.YtebokdboodgkpaaGreatDoorRows
import Derived.Test.YtebokdboodgkpaaGreatDoorCards
import Derived.Test.YtebokdboodgkpaaGreatDoorTie
import Derived.ProofKit
import Derived.Lay
import Derived.SevenTiedAt
import Derived.OpenShut
import Derived.ChangeMaps5
import Derived.Lib.SmallJoins
import Derived.Stop.LaidErr
namespace Go.Proofs.YtebokdboodgkpaaGreatDoor
open Go.ChangeMaps Go.ChangeShapes Go.WideShapes Go.ChangeAt Go.WideMaps Go.WideElems Go.RowKit
namespace rowDecayMatchesReference
theorem own : ownKnob Tryz.prog.godebug = none := by kernel_rfl
set_option maxRecDepth 100000 in
theorem lifted (os : Os) (started : os.Started) (H : Type) (enc : TypeId × Value → H) :
    ReturnsInHanded {} Tryz.checked os 3 .any (fun w args => (Rows.decayMatchesReferenceSpec.pre enc Tryz.prog Tryz.f3 [] false w args ∧ laidMetH Tryz.prog Rows.decayMatchesReferenceRow.laid w) ∧ sizedMet enc Tryz.prog Tryz.f3 (OpenSpec.ofChange Rows.decayMatchesReferenceSpec) false w args)
      (Rows.decayMatchesReferenceSpec.post enc Tryz.prog Tryz.f3 false true false false) := by
  refine returnsInHanded_laid_shaped (C := Tryz.checked) (X := fun w _ => laidMetH Tryz.prog Rows.decayMatchesReferenceRow.laid w) (fun _ _ _ hh h => h.of_heap hh) own started (by kernel_rfl) Tryz.func3
    (ChangeSpec.witness_shaped (enc := enc) (C := Tryz.checked) (os := os) (X := fun w _ => laidMetH Tryz.prog Rows.decayMatchesReferenceRow.laid w) false (World.laidAll Tryz.prog os Rows.decayMatchesReferenceRow.laid) #[.agg #[.int .i64 0, .int .i64 0, .slice none 0 0, .int .i64 0], .slice none 0 0, .int .i64 0, .int .i64 0, .int .i64 0, .int .i64 0, .int .i64 0, .agg #[.string ⟨#[]⟩, .string ⟨#[]⟩], .agg #[.string ⟨#[]⟩, .string ⟨#[]⟩]] 8 (World.laidAll_os _ _ _)
      (World.shaped_of_ZipB (by kernel_rfl) (by kernel_rfl)) (by kernel_rfl) (by kernel_rfl) (by kernel_rfl)
      (by rw [MakeChecks.laidMetH_plain _ _ _ (by kernel_rfl)]; exact laidMet_laidAll _ (by kernel_rfl) (by kernel_rfl))) ?_
  intro W base args ds gs before hval0 hW _ _ hL hsh _
  have hval : ∀ (j : Nat) t v, Tryz.f3.params[j]? = some t → args[j]? = some v → Value.okWide Tryz.prog W .any base t v := hval0
  have hW' := hW
  obtain ⟨p, q, hA0, hV, rfl, _, _⟩ := hW
  have hA : DataW.TrodAll enc Tryz.prog W 0 (fun _ => true) true Tryz.f3.params.toList args.toList ds p := hA0
  rw [Tryz.params3] at hA hval
  have hA1 := hA
  have hin : p = p ++ [] := (List.append_nil p).symm
  obtain ⟨v0, vs0, d0, ds0, p0, q0, hargs, rfl, ep0, h0, r0⟩ := trodAll_cons hA
  obtain ⟨v1, vs1, d1, ds1, p1, q1, rfl, rfl, ep1, h1, r1⟩ := trodAll_cons r0
  obtain ⟨v2, vs2, d2, ds2, p2, q2, rfl, rfl, ep2, h2, r2⟩ := trodAll_cons r1
  obtain ⟨v3, vs3, d3, ds3, p3, q3, rfl, rfl, ep3, h3, r3⟩ := trodAll_cons r2
  obtain ⟨v4, vs4, d4, ds4, p4, q4, rfl, rfl, ep4, h4, r4⟩ := trodAll_cons r3
  obtain ⟨v5, vs5, d5, ds5, p5, q5, rfl, rfl, ep5, h5, r5⟩ := trodAll_cons r4
  obtain ⟨v6, vs6, d6, ds6, p6, q6, rfl, rfl, ep6, h6, r6⟩ := trodAll_cons r5
  obtain ⟨v7, vs7, d7, ds7, p7, q7, rfl, rfl, ep7, h7, r7⟩ := trodAll_cons r6
  obtain ⟨v8, vs8, d8, ds8, p8, q8, rfl, rfl, ep8, h8, r8⟩ := trodAll_cons r7
  obtain ⟨rfl, rfl, eq8⟩ := trodAll_nil r8
  obtain rfl : args = #[v0, v1, v2, v3, v4, v5, v6, v7, v8] := Array.ext' hargs
  obtain ⟨rfl, rfl⟩ := trodVars_none hV
  obtain ⟨x0, rfl, hx0⟩ := open_nm (hval 0 24 v0 rfl rfl) h0
  obtain ⟨l1, hl1, hf1⟩ := open_dts (hval 1 25 v1 rfl rfl) h1
  obtain ⟨n2, rfl, rfl, e2, wn2⟩ := open_int Tryz.underlying3 (hval 2 3 v2 rfl rfl) h2
  have z2 : (-9223372036854775808 : Int) ≤ n2 ∧ n2 ≤ 9223372036854775807 := by simpa [Lit.wf, IntKind.min, IntKind.max, IntKind.signed, IntKind.bits] using wn2
  obtain ⟨n3, rfl, rfl, e3, wn3⟩ := open_int Tryz.underlying3 (hval 3 3 v3 rfl rfl) h3
  have z3 : (-9223372036854775808 : Int) ≤ n3 ∧ n3 ≤ 9223372036854775807 := by simpa [Lit.wf, IntKind.min, IntKind.max, IntKind.signed, IntKind.bits] using wn3
  obtain ⟨n4, rfl, rfl, e4, wn4⟩ := open_int Tryz.underlying3 (hval 4 3 v4 rfl rfl) h4
  have z4 : (-9223372036854775808 : Int) ≤ n4 ∧ n4 ≤ 9223372036854775807 := by simpa [Lit.wf, IntKind.min, IntKind.max, IntKind.signed, IntKind.bits] using wn4
  obtain ⟨n5, rfl, rfl, e5, wn5⟩ := open_int Tryz.underlying3 (hval 5 3 v5 rfl rfl) h5
  have z5 : (-9223372036854775808 : Int) ≤ n5 ∧ n5 ≤ 9223372036854775807 := by simpa [Lit.wf, IntKind.min, IntKind.max, IntKind.signed, IntKind.bits] using wn5
  obtain ⟨n6, rfl, rfl, e6, wn6⟩ := open_int Tryz.underlying3 (hval 6 3 v6 rfl rfl) h6
  have z6 : (-9223372036854775808 : Int) ≤ n6 ∧ n6 ≤ 9223372036854775807 := by simpa [Lit.wf, IntKind.min, IntKind.max, IntKind.signed, IntKind.bits] using wn6
  obtain ⟨u7, t7, y7, y7', nn7, rfl, _, _, hA7, hB7⟩ := Go.Joins.open_agg2 Tryz.underlying27 (by kernel_rfl) (by kernel_rfl) (hval 7 27 v7 rfl rfl) h7
  obtain ⟨s7, es7, _, ws7⟩ := DataW.trod_string Tryz.underlying9 hA7
  obtain ⟨r7s, et7, _, wt7⟩ := DataW.trod_string Tryz.underlying9 hB7
  obtain rfl : u7 = .string s7 := by simpa using es7
  obtain rfl : t7 = .string r7s := by simpa using et7
  have z7 : s7.size ≤ 9223372036854775807 := by unfold maxLen at ws7; omega
  have z7' : r7s.size ≤ 9223372036854775807 := by unfold maxLen at wt7; omega
  obtain ⟨u8, t8, y8, y8', nn8, rfl, _, _, hA8, hB8⟩ := Go.Joins.open_agg2 Tryz.underlying27 (by kernel_rfl) (by kernel_rfl) (hval 8 27 v8 rfl rfl) h8
  obtain ⟨s8, es8, _, ws8⟩ := DataW.trod_string Tryz.underlying9 hA8
  obtain ⟨r8s, et8, _, wt8⟩ := DataW.trod_string Tryz.underlying9 hB8
  obtain rfl : u8 = .string s8 := by simpa using es8
  obtain rfl : t8 = .string r8s := by simpa using et8
  have z8 : s8.size ≤ 9223372036854775807 := by unfold maxLen at ws8; omega
  have z8' : r8s.size ≤ 9223372036854775807 := by unfold maxLen at wt8; omega
  rw [MakeChecks.laidMetH_plain _ _ _ (by kernel_rfl)] at hL
  have hEQ : EnvQ W := envQ_of (Lib.laidMet.reads hL (.tail _ (.tail _ (.head _)))) hsh
  refine (match26_row x0 v1 l1 n2 n3 n4 n5 n6 s7 r7s s8 r8s W hx0 hl1 hf1 z2 z3 z4 z5 z6 z7 z7' z8 z8' hEQ).mono fun e W' ⟨he, hb⟩ => ?_
  subst he
  exact ⟨_, rfl, _, _, _, [], _, [], hW', trodAll_mk1 (shut_bool Tryz.underlying4 _), args_stay (by kernel_rfl) hb (by kernel_rfl) hA1, rfl, hb.frame _, fun h => by cases h⟩
theorem holds : Rows.DecayMatchesReferenceSaid :=
  OpenClaim.holds_of_wide 3 Tryz.f3 rfl rfl rfl rfl rfl rfl rfl ⟨rfl, rfl, rfl, rfl, rfl⟩ rfl rfl rfl rfl rfl (by kernel_rfl) Tryz.func3 (by kernel_rfl)
    (of_decide_eq_true (by kernel_rfl)) (by unfold Func.isWrapper; first | (rw [if_pos (by decide +kernel)]; kernel_rfl) | (rw [if_neg (by decide +kernel)]; exact ⟨rfl, rfl⟩))
    (fun os started H enc _ => lifted os started H enc)
theorem card_holds : Rows.DecayMatchesReferenceCardSaid :=
  Claim7.holds_tied_plain_at .later [] [.data, .data, .data, .data, .sentinel, .sentinel, .pinned] true (true, "e30f2db00f5ae2d53c0dddac3640b6e7dcdb630bcc7abe14d6c8c2e1813ab142") true
    holds (fun _ h => by cases h) (by kernel_rfl) (fun _ h => by cases h) decayMatchesReference_row_tie rfl ⟨rfl, rfl⟩ (by kernel_rfl) rfl
    (fun f fn hf hfn => by
      obtain rfl : f = 3 := Option.some.inj ((show Tryz.prog.funcNamed "putlog/putloglaw26.DecayMatchesReference" = some 3 by kernel_rfl).symm.trans hf) |>.symm
      obtain rfl : fn = Tryz.f3 := (Option.some.inj (Tryz.func3.symm.trans hfn)).symm
      exact ⟨by kernel_rfl, fun j t ht => by
        rw [Tryz.params3] at ht
        have hm : t ∈ [24, 25, 3, 3, 3, 3, 3, 27, 27] := by simpa using Array.mem_of_getElem? ht
        have hall : ([24, 25, 3, 3, 3, 3, 3, 27, 27].all fun u => !Tryz.prog.wantsStandIn u) = true := by kernel_rfl
        exact (show Tryz.prog.wantsStandIn t = false by simpa using List.all_eq_true.1 hall t hm)⟩)
    (by kernel_rfl)
#print axioms card_holds
end rowDecayMatchesReference
end Go.Proofs.YtebokdboodgkpaaGreatDoor
