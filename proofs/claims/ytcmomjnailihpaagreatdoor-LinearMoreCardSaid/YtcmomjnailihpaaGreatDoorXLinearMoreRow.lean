/- LinearMoreRow -/
import Derived.Test.YtcmomjnailihpaaGreatDoorXMdC
import Derived.Test.YtcmomjnailihpaaGreatDoorRows
import Derived.Test.YtcmomjnailihpaaGreatDoorCards
import Derived.Test.YtcmomjnailihpaaGreatDoorTie
import Derived.ProofKit
import Derived.Lay
import Derived.SevenTiedAt
import Derived.OpenShut
import Derived.ChangeMaps5
import Derived.Lib.SmallJoins
import Derived.Stop.LaidErr
set_option maxRecDepth 100000
namespace Go.Proofs.YtcmomjnailihpaaGreatDoor
section
open Go.ChangeMaps Go.ChangeShapes Go.WideShapes Go.ChangeAt Go.WideMaps Go.WideElems Go.RowKit
namespace rowLinearMore
theorem own : ownKnob Tryz.prog.godebug = none := by kernel_rfl
theorem lifted (os : Os) (started : os.Started) (H : Type) (enc : TypeId × Value → H) :
  ReturnsInHanded {} Tryz.checked os 8 .any (fun w args => (Rows.linearMoreSpec.pre enc Tryz.prog Tryz.f8 [] false w args ∧ laidMetH Tryz.prog Rows.linearMoreRow.laid w) ∧ sizedMet enc Tryz.prog Tryz.f8 (OpenSpec.ofChange Rows.linearMoreSpec) false w args)
   (Rows.linearMoreSpec.post enc Tryz.prog Tryz.f8 false true false false) := by
 refine BW (C := Tryz.checked) (X := fun w _ => laidMetH Tryz.prog Rows.linearMoreRow.laid w) (fun _ _ _ hh h => h.of_heap hh) own started (by kernel_rfl) Tryz.func8
  (ChangeSpec.witness_shaped (enc := enc) (C := Tryz.checked) (os := os) (X := fun w _ => laidMetH Tryz.prog Rows.linearMoreRow.laid w) false (World.laidAll Tryz.prog os Rows.linearMoreRow.laid) #[.agg #[.int .i64 0, .int .i64 0, .slice none 0 0, .slice none 0 0, .int .i64 0], .slice none 0 0, .int .i64 0, .slice none 0 0] 8 (World.laidAll_os _ _ _)
   (World.shaped_of_ZipB (by kernel_rfl) (by kernel_rfl)) (by kernel_rfl) (by kernel_rfl) (by kernel_rfl)
   (by rw [MakeChecks.laidMetH_plain _ _ _ (by kernel_rfl)]; exact laidMet_laidAll _ (by kernel_rfl) (by kernel_rfl))) ?_
 intro W base args ds gs before hval0 hW _ _ hL hsh _
 have hval : ∀ (j : Nat) t v, Tryz.f8.params[j]? = some t → args[j]? = some v → Value.okWide Tryz.prog W .any base t v := hval0
 have hW' := hW
 obtain ⟨p, q, hA0, hV, rfl, _, _⟩ := hW
 have hA : DataW.TrodAll enc Tryz.prog W 0 (fun _ => true) true Tryz.f8.params.toList args.toList ds p := hA0
 rw [Tryz.params8] at hA hval
 have hA1 := hA
 have hin : p = p ++ [] := (List.append_nil p).symm
 obtain ⟨v0, vs0, d0, ds0, p0, q0, hargs, rfl, ep0, h0, r0⟩ := trodAll_cons hA
 obtain ⟨v1, vs1, d1, ds1, p1, q1, rfl, rfl, ep1, h1, r1⟩ := trodAll_cons r0
 obtain ⟨v2, vs2, d2, ds2, p2, q2, rfl, rfl, ep2, h2, r2⟩ := trodAll_cons r1
 obtain ⟨v3, vs3, d3, ds3, p3, q3, rfl, rfl, ep3, h3, r3⟩ := trodAll_cons r2
 obtain ⟨rfl, rfl, eq3⟩ := trodAll_nil r3
 obtain rfl : args = #[v0, v1, v2, v3] := Array.ext' hargs
 obtain ⟨rfl, rfl⟩ := trodVars_none hV
 obtain ⟨x0, vc0, vh0, rfl, hx0⟩ := LR (hval 0 24 v0 rfl rfl) h0
 obtain ⟨l1, hl1, hf1⟩ := Fj (hval 1 22 v1 rfl rfl) h1
 obtain ⟨n2, rfl, rfl, e2, wn2⟩ := open_int Tryz.underlying3 (hval 2 3 v2 rfl rfl) h2
 have z2 : (-9223372036854775808 : Int) ≤ n2 ∧ n2 ≤ 9223372036854775807 := by simpa [Lit.wf, IntKind.min, IntKind.max, IntKind.signed, IntKind.bits] using wn2
 obtain ⟨l3, hl3, hf3⟩ := Fj (hval 3 22 v3 rfl rfl) h3
 rw [MakeChecks.laidMetH_plain _ _ _ (by kernel_rfl)] at hL
 have hEQ : EnvQ W := envQ_of (Lib.laidMet.reads hL (.tail _ (.tail _ (.head _)))) hsh
 refine (LP x0 vc0 vh0 v1 l1 n2 v3 l3 W hx0 hl1 hf1 z2 hl3 hf3 hEQ).mono fun e W' ⟨he, hb⟩ => ?_
 subst he
 exact ⟨_, rfl, _, _, _, [], _, [], hW', trodAll_mk1 (shut_bool Tryz.underlying4 _), G6 (by kernel_rfl) hb (by kernel_rfl) hA1, rfl, hb.frame _, fun h => by cases h⟩
theorem holds : Rows.LinearMoreSaid :=
 OpenClaim.holds_of_wide 8 Tryz.f8 rfl rfl rfl rfl rfl rfl rfl ⟨rfl, rfl, rfl, rfl, rfl⟩ rfl rfl rfl rfl rfl (by kernel_rfl) Tryz.func8 (by kernel_rfl)
  (of_decide_eq_true (by kernel_rfl)) (by unfold Func.isWrapper; first | (rw [if_pos (by decide +kernel)]; kernel_rfl) | (rw [if_neg (by decide +kernel)]; exact ⟨rfl, rfl⟩))
  (fun os started H enc _ => lifted os started H enc)
theorem card_holds : Rows.LinearMoreCardSaid :=
 Claim7.holds_tied_plain_at .later [] [.data, .data, .data, .data, .sentinel, .sentinel, .pinned] true (true, "9073599f2a3b8ca571d8cb1cfd7a38e582bc95d09afe03ae2054738d8d94594e") true
  holds (fun _ h => by cases h) (by kernel_rfl) (fun _ h => by cases h) linearMore_row_tie rfl ⟨rfl, rfl⟩ (by kernel_rfl) rfl
  (fun f fn hf hfn => by
   obtain rfl : f = 8 := Option.some.inj ((show Tryz.prog.funcNamed "putlog/putloglaw06.LinearMore" = some 8 by kernel_rfl).symm.trans hf) |>.symm
   obtain rfl : fn = Tryz.f8 := (Option.some.inj (Tryz.func8.symm.trans hfn)).symm
   exact ⟨by kernel_rfl, fun j t ht => by
    rw [Tryz.params8] at ht
    have hm : t ∈ [24, 22, 3, 22] := by simpa using Array.mem_of_getElem? ht
    have hall : ([24, 22, 3, 22].all fun u => !Tryz.prog.wantsStandIn u) = true := by kernel_rfl
    exact (show Tryz.prog.wantsStandIn t = false by simpa using List.all_eq_true.1 hall t hm)⟩)
  (by kernel_rfl)
#print axioms card_holds
end rowLinearMore
end
end Go.Proofs.YtcmomjnailihpaaGreatDoor
