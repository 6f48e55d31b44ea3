/- OrA, OrB, OrC -/
import Derived.Test.YtcmomjnailihpaaGreatDoorXLcK
set_option maxHeartbeats 8000000
set_option maxRecDepth 100000
namespace Go.Proofs.YtcmomjnailihpaaGreatDoor
section
open Go.RowKit
attribute [local go_sem] Oper.semAt_some
theorem ord_r10 {Q : Exit → Act → World → Prop} {us : List Value} {bS bT sb so m mc i k c : Nat} {v : Value} {ca : Option Addr} {cn ck : Nat} {xs : List Value} {nr z : Int} {w W0 : World} {L : BLs} {R : List RowD} {c59 : Int} {r60 : Int} (hn : Hid (i ≤ 1000000)) (hm0 : ¬ m = 0) (hk0 : (0 : Int) ≤ k) (hk1 : (k : Int) < m)  (x53 : Hid (∀ W, Mem w L R W → W.cell? ⟨bS, 1, none⟩ = some (.slice (some ⟨sb, so, none⟩) m mc))) (x57 : Hid (∀ W, Mem w L R W → W.cell? ⟨bS, 1, none⟩ = some (.slice (some ⟨sb, so, none⟩) m mc))) (C59 : Hid (∀ W, Mem w L R W → Calls Tryz.prog 24 #[.int .i64 nr, .int .i64 m] W (Rets W (.int .i64 c59)))) (h60 : IntKind.i64.wrap (i + c59) = r60) (x62 : Hid (∀ W, Mem w L R W → W.cell? ⟨bS, 1, none⟩ = some (.slice (some ⟨sb, so, none⟩) m mc))) (h64 : (r60).tmod m = (k : Int)) (x66_0 : Hid (∀ W, Mem w L R W → W.cell? ⟨sb, so + k * 2, none⟩ = some (.slice ca cn ck))) (x66_1 : Hid (∀ W, Mem w L R W → W.cell? ⟨sb, so + k * 2 + 1, none⟩ = some (.int .i64 z))) (h0 : Hid (Mem w ((bT, #[.int .i64 c, v], 27) :: L) (⟨60, 2, v, i, xs⟩ :: R) W0)) (hN : us.length = 210) (g1 : us[1]? = some (.int .i64 nr)) (g11 : us[11]? = some (.pointer (some ⟨bS, 0, none⟩))) (g12 : us[12]? = some (.pointer (some ⟨bT, 0, none⟩))) (g15 : us[15]? = some (.int .i64 i)) {ops : Array Oper} (ho : getOps Tryz.f7.body 10 = some ops)
  (hQ : ∀ (x : Nat → Value) (G68 : Nat) (cap68 : Nat) (W' : World), Hid (Mem w ((bT, #[.int .i64 c, .slice (some ⟨G68, 0, none⟩) (i + 1) cap68], 27) :: L) (⟨60, 2, .slice (some ⟨G68, 0, none⟩) (i + 1) cap68, i + 1, xs ++ [.slice ca cn ck, .int .i64 z]⟩ :: R) W') → Q .normal { tmps := (sets [50, 51, 52, 53, 54, 55, 56, 57, 58, 59, 60, 61, 62, 63, 64, 65, 66, 67, 68, 69] x us).toArray, defers := [] } W') :
  (Code.region 10 ops true).wp Tryz.prog Q { tmps := us.toArray, defers := [] } W0 := by
 obtain rfl := Option.some.inj (ho.symm.trans (rfl : getOps Tryz.f7.body 10 = some _))
 clear ho
 replace hQ := A8 hQ
 have hst : ∀ G68 : Nat, ∀ cap68 : Nat, MStable ([(17, 67, (fun yv W => ∃ (g67 : Nat), yv = .slice (some ⟨g67, 0, none⟩) 1 1 ∧ Blk W g67 #[.slice ca cn ck, .int .i64 z] 60), some 18)] : ML) := by
  intro G68 cap68 p hp yv W W' hb h
  simp only [List.mem_cons, List.not_mem_nil, or_false] at hp
  rcases hp with rfl
  ·obtain ⟨g, e, h⟩ := h; exact ⟨g, e, h.below hb⟩
 obtain ⟨Iv, hI⟩ : ∃ Iv : (Nat → Bool) → Act → World → Prop, ∀ l a W, Iv l a W ↔ (∃ G68 : Nat, ∃ cap68 : Nat, Fr us.toArray [50, 51, 52, 53, 54, 55, 56, 57, 58, 59, 60, 61, 62, 63, 64, 65, 66, 67, 68, 69] a ∧ Mem w L R W ∧ Vals [some (50, .pointer (some ⟨bT, 1, none⟩)), some (51, v), some (52, .pointer (some ⟨bS, 1, none⟩)), some (53, .slice (some ⟨sb, so, none⟩) m mc), some (54, .int .i64 i), some (55, .int .i64 nr), some (56, .pointer (some ⟨bS, 1, none⟩)), some (57, .slice (some ⟨sb, so, none⟩) m mc), some (58, .int .i64 m), some (59, .int .i64 c59), some (60, .int .i64 r60), some (61, .pointer (some ⟨bS, 1, none⟩)), some (62, .slice (some ⟨sb, so, none⟩) m mc), some (63, .int .i64 m), some (64, .int .i64 k), some (65, .pointer (some ⟨sb, so + k * 2, none⟩)), some (66, .agg #[.slice ca cn ck, .int .i64 z]), none, some (68, .slice (some ⟨G68, 0, none⟩) (i + 1) cap68), some (69, .pointer (some ⟨bT, 1, none⟩)), none] l a ∧ Mems ([(17, 67, (fun yv W => ∃ (g67 : Nat), yv = .slice (some ⟨g67, 0, none⟩) 1 1 ∧ Blk W g67 #[.slice ca cn ck, .int .i64 z] 60), some 18)] : ML) l a W ∧ (l 18 = false → Mem w ((bT, #[.int .i64 c, v], 27) :: L) (⟨60, 2, v, i, xs⟩ :: R) W) ∧ (l 18 = true → l 20 = false → Mem w ((bT, #[.int .i64 c, v], 27) :: L) (⟨60, 2, .slice (some ⟨G68, 0, none⟩) (i + 1) cap68, i + 1, xs ++ [.slice ca cn ck, .int .i64 z]⟩ :: R) W) ∧ (l 20 = true → Mem w ((bT, #[.int .i64 c, .slice (some ⟨G68, 0, none⟩) (i + 1) cap68], 27) :: L) (⟨60, 2, .slice (some ⟨G68, 0, none⟩) (i + 1) cap68, i + 1, xs ++ [.slice ca cn ck, .int .i64 z]⟩ :: R) W)) := ⟨_, fun _ _ _ => Iff.rfl⟩
 refine Ae Iv (by kernel_rfl) (by kernel_rfl) ((hI _ _ _).2 ⟨0, 0, Fr.start _ _, h0.out.tail.rtail.drew, Vals.zero, Mems.zero, fun _ => h0.out.drew, fun h => off h, fun h => off h⟩) (Ab (k := 0) ?_ (Ab (k := 1) ?_ (Ab (k := 2) ?_ (Ab (k := 3) ?_ (Ab (k := 4) ?_ (Ab (k := 5) ?_ (Ab (k := 6) ?_ (Ab (k := 7) ?_ (Ab (k := 8) ?_ (Ab (k := 9) ?_ (Ab (k := 10) ?_ (Ab (k := 11) ?_ (Ab (k := 12) ?_ (Ab (k := 13) ?_ (Ab (k := 14) ?_ (Ab (k := 15) ?_ (Ab (k := 16) ?_ (Ab (k := 17) ?_ (Ab (k := 18) ?_ (Ab (k := 19) ?_ (Ab (k := 20) ?_ (Al)))))))))))))))))))))) ?_
 ·intro l a W hl hw hsh hI' K hK
  obtain ⟨G68, cap68, hf, hC, hF, hM, q0, q1, q2⟩ := (hI _ _ _).1 hI'
  have x12 := hf.atl 12 g12 rfl
  refine want rfl ?_
  go_simp
  exact hK.out _ _ ((hI _ _ _).2 ⟨G68, cap68, hf.put 50 _ rfl, hC, hF.put (Ac rfl) 0 rfl (hf.ltl hN rfl), hM.put 0 50 _ rfl rfl, q0, q1, q2⟩)
 ·intro l a W hl hw hsh hI' K hK
  obtain ⟨G68, cap68, hf, hC, hF, hM, q0, q1, q2⟩ := (hI _ _ _).1 hI'
  have x50 := hF.get 0 rfl (hw 0 (by kernel_rfl))
  refine want rfl ?_
  have k0 : W.cell? ⟨bT, 1, none⟩ = some (v : Value) := by
   cases e0 : l 18
   case false =>
    exact (q0 e0).cell _ _ _ List.mem_cons_self 1
   case true =>
    cases e1 : l 20
    case false =>
     exact (q1 e0 e1).cell _ _ _ List.mem_cons_self 1
    case true =>
     exact absurd (hsh 18 1 _ rfl (hsh 20 18 _ rfl (e1) (by kernel_rfl)) (by kernel_rfl)) (by simp [hl])
  go_simp
  exact hK.out _ _ ((hI _ _ _).2 ⟨G68, cap68, hf.put 51 _ rfl, hC, hF.put (Ac rfl) 1 rfl (hf.ltl hN rfl), hM.put 1 51 _ rfl rfl, q0, q1, q2⟩)
 ·intro l a W hl hw hsh hI' K hK
  obtain ⟨G68, cap68, hf, hC, hF, hM, q0, q1, q2⟩ := (hI _ _ _).1 hI'
  have x11 := hf.atl 11 g11 rfl
  refine want rfl ?_
  go_simp
  exact hK.out _ _ ((hI _ _ _).2 ⟨G68, cap68, hf.put 52 _ rfl, hC, hF.put (Ac rfl) 2 rfl (hf.ltl hN rfl), hM.put 2 52 _ rfl rfl, q0, q1, q2⟩)
 ·intro l a W hl hw hsh hI' K hK
  obtain ⟨G68, cap68, hf, hC, hF, hM, q0, q1, q2⟩ := (hI _ _ _).1 hI'
  have x52 := hF.get 2 rfl (hw 2 (by kernel_rfl))
  refine want rfl ?_
  have k0 := x53.out _ hC
  go_simp
  exact hK.out _ _ ((hI _ _ _).2 ⟨G68, cap68, hf.put 53 _ rfl, hC, hF.put (Ac rfl) 3 rfl (hf.ltl hN rfl), hM.put 3 53 _ rfl rfl, q0, q1, q2⟩)
 ·intro l a W hl hw hsh hI' K hK
  obtain ⟨G68, cap68, hf, hC, hF, hM, q0, q1, q2⟩ := (hI _ _ _).1 hI'
  have x15 := hf.atl 15 g15 rfl
  refine want rfl ?_
  go_simp
  exact hK.out _ _ ((hI _ _ _).2 ⟨G68, cap68, hf.put 54 _ rfl, hC, hF.put (Ac rfl) 4 rfl (hf.ltl hN rfl), hM.put 4 54 _ rfl rfl, q0, q1, q2⟩)
 ·intro l a W hl hw hsh hI' K hK
  obtain ⟨G68, cap68, hf, hC, hF, hM, q0, q1, q2⟩ := (hI _ _ _).1 hI'
  have x1 := hf.atl 1 g1 rfl
  refine want rfl ?_
  go_simp
  exact hK.out _ _ ((hI _ _ _).2 ⟨G68, cap68, hf.put 55 _ rfl, hC, hF.put (Ac rfl) 5 rfl (hf.ltl hN rfl), hM.put 5 55 _ rfl rfl, q0, q1, q2⟩)
 ·intro l a W hl hw hsh hI' K hK
  obtain ⟨G68, cap68, hf, hC, hF, hM, q0, q1, q2⟩ := (hI _ _ _).1 hI'
  have x11 := hf.atl 11 g11 rfl
  refine want rfl ?_
  go_simp
  exact hK.out _ _ ((hI _ _ _).2 ⟨G68, cap68, hf.put 56 _ rfl, hC, hF.put (Ac rfl) 6 rfl (hf.ltl hN rfl), hM.put 6 56 _ rfl rfl, q0, q1, q2⟩)
 ·intro l a W hl hw hsh hI' K hK
  obtain ⟨G68, cap68, hf, hC, hF, hM, q0, q1, q2⟩ := (hI _ _ _).1 hI'
  have x56 := hF.get 6 rfl (hw 6 (by kernel_rfl))
  refine want rfl ?_
  have k0 := x57.out _ hC
  go_simp
  exact hK.out _ _ ((hI _ _ _).2 ⟨G68, cap68, hf.put 57 _ rfl, hC, hF.put (Ac rfl) 7 rfl (hf.ltl hN rfl), hM.put 7 57 _ rfl rfl, q0, q1, q2⟩)
 ·intro l a W hl hw hsh hI' K hK
  obtain ⟨G68, cap68, hf, hC, hF, hM, q0, q1, q2⟩ := (hI _ _ _).1 hI'
  have x57 := hF.get 7 rfl (hw 7 (by kernel_rfl))
  refine want rfl ?_
  go_simp
  exact hK.out _ _ ((hI _ _ _).2 ⟨G68, cap68, hf.put 58 _ rfl, hC, hF.put (Ac rfl) 8 rfl (hf.ltl hN rfl), hM.put 8 58 _ rfl rfl, q0, q1, q2⟩)
 ·intro l a W hl hw hsh hI' K hK
  obtain ⟨G68, cap68, hf, hC, hF, hM, q0, q1, q2⟩ := (hI _ _ _).1 hI'
  have x55 := hF.get 5 rfl (hw 5 (by kernel_rfl))
  have x58 := hF.get 8 rfl (hw 8 (by kernel_rfl))
  refine want rfl ?_
  go_simp
  refine Calls.mono (C59.out W hC) ?_
  rintro e W2 ⟨rfl, hb⟩
  exact hK.out _ _ ((hI _ _ _).2 ⟨G68, cap68, hf.put 59 _ rfl, hC.call hb, hF.put (Ac rfl) 9 rfl (hf.ltl hN rfl), (hM.put 9 59 _ rfl rfl).world (hst G68 cap68) hb, fun h2 => (q0 h2 ).call hb, fun h1 h2 => (q1 h1 h2 ).call hb, fun h1 => (q2 h1 ).call hb⟩)
 ·intro l a W hl hw hsh hI' K hK
  obtain ⟨G68, cap68, hf, hC, hF, hM, q0, q1, q2⟩ := (hI _ _ _).1 hI'
  have x54 := hF.get 4 rfl (hw 4 (by kernel_rfl))
  have x59 := hF.get 9 rfl (hw 9 (by kernel_rfl))
  refine want rfl ?_
  go_simp
  exact hK.out _ _ ((hI _ _ _).2 ⟨G68, cap68, hf.put 60 _ rfl, hC, hF.put (Ac rfl) 10 rfl (hf.ltl hN rfl), hM.put 10 60 _ rfl rfl, q0, q1, q2⟩)
 ·intro l a W hl hw hsh hI' K hK
  obtain ⟨G68, cap68, hf, hC, hF, hM, q0, q1, q2⟩ := (hI _ _ _).1 hI'
  have x11 := hf.atl 11 g11 rfl
  refine want rfl ?_
  go_simp
  exact hK.out _ _ ((hI _ _ _).2 ⟨G68, cap68, hf.put 61 _ rfl, hC, hF.put (Ac rfl) 11 rfl (hf.ltl hN rfl), hM.put 11 61 _ rfl rfl, q0, q1, q2⟩)
 ·intro l a W hl hw hsh hI' K hK
  obtain ⟨G68, cap68, hf, hC, hF, hM, q0, q1, q2⟩ := (hI _ _ _).1 hI'
  have x61 := hF.get 11 rfl (hw 11 (by kernel_rfl))
  refine want rfl ?_
  have k0 := x62.out _ hC
  go_simp
  exact hK.out _ _ ((hI _ _ _).2 ⟨G68, cap68, hf.put 62 _ rfl, hC, hF.put (Ac rfl) 12 rfl (hf.ltl hN rfl), hM.put 12 62 _ rfl rfl, q0, q1, q2⟩)
 ·intro l a W hl hw hsh hI' K hK
  obtain ⟨G68, cap68, hf, hC, hF, hM, q0, q1, q2⟩ := (hI _ _ _).1 hI'
  have x62 := hF.get 12 rfl (hw 12 (by kernel_rfl))
  refine want rfl ?_
  go_simp
  exact hK.out _ _ ((hI _ _ _).2 ⟨G68, cap68, hf.put 63 _ rfl, hC, hF.put (Ac rfl) 13 rfl (hf.ltl hN rfl), hM.put 13 63 _ rfl rfl, q0, q1, q2⟩)
 ·intro l a W hl hw hsh hI' K hK
  obtain ⟨G68, cap68, hf, hC, hF, hM, q0, q1, q2⟩ := (hI _ _ _).1 hI'
  have x60 := hF.get 10 rfl (hw 10 (by kernel_rfl))
  have x63 := hF.get 13 rfl (hw 13 (by kernel_rfl))
  refine want rfl ?_
  go_simp
  exact hK.out _ _ ((hI _ _ _).2 ⟨G68, cap68, hf.put 64 _ rfl, hC, hF.put (Ac rfl) 14 rfl (hf.ltl hN rfl), hM.put 14 64 _ rfl rfl, q0, q1, q2⟩)
 ·intro l a W hl hw hsh hI' K hK
  obtain ⟨G68, cap68, hf, hC, hF, hM, q0, q1, q2⟩ := (hI _ _ _).1 hI'
  have x53 := hF.get 3 rfl (hw 3 (by kernel_rfl))
  have x64 := hF.get 14 rfl (hw 14 (by kernel_rfl))
  refine want rfl ?_
  go_simp
  exact hK.out _ _ ((hI _ _ _).2 ⟨G68, cap68, hf.put 65 _ rfl, hC, hF.put (Ac rfl) 15 rfl (hf.ltl hN rfl), hM.put 15 65 _ rfl rfl, q0, q1, q2⟩)
 ·intro l a W hl hw hsh hI' K hK
  obtain ⟨G68, cap68, hf, hC, hF, hM, q0, q1, q2⟩ := (hI _ _ _).1 hI'
  have x65 := hF.get 15 rfl (hw 15 (by kernel_rfl))
  refine want rfl ?_
  have k0 := x66_0.out _ hC
  have k1 := x66_1.out _ hC
  go_simp
  exact hK.out _ _ ((hI _ _ _).2 ⟨G68, cap68, hf.put 66 _ rfl, hC, hF.put (Ac rfl) 16 rfl (hf.ltl hN rfl), hM.put 16 66 _ rfl rfl, q0, q1, q2⟩)
 ·intro l a W hl hw hsh hI' K hK
  obtain ⟨G68, cap68, hf, hC, hF, hM, q0, q1, q2⟩ := (hI _ _ _).1 hI'
  have x66 := hF.get 16 rfl (hw 16 (by kernel_rfl))
  refine want rfl ?_
  go_simp
  exact hK.out _ _ ((hI _ _ _).2 ⟨G68, cap68, hf.put 67 _ rfl, hC.new _, hF.other 17 67 _ rfl rfl, (hM.world (hst G68 cap68) ((Below.refl _ _).alloc (Aa _) _)).add 0 17 rfl (Ac rfl) (Ac rfl) (hf.ltl hN rfl) ⟨_, rfl, Blk.new _ _ _⟩, fun h2 => (q0 h2 ).new _, fun h1 h2 => (q1 h1 h2 ).new _, fun h1 => (q2 h1 ).new _⟩)
 ·intro l a W hl hw hsh hI' K hK
  obtain ⟨G68, cap68, hf, hC, hF, hM, q0, q1, q2⟩ := (hI _ _ _).1 hI'
  have x51 := hF.get 1 rfl (hw 1 (by kernel_rfl))
  obtain ⟨_, x67, g67, rfl, hb17⟩ := hM.get 0 rfl (hw 17 (by kernel_rfl)) (DC hl)
  have hM0 := q0 hl
  refine want rfl ?_
  refine FJ rfl hM0 (by go_simp) (by go_simp) (hb17.cell 0) (hb17.cell 1) rfl rfl hn.out ?_
  intro G68' cap68' W2 hM2
  refine hK.out _ _ ((hI _ _ _).2 ⟨G68', cap68', hf.put 68 _ rfl, hM2.tail.rtail, Vals.put (hF.change (fun j => by
    match j with
    | 0 => exact .inl rfl
    | 1 => exact .inl rfl
    | 2 => exact .inl rfl
    | 3 => exact .inl rfl
    | 4 => exact .inl rfl
    | 5 => exact .inl rfl
    | 6 => exact .inl rfl
    | 7 => exact .inl rfl
    | 8 => exact .inl rfl
    | 9 => exact .inl rfl
    | 10 => exact .inl rfl
    | 11 => exact .inl rfl
    | 12 => exact .inl rfl
    | 13 => exact .inl rfl
    | 14 => exact .inl rfl
    | 15 => exact .inl rfl
    | 16 => exact .inl rfl
    | 17 => exact .inl rfl
    | 18 => exact .inr hl
    | 19 => exact .inl rfl
    | 20 => exact .inl rfl
    | _ + 21 => exact .inl rfl)) (Ac rfl) 18 rfl (hf.ltl hN rfl), Mems.free (List.forall_mem_cons.2 ⟨.inr (Cz _ _), fun _ h => by cases h⟩), fun h => off h.symm, fun _ _ => hM2, fun h => absurd (hsh 20 18 _ rfl (h) (by kernel_rfl)) (by simp [hl])⟩)
 ·intro l a W hl hw hsh hI' K hK
  obtain ⟨G68, cap68, hf, hC, hF, hM, q0, q1, q2⟩ := (hI _ _ _).1 hI'
  have x12 := hf.atl 12 g12 rfl
  refine want rfl ?_
  go_simp
  exact hK.out _ _ ((hI _ _ _).2 ⟨G68, cap68, hf.put 69 _ rfl, hC, hF.put (Ac rfl) 19 rfl (hf.ltl hN rfl), hM.put 19 69 _ rfl rfl, q0, q1, q2⟩)
 ·intro l a W hl hw hsh hI' K hK
  obtain ⟨G68, cap68, hf, hC, hF, hM, q0, q1, q2⟩ := (hI _ _ _).1 hI'
  have x68 := hF.get 18 rfl (hw 18 (by kernel_rfl))
  have x69 := hF.get 19 rfl (hw 19 (by kernel_rfl))
  have hM0 := q1 (hw 18 (by kernel_rfl)) hl
  refine want rfl ?_
  have y0 := hM0.cell _ _ _ List.mem_cons_self 1
  have w0 := hM0.frozen _ _ _ List.mem_cons_self 1
  go_simp
  exact hK.out _ _ ((hI _ _ _).2 ⟨G68, cap68, hf, (hM0.put0 1 _).tail.rtail, hF.skip 20 rfl, Mems.free (List.forall_mem_cons.2 ⟨.inr (CX (hw 18 (by kernel_rfl))), fun _ h => by cases h⟩), fun h => absurd (hw 18 (by kernel_rfl)) (by simp [show l 18 = false from h]), fun _ h => off h.symm, fun _ => (hM0.put0 1 _)⟩)
 ·intro a W hI'
  obtain ⟨G68, cap68, hf, hC, hF, hM, q0, q1, q2⟩ := (hI _ _ _).1 hI'
  have hM9 := q2 (by kernel_rfl)
  have he := hf.eqs
  rw [he]
  exact hQ.out _ G68 cap68  _  (A8 hM9)
theorem ord_r15 {Q : Exit → Act → World → Prop} {us : List Value} {bS bE sb so m mc cb co cc i j k c : Nat} {v : Value} {xs : List Value} {cr z y : Int} {w W0 : World} {L : BLs} {R : List RowD} {r93 : Int} (hn : Hid (j ≤ 1000000)) (hi0 : (0 : Int) ≤ i) (hi1 : (i : Int) < m) (hc0 : ¬ c = 0) (hk0 : (0 : Int) ≤ k) (hk1 : (k : Int) < c)  (x86 : Hid (∀ W, Mem w L R W → W.cell? ⟨bS, 1, none⟩ = some (.slice (some ⟨sb, so, none⟩) m mc))) (x90 : Hid (∀ W, Mem w L R W → W.cell? ⟨sb, so + i * 2, none⟩ = some (.slice (some ⟨cb, co, none⟩) c cc))) (h93 : IntKind.i64.wrap (j + cr) = r93) (x95 : Hid (∀ W, Mem w L R W → W.cell? ⟨bS, 0, none⟩ = some (.int .i64 c))) (h96 : (r93).tmod c = (k : Int)) (x98 : Hid (∀ W, Mem w L R W → W.cell? ⟨cb, co + k, none⟩ = some (.int .i64 y))) (h0 : Hid (Mem w ((bE, #[v, .int .i64 z], 60) :: L) (⟨3, 1, v, j, xs⟩ :: R) W0)) (hN : us.length = 210) (g11 : us[11]? = some (.pointer (some ⟨bS, 0, none⟩))) (g14 : us[14]? = some (.int .i64 cr)) (g15 : us[15]? = some (.int .i64 i)) (g16 : us[16]? = some (.pointer (some ⟨bE, 0, none⟩))) (g17 : us[17]? = some (.int .i64 j)) {ops : Array Oper} (ho : getOps Tryz.f7.body 15 = some ops)
  (hQ : ∀ (x : Nat → Value) (G100 : Nat) (cap100 : Nat) (W' : World), Hid (Mem w ((bE, #[.slice (some ⟨G100, 0, none⟩) (j + 1) cap100, .int .i64 z], 60) :: L) (⟨3, 1, .slice (some ⟨G100, 0, none⟩) (j + 1) cap100, j + 1, xs ++ [.int .i64 y]⟩ :: R) W') → Q .normal { tmps := (sets [83, 84, 85, 86, 87, 88, 89, 90, 91, 92, 93, 94, 95, 96, 97, 98, 99, 100, 101] x us).toArray, defers := [] } W') :
  (Code.region 15 ops true).wp Tryz.prog Q { tmps := us.toArray, defers := [] } W0 := by
 obtain rfl := Option.some.inj (ho.symm.trans (rfl : getOps Tryz.f7.body 15 = some _))
 clear ho
 replace hQ := A8 hQ
 have hst : ∀ G100 : Nat, ∀ cap100 : Nat, MStable ([(16, 99, (fun yv W => ∃ (g99 : Nat), yv = .slice (some ⟨g99, 0, none⟩) 1 1 ∧ Blk W g99 #[.int .i64 y] 3), some 17)] : ML) := by
  intro G100 cap100 p hp yv W W' hb h
  simp only [List.mem_cons, List.not_mem_nil, or_false] at hp
  rcases hp with rfl
  ·obtain ⟨g, e, h⟩ := h; exact ⟨g, e, h.below hb⟩
 obtain ⟨Iv, hI⟩ : ∃ Iv : (Nat → Bool) → Act → World → Prop, ∀ l a W, Iv l a W ↔ (∃ G100 : Nat, ∃ cap100 : Nat, Fr us.toArray [83, 84, 85, 86, 87, 88, 89, 90, 91, 92, 93, 94, 95, 96, 97, 98, 99, 100, 101] a ∧ Mem w L R W ∧ Vals [some (83, .pointer (some ⟨bE, 0, none⟩)), some (84, v), some (85, .pointer (some ⟨bS, 1, none⟩)), some (86, .slice (some ⟨sb, so, none⟩) m mc), some (87, .int .i64 i), some (88, .pointer (some ⟨sb, so + i * 2, none⟩)), some (89, .pointer (some ⟨sb, so + i * 2, none⟩)), some (90, .slice (some ⟨cb, co, none⟩) c cc), some (91, .int .i64 j), some (92, .int .i64 cr), some (93, .int .i64 r93), some (94, .pointer (some ⟨bS, 0, none⟩)), some (95, .int .i64 c), some (96, .int .i64 k), some (97, .pointer (some ⟨cb, co + k, none⟩)), some (98, .int .i64 y), none, some (100, .slice (some ⟨G100, 0, none⟩) (j + 1) cap100), some (101, .pointer (some ⟨bE, 0, none⟩)), none] l a ∧ Mems ([(16, 99, (fun yv W => ∃ (g99 : Nat), yv = .slice (some ⟨g99, 0, none⟩) 1 1 ∧ Blk W g99 #[.int .i64 y] 3), some 17)] : ML) l a W ∧ (l 17 = false → Mem w ((bE, #[v, .int .i64 z], 60) :: L) (⟨3, 1, v, j, xs⟩ :: R) W) ∧ (l 17 = true → l 19 = false → Mem w ((bE, #[v, .int .i64 z], 60) :: L) (⟨3, 1, .slice (some ⟨G100, 0, none⟩) (j + 1) cap100, j + 1, xs ++ [.int .i64 y]⟩ :: R) W) ∧ (l 19 = true → Mem w ((bE, #[.slice (some ⟨G100, 0, none⟩) (j + 1) cap100, .int .i64 z], 60) :: L) (⟨3, 1, .slice (some ⟨G100, 0, none⟩) (j + 1) cap100, j + 1, xs ++ [.int .i64 y]⟩ :: R) W)) := ⟨_, fun _ _ _ => Iff.rfl⟩
 refine Ae Iv (by kernel_rfl) (by kernel_rfl) ((hI _ _ _).2 ⟨0, 0, Fr.start _ _, h0.out.tail.rtail.drew, Vals.zero, Mems.zero, fun _ => h0.out.drew, fun h => off h, fun h => off h⟩) (Ab (k := 0) ?_ (Ab (k := 1) ?_ (Ab (k := 2) ?_ (Ab (k := 3) ?_ (Ab (k := 4) ?_ (Ab (k := 5) ?_ (Ab (k := 6) ?_ (Ab (k := 7) ?_ (Ab (k := 8) ?_ (Ab (k := 9) ?_ (Ab (k := 10) ?_ (Ab (k := 11) ?_ (Ab (k := 12) ?_ (Ab (k := 13) ?_ (Ab (k := 14) ?_ (Ab (k := 15) ?_ (Ab (k := 16) ?_ (Ab (k := 17) ?_ (Ab (k := 18) ?_ (Ab (k := 19) ?_ (Al))))))))))))))))))))) ?_
 ·intro l a W hl hw hsh hI' K hK
  obtain ⟨G100, cap100, hf, hC, hF, hM, q0, q1, q2⟩ := (hI _ _ _).1 hI'
  have x16 := hf.atl 16 g16 rfl
  refine want rfl ?_
  go_simp
  exact hK.out _ _ ((hI _ _ _).2 ⟨G100, cap100, hf.put 83 _ rfl, hC, hF.put (Ac rfl) 0 rfl (hf.ltl hN rfl), hM.put 0 83 _ rfl rfl, q0, q1, q2⟩)
 ·intro l a W hl hw hsh hI' K hK
  obtain ⟨G100, cap100, hf, hC, hF, hM, q0, q1, q2⟩ := (hI _ _ _).1 hI'
  have x83 := hF.get 0 rfl (hw 0 (by kernel_rfl))
  refine want rfl ?_
  have k0 : W.cell? ⟨bE, 0, none⟩ = some (v : Value) := by
   cases e0 : l 17
   case false =>
    exact (q0 e0).cell _ _ _ List.mem_cons_self 0
   case true =>
    cases e1 : l 19
    case false =>
     exact (q1 e0 e1).cell _ _ _ List.mem_cons_self 0
    case true =>
     exact absurd (hsh 17 1 _ rfl (hsh 19 17 _ rfl (e1) (by kernel_rfl)) (by kernel_rfl)) (by simp [hl])
  go_simp
  exact hK.out _ _ ((hI _ _ _).2 ⟨G100, cap100, hf.put 84 _ rfl, hC, hF.put (Ac rfl) 1 rfl (hf.ltl hN rfl), hM.put 1 84 _ rfl rfl, q0, q1, q2⟩)
 ·intro l a W hl hw hsh hI' K hK
  obtain ⟨G100, cap100, hf, hC, hF, hM, q0, q1, q2⟩ := (hI _ _ _).1 hI'
  have x11 := hf.atl 11 g11 rfl
  refine want rfl ?_
  go_simp
  exact hK.out _ _ ((hI _ _ _).2 ⟨G100, cap100, hf.put 85 _ rfl, hC, hF.put (Ac rfl) 2 rfl (hf.ltl hN rfl), hM.put 2 85 _ rfl rfl, q0, q1, q2⟩)
 ·intro l a W hl hw hsh hI' K hK
  obtain ⟨G100, cap100, hf, hC, hF, hM, q0, q1, q2⟩ := (hI _ _ _).1 hI'
  have x85 := hF.get 2 rfl (hw 2 (by kernel_rfl))
  refine want rfl ?_
  have k0 := x86.out _ hC
  go_simp
  exact hK.out _ _ ((hI _ _ _).2 ⟨G100, cap100, hf.put 86 _ rfl, hC, hF.put (Ac rfl) 3 rfl (hf.ltl hN rfl), hM.put 3 86 _ rfl rfl, q0, q1, q2⟩)
 ·intro l a W hl hw hsh hI' K hK
  obtain ⟨G100, cap100, hf, hC, hF, hM, q0, q1, q2⟩ := (hI _ _ _).1 hI'
  have x15 := hf.atl 15 g15 rfl
  refine want rfl ?_
  go_simp
  exact hK.out _ _ ((hI _ _ _).2 ⟨G100, cap100, hf.put 87 _ rfl, hC, hF.put (Ac rfl) 4 rfl (hf.ltl hN rfl), hM.put 4 87 _ rfl rfl, q0, q1, q2⟩)
 ·intro l a W hl hw hsh hI' K hK
  obtain ⟨G100, cap100, hf, hC, hF, hM, q0, q1, q2⟩ := (hI _ _ _).1 hI'
  have x86 := hF.get 3 rfl (hw 3 (by kernel_rfl))
  have x87 := hF.get 4 rfl (hw 4 (by kernel_rfl))
  refine want rfl ?_
  go_simp
  exact hK.out _ _ ((hI _ _ _).2 ⟨G100, cap100, hf.put 88 _ rfl, hC, hF.put (Ac rfl) 5 rfl (hf.ltl hN rfl), hM.put 5 88 _ rfl rfl, q0, q1, q2⟩)
 ·intro l a W hl hw hsh hI' K hK
  obtain ⟨G100, cap100, hf, hC, hF, hM, q0, q1, q2⟩ := (hI _ _ _).1 hI'
  have x88 := hF.get 5 rfl (hw 5 (by kernel_rfl))
  refine want rfl ?_
  go_simp
  exact hK.out _ _ ((hI _ _ _).2 ⟨G100, cap100, hf.put 89 _ rfl, hC, hF.put (Ac rfl) 6 rfl (hf.ltl hN rfl), hM.put 6 89 _ rfl rfl, q0, q1, q2⟩)
 ·intro l a W hl hw hsh hI' K hK
  obtain ⟨G100, cap100, hf, hC, hF, hM, q0, q1, q2⟩ := (hI _ _ _).1 hI'
  have x89 := hF.get 6 rfl (hw 6 (by kernel_rfl))
  refine want rfl ?_
  have k0 := x90.out _ hC
  go_simp
  exact hK.out _ _ ((hI _ _ _).2 ⟨G100, cap100, hf.put 90 _ rfl, hC, hF.put (Ac rfl) 7 rfl (hf.ltl hN rfl), hM.put 7 90 _ rfl rfl, q0, q1, q2⟩)
 ·intro l a W hl hw hsh hI' K hK
  obtain ⟨G100, cap100, hf, hC, hF, hM, q0, q1, q2⟩ := (hI _ _ _).1 hI'
  have x17 := hf.atl 17 g17 rfl
  refine want rfl ?_
  go_simp
  exact hK.out _ _ ((hI _ _ _).2 ⟨G100, cap100, hf.put 91 _ rfl, hC, hF.put (Ac rfl) 8 rfl (hf.ltl hN rfl), hM.put 8 91 _ rfl rfl, q0, q1, q2⟩)
 ·intro l a W hl hw hsh hI' K hK
  obtain ⟨G100, cap100, hf, hC, hF, hM, q0, q1, q2⟩ := (hI _ _ _).1 hI'
  have x14 := hf.atl 14 g14 rfl
  refine want rfl ?_
  go_simp
  exact hK.out _ _ ((hI _ _ _).2 ⟨G100, cap100, hf.put 92 _ rfl, hC, hF.put (Ac rfl) 9 rfl (hf.ltl hN rfl), hM.put 9 92 _ rfl rfl, q0, q1, q2⟩)
 ·intro l a W hl hw hsh hI' K hK
  obtain ⟨G100, cap100, hf, hC, hF, hM, q0, q1, q2⟩ := (hI _ _ _).1 hI'
  have x91 := hF.get 8 rfl (hw 8 (by kernel_rfl))
  have x92 := hF.get 9 rfl (hw 9 (by kernel_rfl))
  refine want rfl ?_
  go_simp
  exact hK.out _ _ ((hI _ _ _).2 ⟨G100, cap100, hf.put 93 _ rfl, hC, hF.put (Ac rfl) 10 rfl (hf.ltl hN rfl), hM.put 10 93 _ rfl rfl, q0, q1, q2⟩)
 ·intro l a W hl hw hsh hI' K hK
  obtain ⟨G100, cap100, hf, hC, hF, hM, q0, q1, q2⟩ := (hI _ _ _).1 hI'
  have x11 := hf.atl 11 g11 rfl
  refine want rfl ?_
  go_simp
  exact hK.out _ _ ((hI _ _ _).2 ⟨G100, cap100, hf.put 94 _ rfl, hC, hF.put (Ac rfl) 11 rfl (hf.ltl hN rfl), hM.put 11 94 _ rfl rfl, q0, q1, q2⟩)
 ·intro l a W hl hw hsh hI' K hK
  obtain ⟨G100, cap100, hf, hC, hF, hM, q0, q1, q2⟩ := (hI _ _ _).1 hI'
  have x94 := hF.get 11 rfl (hw 11 (by kernel_rfl))
  refine want rfl ?_
  have k0 := x95.out _ hC
  go_simp
  exact hK.out _ _ ((hI _ _ _).2 ⟨G100, cap100, hf.put 95 _ rfl, hC, hF.put (Ac rfl) 12 rfl (hf.ltl hN rfl), hM.put 12 95 _ rfl rfl, q0, q1, q2⟩)
 ·intro l a W hl hw hsh hI' K hK
  obtain ⟨G100, cap100, hf, hC, hF, hM, q0, q1, q2⟩ := (hI _ _ _).1 hI'
  have x93 := hF.get 10 rfl (hw 10 (by kernel_rfl))
  have x95 := hF.get 12 rfl (hw 12 (by kernel_rfl))
  refine want rfl ?_
  go_simp
  exact hK.out _ _ ((hI _ _ _).2 ⟨G100, cap100, hf.put 96 _ rfl, hC, hF.put (Ac rfl) 13 rfl (hf.ltl hN rfl), hM.put 13 96 _ rfl rfl, q0, q1, q2⟩)
 ·intro l a W hl hw hsh hI' K hK
  obtain ⟨G100, cap100, hf, hC, hF, hM, q0, q1, q2⟩ := (hI _ _ _).1 hI'
  have x90 := hF.get 7 rfl (hw 7 (by kernel_rfl))
  have x96 := hF.get 13 rfl (hw 13 (by kernel_rfl))
  refine want rfl ?_
  go_simp
  exact hK.out _ _ ((hI _ _ _).2 ⟨G100, cap100, hf.put 97 _ rfl, hC, hF.put (Ac rfl) 14 rfl (hf.ltl hN rfl), hM.put 14 97 _ rfl rfl, q0, q1, q2⟩)
 ·intro l a W hl hw hsh hI' K hK
  obtain ⟨G100, cap100, hf, hC, hF, hM, q0, q1, q2⟩ := (hI _ _ _).1 hI'
  have x97 := hF.get 14 rfl (hw 14 (by kernel_rfl))
  refine want rfl ?_
  have k0 := x98.out _ hC
  go_simp
  exact hK.out _ _ ((hI _ _ _).2 ⟨G100, cap100, hf.put 98 _ rfl, hC, hF.put (Ac rfl) 15 rfl (hf.ltl hN rfl), hM.put 15 98 _ rfl rfl, q0, q1, q2⟩)
 ·intro l a W hl hw hsh hI' K hK
  obtain ⟨G100, cap100, hf, hC, hF, hM, q0, q1, q2⟩ := (hI _ _ _).1 hI'
  have x98 := hF.get 15 rfl (hw 15 (by kernel_rfl))
  refine want rfl ?_
  go_simp
  exact hK.out _ _ ((hI _ _ _).2 ⟨G100, cap100, hf.put 99 _ rfl, hC.new _, hF.other 16 99 _ rfl rfl, (hM.world (hst G100 cap100) ((Below.refl _ _).alloc (Aa _) _)).add 0 16 rfl (Ac rfl) (Ac rfl) (hf.ltl hN rfl) ⟨_, rfl, Blk.new _ _ _⟩, fun h2 => (q0 h2 ).new _, fun h1 h2 => (q1 h1 h2 ).new _, fun h1 => (q2 h1 ).new _⟩)
 ·intro l a W hl hw hsh hI' K hK
  obtain ⟨G100, cap100, hf, hC, hF, hM, q0, q1, q2⟩ := (hI _ _ _).1 hI'
  have x84 := hF.get 1 rfl (hw 1 (by kernel_rfl))
  obtain ⟨_, x99, g99, rfl, hb16⟩ := hM.get 0 rfl (hw 16 (by kernel_rfl)) (DC hl)
  have hM0 := q0 hl
  refine want rfl ?_
  refine FG rfl hM0 (by go_simp) (by go_simp) (hb16.cell 0) hn.out ?_
  intro G100' cap100' W2 hM2
  refine hK.out _ _ ((hI _ _ _).2 ⟨G100', cap100', hf.put 100 _ rfl, hM2.tail.rtail, Vals.put (hF.change (fun j => by
    match j with
    | 0 => exact .inl rfl
    | 1 => exact .inl rfl
    | 2 => exact .inl rfl
    | 3 => exact .inl rfl
    | 4 => exact .inl rfl
    | 5 => exact .inl rfl
    | 6 => exact .inl rfl
    | 7 => exact .inl rfl
    | 8 => exact .inl rfl
    | 9 => exact .inl rfl
    | 10 => exact .inl rfl
    | 11 => exact .inl rfl
    | 12 => exact .inl rfl
    | 13 => exact .inl rfl
    | 14 => exact .inl rfl
    | 15 => exact .inl rfl
    | 16 => exact .inl rfl
    | 17 => exact .inr hl
    | 18 => exact .inl rfl
    | 19 => exact .inl rfl
    | _ + 20 => exact .inl rfl)) (Ac rfl) 17 rfl (hf.ltl hN rfl), Mems.free (List.forall_mem_cons.2 ⟨.inr (Cz _ _), fun _ h => by cases h⟩), fun h => off h.symm, fun _ _ => hM2, fun h => absurd (hsh 19 17 _ rfl (h) (by kernel_rfl)) (by simp [hl])⟩)
 ·intro l a W hl hw hsh hI' K hK
  obtain ⟨G100, cap100, hf, hC, hF, hM, q0, q1, q2⟩ := (hI _ _ _).1 hI'
  have x16 := hf.atl 16 g16 rfl
  refine want rfl ?_
  go_simp
  exact hK.out _ _ ((hI _ _ _).2 ⟨G100, cap100, hf.put 101 _ rfl, hC, hF.put (Ac rfl) 18 rfl (hf.ltl hN rfl), hM.put 18 101 _ rfl rfl, q0, q1, q2⟩)
 ·intro l a W hl hw hsh hI' K hK
  obtain ⟨G100, cap100, hf, hC, hF, hM, q0, q1, q2⟩ := (hI _ _ _).1 hI'
  have x100 := hF.get 17 rfl (hw 17 (by kernel_rfl))
  have x101 := hF.get 18 rfl (hw 18 (by kernel_rfl))
  have hM0 := q1 (hw 17 (by kernel_rfl)) hl
  refine want rfl ?_
  have y0 := hM0.cell _ _ _ List.mem_cons_self 0
  have w0 := hM0.frozen _ _ _ List.mem_cons_self 0
  go_simp
  exact hK.out _ _ ((hI _ _ _).2 ⟨G100, cap100, hf, (hM0.put0 0 _).tail.rtail, hF.skip 19 rfl, Mems.free (List.forall_mem_cons.2 ⟨.inr (CX (hw 17 (by kernel_rfl))), fun _ h => by cases h⟩), fun h => absurd (hw 17 (by kernel_rfl)) (by simp [show l 17 = false from h]), fun _ h => off h.symm, fun _ => (hM0.put0 0 _)⟩)
 ·intro a W hI'
  obtain ⟨G100, cap100, hf, hC, hF, hM, q0, q1, q2⟩ := (hI _ _ _).1 hI'
  have hM9 := q2 (by kernel_rfl)
  have he := hf.eqs
  rw [he]
  exact hQ.out _ G100 cap100  _  (A8 hM9)
theorem ord_r30 {Q : Exit → Act → World → Prop} {us : List Value} {bS bV bT nb no nc j k c : Nat} {v : Value} {xs : List Value} {d t : ByteArray} {cr : Int} {w W0 : World} {L : BLs} {R : List RowD} {r185 : Int} (hn : Hid (j ≤ 1000000)) (hc0 : ¬ c = 0) (hk0 : (0 : Int) ≤ k) (hk1 : (k : Int) < c)  (x182 : Hid (∀ W, Mem w L R W → W.cell? ⟨bV, 0, none⟩ = some (.slice (some ⟨nb, no, none⟩) c nc))) (h185 : IntKind.i64.wrap (j + cr) = r185) (x187 : Hid (∀ W, Mem w L R W → W.cell? ⟨bS, 0, none⟩ = some (.int .i64 c))) (h188 : (r185).tmod c = (k : Int)) (x190 : Hid (∀ W, Mem w L R W → W.cell? ⟨nb, no + k, none⟩ = some (.string t))) (h0 : Hid (Mem w ((bT, #[v, .string d], 30) :: L) (⟨9, 1, v, j, xs⟩ :: R) W0)) (hN : us.length = 210) (g11 : us[11]? = some (.pointer (some ⟨bS, 0, none⟩))) (g14 : us[14]? = some (.int .i64 cr)) (g25 : us[25]? = some (.pointer (some ⟨bV, 0, none⟩))) (g26 : us[26]? = some (.pointer (some ⟨bT, 0, none⟩))) (g27 : us[27]? = some (.int .i64 j)) {ops : Array Oper} (ho : getOps Tryz.f7.body 30 = some ops)
  (hQ : ∀ (x : Nat → Value) (G192 : Nat) (cap192 : Nat) (W' : World), Hid (Mem w ((bT, #[.slice (some ⟨G192, 0, none⟩) (j + 1) cap192, .string d], 30) :: L) (⟨9, 1, .slice (some ⟨G192, 0, none⟩) (j + 1) cap192, j + 1, xs ++ [.string t]⟩ :: R) W') → Q .normal { tmps := (sets [179, 180, 181, 182, 183, 184, 185, 186, 187, 188, 189, 190, 191, 192, 193] x us).toArray, defers := [] } W') :
  (Code.region 30 ops true).wp Tryz.prog Q { tmps := us.toArray, defers := [] } W0 := by
 obtain rfl := Option.some.inj (ho.symm.trans (rfl : getOps Tryz.f7.body 30 = some _))
 clear ho
 replace hQ := A8 hQ
 have hst : ∀ G192 : Nat, ∀ cap192 : Nat, MStable ([(12, 191, (fun yv W => ∃ (g191 : Nat), yv = .slice (some ⟨g191, 0, none⟩) 1 1 ∧ Blk W g191 #[.string t] 9), some 13)] : ML) := by
  intro G192 cap192 p hp yv W W' hb h
  simp only [List.mem_cons, List.not_mem_nil, or_false] at hp
  rcases hp with rfl
  ·obtain ⟨g, e, h⟩ := h; exact ⟨g, e, h.below hb⟩
 obtain ⟨Iv, hI⟩ : ∃ Iv : (Nat → Bool) → Act → World → Prop, ∀ l a W, Iv l a W ↔ (∃ G192 : Nat, ∃ cap192 : Nat, Fr us.toArray [179, 180, 181, 182, 183, 184, 185, 186, 187, 188, 189, 190, 191, 192, 193] a ∧ Mem w L R W ∧ Vals [some (179, .pointer (some ⟨bT, 0, none⟩)), some (180, v), some (181, .pointer (some ⟨bV, 0, none⟩)), some (182, .slice (some ⟨nb, no, none⟩) c nc), some (183, .int .i64 j), some (184, .int .i64 cr), some (185, .int .i64 r185), some (186, .pointer (some ⟨bS, 0, none⟩)), some (187, .int .i64 c), some (188, .int .i64 k), some (189, .pointer (some ⟨nb, no + k, none⟩)), some (190, .string t), none, some (192, .slice (some ⟨G192, 0, none⟩) (j + 1) cap192), some (193, .pointer (some ⟨bT, 0, none⟩)), none] l a ∧ Mems ([(12, 191, (fun yv W => ∃ (g191 : Nat), yv = .slice (some ⟨g191, 0, none⟩) 1 1 ∧ Blk W g191 #[.string t] 9), some 13)] : ML) l a W ∧ (l 13 = false → Mem w ((bT, #[v, .string d], 30) :: L) (⟨9, 1, v, j, xs⟩ :: R) W) ∧ (l 13 = true → l 15 = false → Mem w ((bT, #[v, .string d], 30) :: L) (⟨9, 1, .slice (some ⟨G192, 0, none⟩) (j + 1) cap192, j + 1, xs ++ [.string t]⟩ :: R) W) ∧ (l 15 = true → Mem w ((bT, #[.slice (some ⟨G192, 0, none⟩) (j + 1) cap192, .string d], 30) :: L) (⟨9, 1, .slice (some ⟨G192, 0, none⟩) (j + 1) cap192, j + 1, xs ++ [.string t]⟩ :: R) W)) := ⟨_, fun _ _ _ => Iff.rfl⟩
 refine Ae Iv (by kernel_rfl) (by kernel_rfl) ((hI _ _ _).2 ⟨0, 0, Fr.start _ _, h0.out.tail.rtail.drew, Vals.zero, Mems.zero, fun _ => h0.out.drew, fun h => off h, fun h => off h⟩) (Ab (k := 0) ?_ (Ab (k := 1) ?_ (Ab (k := 2) ?_ (Ab (k := 3) ?_ (Ab (k := 4) ?_ (Ab (k := 5) ?_ (Ab (k := 6) ?_ (Ab (k := 7) ?_ (Ab (k := 8) ?_ (Ab (k := 9) ?_ (Ab (k := 10) ?_ (Ab (k := 11) ?_ (Ab (k := 12) ?_ (Ab (k := 13) ?_ (Ab (k := 14) ?_ (Ab (k := 15) ?_ (Al))))))))))))))))) ?_
 ·intro l a W hl hw hsh hI' K hK
  obtain ⟨G192, cap192, hf, hC, hF, hM, q0, q1, q2⟩ := (hI _ _ _).1 hI'
  have x26 := hf.atl 26 g26 rfl
  refine want rfl ?_
  go_simp
  exact hK.out _ _ ((hI _ _ _).2 ⟨G192, cap192, hf.put 179 _ rfl, hC, hF.put (Ac rfl) 0 rfl (hf.ltl hN rfl), hM.put 0 179 _ rfl rfl, q0, q1, q2⟩)
 ·intro l a W hl hw hsh hI' K hK
  obtain ⟨G192, cap192, hf, hC, hF, hM, q0, q1, q2⟩ := (hI _ _ _).1 hI'
  have x179 := hF.get 0 rfl (hw 0 (by kernel_rfl))
  refine want rfl ?_
  have k0 : W.cell? ⟨bT, 0, none⟩ = some (v : Value) := by
   cases e0 : l 13
   case false =>
    exact (q0 e0).cell _ _ _ List.mem_cons_self 0
   case true =>
    cases e1 : l 15
    case false =>
     exact (q1 e0 e1).cell _ _ _ List.mem_cons_self 0
    case true =>
     exact absurd (hsh 13 1 _ rfl (hsh 15 13 _ rfl (e1) (by kernel_rfl)) (by kernel_rfl)) (by simp [hl])
  go_simp
  exact hK.out _ _ ((hI _ _ _).2 ⟨G192, cap192, hf.put 180 _ rfl, hC, hF.put (Ac rfl) 1 rfl (hf.ltl hN rfl), hM.put 1 180 _ rfl rfl, q0, q1, q2⟩)
 ·intro l a W hl hw hsh hI' K hK
  obtain ⟨G192, cap192, hf, hC, hF, hM, q0, q1, q2⟩ := (hI _ _ _).1 hI'
  have x25 := hf.atl 25 g25 rfl
  refine want rfl ?_
  go_simp
  exact hK.out _ _ ((hI _ _ _).2 ⟨G192, cap192, hf.put 181 _ rfl, hC, hF.put (Ac rfl) 2 rfl (hf.ltl hN rfl), hM.put 2 181 _ rfl rfl, q0, q1, q2⟩)
 ·intro l a W hl hw hsh hI' K hK
  obtain ⟨G192, cap192, hf, hC, hF, hM, q0, q1, q2⟩ := (hI _ _ _).1 hI'
  have x181 := hF.get 2 rfl (hw 2 (by kernel_rfl))
  refine want rfl ?_
  have k0 := x182.out _ hC
  go_simp
  exact hK.out _ _ ((hI _ _ _).2 ⟨G192, cap192, hf.put 182 _ rfl, hC, hF.put (Ac rfl) 3 rfl (hf.ltl hN rfl), hM.put 3 182 _ rfl rfl, q0, q1, q2⟩)
 ·intro l a W hl hw hsh hI' K hK
  obtain ⟨G192, cap192, hf, hC, hF, hM, q0, q1, q2⟩ := (hI _ _ _).1 hI'
  have x27 := hf.atl 27 g27 rfl
  refine want rfl ?_
  go_simp
  exact hK.out _ _ ((hI _ _ _).2 ⟨G192, cap192, hf.put 183 _ rfl, hC, hF.put (Ac rfl) 4 rfl (hf.ltl hN rfl), hM.put 4 183 _ rfl rfl, q0, q1, q2⟩)
 ·intro l a W hl hw hsh hI' K hK
  obtain ⟨G192, cap192, hf, hC, hF, hM, q0, q1, q2⟩ := (hI _ _ _).1 hI'
  have x14 := hf.atl 14 g14 rfl
  refine want rfl ?_
  go_simp
  exact hK.out _ _ ((hI _ _ _).2 ⟨G192, cap192, hf.put 184 _ rfl, hC, hF.put (Ac rfl) 5 rfl (hf.ltl hN rfl), hM.put 5 184 _ rfl rfl, q0, q1, q2⟩)
 ·intro l a W hl hw hsh hI' K hK
  obtain ⟨G192, cap192, hf, hC, hF, hM, q0, q1, q2⟩ := (hI _ _ _).1 hI'
  have x183 := hF.get 4 rfl (hw 4 (by kernel_rfl))
  have x184 := hF.get 5 rfl (hw 5 (by kernel_rfl))
  refine want rfl ?_
  go_simp
  exact hK.out _ _ ((hI _ _ _).2 ⟨G192, cap192, hf.put 185 _ rfl, hC, hF.put (Ac rfl) 6 rfl (hf.ltl hN rfl), hM.put 6 185 _ rfl rfl, q0, q1, q2⟩)
 ·intro l a W hl hw hsh hI' K hK
  obtain ⟨G192, cap192, hf, hC, hF, hM, q0, q1, q2⟩ := (hI _ _ _).1 hI'
  have x11 := hf.atl 11 g11 rfl
  refine want rfl ?_
  go_simp
  exact hK.out _ _ ((hI _ _ _).2 ⟨G192, cap192, hf.put 186 _ rfl, hC, hF.put (Ac rfl) 7 rfl (hf.ltl hN rfl), hM.put 7 186 _ rfl rfl, q0, q1, q2⟩)
 ·intro l a W hl hw hsh hI' K hK
  obtain ⟨G192, cap192, hf, hC, hF, hM, q0, q1, q2⟩ := (hI _ _ _).1 hI'
  have x186 := hF.get 7 rfl (hw 7 (by kernel_rfl))
  refine want rfl ?_
  have k0 := x187.out _ hC
  go_simp
  exact hK.out _ _ ((hI _ _ _).2 ⟨G192, cap192, hf.put 187 _ rfl, hC, hF.put (Ac rfl) 8 rfl (hf.ltl hN rfl), hM.put 8 187 _ rfl rfl, q0, q1, q2⟩)
 ·intro l a W hl hw hsh hI' K hK
  obtain ⟨G192, cap192, hf, hC, hF, hM, q0, q1, q2⟩ := (hI _ _ _).1 hI'
  have x185 := hF.get 6 rfl (hw 6 (by kernel_rfl))
  have x187 := hF.get 8 rfl (hw 8 (by kernel_rfl))
  refine want rfl ?_
  go_simp
  exact hK.out _ _ ((hI _ _ _).2 ⟨G192, cap192, hf.put 188 _ rfl, hC, hF.put (Ac rfl) 9 rfl (hf.ltl hN rfl), hM.put 9 188 _ rfl rfl, q0, q1, q2⟩)
 ·intro l a W hl hw hsh hI' K hK
  obtain ⟨G192, cap192, hf, hC, hF, hM, q0, q1, q2⟩ := (hI _ _ _).1 hI'
  have x182 := hF.get 3 rfl (hw 3 (by kernel_rfl))
  have x188 := hF.get 9 rfl (hw 9 (by kernel_rfl))
  refine want rfl ?_
  go_simp
  exact hK.out _ _ ((hI _ _ _).2 ⟨G192, cap192, hf.put 189 _ rfl, hC, hF.put (Ac rfl) 10 rfl (hf.ltl hN rfl), hM.put 10 189 _ rfl rfl, q0, q1, q2⟩)
 ·intro l a W hl hw hsh hI' K hK
  obtain ⟨G192, cap192, hf, hC, hF, hM, q0, q1, q2⟩ := (hI _ _ _).1 hI'
  have x189 := hF.get 10 rfl (hw 10 (by kernel_rfl))
  refine want rfl ?_
  have k0 := x190.out _ hC
  go_simp
  exact hK.out _ _ ((hI _ _ _).2 ⟨G192, cap192, hf.put 190 _ rfl, hC, hF.put (Ac rfl) 11 rfl (hf.ltl hN rfl), hM.put 11 190 _ rfl rfl, q0, q1, q2⟩)
 ·intro l a W hl hw hsh hI' K hK
  obtain ⟨G192, cap192, hf, hC, hF, hM, q0, q1, q2⟩ := (hI _ _ _).1 hI'
  have x190 := hF.get 11 rfl (hw 11 (by kernel_rfl))
  refine want rfl ?_
  go_simp
  exact hK.out _ _ ((hI _ _ _).2 ⟨G192, cap192, hf.put 191 _ rfl, hC.new _, hF.other 12 191 _ rfl rfl, (hM.world (hst G192 cap192) ((Below.refl _ _).alloc (Aa _) _)).add 0 12 rfl (Ac rfl) (Ac rfl) (hf.ltl hN rfl) ⟨_, rfl, Blk.new _ _ _⟩, fun h2 => (q0 h2 ).new _, fun h1 h2 => (q1 h1 h2 ).new _, fun h1 => (q2 h1 ).new _⟩)
 ·intro l a W hl hw hsh hI' K hK
  obtain ⟨G192, cap192, hf, hC, hF, hM, q0, q1, q2⟩ := (hI _ _ _).1 hI'
  have x180 := hF.get 1 rfl (hw 1 (by kernel_rfl))
  obtain ⟨_, x191, g191, rfl, hb12⟩ := hM.get 0 rfl (hw 12 (by kernel_rfl)) (DC hl)
  have hM0 := q0 hl
  refine want rfl ?_
  refine DY rfl hM0 (by go_simp) (by go_simp) (hb12.cell 0) hn.out ?_
  intro G192' cap192' W2 hM2
  refine hK.out _ _ ((hI _ _ _).2 ⟨G192', cap192', hf.put 192 _ rfl, hM2.tail.rtail, Vals.put (hF.change (fun j => by
    match j with
    | 0 => exact .inl rfl
    | 1 => exact .inl rfl
    | 2 => exact .inl rfl
    | 3 => exact .inl rfl
    | 4 => exact .inl rfl
    | 5 => exact .inl rfl
    | 6 => exact .inl rfl
    | 7 => exact .inl rfl
    | 8 => exact .inl rfl
    | 9 => exact .inl rfl
    | 10 => exact .inl rfl
    | 11 => exact .inl rfl
    | 12 => exact .inl rfl
    | 13 => exact .inr hl
    | 14 => exact .inl rfl
    | 15 => exact .inl rfl
    | _ + 16 => exact .inl rfl)) (Ac rfl) 13 rfl (hf.ltl hN rfl), Mems.free (List.forall_mem_cons.2 ⟨.inr (Cz _ _), fun _ h => by cases h⟩), fun h => off h.symm, fun _ _ => hM2, fun h => absurd (hsh 15 13 _ rfl (h) (by kernel_rfl)) (by simp [hl])⟩)
 ·intro l a W hl hw hsh hI' K hK
  obtain ⟨G192, cap192, hf, hC, hF, hM, q0, q1, q2⟩ := (hI _ _ _).1 hI'
  have x26 := hf.atl 26 g26 rfl
  refine want rfl ?_
  go_simp
  exact hK.out _ _ ((hI _ _ _).2 ⟨G192, cap192, hf.put 193 _ rfl, hC, hF.put (Ac rfl) 14 rfl (hf.ltl hN rfl), hM.put 14 193 _ rfl rfl, q0, q1, q2⟩)
 ·intro l a W hl hw hsh hI' K hK
  obtain ⟨G192, cap192, hf, hC, hF, hM, q0, q1, q2⟩ := (hI _ _ _).1 hI'
  have x192 := hF.get 13 rfl (hw 13 (by kernel_rfl))
  have x193 := hF.get 14 rfl (hw 14 (by kernel_rfl))
  have hM0 := q1 (hw 13 (by kernel_rfl)) hl
  refine want rfl ?_
  have y0 := hM0.cell _ _ _ List.mem_cons_self 0
  have w0 := hM0.frozen _ _ _ List.mem_cons_self 0
  go_simp
  exact hK.out _ _ ((hI _ _ _).2 ⟨G192, cap192, hf, (hM0.put0 0 _).tail.rtail, hF.skip 15 rfl, Mems.free (List.forall_mem_cons.2 ⟨.inr (CX (hw 13 (by kernel_rfl))), fun _ h => by cases h⟩), fun h => absurd (hw 13 (by kernel_rfl)) (by simp [show l 13 = false from h]), fun _ h => off h.symm, fun _ => (hM0.put0 0 _)⟩)
 ·intro a W hI'
  obtain ⟨G192, cap192, hf, hC, hF, hM, q0, q1, q2⟩ := (hI _ _ _).1 hI'
  have hM9 := q2 (by kernel_rfl)
  have he := hf.eqs
  rw [he]
  exact hQ.out _ G192 cap192  _  (A8 hM9)
theorem Mem.rswap {w W : World} {L : BLs} {R : List RowD} {a b : RowD} (h : Mem w L (a :: b :: R) W) : Mem w L (b :: a :: R) W := by
 have hd := List.pairwise_cons.1 h.rdis
 have hd2 := List.pairwise_cons.1 hd.2
 refine ⟨h.below, h.ge, h.blks, h.dup, fun r hr => h.rows r ?_, List.pairwise_cons.2 ⟨fun s hs c hc => ?_, List.pairwise_cons.2 ⟨fun s hs => hd.1 s (List.mem_cons_of_mem _ hs), hd2.2⟩⟩, fun r hr => h.rL r ?_⟩
 ·rcases List.mem_cons.1 hr with rfl | hr
  ·exact .tail _ (.head _)
  ·rcases List.mem_cons.1 hr with rfl | hr
   ·exact .head _
   ·exact .tail _ (.tail _ hr)
 ·rcases List.mem_cons.1 hs with rfl | hs
  ·exact fun e => hd.1 b (.head _) c e hc
  ·exact hd2.1 s hs c hc
 ·rcases List.mem_cons.1 hr with rfl | hr
  ·exact .tail _ (.head _)
  ·rcases List.mem_cons.1 hr with rfl | hr
   ·exact .head _
   ·exact .tail _ (.tail _ hr)
theorem Mem.pull3 {w W : World} {gs C : BLs} {R : List RowD} {e t u : Nat × Array Value × TypeId} (h : Mem w (gs ++ e :: t :: u :: C) R W) : Mem w (u :: t :: (gs ++ C)) R W :=
 (h.sub (List.Sublist.append (List.Sublist.refl gs) (List.sublist_cons_self e _))).perm (List.perm_middle.trans (((List.perm_middle (a := u)).cons t).trans (List.Perm.swap _ _ _)))
theorem Mem.swap {w W : World} {L : BLs} {R : List RowD} {a b : Nat × Array Value × TypeId} (h : Mem w (a :: b :: L) R W) : Mem w (b :: a :: L) R W := h.perm (List.Perm.swap _ _ _)
structure EqsO (w : World) (rows : List (List Int × Int)) (xs : List Value) : Prop where
 len : xs.length = rows.length * 2
 at_ : ∀ j r, rows[j]? = some r → ∃ v, xs[j * 2]? = some v ∧ xs[j * 2 + 1]? = some (.int .i64 r.2) ∧ Sl w v r.1
theorem EqsO.nil (w : World) : EqsO w [] [] := ⟨rfl, fun j r h => by simp at h⟩
theorem EqsO.snoc {w : World} {rows : List (List Int × Int)} {xs : List Value} {v : Value} {r : List Int × Int} (h : EqsO w rows xs) (hv : Sl w v r.1) : EqsO w (rows ++ [r]) (xs ++ [v, .int .i64 r.2]) := by
 refine ⟨by simp [h.len]; omega, fun j r' hj => ?_⟩
 by_cases hlt : j < rows.length
 ·rw [List.getElem?_append_left hlt] at hj
  obtain ⟨u, h1, h2, h3⟩ := h.at_ j r' hj
  refine ⟨u, ?_, ?_, h3⟩
  ·rw [List.getElem?_append_left (by rw [h.len]; omega)]; exact h1
  ·rw [List.getElem?_append_left (by rw [h.len]; omega)]; exact h2
 ·have hj' : j = rows.length := by
   have := (List.getElem?_eq_some_iff.1 hj).1
   simp at this; omega
  subst hj'
  simp at hj
  subst hj
  refine ⟨v, ?_, ?_, hv⟩
  ·rw [List.getElem?_append_right (by rw [h.len]; omega), h.len]; simp
  ·rw [List.getElem?_append_right (by rw [h.len]; omega), h.len, show rows.length * 2 + 1 - rows.length * 2 = 1 by omega]; rfl
theorem EqsO.slE {w W : World} {L : BLs} {R : List RowD} {v : Value} {n : Nat} {rows : List (List Int × Int)} {xs : List Value} (h : EqsO w rows xs) (hM : Mem w L (⟨60, 2, v, n, xs⟩ :: R) W) (hn : n = rows.length) : SlE W v rows := by
 refine SlG.of_own hM.own0 hn fun b hb hc j r hj => ?_
 obtain ⟨u, h1, h2, h3⟩ := h.at_ j r hj
 exact ⟨u, hc _ _ h1, h3.below hM.below, hc _ _ h2⟩
structure RowsAt (w : World) (sb so : Nat) (rows : List (List Int × Int)) (c : Nat) : Prop where
 lt : sb < w.heap.size
 row : ∀ i, i < rows.length → ∃ cb co cc, w.cell? ⟨sb, so + i * 2, none⟩ = some (.slice (some ⟨cb, co, none⟩) c cc) ∧ Sl w (.slice (some ⟨cb, co, none⟩) c cc) (rowOf rows i).1 ∧ cb < w.heap.size ∧ (∀ k, k < c → w.cell? ⟨cb, co + k, none⟩ = some (.int .i64 (gi (rowOf rows i).1 k))) ∧ w.cell? ⟨sb, so + i * 2 + 1, none⟩ = some (.int .i64 (rowOf rows i).2)
theorem rows_at {w : World} {v : Value} {rows : List (List Int × Int)} {c : Nat} (h : SlE w v rows) (h0 : 0 < rows.length) (hc : 0 < c) (hl : ∀ r ∈ rows, r.1.length = c) : ∃ sb so mc, v = .slice (some ⟨sb, so, none⟩) rows.length mc ∧ RowsAt w sb so rows c := by
 rcases h with ⟨_, rfl⟩ | ⟨sb, so, mc, rfl, k1, k2, k3, k4⟩
 ·simp at h0
 refine ⟨sb, so, mc, rfl, k3, fun i hi => ?_⟩
 obtain ⟨u, c1, c2, c3⟩ := k4 i _ (Cx hi)
 have hlen := hl _ (Bp hi)
 have c2' := c2
 rcases c2 with ⟨_, e⟩ | ⟨cb, co, cc, rfl, q1, q2, q3, q4⟩
 ·rw [e] at hlen; simp at hlen; omega
 ·rw [hlen] at c1 q4 c2'
  exact ⟨cb, co, cc, c1, c2', q3, q4, c3⟩
theorem ord_l2 {Q : Exit → Act → World → Prop} {u0 u1 u2 u3 u4 u5 u6 u7 u8 u9 u10 u12 u13 u18 u19 u20 u21 u22 u23 u24 u25 u26 u27 u28 u29 u30 u31 u32 u33 u34 u35 u36 u37 u38 u39 u40 u41 u42 u43 u44 u45 u46 u47 u48 u49 u50 u51 u52 u53 u54 u55 u56 u57 u58 u59 u60 u61 u62 u63 u64 u65 u66 u67 u68 u69 u70 u71 u72 u73 u74 u75 u76 u77 u78 u79 u80 u81 u82 u83 u84 u85 u86 u87 u88 u89 u90 u91 u92 u93 u94 u95 u96 u97 u98 u99 u100 u101 u102 u103 u104 u105 u106 u107 u108 u109 u110 u111 u112 u113 u114 u115 u116 u117 u118 u119 u120 u121 u122 u123 u124 u125 u126 u127 u128 u129 u130 u131 u132 u133 u134 u135 u136 u137 u138 u139 u140 u141 u142 u143 u144 u145 u146 u147 u148 u149 u150 u151 u152 u153 u154 u155 u156 u157 u158 u159 u160 u161 u162 u163 u164 u165 u166 u167 u168 u169 u170 u171 u172 u173 u174 u175 u176 u177 u178 u179 u180 u181 u182 u183 u184 u185 u186 u187 u188 u189 u190 u191 u192 u193 u194 u195 u196 u197 u198 u199 u200 u201 u202 u203 u204 u205 u206 u207 u208 u209 : Value} {bS bE sb so m mc cb co cc i q c : Nat} {l : List Int} {z : Int} {w W0 : World} {L : BLs} {R : List RowD} (hc : Hid (0 < c ∧ c ≤ 1000)) (hq : Hid (q < c)) (him : Hid (i < m)) (hb : Hid (bS < w.heap.size ∧ sb < w.heap.size ∧ cb < w.heap.size)) (hS : Hid (w.cell? ⟨bS, 0, none⟩ = some (.int .i64 c) ∧ w.cell? ⟨bS, 1, none⟩ = some (.slice (some ⟨sb, so, none⟩) m mc)))
  (hR : Hid (w.cell? ⟨sb, so + i * 2, none⟩ = some (.slice (some ⟨cb, co, none⟩) c cc))) (hC : Hid (∀ k, k < c → w.cell? ⟨cb, co + k, none⟩ = some (.int .i64 (gi l k)))) (h0 : Hid (Mem w ((bE, #[.slice none 0 0, .int .i64 z], 60) :: L) R W0)) {body : Code} (hbody : getLoop Tryz.f7.body 2 = some body)
  (hQ : ∀ (vf : Value) (v17 v77 v78 v79 v80 v81 v82 v83 v84 v85 v86 v87 v88 v89 v90 v91 v92 v93 v94 v95 v96 v97 v98 v99 v100 v101 : Value) (W' : World), Hid (Mem w ((bE, #[vf, .int .i64 z], 60) :: L) (⟨3, 1, vf, c, ((List.range c).map fun k => Value.int .i64 (gi l ((k + q) % c)))⟩ :: R) W') → Q (.exit 2) { tmps := List.toArray (u0::u1::u2::u3::u4::u5::u6::u7::u8::u9::u10::.pointer (some ⟨bS, 0, none⟩)::u12::u13::.int .i64 q::.int .i64 i::.pointer (some ⟨bE, 0, none⟩)::v17::u18::u19::u20::u21::u22::u23::u24::u25::u26::u27::u28::u29::u30::u31::u32::u33::u34::u35::u36::u37::u38::u39::u40::u41::u42::u43::u44::u45::u46::u47::u48::u49::u50::u51::u52::u53::u54::u55::u56::u57::u58::u59::u60::u61::u62::u63::u64::u65::u66::u67::u68::u69::u70::u71::u72::u73::u74::u75::u76::v77::v78::v79::v80::v81::v82::v83::v84::v85::v86::v87::v88::v89::v90::v91::v92::v93::v94::v95::v96::v97::v98::v99::v100::v101::u102::u103::u104::u105::u106::u107::u108::u109::u110::u111::u112::u113::u114::u115::u116::u117::u118::u119::u120::u121::u122::u123::u124::u125::u126::u127::u128::u129::u130::u131::u132::u133::u134::u135::u136::u137::u138::u139::u140::u141::u142::u143::u144::u145::u146::u147::u148::u149::u150::u151::u152::u153::u154::u155::u156::u157::u158::u159::u160::u161::u162::u163::u164::u165::u166::u167::u168::u169::u170::u171::u172::u173::u174::u175::u176::u177::u178::u179::u180::u181::u182::u183::u184::u185::u186::u187::u188::u189::u190::u191::u192::u193::u194::u195::u196::u197::u198::u199::u200::u201::u202::u203::u204::u205::u206::u207::u208::u209::[]), defers := [] } W') :
  (Code.loop body).wp Tryz.prog Q { tmps := List.toArray (u0::u1::u2::u3::u4::u5::u6::u7::u8::u9::u10::.pointer (some ⟨bS, 0, none⟩)::u12::u13::.int .i64 q::.int .i64 i::.pointer (some ⟨bE, 0, none⟩)::.int .i64 0::u18::u19::u20::u21::u22::u23::u24::u25::u26::u27::u28::u29::u30::u31::u32::u33::u34::u35::u36::u37::u38::u39::u40::u41::u42::u43::u44::u45::u46::u47::u48::u49::u50::u51::u52::u53::u54::u55::u56::u57::u58::u59::u60::u61::u62::u63::u64::u65::u66::u67::u68::u69::u70::u71::u72::u73::u74::u75::u76::u77::u78::u79::u80::u81::u82::u83::u84::u85::u86::u87::u88::u89::u90::u91::u92::u93::u94::u95::u96::u97::u98::u99::u100::u101::u102::u103::u104::u105::u106::u107::u108::u109::u110::u111::u112::u113::u114::u115::u116::u117::u118::u119::u120::u121::u122::u123::u124::u125::u126::u127::u128::u129::u130::u131::u132::u133::u134::u135::u136::u137::u138::u139::u140::u141::u142::u143::u144::u145::u146::u147::u148::u149::u150::u151::u152::u153::u154::u155::u156::u157::u158::u159::u160::u161::u162::u163::u164::u165::u166::u167::u168::u169::u170::u171::u172::u173::u174::u175::u176::u177::u178::u179::u180::u181::u182::u183::u184::u185::u186::u187::u188::u189::u190::u191::u192::u193::u194::u195::u196::u197::u198::u199::u200::u201::u202::u203::u204::u205::u206::u207::u208::u209::[]), defers := [] } W0 := by
 obtain rfl := Option.some.inj (hbody.symm.trans (rfl : getLoop Tryz.f7.body 2 = some _))
 clear hbody
 replace hQ := A8 hQ
 go_loopw [17] (fun s wr => ∃ (j : Nat) (v : Value), s = .int .i64 j ∧ j ≤ c ∧ Hid (Mem w ((bE, #[v, .int .i64 z], 60) :: L) (⟨3, 1, v, j, ((List.range j).map fun k => Value.int .i64 (gi l ((k + q) % c)))⟩ :: R) wr)) (fun s _ => c - (intOf s).toNat)
 case atStart => exact ⟨0, .slice none 0 0, rfl, by omega, A8 (h0.out.row0 3 1)⟩
 case round =>
  clear h0
  obtain ⟨j, v, rfl, hj, hM⟩ := hrel
  have y0 := hM.out.old hb.out.1 hS.out.1
  by_cases hjc : j < c
  case neg =>
   have hjc' : ¬ (j : Int) < c := by omega
   obtain rfl : j = c := by omega
   go_wp2_with fail
   exact hQ.out v _ _ _ _ _ _ _ _ _ _ _ _ _ _ _ _ _ _ _ _ _ _ _ _ _ _ _ hM
  case pos =>
   have hjc' : (j : Int) < c := by omega
   have hc9 : c ≤ 1000 := hc.out.2
   obtain ⟨k, hke⟩ : ∃ k, k = (j + q) % c := ⟨_, rfl⟩
   have hk : k < c := by rw [hke]; exact Nat.mod_lt _ hc.out.1
   have hw : IntKind.i64.wrap ((j : Int) + q) = ((j + q : Nat) : Int) := by rw [IntWalk.i64_in _ (by have := hc.out; have := hq.out; omega)]; simp
   have ht : (((j + q : Nat) : Int)).tmod (c : Int) = (k : Int) := by rw [Int.tmod_eq_emod_of_nonneg (Int.natCast_nonneg _), hke]; rfl
   have hxs := A8 (show ((List.range (j + 1)).map fun k => Value.int .i64 (gi l ((k + q) % c))) = ((List.range j).map fun k => Value.int .i64 (gi l ((k + q) % c))) ++ [.int .i64 (gi l k)] by rw [hke, List.range_succ, List.map_append]; rfl)
   go_upto_region 15 with fail
   refine ord_r15 (bS := bS) (bE := bE) (sb := sb) (so := so) (m := m) (mc := mc) (cb := cb) (co := co) (cc := cc) (i := i) (j := j) (k := k) (c := c) (v := v) (cr := q) (z := z) (y := gi l k) (w := w) (L := L) (R := R) (A8 (by have := hc.out; omega)) (by omega) (by have := him.out; omega) (by have := hc.out; omega) (by omega) (by omega) (A8 fun W hW => hW.old hb.out.1 hS.out.2) (A8 fun W hW => hW.old hb.out.2.1 hR.out) hw (A8 fun W hW => hW.old hb.out.1 hS.out.1) ht (A8 fun W hW => hW.old hb.out.2.2 (hC.out _ hk)) hM rfl rfl rfl rfl rfl rfl (by kernel_rfl) ?_
   intro xx G cap W5 hM5
   simp only [sets, List.foldl_cons, List.foldl_nil, A5, A6]
   rw [← hxs.out] at hM5
   clear hM hxs hw ht hke hk y0
   go_wp2_with fail
   go_roundw
   case rel => exact ⟨j + 1, _, by go_num, by omega, hM5⟩
   case measure => simp [intOf]; omega
theorem ord_l0 {Q : Exit → Act → World → Prop} {u0 u2 u3 u4 u5 u6 u7 u8 u9 u10 u16 u17 u18 u19 u20 u21 u22 u23 u24 u25 u26 u27 u28 u29 u30 u31 u32 u33 u34 u35 u36 u37 u38 u39 u40 u41 u42 u43 u44 u45 u46 u47 u48 u49 u50 u51 u52 u53 u54 u55 u56 u57 u58 u59 u60 u61 u62 u63 u64 u65 u66 u67 u68 u69 u70 u71 u72 u73 u74 u75 u76 u77 u78 u79 u80 u81 u82 u83 u84 u85 u86 u87 u88 u89 u90 u91 u92 u93 u94 u95 u96 u97 u98 u99 u100 u101 u102 u103 u104 u105 u106 u107 u108 u109 u110 u111 u112 u113 u114 u115 u116 u117 u118 u119 u120 u121 u122 u123 u124 u125 u126 u127 u128 u129 u130 u131 u132 u133 u134 u135 u136 u137 u138 u139 u140 u141 u142 u143 u144 u145 u146 u147 u148 u149 u150 u151 u152 u153 u154 u155 u156 u157 u158 u159 u160 u161 u162 u163 u164 u165 u166 u167 u168 u169 u170 u171 u172 u173 u174 u175 u176 u177 u178 u179 u180 u181 u182 u183 u184 u185 u186 u187 u188 u189 u190 u191 u192 u193 u194 u195 u196 u197 u198 u199 u200 u201 u202 u203 u204 u205 u206 u207 u208 u209 : Value} {bS bT bU sb so m mc q c p : Nat} {nr : Int} {rows : List (List Int × Int)} {w W0 : World} {L : BLs} {R : List RowD} (hm : Hid (m = rows.length ∧ 0 < m ∧ m ≤ 1000)) (hc : Hid (0 < c ∧ c ≤ 1000)) (hq : Hid (q < c)) (hp : Hid (p < m ∧ pkv nr m = (p : Int) ∧ Fits nr)) (hb : Hid (bS < w.heap.size)) (hS : Hid (w.cell? ⟨bS, 0, none⟩ = some (.int .i64 c) ∧ w.cell? ⟨bS, 1, none⟩ = some (.slice (some ⟨sb, so, none⟩) m mc))) (hR : Hid (RowsAt w sb so rows c))
  (h0 : Hid (Mem w ((bT, #[.int .i64 c, .slice none 0 0], 27) :: (bU, #[.int .i64 c, .slice none 0 0], 27) :: L) R W0)) {body : Code} (hbody : getLoop Tryz.f7.body 0 = some body)
  (hQ : ∀ (fs : BLs) (tv uv : Value) (xt xu : List Value) (v15 v16 v17 v43 v44 v45 v46 v47 v48 v49 v50 v51 v52 v53 v54 v55 v56 v57 v58 v59 v60 v61 v62 v63 v64 v65 v66 v67 v68 v69 v70 v71 v72 v73 v74 v75 v76 v77 v78 v79 v80 v81 v82 v83 v84 v85 v86 v87 v88 v89 v90 v91 v92 v93 v94 v95 v96 v97 v98 v99 v100 v101 v102 v103 v104 v105 v106 v107 : Value) (W' : World), Hid (Mem w ((bT, #[.int .i64 c, tv], 27) :: (bU, #[.int .i64 c, uv], 27) :: (fs ++ L)) (⟨60, 2, tv, m, xt⟩ :: ⟨60, 2, uv, m, xu⟩ :: R) W' ∧ EqsO w ((tRows rows p).take m) xt ∧ EqsAt fs ((uRows rows c q).take m) xu) → Q (.exit 0) { tmps := List.toArray (u0::.int .i64 nr::u2::u3::u4::u5::u6::u7::u8::u9::u10::.pointer (some ⟨bS, 0, none⟩)::.pointer (some ⟨bT, 0, none⟩)::.pointer (some ⟨bU, 0, none⟩)::.int .i64 q::v15::v16::v17::u18::u19::u20::u21::u22::u23::u24::u25::u26::u27::u28::u29::u30::u31::u32::u33::u34::u35::u36::u37::u38::u39::u40::u41::u42::v43::v44::v45::v46::v47::v48::v49::v50::v51::v52::v53::v54::v55::v56::v57::v58::v59::v60::v61::v62::v63::v64::v65::v66::v67::v68::v69::v70::v71::v72::v73::v74::v75::v76::v77::v78::v79::v80::v81::v82::v83::v84::v85::v86::v87::v88::v89::v90::v91::v92::v93::v94::v95::v96::v97::v98::v99::v100::v101::v102::v103::v104::v105::v106::v107::u108::u109::u110::u111::u112::u113::u114::u115::u116::u117::u118::u119::u120::u121::u122::u123::u124::u125::u126::u127::u128::u129::u130::u131::u132::u133::u134::u135::u136::u137::u138::u139::u140::u141::u142::u143::u144::u145::u146::u147::u148::u149::u150::u151::u152::u153::u154::u155::u156::u157::u158::u159::u160::u161::u162::u163::u164::u165::u166::u167::u168::u169::u170::u171::u172::u173::u174::u175::u176::u177::u178::u179::u180::u181::u182::u183::u184::u185::u186::u187::u188::u189::u190::u191::u192::u193::u194::u195::u196::u197::u198::u199::u200::u201::u202::u203::u204::u205::u206::u207::u208::u209::[]), defers := [] } W') :
  (Code.loop body).wp Tryz.prog Q { tmps := List.toArray (u0::.int .i64 nr::u2::u3::u4::u5::u6::u7::u8::u9::u10::.pointer (some ⟨bS, 0, none⟩)::.pointer (some ⟨bT, 0, none⟩)::.pointer (some ⟨bU, 0, none⟩)::.int .i64 q::.int .i64 0::u16::u17::u18::u19::u20::u21::u22::u23::u24::u25::u26::u27::u28::u29::u30::u31::u32::u33::u34::u35::u36::u37::u38::u39::u40::u41::u42::u43::u44::u45::u46::u47::u48::u49::u50::u51::u52::u53::u54::u55::u56::u57::u58::u59::u60::u61::u62::u63::u64::u65::u66::u67::u68::u69::u70::u71::u72::u73::u74::u75::u76::u77::u78::u79::u80::u81::u82::u83::u84::u85::u86::u87::u88::u89::u90::u91::u92::u93::u94::u95::u96::u97::u98::u99::u100::u101::u102::u103::u104::u105::u106::u107::u108::u109::u110::u111::u112::u113::u114::u115::u116::u117::u118::u119::u120::u121::u122::u123::u124::u125::u126::u127::u128::u129::u130::u131::u132::u133::u134::u135::u136::u137::u138::u139::u140::u141::u142::u143::u144::u145::u146::u147::u148::u149::u150::u151::u152::u153::u154::u155::u156::u157::u158::u159::u160::u161::u162::u163::u164::u165::u166::u167::u168::u169::u170::u171::u172::u173::u174::u175::u176::u177::u178::u179::u180::u181::u182::u183::u184::u185::u186::u187::u188::u189::u190::u191::u192::u193::u194::u195::u196::u197::u198::u199::u200::u201::u202::u203::u204::u205::u206::u207::u208::u209::[]), defers := [] } W0 := by
 obtain rfl := Option.some.inj (hbody.symm.trans (rfl : getLoop Tryz.f7.body 0 = some _))
 clear hbody
 replace hQ := A8 hQ
 go_loopw [15] (fun s wr => ∃ (i : Nat) (fs : BLs) (tv uv : Value) (xt xu : List Value), s = .int .i64 i ∧ i ≤ m ∧ Hid (Mem w ((bT, #[.int .i64 c, tv], 27) :: (bU, #[.int .i64 c, uv], 27) :: (fs ++ L)) (⟨60, 2, tv, i, xt⟩ :: ⟨60, 2, uv, i, xu⟩ :: R) wr ∧ EqsO w ((tRows rows p).take i) xt ∧ EqsAt fs ((uRows rows c q).take i) xu)) (fun s _ => m - (intOf s).toNat)
 case atStart => exact ⟨0, [], .slice none 0 0, .slice none 0 0, [], [], rfl, by omega, A8 ⟨(h0.out.row0 60 2).row0 60 2, EqsO.nil _, EqsAt.nil _⟩⟩
 case round =>
  clear h0
  obtain ⟨i, fs, tv, uv, xt, xu, rfl, hi, hM⟩ := hrel
  have y0 := hM.out.1.old hb.out hS.out.2
  by_cases him : i < m
  case neg =>
   have him' : ¬ (i : Int) < m := by omega
   obtain rfl : i = m := by omega
   go_wp2_with fail
   exact hQ.out fs tv uv xt xu _ _ _ _ _ _ _ _ _ _ _ _ _ _ _ _ _ _ _ _ _ _ _ _ _ _ _ _ _ _ _ _ _ _ _ _ _ _ _ _ _ _ _ _ _ _ _ _ _ _ _ _ _ _ _ _ _ _ _ _ _ _ _ _ _ _ _ _ _ hM
  case pos =>
   have him' : (i : Int) < m := by omega
   have hm9 : m ≤ 1000 := hm.out.2.2
   have hi0 : (0 : Int) ≤ i := by omega
   obtain ⟨k, hke⟩ : ∃ k, k = (i + p) % m := ⟨_, rfl⟩
   have hk : k < m := by rw [hke]; exact Nat.mod_lt _ hm.out.2.1
   have hw : IntKind.i64.wrap ((i : Int) + p) = ((i + p : Nat) : Int) := by rw [IntWalk.i64_in _ (by have := hm.out; have := hp.out.1; omega)]; simp
   have ht : (((i + p : Nat) : Int)).tmod (m : Int) = (k : Int) := by rw [Int.tmod_eq_emod_of_nonneg (Int.natCast_nonneg _), hke]; rfl
   have PK := A8 (fun W (_ : Mem w ((bU, #[.int .i64 c, uv], 27) :: (fs ++ L)) (⟨60, 2, uv, i, xu⟩ :: R) W) => by have := Fu nr m hp.out.2.2 (by omega) (by omega) W; rw [hp.out.2.1] at this; exact this)
   obtain ⟨cb, co, cc, z1, z2, z3, z4, z5⟩ := hR.out.row k (by rw [← hm.out.1]; exact hk)
   have htk := A8 (show (tRows rows p).take (i + 1) = (tRows rows p).take i ++ [rowOf rows k] from by rw [List.take_add_one, Cx (by rw [Bq, ← hm.out.1]; exact him), F5 (by rw [← hm.out.1]; exact him), ← hm.out.1, ← hke]; rfl)
   have huk := A8 (show (uRows rows c q).take (i + 1) = (uRows rows c q).take i ++ [uRow (rowOf rows i) c q] from by rw [List.take_add_one, Cx (by rw [Br, ← hm.out.1]; exact him), DE (by rw [← hm.out.1]; exact him)]; rfl)
   go_upto_region 10 with fail
   refine ord_r10 (bS := bS) (bT := bT) (sb := sb) (so := so) (m := m) (mc := mc) (i := i) (k := k) (c := c) (v := tv) (ca := some ⟨cb, co, none⟩) (cn := c) (ck := cc) (xs := xt) (nr := nr) (z := (rowOf rows k).2) (w := w) (L := (bU, #[.int .i64 c, uv], 27) :: (fs ++ L)) (R := ⟨60, 2, uv, i, xu⟩ :: R) (A8 (by omega)) (by omega) (by omega) (by omega) (A8 fun W hW => hW.old hb.out hS.out.2) (A8 fun W hW => hW.old hb.out hS.out.2) PK hw (A8 fun W hW => hW.old hb.out hS.out.2) ht (A8 fun W hW => hW.old hR.out.lt z1) (A8 fun W hW => hW.old hR.out.lt z5) (A8 hM.out.1) rfl rfl rfl rfl rfl (by kernel_rfl) ?_
   intro xx GT capT W5 hM5
   simp only [sets, List.foldl_cons, List.foldl_nil, A5, A6]
   have hqT := A8 (hM.out.2.1.snoc (r := rowOf rows k) z2)
   have hqU := A8 hM.out.2.2
   rw [← htk.out] at hqT
   clear hM z1 z2 z3 z4 z5 hw ht hke hk PK htk y0
   obtain ⟨cb2, co2, cc2, z1, z2, z3, z4, z5⟩ := hR.out.row i (by rw [← hm.out.1]; exact him)
   have hri := A8 (Bp (rows := rows) (i := i) (by rw [← hm.out.1]; exact him))
   have y0 := hM5.out.old hb.out hS.out.2
   have y5 := hM5.out.old hR.out.lt z5
   obtain ⟨z, hz⟩ : ∃ z, z = (rowOf rows i).2 := ⟨_, rfl⟩
   rw [← hz] at y5
   replace hz := A8 hz
   obtain ⟨V, eV, S6, s6⟩ := hM5.out.add' #[.slice none 0 0, .int .i64 z] 60
   obtain ⟨B, eB⟩ : ∃ B, B = W5.heap.size := ⟨_, rfl⟩
   rw [← eB] at S6
   have hM6 := A8 S6
   clear S6 s6
   go_upto_region 12 with fail
   rw [← eV, ← eB]
   clear eV eB y0 y5 hM5
   go_wp2_with fail
   refine ord_l2 (bS := bS) (bE := B) (sb := sb) (so := so) (m := m) (mc := mc) (cb := cb2) (co := co2) (cc := cc2) (i := i) (q := q) (c := c) (l := (rowOf rows i).1) (z := z) (w := w) hc hq (A8 him) (A8 ⟨hb.out, hR.out.lt, z3⟩) hS (A8 z1) (A8 z4) hM6 (by kernel_rfl) ?_
   intro vf u17 u77 u78 u79 u80 u81 u82 u83 u84 u85 u86 u87 u88 u89 u90 u91 u92 u93 u94 u95 u96 u97 u98 u99 u100 u101 W7 hM7
   clear hM6 z1 z2 z3 z4 z5
   have hxs : ((List.range c).map fun k => Value.int .i64 (gi (rowOf rows i).1 ((k + q) % c))) = (uRow (rowOf rows i) c q).1.map (Value.int .i64) := by unfold uRow; rw [List.map_map]; rfl
   have hlen : (uRow (rowOf rows i) c q).1.length = c := by unfold uRow; simp
   have hur : uRow (rowOf rows i) c q = ((uRow (rowOf rows i) c q).1, z) := by rw [hz.out]; rfl
   rw [hxs] at hM7
   obtain ⟨gs, hin, hM8⟩ := hM7.out.freezeI (l := (uRow (rowOf rows i) c q).1) hlen.symm
   obtain ⟨av, cp, rfl⟩ := hin.shape
   rw [hlen] at hin hM8 hM7
   replace hin := A8 hin
   have hM8 := A8 hM8
   have hur := A8 hur
   have hM9 := A8 hM8.out.pull3.rswap
   have y0 := (hM8.out.cell _ _ _ (List.mem_append_right gs List.mem_cons_self) 0).trans (show _ = some (Value.slice av c cp) from rfl)
   have y1 := (hM8.out.cell _ _ _ (List.mem_append_right gs List.mem_cons_self) 1).trans (show _ = some (Value.int .i64 z) from rfl)
   have y2 := (hM9.out.cell _ _ _ List.mem_cons_self 1).trans (show _ = some uv from rfl)
   clear hM7 hM8 hxs hlen hz
   go_upto_region 9 with (at_builtin; refine Ce rfl rfl (hM9.out.new _) rfl rfl ((Blk.new _ _ _).cell 0) ((Blk.new _ _ _).cell 1) rfl rfl (by omega) ?_; intro g2 c2 W8 hM10; have q0 := hM10.cell bU _ _ (.head _) 1; have q1 := hM10.frozen bU _ _ (.head _) 1; replace hM10 := (hM10.put0 1 (.slice (some ⟨g2, 0, none⟩) (i + 1) c2)).swap.rswap)
   go_wp2_with fail
   go_roundw
   case rel => exact ⟨i + 1, gs ++ fs, _, _, _, _, by go_num, by omega, A8 ⟨by rw [List.append_assoc]; assumption, hqT.out, by rw [huk.out, hur.out]; exact hqU.out.snoc (hin.out.mono (fun p hp => List.mem_append_left _ hp)) (fun p hp => List.mem_append_right _ hp)⟩⟩
   case measure => simp [intOf]; omega
theorem ord_l6 {Q : Exit → Act → World → Prop} {u0 u1 u2 u3 u4 u5 u6 u7 u8 u9 u10 u12 u13 u15 u16 u17 u18 u19 u20 u21 u22 u23 u24 u28 u29 u30 u31 u32 u33 u34 u35 u36 u37 u38 u39 u40 u41 u42 u43 u44 u45 u46 u47 u48 u49 u50 u51 u52 u53 u54 u55 u56 u57 u58 u59 u60 u61 u62 u63 u64 u65 u66 u67 u68 u69 u70 u71 u72 u73 u74 u75 u76 u77 u78 u79 u80 u81 u82 u83 u84 u85 u86 u87 u88 u89 u90 u91 u92 u93 u94 u95 u96 u97 u98 u99 u100 u101 u102 u103 u104 u105 u106 u107 u108 u109 u110 u111 u112 u113 u114 u115 u116 u117 u118 u119 u120 u121 u122 u123 u124 u125 u126 u127 u128 u129 u130 u131 u132 u133 u134 u135 u136 u137 u138 u139 u140 u141 u142 u143 u144 u145 u146 u147 u148 u149 u150 u151 u152 u153 u154 u155 u156 u157 u158 u159 u160 u161 u162 u163 u164 u165 u166 u167 u168 u169 u170 u171 u172 u173 u174 u175 u176 u177 u178 u179 u180 u181 u182 u183 u184 u185 u186 u187 u188 u189 u190 u191 u192 u193 u194 u195 u196 u197 u198 u199 u200 u201 u202 u203 u204 u205 u206 u207 u208 u209 : Value} {bS bV bT nb no nc q c : Nat} {l : List ByteArray} {d : ByteArray} {w W0 : World} {L : BLs} {R : List RowD} (hc : Hid (0 < c ∧ c ≤ 1000)) (hq : Hid (q < c)) (hS : Hid (∀ W, Mem w L R W → W.cell? ⟨bS, 0, none⟩ = some (.int .i64 c))) (hV : Hid (∀ W, Mem w L R W → W.cell? ⟨bV, 0, none⟩ = some (.slice (some ⟨nb, no, none⟩) c nc)))
  (hN : Hid (∀ W, Mem w L R W → ∀ k, k < c → W.cell? ⟨nb, no + k, none⟩ = some (.string (sAt l k)))) (h0 : Hid (Mem w ((bT, #[.slice none 0 0, .string d], 30) :: L) R W0)) {body : Code} (hbody : getLoop Tryz.f7.body 6 = some body)
  (hQ : ∀ (vf : Value) (v27 v173 v174 v175 v176 v177 v178 v179 v180 v181 v182 v183 v184 v185 v186 v187 v188 v189 v190 v191 v192 v193 : Value) (W' : World), Hid (Mem w ((bT, #[vf, .string d], 30) :: L) (⟨9, 1, vf, c, ((List.range c).map fun k => Value.string (sAt l ((k + q) % c)))⟩ :: R) W') → Q (.exit 6) { tmps := List.toArray (u0::u1::u2::u3::u4::u5::u6::u7::u8::u9::u10::.pointer (some ⟨bS, 0, none⟩)::u12::u13::.int .i64 q::u15::u16::u17::u18::u19::u20::u21::u22::u23::u24::.pointer (some ⟨bV, 0, none⟩)::.pointer (some ⟨bT, 0, none⟩)::v27::u28::u29::u30::u31::u32::u33::u34::u35::u36::u37::u38::u39::u40::u41::u42::u43::u44::u45::u46::u47::u48::u49::u50::u51::u52::u53::u54::u55::u56::u57::u58::u59::u60::u61::u62::u63::u64::u65::u66::u67::u68::u69::u70::u71::u72::u73::u74::u75::u76::u77::u78::u79::u80::u81::u82::u83::u84::u85::u86::u87::u88::u89::u90::u91::u92::u93::u94::u95::u96::u97::u98::u99::u100::u101::u102::u103::u104::u105::u106::u107::u108::u109::u110::u111::u112::u113::u114::u115::u116::u117::u118::u119::u120::u121::u122::u123::u124::u125::u126::u127::u128::u129::u130::u131::u132::u133::u134::u135::u136::u137::u138::u139::u140::u141::u142::u143::u144::u145::u146::u147::u148::u149::u150::u151::u152::u153::u154::u155::u156::u157::u158::u159::u160::u161::u162::u163::u164::u165::u166::u167::u168::u169::u170::u171::u172::v173::v174::v175::v176::v177::v178::v179::v180::v181::v182::v183::v184::v185::v186::v187::v188::v189::v190::v191::v192::v193::u194::u195::u196::u197::u198::u199::u200::u201::u202::u203::u204::u205::u206::u207::u208::u209::[]), defers := [] } W') :
  (Code.loop body).wp Tryz.prog Q { tmps := List.toArray (u0::u1::u2::u3::u4::u5::u6::u7::u8::u9::u10::.pointer (some ⟨bS, 0, none⟩)::u12::u13::.int .i64 q::u15::u16::u17::u18::u19::u20::u21::u22::u23::u24::.pointer (some ⟨bV, 0, none⟩)::.pointer (some ⟨bT, 0, none⟩)::.int .i64 0::u28::u29::u30::u31::u32::u33::u34::u35::u36::u37::u38::u39::u40::u41::u42::u43::u44::u45::u46::u47::u48::u49::u50::u51::u52::u53::u54::u55::u56::u57::u58::u59::u60::u61::u62::u63::u64::u65::u66::u67::u68::u69::u70::u71::u72::u73::u74::u75::u76::u77::u78::u79::u80::u81::u82::u83::u84::u85::u86::u87::u88::u89::u90::u91::u92::u93::u94::u95::u96::u97::u98::u99::u100::u101::u102::u103::u104::u105::u106::u107::u108::u109::u110::u111::u112::u113::u114::u115::u116::u117::u118::u119::u120::u121::u122::u123::u124::u125::u126::u127::u128::u129::u130::u131::u132::u133::u134::u135::u136::u137::u138::u139::u140::u141::u142::u143::u144::u145::u146::u147::u148::u149::u150::u151::u152::u153::u154::u155::u156::u157::u158::u159::u160::u161::u162::u163::u164::u165::u166::u167::u168::u169::u170::u171::u172::u173::u174::u175::u176::u177::u178::u179::u180::u181::u182::u183::u184::u185::u186::u187::u188::u189::u190::u191::u192::u193::u194::u195::u196::u197::u198::u199::u200::u201::u202::u203::u204::u205::u206::u207::u208::u209::[]), defers := [] } W0 := by
 obtain rfl := Option.some.inj (hbody.symm.trans (rfl : getLoop Tryz.f7.body 6 = some _))
 clear hbody
 replace hQ := A8 hQ
 go_loopw [27] (fun s wr => ∃ (j : Nat) (v : Value), s = .int .i64 j ∧ j ≤ c ∧ Hid (Mem w ((bT, #[v, .string d], 30) :: L) (⟨9, 1, v, j, ((List.range j).map fun k => Value.string (sAt l ((k + q) % c)))⟩ :: R) wr)) (fun s _ => c - (intOf s).toNat)
 case atStart => exact ⟨0, .slice none 0 0, rfl, by omega, A8 (h0.out.row0 9 1)⟩
 case round =>
  clear h0
  obtain ⟨j, v, rfl, hj, hM⟩ := hrel
  have y0 := hS.out _ hM.out.tail.rtail
  by_cases hjc : j < c
  case neg =>
   have hjc' : ¬ (j : Int) < c := by omega
   obtain rfl : j = c := by omega
   go_wp2_with fail
   exact hQ.out v _ _ _ _ _ _ _ _ _ _ _ _ _ _ _ _ _ _ _ _ _ _ _ hM
  case pos =>
   have hjc' : (j : Int) < c := by omega
   have hc9 : c ≤ 1000 := hc.out.2
   obtain ⟨k, hke⟩ : ∃ k, k = (j + q) % c := ⟨_, rfl⟩
   have hk : k < c := by rw [hke]; exact Nat.mod_lt _ hc.out.1
   have hw : IntKind.i64.wrap ((j : Int) + q) = ((j + q : Nat) : Int) := by rw [IntWalk.i64_in _ (by have := hc.out; have := hq.out; omega)]; simp
   have ht : (((j + q : Nat) : Int)).tmod (c : Int) = (k : Int) := by rw [Int.tmod_eq_emod_of_nonneg (Int.natCast_nonneg _), hke]; rfl
   have hxs := A8 (show ((List.range (j + 1)).map fun k => Value.string (sAt l ((k + q) % c))) = ((List.range j).map fun k => Value.string (sAt l ((k + q) % c))) ++ [.string (sAt l k)] by rw [hke, List.range_succ, List.map_append]; rfl)
   go_upto_region 30 with fail
   refine ord_r30 (bS := bS) (bV := bV) (bT := bT) (nb := nb) (no := no) (nc := nc) (j := j) (k := k) (c := c) (v := v) (cr := q) (d := d) (t := sAt l k) (w := w) (L := L) (R := R) (A8 (by omega)) (by have := hc.out; omega) (by omega) (by omega) hV hw hS ht (A8 fun W hW => hN.out W hW _ hk) hM rfl rfl rfl rfl rfl rfl (by kernel_rfl) ?_
   intro xx G cap W5 hM5
   simp only [sets, List.foldl_cons, List.foldl_nil, A5, A6]
   rw [← hxs.out] at hM5
   clear hM hxs hw ht hke hk y0
   go_wp2_with fail
   go_roundw
   case rel => exact ⟨j + 1, _, by go_num, by omega, hM5⟩
   case measure => simp [intOf]; omega
theorem Lk {Q : Exit → Act → World → Prop} {u0 u1 u2 u3 u4 u5 u6 u7 u8 u9 u15 u16 u17 u18 u19 u20 u21 u22 u23 u24 u25 u26 u27 u28 u29 u30 u31 u32 u33 u34 u35 u36 u37 u38 u39 u40 u41 u42 u43 u44 u45 u46 u47 u48 u49 u50 u51 u52 u53 u54 u55 u56 u57 u58 u59 u60 u61 u62 u63 u64 u65 u66 u67 u68 u69 u70 u71 u72 u73 u74 u75 u76 u77 u78 u79 u80 u81 u82 u83 u84 u85 u86 u87 u88 u89 u90 u91 u92 u93 u94 u95 u96 u97 u98 u99 u100 u101 u102 u103 u104 u105 u106 u107 u108 u109 u110 u111 u112 u113 u114 u115 u116 u117 u118 u119 u120 u121 u122 u123 u124 u125 u126 u127 u128 u129 u130 u131 u132 u133 u134 u135 u136 u137 u138 u139 u140 u141 u142 u143 u144 u145 u146 u147 u148 u149 u150 u151 u152 u153 u154 u155 u156 u157 u161 u162 u163 u164 u165 u166 u167 u168 u169 u170 u171 u172 u173 u174 u175 u176 u177 u178 u179 u180 u181 u182 u183 u184 u185 u186 u187 u188 u189 u190 u191 u192 u193 u194 u195 u196 u197 u198 u199 u200 u201 u202 u203 u204 u205 u206 u207 u208 u209 : Value} {bS bT bU g q c p : Nat} {sv tv uv : Value} {rows : List (List Int × Int)} {vv : Nat → Value} {ll : Nat → List ByteArray} {dd : Nat → ByteArray} {w : World} (hE : Hid (Env w)) (hc : Hid (0 < c ∧ c ≤ 1000)) (hq : Hid (q < c)) (hb : Hid (bS < w.heap.size ∧ bT < w.heap.size ∧ bU < w.heap.size ∧ g < w.heap.size)) (hval : Hid (validL c rows = true))
  (hS : Hid (w.cell? ⟨bS, 0, none⟩ = some (.int .i64 c) ∧ w.cell? ⟨bS, 1, none⟩ = some sv)) (hT : Hid (w.cell? ⟨bT, 0, none⟩ = some (.int .i64 c) ∧ w.cell? ⟨bT, 1, none⟩ = some tv)) (hU : Hid (w.cell? ⟨bU, 0, none⟩ = some (.int .i64 c) ∧ w.cell? ⟨bU, 1, none⟩ = some uv)) (hR : Hid (SlE w sv rows ∧ SlE w tv (tRows rows p) ∧ SlE w uv (uRows rows c q)))
  (hA : Hid (∀ j, j < 4 → w.cell? ⟨g, j * 2, none⟩ = some (vv j) ∧ w.cell? ⟨g, j * 2 + 1, none⟩ = some (.string (dd j)) ∧ SlS w (vv j) (ll j))) {body : Code} (hbody : getLoop Tryz.f7.body 4 = some body)
  (hQ : ∀ (v10 v25 v26 v27 v28 v160 v161 v162 v163 v164 v165 v166 v167 v168 v169 v170 v171 v172 v173 v174 v175 v176 v177 v178 v179 v180 v181 v182 v183 v184 v185 v186 v187 v188 v189 v190 v191 v192 v193 v194 v195 v196 v197 v198 v199 v200 v201 v202 v203 v204 v205 v206 v207 v208 v209 : Value) (W' : World), Hid (Below w.heap.size w W') → Q (.exit 4) { tmps := List.toArray (u0::u1::u2::u3::u4::u5::u6::u7::u8::u9::v10::.pointer (some ⟨bS, 0, none⟩)::.pointer (some ⟨bT, 0, none⟩)::.pointer (some ⟨bU, 0, none⟩)::.int .i64 q::u15::u16::u17::u18::u19::u20::u21::u22::u23::u24::v25::v26::v27::v28::u29::u30::u31::u32::u33::u34::u35::u36::u37::u38::u39::u40::u41::u42::u43::u44::u45::u46::u47::u48::u49::u50::u51::u52::u53::u54::u55::u56::u57::u58::u59::u60::u61::u62::u63::u64::u65::u66::u67::u68::u69::u70::u71::u72::u73::u74::u75::u76::u77::u78::u79::u80::u81::u82::u83::u84::u85::u86::u87::u88::u89::u90::u91::u92::u93::u94::u95::u96::u97::u98::u99::u100::u101::u102::u103::u104::u105::u106::u107::u108::u109::u110::u111::u112::u113::u114::u115::u116::u117::u118::u119::u120::u121::u122::u123::u124::u125::u126::u127::u128::u129::u130::u131::u132::u133::u134::u135::u136::u137::u138::u139::u140::u141::u142::u143::u144::u145::u146::u147::u148::u149::u150::u151::u152::u153::u154::u155::u156::u157::.slice (some ⟨g, 0, none⟩) 4 4::.int .i64 4::v160::v161::v162::v163::v164::v165::v166::v167::v168::v169::v170::v171::v172::v173::v174::v175::v176::v177::v178::v179::v180::v181::v182::v183::v184::v185::v186::v187::v188::v189::v190::v191::v192::v193::v194::v195::v196::v197::v198::v199::v200::v201::v202::v203::v204::v205::v206::v207::v208::v209::[]), defers := [] } W') :
  (Code.loop body).wp Tryz.prog Q { tmps := List.toArray (u0::u1::u2::u3::u4::u5::u6::u7::u8::u9::.bool false::.pointer (some ⟨bS, 0, none⟩)::.pointer (some ⟨bT, 0, none⟩)::.pointer (some ⟨bU, 0, none⟩)::.int .i64 q::u15::u16::u17::u18::u19::u20::u21::u22::u23::u24::u25::u26::u27::u28::u29::u30::u31::u32::u33::u34::u35::u36::u37::u38::u39::u40::u41::u42::u43::u44::u45::u46::u47::u48::u49::u50::u51::u52::u53::u54::u55::u56::u57::u58::u59::u60::u61::u62::u63::u64::u65::u66::u67::u68::u69::u70::u71::u72::u73::u74::u75::u76::u77::u78::u79::u80::u81::u82::u83::u84::u85::u86::u87::u88::u89::u90::u91::u92::u93::u94::u95::u96::u97::u98::u99::u100::u101::u102::u103::u104::u105::u106::u107::u108::u109::u110::u111::u112::u113::u114::u115::u116::u117::u118::u119::u120::u121::u122::u123::u124::u125::u126::u127::u128::u129::u130::u131::u132::u133::u134::u135::u136::u137::u138::u139::u140::u141::u142::u143::u144::u145::u146::u147::u148::u149::u150::u151::u152::u153::u154::u155::u156::u157::.slice (some ⟨g, 0, none⟩) 4 4::.int .i64 4::.int .i64 0::u161::u162::u163::u164::u165::u166::u167::u168::u169::u170::u171::u172::u173::u174::u175::u176::u177::u178::u179::u180::u181::u182::u183::u184::u185::u186::u187::u188::u189::u190::u191::u192::u193::u194::u195::u196::u197::u198::u199::u200::u201::u202::u203::u204::u205::u206::u207::u208::u209::[]), defers := [] } w := by
 obtain rfl := Option.some.inj (hbody.symm.trans (rfl : getLoop Tryz.f7.body 4 = some _))
 clear hbody
 replace hQ := A8 hQ
 go_loopw [160] (fun s wr => ∃ (j : Nat), s = .int .i64 j ∧ j ≤ 4 ∧ Hid (Mem w [] [] wr)) (fun s _ => 4 - (intOf s).toNat)
 case atStart => exact ⟨0, rfl, by omega, A8 (Mem.start w)⟩
 case round =>
  obtain ⟨j, rfl, hj, hM⟩ := hrel
  by_cases hj4 : j < 4
  case neg =>
   have hj4' : ¬ (j : Int) < 4 := by omega
   go_wp2_with fail
   exact hQ.out _ _ _ _ _ _ _ _ _ _ _ _ _ _ _ _ _ _ _ _ _ _ _ _ _ _ _ _ _ _ _ _ _ _ _ _ _ _ _ _ _ _ _ _ _ _ _ _ _ _ _ _ _ _ _ _ (A8 hM.out.below)
  case pos =>
   have hj4' : (j : Int) < 4 := by omega
   have hj0 : (0 : Int) ≤ j := by omega
   obtain ⟨a1, a2, a3⟩ := hA.out j hj4
   obtain ⟨d, hd⟩ : ∃ d, d = dd j := ⟨_, rfl⟩
   obtain ⟨l, hl⟩ : ∃ l, l = ll j := ⟨_, rfl⟩
   rw [← hd] at a2
   rw [← hl] at a3
   obtain ⟨na, nc, hv⟩ := a3.shape
   rw [hv] at a1 a3
   clear hd hl hv
   have x0 := hM.out.old hb.out.2.2.2 a1
   have x1 := hM.out.old hb.out.2.2.2 a2
   have a3 := A8 a3
   obtain ⟨n, hn⟩ : ∃ n, n = l.length := ⟨_, rfl⟩
   rw [← hn] at x0 a3
   replace hn := A8 hn
   obtain ⟨V1, e1, S1, s1⟩ := hM.out.add' #[.slice na n nc, .string d] 30
   obtain ⟨bV, eB⟩ : ∃ B, B = wr.heap.size := ⟨_, rfl⟩
   rw [← eB] at S1
   have hM1 := A8 S1
   clear S1 s1 a1 a2
   go_upto_region 25 with fail
   rw [← e1, ← eB]
   clear e1 eB x0 x1 hM
   have y0 := (hM1.out.cell _ _ _ (.head _) 0).trans (show _ = some (Value.slice na n nc) from rfl)
   have y1 := hM1.out.old hb.out.1 hS.out.1
   by_cases hnc : n = c
   case neg =>
    have hne : ((n : Int) != c) = true := by simp; omega
    go_wp2_with fail
    go_roundw
    case rel => exact ⟨j + 1, by go_num, by omega, A8 hM1.out.tail⟩
    case measure => simp [intOf]; omega
   case pos =>
    subst hnc
    have hnn : 0 < l.length := by rw [← hn.out]; exact hc.out.1
    obtain ⟨nb, no, rfl, hnb, hcell⟩ : ∃ nb no, na = some ⟨nb, no, none⟩ ∧ nb < w.heap.size ∧ ∀ k, k < n → w.cell? ⟨nb, no + k, none⟩ = some (.string (sAt l k)) := by
     rcases a3.out with ⟨_, e2⟩ | ⟨b, off, cap', e, h1, h2, h3, h4⟩
     ·rw [e2] at hnn; simp at hnn
     ·cases e
      refine ⟨b, off, rfl, h3, fun k hk => ?_⟩
      have := h4 k _ (Dh (by rw [← hn.out]; exact hk))
      rwa [Nat.mul_one] at this
    clear hnn
    have hcell := A8 hcell
    have y2 := (hM1.out.cell _ _ _ (.head _) 1).trans (show _ = some (Value.string d) from rfl)
    obtain ⟨V2, e2, S2, s2⟩ := hM1.out.add' #[.slice none 0 0, .string d] 30
    obtain ⟨b2, eB2⟩ : ∃ B, B = V1.heap.size := ⟨_, rfl⟩
    rw [← eB2] at S2
    have hM2 := A8 S2
    clear S2 s2
    go_upto_region 27 with fail
    rw [← e2, ← eB2]
    clear e2 eB2 y0 y1 y2 hM1
    go_wp2_with fail
    refine ord_l6 (bS := bS) (bV := bV) (bT := b2) (nb := nb) (no := no) (nc := nc) (q := q) (c := n) (l := l) (d := d) (w := w) hc hq (A8 fun W hW => hW.old hb.out.1 hS.out.1) (A8 fun W hW => hW.cell _ _ _ (.head _) 0) (A8 fun W hW k hk => hW.old hnb (hcell.out k hk)) hM2 (by kernel_rfl) ?_
    intro vf u27 u173 u174 u175 u176 u177 u178 u179 u180 u181 u182 u183 u184 u185 u186 u187 u188 u189 u190 u191 u192 u193 W3 hM3
    clear hM2
    have hvf : Hid (∀ W, Below W3.heap.size W3 W → SlS W vf (turnL l n q)) := A8 (fun W hW => by
     have h2 := (hM3.out.call hW).own0
     refine SlS.of_own (n := n) (l := turnL l n q) (e := 9) (base := w.heap.size) ?_
     unfold turnL
     rw [List.map_map]
     exact h2)
    obtain ⟨ta, tc, hvs⟩ := (hvf.out _ (Below.refl _ _)).shape
    rw [CY] at hvs
    subst hvs
    have CS := A8 (fun W (hW : Below w.heap.size w W) => Cw n sv (.slice (some ⟨nb, no, none⟩) n nc) rows l d W (hE.out.below hW (Aa _)) (hR.out.1.below hW) (a3.out.below hW))
    have CT := A8 (fun W (hW : Below w.heap.size w W) => by have := Cw n tv (.slice (some ⟨nb, no, none⟩) n nc) (tRows rows p) l d W (hE.out.below hW (Aa _)) (hR.out.2.1.below hW) (a3.out.below hW); rwa [check_t p hval.out] at this)
    have CU := A8 (fun W (hW : Below w.heap.size w W) (hv : SlS W (.slice ta n tc) (turnL l n q)) => by have := Cw n uv (.slice ta n tc) (uRows rows n q) (turnL l n q) d W (hE.out.below hW (Aa _)) (hR.out.2.2.below hW) hv; rwa [check_u q hval.out hn.out.symm] at this)
    generalize checkL n rows l d = is at *
    have y0 := (hM3.out.cell _ _ _ (.tail _ (.head _)) 0).trans (show _ = some (Value.slice (some ⟨nb, no, none⟩) n nc) from rfl)
    have y1 := (hM3.out.cell _ _ _ (.tail _ (.head _)) 1).trans (show _ = some (Value.string d) from rfl)
    have y2 := hM3.out.old hb.out.1 hS.out.1
    have y3 := hM3.out.old hb.out.1 hS.out.2
    have hM4 := hM3
    go_wp2_with fail
    refine Calls.mono (CS.out _ hM4.out.below) ?_
    rintro e w1 ⟨rfl, hb1⟩
    have hb1' := A8 hb1
    replace hM4 := A8 (hM4.out.call hb1)
    clear y0 y1 y2 y3 hb1
    have y0 := (hM4.out.cell _ _ _ (.tail _ (.head _)) 0).trans (show _ = some (Value.slice (some ⟨nb, no, none⟩) n nc) from rfl)
    have y1 := (hM4.out.cell _ _ _ (.tail _ (.head _)) 1).trans (show _ = some (Value.string d) from rfl)
    have y2 := hM4.out.old hb.out.2.1 hT.out.1
    have y3 := hM4.out.old hb.out.2.1 hT.out.2
    go_wp2_with fail
    refine Calls.mono (CT.out _ hM4.out.below) ?_
    rintro e w2 ⟨rfl, hb2⟩
    replace hb1' := A8 (hb1'.out.trans (hb2.mono hb1'.out.size))
    replace hM4 := A8 (hM4.out.call hb2)
    clear y0 y1 y2 y3 hb2
    have y0 := (hM4.out.cell _ _ _ (.head _) 0).trans (show _ = some (Value.slice ta n tc) from rfl)
    have y1 := (hM4.out.cell _ _ _ (.head _) 1).trans (show _ = some (Value.string d) from rfl)
    have y2 := hM4.out.old hb.out.2.2.1 hU.out.1
    have y3 := hM4.out.old hb.out.2.2.1 hU.out.2
    cases is <;>
    ·go_wp2_with fail
     refine Calls.mono (CU.out _ hM4.out.below (hvf.out _ hb1'.out)) ?_
     rintro e w3 ⟨rfl, hb3⟩
     replace hM4 := A8 (hM4.out.call hb3)
     clear y0 y1 y2 y3 hb3
     go_wp2_with fail
     go_roundw
     case rel => exact ⟨j + 1, by go_num, by omega, A8 hM4.out.tail.tail.rtail⟩
     case measure => simp [intOf]; omega
end
end Go.Proofs.YtcmomjnailihpaaGreatDoor
