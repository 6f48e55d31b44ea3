/- Hid, Vec, OrD -/
import Derived.Test.YtcmomjnailihpaaGreatDoorXOrA
import Derived.Test.YtcmomjnailihpaaGreatDoorXSnB
set_option maxHeartbeats 8000000
set_option maxRecDepth 100000
namespace Go.Proofs.YtcmomjnailihpaaGreatDoor
section
open Go.RowKit
attribute [local go_sem] Oper.semAt_some
theorem IR {x : Int} (h : Fits x) (W : World) : Calls Tryz.prog 33 #[.int .i64 x] W (Rets W (.string (I x))) :=
 (JK x h.1 h.2 W).mono fun e w' h => by
  obtain ⟨⟨r, h1, h2⟩, hb⟩ := h
  exact ⟨by rw [h1, h2], hb⟩
theorem Kg {Q : Exit → Act → World → Prop} {us : List Value} {bN bV n : Nat} {v cv hv : Value} {xs : List Value} {d : ByteArray} {nc nr ms j : Int} {w W0 : World} {L : BLs} {R : List RowD} {c19 : Int} {c20 : Int} {c21 : ByteArray} (hn : Hid (n ≤ 1000000)) (mN : (bN, #[.int .i64 nc, .int .i64 nr, cv, hv, .int .i64 ms], 24) ∈ L) (C19 : Hid (∀ W, Mem w L R W → Calls Tryz.prog 36 #[hv, .int .i64 j] W (Rets W (.int .i64 c19)))) (C20 : Hid (∀ W, Mem w L R W → Calls Tryz.prog 35 #[.int .i64 c19, .int .i64 6] W (Rets W (.int .i64 c20)))) (C21 : Hid (∀ W, Mem w L R W → Calls Tryz.prog 33 #[.int .i64 c20] W (Rets W (.string c21)))) (h0 : Hid (Mem w ((bV, #[v, .string d], 30) :: L) (⟨9, 1, v, n, xs⟩ :: R) W0)) (hN : us.length = 26) (g1 : us[1]? = some (.pointer (some ⟨bN, 0, none⟩))) (g3 : us[3]? = some (.pointer (some ⟨bV, 0, none⟩))) (g4 : us[4]? = some (.int .i64 j)) {ops : Array Oper} (ho : getOps Tryz.f17.body 5 = some ops)
  (hQ : ∀ (x : Nat → Value) (G23 : Nat) (cap23 : Nat) (W' : World), Hid (Mem w ((bV, #[.slice (some ⟨G23, 0, none⟩) (n + 1) cap23, .string d], 30) :: L) (⟨9, 1, .slice (some ⟨G23, 0, none⟩) (n + 1) cap23, n + 1, xs ++ [.string c21]⟩ :: R) W') → Q .normal { tmps := (sets [14, 15, 16, 17, 18, 19, 20, 21, 22, 23, 24] x us).toArray, defers := [] } W') :
  (Code.region 5 ops true).wp Tryz.prog Q { tmps := us.toArray, defers := [] } W0 := by
 obtain rfl := Option.some.inj (ho.symm.trans (rfl : getOps Tryz.f17.body 5 = some _))
 clear ho
 replace hQ := A8 hQ
 have hst : ∀ G23 : Nat, ∀ cap23 : Nat, MStable ([(8, 22, (fun yv W => ∃ (g22 : Nat), yv = .slice (some ⟨g22, 0, none⟩) 1 1 ∧ Blk W g22 #[.string c21] 9), some 9)] : ML) := by
  intro G23 cap23 p hp yv W W' hb h
  simp only [List.mem_cons, List.not_mem_nil, or_false] at hp
  rcases hp with rfl
  ·obtain ⟨g, e, h⟩ := h; exact ⟨g, e, h.below hb⟩
 obtain ⟨Iv, hI⟩ : ∃ Iv : (Nat → Bool) → Act → World → Prop, ∀ l a W, Iv l a W ↔ (∃ G23 : Nat, ∃ cap23 : Nat, Fr us.toArray [14, 15, 16, 17, 18, 19, 20, 21, 22, 23, 24] a ∧ Mem w L R W ∧ Vals [some (14, .pointer (some ⟨bV, 0, none⟩)), some (15, v), some (16, .pointer (some ⟨bN, 3, none⟩)), some (17, hv), some (18, .int .i64 j), some (19, .int .i64 c19), some (20, .int .i64 c20), some (21, .string c21), none, some (23, .slice (some ⟨G23, 0, none⟩) (n + 1) cap23), some (24, .pointer (some ⟨bV, 0, none⟩)), none] l a ∧ Mems ([(8, 22, (fun yv W => ∃ (g22 : Nat), yv = .slice (some ⟨g22, 0, none⟩) 1 1 ∧ Blk W g22 #[.string c21] 9), some 9)] : ML) l a W ∧ (l 9 = false → Mem w ((bV, #[v, .string d], 30) :: L) (⟨9, 1, v, n, xs⟩ :: R) W) ∧ (l 9 = true → l 11 = false → Mem w ((bV, #[v, .string d], 30) :: L) (⟨9, 1, .slice (some ⟨G23, 0, none⟩) (n + 1) cap23, n + 1, xs ++ [.string c21]⟩ :: R) W) ∧ (l 11 = true → Mem w ((bV, #[.slice (some ⟨G23, 0, none⟩) (n + 1) cap23, .string d], 30) :: L) (⟨9, 1, .slice (some ⟨G23, 0, none⟩) (n + 1) cap23, n + 1, xs ++ [.string c21]⟩ :: R) W)) := ⟨_, fun _ _ _ => Iff.rfl⟩
 refine Ae Iv (by kernel_rfl) (by kernel_rfl) ((hI _ _ _).2 ⟨0, 0, Fr.start _ _, h0.out.tail.rtail.drew, Vals.zero, Mems.zero, fun _ => h0.out.drew, fun h => off h, fun h => off h⟩) (Ab (k := 0) ?_ (Ab (k := 1) ?_ (Ab (k := 2) ?_ (Ab (k := 3) ?_ (Ab (k := 4) ?_ (Ab (k := 5) ?_ (Ab (k := 6) ?_ (Ab (k := 7) ?_ (Ab (k := 8) ?_ (Ab (k := 9) ?_ (Ab (k := 10) ?_ (Ab (k := 11) ?_ (Al))))))))))))) ?_
 ·intro l a W hl hw hsh hI' K hK
  obtain ⟨G23, cap23, hf, hC, hF, hM, q0, q1, q2⟩ := (hI _ _ _).1 hI'
  have x3 := hf.atl 3 g3 rfl
  refine want rfl ?_
  go_simp
  exact hK.out _ _ ((hI _ _ _).2 ⟨G23, cap23, hf.put 14 _ rfl, hC, hF.put (Ac rfl) 0 rfl (hf.ltl hN rfl), hM.put 0 14 _ rfl rfl, q0, q1, q2⟩)
 ·intro l a W hl hw hsh hI' K hK
  obtain ⟨G23, cap23, hf, hC, hF, hM, q0, q1, q2⟩ := (hI _ _ _).1 hI'
  have x14 := hF.get 0 rfl (hw 0 (by kernel_rfl))
  refine want rfl ?_
  have k0 : W.cell? ⟨bV, 0, none⟩ = some (v : Value) := by
   cases e0 : l 9
   case false =>
    exact (q0 e0).cell _ _ _ List.mem_cons_self 0
   case true =>
    cases e1 : l 11
    case false =>
     exact (q1 e0 e1).cell _ _ _ List.mem_cons_self 0
    case true =>
     exact absurd (hsh 9 1 _ rfl (hsh 11 9 _ rfl (e1) (by kernel_rfl)) (by kernel_rfl)) (by simp [hl])
  go_simp
  exact hK.out _ _ ((hI _ _ _).2 ⟨G23, cap23, hf.put 15 _ rfl, hC, hF.put (Ac rfl) 1 rfl (hf.ltl hN rfl), hM.put 1 15 _ rfl rfl, q0, q1, q2⟩)
 ·intro l a W hl hw hsh hI' K hK
  obtain ⟨G23, cap23, hf, hC, hF, hM, q0, q1, q2⟩ := (hI _ _ _).1 hI'
  have x1 := hf.atl 1 g1 rfl
  refine want rfl ?_
  go_simp
  exact hK.out _ _ ((hI _ _ _).2 ⟨G23, cap23, hf.put 16 _ rfl, hC, hF.put (Ac rfl) 2 rfl (hf.ltl hN rfl), hM.put 2 16 _ rfl rfl, q0, q1, q2⟩)
 ·intro l a W hl hw hsh hI' K hK
  obtain ⟨G23, cap23, hf, hC, hF, hM, q0, q1, q2⟩ := (hI _ _ _).1 hI'
  have x16 := hF.get 2 rfl (hw 2 (by kernel_rfl))
  refine want rfl ?_
  have k0 := (hC.cell _ _ _ mN 3).trans (show _ = some (hv : Value) from rfl)
  go_simp
  exact hK.out _ _ ((hI _ _ _).2 ⟨G23, cap23, hf.put 17 _ rfl, hC, hF.put (Ac rfl) 3 rfl (hf.ltl hN rfl), hM.put 3 17 _ rfl rfl, q0, q1, q2⟩)
 ·intro l a W hl hw hsh hI' K hK
  obtain ⟨G23, cap23, hf, hC, hF, hM, q0, q1, q2⟩ := (hI _ _ _).1 hI'
  have x4 := hf.atl 4 g4 rfl
  refine want rfl ?_
  go_simp
  exact hK.out _ _ ((hI _ _ _).2 ⟨G23, cap23, hf.put 18 _ rfl, hC, hF.put (Ac rfl) 4 rfl (hf.ltl hN rfl), hM.put 4 18 _ rfl rfl, q0, q1, q2⟩)
 ·intro l a W hl hw hsh hI' K hK
  obtain ⟨G23, cap23, hf, hC, hF, hM, q0, q1, q2⟩ := (hI _ _ _).1 hI'
  have x17 := hF.get 3 rfl (hw 3 (by kernel_rfl))
  have x18 := hF.get 4 rfl (hw 4 (by kernel_rfl))
  refine want rfl ?_
  go_simp
  refine Calls.mono (C19.out W hC) ?_
  rintro e W2 ⟨rfl, hb⟩
  exact hK.out _ _ ((hI _ _ _).2 ⟨G23, cap23, hf.put 19 _ rfl, hC.call hb, hF.put (Ac rfl) 5 rfl (hf.ltl hN rfl), (hM.put 5 19 _ rfl rfl).world (hst G23 cap23) hb, fun h2 => (q0 h2 ).call hb, fun h1 h2 => (q1 h1 h2 ).call hb, fun h1 => (q2 h1 ).call hb⟩)
 ·intro l a W hl hw hsh hI' K hK
  obtain ⟨G23, cap23, hf, hC, hF, hM, q0, q1, q2⟩ := (hI _ _ _).1 hI'
  have x19 := hF.get 5 rfl (hw 5 (by kernel_rfl))
  refine want rfl ?_
  go_simp
  refine Calls.mono (C20.out W hC) ?_
  rintro e W2 ⟨rfl, hb⟩
  exact hK.out _ _ ((hI _ _ _).2 ⟨G23, cap23, hf.put 20 _ rfl, hC.call hb, hF.put (Ac rfl) 6 rfl (hf.ltl hN rfl), (hM.put 6 20 _ rfl rfl).world (hst G23 cap23) hb, fun h2 => (q0 h2 ).call hb, fun h1 h2 => (q1 h1 h2 ).call hb, fun h1 => (q2 h1 ).call hb⟩)
 ·intro l a W hl hw hsh hI' K hK
  obtain ⟨G23, cap23, hf, hC, hF, hM, q0, q1, q2⟩ := (hI _ _ _).1 hI'
  have x20 := hF.get 6 rfl (hw 6 (by kernel_rfl))
  refine want rfl ?_
  go_simp
  refine Calls.mono (C21.out W hC) ?_
  rintro e W2 ⟨rfl, hb⟩
  exact hK.out _ _ ((hI _ _ _).2 ⟨G23, cap23, hf.put 21 _ rfl, hC.call hb, hF.put (Ac rfl) 7 rfl (hf.ltl hN rfl), (hM.put 7 21 _ rfl rfl).world (hst G23 cap23) hb, fun h2 => (q0 h2 ).call hb, fun h1 h2 => (q1 h1 h2 ).call hb, fun h1 => (q2 h1 ).call hb⟩)
 ·intro l a W hl hw hsh hI' K hK
  obtain ⟨G23, cap23, hf, hC, hF, hM, q0, q1, q2⟩ := (hI _ _ _).1 hI'
  have x21 := hF.get 7 rfl (hw 7 (by kernel_rfl))
  refine want rfl ?_
  go_simp
  exact hK.out _ _ ((hI _ _ _).2 ⟨G23, cap23, hf.put 22 _ rfl, hC.new _, hF.other 8 22 _ rfl rfl, (hM.world (hst G23 cap23) ((Below.refl _ _).alloc (Aa _) _)).add 0 8 rfl (Ac rfl) (Ac rfl) (hf.ltl hN rfl) ⟨_, rfl, Blk.new _ _ _⟩, fun h2 => (q0 h2 ).new _, fun h1 h2 => (q1 h1 h2 ).new _, fun h1 => (q2 h1 ).new _⟩)
 ·intro l a W hl hw hsh hI' K hK
  obtain ⟨G23, cap23, hf, hC, hF, hM, q0, q1, q2⟩ := (hI _ _ _).1 hI'
  have x15 := hF.get 1 rfl (hw 1 (by kernel_rfl))
  obtain ⟨_, x22, g22, rfl, hb8⟩ := hM.get 0 rfl (hw 8 (by kernel_rfl)) (DC hl)
  have hM0 := q0 hl
  refine want rfl ?_
  refine DY rfl hM0 (by go_simp) (by go_simp) (hb8.cell 0) hn.out ?_
  intro G23' cap23' W2 hM2
  refine hK.out _ _ ((hI _ _ _).2 ⟨G23', cap23', hf.put 23 _ rfl, hM2.tail.rtail, Vals.put (hF.change (fun j => by
    match j with
    | 0 => exact .inl rfl
    | 1 => exact .inl rfl
    | 2 => exact .inl rfl
    | 3 => exact .inl rfl
    | 4 => exact .inl rfl
    | 5 => exact .inl rfl
    | 6 => exact .inl rfl
    | 7 => exact .inl rfl
    | 8 => exact .inl rfl
    | 9 => exact .inr hl
    | 10 => exact .inl rfl
    | 11 => exact .inl rfl
    | _ + 12 => exact .inl rfl)) (Ac rfl) 9 rfl (hf.ltl hN rfl), Mems.free (List.forall_mem_cons.2 ⟨.inr (Cz _ _), fun _ h => by cases h⟩), fun h => off h.symm, fun _ _ => hM2, fun h => absurd (hsh 11 9 _ rfl (h) (by kernel_rfl)) (by simp [hl])⟩)
 ·intro l a W hl hw hsh hI' K hK
  obtain ⟨G23, cap23, hf, hC, hF, hM, q0, q1, q2⟩ := (hI _ _ _).1 hI'
  have x3 := hf.atl 3 g3 rfl
  refine want rfl ?_
  go_simp
  exact hK.out _ _ ((hI _ _ _).2 ⟨G23, cap23, hf.put 24 _ rfl, hC, hF.put (Ac rfl) 10 rfl (hf.ltl hN rfl), hM.put 10 24 _ rfl rfl, q0, q1, q2⟩)
 ·intro l a W hl hw hsh hI' K hK
  obtain ⟨G23, cap23, hf, hC, hF, hM, q0, q1, q2⟩ := (hI _ _ _).1 hI'
  have x23 := hF.get 9 rfl (hw 9 (by kernel_rfl))
  have x24 := hF.get 10 rfl (hw 10 (by kernel_rfl))
  have hM0 := q1 (hw 9 (by kernel_rfl)) hl
  refine want rfl ?_
  have y0 := hM0.cell _ _ _ List.mem_cons_self 0
  have w0 := hM0.frozen _ _ _ List.mem_cons_self 0
  go_simp
  exact hK.out _ _ ((hI _ _ _).2 ⟨G23, cap23, hf, (hM0.put0 0 _).tail.rtail, hF.skip 11 rfl, Mems.free (List.forall_mem_cons.2 ⟨.inr (CX (hw 9 (by kernel_rfl))), fun _ h => by cases h⟩), fun h => absurd (hw 9 (by kernel_rfl)) (by simp [show l 9 = false from h]), fun _ h => off h.symm, fun _ => (hM0.put0 0 _)⟩)
 ·intro a W hI'
  obtain ⟨G23, cap23, hf, hC, hF, hM, q0, q1, q2⟩ := (hI _ _ _).1 hI'
  have hM9 := q2 (by kernel_rfl)
  have he := hf.eqs
  rw [he]
  exact hQ.out _ G23 cap23  _  (A8 hM9)
theorem Kh {Q : Exit → Act → World → Prop} {us : List Value} {bV n : Nat} {v hv : Value} {xs : List Value} {d : ByteArray} {j : Int} {w W0 : World} {L : BLs} {R : List RowD} {c23 : Int} {c24 : Int} {c25 : ByteArray} (hn : Hid (n ≤ 1000000))  (C23 : Hid (∀ W, Mem w L R W → Calls Tryz.prog 36 #[hv, .int .i64 j] W (Rets W (.int .i64 c23)))) (C24 : Hid (∀ W, Mem w L R W → Calls Tryz.prog 35 #[.int .i64 c23, .int .i64 50] W (Rets W (.int .i64 c24)))) (C25 : Hid (∀ W, Mem w L R W → Calls Tryz.prog 33 #[.int .i64 c24] W (Rets W (.string c25)))) (h0 : Hid (Mem w ((bV, #[v, .string d], 30) :: L) (⟨9, 1, v, n, xs⟩ :: R) W0)) (hN : us.length = 30) (g1 : us[1]? = some (hv)) (g7 : us[7]? = some (.pointer (some ⟨bV, 0, none⟩))) (g8 : us[8]? = some (.int .i64 j)) {ops : Array Oper} (ho : getOps Tryz.f18.body 5 = some ops)
  (hQ : ∀ (x : Nat → Value) (G27 : Nat) (cap27 : Nat) (W' : World), Hid (Mem w ((bV, #[.slice (some ⟨G27, 0, none⟩) (n + 1) cap27, .string d], 30) :: L) (⟨9, 1, .slice (some ⟨G27, 0, none⟩) (n + 1) cap27, n + 1, xs ++ [.string c25]⟩ :: R) W') → Q .normal { tmps := (sets [19, 20, 21, 22, 23, 24, 25, 26, 27, 28] x us).toArray, defers := [] } W') :
  (Code.region 5 ops true).wp Tryz.prog Q { tmps := us.toArray, defers := [] } W0 := by
 obtain rfl := Option.some.inj (ho.symm.trans (rfl : getOps Tryz.f18.body 5 = some _))
 clear ho
 replace hQ := A8 hQ
 have hst : ∀ G27 : Nat, ∀ cap27 : Nat, MStable ([(7, 26, (fun yv W => ∃ (g26 : Nat), yv = .slice (some ⟨g26, 0, none⟩) 1 1 ∧ Blk W g26 #[.string c25] 9), some 8)] : ML) := by
  intro G27 cap27 p hp yv W W' hb h
  simp only [List.mem_cons, List.not_mem_nil, or_false] at hp
  rcases hp with rfl
  ·obtain ⟨g, e, h⟩ := h; exact ⟨g, e, h.below hb⟩
 obtain ⟨Iv, hI⟩ : ∃ Iv : (Nat → Bool) → Act → World → Prop, ∀ l a W, Iv l a W ↔ (∃ G27 : Nat, ∃ cap27 : Nat, Fr us.toArray [19, 20, 21, 22, 23, 24, 25, 26, 27, 28] a ∧ Mem w L R W ∧ Vals [some (19, .pointer (some ⟨bV, 0, none⟩)), some (20, v), some (21, hv), some (22, .int .i64 j), some (23, .int .i64 c23), some (24, .int .i64 c24), some (25, .string c25), none, some (27, .slice (some ⟨G27, 0, none⟩) (n + 1) cap27), some (28, .pointer (some ⟨bV, 0, none⟩)), none] l a ∧ Mems ([(7, 26, (fun yv W => ∃ (g26 : Nat), yv = .slice (some ⟨g26, 0, none⟩) 1 1 ∧ Blk W g26 #[.string c25] 9), some 8)] : ML) l a W ∧ (l 8 = false → Mem w ((bV, #[v, .string d], 30) :: L) (⟨9, 1, v, n, xs⟩ :: R) W) ∧ (l 8 = true → l 10 = false → Mem w ((bV, #[v, .string d], 30) :: L) (⟨9, 1, .slice (some ⟨G27, 0, none⟩) (n + 1) cap27, n + 1, xs ++ [.string c25]⟩ :: R) W) ∧ (l 10 = true → Mem w ((bV, #[.slice (some ⟨G27, 0, none⟩) (n + 1) cap27, .string d], 30) :: L) (⟨9, 1, .slice (some ⟨G27, 0, none⟩) (n + 1) cap27, n + 1, xs ++ [.string c25]⟩ :: R) W)) := ⟨_, fun _ _ _ => Iff.rfl⟩
 refine Ae Iv (by kernel_rfl) (by kernel_rfl) ((hI _ _ _).2 ⟨0, 0, Fr.start _ _, h0.out.tail.rtail.drew, Vals.zero, Mems.zero, fun _ => h0.out.drew, fun h => off h, fun h => off h⟩) (Ab (k := 0) ?_ (Ab (k := 1) ?_ (Ab (k := 2) ?_ (Ab (k := 3) ?_ (Ab (k := 4) ?_ (Ab (k := 5) ?_ (Ab (k := 6) ?_ (Ab (k := 7) ?_ (Ab (k := 8) ?_ (Ab (k := 9) ?_ (Ab (k := 10) ?_ (Al)))))))))))) ?_
 ·intro l a W hl hw hsh hI' K hK
  obtain ⟨G27, cap27, hf, hC, hF, hM, q0, q1, q2⟩ := (hI _ _ _).1 hI'
  have x7 := hf.atl 7 g7 rfl
  refine want rfl ?_
  go_simp
  exact hK.out _ _ ((hI _ _ _).2 ⟨G27, cap27, hf.put 19 _ rfl, hC, hF.put (Ac rfl) 0 rfl (hf.ltl hN rfl), hM.put 0 19 _ rfl rfl, q0, q1, q2⟩)
 ·intro l a W hl hw hsh hI' K hK
  obtain ⟨G27, cap27, hf, hC, hF, hM, q0, q1, q2⟩ := (hI _ _ _).1 hI'
  have x19 := hF.get 0 rfl (hw 0 (by kernel_rfl))
  refine want rfl ?_
  have k0 : W.cell? ⟨bV, 0, none⟩ = some (v : Value) := by
   cases e0 : l 8
   case false =>
    exact (q0 e0).cell _ _ _ List.mem_cons_self 0
   case true =>
    cases e1 : l 10
    case false =>
     exact (q1 e0 e1).cell _ _ _ List.mem_cons_self 0
    case true =>
     exact absurd (hsh 8 1 _ rfl (hsh 10 8 _ rfl (e1) (by kernel_rfl)) (by kernel_rfl)) (by simp [hl])
  go_simp
  exact hK.out _ _ ((hI _ _ _).2 ⟨G27, cap27, hf.put 20 _ rfl, hC, hF.put (Ac rfl) 1 rfl (hf.ltl hN rfl), hM.put 1 20 _ rfl rfl, q0, q1, q2⟩)
 ·intro l a W hl hw hsh hI' K hK
  obtain ⟨G27, cap27, hf, hC, hF, hM, q0, q1, q2⟩ := (hI _ _ _).1 hI'
  have x1 := hf.atl 1 g1 rfl
  refine want rfl ?_
  go_simp
  exact hK.out _ _ ((hI _ _ _).2 ⟨G27, cap27, hf.put 21 _ rfl, hC, hF.put (Ac rfl) 2 rfl (hf.ltl hN rfl), hM.put 2 21 _ rfl rfl, q0, q1, q2⟩)
 ·intro l a W hl hw hsh hI' K hK
  obtain ⟨G27, cap27, hf, hC, hF, hM, q0, q1, q2⟩ := (hI _ _ _).1 hI'
  have x8 := hf.atl 8 g8 rfl
  refine want rfl ?_
  go_simp
  exact hK.out _ _ ((hI _ _ _).2 ⟨G27, cap27, hf.put 22 _ rfl, hC, hF.put (Ac rfl) 3 rfl (hf.ltl hN rfl), hM.put 3 22 _ rfl rfl, q0, q1, q2⟩)
 ·intro l a W hl hw hsh hI' K hK
  obtain ⟨G27, cap27, hf, hC, hF, hM, q0, q1, q2⟩ := (hI _ _ _).1 hI'
  have x21 := hF.get 2 rfl (hw 2 (by kernel_rfl))
  have x22 := hF.get 3 rfl (hw 3 (by kernel_rfl))
  refine want rfl ?_
  go_simp
  refine Calls.mono (C23.out W hC) ?_
  rintro e W2 ⟨rfl, hb⟩
  exact hK.out _ _ ((hI _ _ _).2 ⟨G27, cap27, hf.put 23 _ rfl, hC.call hb, hF.put (Ac rfl) 4 rfl (hf.ltl hN rfl), (hM.put 4 23 _ rfl rfl).world (hst G27 cap27) hb, fun h2 => (q0 h2 ).call hb, fun h1 h2 => (q1 h1 h2 ).call hb, fun h1 => (q2 h1 ).call hb⟩)
 ·intro l a W hl hw hsh hI' K hK
  obtain ⟨G27, cap27, hf, hC, hF, hM, q0, q1, q2⟩ := (hI _ _ _).1 hI'
  have x23 := hF.get 4 rfl (hw 4 (by kernel_rfl))
  refine want rfl ?_
  go_simp
  refine Calls.mono (C24.out W hC) ?_
  rintro e W2 ⟨rfl, hb⟩
  exact hK.out _ _ ((hI _ _ _).2 ⟨G27, cap27, hf.put 24 _ rfl, hC.call hb, hF.put (Ac rfl) 5 rfl (hf.ltl hN rfl), (hM.put 5 24 _ rfl rfl).world (hst G27 cap27) hb, fun h2 => (q0 h2 ).call hb, fun h1 h2 => (q1 h1 h2 ).call hb, fun h1 => (q2 h1 ).call hb⟩)
 ·intro l a W hl hw hsh hI' K hK
  obtain ⟨G27, cap27, hf, hC, hF, hM, q0, q1, q2⟩ := (hI _ _ _).1 hI'
  have x24 := hF.get 5 rfl (hw 5 (by kernel_rfl))
  refine want rfl ?_
  go_simp
  refine Calls.mono (C25.out W hC) ?_
  rintro e W2 ⟨rfl, hb⟩
  exact hK.out _ _ ((hI _ _ _).2 ⟨G27, cap27, hf.put 25 _ rfl, hC.call hb, hF.put (Ac rfl) 6 rfl (hf.ltl hN rfl), (hM.put 6 25 _ rfl rfl).world (hst G27 cap27) hb, fun h2 => (q0 h2 ).call hb, fun h1 h2 => (q1 h1 h2 ).call hb, fun h1 => (q2 h1 ).call hb⟩)
 ·intro l a W hl hw hsh hI' K hK
  obtain ⟨G27, cap27, hf, hC, hF, hM, q0, q1, q2⟩ := (hI _ _ _).1 hI'
  have x25 := hF.get 6 rfl (hw 6 (by kernel_rfl))
  refine want rfl ?_
  go_simp
  exact hK.out _ _ ((hI _ _ _).2 ⟨G27, cap27, hf.put 26 _ rfl, hC.new _, hF.other 7 26 _ rfl rfl, (hM.world (hst G27 cap27) ((Below.refl _ _).alloc (Aa _) _)).add 0 7 rfl (Ac rfl) (Ac rfl) (hf.ltl hN rfl) ⟨_, rfl, Blk.new _ _ _⟩, fun h2 => (q0 h2 ).new _, fun h1 h2 => (q1 h1 h2 ).new _, fun h1 => (q2 h1 ).new _⟩)
 ·intro l a W hl hw hsh hI' K hK
  obtain ⟨G27, cap27, hf, hC, hF, hM, q0, q1, q2⟩ := (hI _ _ _).1 hI'
  have x20 := hF.get 1 rfl (hw 1 (by kernel_rfl))
  obtain ⟨_, x26, g26, rfl, hb7⟩ := hM.get 0 rfl (hw 7 (by kernel_rfl)) (DC hl)
  have hM0 := q0 hl
  refine want rfl ?_
  refine DY rfl hM0 (by go_simp) (by go_simp) (hb7.cell 0) hn.out ?_
  intro G27' cap27' W2 hM2
  refine hK.out _ _ ((hI _ _ _).2 ⟨G27', cap27', hf.put 27 _ rfl, hM2.tail.rtail, Vals.put (hF.change (fun j => by
    match j with
    | 0 => exact .inl rfl
    | 1 => exact .inl rfl
    | 2 => exact .inl rfl
    | 3 => exact .inl rfl
    | 4 => exact .inl rfl
    | 5 => exact .inl rfl
    | 6 => exact .inl rfl
    | 7 => exact .inl rfl
    | 8 => exact .inr hl
    | 9 => exact .inl rfl
    | 10 => exact .inl rfl
    | _ + 11 => exact .inl rfl)) (Ac rfl) 8 rfl (hf.ltl hN rfl), Mems.free (List.forall_mem_cons.2 ⟨.inr (Cz _ _), fun _ h => by cases h⟩), fun h => off h.symm, fun _ _ => hM2, fun h => absurd (hsh 10 8 _ rfl (h) (by kernel_rfl)) (by simp [hl])⟩)
 ·intro l a W hl hw hsh hI' K hK
  obtain ⟨G27, cap27, hf, hC, hF, hM, q0, q1, q2⟩ := (hI _ _ _).1 hI'
  have x7 := hf.atl 7 g7 rfl
  refine want rfl ?_
  go_simp
  exact hK.out _ _ ((hI _ _ _).2 ⟨G27, cap27, hf.put 28 _ rfl, hC, hF.put (Ac rfl) 9 rfl (hf.ltl hN rfl), hM.put 9 28 _ rfl rfl, q0, q1, q2⟩)
 ·intro l a W hl hw hsh hI' K hK
  obtain ⟨G27, cap27, hf, hC, hF, hM, q0, q1, q2⟩ := (hI _ _ _).1 hI'
  have x27 := hF.get 8 rfl (hw 8 (by kernel_rfl))
  have x28 := hF.get 9 rfl (hw 9 (by kernel_rfl))
  have hM0 := q1 (hw 8 (by kernel_rfl)) hl
  refine want rfl ?_
  have y0 := hM0.cell _ _ _ List.mem_cons_self 0
  have w0 := hM0.frozen _ _ _ List.mem_cons_self 0
  go_simp
  exact hK.out _ _ ((hI _ _ _).2 ⟨G27, cap27, hf, (hM0.put0 0 _).tail.rtail, hF.skip 10 rfl, Mems.free (List.forall_mem_cons.2 ⟨.inr (CX (hw 8 (by kernel_rfl))), fun _ h => by cases h⟩), fun h => absurd (hw 8 (by kernel_rfl)) (by simp [show l 8 = false from h]), fun _ h => off h.symm, fun _ => (hM0.put0 0 _)⟩)
 ·intro a W hI'
  obtain ⟨G27, cap27, hf, hC, hF, hM, q0, q1, q2⟩ := (hI _ _ _).1 hI'
  have hM9 := q2 (by kernel_rfl)
  have he := hf.eqs
  rw [he]
  exact hQ.out _ G27 cap27  _  (A8 hM9)
theorem IS (x : NumL) (vc vh : Value) (w : World) (hc : Sl w vc x.coefs) (hh : Sl w vh x.hidden) (hF : Fits x.cols) (hf : ∀ k, Fits (atv x.hidden k)) :
  Calls Tryz.prog 17 #[.agg #[.int .i64 x.cols, .int .i64 x.rows, vc, vh, .int .i64 x.miss]] w fun e w' => ∃ v, e = .returned (.agg #[v, .string ⟨#[49]⟩]) ∧ SlS w' v x.hidN ∧ Below w.heap.size w w' := by
 obtain ⟨ac, cc, rfl⟩ := hc.shape
 obtain ⟨ah, ch, rfl⟩ := hh.shape
 have HH := A8 hh
 have AH := A8 (fun W (hW : Below w.heap.size w W) (k : Nat) => Ej (.slice ah x.hidden.length ch) x.hidden k W (HH.out.below hW))
 have PH := A8 (fun W (k : Nat) => by have := AB (atv x.hidden k) 6 (hf k) (by decide) (by decide) W; exact (this : Calls Tryz.prog 35 #[.int .i64 (atv x.hidden k), .int .i64 6] W (Rets W (.int .i64 (x.hid k)))))
 have FH := A8 (fun W (k : Nat) => IR (x := x.hid k) (by have := x.hid_bd k; unfold Fits; omega) W)
 have P1 := A8 (fun W => AB x.cols 8 hF (by decide) (by decide) W)
 have hcq := x.c_eq
 obtain ⟨c, hc0⟩ : ∃ c, c = x.c := ⟨_, rfl⟩
 rw [← hc0] at hcq
 have hw1 : IntKind.i64.wrap (1 + pkv x.cols 8) = (c : Int) := by rw [← hcq.1]; exact IntWalk.i64_in _ (by omega)
 have hc8 : c ≤ 8 := hcq.2.2
 have hend : Hid (∀ W v, Mem w [(w.heap.size + 1 + 1, #[v, .string ⟨#[49]⟩], 30), (w.heap.size + 1, #[.slice none 0 0, .string ⟨#[]⟩], 30), (w.heap.size, #[.int .i64 x.cols, .int .i64 x.rows, .slice ac x.coefs.length cc, .slice ah x.hidden.length ch, .int .i64 x.miss], 24)] [⟨9, 1, v, c, ((List.range c).map fun k => Value.string (I (x.hid k)))⟩] W → ∀ W', W' = (W.setCell ⟨w.heap.size + 1, 0, none⟩ v).setCell ⟨w.heap.size + 1, 1, none⟩ (.string ⟨#[49]⟩) → SlS W' v x.hidN ∧ Below w.heap.size w W') := A8 (fun W v h W' e => by
  have h1 := (Mem.out2 (h.perm (List.Perm.swap _ _ _)) v (.string ⟨#[49]⟩))
  rw [← e] at h1
  refine ⟨SlS.of_own (n := c) (l := x.hidN) (e := 9) (base := w.heap.size) ?_, h1.below⟩
  have h2 := h1.own0
  unfold NumL.hidN
  rw [List.map_map, ← hc0]
  exact h2)
 replace hc0 := A8 hc0
 generalize pkv x.cols 8 = p1 at *
 clear hc hh hF hcq
 generalize x.coefs.length = nc at *
 generalize x.hidden.length = nh at *
 obtain ⟨V1, e1, S1, s1⟩ := (Mem.start w).add' #[.int .i64 x.cols, .int .i64 x.rows, .slice ac nc cc, .slice ah nh ch, .int .i64 x.miss] 24
 obtain ⟨V2, e2, S2, s2⟩ := S1.add' #[.slice none 0 0, .string ⟨#[]⟩] 30
 obtain ⟨V3, e3, S3, s3⟩ := S2.add' #[.slice none 0 0, .string ⟨#[49]⟩] 30
 rw [s2, s1] at S3
 rw [e2, e1] at e3
 have hM := A8 (S3.row0 9 1)
 clear e1 e2 S1 s1 S2 s2 S3 s3 HH
 go_enter Tryz.func17, Tryz.ntmps17
 go_upto_region 2 with fail
 rw [← e3]
 clear e3
 go_wp2_with fail
 go_loopw [4] (fun s wr => ∃ (j : Nat) (v : Value), s = .int .i64 j ∧ j ≤ c ∧ Hid (Mem w [(w.heap.size + 1 + 1, #[v, .string ⟨#[49]⟩], 30), (w.heap.size + 1, #[.slice none 0 0, .string ⟨#[]⟩], 30), (w.heap.size, #[.int .i64 x.cols, .int .i64 x.rows, .slice ac nc cc, .slice ah nh ch, .int .i64 x.miss], 24)] [⟨9, 1, v, j, ((List.range j).map fun k => Value.string (I (x.hid k)))⟩] wr)) (fun s _ => c - (intOf s).toNat)
 case atStart => exact ⟨0, .slice none 0 0, rfl, by omega, hM⟩
 case round =>
  clear hM
  obtain ⟨j, v, rfl, hj, hM⟩ := hrel
  have z0 := hM.out.cell w.heap.size _ _ (.tail _ (.tail _ (.head _))) 0
  go_wp2_with fail
  refine Calls.mono (P1.out _) ?_
  rintro e w1 ⟨rfl, hb⟩
  replace hM := A8 (hM.out.call hb)
  clear z0 hb
  by_cases hjc : j < c
  case neg =>
   have hjc' : ¬ (j : Int) < c := by omega
   obtain rfl : j = c := by omega
   have hfin := A8 (hend.out _ _ hM.out _ rfl)
   have z0 := (hM.out.cell _ _ _ (.head _) 0).trans (show _ = some v from rfl)
   have z1 := (hM.out.cell _ _ _ (.head _) 1).trans (show _ = some (Value.string ⟨#[49]⟩) from rfl)
   obtain ⟨k0, k1, f0, f1, y0, y1⟩ := Gd (hM.out.blks _ (.tail _ (.head _))) v (.string ⟨#[49]⟩)
   obtain ⟨a, cp, hsv⟩ := hfin.out.1.shape
   generalize x.hidN.length = nm at *
   subst hsv
   clear hM hend
   go_wp2
   exact bodyPost_ret (v := .agg #[.slice a nm cp, .string ⟨#[49]⟩]) (by simp [results, Tryz.results17, go_sem, y0, y1]) rfl ⟨_, rfl, hfin.out.1, hfin.out.2⟩
  case pos =>
   have hjc' : (j : Int) < c := by omega
   go_upto_region 5 with fail
   refine Kg (bN := w.heap.size) (bV := w.heap.size + 1 + 1) (n := j) (j := j) (w := w) (L := [(w.heap.size + 1, #[.slice none 0 0, .string ⟨#[]⟩], 30), (w.heap.size, #[.int .i64 x.cols, .int .i64 x.rows, .slice ac nc cc, .slice ah nh ch, .int .i64 x.miss], 24)]) (R := []) (A8 (by omega)) (.tail _ (.head _)) (A8 fun W hW => AH.out W hW.below j) (A8 fun W hW => PH.out W j) (A8 fun W hW => FH.out W j) hM rfl rfl rfl rfl (by kernel_rfl) ?_
   intro xx G cap W5 hM5
   simp only [sets, List.foldl_cons, List.foldl_nil, A5, A6]
   clear hM
   have hxs : ((List.range (j + 1)).map fun k => Value.string (I (x.hid k))) = ((List.range j).map fun k => Value.string (I (x.hid k))) ++ [.string (I (x.hid j))] := by rw [List.range_succ, List.map_append]; rfl
   rw [← hxs] at hM5
   clear hxs
   go_wp2_with fail
   go_roundw
   case rel => exact ⟨j + 1, _, by go_num, by omega, hM5⟩
   case measure => simp [intOf]; omega
theorem Ki {l : List Int} (h : ∀ z ∈ l, Fits z) (k : Nat) : Fits (atv l k) := by
 unfold atv
 by_cases hk : k % l.length < l.length
 ·rw [BO hk]; exact h _ (List.getElem_mem hk)
 ·rw [Cl (by omega)]; unfold Fits; decide
def vecN (l : List Int) (k : Nat) : Int := pkv (atv l k) 50
def vecL (n : Nat) (l : List Int) : List ByteArray := (List.range n).map fun k => I (vecN l k)
theorem vecN_bd (l : List Int) (k : Nat) : 0 ≤ vecN l k ∧ vecN l k ≤ 49 := by
 have h1 := AG (c := atv l k) (m := 50) (by decide)
 have h2 := Ck (c := atv l k) (m := 50) (by decide)
 unfold vecN; omega
theorem IT (n : Nat) (l : List Int) (den : Int) (lv : Value) (w : World) (hn : n ≤ 1000000) (hl : Sl w lv l) (hf : ∀ z ∈ l, Fits z) (hd : Fits den) :
  Calls Tryz.prog 18 #[.int .i64 n, lv, .int .i64 den] w fun e w' => ∃ v, e = .returned (.agg #[v, .string (I (1 + pkv den 9))]) ∧ SlS w' v (vecL n l) ∧ Below w.heap.size w w' := by
 have HL := A8 hl
 have AH := A8 (fun W (hW : Below w.heap.size w W) (k : Nat) => Ej lv l k W (HL.out.below hW))
 have PH := A8 (fun W (k : Nat) => by have := AB (atv l k) 50 (Ki hf k) (by decide) (by decide) W; exact (this : Calls Tryz.prog 35 #[.int .i64 (atv l k), .int .i64 50] W (Rets W (.int .i64 (vecN l k)))))
 have FH := A8 (fun W (k : Nat) => IR (x := vecN l k) (by have := vecN_bd l k; unfold Fits; omega) W)
 have P1 := A8 (fun W => AB den 9 hd (by decide) (by decide) W)
 have hp0 := AG (c := den) (m := 9) (by decide)
 have hp1 := Ck (c := den) (m := 9) (by decide)
 have F1 := A8 (fun W => IR (x := 1 + pkv den 9) (by unfold Fits; omega) W)
 have hw1 : IntKind.i64.wrap (1 + pkv den 9) = 1 + pkv den 9 := IntWalk.i64_in _ (by omega)
 obtain ⟨D, hD⟩ : ∃ D, D = I (1 + pkv den 9) := ⟨_, rfl⟩
 rw [← hD] at F1 ⊢
 replace hD := A8 hD
 have hend : Hid (∀ B W v, Mem w [(B, #[v, .string D], 30), (w.heap.size, #[.slice none 0 0, .string ⟨#[]⟩], 30)] [⟨9, 1, v, n, ((List.range n).map fun k => Value.string (I (vecN l k)))⟩] W → ∀ W', W' = (W.setCell ⟨w.heap.size, 0, none⟩ v).setCell ⟨w.heap.size, 1, none⟩ (.string D) → SlS W' v (vecL n l) ∧ Below w.heap.size w W') := A8 (fun B W v h W' e => by
  have h1 := (Mem.out2 (h.perm (List.Perm.swap _ _ _)) v (.string D))
  rw [← e] at h1
  refine ⟨SlS.of_own (n := n) (l := vecL n l) (e := 9) (base := w.heap.size) ?_, h1.below⟩
  have h2 := h1.own0
  unfold vecL
  rw [List.map_map]
  exact h2)
 generalize pkv den 9 = p1 at *
 clear hl hp0 hp1 hd
 obtain ⟨V1, e1, S1, s1⟩ := (Mem.start w).add' #[.slice none 0 0, .string ⟨#[]⟩] 30
 have hM := A8 S1
 clear S1 s1 HL
 go_enter Tryz.func18, Tryz.ntmps18
 go_upto_region 1 with fail
 rw [← e1]
 clear e1
 go_wp2_with fail
 refine Calls.mono (P1.out _) ?_
 rintro e w1 ⟨rfl, hb⟩
 replace hM := A8 (hM.out.call hb)
 clear hb
 go_wp2_with fail
 refine Calls.mono (F1.out _) ?_
 rintro e w2 ⟨rfl, hb⟩
 replace hM := A8 (hM.out.call hb)
 clear hb hw1
 obtain ⟨V3, e3, S3, s3⟩ := hM.out.add' #[.slice none 0 0, .string D] 30
 obtain ⟨B, hB⟩ : ∃ B, B = w2.heap.size := ⟨_, rfl⟩
 rw [← hB] at S3
 replace hM := A8 (S3.row0 9 1)
 clear S3 s3
 go_upto_region 2 with fail
 rw [← e3, ← hB]
 clear e3 hB
 go_wp2_with fail
 go_loopw [8] (fun s wr => ∃ (j : Nat) (v : Value), s = .int .i64 j ∧ j ≤ n ∧ Hid (Mem w [(B, #[v, .string D], 30), (w.heap.size, #[.slice none 0 0, .string ⟨#[]⟩], 30)] [⟨9, 1, v, j, ((List.range j).map fun k => Value.string (I (vecN l k)))⟩] wr)) (fun s _ => n - (intOf s).toNat)
 case atStart => exact ⟨0, .slice none 0 0, rfl, by omega, hM⟩
 case round =>
  clear hM
  obtain ⟨j, v, rfl, hj, hM⟩ := hrel
  by_cases hjc : j < n
  case neg =>
   have hjc' : ¬ (j : Int) < n := by omega
   obtain rfl : j = n := by omega
   have hfin := A8 (hend.out _ _ _ hM.out _ rfl)
   have z0 := (hM.out.cell _ _ _ (.head _) 0).trans (show _ = some v from rfl)
   have z1 := (hM.out.cell _ _ _ (.head _) 1).trans (show _ = some (Value.string D) from rfl)
   obtain ⟨k0, k1, f0, f1, y0, y1⟩ := Gd (hM.out.blks _ (.tail _ (.head _))) v (.string D)
   obtain ⟨a, cp, hsv⟩ := hfin.out.1.shape
   generalize (vecL j l).length = nm at *
   subst hsv
   clear hM hend
   go_wp2
   exact bodyPost_ret (v := .agg #[.slice a nm cp, .string D]) (by simp [results, Tryz.results18, go_sem, y0, y1]) rfl ⟨_, rfl, hfin.out.1, hfin.out.2⟩
  case pos =>
   have hjc' : (j : Int) < n := by omega
   go_upto_region 5 with fail
   refine Kh (bV := B) (n := j) (j := j) (w := w) (L := [(w.heap.size, #[.slice none 0 0, .string ⟨#[]⟩], 30)]) (R := []) (A8 (by omega)) (A8 fun W hW => AH.out W hW.below j) (A8 fun W hW => PH.out W j) (A8 fun W hW => FH.out W j) hM rfl rfl rfl rfl (by kernel_rfl) ?_
   intro xx G cap W5 hM5
   simp only [sets, List.foldl_cons, List.foldl_nil, A5, A6]
   clear hM
   have hxs : ((List.range (j + 1)).map fun k => Value.string (I (vecN l k))) = ((List.range j).map fun k => Value.string (I (vecN l k))) ++ [.string (I (vecN l j))] := by rw [List.range_succ, List.map_append]; rfl
   rw [← hxs] at hM5
   clear hxs
   go_wp2_with fail
   go_roundw
   case rel => exact ⟨j + 1, _, by go_num, by omega, hM5⟩
   case measure => simp [intOf]; omega
theorem Km {W : World} {x : NumL} {vc vh : Value} (h : NumOk W x vc vh) : Calls Tryz.prog 17 #[.agg #[.int .i64 x.cols, .int .i64 x.rows, vc, vh, .int .i64 x.miss]] W fun e w' => ∃ a n cp, e = .returned (.agg #[.slice a n cp, .string ⟨#[49]⟩]) ∧ SlS w' (.slice a n cp) x.hidN ∧ Below W.heap.size W w' :=
 (IS x vc vh W h.c h.h h.f.1 (fun k => F6 h.fh k)).mono fun e w' ⟨v, he, hs, hb⟩ => by
  obtain ⟨a, cp, rfl⟩ := hs.shape
  exact ⟨a, _, cp, he, hs, hb⟩
theorem Kn (n : Nat) (l : List Int) (den : Int) (lv : Value) (W : World) (hn : n ≤ 1000000) (hl : Sl W lv l) (hf : ∀ z ∈ l, Fits z) (hd : Fits den) :
  Calls Tryz.prog 18 #[.int .i64 n, lv, .int .i64 den] W fun e w' => ∃ a m cp, e = .returned (.agg #[.slice a m cp, .string (I (1 + pkv den 9))]) ∧ SlS w' (.slice a m cp) (vecL n l) ∧ Below W.heap.size W w' :=
 (IT n l den lv W hn hl hf hd).mono fun e w' ⟨v, he, hs, hb⟩ => by
  obtain ⟨a, cp, rfl⟩ := hs.shape
  exact ⟨a, _, cp, he, hs, hb⟩
theorem RowsAt.below {w W : World} {sb so : Nat} {rows : List (List Int × Int)} {c : Nat} (h : RowsAt w sb so rows c) (hb : Below w.heap.size w W) : RowsAt W sb so rows c :=
 ⟨A9 h.lt hb.size, fun i hi => by
  obtain ⟨cb, co, cc, h1, h2, h3, h4, h5⟩ := h.row i hi
  exact ⟨cb, co, cc, (hb.cell (p := ⟨_, _, none⟩) h.lt).trans h1, h2.below hb, A9 h3 hb.size, fun k hk => (hb.cell (p := ⟨_, _, none⟩) h3).trans (h4 k hk), (hb.cell (p := ⟨_, _, none⟩) h.lt).trans h5⟩⟩
theorem Jj {Q : Exit → Act → World → Prop} {us : List Value} {bN bS bA bB lc kc lh kh n1 k1 n2 k2 : Nat} {ac ah a1 a2 : Option Addr} {lv : Value} {d1 d2 dv : ByteArray} {nc nr ms den c : Int} {hl vl : List ByteArray} {w W0 : World} {L : BLs} {R : List RowD}    (x148_0 : Hid (∀ W, Mem w L R W → W.cell? ⟨bA, 1, none⟩ = some (.slice a1 n1 k1))) (x148_1 : Hid (∀ W, Mem w L R W → W.cell? ⟨bA, 2, none⟩ = some (.string d1))) (x150_0 : Hid (∀ W, Mem w L R W → W.cell? ⟨bB, 1, none⟩ = some (.slice a2 n2 k2))) (x150_1 : Hid (∀ W, Mem w L R W → W.cell? ⟨bB, 2, none⟩ = some (.string d2))) (x151_0 : Hid (∀ W, Mem w L R W → W.cell? ⟨bN, 0, none⟩ = some (.int .i64 nc))) (x151_1 : Hid (∀ W, Mem w L R W → W.cell? ⟨bN, 1, none⟩ = some (.int .i64 nr))) (x151_2 : Hid (∀ W, Mem w L R W → W.cell? ⟨bN, 2, none⟩ = some (.slice ac lc kc))) (x151_3 : Hid (∀ W, Mem w L R W → W.cell? ⟨bN, 3, none⟩ = some (.slice ah lh kh))) (x151_4 : Hid (∀ W, Mem w L R W → W.cell? ⟨bN, 4, none⟩ = some (.int .i64 ms))) (C152 : Hid (∀ W, Mem w L R W → Calls Tryz.prog 17 #[.agg #[.int .i64 nc, .int .i64 nr, .slice ac lc kc, .slice ah lh kh, .int .i64 ms]] W fun e W' => ∃ (ag : Option Addr) (lg : Nat) (kg : Nat), e = .returned (.agg #[.slice ag lg kg, .string ⟨#[49]⟩]) ∧ SlS W' (.slice ag lg kg) hl ∧ Below W.heap.size W W')) (x154 : Hid (∀ W, Mem w L R W → W.cell? ⟨bS, 0, none⟩ = some (.int .i64 c))) (C157 : Hid (∀ W, Mem w L R W → Calls Tryz.prog 18 #[.int .i64 c, lv, .int .i64 den] W fun e W' => ∃ (ax : Option Addr) (lx : Nat) (kx : Nat), e = .returned (.agg #[.slice ax lx kx, .string dv]) ∧ SlS W' (.slice ax lx kx) vl ∧ Below W.heap.size W W')) (h0 : Hid (Mem w L R W0)) (hN : us.length = 210) (g3 : us[3]? = some (lv)) (g4 : us[4]? = some (.int .i64 den)) (g5 : us[5]? = some (.pointer (some ⟨bN, 0, none⟩))) (g11 : us[11]? = some (.pointer (some ⟨bS, 0, none⟩))) (g18 : us[18]? = some (.pointer (some ⟨bA, 0, none⟩))) (g20 : us[20]? = some (.pointer (some ⟨bB, 0, none⟩))) {ops : Array Oper} (ho : getOps Tryz.f7.body 22 = some ops)
  (hQ : ∀ (x : Nat → Value)  (g158 : Nat) (ag : Option Addr) (lg : Nat) (kg : Nat) (ax : Option Addr) (lx : Nat) (kx : Nat) (W' : World), x 158 = .slice (some ⟨g158, 0, none⟩) 4 4 → x 159 = .int .i64 4 → x 160 = .int .i64 0 → Hid (Blk W' g158 #[.slice a1 n1 k1, .string d1, .slice a2 n2 k2, .string d2, .slice ag lg kg, .string ⟨#[49]⟩, .slice ax lx kx, .string dv] 30 ∧ SlS W' (.slice ag lg kg) hl ∧ SlS W' (.slice ax lx kx) vl) → Hid (Mem w L R W') → Q .normal { tmps := (sets [147, 148, 149, 150, 151, 152, 153, 154, 155, 156, 157, 158, 159, 160] x us).toArray, defers := [] } W') :
  (Code.region 22 ops true).wp Tryz.prog Q { tmps := us.toArray, defers := [] } W0 := by
 obtain rfl := Option.some.inj (ho.symm.trans (rfl : getOps Tryz.f7.body 22 = some _))
 clear ho
 replace hQ := A8 hQ
 have hst : MStable ([(5, 152, (fun yv W => ∃ (ag : Option Addr) (lg : Nat) (kg : Nat), yv = .agg #[.slice ag lg kg, .string ⟨#[49]⟩] ∧ SlS W (.slice ag lg kg) hl), none), (10, 157, (fun yv W => ∃ (ax : Option Addr) (lx : Nat) (kx : Nat), yv = .agg #[.slice ax lx kx, .string dv] ∧ SlS W (.slice ax lx kx) vl), none), (11, 158, (fun yv W => ∃ (g158 : Nat) (ag : Option Addr) (lg : Nat) (kg : Nat) (ax : Option Addr) (lx : Nat) (kx : Nat), yv = .slice (some ⟨g158, 0, none⟩) 4 4 ∧ Blk W g158 #[.slice a1 n1 k1, .string d1, .slice a2 n2 k2, .string d2, .slice ag lg kg, .string ⟨#[49]⟩, .slice ax lx kx, .string dv] 30 ∧ SlS W (.slice ag lg kg) hl ∧ SlS W (.slice ax lx kx) vl), none)] : ML) := by
  intro p hp yv W W' hb h
  simp only [List.mem_cons, List.not_mem_nil, or_false] at hp
  rcases hp with rfl | rfl | rfl
  ·obtain ⟨g0, g1, g2, e, h⟩ := h; exact ⟨g0, g1, g2, e, h.below hb⟩
  ·obtain ⟨g0, g1, g2, e, h⟩ := h; exact ⟨g0, g1, g2, e, h.below hb⟩
  ·obtain ⟨g, ag, lg, kg, ax, lx, kx, e, h, p0, p1⟩ := h; exact ⟨g, ag, lg, kg, ax, lx, kx, e, h.below hb, p0.below hb, p1.below hb⟩
 obtain ⟨Iv, hI⟩ : ∃ Iv : (Nat → Bool) → Act → World → Prop, ∀ l a W, Iv l a W ↔ (Fr us.toArray [147, 148, 149, 150, 151, 152, 153, 154, 155, 156, 157, 158, 159, 160] a ∧ Mem w L R W ∧ Vals [some (147, .pointer (some ⟨bA, 1, none⟩)), some (148, .agg #[.slice a1 n1 k1, .string d1]), some (149, .pointer (some ⟨bB, 1, none⟩)), some (150, .agg #[.slice a2 n2 k2, .string d2]), some (151, .agg #[.int .i64 nc, .int .i64 nr, .slice ac lc kc, .slice ah lh kh, .int .i64 ms]), none, some (153, .pointer (some ⟨bS, 0, none⟩)), some (154, .int .i64 c), some (155, lv), some (156, .int .i64 den), none, none, some (159, .int .i64 4), some (160, .int .i64 0)] l a ∧ Mems ([(5, 152, (fun yv W => ∃ (ag : Option Addr) (lg : Nat) (kg : Nat), yv = .agg #[.slice ag lg kg, .string ⟨#[49]⟩] ∧ SlS W (.slice ag lg kg) hl), none), (10, 157, (fun yv W => ∃ (ax : Option Addr) (lx : Nat) (kx : Nat), yv = .agg #[.slice ax lx kx, .string dv] ∧ SlS W (.slice ax lx kx) vl), none), (11, 158, (fun yv W => ∃ (g158 : Nat) (ag : Option Addr) (lg : Nat) (kg : Nat) (ax : Option Addr) (lx : Nat) (kx : Nat), yv = .slice (some ⟨g158, 0, none⟩) 4 4 ∧ Blk W g158 #[.slice a1 n1 k1, .string d1, .slice a2 n2 k2, .string d2, .slice ag lg kg, .string ⟨#[49]⟩, .slice ax lx kx, .string dv] 30 ∧ SlS W (.slice ag lg kg) hl ∧ SlS W (.slice ax lx kx) vl), none)] : ML) l a W ∧ (Mem w L R W)) := ⟨_, fun _ _ _ => Iff.rfl⟩
 refine Ae Iv (by kernel_rfl) (by kernel_rfl) ((hI _ _ _).2 ⟨Fr.start _ _, h0.out.drew, Vals.zero, Mems.zero, h0.out.drew⟩) (Ab (k := 0) ?_ (Ab (k := 1) ?_ (Ab (k := 2) ?_ (Ab (k := 3) ?_ (Ab (k := 4) ?_ (Ab (k := 5) ?_ (Ab (k := 6) ?_ (Ab (k := 7) ?_ (Ab (k := 8) ?_ (Ab (k := 9) ?_ (Ab (k := 10) ?_ (Ab (k := 11) ?_ (Ab (k := 12) ?_ (Ab (k := 13) ?_ (Al))))))))))))))) ?_
 ·intro l a W hl hw hsh hI' K hK
  obtain ⟨hf, hC, hF, hM, q0⟩ := (hI _ _ _).1 hI'
  have x18 := hf.atl 18 g18 rfl
  refine want rfl ?_
  go_simp
  exact hK.out _ _ ((hI _ _ _).2 ⟨hf.put 147 _ rfl, hC, hF.put (Ac rfl) 0 rfl (hf.ltl hN rfl), hM.put 0 147 _ rfl rfl, q0⟩)
 ·intro l a W hl hw hsh hI' K hK
  obtain ⟨hf, hC, hF, hM, q0⟩ := (hI _ _ _).1 hI'
  have x147 := hF.get 0 rfl (hw 0 (by kernel_rfl))
  refine want rfl ?_
  have k0 := x148_0.out _ hC
  have k1 := x148_1.out _ hC
  go_simp
  exact hK.out _ _ ((hI _ _ _).2 ⟨hf.put 148 _ rfl, hC, hF.put (Ac rfl) 1 rfl (hf.ltl hN rfl), hM.put 1 148 _ rfl rfl, q0⟩)
 ·intro l a W hl hw hsh hI' K hK
  obtain ⟨hf, hC, hF, hM, q0⟩ := (hI _ _ _).1 hI'
  have x20 := hf.atl 20 g20 rfl
  refine want rfl ?_
  go_simp
  exact hK.out _ _ ((hI _ _ _).2 ⟨hf.put 149 _ rfl, hC, hF.put (Ac rfl) 2 rfl (hf.ltl hN rfl), hM.put 2 149 _ rfl rfl, q0⟩)
 ·intro l a W hl hw hsh hI' K hK
  obtain ⟨hf, hC, hF, hM, q0⟩ := (hI _ _ _).1 hI'
  have x149 := hF.get 2 rfl (hw 2 (by kernel_rfl))
  refine want rfl ?_
  have k0 := x150_0.out _ hC
  have k1 := x150_1.out _ hC
  go_simp
  exact hK.out _ _ ((hI _ _ _).2 ⟨hf.put 150 _ rfl, hC, hF.put (Ac rfl) 3 rfl (hf.ltl hN rfl), hM.put 3 150 _ rfl rfl, q0⟩)
 ·intro l a W hl hw hsh hI' K hK
  obtain ⟨hf, hC, hF, hM, q0⟩ := (hI _ _ _).1 hI'
  have x5 := hf.atl 5 g5 rfl
  refine want rfl ?_
  have k0 := x151_0.out _ hC
  have k1 := x151_1.out _ hC
  have k2 := x151_2.out _ hC
  have k3 := x151_3.out _ hC
  have k4 := x151_4.out _ hC
  go_simp
  exact hK.out _ _ ((hI _ _ _).2 ⟨hf.put 151 _ rfl, hC, hF.put (Ac rfl) 4 rfl (hf.ltl hN rfl), hM.put 4 151 _ rfl rfl, q0⟩)
 ·intro l a W hl hw hsh hI' K hK
  obtain ⟨hf, hC, hF, hM, q0⟩ := (hI _ _ _).1 hI'
  have x151 := hF.get 4 rfl (hw 4 (by kernel_rfl))
  refine want rfl ?_
  go_simp
  refine Calls.mono (C152.out W hC) ?_
  rintro e W2 ⟨ag, lg, kg, rfl, hp, hb⟩
  exact hK.out _ _ ((hI _ _ _).2 ⟨hf.put 152 _ rfl, hC.call hb, hF.other 5 152 _ rfl rfl, (hM.world hst hb).add 0 5 rfl (Ac rfl) (Ac rfl) (hf.ltl hN rfl) ⟨ag, lg, kg, rfl, hp⟩, q0.call hb⟩)
 ·intro l a W hl hw hsh hI' K hK
  obtain ⟨hf, hC, hF, hM, q0⟩ := (hI _ _ _).1 hI'
  have x11 := hf.atl 11 g11 rfl
  refine want rfl ?_
  go_simp
  exact hK.out _ _ ((hI _ _ _).2 ⟨hf.put 153 _ rfl, hC, hF.put (Ac rfl) 6 rfl (hf.ltl hN rfl), hM.put 6 153 _ rfl rfl, q0⟩)
 ·intro l a W hl hw hsh hI' K hK
  obtain ⟨hf, hC, hF, hM, q0⟩ := (hI _ _ _).1 hI'
  have x153 := hF.get 6 rfl (hw 6 (by kernel_rfl))
  refine want rfl ?_
  have k0 := x154.out _ hC
  go_simp
  exact hK.out _ _ ((hI _ _ _).2 ⟨hf.put 154 _ rfl, hC, hF.put (Ac rfl) 7 rfl (hf.ltl hN rfl), hM.put 7 154 _ rfl rfl, q0⟩)
 ·intro l a W hl hw hsh hI' K hK
  obtain ⟨hf, hC, hF, hM, q0⟩ := (hI _ _ _).1 hI'
  have x3 := hf.atl 3 g3 rfl
  refine want rfl ?_
  go_simp
  exact hK.out _ _ ((hI _ _ _).2 ⟨hf.put 155 _ rfl, hC, hF.put (Ac rfl) 8 rfl (hf.ltl hN rfl), hM.put 8 155 _ rfl rfl, q0⟩)
 ·intro l a W hl hw hsh hI' K hK
  obtain ⟨hf, hC, hF, hM, q0⟩ := (hI _ _ _).1 hI'
  have x4 := hf.atl 4 g4 rfl
  refine want rfl ?_
  go_simp
  exact hK.out _ _ ((hI _ _ _).2 ⟨hf.put 156 _ rfl, hC, hF.put (Ac rfl) 9 rfl (hf.ltl hN rfl), hM.put 9 156 _ rfl rfl, q0⟩)
 ·intro l a W hl hw hsh hI' K hK
  obtain ⟨hf, hC, hF, hM, q0⟩ := (hI _ _ _).1 hI'
  have x154 := hF.get 7 rfl (hw 7 (by kernel_rfl))
  have x155 := hF.get 8 rfl (hw 8 (by kernel_rfl))
  have x156 := hF.get 9 rfl (hw 9 (by kernel_rfl))
  refine want rfl ?_
  go_simp
  refine Calls.mono (C157.out W hC) ?_
  rintro e W2 ⟨ax, lx, kx, rfl, hp, hb⟩
  exact hK.out _ _ ((hI _ _ _).2 ⟨hf.put 157 _ rfl, hC.call hb, hF.other 10 157 _ rfl rfl, (hM.world hst hb).add 1 10 rfl (Ac rfl) (Ac rfl) (hf.ltl hN rfl) ⟨ax, lx, kx, rfl, hp⟩, q0.call hb⟩)
 ·intro l a W hl hw hsh hI' K hK
  obtain ⟨hf, hC, hF, hM, q0⟩ := (hI _ _ _).1 hI'
  have x148 := hF.get 1 rfl (hw 1 (by kernel_rfl))
  have x150 := hF.get 3 rfl (hw 3 (by kernel_rfl))
  obtain ⟨_, x152, ag, lg, kg, rfl, hm5⟩ := hM.get 0 rfl (hw 5 (by kernel_rfl)) rfl
  obtain ⟨_, x157, ax, lx, kx, rfl, hm10⟩ := hM.get 1 rfl (hw 10 (by kernel_rfl)) rfl
  refine want rfl ?_
  go_simp
  exact hK.out _ _ ((hI _ _ _).2 ⟨hf.put 158 _ rfl, hC.new _, hF.other 11 158 _ rfl rfl, (hM.world hst ((Below.refl _ _).alloc (Aa _) _)).add 2 11 rfl (Ac rfl) (Ac rfl) (hf.ltl hN rfl) ⟨_, ag, lg, kg, ax, lx, kx, rfl, Blk.new _ _ _, hm5.below ((Below.refl _ _).alloc (Aa _) _), hm10.below ((Below.refl _ _).alloc (Aa _) _)⟩, q0.new _⟩)
 ·intro l a W hl hw hsh hI' K hK
  obtain ⟨hf, hC, hF, hM, q0⟩ := (hI _ _ _).1 hI'
  obtain ⟨_, x158, g158, ag, lg, kg, ax, lx, kx, rfl, hb11, _hq0, _hq1⟩ := hM.get 2 rfl (hw 11 (by kernel_rfl)) rfl
  refine want rfl ?_
  go_simp
  exact hK.out _ _ ((hI _ _ _).2 ⟨hf.put 159 _ rfl, hC, hF.put (Ac rfl) 12 rfl (hf.ltl hN rfl), hM.put 12 159 _ rfl rfl, q0⟩)
 ·intro l a W hl hw hsh hI' K hK
  obtain ⟨hf, hC, hF, hM, q0⟩ := (hI _ _ _).1 hI'
  refine want rfl ?_
  go_simp
  exact hK.out _ _ ((hI _ _ _).2 ⟨hf.put 160 _ rfl, hC, hF.put (Ac rfl) 13 rfl (hf.ltl hN rfl), hM.put 13 160 _ rfl rfl, q0⟩)
 ·intro a W hI'
  obtain ⟨hf, hC, hF, hM, q0⟩ := (hI _ _ _).1 hI'
  have hM9 := q0
  have x159 := hF.get 12 rfl (by kernel_rfl)
  have x160 := hF.get 13 rfl (by kernel_rfl)
  obtain ⟨_, x158, g158, ag, lg, kg, ax, lx, kx, rfl, ho158⟩ := hM.get 2 rfl (by kernel_rfl) rfl
  have he := hf.eqs
  rw [he]
  exact hQ.out _  g158 ag lg kg ax lx kx _ (by simp [x158]) (by simp [x159]) (by simp [x160]) (A8 ho158) (A8 hM9)
theorem IU (x : NumL) (vc vh : Value) (nr ncl : Int) (lv : Value) (l : List Int) (den : Int) (w : World) (hN : NumOk w x vc vh) (hnr : Fits nr) (hncl : Fits ncl) (hl : Sl w lv l) (hlf : ∀ z ∈ l, Fits z) (hden : Fits den) (hE0 : EnvQ w) :
  Calls Tryz.prog 7 #[.agg #[.int .i64 x.cols, .int .i64 x.rows, vc, vh, .int .i64 x.miss], .int .i64 nr, .int .i64 ncl, lv, .int .i64 den] w (Rets w (.bool true)) := by
 have hE := A8 hE0.env
 clear hE0
 obtain ⟨ac, cc, rfl⟩ := hN.c.shape
 obtain ⟨ah, ch, rfl⟩ := hN.h.shape
 have MD := A8 (fun W (hW : NumOk W x (.slice ac x.coefs.length cc) (.slice ah x.hidden.length ch)) => made_ok hW)
 have HD := A8 (fun W (hW : NumOk W x (.slice ac x.coefs.length cc) (.slice ah x.hidden.length ch)) => Km hW)
 have VC := A8 (fun W (c : Nat) (hc : c ≤ 1000) (hW : Below w.heap.size w W) => Kn c l den lv W (by omega) (hl.below hW) hlf hden)
 replace hN := A8 hN
 clear hl hlf
 generalize x.coefs.length = nc at *
 generalize x.hidden.length = nh at *
 obtain ⟨V1, bN, e1, b1, S1⟩ := (MS.start w).add' #[.int .i64 x.cols, .int .i64 x.rows, .slice ac nc cc, .slice ah nh ch, .int .i64 x.miss] 24
 have hS := A8 S1
 clear S1
 go_enter Tryz.func7, Tryz.ntmps7
 go_upto_region 1 with fail
 rw [← e1, ← b1]
 clear e1 b1
 go_wp2_with fail
 refine Calls.mono (Kl _ (hS.out.env hE.out)) ?_
 rintro e w1 ⟨rfl, hb⟩
 replace hS := A8 (hS.out.call hb)
 clear hb
 go_upto_region 3 with fail
 have z0 := (hS.out.cell bN _ _ (.head _) 0).trans (show _ = some (Value.int .i64 x.cols : Value) from rfl)
 have z1 := (hS.out.cell bN _ _ (.head _) 1).trans (show _ = some (Value.int .i64 x.rows : Value) from rfl)
 have z2 := (hS.out.cell bN _ _ (.head _) 2).trans (show _ = some (Value.slice ac nc cc : Value) from rfl)
 have z3 := (hS.out.cell bN _ _ (.head _) 3).trans (show _ = some (Value.slice ah nh ch : Value) from rfl)
 have z4 := (hS.out.cell bN _ _ (.head _) 4).trans (show _ = some (Value.int .i64 x.miss : Value) from rfl)
 go_wp2_with fail
 refine Calls.mono (MD.out _ (hN.out.below hS.out.mem.below)) ?_
 rintro e w2 ⟨a, cp, rfl, hs, hb⟩
 replace hS := A8 (hS.out.call hb)
 clear hb z0 z1 z2 z3 z4
 have hce := x.c_eq
 have hre := x.r_eq
 have hvl := A8 x.made_valid
 have hml := A8 x.made_len
 obtain ⟨r, hr⟩ : ∃ r, r = x.r := ⟨_, rfl⟩
 obtain ⟨c, hc⟩ : ∃ c, c = x.c := ⟨_, rfl⟩
 rw [← hr] at hs hre hml ⊢
 rw [← hc] at hce hvl ⊢
 replace hr := A8 hr
 replace hc := A8 hc
 have hc0 := A8 (show 0 < c ∧ c ≤ 1000 from by omega)
 have hr0 := A8 (show 0 < r ∧ r ≤ 8 from by omega)
 clear hce hre
 obtain ⟨q, hq⟩ : ∃ q : Nat, pkv ncl c = (q : Int) := ⟨(pkv ncl c).toNat, by have := AG (c := ncl) (m := (c : Int)) (by have := hc0.out; omega); omega⟩
 have hqc := A8 (show q < c from by have := Ck (c := ncl) (m := (c : Int)) (by have := hc0.out; omega); omega)
 obtain ⟨pr, hp⟩ : ∃ q : Nat, pkv nr r = (q : Int) := ⟨(pkv nr r).toNat, by have := AG (c := nr) (m := (r : Int)) (by have := hr0.out; omega); omega⟩
 have hpr := A8 (show pr < r ∧ pkv nr r = (pr : Int) ∧ Fits nr from ⟨by have := Ck (c := nr) (m := (r : Int)) (by have := hr0.out; omega); omega, hp, hnr⟩)
 have PQ := A8 (fun W => by have := Fu ncl c hncl (by have := hc0.out; omega) (by have := hc0.out; omega) W; rw [hq] at this; exact this)
 clear hp hq hnr hncl
 obtain ⟨sb, so, mc, hsv, hRA⟩ := rows_at hs (by rw [hml.out]; exact hr0.out.1) hc0.out.1 (fun r' hr' => by have := (AF hvl.out).2.2.2 r' hr'; omega)
 rw [hml.out] at hsv
 cases hsv
 obtain ⟨W1, bS, e1, b1, S1⟩ := hS.out.add' #[.int .i64 c, .slice (some ⟨sb, so, none⟩) r cp] 27
 have hR := A8 (show SlE W1 (.slice (some ⟨sb, so, none⟩) r cp) x.made from by rw [e1]; exact hs.below ((Below.refl _ _).alloc (Aa _) _))
 have hRA1 := A8 (show RowsAt W1 sb so x.made c from (by rw [e1]; exact hRA.below ((Below.refl _ _).alloc (Aa _) _)))
 replace hS := A8 S1
 clear S1 hs hRA
 go_upto_region 4 with fail
 rw [← e1, ← b1]
 clear e1 b1
 have z0 := (hS.out.cell bS _ _ (.head _) 0).trans (show _ = some (Value.int .i64 c : Value) from rfl)
 have z1 := (hS.out.cell bS _ _ (.head _) 1).trans (show _ = some (Value.slice (some ⟨sb, so, none⟩) r cp : Value) from rfl)
 have hz := A8 (⟨z0, z1⟩ : _ ∧ _)
 obtain ⟨V2, e2, S2, s2⟩ := (Mem.start W1).add' #[.int .i64 c, .slice none 0 0] 27
 obtain ⟨bT, eT⟩ : ∃ B, B = W1.heap.size := ⟨_, rfl⟩
 rw [← eT] at S2
 go_upto_region 5 with fail
 rw [← e2, ← eT]
 clear e2 eT z0 z1
 have z0 := (S2.old ((hS.out.mem.blks _ (.head _)).lt) hz.out.1)
 obtain ⟨V3, e3, S3, s3⟩ := S2.add' #[.int .i64 c, .slice none 0 0] 27
 obtain ⟨bU, eU⟩ : ∃ B, B = V2.heap.size := ⟨_, rfl⟩
 rw [← eU] at S3
 have hM := A8 S3.swap
 clear S2 S3 s2 s3
 go_upto_region 6 with fail
 rw [← e3, ← eU]
 clear e3 eU z0
 have z0 := (hM.out.old ((hS.out.mem.blks _ (.head _)).lt) hz.out.1)
 go_wp2_with fail
 refine Calls.mono (PQ.out _) ?_
 rintro e w3 ⟨rfl, hb⟩
 replace hM := A8 (hM.out.call hb)
 clear hb z0
 go_wp2_with fail
 refine ord_l0 (bS := bS) (bT := bT) (bU := bU) (sb := sb) (so := so) (m := r) (mc := cp) (q := q) (c := c) (p := pr) (nr := nr) (rows := x.made) (w := W1) (L := []) (R := []) (A8 ⟨hml.out.symm, hr0.out.1, by have := hr0.out; omega⟩) hc0 hqc hpr (A8 ((hS.out.mem.blks _ (.head _)).lt)) hz hRA1 hM (by kernel_rfl) ?_
 intro fs tv uv xt xu _ _ _ _ _ _ _ _ _ _ _ _ _ _ _ _ _ _ _ _ _ _ _ _ _ _ _ _ _ _ _ _ _ _ _ _ _ _ _ _ _ _ _ _ _ _ _ _ _ _ _ _ _ _ _ _ _ _ _ _ _ _ _ _ _ _ _ _ W2 hM2
 clear hM hRA1 PQ hz
 have hT := A8 (hM2.out.2.1.slE hM2.out.1 (by rw [List.length_take, Bq, hml.out]; omega))
 have hU := A8 (hM2.out.2.2.slE hM2.out.1.rswap (by rw [List.length_take, Br, hml.out]; omega) (fun p hp => .tail _ (.tail _ (List.mem_append_left _ hp))))
 have hT := A8 (show SlE W2 tv (tRows x.made pr) from by have := hT.out; rwa [List.take_of_length_le (by rw [Bq, hml.out]; omega)] at this)
 have hU := A8 (show SlE W2 uv (uRows x.made c q) from by have := hU.out; rwa [List.take_of_length_le (by rw [Br, hml.out]; omega)] at this)
 have hTc := A8 (⟨(hM2.out.1.lt _ (.head _)), (hM2.out.1.cell _ _ _ (.head _) 0), (hM2.out.1.cell _ _ _ (.head _) 1)⟩ : bT < W2.heap.size ∧ W2.cell? ⟨bT, 0, none⟩ = some (.int .i64 c) ∧ W2.cell? ⟨bT, 1, none⟩ = some tv)
 have hUc := A8 (⟨(hM2.out.1.lt _ (.tail _ (.head _))), (hM2.out.1.cell _ _ _ (.tail _ (.head _)) 0), (hM2.out.1.cell _ _ _ (.tail _ (.head _)) 1)⟩ : bU < W2.heap.size ∧ W2.cell? ⟨bU, 0, none⟩ = some (.int .i64 c) ∧ W2.cell? ⟨bU, 1, none⟩ = some uv)
 replace hS := A8 (hS.out.call hM2.out.1.below)
 replace hR := A8 (hR.out.below hM2.out.1.below)
 clear hM2
 have hS2 := A8 (MS.start W2)
 have ltS := A8 ((hS.out.mem.blks _ (.head _)).lt)
 have ltN := A8 ((hS.out.mem.blks _ (.tail _ (.head _))).lt)
 have hSc := A8 (⟨hS.out.cell bS _ _ (.head _) 0, hS.out.cell bS _ _ (.head _) 1⟩ : W2.cell? ⟨bS, 0, none⟩ = some (.int .i64 c) ∧ W2.cell? ⟨bS, 1, none⟩ = some (.slice (some ⟨sb, so, none⟩) r cp))
 have hE2 := A8 (hS.out.env hE.out)
 have hN2 := A8 (hN.out.below hS.out.mem.below)
 have hB2 := A8 hS.out.mem.below
 have hNc := A8 (⟨hS.out.cell bN _ _ (.tail _ (.head _)) 0, hS.out.cell bN _ _ (.tail _ (.head _)) 1, hS.out.cell bN _ _ (.tail _ (.head _)) 2, hS.out.cell bN _ _ (.tail _ (.head _)) 3, hS.out.cell bN _ _ (.tail _ (.head _)) 4⟩ : W2.cell? ⟨bN, 0, none⟩ = some (.int .i64 x.cols) ∧ W2.cell? ⟨bN, 1, none⟩ = some (.int .i64 x.rows) ∧ W2.cell? ⟨bN, 2, none⟩ = some (.slice ac nc cc) ∧ W2.cell? ⟨bN, 3, none⟩ = some (.slice ah nh ch) ∧ W2.cell? ⟨bN, 4, none⟩ = some (.int .i64 x.miss))
 clear hS hN
 have z0 := hS2.out.mem.old ltS.out hSc.out.1
 have z1 := hS2.out.mem.old ltS.out hSc.out.2
 go_wp2_with fail
 refine Calls.mono (E0 c _ x.made _ (hS2.out.env hE2.out) (hR.out.below hS2.out.mem.below) hvl.out (C8 x)) ?_
 rintro e w3 ⟨hb, ⟨nv, nums, dn, rfl, hs1, hck⟩ | ⟨wv, ws, rfl, hs1, hrf⟩⟩
 ·obtain ⟨a1, k1, rfl⟩ := hs1.shape
  have hnl := (B6 hck).2.2
  have hsz := A8 (show SolZ x.made c (fun k => zS (sAt nums k)) (zS dn) from by have := Bj hck; rwa [show nums.length = c by omega] at this)
  clear hck hnl
  have T1 := A8 ((Gs pr).2 hsz.out)
  have T2 := A8 ((IQ q).2 hsz.out)
  clear hsz
  obtain ⟨d1, hd1⟩ : ∃ d, d = dn := ⟨_, rfl⟩
  rw [← hd1]
  clear hd1
  replace hS2 := A8 (hS2.out.call hb)
  replace hS2 := A8 (hS2.out.slice hs1)
  clear hb hs1 z0 z1
  obtain ⟨n1, hn1⟩ : ∃ n, n = nums.length := ⟨_, rfl⟩
  rw [← hn1] at hS2 ⊢
  replace hn1 := A8 hn1
  obtain ⟨Wn, bA, e1, b1, S1⟩ := hS2.out.add' #[.bool true, .slice a1 n1 k1, .string d1, .slice none 0 0] 38
  replace hS2 := A8 S1
  clear S1
  go_upto_region 18 with fail
  rw [← e1, ← b1]
  clear e1 b1
  have z0 := hS2.out.mem.old hTc.out.1 hTc.out.2.1
  have z1 := hS2.out.mem.old hTc.out.1 hTc.out.2.2
  go_wp2_with fail
  refine Calls.mono (Cg c _ (tRows x.made pr) _ (hS2.out.env hE2.out) (hT.out.below hS2.out.mem.below) (Gt pr hvl.out) (by rw [Bq]; exact C8 x) T1.out) ?_
  rintro e w4 ⟨nv2, nums2, d2, rfl, hs2, _, hb⟩
  obtain ⟨a2, k2, rfl⟩ := hs2.shape
  clear T1
  replace hS2 := A8 (hS2.out.call hb)
  replace hS2 := A8 (hS2.out.slice hs2)
  clear hb hs2 z0 z1
  obtain ⟨n2, hn2⟩ : ∃ n, n = nums2.length := ⟨_, rfl⟩
  rw [← hn2] at hS2 ⊢
  replace hn2 := A8 hn2
  obtain ⟨Wn, bB, e1, b1, S1⟩ := hS2.out.add' #[.bool true, .slice a2 n2 k2, .string d2, .slice none 0 0] 38
  replace hS2 := A8 S1
  clear S1
  go_upto_region 19 with fail
  rw [← e1, ← b1]
  clear e1 b1
  have z0 := hS2.out.mem.old hUc.out.1 hUc.out.2.1
  have z1 := hS2.out.mem.old hUc.out.1 hUc.out.2.2
  go_wp2_with fail
  refine Calls.mono (Cg c _ (uRows x.made c q) _ (hS2.out.env hE2.out) (hU.out.below hS2.out.mem.below) (Gu q hvl.out) (by rw [Br]; exact C8 x) T2.out) ?_
  rintro e w5 ⟨nv3, nums3, d3, rfl, hs3, _, hb⟩
  obtain ⟨a3, k3, rfl⟩ := hs3.shape
  clear T2
  replace hS2 := A8 (hS2.out.call hb)
  replace hS2 := A8 (hS2.out.slice hs3)
  clear hb hs3 z0 z1
  obtain ⟨n3, hn3⟩ : ∃ n, n = nums3.length := ⟨_, rfl⟩
  rw [← hn3] at hS2 ⊢
  replace hn3 := A8 hn3
  obtain ⟨Wn, bD, e1, b1, S1⟩ := hS2.out.add' #[.bool true, .slice a3 n3 k3, .string d3, .slice none 0 0] 38
  replace hS2 := A8 S1
  clear S1
  go_upto_region 20 with fail
  rw [← e1, ← b1]
  clear e1 b1
  have y0 := (hS2.out.cell bA _ _ (.tail _ (.tail _ (.head _))) 0).trans (show _ = some (Value.bool true) from rfl)
  have y1 := (hS2.out.cell bB _ _ (.tail _ (.head _)) 0).trans (show _ = some (Value.bool true) from rfl)
  have y2 := (hS2.out.cell bD _ _ (.head _) 0).trans (show _ = some (Value.bool true) from rfl)
  go_upto_region 22 with fail
  clear y0 y1 y2
  refine Jj (bN := bN) (bS := bS) (bA := bA) (bB := bB) (lc := nc) (kc := cc) (lh := nh) (kh := ch) (n1 := n1) (k1 := k1) (n2 := n2) (k2 := k2) (ac := ac) (ah := ah) (a1 := a1) (a2 := a2) (lv := lv) (d1 := d1) (d2 := d2) (dv := I (1 + pkv den 9)) (nc := x.cols) (nr := x.rows) (ms := x.miss) (den := den) (c := c) (hl := x.hidN) (vl := vecL c l) (w := Wn) (W0 := Wn) (L := []) (R := []) (A8 fun W hW => (hS2.out.call hW.below).cell bA _ _ (.tail _ (.tail _ (.head _))) 1) (A8 fun W hW => (hS2.out.call hW.below).cell bA _ _ (.tail _ (.tail _ (.head _))) 2) (A8 fun W hW => (hS2.out.call hW.below).cell bB _ _ (.tail _ (.head _)) 1) (A8 fun W hW => (hS2.out.call hW.below).cell bB _ _ (.tail _ (.head _)) 2) (A8 fun W hW => (hS2.out.call hW.below).mem.old ltN.out hNc.out.1) (A8 fun W hW => (hS2.out.call hW.below).mem.old ltN.out hNc.out.2.1) (A8 fun W hW => (hS2.out.call hW.below).mem.old ltN.out hNc.out.2.2.1) (A8 fun W hW => (hS2.out.call hW.below).mem.old ltN.out hNc.out.2.2.2.1) (A8 fun W hW => (hS2.out.call hW.below).mem.old ltN.out hNc.out.2.2.2.2) (A8 fun W hW => HD.out W (hN2.out.below (hS2.out.call hW.below).mem.below)) (A8 fun W hW => (hS2.out.call hW.below).mem.old ltS.out hSc.out.1) (A8 fun W hW => VC.out W c hc0.out.2 (hB2.out.trans ((hS2.out.call hW.below).mem.below.mono hB2.out.size))) (A8 (Mem.start Wn)) rfl rfl rfl rfl rfl rfl rfl (by kernel_rfl) ?_
  intro xx g ag lg kg ax lx kx W5 hx158 hx159 hx160 hblk hM5
  simp only [sets, List.foldl_cons, List.foldl_nil, A5, A6, hx158, hx159, hx160]
  replace hS2 := A8 (hS2.out.call hM5.out.below)
  clear hM5 HD VC
  go_wp2_with fail
  refine Lk (bS := bS) (bT := bT) (bU := bU) (g := g) (q := q) (c := c) (p := pr) (sv := .slice (some ⟨sb, so, none⟩) r cp) (tv := tv) (uv := uv) (rows := x.made) (vv := (fun j => match j with | 0 => (.slice a1 n1 k1 : Value) | 1 => .slice a2 n2 k2 | 2 => .slice ag lg kg | _ => .slice ax lx kx)) (ll := (fun j => match j with | 0 => (nums : List ByteArray) | 1 => nums2 | 2 => x.hidN | _ => vecL c l)) (dd := (fun j => match j with | 0 => (d1 : ByteArray) | 1 => d2 | 2 => ⟨#[49]⟩ | _ => I (1 + pkv den 9))) (w := W5) (A8 (hS2.out.env hE2.out)) hc0 hqc (A8 ⟨A9 ltS.out hS2.out.mem.size, A9 hTc.out.1 hS2.out.mem.size, A9 hUc.out.1 hS2.out.mem.size, hblk.out.1.lt⟩) hvl (A8 ⟨hS2.out.mem.old ltS.out hSc.out.1, hS2.out.mem.old ltS.out hSc.out.2⟩) (A8 ⟨hS2.out.mem.old hTc.out.1 hTc.out.2.1, hS2.out.mem.old hTc.out.1 hTc.out.2.2⟩) (A8 ⟨hS2.out.mem.old hUc.out.1 hUc.out.2.1, hS2.out.mem.old hUc.out.1 hUc.out.2.2⟩) (A8 ⟨hR.out.below hS2.out.mem.below, hT.out.below hS2.out.mem.below, hU.out.below hS2.out.mem.below⟩) (A8 fun j hj => match j, hj with | 0, _ => ⟨hblk.out.1.cell (0 * 2), hblk.out.1.cell (0 * 2 + 1), (hS2.out.ss _ (.tail _ (.tail _ (.head _))))⟩ | 1, _ => ⟨hblk.out.1.cell (1 * 2), hblk.out.1.cell (1 * 2 + 1), (hS2.out.ss _ (.tail _ (.head _)))⟩ | 2, _ => ⟨hblk.out.1.cell (2 * 2), hblk.out.1.cell (2 * 2 + 1), hblk.out.2.1⟩ | 3, _ => ⟨hblk.out.1.cell (3 * 2), hblk.out.1.cell (3 * 2 + 1), hblk.out.2.2⟩) (by kernel_rfl) ?_
  intro _ _ _ _ _ _ _ _ _ _ _ _ _ _ _ _ _ _ _ _ _ _ _ _ _ _ _ _ _ _ _ _ _ _ _ _ _ _ _ _ _ _ _ _ _ _ _ _ _ _ _ _ _ _ _ W6 hB6
  have hfin := A8 (hB2.out.trans ((hS2.out.mem.below.trans (hB6.out.mono hS2.out.mem.size)).mono hB2.out.size))
  clear hB6 hblk hS2 hN2 hB2 hE2 hT hU hR hTc hUc hSc hNc
  go_wp2
  go_ret
  exact ⟨rfl, hfin.out⟩
 ·obtain ⟨a1, k1, rfl⟩ := hs1.shape
  have hno := A8 (show ∀ y d, ¬ SolZ x.made c y d from fun y d h => FK h (DD hrf))
  clear hrf
  have T1 := A8 (show ∀ y d, ¬ SolZ (tRows x.made pr) c y d from fun y d h => hno.out _ _ ((Gs pr).1 h))
  have T2 := A8 (show ∀ y d, ¬ SolZ (uRows x.made c q) c y d from fun y d h => hno.out _ _ (HU h))
  clear hno
  replace hS2 := A8 (hS2.out.call hb)
  replace hS2 := A8 (hS2.out.slice hs1)
  clear hb hs1 z0 z1
  obtain ⟨n1, hn1⟩ : ∃ n, n = ws.length := ⟨_, rfl⟩
  rw [← hn1] at hS2 ⊢
  replace hn1 := A8 hn1
  obtain ⟨Wn, bA, e1, b1, S1⟩ := hS2.out.add' #[.bool false, .slice none 0 0, .string ⟨#[]⟩, .slice a1 n1 k1] 38
  replace hS2 := A8 S1
  clear S1
  go_upto_region 18 with fail
  rw [← e1, ← b1]
  clear e1 b1
  have z0 := hS2.out.mem.old hTc.out.1 hTc.out.2.1
  have z1 := hS2.out.mem.old hTc.out.1 hTc.out.2.2
  go_wp2_with fail
  refine Calls.mono (CO c _ (tRows x.made pr) _ (hS2.out.env hE2.out) (hT.out.below hS2.out.mem.below) (Gt pr hvl.out) (by rw [Bq]; exact C8 x) T1.out) ?_
  rintro e w4 ⟨nv2, nums2, rfl, hs2, _, hb⟩
  obtain ⟨a2, k2, rfl⟩ := hs2.shape
  clear T1
  replace hS2 := A8 (hS2.out.call hb)
  replace hS2 := A8 (hS2.out.slice hs2)
  clear hb hs2 z0 z1
  obtain ⟨n2, hn2⟩ : ∃ n, n = nums2.length := ⟨_, rfl⟩
  rw [← hn2] at hS2 ⊢
  replace hn2 := A8 hn2
  obtain ⟨Wn, bB, e1, b1, S1⟩ := hS2.out.add' #[.bool false, .slice none 0 0, .string ⟨#[]⟩, .slice a2 n2 k2] 38
  replace hS2 := A8 S1
  clear S1
  go_upto_region 19 with fail
  rw [← e1, ← b1]
  clear e1 b1
  have z0 := hS2.out.mem.old hUc.out.1 hUc.out.2.1
  have z1 := hS2.out.mem.old hUc.out.1 hUc.out.2.2
  go_wp2_with fail
  refine Calls.mono (CO c _ (uRows x.made c q) _ (hS2.out.env hE2.out) (hU.out.below hS2.out.mem.below) (Gu q hvl.out) (by rw [Br]; exact C8 x) T2.out) ?_
  rintro e w5 ⟨nv3, nums3, rfl, hs3, _, hb⟩
  obtain ⟨a3, k3, rfl⟩ := hs3.shape
  clear T2
  replace hS2 := A8 (hS2.out.call hb)
  replace hS2 := A8 (hS2.out.slice hs3)
  clear hb hs3 z0 z1
  obtain ⟨n3, hn3⟩ : ∃ n, n = nums3.length := ⟨_, rfl⟩
  rw [← hn3] at hS2 ⊢
  replace hn3 := A8 hn3
  obtain ⟨Wn, bD, e1, b1, S1⟩ := hS2.out.add' #[.bool false, .slice none 0 0, .string ⟨#[]⟩, .slice a3 n3 k3] 38
  replace hS2 := A8 S1
  clear S1
  go_upto_region 20 with fail
  rw [← e1, ← b1]
  clear e1 b1
  have y0 := (hS2.out.cell bA _ _ (.tail _ (.tail _ (.head _))) 0).trans (show _ = some (Value.bool false) from rfl)
  have y1 := (hS2.out.cell bB _ _ (.tail _ (.head _)) 0).trans (show _ = some (Value.bool false) from rfl)
  have y2 := (hS2.out.cell bD _ _ (.head _) 0).trans (show _ = some (Value.bool false) from rfl)
  go_upto_region 22 with fail
  clear y0 y1 y2
  refine Jj (bN := bN) (bS := bS) (bA := bA) (bB := bB) (lc := nc) (kc := cc) (lh := nh) (kh := ch) (n1 := 0) (k1 := 0) (n2 := 0) (k2 := 0) (ac := ac) (ah := ah) (a1 := none) (a2 := none) (lv := lv) (d1 := ⟨#[]⟩) (d2 := ⟨#[]⟩) (dv := I (1 + pkv den 9)) (nc := x.cols) (nr := x.rows) (ms := x.miss) (den := den) (c := c) (hl := x.hidN) (vl := vecL c l) (w := Wn) (W0 := Wn) (L := []) (R := []) (A8 fun W hW => (hS2.out.call hW.below).cell bA _ _ (.tail _ (.tail _ (.head _))) 1) (A8 fun W hW => (hS2.out.call hW.below).cell bA _ _ (.tail _ (.tail _ (.head _))) 2) (A8 fun W hW => (hS2.out.call hW.below).cell bB _ _ (.tail _ (.head _)) 1) (A8 fun W hW => (hS2.out.call hW.below).cell bB _ _ (.tail _ (.head _)) 2) (A8 fun W hW => (hS2.out.call hW.below).mem.old ltN.out hNc.out.1) (A8 fun W hW => (hS2.out.call hW.below).mem.old ltN.out hNc.out.2.1) (A8 fun W hW => (hS2.out.call hW.below).mem.old ltN.out hNc.out.2.2.1) (A8 fun W hW => (hS2.out.call hW.below).mem.old ltN.out hNc.out.2.2.2.1) (A8 fun W hW => (hS2.out.call hW.below).mem.old ltN.out hNc.out.2.2.2.2) (A8 fun W hW => HD.out W (hN2.out.below (hS2.out.call hW.below).mem.below)) (A8 fun W hW => (hS2.out.call hW.below).mem.old ltS.out hSc.out.1) (A8 fun W hW => VC.out W c hc0.out.2 (hB2.out.trans ((hS2.out.call hW.below).mem.below.mono hB2.out.size))) (A8 (Mem.start Wn)) rfl rfl rfl rfl rfl rfl rfl (by kernel_rfl) ?_
  intro xx g ag lg kg ax lx kx W5 hx158 hx159 hx160 hblk hM5
  simp only [sets, List.foldl_cons, List.foldl_nil, A5, A6, hx158, hx159, hx160]
  replace hS2 := A8 (hS2.out.call hM5.out.below)
  clear hM5 HD VC
  go_wp2_with fail
  refine Lk (bS := bS) (bT := bT) (bU := bU) (g := g) (q := q) (c := c) (p := pr) (sv := .slice (some ⟨sb, so, none⟩) r cp) (tv := tv) (uv := uv) (rows := x.made) (vv := (fun j => match j with | 0 => (.slice none 0 0 : Value) | 1 => .slice none 0 0 | 2 => .slice ag lg kg | _ => .slice ax lx kx)) (ll := (fun j => match j with | 0 => ([] : List ByteArray) | 1 => [] | 2 => x.hidN | _ => vecL c l)) (dd := (fun j => match j with | 0 => (⟨#[]⟩ : ByteArray) | 1 => ⟨#[]⟩ | 2 => ⟨#[49]⟩ | _ => I (1 + pkv den 9))) (w := W5) (A8 (hS2.out.env hE2.out)) hc0 hqc (A8 ⟨A9 ltS.out hS2.out.mem.size, A9 hTc.out.1 hS2.out.mem.size, A9 hUc.out.1 hS2.out.mem.size, hblk.out.1.lt⟩) hvl (A8 ⟨hS2.out.mem.old ltS.out hSc.out.1, hS2.out.mem.old ltS.out hSc.out.2⟩) (A8 ⟨hS2.out.mem.old hTc.out.1 hTc.out.2.1, hS2.out.mem.old hTc.out.1 hTc.out.2.2⟩) (A8 ⟨hS2.out.mem.old hUc.out.1 hUc.out.2.1, hS2.out.mem.old hUc.out.1 hUc.out.2.2⟩) (A8 ⟨hR.out.below hS2.out.mem.below, hT.out.below hS2.out.mem.below, hU.out.below hS2.out.mem.below⟩) (A8 fun j hj => match j, hj with | 0, _ => ⟨hblk.out.1.cell (0 * 2), hblk.out.1.cell (0 * 2 + 1), (SlG.nil _)⟩ | 1, _ => ⟨hblk.out.1.cell (1 * 2), hblk.out.1.cell (1 * 2 + 1), (SlG.nil _)⟩ | 2, _ => ⟨hblk.out.1.cell (2 * 2), hblk.out.1.cell (2 * 2 + 1), hblk.out.2.1⟩ | 3, _ => ⟨hblk.out.1.cell (3 * 2), hblk.out.1.cell (3 * 2 + 1), hblk.out.2.2⟩) (by kernel_rfl) ?_
  intro _ _ _ _ _ _ _ _ _ _ _ _ _ _ _ _ _ _ _ _ _ _ _ _ _ _ _ _ _ _ _ _ _ _ _ _ _ _ _ _ _ _ _ _ _ _ _ _ _ _ _ _ _ _ _ W6 hB6
  have hfin := A8 (hB2.out.trans ((hS2.out.mem.below.trans (hB6.out.mono hS2.out.mem.size)).mono hB2.out.size))
  clear hB6 hblk hS2 hN2 hB2 hE2 hT hU hR hTc hUc hSc hNc
  go_wp2
  go_ret
  exact ⟨rfl, hfin.out⟩
end
end Go.Proofs.YtcmomjnailihpaaGreatDoor
