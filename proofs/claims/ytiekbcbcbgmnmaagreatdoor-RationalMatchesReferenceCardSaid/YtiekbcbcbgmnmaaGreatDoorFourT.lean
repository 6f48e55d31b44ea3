/- putloglaw04.four, for arbitrary texts. -/
import Derived.Test.YtiekbcbcbgmnmaaGreatDoorFourQ
namespace Go.Proofs.YtiekbcbcbgmnmaaGreatDoor
open Go.RowKit
attribute [local go_sem] Oper.semAt_some

set_option maxRecDepth 100000 in
set_option maxHeartbeats 16000000 in
theorem four_gen (na da nb db n0 d0 n1 d1 n2 d2 n3 d3 : ByteArray) (e0 e1 e2 e3 : Int)
    (A0 : ∀ W, Env W → Calls Tryz.prog 26 #[.agg #[.string na, .string da], .agg #[.string nb, .string db]] W (Rets W (.tuple #[.agg #[.string n0, .string d0], .int .i64 e0])))
    (A1 : ∀ W, Env W → Calls Tryz.prog 32 #[.agg #[.string na, .string da], .agg #[.string nb, .string db]] W (Rets W (.tuple #[.agg #[.string n1, .string d1], .int .i64 e1])))
    (A2 : ∀ W, Env W → Calls Tryz.prog 33 #[.agg #[.string na, .string da], .agg #[.string nb, .string db]] W (Rets W (.tuple #[.agg #[.string n2, .string d2], .int .i64 e2])))
    (A3 : ∀ W, Env W → Calls Tryz.prog 28 #[.agg #[.string na, .string da], .agg #[.string nb, .string db]] W (Rets W (.tuple #[.agg #[.string n3, .string d3], .int .i64 e3])))
    (w : World) (hE : Env w) : Calls Tryz.prog 8 #[.agg #[.string na, .string da], .agg #[.string nb, .string db]] w (Rets w (Value.tuple #[.agg #[.string n0, .string d0, .string n1, .string d1, .string n2, .string d2, .string n3, .string d3], .agg #[.int .i64 e0, .int .i64 e1, .int .i64 e2, .int .i64 e3]])) := by
  obtain ⟨V0, q0, k0, b0, z0⟩ := one_block w #[.string na, .string da] 23
  obtain ⟨V1, q1, k1, b1, z1⟩ := one_block V0 #[.string nb, .string db] 23
  obtain ⟨V2, q2, k2, b2, z2⟩ := one_block V1 #[.string ⟨#[]⟩, .string ⟨#[]⟩, .string ⟨#[]⟩, .string ⟨#[]⟩, .string ⟨#[]⟩, .string ⟨#[]⟩, .string ⟨#[]⟩, .string ⟨#[]⟩] 31
  obtain ⟨V3, q3, k3, b3, z3⟩ := one_block V2 #[.int .i64 0, .int .i64 0, .int .i64 0, .int .i64 0] 33
  obtain ⟨V4, q4, k4, b4, z4⟩ := one_block V3 #[.string ⟨#[]⟩, .string ⟨#[]⟩, .string ⟨#[]⟩, .string ⟨#[]⟩, .string ⟨#[]⟩, .string ⟨#[]⟩, .string ⟨#[]⟩, .string ⟨#[]⟩] 31
  obtain ⟨V5, q5, k5, b5, z5⟩ := one_block V4 #[.int .i64 0, .int .i64 0, .int .i64 0, .int .i64 0] 33
  rw [z0] at k1 z1
  rw [z1] at k2 z2
  rw [z2] at k3 z3
  rw [z3] at k4 z4
  rw [z4] at k5 z5
  have hV : V5 = ((((((w.alloc (.cells #[.string na, .string da] 23)).alloc (.cells #[.string nb, .string db] 23)).alloc (.cells #[.string ⟨#[]⟩, .string ⟨#[]⟩, .string ⟨#[]⟩, .string ⟨#[]⟩, .string ⟨#[]⟩, .string ⟨#[]⟩, .string ⟨#[]⟩, .string ⟨#[]⟩] 31)).alloc (.cells #[.int .i64 0, .int .i64 0, .int .i64 0, .int .i64 0] 33)).alloc (.cells #[.string ⟨#[]⟩, .string ⟨#[]⟩, .string ⟨#[]⟩, .string ⟨#[]⟩, .string ⟨#[]⟩, .string ⟨#[]⟩, .string ⟨#[]⟩, .string ⟨#[]⟩] 31)).alloc (.cells #[.int .i64 0, .int .i64 0, .int .i64 0, .int .i64 0] 33)) := by rw [q5, q4, q3, q2, q1, q0]
  have k0 := k0.below b1
  have k0 := k0.below b2
  have k0 := k0.below b3
  have k0 := k0.below b4
  have k0 := k0.below b5
  have k1 := k1.below b2
  have k1 := k1.below b3
  have k1 := k1.below b4
  have k1 := k1.below b5
  have k2 := k2.below b3
  have k2 := k2.below b4
  have k2 := k2.below b5
  have k3 := k3.below b4
  have k3 := k3.below b5
  have k4 := k4.below b5
  have hB := kb_call b5 (kb_call b4 (kb_call b3 (kb_call b2 (kb_call b1 b0 (Nat.le_refl _)) (Nat.le_refl _)) (Nat.le_refl _)) (Nat.le_refl _)) (Nat.le_refl _)
  clear q0 q1 q2 q3 q4 q5 b0 b1 b2 b3 b4 b5 z0 z1 z2 z3 z4 z5
  go_enter Tryz.func8, Tryz.ntmps8
  go_wp2_with fail
  rw [← hV]
  clear hV
  refine (A0 _ (hE.below hB (Nat.le_refl _))).mono ?_
  rintro e w1 ⟨rfl, hb⟩
  have hB := kb_call hb hB (Nat.le_refl _)
  have k0 := k0.below hb
  have k1 := k1.below hb
  have k2 := k2.below hb
  have k3 := k3.below hb
  have k4 := k4.below hb
  have k5 := k5.below hb
  clear hb
  have c0 := k4.cell 0
  have c1 := k4.cell 1
  have c2 := k5.cell 0
  have g0 := k4.frozen 0
  have g1 := k4.frozen 1
  have g2 := k5.frozen 0
  simp only [List.getElem?_toArray, List.getElem?_cons_zero, List.getElem?_cons_succ] at c0 c1 c2
  obtain ⟨r4, r5, ho⟩ := four_store k4 k5 (by omega) 0 1 0 (.string n0) (.string d0) (.int .i64 e0)
  simp only [List.setIfInBounds_toArray, List.set_cons_zero, List.set_cons_succ] at r4 r5
  have hB := hB.trans (ho.toBelow hB.size (fun k hk => by simp at hk; omega))
  have k0 := k0.only ho (by simp <;> omega)
  have k1 := k1.only ho (by simp <;> omega)
  have k2 := k2.only ho (by simp <;> omega)
  have k3 := k3.only ho (by simp <;> omega)
  have k4 := r4
  have k5 := r5
  clear r4 r5 ho
  obtain ⟨x0, x1⟩ := blk_two k0
  obtain ⟨x2, x3⟩ := blk_two k1
  go_wp2_with fail
  clear x0 x1 x2 x3 c0 c1 c2 g0 g1 g2
  refine (A1 _ (hE.below hB (Nat.le_refl _))).mono ?_
  rintro e w1 ⟨rfl, hb⟩
  have hB := kb_call hb hB (Nat.le_refl _)
  have k0 := k0.below hb
  have k1 := k1.below hb
  have k2 := k2.below hb
  have k3 := k3.below hb
  have k4 := k4.below hb
  have k5 := k5.below hb
  clear hb
  have c0 := k4.cell 2
  have c1 := k4.cell 3
  have c2 := k5.cell 1
  have g0 := k4.frozen 2
  have g1 := k4.frozen 3
  have g2 := k5.frozen 1
  simp only [List.getElem?_toArray, List.getElem?_cons_zero, List.getElem?_cons_succ] at c0 c1 c2
  obtain ⟨r4, r5, ho⟩ := four_store k4 k5 (by omega) 2 3 1 (.string n1) (.string d1) (.int .i64 e1)
  simp only [List.setIfInBounds_toArray, List.set_cons_zero, List.set_cons_succ] at r4 r5
  have hB := hB.trans (ho.toBelow hB.size (fun k hk => by simp at hk; omega))
  have k0 := k0.only ho (by simp <;> omega)
  have k1 := k1.only ho (by simp <;> omega)
  have k2 := k2.only ho (by simp <;> omega)
  have k3 := k3.only ho (by simp <;> omega)
  have k4 := r4
  have k5 := r5
  clear r4 r5 ho
  obtain ⟨x0, x1⟩ := blk_two k0
  obtain ⟨x2, x3⟩ := blk_two k1
  go_wp2_with fail
  clear x0 x1 x2 x3 c0 c1 c2 g0 g1 g2
  refine (A2 _ (hE.below hB (Nat.le_refl _))).mono ?_
  rintro e w1 ⟨rfl, hb⟩
  have hB := kb_call hb hB (Nat.le_refl _)
  have k0 := k0.below hb
  have k1 := k1.below hb
  have k2 := k2.below hb
  have k3 := k3.below hb
  have k4 := k4.below hb
  have k5 := k5.below hb
  clear hb
  have c0 := k4.cell 4
  have c1 := k4.cell 5
  have c2 := k5.cell 2
  have g0 := k4.frozen 4
  have g1 := k4.frozen 5
  have g2 := k5.frozen 2
  simp only [List.getElem?_toArray, List.getElem?_cons_zero, List.getElem?_cons_succ] at c0 c1 c2
  obtain ⟨r4, r5, ho⟩ := four_store k4 k5 (by omega) 4 5 2 (.string n2) (.string d2) (.int .i64 e2)
  simp only [List.setIfInBounds_toArray, List.set_cons_zero, List.set_cons_succ] at r4 r5
  have hB := hB.trans (ho.toBelow hB.size (fun k hk => by simp at hk; omega))
  have k0 := k0.only ho (by simp <;> omega)
  have k1 := k1.only ho (by simp <;> omega)
  have k2 := k2.only ho (by simp <;> omega)
  have k3 := k3.only ho (by simp <;> omega)
  have k4 := r4
  have k5 := r5
  clear r4 r5 ho
  obtain ⟨x0, x1⟩ := blk_two k0
  obtain ⟨x2, x3⟩ := blk_two k1
  go_wp2_with fail
  clear x0 x1 x2 x3 c0 c1 c2 g0 g1 g2
  refine (A3 _ (hE.below hB (Nat.le_refl _))).mono ?_
  rintro e w1 ⟨rfl, hb⟩
  have hB := kb_call hb hB (Nat.le_refl _)
  have k0 := k0.below hb
  have k1 := k1.below hb
  have k2 := k2.below hb
  have k3 := k3.below hb
  have k4 := k4.below hb
  have k5 := k5.below hb
  clear hb
  have c0 := k4.cell 6
  have c1 := k4.cell 7
  have c2 := k5.cell 3
  have g0 := k4.frozen 6
  have g1 := k4.frozen 7
  have g2 := k5.frozen 3
  simp only [List.getElem?_toArray, List.getElem?_cons_zero, List.getElem?_cons_succ] at c0 c1 c2
  obtain ⟨r4, r5, ho⟩ := four_store k4 k5 (by omega) 6 7 3 (.string n3) (.string d3) (.int .i64 e3)
  simp only [List.setIfInBounds_toArray, List.set_cons_zero, List.set_cons_succ] at r4 r5
  have hB := hB.trans (ho.toBelow hB.size (fun k hk => by simp at hk; omega))
  have k0 := k0.only ho (by simp <;> omega)
  have k1 := k1.only ho (by simp <;> omega)
  have k2 := k2.only ho (by simp <;> omega)
  have k3 := k3.only ho (by simp <;> omega)
  have k4 := r4
  have k5 := r5
  clear r4 r5 ho
  obtain ⟨x0, x1⟩ := blk_two k0
  obtain ⟨x2, x3⟩ := blk_two k1
  go_upto_region 7 with fail
  obtain ⟨W, hW⟩ : ∃ W, W = ((w1.setCell ⟨w.heap.size + 1 + 1 + 1 + 1, 6, none⟩ (.string n3)).setCell ⟨w.heap.size + 1 + 1 + 1 + 1, 7, none⟩ (.string d3)).setCell ⟨w.heap.size + 1 + 1 + 1 + 1 + 1, 3, none⟩ (.int .i64 e3) := ⟨_, rfl⟩
  rw [← hW] at k2 k3 k4 k5 hB ⊢
  clear hW x0 x1 x2 x3 c0 c1 c2 g0 g1 g2 k0 k1 A0 A1 A2 A3
  have r0 := k4.cell 0
  have s0 := k2.cell 0
  have f0 := k2.frozen 0
  have r1 := k4.cell 1
  have s1 := k2.cell 1
  have f1 := k2.frozen 1
  have r2 := k4.cell 2
  have s2 := k2.cell 2
  have f2 := k2.frozen 2
  have r3 := k4.cell 3
  have s3 := k2.cell 3
  have f3 := k2.frozen 3
  have r4 := k4.cell 4
  have s4 := k2.cell 4
  have f4 := k2.frozen 4
  have r5 := k4.cell 5
  have s5 := k2.cell 5
  have f5 := k2.frozen 5
  have r6 := k4.cell 6
  have s6 := k2.cell 6
  have f6 := k2.frozen 6
  have r7 := k4.cell 7
  have s7 := k2.cell 7
  have f7 := k2.frozen 7
  have u0 := k5.cell 0
  have v0 := k3.cell 0
  have g0 := k3.frozen 0
  have u1 := k5.cell 1
  have v1 := k3.cell 1
  have g1 := k3.frozen 1
  have u2 := k5.cell 2
  have v2 := k3.cell 2
  have g2 := k3.frozen 2
  have u3 := k5.cell 3
  have v3 := k3.cell 3
  have g3 := k3.frozen 3
  simp only [List.getElem?_toArray, List.getElem?_cons_zero, List.getElem?_cons_succ] at r0 s0 r1 s1 r2 s2 r3 s3 r4 s4 r5 s5 r6 s6 r7 s7 u0 v0 u1 v1 u2 v2 u3 v3
  have k2 := Lib.hid k2
  have k3 := Lib.hid k3
  have hB := Lib.hid hB
  clear k4 k5
  have hk2 := k2.out
  have hk3 := k3.out
  have R1 := ((((((((hk2.set 0 (.string n0)).set 1 (.string d0)).set 2 (.string n1)).set 3 (.string d1)).set 4 (.string n2)).set 5 (.string d2)).set 6 (.string n3)).set 7 (.string d3))
  have O1 := (((((((((Only.refl [w.heap.size + 1 + 1] W).setCell (p := ⟨w.heap.size + 1 + 1, 0, none⟩) (by simp) (.string n0)).setCell (p := ⟨w.heap.size + 1 + 1, 1, none⟩) (by simp) (.string d0)).setCell (p := ⟨w.heap.size + 1 + 1, 2, none⟩) (by simp) (.string n1)).setCell (p := ⟨w.heap.size + 1 + 1, 3, none⟩) (by simp) (.string d1)).setCell (p := ⟨w.heap.size + 1 + 1, 4, none⟩) (by simp) (.string n2)).setCell (p := ⟨w.heap.size + 1 + 1, 5, none⟩) (by simp) (.string d2)).setCell (p := ⟨w.heap.size + 1 + 1, 6, none⟩) (by simp) (.string n3)).setCell (p := ⟨w.heap.size + 1 + 1, 7, none⟩) (by simp) (.string d3))
  have E1 := hk3.only O1 (by simp <;> omega)
  have E2 := ((((E1.set 0 (.int .i64 e0)).set 1 (.int .i64 e1)).set 2 (.int .i64 e2)).set 3 (.int .i64 e3))
  have O2 := (((((Only.refl [w.heap.size + 1 + 1 + 1] ((((((((W.setCell ⟨w.heap.size + 1 + 1, 0, none⟩ (.string n0)).setCell ⟨w.heap.size + 1 + 1, 1, none⟩ (.string d0)).setCell ⟨w.heap.size + 1 + 1, 2, none⟩ (.string n1)).setCell ⟨w.heap.size + 1 + 1, 3, none⟩ (.string d1)).setCell ⟨w.heap.size + 1 + 1, 4, none⟩ (.string n2)).setCell ⟨w.heap.size + 1 + 1, 5, none⟩ (.string d2)).setCell ⟨w.heap.size + 1 + 1, 6, none⟩ (.string n3)).setCell ⟨w.heap.size + 1 + 1, 7, none⟩ (.string d3))).setCell (p := ⟨w.heap.size + 1 + 1 + 1, 0, none⟩) (by simp) (.int .i64 e0)).setCell (p := ⟨w.heap.size + 1 + 1 + 1, 1, none⟩) (by simp) (.int .i64 e1)).setCell (p := ⟨w.heap.size + 1 + 1 + 1, 2, none⟩) (by simp) (.int .i64 e2)).setCell (p := ⟨w.heap.size + 1 + 1 + 1, 3, none⟩) (by simp) (.int .i64 e3))
  have R2 := (R1.only O2 (by simp <;> omega)).drew
  have E3 := E2.drew
  have B1 := hB.out.trans (O1.toBelow hB.out.size (fun k hk => by simp at hk; omega))
  have B2 := kb_drew (B1.trans (O2.toBelow B1.size (fun k hk => by simp at hk; omega)))
  simp only [List.setIfInBounds_toArray, List.set_cons_zero, List.set_cons_succ] at R2 E3
  have y0 := R2.cell 0
  have y1 := R2.cell 1
  have y2 := R2.cell 2
  have y3 := R2.cell 3
  have y4 := R2.cell 4
  have y5 := R2.cell 5
  have y6 := R2.cell 6
  have y7 := R2.cell 7
  have z0 := E3.cell 0
  have z1 := E3.cell 1
  have z2 := E3.cell 2
  have z3 := E3.cell 3
  simp only [List.getElem?_toArray, List.getElem?_cons_zero, List.getElem?_cons_succ] at y0 y1 y2 y3 y4 y5 y6 y7 z0 z1 z2 z3
  have B2 := Lib.hid B2
  clear hk2 hk3 R1 O1 E1 E2 O2 R2 E3 B1
  go_region
  go_wp2
  refine bodyPost_ret (v := .tuple #[.agg #[.string n0, .string d0, .string n1, .string d1, .string n2, .string d2, .string n3, .string d3], .agg #[.int .i64 e0, .int .i64 e1, .int .i64 e2, .int .i64 e3]]) (by simp [results, Tryz.results8, go_sem, y0, y1, y2, y3, y4, y5, y6, y7, z0, z1, z2, z3]) rfl ⟨rfl, B2.out⟩
end Go.Proofs.YtiekbcbcbgmnmaaGreatDoor
