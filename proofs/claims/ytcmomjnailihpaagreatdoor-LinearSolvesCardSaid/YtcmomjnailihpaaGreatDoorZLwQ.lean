/- LwQ -/
import Derived.Test.YtcmomjnailihpaaGreatDoorZLwE
import Derived.Deep.RegionHeld3
namespace Go.Proofs.YtcmomjnailihpaaGreatDoor
open Go.RowKit
open LnM (wd upd)
attribute [local go_sem] Oper.semAt_some
set_option maxRecDepth 100000 in
set_option maxHeartbeats 8000000 in
theorem pivot_any (t : Tb) (base : Nat) (F F' : Nat → Nat → Int) (B : Nat → Nat) (sg : Nat → Int) (d : Int) (r k : Nat) (w : World) (h : Tbl w t F B sg d) (hd : t.Dis base) (hbs : base ≤ w.heap.size) (hr : r < t.m) (hk : k < t.n)
    (hm1 : t.m ≤ 100000) (hn1 : t.n ≤ 100000) (hd0 : 0 < d) (hdw : LnM.Wide d)
    (hex : ∀ i, i < t.m + 1 → i ≠ r → ∀ j, j < t.n → F i j * F r k - F i k * F r j = d * F' i j ∧ LnM.Wide (d * F' i j)) (hrr : ∀ j, j < t.n → F' r j = F r j) :
    Calls Tryz.prog 77 #[.pointer (some ⟨t.tb, 0, none⟩), .int .i64 r, .int .i64 k] w fun e w' => e = .returned (.tuple #[]) ∧ Tbl w' t F' (upd B r k) sg (F r k) ∧ Below base w w' := by
  have hm0 : 0 < t.m := by omega
  have DV := Lib.hid (fun W => wdivider_any d hd0 hdw W)
  have xlt := h.lx hm0
  obtain ⟨a0, a1, a2, a3, a4, a5, a6, a7, a8, a9, a10, a11⟩ := range_cells h.den
  have H := Lib.hid h
  clear h
  have hr0 : (0 : Int) ≤ r := by omega
  have hr1 : (r : Int) < t.m := by omega
  have hk0 : (0 : Int) ≤ k := by omega
  have hk1 : (k : Int) < t.n := by omega
  go_enter Tryz.func77, Tryz.ntmps77
  go_wp2_with fail
  refine Calls.mono (DV.out _) ?_
  rintro e w1 ⟨z, od, B1, B2, rfl, hdo, hodd, hz, g1, g2, k1, k2, hb1⟩
  clear a0 a1 a2 a3 a4 a5 a6 a7 a8 a9 a10 a11 DV
  have H1 := Lib.hid (H.out.below hb1)
  have c0 := H1.out.c0
  rw [sl_pos hm0] at c0
  have x0 := H1.out.xs r hr
  obtain ⟨b0, b1', b2, b3, b4, b5, b6, b7, b8, b9, b10, b11⟩ := range_cells ((H1.out.grid.row r (by omega)).rd k hk)
  obtain ⟨pv, hpv⟩ : ∃ pv, pv = wd (F r k) := ⟨_, rfl⟩
  rw [← hpv] at b0 b1' b2 b3 b4 b5 b6 b7 b8 b9 b10 b11
  replace hpv := Lib.hid hpv
  go_upto_region 2 with fail
  obtain ⟨W2, hW2⟩ : ∃ W2, W2 = w1.alloc (.cells (wc pv) 73) := ⟨_, rfl⟩
  rw [← hW2]
  have hb2 : Below w1.heap.size w1 W2 := by rw [hW2]; exact (Below.refl _ _).alloc (Nat.le_refl _) _
  have hz2 : W2.heap.size = w1.heap.size + 1 := by rw [hW2]; exact World.size_alloc _ _
  have kp : Blk W2 w1.heap.size (wc pv) 73 := by rw [hW2]; exact Blk.new _ _ _
  have k1 := k1.below hb2
  have k2 := k2.below hb2
  obtain ⟨pb, hpb⟩ : ∃ pb, pb = w1.heap.size := ⟨_, rfl⟩
  rw [← hpb] at kp hz2 ⊢
  have H2 := Lib.hid (H1.out.below hb2)
  have hB2 : Below base w W2 := by
    have e1 : Below base w w1 := hb1.mono hbs
    exact e1.trans (hb2.mono (Nat.le_trans hbs hb1.size))
  have gp : w.heap.size ≤ pb := by rw [hpb]; exact hb1.size
  clear b0 b1' b2 b3 b4 b5 b6 b7 b8 b9 b10 b11 hW2 c0 x0 hb1 hpb hb2 hz2 H1
  replace hdo := Lib.hid hdo
  obtain ⟨M, hM⟩ : ∃ M, M = t.m + 1 := ⟨_, rfl⟩
  replace hM := Lib.hid hM
  have hC := Lib.hid (show ∀ W', Below W2.heap.size W2 W' → (W'.cell? ⟨t.tb, 0, none⟩ = some (.slice (some ⟨t.xb, 0, none⟩) t.m t.cx) ∧ W'.cell? ⟨t.tb, 1, none⟩ = some (.slice (some ⟨t.R t.m, 0, none⟩) t.n t.n)) from fun W' hb => by
    have e := (H2.out.below hb).c0
    rw [sl_pos hm0] at e
    exact ⟨e, (H2.out.below hb).c1⟩)
  have hmc : (t.m : Int) ≤ t.cx := by have := H2.out.mx; omega
  have hm00 : (0 : Int) ≤ t.m := by omega
  have hbd := below_drewN W2 1
  have hba : Below W2.heap.size W2 (W2.drew.alloc (.cells #[.slice (some ⟨t.R t.m, 0, none⟩) t.n t.n] 70)) := Below.alloc (below_drewN W2 1) (Nat.le_refl _) _
  refine wp_region_held_drew (S := fun w' => w'.cell? ⟨t.tb, 0, none⟩ = some (.slice (some ⟨t.xb, 0, none⟩) t.m t.cx) ∧ w'.cell? ⟨t.tb, 1, none⟩ = some (.slice (some ⟨t.R t.m, 0, none⟩) t.n t.n)) (by kernel_rfl) (hC.out _ hbd) (fun hHeld => ?_)
  refine wpAnyH_take (i := 0) (v := .pointer (some ⟨t.tb, 0, none⟩)) rfl (by kernel_rfl) (by kernel_rfl) (by kernel_rfl) (fun _ _ _ h => h) (Or.inl ⟨by rfl, fun w' hw => ?_⟩) hHeld ?_
  · dsimp only at hw; go_simp
  try simp only [List.getElem_toArray, List.getElem_cons_zero, Act.put, List.setIfInBounds_toArray, List.set_cons_succ, List.set_cons_zero]
  refine wpAnyH_take (i := 1) (v := .pointer (some ⟨t.tb, 0, none⟩)) rfl (by kernel_rfl) (by kernel_rfl) (by kernel_rfl) (fun _ _ _ h => h) (Or.inl ⟨by rfl, fun w' hw => ?_⟩) hHeld ?_
  · dsimp only at hw; go_simp
  try simp only [List.getElem_toArray, List.getElem_cons_succ, List.getElem_cons_zero, Act.put, List.setIfInBounds_toArray, List.set_cons_succ, List.set_cons_zero]
  refine wpAnyH_take (i := 2) (v := .pointer (some ⟨t.tb, 0, none⟩)) rfl (by kernel_rfl) (by kernel_rfl) (by kernel_rfl) (fun _ _ _ h => h) (Or.inl ⟨by rfl, fun w' hw => ?_⟩) hHeld ?_
  · dsimp only at hw; go_simp
  try simp only [List.getElem_toArray, List.getElem_cons_succ, List.getElem_cons_zero, Act.put, List.setIfInBounds_toArray, List.set_cons_succ, List.set_cons_zero]
  refine wpAnyH_take (i := 3) (v := .slice (some ⟨t.xb, 0, none⟩) t.m t.cx) rfl (by kernel_rfl) (by kernel_rfl) (by kernel_rfl) (fun _ _ _ h => h) (Or.inl ⟨by rfl, fun w' hw => ?_⟩) hHeld ?_
  · dsimp only at hw; go_simp
  try simp only [List.getElem_toArray, List.getElem_cons_succ, List.getElem_cons_zero, Act.put, List.setIfInBounds_toArray, List.set_cons_succ, List.set_cons_zero]
  refine wpAnyH_take (i := 4) (v := .pointer (some ⟨t.tb, 0, none⟩)) rfl (by kernel_rfl) (by kernel_rfl) (by kernel_rfl) (fun _ _ _ h => h) (Or.inl ⟨by rfl, fun w' hw => ?_⟩) hHeld ?_
  · dsimp only at hw; go_simp
  try simp only [List.getElem_toArray, List.getElem_cons_succ, List.getElem_cons_zero, Act.put, List.setIfInBounds_toArray, List.set_cons_succ, List.set_cons_zero]
  refine wpAnyH_take (i := 5) (v := .pointer (some ⟨t.tb, 0, none⟩)) rfl (by kernel_rfl) (by kernel_rfl) (by kernel_rfl) (fun _ _ _ h => h) (Or.inl ⟨by rfl, fun w' hw => ?_⟩) hHeld ?_
  · dsimp only at hw; go_simp
  try simp only [List.getElem_toArray, List.getElem_cons_succ, List.getElem_cons_zero, Act.put, List.setIfInBounds_toArray, List.set_cons_succ, List.set_cons_zero]
  refine wpAnyH_take (i := 6) (v := .pointer (some ⟨t.tb, 0, none⟩)) rfl (by kernel_rfl) (by kernel_rfl) (by kernel_rfl) (fun _ _ _ h => h) (Or.inl ⟨by rfl, fun w' hw => ?_⟩) hHeld ?_
  · dsimp only at hw; go_simp
  try simp only [List.getElem_toArray, List.getElem_cons_succ, List.getElem_cons_zero, Act.put, List.setIfInBounds_toArray, List.set_cons_succ, List.set_cons_zero]
  refine wpAnyH_take (i := 7) (v := .slice (some ⟨t.xb, 0, none⟩) t.m t.cx) rfl (by kernel_rfl) (by kernel_rfl) (by kernel_rfl) (fun _ _ _ h => h) (Or.inl ⟨by rfl, fun w' hw => ?_⟩) hHeld ?_
  · dsimp only at hw; go_simp
  try simp only [List.getElem_toArray, List.getElem_cons_succ, List.getElem_cons_zero, Act.put, List.setIfInBounds_toArray, List.set_cons_succ, List.set_cons_zero]
  refine wpAnyH_take (i := 8) (v := .int .i64 t.m) rfl (by kernel_rfl) (by kernel_rfl) (by kernel_rfl) (fun _ _ _ h => h) (Or.inl ⟨by rfl, fun w' hw => ?_⟩) hHeld ?_
  · dsimp only at hw; go_simp
  try simp only [List.getElem_toArray, List.getElem_cons_succ, List.getElem_cons_zero, Act.put, List.setIfInBounds_toArray, List.set_cons_succ, List.set_cons_zero]
  refine wpAnyH_take (i := 9) (v := .pointer (some ⟨t.tb, 0, none⟩)) rfl (by kernel_rfl) (by kernel_rfl) (by kernel_rfl) (fun _ _ _ h => h) (Or.inl ⟨by rfl, fun w' hw => ?_⟩) hHeld ?_
  · dsimp only at hw; go_simp
  try simp only [List.getElem_toArray, List.getElem_cons_succ, List.getElem_cons_zero, Act.put, List.setIfInBounds_toArray, List.set_cons_succ, List.set_cons_zero]
  refine wpAnyH_take (i := 10) (v := .pointer (some ⟨t.tb, 0, none⟩)) rfl (by kernel_rfl) (by kernel_rfl) (by kernel_rfl) (fun _ _ _ h => h) (Or.inl ⟨by rfl, fun w' hw => ?_⟩) hHeld ?_
  · dsimp only at hw; go_simp
  try simp only [List.getElem_toArray, List.getElem_cons_succ, List.getElem_cons_zero, Act.put, List.setIfInBounds_toArray, List.set_cons_succ, List.set_cons_zero]
  refine wpAnyH_take (i := 11) (v := .pointer (some ⟨t.tb, 0, none⟩)) rfl (by kernel_rfl) (by kernel_rfl) (by kernel_rfl) (fun _ _ _ h => h) (Or.inl ⟨by rfl, fun w' hw => ?_⟩) hHeld ?_
  · dsimp only at hw; go_simp
  try simp only [List.getElem_toArray, List.getElem_cons_succ, List.getElem_cons_zero, Act.put, List.setIfInBounds_toArray, List.set_cons_succ, List.set_cons_zero]
  refine wpAnyH_take (i := 12) (v := .slice (some ⟨t.xb, 0, none⟩) t.m t.cx) rfl (by kernel_rfl) (by kernel_rfl) (by kernel_rfl) (fun _ _ _ h => h) (Or.inl ⟨by rfl, fun w' hw => ?_⟩) hHeld ?_
  · dsimp only at hw; go_simp
  try simp only [List.getElem_toArray, List.getElem_cons_succ, List.getElem_cons_zero, Act.put, List.setIfInBounds_toArray, List.set_cons_succ, List.set_cons_zero]
  refine wpAnyH_take (i := 13) (v := .int .i64 t.m) rfl (by kernel_rfl) (by kernel_rfl) (by kernel_rfl) (fun _ _ _ h => h) (Or.inl ⟨by rfl, fun w' hw => ?_⟩) hHeld ?_
  · dsimp only at hw; go_simp
  try simp only [List.getElem_toArray, List.getElem_cons_succ, List.getElem_cons_zero, Act.put, List.setIfInBounds_toArray, List.set_cons_succ, List.set_cons_zero]
  refine wpAnyH_take (i := 14) (v := .slice (some ⟨t.xb, 0, none⟩) t.m t.m) rfl (by kernel_rfl) (by kernel_rfl) (by kernel_rfl) (fun _ _ _ h => h) (Or.inl ⟨by rfl, fun w' hw => ?_⟩) hHeld ?_
  · dsimp only at hw; go_simp
  try simp only [List.getElem_toArray, List.getElem_cons_succ, List.getElem_cons_zero, Act.put, List.setIfInBounds_toArray, List.set_cons_succ, List.set_cons_zero]
  refine wpAnyH_take (i := 15) (v := .pointer (some ⟨t.tb, 0, none⟩)) rfl (by kernel_rfl) (by kernel_rfl) (by kernel_rfl) (fun _ _ _ h => h) (Or.inl ⟨by rfl, fun w' hw => ?_⟩) hHeld ?_
  · dsimp only at hw; go_simp
  try simp only [List.getElem_toArray, List.getElem_cons_succ, List.getElem_cons_zero, Act.put, List.setIfInBounds_toArray, List.set_cons_succ, List.set_cons_zero]
  refine wpAnyH_take (i := 16) (v := .pointer (some ⟨t.tb, 0, none⟩)) rfl (by kernel_rfl) (by kernel_rfl) (by kernel_rfl) (fun _ _ _ h => h) (Or.inl ⟨by rfl, fun w' hw => ?_⟩) hHeld ?_
  · dsimp only at hw; go_simp
  try simp only [List.getElem_toArray, List.getElem_cons_succ, List.getElem_cons_zero, Act.put, List.setIfInBounds_toArray, List.set_cons_succ, List.set_cons_zero]
  refine wpAnyH_take (i := 17) (v := .pointer (some ⟨t.tb, 1, none⟩)) rfl (by kernel_rfl) (by kernel_rfl) (by kernel_rfl) (fun _ _ _ h => h) (Or.inl ⟨by rfl, fun w' hw => ?_⟩) hHeld ?_
  · dsimp only at hw; go_simp
  try simp only [List.getElem_toArray, List.getElem_cons_succ, List.getElem_cons_zero, Act.put, List.setIfInBounds_toArray, List.set_cons_succ, List.set_cons_zero]
  refine wpAnyH_take (i := 18) (v := .slice (some ⟨t.R t.m, 0, none⟩) t.n t.n) rfl (by kernel_rfl) (by kernel_rfl) (by kernel_rfl) (fun _ _ _ h => h) (Or.inl ⟨by rfl, fun w' hw => ?_⟩) hHeld ?_
  · dsimp only at hw; go_simp
  try simp only [List.getElem_toArray, List.getElem_cons_succ, List.getElem_cons_zero, Act.put, List.setIfInBounds_toArray, List.set_cons_succ, List.set_cons_zero]
  refine wpAnyH_take (i := 22) (v := .int .i64 0) rfl (by kernel_rfl) (by kernel_rfl) (by kernel_rfl) (fun _ _ _ h => h) (Or.inl ⟨by rfl, fun w' hw => ?_⟩) hHeld ?_
  · dsimp only at hw; go_simp
  try simp only [List.getElem_toArray, List.getElem_cons_succ, List.getElem_cons_zero, Act.put, List.setIfInBounds_toArray, List.set_cons_succ, List.set_cons_zero]
  refine wpAnyH_ready (rs := [19]) (by kernel_rfl) (by simp) ?_
  refine AllReadyH.cons rfl (fun K hK => ?_) AllReadyH.nil
  go_simp
  refine hK.out _ _ (hC.out _ hba) (fun hHeld => ?_)
  clear hK K
  try simp only [List.getElem_toArray, List.getElem_cons_succ, List.getElem_cons_zero, Act.put, List.setIfInBounds_toArray, List.set_cons_succ, List.set_cons_zero]
  refine wpAnyH_ready (rs := [20]) (by kernel_rfl) (by simp) ?_
  refine AllReadyH.cons rfl (fun K hK => ?_) AllReadyH.nil
  simp only [List.getElem_toArray, List.getElem_cons_succ, List.getElem_cons_zero]
  rw [if_pos (by rfl)]
  refine oper_app_row 69 Tryz.underlying69 _ _ rfl (some ⟨t.xb, 0, none⟩) t.m ((List.range t.m).map fun i => .slice (some ⟨t.R i, 0, none⟩) t.n t.n) rfl (fun h => by cases h) (by simp) (fun b e j u hj => ?_) W2.heap.size (.slice (some ⟨t.R t.m, 0, none⟩) t.n t.n) rfl ((Blk.new W2.drew _ _).cell 0) rfl (by omega) ?_
  · cases e
    rw [addr_add, Nat.zero_add]
    rw [List.getElem?_map] at hj
    by_cases hjm : j < t.m
    · rw [List.getElem?_range hjm] at hj
      cases hj
      exact (H2.out.below hba).xs j hjm
    · rw [List.getElem?_eq_none (by simp; omega)] at hj
      cases hj
  intro ab cap W3 hcel hge hlt hcap hmax hb3
  have hb23 := hba.trans (hb3.mono hba.size)
  rw [show t.m + 1 = M from hM.out.symm]
  refine hK.out _ _ (hC.out _ hb23) (fun hHeld => ?_)
  clear hK K
  try simp only [Act.put, List.setIfInBounds_toArray, List.set_cons_succ, List.set_cons_zero]
  refine wpAnyH_take (i := 21) (v := .int .i64 M) rfl (by kernel_rfl) (by kernel_rfl) (by kernel_rfl) (fun _ _ _ h => h) (Or.inl ⟨by rfl, fun w' hw => ?_⟩) hHeld ?_
  · dsimp only at hw; go_simp
  try simp only [List.getElem_toArray, List.getElem_cons_succ, List.getElem_cons_zero, Act.put, List.setIfInBounds_toArray, List.set_cons_succ, List.set_cons_zero]
  refine wpAnyH_done (by kernel_rfl) ?_ _
  clear hHeld
  have hcel' : ∀ i, i < M → W3.cell? ⟨ab, i, none⟩ = some (.slice (some ⟨t.R i, 0, none⟩) t.n t.n) := fun i hi => by
    refine hcel i _ ?_
    have hl : ((List.range t.m).map fun i => Value.slice (some ⟨t.R i, 0, none⟩) t.n t.n).length = t.m := by simp
    by_cases him : i < t.m
    · rw [List.getElem?_append_left (by rw [hl]; exact him), List.getElem?_map, List.getElem?_range him]; rfl
    · obtain rfl : i = t.m := by have := hM.out; omega
      rw [List.getElem?_append_right (by rw [hl]; exact Nat.le_refl _), hl, Nat.sub_self]; rfl
  have H3 := Lib.hid (H2.out.below hb23)
  have kp3 := kp.below hb23
  have k13 := k1.below hb23
  have k23 := k2.below hb23
  have hB3 : Below base w W3 := hB2.trans (hb23.mono (Nat.le_trans hbs hB2.size))
  have nr : ∀ b, w.heap.size ≤ b → b ∉ t.rows := fun b hb hm => by
    obtain ⟨i, hi, e⟩ := Tb.mem_rows.1 hm
    have := (H.out.grid.row i hi).lt
    omega
  have gab : w.heap.size ≤ ab := by
    have h1 : w.heap.size ≤ W2.heap.size := hB2.size
    exact Nat.le_trans (Nat.le_trans h1 hba.size) hge
  have lpb := kp3.lt
  have lB1 := k13.lt
  have lB2 := k23.lt
  clear hcel hge hcap hmax hb3 hb23 hba hbd hC kp k1 k2 H2 hB2
  replace hcel' := Lib.hid hcel'
  replace nr := Lib.hid nr
  replace hex := Lib.hid hex
  replace hrr := Lib.hid hrr
  replace hd := Lib.hid hd
  go_wp2_with fail
  have h0 := H3.out.grid.congr (G := fun a j => if a < 0 ∧ a ≠ r then F' a j else F a j) (fun a ha j hj => by rw [if_neg (fun h => absurd h.1 (Nat.not_lt_zero _))])
  go_loopw [49] (fun s wr => ∃ i : Nat, s = .int .i64 i ∧ i ≤ M ∧ Only t.rows W3 wr ∧ Grid wr t.R (t.m + 1) t.n (fun a j => if a < i ∧ a ≠ r then F' a j else F a j)) (fun s _ => M - (intOf s).toNat)
  case atStart => exact ⟨0, rfl, by omega, Only.refl _ _, h0⟩
  case round =>
    clear h0
    obtain ⟨i, rfl, hi, hOn, hG⟩ := hrel
    by_cases hiM : i < M
    · have hiM' : (i : Int) < M := by omega
      have hi0 : (0 : Int) ≤ i := by omega
      have him : i < t.m + 1 := by have := hM.out; omega
      have y0 : wr.cell? ⟨ab, i, none⟩ = some (.slice (some ⟨t.R i, 0, none⟩) t.n t.n) := (cell_same (hOn.block _ hlt (nr.out _ gab)) _).trans (hcel'.out i hiM)
      by_cases hir : i = r
      · have hG2 := Lib.hid (hG.congr (G := fun a j => if a < i + 1 ∧ a ≠ r then F' a j else F a j) (fun a ha j hj => by
          by_cases e : a = r
          · rw [if_neg (fun h => h.2 e), if_neg (fun h => h.2 e)]
          · by_cases c : a < i
            · rw [if_pos ⟨c, e⟩, if_pos ⟨by omega, e⟩]
            · rw [if_neg (fun h => c h.1), if_neg (fun h => by have := h.1; omega)]))
        subst hir
        clear hG
        go_wp2_with fail
        go_roundw
        case rel => exact ⟨i + 1, by go_num, by omega, hOn, hG2.out⟩
        case measure => simp [intOf]; omega
      · have hbr : ((i : Int) == (r : Int)) = false := by simp; omega
        obtain ⟨b0, b1, b2, b3, b4, b5, b6, b7, b8, b9, b10, b11⟩ := range_cells ((hG.row i him).rd k hk)
        obtain ⟨fv, hfv⟩ : ∃ fv, fv = wd (F i k) := ⟨_, rfl⟩
        rw [show (if i < i ∧ i ≠ r then F' i k else F i k) = F i k from if_neg (fun h => Nat.lt_irrefl _ h.1), ← hfv] at b0 b1 b2 b3 b4 b5 b6 b7 b8 b9 b10 b11
        replace hfv := Lib.hid hfv
        go_upto_region 7 with fail
        clear b0 b1 b2 b3 b4 b5 b6 b7 b8 b9 b10 b11 y0
        obtain ⟨W4, hW4⟩ : ∃ W4, W4 = wr.alloc (.cells (wc fv) 73) := ⟨_, rfl⟩
        rw [← hW4]
        have hb4 : Below wr.heap.size wr W4 := by rw [hW4]; exact (Below.refl _ _).alloc (Nat.le_refl _) _
        have kf : Blk W4 wr.heap.size (wc fv) 73 := by rw [hW4]; exact Blk.new _ _ _
        obtain ⟨fb, hfb⟩ : ∃ fb, fb = wr.heap.size := ⟨_, rfl⟩
        rw [← hfb] at kf ⊢
        have lfb := kf.lt
        have gfb : w.heap.size ≤ fb := by
          rw [hfb]
          exact Nat.le_trans (Nat.le_trans gab (Nat.le_of_lt hlt)) hOn.size
        have hG4 := (hG.below hb4).congr (G := fun a b => if a = i then (if b < 0 then F' a b else F a b) else if a < i ∧ a ≠ r then F' a b else F a b) (fun a ha b hb => by
          by_cases e : a = i
          · subst e; rw [if_pos rfl, if_neg (fun h => Nat.lt_irrefl _ h.1), if_neg (Nat.not_lt_zero _)]
          · rw [if_neg e])
        have hOn4 : Only t.rows W3 W4 := hOn.below hb4
        clear hG hOn hb4 hW4 hfb
        go_wp2_with fail
        go_loopw [63] (fun s wr2 => ∃ j : Nat, s = .int .i64 j ∧ j ≤ t.n ∧ Only t.rows W4 wr2 ∧ Grid wr2 t.R (t.m + 1) t.n (fun a b => if a = i then (if b < j then F' a b else F a b) else if a < i ∧ a ≠ r then F' a b else F a b)) (fun s _ => t.n - (intOf s).toNat)
        case atStart => exact ⟨0, rfl, by omega, Only.refl _ _, hG4⟩
        case round =>
          clear hG4
          obtain ⟨j, rfl, hj, hOn5, hG⟩ := hrel
          by_cases hjn : j < t.n
          · have hjn' : (j : Int) < t.n := by omega
            have hj0 : (0 : Int) ≤ j := by omega
            obtain ⟨he1, he2⟩ := hex.out i him hir j hjn
            have hOn6 : Only t.rows W3 wr := hOn4.trans hOn5
            have q1 : wr.cell? ⟨t.tb, 0, none⟩ = some (.slice (some ⟨t.xb, 0, none⟩) t.m t.cx) := by
              have e := H3.out.c0
              rw [sl_pos hm0] at e
              exact (cell_same (hOn6.block _ H3.out.lt (fun hm => by obtain ⟨a, ha, e⟩ := Tb.mem_rows.1 hm; exact hd.out.rt a ha e)) _).trans e
            have q2 : wr.cell? ⟨t.xb, r, none⟩ = some (.slice (some ⟨t.R r, 0, none⟩) t.n t.n) :=
              (cell_same (hOn6.block _ (H3.out.lx hm0) (fun hm => by obtain ⟨a, ha, e⟩ := Tb.mem_rows.1 hm; exact hd.out.rx a ha e)) _).trans (H3.out.xs r hr)
            have q3 : wr.rangeAt (t.R i) (j * 12) (wl (wd (F i j))) := by
              have := (hG.row i him).rd j hjn
              rwa [if_pos rfl, if_neg (Nat.lt_irrefl _)] at this
            have q4 : wr.rangeAt (t.R r) (j * 12) (wl (wd (F r j))) := by
              have := (hG.row r (by omega)).rd j hjn
              rwa [if_neg (fun e => hir e.symm), if_neg (fun h => h.2 rfl)] at this
            have q5 : Blk wr pb (wc pv) 73 := (hOn6.block _ lpb (nr.out _ gp)).trans kp3
            have q6 : Blk wr B1 #[.int .i64 z] 3 := (hOn6.block _ lB1 (nr.out _ g1)).trans k13
            have q7 : Blk wr B2 (wc (wd (LnM.inv od 8))) 73 := (hOn6.block _ lB2 (nr.out _ g2)).trans k23
            have q8 : Blk wr fb (wc fv) 73 := (hOn5.block _ lfb (nr.out _ gfb)).trans kf
            have q9 := (hG.row i him).wr j hjn
            have q0 := (hG.row i him).lt
            have T1 := wtimes_any (F i j) (F r k)
            have T2 := wtimes_any (F i k) (F r j)
            have MI := wminus_any (F i j * F r k) (F i k * F r j)
            rw [he1] at MI
            rw [hdo.out] at MI
            have DV := fun W k1 k2 => wdivide_any z hz od hodd (F' i j) (by rw [← hdo.out]; exact he2) B1 B2 W k1 k2
            rw [← hpv.out] at T1
            rw [← hfv.out] at T2
            rw [← wl_arr, ← wl_arr, ← wl_arr] at T1 T2 MI
            have DV2 : ∀ W, Blk W B1 #[.int .i64 z] 3 → Blk W B2 (wc (wd (LnM.inv od 8))) 73 → Calls Tryz.prog 134 #[.agg (wl (wd (2 ^ z * od * F' i j))).toArray, .pointer (some ⟨B1, 0, none⟩), .pointer (some ⟨B2, 0, none⟩)] W (Rets W (.agg (wl (wd (F' i j))).toArray)) := DV
            clear DV
            obtain ⟨ca, ea⟩ : ∃ c, c = wl (wd (F i j)) := ⟨_, rfl⟩
            obtain ⟨cp, ep⟩ : ∃ c, c = wl pv := ⟨_, rfl⟩
            obtain ⟨cf, ef⟩ : ∃ c, c = wl fv := ⟨_, rfl⟩
            obtain ⟨cr, er⟩ : ∃ c, c = wl (wd (F r j)) := ⟨_, rfl⟩
            obtain ⟨c1, e1⟩ : ∃ c, c = wl (wd (F i j * F r k)) := ⟨_, rfl⟩
            obtain ⟨c2, e2⟩ : ∃ c, c = wl (wd (F i k * F r j)) := ⟨_, rfl⟩
            obtain ⟨c3, e3⟩ : ∃ c, c = wl (wd (2 ^ z * od * F' i j)) := ⟨_, rfl⟩
            obtain ⟨c5, e5⟩ : ∃ c, c = wl (wd (F' i j)) := ⟨_, rfl⟩
            rw [← ea, ← ep, ← e1] at T1
            rw [← ef, ← er, ← e2] at T2
            rw [← e1, ← e2, ← e3] at MI
            rw [← e3, ← e5] at DV2
            rw [← ea] at q3
            rw [← er] at q4
            rw [← wl_arr, ← ep] at q5
            rw [← wl_arr, ← ef] at q8
            have la : ca.length = 12 := by rw [ea]; rfl
            have lp : cp.length = 12 := by rw [ep]; rfl
            have lf : cf.length = 12 := by rw [ef]; rfl
            have lr : cr.length = 12 := by rw [er]; rfl
            have l5 : c5.length = 12 := by rw [e5]; rfl
            have o5 : ∀ v ∈ c5, v.oneCell' = true := by rw [e5]; exact wl_one _
            have ua : (Tryz.prog.info? 73).map (·.size) = some ca.length := by rw [la]; kernel_rfl
            have up : (Tryz.prog.info? 73).map (·.size) = some cp.length := by rw [lp]; kernel_rfl
            have uf : (Tryz.prog.info? 73).map (·.size) = some cf.length := by rw [lf]; kernel_rfl
            have ur : (Tryz.prog.info? 73).map (·.size) = some cr.length := by rw [lr]; kernel_rfl
            have u5 : (Tryz.prog.info? 73).map (·.size) = some c5.length := by rw [l5]; kernel_rfl
            have hu := Tryz.underlying73
            have hC := Lib.hid (show ∀ W', Below wr.heap.size wr W' → (W'.rangeAt (t.R i) (j * 12) ca ∧ W'.rangeAt pb 0 cp ∧ W'.rangeAt fb 0 cf ∧ W'.rangeAt (t.R r) (j * 12) cr ∧ W'.cell? ⟨t.tb, 0, none⟩ = some (.slice (some ⟨t.xb, 0, none⟩) t.m t.cx) ∧ W'.cell? ⟨t.xb, r, none⟩ = some (.slice (some ⟨t.R r, 0, none⟩) t.n t.n)) from fun W' hb => by
              have hrl := (hG.row r (by omega)).lt
              refine ⟨fun a v hv => (hb.cell (p := ⟨_, _, none⟩) q0).trans (q3 a v hv), ?_, ?_, fun a v hv => (hb.cell (p := ⟨_, _, none⟩) hrl).trans (q4 a v hv), (hb.cell (p := ⟨_, _, none⟩) (Nat.lt_of_lt_of_le H3.out.lt hOn6.size)).trans q1, (hb.cell (p := ⟨_, _, none⟩) (Nat.lt_of_lt_of_le (H3.out.lx hm0) hOn6.size)).trans q2⟩
              · exact (BL.range (w := wr) (L := [(pb, cp.toArray, 73)]) ⟨hb, fun p hp => by rcases List.mem_cons.1 hp with rfl | hp; exact q5.below hb; cases hp⟩ pb cp 73 (.head _))
              · exact (BL.range (w := wr) (L := [(fb, cf.toArray, 73)]) ⟨hb, fun p hp => by rcases List.mem_cons.1 hp with rfl | hp; exact q8.below hb; cases hp⟩ fb cf 73 (.head _)))
            have hQ := Lib.hid (And.intro q6 q7)
            have hth := Lib.hid (show ∀ W', Below wr.heap.size wr W' → W'.there (t.R i) (j * 12) c5.length from fun W' hb => by
              rw [l5]
              exact fun a ha => by
                have e := hb.block _ q0
                rw [cell_same e, frozen_same e]
                exact q9 a ha)
            have hGo := Lib.hid hG
            have hOo := Lib.hid hOn5
            replace T1 := Lib.hid T1
            replace T2 := Lib.hid T2
            replace MI := Lib.hid MI
            replace DV2 := Lib.hid DV2
            replace e5 := Lib.hid e5
            clear he1 he2 hOn6 q1 q2 q3 q4 q5 q6 q7 q8 q9 ea ep ef er e1 e2 e3 hG hOn5
            go_upto_region 10 with fail
            have hb := below_drewN wr 1
            refine AnyBut.start (S := fun w' => w'.rangeAt (t.R i) (j * 12) ca ∧ w'.rangeAt pb 0 cp ∧ w'.rangeAt fb 0 cf ∧ w'.rangeAt (t.R r) (j * 12) cr ∧ w'.cell? ⟨t.tb, 0, none⟩ = some (.slice (some ⟨t.xb, 0, none⟩) t.m t.cx) ∧ w'.cell? ⟨t.xb, r, none⟩ = some (.slice (some ⟨t.R r, 0, none⟩) t.n t.n)) (st := 24) (by kernel_rfl) ?_
            refine AnyBut.take (i := 0) (v := .slice (some ⟨t.R i, 0, none⟩) t.n t.n) rfl rfl (by kernel_rfl) (by kernel_rfl) (by kernel_rfl) (by kernel_rfl) (by decide) (fun _ _ _ h => h) (hC.out _ hb) (Or.inl ⟨by rfl, fun w' hw => ?_⟩) ?_
            · dsimp only at hw; go_simp
            try simp only [List.getElem_toArray, List.getElem_cons_zero, Act.put, List.setIfInBounds_toArray, List.set_cons_succ, List.set_cons_zero]
            refine AnyBut.take (i := 1) (v := .int .i64 j) rfl rfl (by kernel_rfl) (by kernel_rfl) (by kernel_rfl) (by kernel_rfl) (by decide) (fun _ _ _ h => h) (hC.out _ hb) (Or.inl ⟨by rfl, fun w' hw => ?_⟩) ?_
            · dsimp only at hw; go_simp
            try simp only [List.getElem_toArray, List.getElem_cons_succ, List.getElem_cons_zero, Act.put, List.setIfInBounds_toArray, List.set_cons_succ, List.set_cons_zero]
            refine AnyBut.take (i := 2) (v := .func (.func 134) #[] #[.pointer (some ⟨B1, 0, none⟩), .pointer (some ⟨B2, 0, none⟩)]) rfl rfl (by kernel_rfl) (by kernel_rfl) (by kernel_rfl) (by kernel_rfl) (by decide) (fun _ _ _ h => h) (hC.out _ hb) (Or.inl ⟨by rfl, fun w' hw => ?_⟩) ?_
            · dsimp only at hw; go_simp
            try simp only [List.getElem_toArray, List.getElem_cons_succ, List.getElem_cons_zero, Act.put, List.setIfInBounds_toArray, List.set_cons_succ, List.set_cons_zero]
            refine AnyBut.take (i := 3) (v := .slice (some ⟨t.R i, 0, none⟩) t.n t.n) rfl rfl (by kernel_rfl) (by kernel_rfl) (by kernel_rfl) (by kernel_rfl) (by decide) (fun _ _ _ h => h) (hC.out _ hb) (Or.inl ⟨by rfl, fun w' hw => ?_⟩) ?_
            · dsimp only at hw; go_simp
            try simp only [List.getElem_toArray, List.getElem_cons_succ, List.getElem_cons_zero, Act.put, List.setIfInBounds_toArray, List.set_cons_succ, List.set_cons_zero]
            refine AnyBut.take (i := 4) (v := .int .i64 j) rfl rfl (by kernel_rfl) (by kernel_rfl) (by kernel_rfl) (by kernel_rfl) (by decide) (fun _ _ _ h => h) (hC.out _ hb) (Or.inl ⟨by rfl, fun w' hw => ?_⟩) ?_
            · dsimp only at hw; go_simp
            try simp only [List.getElem_toArray, List.getElem_cons_succ, List.getElem_cons_zero, Act.put, List.setIfInBounds_toArray, List.set_cons_succ, List.set_cons_zero]
            refine AnyBut.take (i := 5) (v := .pointer (some ⟨t.R i, j * 12, none⟩)) rfl rfl (by kernel_rfl) (by kernel_rfl) (by kernel_rfl) (by kernel_rfl) (by decide) (fun _ _ _ h => h) (hC.out _ hb) (Or.inl ⟨by rfl, fun w' hw => ?_⟩) ?_
            · dsimp only at hw; go_simp
            try simp only [List.getElem_toArray, List.getElem_cons_succ, List.getElem_cons_zero, Act.put, List.setIfInBounds_toArray, List.set_cons_succ, List.set_cons_zero]
            refine AnyBut.take (i := 6) (v := .agg (ca).toArray) rfl rfl (by kernel_rfl) (by kernel_rfl) (by kernel_rfl) (by kernel_rfl) (by decide) (fun _ _ _ h => h) (hC.out _ hb) (yieldsIf_load_mid (by rfl) _ _ rfl _ _ rfl _ _ (fun w' hw => hw.1) hu rfl ua) ?_
            try simp only [List.getElem_toArray, List.getElem_cons_succ, List.getElem_cons_zero, Act.put, List.setIfInBounds_toArray, List.set_cons_succ, List.set_cons_zero]
            refine AnyBut.take (i := 7) (v := .agg (cp).toArray) rfl rfl (by kernel_rfl) (by kernel_rfl) (by kernel_rfl) (by kernel_rfl) (by decide) (fun _ _ _ h => h) (hC.out _ hb) (yieldsIf_load_mid (by rfl) _ _ rfl _ _ rfl _ _ (fun w' hw => hw.2.1) hu rfl up) ?_
            try simp only [List.getElem_toArray, List.getElem_cons_succ, List.getElem_cons_zero, Act.put, List.setIfInBounds_toArray, List.set_cons_succ, List.set_cons_zero]
            refine AnyBut.take (i := 9) (v := .agg (cf).toArray) rfl rfl (by kernel_rfl) (by kernel_rfl) (by kernel_rfl) (by kernel_rfl) (by decide) (fun _ _ _ h => h) (hC.out _ hb) (yieldsIf_load_mid (by rfl) _ _ rfl _ _ rfl _ _ (fun w' hw => hw.2.2.1) hu rfl uf) ?_
            try simp only [List.getElem_toArray, List.getElem_cons_succ, List.getElem_cons_zero, Act.put, List.setIfInBounds_toArray, List.set_cons_succ, List.set_cons_zero]
            refine AnyBut.take (i := 10) (v := .pointer (some ⟨t.tb, 0, none⟩)) rfl rfl (by kernel_rfl) (by kernel_rfl) (by kernel_rfl) (by kernel_rfl) (by decide) (fun _ _ _ h => h) (hC.out _ hb) (Or.inl ⟨by rfl, fun w' hw => ?_⟩) ?_
            · dsimp only at hw; go_simp
            try simp only [List.getElem_toArray, List.getElem_cons_succ, List.getElem_cons_zero, Act.put, List.setIfInBounds_toArray, List.set_cons_succ, List.set_cons_zero]
            refine AnyBut.take (i := 11) (v := .pointer (some ⟨t.tb, 0, none⟩)) rfl rfl (by kernel_rfl) (by kernel_rfl) (by kernel_rfl) (by kernel_rfl) (by decide) (fun _ _ _ h => h) (hC.out _ hb) (Or.inl ⟨by rfl, fun w' hw => ?_⟩) ?_
            · dsimp only at hw; go_simp
            try simp only [List.getElem_toArray, List.getElem_cons_succ, List.getElem_cons_zero, Act.put, List.setIfInBounds_toArray, List.set_cons_succ, List.set_cons_zero]
            refine AnyBut.take (i := 12) (v := .pointer (some ⟨t.tb, 0, none⟩)) rfl rfl (by kernel_rfl) (by kernel_rfl) (by kernel_rfl) (by kernel_rfl) (by decide) (fun _ _ _ h => h) (hC.out _ hb) (Or.inl ⟨by rfl, fun w' hw => ?_⟩) ?_
            · dsimp only at hw; go_simp
            try simp only [List.getElem_toArray, List.getElem_cons_succ, List.getElem_cons_zero, Act.put, List.setIfInBounds_toArray, List.set_cons_succ, List.set_cons_zero]
            refine AnyBut.take (i := 13) (v := .slice (some ⟨t.xb, 0, none⟩) t.m t.cx) rfl rfl (by kernel_rfl) (by kernel_rfl) (by kernel_rfl) (by kernel_rfl) (by decide) (fun _ _ _ h => h) (hC.out _ hb) (Or.inl ⟨by rfl, fun w' hw => ?_⟩) ?_
            · dsimp only at hw; go_simp
            try simp only [List.getElem_toArray, List.getElem_cons_succ, List.getElem_cons_zero, Act.put, List.setIfInBounds_toArray, List.set_cons_succ, List.set_cons_zero]
            refine AnyBut.take (i := 14) (v := .int .i64 r) rfl rfl (by kernel_rfl) (by kernel_rfl) (by kernel_rfl) (by kernel_rfl) (by decide) (fun _ _ _ h => h) (hC.out _ hb) (Or.inl ⟨by rfl, fun w' hw => ?_⟩) ?_
            · dsimp only at hw; go_simp
            try simp only [List.getElem_toArray, List.getElem_cons_succ, List.getElem_cons_zero, Act.put, List.setIfInBounds_toArray, List.set_cons_succ, List.set_cons_zero]
            refine AnyBut.take (i := 15) (v := .pointer (some ⟨t.xb, r, none⟩)) rfl rfl (by kernel_rfl) (by kernel_rfl) (by kernel_rfl) (by kernel_rfl) (by decide) (fun _ _ _ h => h) (hC.out _ hb) (Or.inl ⟨by rfl, fun w' hw => ?_⟩) ?_
            · dsimp only at hw; go_simp
            try simp only [List.getElem_toArray, List.getElem_cons_succ, List.getElem_cons_zero, Act.put, List.setIfInBounds_toArray, List.set_cons_succ, List.set_cons_zero]
            refine AnyBut.take (i := 16) (v := .slice (some ⟨t.R r, 0, none⟩) t.n t.n) rfl rfl (by kernel_rfl) (by kernel_rfl) (by kernel_rfl) (by kernel_rfl) (by decide) (fun _ _ _ h => h) (hC.out _ hb) (Or.inl ⟨by rfl, fun w' hw => ?_⟩) ?_
            · dsimp only at hw; go_simp
            try simp only [List.getElem_toArray, List.getElem_cons_succ, List.getElem_cons_zero, Act.put, List.setIfInBounds_toArray, List.set_cons_succ, List.set_cons_zero]
            refine AnyBut.take (i := 17) (v := .int .i64 j) rfl rfl (by kernel_rfl) (by kernel_rfl) (by kernel_rfl) (by kernel_rfl) (by decide) (fun _ _ _ h => h) (hC.out _ hb) (Or.inl ⟨by rfl, fun w' hw => ?_⟩) ?_
            · dsimp only at hw; go_simp
            try simp only [List.getElem_toArray, List.getElem_cons_succ, List.getElem_cons_zero, Act.put, List.setIfInBounds_toArray, List.set_cons_succ, List.set_cons_zero]
            refine AnyBut.take (i := 18) (v := .pointer (some ⟨t.R r, j * 12, none⟩)) rfl rfl (by kernel_rfl) (by kernel_rfl) (by kernel_rfl) (by kernel_rfl) (by decide) (fun _ _ _ h => h) (hC.out _ hb) (Or.inl ⟨by rfl, fun w' hw => ?_⟩) ?_
            · dsimp only at hw; go_simp
            try simp only [List.getElem_toArray, List.getElem_cons_succ, List.getElem_cons_zero, Act.put, List.setIfInBounds_toArray, List.set_cons_succ, List.set_cons_zero]
            refine AnyBut.take (i := 19) (v := .agg (cr).toArray) rfl rfl (by kernel_rfl) (by kernel_rfl) (by kernel_rfl) (by kernel_rfl) (by decide) (fun _ _ _ h => h) (hC.out _ hb) (yieldsIf_load_mid (by rfl) _ _ rfl _ _ rfl _ _ (fun w' hw => hw.2.2.2.1) hu rfl ur) ?_
            try simp only [List.getElem_toArray, List.getElem_cons_succ, List.getElem_cons_zero, Act.put, List.setIfInBounds_toArray, List.set_cons_succ, List.set_cons_zero]
            refine AnyBut.one (i := 8) (by kernel_rfl) rfl (fun K hK => ?_)
            go_simp
            go_at_call 109
            with_reducible refine Calls.mono (T1.out _) ?_
            rintro e wx1 ⟨rfl, hbx⟩
            replace hb := hb.trans (hbx.mono hb.size)
            clear hbx
            refine hK.out _ _ (fun _ => hC.out _ hb) ?_
            clear hK K
            try simp only [List.getElem_toArray, List.getElem_cons_succ, List.getElem_cons_zero, Act.put, List.setIfInBounds_toArray, List.set_cons_succ, List.set_cons_zero]
            refine AnyBut.one (i := 20) (by kernel_rfl) rfl (fun K hK => ?_)
            go_simp
            go_at_call 109
            with_reducible refine Calls.mono (T2.out _) ?_
            rintro e wx2 ⟨rfl, hbx⟩
            replace hb := hb.trans (hbx.mono hb.size)
            clear hbx
            refine hK.out _ _ (fun _ => hC.out _ hb) ?_
            clear hK K
            try simp only [List.getElem_toArray, List.getElem_cons_succ, List.getElem_cons_zero, Act.put, List.setIfInBounds_toArray, List.set_cons_succ, List.set_cons_zero]
            refine AnyBut.one (i := 21) (by kernel_rfl) rfl (fun K hK => ?_)
            go_simp
            go_at_call 39
            with_reducible refine Calls.mono (MI.out _) ?_
            rintro e wx3 ⟨rfl, hbx⟩
            replace hb := hb.trans (hbx.mono hb.size)
            clear hbx
            refine hK.out _ _ (fun _ => hC.out _ hb) ?_
            clear hK K
            try simp only [List.getElem_toArray, List.getElem_cons_succ, List.getElem_cons_zero, Act.put, List.setIfInBounds_toArray, List.set_cons_succ, List.set_cons_zero]
            refine AnyBut.one (i := 22) (by kernel_rfl) rfl (fun K hK => ?_)
            go_simp
            go_at_call 134
            with_reducible refine Calls.mono (DV2.out _ (hQ.out.1.below hb) (hQ.out.2.below hb)) ?_
            rintro e wx4 ⟨rfl, hbx⟩
            replace hb := hb.trans (hbx.mono hb.size)
            clear hbx
            refine hK.out _ _ (fun _ => hC.out _ hb) ?_
            clear hK K
            try simp only [List.getElem_toArray, List.getElem_cons_succ, List.getElem_cons_zero, Act.put, List.setIfInBounds_toArray, List.set_cons_succ, List.set_cons_zero]
            refine AnyBut.take (i := 23) (v := .pointer (some ⟨t.R i, j * 12, none⟩)) rfl rfl (by kernel_rfl) (by kernel_rfl) (by kernel_rfl) (by kernel_rfl) (by decide) (fun _ _ _ h => h) (hC.out _ hb) (Or.inl ⟨by rfl, fun w' hw => ?_⟩) ?_
            · dsimp only at hw; go_simp
            try simp only [List.getElem_toArray, List.getElem_cons_succ, List.getElem_cons_zero, Act.put, List.setIfInBounds_toArray, List.set_cons_succ, List.set_cons_zero]
            refine AnyBut.one (i := 24) (by kernel_rfl) rfl (fun K hK => ?_)
            rw [if_pos (by rfl)]
            refine wp_store_mid _ _ _ rfl _ _ (List.toArray _) rfl rfl (by rw [List.size_toArray]; exact hth.out _ hb) (by rw [List.size_toArray]; exact u5) (all_oneCell_toArray o5) ?_
            refine hK.out _ _ (fun h => absurd rfl h) ?_
            clear hK K
            try simp only [List.getElem_toArray, List.getElem_cons_succ, List.getElem_cons_zero, Act.put]
            try simp only [List.toList_toArray]
            refine AnyBut.done (by kernel_rfl) ?_ _
            have hGn := Lib.hid (((hGo.out.below hb).set hd.out.inj him hjn (F' i j)).congr (G := fun a b => if a = i then (if b < j + 1 then F' a b else F a b) else if a < i ∧ a ≠ r then F' a b else F a b) (fun a ha b hb => by
              by_cases e : a = i
              · subst e
                rw [LnM.upd_same]
                unfold upd
                dsimp only
                by_cases e2 : b = j
                · subst e2; rw [if_pos rfl, if_pos rfl, if_pos (by omega)]
                · by_cases e3 : b < j
                  · rw [if_neg e2, if_pos rfl, if_pos rfl, if_pos e3, if_pos (by omega)]
                  · rw [if_neg e2, if_pos rfl, if_pos rfl, if_neg e3, if_neg (by omega)]
              · rw [LnM.upd_ne _ _ e, if_neg e, if_neg e]))
            rw [← e5.out] at hGn
            have hOnn := Lib.hid ((hOo.out.below hb).row him (j * 12) c5)
            clear hGo hOo
            go_wp2_with fail
            go_roundw
            case rel => exact ⟨j + 1, by go_num, by omega, hOnn.out, hGn.out⟩
            case measure => simp [intOf]; omega
          · have hjn' : ¬ (j : Int) < t.n := by omega
            have hGn := Lib.hid (hG.congr (G := fun a b => if a < i + 1 ∧ a ≠ r then F' a b else F a b) (fun a ha b hb => by
              by_cases e : a = i
              · subst e
                rw [if_pos rfl, if_pos (by omega), if_pos ⟨by omega, hir⟩]
              · rw [if_neg e]
                by_cases e2 : a = r
                · rw [if_neg (fun h => h.2 e2), if_neg (fun h => h.2 e2)]
                · by_cases e3 : a < i
                  · rw [if_pos ⟨e3, e2⟩, if_pos ⟨by omega, e2⟩]
                  · rw [if_neg (fun h => e3 h.1), if_neg (fun h => by have := h.1; omega)]))
            have hOnn := Lib.hid (hOn4.trans hOn5)
            clear hG hOn4 hOn5 hjn
            go_wp2_with fail
            go_roundw
            case rel => exact ⟨i + 1, by go_num, by omega, hOnn.out, hGn.out⟩
            case measure => simp [intOf]; omega
    · obtain rfl : i = M := by omega
      have hiM' : ¬ (i : Int) < i := by omega
      have T4 := Lib.hid (H3.out.only hd.out hOn (hG.congr (G := F') (fun a ha b hb => by
        by_cases e : a = r
        · subst e; rw [if_neg (fun h => h.2 rfl), hrr.out b hb]
        · rw [if_pos ⟨by have := hM.out; omega, e⟩])))
      have kp4 : Blk wr pb (wc pv) 73 := (hOn.block _ lpb (nr.out _ gp)).trans kp3
      have hB4 : Below base w wr := hB3.trans (hOn.toBelow (Nat.le_trans hbs (Nat.le_trans gab (Nat.le_of_lt hlt))) (Tb.rows_ge hd.out))
      obtain ⟨a0, a1, a2, a3, a4, a5, a6, a7, a8, a9, a10, a11⟩ := wc_cells kp4
      obtain ⟨b0, b1, b2, b3, b4, b5, b6, b7, b8, b9, b10, b11⟩ := range_cells T4.out.den
      have wd4 := T4.out.wden
      have f0 : wr.frozen? ⟨t.tb, 4, none⟩ = false := (wd4 0 (by decide)).2
      have f1 : wr.frozen? ⟨t.tb, 5, none⟩ = false := (wd4 1 (by decide)).2
      have f2 : wr.frozen? ⟨t.tb, 6, none⟩ = false := (wd4 2 (by decide)).2
      have f3 : wr.frozen? ⟨t.tb, 7, none⟩ = false := (wd4 3 (by decide)).2
      have f4 : wr.frozen? ⟨t.tb, 8, none⟩ = false := (wd4 4 (by decide)).2
      have f5 : wr.frozen? ⟨t.tb, 9, none⟩ = false := (wd4 5 (by decide)).2
      have f6 : wr.frozen? ⟨t.tb, 10, none⟩ = false := (wd4 6 (by decide)).2
      have f7 : wr.frozen? ⟨t.tb, 11, none⟩ = false := (wd4 7 (by decide)).2
      have f8 : wr.frozen? ⟨t.tb, 12, none⟩ = false := (wd4 8 (by decide)).2
      have f9 : wr.frozen? ⟨t.tb, 13, none⟩ = false := (wd4 9 (by decide)).2
      have f10 : wr.frozen? ⟨t.tb, 14, none⟩ = false := (wd4 10 (by decide)).2
      have f11 : wr.frozen? ⟨t.tb, 15, none⟩ = false := (wd4 11 (by decide)).2
      simp only [Nat.reduceAdd] at b0 b1 b2 b3 b4 b5 b6 b7 b8 b9 b10 b11
      clear hG hOn kp4 wd4 hex hrr hiM hi
      have T5 := T4.out.setDen hd.out (F r k)
      rw [← hpv.out] at T5
      have hB5 : Below base w (wr.setCells t.tb 4 (wl pv)) := hB4.trans ((only_setCells (wl pv) 4 wr).toBelow (Nat.le_trans hbs hB4.size) (by intro b hb; rw [List.mem_singleton.1 hb]; exact hd.out.get))
      go_upto_region 14 with fail
      obtain ⟨W5, hW5⟩ : ∃ W5, W5 = wr.setCells t.tb 4 (wl pv) := ⟨_, rfl⟩
      rw [← hW5] at T5 hB5
      rw [show ((((((((((((wr.setCell ⟨t.tb, 4, none⟩ (.int .u64 (pv 0))).setCell ⟨t.tb, 5, none⟩ (.int .u64 (pv 1))).setCell ⟨t.tb, 6, none⟩ (.int .u64 (pv 2))).setCell ⟨t.tb, 7, none⟩ (.int .u64 (pv 3))).setCell ⟨t.tb, 8, none⟩ (.int .u64 (pv 4))).setCell ⟨t.tb, 9, none⟩ (.int .u64 (pv 5))).setCell ⟨t.tb, 10, none⟩ (.int .u64 (pv 6))).setCell ⟨t.tb, 11, none⟩ (.int .u64 (pv 7))).setCell ⟨t.tb, 12, none⟩ (.int .u64 (pv 8))).setCell ⟨t.tb, 13, none⟩ (.int .u64 (pv 9))).setCell ⟨t.tb, 14, none⟩ (.int .u64 (pv 10))).setCell ⟨t.tb, 15, none⟩ (.int .u64 (pv 11))) = W5 from hW5.symm]
      clear hW5 a0 b0 f0 a1 b1 f1 a2 b2 f2 a3 b3 f3 a4 b4 f4 a5 b5 f5 a6 b6 f6 a7 b7 f7 a8 b8 f8 a9 b9 f9 a10 b10 f10 a11 b11 f11
      have c2 := T5.c2
      rw [sl_pos hm0] at c2
      obtain ⟨d1, d2⟩ := T5.bas r hr
      have T6 := Lib.hid (T5.setBas hd.out hr k)
      have hB6 : Below base w (W5.setCell ⟨t.bb, r, none⟩ (.int .i64 k)) := hB5.setCell (p := ⟨t.bb, r, none⟩) hd.out.geb _
      replace hB6 := Lib.hid hB6
      go_wp2
      go_end0
      exact ⟨rfl, T6.out, hB6.out⟩
end Go.Proofs.YtcmomjnailihpaaGreatDoor
