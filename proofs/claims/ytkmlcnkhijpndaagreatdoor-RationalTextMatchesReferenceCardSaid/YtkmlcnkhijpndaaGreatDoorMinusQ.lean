/- putloglaw04.minus. -/
import Derived.Test.YtkmlcnkhijpndaaGreatDoorSaneQ
namespace Go.Proofs.YtkmlcnkhijpndaaGreatDoor
open Go.RowKit
attribute [local go_sem] Oper.semAt_some

theorem zero_texts : (⟨#[48]⟩ : ByteArray) = tN (some (Rat.divInt 0 1)) ∧ (⟨#[49]⟩ : ByteArray) = tD (some (Rat.divInt 0 1)) := by decide +kernel
set_option maxRecDepth 100000 in
set_option maxHeartbeats 8000000 in
theorem minus_o {a : Option Rat} (ha : OkO a) (w : World) (hE : Env w) :
    Calls Tryz.prog 45 #[.agg #[.string (tN a), .string (tD a)]] w (Rets w (.agg #[.string (tN (oSub (some (Rat.divInt 0 1)) a)), .string (tD (oSub (some (Rat.divInt 0 1)) a))])) := by
  have SU := fun W (hE : Env W) => qsub_o (a := some (Rat.divInt 0 1)) (b := a) (OkO.some (by decide +kernel)) ha W hE
  rw [← zero_texts.1, ← zero_texts.2] at SU
  unfold oV at SU
  generalize tN (oSub (some (Rat.divInt 0 1)) a) = rn at *
  generalize tD (oSub (some (Rat.divInt 0 1)) a) = rd at *
  generalize eO (oSub (some (Rat.divInt 0 1)) a) = re at *
  generalize tN a = n at *
  generalize tD a = d at *
  have SU := Lib.hid SU
  obtain ⟨V1, e1, S1⟩ := (SL.start w).add n d
  obtain ⟨V2, e2, S2⟩ := S1.add ⟨#[]⟩ ⟨#[]⟩
  have z1 : V1.heap.size = w.heap.size + 1 := by rw [e1, World.size_alloc]
  rw [z1] at S2
  have hV : V2 = (w.alloc (.cells #[.string n, .string d] 23)).alloc (.cells #[.string ⟨#[]⟩, .string ⟨#[]⟩] 23) := by rw [e2, e1]
  clear e1 e2 S1 z1
  go_enter Tryz.func45, Tryz.ntmps45
  go_upto_region 1 with fail
  rw [← hV]
  clear hV
  have h0 := S2
  obtain ⟨x0, x1⟩ := S2.c w.heap.size n d (by simp)
  have hS := S2.drew
  clear S2
  go_cut [3] (fun s3 wx => ∃ g : Nat, s3 = .pointer (some ⟨g, 0, none⟩) ∧ wx.cell? ⟨g, 0, none⟩ = some (.string rn) ∧ wx.cell? ⟨g, 1, none⟩ = some (.string rd) ∧ SL w [(w.heap.size + 1, ⟨#[]⟩, ⟨#[]⟩), (w.heap.size, n, d)] wx)
  case first =>
    go_region_held3 (fun w' => w'.cell? ⟨w.heap.size, 0, none⟩ = some (.string n) ∧ w'.cell? ⟨w.heap.size, 1, none⟩ = some (.string d))
      (first | exact hS.c w.heap.size n d (by simp) | exact (hS.new _).c w.heap.size n d (by simp) | exact ((h0.new _).drew).c w.heap.size n d (by simp) | exact (hS.setG hge hlt _ _).c w.heap.size n d (by simp) | go_keep)
      (first | (go_at_call 24; refine (is_any _ _ _).mono ?_; rintro e w' ⟨rfl, hb⟩; (first | (have hS := hS.call hb) | (have hlt := hS.lts; have hge := hS.below.size; have hN := new_res hb; have n0 := (blk_two hN).1; have n1 := (blk_two hN).2; have m0 := hN.frozen 0; have m1 := hN.frozen 1; have hS := (hS.new _).call hb) | (have hlt := h0.lts; have hge := h0.below.size; have hN := new_res_drew hb; have n0 := (blk_two hN).1; have n1 := (blk_two hN).2; have m0 := hN.frozen 0; have m1 := hN.frozen 1; have hS := ((h0.new _).drew).call hb)); clear hb) | (go_at_call 44; refine Calls.mono (SU.out _ ?_) ?_; (first | exact hE.below hS.below (Nat.le_refl _) | exact hE.below (hS.new _).below (Nat.le_refl _)); rintro e w6 ⟨rfl, hb⟩; (first | (have hS := hS.call hb; first | (have hN := hN.below hb; have n0 := (blk_two hN).1; have n1 := (blk_two hN).2; have m0 := hN.frozen 0; have m1 := hN.frozen 1) | skip) | (have hlt := hS.lts; have hge := hS.below.size; have hN := new_res hb; have n0 := (blk_two hN).1; have n1 := (blk_two hN).2; have m0 := hN.frozen 0; have m1 := hN.frozen 1; have hS := (hS.new _).call hb)); clear hb))
    all_goals (go_wp2_with fail; go_meet; first | exact ⟨_, rfl, (blk_two (Blk.new _ _ _)).1, (blk_two (Blk.new _ _ _)).2, hS.new _⟩ | exact ⟨_, rfl, ((hN.set 0 (.string rn)).set 1 (.string rd)).cell 0, ((hN.set 0 (.string rn)).set 1 (.string rd)).cell 1, hS.setG hge hlt _ _⟩)
  case rest =>
    clear x0 x1 hS h0
    obtain ⟨g, rfl, g0, g1, hS⟩ := hcut
    obtain ⟨k0, k1, f0, f1, y0, y1, hfin⟩ := res_after (hS.blks (w.heap.size + 1, ⟨#[]⟩, ⟨#[]⟩) (by simp)) rn rd
    have hfin := Lib.hid (hfin w hS.below (Nat.le_succ _))
    clear hS
    go_wp2
    exact bodyPost_ret (v := .agg #[.string rn, .string rd]) (by simp [results, Tryz.results45, go_sem, y0, y1]) rfl ⟨rfl, hfin.out⟩
end Go.Proofs.YtkmlcnkhijpndaaGreatDoor
