/- LcG, LcH, LcI, LcJ, LcK, LcL, LcM, McA, McB, McC, McD, McE -/
import Derived.Test.YtcmomjnailihpaaGreatDoorXLcD
import Derived.Deep.RegionHeld3
set_option maxHeartbeats 8000000
set_option maxRecDepth 100000
namespace Go.Proofs.YtcmomjnailihpaaGreatDoor
section
open Go.RowKit
open LnM (sm)
attribute [local go_sem] Oper.semAt_some
def equalL (na : List ByteArray) (da : ByteArray) (nb : List ByteArray) (db : ByteArray) : Bool :=
 formedL na da && formedL nb db && ((na.length : Int) == nb.length) && (List.range na.length).all (fun i => decide (zS (sAt na i) * zS db = zS (sAt nb i) * zS da))
theorem mul_T {a b : ByteArray} (ha : okS a = true) (hb : okS b = true) (hp : Small (zS a * zS b)) (W : World) (hW : Env W) : Calls Tryz.prog 50 #[.string a, .string b] W (Rets W (.tuple #[.string (I (zS a * zS b)), .int .i64 0])) := by
 have := Er a b W hW
 rw [ha, hb, Bool.and_self, BF hp] at this
 exact this.mono fun e w' h => by
  obtain ⟨⟨r, h1, h2⟩, hb⟩ := h
  exact ⟨by rw [h1, h2], hb⟩
theorem KC (va vb : Value) (na nb : List ByteArray) (da db : ByteArray) (w : World) (hE : Env w) (hA : SlS w va na) (hB : SlS w vb nb) :
  Calls Tryz.prog 21 #[.agg #[va, .string da], .agg #[vb, .string db]] w (Rets w (.bool (equalL na da nb db))) := by
 obtain ⟨aa, ca, rfl⟩ := hA.shape
 obtain ⟨ab, cb, rfl⟩ := hB.shape
 have HA := A8 hA
 have HB := A8 hB
 have FA := A8 (fun W (hW : SlS W (.slice aa na.length ca) na) => Bz _ na da W hW)
 have FB := A8 (fun W (hW : SlS W (.slice ab nb.length cb) nb) => Bz _ nb db W hW)
 unfold equalL
 cases hf : formedL na da
 ·rw [hf] at FA
  clear hf hA hB
  generalize na.length = la at *
  generalize nb.length = lb at *
  obtain ⟨V1, e1, S1, z1⟩ := (BL.start w).add' #[.slice aa la ca, .string da] 30
  obtain ⟨V2, e2, hS, z2⟩ := S1.add' #[.slice ab lb cb, .string db] 30
  rw [z1] at hS
  have hV : V2 = (w.alloc (.cells #[.slice aa la ca, .string da] 30)).alloc (.cells #[.slice ab lb cb, .string db] 30) := by rw [e2, e1]
  clear e1 e2 S1 z1 z2
  obtain ⟨x0, x1⟩ := hS.c2 w.heap.size _ _ _ (.tail _ (.head _))
  obtain ⟨y0, y1⟩ := hS.c2 (w.heap.size + 1) _ _ _ (.head _)
  go_enter Tryz.func21, Tryz.ntmps21
  go_upto_region 1 with fail
  rw [← hV]
  clear hV
  go_wp2_with fail
  refine Calls.mono (FA.out _ (HA.out.below hS.below)) ?_
  rintro e w1 ⟨rfl, hb⟩
  replace hS := hS.call hb
  clear x0 x1 y0 y1 hb
  obtain ⟨x0, x1⟩ := hS.c2 w.heap.size _ _ _ (.tail _ (.head _))
  obtain ⟨y0, y1⟩ := hS.c2 (w.heap.size + 1) _ _ _ (.head _)
  go_wp2
  go_ret
  exact ⟨Ae (by simp), hS.below⟩
 cases hg : formedL nb db
 ·rw [hf] at FA
  rw [hg] at FB
  clear hf hg hA hB
  generalize na.length = la at *
  generalize nb.length = lb at *
  obtain ⟨V1, e1, S1, z1⟩ := (BL.start w).add' #[.slice aa la ca, .string da] 30
  obtain ⟨V2, e2, hS, z2⟩ := S1.add' #[.slice ab lb cb, .string db] 30
  rw [z1] at hS
  have hV : V2 = (w.alloc (.cells #[.slice aa la ca, .string da] 30)).alloc (.cells #[.slice ab lb cb, .string db] 30) := by rw [e2, e1]
  clear e1 e2 S1 z1 z2
  obtain ⟨x0, x1⟩ := hS.c2 w.heap.size _ _ _ (.tail _ (.head _))
  obtain ⟨y0, y1⟩ := hS.c2 (w.heap.size + 1) _ _ _ (.head _)
  go_enter Tryz.func21, Tryz.ntmps21
  go_upto_region 1 with fail
  rw [← hV]
  clear hV
  go_wp2_with fail
  refine Calls.mono (FA.out _ (HA.out.below hS.below)) ?_
  rintro e w1 ⟨rfl, hb⟩
  replace hS := hS.call hb
  clear x0 x1 y0 y1 hb
  obtain ⟨x0, x1⟩ := hS.c2 w.heap.size _ _ _ (.tail _ (.head _))
  obtain ⟨y0, y1⟩ := hS.c2 (w.heap.size + 1) _ _ _ (.head _)
  go_wp2_with fail
  refine Calls.mono (FB.out _ (HB.out.below hS.below)) ?_
  rintro e w2 ⟨rfl, hb⟩
  replace hS := hS.call hb
  clear x0 x1 y0 y1 hb
  obtain ⟨x0, x1⟩ := hS.c2 w.heap.size _ _ _ (.tail _ (.head _))
  obtain ⟨y0, y1⟩ := hS.c2 (w.heap.size + 1) _ _ _ (.head _)
  go_wp2
  go_ret
  exact ⟨Ae (by simp), hS.below⟩
 by_cases hl : na.length = nb.length
 case neg =>
  have hl1 : ((na.length : Int) == nb.length) = false := by simp; omega
  have hl2 : ((na.length : Int) != nb.length) = true := by simp; omega
  rw [hf] at FA
  rw [hg] at FB
  rw [hl1]
  clear hf hg hA hB hl
  generalize na.length = la at *
  generalize nb.length = lb at *
  obtain ⟨V1, e1, S1, z1⟩ := (BL.start w).add' #[.slice aa la ca, .string da] 30
  obtain ⟨V2, e2, hS, z2⟩ := S1.add' #[.slice ab lb cb, .string db] 30
  rw [z1] at hS
  have hV : V2 = (w.alloc (.cells #[.slice aa la ca, .string da] 30)).alloc (.cells #[.slice ab lb cb, .string db] 30) := by rw [e2, e1]
  clear e1 e2 S1 z1 z2
  obtain ⟨x0, x1⟩ := hS.c2 w.heap.size _ _ _ (.tail _ (.head _))
  obtain ⟨y0, y1⟩ := hS.c2 (w.heap.size + 1) _ _ _ (.head _)
  go_enter Tryz.func21, Tryz.ntmps21
  go_upto_region 1 with fail
  rw [← hV]
  clear hV
  go_wp2_with fail
  refine Calls.mono (FA.out _ (HA.out.below hS.below)) ?_
  rintro e w1 ⟨rfl, hb⟩
  replace hS := hS.call hb
  clear x0 x1 y0 y1 hb
  obtain ⟨x0, x1⟩ := hS.c2 w.heap.size _ _ _ (.tail _ (.head _))
  obtain ⟨y0, y1⟩ := hS.c2 (w.heap.size + 1) _ _ _ (.head _)
  go_wp2_with fail
  refine Calls.mono (FB.out _ (HB.out.below hS.below)) ?_
  rintro e w2 ⟨rfl, hb⟩
  replace hS := hS.call hb
  clear x0 x1 y0 y1 hb
  obtain ⟨x0, x1⟩ := hS.c2 w.heap.size _ _ _ (.tail _ (.head _))
  obtain ⟨y0, y1⟩ := hS.c2 (w.heap.size + 1) _ _ _ (.head _)
  go_wp2
  go_ret
  exact ⟨Ae (by simp), hS.below⟩
 case pos =>
  have hl1 : ((na.length : Int) == nb.length) = true := by simp [hl]
  have hl2 : ((na.length : Int) != nb.length) = false := by simp [hl]
  obtain ⟨p1, p2, p3, p4, p5⟩ := Bo hf
  obtain ⟨q1, q2, q3, q4, q5⟩ := Bo hg
  rw [hf] at FA
  rw [hg] at FB
  rw [hl1]
  have hps : Hid (∀ i, i < na.length → okS (sAt na i) = true ∧ okS (sAt nb i) = true ∧ okS da = true ∧ okS db = true ∧ Small (zS (sAt na i) * zS db) ∧ Small (zS (sAt nb i) * zS da)) := A8 (fun i hi =>
   ⟨(p2 i hi).1, (q2 i (by omega)).1, p3, q3, ((p2 i hi).2.1.mul q4).small (by decide), ((q2 i (by omega)).2.1.mul p4).small (by decide)⟩)
  have hpost : Hid (∀ (b : Bool) k, (b = false ∧ k < na.length ∧ zS (sAt na k) * zS db ≠ zS (sAt nb k) * zS da) ∨ (b = true ∧ ∀ j, j < na.length → zS (sAt na j) * zS db = zS (sAt nb j) * zS da) → ((true && true && true && (List.range na.length).all (fun i => decide (zS (sAt na i) * zS db = zS (sAt nb i) * zS da))) = b)) := A8 (fun b k h => by
   rcases h with ⟨rfl, h1, h2⟩ | ⟨rfl, h1⟩
   ·have : (List.range na.length).all (fun i => decide (zS (sAt na i) * zS db = zS (sAt nb i) * zS da)) = false := by
     rw [List.all_eq_false]
     exact ⟨k, List.mem_range.2 h1, by simp [h2]⟩
    rw [this]; rfl
   ·have : (List.range na.length).all (fun i => decide (zS (sAt na i) * zS db = zS (sAt nb i) * zS da)) = true := by
     rw [List.all_eq_true]
     intro j hj
     exact decide_eq_true (h1 j (List.mem_range.1 hj))
    rw [this]; rfl)
  have hlh := A8 hl
  replace hE := A8 hE
  clear hf hg hA hB hl p2 q2 p3 q3 p4 q4 p5 q5
  obtain ⟨la, hla⟩ : ∃ n, n = na.length := ⟨_, rfl⟩
  obtain ⟨lb, hlb⟩ : ∃ n, n = nb.length := ⟨_, rfl⟩
  rw [← hla] at HA FA hl1 hl2 p1 hps hpost hlh ⊢
  rw [← hlb] at HB FB hl1 hl2 q1 hlh ⊢
  replace hla := A8 hla
  replace hlb := A8 hlb
  obtain ⟨V1, e1, S1, z1⟩ := (BL.start w).add' #[.slice aa la ca, .string da] 30
  obtain ⟨V2, e2, hS, z2⟩ := S1.add' #[.slice ab lb cb, .string db] 30
  rw [z1] at hS
  have hV : V2 = (w.alloc (.cells #[.slice aa la ca, .string da] 30)).alloc (.cells #[.slice ab lb cb, .string db] 30) := by rw [e2, e1]
  clear e1 e2 S1 z1 z2
  obtain ⟨x0, x1⟩ := hS.c2 w.heap.size _ _ _ (.tail _ (.head _))
  obtain ⟨y0, y1⟩ := hS.c2 (w.heap.size + 1) _ _ _ (.head _)
  go_enter Tryz.func21, Tryz.ntmps21
  go_upto_region 1 with fail
  rw [← hV]
  clear hV
  go_wp2_with fail
  refine Calls.mono (FA.out _ (HA.out.below hS.below)) ?_
  rintro e w1 ⟨rfl, hb⟩
  replace hS := hS.call hb
  clear x0 x1 y0 y1 hb
  obtain ⟨x0, x1⟩ := hS.c2 w.heap.size _ _ _ (.tail _ (.head _))
  obtain ⟨y0, y1⟩ := hS.c2 (w.heap.size + 1) _ _ _ (.head _)
  go_wp2_with fail
  refine Calls.mono (FB.out _ (HB.out.below hS.below)) ?_
  rintro e w2 ⟨rfl, hb⟩
  replace hS := hS.call hb
  clear x0 x1 y0 y1 hb
  obtain ⟨x0, x1⟩ := hS.c2 w.heap.size _ _ _ (.tail _ (.head _))
  obtain ⟨y0, y1⟩ := hS.c2 (w.heap.size + 1) _ _ _ (.head _)
  go_wp2_with fail
  clear x0 x1 y0 y1
  go_loopw [30] (fun o wr => ∃ k : Nat, o = .int .i64 k ∧ k ≤ la ∧ Hid (∀ j, j < k → zS (sAt na j) * zS db = zS (sAt nb j) * zS da) ∧ BL w [(w.heap.size + 1, #[.slice ab lb cb, .string db], 30), (w.heap.size, #[.slice aa la ca, .string da], 30)] wr) (fun o _ => la - (intOf o).toNat)
  case atStart => exact ⟨0, rfl, by omega, A8 (fun j hj => absurd hj (by omega)), hS⟩
  case round =>
   clear hS
   obtain ⟨i, rfl, hi, hall, hS⟩ := hrel
   by_cases hil : i < la
   case neg =>
    have hil' : ¬ (i : Int) < la := by omega
    obtain rfl : i = la := by omega
    go_wp2
    go_ret
    exact ⟨Ae (hpost.out true 0 (.inr ⟨rfl, hall.out⟩)).symm, hS.below⟩
   case pos =>
    have hil' : (i : Int) < la := by omega
    have hil2 : (i : Int) < lb := by have := hlh.out; omega
    have hi0 : (0 : Int) ≤ i := by omega
    obtain ⟨k1, k2, k3, k4, k5, k6⟩ := hps.out i hil
    obtain ⟨ba, oa, ea, hba, xa⟩ : ∃ b off, aa = some ⟨b, off, none⟩ ∧ b < w.heap.size ∧ w.cell? ⟨b, off + i, none⟩ = some (.string (sAt na i)) := by
     rcases HA.out with ⟨e, e2⟩ | ⟨b, off, cap', e, h1, h2, h3, h4⟩
     ·have := hla.out; rw [e2] at this; simp at this; omega
     ·cases e
      have := h4 i _ (E6 (by rw [← hla.out]; exact hil))
      rw [Nat.mul_one] at this
      exact ⟨b, off, rfl, h3, this⟩
    obtain ⟨bb, ob, eb, hbb, xb⟩ : ∃ b off, ab = some ⟨b, off, none⟩ ∧ b < w.heap.size ∧ w.cell? ⟨b, off + i, none⟩ = some (.string (sAt nb i)) := by
     rcases HB.out with ⟨e, e2⟩ | ⟨b, off, cap', e, h1, h2, h3, h4⟩
     ·have := hlb.out; rw [e2] at this; simp at this; omega
     ·cases e
      have := h4 i _ (E6 (by rw [← hlb.out]; omega))
      rw [Nat.mul_one] at this
      exact ⟨b, off, rfl, h3, this⟩
    subst ea
    subst eb
    have M1 := A8 (fun W (hW : Env W) => mul_T k1 k4 k5 W hW)
    have M2 := A8 (fun W (hW : Env W) => mul_T k2 k3 k6 W hW)
    have hfe := I_eq (zS (sAt na i) * zS db) (zS (sAt nb i) * zS da)
    obtain ⟨sa, hsa⟩ : ∃ s, s = sAt na i := ⟨_, rfl⟩
    obtain ⟨sb, hsb⟩ : ∃ s, s = sAt nb i := ⟨_, rfl⟩
    rw [← hsa] at xa M1 hfe
    rw [← hsb] at xb M2 hfe
    obtain ⟨px, hpx⟩ : ∃ s, s = I (zS sa * zS db) := ⟨_, rfl⟩
    obtain ⟨py, hpy⟩ : ∃ s, s = I (zS sb * zS da) := ⟨_, rfl⟩
    rw [← hpx] at M1 hfe
    rw [← hpy] at M2 hfe
    replace hsa := A8 hsa
    replace hsb := A8 hsb
    have hC := A8 (show ∀ W, BL w [(w.heap.size + 1, #[.slice (some ⟨bb, ob, none⟩) lb cb, .string db], 30), (w.heap.size, #[.slice (some ⟨ba, oa, none⟩) la ca, .string da], 30)] W → (W.cell? ⟨w.heap.size, 0, none⟩ = some (.slice (some ⟨ba, oa, none⟩) la ca) ∧ W.cell? ⟨w.heap.size, 1, none⟩ = some (.string da) ∧ W.cell? ⟨w.heap.size + 1, 0, none⟩ = some (.slice (some ⟨bb, ob, none⟩) lb cb) ∧ W.cell? ⟨w.heap.size + 1, 1, none⟩ = some (.string db) ∧ W.cell? ⟨ba, oa + i, none⟩ = some (.string sa) ∧ W.cell? ⟨bb, ob + i, none⟩ = some (.string sb)) from fun W h => ⟨h.cell _ _ _ (.tail _ (.head _)) 0, h.cell _ _ _ (.tail _ (.head _)) 1, h.cell _ _ _ (.head _) 0, h.cell _ _ _ (.head _) 1, (h.below.cell (p := ⟨_, _, none⟩) hba).trans xa, (h.below.cell (p := ⟨_, _, none⟩) hbb).trans xb⟩)
    clear k1 k2 k3 k4 k5 k6 hpx hpy xa xb
    go_upto_region 6 with fail
    obtain ⟨x0, x1, x2, x3, x4, x5⟩ := hC.out _ hS
    replace hS := hS.drew
    go_region_held3 (fun w' => w'.cell? ⟨w.heap.size, 0, none⟩ = some (.slice (some ⟨ba, oa, none⟩) la ca) ∧ w'.cell? ⟨w.heap.size, 1, none⟩ = some (.string da) ∧ w'.cell? ⟨w.heap.size + 1, 0, none⟩ = some (.slice (some ⟨bb, ob, none⟩) lb cb) ∧ w'.cell? ⟨w.heap.size + 1, 1, none⟩ = some (.string db) ∧ w'.cell? ⟨ba, oa + i, none⟩ = some (.string sa) ∧ w'.cell? ⟨bb, ob + i, none⟩ = some (.string sb))
     (first | with_reducible exact hC.out _ hS | go_keep)
     (first | (go_at_call 50; (with_reducible refine Calls.mono (M1.out _ (hS.env hE.out)) ?_); rintro e w' ⟨rfl, hb⟩; replace hS := hS.call hb; clear hb))
    all_goals (clear x0 x1 x2 x3 x4 x5)
    go_upto_region 7 with fail
    obtain ⟨x0, x1, x2, x3, x4, x5⟩ := hC.out _ hS
    replace hS := hS.drew
    go_region_held3 (fun w' => w'.cell? ⟨w.heap.size, 0, none⟩ = some (.slice (some ⟨ba, oa, none⟩) la ca) ∧ w'.cell? ⟨w.heap.size, 1, none⟩ = some (.string da) ∧ w'.cell? ⟨w.heap.size + 1, 0, none⟩ = some (.slice (some ⟨bb, ob, none⟩) lb cb) ∧ w'.cell? ⟨w.heap.size + 1, 1, none⟩ = some (.string db) ∧ w'.cell? ⟨ba, oa + i, none⟩ = some (.string sa) ∧ w'.cell? ⟨bb, ob + i, none⟩ = some (.string sb))
     (first | with_reducible exact hC.out _ hS | go_keep)
     (first | (go_at_call 50; (with_reducible refine Calls.mono (M2.out _ (hS.env hE.out)) ?_); rintro e w' ⟨rfl, hb⟩; replace hS := hS.call hb; clear hb))
    all_goals (clear x0 x1 x2 x3 x4 x5)
    by_cases heq : zS sa * zS db = zS sb * zS da
    ·rw [decide_eq_true heq] at hfe
     have hall2 := A8 (show ∀ j, j < i + 1 → zS (sAt na j) * zS db = zS (sAt nb j) * zS da from fun j hj => by
      by_cases e : j = i
      ·subst e; rw [← hsa.out, ← hsb.out]; exact heq
      ·exact hall.out j (by omega))
     clear heq hall
     go_wp2_with fail
     go_roundw
     case rel => exact ⟨i + 1, by go_num, by omega, hall2, hS⟩
     case measure => simp [intOf]; omega
    ·rw [decide_eq_false heq] at hfe
     have hp := hpost.out false i (.inl ⟨rfl, hil, by rw [← hsa.out, ← hsb.out]; exact heq⟩)
     replace hp := A8 hp
     clear heq
     go_wp2
     go_ret
     exact ⟨Ae hp.out.symm, hS.below⟩
end
section
open Go.RowKit
attribute [local go_sem] Oper.semAt_some
def prodZ (l : List ByteArray) : Nat → Int
 | 0 => 1
 | k + 1 => prodZ l k * zS (sAt l k)
def prodB (l : List ByteArray) (k : Nat) : Bool := (List.range k).all (fun j => decide (Small (prodZ l (j + 1))))
theorem F8 (l : List ByteArray) (k : Nat) : prodB l (k + 1) = (prodB l k && decide (Small (prodZ l (k + 1)))) := by
 unfold prodB
 rw [List.range_succ, List.all_append]
 simp
theorem LG {l : List ByteArray} {k n : Nat} (h : prodB l n = true) (hk : k ≤ n) : prodB l k = true := by
 unfold prodB at *
 rw [List.all_eq_true] at *
 intro j hj
 exact h j (List.mem_range.2 (by have := List.mem_range.1 hj; omega))
def mixF (b0 : Bool) (l : List ByteArray) (n : Nat) : Bool := b0 && prodB l n
def mixS (b0 : Bool) (l : List ByteArray) (n : Nat) : ByteArray := if b0 && prodB l n then I (prodZ l n) else ⟨#[48]⟩
theorem FW : Small 1 := by unfold Small; constructor <;> decide
theorem Do {l : List ByteArray} : ∀ {k : Nat}, prodB l k = true → Small (prodZ l k)
 | 0, _ => FW
 | k + 1, h => by rw [F8, Bool.and_eq_true, decide_eq_true_eq] at h; exact h.2
theorem F9 (l : List ByteArray) (b off cap : Nat) (Bk : Nat) (b0 : Bool) (w : World) (hl : l.length ≤ 1000) (hpos : 0 < l.length) (hbw : b < w.heap.size) (hcell : ∀ j, j < l.length → w.cell? ⟨b, off + j, none⟩ = some (.string (sAt l j))) (hok : ∀ j, j < l.length → okS (sAt l j) = true)
  (hk : Blk w Bk #[.bool b0] 4) (hbk : b ≠ Bk) (w0 : World) (hE0 : Env w0) (hw0 : Below w0.heap.size w0 w) (hBk : w0.heap.size ≤ Bk) :
  Calls Tryz.prog 58 #[.slice (some ⟨b, off, none⟩) l.length cap, .pointer (some ⟨Bk, 0, none⟩)] w fun e w' =>
   e = .returned (.string (mixS b0 l l.length)) ∧ Blk w' Bk #[.bool (mixF b0 l l.length)] 4 ∧ Only [Bk] w w' := by
 have hcell' := A8 hcell
 replace hok := A8 hok
 replace hE0 := A8 hE0
 replace hk := A8 hk
 have I1 : I (prodZ l 0) = ⟨#[49]⟩ := by show I 1 = _; unfold I; rw [Ao (by decide), Ap (by decide)]; rfl
 have hpost : Hid (∀ (r : ByteArray) (b1 : Bool), (r = ⟨#[48]⟩ ∧ b1 = false ∧ (b0 && prodB l l.length) = false) ∨ (r = I (prodZ l l.length) ∧ b1 = true ∧ (b0 && prodB l l.length) = true) → mixS b0 l l.length = r ∧ mixF b0 l l.length = b1) := A8 (fun r b1 h => by
  unfold mixS mixF
  rcases h with ⟨rfl, rfl, h⟩ | ⟨rfl, rfl, h⟩
  ·rw [h]; exact ⟨rfl, rfl⟩
  ·rw [h]; exact ⟨rfl, rfl⟩)
 obtain ⟨n, hn⟩ : ∃ n, n = l.length := ⟨_, rfl⟩
 rw [← hn] at hl hpos hcell' hok hpost ⊢
 clear hcell hn
 go_enter Tryz.func58, Tryz.ntmps58
 go_wp2_with fail
 go_loopw [4, 11] (fun x o wr => ∃ i : Nat, x = .string (I (prodZ l i)) ∧ o = .int .i64 i ∧ i ≤ n ∧ Hid ((i = 0 ∨ (b0 = true ∧ prodB l i = true))) ∧ Hid (Only [Bk] w wr) ∧ Hid (Blk wr Bk #[.bool b0] 4)) (fun _ o _ => n - (intOf o).toNat)
 case atStart => exact ⟨0, by rw [I1], rfl, by omega, A8 (.inl rfl), A8 (Only.refl _ _), hk⟩
 case round =>
  clear I1
  obtain ⟨i, rfl, rfl, hi, hst, hO, hB⟩ := hrel
  by_cases hlt : i < n
  case neg =>
   have hlt' : ¬ (i : Int) < n := by omega
   obtain rfl : i = n := by omega
   have hp := hst.out.resolve_left (by omega)
   obtain ⟨p1, p2⟩ := hpost.out (I (prodZ l i)) true (.inr ⟨rfl, rfl, by rw [hp.1, hp.2]; rfl⟩)
   have hb0 := hp.1
   replace p1 := A8 p1
   replace p2 := A8 p2
   replace hb0 := A8 hb0
   clear hp
   go_wp2
   go_ret
   exact ⟨by rw [p1.out]; rfl, by rw [p2.out, ← hb0.out]; exact hB.out, hO.out⟩
  case pos =>
   have hlt' : (i : Int) < n := by omega
   have hi0 : (0 : Int) ≤ i := by omega
   have x0 := (hO.out.cell (p := ⟨b, off + i, none⟩) hbw (by simpa using hbk)).trans (hcell'.out i hlt)
   have k1 := hok.out i hlt
   have hsi : Small (prodZ l i) := by
    rcases hst.out with rfl | h
    ·exact FW
    ·exact Do h.2
   have hpr : prodZ l (i + 1) = prodZ l i * zS (sAt l i) := rfl
   have hbs := F8 l i
   obtain ⟨s, hs⟩ : ∃ s, s = sAt l i := ⟨_, rfl⟩
   rw [← hs] at x0 k1 hpr
   obtain ⟨z, hz⟩ : ∃ z, z = prodZ l (i + 1) := ⟨_, rfl⟩
   have MU := A8 (fun W (hW : Env W) => (by have := Er (I (prodZ l i)) s W hW; rw [BT hsi, k1, C6, Bool.and_self, ← hpr, ← hz] at this; exact this : Calls Tryz.prog 50 #[.string (I (prodZ l i)), .string s] W (Gives W fun r _ => r = resT true z)))
   have hEr := hE0.out.below (hw0.trans (hO.out.toBelow hw0.size (by intro x hx; rw [List.mem_singleton.1 hx]; exact hBk))) (Aa _)
   replace hEr := A8 hEr
   generalize I (prodZ l i) = out at *
   replace hz := A8 hz
   replace hbs := A8 hbs
   clear hsi hpr hs k1
   by_cases hsm : Small z
   ·rw [BF hsm] at MU
    have hz1 : prodB l (i + 1) = prodB l i := by rw [hbs.out, ← hz.out, decide_eq_true hsm, Bool.and_true]
    cases b0 with
    | true =>
     have hst2 : prodB l (i + 1) = true := by
      rw [hz1]
      rcases hst.out with rfl | h
      ·rfl
      ·exact h.2
     replace hst2 := A8 hst2
     go_wp2_with fail
     refine Calls.mono (MU.out _ hEr.out) ?_
     rintro e w1 ⟨⟨r, rfl, rfl⟩, hb⟩
     have hO1 := A8 (hO.out.below hb)
     have hB1 := hB.out.below hb
     have y0 := hB1.cell 0
     have y1 := hB1.frozen 0
     have hB2 := hB1.set 0 (.bool true)
     have hO2 := A8 (hO1.out.setCell (p := ⟨Bk, 0, none⟩) (by simp) (.bool true))
     clear x0 hb hsm hz1
     go_wp2_with fail
     go_roundw
     case rel => exact ⟨i + 1, by rw [hz.out], by go_num, by omega, A8 (.inr ⟨(by first | trivial | rfl), hst2.out⟩), hO2, A8 hB2⟩
     case measure => simp [intOf]; omega
    | false =>
     obtain ⟨p1, p2⟩ := hpost.out ⟨#[48]⟩ false (.inl ⟨rfl, rfl, rfl⟩)
     replace p1 := A8 p1
     replace p2 := A8 p2
     go_wp2_with fail
     refine Calls.mono (MU.out _ hEr.out) ?_
     rintro e w1 ⟨⟨r, rfl, rfl⟩, hb⟩
     have hO1 := A8 (hO.out.below hb)
     have hB1 := hB.out.below hb
     have y0 := hB1.cell 0
     have y1 := hB1.frozen 0
     have hB2 := hB1.set 0 (.bool false)
     have hO2 := A8 (hO1.out.setCell (p := ⟨Bk, 0, none⟩) (by simp) (.bool false))
     clear x0 hb hsm hz1
     go_wp2
     go_ret
     exact ⟨by rw [p1.out]; rfl, by rw [p2.out]; exact hB2, hO2.out⟩
   ·rw [L8 hsm] at MU
    have hz1 : (b0 && prodB l n) = false := by
     cases hc : prodB l n with
     | false => rw [Bool.and_false]
     | true =>
      have h1 := LG hc (show i + 1 ≤ n by omega)
      rw [hbs.out, ← hz.out, decide_eq_false hsm, Bool.and_false] at h1
      cases h1
    obtain ⟨p1, p2⟩ := hpost.out ⟨#[48]⟩ false (.inl ⟨rfl, rfl, hz1⟩)
    replace p1 := A8 p1
    replace p2 := A8 p2
    have e30 : ((30 : Int) == 0) = false := rfl
    clear hz1 hsm
    cases b0 <;>
    ·go_wp2_with fail
     refine Calls.mono (MU.out _ hEr.out) ?_
     rintro e w1 ⟨⟨r, rfl, rfl⟩, hb⟩
     have hO1 := A8 (hO.out.below hb)
     have hB1 := hB.out.below hb
     have y0 := hB1.cell 0
     have y1 := hB1.frozen 0
     have hB2 := hB1.set 0 (.bool false)
     have hO2 := A8 (hO1.out.setCell (p := ⟨Bk, 0, none⟩) (by simp) (.bool false))
     clear x0 hb
     go_wp2
     go_ret
     exact ⟨by rw [p1.out]; rfl, by rw [p2.out]; exact hB2, hO2.out⟩
theorem Jz : I 0 = ⟨#[48]⟩ := by unfold I; rw [Ao (by decide), Ap (by decide)]; rfl
theorem JA {l : List ByteArray} {n : Nat} (b : Bool) : okS (mixS b l n) = true := by
 unfold mixS
 split
 ·rename_i h
  rw [Bool.and_eq_true] at h
  exact BT (Do h.2)
 ·rw [← Jz]; exact BT EM
theorem own_one {W : World} {base : Nat} {x : Value} {t : TypeId} (hb : base ≤ W.heap.size) : (W.alloc (.cells #[x] t)).ownsRow base t 1 (.slice (some ⟨W.heap.size, 0, none⟩) 1 1) 1 [x] :=
 ⟨rfl, .inr ⟨W.heap.size, 1, #[x], rfl, hb, Blk.new W #[x] t, Aa _, by unfold maxLen; decide, rfl, rfl⟩⟩
theorem above {Bk : Nat} {W W2 : World} (hb : Below W.heap.size W W2) : ∀ g o : Nat, g ≠ Bk → g < W.heap.size → W2.cell? ⟨g, o, none⟩ = W.cell? ⟨g, o, none⟩ := fun _ _ _ h2 => hb.cell (p := ⟨_, _, none⟩) h2
theorem beside {Bk : Nat} {W W2 : World} (hb : Only [Bk] W W2) : ∀ g o : Nat, g ≠ Bk → g < W.heap.size → W2.cell? ⟨g, o, none⟩ = W.cell? ⟨g, o, none⟩ := fun _ _ h1 h2 => hb.cell (p := ⟨_, _, none⟩) h2 (by simpa using h1)
theorem cells3 {W : World} {g : Nat} {a b c : ByteArray} (h : W.cell? ⟨g, 0, none⟩ = some (.string a) ∧ W.cell? ⟨g, 1, none⟩ = some (.string b) ∧ W.cell? ⟨g, 2, none⟩ = some (.string c)) : ∀ j, j < [a, b, c].length → W.cell? ⟨g, 0 + j, none⟩ = some (.string (sAt [a, b, c] j)) := fun j hj => by
 match j, hj with
 | 0, _ => exact h.1
 | 1, _ => exact h.2.1
 | 2, _ => exact h.2.2
theorem oks3 {a b c : ByteArray} (h : okS a = true ∧ okS b = true ∧ okS c = true) : ∀ j, j < [a, b, c].length → okS (sAt [a, b, c] j) = true := fun j hj => by
 match j, hj with
 | 0, _ => exact h.1
 | 1, _ => exact h.2.1
 | 2, _ => exact h.2.2
theorem mix_r5 {Q : Exit → Act → World → Prop} {u0 u1 u6 u7 u8 u9 u10 u12 u13 u14 u15 u16 u17 u18 u19 u20 u21 u22 u23 u24 u25 u26 u27 u28 u29 u30 u31 u32 u33 u34 u35 u36 u37 u38 u39 u40 u41 u42 u43 u44 u45 u46 u47 u48 u49 u50 u51 u52 u53 u54 u55 u56 u57 u58 u59 u60 u61 u62 u63 u64 u65 u66 u67 u68 u69 u70 u71 u72 u73 u74 u75 u76 u77 u78 u79 u80 u81 u82 u83 u84 u85 u86 u87 u88 u89 u90 u91 u92 u93 u94 u95 u96 u97 u98 u99 u100 u101 u102 u103 u104 u105 u106 u107 u108 u109 u110 u111 u112 u113 u114 u115 u116 u117 u118 u119 u120 u121 u122 u123 u124 u125 u126 u127 u128 u129 u130 u131 u132 u133 u134 u135 u136 u137 u138 u139 u140 u141 u142 u143 u144 u145 u146 u147 u148 u149 u150 u151 u152 : Value} {p q pq : Int} {b0 b1 Bk : Nat} {da db : ByteArray} {w0 w : World} (hE : Hid (Env w0)) (h0 : Hid (Below w0.heap.size w0 w ∧ w0.heap.size ≤ Bk)) (hpq : IntKind.i64.wrap (p + q) = pq) (hfp : Hid (Fits pq ∧ Small pq)) (hd : Hid (okS da = true ∧ okS db = true)) (hcell : Hid (∀ W, Only [Bk] w W → W.cell? ⟨b0, 1, none⟩ = some (.string da) ∧ W.cell? ⟨b1, 1, none⟩ = some (.string db))) (hBk : Hid (Bk < w.heap.size)) (hB : Hid (Blk w Bk #[.bool true] 4)) {ops : Array Oper} (ho : getOps Tryz.f23.body 5 = some ops)
  (hQ : ∀ (v50 v51 v52 v53 v54 v55 v56 v57 v58 v59 v60 v61 : Value) (gr : Nat) (W' : World), Only [Bk] w W' → Blk W' Bk #[.bool (mixF true [I pq, da, db] 3)] 4 → W'.ownsRow w.heap.size 9 1 (.slice (some ⟨gr, 0, none⟩) 1 1) 1 [.string (mixS true [I pq, da, db] 3)] → Q .normal { tmps := List.toArray (u0::u1::.int .i64 p::.int .i64 q::.pointer (some ⟨b0, 0, none⟩)::.pointer (some ⟨b1, 0, none⟩)::u6::u7::u8::u9::u10::.func (.func 58) #[] #[.pointer (some ⟨Bk, 0, none⟩)]::.slice (some ⟨gr, 0, none⟩) 1 1::u13::u14::u15::u16::u17::u18::u19::u20::u21::u22::u23::u24::u25::u26::u27::u28::u29::u30::u31::u32::u33::u34::u35::u36::u37::u38::u39::u40::u41::u42::u43::u44::u45::u46::u47::u48::u49::v50::v51::v52::v53::v54::v55::v56::v57::v58::v59::v60::v61::u62::u63::u64::u65::u66::u67::u68::u69::u70::u71::u72::u73::u74::u75::u76::u77::u78::u79::u80::u81::u82::u83::u84::u85::u86::u87::u88::u89::u90::u91::u92::u93::u94::u95::u96::u97::u98::u99::u100::u101::u102::u103::u104::u105::u106::u107::u108::u109::u110::u111::u112::u113::u114::u115::u116::u117::u118::u119::u120::u121::u122::u123::u124::u125::u126::u127::u128::u129::u130::u131::u132::u133::u134::u135::u136::u137::u138::u139::u140::u141::u142::u143::u144::u145::u146::u147::u148::u149::u150::u151::u152::[]), defers := [] } W') :
  (Code.region 5 ops true).wp Tryz.prog Q { tmps := List.toArray (u0::u1::.int .i64 p::.int .i64 q::.pointer (some ⟨b0, 0, none⟩)::.pointer (some ⟨b1, 0, none⟩)::u6::u7::u8::u9::u10::.func (.func 58) #[] #[.pointer (some ⟨Bk, 0, none⟩)]::u12::u13::u14::u15::u16::u17::u18::u19::u20::u21::u22::u23::u24::u25::u26::u27::u28::u29::u30::u31::u32::u33::u34::u35::u36::u37::u38::u39::u40::u41::u42::u43::u44::u45::u46::u47::u48::u49::u50::u51::u52::u53::u54::u55::u56::u57::u58::u59::u60::u61::u62::u63::u64::u65::u66::u67::u68::u69::u70::u71::u72::u73::u74::u75::u76::u77::u78::u79::u80::u81::u82::u83::u84::u85::u86::u87::u88::u89::u90::u91::u92::u93::u94::u95::u96::u97::u98::u99::u100::u101::u102::u103::u104::u105::u106::u107::u108::u109::u110::u111::u112::u113::u114::u115::u116::u117::u118::u119::u120::u121::u122::u123::u124::u125::u126::u127::u128::u129::u130::u131::u132::u133::u134::u135::u136::u137::u138::u139::u140::u141::u142::u143::u144::u145::u146::u147::u148::u149::u150::u151::u152::[]), defers := [] } w := by
 obtain rfl := Option.some.inj (ho.symm.trans (rfl : getOps Tryz.f23.body 5 = some _))
 clear ho
 replace hQ := A8 hQ
 obtain ⟨Iv, hI⟩ : ∃ Iv : (Nat → Bool) → Act → World → Prop, ∀ l a W, Iv l a W ↔ (∃ s50 s51 s52 s53 s54 s55 s56 s57 s58 s59 s60 s61 s12 : Value, a = { tmps := List.toArray (u0::u1::.int .i64 p::.int .i64 q::.pointer (some ⟨b0, 0, none⟩)::.pointer (some ⟨b1, 0, none⟩)::u6::u7::u8::u9::u10::.func (.func 58) #[] #[.pointer (some ⟨Bk, 0, none⟩)]::s12::u13::u14::u15::u16::u17::u18::u19::u20::u21::u22::u23::u24::u25::u26::u27::u28::u29::u30::u31::u32::u33::u34::u35::u36::u37::u38::u39::u40::u41::u42::u43::u44::u45::u46::u47::u48::u49::s50::s51::s52::s53::s54::s55::s56::s57::s58::s59::s60::s61::u62::u63::u64::u65::u66::u67::u68::u69::u70::u71::u72::u73::u74::u75::u76::u77::u78::u79::u80::u81::u82::u83::u84::u85::u86::u87::u88::u89::u90::u91::u92::u93::u94::u95::u96::u97::u98::u99::u100::u101::u102::u103::u104::u105::u106::u107::u108::u109::u110::u111::u112::u113::u114::u115::u116::u117::u118::u119::u120::u121::u122::u123::u124::u125::u126::u127::u128::u129::u130::u131::u132::u133::u134::u135::u136::u137::u138::u139::u140::u141::u142::u143::u144::u145::u146::u147::u148::u149::u150::u151::u152::[]), defers := [] } ∧ Only [Bk] w W ∧ Vs [(0, .func (.func 58) #[] #[.pointer (some ⟨Bk, 0, none⟩)], s50), (1, .int .i64 p, s51), (2, .int .i64 q, s52), (3, .int .i64 pq, s53), (5, .pointer (some ⟨b0, 1, none⟩), s55), (6, .string da, s56), (7, .pointer (some ⟨b1, 1, none⟩), s57), (8, .string db, s58)] l ∧ (l 4 = true → .string (I pq) = s54) ∧ (l 9 = true → (l 10 = false → ∃ g : Nat, s59 = .slice (some ⟨g, 0, none⟩) 3 3 ∧ (W.cell? ⟨g, 0, none⟩ = some (.string (I pq)) ∧ W.cell? ⟨g, 1, none⟩ = some (.string (da)) ∧ W.cell? ⟨g, 2, none⟩ = some (.string (db))) ∧ g < W.heap.size ∧ g ≠ Bk)) ∧ (l 10 = true → .string (mixS true [I pq, da, db] 3) = s60) ∧ (l 11 = true → (∃ g : Nat, s61 = .slice (some ⟨g, 0, none⟩) 1 1 ∧ W.ownsRow w.heap.size 9 1 (.slice (some ⟨g, 0, none⟩) 1 1) 1 [.string (mixS true [I pq, da, db] 3)])) ∧ (l 12 = true → (∃ g : Nat, s12 = .slice (some ⟨g, 0, none⟩) 1 1 ∧ W.ownsRow w.heap.size 9 1 (.slice (some ⟨g, 0, none⟩) 1 1) 1 [.string (mixS true [I pq, da, db] 3)])) ∧ ((l 10 = false → Blk W Bk #[.bool true] 4) ∧ (l 10 = true → Blk W Bk #[.bool (mixF true [I pq, da, db] 3)] 4))) := ⟨_, fun _ _ _ => Iff.rfl⟩
 refine Aj Iv (by kernel_rfl) (by kernel_rfl) ((hI _ _ _).2 ⟨_, _, _, _, _, _, _, _, _, _, _, _, _, rfl, (Only.refl [Bk] w).drewN 1, Vs.zero, fun h => off h, fun h => off h, fun h => off h, fun h => off h, fun h => off h, ⟨fun _ => hB.out.below (Ac w 1), fun h => off h⟩⟩) (Ab (k := 0) ?_ (Ab (k := 1) ?_ (Ab (k := 2) ?_ (Ab (k := 3) ?_ (Ab (k := 4) ?_ (Ab (k := 5) ?_ (Ab (k := 6) ?_ (Ab (k := 7) ?_ (Ab (k := 8) ?_ (Ab (k := 9) ?_ (Ab (k := 10) ?_ (Ab (k := 11) ?_ (Ab (k := 12) ?_ (Am)))))))))))))) ?_
 ·intro l a W hl hw hsh h K hK
  rw [hI] at h; iterate 13 obtain ⟨_, h⟩ := h
  obtain ⟨rfl, hC, hP, f4, f9, f10, h⟩ := h; obtain ⟨f11, f12, g⟩ := h
  go_simp
  apply hK.out; rw [hI]; iterate 13 apply Exists.intro
  exact ⟨rfl, hC, hP.put 0 rfl rfl rfl, f4, f9, f10, f11, f12, g⟩
 ·intro l a W hl hw hsh h K hK
  rw [hI] at h; iterate 13 obtain ⟨_, h⟩ := h
  obtain ⟨rfl, hC, hP, f4, f9, f10, h⟩ := h; obtain ⟨f11, f12, g⟩ := h
  go_simp
  apply hK.out; rw [hI]; iterate 13 apply Exists.intro
  exact ⟨rfl, hC, hP.put 1 rfl rfl rfl, f4, f9, f10, f11, f12, g⟩
 ·intro l a W hl hw hsh h K hK
  rw [hI] at h; iterate 13 obtain ⟨_, h⟩ := h
  obtain ⟨rfl, hC, hP, f4, f9, f10, h⟩ := h; obtain ⟨f11, f12, g⟩ := h
  go_simp
  apply hK.out; rw [hI]; iterate 13 apply Exists.intro
  exact ⟨rfl, hC, hP.put 2 rfl rfl rfl, f4, f9, f10, f11, f12, g⟩
 ·intro l a W hl hw hsh h K hK
  rw [hI] at h; iterate 13 obtain ⟨_, h⟩ := h
  obtain ⟨rfl, hC, hP, f4, f9, f10, h⟩ := h; obtain ⟨f11, f12, g⟩ := h
  obtain rfl := hP.get 1 rfl (hw 1 (by kernel_rfl))
  obtain rfl := hP.get 2 rfl (hw 2 (by kernel_rfl))
  go_simp
  apply hK.out; rw [hI]; iterate 13 apply Exists.intro
  exact ⟨rfl, hC, hP.put 3 rfl rfl rfl, f4, f9, f10, f11, f12, g⟩
 ·intro l a W hl hw hsh h K hK
  rw [hI] at h; iterate 13 obtain ⟨_, h⟩ := h
  obtain ⟨rfl, hC, hP, f4, f9, f10, h⟩ := h; obtain ⟨f11, f12, g⟩ := h
  obtain rfl := hP.get 3 rfl (hw 3 (by kernel_rfl))
  go_simp
  go_at_call 51
  refine Calls.mono (GA hfp.out.1 _ (hE.out.below (h0.out.1.trans (hC.toBelow h0.out.1.size (by intro x hx; rw [List.mem_singleton.1 hx]; exact h0.out.2))) (Aa _))) ?_
  rintro e W2 ⟨rfl, hb⟩
  have hcellx := @above Bk _ _ hb
  have hsz := hb.size
  apply hK.out; rw [hI]; iterate 13 apply Exists.intro
  exact ⟨rfl, hC.below hb, hP.skip 4 rfl, fun _ => rfl, (fun h h5 => (let ⟨g, e, ⟨a, b, c⟩, u, v⟩ := f9 h h5; ⟨g, e, ⟨(hcellx g 0 v u).trans a, (hcellx g 1 v u).trans b, (hcellx g 2 v u).trans c⟩, A9 u hsz, v⟩)), f10, (fun h => (let ⟨g, e, a⟩ := f11 h; ⟨g, e, Ar a hb⟩)), (fun h => (let ⟨g, e, a⟩ := f12 h; ⟨g, e, Ar a hb⟩)), ⟨fun h => (g.1 h).below hb, fun h => (g.2 h).below hb⟩⟩
 ·intro l a W hl hw hsh h K hK
  rw [hI] at h; iterate 13 obtain ⟨_, h⟩ := h
  obtain ⟨rfl, hC, hP, f4, f9, f10, h⟩ := h; obtain ⟨f11, f12, g⟩ := h
  go_simp
  apply hK.out; rw [hI]; iterate 13 apply Exists.intro
  exact ⟨rfl, hC, hP.put 4 rfl rfl rfl, f4, f9, f10, f11, f12, g⟩
 ·intro l a W hl hw hsh h K hK
  rw [hI] at h; iterate 13 obtain ⟨_, h⟩ := h
  obtain ⟨rfl, hC, hP, f4, f9, f10, h⟩ := h; obtain ⟨f11, f12, g⟩ := h
  obtain rfl := hP.get 4 rfl (hw 5 (by kernel_rfl))
  obtain ⟨x0, x1⟩ := hcell.out _ hC
  go_simp
  apply hK.out; rw [hI]; iterate 13 apply Exists.intro
  exact ⟨rfl, hC, hP.put 5 rfl rfl rfl, f4, f9, f10, f11, f12, g⟩
 ·intro l a W hl hw hsh h K hK
  rw [hI] at h; iterate 13 obtain ⟨_, h⟩ := h
  obtain ⟨rfl, hC, hP, f4, f9, f10, h⟩ := h; obtain ⟨f11, f12, g⟩ := h
  go_simp
  apply hK.out; rw [hI]; iterate 13 apply Exists.intro
  exact ⟨rfl, hC, hP.put 6 rfl rfl rfl, f4, f9, f10, f11, f12, g⟩
 ·intro l a W hl hw hsh h K hK
  rw [hI] at h; iterate 13 obtain ⟨_, h⟩ := h
  obtain ⟨rfl, hC, hP, f4, f9, f10, h⟩ := h; obtain ⟨f11, f12, g⟩ := h
  obtain rfl := hP.get 6 rfl (hw 7 (by kernel_rfl))
  obtain ⟨x0, x1⟩ := hcell.out _ hC
  go_simp
  apply hK.out; rw [hI]; iterate 13 apply Exists.intro
  exact ⟨rfl, hC, hP.put 7 rfl rfl rfl, f4, f9, f10, f11, f12, g⟩
 ·intro l a W hl hw hsh h K hK
  rw [hI] at h; iterate 13 obtain ⟨_, h⟩ := h
  obtain ⟨rfl, hC, hP, f4, f9, f10, h⟩ := h; obtain ⟨f11, f12, g⟩ := h
  obtain rfl := f4 (hw 4 (by kernel_rfl))
  obtain rfl := hP.get 5 rfl (hw 6 (by kernel_rfl))
  obtain rfl := hP.get 7 rfl (hw 8 (by kernel_rfl))
  go_simp
  have hb := (Below.refl W.heap.size W).alloc (Aa _) (.cells #[.string (I pq), .string (da), .string (db)] 9)
  have kn := Blk.new W #[.string (I pq), .string (da), .string (db)] 9
  have hcellx := @above Bk _ _ hb
  have hsz := hb.size
  apply hK.out; rw [hI]; iterate 13 apply Exists.intro
  exact ⟨rfl, hC.below hb, hP.skip 9 rfl, f4, fun _ _ => ⟨_, rfl, ⟨kn.cell 0, kn.cell 1, kn.cell 2⟩, kn.lt, fun e => by have := A9 hBk.out hC.size; omega⟩, f10, (fun h => (let ⟨g, e, a⟩ := f11 h; ⟨g, e, Ar a hb⟩)), (fun h => (let ⟨g, e, a⟩ := f12 h; ⟨g, e, Ar a hb⟩)), ⟨fun h => (g.1 h).below hb, fun h => (g.2 h).below hb⟩⟩
 ·intro l a W hl hw hsh h K hK
  rw [hI] at h; iterate 13 obtain ⟨_, h⟩ := h
  obtain ⟨rfl, hC, hP, f4, f9, f10, h⟩ := h; obtain ⟨f11, f12, g⟩ := h
  obtain rfl := hP.get 0 rfl (hw 0 (by kernel_rfl))
  have h11 : l 11 = true → true = false := fun h => absurd (hsh 11 10 _ rfl h (by kernel_rfl)) (by simp [hl])
  have h12 : l 12 = true → true = false := fun h => absurd (hsh 11 10 _ rfl (hsh 12 11 _ rfl h (by kernel_rfl)) (by kernel_rfl)) (by simp [hl])
  obtain ⟨gl, el, hgc, hgl, hgne⟩ := f9 (hw 9 (by kernel_rfl)) hl
  subst el
  go_simp
  go_at_call 58
  refine Calls.mono (F9 [I pq, da, db] gl 0 3 Bk true W (by simp) (by simp) hgl (cells3 hgc) (oks3 ⟨BT hfp.out.2, hd.out⟩) (g.1 hl) hgne w0 hE.out (h0.out.1.trans (hC.toBelow h0.out.1.size (by intro x hx; rw [List.mem_singleton.1 hx]; exact h0.out.2))) h0.out.2) ?_
  rintro e W2 ⟨rfl, hk2, ho2⟩
  have hcellx := beside ho2
  have hsz := ho2.size
  apply hK.out; rw [hI]; iterate 13 apply Exists.intro
  exact ⟨rfl, hC.trans ho2, hP.skip 10 rfl, f4, (fun _ h5 => off h5.symm), fun _ => rfl, (fun h => off ((h11 h).symm)), (fun h => off ((h12 h).symm)), ⟨fun h => off h.symm, fun _ => hk2⟩⟩
 ·intro l a W hl hw hsh h K hK
  rw [hI] at h; iterate 13 obtain ⟨_, h⟩ := h
  obtain ⟨rfl, hC, hP, f4, f9, f10, h⟩ := h; obtain ⟨f11, f12, g⟩ := h
  obtain rfl := f10 (hw 10 (by kernel_rfl))
  go_simp
  have hb := (Below.refl W.heap.size W).alloc (Aa _) (.cells #[.string (mixS true [I pq, da, db] 3)] 9)
  have hcellx := @above Bk _ _ hb
  have hsz := hb.size
  apply hK.out; rw [hI]; iterate 13 apply Exists.intro
  exact ⟨rfl, hC.below hb, hP.skip 11 rfl, f4, (fun h h5 => (let ⟨g, e, ⟨a, b, c⟩, u, v⟩ := f9 h h5; ⟨g, e, ⟨(hcellx g 0 v u).trans a, (hcellx g 1 v u).trans b, (hcellx g 2 v u).trans c⟩, A9 u hsz, v⟩)), f10, fun _ => ⟨_, rfl, own_one hC.size⟩, (fun h => (let ⟨g, e, a⟩ := f12 h; ⟨g, e, Ar a hb⟩)), ⟨fun h => (g.1 h).below hb, fun h => (g.2 h).below hb⟩⟩
 ·intro l a W hl hw hsh h K hK
  rw [hI] at h; iterate 13 obtain ⟨_, h⟩ := h
  obtain ⟨rfl, hC, hP, f4, f9, f10, h⟩ := h; obtain ⟨f11, f12, g⟩ := h
  obtain ⟨gr, rfl, hrow⟩ := f11 (hw 11 (by kernel_rfl))
  go_simp
  apply hK.out; rw [hI]; iterate 13 apply Exists.intro
  exact ⟨rfl, hC, hP.skip 12 rfl, f4, f9, f10, f11, fun _ => ⟨gr, rfl, hrow⟩, g⟩
 ·intro a W hI'
  have h := (hI _ _ _).1 hI'; clear hI'; iterate 13 obtain ⟨_, h⟩ := h
  obtain ⟨rfl, hC, hP, f4, f9, f10, h⟩ := h; obtain ⟨f11, f12, g⟩ := h
  clear f4
  clear f9
  clear f10
  clear f11
  obtain ⟨gr, rfl, hrow⟩ := f12 (by kernel_rfl)
  exact hQ.out _ _ _ _ _ _ _ _ _ _ _ _ gr _ hC (g.2 (by kernel_rfl)) hrow
theorem mix_r9 {Q : Exit → Act → World → Prop} {u0 u1 u6 u7 u8 u9 u10 u12 u14 u15 u16 u17 u18 u19 u20 u21 u22 u23 u24 u25 u26 u27 u28 u29 u30 u31 u32 u33 u34 u35 u36 u37 u38 u39 u40 u41 u42 u43 u44 u45 u46 u47 u48 u49 u50 u51 u52 u53 u54 u55 u56 u57 u58 u59 u60 u61 u62 u63 u64 u65 u66 u67 u68 u69 u70 u71 u72 u73 u74 u75 u76 u77 u78 u79 u80 u81 u82 u83 u84 u85 u86 u87 u88 u89 u90 u91 u92 u93 u94 u95 u96 u97 u98 u99 u100 u101 u102 u103 u104 u105 u106 u107 u108 u109 u110 u111 u112 u113 u114 u115 u116 u117 u118 u119 u120 u121 u122 u123 u124 u125 u126 u127 u128 u129 u130 u131 u132 u133 u134 u135 u136 u137 u138 u139 u140 u141 u142 u143 u144 u145 u146 u147 u148 u149 u150 u151 u152 : Value} {p q : Int} {b0 b1 Bk n i ga oa ca gb ob cb : Nat} {fl : Bool} {da db sa sb S : ByteArray} {E : Int} {w0 w : World} (hE : Hid (Env w0)) (h0 : Hid (Below w0.heap.size w0 w ∧ w0.heap.size ≤ Bk)) (hfp : Hid (Fits p ∧ Small p)) (hfq : Hid (Fits q ∧ Small q)) (hd : Hid (okS da = true ∧ okS db = true ∧ okS sa = true ∧ okS sb = true)) (hi : (i : Int) < n) (hi0 : (0 : Int) ≤ i)
  (hcell : Hid (∀ W, Only [Bk] w W → W.cell? ⟨b0, 0, none⟩ = some (.slice (some ⟨ga, oa, none⟩) n ca) ∧ W.cell? ⟨b0, 1, none⟩ = some (.string da) ∧ W.cell? ⟨b1, 0, none⟩ = some (.slice (some ⟨gb, ob, none⟩) n cb) ∧ W.cell? ⟨b1, 1, none⟩ = some (.string db) ∧ W.cell? ⟨ga, oa + i, none⟩ = some (.string sa) ∧ W.cell? ⟨gb, ob + i, none⟩ = some (.string sb))) (hBk : Hid (Bk < w.heap.size)) (hB : Hid (Blk w Bk #[.bool fl] 4))
  (hAd : Hid (resT true (zS (mixS fl [I p, sa, db] 3) + zS (mixS (mixF fl [I p, sa, db] 3) [I q, sb, da] 3)) = .tuple #[.string S, .int .i64 E])) {ops : Array Oper} (ho : getOps Tryz.f23.body 9 = some ops)
  (hQ : ∀ (v69 v70 v71 v72 v73 v74 v75 v76 v77 v78 v79 v80 v81 v82 v83 v84 v85 v86 v87 v88 v89 v90 v91 v92 v93 v68 v94 v95 : Value)  (W' : World), Only [Bk] w W' → Blk W' Bk #[.bool (mixF (mixF fl [I p, sa, db] 3) [I q, sb, da] 3)] 4 → Q .normal { tmps := List.toArray (u0::u1::.int .i64 p::.int .i64 q::.pointer (some ⟨b0, 0, none⟩)::.pointer (some ⟨b1, 0, none⟩)::u6::u7::u8::u9::u10::.func (.func 58) #[] #[.pointer (some ⟨Bk, 0, none⟩)]::u12::.int .i64 i::.string S::.int .i64 E::u16::u17::u18::u19::u20::u21::u22::u23::u24::u25::u26::u27::u28::u29::u30::u31::u32::u33::u34::u35::u36::u37::u38::u39::u40::u41::u42::u43::u44::u45::u46::u47::u48::u49::u50::u51::u52::u53::u54::u55::u56::u57::u58::u59::u60::u61::u62::u63::u64::u65::u66::u67::v68::v69::v70::v71::v72::v73::v74::v75::v76::v77::v78::v79::v80::v81::v82::v83::v84::v85::v86::v87::v88::v89::v90::v91::v92::v93::v94::v95::u96::u97::u98::u99::u100::u101::u102::u103::u104::u105::u106::u107::u108::u109::u110::u111::u112::u113::u114::u115::u116::u117::u118::u119::u120::u121::u122::u123::u124::u125::u126::u127::u128::u129::u130::u131::u132::u133::u134::u135::u136::u137::u138::u139::u140::u141::u142::u143::u144::u145::u146::u147::u148::u149::u150::u151::u152::[]), defers := [] } W') :
  (Code.region 9 ops true).wp Tryz.prog Q { tmps := List.toArray (u0::u1::.int .i64 p::.int .i64 q::.pointer (some ⟨b0, 0, none⟩)::.pointer (some ⟨b1, 0, none⟩)::u6::u7::u8::u9::u10::.func (.func 58) #[] #[.pointer (some ⟨Bk, 0, none⟩)]::u12::.int .i64 i::u14::u15::u16::u17::u18::u19::u20::u21::u22::u23::u24::u25::u26::u27::u28::u29::u30::u31::u32::u33::u34::u35::u36::u37::u38::u39::u40::u41::u42::u43::u44::u45::u46::u47::u48::u49::u50::u51::u52::u53::u54::u55::u56::u57::u58::u59::u60::u61::u62::u63::u64::u65::u66::u67::u68::u69::u70::u71::u72::u73::u74::u75::u76::u77::u78::u79::u80::u81::u82::u83::u84::u85::u86::u87::u88::u89::u90::u91::u92::u93::u94::u95::u96::u97::u98::u99::u100::u101::u102::u103::u104::u105::u106::u107::u108::u109::u110::u111::u112::u113::u114::u115::u116::u117::u118::u119::u120::u121::u122::u123::u124::u125::u126::u127::u128::u129::u130::u131::u132::u133::u134::u135::u136::u137::u138::u139::u140::u141::u142::u143::u144::u145::u146::u147::u148::u149::u150::u151::u152::[]), defers := [] } w := by
 obtain rfl := Option.some.inj (ho.symm.trans (rfl : getOps Tryz.f23.body 9 = some _))
 clear ho
 replace hQ := A8 hQ
 obtain ⟨Iv, hI⟩ : ∃ Iv : (Nat → Bool) → Act → World → Prop, ∀ l a W, Iv l a W ↔ (∃ s69 s70 s71 s72 s73 s74 s75 s76 s77 s78 s79 s80 s81 s82 s83 s84 s85 s86 s87 s88 s89 s90 s91 s92 s93 s68 s94 s95 s14 s15 : Value, a = { tmps := List.toArray (u0::u1::.int .i64 p::.int .i64 q::.pointer (some ⟨b0, 0, none⟩)::.pointer (some ⟨b1, 0, none⟩)::u6::u7::u8::u9::u10::.func (.func 58) #[] #[.pointer (some ⟨Bk, 0, none⟩)]::u12::.int .i64 i::s14::s15::u16::u17::u18::u19::u20::u21::u22::u23::u24::u25::u26::u27::u28::u29::u30::u31::u32::u33::u34::u35::u36::u37::u38::u39::u40::u41::u42::u43::u44::u45::u46::u47::u48::u49::u50::u51::u52::u53::u54::u55::u56::u57::u58::u59::u60::u61::u62::u63::u64::u65::u66::u67::s68::s69::s70::s71::s72::s73::s74::s75::s76::s77::s78::s79::s80::s81::s82::s83::s84::s85::s86::s87::s88::s89::s90::s91::s92::s93::s94::s95::u96::u97::u98::u99::u100::u101::u102::u103::u104::u105::u106::u107::u108::u109::u110::u111::u112::u113::u114::u115::u116::u117::u118::u119::u120::u121::u122::u123::u124::u125::u126::u127::u128::u129::u130::u131::u132::u133::u134::u135::u136::u137::u138::u139::u140::u141::u142::u143::u144::u145::u146::u147::u148::u149::u150::u151::u152::[]), defers := [] } ∧ Only [Bk] w W ∧ Vs [(0, .func (.func 58) #[] #[.pointer (some ⟨Bk, 0, none⟩)], s69), (1, .int .i64 p, s70), (3, .pointer (some ⟨b0, 0, none⟩), s72), (4, .slice (some ⟨ga, oa, none⟩) n ca, s73), (5, .int .i64 i, s74), (6, .pointer (some ⟨ga, oa + i, none⟩), s75), (7, .string sa, s76), (8, .pointer (some ⟨b1, 1, none⟩), s77), (9, .string db, s78), (12, .func (.func 58) #[] #[.pointer (some ⟨Bk, 0, none⟩)], s81), (13, .int .i64 q, s82), (15, .pointer (some ⟨b1, 0, none⟩), s84), (16, .slice (some ⟨gb, ob, none⟩) n cb, s85), (17, .int .i64 i, s86), (18, .pointer (some ⟨gb, ob + i, none⟩), s87), (19, .string sb, s88), (20, .pointer (some ⟨b0, 1, none⟩), s89), (21, .string da, s90), (25, .tuple #[.string S, .int .i64 E], s68), (26, .string S, s94), (27, .int .i64 E, s95), (28, .string S, s14), (29, .int .i64 E, s15)] l ∧ (l 2 = true → .string (I p) = s71) ∧ (l 10 = true → (l 11 = false → ∃ g : Nat, s79 = .slice (some ⟨g, 0, none⟩) 3 3 ∧ (W.cell? ⟨g, 0, none⟩ = some (.string (I p)) ∧ W.cell? ⟨g, 1, none⟩ = some (.string (sa)) ∧ W.cell? ⟨g, 2, none⟩ = some (.string (db))) ∧ g < W.heap.size ∧ g ≠ Bk)) ∧ (l 11 = true → .string (mixS fl [I p, sa, db] 3) = s80) ∧ (l 14 = true → .string (I q) = s83) ∧ (l 22 = true → (l 23 = false → ∃ g : Nat, s91 = .slice (some ⟨g, 0, none⟩) 3 3 ∧ (W.cell? ⟨g, 0, none⟩ = some (.string (I q)) ∧ W.cell? ⟨g, 1, none⟩ = some (.string (sb)) ∧ W.cell? ⟨g, 2, none⟩ = some (.string (da))) ∧ g < W.heap.size ∧ g ≠ Bk)) ∧ (l 23 = true → .string (mixS (mixF fl [I p, sa, db] 3) [I q, sb, da] 3) = s92) ∧ (l 24 = true → .tuple #[.string S, .int .i64 E] = s93) ∧ ((l 11 = false → Blk W Bk #[.bool fl] 4) ∧ (l 11 = true → l 23 = false → Blk W Bk #[.bool (mixF fl [I p, sa, db] 3)] 4) ∧ (l 23 = true → Blk W Bk #[.bool (mixF (mixF fl [I p, sa, db] 3) [I q, sb, da] 3)] 4))) := ⟨_, fun _ _ _ => Iff.rfl⟩
 refine Aj Iv (by kernel_rfl) (by kernel_rfl) ((hI _ _ _).2 ⟨_, _, _, _, _, _, _, _, _, _, _, _, _, _, _, _, _, _, _, _, _, _, _, _, _, _, _, _, _, _, rfl, (Only.refl [Bk] w).drewN 1, Vs.zero, fun h => off h, fun h => off h, fun h => off h, fun h => off h, fun h => off h, fun h => off h, fun h => off h, ⟨fun _ => hB.out.below (Ac w 1), fun h => off h, fun h => off h⟩⟩) (Ab (k := 0) ?_ (Ab (k := 1) ?_ (Ab (k := 2) ?_ (Ab (k := 3) ?_ (Ab (k := 4) ?_ (Ab (k := 5) ?_ (Ab (k := 6) ?_ (Ab (k := 7) ?_ (Ab (k := 8) ?_ (Ab (k := 9) ?_ (Ab (k := 10) ?_ (Ab (k := 11) ?_ (Ab (k := 12) ?_ (Ab (k := 13) ?_ (Ab (k := 14) ?_ (Ab (k := 15) ?_ (Ab (k := 16) ?_ (Ab (k := 17) ?_ (Ab (k := 18) ?_ (Ab (k := 19) ?_ (Ab (k := 20) ?_ (Ab (k := 21) ?_ (Ab (k := 22) ?_ (Ab (k := 23) ?_ (Ab (k := 24) ?_ (Ab (k := 25) ?_ (Ab (k := 26) ?_ (Ab (k := 27) ?_ (Ab (k := 28) ?_ (Ab (k := 29) ?_ (Am))))))))))))))))))))))))))))))) ?_
 ·intro l a W hl hw hsh h K hK
  rw [hI] at h; iterate 30 obtain ⟨_, h⟩ := h
  obtain ⟨rfl, hC, hP, f2, f10, f11, h⟩ := h; obtain ⟨f14, f22, f23, f24, g⟩ := h
  go_simp
  apply hK.out; rw [hI]; iterate 30 apply Exists.intro
  exact ⟨rfl, hC, hP.put 0 rfl rfl rfl, f2, f10, f11, f14, f22, f23, f24, g⟩
 ·intro l a W hl hw hsh h K hK
  rw [hI] at h; iterate 30 obtain ⟨_, h⟩ := h
  obtain ⟨rfl, hC, hP, f2, f10, f11, h⟩ := h; obtain ⟨f14, f22, f23, f24, g⟩ := h
  go_simp
  apply hK.out; rw [hI]; iterate 30 apply Exists.intro
  exact ⟨rfl, hC, hP.put 1 rfl rfl rfl, f2, f10, f11, f14, f22, f23, f24, g⟩
 ·intro l a W hl hw hsh h K hK
  rw [hI] at h; iterate 30 obtain ⟨_, h⟩ := h
  obtain ⟨rfl, hC, hP, f2, f10, f11, h⟩ := h; obtain ⟨f14, f22, f23, f24, g⟩ := h
  obtain rfl := hP.get 1 rfl (hw 1 (by kernel_rfl))
  go_simp
  go_at_call 51
  refine Calls.mono (GA hfp.out.1 _ (hE.out.below (h0.out.1.trans (hC.toBelow h0.out.1.size (by intro x hx; rw [List.mem_singleton.1 hx]; exact h0.out.2))) (Aa _))) ?_
  rintro e W2 ⟨rfl, hb⟩
  have hcellx := @above Bk _ _ hb
  have hsz := hb.size
  apply hK.out; rw [hI]; iterate 30 apply Exists.intro
  exact ⟨rfl, hC.below hb, hP.skip 2 rfl, fun _ => rfl, (fun h h5 => (let ⟨g, e, ⟨a, b, c⟩, u, v⟩ := f10 h h5; ⟨g, e, ⟨(hcellx g 0 v u).trans a, (hcellx g 1 v u).trans b, (hcellx g 2 v u).trans c⟩, A9 u hsz, v⟩)), f11, f14, (fun h h5 => (let ⟨g, e, ⟨a, b, c⟩, u, v⟩ := f22 h h5; ⟨g, e, ⟨(hcellx g 0 v u).trans a, (hcellx g 1 v u).trans b, (hcellx g 2 v u).trans c⟩, A9 u hsz, v⟩)), f23, f24, ⟨fun h => (g.1 h).below hb, fun h h2 => (g.2.1 h h2).below hb, fun h => (g.2.2 h).below hb⟩⟩
 ·intro l a W hl hw hsh h K hK
  rw [hI] at h; iterate 30 obtain ⟨_, h⟩ := h
  obtain ⟨rfl, hC, hP, f2, f10, f11, h⟩ := h; obtain ⟨f14, f22, f23, f24, g⟩ := h
  go_simp
  apply hK.out; rw [hI]; iterate 30 apply Exists.intro
  exact ⟨rfl, hC, hP.put 2 rfl rfl rfl, f2, f10, f11, f14, f22, f23, f24, g⟩
 ·intro l a W hl hw hsh h K hK
  rw [hI] at h; iterate 30 obtain ⟨_, h⟩ := h
  obtain ⟨rfl, hC, hP, f2, f10, f11, h⟩ := h; obtain ⟨f14, f22, f23, f24, g⟩ := h
  obtain rfl := hP.get 2 rfl (hw 3 (by kernel_rfl))
  obtain ⟨x0, x1, x2, x3, x4, x5⟩ := hcell.out _ hC
  go_simp
  apply hK.out; rw [hI]; iterate 30 apply Exists.intro
  exact ⟨rfl, hC, hP.put 3 rfl rfl rfl, f2, f10, f11, f14, f22, f23, f24, g⟩
 ·intro l a W hl hw hsh h K hK
  rw [hI] at h; iterate 30 obtain ⟨_, h⟩ := h
  obtain ⟨rfl, hC, hP, f2, f10, f11, h⟩ := h; obtain ⟨f14, f22, f23, f24, g⟩ := h
  go_simp
  apply hK.out; rw [hI]; iterate 30 apply Exists.intro
  exact ⟨rfl, hC, hP.put 4 rfl rfl rfl, f2, f10, f11, f14, f22, f23, f24, g⟩
 ·intro l a W hl hw hsh h K hK
  rw [hI] at h; iterate 30 obtain ⟨_, h⟩ := h
  obtain ⟨rfl, hC, hP, f2, f10, f11, h⟩ := h; obtain ⟨f14, f22, f23, f24, g⟩ := h
  obtain rfl := hP.get 3 rfl (hw 4 (by kernel_rfl))
  obtain rfl := hP.get 4 rfl (hw 5 (by kernel_rfl))
  go_simp
  apply hK.out; rw [hI]; iterate 30 apply Exists.intro
  exact ⟨rfl, hC, hP.put 5 rfl rfl rfl, f2, f10, f11, f14, f22, f23, f24, g⟩
 ·intro l a W hl hw hsh h K hK
  rw [hI] at h; iterate 30 obtain ⟨_, h⟩ := h
  obtain ⟨rfl, hC, hP, f2, f10, f11, h⟩ := h; obtain ⟨f14, f22, f23, f24, g⟩ := h
  obtain rfl := hP.get 5 rfl (hw 6 (by kernel_rfl))
  obtain ⟨x0, x1, x2, x3, x4, x5⟩ := hcell.out _ hC
  go_simp
  apply hK.out; rw [hI]; iterate 30 apply Exists.intro
  exact ⟨rfl, hC, hP.put 6 rfl rfl rfl, f2, f10, f11, f14, f22, f23, f24, g⟩
 ·intro l a W hl hw hsh h K hK
  rw [hI] at h; iterate 30 obtain ⟨_, h⟩ := h
  obtain ⟨rfl, hC, hP, f2, f10, f11, h⟩ := h; obtain ⟨f14, f22, f23, f24, g⟩ := h
  go_simp
  apply hK.out; rw [hI]; iterate 30 apply Exists.intro
  exact ⟨rfl, hC, hP.put 7 rfl rfl rfl, f2, f10, f11, f14, f22, f23, f24, g⟩
 ·intro l a W hl hw hsh h K hK
  rw [hI] at h; iterate 30 obtain ⟨_, h⟩ := h
  obtain ⟨rfl, hC, hP, f2, f10, f11, h⟩ := h; obtain ⟨f14, f22, f23, f24, g⟩ := h
  obtain rfl := hP.get 7 rfl (hw 8 (by kernel_rfl))
  obtain ⟨x0, x1, x2, x3, x4, x5⟩ := hcell.out _ hC
  go_simp
  apply hK.out; rw [hI]; iterate 30 apply Exists.intro
  exact ⟨rfl, hC, hP.put 8 rfl rfl rfl, f2, f10, f11, f14, f22, f23, f24, g⟩
 ·intro l a W hl hw hsh h K hK
  rw [hI] at h; iterate 30 obtain ⟨_, h⟩ := h
  obtain ⟨rfl, hC, hP, f2, f10, f11, h⟩ := h; obtain ⟨f14, f22, f23, f24, g⟩ := h
  obtain rfl := f2 (hw 2 (by kernel_rfl))
  obtain rfl := hP.get 6 rfl (hw 7 (by kernel_rfl))
  obtain rfl := hP.get 8 rfl (hw 9 (by kernel_rfl))
  go_simp
  have hb := (Below.refl W.heap.size W).alloc (Aa _) (.cells #[.string (I p), .string (sa), .string (db)] 9)
  have kn := Blk.new W #[.string (I p), .string (sa), .string (db)] 9
  have hcellx := @above Bk _ _ hb
  have hsz := hb.size
  apply hK.out; rw [hI]; iterate 30 apply Exists.intro
  exact ⟨rfl, hC.below hb, hP.skip 10 rfl, f2, fun _ _ => ⟨_, rfl, ⟨kn.cell 0, kn.cell 1, kn.cell 2⟩, kn.lt, fun e => by have := A9 hBk.out hC.size; omega⟩, f11, f14, (fun h h5 => (let ⟨g, e, ⟨a, b, c⟩, u, v⟩ := f22 h h5; ⟨g, e, ⟨(hcellx g 0 v u).trans a, (hcellx g 1 v u).trans b, (hcellx g 2 v u).trans c⟩, A9 u hsz, v⟩)), f23, f24, ⟨fun h => (g.1 h).below hb, fun h h2 => (g.2.1 h h2).below hb, fun h => (g.2.2 h).below hb⟩⟩
 ·intro l a W hl hw hsh h K hK
  rw [hI] at h; iterate 30 obtain ⟨_, h⟩ := h
  obtain ⟨rfl, hC, hP, f2, f10, f11, h⟩ := h; obtain ⟨f14, f22, f23, f24, g⟩ := h
  obtain rfl := hP.get 0 rfl (hw 0 (by kernel_rfl))
  have h23 : l 23 = true → true = false := fun h => absurd (hsh 14 11 _ rfl (hsh 23 14 _ rfl h (by kernel_rfl)) (by kernel_rfl)) (by simp [hl])
  obtain ⟨gl, el, hgc, hgl, hgne⟩ := f10 (hw 10 (by kernel_rfl)) hl
  subst el
  go_simp
  go_at_call 58
  refine Calls.mono (F9 [I p, sa, db] gl 0 3 Bk fl W (by simp) (by simp) hgl (cells3 hgc) (oks3 ⟨BT hfp.out.2, hd.out.2.2.1, hd.out.2.1⟩) (g.1 hl) hgne w0 hE.out (h0.out.1.trans (hC.toBelow h0.out.1.size (by intro x hx; rw [List.mem_singleton.1 hx]; exact h0.out.2))) h0.out.2) ?_
  rintro e W2 ⟨rfl, hk2, ho2⟩
  have hcellx := beside ho2
  have hsz := ho2.size
  apply hK.out; rw [hI]; iterate 30 apply Exists.intro
  exact ⟨rfl, hC.trans ho2, hP.skip 11 rfl, f2, (fun _ h5 => off h5.symm), fun _ => rfl, f14, (fun h h5 => (let ⟨g, e, ⟨a, b, c⟩, u, v⟩ := f22 h h5; ⟨g, e, ⟨(hcellx g 0 v u).trans a, (hcellx g 1 v u).trans b, (hcellx g 2 v u).trans c⟩, A9 u hsz, v⟩)), f23, f24, ⟨fun h => off h.symm, fun _ _ => hk2, fun h => off (h23 h).symm⟩⟩
 ·intro l a W hl hw hsh h K hK
  rw [hI] at h; iterate 30 obtain ⟨_, h⟩ := h
  obtain ⟨rfl, hC, hP, f2, f10, f11, h⟩ := h; obtain ⟨f14, f22, f23, f24, g⟩ := h
  go_simp
  apply hK.out; rw [hI]; iterate 30 apply Exists.intro
  exact ⟨rfl, hC, hP.put 9 rfl rfl rfl, f2, f10, f11, f14, f22, f23, f24, g⟩
 ·intro l a W hl hw hsh h K hK
  rw [hI] at h; iterate 30 obtain ⟨_, h⟩ := h
  obtain ⟨rfl, hC, hP, f2, f10, f11, h⟩ := h; obtain ⟨f14, f22, f23, f24, g⟩ := h
  go_simp
  apply hK.out; rw [hI]; iterate 30 apply Exists.intro
  exact ⟨rfl, hC, hP.put 10 rfl rfl rfl, f2, f10, f11, f14, f22, f23, f24, g⟩
 ·intro l a W hl hw hsh h K hK
  rw [hI] at h; iterate 30 obtain ⟨_, h⟩ := h
  obtain ⟨rfl, hC, hP, f2, f10, f11, h⟩ := h; obtain ⟨f14, f22, f23, f24, g⟩ := h
  obtain rfl := hP.get 10 rfl (hw 13 (by kernel_rfl))
  go_simp
  go_at_call 51
  refine Calls.mono (GA hfq.out.1 _ (hE.out.below (h0.out.1.trans (hC.toBelow h0.out.1.size (by intro x hx; rw [List.mem_singleton.1 hx]; exact h0.out.2))) (Aa _))) ?_
  rintro e W2 ⟨rfl, hb⟩
  have hcellx := @above Bk _ _ hb
  have hsz := hb.size
  apply hK.out; rw [hI]; iterate 30 apply Exists.intro
  exact ⟨rfl, hC.below hb, hP.skip 14 rfl, f2, (fun h h5 => (let ⟨g, e, ⟨a, b, c⟩, u, v⟩ := f10 h h5; ⟨g, e, ⟨(hcellx g 0 v u).trans a, (hcellx g 1 v u).trans b, (hcellx g 2 v u).trans c⟩, A9 u hsz, v⟩)), f11, fun _ => rfl, (fun h h5 => (let ⟨g, e, ⟨a, b, c⟩, u, v⟩ := f22 h h5; ⟨g, e, ⟨(hcellx g 0 v u).trans a, (hcellx g 1 v u).trans b, (hcellx g 2 v u).trans c⟩, A9 u hsz, v⟩)), f23, f24, ⟨fun h => (g.1 h).below hb, fun h h2 => (g.2.1 h h2).below hb, fun h => (g.2.2 h).below hb⟩⟩
 ·intro l a W hl hw hsh h K hK
  rw [hI] at h; iterate 30 obtain ⟨_, h⟩ := h
  obtain ⟨rfl, hC, hP, f2, f10, f11, h⟩ := h; obtain ⟨f14, f22, f23, f24, g⟩ := h
  go_simp
  apply hK.out; rw [hI]; iterate 30 apply Exists.intro
  exact ⟨rfl, hC, hP.put 11 rfl rfl rfl, f2, f10, f11, f14, f22, f23, f24, g⟩
 ·intro l a W hl hw hsh h K hK
  rw [hI] at h; iterate 30 obtain ⟨_, h⟩ := h
  obtain ⟨rfl, hC, hP, f2, f10, f11, h⟩ := h; obtain ⟨f14, f22, f23, f24, g⟩ := h
  obtain rfl := hP.get 11 rfl (hw 15 (by kernel_rfl))
  obtain ⟨x0, x1, x2, x3, x4, x5⟩ := hcell.out _ hC
  go_simp
  apply hK.out; rw [hI]; iterate 30 apply Exists.intro
  exact ⟨rfl, hC, hP.put 12 rfl rfl rfl, f2, f10, f11, f14, f22, f23, f24, g⟩
 ·intro l a W hl hw hsh h K hK
  rw [hI] at h; iterate 30 obtain ⟨_, h⟩ := h
  obtain ⟨rfl, hC, hP, f2, f10, f11, h⟩ := h; obtain ⟨f14, f22, f23, f24, g⟩ := h
  go_simp
  apply hK.out; rw [hI]; iterate 30 apply Exists.intro
  exact ⟨rfl, hC, hP.put 13 rfl rfl rfl, f2, f10, f11, f14, f22, f23, f24, g⟩
 ·intro l a W hl hw hsh h K hK
  rw [hI] at h; iterate 30 obtain ⟨_, h⟩ := h
  obtain ⟨rfl, hC, hP, f2, f10, f11, h⟩ := h; obtain ⟨f14, f22, f23, f24, g⟩ := h
  obtain rfl := hP.get 12 rfl (hw 16 (by kernel_rfl))
  obtain rfl := hP.get 13 rfl (hw 17 (by kernel_rfl))
  go_simp
  apply hK.out; rw [hI]; iterate 30 apply Exists.intro
  exact ⟨rfl, hC, hP.put 14 rfl rfl rfl, f2, f10, f11, f14, f22, f23, f24, g⟩
 ·intro l a W hl hw hsh h K hK
  rw [hI] at h; iterate 30 obtain ⟨_, h⟩ := h
  obtain ⟨rfl, hC, hP, f2, f10, f11, h⟩ := h; obtain ⟨f14, f22, f23, f24, g⟩ := h
  obtain rfl := hP.get 14 rfl (hw 18 (by kernel_rfl))
  obtain ⟨x0, x1, x2, x3, x4, x5⟩ := hcell.out _ hC
  go_simp
  apply hK.out; rw [hI]; iterate 30 apply Exists.intro
  exact ⟨rfl, hC, hP.put 15 rfl rfl rfl, f2, f10, f11, f14, f22, f23, f24, g⟩
 ·intro l a W hl hw hsh h K hK
  rw [hI] at h; iterate 30 obtain ⟨_, h⟩ := h
  obtain ⟨rfl, hC, hP, f2, f10, f11, h⟩ := h; obtain ⟨f14, f22, f23, f24, g⟩ := h
  go_simp
  apply hK.out; rw [hI]; iterate 30 apply Exists.intro
  exact ⟨rfl, hC, hP.put 16 rfl rfl rfl, f2, f10, f11, f14, f22, f23, f24, g⟩
 ·intro l a W hl hw hsh h K hK
  rw [hI] at h; iterate 30 obtain ⟨_, h⟩ := h
  obtain ⟨rfl, hC, hP, f2, f10, f11, h⟩ := h; obtain ⟨f14, f22, f23, f24, g⟩ := h
  obtain rfl := hP.get 16 rfl (hw 20 (by kernel_rfl))
  obtain ⟨x0, x1, x2, x3, x4, x5⟩ := hcell.out _ hC
  go_simp
  apply hK.out; rw [hI]; iterate 30 apply Exists.intro
  exact ⟨rfl, hC, hP.put 17 rfl rfl rfl, f2, f10, f11, f14, f22, f23, f24, g⟩
 ·intro l a W hl hw hsh h K hK
  rw [hI] at h; iterate 30 obtain ⟨_, h⟩ := h
  obtain ⟨rfl, hC, hP, f2, f10, f11, h⟩ := h; obtain ⟨f14, f22, f23, f24, g⟩ := h
  obtain rfl := f14 (hw 14 (by kernel_rfl))
  obtain rfl := hP.get 15 rfl (hw 19 (by kernel_rfl))
  obtain rfl := hP.get 17 rfl (hw 21 (by kernel_rfl))
  go_simp
  have hb := (Below.refl W.heap.size W).alloc (Aa _) (.cells #[.string (I q), .string (sb), .string (da)] 9)
  have kn := Blk.new W #[.string (I q), .string (sb), .string (da)] 9
  have hcellx := @above Bk _ _ hb
  have hsz := hb.size
  apply hK.out; rw [hI]; iterate 30 apply Exists.intro
  exact ⟨rfl, hC.below hb, hP.skip 22 rfl, f2, (fun h h5 => (let ⟨g, e, ⟨a, b, c⟩, u, v⟩ := f10 h h5; ⟨g, e, ⟨(hcellx g 0 v u).trans a, (hcellx g 1 v u).trans b, (hcellx g 2 v u).trans c⟩, A9 u hsz, v⟩)), f11, f14, fun _ _ => ⟨_, rfl, ⟨kn.cell 0, kn.cell 1, kn.cell 2⟩, kn.lt, fun e => by have := A9 hBk.out hC.size; omega⟩, f23, f24, ⟨fun h => (g.1 h).below hb, fun h h2 => (g.2.1 h h2).below hb, fun h => (g.2.2 h).below hb⟩⟩
 ·intro l a W hl hw hsh h K hK
  rw [hI] at h; iterate 30 obtain ⟨_, h⟩ := h
  obtain ⟨rfl, hC, hP, f2, f10, f11, h⟩ := h; obtain ⟨f14, f22, f23, f24, g⟩ := h
  obtain rfl := hP.get 9 rfl (hw 12 (by kernel_rfl))
  have h11 : l 11 = true := hsh 14 11 _ rfl (hw 14 (by kernel_rfl)) (by kernel_rfl)
  obtain ⟨gl, el, hgc, hgl, hgne⟩ := f22 (hw 22 (by kernel_rfl)) hl
  subst el
  go_simp
  go_at_call 58
  refine Calls.mono (F9 [I q, sb, da] gl 0 3 Bk (mixF fl [I p, sa, db] 3) W (by simp) (by simp) hgl (cells3 hgc) (oks3 ⟨BT hfq.out.2, hd.out.2.2.2, hd.out.1⟩) (g.2.1 h11 hl) hgne w0 hE.out (h0.out.1.trans (hC.toBelow h0.out.1.size (by intro x hx; rw [List.mem_singleton.1 hx]; exact h0.out.2))) h0.out.2) ?_
  rintro e W2 ⟨rfl, hk2, ho2⟩
  have hcellx := beside ho2
  have hsz := ho2.size
  apply hK.out; rw [hI]; iterate 30 apply Exists.intro
  exact ⟨rfl, hC.trans ho2, hP.skip 23 rfl, f2, (fun _ h5 => off (h5.symm.trans h11)), f11, f14, (fun _ h5 => off h5.symm), fun _ => rfl, f24, ⟨fun h => off (h.symm.trans h11), fun _ h => off h.symm, fun _ => hk2⟩⟩
 ·intro l a W hl hw hsh h K hK
  rw [hI] at h; iterate 30 obtain ⟨_, h⟩ := h
  obtain ⟨rfl, hC, hP, f2, f10, f11, h⟩ := h; obtain ⟨f14, f22, f23, f24, g⟩ := h
  obtain rfl := f11 (hw 11 (by kernel_rfl))
  obtain rfl := f23 (hw 23 (by kernel_rfl))
  go_simp
  go_at_call 59
  refine Calls.mono (Jh (mixS fl [I p, sa, db] 3) (mixS (mixF fl [I p, sa, db] 3) [I q, sb, da] 3) _ (hE.out.below (h0.out.1.trans (hC.toBelow h0.out.1.size (by intro x hx; rw [List.mem_singleton.1 hx]; exact h0.out.2))) (Aa _))) ?_
  rw [JA, JA, Bool.and_self, hAd.out]
  rintro e W2 ⟨⟨v, rfl, rfl⟩, hb⟩
  have hcellx := @above Bk _ _ hb
  have hsz := hb.size
  apply hK.out; rw [hI]; iterate 30 apply Exists.intro
  exact ⟨rfl, hC.below hb, hP.skip 24 rfl, f2, (fun h h5 => (let ⟨g, e, ⟨a, b, c⟩, u, v⟩ := f10 h h5; ⟨g, e, ⟨(hcellx g 0 v u).trans a, (hcellx g 1 v u).trans b, (hcellx g 2 v u).trans c⟩, A9 u hsz, v⟩)), f11, f14, (fun h h5 => (let ⟨g, e, ⟨a, b, c⟩, u, v⟩ := f22 h h5; ⟨g, e, ⟨(hcellx g 0 v u).trans a, (hcellx g 1 v u).trans b, (hcellx g 2 v u).trans c⟩, A9 u hsz, v⟩)), f23, fun _ => rfl, ⟨fun h => (g.1 h).below hb, fun h h2 => (g.2.1 h h2).below hb, fun h => (g.2.2 h).below hb⟩⟩
 ·intro l a W hl hw hsh h K hK
  rw [hI] at h; iterate 30 obtain ⟨_, h⟩ := h
  obtain ⟨rfl, hC, hP, f2, f10, f11, h⟩ := h; obtain ⟨f14, f22, f23, f24, g⟩ := h
  obtain rfl := f24 (hw 24 (by kernel_rfl))
  go_simp
  apply hK.out; rw [hI]; iterate 30 apply Exists.intro
  exact ⟨rfl, hC, hP.put 18 rfl rfl rfl, f2, f10, f11, f14, f22, f23, f24, g⟩
 ·intro l a W hl hw hsh h K hK
  rw [hI] at h; iterate 30 obtain ⟨_, h⟩ := h
  obtain ⟨rfl, hC, hP, f2, f10, f11, h⟩ := h; obtain ⟨f14, f22, f23, f24, g⟩ := h
  obtain rfl := hP.get 18 rfl (hw 25 (by kernel_rfl))
  go_simp
  apply hK.out; rw [hI]; iterate 30 apply Exists.intro
  exact ⟨rfl, hC, hP.put 19 rfl rfl rfl, f2, f10, f11, f14, f22, f23, f24, g⟩
 ·intro l a W hl hw hsh h K hK
  rw [hI] at h; iterate 30 obtain ⟨_, h⟩ := h
  obtain ⟨rfl, hC, hP, f2, f10, f11, h⟩ := h; obtain ⟨f14, f22, f23, f24, g⟩ := h
  obtain rfl := hP.get 18 rfl (hw 25 (by kernel_rfl))
  go_simp
  apply hK.out; rw [hI]; iterate 30 apply Exists.intro
  exact ⟨rfl, hC, hP.put 20 rfl rfl rfl, f2, f10, f11, f14, f22, f23, f24, g⟩
 ·intro l a W hl hw hsh h K hK
  rw [hI] at h; iterate 30 obtain ⟨_, h⟩ := h
  obtain ⟨rfl, hC, hP, f2, f10, f11, h⟩ := h; obtain ⟨f14, f22, f23, f24, g⟩ := h
  obtain rfl := hP.get 19 rfl (hw 26 (by kernel_rfl))
  go_simp
  apply hK.out; rw [hI]; iterate 30 apply Exists.intro
  exact ⟨rfl, hC, hP.put 21 rfl rfl rfl, f2, f10, f11, f14, f22, f23, f24, g⟩
 ·intro l a W hl hw hsh h K hK
  rw [hI] at h; iterate 30 obtain ⟨_, h⟩ := h
  obtain ⟨rfl, hC, hP, f2, f10, f11, h⟩ := h; obtain ⟨f14, f22, f23, f24, g⟩ := h
  obtain rfl := hP.get 20 rfl (hw 27 (by kernel_rfl))
  go_simp
  apply hK.out; rw [hI]; iterate 30 apply Exists.intro
  exact ⟨rfl, hC, hP.put 22 rfl rfl rfl, f2, f10, f11, f14, f22, f23, f24, g⟩
 ·intro a W hI'
  have h := (hI _ _ _).1 hI'; clear hI'; iterate 30 obtain ⟨_, h⟩ := h
  obtain ⟨rfl, hC, hP, f2, f10, f11, h⟩ := h; obtain ⟨f14, f22, f23, f24, g⟩ := h
  clear f2
  clear f10
  clear f11
  clear f14
  clear f22
  clear f23
  clear f24
  obtain rfl := hP.get 21 rfl (by kernel_rfl)
  obtain rfl := hP.get 22 rfl (by kernel_rfl)
  exact hQ.out _ _ _ _ _ _ _ _ _ _ _ _ _ _ _ _ _ _ _ _ _ _ _ _ _ _ _ _ _ hC (g.2.2 (by kernel_rfl))
end
section
open Go.RowKit
structure MixA where
 p : Int
 q : Int
 na : List ByteArray
 nb : List ByteArray
 da : ByteArray
 db : ByteArray
def MixA.num (x : MixA) : Nat → Int
 | 0 => (x.p + x.q) * zS x.da * zS x.db
 | i + 1 => x.p * zS (sAt x.na i) * zS x.db + x.q * zS (sAt x.nb i) * zS x.da
def MixA.z (x : MixA) (f : Bool) (i : Nat) : Int := zS (mixS f [I x.p, sAt x.na i, x.db] 3) + zS (mixS (mixF f [I x.p, sAt x.na i, x.db] 3) [I x.q, sAt x.nb i, x.da] 3)
def MixA.flag (x : MixA) : Nat → Bool
 | 0 => mixF true [I (x.p + x.q), x.da, x.db] 3
 | i + 1 => mixF (mixF (x.flag i) [I x.p, sAt x.na i, x.db] 3) [I x.q, sAt x.nb i, x.da] 3 && decide (Small (x.z (x.flag i) i))
def MixA.txt (x : MixA) : Nat → ByteArray
 | 0 => mixS true [I (x.p + x.q), x.da, x.db] 3
 | i + 1 => ⟨(Go.Proofs.YtcmomjnailihpaaGreatDoor.txt (x.z (x.flag i) i)).toArray⟩
theorem CA {b : Bool} {l : List ByteArray} {n : Nat} (h : mixF b l n = true) : b = true ∧ prodB l n = true := by unfold mixF at h; simpa using h
theorem E7 {l : List ByteArray} {n : Nat} (h : prodB l n = true) : mixS true l n = I (prodZ l n) := by unfold mixS; rw [h]; rfl
theorem prod3 (a b c : ByteArray) : prodZ [a, b, c] 3 = zS a * zS b * zS c := by show 1 * zS a * zS b * zS c = _; rw [Int.one_mul]
theorem MixA.good (x : MixA) : ∀ {i : Nat}, x.flag i = true → x.txt i = I (x.num i) ∧ Small (x.num i)
 | 0, h => by
  obtain ⟨_, h1⟩ := CA h
  have e : prodZ [I (x.p + x.q), x.da, x.db] 3 = x.num 0 := by rw [prod3, C6]; rfl
  exact ⟨by show mixS true _ 3 = _; rw [E7 h1, e], by rw [← e]; exact Do h1⟩
 | i + 1, h => by
  have h' : (mixF (mixF (x.flag i) [I x.p, sAt x.na i, x.db] 3) [I x.q, sAt x.nb i, x.da] 3 && decide (Small (x.z (x.flag i) i))) = true := h
  rw [Bool.and_eq_true, decide_eq_true_eq] at h'
  obtain ⟨h1, h2⟩ := h'
  obtain ⟨h3, h4⟩ := CA h1
  obtain ⟨h5, h6⟩ := CA h3
  have e : x.z (x.flag i) i = x.num (i + 1) := by
   unfold MixA.z
   rw [h3, h5, E7 h6, E7 h4, C6, C6, prod3, prod3, C6, C6]; rfl
  rw [e] at h2
  refine ⟨?_, h2⟩
  show ByteArray.mk (Go.Proofs.YtcmomjnailihpaaGreatDoor.txt (x.z (x.flag i) i)).toArray = _
  rw [e, FE h2]; rfl
theorem MixA.flag_le (x : MixA) {i n : Nat} (h : x.flag n = true) (hi : i ≤ n) : x.flag i = true := by
 induction n with
 | zero => obtain rfl : i = 0 := by omega
           exact h
 | succ n ih =>
   by_cases e : i = n + 1
   · subst e; exact h
   · refine ih ?_ (by omega)
     have h' : (mixF (mixF (x.flag n) [I x.p, sAt x.na n, x.db] 3) [I x.q, sAt x.nb n, x.da] 3 && decide (Small (x.z (x.flag n) n))) = true := h
     rw [Bool.and_eq_true] at h'
     exact (CA (CA h'.1).1).1
theorem MixA.add_T (x : MixA) (i : Nat) : ∃ E : Int, resT true (x.z (x.flag i) i) = .tuple #[.string (x.txt (i + 1)), .int .i64 E] ∧ (E == 0) = decide (Small (x.z (x.flag i) i)) := by
 refine ⟨erz (x.z (x.flag i) i), by unfold resT; rw [if_pos rfl]; rfl, ?_⟩
 unfold erz
 by_cases h : Small (x.z (x.flag i) i)
 ·rw [if_pos h, decide_eq_true h]; rfl
 ·rw [if_neg h, decide_eq_false h]; rfl
def MixA.gcd (x : MixA) : Nat → Int
 | 0 => 0
 | k + 1 => gcdZ (x.gcd k) (x.num k)
end
section
open Go.RowKit
attribute [local go_sem] Oper.semAt_some
theorem Fa {ops : Array Oper} {rest : List Oper} {o : Oper} {a : Act} {Q : Exit → Act → World → Prop} {w : World} {base : Nat} (hgd : o.guard = none) (t e : TypeId) (z : Value) (bytes : Nat) (ht : Tryz.prog.underlying t = some (.slice e)) (hi : (Tryz.prog.info? e).map (fun i => (i.zero, i.size, i.bytes)) = some (some z, 1, bytes)) (hz : z.cells.size = 1)
  (s x : Operand) (ho : o.op = .call { callee := .builtin .append, args := #[s, x], argTypes := #[t, t] }) (v : Value) (n : Nat) (xs : List Value) (hs : a.eval s = v) (hown : w.ownsRow base e 1 v n xs)
  (g : Nat) (u : Value) (hx : a.eval x = .slice (some ⟨g, 0, none⟩) 1 1) (hu : w.cell? ⟨g, 0, none⟩ = some u) (h1 : u.oneCell' = true) (hn : (n + 1) * bytes ≤ 140737488355328) (hn2 : n ≤ 1000000) (hbase : base ≤ w.heap.size)
  (h : ∀ g' cap w', w'.ownsRow base e 1 (.slice (some ⟨g', 0, none⟩) (n + 1) cap) (n + 1) (xs ++ [u]) → w.grownBy w' v.ownBlock → (∀ b, (Value.slice (some ⟨g', 0, none⟩) (n + 1) cap).ownBlock = some b → v.ownBlock = some b ∨ w.heap.size ≤ b) → wpList Tryz.prog ops Q rest (a.put o.dst (.slice (some ⟨g', 0, none⟩) (n + 1) cap)) w') :
  wpList Tryz.prog ops Q (o :: rest) a w :=
 wpList_plain hgd fun _ hK => AE t e z bytes ht hi hz s x ho v n xs hs hown g u hx hu h1 hn hn2 hbase fun v' w' r1 r2 r3 => by
  have r1' := r1
  rcases r1.2 with ⟨rfl, h0⟩ | ⟨g', cap, cur, rfl, _⟩
  ·omega
  ·exact hK _ _ (h g' cap w' r1' r2 r3)
theorem mix_l0 {Q : Exit → Act → World → Prop} {u0 u1 u6 u7 u8 u9 u13 u14 u15 u16 u17 u18 u19 u20 u21 u22 u23 u24 u25 u26 u27 u28 u29 u30 u31 u32 u33 u34 u35 u36 u37 u38 u39 u40 u41 u42 u43 u44 u45 u46 u47 u48 u49 u50 u51 u52 u53 u54 u55 u56 u57 u58 u59 u60 u61 u62 u63 u66 u67 u68 u69 u70 u71 u72 u73 u74 u75 u76 u77 u78 u79 u80 u81 u82 u83 u84 u85 u86 u87 u88 u89 u90 u91 u92 u93 u94 u95 u96 u97 u98 u99 u100 u101 u102 u103 u104 u105 u106 u107 u108 u109 u110 u111 u112 u113 u114 u115 u116 u117 u118 u119 u120 u121 u122 u123 u124 u125 u126 u127 u128 u129 u130 u131 u132 u133 u134 u135 u136 u137 u138 u139 u140 u141 u142 u143 u144 u145 u146 u147 u148 u149 u150 u151 u152 : Value} {x : MixA} {b0 b1 Bk n base g0 : Nat} {aa ab : Option Addr} {ca cb : Nat} {w0 w : World} (hE : Hid (Env w0)) (h0 : Hid (Below w0.heap.size w0 w ∧ w0.heap.size ≤ Bk ∧ Bk < base ∧ base ≤ w.heap.size)) (hp : Hid ((1 ≤ x.p ∧ x.p ≤ 1000) ∧ (1 ≤ x.q ∧ x.q ≤ 1000))) (hn : Hid (n = x.na.length ∧ n = x.nb.length ∧ n ≤ 64)) (hok : Hid ((∀ i, i < n → okS (sAt x.na i) = true ∧ okS (sAt x.nb i) = true) ∧ okS x.da = true ∧ okS x.db = true))
  (hc : Hid ((b0 < base ∧ b0 ≠ Bk ∧ w.cell? ⟨b0, 0, none⟩ = some (.slice aa n ca) ∧ w.cell? ⟨b0, 1, none⟩ = some (.string x.da)) ∧ (b1 < base ∧ b1 ≠ Bk ∧ w.cell? ⟨b1, 0, none⟩ = some (.slice ab n cb) ∧ w.cell? ⟨b1, 1, none⟩ = some (.string x.db)))) (hA : Hid (SlS w0 (.slice aa n ca) x.na)) (hB : Hid (SlS w0 (.slice ab n cb) x.nb))
  (hk : Hid (Blk w Bk #[.bool (x.flag 0)] 4)) (hr : Hid (w.ownsRow base 9 1 (.slice (some ⟨g0, 0, none⟩) 1 1) (0 + 1) ((List.range (0 + 1)).map fun j => .string (x.txt j)))) {body : Code} (hbody : getLoop Tryz.f23.body 0 = some body)
  (hQ : ∀ (gf cf : Nat) (v13 v14 v15 v65 v66 v67 v68 v69 v70 v71 v72 v73 v74 v75 v76 v77 v78 v79 v80 v81 v82 v83 v84 v85 v86 v87 v88 v89 v90 v91 v92 v93 v94 v95 v96 v97 v98 v99 v100 v101 v102 v103 v104 v105 : Value) (W' : World), Hid (Below w0.heap.size w0 W') → Hid (Blk W' Bk #[.bool (x.flag n)] 4) → Hid (W'.ownsRow base 9 1 (.slice (some ⟨gf, 0, none⟩) (n + 1) cf) (n + 1) ((List.range (n + 1)).map fun j => .string (x.txt j))) → Hid (∀ b, b < base → b ≠ Bk → W'.heap[b]? = w.heap[b]?) → Q (.exit 0) { tmps := List.toArray (u0::u1::.int .i64 x.p::.int .i64 x.q::.pointer (some ⟨b0, 0, none⟩)::.pointer (some ⟨b1, 0, none⟩)::u6::u7::u8::u9::.pointer (some ⟨Bk, 0, none⟩)::.func (.func 58) #[] #[.pointer (some ⟨Bk, 0, none⟩)]::.slice (some ⟨gf, 0, none⟩) (n + 1) cf::v13::v14::v15::u16::u17::u18::u19::u20::u21::u22::u23::u24::u25::u26::u27::u28::u29::u30::u31::u32::u33::u34::u35::u36::u37::u38::u39::u40::u41::u42::u43::u44::u45::u46::u47::u48::u49::u50::u51::u52::u53::u54::u55::u56::u57::u58::u59::u60::u61::u62::u63::.int .i64 n::v65::v66::v67::v68::v69::v70::v71::v72::v73::v74::v75::v76::v77::v78::v79::v80::v81::v82::v83::v84::v85::v86::v87::v88::v89::v90::v91::v92::v93::v94::v95::v96::v97::v98::v99::v100::v101::v102::v103::v104::v105::u106::u107::u108::u109::u110::u111::u112::u113::u114::u115::u116::u117::u118::u119::u120::u121::u122::u123::u124::u125::u126::u127::u128::u129::u130::u131::u132::u133::u134::u135::u136::u137::u138::u139::u140::u141::u142::u143::u144::u145::u146::u147::u148::u149::u150::u151::u152::[]), defers := [] } W') :
  (Code.loop body).wp Tryz.prog Q { tmps := List.toArray (u0::u1::.int .i64 x.p::.int .i64 x.q::.pointer (some ⟨b0, 0, none⟩)::.pointer (some ⟨b1, 0, none⟩)::u6::u7::u8::u9::.pointer (some ⟨Bk, 0, none⟩)::.func (.func 58) #[] #[.pointer (some ⟨Bk, 0, none⟩)]::.slice (some ⟨g0, 0, none⟩) 1 1::u13::u14::u15::u16::u17::u18::u19::u20::u21::u22::u23::u24::u25::u26::u27::u28::u29::u30::u31::u32::u33::u34::u35::u36::u37::u38::u39::u40::u41::u42::u43::u44::u45::u46::u47::u48::u49::u50::u51::u52::u53::u54::u55::u56::u57::u58::u59::u60::u61::u62::u63::.int .i64 n::.int .i64 0::u66::u67::u68::u69::u70::u71::u72::u73::u74::u75::u76::u77::u78::u79::u80::u81::u82::u83::u84::u85::u86::u87::u88::u89::u90::u91::u92::u93::u94::u95::u96::u97::u98::u99::u100::u101::u102::u103::u104::u105::u106::u107::u108::u109::u110::u111::u112::u113::u114::u115::u116::u117::u118::u119::u120::u121::u122::u123::u124::u125::u126::u127::u128::u129::u130::u131::u132::u133::u134::u135::u136::u137::u138::u139::u140::u141::u142::u143::u144::u145::u146::u147::u148::u149::u150::u151::u152::[]), defers := [] } w := by
 obtain rfl := Option.some.inj (hbody.symm.trans (rfl : getLoop Tryz.f23.body 0 = some _))
 clear hbody
 replace hQ := A8 hQ
 go_loopw [12, 65] (fun s o wr => ∃ (i g c : Nat), s = .slice (some ⟨g, 0, none⟩) (i + 1) c ∧ o = .int .i64 i ∧ i ≤ n ∧ Hid (Below w0.heap.size w0 wr ∧ base ≤ wr.heap.size) ∧ Hid (Blk wr Bk #[.bool (x.flag i)] 4) ∧ Hid (wr.ownsRow base 9 1 (.slice (some ⟨g, 0, none⟩) (i + 1) c) (i + 1) ((List.range (i + 1)).map fun j => .string (x.txt j))) ∧ Hid (∀ b, b < base → b ≠ Bk → wr.heap[b]? = w.heap[b]?)) (fun _ o _ => n - (intOf o).toNat)
 case atStart => exact ⟨0, g0, 1, rfl, rfl, by omega, A8 ⟨h0.out.1, h0.out.2.2.2⟩, hk, hr, A8 (fun _ _ _ => rfl)⟩
 case round =>
  clear hk hr
  obtain ⟨i, g, c, rfl, rfl, hi, hb, hk, hr, hs⟩ := hrel
  by_cases hin : i < n
  case neg =>
   have hin' : ¬ (i : Int) < n := by omega
   obtain rfl : i = n := by omega
   go_wp2_with fail
   exact hQ.out g c _ _ _ _ _ _ _ _ _ _ _ _ _ _ _ _ _ _ _ _ _ _ _ _ _ _ _ _ _ _ _ _ _ _ _ _ _ _ _ _ _ _ _ _ _ (A8 hb.out.1) hk hr hs
  case pos =>
   have hin' : (i : Int) < n := by omega
   have hi0 : (0 : Int) ≤ i := by omega
   obtain ⟨ba, oa, ea, hba, xa⟩ : ∃ b off, aa = some ⟨b, off, none⟩ ∧ b < w0.heap.size ∧ w0.cell? ⟨b, off + i, none⟩ = some (.string (sAt x.na i)) := by
    rcases hA.out with ⟨e, e2⟩ | ⟨b, off, cap', e, h1, h2, h3, h4⟩
    ·have := hn.out.1; rw [e2] at this; simp at this; omega
    ·cases e
     have := h4 i _ (E6 (by have := hn.out.1; omega))
     rw [Nat.mul_one] at this
     exact ⟨b, off, rfl, h3, this⟩
   obtain ⟨bb, ob, eb, hbb, xb⟩ : ∃ b off, ab = some ⟨b, off, none⟩ ∧ b < w0.heap.size ∧ w0.cell? ⟨b, off + i, none⟩ = some (.string (sAt x.nb i)) := by
    rcases hB.out with ⟨e, e2⟩ | ⟨b, off, cap', e, h1, h2, h3, h4⟩
    ·have := hn.out.2.1; rw [e2] at this; simp at this; omega
    ·cases e
     have := h4 i _ (E6 (by have := hn.out.2.1; omega))
     rw [Nat.mul_one] at this
     exact ⟨b, off, rfl, h3, this⟩
   subst ea
   subst eb
   obtain ⟨k1, k2⟩ := hok.out.1 i hin
   obtain ⟨E, hT, hEz⟩ := x.add_T i
   have hgE : Hid (x.flag (i + 1) = (mixF (mixF (x.flag i) [I x.p, sAt x.na i, x.db] 3) [I x.q, sAt x.nb i, x.da] 3 && (E == 0))) := A8 (by rw [hEz]; rfl)
   have hsz : base ≤ wr.heap.size := hb.out.2
   have hc' := hc.out
   have cc : ∀ b, b < base → b ≠ Bk → ∀ k u, w.cell? ⟨b, k, none⟩ = some u → ∀ W, Only [Bk] wr W → W.cell? ⟨b, k, none⟩ = some u := fun b hbl hbn k u hu W hW => ((hW.cell (p := ⟨b, k, none⟩) (by show b < _; omega) (by simpa using hbn)).trans (Ag (hs.out b hbl hbn) k)).trans hu
   have ce : ∀ b, b < w0.heap.size → ∀ k u, w0.cell? ⟨b, k, none⟩ = some u → ∀ W, Only [Bk] wr W → W.cell? ⟨b, k, none⟩ = some u := fun b hbl k u hu W hW => ((hW.cell (p := ⟨b, k, none⟩) (by show b < _; have := hb.out.1.size; omega) (by have := h0.out.2.1; simp; omega)).trans (hb.out.1.cell (p := ⟨b, k, none⟩) hbl)).trans hu
   go_upto_region 9 with fail
   refine mix_r9 (p := x.p) (q := x.q) (n := n) (i := i) (ga := ba) (oa := oa) (gb := bb) (ob := ob) (fl := x.flag i) (da := x.da) (db := x.db) (sa := sAt x.na i) (sb := sAt x.nb i) (S := x.txt (i + 1)) (E := E) hE (A8 ⟨hb.out.1, h0.out.2.1⟩) (A8 (by have := hp.out.1; exact ⟨by unfold Fits; omega, (bd11 (by omega)).small (by decide)⟩)) (A8 (by have := hp.out.2; exact ⟨by unfold Fits; omega, (bd11 (by omega)).small (by decide)⟩)) (A8 ⟨hok.out.2.1, hok.out.2.2, k1, k2⟩) hin' hi0
    (A8 (fun W hW => ⟨cc _ hc'.1.1 hc'.1.2.1 0 _ hc'.1.2.2.1 W hW, cc _ hc'.1.1 hc'.1.2.1 1 _ hc'.1.2.2.2 W hW, cc _ hc'.2.1 hc'.2.2.1 0 _ hc'.2.2.2.1 W hW, cc _ hc'.2.1 hc'.2.2.1 1 _ hc'.2.2.2.2 W hW, ce _ hba _ _ xa W hW, ce _ hbb _ _ xb W hW⟩)) (A8 (by have := h0.out.2.2.1; omega)) hk (A8 hT) (by kernel_rfl) ?_
   intro v69 v70 v71 v72 v73 v74 v75 v76 v77 v78 v79 v80 v81 v82 v83 v84 v85 v86 v87 v88 v89 v90 v91 v92 v93 v68 v94 v95 W5 hO5 hk5
   have hr5 := Cy hr.out hO5 (fun b e hb => by have := (hr.out.lt b e).1; have h2 := List.mem_singleton.1 hb; have := h0.out.2.2.1; omega)
   have hb5 := A8 (hb.out.1.trans (hO5.toBelow hb.out.1.size (by intro z hz; rw [List.mem_singleton.1 hz]; exact h0.out.2.1)))
   have hsz5 : base ≤ W5.heap.size := Nat.le_trans hsz hO5.size
   have hs5 := A8 (fun b (hbl : b < base) (hbn : b ≠ Bk) => (hO5.block b (by omega) (by simpa using hbn)).trans (hs.out b hbl hbn))
   obtain ⟨f2, hf2⟩ : ∃ f, f = mixF (mixF (x.flag i) [I x.p, sAt x.na i, x.db] 3) [I x.q, sAt x.nb i, x.da] 3 := ⟨_, rfl⟩
   rw [← hf2] at hk5 hgE
   obtain ⟨ez, hez⟩ : ∃ b, b = (E == 0) := ⟨_, rfl⟩
   rw [← hez] at hgE
   have hez' := hez.symm
   have y0 := hk5.cell 0
   have y1 := hk5.frozen 0
   have hk6 := hk5.set 0 (.bool (f2 && ez))
   have hg6 := Ai W5 Bk 0 (.bool (f2 && ez))
   have hr6 := hr5.kept hg6 (.inr (by intro e; have := (hr5.lt Bk e).1; have := h0.out.2.2.1; omega))
   have hO6 := A8 ((Only.refl [Bk] W5).setCell (p := ⟨Bk, 0, none⟩) (by simp) (.bool (f2 && ez)))
   have hk6' : Blk (W5.setCell ⟨Bk, 0, none⟩ (.bool (f2 && ez))) Bk #[.bool (x.flag (i + 1))] 4 := by rw [hgE.out]; exact hk6
   clear hE hT hEz hez hk6 cc ce hO5 hc' xa xb k1 k2 hgE hf2 hr5
   have hbB := h0.out.2.2.1
   have hbW := h0.out.2.1
   have hend : Hid (∀ (g2 c2 : Nat) (W7 W8 : World), W7 = (W5.setCell ⟨Bk, 0, none⟩ (.bool (f2 && ez))).alloc (.cells #[.string (x.txt (i + 1))] 9) → W8.ownsRow base 9 1 (.slice (some ⟨g2, 0, none⟩) (i + 1 + 1) c2) (i + 1 + 1) (((List.range (i + 1)).map fun j => Value.string (x.txt j)) ++ [.string (x.txt (i + 1))]) → W7.grownBy W8 (some g) →
     (Below w0.heap.size w0 W8 ∧ base ≤ W8.heap.size) ∧ Blk W8 Bk #[.bool (x.flag (i + 1))] 4 ∧ W8.ownsRow base 9 1 (.slice (some ⟨g2, 0, none⟩) (i + 1 + 1) c2) (i + 1 + 1) ((List.range (i + 1 + 1)).map fun j => .string (x.txt j)) ∧ (∀ b, b < base → b ≠ Bk → W8.heap[b]? = w.heap[b]?)) := A8 (fun g2 c2 W7 W8 e7 own8 gr8 => by
    have hgb : base ≤ g := (hr6.lt g rfl).1
    have h6 : Below w0.heap.size w0 (W5.setCell ⟨Bk, 0, none⟩ (.bool (f2 && ez))) := hb5.out.trans (hO6.out.toBelow hb5.out.size (by intro z hz; rw [List.mem_singleton.1 hz]; exact hbW))
    have h67 : Below (W5.setCell ⟨Bk, 0, none⟩ (.bool (f2 && ez))).heap.size (W5.setCell ⟨Bk, 0, none⟩ (.bool (f2 && ez))) W7 := by rw [e7]; exact (Below.refl _ _).alloc (Aa _) _
    have s6 : W5.heap.size ≤ (W5.setCell ⟨Bk, 0, none⟩ (.bool (f2 && ez))).heap.size := hg6.size
    have h7 : Below w0.heap.size w0 W7 := h6.trans (h67.mono h6.size)
    have s7 : base ≤ W7.heap.size := Nat.le_trans hsz5 (Nat.le_trans s6 h67.size)
    have hg0 : w0.heap.size ≤ g := by omega
    refine ⟨⟨h7.grown gr8 h7.size (fun k e => by cases e; exact hg0), Nat.le_trans s7 gr8.size⟩, (hk6'.below h67).kept gr8 (by intro e; cases e; omega), by rw [List.range_succ (n := i + 1), List.map_append]; exact own8, fun b hbl hbn => ?_⟩
    have sb : b < W7.heap.size := by omega
    rw [gr8.block b sb (by intro e; cases e; omega), h67.block b (by omega), hO6.out.block b (by omega) (by simpa using hbn), hs5.out b hbl hbn])
   have hr7 := hr6.alloc (.cells #[.string (x.txt (i + 1))] 9)
   have hs7 : base ≤ ((W5.setCell ⟨Bk, 0, none⟩ (.bool (f2 && ez))).alloc (.cells #[.string (x.txt (i + 1))] 9)).heap.size := by rw [World.size_alloc]; have := hg6.size; omega
   have hu7 : ((W5.setCell ⟨Bk, 0, none⟩ (.bool (f2 && ez))).alloc (.cells #[.string (x.txt (i + 1))] 9)).cell? ⟨W5.heap.size, 0, none⟩ = some (Value.string (x.txt (i + 1))) := by
    have es : (W5.setCell ⟨Bk, 0, none⟩ (.bool (f2 && ez))).heap.size = W5.heap.size := World.size_setCell ..
    have := (Blk.new (W5.setCell ⟨Bk, 0, none⟩ (.bool (f2 && ez))) #[.string (x.txt (i + 1))] 9).cell 0
    rw [es] at this
    exact this
   replace hr7 := A8 hr7
   replace hs7 := A8 hs7
   replace hu7 := A8 hu7
   have hi64 : i + 1 ≤ 64 := by have := hn.out.2.2; omega
   generalize hxt : x.txt (i + 1) = xt at *
   replace hxt := A8 hxt
   clear hr6 hk6' hg6 hO6 hk5 hb5 hs5 hb hk hr hs
   cases f2 <;> cases ez <;>
   ·go_wp2_with (at_builtin; refine Fa rfl _ 9 (.string ⟨#[]⟩) 16 Tryz.underlying28 Ca rfl _ _ rfl (.slice (some ⟨g, 0, none⟩) (i + 1) c) (i + 1) _ rfl hr7.out _ (.string xt) rfl hu7.out rfl (by omega) (by omega) hs7.out ?_; intro g2 c2 W8 own8 gr8 bl8; replace gr8 := hend.out g2 c2 _ W8 rfl own8 gr8; clear own8 bl8; have own8 := A8 gr8.1; have bl8 := A8 gr8.2.1; have q3 := A8 gr8.2.2.1; replace gr8 := A8 gr8.2.2.2)
    go_roundw
    case rel => exact ⟨i + 1, _, _, rfl, by go_num, by omega, by assumption, by assumption, by assumption, by assumption⟩
    case measure => simp [intOf]; omega
def mixArg (x : MixA) : Bool := formedL x.na x.da && formedL x.nb x.db && decide ((x.na.length : Int) = x.nb.length) && (decide (1 ≤ x.p) && decide (x.p ≤ 1000)) && (decide (1 ≤ x.q) && decide (x.q ≤ 1000))
def MixA.quo (x : MixA) (i : Nat) : Int := x.num i / x.gcd (x.na.length + 1)
def mixB (x : MixA) : Bool := mixArg x && x.flag x.na.length && (List.range (x.na.length + 1)).all (fun i => decide (Bd 100 (x.quo i)))
theorem CU {w W : World} {b : Nat} (h : Blk W b #[.slice none 0 0, .string ⟨#[]⟩] 30) (hb : w.heap.size ≤ b) (hW : Below w.heap.size w W) (a c : Value) :
  let V := (W.setCell ⟨b, 0, none⟩ a).setCell ⟨b, 1, none⟩ c
  (V.cell? ⟨b, 0, none⟩ = some a ∧ V.cell? ⟨b, 1, none⟩ = some c) ∧ Below w.heap.size w V ∧ Only [b] W V := by
 have hB := (h.set 0 a).set 1 c
 have hon : Only [b] W ((W.setCell ⟨b, 0, none⟩ a).setCell ⟨b, 1, none⟩ c) := ((Only.refl [b] W).setCell (p := ⟨b, 0, none⟩) (by simp) _).setCell (p := ⟨b, 1, none⟩) (by simp) _
 exact ⟨⟨hB.cell 0, hB.cell 1⟩, hW.trans (hon.toBelow hW.size (by intro x hx; rw [List.mem_singleton.1 hx]; exact hb)), hon⟩
theorem DU (c m : Int) (hc : Fits c) (h0 : 0 < m) (h1 : m ≤ 9223372036854775807) (w : World) : Calls Tryz.prog 24 #[.int .i64 c, .int .i64 m] w (Rets w (.int .i64 (pkv c m))) := by
 obtain ⟨hc0, hc1⟩ := hc
 have hmz : (m == 0) = false := by rw [beq_eq_false_iff_ne]; omega
 by_cases hc : c < 0
 ·have hp : 0 ≤ -(c + 1) := by omega
  have e := A8 (show -(c + 1) % m = pkv c m by unfold pkv; rw [if_pos hc])
  have e2 := A8 (show -((c + 1).tmod m) = -(c + 1) % m by rw [← Int.neg_tmod, Int.tmod_eq_emod_of_nonneg hp])
  go_enter Tryz.func24, Tryz.ntmps24
  go_wp2
  go_ret
  first | exact ⟨Br e.out, Below.refl _ _⟩ | exact ⟨Br (e2.out.trans e.out), Below.refl _ _⟩
 ·have hp : 0 ≤ c := by omega
  have e := A8 (show c % m = pkv c m by unfold pkv; rw [if_neg hc])
  go_enter Tryz.func24, Tryz.ntmps24
  go_wp2
  go_ret
  exact ⟨Br e.out, Below.refl _ _⟩
theorem Bh (c m : Int) (hc : Fits c) (h0 : 0 < m) (h1 : m ≤ 9223372036854775807) (w : World) : Calls Tryz.prog 35 #[.int .i64 c, .int .i64 m] w (Rets w (.int .i64 (pkv c m))) := by
 obtain ⟨hc0, hc1⟩ := hc
 have hmz : (m == 0) = false := by rw [beq_eq_false_iff_ne]; omega
 by_cases hc : c < 0
 ·have hp : 0 ≤ -(c + 1) := by omega
  have e := A8 (show -(c + 1) % m = pkv c m by unfold pkv; rw [if_pos hc])
  have e2 := A8 (show -((c + 1).tmod m) = -(c + 1) % m by rw [← Int.neg_tmod, Int.tmod_eq_emod_of_nonneg hp])
  go_enter Tryz.func35, Tryz.ntmps35
  go_wp2
  go_ret
  first | exact ⟨Br e.out, Below.refl _ _⟩ | exact ⟨Br (e2.out.trans e.out), Below.refl _ _⟩
 ·have hp : 0 ≤ c := by omega
  have e := A8 (show c % m = pkv c m by unfold pkv; rw [if_neg hc])
  go_enter Tryz.func35, Tryz.ntmps35
  go_wp2
  go_ret
  exact ⟨Br e.out, Below.refl _ _⟩
def atv (l : List Int) (i : Nat) : Int := gi l (i % l.length)
theorem Jk (v : Value) (l : List Int) (i : Nat) (w : World) (h : Sl w v l) : Calls Tryz.prog 36 #[v, .int .i64 i] w (Rets w (.int .i64 (atv l i))) := by
 have hl := h.len_le
 unfold maxLen at hl
 unfold atv
 rcases h with ⟨rfl, rfl⟩ | ⟨b, off, cap, rfl, h1, h2, h3, h4⟩
 ·go_enter Tryz.func36, Tryz.ntmps36
  go_wp2
  go_ret
  exact ⟨rfl, Below.refl _ _⟩
 ·by_cases h0 : l.length = 0
  ·have hz : gi l (i % l.length) = 0 := Cn (by omega)
   rw [hz]
   have e0 : ((l.length : Int) == 0) = true := by simp [h0]
   generalize l.length = n at *
   clear h4 hz
   subst h0
   go_enter Tryz.func36, Tryz.ntmps36
   go_wp2
   go_ret
   exact ⟨rfl, Below.refl _ _⟩
  ·have hlt : i % l.length < l.length := Nat.mod_lt _ (by omega)
   have x0 := h4 (i % l.length) hlt
   have e0 : ((l.length : Int) == 0) = false := by rw [beq_eq_false_iff_ne]; omega
   have e1 : ((i : Int)).tmod (l.length : Int) = ((i % l.length : Nat) : Int) := by rw [Int.tmod_eq_emod_of_nonneg (Int.natCast_nonneg i)]; rfl
   generalize gi l (i % l.length) = z at *
   generalize hq : i % l.length = q at *
   generalize l.length = n at *
   have hq1 : (q : Int) < n := by omega
   have hq0 : (0 : Int) ≤ q := by omega
   have hn0 : ¬ (n : Int) = 0 := by omega
   have hn1 : ¬ n = 0 := h0
   replace hq := A8 hq
   clear h4
   go_enter Tryz.func36, Tryz.ntmps36
   go_wp2
   go_ret
   exact ⟨rfl, Below.refl _ _⟩
theorem IP (c r m : Int) (v u : Value) (a a2 : Option Addr) (cp cp2 n n2 : Nat) (hv : v = .slice a n cp) (hu : u = .slice a2 n2 cp2) (hm : Fits m) (w : World) :
  Calls Tryz.prog 30 #[.agg #[.int .i64 c, .int .i64 r, v, u, .int .i64 m]] w (Rets w (.bool (pkv m 3 == 2))) := by
 subst hv
 subst hu
 have PK := A8 (fun W => Bh m 3 hm (by decide) (by decide) W)
 obtain ⟨V, hV, hS, z1⟩ := (BL.start w).add' #[.int .i64 c, .int .i64 r, .slice a n cp, .slice a2 n2 cp2, .int .i64 m] 24
 have x4 : V.cell? ⟨w.heap.size, 4, none⟩ = some (.int .i64 m) := hS.cell _ _ _ (.head _) 4
 generalize pkv m 3 = z at *
 clear z1
 go_enter Tryz.func30, Tryz.ntmps30
 go_upto_region 1 with fail
 rw [← hV]
 clear hV
 go_wp2_with fail
 refine Calls.mono (PK.out _) ?_
 rintro e w1 ⟨rfl, hb⟩
 replace hS := hS.call hb
 go_wp2
 go_ret
 exact ⟨rfl, hS.below⟩
def sAt6 (l : List ByteArray) (i : Nat) : ByteArray := l[i]?.getD ⟨#[]⟩
theorem Jl {l : List ByteArray} {i : Nat} (h : i < l.length) : l[i]? = some (sAt6 l i) := by unfold sAt6; rw [List.getElem?_eq_getElem h]; rfl
theorem La (a b : ByteArray) : (a.toList == b.toList) = decide (a = b) := by
 by_cases h : a = b
 ·subst h; simp
 ·rw [decide_eq_false h, beq_eq_false_iff_ne]
  intro e
  rw [ByteArray.toList_eq, ByteArray.toList_eq] at e
  exact h (ByteArray.ext (Array.toList_inj.1 e))
theorem IQ {l m : List ByteArray} (hl : l.length = m.length) (h : ∀ j, j < l.length → sAt6 l j = sAt6 m j) : l = m := by
 refine List.ext_getElem hl fun j h1 h2 => ?_
 have := h j h1
 unfold sAt6 at this
 rwa [List.getElem?_eq_getElem h1, List.getElem?_eq_getElem h2] at this
theorem Hk (va vb : Value) (la lb : List ByteArray) (w : World) (hA : SlS w va la) (hB : SlS w vb lb) : Calls Tryz.prog 67 #[va, vb] w (Rets w (.bool (decide (la = lb)))) := by
 have hla : la.length ≤ maxLen := hA.len_le
 unfold maxLen at hla
 obtain ⟨aa, ca, rfl⟩ := hA.shape
 obtain ⟨ab, cb, rfl⟩ := hB.shape
 by_cases hl : la.length = lb.length
 case neg =>
  have hn : la ≠ lb := fun e => hl (by rw [e])
  have h1 : ((la.length : Int) != lb.length) = true := by simp; omega
  rw [decide_eq_false hn]
  clear hA hB hn
  generalize la.length = n at *
  generalize lb.length = m at *
  go_enter Tryz.func67, Tryz.ntmps67
  go_wp2
  go_ret
  exact ⟨rfl, Below.refl _ _⟩
 case pos =>
  have h1 : ((la.length : Int) != lb.length) = false := by simp [hl]
  have HA := A8 hA
  have HB := A8 hB
  have hpost : Hid (∀ (b : Bool) k, (b = false ∧ k < la.length ∧ sAt6 la k ≠ sAt6 lb k) ∨ (b = true ∧ ∀ j, j < la.length → sAt6 la j = sAt6 lb j) → decide (la = lb) = b) := A8 (fun b k h => by
   rcases h with ⟨rfl, h1, h2⟩ | ⟨rfl, h1⟩
   ·exact decide_eq_false (fun e => h2 (by rw [e]))
   ·exact decide_eq_true (IQ hl h1))
  obtain ⟨n, hn⟩ : ∃ n, n = la.length := ⟨_, rfl⟩
  obtain ⟨m, hm⟩ : ∃ n, n = lb.length := ⟨_, rfl⟩
  rw [← hn] at HA h1 hpost hl hla ⊢
  rw [← hm] at HB h1 hl ⊢
  replace hn := A8 hn
  replace hm := A8 hm
  replace hl := A8 hl
  clear hA hB
  generalize decide (la = lb) = bb at *
  go_enter Tryz.func67, Tryz.ntmps67
  go_wp2_with fail
  go_loopw [5] (fun o wr => ∃ i : Nat, o = .int .i64 i ∧ i ≤ n ∧ Hid (∀ j, j < i → sAt6 la j = sAt6 lb j) ∧ Hid (Below w.heap.size w wr)) (fun o _ => n - (intOf o).toNat)
  case atStart => exact ⟨0, rfl, by omega, A8 (fun j hj => absurd hj (by omega)), A8 (Below.refl _ _)⟩
  case round =>
   obtain ⟨i, rfl, hi, hall, hb⟩ := hrel
   by_cases hil : i < n
   case neg =>
    have hil' : ¬ (i : Int) < n := by omega
    obtain rfl : i = n := by omega
    have hp := A8 (hpost.out true 0 (.inr ⟨rfl, hall.out⟩))
    go_wp2
    go_ret
    exact ⟨Ae hp.out.symm, hb.out⟩
   case pos =>
    have hil' : (i : Int) < n := by omega
    have hil2 : (i : Int) < m := by have := hl.out; omega
    have hi0 : (0 : Int) ≤ i := by omega
    obtain ⟨ba, oa, ea, hba, xa⟩ : ∃ b off, aa = some ⟨b, off, none⟩ ∧ b < w.heap.size ∧ w.cell? ⟨b, off + i, none⟩ = some (.string (sAt6 la i)) := by
     rcases HA.out with ⟨e, e2⟩ | ⟨b, off, cap', e, h1, h2, h3, h4⟩
     ·have := hn.out; rw [e2] at this; simp at this; omega
     ·cases e
      have := h4 i _ (Jl (by rw [← hn.out]; exact hil))
      rw [Nat.mul_one] at this
      exact ⟨b, off, rfl, h3, this⟩
    obtain ⟨bb', ob, eb, hbb, xb⟩ : ∃ b off, ab = some ⟨b, off, none⟩ ∧ b < w.heap.size ∧ w.cell? ⟨b, off + i, none⟩ = some (.string (sAt6 lb i)) := by
     rcases HB.out with ⟨e, e2⟩ | ⟨b, off, cap', e, h1, h2, h3, h4⟩
     ·have e3 := hm.out; rw [e2] at e3; simp at e3; have := hl.out; omega
     ·cases e
      have := h4 i _ (Jl (by rw [← hm.out, ← hl.out]; exact hil))
      rw [Nat.mul_one] at this
      exact ⟨b, off, rfl, h3, this⟩
    subst ea
    subst eb
    replace xa := (hb.out.cell (p := ⟨_, _, none⟩) hba).trans xa
    replace xb := (hb.out.cell (p := ⟨_, _, none⟩) hbb).trans xb
    have hse := La (sAt6 la i) (sAt6 lb i)
    obtain ⟨sa, hsa⟩ : ∃ s, s = sAt6 la i := ⟨_, rfl⟩
    obtain ⟨sb, hsb⟩ : ∃ s, s = sAt6 lb i := ⟨_, rfl⟩
    rw [← hsa] at xa hse
    rw [← hsb] at xb hse
    replace hsa := A8 hsa
    replace hsb := A8 hsb
    have hb2 := A8 (hb.out.trans (Ac wr 1 |>.mono hb.out.size))
    by_cases heq : sa = sb
    ·rw [decide_eq_true heq] at hse
     have hall2 := A8 (show ∀ j, j < i + 1 → sAt6 la j = sAt6 lb j from fun j hj => by
      by_cases e : j = i
      ·subst e; rw [← hsa.out, ← hsb.out]; exact heq
      ·exact hall.out j (by omega))
     clear heq hall
     go_upto_region 6 with fail
     go_region_held3 (fun w' => w'.cell? ⟨ba, oa + i, none⟩ = some (.string sa) ∧ w'.cell? ⟨bb', ob + i, none⟩ = some (.string sb))
      (first | go_keep)
      (fail)
     all_goals (go_wp2_with fail; go_roundw)
     case rel => exact ⟨i + 1, by go_num, by omega, hall2, hb2⟩
     case measure => simp [intOf]; omega
    ·rw [decide_eq_false heq] at hse
     have hp := A8 (hpost.out false i (.inl ⟨rfl, hil, by rw [← hsa.out, ← hsb.out]; exact heq⟩))
     clear heq
     go_upto_region 6 with fail
     go_region_held3 (fun w' => w'.cell? ⟨ba, oa + i, none⟩ = some (.string sa) ∧ w'.cell? ⟨bb', ob + i, none⟩ = some (.string sb))
      (first | go_keep)
      (fail)
     all_goals (go_wp2; go_ret; exact ⟨Ae hp.out.symm, hb2.out⟩)
def twoL (a b : Int) : List (List Int × Int) := [([1, 1], a), ([1, -1], b)]
theorem BA (a b : Int) (w : World) : Calls Tryz.prog 34 #[.int .i64 a, .int .i64 b] w fun e w' => ∃ v, e = .returned (.agg #[.int .i64 2, v]) ∧ SlE w' v (twoL a b) ∧ Below w.heap.size w w' := by
 obtain ⟨V0, e0, S0, z0⟩ := (BL.start w).add' #[.int .i64 2, .slice (some ⟨w.heap.size + 1 + 1 + 1, 0, none⟩) 2 2] 27
 obtain ⟨V1, e1, S1, z1⟩ := S0.add' #[.int .i64 1, .int .i64 1] 3
 obtain ⟨V2, e2, S2, z2⟩ := S1.add' #[.int .i64 1, .int .i64 (-1)] 3
 obtain ⟨V3, e3, S3, z3⟩ := S2.add' #[.slice (some ⟨w.heap.size + 1, 0, none⟩) 2 2, .int .i64 a, .slice (some ⟨w.heap.size + 1 + 1, 0, none⟩) 2 2, .int .i64 b] 60
 rw [z0] at S1 S2 S3 z1
 rw [z1] at S2 S3 z2
 rw [z2] at S3
 have hV : V3 = ((((w.alloc (.cells #[.int .i64 2, .slice (some ⟨w.heap.size + 1 + 1 + 1, 0, none⟩) 2 2] 27)).alloc (.cells #[.int .i64 1, .int .i64 1] 3)).alloc (.cells #[.int .i64 1, .int .i64 (-1)] 3)).alloc (.cells #[.slice (some ⟨w.heap.size + 1, 0, none⟩) 2 2, .int .i64 a, .slice (some ⟨w.heap.size + 1 + 1, 0, none⟩) 2 2, .int .i64 b] 60)) := by rw [e3, e2, e1, e0]
 have hlt := S3.lts
 have k0 := (S3.c2 (w.heap.size) _ _ _ (.tail _ (.tail _ (.tail _ (.head _)))))
 have hsl : SlE V3 (.slice (some ⟨w.heap.size + 1 + 1 + 1, 0, none⟩) 2 2) (twoL a b) := by
  have c4 := S3.c4 (w.heap.size + 1 + 1 + 1) _ _ _ _ _ (.head _)
  have c1 := S3.c2 (w.heap.size + 1) _ _ _ (.tail _ (.tail _ (.head _)))
  have c2 := S3.c2 (w.heap.size + 1 + 1) _ _ _ (.tail _ (.head _))
  have l3 := hlt _ (.head _)
  have l1 := hlt _ (.tail _ (.tail _ (.head _)))
  have l2 := hlt _ (.tail _ (.head _))
  refine .inr ⟨w.heap.size + 1 + 1 + 1, 0, 2, rfl, Aa _, by unfold maxLen; decide, l3, fun j x hj => ?_⟩
  match j, hj with
  | 0, hj =>
   cases hj
   exact ⟨_, c4.1, .inr ⟨w.heap.size + 1, 0, 2, rfl, Aa _, by unfold maxLen; decide, l1, fun k hk => (match k, hk with | 0, _ => c1.1 | 1, _ => c1.2)⟩, c4.2.1⟩
  | 1, hj =>
   cases hj
   exact ⟨_, c4.2.2.1, .inr ⟨w.heap.size + 1 + 1, 0, 2, rfl, Aa _, by unfold maxLen; decide, l2, fun k hk => (match k, hk with | 0, _ => c2.1 | 1, _ => c2.2)⟩, c4.2.2.2⟩
 have hfin := S3.below
 rw [hV] at hsl hfin k0
 replace hsl := A8 hsl
 replace hfin := A8 hfin
 clear hlt hV e0 e1 e2 e3 S0 S1 S2 S3 z0 z1 z2 z3
 go_enter Tryz.func34, Tryz.ntmps34
 go_wp2
 exact bodyPost_ret (v := .agg #[.int .i64 2, .slice (some ⟨w.heap.size + 1 + 1 + 1, 0, none⟩) 2 2]) (by simp [results, Tryz.results34, go_sem, k0.1, k0.2]) rfl ⟨_, rfl, hsl.out, hfin.out⟩
theorem Lb (va vb : Value) (la lb : List ByteArray) (da db : ByteArray) (w : World) (hA : SlS w va la) (hB : SlS w vb lb) :
  Calls Tryz.prog 26 #[.agg #[va, .string da], .agg #[vb, .string db]] w (Rets w (.bool (decide (da = db) && decide (la = lb)))) := by
 obtain ⟨aa, ca, rfl⟩ := hA.shape
 obtain ⟨ab, cb, rfl⟩ := hB.shape
 have HA := A8 hA
 have HB := A8 hB
 have ST := A8 (fun W (h1 : SlS W (.slice aa la.length ca) la) (h2 : SlS W (.slice ab lb.length cb) lb) => Hk _ _ la lb W h1 h2)
 clear hA hB
 have hs := La da db
 generalize decide (la = lb) = b2 at *
 generalize la.length = n at *
 generalize lb.length = m at *
 by_cases hd : da = db
 ·rw [decide_eq_true hd] at hs ⊢
  clear hd
  obtain ⟨V1, e1, S1, z1⟩ := (BL.start w).add' #[.slice aa n ca, .string da] 30
  obtain ⟨V2, e2, hS, z2⟩ := S1.add' #[.slice ab m cb, .string db] 30
  rw [z1] at hS
  have hV : V2 = (w.alloc (.cells #[.slice aa n ca, .string da] 30)).alloc (.cells #[.slice ab m cb, .string db] 30) := by rw [e2, e1]
  clear e1 e2 S1 z1 z2
  obtain ⟨x0, x1⟩ := hS.c2 w.heap.size _ _ _ (.tail _ (.head _))
  obtain ⟨y0, y1⟩ := hS.c2 (w.heap.size + 1) _ _ _ (.head _)
  go_enter Tryz.func26, Tryz.ntmps26
  go_upto_region 1 with fail
  rw [← hV]
  clear hV
  go_wp2_with fail
  refine Calls.mono (ST.out _ (HA.out.below hS.below) (HB.out.below hS.below)) ?_
  rintro e w1 ⟨rfl, hb⟩
  replace hS := hS.call hb
  clear hb x0 x1 y0 y1
  go_wp2
  go_ret
  exact ⟨Ae (by simp), hS.below⟩
 ·rw [decide_eq_false hd] at hs ⊢
  clear hd
  obtain ⟨V1, e1, S1, z1⟩ := (BL.start w).add' #[.slice aa n ca, .string da] 30
  obtain ⟨V2, e2, hS, z2⟩ := S1.add' #[.slice ab m cb, .string db] 30
  rw [z1] at hS
  have hV : V2 = (w.alloc (.cells #[.slice aa n ca, .string da] 30)).alloc (.cells #[.slice ab m cb, .string db] 30) := by rw [e2, e1]
  clear e1 e2 S1 z1 z2
  obtain ⟨x0, x1⟩ := hS.c2 w.heap.size _ _ _ (.tail _ (.head _))
  obtain ⟨y0, y1⟩ := hS.c2 (w.heap.size + 1) _ _ _ (.head _)
  go_enter Tryz.func26, Tryz.ntmps26
  go_upto_region 1 with fail
  rw [← hV]
  clear hV
  go_wp2
  go_ret
  exact ⟨Ae (by simp), hS.below⟩
end
section
open Go.RowKit
structure NumL where
 cols : Int
 rows : Int
 coefs : List Int
 hidden : List Int
 miss : Int
def NumL.c (x : NumL) : Nat := (1 + pkv x.cols 8).toNat
def NumL.r (x : NumL) : Nat := (1 + pkv x.rows 5).toNat
def NumL.coef (x : NumL) (i j : Nat) : Int := pkv (atv x.coefs (i * x.c + j)) 19 - 9
def NumL.hid (x : NumL) (j : Nat) : Int := pkv (atv x.hidden j) 6
def NumL.sum (x : NumL) (i : Nat) : Nat → Int
 | 0 => 0
 | k + 1 => x.sum i k + x.coef i k * x.hid k
def NumL.misses (x : NumL) : Bool := pkv x.miss 3 == 2
def NumL.hit (x : NumL) (i : Nat) : Bool := x.misses && ((i : Int) == pkv (x.miss.tdiv 3) x.r)
def NumL.val (x : NumL) (i : Nat) : Int := if x.hit i then x.sum i x.c + pkv (x.miss.tdiv 30) 41 - 20 else x.sum i x.c
def NumL.row (x : NumL) (i : Nat) : List Int × Int := ((List.range x.c).map (x.coef i), x.val i)
def NumL.made (x : NumL) : List (List Int × Int) := (List.range x.r).map x.row
theorem NumL.c_eq (x : NumL) : (x.c : Int) = 1 + pkv x.cols 8 ∧ 1 ≤ x.c ∧ x.c ≤ 8 := by
 have h1 := AF (c := x.cols) (m := 8) (by decide)
 have h2 := Cm (c := x.cols) (m := 8) (by decide)
 unfold NumL.c; omega
theorem NumL.r_eq (x : NumL) : (x.r : Int) = 1 + pkv x.rows 5 ∧ 1 ≤ x.r ∧ x.r ≤ 5 := by
 have h1 := AF (c := x.rows) (m := 5) (by decide)
 have h2 := Cm (c := x.rows) (m := 5) (by decide)
 unfold NumL.r; omega
theorem NumL.coef_bd (x : NumL) (i j : Nat) : -9 ≤ x.coef i j ∧ x.coef i j ≤ 9 := by
 have h1 := AF (c := atv x.coefs (i * x.c + j)) (m := 19) (by decide)
 have h2 := Cm (c := atv x.coefs (i * x.c + j)) (m := 19) (by decide)
 unfold NumL.coef; omega
theorem NumL.hid_bd (x : NumL) (j : Nat) : 0 ≤ x.hid j ∧ x.hid j ≤ 5 := by
 have h1 := AF (c := atv x.hidden j) (m := 6) (by decide)
 have h2 := Cm (c := atv x.hidden j) (m := 6) (by decide)
 unfold NumL.hid; omega
theorem NumL.prod_bd (x : NumL) (i j : Nat) : -45 ≤ x.coef i j * x.hid j ∧ x.coef i j * x.hid j ≤ 45 := by
 obtain ⟨h1, h2⟩ := x.coef_bd i j
 obtain ⟨h3, h4⟩ := x.hid_bd j
 generalize x.coef i j = a at *
 generalize x.hid j = b at *
 have e1 := Int.mul_le_mul_of_nonneg_right h2 h3
 have e2 := Int.mul_le_mul_of_nonneg_right h1 h3
 omega
theorem NumL.sum_bd (x : NumL) (i : Nat) : ∀ k : Nat, -45 * (k : Int) ≤ x.sum i k ∧ x.sum i k ≤ 45 * (k : Int)
 | 0 => ⟨by show _ ≤ (0 : Int); omega, by show (0 : Int) ≤ _; omega⟩
 | k + 1 => by
  obtain ⟨h1, h2⟩ := x.sum_bd i k
  obtain ⟨h3, h4⟩ := x.prod_bd i k
  show _ ≤ x.sum i k + x.coef i k * x.hid k ∧ x.sum i k + x.coef i k * x.hid k ≤ _
  omega
theorem NumL.val_bd (x : NumL) (i : Nat) : -400 ≤ x.val i ∧ x.val i ≤ 400 := by
 have h1 := AF (c := x.miss.tdiv 30) (m := 41) (by decide)
 have h2 := Cm (c := x.miss.tdiv 30) (m := 41) (by decide)
 obtain ⟨h3, h4⟩ := x.sum_bd i x.c
 obtain ⟨_, _, h5⟩ := x.c_eq
 unfold NumL.val
 split <;> omega
theorem NumL.made_len (x : NumL) : x.made.length = x.r := by unfold NumL.made; simp
theorem NumL.made_valid (x : NumL) : validL x.c x.made = true := by
 obtain ⟨_, h1, h2⟩ := x.c_eq
 obtain ⟨_, h3, h4⟩ := x.r_eq
 unfold validL
 simp only [Bool.and_eq_true, decide_eq_true_eq, Bool.not_eq_true', List.any_eq_false, x.made_len]
 refine ⟨⟨⟨by omega, by omega⟩, by omega⟩, fun e he => ?_⟩
 unfold NumL.made at he
 obtain ⟨i, _, rfl⟩ := List.mem_map.1 he
 obtain ⟨v1, v2⟩ := x.val_bd i
 have hany : ((List.range x.c).map (x.coef i)).any largeB = false := by
  rw [List.any_eq_false]
  intro z hz
  obtain ⟨j, _, rfl⟩ := List.mem_map.1 hz
  obtain ⟨c1, c2⟩ := x.coef_bd i j
  unfold largeB
  simp; omega
 unfold badE NumL.row
 rw [hany]
 simp; omega
end
section
open Go.RowKit
attribute [local go_sem] Oper.semAt_some
theorem info_eq : (Tryz.prog.info? 60).map (fun i => (i.zero, i.size, i.bytes)) = some (some (.agg #[.slice none 0 0, .int .i64 0]), 2, 32) := by kernel_rfl
theorem GB {P : Program} {w : World} {base : Nat} (t ty e : TypeId) (z : Value) (bytes : Nat) (ht : P.underlying t = some (.slice e)) (hi : (P.info? e).map (fun i => (i.zero, i.size, i.bytes)) = some (some z, 2, bytes)) (hz : z.cells.size = 2)
  (v : Value) (n : Nat) (xs : List Value) (hown : w.ownsRow base e 2 v n xs) (g : Nat) (u1 u2 : Value) (hu1 : w.cell? ⟨g, 0, none⟩ = some u1) (hu2 : w.cell? ⟨g, 1, none⟩ = some u2) (h1 : u1.oneCell' = true) (h2 : u2.oneCell' = true) (hn : (n + 1) * bytes ≤ 140737488355328) (hn2 : n ≤ 1000000) (hbase : base ≤ w.heap.size) :
  ∃ v' w', (Builtin.append_ #[t, t] ty #[v, .slice (some ⟨g, 0, none⟩) 1 1]).run P w = .ok v' w' ∧ w'.ownsRow base e 2 v' (n + 1) (xs ++ [u1, u2]) ∧ w.grownBy w' v.ownBlock ∧ ∀ b, v'.ownBlock = some b → v.ownBlock = some b ∨ w.heap.size ≤ b := by
 obtain ⟨i0, hi, hz0, hz1, hz2⟩ := info_parts hi
 have hnews : ∀ j y, [u1, u2][j]? = some y → w.cell? ((⟨g, 0, none⟩ : Addr).add j) = some y := fun j y hj => by
  match j, hj with
  | 0, hj => cases hj; rw [Av]; exact hu1
  | 1, hj => cases hj; rw [Av]; exact hu2
 have h1c : ∀ y ∈ [u1, u2], y.oneCell' = true := by
  intro y hy
  simp only [List.mem_cons, List.not_mem_nil, or_false] at hy
  rcases hy with rfl | rfl
  ·exact h1
  ·exact h2
 have blkOf : ∀ {v' : Value} {w' : World} {n' : Nat} {xs' : List Value}, w'.ownsRow w.heap.size e 2 v' n' xs' → ∀ b, v'.ownBlock = some b → v.ownBlock = some b ∨ w.heap.size ≤ b := fun h b hb => .inr (h.lt b hb).1
 have hown0 := hown
 rcases hown.2 with ⟨rfl, rfl⟩ | ⟨g0, cap, cur, rfl, hb, hg, hcap, hmax, hsz, htk⟩
 ·obtain ⟨v', w', hrun, r1, r2, _⟩ := run_append_own (P := P) w w.heap.size t ty e i0 z 2 bytes ht hi hz0 hz1 hz2 hz (by decide) (.slice none 0 0) 0 [] (World.ownsRow_nil w _ _ 2) ⟨g, 0, none⟩ 1 1 [u1, u2] rfl hnews h1c (by unfold maxLen; omega) (by omega) (Aa _)
  obtain rfl : xs = [] := List.eq_nil_of_length_eq_zero (by have := hown.1; simpa using this)
  exact ⟨v', w', hrun, Cv r1 hbase, r2, blkOf r1⟩
 ·by_cases hroom : n + 1 ≤ cap
  ·obtain ⟨w', hrun, r1, r2⟩ := run_append_own_spare (P := P) w base t ty e i0 2 ht hi hz1 g0 n cap xs hown0 ⟨g, 0, none⟩ 1 1 [u1, u2] rfl hnews h1c hroom
   exact ⟨_, w', hrun, r1, r2, fun b hb => .inl hb⟩
  ·obtain ⟨v', w', hrun, r1, r2⟩ := run_append_arg_grows (P := P) w t ty e i0 z 2 bytes ht hi hz0 hz1 hz2 hz (by decide) ⟨g0, 0, none⟩ n cap xs (by have := hown.1; simpa using this) (fun j y hj => hown0.cells (g := g0) rfl j y hj) ⟨g, 0, none⟩ 1 1 [u1, u2] rfl hnews (by omega) (by unfold maxLen; omega) hn
   exact ⟨v', w', hrun, Cv r1 hbase, ⟨r2.os, r2.tape, r2.output, r2.size, fun k hk _ => r2.block k hk (by simp)⟩, blkOf r1⟩
theorem Fx {o : Oper} {a : Act} {K : Act → World → Prop} {Q : Exit → Act → World → Prop} {w : World} {base : Nat} (t : TypeId) (ht : Tryz.prog.underlying t = some (.slice 60))
  (s x : Operand) (ho : o.op = .call { callee := .builtin .append, args := #[s, x], argTypes := #[t, t] }) (v : Value) (n : Nat) (xs : List Value) (hs : a.eval s = v) (hown : w.ownsRow base 60 2 v n xs)
  (g : Nat) (u1 u2 : Value) (hx : a.eval x = .slice (some ⟨g, 0, none⟩) 1 1) (hu1 : w.cell? ⟨g, 0, none⟩ = some u1) (hu2 : w.cell? ⟨g, 1, none⟩ = some u2) (h1 : u1.oneCell' = true) (h2 : u2.oneCell' = true) (hn2 : n ≤ 1000000) (hbase : base ≤ w.heap.size)
  (h : ∀ v' w', w'.ownsRow base 60 2 v' (n + 1) (xs ++ [u1, u2]) → w.grownBy w' v.ownBlock → (∀ b, v'.ownBlock = some b → v.ownBlock = some b ∨ w.heap.size ≤ b) → K (a.put o.dst v') w') :
  Oper.wp Tryz.prog o a w K Q := by
 obtain ⟨v', w', hrun, r1, r2, r3⟩ := GB (P := Tryz.prog) t o.type 60 _ 32 ht info_eq rfl v n xs hown g u1 u2 hu1 hu2 h1 h2 (by omega) hn2 hbase
 unfold Oper.wp
 simp [execOp, ho, resolve, invoke, builtin, hs, hx, hrun, Result.andThen]
 exact h v' w' r1 r2 r3
end
end Go.Proofs.YtcmomjnailihpaaGreatDoor
