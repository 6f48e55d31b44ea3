/- LcG, LcH, LcI, LcJ -/
import Derived.Test.YtcmomjnailihpaaGreatDoorXLcD
set_option maxHeartbeats 8000000
set_option maxRecDepth 100000
namespace Go.Proofs.YtcmomjnailihpaaGreatDoor
section
open Go.RowKit
open LnM (sm)
attribute [local go_sem] Oper.semAt_some
def equalL (na : List ByteArray) (da : ByteArray) (nb : List ByteArray) (db : ByteArray) : Bool :=
 formedL na da && formedL nb db && ((na.length : Int) == nb.length) && (List.range na.length).all (fun i => decide (zS (sAt na i) * zS db = zS (sAt nb i) * zS da))
theorem mul_T {a b : ByteArray} (ha : okS a = true) (hb : okS b = true) (hp : Small (zS a * zS b)) (W : World) (hW : Env W) : Calls Tryz.prog 50 #[.string a, .string b] W (Rets W (.tuple #[.string (I (zS a * zS b)), .int .i64 0])) := by
 have := Eh a b W hW
 rw [ha, hb, Bool.and_self, BE hp] at this
 exact this.mono fun e w' h => by
  obtain ⟨⟨r, h1, h2⟩, hb⟩ := h
  exact ⟨by rw [h1, h2], hb⟩
theorem Ke (va vb : Value) (na nb : List ByteArray) (da db : ByteArray) (w : World) (hE : Env w) (hA : SlS w va na) (hB : SlS w vb nb) :
  Calls Tryz.prog 21 #[.agg #[va, .string da], .agg #[vb, .string db]] w (Rets w (.bool (equalL na da nb db))) := by
 obtain ⟨aa, ca, rfl⟩ := hA.shape
 obtain ⟨ab, cb, rfl⟩ := hB.shape
 have HA := A8 hA
 have HB := A8 hB
 have FA := A8 (fun W (hW : SlS W (.slice aa na.length ca) na) => Bz _ na da W hW)
 have FB := A8 (fun W (hW : SlS W (.slice ab nb.length cb) nb) => Bz _ nb db W hW)
 unfold equalL
 cases hf : formedL na da
 ·rw [hf] at FA
  clear hf hA hB
  generalize na.length = la at *
  generalize nb.length = lb at *
  obtain ⟨V1, e1, S1, z1⟩ := (BL.start w).add' #[.slice aa la ca, .string da] 30
  obtain ⟨V2, e2, hS, z2⟩ := S1.add' #[.slice ab lb cb, .string db] 30
  rw [z1] at hS
  have hV : V2 = (w.alloc (.cells #[.slice aa la ca, .string da] 30)).alloc (.cells #[.slice ab lb cb, .string db] 30) := by rw [e2, e1]
  clear e1 e2 S1 z1 z2
  obtain ⟨x0, x1⟩ := hS.c2 w.heap.size _ _ _ (.tail _ (.head _))
  obtain ⟨y0, y1⟩ := hS.c2 (w.heap.size + 1) _ _ _ (.head _)
  go_enter Tryz.func21, Tryz.ntmps21
  go_upto_region 1 with fail
  rw [← hV]
  clear hV
  go_wp2_with fail
  refine Calls.mono (FA.out _ (HA.out.below hS.below)) ?_
  rintro e w1 ⟨rfl, hb⟩
  replace hS := hS.call hb
  clear x0 x1 y0 y1 hb
  obtain ⟨x0, x1⟩ := hS.c2 w.heap.size _ _ _ (.tail _ (.head _))
  obtain ⟨y0, y1⟩ := hS.c2 (w.heap.size + 1) _ _ _ (.head _)
  go_wp2
  go_ret
  exact ⟨Ag (by simp), hS.below⟩
 cases hg : formedL nb db
 ·rw [hf] at FA
  rw [hg] at FB
  clear hf hg hA hB
  generalize na.length = la at *
  generalize nb.length = lb at *
  obtain ⟨V1, e1, S1, z1⟩ := (BL.start w).add' #[.slice aa la ca, .string da] 30
  obtain ⟨V2, e2, hS, z2⟩ := S1.add' #[.slice ab lb cb, .string db] 30
  rw [z1] at hS
  have hV : V2 = (w.alloc (.cells #[.slice aa la ca, .string da] 30)).alloc (.cells #[.slice ab lb cb, .string db] 30) := by rw [e2, e1]
  clear e1 e2 S1 z1 z2
  obtain ⟨x0, x1⟩ := hS.c2 w.heap.size _ _ _ (.tail _ (.head _))
  obtain ⟨y0, y1⟩ := hS.c2 (w.heap.size + 1) _ _ _ (.head _)
  go_enter Tryz.func21, Tryz.ntmps21
  go_upto_region 1 with fail
  rw [← hV]
  clear hV
  go_wp2_with fail
  refine Calls.mono (FA.out _ (HA.out.below hS.below)) ?_
  rintro e w1 ⟨rfl, hb⟩
  replace hS := hS.call hb
  clear x0 x1 y0 y1 hb
  obtain ⟨x0, x1⟩ := hS.c2 w.heap.size _ _ _ (.tail _ (.head _))
  obtain ⟨y0, y1⟩ := hS.c2 (w.heap.size + 1) _ _ _ (.head _)
  go_wp2_with fail
  refine Calls.mono (FB.out _ (HB.out.below hS.below)) ?_
  rintro e w2 ⟨rfl, hb⟩
  replace hS := hS.call hb
  clear x0 x1 y0 y1 hb
  obtain ⟨x0, x1⟩ := hS.c2 w.heap.size _ _ _ (.tail _ (.head _))
  obtain ⟨y0, y1⟩ := hS.c2 (w.heap.size + 1) _ _ _ (.head _)
  go_wp2
  go_ret
  exact ⟨Ag (by simp), hS.below⟩
 by_cases hl : na.length = nb.length
 case neg =>
  have hl1 : ((na.length : Int) == nb.length) = false := by simp; omega
  have hl2 : ((na.length : Int) != nb.length) = true := by simp; omega
  rw [hf] at FA
  rw [hg] at FB
  rw [hl1]
  clear hf hg hA hB hl
  generalize na.length = la at *
  generalize nb.length = lb at *
  obtain ⟨V1, e1, S1, z1⟩ := (BL.start w).add' #[.slice aa la ca, .string da] 30
  obtain ⟨V2, e2, hS, z2⟩ := S1.add' #[.slice ab lb cb, .string db] 30
  rw [z1] at hS
  have hV : V2 = (w.alloc (.cells #[.slice aa la ca, .string da] 30)).alloc (.cells #[.slice ab lb cb, .string db] 30) := by rw [e2, e1]
  clear e1 e2 S1 z1 z2
  obtain ⟨x0, x1⟩ := hS.c2 w.heap.size _ _ _ (.tail _ (.head _))
  obtain ⟨y0, y1⟩ := hS.c2 (w.heap.size + 1) _ _ _ (.head _)
  go_enter Tryz.func21, Tryz.ntmps21
  go_upto_region 1 with fail
  rw [← hV]
  clear hV
  go_wp2_with fail
  refine Calls.mono (FA.out _ (HA.out.below hS.below)) ?_
  rintro e w1 ⟨rfl, hb⟩
  replace hS := hS.call hb
  clear x0 x1 y0 y1 hb
  obtain ⟨x0, x1⟩ := hS.c2 w.heap.size _ _ _ (.tail _ (.head _))
  obtain ⟨y0, y1⟩ := hS.c2 (w.heap.size + 1) _ _ _ (.head _)
  go_wp2_with fail
  refine Calls.mono (FB.out _ (HB.out.below hS.below)) ?_
  rintro e w2 ⟨rfl, hb⟩
  replace hS := hS.call hb
  clear x0 x1 y0 y1 hb
  obtain ⟨x0, x1⟩ := hS.c2 w.heap.size _ _ _ (.tail _ (.head _))
  obtain ⟨y0, y1⟩ := hS.c2 (w.heap.size + 1) _ _ _ (.head _)
  go_wp2
  go_ret
  exact ⟨Ag (by simp), hS.below⟩
 case pos =>
  have hl1 : ((na.length : Int) == nb.length) = true := by simp [hl]
  have hl2 : ((na.length : Int) != nb.length) = false := by simp [hl]
  obtain ⟨p1, p2, p3, p4, p5⟩ := Bo hf
  obtain ⟨q1, q2, q3, q4, q5⟩ := Bo hg
  rw [hf] at FA
  rw [hg] at FB
  rw [hl1]
  have hps : Hid (∀ i, i < na.length → okS (sAt na i) = true ∧ okS (sAt nb i) = true ∧ okS da = true ∧ okS db = true ∧ Small (zS (sAt na i) * zS db) ∧ Small (zS (sAt nb i) * zS da)) := A8 (fun i hi =>
   ⟨(p2 i hi).1, (q2 i (by omega)).1, p3, q3, ((p2 i hi).2.1.mul q4).small (by decide), ((q2 i (by omega)).2.1.mul p4).small (by decide)⟩)
  have hpost : Hid (∀ (b : Bool) k, (b = false ∧ k < na.length ∧ zS (sAt na k) * zS db ≠ zS (sAt nb k) * zS da) ∨ (b = true ∧ ∀ j, j < na.length → zS (sAt na j) * zS db = zS (sAt nb j) * zS da) → ((true && true && true && (List.range na.length).all (fun i => decide (zS (sAt na i) * zS db = zS (sAt nb i) * zS da))) = b)) := A8 (fun b k h => by
   rcases h with ⟨rfl, h1, h2⟩ | ⟨rfl, h1⟩
   ·have : (List.range na.length).all (fun i => decide (zS (sAt na i) * zS db = zS (sAt nb i) * zS da)) = false := by
     rw [List.all_eq_false]
     exact ⟨k, List.mem_range.2 h1, by simp [h2]⟩
    rw [this]; rfl
   ·have : (List.range na.length).all (fun i => decide (zS (sAt na i) * zS db = zS (sAt nb i) * zS da)) = true := by
     rw [List.all_eq_true]
     intro j hj
     exact decide_eq_true (h1 j (List.mem_range.1 hj))
    rw [this]; rfl)
  have hlh := A8 hl
  replace hE := A8 hE
  clear hf hg hA hB hl p2 q2 p3 q3 p4 q4 p5 q5
  obtain ⟨la, hla⟩ : ∃ n, n = na.length := ⟨_, rfl⟩
  obtain ⟨lb, hlb⟩ : ∃ n, n = nb.length := ⟨_, rfl⟩
  rw [← hla] at HA FA hl1 hl2 p1 hps hpost hlh ⊢
  rw [← hlb] at HB FB hl1 hl2 q1 hlh ⊢
  replace hla := A8 hla
  replace hlb := A8 hlb
  obtain ⟨V1, e1, S1, z1⟩ := (BL.start w).add' #[.slice aa la ca, .string da] 30
  obtain ⟨V2, e2, hS, z2⟩ := S1.add' #[.slice ab lb cb, .string db] 30
  rw [z1] at hS
  have hV : V2 = (w.alloc (.cells #[.slice aa la ca, .string da] 30)).alloc (.cells #[.slice ab lb cb, .string db] 30) := by rw [e2, e1]
  clear e1 e2 S1 z1 z2
  obtain ⟨x0, x1⟩ := hS.c2 w.heap.size _ _ _ (.tail _ (.head _))
  obtain ⟨y0, y1⟩ := hS.c2 (w.heap.size + 1) _ _ _ (.head _)
  go_enter Tryz.func21, Tryz.ntmps21
  go_upto_region 1 with fail
  rw [← hV]
  clear hV
  go_wp2_with fail
  refine Calls.mono (FA.out _ (HA.out.below hS.below)) ?_
  rintro e w1 ⟨rfl, hb⟩
  replace hS := hS.call hb
  clear x0 x1 y0 y1 hb
  obtain ⟨x0, x1⟩ := hS.c2 w.heap.size _ _ _ (.tail _ (.head _))
  obtain ⟨y0, y1⟩ := hS.c2 (w.heap.size + 1) _ _ _ (.head _)
  go_wp2_with fail
  refine Calls.mono (FB.out _ (HB.out.below hS.below)) ?_
  rintro e w2 ⟨rfl, hb⟩
  replace hS := hS.call hb
  clear x0 x1 y0 y1 hb
  obtain ⟨x0, x1⟩ := hS.c2 w.heap.size _ _ _ (.tail _ (.head _))
  obtain ⟨y0, y1⟩ := hS.c2 (w.heap.size + 1) _ _ _ (.head _)
  go_wp2_with fail
  clear x0 x1 y0 y1
  go_loopw [30] (fun o wr => ∃ k : Nat, o = .int .i64 k ∧ k ≤ la ∧ Hid (∀ j, j < k → zS (sAt na j) * zS db = zS (sAt nb j) * zS da) ∧ BL w [(w.heap.size + 1, #[.slice ab lb cb, .string db], 30), (w.heap.size, #[.slice aa la ca, .string da], 30)] wr) (fun o _ => la - (intOf o).toNat)
  case atStart => exact ⟨0, rfl, by omega, A8 (fun j hj => absurd hj (by omega)), hS⟩
  case round =>
   clear hS
   obtain ⟨i, rfl, hi, hall, hS⟩ := hrel
   by_cases hil : i < la
   case neg =>
    have hil' : ¬ (i : Int) < la := by omega
    obtain rfl : i = la := by omega
    go_wp2
    go_ret
    exact ⟨Ag (hpost.out true 0 (.inr ⟨rfl, hall.out⟩)).symm, hS.below⟩
   case pos =>
    have hil' : (i : Int) < la := by omega
    have hil2 : (i : Int) < lb := by have := hlh.out; omega
    have hi0 : (0 : Int) ≤ i := by omega
    obtain ⟨k1, k2, k3, k4, k5, k6⟩ := hps.out i hil
    obtain ⟨ba, oa, ea, hba, xa⟩ : ∃ b off, aa = some ⟨b, off, none⟩ ∧ b < w.heap.size ∧ w.cell? ⟨b, off + i, none⟩ = some (.string (sAt na i)) := by
     rcases HA.out with ⟨e, e2⟩ | ⟨b, off, cap', e, h1, h2, h3, h4⟩
     ·have := hla.out; rw [e2] at this; simp at this; omega
     ·cases e
      have := h4 i _ (Dh (by rw [← hla.out]; exact hil))
      rw [Nat.mul_one] at this
      exact ⟨b, off, rfl, h3, this⟩
    obtain ⟨bb, ob, eb, hbb, xb⟩ : ∃ b off, ab = some ⟨b, off, none⟩ ∧ b < w.heap.size ∧ w.cell? ⟨b, off + i, none⟩ = some (.string (sAt nb i)) := by
     rcases HB.out with ⟨e, e2⟩ | ⟨b, off, cap', e, h1, h2, h3, h4⟩
     ·have := hlb.out; rw [e2] at this; simp at this; omega
     ·cases e
      have := h4 i _ (Dh (by rw [← hlb.out]; omega))
      rw [Nat.mul_one] at this
      exact ⟨b, off, rfl, h3, this⟩
    subst ea
    subst eb
    have M1 := A8 (fun W (hW : Env W) => mul_T k1 k4 k5 W hW)
    have M2 := A8 (fun W (hW : Env W) => mul_T k2 k3 k6 W hW)
    have hfe := I_eq (zS (sAt na i) * zS db) (zS (sAt nb i) * zS da)
    obtain ⟨sa, hsa⟩ : ∃ s, s = sAt na i := ⟨_, rfl⟩
    obtain ⟨sb, hsb⟩ : ∃ s, s = sAt nb i := ⟨_, rfl⟩
    rw [← hsa] at xa M1 hfe
    rw [← hsb] at xb M2 hfe
    obtain ⟨px, hpx⟩ : ∃ s, s = I (zS sa * zS db) := ⟨_, rfl⟩
    obtain ⟨py, hpy⟩ : ∃ s, s = I (zS sb * zS da) := ⟨_, rfl⟩
    rw [← hpx] at M1 hfe
    rw [← hpy] at M2 hfe
    replace hsa := A8 hsa
    replace hsb := A8 hsb
    have hC := A8 (show ∀ W, BL w [(w.heap.size + 1, #[.slice (some ⟨bb, ob, none⟩) lb cb, .string db], 30), (w.heap.size, #[.slice (some ⟨ba, oa, none⟩) la ca, .string da], 30)] W → (W.cell? ⟨w.heap.size, 0, none⟩ = some (.slice (some ⟨ba, oa, none⟩) la ca) ∧ W.cell? ⟨w.heap.size, 1, none⟩ = some (.string da) ∧ W.cell? ⟨w.heap.size + 1, 0, none⟩ = some (.slice (some ⟨bb, ob, none⟩) lb cb) ∧ W.cell? ⟨w.heap.size + 1, 1, none⟩ = some (.string db) ∧ W.cell? ⟨ba, oa + i, none⟩ = some (.string sa) ∧ W.cell? ⟨bb, ob + i, none⟩ = some (.string sb)) from fun W h => ⟨h.cell _ _ _ (.tail _ (.head _)) 0, h.cell _ _ _ (.tail _ (.head _)) 1, h.cell _ _ _ (.head _) 0, h.cell _ _ _ (.head _) 1, (h.below.cell (p := ⟨_, _, none⟩) hba).trans xa, (h.below.cell (p := ⟨_, _, none⟩) hbb).trans xb⟩)
    clear k1 k2 k3 k4 k5 k6 hpx hpy xa xb
    go_upto_region 6 with fail
    obtain ⟨x0, x1, x2, x3, x4, x5⟩ := hC.out _ hS
    replace hS := hS.drew
    go_region_held3 (fun w' => w'.cell? ⟨w.heap.size, 0, none⟩ = some (.slice (some ⟨ba, oa, none⟩) la ca) ∧ w'.cell? ⟨w.heap.size, 1, none⟩ = some (.string da) ∧ w'.cell? ⟨w.heap.size + 1, 0, none⟩ = some (.slice (some ⟨bb, ob, none⟩) lb cb) ∧ w'.cell? ⟨w.heap.size + 1, 1, none⟩ = some (.string db) ∧ w'.cell? ⟨ba, oa + i, none⟩ = some (.string sa) ∧ w'.cell? ⟨bb, ob + i, none⟩ = some (.string sb))
     (first | with_reducible exact hC.out _ hS | go_keep)
     (first | (go_at_call 50; (with_reducible refine Calls.mono (M1.out _ (hS.env hE.out)) ?_); rintro e w' ⟨rfl, hb⟩; replace hS := hS.call hb; clear hb))
    all_goals (clear x0 x1 x2 x3 x4 x5)
    go_upto_region 7 with fail
    obtain ⟨x0, x1, x2, x3, x4, x5⟩ := hC.out _ hS
    replace hS := hS.drew
    go_region_held3 (fun w' => w'.cell? ⟨w.heap.size, 0, none⟩ = some (.slice (some ⟨ba, oa, none⟩) la ca) ∧ w'.cell? ⟨w.heap.size, 1, none⟩ = some (.string da) ∧ w'.cell? ⟨w.heap.size + 1, 0, none⟩ = some (.slice (some ⟨bb, ob, none⟩) lb cb) ∧ w'.cell? ⟨w.heap.size + 1, 1, none⟩ = some (.string db) ∧ w'.cell? ⟨ba, oa + i, none⟩ = some (.string sa) ∧ w'.cell? ⟨bb, ob + i, none⟩ = some (.string sb))
     (first | with_reducible exact hC.out _ hS | go_keep)
     (first | (go_at_call 50; (with_reducible refine Calls.mono (M2.out _ (hS.env hE.out)) ?_); rintro e w' ⟨rfl, hb⟩; replace hS := hS.call hb; clear hb))
    all_goals (clear x0 x1 x2 x3 x4 x5)
    by_cases heq : zS sa * zS db = zS sb * zS da
    ·rw [decide_eq_true heq] at hfe
     have hall2 := A8 (show ∀ j, j < i + 1 → zS (sAt na j) * zS db = zS (sAt nb j) * zS da from fun j hj => by
      by_cases e : j = i
      ·subst e; rw [← hsa.out, ← hsb.out]; exact heq
      ·exact hall.out j (by omega))
     clear heq hall
     go_wp2_with fail
     go_roundw
     case rel => exact ⟨i + 1, by go_num, by omega, hall2, hS⟩
     case measure => simp [intOf]; omega
    ·rw [decide_eq_false heq] at hfe
     have hp := hpost.out false i (.inl ⟨rfl, hil, by rw [← hsa.out, ← hsb.out]; exact heq⟩)
     replace hp := A8 hp
     clear heq
     go_wp2
     go_ret
     exact ⟨Ag hp.out.symm, hS.below⟩
end
section
open Go.RowKit
attribute [local go_sem] Oper.semAt_some
def prodZ (l : List ByteArray) : Nat → Int
 | 0 => 1
 | k + 1 => prodZ l k * zS (sAt l k)
def prodB (l : List ByteArray) (k : Nat) : Bool := (List.range k).all (fun j => decide (Small (prodZ l (j + 1))))
theorem EY (l : List ByteArray) (k : Nat) : prodB l (k + 1) = (prodB l k && decide (Small (prodZ l (k + 1)))) := by
 unfold prodB
 rw [List.range_succ, List.all_append]
 simp
theorem Lh {l : List ByteArray} {k n : Nat} (h : prodB l n = true) (hk : k ≤ n) : prodB l k = true := by
 unfold prodB at *
 rw [List.all_eq_true] at *
 intro j hj
 exact h j (List.mem_range.2 (by have := List.mem_range.1 hj; omega))
def mixF (b0 : Bool) (l : List ByteArray) (n : Nat) : Bool := b0 && prodB l n
def mixS (b0 : Bool) (l : List ByteArray) (n : Nat) : ByteArray := if b0 && prodB l n then I (prodZ l n) else ⟨#[48]⟩
theorem FF : Small 1 := by unfold Small; constructor <;> decide
theorem Di {l : List ByteArray} : ∀ {k : Nat}, prodB l k = true → Small (prodZ l k)
 | 0, _ => FF
 | k + 1, h => by rw [EY, Bool.and_eq_true, decide_eq_true_eq] at h; exact h.2
theorem EZ (l : List ByteArray) (b off cap : Nat) (Bk : Nat) (b0 : Bool) (w : World) (hl : l.length ≤ 1000) (hpos : 0 < l.length) (hbw : b < w.heap.size) (hcell : ∀ j, j < l.length → w.cell? ⟨b, off + j, none⟩ = some (.string (sAt l j))) (hok : ∀ j, j < l.length → okS (sAt l j) = true)
  (hk : Blk w Bk #[.bool b0] 4) (hbk : b ≠ Bk) (w0 : World) (hE0 : Env w0) (hw0 : Below w0.heap.size w0 w) (hBk : w0.heap.size ≤ Bk) :
  Calls Tryz.prog 58 #[.slice (some ⟨b, off, none⟩) l.length cap, .pointer (some ⟨Bk, 0, none⟩)] w fun e w' =>
   e = .returned (.string (mixS b0 l l.length)) ∧ Blk w' Bk #[.bool (mixF b0 l l.length)] 4 ∧ Only [Bk] w w' := by
 have hcell' := A8 hcell
 replace hok := A8 hok
 replace hE0 := A8 hE0
 replace hk := A8 hk
 have I1 : I (prodZ l 0) = ⟨#[49]⟩ := by show I 1 = _; unfold I; rw [Ap (by decide), Aq (by decide)]; rfl
 have hpost : Hid (∀ (r : ByteArray) (b1 : Bool), (r = ⟨#[48]⟩ ∧ b1 = false ∧ (b0 && prodB l l.length) = false) ∨ (r = I (prodZ l l.length) ∧ b1 = true ∧ (b0 && prodB l l.length) = true) → mixS b0 l l.length = r ∧ mixF b0 l l.length = b1) := A8 (fun r b1 h => by
  unfold mixS mixF
  rcases h with ⟨rfl, rfl, h⟩ | ⟨rfl, rfl, h⟩
  ·rw [h]; exact ⟨rfl, rfl⟩
  ·rw [h]; exact ⟨rfl, rfl⟩)
 obtain ⟨n, hn⟩ : ∃ n, n = l.length := ⟨_, rfl⟩
 rw [← hn] at hl hpos hcell' hok hpost ⊢
 clear hcell hn
 go_enter Tryz.func58, Tryz.ntmps58
 go_wp2_with fail
 go_loopw [4, 11] (fun x o wr => ∃ i : Nat, x = .string (I (prodZ l i)) ∧ o = .int .i64 i ∧ i ≤ n ∧ Hid ((i = 0 ∨ (b0 = true ∧ prodB l i = true))) ∧ Hid (Only [Bk] w wr) ∧ Hid (Blk wr Bk #[.bool b0] 4)) (fun _ o _ => n - (intOf o).toNat)
 case atStart => exact ⟨0, by rw [I1], rfl, by omega, A8 (.inl rfl), A8 (Only.refl _ _), hk⟩
 case round =>
  clear I1
  obtain ⟨i, rfl, rfl, hi, hst, hO, hB⟩ := hrel
  by_cases hlt : i < n
  case neg =>
   have hlt' : ¬ (i : Int) < n := by omega
   obtain rfl : i = n := by omega
   have hp := hst.out.resolve_left (by omega)
   obtain ⟨p1, p2⟩ := hpost.out (I (prodZ l i)) true (.inr ⟨rfl, rfl, by rw [hp.1, hp.2]; rfl⟩)
   have hb0 := hp.1
   replace p1 := A8 p1
   replace p2 := A8 p2
   replace hb0 := A8 hb0
   clear hp
   go_wp2
   go_ret
   exact ⟨by rw [p1.out]; rfl, by rw [p2.out, ← hb0.out]; exact hB.out, hO.out⟩
  case pos =>
   have hlt' : (i : Int) < n := by omega
   have hi0 : (0 : Int) ≤ i := by omega
   have x0 := (hO.out.cell (p := ⟨b, off + i, none⟩) hbw (by simpa using hbk)).trans (hcell'.out i hlt)
   have k1 := hok.out i hlt
   have hsi : Small (prodZ l i) := by
    rcases hst.out with rfl | h
    ·exact FF
    ·exact Di h.2
   have hpr : prodZ l (i + 1) = prodZ l i * zS (sAt l i) := rfl
   have hbs := EY l i
   obtain ⟨s, hs⟩ : ∃ s, s = sAt l i := ⟨_, rfl⟩
   rw [← hs] at x0 k1 hpr
   obtain ⟨z, hz⟩ : ∃ z, z = prodZ l (i + 1) := ⟨_, rfl⟩
   have MU := A8 (fun W (hW : Env W) => (by have := Eh (I (prodZ l i)) s W hW; rw [BT hsi, k1, C5, Bool.and_self, ← hpr, ← hz] at this; exact this : Calls Tryz.prog 50 #[.string (I (prodZ l i)), .string s] W (Gives W fun r _ => r = resT true z)))
   have hEr := hE0.out.below (hw0.trans (hO.out.toBelow hw0.size (by intro x hx; rw [List.mem_singleton.1 hx]; exact hBk))) (Aa _)
   replace hEr := A8 hEr
   generalize I (prodZ l i) = out at *
   replace hz := A8 hz
   replace hbs := A8 hbs
   clear hsi hpr hs k1
   by_cases hsm : Small z
   ·rw [BE hsm] at MU
    have hz1 : prodB l (i + 1) = prodB l i := by rw [hbs.out, ← hz.out, decide_eq_true hsm, Bool.and_true]
    cases b0 with
    | true =>
     have hst2 : prodB l (i + 1) = true := by
      rw [hz1]
      rcases hst.out with rfl | h
      ·rfl
      ·exact h.2
     replace hst2 := A8 hst2
     go_wp2_with fail
     refine Calls.mono (MU.out _ hEr.out) ?_
     rintro e w1 ⟨⟨r, rfl, rfl⟩, hb⟩
     have hO1 := A8 (hO.out.below hb)
     have hB1 := hB.out.below hb
     have y0 := hB1.cell 0
     have y1 := hB1.frozen 0
     have hB2 := hB1.set 0 (.bool true)
     have hO2 := A8 (hO1.out.setCell (p := ⟨Bk, 0, none⟩) (by simp) (.bool true))
     clear x0 hb hsm hz1
     go_wp2_with fail
     go_roundw
     case rel => exact ⟨i + 1, by rw [hz.out], by go_num, by omega, A8 (.inr ⟨(by first | trivial | rfl), hst2.out⟩), hO2, A8 hB2⟩
     case measure => simp [intOf]; omega
    | false =>
     obtain ⟨p1, p2⟩ := hpost.out ⟨#[48]⟩ false (.inl ⟨rfl, rfl, rfl⟩)
     replace p1 := A8 p1
     replace p2 := A8 p2
     go_wp2_with fail
     refine Calls.mono (MU.out _ hEr.out) ?_
     rintro e w1 ⟨⟨r, rfl, rfl⟩, hb⟩
     have hO1 := A8 (hO.out.below hb)
     have hB1 := hB.out.below hb
     have y0 := hB1.cell 0
     have y1 := hB1.frozen 0
     have hB2 := hB1.set 0 (.bool false)
     have hO2 := A8 (hO1.out.setCell (p := ⟨Bk, 0, none⟩) (by simp) (.bool false))
     clear x0 hb hsm hz1
     go_wp2
     go_ret
     exact ⟨by rw [p1.out]; rfl, by rw [p2.out]; exact hB2, hO2.out⟩
   ·rw [KI hsm] at MU
    have hz1 : (b0 && prodB l n) = false := by
     cases hc : prodB l n with
     | false => rw [Bool.and_false]
     | true =>
      have h1 := Lh hc (show i + 1 ≤ n by omega)
      rw [hbs.out, ← hz.out, decide_eq_false hsm, Bool.and_false] at h1
      cases h1
    obtain ⟨p1, p2⟩ := hpost.out ⟨#[48]⟩ false (.inl ⟨rfl, rfl, hz1⟩)
    replace p1 := A8 p1
    replace p2 := A8 p2
    have e30 : ((30 : Int) == 0) = false := rfl
    clear hz1 hsm
    cases b0 <;>
    ·go_wp2_with fail
     refine Calls.mono (MU.out _ hEr.out) ?_
     rintro e w1 ⟨⟨r, rfl, rfl⟩, hb⟩
     have hO1 := A8 (hO.out.below hb)
     have hB1 := hB.out.below hb
     have y0 := hB1.cell 0
     have y1 := hB1.frozen 0
     have hB2 := hB1.set 0 (.bool false)
     have hO2 := A8 (hO1.out.setCell (p := ⟨Bk, 0, none⟩) (by simp) (.bool false))
     clear x0 hb
     go_wp2
     go_ret
     exact ⟨by rw [p1.out]; rfl, by rw [p2.out]; exact hB2, hO2.out⟩
theorem Jg : I 0 = ⟨#[48]⟩ := by unfold I; rw [Ap (by decide), Aq (by decide)]; rfl
theorem Jh {l : List ByteArray} {n : Nat} (b : Bool) : okS (mixS b l n) = true := by
 unfold mixS
 split
 ·rename_i h
  rw [Bool.and_eq_true] at h
  exact BT (Di h.2)
 ·rw [← Jg]; exact BT EC
theorem own_one {W : World} {base : Nat} {x : Value} {t : TypeId} (hb : base ≤ W.heap.size) : (W.alloc (.cells #[x] t)).ownsRow base t 1 (.slice (some ⟨W.heap.size, 0, none⟩) 1 1) 1 [x] :=
 ⟨rfl, .inr ⟨W.heap.size, 1, #[x], rfl, hb, Blk.new W #[x] t, Aa _, by unfold maxLen; decide, rfl, rfl⟩⟩
theorem above {Bk : Nat} {W W2 : World} (hb : Below W.heap.size W W2) : ∀ g o : Nat, g ≠ Bk → g < W.heap.size → W2.cell? ⟨g, o, none⟩ = W.cell? ⟨g, o, none⟩ := fun _ _ _ h2 => hb.cell (p := ⟨_, _, none⟩) h2
theorem beside {Bk : Nat} {W W2 : World} (hb : Only [Bk] W W2) : ∀ g o : Nat, g ≠ Bk → g < W.heap.size → W2.cell? ⟨g, o, none⟩ = W.cell? ⟨g, o, none⟩ := fun _ _ h1 h2 => hb.cell (p := ⟨_, _, none⟩) h2 (by simpa using h1)
theorem cells3 {W : World} {g : Nat} {a b c : ByteArray} (h : W.cell? ⟨g, 0, none⟩ = some (.string a) ∧ W.cell? ⟨g, 1, none⟩ = some (.string b) ∧ W.cell? ⟨g, 2, none⟩ = some (.string c)) : ∀ j, j < [a, b, c].length → W.cell? ⟨g, 0 + j, none⟩ = some (.string (sAt [a, b, c] j)) := fun j hj => by
 match j, hj with
 | 0, _ => exact h.1
 | 1, _ => exact h.2.1
 | 2, _ => exact h.2.2
theorem oks3 {a b c : ByteArray} (h : okS a = true ∧ okS b = true ∧ okS c = true) : ∀ j, j < [a, b, c].length → okS (sAt [a, b, c] j) = true := fun j hj => by
 match j, hj with
 | 0, _ => exact h.1
 | 1, _ => exact h.2.1
 | 2, _ => exact h.2.2
theorem mix_r5 {Q : Exit → Act → World → Prop} {u0 u1 u6 u7 u8 u9 u10 u12 u13 u14 u15 u16 u17 u18 u19 u20 u21 u22 u23 u24 u25 u26 u27 u28 u29 u30 u31 u32 u33 u34 u35 u36 u37 u38 u39 u40 u41 u42 u43 u44 u45 u46 u47 u48 u49 u50 u51 u52 u53 u54 u55 u56 u57 u58 u59 u60 u61 u62 u63 u64 u65 u66 u67 u68 u69 u70 u71 u72 u73 u74 u75 u76 u77 u78 u79 u80 u81 u82 u83 u84 u85 u86 u87 u88 u89 u90 u91 u92 u93 u94 u95 u96 u97 u98 u99 u100 u101 u102 u103 u104 u105 u106 u107 u108 u109 u110 u111 u112 u113 u114 u115 u116 u117 u118 u119 u120 u121 u122 u123 u124 u125 u126 u127 u128 u129 u130 u131 u132 u133 u134 u135 u136 u137 u138 u139 u140 u141 u142 u143 u144 u145 u146 u147 u148 u149 u150 u151 u152 : Value} {p q pq : Int} {b0 b1 Bk : Nat} {da db : ByteArray} {w0 w : World} (hE : Hid (Env w0)) (h0 : Hid (Below w0.heap.size w0 w ∧ w0.heap.size ≤ Bk)) (hpq : IntKind.i64.wrap (p + q) = pq) (hfp : Hid (Fits pq ∧ Small pq)) (hd : Hid (okS da = true ∧ okS db = true)) (hcell : Hid (∀ W, Only [Bk] w W → W.cell? ⟨b0, 1, none⟩ = some (.string da) ∧ W.cell? ⟨b1, 1, none⟩ = some (.string db))) (hBk : Hid (Bk < w.heap.size)) (hB : Hid (Blk w Bk #[.bool true] 4)) {ops : Array Oper} (ho : getOps Tryz.f23.body 5 = some ops)
  (hQ : ∀ (v50 v51 v52 v53 v54 v55 v56 v57 v58 v59 v60 v61 : Value) (gr : Nat) (W' : World), Only [Bk] w W' → Blk W' Bk #[.bool (mixF true [I pq, da, db] 3)] 4 → W'.ownsRow w.heap.size 9 1 (.slice (some ⟨gr, 0, none⟩) 1 1) 1 [.string (mixS true [I pq, da, db] 3)] → Q .normal { tmps := List.toArray (u0::u1::.int .i64 p::.int .i64 q::.pointer (some ⟨b0, 0, none⟩)::.pointer (some ⟨b1, 0, none⟩)::u6::u7::u8::u9::u10::.func (.func 58) #[] #[.pointer (some ⟨Bk, 0, none⟩)]::.slice (some ⟨gr, 0, none⟩) 1 1::u13::u14::u15::u16::u17::u18::u19::u20::u21::u22::u23::u24::u25::u26::u27::u28::u29::u30::u31::u32::u33::u34::u35::u36::u37::u38::u39::u40::u41::u42::u43::u44::u45::u46::u47::u48::u49::v50::v51::v52::v53::v54::v55::v56::v57::v58::v59::v60::v61::u62::u63::u64::u65::u66::u67::u68::u69::u70::u71::u72::u73::u74::u75::u76::u77::u78::u79::u80::u81::u82::u83::u84::u85::u86::u87::u88::u89::u90::u91::u92::u93::u94::u95::u96::u97::u98::u99::u100::u101::u102::u103::u104::u105::u106::u107::u108::u109::u110::u111::u112::u113::u114::u115::u116::u117::u118::u119::u120::u121::u122::u123::u124::u125::u126::u127::u128::u129::u130::u131::u132::u133::u134::u135::u136::u137::u138::u139::u140::u141::u142::u143::u144::u145::u146::u147::u148::u149::u150::u151::u152::[]), defers := [] } W') :
  (Code.region 5 ops true).wp Tryz.prog Q { tmps := List.toArray (u0::u1::.int .i64 p::.int .i64 q::.pointer (some ⟨b0, 0, none⟩)::.pointer (some ⟨b1, 0, none⟩)::u6::u7::u8::u9::u10::.func (.func 58) #[] #[.pointer (some ⟨Bk, 0, none⟩)]::u12::u13::u14::u15::u16::u17::u18::u19::u20::u21::u22::u23::u24::u25::u26::u27::u28::u29::u30::u31::u32::u33::u34::u35::u36::u37::u38::u39::u40::u41::u42::u43::u44::u45::u46::u47::u48::u49::u50::u51::u52::u53::u54::u55::u56::u57::u58::u59::u60::u61::u62::u63::u64::u65::u66::u67::u68::u69::u70::u71::u72::u73::u74::u75::u76::u77::u78::u79::u80::u81::u82::u83::u84::u85::u86::u87::u88::u89::u90::u91::u92::u93::u94::u95::u96::u97::u98::u99::u100::u101::u102::u103::u104::u105::u106::u107::u108::u109::u110::u111::u112::u113::u114::u115::u116::u117::u118::u119::u120::u121::u122::u123::u124::u125::u126::u127::u128::u129::u130::u131::u132::u133::u134::u135::u136::u137::u138::u139::u140::u141::u142::u143::u144::u145::u146::u147::u148::u149::u150::u151::u152::[]), defers := [] } w := by
 obtain rfl := Option.some.inj (ho.symm.trans (rfl : getOps Tryz.f23.body 5 = some _))
 clear ho
 replace hQ := A8 hQ
 obtain ⟨Iv, hI⟩ : ∃ Iv : (Nat → Bool) → Act → World → Prop, ∀ l a W, Iv l a W ↔ (∃ s50 s51 s52 s53 s54 s55 s56 s57 s58 s59 s60 s61 s12 : Value, a = { tmps := List.toArray (u0::u1::.int .i64 p::.int .i64 q::.pointer (some ⟨b0, 0, none⟩)::.pointer (some ⟨b1, 0, none⟩)::u6::u7::u8::u9::u10::.func (.func 58) #[] #[.pointer (some ⟨Bk, 0, none⟩)]::s12::u13::u14::u15::u16::u17::u18::u19::u20::u21::u22::u23::u24::u25::u26::u27::u28::u29::u30::u31::u32::u33::u34::u35::u36::u37::u38::u39::u40::u41::u42::u43::u44::u45::u46::u47::u48::u49::s50::s51::s52::s53::s54::s55::s56::s57::s58::s59::s60::s61::u62::u63::u64::u65::u66::u67::u68::u69::u70::u71::u72::u73::u74::u75::u76::u77::u78::u79::u80::u81::u82::u83::u84::u85::u86::u87::u88::u89::u90::u91::u92::u93::u94::u95::u96::u97::u98::u99::u100::u101::u102::u103::u104::u105::u106::u107::u108::u109::u110::u111::u112::u113::u114::u115::u116::u117::u118::u119::u120::u121::u122::u123::u124::u125::u126::u127::u128::u129::u130::u131::u132::u133::u134::u135::u136::u137::u138::u139::u140::u141::u142::u143::u144::u145::u146::u147::u148::u149::u150::u151::u152::[]), defers := [] } ∧ Only [Bk] w W ∧ Vs [(0, .func (.func 58) #[] #[.pointer (some ⟨Bk, 0, none⟩)], s50), (1, .int .i64 p, s51), (2, .int .i64 q, s52), (3, .int .i64 pq, s53), (5, .pointer (some ⟨b0, 1, none⟩), s55), (6, .string da, s56), (7, .pointer (some ⟨b1, 1, none⟩), s57), (8, .string db, s58)] l ∧ (l 4 = true → .string (I pq) = s54) ∧ (l 9 = true → (l 10 = false → ∃ g : Nat, s59 = .slice (some ⟨g, 0, none⟩) 3 3 ∧ (W.cell? ⟨g, 0, none⟩ = some (.string (I pq)) ∧ W.cell? ⟨g, 1, none⟩ = some (.string (da)) ∧ W.cell? ⟨g, 2, none⟩ = some (.string (db))) ∧ g < W.heap.size ∧ g ≠ Bk)) ∧ (l 10 = true → .string (mixS true [I pq, da, db] 3) = s60) ∧ (l 11 = true → (∃ g : Nat, s61 = .slice (some ⟨g, 0, none⟩) 1 1 ∧ W.ownsRow w.heap.size 9 1 (.slice (some ⟨g, 0, none⟩) 1 1) 1 [.string (mixS true [I pq, da, db] 3)])) ∧ (l 12 = true → (∃ g : Nat, s12 = .slice (some ⟨g, 0, none⟩) 1 1 ∧ W.ownsRow w.heap.size 9 1 (.slice (some ⟨g, 0, none⟩) 1 1) 1 [.string (mixS true [I pq, da, db] 3)])) ∧ ((l 10 = false → Blk W Bk #[.bool true] 4) ∧ (l 10 = true → Blk W Bk #[.bool (mixF true [I pq, da, db] 3)] 4))) := ⟨_, fun _ _ _ => Iff.rfl⟩
 refine Ae Iv (by kernel_rfl) (by kernel_rfl) ((hI _ _ _).2 ⟨_, _, _, _, _, _, _, _, _, _, _, _, _, rfl, (Only.refl [Bk] w).drewN 1, Vs.zero, fun h => off h, fun h => off h, fun h => off h, fun h => off h, fun h => off h, ⟨fun _ => hB.out.below (Ad w 1), fun h => off h⟩⟩) (Ab (k := 0) ?_ (Ab (k := 1) ?_ (Ab (k := 2) ?_ (Ab (k := 3) ?_ (Ab (k := 4) ?_ (Ab (k := 5) ?_ (Ab (k := 6) ?_ (Ab (k := 7) ?_ (Ab (k := 8) ?_ (Ab (k := 9) ?_ (Ab (k := 10) ?_ (Ab (k := 11) ?_ (Ab (k := 12) ?_ (Al)))))))))))))) ?_
 ·intro l a W hl hw hsh h K hK
  rw [hI] at h; iterate 13 obtain ⟨_, h⟩ := h
  obtain ⟨rfl, hC, hP, f4, f9, f10, h⟩ := h; obtain ⟨f11, f12, g⟩ := h
  go_simp
  apply hK.out; rw [hI]; iterate 13 apply Exists.intro
  exact ⟨rfl, hC, hP.put 0 rfl rfl rfl, f4, f9, f10, f11, f12, g⟩
 ·intro l a W hl hw hsh h K hK
  rw [hI] at h; iterate 13 obtain ⟨_, h⟩ := h
  obtain ⟨rfl, hC, hP, f4, f9, f10, h⟩ := h; obtain ⟨f11, f12, g⟩ := h
  go_simp
  apply hK.out; rw [hI]; iterate 13 apply Exists.intro
  exact ⟨rfl, hC, hP.put 1 rfl rfl rfl, f4, f9, f10, f11, f12, g⟩
 ·intro l a W hl hw hsh h K hK
  rw [hI] at h; iterate 13 obtain ⟨_, h⟩ := h
  obtain ⟨rfl, hC, hP, f4, f9, f10, h⟩ := h; obtain ⟨f11, f12, g⟩ := h
  go_simp
  apply hK.out; rw [hI]; iterate 13 apply Exists.intro
  exact ⟨rfl, hC, hP.put 2 rfl rfl rfl, f4, f9, f10, f11, f12, g⟩
 ·intro l a W hl hw hsh h K hK
  rw [hI] at h; iterate 13 obtain ⟨_, h⟩ := h
  obtain ⟨rfl, hC, hP, f4, f9, f10, h⟩ := h; obtain ⟨f11, f12, g⟩ := h
  obtain rfl := hP.get 1 rfl (hw 1 (by kernel_rfl))
  obtain rfl := hP.get 2 rfl (hw 2 (by kernel_rfl))
  go_simp
  apply hK.out; rw [hI]; iterate 13 apply Exists.intro
  exact ⟨rfl, hC, hP.put 3 rfl rfl rfl, f4, f9, f10, f11, f12, g⟩
 ·intro l a W hl hw hsh h K hK
  rw [hI] at h; iterate 13 obtain ⟨_, h⟩ := h
  obtain ⟨rfl, hC, hP, f4, f9, f10, h⟩ := h; obtain ⟨f11, f12, g⟩ := h
  obtain rfl := hP.get 3 rfl (hw 3 (by kernel_rfl))
  go_simp
  go_at_call 51
  refine Calls.mono (Gn hfp.out.1 _ (hE.out.below (h0.out.1.trans (hC.toBelow h0.out.1.size (by intro x hx; rw [List.mem_singleton.1 hx]; exact h0.out.2))) (Aa _))) ?_
  rintro e W2 ⟨rfl, hb⟩
  have hcellx := @above Bk _ _ hb
  have hsz := hb.size
  apply hK.out; rw [hI]; iterate 13 apply Exists.intro
  exact ⟨rfl, hC.below hb, hP.skip 4 rfl, fun _ => rfl, (fun h h5 => (let ⟨g, e, ⟨a, b, c⟩, u, v⟩ := f9 h h5; ⟨g, e, ⟨(hcellx g 0 v u).trans a, (hcellx g 1 v u).trans b, (hcellx g 2 v u).trans c⟩, A9 u hsz, v⟩)), f10, (fun h => (let ⟨g, e, a⟩ := f11 h; ⟨g, e, As a hb⟩)), (fun h => (let ⟨g, e, a⟩ := f12 h; ⟨g, e, As a hb⟩)), ⟨fun h => (g.1 h).below hb, fun h => (g.2 h).below hb⟩⟩
 ·intro l a W hl hw hsh h K hK
  rw [hI] at h; iterate 13 obtain ⟨_, h⟩ := h
  obtain ⟨rfl, hC, hP, f4, f9, f10, h⟩ := h; obtain ⟨f11, f12, g⟩ := h
  go_simp
  apply hK.out; rw [hI]; iterate 13 apply Exists.intro
  exact ⟨rfl, hC, hP.put 4 rfl rfl rfl, f4, f9, f10, f11, f12, g⟩
 ·intro l a W hl hw hsh h K hK
  rw [hI] at h; iterate 13 obtain ⟨_, h⟩ := h
  obtain ⟨rfl, hC, hP, f4, f9, f10, h⟩ := h; obtain ⟨f11, f12, g⟩ := h
  obtain rfl := hP.get 4 rfl (hw 5 (by kernel_rfl))
  obtain ⟨x0, x1⟩ := hcell.out _ hC
  go_simp
  apply hK.out; rw [hI]; iterate 13 apply Exists.intro
  exact ⟨rfl, hC, hP.put 5 rfl rfl rfl, f4, f9, f10, f11, f12, g⟩
 ·intro l a W hl hw hsh h K hK
  rw [hI] at h; iterate 13 obtain ⟨_, h⟩ := h
  obtain ⟨rfl, hC, hP, f4, f9, f10, h⟩ := h; obtain ⟨f11, f12, g⟩ := h
  go_simp
  apply hK.out; rw [hI]; iterate 13 apply Exists.intro
  exact ⟨rfl, hC, hP.put 6 rfl rfl rfl, f4, f9, f10, f11, f12, g⟩
 ·intro l a W hl hw hsh h K hK
  rw [hI] at h; iterate 13 obtain ⟨_, h⟩ := h
  obtain ⟨rfl, hC, hP, f4, f9, f10, h⟩ := h; obtain ⟨f11, f12, g⟩ := h
  obtain rfl := hP.get 6 rfl (hw 7 (by kernel_rfl))
  obtain ⟨x0, x1⟩ := hcell.out _ hC
  go_simp
  apply hK.out; rw [hI]; iterate 13 apply Exists.intro
  exact ⟨rfl, hC, hP.put 7 rfl rfl rfl, f4, f9, f10, f11, f12, g⟩
 ·intro l a W hl hw hsh h K hK
  rw [hI] at h; iterate 13 obtain ⟨_, h⟩ := h
  obtain ⟨rfl, hC, hP, f4, f9, f10, h⟩ := h; obtain ⟨f11, f12, g⟩ := h
  obtain rfl := f4 (hw 4 (by kernel_rfl))
  obtain rfl := hP.get 5 rfl (hw 6 (by kernel_rfl))
  obtain rfl := hP.get 7 rfl (hw 8 (by kernel_rfl))
  go_simp
  have hb := (Below.refl W.heap.size W).alloc (Aa _) (.cells #[.string (I pq), .string (da), .string (db)] 9)
  have kn := Blk.new W #[.string (I pq), .string (da), .string (db)] 9
  have hcellx := @above Bk _ _ hb
  have hsz := hb.size
  apply hK.out; rw [hI]; iterate 13 apply Exists.intro
  exact ⟨rfl, hC.below hb, hP.skip 9 rfl, f4, fun _ _ => ⟨_, rfl, ⟨kn.cell 0, kn.cell 1, kn.cell 2⟩, kn.lt, fun e => by have := A9 hBk.out hC.size; omega⟩, f10, (fun h => (let ⟨g, e, a⟩ := f11 h; ⟨g, e, As a hb⟩)), (fun h => (let ⟨g, e, a⟩ := f12 h; ⟨g, e, As a hb⟩)), ⟨fun h => (g.1 h).below hb, fun h => (g.2 h).below hb⟩⟩
 ·intro l a W hl hw hsh h K hK
  rw [hI] at h; iterate 13 obtain ⟨_, h⟩ := h
  obtain ⟨rfl, hC, hP, f4, f9, f10, h⟩ := h; obtain ⟨f11, f12, g⟩ := h
  obtain rfl := hP.get 0 rfl (hw 0 (by kernel_rfl))
  have h11 : l 11 = true → true = false := fun h => absurd (hsh 11 10 _ rfl h (by kernel_rfl)) (by simp [hl])
  have h12 : l 12 = true → true = false := fun h => absurd (hsh 11 10 _ rfl (hsh 12 11 _ rfl h (by kernel_rfl)) (by kernel_rfl)) (by simp [hl])
  obtain ⟨gl, el, hgc, hgl, hgne⟩ := f9 (hw 9 (by kernel_rfl)) hl
  subst el
  go_simp
  go_at_call 58
  refine Calls.mono (EZ [I pq, da, db] gl 0 3 Bk true W (by simp) (by simp) hgl (cells3 hgc) (oks3 ⟨BT hfp.out.2, hd.out⟩) (g.1 hl) hgne w0 hE.out (h0.out.1.trans (hC.toBelow h0.out.1.size (by intro x hx; rw [List.mem_singleton.1 hx]; exact h0.out.2))) h0.out.2) ?_
  rintro e W2 ⟨rfl, hk2, ho2⟩
  have hcellx := beside ho2
  have hsz := ho2.size
  apply hK.out; rw [hI]; iterate 13 apply Exists.intro
  exact ⟨rfl, hC.trans ho2, hP.skip 10 rfl, f4, (fun _ h5 => off h5.symm), fun _ => rfl, (fun h => off ((h11 h).symm)), (fun h => off ((h12 h).symm)), ⟨fun h => off h.symm, fun _ => hk2⟩⟩
 ·intro l a W hl hw hsh h K hK
  rw [hI] at h; iterate 13 obtain ⟨_, h⟩ := h
  obtain ⟨rfl, hC, hP, f4, f9, f10, h⟩ := h; obtain ⟨f11, f12, g⟩ := h
  obtain rfl := f10 (hw 10 (by kernel_rfl))
  go_simp
  have hb := (Below.refl W.heap.size W).alloc (Aa _) (.cells #[.string (mixS true [I pq, da, db] 3)] 9)
  have hcellx := @above Bk _ _ hb
  have hsz := hb.size
  apply hK.out; rw [hI]; iterate 13 apply Exists.intro
  exact ⟨rfl, hC.below hb, hP.skip 11 rfl, f4, (fun h h5 => (let ⟨g, e, ⟨a, b, c⟩, u, v⟩ := f9 h h5; ⟨g, e, ⟨(hcellx g 0 v u).trans a, (hcellx g 1 v u).trans b, (hcellx g 2 v u).trans c⟩, A9 u hsz, v⟩)), f10, fun _ => ⟨_, rfl, own_one hC.size⟩, (fun h => (let ⟨g, e, a⟩ := f12 h; ⟨g, e, As a hb⟩)), ⟨fun h => (g.1 h).below hb, fun h => (g.2 h).below hb⟩⟩
 ·intro l a W hl hw hsh h K hK
  rw [hI] at h; iterate 13 obtain ⟨_, h⟩ := h
  obtain ⟨rfl, hC, hP, f4, f9, f10, h⟩ := h; obtain ⟨f11, f12, g⟩ := h
  obtain ⟨gr, rfl, hrow⟩ := f11 (hw 11 (by kernel_rfl))
  go_simp
  apply hK.out; rw [hI]; iterate 13 apply Exists.intro
  exact ⟨rfl, hC, hP.skip 12 rfl, f4, f9, f10, f11, fun _ => ⟨gr, rfl, hrow⟩, g⟩
 ·intro a W hI'
  have h := (hI _ _ _).1 hI'; clear hI'; iterate 13 obtain ⟨_, h⟩ := h
  obtain ⟨rfl, hC, hP, f4, f9, f10, h⟩ := h; obtain ⟨f11, f12, g⟩ := h
  clear f4
  clear f9
  clear f10
  clear f11
  obtain ⟨gr, rfl, hrow⟩ := f12 (by kernel_rfl)
  exact hQ.out _ _ _ _ _ _ _ _ _ _ _ _ gr _ hC (g.2 (by kernel_rfl)) hrow
theorem mix_r9 {Q : Exit → Act → World → Prop} {u0 u1 u6 u7 u8 u9 u10 u12 u14 u15 u16 u17 u18 u19 u20 u21 u22 u23 u24 u25 u26 u27 u28 u29 u30 u31 u32 u33 u34 u35 u36 u37 u38 u39 u40 u41 u42 u43 u44 u45 u46 u47 u48 u49 u50 u51 u52 u53 u54 u55 u56 u57 u58 u59 u60 u61 u62 u63 u64 u65 u66 u67 u68 u69 u70 u71 u72 u73 u74 u75 u76 u77 u78 u79 u80 u81 u82 u83 u84 u85 u86 u87 u88 u89 u90 u91 u92 u93 u94 u95 u96 u97 u98 u99 u100 u101 u102 u103 u104 u105 u106 u107 u108 u109 u110 u111 u112 u113 u114 u115 u116 u117 u118 u119 u120 u121 u122 u123 u124 u125 u126 u127 u128 u129 u130 u131 u132 u133 u134 u135 u136 u137 u138 u139 u140 u141 u142 u143 u144 u145 u146 u147 u148 u149 u150 u151 u152 : Value} {p q : Int} {b0 b1 Bk n i ga oa ca gb ob cb : Nat} {fl : Bool} {da db sa sb S : ByteArray} {E : Int} {w0 w : World} (hE : Hid (Env w0)) (h0 : Hid (Below w0.heap.size w0 w ∧ w0.heap.size ≤ Bk)) (hfp : Hid (Fits p ∧ Small p)) (hfq : Hid (Fits q ∧ Small q)) (hd : Hid (okS da = true ∧ okS db = true ∧ okS sa = true ∧ okS sb = true)) (hi : (i : Int) < n) (hi0 : (0 : Int) ≤ i)
  (hcell : Hid (∀ W, Only [Bk] w W → W.cell? ⟨b0, 0, none⟩ = some (.slice (some ⟨ga, oa, none⟩) n ca) ∧ W.cell? ⟨b0, 1, none⟩ = some (.string da) ∧ W.cell? ⟨b1, 0, none⟩ = some (.slice (some ⟨gb, ob, none⟩) n cb) ∧ W.cell? ⟨b1, 1, none⟩ = some (.string db) ∧ W.cell? ⟨ga, oa + i, none⟩ = some (.string sa) ∧ W.cell? ⟨gb, ob + i, none⟩ = some (.string sb))) (hBk : Hid (Bk < w.heap.size)) (hB : Hid (Blk w Bk #[.bool fl] 4))
  (hAd : Hid (resT true (zS (mixS fl [I p, sa, db] 3) + zS (mixS (mixF fl [I p, sa, db] 3) [I q, sb, da] 3)) = .tuple #[.string S, .int .i64 E])) {ops : Array Oper} (ho : getOps Tryz.f23.body 9 = some ops)
  (hQ : ∀ (v69 v70 v71 v72 v73 v74 v75 v76 v77 v78 v79 v80 v81 v82 v83 v84 v85 v86 v87 v88 v89 v90 v91 v92 v93 v68 v94 v95 : Value)  (W' : World), Only [Bk] w W' → Blk W' Bk #[.bool (mixF (mixF fl [I p, sa, db] 3) [I q, sb, da] 3)] 4 → Q .normal { tmps := List.toArray (u0::u1::.int .i64 p::.int .i64 q::.pointer (some ⟨b0, 0, none⟩)::.pointer (some ⟨b1, 0, none⟩)::u6::u7::u8::u9::u10::.func (.func 58) #[] #[.pointer (some ⟨Bk, 0, none⟩)]::u12::.int .i64 i::.string S::.int .i64 E::u16::u17::u18::u19::u20::u21::u22::u23::u24::u25::u26::u27::u28::u29::u30::u31::u32::u33::u34::u35::u36::u37::u38::u39::u40::u41::u42::u43::u44::u45::u46::u47::u48::u49::u50::u51::u52::u53::u54::u55::u56::u57::u58::u59::u60::u61::u62::u63::u64::u65::u66::u67::v68::v69::v70::v71::v72::v73::v74::v75::v76::v77::v78::v79::v80::v81::v82::v83::v84::v85::v86::v87::v88::v89::v90::v91::v92::v93::v94::v95::u96::u97::u98::u99::u100::u101::u102::u103::u104::u105::u106::u107::u108::u109::u110::u111::u112::u113::u114::u115::u116::u117::u118::u119::u120::u121::u122::u123::u124::u125::u126::u127::u128::u129::u130::u131::u132::u133::u134::u135::u136::u137::u138::u139::u140::u141::u142::u143::u144::u145::u146::u147::u148::u149::u150::u151::u152::[]), defers := [] } W') :
  (Code.region 9 ops true).wp Tryz.prog Q { tmps := List.toArray (u0::u1::.int .i64 p::.int .i64 q::.pointer (some ⟨b0, 0, none⟩)::.pointer (some ⟨b1, 0, none⟩)::u6::u7::u8::u9::u10::.func (.func 58) #[] #[.pointer (some ⟨Bk, 0, none⟩)]::u12::.int .i64 i::u14::u15::u16::u17::u18::u19::u20::u21::u22::u23::u24::u25::u26::u27::u28::u29::u30::u31::u32::u33::u34::u35::u36::u37::u38::u39::u40::u41::u42::u43::u44::u45::u46::u47::u48::u49::u50::u51::u52::u53::u54::u55::u56::u57::u58::u59::u60::u61::u62::u63::u64::u65::u66::u67::u68::u69::u70::u71::u72::u73::u74::u75::u76::u77::u78::u79::u80::u81::u82::u83::u84::u85::u86::u87::u88::u89::u90::u91::u92::u93::u94::u95::u96::u97::u98::u99::u100::u101::u102::u103::u104::u105::u106::u107::u108::u109::u110::u111::u112::u113::u114::u115::u116::u117::u118::u119::u120::u121::u122::u123::u124::u125::u126::u127::u128::u129::u130::u131::u132::u133::u134::u135::u136::u137::u138::u139::u140::u141::u142::u143::u144::u145::u146::u147::u148::u149::u150::u151::u152::[]), defers := [] } w := by
 obtain rfl := Option.some.inj (ho.symm.trans (rfl : getOps Tryz.f23.body 9 = some _))
 clear ho
 replace hQ := A8 hQ
 obtain ⟨Iv, hI⟩ : ∃ Iv : (Nat → Bool) → Act → World → Prop, ∀ l a W, Iv l a W ↔ (∃ s69 s70 s71 s72 s73 s74 s75 s76 s77 s78 s79 s80 s81 s82 s83 s84 s85 s86 s87 s88 s89 s90 s91 s92 s93 s68 s94 s95 s14 s15 : Value, a = { tmps := List.toArray (u0::u1::.int .i64 p::.int .i64 q::.pointer (some ⟨b0, 0, none⟩)::.pointer (some ⟨b1, 0, none⟩)::u6::u7::u8::u9::u10::.func (.func 58) #[] #[.pointer (some ⟨Bk, 0, none⟩)]::u12::.int .i64 i::s14::s15::u16::u17::u18::u19::u20::u21::u22::u23::u24::u25::u26::u27::u28::u29::u30::u31::u32::u33::u34::u35::u36::u37::u38::u39::u40::u41::u42::u43::u44::u45::u46::u47::u48::u49::u50::u51::u52::u53::u54::u55::u56::u57::u58::u59::u60::u61::u62::u63::u64::u65::u66::u67::s68::s69::s70::s71::s72::s73::s74::s75::s76::s77::s78::s79::s80::s81::s82::s83::s84::s85::s86::s87::s88::s89::s90::s91::s92::s93::s94::s95::u96::u97::u98::u99::u100::u101::u102::u103::u104::u105::u106::u107::u108::u109::u110::u111::u112::u113::u114::u115::u116::u117::u118::u119::u120::u121::u122::u123::u124::u125::u126::u127::u128::u129::u130::u131::u132::u133::u134::u135::u136::u137::u138::u139::u140::u141::u142::u143::u144::u145::u146::u147::u148::u149::u150::u151::u152::[]), defers := [] } ∧ Only [Bk] w W ∧ Vs [(0, .func (.func 58) #[] #[.pointer (some ⟨Bk, 0, none⟩)], s69), (1, .int .i64 p, s70), (3, .pointer (some ⟨b0, 0, none⟩), s72), (4, .slice (some ⟨ga, oa, none⟩) n ca, s73), (5, .int .i64 i, s74), (6, .pointer (some ⟨ga, oa + i, none⟩), s75), (7, .string sa, s76), (8, .pointer (some ⟨b1, 1, none⟩), s77), (9, .string db, s78), (12, .func (.func 58) #[] #[.pointer (some ⟨Bk, 0, none⟩)], s81), (13, .int .i64 q, s82), (15, .pointer (some ⟨b1, 0, none⟩), s84), (16, .slice (some ⟨gb, ob, none⟩) n cb, s85), (17, .int .i64 i, s86), (18, .pointer (some ⟨gb, ob + i, none⟩), s87), (19, .string sb, s88), (20, .pointer (some ⟨b0, 1, none⟩), s89), (21, .string da, s90), (25, .tuple #[.string S, .int .i64 E], s68), (26, .string S, s94), (27, .int .i64 E, s95), (28, .string S, s14), (29, .int .i64 E, s15)] l ∧ (l 2 = true → .string (I p) = s71) ∧ (l 10 = true → (l 11 = false → ∃ g : Nat, s79 = .slice (some ⟨g, 0, none⟩) 3 3 ∧ (W.cell? ⟨g, 0, none⟩ = some (.string (I p)) ∧ W.cell? ⟨g, 1, none⟩ = some (.string (sa)) ∧ W.cell? ⟨g, 2, none⟩ = some (.string (db))) ∧ g < W.heap.size ∧ g ≠ Bk)) ∧ (l 11 = true → .string (mixS fl [I p, sa, db] 3) = s80) ∧ (l 14 = true → .string (I q) = s83) ∧ (l 22 = true → (l 23 = false → ∃ g : Nat, s91 = .slice (some ⟨g, 0, none⟩) 3 3 ∧ (W.cell? ⟨g, 0, none⟩ = some (.string (I q)) ∧ W.cell? ⟨g, 1, none⟩ = some (.string (sb)) ∧ W.cell? ⟨g, 2, none⟩ = some (.string (da))) ∧ g < W.heap.size ∧ g ≠ Bk)) ∧ (l 23 = true → .string (mixS (mixF fl [I p, sa, db] 3) [I q, sb, da] 3) = s92) ∧ (l 24 = true → .tuple #[.string S, .int .i64 E] = s93) ∧ ((l 11 = false → Blk W Bk #[.bool fl] 4) ∧ (l 11 = true → l 23 = false → Blk W Bk #[.bool (mixF fl [I p, sa, db] 3)] 4) ∧ (l 23 = true → Blk W Bk #[.bool (mixF (mixF fl [I p, sa, db] 3) [I q, sb, da] 3)] 4))) := ⟨_, fun _ _ _ => Iff.rfl⟩
 refine Ae Iv (by kernel_rfl) (by kernel_rfl) ((hI _ _ _).2 ⟨_, _, _, _, _, _, _, _, _, _, _, _, _, _, _, _, _, _, _, _, _, _, _, _, _, _, _, _, _, _, rfl, (Only.refl [Bk] w).drewN 1, Vs.zero, fun h => off h, fun h => off h, fun h => off h, fun h => off h, fun h => off h, fun h => off h, fun h => off h, ⟨fun _ => hB.out.below (Ad w 1), fun h => off h, fun h => off h⟩⟩) (Ab (k := 0) ?_ (Ab (k := 1) ?_ (Ab (k := 2) ?_ (Ab (k := 3) ?_ (Ab (k := 4) ?_ (Ab (k := 5) ?_ (Ab (k := 6) ?_ (Ab (k := 7) ?_ (Ab (k := 8) ?_ (Ab (k := 9) ?_ (Ab (k := 10) ?_ (Ab (k := 11) ?_ (Ab (k := 12) ?_ (Ab (k := 13) ?_ (Ab (k := 14) ?_ (Ab (k := 15) ?_ (Ab (k := 16) ?_ (Ab (k := 17) ?_ (Ab (k := 18) ?_ (Ab (k := 19) ?_ (Ab (k := 20) ?_ (Ab (k := 21) ?_ (Ab (k := 22) ?_ (Ab (k := 23) ?_ (Ab (k := 24) ?_ (Ab (k := 25) ?_ (Ab (k := 26) ?_ (Ab (k := 27) ?_ (Ab (k := 28) ?_ (Ab (k := 29) ?_ (Al))))))))))))))))))))))))))))))) ?_
 ·intro l a W hl hw hsh h K hK
  rw [hI] at h; iterate 30 obtain ⟨_, h⟩ := h
  obtain ⟨rfl, hC, hP, f2, f10, f11, h⟩ := h; obtain ⟨f14, f22, f23, f24, g⟩ := h
  go_simp
  apply hK.out; rw [hI]; iterate 30 apply Exists.intro
  exact ⟨rfl, hC, hP.put 0 rfl rfl rfl, f2, f10, f11, f14, f22, f23, f24, g⟩
 ·intro l a W hl hw hsh h K hK
  rw [hI] at h; iterate 30 obtain ⟨_, h⟩ := h
  obtain ⟨rfl, hC, hP, f2, f10, f11, h⟩ := h; obtain ⟨f14, f22, f23, f24, g⟩ := h
  go_simp
  apply hK.out; rw [hI]; iterate 30 apply Exists.intro
  exact ⟨rfl, hC, hP.put 1 rfl rfl rfl, f2, f10, f11, f14, f22, f23, f24, g⟩
 ·intro l a W hl hw hsh h K hK
  rw [hI] at h; iterate 30 obtain ⟨_, h⟩ := h
  obtain ⟨rfl, hC, hP, f2, f10, f11, h⟩ := h; obtain ⟨f14, f22, f23, f24, g⟩ := h
  obtain rfl := hP.get 1 rfl (hw 1 (by kernel_rfl))
  go_simp
  go_at_call 51
  refine Calls.mono (Gn hfp.out.1 _ (hE.out.below (h0.out.1.trans (hC.toBelow h0.out.1.size (by intro x hx; rw [List.mem_singleton.1 hx]; exact h0.out.2))) (Aa _))) ?_
  rintro e W2 ⟨rfl, hb⟩
  have hcellx := @above Bk _ _ hb
  have hsz := hb.size
  apply hK.out; rw [hI]; iterate 30 apply Exists.intro
  exact ⟨rfl, hC.below hb, hP.skip 2 rfl, fun _ => rfl, (fun h h5 => (let ⟨g, e, ⟨a, b, c⟩, u, v⟩ := f10 h h5; ⟨g, e, ⟨(hcellx g 0 v u).trans a, (hcellx g 1 v u).trans b, (hcellx g 2 v u).trans c⟩, A9 u hsz, v⟩)), f11, f14, (fun h h5 => (let ⟨g, e, ⟨a, b, c⟩, u, v⟩ := f22 h h5; ⟨g, e, ⟨(hcellx g 0 v u).trans a, (hcellx g 1 v u).trans b, (hcellx g 2 v u).trans c⟩, A9 u hsz, v⟩)), f23, f24, ⟨fun h => (g.1 h).below hb, fun h h2 => (g.2.1 h h2).below hb, fun h => (g.2.2 h).below hb⟩⟩
 ·intro l a W hl hw hsh h K hK
  rw [hI] at h; iterate 30 obtain ⟨_, h⟩ := h
  obtain ⟨rfl, hC, hP, f2, f10, f11, h⟩ := h; obtain ⟨f14, f22, f23, f24, g⟩ := h
  go_simp
  apply hK.out; rw [hI]; iterate 30 apply Exists.intro
  exact ⟨rfl, hC, hP.put 2 rfl rfl rfl, f2, f10, f11, f14, f22, f23, f24, g⟩
 ·intro l a W hl hw hsh h K hK
  rw [hI] at h; iterate 30 obtain ⟨_, h⟩ := h
  obtain ⟨rfl, hC, hP, f2, f10, f11, h⟩ := h; obtain ⟨f14, f22, f23, f24, g⟩ := h
  obtain rfl := hP.get 2 rfl (hw 3 (by kernel_rfl))
  obtain ⟨x0, x1, x2, x3, x4, x5⟩ := hcell.out _ hC
  go_simp
  apply hK.out; rw [hI]; iterate 30 apply Exists.intro
  exact ⟨rfl, hC, hP.put 3 rfl rfl rfl, f2, f10, f11, f14, f22, f23, f24, g⟩
 ·intro l a W hl hw hsh h K hK
  rw [hI] at h; iterate 30 obtain ⟨_, h⟩ := h
  obtain ⟨rfl, hC, hP, f2, f10, f11, h⟩ := h; obtain ⟨f14, f22, f23, f24, g⟩ := h
  go_simp
  apply hK.out; rw [hI]; iterate 30 apply Exists.intro
  exact ⟨rfl, hC, hP.put 4 rfl rfl rfl, f2, f10, f11, f14, f22, f23, f24, g⟩
 ·intro l a W hl hw hsh h K hK
  rw [hI] at h; iterate 30 obtain ⟨_, h⟩ := h
  obtain ⟨rfl, hC, hP, f2, f10, f11, h⟩ := h; obtain ⟨f14, f22, f23, f24, g⟩ := h
  obtain rfl := hP.get 3 rfl (hw 4 (by kernel_rfl))
  obtain rfl := hP.get 4 rfl (hw 5 (by kernel_rfl))
  go_simp
  apply hK.out; rw [hI]; iterate 30 apply Exists.intro
  exact ⟨rfl, hC, hP.put 5 rfl rfl rfl, f2, f10, f11, f14, f22, f23, f24, g⟩
 ·intro l a W hl hw hsh h K hK
  rw [hI] at h; iterate 30 obtain ⟨_, h⟩ := h
  obtain ⟨rfl, hC, hP, f2, f10, f11, h⟩ := h; obtain ⟨f14, f22, f23, f24, g⟩ := h
  obtain rfl := hP.get 5 rfl (hw 6 (by kernel_rfl))
  obtain ⟨x0, x1, x2, x3, x4, x5⟩ := hcell.out _ hC
  go_simp
  apply hK.out; rw [hI]; iterate 30 apply Exists.intro
  exact ⟨rfl, hC, hP.put 6 rfl rfl rfl, f2, f10, f11, f14, f22, f23, f24, g⟩
 ·intro l a W hl hw hsh h K hK
  rw [hI] at h; iterate 30 obtain ⟨_, h⟩ := h
  obtain ⟨rfl, hC, hP, f2, f10, f11, h⟩ := h; obtain ⟨f14, f22, f23, f24, g⟩ := h
  go_simp
  apply hK.out; rw [hI]; iterate 30 apply Exists.intro
  exact ⟨rfl, hC, hP.put 7 rfl rfl rfl, f2, f10, f11, f14, f22, f23, f24, g⟩
 ·intro l a W hl hw hsh h K hK
  rw [hI] at h; iterate 30 obtain ⟨_, h⟩ := h
  obtain ⟨rfl, hC, hP, f2, f10, f11, h⟩ := h; obtain ⟨f14, f22, f23, f24, g⟩ := h
  obtain rfl := hP.get 7 rfl (hw 8 (by kernel_rfl))
  obtain ⟨x0, x1, x2, x3, x4, x5⟩ := hcell.out _ hC
  go_simp
  apply hK.out; rw [hI]; iterate 30 apply Exists.intro
  exact ⟨rfl, hC, hP.put 8 rfl rfl rfl, f2, f10, f11, f14, f22, f23, f24, g⟩
 ·intro l a W hl hw hsh h K hK
  rw [hI] at h; iterate 30 obtain ⟨_, h⟩ := h
  obtain ⟨rfl, hC, hP, f2, f10, f11, h⟩ := h; obtain ⟨f14, f22, f23, f24, g⟩ := h
  obtain rfl := f2 (hw 2 (by kernel_rfl))
  obtain rfl := hP.get 6 rfl (hw 7 (by kernel_rfl))
  obtain rfl := hP.get 8 rfl (hw 9 (by kernel_rfl))
  go_simp
  have hb := (Below.refl W.heap.size W).alloc (Aa _) (.cells #[.string (I p), .string (sa), .string (db)] 9)
  have kn := Blk.new W #[.string (I p), .string (sa), .string (db)] 9
  have hcellx := @above Bk _ _ hb
  have hsz := hb.size
  apply hK.out; rw [hI]; iterate 30 apply Exists.intro
  exact ⟨rfl, hC.below hb, hP.skip 10 rfl, f2, fun _ _ => ⟨_, rfl, ⟨kn.cell 0, kn.cell 1, kn.cell 2⟩, kn.lt, fun e => by have := A9 hBk.out hC.size; omega⟩, f11, f14, (fun h h5 => (let ⟨g, e, ⟨a, b, c⟩, u, v⟩ := f22 h h5; ⟨g, e, ⟨(hcellx g 0 v u).trans a, (hcellx g 1 v u).trans b, (hcellx g 2 v u).trans c⟩, A9 u hsz, v⟩)), f23, f24, ⟨fun h => (g.1 h).below hb, fun h h2 => (g.2.1 h h2).below hb, fun h => (g.2.2 h).below hb⟩⟩
 ·intro l a W hl hw hsh h K hK
  rw [hI] at h; iterate 30 obtain ⟨_, h⟩ := h
  obtain ⟨rfl, hC, hP, f2, f10, f11, h⟩ := h; obtain ⟨f14, f22, f23, f24, g⟩ := h
  obtain rfl := hP.get 0 rfl (hw 0 (by kernel_rfl))
  have h23 : l 23 = true → true = false := fun h => absurd (hsh 14 11 _ rfl (hsh 23 14 _ rfl h (by kernel_rfl)) (by kernel_rfl)) (by simp [hl])
  obtain ⟨gl, el, hgc, hgl, hgne⟩ := f10 (hw 10 (by kernel_rfl)) hl
  subst el
  go_simp
  go_at_call 58
  refine Calls.mono (EZ [I p, sa, db] gl 0 3 Bk fl W (by simp) (by simp) hgl (cells3 hgc) (oks3 ⟨BT hfp.out.2, hd.out.2.2.1, hd.out.2.1⟩) (g.1 hl) hgne w0 hE.out (h0.out.1.trans (hC.toBelow h0.out.1.size (by intro x hx; rw [List.mem_singleton.1 hx]; exact h0.out.2))) h0.out.2) ?_
  rintro e W2 ⟨rfl, hk2, ho2⟩
  have hcellx := beside ho2
  have hsz := ho2.size
  apply hK.out; rw [hI]; iterate 30 apply Exists.intro
  exact ⟨rfl, hC.trans ho2, hP.skip 11 rfl, f2, (fun _ h5 => off h5.symm), fun _ => rfl, f14, (fun h h5 => (let ⟨g, e, ⟨a, b, c⟩, u, v⟩ := f22 h h5; ⟨g, e, ⟨(hcellx g 0 v u).trans a, (hcellx g 1 v u).trans b, (hcellx g 2 v u).trans c⟩, A9 u hsz, v⟩)), f23, f24, ⟨fun h => off h.symm, fun _ _ => hk2, fun h => off (h23 h).symm⟩⟩
 ·intro l a W hl hw hsh h K hK
  rw [hI] at h; iterate 30 obtain ⟨_, h⟩ := h
  obtain ⟨rfl, hC, hP, f2, f10, f11, h⟩ := h; obtain ⟨f14, f22, f23, f24, g⟩ := h
  go_simp
  apply hK.out; rw [hI]; iterate 30 apply Exists.intro
  exact ⟨rfl, hC, hP.put 9 rfl rfl rfl, f2, f10, f11, f14, f22, f23, f24, g⟩
 ·intro l a W hl hw hsh h K hK
  rw [hI] at h; iterate 30 obtain ⟨_, h⟩ := h
  obtain ⟨rfl, hC, hP, f2, f10, f11, h⟩ := h; obtain ⟨f14, f22, f23, f24, g⟩ := h
  go_simp
  apply hK.out; rw [hI]; iterate 30 apply Exists.intro
  exact ⟨rfl, hC, hP.put 10 rfl rfl rfl, f2, f10, f11, f14, f22, f23, f24, g⟩
 ·intro l a W hl hw hsh h K hK
  rw [hI] at h; iterate 30 obtain ⟨_, h⟩ := h
  obtain ⟨rfl, hC, hP, f2, f10, f11, h⟩ := h; obtain ⟨f14, f22, f23, f24, g⟩ := h
  obtain rfl := hP.get 10 rfl (hw 13 (by kernel_rfl))
  go_simp
  go_at_call 51
  refine Calls.mono (Gn hfq.out.1 _ (hE.out.below (h0.out.1.trans (hC.toBelow h0.out.1.size (by intro x hx; rw [List.mem_singleton.1 hx]; exact h0.out.2))) (Aa _))) ?_
  rintro e W2 ⟨rfl, hb⟩
  have hcellx := @above Bk _ _ hb
  have hsz := hb.size
  apply hK.out; rw [hI]; iterate 30 apply Exists.intro
  exact ⟨rfl, hC.below hb, hP.skip 14 rfl, f2, (fun h h5 => (let ⟨g, e, ⟨a, b, c⟩, u, v⟩ := f10 h h5; ⟨g, e, ⟨(hcellx g 0 v u).trans a, (hcellx g 1 v u).trans b, (hcellx g 2 v u).trans c⟩, A9 u hsz, v⟩)), f11, fun _ => rfl, (fun h h5 => (let ⟨g, e, ⟨a, b, c⟩, u, v⟩ := f22 h h5; ⟨g, e, ⟨(hcellx g 0 v u).trans a, (hcellx g 1 v u).trans b, (hcellx g 2 v u).trans c⟩, A9 u hsz, v⟩)), f23, f24, ⟨fun h => (g.1 h).below hb, fun h h2 => (g.2.1 h h2).below hb, fun h => (g.2.2 h).below hb⟩⟩
 ·intro l a W hl hw hsh h K hK
  rw [hI] at h; iterate 30 obtain ⟨_, h⟩ := h
  obtain ⟨rfl, hC, hP, f2, f10, f11, h⟩ := h; obtain ⟨f14, f22, f23, f24, g⟩ := h
  go_simp
  apply hK.out; rw [hI]; iterate 30 apply Exists.intro
  exact ⟨rfl, hC, hP.put 11 rfl rfl rfl, f2, f10, f11, f14, f22, f23, f24, g⟩
 ·intro l a W hl hw hsh h K hK
  rw [hI] at h; iterate 30 obtain ⟨_, h⟩ := h
  obtain ⟨rfl, hC, hP, f2, f10, f11, h⟩ := h; obtain ⟨f14, f22, f23, f24, g⟩ := h
  obtain rfl := hP.get 11 rfl (hw 15 (by kernel_rfl))
  obtain ⟨x0, x1, x2, x3, x4, x5⟩ := hcell.out _ hC
  go_simp
  apply hK.out; rw [hI]; iterate 30 apply Exists.intro
  exact ⟨rfl, hC, hP.put 12 rfl rfl rfl, f2, f10, f11, f14, f22, f23, f24, g⟩
 ·intro l a W hl hw hsh h K hK
  rw [hI] at h; iterate 30 obtain ⟨_, h⟩ := h
  obtain ⟨rfl, hC, hP, f2, f10, f11, h⟩ := h; obtain ⟨f14, f22, f23, f24, g⟩ := h
  go_simp
  apply hK.out; rw [hI]; iterate 30 apply Exists.intro
  exact ⟨rfl, hC, hP.put 13 rfl rfl rfl, f2, f10, f11, f14, f22, f23, f24, g⟩
 ·intro l a W hl hw hsh h K hK
  rw [hI] at h; iterate 30 obtain ⟨_, h⟩ := h
  obtain ⟨rfl, hC, hP, f2, f10, f11, h⟩ := h; obtain ⟨f14, f22, f23, f24, g⟩ := h
  obtain rfl := hP.get 12 rfl (hw 16 (by kernel_rfl))
  obtain rfl := hP.get 13 rfl (hw 17 (by kernel_rfl))
  go_simp
  apply hK.out; rw [hI]; iterate 30 apply Exists.intro
  exact ⟨rfl, hC, hP.put 14 rfl rfl rfl, f2, f10, f11, f14, f22, f23, f24, g⟩
 ·intro l a W hl hw hsh h K hK
  rw [hI] at h; iterate 30 obtain ⟨_, h⟩ := h
  obtain ⟨rfl, hC, hP, f2, f10, f11, h⟩ := h; obtain ⟨f14, f22, f23, f24, g⟩ := h
  obtain rfl := hP.get 14 rfl (hw 18 (by kernel_rfl))
  obtain ⟨x0, x1, x2, x3, x4, x5⟩ := hcell.out _ hC
  go_simp
  apply hK.out; rw [hI]; iterate 30 apply Exists.intro
  exact ⟨rfl, hC, hP.put 15 rfl rfl rfl, f2, f10, f11, f14, f22, f23, f24, g⟩
 ·intro l a W hl hw hsh h K hK
  rw [hI] at h; iterate 30 obtain ⟨_, h⟩ := h
  obtain ⟨rfl, hC, hP, f2, f10, f11, h⟩ := h; obtain ⟨f14, f22, f23, f24, g⟩ := h
  go_simp
  apply hK.out; rw [hI]; iterate 30 apply Exists.intro
  exact ⟨rfl, hC, hP.put 16 rfl rfl rfl, f2, f10, f11, f14, f22, f23, f24, g⟩
 ·intro l a W hl hw hsh h K hK
  rw [hI] at h; iterate 30 obtain ⟨_, h⟩ := h
  obtain ⟨rfl, hC, hP, f2, f10, f11, h⟩ := h; obtain ⟨f14, f22, f23, f24, g⟩ := h
  obtain rfl := hP.get 16 rfl (hw 20 (by kernel_rfl))
  obtain ⟨x0, x1, x2, x3, x4, x5⟩ := hcell.out _ hC
  go_simp
  apply hK.out; rw [hI]; iterate 30 apply Exists.intro
  exact ⟨rfl, hC, hP.put 17 rfl rfl rfl, f2, f10, f11, f14, f22, f23, f24, g⟩
 ·intro l a W hl hw hsh h K hK
  rw [hI] at h; iterate 30 obtain ⟨_, h⟩ := h
  obtain ⟨rfl, hC, hP, f2, f10, f11, h⟩ := h; obtain ⟨f14, f22, f23, f24, g⟩ := h
  obtain rfl := f14 (hw 14 (by kernel_rfl))
  obtain rfl := hP.get 15 rfl (hw 19 (by kernel_rfl))
  obtain rfl := hP.get 17 rfl (hw 21 (by kernel_rfl))
  go_simp
  have hb := (Below.refl W.heap.size W).alloc (Aa _) (.cells #[.string (I q), .string (sb), .string (da)] 9)
  have kn := Blk.new W #[.string (I q), .string (sb), .string (da)] 9
  have hcellx := @above Bk _ _ hb
  have hsz := hb.size
  apply hK.out; rw [hI]; iterate 30 apply Exists.intro
  exact ⟨rfl, hC.below hb, hP.skip 22 rfl, f2, (fun h h5 => (let ⟨g, e, ⟨a, b, c⟩, u, v⟩ := f10 h h5; ⟨g, e, ⟨(hcellx g 0 v u).trans a, (hcellx g 1 v u).trans b, (hcellx g 2 v u).trans c⟩, A9 u hsz, v⟩)), f11, f14, fun _ _ => ⟨_, rfl, ⟨kn.cell 0, kn.cell 1, kn.cell 2⟩, kn.lt, fun e => by have := A9 hBk.out hC.size; omega⟩, f23, f24, ⟨fun h => (g.1 h).below hb, fun h h2 => (g.2.1 h h2).below hb, fun h => (g.2.2 h).below hb⟩⟩
 ·intro l a W hl hw hsh h K hK
  rw [hI] at h; iterate 30 obtain ⟨_, h⟩ := h
  obtain ⟨rfl, hC, hP, f2, f10, f11, h⟩ := h; obtain ⟨f14, f22, f23, f24, g⟩ := h
  obtain rfl := hP.get 9 rfl (hw 12 (by kernel_rfl))
  have h11 : l 11 = true := hsh 14 11 _ rfl (hw 14 (by kernel_rfl)) (by kernel_rfl)
  obtain ⟨gl, el, hgc, hgl, hgne⟩ := f22 (hw 22 (by kernel_rfl)) hl
  subst el
  go_simp
  go_at_call 58
  refine Calls.mono (EZ [I q, sb, da] gl 0 3 Bk (mixF fl [I p, sa, db] 3) W (by simp) (by simp) hgl (cells3 hgc) (oks3 ⟨BT hfq.out.2, hd.out.2.2.2, hd.out.1⟩) (g.2.1 h11 hl) hgne w0 hE.out (h0.out.1.trans (hC.toBelow h0.out.1.size (by intro x hx; rw [List.mem_singleton.1 hx]; exact h0.out.2))) h0.out.2) ?_
  rintro e W2 ⟨rfl, hk2, ho2⟩
  have hcellx := beside ho2
  have hsz := ho2.size
  apply hK.out; rw [hI]; iterate 30 apply Exists.intro
  exact ⟨rfl, hC.trans ho2, hP.skip 23 rfl, f2, (fun _ h5 => off (h5.symm.trans h11)), f11, f14, (fun _ h5 => off h5.symm), fun _ => rfl, f24, ⟨fun h => off (h.symm.trans h11), fun _ h => off h.symm, fun _ => hk2⟩⟩
 ·intro l a W hl hw hsh h K hK
  rw [hI] at h; iterate 30 obtain ⟨_, h⟩ := h
  obtain ⟨rfl, hC, hP, f2, f10, f11, h⟩ := h; obtain ⟨f14, f22, f23, f24, g⟩ := h
  obtain rfl := f11 (hw 11 (by kernel_rfl))
  obtain rfl := f23 (hw 23 (by kernel_rfl))
  go_simp
  go_at_call 59
  refine Calls.mono (J1 (mixS fl [I p, sa, db] 3) (mixS (mixF fl [I p, sa, db] 3) [I q, sb, da] 3) _ (hE.out.below (h0.out.1.trans (hC.toBelow h0.out.1.size (by intro x hx; rw [List.mem_singleton.1 hx]; exact h0.out.2))) (Aa _))) ?_
  rw [Jh, Jh, Bool.and_self, hAd.out]
  rintro e W2 ⟨⟨v, rfl, rfl⟩, hb⟩
  have hcellx := @above Bk _ _ hb
  have hsz := hb.size
  apply hK.out; rw [hI]; iterate 30 apply Exists.intro
  exact ⟨rfl, hC.below hb, hP.skip 24 rfl, f2, (fun h h5 => (let ⟨g, e, ⟨a, b, c⟩, u, v⟩ := f10 h h5; ⟨g, e, ⟨(hcellx g 0 v u).trans a, (hcellx g 1 v u).trans b, (hcellx g 2 v u).trans c⟩, A9 u hsz, v⟩)), f11, f14, (fun h h5 => (let ⟨g, e, ⟨a, b, c⟩, u, v⟩ := f22 h h5; ⟨g, e, ⟨(hcellx g 0 v u).trans a, (hcellx g 1 v u).trans b, (hcellx g 2 v u).trans c⟩, A9 u hsz, v⟩)), f23, fun _ => rfl, ⟨fun h => (g.1 h).below hb, fun h h2 => (g.2.1 h h2).below hb, fun h => (g.2.2 h).below hb⟩⟩
 ·intro l a W hl hw hsh h K hK
  rw [hI] at h; iterate 30 obtain ⟨_, h⟩ := h
  obtain ⟨rfl, hC, hP, f2, f10, f11, h⟩ := h; obtain ⟨f14, f22, f23, f24, g⟩ := h
  obtain rfl := f24 (hw 24 (by kernel_rfl))
  go_simp
  apply hK.out; rw [hI]; iterate 30 apply Exists.intro
  exact ⟨rfl, hC, hP.put 18 rfl rfl rfl, f2, f10, f11, f14, f22, f23, f24, g⟩
 ·intro l a W hl hw hsh h K hK
  rw [hI] at h; iterate 30 obtain ⟨_, h⟩ := h
  obtain ⟨rfl, hC, hP, f2, f10, f11, h⟩ := h; obtain ⟨f14, f22, f23, f24, g⟩ := h
  obtain rfl := hP.get 18 rfl (hw 25 (by kernel_rfl))
  go_simp
  apply hK.out; rw [hI]; iterate 30 apply Exists.intro
  exact ⟨rfl, hC, hP.put 19 rfl rfl rfl, f2, f10, f11, f14, f22, f23, f24, g⟩
 ·intro l a W hl hw hsh h K hK
  rw [hI] at h; iterate 30 obtain ⟨_, h⟩ := h
  obtain ⟨rfl, hC, hP, f2, f10, f11, h⟩ := h; obtain ⟨f14, f22, f23, f24, g⟩ := h
  obtain rfl := hP.get 18 rfl (hw 25 (by kernel_rfl))
  go_simp
  apply hK.out; rw [hI]; iterate 30 apply Exists.intro
  exact ⟨rfl, hC, hP.put 20 rfl rfl rfl, f2, f10, f11, f14, f22, f23, f24, g⟩
 ·intro l a W hl hw hsh h K hK
  rw [hI] at h; iterate 30 obtain ⟨_, h⟩ := h
  obtain ⟨rfl, hC, hP, f2, f10, f11, h⟩ := h; obtain ⟨f14, f22, f23, f24, g⟩ := h
  obtain rfl := hP.get 19 rfl (hw 26 (by kernel_rfl))
  go_simp
  apply hK.out; rw [hI]; iterate 30 apply Exists.intro
  exact ⟨rfl, hC, hP.put 21 rfl rfl rfl, f2, f10, f11, f14, f22, f23, f24, g⟩
 ·intro l a W hl hw hsh h K hK
  rw [hI] at h; iterate 30 obtain ⟨_, h⟩ := h
  obtain ⟨rfl, hC, hP, f2, f10, f11, h⟩ := h; obtain ⟨f14, f22, f23, f24, g⟩ := h
  obtain rfl := hP.get 20 rfl (hw 27 (by kernel_rfl))
  go_simp
  apply hK.out; rw [hI]; iterate 30 apply Exists.intro
  exact ⟨rfl, hC, hP.put 22 rfl rfl rfl, f2, f10, f11, f14, f22, f23, f24, g⟩
 ·intro a W hI'
  have h := (hI _ _ _).1 hI'; clear hI'; iterate 30 obtain ⟨_, h⟩ := h
  obtain ⟨rfl, hC, hP, f2, f10, f11, h⟩ := h; obtain ⟨f14, f22, f23, f24, g⟩ := h
  clear f2
  clear f10
  clear f11
  clear f14
  clear f22
  clear f23
  clear f24
  obtain rfl := hP.get 21 rfl (by kernel_rfl)
  obtain rfl := hP.get 22 rfl (by kernel_rfl)
  exact hQ.out _ _ _ _ _ _ _ _ _ _ _ _ _ _ _ _ _ _ _ _ _ _ _ _ _ _ _ _ _ hC (g.2.2 (by kernel_rfl))
end
end Go.Proofs.YtcmomjnailihpaaGreatDoor
