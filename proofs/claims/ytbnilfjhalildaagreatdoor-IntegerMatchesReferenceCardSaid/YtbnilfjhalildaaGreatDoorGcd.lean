/- Gcd. -/
import Derived.Test.YtbnilfjhalildaaGreatDoorRootM
import Derived.Test.YtbnilfjhalildaaGreatDoorDiv
namespace Go.Proofs.YtbnilfjhalildaaGreatDoor
open Go.RowKit
attribute [local go_sem] Oper.semAt_some

/-- The integers as which a slice reads (for a loop's measure). -/
def rdSl (w : World) (v : Value) : List Int := match v with
  | .slice (some a) n _ => (List.range n).map fun j => match w.cell? ⟨a.block, a.off + j, none⟩ with
    | some (.int _ z) => z
    | _ => 0
  | _ => []
theorem Sl.rd {w : World} {v : Value} {xs : List Int} (h : Sl w v xs) : rdSl w v = xs := by
  rcases h with ⟨rfl, rfl⟩ | ⟨b, off, cap, rfl, h1, h2, h3, h4⟩
  · rfl
  · unfold rdSl
    apply List.ext_getElem
    · simp
    · intro i h5 h6
      simp only [List.getElem_map, List.getElem_range]
      rw [h4 i h6, gi_lt h6]

theorem len_big {xs : List Int} {n : Int} (h : Num 10000 xs n) (hn : n < Big) : xs.length ≤ 50 := len_of_big h hn

set_option maxRecDepth 100000 in
set_option maxHeartbeats 4000000 in
theorem gcd_ok (a b : ByteArray) (w : World) (hE : Env w) (ha : okS a = true) (hb : okS b = true) :
    Calls Tryz.prog 20 #[.string a, .string b] w (Gives w fun r _ => r = resT true (gcdZ (zS a) (zS b))) := by
  have Ba := z_bound ha
  have Bb := z_bound hb
  have Pk := fun W => both_ok a b W ha hb
  have G0 := Lib.hid (gcdZ_abs (zS a) (zS b))
  go_enter Tryz.func20, Tryz.ntmps20
  go_wp2_with fail
  refine (Pk _).mono ?_
  rintro e W1 ⟨⟨r, rfl, v, u, rfl, ⟨x, xs, rfl, hx, hnx⟩, ⟨y, ys, rfl, hy, hny⟩⟩, hb1⟩
  have Bx := abs_big Ba
  have By := abs_big Bb
  obtain ⟨a1, c1, rfl⟩ := hx.shape
  obtain ⟨a2, c2, rfl⟩ := hy.shape
  generalize hs : decide (zS a < 0) = s at *
  generalize ht : decide (zS b < 0) = t at *
  obtain ⟨W2, hW2, h1, h2, h3, h4, h5⟩ := two_start W1 s t (.slice a1 xs.length c1) (.slice a2 ys.length c2)
  go_wp2_with fail
  rw [← hW2]
  clear hW2 hs ht
  go_quiet (fail)
  go_wp2_with fail
  have hW : Below w.heap.size w (W2.drewN nq) := kb_call (below_drewN _ _) (kb_call h5 hb1 (Nat.le_refl _)) (Nat.le_refl _)
  have hx2 := (hx.below h5).drewN nq
  have hy2 := (hy.below h5).drewN nq
  clear h1 h2 h3 h4 h5 hx hy
  go_loopw [9, 10] (fun k l wr => ∃ a3 c3 a4 c4 ks ls m n, k = .slice a3 ks.length c3 ∧ l = .slice a4 ls.length c4 ∧ Sl wr (.slice a3 ks.length c3) ks ∧ Sl wr (.slice a4 ls.length c4) ls ∧ Num 10000 ks m ∧ Num 10000 ls n ∧ m < Big ∧ n < Big ∧
      Hid (gcdZ m n = gcdZ (zS a) (zS b)) ∧ Below w.heap.size w wr)
    (fun _ l wr => (val 10000 (rdSl wr l)).toNat)
  case atStart => exact ⟨_, _, _, _, _, _, _, _, rfl, rfl, hx2, hy2, hnx, hny, Bx, By, G0.out, hW⟩
  case round =>
    clear hx2 hy2 hnx hny Bx By hW G0 Ba Bb
    obtain ⟨a3, c3, a4, c4, ks, ls, m, n, rfl, rfl, hk, hl, hnk, hnl, Bm, Bn, hG, hW⟩ := hrel
    by_cases h0 : 0 < ls.length
    · have hn0 : 0 < n := by
        have := hnl.nonneg (by decide)
        have h1 : ¬ n = 0 := fun e => by have := (hnl.zero_iff (by decide)).2 e; rw [this] at h0; simp at h0
        omega
      have hm0 := hnk.nonneg (by decide)
      have lk := len_big hnk Bm
      have ll := len_big hnl Bn
      have hrd := Lib.hid hl.rd
      go_wp2_with fail
      refine (over_any _ _ ks ls n _ hk hl hnk.dig hnl hn0 (by omega) (by omega)).mono ?_
      rintro e w2 ⟨⟨r, rfl, r1, r2, qs, rs, rfl, hq, hnq, hr, hnr⟩, hb2⟩
      rw [hnk.val] at hnq hnr
      obtain ⟨a5, c5, rfl⟩ := hq.shape
      obtain ⟨a6, c6, rfl⟩ := hr.shape
      have hlt := Int.emod_lt_of_pos m hn0
      have hmod := Int.emod_nonneg m (by omega : n ≠ 0)
      have hl2 := hl.below hb2
      have hrd2 := Lib.hid hr.rd
      have hW2 := kb_call hb2 hW (Nat.le_refl _)
      go_wp2
      go_roundw
      case rel => exact ⟨_, _, _, _, ls, rs, n, m % n, rfl, rfl, hl2, hr, hnl, hnr, Bn, by omega, (gcdZ_step hm0 hn0).trans hG.out, hW2⟩
      case measure =>
        show (val 10000 (rdSl _ _)).toNat < (val 10000 (rdSl _ _)).toNat
        rw [hrd.out, hrd2.out, hnl.val, hnr.val]
        omega
    · have e0 : ls = [] := List.eq_nil_of_length_eq_zero (by omega)
      have en := (hnl.zero_iff (by decide)).1 e0
      subst e0 en
      have hm0 := hnk.nonneg (by decide)
      have hf : sgn false m = gcdZ (zS a) (zS b) := by rw [← hG.out, gcdZ_zero hm0]; rfl
      have HF := Lib.hid hf
      have lk := len_big hnk Bm
      have hE2 := hE.below hW (Nat.le_refl _)
      clear hf hG
      go_wp2_with fail
      refine (text_any false _ ks m _ hE2 hk hnk (by omega)).mono ?_
      rintro e w2 ⟨rfl, hb2⟩
      rw [HF.out]
      go_wp2
      go_ret2
      exact ⟨⟨_, rfl, rfl⟩, kb_call hb2 hW (Nat.le_refl _)⟩

set_option maxRecDepth 100000 in
set_option maxHeartbeats 2000000 in
theorem gcd_bad (a b : ByteArray) (w : World) (h : okS a = false ∨ okS b = false) :
    Calls Tryz.prog 20 #[.string a, .string b] w (Gives w fun r _ => r = resT false 0) := by
  have Pk := fun W => both_bad a b W h
  go_enter Tryz.func20, Tryz.ntmps20
  go_wp2_with fail
  refine (Pk _).mono ?_
  rintro e W1 ⟨⟨r, rfl, rfl⟩, hb1⟩
  go_wp2
  go_ret2
  exact ⟨⟨_, rfl, rfl⟩, kb_call (below_two W1 _ _) hb1 (Nat.le_refl _)⟩

theorem resT_false (x y : Int) : resT false x = resT false y := rfl
/-- integer.Gcd. -/
theorem gcd_any (a b : ByteArray) (w : World) (hE : Env w) :
    Calls Tryz.prog 20 #[.string a, .string b] w (Gives w fun r _ => r = resT (okS a && okS b) (gcdZ (zS a) (zS b))) := by
  by_cases h : okS a = true ∧ okS b = true
  · rw [h.1, h.2]; exact gcd_ok a b w hE h.1 h.2
  · rw [(and_false_of h).1, resT_false (gcdZ (zS a) (zS b)) 0]; exact gcd_bad a b w (and_false_of h).2
end Go.Proofs.YtbnilfjhalildaaGreatDoor
