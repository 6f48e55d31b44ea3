/- putloglaw04.cut; the reference for fractions: Print, Parse. -/
import Derived.Test.YtkmlcnkhijpndaaGreatDoorPkJ
import Derived.Test.YtkmlcnkhijpndaaGreatDoorPkI
import Derived.Test.YtkmlcnkhijpndaaGreatDoorBlq
import Derived.Deep.QuietTactic
import Derived.BigQuiet
import Derived.RegionTactic
namespace Go.Proofs.YtkmlcnkhijpndaaGreatDoor
open Go.RowKit
attribute [local go_sem] Oper.semAt_some

theorem joined_eq (n d : ByteArray) : n ++ ⟨#[47]⟩ ++ d = ⟨(joined n d).toArray⟩ := by
  apply ByteArray.ext
  apply Array.ext'
  simp [joined]

set_option maxRecDepth 100000 in
set_option maxHeartbeats 16000000 in
/-- putlogref04.Print. -/
theorem qrprint_any (n d : ByteArray) (hsn : n.size ≤ 9223372036854775807) (hsd : d.size ≤ 9223372036854775807) (w : World) :
    Calls Tryz.prog 16 #[.agg #[.string n, .string d]] w (Rets w (.string (prt n d))) := by
  have Q := fun W => qrvalid_any n d hsn hsd W
  obtain ⟨W0, hW0, hk0, hB0⟩ := box_two w (.string n) (.string d) 23
  obtain ⟨c0, c1⟩ := blk_two hk0
  unfold prt
  cases hr : rOk n d with
  | false =>
    rw [hr] at Q
    rw [if_neg (by decide)]
    clear hr
    go_enter Tryz.func16, Tryz.ntmps16
    go_wp2_with fail
    rw [← hW0]
    refine (Q _).mono ?_
    rintro e w1 ⟨rfl, hb⟩
    have hB1 := kb_call hb hB0 (Nat.le_refl _)
    go_wp2
    go_ret
    exact ⟨rfl, hB1⟩
  | true =>
    obtain ⟨hn, hd, _, _⟩ := rOk_parts hr
    have h1 := str_one (txtS hd)
    have sn := okS_size hn
    have sd := okS_size hd
    have hj := Lib.hid (joined_eq n d)
    rw [hr] at Q
    rw [if_pos rfl]
    by_cases hz : zS d = 1
    · rw [if_pos hz]
      rw [decide_eq_true hz] at h1
      clear hr hn hd hz hj
      go_enter Tryz.func16, Tryz.ntmps16
      go_wp2_with fail
      rw [← hW0]
      clear hW0
      refine (Q _).mono ?_
      rintro e w1 ⟨rfl, hb⟩
      have hk1 := hk0.below hb
      have hB1 := kb_call hb hB0 (Nat.le_refl _)
      clear c0 c1 hk0 hB0 hb
      obtain ⟨c0, c1⟩ := blk_two hk1
      go_wp2
      go_ret
      exact ⟨rfl, hB1⟩
    · rw [if_neg hz]
      rw [decide_eq_false hz] at h1
      clear hr hn hd hz
      go_enter Tryz.func16, Tryz.ntmps16
      go_wp2_with fail
      rw [← hW0]
      clear hW0
      refine (Q _).mono ?_
      rintro e w1 ⟨rfl, hb⟩
      have hk1 := hk0.below hb
      have hB1 := kb_call hb hB0 (Nat.le_refl _)
      clear c0 c1 hk0 hB0 hb
      obtain ⟨c0, c1⟩ := blk_two hk1
      go_wp2
      go_ret
      exact ⟨congrArg (fun s => Ending.returned (.string s)) hj.out, hB1⟩

theorem idx_none : ∀ {l : List UInt8}, (∀ b ∈ l, b ≠ 47) → Lib.index l [47] = -1
  | [], _ => rfl
  | b :: l, h => by
    unfold Lib.index
    have hb : ([47] : List UInt8).isPrefixOf (b :: l) = false := by
      have := h b (by simp)
      simp [List.isPrefixOf]
      exact fun e => this e.symm
    rw [hb, if_neg (by decide), idx_none (fun c hc => h c (by simp [hc]))]; rfl
theorem idx_at : ∀ {l : List UInt8} {k : Nat} (hk : k < l.length), (∀ j, (hj : j < k) → l[j] ≠ 47) → l[k] = 47 → Lib.index l [47] = k
  | [], k, hk, _, _ => by simp at hk
  | b :: l, 0, _, _, he => by
    unfold Lib.index
    have hb : ([47] : List UInt8).isPrefixOf (b :: l) = true := by
      have : b = 47 := he
      subst this
      simp [List.isPrefixOf]
    rw [hb, if_pos rfl]; rfl
  | b :: l, k + 1, hk, hn, he => by
    unfold Lib.index
    have h0 : b ≠ 47 := hn 0 (by omega)
    have hb : ([47] : List UInt8).isPrefixOf (b :: l) = false := by
      simp [List.isPrefixOf]
      exact fun e => h0 e.symm
    have ih := idx_at (l := l) (k := k) (by simpa using hk) (fun j hj => hn (j + 1) (by omega)) he
    rw [hb, if_neg (by decide), ih, if_neg (by simp <;> omega)]; omega
theorem cut_none {s : ByteArray} (h : ∀ b ∈ s.data.toList, b ≠ 47) : cutN s = s ∧ cutD s = ⟨#[49]⟩ := by
  unfold cutN cutD Lib.cut
  rw [idx_none h, if_neg (by decide)]
  exact ⟨by apply ByteArray.ext; simp, by simp⟩
theorem cut_at {s : ByteArray} {k : Nat} (hk : k < s.size) (hn : ∀ j, (hj : j < k) → s[j] ≠ 47) (he : s[k] = 47) : cutN s = s.extract 0 k ∧ cutD s = s.extract (k + 1) s.size := by
  have hi := idx_at (l := s.data.toList) (k := k) (by simpa using hk) (fun j hj => by have := hn j hj; rw [Array.getElem_toList]; exact this) (by rw [Array.getElem_toList]; exact he)
  unfold cutN cutD Lib.cut
  rw [hi, if_pos (by omega)]
  refine ⟨?_, ?_⟩
  · apply ByteArray.ext
    rw [ByteArray.data_extract]
    apply Array.ext'
    simp
  · simp only [if_true]
    apply ByteArray.ext
    rw [ByteArray.data_extract]
    apply Array.ext'
    simp
    rw [List.take_of_length_le (by simp)]
/-- No slash before place k. -/
def NoSl (s : ByteArray) (k : Nat) : Prop := ∀ j, (hj : j < k) → (hs : j < s.size) → s[j] ≠ 47
theorem NoSl.next {s : ByteArray} {k : Nat} (h : NoSl s k) {hk : k < s.size} (he : (((s[k]'hk).toNat : Int) == 47) = false) : NoSl s (k + 1) := by
  intro j hj hs e
  by_cases h1 : j < k
  · exact h j h1 hs e
  · obtain rfl : j = k := by omega
    rw [e] at he; cases he
theorem NoSl.all {s : ByteArray} {k : Nat} (h : NoSl s k) (hk : s.size ≤ k) : cutN s = s ∧ cutD s = ⟨#[49]⟩ := by
  refine cut_none fun b hb => ?_
  obtain ⟨i, hi, rfl⟩ := List.getElem_of_mem hb
  have hi' : i < s.size := by simpa using hi
  have := h i (by omega) hi'
  rw [Array.getElem_toList]; exact this
theorem NoSl.at_ {s : ByteArray} {k : Nat} (h : NoSl s k) {hk : k < s.size} (he : (((s[k]'hk).toNat : Int) == 47) = true) : cutN s = s.extract 0 k ∧ cutD s = s.extract (k + 1) s.size := by
  refine cut_at hk (fun j hj => h j hj (by omega)) ?_
  have h1 : ((s[k]'hk).toNat : Int) = 47 := by simpa using he
  have h2 : (s[k]'hk).toNat = 47 := by omega
  exact UInt8.toNat.inj h2
theorem cutN_le (s : ByteArray) : (cutN s).size ≤ s.size := by
  unfold cutN Lib.cut
  split
  · show (List.take _ _).length ≤ _
    rw [List.length_take]; exact Nat.le_trans (Nat.min_le_right _ _) (by simp)
  · show s.data.toList.length ≤ s.size; simp
theorem cutD_le (s : ByteArray) : (cutD s).size ≤ s.size + 1 := by
  unfold cutD Lib.cut
  repeat' split
  all_goals first | (show (List.drop _ _).length ≤ _; rw [List.length_drop]; simp; omega) | (show 0 ≤ _; omega) | (show 1 ≤ _; omega)

theorem parQ_yes {s : ByteArray} (h : rOk (cutN s) (cutD s) = true) (he : prt (cutN s) (cutD s) = s) : parQ s = .tuple #[.agg #[.string (cutN s), .string (cutD s)], .int .i64 0] := by
  unfold parQ
  rw [h, decide_eq_true he, Bool.and_self, qT_true, ← (rOk_texts h).1, ← (rOk_texts h).2.1]
theorem parQ_no {s : ByteArray} (he : prt (cutN s) (cutD s) ≠ s) : parQ s = .tuple #[.agg #[.string ⟨#[]⟩, .string ⟨#[]⟩], .int .i64 40] := by
  unfold parQ
  rw [decide_eq_false he, Bool.and_false]; rfl

set_option maxRecDepth 100000 in
set_option maxHeartbeats 16000000 in
/-- putlogref04.Parse. -/
theorem qrparse_any (s : ByteArray) (hs : s.size ≤ 100000) (w : World) :
    Calls Tryz.prog 19 #[.string s] w (Rets w (parQ s)) := by
  have l1 := cutN_le s
  have l2 := cutD_le s
  have VQ := Lib.hid (fun W => qrvalid_any (cutN s) (cutD s) (by omega) (by omega) W)
  have PQ := Lib.hid (fun W => qrprint_any (cutN s) (cutD s) (by omega) (by omega) W)
  have hno := Lib.hid (fun he => parQ_no (s := s) he)
  clear l1 l2
  obtain ⟨V1, e1, S1, z1⟩ := (BL.start w).add' #[.string ⟨#[]⟩, .string ⟨#[]⟩] 23
  obtain ⟨V2, e2, S2, z2⟩ := S1.add' #[.string s, .string ⟨#[49]⟩] 23
  rw [z1] at S2
  have hV : V2 = (w.alloc (.cells #[.string ⟨#[]⟩, .string ⟨#[]⟩] 23)).alloc (.cells #[.string s, .string ⟨#[49]⟩] 23) := by rw [e2, e1]
  clear e1 e2 z1 z2 S1
  go_enter Tryz.func19, Tryz.ntmps19
  go_wp2_with fail
  rw [← hV]
  clear hV
  go_loop [5] (fun i => ∃ k : Nat, k ≤ s.size ∧ i = .int .i64 k ∧ NoSl s k) (fun i => s.size - (intOf i).toNat)
  case atStart => exact ⟨0, Nat.zero_le _, rfl, fun j hj => by omega⟩
  case round =>
    obtain ⟨k, hk, rfl, hN⟩ := hrel
    by_cases hlt : k < s.size
    · cases h47 : (((s[k]'hlt).toNat : Int) == 47)
      · have hN' := hN.next h47
        go_wp2_with fail
        go_round
        case rel => exact ⟨k + 1, by omega, by go_num, hN'⟩
        case measure => simp [intOf]; omega
      · obtain ⟨e1, e2⟩ := hN.at_ h47
        obtain ⟨x0, x1⟩ := S2.c2 (w.heap.size + 1) _ _ _ (.head _)
        have y0 := S2.frozen (w.heap.size + 1) _ _ (.head _) 0
        have y1 := S2.frozen (w.heap.size + 1) _ _ (.head _) 1
        have hS := (S2.set2 (Nat.le_succ _) (fun p hp => by simp at hp; rw [hp]; simp) (.string (s.extract 0 k)) (.string (s.extract (k + 1) s.size))).drew
        obtain ⟨W, hW⟩ : ∃ W, W = ((V2.setCell ⟨w.heap.size + 1, 0, none⟩ (.string (s.extract 0 k))).setCell ⟨w.heap.size + 1, 1, none⟩ (.string (s.extract (k + 1) s.size))).drew := ⟨_, rfl⟩
        rw [← hW, ← e1, ← e2] at hS
        replace e1 := Lib.hid e1
        replace e2 := Lib.hid e2
        replace hW := Lib.hid hW
        replace hS := Lib.hid hS
        go_upto_region 6 with fail
        go_region
        rw [← hW.out, ← e1.out, ← e2.out]
        replace hS := hS.out
        clear x0 x1 y0 y1 S2
        obtain ⟨c0, c1⟩ := hS.c2 (w.heap.size + 1) _ _ _ (.head _)
        go_wp2_with fail
        refine (VQ.out _).mono ?_
        rintro e w1 ⟨rfl, hb⟩
        replace hS := hS.call hb
        clear hb c0 c1
        cases hr : rOk (cutN s) (cutD s) with
        | false =>
          replace hr := Lib.hid hr
          obtain ⟨k0, k1, k2, k3, m0, m1, hfin⟩ := res_after (hS.blks _ (.tail _ (.head _))) ⟨#[]⟩ ⟨#[]⟩
          have hfin := Lib.hid (hfin w hS.below (Nat.le_refl _))
          obtain ⟨c0, c1⟩ := hS.c2 (w.heap.size + 1) _ _ _ (.head _)
          clear hS
          go_wp2
          exact bodyPost_ret (v := .tuple #[.agg #[.string ⟨#[]⟩, .string ⟨#[]⟩], .int .i64 40]) (by simp [results, Tryz.results19, go_sem, m0, m1]) rfl ⟨by unfold parQ; rw [hr.out]; rfl, hfin.out⟩
        | true =>
          replace hr := Lib.hid hr
          obtain ⟨c0, c1⟩ := hS.c2 (w.heap.size + 1) _ _ _ (.head _)
          go_wp2_with fail
          refine (PQ.out _).mono ?_
          rintro e w2 ⟨rfl, hb⟩
          replace hS := hS.call hb
          clear hb c0 c1
          by_cases he : prt (cutN s) (cutD s) = s
          · have he' := Lib.hid he
            have hq : ((prt (cutN s) (cutD s)).toList == s.toList) = true := by rw [he]; simp
            clear he
            obtain ⟨k0, k1, k2, k3, m0, m1, hfin⟩ := res_after (hS.blks _ (.tail _ (.head _))) (cutN s) (cutD s)
            have hfin := Lib.hid (hfin w hS.below (Nat.le_refl _))
            obtain ⟨c0, c1⟩ := hS.c2 (w.heap.size + 1) _ _ _ (.head _)
            clear hS
            go_wp2
            exact bodyPost_ret (v := .tuple #[.agg #[.string (cutN s), .string (cutD s)], .int .i64 0]) (by simp [results, Tryz.results19, go_sem, m0, m1]) rfl ⟨by rw [parQ_yes hr.out he'.out], hfin.out⟩
          · have he' := Lib.hid he
            have hq : ((prt (cutN s) (cutD s)).toList == s.toList) = false := bs_ne he
            clear he
            obtain ⟨k0, k1, k2, k3, m0, m1, hfin⟩ := res_after (hS.blks _ (.tail _ (.head _))) ⟨#[]⟩ ⟨#[]⟩
            have hfin := Lib.hid (hfin w hS.below (Nat.le_refl _))
            obtain ⟨c0, c1⟩ := hS.c2 (w.heap.size + 1) _ _ _ (.head _)
            clear hS
            generalize prt (cutN s) (cutD s) = pt at *
            go_wp2
            exact bodyPost_ret (v := .tuple #[.agg #[.string ⟨#[]⟩, .string ⟨#[]⟩], .int .i64 40]) (by simp [results, Tryz.results19, go_sem, m0, m1]) rfl ⟨by rw [hno.out (fun e => he'.out e)], hfin.out⟩
    · obtain ⟨e1, e2⟩ := hN.all (by omega)
      have hS := S2
      rw [show BL w [(w.heap.size + 1, #[.string s, .string ⟨#[49]⟩], 23), (w.heap.size, #[.string ⟨#[]⟩, .string ⟨#[]⟩], 23)] V2 = BL w [(w.heap.size + 1, #[.string (cutN s), .string (cutD s)], 23), (w.heap.size, #[.string ⟨#[]⟩, .string ⟨#[]⟩], 23)] V2 by rw [e1, e2]] at hS
      clear S2
      replace e1 := Lib.hid e1
      replace e2 := Lib.hid e2
      obtain ⟨c0, c1⟩ := hS.c2 (w.heap.size + 1) _ _ _ (.head _)
      go_wp2_with fail
      refine (VQ.out _).mono ?_
      rintro e w1 ⟨rfl, hb⟩
      replace hS := hS.call hb
      clear hb c0 c1
      cases hr : rOk (cutN s) (cutD s) with
      | false =>
        replace hr := Lib.hid hr
        obtain ⟨k0, k1, k2, k3, m0, m1, hfin⟩ := res_after (hS.blks _ (.tail _ (.head _))) ⟨#[]⟩ ⟨#[]⟩
        have hfin := Lib.hid (hfin w hS.below (Nat.le_refl _))
        obtain ⟨c0, c1⟩ := hS.c2 (w.heap.size + 1) _ _ _ (.head _)
        clear hS
        go_wp2
        exact bodyPost_ret (v := .tuple #[.agg #[.string ⟨#[]⟩, .string ⟨#[]⟩], .int .i64 40]) (by simp [results, Tryz.results19, go_sem, m0, m1]) rfl ⟨by unfold parQ; rw [hr.out]; rfl, hfin.out⟩
      | true =>
        replace hr := Lib.hid hr
        obtain ⟨c0, c1⟩ := hS.c2 (w.heap.size + 1) _ _ _ (.head _)
        go_wp2_with fail
        refine (PQ.out _).mono ?_
        rintro e w2 ⟨rfl, hb⟩
        replace hS := hS.call hb
        clear hb c0 c1
        by_cases he : prt (cutN s) (cutD s) = s
        · have he' := Lib.hid he
          have hq : ((prt (cutN s) (cutD s)).toList == s.toList) = true := by rw [he]; simp
          clear he
          obtain ⟨k0, k1, k2, k3, m0, m1, hfin⟩ := res_after (hS.blks _ (.tail _ (.head _))) (cutN s) (cutD s)
          have hfin := Lib.hid (hfin w hS.below (Nat.le_refl _))
          obtain ⟨c0, c1⟩ := hS.c2 (w.heap.size + 1) _ _ _ (.head _)
          clear hS
          go_wp2
          exact bodyPost_ret (v := .tuple #[.agg #[.string (cutN s), .string (cutD s)], .int .i64 0]) (by simp [results, Tryz.results19, go_sem, m0, m1]) rfl ⟨by rw [parQ_yes hr.out he'.out], hfin.out⟩
        · have he' := Lib.hid he
          have hq : ((prt (cutN s) (cutD s)).toList == s.toList) = false := bs_ne he
          clear he
          obtain ⟨k0, k1, k2, k3, m0, m1, hfin⟩ := res_after (hS.blks _ (.tail _ (.head _))) ⟨#[]⟩ ⟨#[]⟩
          have hfin := Lib.hid (hfin w hS.below (Nat.le_refl _))
          obtain ⟨c0, c1⟩ := hS.c2 (w.heap.size + 1) _ _ _ (.head _)
          clear hS
          generalize prt (cutN s) (cutD s) = pt at *
          go_wp2
          exact bodyPost_ret (v := .tuple #[.agg #[.string ⟨#[]⟩, .string ⟨#[]⟩], .int .i64 40]) (by simp [results, Tryz.results19, go_sem, m0, m1]) rfl ⟨by rw [hno.out (fun e => he'.out e)], hfin.out⟩
end Go.Proofs.YtkmlcnkhijpndaaGreatDoor
