/- putloglaw04.cut; the reference for fractions: Print, Parse. -/
import Derived.Test.YtiekbcbcbgmnmaaGreatDoorPkJ
import Derived.Test.YtiekbcbcbgmnmaaGreatDoorPkI
import Derived.Test.YtiekbcbcbgmnmaaGreatDoorBlq
import Derived.Deep.QuietTactic
import Derived.BigQuiet
import Derived.RegionTactic
namespace Go.Proofs.YtiekbcbcbgmnmaaGreatDoor
open Go.RowKit
attribute [local go_sem] Oper.semAt_some

theorem joined_eq (n d : ByteArray) : n ++ ⟨#[47]⟩ ++ d = ⟨(joined n d).toArray⟩ := by
  apply ByteArray.ext
  apply Array.ext'
  simp [joined]

theorem idx_none : ∀ {l : List UInt8}, (∀ b ∈ l, b ≠ 47) → Lib.index l [47] = -1
  | [], _ => rfl
  | b :: l, h => by
    unfold Lib.index
    have hb : ([47] : List UInt8).isPrefixOf (b :: l) = false := by
      have := h b (by simp)
      simp [List.isPrefixOf]
      exact fun e => this e.symm
    rw [hb, if_neg (by decide), idx_none (fun c hc => h c (by simp [hc]))]; rfl
theorem idx_at : ∀ {l : List UInt8} {k : Nat} (hk : k < l.length), (∀ j, (hj : j < k) → l[j] ≠ 47) → l[k] = 47 → Lib.index l [47] = k
  | [], k, hk, _, _ => by simp at hk
  | b :: l, 0, _, _, he => by
    unfold Lib.index
    have hb : ([47] : List UInt8).isPrefixOf (b :: l) = true := by
      have : b = 47 := he
      subst this
      simp [List.isPrefixOf]
    rw [hb, if_pos rfl]; rfl
  | b :: l, k + 1, hk, hn, he => by
    unfold Lib.index
    have h0 : b ≠ 47 := hn 0 (by omega)
    have hb : ([47] : List UInt8).isPrefixOf (b :: l) = false := by
      simp [List.isPrefixOf]
      exact fun e => h0 e.symm
    have ih := idx_at (l := l) (k := k) (by simpa using hk) (fun j hj => hn (j + 1) (by omega)) he
    rw [hb, if_neg (by decide), ih, if_neg (by simp <;> omega)]; omega
theorem cut_none {s : ByteArray} (h : ∀ b ∈ s.data.toList, b ≠ 47) : cutN s = s ∧ cutD s = ⟨#[49]⟩ := by
  unfold cutN cutD Lib.cut
  rw [idx_none h, if_neg (by decide)]
  exact ⟨by apply ByteArray.ext; simp, by simp⟩
theorem cut_at {s : ByteArray} {k : Nat} (hk : k < s.size) (hn : ∀ j, (hj : j < k) → s[j] ≠ 47) (he : s[k] = 47) : cutN s = s.extract 0 k ∧ cutD s = s.extract (k + 1) s.size := by
  have hi := idx_at (l := s.data.toList) (k := k) (by simpa using hk) (fun j hj => by have := hn j hj; rw [Array.getElem_toList]; exact this) (by rw [Array.getElem_toList]; exact he)
  unfold cutN cutD Lib.cut
  rw [hi, if_pos (by omega)]
  refine ⟨?_, ?_⟩
  · apply ByteArray.ext
    rw [ByteArray.data_extract]
    apply Array.ext'
    simp
  · simp only [if_true]
    apply ByteArray.ext
    rw [ByteArray.data_extract]
    apply Array.ext'
    simp
    rw [List.take_of_length_le (by simp)]
/-- No slash before place k. -/
def NoSl (s : ByteArray) (k : Nat) : Prop := ∀ j, (hj : j < k) → (hs : j < s.size) → s[j] ≠ 47
theorem NoSl.next {s : ByteArray} {k : Nat} (h : NoSl s k) {hk : k < s.size} (he : (((s[k]'hk).toNat : Int) == 47) = false) : NoSl s (k + 1) := by
  intro j hj hs e
  by_cases h1 : j < k
  · exact h j h1 hs e
  · obtain rfl : j = k := by omega
    rw [e] at he; cases he
theorem NoSl.all {s : ByteArray} {k : Nat} (h : NoSl s k) (hk : s.size ≤ k) : cutN s = s ∧ cutD s = ⟨#[49]⟩ := by
  refine cut_none fun b hb => ?_
  obtain ⟨i, hi, rfl⟩ := List.getElem_of_mem hb
  have hi' : i < s.size := by simpa using hi
  have := h i (by omega) hi'
  rw [Array.getElem_toList]; exact this
theorem NoSl.at_ {s : ByteArray} {k : Nat} (h : NoSl s k) {hk : k < s.size} (he : (((s[k]'hk).toNat : Int) == 47) = true) : cutN s = s.extract 0 k ∧ cutD s = s.extract (k + 1) s.size := by
  refine cut_at hk (fun j hj => h j hj (by omega)) ?_
  have h1 : ((s[k]'hk).toNat : Int) = 47 := by simpa using he
  have h2 : (s[k]'hk).toNat = 47 := by omega
  exact UInt8.toNat.inj h2
theorem cutN_le (s : ByteArray) : (cutN s).size ≤ s.size := by
  unfold cutN Lib.cut
  split
  · show (List.take _ _).length ≤ _
    rw [List.length_take]; exact Nat.le_trans (Nat.min_le_right _ _) (by simp)
  · show s.data.toList.length ≤ s.size; simp
theorem cutD_le (s : ByteArray) : (cutD s).size ≤ s.size + 1 := by
  unfold cutD Lib.cut
  repeat' split
  all_goals first | (show (List.drop _ _).length ≤ _; rw [List.length_drop]; simp; omega) | (show 0 ≤ _; omega) | (show 1 ≤ _; omega)

theorem parQ_yes {s : ByteArray} (h : rOk (cutN s) (cutD s) = true) (he : prt (cutN s) (cutD s) = s) : parQ s = .tuple #[.agg #[.string (cutN s), .string (cutD s)], .int .i64 0] := by
  unfold parQ
  rw [h, decide_eq_true he, Bool.and_self, qT_true, ← (rOk_texts h).1, ← (rOk_texts h).2.1]
theorem parQ_no {s : ByteArray} (he : prt (cutN s) (cutD s) ≠ s) : parQ s = .tuple #[.agg #[.string ⟨#[]⟩, .string ⟨#[]⟩], .int .i64 40] := by
  unfold parQ
  rw [decide_eq_false he, Bool.and_false]; rfl

end Go.Proofs.YtiekbcbcbgmnmaaGreatDoor
