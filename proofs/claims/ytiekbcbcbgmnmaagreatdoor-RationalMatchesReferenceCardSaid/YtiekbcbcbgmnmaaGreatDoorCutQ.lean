/- putloglaw04.cut; what is printed is parsed. -/
import Derived.Test.YtiekbcbcbgmnmaaGreatDoorRefP
import Derived.Test.YtiekbcbcbgmnmaaGreatDoorLongQ
import Derived.Deep.QuietTactic
import Derived.BigQuiet
import Derived.RegionTactic
namespace Go.Proofs.YtiekbcbcbgmnmaaGreatDoor
open Go.RowKit
attribute [local go_sem] Oper.semAt_some

theorem noSlash {n : ByteArray} (h : okS n = true) : ∀ b ∈ n.data.toList, b ≠ 47 := by
  obtain ⟨e, _⟩ := I_zS h
  intro b hb e47
  subst e47
  rw [e] at hb
  have key : ∀ u : Nat, (47 : UInt8) ∉ Lib.decDigits u := fun u h => by
    have := isD_iff.1 ((decDigits_spec u).2.1 47 h)
    have e : (47 : UInt8).toNat = 47 := rfl
    omega
  have hb' : (47 : UInt8) ∈ Lib.itoa (zS n) := hb
  by_cases h0 : 0 ≤ zS n
  · rw [itoa_nonneg h0] at hb'; exact key _ hb'
  · rw [itoa_neg (by omega)] at hb'
    rcases List.mem_cons.1 hb' with h1 | h1
    · cases h1
    · exact key _ h1
theorem cut_prt {n d : ByteArray} (h : rOk n d = true) : cutN (prt n d) = n ∧ cutD (prt n d) = d := by
  obtain ⟨hn, hd, h0, _⟩ := rOk_parts h
  have ns := noSlash hn
  unfold prt
  rw [if_pos h]
  by_cases hz : zS d = 1
  · rw [if_pos hz]
    obtain ⟨e1, e2⟩ := cut_none ns
    refine ⟨e1, e2.trans ?_⟩
    rw [(I_zS hd).1, hz]; exact lit_I [49] 1 (by decide +kernel) (by decide +kernel)
  · rw [if_neg hz]
    have hj : joined n d = n.data.toList ++ 47 :: d.data.toList := by simp [joined]
    have hi : Lib.index (n.data.toList ++ 47 :: d.data.toList) [47] = (n.data.toList.length : Nat) := by
      refine idx_at (by simp) (fun j hj => ?_) (by simp)
      rw [List.getElem_append_left (by simpa using hj)]
      exact ns _ (List.getElem_mem _)
    unfold cutN cutD Lib.cut
    rw [hj, hi, if_pos (by omega)]
    refine ⟨?_, ?_⟩
    · apply ByteArray.ext; simp
    · apply ByteArray.ext
      show (List.drop (((n.data.toList.length : Nat) : Int).toNat + 1) (n.data.toList ++ 47 :: d.data.toList)).toArray = d.data
      rw [Int.toNat_natCast, show n.data.toList ++ 47 :: d.data.toList = (n.data.toList ++ [47]) ++ d.data.toList by simp, show n.data.toList.length + 1 = (n.data.toList ++ [47]).length by simp, List.drop_left]
theorem par_prt (n d : ByteArray) : (rOk n d = true ∧ prt n d ≠ ⟨#[]⟩ ∧ parQ (prt n d) = .tuple #[.agg #[.string n, .string d], .int .i64 0]) ∨ (rOk n d = false ∧ prt n d = ⟨#[]⟩ ∧ parQ (prt n d) = .tuple #[.agg #[.string ⟨#[]⟩, .string ⟨#[]⟩], .int .i64 40]) := by
  cases h : rOk n d with
  | true =>
    obtain ⟨e1, e2⟩ := cut_prt h
    refine .inl ⟨rfl, prt_ne h, ?_⟩
    have := parQ_yes (s := prt n d) (by rw [e1, e2]; exact h) (by rw [e1, e2])
    rw [e1, e2] at this; exact this
  | false =>
    have e : prt n d = ⟨#[]⟩ := by unfold prt; rw [if_neg (by rw [h]; decide)]
    refine .inr ⟨rfl, e, ?_⟩
    rw [e]
    have : parQ ⟨#[]⟩ = qT false 0 := by
      unfold parQ
      rw [show rOk (cutN ⟨#[]⟩) (cutD ⟨#[]⟩) = false by decide +kernel, Bool.false_and]; exact qT_false _ _
    rw [this]; rfl
theorem prt_len (n d : ByteArray) : (prt n d).size ≤ 1000 := by
  unfold prt
  split
  · rename_i h
    obtain ⟨hn, hd, _, _⟩ := rOk_parts h
    have h1 := okS_size hn
    have h2 := okS_size hd
    split
    · omega
    · show (joined n d).length ≤ 1000
      simp [joined]; omega
  · show 0 ≤ 1000; omega
/-- What Parse returns of any text. -/
theorem par_any (s : ByteArray) : (∃ n d, parQ s = .tuple #[.agg #[.string n, .string d], .int .i64 0] ∧ prt n d = s) ∨ parQ s = .tuple #[.agg #[.string ⟨#[]⟩, .string ⟨#[]⟩], .int .i64 40] := by
  cases h : rOk (cutN s) (cutD s) with
  | true =>
    by_cases he : prt (cutN s) (cutD s) = s
    · exact .inl ⟨_, _, parQ_yes h he, he⟩
    · exact .inr (parQ_no he)
  | false =>
    right
    unfold parQ
    rw [h, Bool.false_and]; rfl

theorem size_pos {s : ByteArray} (h : s ≠ ⟨#[]⟩) : 0 < s.size := by
  rcases Nat.eq_zero_or_pos s.size with h0 | h0
  · exact absurd (ByteArray.ext (Array.eq_empty_of_size_eq_zero h0)) h
  · exact h0
theorem byte_of {c : Int} (h : 0 ≤ c ∧ c ≤ 255) : ∃ b : UInt8, c = b.toNat := by
  refine ⟨UInt8.ofNat c.toNat, ?_⟩
  rw [UInt8.toNat_ofNat']; omega
theorem BL.pair {w W : World} {L : BLs} (h : BL w L W) (o : Obj) (a b : Value) (t : TypeId) : BL w ((W.heap.size + 1, #[a, b], t) :: L) ((W.alloc o).alloc (.cells #[a, b] t)).drew := by
  have := ((h.new o).add #[a, b] t).drew
  rw [World.size_alloc] at this
  exact this
theorem text_size {s : ByteArray} (h : s.size ≤ 1000) (k : Nat) (b : UInt8) : (s.extract 0 k ++ ⟨#[b]⟩ ++ s.extract (k + 1) s.size).size ≤ 3000 := by
  have h1 : (⟨#[b]⟩ : ByteArray).size = 1 := rfl
  rw [ByteArray.size_append, ByteArray.size_append, h1, ByteArray.size_extract, ByteArray.size_extract]
  omega
theorem run_str_one_d (W : World) (b : UInt8) (y : Int) (hy : y = b.toNat) (t : TypeId) (ht : Tryz.prog.underlying t = some (.slice 5)) :
    (convert t 9 (.slice (some ⟨W.heap.size, 0, none⟩) 1 1)).run Tryz.prog (W.alloc (.cells #[.int .u8 y] 5)).drew = .ok (.string ⟨#[b]⟩) (W.alloc (.cells #[.int .u8 y] 5)).drew := by
  refine run_convert_bytes_back _ t 9 5 _ 1 [b] ht (by kernel_rfl) (by kernel_rfl) ?_
  intro j hj
  match j, hj with
  | 0, _ => subst hy; simp [Addr.add]

set_option maxRecDepth 100000 in
set_option maxHeartbeats 16000000 in
/-- putloglaw04.cut. -/
theorem cut4_any (n d : ByteArray) (hn : n.size ≤ 9223372036854775807) (hd : d.size ≤ 9223372036854775807) (w : World) :
    Calls Tryz.prog 5 #[.agg #[.string n, .string d]] w fun e w' => ∃ a b : ByteArray, e = .returned (.agg #[.string a, .string b]) ∧ a.size ≤ 210 ∧ b.size ≤ 210 ∧ Below w.heap.size w w' := by
  obtain ⟨ka, hka, hka1, hka2⟩ : ∃ k : Nat, min (n.size : Int) 210 = (k : Int) ∧ k ≤ n.size ∧ k ≤ 210 := ⟨min n.size 210, by omega, by omega, by omega⟩
  obtain ⟨kb, hkb, hkb1, hkb2⟩ : ∃ k : Nat, min (d.size : Int) 210 = (k : Int) ∧ k ≤ d.size ∧ k ≤ 210 := ⟨min d.size 210, by omega, by omega, by omega⟩
  have hla : (n.extract 0 ka).size ≤ 210 := by simp; omega
  have hlb : (d.extract 0 kb).size ≤ 210 := by simp; omega
  have HA := Lib.hid hla
  have HB := Lib.hid hlb
  clear hla hlb
  obtain ⟨V1, e1, S1, z1⟩ := (BL.start w).add' #[.string n, .string d] 23
  obtain ⟨V2, e2, S2, z2⟩ := S1.add' #[.string ⟨#[]⟩, .string ⟨#[]⟩] 23
  rw [z1] at S2
  have hV : V2 = (w.alloc (.cells #[.string n, .string d] 23)).alloc (.cells #[.string ⟨#[]⟩, .string ⟨#[]⟩] 23) := by rw [e2, e1]
  clear e1 e2 z1 z2 S1
  obtain ⟨x0, x1⟩ := S2.c2 w.heap.size _ _ _ (.tail _ (.head _))
  obtain ⟨k0, k1, k2, k3, m0, m1, hfin⟩ := res_after (S2.blks _ (.head _)) (n.extract 0 ka) (d.extract 0 kb)
  have hfin := Lib.hid (hfin w S2.below (Nat.le_succ _))
  clear S2
  go_enter Tryz.func5, Tryz.ntmps5
  go_upto_region 1 with fail
  rw [← hV]
  clear hV
  go_region_held3 (fun w' => w'.cell? ⟨w.heap.size, 0, none⟩ = some (.string n) ∧ w'.cell? ⟨w.heap.size, 1, none⟩ = some (.string d))
    (go_keep)
    (fail)
  all_goals go_wp2
  all_goals exact bodyPost_ret (v := .agg #[.string (n.extract 0 ka), .string (d.extract 0 kb)]) (by simp [results, Tryz.results5, go_sem, m0, m1]) rfl ⟨_, _, rfl, HA.out, HB.out, by first | exact hfin.out | exact kb_drew hfin.out⟩
end Go.Proofs.YtiekbcbcbgmnmaaGreatDoor
