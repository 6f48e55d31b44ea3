/- putlogref04: Long. -/
import Derived.Test.YtiekbcbcbgmnmaaGreatDoorBlq
namespace Go.Proofs.YtiekbcbcbgmnmaaGreatDoor
open Go.RowKit
attribute [local go_sem] Oper.semAt_some

/-- The text of a number of at most k digits. -/
def DigT (k : Nat) (s : ByteArray) : Prop := ∃ z : Int, s = I z ∧ 0 ≤ z ∧ Bd k z
theorem dig_of {l : List UInt8} (h : ∀ b ∈ l, isD b = true) (h0 : l ≠ []) (hh : l.length ≤ 1 ∨ ∀ b, l.head? = some b → b.toNat ≠ 48) {k : Nat} (hk : l.length ≤ k) : DigT k ⟨l.toArray⟩ := by
  have hb : (dnum l : Int) < 10 ^ k := by
    have h1 := dnum_lt h
    have h2 : 10 ^ l.length ≤ 10 ^ k := Nat.pow_le_pow_right (by decide) hk
    have h3 : dnum l < 10 ^ k := by omega
    exact_mod_cast h3
  have e : (⟨l.toArray⟩ : ByteArray) = I (dnum l) := by
    unfold I
    rw [itoa_nonneg (Int.natCast_nonneg _), Int.toNat_natCast]
    by_cases h48 : ∀ b, l.head? = some b → b.toNat ≠ 48
    · rw [decDigits_dnum l h h0 h48]
    · have hl : l.length ≤ 1 := hh.resolve_right h48
      match l, h0, hl with
      | [b], _, _ =>
        have hb := isD_iff.1 (h b (by simp))
        rw [show dnum [b] = b.toNat - 48 by simp [dnum, dnF], decDigits_small (by omega), ofNat_eq (h b (by simp))]
  refine ⟨dnum l, e, by omega, ?_⟩
  unfold Bd; omega
/-- string(b), for a new slice of one byte. -/
theorem run_str_one (W : World) (b : UInt8) (y : Int) (hy : y = b.toNat) (t : TypeId) (ht : Tryz.prog.underlying t = some (.slice 5)) :
    (convert t 9 (.slice (some ⟨W.heap.size, 0, none⟩) 1 1)).run Tryz.prog (W.alloc (.cells #[.int .u8 y] 5)) = .ok (.string ⟨#[b]⟩) (W.alloc (.cells #[.int .u8 y] 5)) := by
  refine run_convert_bytes_back _ t 9 5 _ 1 [b] ht (by kernel_rfl) (by kernel_rfl) ?_
  intro j hj
  match j, hj with
  | 0, _ => subst hy; simp [Addr.add]
theorem bytes_snoc (l : List UInt8) (b : UInt8) : (⟨l.toArray⟩ ++ ⟨#[b]⟩ : ByteArray) = ⟨(l ++ [b]).toArray⟩ := by rw [bytes_append]
theorem digit_of {q : Int} (h0 : 0 ≤ q) (h1 : q < 10) : ∃ b : UInt8, 48 + q = b.toNat ∧ isD b = true := by
  have h : (UInt8.ofNat (48 + q.toNat)).toNat = 48 + q.toNat := ofNat_toNat (by omega)
  exact ⟨UInt8.ofNat (48 + q.toNat), by omega, isD_iff.2 (by omega)⟩
theorem neg_I {z : Int} (h : 0 < z) : (⟨#[45]⟩ : ByteArray) ++ I z = I (-z) := by
  unfold I
  rw [itoa_nonneg (by omega), itoa_neg (by omega), show (-z).natAbs = z.toNat by omega]
  apply ByteArray.ext
  simp
theorem BL.setO {w W : World} {L : BLs} {B : Nat} (h : BL w L W) (hge : w.heap.size ≤ B) (hne : ∀ p ∈ L, p.1 ≠ B) (i : Nat) (x : Value) : BL w L (W.setCell ⟨B, i, none⟩ x) :=
  h.only (S := [B]) ((Only.refl [B] W).setCell (p := ⟨B, i, none⟩) (by simp) x) (by simpa using hge) (fun p hp => by simpa using hne p hp)
def LongP (w : World) (e : Ending) (w' : World) : Prop := ∃ r : Rat, e = .returned (.agg #[.string (tN (some r)), .string (tD (some r))]) ∧ BQ 100 r ∧ Below w.heap.size w w'
/-- The blocks of a call of Long. -/
def LB (h : Nat) (s0 s1 : ByteArray) (x0 x1 x2 x3 : Int) : BLs := [(h + 1 + 1, #[.string s0, .string s1], 49), (h + 1, #[.string ⟨#[]⟩, .string ⟨#[]⟩], 23), (h, #[.int .i64 x0, .int .i64 x1, .int .i64 x2, .int .i64 x3], 24)]
def LJ (w : World) (x0 x1 x2 x3 : Int) (i : Value) (wr : World) : Prop := ∃ s0 s1, BL w (LB w.heap.size s0 s1 x0 x1 x2 x3) wr ∧ (i = .int .i64 0 ∨ (i = .int .i64 1 ∧ DigT 100 s0) ∨ (i = .int .i64 2 ∧ DigT 100 s0 ∧ DigT 100 s1))
/-- A round's text. -/
def LI (w : World) (L : BLs) (N : Int) (s c : Value) (wr : World) : Prop := ∃ (l : List UInt8) (cc : Int), s = .string ⟨l.toArray⟩ ∧ c = .int .i64 cc ∧ 0 ≤ cc ∧ cc < 2147483647 ∧ (l.length : Int) ≤ N ∧ (∀ b ∈ l, isD b = true) ∧ BL w L wr
def LT (w : World) (L : BLs) (s : Value) (wr : World) : Prop := ∃ (l : List UInt8), s = .string ⟨l.toArray⟩ ∧ 1 ≤ l.length ∧ l.length ≤ 100 ∧ (∀ b ∈ l, isD b = true) ∧ BL w L wr
theorem LI.start {w : World} {L : BLs} {N c : Int} {wr : World} (h : BL w L wr) (h0 : 0 ≤ N) (hc : 0 ≤ c) (hc1 : c < 2147483647) : LI w L N (.string ⟨#[]⟩) (.int .i64 c) wr := ⟨[], c, rfl, rfl, hc, hc1, h0, by simp, h⟩

theorem LI.next {w : World} {L : BLs} {N c : Int} {wr wr' : World} {l : List UInt8} {b : UInt8} (h : BL w L wr) (hb : Below wr.heap.size wr wr') (hl : (l.length : Int) < N) (hd : ∀ b ∈ l, isD b = true) (hD : isD b = true) (hc : 0 ≤ c) (hc1 : c < 2147483647) :
    LI w L N (.string (⟨l.toArray⟩ ++ ⟨#[b]⟩)) (.int .i64 c) wr' :=
  ⟨l ++ [b], c, by rw [bytes_snoc], rfl, hc, hc1, by simp; omega, fun x hx => by
    rcases List.mem_append.1 hx with h | h
    · exact hd x h
    · rw [List.mem_singleton] at h; rw [h]; exact hD, h.call hb⟩
theorem LT.start {w : World} {L : BLs} {l : List UInt8} {wr : World} (h : BL w L wr) (hd : ∀ b ∈ l, isD b = true) (h1 : 1 ≤ l.length) (h2 : l.length ≤ 100) : LT w L (.string ⟨l.toArray⟩) wr := ⟨l, rfl, h1, h2, hd, h⟩
theorem LT.next {w : World} {L : BLs} {l : List UInt8} {wr : World} (h : BL w L wr) (hd : ∀ b ∈ l, isD b = true) (h1 : 1 < l.length) (h2 : l.length ≤ 100) : LT w L (.string ((⟨l.toArray⟩ : ByteArray).extract 1 l.length)) wr := by
  refine ⟨l.drop 1, ?_, by simp; omega, by simp; omega, fun b hb => hd b (List.mem_of_mem_drop hb), h⟩
  congr 1
  apply ByteArray.ext
  rw [ByteArray.data_extract]
  apply Array.ext'
  simp
  exact List.take_of_length_le (by simp)
theorem len_one (l : List UInt8) : strLen (.string ⟨l.toArray⟩) = l.length := rfl
theorem LI.meas {l : List UInt8} {b : UInt8} {N : Int} (h : (l.length : Int) < N) (hN : N ≤ 100) : 100 - strLen (.string (⟨l.toArray⟩ ++ ⟨#[b]⟩)) < 100 - strLen (.string ⟨l.toArray⟩) := by
  rw [bytes_snoc, len_one, len_one]; simp; omega
theorem LT.meas {l : List UInt8} (h : 1 < l.length) : strLen (.string ((⟨l.toArray⟩ : ByteArray).extract 1 l.length)) < strLen (.string ⟨l.toArray⟩) := by
  rw [len_one]
  show ((⟨l.toArray⟩ : ByteArray).extract 1 l.length).size < l.length
  rw [ByteArray.size_extract]; show min l.length l.length - 1 < l.length; omega
theorem BL.set0 {w W : World} {L : BLs} {B : Nat} {a b : Value} {t : TypeId} (h : BL w ((B, #[a, b], t) :: L) W) (hge : w.heap.size ≤ B) (hne : ∀ p ∈ L, p.1 ≠ B) (x : Value) :
    BL w ((B, #[x, b], t) :: L) (W.setCell ⟨B, 0, none⟩ x) := by
  have ho : Only [B] W (W.setCell ⟨B, 0, none⟩ x) := (Only.refl [B] W).setCell (p := ⟨B, 0, none⟩) (by simp) x
  have h1 := (h.drop (M := L) (fun p hp => List.mem_cons_of_mem _ hp)).only ho (by simpa using hge) (fun p hp => by simpa using hne p hp)
  refine ⟨h1.below, fun p hp => ?_⟩
  rcases List.mem_cons.1 hp with rfl | hp
  · exact (h.blks (B, #[a, b], t) List.mem_cons_self).set 0 x
  · exact h1.blks p hp
theorem BL.set1 {w W : World} {L : BLs} {B : Nat} {a b : Value} {t : TypeId} (h : BL w ((B, #[a, b], t) :: L) W) (hge : w.heap.size ≤ B) (hne : ∀ p ∈ L, p.1 ≠ B) (x : Value) :
    BL w ((B, #[a, x], t) :: L) (W.setCell ⟨B, 1, none⟩ x) := by
  have ho : Only [B] W (W.setCell ⟨B, 1, none⟩ x) := (Only.refl [B] W).setCell (p := ⟨B, 1, none⟩) (by simp) x
  have h1 := (h.drop (M := L) (fun p hp => List.mem_cons_of_mem _ hp)).only ho (by simpa using hge) (fun p hp => by simpa using hne p hp)
  refine ⟨h1.below, fun p hp => ?_⟩
  rcases List.mem_cons.1 hp with rfl | hp
  · exact (h.blks (B, #[a, b], t) List.mem_cons_self).set 1 x
  · exact h1.blks p hp
theorem head_ne {l : List UInt8} {h : 0 < (⟨l.toArray⟩ : ByteArray).size} (e : ((((⟨l.toArray⟩ : ByteArray)[0]'h).toNat : Int) == 48) = false) : l.length ≤ 1 ∨ ∀ b, l.head? = some b → b.toNat ≠ 48 := by
  refine .inr fun b hb e2 => ?_
  cases l with
  | nil => cases hb
  | cons a l =>
    cases hb
    have : (((⟨(b :: l).toArray⟩ : ByteArray)[0]'h).toNat : Int) = b.toNat := rfl
    rw [this, e2] at e; cases e
theorem LB.ne (h : Nat) (s0 s1 : ByteArray) (x0 x1 x2 x3 : Int) : ∀ p ∈ (LB h s0 s1 x0 x1 x2 x3).tail, p.1 ≠ h + 1 + 1 := by
  intro p hp
  simp [LB] at hp
  rcases hp with rfl | rfl <;> simp <;> omega

theorem LJ.next0 {w wr : World} {s0 s1 : ByteArray} {x0 x1 x2 x3 : Int} {s : ByteArray} (h : BL w (LB w.heap.size s0 s1 x0 x1 x2 x3) wr) (hd : DigT 100 s) : LJ w x0 x1 x2 x3 (.int .i64 1) (wr.setCell ⟨w.heap.size + 1 + 1, 0, none⟩ (.string s)) :=
  ⟨s, s1, h.set0 (by omega) (LB.ne _ s0 s1 x0 x1 x2 x3) _, .inr (.inl ⟨rfl, hd⟩)⟩
theorem LJ.next1 {w wr : World} {s0 s1 : ByteArray} {x0 x1 x2 x3 : Int} {s : ByteArray} (h : BL w (LB w.heap.size s0 s1 x0 x1 x2 x3) wr) (h0 : DigT 100 s0) (hd : DigT 100 s) : LJ w x0 x1 x2 x3 (.int .i64 2) (wr.setCell ⟨w.heap.size + 1 + 1, 1, none⟩ (.string s)) :=
  ⟨s0, s, h.set1 (by omega) (LB.ne _ s0 s1 x0 x1 x2 x3) _, .inr (.inr ⟨rfl, h0, hd⟩)⟩

set_option maxRecDepth 100000 in
set_option maxHeartbeats 8000000 in
theorem long4_any (x0 x1 x2 x3 : Int) (F0 : Fits x0) (F1 : Fits x1) (F2 : Fits x2) (F3 : Fits x3) (w : World) :
    Calls Tryz.prog 6 #[.agg #[.int .i64 x0, .int .i64 x1, .int .i64 x2, .int .i64 x3]] w (LongP w) := by
  obtain ⟨V1, e1, S1, z1⟩ := (BL.start w).add' #[.int .i64 x0, .int .i64 x1, .int .i64 x2, .int .i64 x3] 24
  obtain ⟨V2, e2, S2, z2⟩ := S1.add' #[.string ⟨#[]⟩, .string ⟨#[]⟩] 23
  obtain ⟨V3, e3, S3, z3⟩ := S2.add' #[.string ⟨#[]⟩, .string ⟨#[]⟩] 49
  rw [z1] at S2 z2
  rw [z2] at S3 z3
  rw [z1] at S3
  have hV : V3 = ((w.alloc (.cells #[.int .i64 x0, .int .i64 x1, .int .i64 x2, .int .i64 x3] 24)).alloc (.cells #[.string ⟨#[]⟩, .string ⟨#[]⟩] 23)).alloc (.cells #[.string ⟨#[]⟩, .string ⟨#[]⟩] 49) := by rw [e3, e2, e1]
  clear e1 e2 e3 S1 S2 z1 z2 z3
  go_enter Tryz.func6, Tryz.ntmps6
  go_wp2_with fail
  rw [← hV]
  clear hV
  go_loopw [4] (LJ w x0 x1 x2 x3) (fun i _ => 2 - (intOf i).toNat)
  case atStart => exact ⟨_, _, S3, .inl rfl⟩
  case round =>
    clear S3
    obtain ⟨s0, s1, hS, hi⟩ := hrel
    obtain ⟨c0, c1, c2, c3⟩ := hS.c4 w.heap.size _ _ _ _ _ (.tail _ (.tail _ (.head _)))
    rcases hi with rfl | ⟨rfl, h0⟩ | ⟨rfl, h0, h1⟩
    · go_wp2_with fail
      refine (pickR4_any _ _ F1 (by decide) (by decide) _).mono ?_
      rintro e w' ⟨rfl, rfl⟩
      have p0 := pkv_nonneg (c := x1) (m := 100) (by decide)
      have p1 := pkv_lt (c := x1) (m := 100) (by decide)
      generalize pkv x1 100 = p at *
      go_wp2_with fail
      refine (pickR4_any _ _ F0 (by decide) (by decide) _).mono ?_
      rintro e w' ⟨rfl, rfl⟩
      have q0 := pkv_nonneg (c := x0) (m := 1000000007) (by decide)
      have q1 := pkv_lt (c := x0) (m := 1000000007) (by decide)
      generalize pkv x0 1000000007 = q at *
      go_wp2_with fail
      obtain ⟨wo, rfl⟩ : ∃ wo : World, wo = wr := ⟨_, rfl⟩
      go_loopw [6, 7] (LI w (LB w.heap.size s0 s1 x0 x1 x2 x3) (1 + p)) (fun s _ _ => 100 - strLen s)
      case atStart => exact LI.start hS (by omega) q0 (by omega)
      case round =>
        clear hS c0 c1 c2 c3
        obtain ⟨l, cc, rfl, rfl, g0, g1, g2, g3, hS⟩ := hrel
        by_cases hlt : (l.length : Int) < 1 + p
        · have r0 : 0 ≤ (cc * 48271 + 11) % 2147483647 := by omega
          have r1 : (cc * 48271 + 11) % 2147483647 < 2147483647 := by omega
          obtain ⟨b, hb, hD⟩ := digit_of (q := (cc * 48271 + 11) % 2147483647 / 65536 % 10) (by omega) (by omega)
          have hcv := run_str_one wr b _ hb 50 Tryz.underlying50
          have hB := Lib.hid hb
          clear hb
          go_wp2_with fail
          exact ⟨LI.next hS ((Below.refl _ _).alloc (Nat.le_refl _) _) hlt g3 hD r0 r1, LI.meas hlt (by omega)⟩
        · have hl1 : 1 ≤ l.length := by omega
          have hl2 : l.length ≤ 100 := by omega
          go_wp2_with fail
          obtain ⟨wi, rfl⟩ : ∃ wi : World, wi = wr := ⟨_, rfl⟩
          go_loopw [6] (LT w (LB w.heap.size s0 s1 x0 x1 x2 x3)) (fun s _ => strLen s)
          case atStart => exact LT.start hS g3 hl1 hl2
          case round =>
            clear hS g0 g1 g2 g3 hlt hl1 hl2
            obtain ⟨l, rfl, hl1, hl2, g3, hS⟩ := hrel
            obtain ⟨d0, d1⟩ := hS.c2 (w.heap.size + 1 + 1) _ _ _ (.head _)
            have f0 := hS.frozen (w.heap.size + 1 + 1) _ _ (.head _) 0
            have f1 := hS.frozen (w.heap.size + 1 + 1) _ _ (.head _) 1
            have hsz : 0 < (⟨l.toArray⟩ : ByteArray).size := hl1
            by_cases h1 : 1 < l.length
            · cases h48 : ((((⟨l.toArray⟩ : ByteArray)[0]'hsz).toNat : Int) == 48)
              · have hN := Lib.hid h48
                go_wp2_with fail
                exact ⟨LJ.next0 hS (dig_of g3 (by intro e; rw [e] at hl1; cases hl1) (head_ne hN.out) hl2), by simp [intOf]⟩
              · go_wp2_with fail
                exact ⟨LT.next hS g3 h1 hl2, LT.meas h1⟩
            · go_wp2_with fail
              exact ⟨LJ.next0 hS (dig_of g3 (by intro e; rw [e] at hl1; cases hl1) (.inl (by omega)) hl2), by simp [intOf]⟩
    · go_wp2_with fail
      refine (pickR4_any _ _ F3 (by decide) (by decide) _).mono ?_
      rintro e w' ⟨rfl, rfl⟩
      have p0 := pkv_nonneg (c := x3) (m := 100) (by decide)
      have p1 := pkv_lt (c := x3) (m := 100) (by decide)
      generalize pkv x3 100 = p at *
      go_wp2_with fail
      refine (pickR4_any _ _ F2 (by decide) (by decide) _).mono ?_
      rintro e w' ⟨rfl, rfl⟩
      have q0 := pkv_nonneg (c := x2) (m := 1000000007) (by decide)
      have q1 := pkv_lt (c := x2) (m := 1000000007) (by decide)
      generalize pkv x2 1000000007 = q at *
      go_wp2_with fail
      obtain ⟨wo, rfl⟩ : ∃ wo : World, wo = wr := ⟨_, rfl⟩
      go_loopw [6, 7] (LI w (LB w.heap.size s0 s1 x0 x1 x2 x3) (1 + p)) (fun s _ _ => 100 - strLen s)
      case atStart => exact LI.start hS (by omega) q0 (by omega)
      case round =>
        clear hS c0 c1 c2 c3
        obtain ⟨l, cc, rfl, rfl, g0, g1, g2, g3, hS⟩ := hrel
        by_cases hlt : (l.length : Int) < 1 + p
        · have r0 : 0 ≤ (cc * 48271 + 11) % 2147483647 := by omega
          have r1 : (cc * 48271 + 11) % 2147483647 < 2147483647 := by omega
          obtain ⟨b, hb, hD⟩ := digit_of (q := (cc * 48271 + 11) % 2147483647 / 65536 % 10) (by omega) (by omega)
          have hcv := run_str_one wr b _ hb 50 Tryz.underlying50
          have hB := Lib.hid hb
          clear hb
          go_wp2_with fail
          exact ⟨LI.next hS ((Below.refl _ _).alloc (Nat.le_refl _) _) hlt g3 hD r0 r1, LI.meas hlt (by omega)⟩
        · have hl1 : 1 ≤ l.length := by omega
          have hl2 : l.length ≤ 100 := by omega
          go_wp2_with fail
          obtain ⟨wi, rfl⟩ : ∃ wi : World, wi = wr := ⟨_, rfl⟩
          go_loopw [6] (LT w (LB w.heap.size s0 s1 x0 x1 x2 x3)) (fun s _ => strLen s)
          case atStart => exact LT.start hS g3 hl1 hl2
          case round =>
            clear hS g0 g1 g2 g3 hlt hl1 hl2
            obtain ⟨l, rfl, hl1, hl2, g3, hS⟩ := hrel
            obtain ⟨d0, d1⟩ := hS.c2 (w.heap.size + 1 + 1) _ _ _ (.head _)
            have f0 := hS.frozen (w.heap.size + 1 + 1) _ _ (.head _) 0
            have f1 := hS.frozen (w.heap.size + 1 + 1) _ _ (.head _) 1
            have hsz : 0 < (⟨l.toArray⟩ : ByteArray).size := hl1
            by_cases h1 : 1 < l.length
            · cases h48 : ((((⟨l.toArray⟩ : ByteArray)[0]'hsz).toNat : Int) == 48)
              · have hN := Lib.hid h48
                go_wp2_with fail
                exact ⟨LJ.next1 hS h0 (dig_of g3 (by intro e; rw [e] at hl1; cases hl1) (head_ne hN.out) hl2), by simp [intOf]⟩
              · go_wp2_with fail
                exact ⟨LT.next hS g3 h1 hl2, LT.meas h1⟩
            · go_wp2_with fail
              exact ⟨LJ.next1 hS h0 (dig_of g3 (by intro e; rw [e] at hl1; cases hl1) (.inl (by omega)) hl2), by simp [intOf]⟩
    · obtain ⟨z0, hz0, p0, b0⟩ := h0
      obtain ⟨z1, hz1, p1, b1⟩ := h1
      obtain ⟨d0, d1⟩ := hS.c2 (w.heap.size + 1 + 1) _ _ _ (.head _)
      have f0 := hS.frozen (w.heap.size + 1 + 1) _ _ (.head _) 0
      have f1 := hS.frozen (w.heap.size + 1 + 1) _ _ (.head _) 1
      have q0 := pkv_nonneg (c := x0) (m := 2) (by decide)
      have q1 := pkv_lt (c := x0) (m := 2) (by decide)
      have PK := Lib.hid (fun W => pickR4_any x0 2 F0 (by decide) (by decide) W)
      generalize pkv x0 2 = p at *
      have hsz : s0.size ≤ 1000 := by rw [hz0]; exact Nat.le_trans (I_size b0 (by decide)) (by decide)
      obtain ⟨t1, y1, ht1, c1', hy1, hy2⟩ : ∃ (t1 : ByteArray) (y1 : Int), t1 = I y1 ∧ ((s1.toList == [48]) = true ∧ t1 = ⟨#[55]⟩ ∨ (s1.toList == [48]) = false ∧ t1 = s1) ∧ 0 < y1 ∧ Bd 100 y1 := by
        by_cases e : z1 = 0
        · exact ⟨_, 7, lit_I [55] 7 (by decide +kernel) (by decide +kernel), .inl ⟨by rw [hz1, e]; decide +kernel, rfl⟩, by decide, by unfold Bd; decide⟩
        · exact ⟨_, z1, hz1, .inr ⟨str_ne_zero hz1 e, rfl⟩, by omega, b1⟩
      obtain ⟨t0, y0, ht0, c0', hy0⟩ : ∃ (t0 : ByteArray) (y0 : Int), t0 = I y0 ∧ (p = 0 ∧ (s0.toList == [48]) = false ∧ t0 = ⟨#[45]⟩ ++ s0 ∨ (p = 0 ∧ (s0.toList == [48]) = true ∨ p = 1) ∧ t0 = s0) ∧ Bd 100 y0 := by
        rcases (show p = 0 ∨ p = 1 by omega) with e | e
        · by_cases e2 : z0 = 0
          · exact ⟨_, z0, hz0, .inr ⟨.inl ⟨e, by rw [hz0, e2]; decide +kernel⟩, rfl⟩, b0⟩
          · exact ⟨_, -z0, by rw [hz0]; exact neg_I (by omega), .inl ⟨e, str_ne_zero hz0 e2, rfl⟩, b0.neg⟩
        · exact ⟨_, z0, hz0, .inr ⟨.inr e, rfl⟩, b0⟩
      have MK := fun W => qrmake_any t0 t1 (by rw [ht0]; exact I_len' (hy0.small (by decide))) (by rw [ht1]; exact I_len' (hy2.small (by decide))) W
      rw [ht0, ht1, okS_I (hy0.small (by decide)), okS_I (hy2.small (by decide)), zS_I, zS_I, show (decide (y1 ≠ 0)) = true by simp; omega, Bool.true_and, Bool.true_and, qT_true, ← ht0, ← ht1] at MK
      have hq := bq_divInt hy0 hy2 hy1
      generalize Rat.divInt y0 y1 = r at *
      obtain ⟨n, d, hn⟩ : ∃ n d, Hid (n = numS r ∧ d = denS r) := ⟨_, _, rfl, rfl⟩
      rw [← hn.out.1, ← hn.out.2] at MK
      have MK := Lib.hid MK
      clear ht0 ht1 hy0 hy1 hy2 hz0 hz1 b0 b1 p0 p1
      obtain ⟨hO, hR⟩ : BL w [(w.heap.size + 1, #[.string ⟨#[]⟩, .string ⟨#[]⟩], 23)] wr ∧ True := ⟨hS.drop (fun p hp => by simp at hp; rw [hp]; exact .tail _ (.head _)), trivial⟩
      rcases c1' with ⟨g1, rfl⟩ | ⟨g1, rfl⟩ <;> rcases c0' with ⟨rfl, g0, rfl⟩ | ⟨⟨rfl, g0⟩ | rfl, rfl⟩
      all_goals
        go_wp2_with fail
        refine Calls.mono (PK.out _) ?_
        rintro e w' ⟨rfl, rfl⟩
        go_wp2_with fail
        refine Calls.mono (MK.out _) ?_
        rintro e w' ⟨rfl, hb⟩
        have hge : w.heap.size ≤ w.heap.size + 1 + 1 := by omega
        have hne : ∀ p ∈ ([(w.heap.size + 1, #[.string ⟨#[]⟩, .string ⟨#[]⟩], 23)] : BLs), p.1 ≠ w.heap.size + 1 + 1 := by simp
        first | (have hX := hO.call hb) | (have hX := (hO.setO hge hne _ _).call hb) | (have hX := ((hO.setO hge hne _ _).setO hge hne _ _).call hb)
        have hX := hX.new (.cells #[.string n, .string d] 23)
        clear hO hS hb c0 c1 c2 c3 d0 d1 f0 f1 MK
        obtain ⟨k0, k1, k2, k3, m0, m1, hfin⟩ := res_after (hX.blks _ (.head _)) n d
        have hfin := Lib.hid (hfin w hX.below (Nat.le_succ _))
        clear hX
        go_wp2
        exact bodyPost_ret (v := .agg #[.string n, .string d]) (by simp [results, Tryz.results6, go_sem, m0, m1]) rfl (show LongP w _ _ from ⟨r, by rw [hn.out.1, hn.out.2]; rfl, hq, hfin.out⟩)
end Go.Proofs.YtiekbcbcbgmnmaaGreatDoor
