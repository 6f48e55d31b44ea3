/- LcB, LcC, McA -/
import Derived.Test.YtcmomjnailihpaaGreatDoorZLwM
import Derived.Test.YtcmomjnailihpaaGreatDoorZPkG
import Derived.Deep.RegionHeld3
namespace Go.Proofs.YtcmomjnailihpaaGreatDoor
open Go.RowKit
attribute [local go_sem] Oper.semAt_some
instance bdDec (k : Nat) (z : Int) : Decidable (Bd k z) := by unfold Bd; infer_instance
def numB (s : ByteArray) : Bool := okS s && decide (Bd 100 (zS s))
theorem ok_itoa {s : ByteArray} (h : okS s = true) : s.data.toList = Lib.itoa (zS s) := (itoa_of_valid (l := s.data.toList) h).1
theorem first_byte {s : ByteArray} (h : okS s = true) : ∃ h0 : 0 < s.size, (((s[0]).toNat : Int) == 45) = decide (zS s < 0) := by
  have e := ok_itoa h
  by_cases hz : zS s < 0
  · rw [itoa_neg hz] at e
    have h0 : 0 < s.size := by
      have := congrArg List.length e
      rw [Array.length_toList, List.length_cons] at this
      show 0 < s.data.size
      omega
    refine ⟨h0, ?_⟩
    have hb : s[0] = 45 := by
      show s.data[0] = 45
      have : s.data.toList[0]? = some 45 := by rw [e]; rfl
      rw [Array.getElem?_toList, Array.getElem?_eq_getElem h0] at this
      exact Option.some.inj this
    rw [hb]; simp [hz]
  · rw [itoa_nonneg (by omega)] at e
    obtain ⟨b, r, hb, hne⟩ := decDigits_not_minus (zS s).toNat
    rw [hb] at e
    have h0 : 0 < s.size := by
      have := congrArg List.length e
      rw [Array.length_toList, List.length_cons] at this
      show 0 < s.data.size
      omega
    refine ⟨h0, ?_⟩
    have hb : s[0] = b := by
      show s.data[0] = b
      have : s.data.toList[0]? = some b := by rw [e]; rfl
      rw [Array.getElem?_toList, Array.getElem?_eq_getElem h0] at this
      exact Option.some.inj this
    rw [hb, byte_eq_no hne]; simp; omega
theorem num_pos {s : ByteArray} (h : okS s = true) (hz : ¬ zS s < 0) : s.size ≤ 100 ↔ Bd 100 (zS s) := by
  have e := congrArg List.length (ok_itoa h)
  rw [itoa_nonneg (by omega), Array.length_toList] at e
  have e2 : s.size = (Lib.decDigits (zS s).toNat).length := e
  have hn : (zS s).toNat = (zS s).natAbs := by omega
  rw [e2, Bd.nat, hn]
  constructor
  · intro h1
    refine Nat.lt_of_not_le fun h2 => ?_
    have := decDigits_len_ge h2
    omega
  · intro h1
    exact decDigits_len h1 (by decide)
theorem num_neg {s : ByteArray} (h : okS s = true) (hz : zS s < 0) : s.size ≤ 101 ↔ Bd 100 (zS s) := by
  have e := congrArg List.length (ok_itoa h)
  rw [itoa_neg hz, Array.length_toList, List.length_cons] at e
  have e2 : s.size = (Lib.decDigits (zS s).natAbs).length + 1 := e
  rw [e2, Bd.nat]
  constructor
  · intro h1
    refine Nat.lt_of_not_le fun h2 => ?_
    have := decDigits_len_ge h2
    omega
  · intro h1
    have := decDigits_len h1 (by decide)
    omega
set_option maxRecDepth 100000 in
set_option maxHeartbeats 8000000 in
theorem isNumber_any (s : ByteArray) (w : World) : Calls Tryz.prog 62 #[.string s] w (Rets w (.bool (numB s))) := by
  have VA := Lib.hid (fun W => Valid_any s W)
  cases hk : okS s with
  | false =>
    have e : numB s = false := by unfold numB; rw [hk]; rfl
    rw [hk] at VA
    rw [e]
    clear hk e
    go_enter Tryz.func62, Tryz.ntmps62
    go_wp2_with fail
    refine Calls.mono (VA.out _) ?_
    rintro e w1 ⟨rfl, hb⟩
    go_wp2
    go_ret
    exact ⟨rfl, hb⟩
  | true =>
    rw [hk] at VA
    have e : numB s = decide (Bd 100 (zS s)) := by unfold numB; rw [hk]; rfl
    rw [e]
    obtain ⟨h0, hf⟩ := first_byte hk
    have hn1 := num_pos hk
    have hn2 := num_neg hk
    clear hk e
    by_cases h1 : s.size ≤ 100
    · have e : decide (Bd 100 (zS s)) = true := by
        rw [decide_eq_true_iff]
        by_cases hz : zS s < 0
        · exact (hn2 hz).1 (by omega)
        · exact (hn1 hz).1 h1
      rw [e]
      clear hf hn1 hn2 e
      have h1' : (s.size : Int) ≤ 100 := by omega
      go_enter Tryz.func62, Tryz.ntmps62
      go_wp2_with fail
      refine Calls.mono (VA.out _) ?_
      rintro e w1 ⟨rfl, hb⟩
      go_wp2
      go_ret
      exact ⟨rfl, hb⟩
    · have h1' : ¬ (s.size : Int) ≤ 100 := by omega
      have h1c : 100 < s.size := by omega
      by_cases hz : zS s < 0
      · rw [show decide (zS s < 0) = true by simp [hz]] at hf
        have hb2 := hn2 hz
        clear hn1 hn2
        by_cases h2 : s.size = 101
        · have e : decide (Bd 100 (zS s)) = true := decide_eq_true (hb2.1 (by omega))
          rw [e]
          have h2' : ((s.size : Int) == 101) = true := by simp; omega
          have h2c : (s.size : Int) = 101 := by omega
          clear hb2 hz e h2
          go_enter Tryz.func62, Tryz.ntmps62
          go_wp2_with fail
          refine Calls.mono (VA.out _) ?_
          rintro e w1 ⟨rfl, hb⟩
          go_wp2
          go_ret
          exact ⟨ret_bool (by simp), hb⟩
        · have e : decide (Bd 100 (zS s)) = false := decide_eq_false (fun h => by have := hb2.2 h; omega)
          rw [e]
          have h2' : ((s.size : Int) == 101) = false := by simp; omega
          clear hb2 hz e
          go_enter Tryz.func62, Tryz.ntmps62
          go_wp2_with fail
          refine Calls.mono (VA.out _) ?_
          rintro e w1 ⟨rfl, hb⟩
          go_wp2
          go_ret
          exact ⟨ret_bool (by simp; omega), hb⟩
      · rw [show decide (zS s < 0) = false by simp [hz]] at hf
        have e : decide (Bd 100 (zS s)) = false := decide_eq_false (fun h => by have := (hn1 hz).2 h; omega)
        rw [e]
        clear hn1 hn2 hz e
        go_enter Tryz.func62, Tryz.ntmps62
        go_wp2_with fail
        refine Calls.mono (VA.out _) ?_
        rintro e w1 ⟨rfl, hb⟩
        go_wp2
        go_ret
        exact ⟨ret_bool (by simp; omega), hb⟩
def badB (s : ByteArray) : Bool := !numB s || decide (zS s < 0)
set_option maxRecDepth 100000 in
set_option maxHeartbeats 8000000 in
theorem isBad_any (s : ByteArray) (w : World) : Calls Tryz.prog 87 #[.string s] w (Rets w (.bool (badB s))) := by
  have VA := Lib.hid (fun W => isNumber_any s W)
  unfold badB
  cases hk : numB s with
  | false =>
    rw [hk] at VA
    clear hk
    go_enter Tryz.func87, Tryz.ntmps87
    go_wp2_with fail
    refine Calls.mono (VA.out _) ?_
    rintro e w1 ⟨rfl, hb⟩
    go_wp2
    go_ret
    exact ⟨rfl, hb⟩
  | true =>
    rw [hk] at VA
    have hok : okS s = true := by unfold numB at hk; rw [Bool.and_eq_true] at hk; exact hk.1
    obtain ⟨h0, hf⟩ := first_byte hok
    clear hk hok
    generalize decide (zS s < 0) = b at *
    cases b <;>
    · go_enter Tryz.func87, Tryz.ntmps87
      go_wp2_with fail
      refine Calls.mono (VA.out _) ?_
      rintro e w1 ⟨rfl, hb⟩
      go_wp2
      go_ret
      exact ⟨ret_bool (by simp), hb⟩
def largeB (x : Int) : Bool := !(decide (-30000 ≤ x) && decide (x ≤ 30000))
def badE (cols : Int) (r : List Int × Int) : Bool := !((r.1.length : Int) == cols) || r.1.any largeB || !(decide (-1000000000 ≤ r.2) && decide (r.2 ≤ 1000000000))
def validL (cols : Int) (rows : List (List Int × Int)) : Bool := (decide (0 ≤ cols) && decide (cols ≤ 64)) && decide (rows.length ≤ 18) && !(rows.any (badE cols))
def formedL (l : List ByteArray) (den : ByteArray) : Bool := decide (l.length ≤ 64) && !(l.any badB) && (numB den && decide (0 < zS den))
theorem zero_text {s : ByteArray} (h : okS s = true) : (s.data.toList == [48]) = decide (zS s = 0) := by
  have e := ok_itoa h
  by_cases hz : zS s = 0
  · rw [e, hz, itoa_nonneg (by decide), decDigits_small (by decide)]; rfl
  · have h2 : s.data.toList ≠ [48] := fun h48 => hz (by show ival s.data.toList = 0; rw [h48]; rfl)
    simp [hz, h2]
set_option maxRecDepth 100000 in
set_option maxHeartbeats 8000000 in
theorem valid1_any (x : Int) (w : World) : Calls Tryz.prog 43 #[.int .i64 x] w (Rets w (.bool (largeB x))) := by
  have IN := Lib.hid (fun W => lisIn_any x (-30000) 30000 W)
  unfold largeB
  generalize (decide (-30000 ≤ x) && decide (x ≤ 30000)) = b at *
  go_enter Tryz.func43, Tryz.ntmps43
  go_wp2_with fail
  refine Calls.mono (IN.out _) ?_
  rintro e w1 ⟨rfl, hb⟩
  go_wp2
  go_ret
  exact ⟨rfl, hb⟩
set_option maxRecDepth 100000 in
set_option maxHeartbeats 8000000 in
theorem valid2_any (cols val : Int) (v rv : Value) (coef : List Int) (Bs Bf : Nat) (w : World) (h : Sl w v coef) (k1 : Blk w Bs #[.int .i64 cols, rv] 27) (k2 : Blk w Bf #[.func (.func 43) #[] #[]] 80) :
    Calls Tryz.prog 45 #[.agg #[v, .int .i64 val], .pointer (some ⟨Bs, 0, none⟩), .pointer (some ⟨Bf, 0, none⟩)] w (Rets w (.bool (badE cols (coef, val)))) := by
  have hlen := h.len_le
  unfold maxLen at hlen
  have IN := Lib.hid (fun W => lisIn_any val (-1000000000) 1000000000 W)
  have hS : BL w [(w.heap.size, #[v, .int .i64 val], 60), (Bs, #[.int .i64 cols, rv], 27), (Bf, #[.func (.func 43) #[] #[]], 80)] (w.alloc (.cells #[v, .int .i64 val] 60)) := (⟨Below.refl _ _, fun p hp => by
    rcases List.mem_cons.1 hp with rfl | hp
    · exact k1
    · rcases List.mem_cons.1 hp with rfl | hp
      · exact k2
      · cases hp⟩ : BL w [(Bs, #[.int .i64 cols, rv], 27), (Bf, #[.func (.func 43) #[] #[]], 80)] w).add _ _
  have CI := Lib.hid (fun W (hW : Sl W v coef) => containsI_any v coef 43 #[] largeB W hW (Go.Proofs.enters_of Tryz.func43 (by kernel_rfl) rfl) (fun W x _ _ => by rw [Array.append_empty]; exact valid1_any x W))
  have HS := Lib.hid h
  obtain ⟨V, hV⟩ : ∃ V, V = w.alloc (.cells #[v, .int .i64 val] 60) := ⟨_, rfl⟩
  rw [← hV] at hS
  obtain ⟨a, cap, rfl⟩ := h.shape
  unfold badE
  dsimp only
  generalize (decide (-1000000000 ≤ val) && decide (val ≤ 1000000000)) = bin at *
  by_cases hc : (coef.length : Int) = cols
  · have hc1 : ((coef.length : Int) == cols) = true := by simp [hc]
    have hc2 : ((coef.length : Int) != cols) = false := by simp [hc]
    rw [hc1]
    cases hany : coef.any largeB
    · rw [hany] at CI
      clear hany hc k1 k2
      generalize coef.length = n at *
      obtain ⟨x0, x1⟩ := hS.c2 w.heap.size _ _ _ (.head _)
      have y0 := (hS.c2 Bs _ _ _ (.tail _ (.head _))).1
      have y1 := hS.c1 Bf _ _ (.tail _ (.tail _ (.head _)))
      go_enter Tryz.func45, Tryz.ntmps45
      go_upto_region 1 with fail
      rw [← hV]
      clear hV
      go_wp2_with fail
      refine Calls.mono (CI.out _ (HS.out.below hS.below)) ?_
      rintro e w1 ⟨rfl, hb⟩
      replace hS := hS.call hb
      clear x0 x1 y0 y1 hb
      obtain ⟨x0, x1⟩ := hS.c2 w.heap.size _ _ _ (.head _)
      go_wp2_with fail
      refine Calls.mono (IN.out _) ?_
      rintro e w2 ⟨rfl, hb⟩
      replace hS := hS.call hb
      go_wp2
      go_ret
      exact ⟨ret_bool (by simp), hS.below⟩
    · rw [hany] at CI
      clear hany hc k1 k2
      generalize coef.length = n at *
      obtain ⟨x0, x1⟩ := hS.c2 w.heap.size _ _ _ (.head _)
      have y0 := (hS.c2 Bs _ _ _ (.tail _ (.head _))).1
      have y1 := hS.c1 Bf _ _ (.tail _ (.tail _ (.head _)))
      go_enter Tryz.func45, Tryz.ntmps45
      go_upto_region 1 with fail
      rw [← hV]
      clear hV
      go_wp2_with fail
      refine Calls.mono (CI.out _ (HS.out.below hS.below)) ?_
      rintro e w1 ⟨rfl, hb⟩
      replace hS := hS.call hb
      go_wp2
      go_ret
      exact ⟨ret_bool (by simp), hS.below⟩
  · have hc1 : ((coef.length : Int) == cols) = false := by simp [hc]
    have hc2 : ((coef.length : Int) != cols) = true := by simp [hc]
    rw [hc1]
    clear k1 k2
    generalize coef.length = n at *
    obtain ⟨x0, x1⟩ := hS.c2 w.heap.size _ _ _ (.head _)
    have y0 := (hS.c2 Bs _ _ _ (.tail _ (.head _))).1
    go_enter Tryz.func45, Tryz.ntmps45
    go_upto_region 1 with fail
    rw [← hV]
    clear hV
    go_wp2
    go_ret
    exact ⟨ret_bool (by simp), hS.below⟩
set_option maxRecDepth 100000 in
set_option maxHeartbeats 8000000 in
theorem lvalid_any (cols : Int) (v : Value) (rows : List (List Int × Int)) (w : World) (h : SlE w v rows) :
    Calls Tryz.prog 15 #[.agg #[.int .i64 cols, v]] w (Rets w (.bool (validL cols rows))) := by
  have hlen : rows.length ≤ maxLen := h.len_le
  unfold maxLen at hlen
  have IN := Lib.hid (fun W => lisIn_any cols 0 64 W)
  obtain ⟨V, hV, S1, z1⟩ := (BL.start w).add' #[.int .i64 cols, v] 27
  obtain ⟨a, cap, rfl⟩ := h.shape
  have HS := Lib.hid h
  replace z1 := Lib.hid z1
  have hS := S1
  clear S1
  unfold validL
  cases hin : (decide (0 ≤ cols) && decide (cols ≤ 64))
  · rw [hin] at IN
    clear hin
    generalize rows.length = n at *
    obtain ⟨x0, x1⟩ := hS.c2 w.heap.size _ _ _ (.head _)
    go_enter Tryz.func15, Tryz.ntmps15
    go_upto_region 1 with fail
    rw [← hV]
    clear hV
    go_wp2_with fail
    refine Calls.mono (IN.out _) ?_
    rintro e w1 ⟨rfl, hb⟩
    replace hS := hS.call hb
    go_wp2
    go_ret
    exact ⟨ret_bool (by simp), hS.below⟩
  · rw [hin] at IN
    clear hin
    by_cases hn : rows.length ≤ 18
    · rw [decide_eq_true hn]
      have hn' : ¬ (18 : Int) < (rows.length : Int) := by omega
      have CE := Lib.hid (fun W (hW : SlE W (.slice a rows.length cap) rows) (k1 : Blk W w.heap.size #[.int .i64 cols, .slice a rows.length cap] 27) (Bf : Nat) (k2 : Blk W Bf #[.func (.func 43) #[] #[]] 80) => containsE_any _ rows 45 #[.pointer (some ⟨w.heap.size, 0, none⟩), .pointer (some ⟨Bf, 0, none⟩)] (badE cols) W hW (Go.Proofs.enters_of Tryz.func45 (by kernel_rfl) rfl) (fun W' x v' _ hb hv => valid2_any cols x.2 v' _ x.1 w.heap.size Bf W' hv (k1.below hb) (k2.below hb)))
      generalize rows.any (badE cols) = bb at *
      clear h
      generalize rows.length = n at *
      obtain ⟨x0, x1⟩ := hS.c2 w.heap.size _ _ _ (.head _)
      go_enter Tryz.func15, Tryz.ntmps15
      go_upto_region 1 with fail
      rw [← hV]
      clear hV
      go_wp2_with fail
      refine Calls.mono (IN.out _) ?_
      rintro e w1 ⟨rfl, hb⟩
      replace hS := hS.call hb
      clear x0 x1 hb
      obtain ⟨x0, x1⟩ := hS.c2 w.heap.size _ _ _ (.head _)
      go_upto_region 4 with fail
      clear x0 x1
      obtain ⟨W2, hW2, S2, z2⟩ := hS.add' #[.func (.func 43) #[] #[]] 80
      rw [← hW2]
      clear hW2 z2 hS
      obtain ⟨x0, x1⟩ := S2.c2 w.heap.size _ _ _ (.tail _ (.head _))
      go_wp2_with fail
      refine Calls.mono (CE.out _ (HS.out.below S2.below) (S2.blks _ (.tail _ (.head _))) _ (S2.blks _ (.head _))) ?_
      rintro e w3 ⟨rfl, hb⟩
      have hB := kb_call hb S2.below (Nat.le_refl _)
      go_wp2
      go_ret
      exact ⟨ret_bool (by simp), hB⟩
    · rw [decide_eq_false hn]
      have hn' : (18 : Int) < (rows.length : Int) := by omega
      clear h
      generalize rows.length = n at *
      obtain ⟨x0, x1⟩ := hS.c2 w.heap.size _ _ _ (.head _)
      go_enter Tryz.func15, Tryz.ntmps15
      go_upto_region 1 with fail
      rw [← hV]
      clear hV
      go_wp2_with fail
      refine Calls.mono (IN.out _) ?_
      rintro e w1 ⟨rfl, hb⟩
      replace hS := hS.call hb
      clear x0 x1 hb
      obtain ⟨x0, x1⟩ := hS.c2 w.heap.size _ _ _ (.head _)
      go_wp2
      go_ret
      exact ⟨ret_bool (by simp), hS.below⟩
set_option maxRecDepth 100000 in
set_option maxHeartbeats 8000000 in
theorem formed_eq (l : List ByteArray) (den : ByteArray) : formedL l den = (decide (l.length ≤ 64) && !(l.any badB) && !(badB den) && !(den.data.toList == [48])) := by
  unfold formedL badB
  by_cases hk : numB den = true
  · have ho : okS den = true := by unfold numB at hk; rw [Bool.and_eq_true] at hk; exact hk.1
    rw [zero_text ho, hk]
    have e : decide (0 < zS den) = (!decide (zS den < 0) && !decide (zS den = 0)) := by
      rw [Bool.eq_iff_iff]; simp; omega
    rw [e]
    cases decide (l.length ≤ 64) <;> cases l.any (fun s => !numB s || decide (zS s < 0)) <;> cases decide (zS den < 0) <;> cases decide (zS den = 0) <;> rfl
  · have hk' : numB den = false := by simpa using hk
    rw [hk']; simp
theorem isFormed_any (v : Value) (l : List ByteArray) (den : ByteArray) (w : World) (h : SlS w v l) :
    Calls Tryz.prog 48 #[.agg #[v, .string den]] w (Rets w (.bool (formedL l den))) := by
  have hlen : l.length ≤ maxLen := h.len_le
  unfold maxLen at hlen
  obtain ⟨V, hV, hS, z1⟩ := (BL.start w).add' #[v, .string den] 30
  replace z1 := Lib.hid z1
  obtain ⟨a, cap, rfl⟩ := h.shape
  have HS := Lib.hid h
  have CS := Lib.hid (fun W (hW : SlS W (.slice a l.length cap) l) => containsS_any _ l 87 #[] badB W hW (Go.Proofs.enters_of Tryz.func87 (by kernel_rfl) rfl) (fun W x _ _ => by rw [Array.append_empty]; exact isBad_any x W))
  have BD := Lib.hid (fun W => isBad_any den W)
  rw [formed_eq]
  by_cases hn : l.length ≤ 64
  · rw [decide_eq_true hn]
    have hn' : (l.length : Int) ≤ 64 := by omega
    generalize l.any badB = b1 at *
    generalize badB den = b2 at *
    obtain ⟨b3, hb3⟩ : ∃ b, b = (den.data.toList == [48]) := ⟨_, rfl⟩
    rw [← hb3]
    have hb3' : (den.toList == [48]) = b3 := by rw [ByteArray.toList_eq]; exact hb3.symm
    clear h hb3
    generalize l.length = n at *
    obtain ⟨x0, x1⟩ := hS.c2 w.heap.size _ _ _ (.head _)
    go_enter Tryz.func48, Tryz.ntmps48
    go_upto_region 2 with fail
    rw [← hV]
    clear hV
    go_wp2_with fail
    refine Calls.mono (CS.out _ (HS.out.below hS.below)) ?_
    rintro e w1 ⟨rfl, hb⟩
    replace hS := hS.call hb
    clear x0 x1 hb
    obtain ⟨x0, x1⟩ := hS.c2 w.heap.size _ _ _ (.head _)
    cases b1
    · go_wp2_with fail
      refine Calls.mono (BD.out _) ?_
      rintro e w2 ⟨rfl, hb⟩
      replace hS := hS.call hb
      clear x0 x1 hb
      obtain ⟨x0, x1⟩ := hS.c2 w.heap.size _ _ _ (.head _)
      cases b2
      · go_wp2
        go_ret
        exact ⟨ret_bool (by simp), hS.below⟩
      · go_wp2
        go_ret
        exact ⟨ret_bool (by simp), hS.below⟩
    · go_wp2
      go_ret
      exact ⟨ret_bool (by simp), hS.below⟩
  · rw [decide_eq_false hn]
    have hn' : ¬ (l.length : Int) ≤ 64 := by omega
    clear h
    generalize l.length = n at *
    obtain ⟨x0, x1⟩ := hS.c2 w.heap.size _ _ _ (.head _)
    go_enter Tryz.func48, Tryz.ntmps48
    go_upto_region 2 with fail
    rw [← hV]
    clear hV
    go_wp2
    go_ret
    exact ⟨ret_bool (by simp), hS.below⟩
set_option maxRecDepth 100000 in
set_option maxHeartbeats 8000000 in
theorem pickR6_any (c m : Int) (hc : Fits c) (h0 : 0 < m) (h1 : m ≤ 9223372036854775807) (w : World) : Calls Tryz.prog 35 #[.int .i64 c, .int .i64 m] w (Rets w (.int .i64 (pkv c m))) := by
  obtain ⟨hc0, hc1⟩ := hc
  have hmz : (m == 0) = false := by rw [beq_eq_false_iff_ne]; omega
  by_cases hc : c < 0
  · have hp : 0 ≤ -(c + 1) := by omega
    have e := Lib.hid (show -(c + 1) % m = pkv c m by unfold pkv; rw [if_pos hc])
    have e2 := Lib.hid (show -((c + 1).tmod m) = -(c + 1) % m by rw [← Int.neg_tmod, Int.tmod_eq_emod_of_nonneg hp])
    go_enter Tryz.func35, Tryz.ntmps35
    go_wp2
    go_ret
    first | exact ⟨ret_int e.out, Below.refl _ _⟩ | exact ⟨ret_int (e2.out.trans e.out), Below.refl _ _⟩
  · have hp : 0 ≤ c := by omega
    have e := Lib.hid (show c % m = pkv c m by unfold pkv; rw [if_neg hc])
    go_enter Tryz.func35, Tryz.ntmps35
    go_wp2
    go_ret
    exact ⟨ret_int e.out, Below.refl _ _⟩
set_option maxRecDepth 100000 in
set_option maxHeartbeats 8000000 in
def atv (l : List Int) (i : Nat) : Int := gi l (i % l.length)
theorem at6_any (v : Value) (l : List Int) (i : Nat) (w : World) (h : Sl w v l) : Calls Tryz.prog 36 #[v, .int .i64 i] w (Rets w (.int .i64 (atv l i))) := by
  have hl := h.len_le
  unfold maxLen at hl
  unfold atv
  rcases h with ⟨rfl, rfl⟩ | ⟨b, off, cap, rfl, h1, h2, h3, h4⟩
  · go_enter Tryz.func36, Tryz.ntmps36
    go_wp2
    go_ret
    exact ⟨rfl, Below.refl _ _⟩
  · by_cases h0 : l.length = 0
    · have hz : gi l (i % l.length) = 0 := gi_ge (by omega)
      rw [hz]
      have e0 : ((l.length : Int) == 0) = true := by simp [h0]
      generalize l.length = n at *
      clear h4 hz
      subst h0
      go_enter Tryz.func36, Tryz.ntmps36
      go_wp2
      go_ret
      exact ⟨rfl, Below.refl _ _⟩
    · have hlt : i % l.length < l.length := Nat.mod_lt _ (by omega)
      have x0 := h4 (i % l.length) hlt
      have e0 : ((l.length : Int) == 0) = false := by rw [beq_eq_false_iff_ne]; omega
      have e1 : ((i : Int)).tmod (l.length : Int) = ((i % l.length : Nat) : Int) := by rw [Int.tmod_eq_emod_of_nonneg (Int.natCast_nonneg i)]; rfl
      generalize gi l (i % l.length) = z at *
      generalize hq : i % l.length = q at *
      generalize l.length = n at *
      have hq1 : (q : Int) < n := by omega
      have hq0 : (0 : Int) ≤ q := by omega
      have hn0 : ¬ (n : Int) = 0 := by omega
      have hn1 : ¬ n = 0 := h0
      replace hq := Lib.hid hq
      clear h4
      go_enter Tryz.func36, Tryz.ntmps36
      go_wp2
      go_ret
      exact ⟨rfl, Below.refl _ _⟩
set_option maxRecDepth 100000 in
set_option maxHeartbeats 8000000 in
theorem misses_any (c r m : Int) (v u : Value) (a a2 : Option Addr) (cp cp2 n n2 : Nat) (hv : v = .slice a n cp) (hu : u = .slice a2 n2 cp2) (hm : Fits m) (w : World) :
    Calls Tryz.prog 30 #[.agg #[.int .i64 c, .int .i64 r, v, u, .int .i64 m]] w (Rets w (.bool (pkv m 3 == 2))) := by
  subst hv
  subst hu
  have PK := Lib.hid (fun W => pickR6_any m 3 hm (by decide) (by decide) W)
  obtain ⟨V, hV, hS, z1⟩ := (BL.start w).add' #[.int .i64 c, .int .i64 r, .slice a n cp, .slice a2 n2 cp2, .int .i64 m] 24
  have x4 : V.cell? ⟨w.heap.size, 4, none⟩ = some (.int .i64 m) := hS.cell _ _ _ (.head _) 4
  generalize pkv m 3 = z at *
  clear z1
  go_enter Tryz.func30, Tryz.ntmps30
  go_upto_region 1 with fail
  rw [← hV]
  clear hV
  go_wp2_with fail
  refine Calls.mono (PK.out _) ?_
  rintro e w1 ⟨rfl, hb⟩
  replace hS := hS.call hb
  go_wp2
  go_ret
  exact ⟨rfl, hS.below⟩
def sAt6 (l : List ByteArray) (i : Nat) : ByteArray := l[i]?.getD ⟨#[]⟩
theorem sAt6_lt {l : List ByteArray} {i : Nat} (h : i < l.length) : l[i]? = some (sAt6 l i) := by unfold sAt6; rw [List.getElem?_eq_getElem h]; rfl
theorem str_eq (a b : ByteArray) : (a.toList == b.toList) = decide (a = b) := by
  by_cases h : a = b
  · subst h; simp
  · rw [decide_eq_false h, beq_eq_false_iff_ne]
    intro e
    rw [ByteArray.toList_eq, ByteArray.toList_eq] at e
    exact h (ByteArray.ext (Array.toList_inj.1 e))
theorem list_eq_of {l m : List ByteArray} (hl : l.length = m.length) (h : ∀ j, j < l.length → sAt6 l j = sAt6 m j) : l = m := by
  refine List.ext_getElem hl fun j h1 h2 => ?_
  have := h j h1
  unfold sAt6 at this
  rwa [List.getElem?_eq_getElem h1, List.getElem?_eq_getElem h2] at this
set_option maxRecDepth 100000 in
set_option maxHeartbeats 8000000 in
theorem strings_any (va vb : Value) (la lb : List ByteArray) (w : World) (hA : SlS w va la) (hB : SlS w vb lb) : Calls Tryz.prog 67 #[va, vb] w (Rets w (.bool (decide (la = lb)))) := by
  have hla : la.length ≤ maxLen := hA.len_le
  unfold maxLen at hla
  obtain ⟨aa, ca, rfl⟩ := hA.shape
  obtain ⟨ab, cb, rfl⟩ := hB.shape
  by_cases hl : la.length = lb.length
  case neg =>
    have hn : la ≠ lb := fun e => hl (by rw [e])
    have h1 : ((la.length : Int) != lb.length) = true := by simp; omega
    rw [decide_eq_false hn]
    clear hA hB hn
    generalize la.length = n at *
    generalize lb.length = m at *
    go_enter Tryz.func67, Tryz.ntmps67
    go_wp2
    go_ret
    exact ⟨rfl, Below.refl _ _⟩
  case pos =>
    have h1 : ((la.length : Int) != lb.length) = false := by simp [hl]
    have HA := Lib.hid hA
    have HB := Lib.hid hB
    have hpost : Hid (∀ (b : Bool) k, (b = false ∧ k < la.length ∧ sAt6 la k ≠ sAt6 lb k) ∨ (b = true ∧ ∀ j, j < la.length → sAt6 la j = sAt6 lb j) → decide (la = lb) = b) := Lib.hid (fun b k h => by
      rcases h with ⟨rfl, h1, h2⟩ | ⟨rfl, h1⟩
      · exact decide_eq_false (fun e => h2 (by rw [e]))
      · exact decide_eq_true (list_eq_of hl h1))
    obtain ⟨n, hn⟩ : ∃ n, n = la.length := ⟨_, rfl⟩
    obtain ⟨m, hm⟩ : ∃ n, n = lb.length := ⟨_, rfl⟩
    rw [← hn] at HA h1 hpost hl hla ⊢
    rw [← hm] at HB h1 hl ⊢
    replace hn := Lib.hid hn
    replace hm := Lib.hid hm
    replace hl := Lib.hid hl
    clear hA hB
    generalize decide (la = lb) = bb at *
    go_enter Tryz.func67, Tryz.ntmps67
    go_wp2_with fail
    go_loopw [5] (fun o wr => ∃ i : Nat, o = .int .i64 i ∧ i ≤ n ∧ Hid (∀ j, j < i → sAt6 la j = sAt6 lb j) ∧ Hid (Below w.heap.size w wr)) (fun o _ => n - (intOf o).toNat)
    case atStart => exact ⟨0, rfl, by omega, Lib.hid (fun j hj => absurd hj (by omega)), Lib.hid (Below.refl _ _)⟩
    case round =>
      obtain ⟨i, rfl, hi, hall, hb⟩ := hrel
      by_cases hil : i < n
      case neg =>
        have hil' : ¬ (i : Int) < n := by omega
        obtain rfl : i = n := by omega
        have hp := Lib.hid (hpost.out true 0 (.inr ⟨rfl, hall.out⟩))
        go_wp2
        go_ret
        exact ⟨ret_bool hp.out.symm, hb.out⟩
      case pos =>
        have hil' : (i : Int) < n := by omega
        have hil2 : (i : Int) < m := by have := hl.out; omega
        have hi0 : (0 : Int) ≤ i := by omega
        obtain ⟨ba, oa, ea, hba, xa⟩ : ∃ b off, aa = some ⟨b, off, none⟩ ∧ b < w.heap.size ∧ w.cell? ⟨b, off + i, none⟩ = some (.string (sAt6 la i)) := by
          rcases HA.out with ⟨e, e2⟩ | ⟨b, off, cap', e, h1, h2, h3, h4⟩
          · have := hn.out; rw [e2] at this; simp at this; omega
          · cases e
            have := h4 i _ (sAt6_lt (by rw [← hn.out]; exact hil))
            rw [Nat.mul_one] at this
            exact ⟨b, off, rfl, h3, this⟩
        obtain ⟨bb', ob, eb, hbb, xb⟩ : ∃ b off, ab = some ⟨b, off, none⟩ ∧ b < w.heap.size ∧ w.cell? ⟨b, off + i, none⟩ = some (.string (sAt6 lb i)) := by
          rcases HB.out with ⟨e, e2⟩ | ⟨b, off, cap', e, h1, h2, h3, h4⟩
          · have e3 := hm.out; rw [e2] at e3; simp at e3; have := hl.out; omega
          · cases e
            have := h4 i _ (sAt6_lt (by rw [← hm.out, ← hl.out]; exact hil))
            rw [Nat.mul_one] at this
            exact ⟨b, off, rfl, h3, this⟩
        subst ea
        subst eb
        replace xa := (hb.out.cell (p := ⟨_, _, none⟩) hba).trans xa
        replace xb := (hb.out.cell (p := ⟨_, _, none⟩) hbb).trans xb
        have hse := str_eq (sAt6 la i) (sAt6 lb i)
        obtain ⟨sa, hsa⟩ : ∃ s, s = sAt6 la i := ⟨_, rfl⟩
        obtain ⟨sb, hsb⟩ : ∃ s, s = sAt6 lb i := ⟨_, rfl⟩
        rw [← hsa] at xa hse
        rw [← hsb] at xb hse
        replace hsa := Lib.hid hsa
        replace hsb := Lib.hid hsb
        have hb2 := Lib.hid (hb.out.trans (below_drewN wr 1 |>.mono hb.out.size))
        by_cases heq : sa = sb
        · rw [decide_eq_true heq] at hse
          have hall2 := Lib.hid (show ∀ j, j < i + 1 → sAt6 la j = sAt6 lb j from fun j hj => by
            by_cases e : j = i
            · subst e; rw [← hsa.out, ← hsb.out]; exact heq
            · exact hall.out j (by omega))
          clear heq hall
          go_upto_region 6 with fail
          go_region_held3 (fun w' => w'.cell? ⟨ba, oa + i, none⟩ = some (.string sa) ∧ w'.cell? ⟨bb', ob + i, none⟩ = some (.string sb))
            (first | go_keep)
            (fail)
          all_goals (go_wp2_with fail; go_roundw)
          case rel => exact ⟨i + 1, by go_num, by omega, hall2, hb2⟩
          case measure => simp [intOf]; omega
        · rw [decide_eq_false heq] at hse
          have hp := Lib.hid (hpost.out false i (.inl ⟨rfl, hil, by rw [← hsa.out, ← hsb.out]; exact heq⟩))
          clear heq
          go_upto_region 6 with fail
          go_region_held3 (fun w' => w'.cell? ⟨ba, oa + i, none⟩ = some (.string sa) ∧ w'.cell? ⟨bb', ob + i, none⟩ = some (.string sb))
            (first | go_keep)
            (fail)
          all_goals (go_wp2; go_ret; exact ⟨ret_bool hp.out.symm, hb2.out⟩)
end Go.Proofs.YtcmomjnailihpaaGreatDoor
