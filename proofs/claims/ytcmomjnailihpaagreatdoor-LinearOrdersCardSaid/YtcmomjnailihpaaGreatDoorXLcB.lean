/- LcB, LcC, McA, LwS, SvC -/
import Derived.Test.YtcmomjnailihpaaGreatDoorXLcR
import Derived.Deep.RegionHeld3
import Derived.Deep.LoopGhost
import Derived.Scope
import Derived.WalkMore
set_option maxHeartbeats 8000000
set_option maxRecDepth 100000
namespace Go.Proofs.YtcmomjnailihpaaGreatDoor
section
open Go.RowKit
attribute [local go_sem] Oper.semAt_some
instance bdDec (k : Nat) (z : Int) : Decidable (Bd k z) := by unfold Bd; infer_instance
def numB (s : ByteArray) : Bool := okS s && decide (Bd 100 (zS s))
theorem Ei {s : ByteArray} (h : okS s = true) : s.data.toList = Lib.itoa (zS s) := (Ci (l := s.data.toList) h).1
theorem De {s : ByteArray} (h : okS s = true) : ∃ h0 : 0 < s.size, (((s[0]).toNat : Int) == 45) = decide (zS s < 0) := by
 have e := Ei h
 by_cases hz : zS s < 0
 ·rw [BS hz] at e
  have h0 : 0 < s.size := by
   have := congrArg List.length e
   rw [Array.length_toList, List.length_cons] at this
   show 0 < s.data.size
   omega
  refine ⟨h0, ?_⟩
  have hb : s[0] = 45 := by
   show s.data[0] = 45
   have : s.data.toList[0]? = some 45 := by rw [e]; rfl
   rw [Array.getElem?_toList, Array.getElem?_eq_getElem h0] at this
   exact Option.some.inj this
  rw [hb]; simp [hz]
 ·rw [Ap (by omega)] at e
  obtain ⟨b, r, hb, hne⟩ := BU (zS s).toNat
  rw [hb] at e
  have h0 : 0 < s.size := by
   have := congrArg List.length e
   rw [Array.length_toList, List.length_cons] at this
   show 0 < s.data.size
   omega
  refine ⟨h0, ?_⟩
  have hb : s[0] = b := by
   show s.data[0] = b
   have : s.data.toList[0]? = some b := by rw [e]; rfl
   rw [Array.getElem?_toList, Array.getElem?_eq_getElem h0] at this
   exact Option.some.inj this
  rw [hb, Im hne]; simp; omega
theorem num_pos {s : ByteArray} (h : okS s = true) (hz : ¬ zS s < 0) : s.size ≤ 100 ↔ Bd 100 (zS s) := by
 have e := congrArg List.length (Ei h)
 rw [Ap (by omega), Array.length_toList] at e
 have e2 : s.size = (Lib.decDigits (zS s).toNat).length := e
 have hn : (zS s).toNat = (zS s).natAbs := by omega
 rw [e2, Bd.nat, hn]
 constructor
 ·intro h1
  refine Nat.lt_of_not_le fun h2 => ?_
  have := BC h2
  omega
 ·intro h1
  exact AS h1 (by decide)
theorem num_neg {s : ByteArray} (h : okS s = true) (hz : zS s < 0) : s.size ≤ 101 ↔ Bd 100 (zS s) := by
 have e := congrArg List.length (Ei h)
 rw [BS hz, Array.length_toList, List.length_cons] at e
 have e2 : s.size = (Lib.decDigits (zS s).natAbs).length + 1 := e
 rw [e2, Bd.nat]
 constructor
 ·intro h1
  refine Nat.lt_of_not_le fun h2 => ?_
  have := BC h2
  omega
 ·intro h1
  have := AS h1 (by decide)
  omega
theorem CF (s : ByteArray) (w : World) : Calls Tryz.prog 62 #[.string s] w (Rets w (.bool (numB s))) := by
 have VA := A8 (fun W => Jy s W)
 cases hk : okS s with
 | false =>
  have e : numB s = false := by unfold numB; rw [hk]; rfl
  rw [hk] at VA
  rw [e]
  clear hk e
  go_enter Tryz.func62, Tryz.ntmps62
  go_wp2_with fail
  refine Calls.mono (VA.out _) ?_
  rintro e w1 ⟨rfl, hb⟩
  go_wp2
  go_ret
  exact ⟨rfl, hb⟩
 | true =>
  rw [hk] at VA
  have e : numB s = decide (Bd 100 (zS s)) := by unfold numB; rw [hk]; rfl
  rw [e]
  obtain ⟨h0, hf⟩ := De hk
  have hn1 := num_pos hk
  have hn2 := num_neg hk
  clear hk e
  by_cases h1 : s.size ≤ 100
  ·have e : decide (Bd 100 (zS s)) = true := by
    rw [decide_eq_true_iff]
    by_cases hz : zS s < 0
    ·exact (hn2 hz).1 (by omega)
    ·exact (hn1 hz).1 h1
   rw [e]
   clear hf hn1 hn2 e
   have h1' : (s.size : Int) ≤ 100 := by omega
   go_enter Tryz.func62, Tryz.ntmps62
   go_wp2_with fail
   refine Calls.mono (VA.out _) ?_
   rintro e w1 ⟨rfl, hb⟩
   go_wp2
   go_ret
   exact ⟨rfl, hb⟩
  ·have h1' : ¬ (s.size : Int) ≤ 100 := by omega
   have h1c : 100 < s.size := by omega
   by_cases hz : zS s < 0
   ·rw [show decide (zS s < 0) = true by simp [hz]] at hf
    have hb2 := hn2 hz
    clear hn1 hn2
    by_cases h2 : s.size = 101
    ·have e : decide (Bd 100 (zS s)) = true := decide_eq_true (hb2.1 (by omega))
     rw [e]
     have h2' : ((s.size : Int) == 101) = true := by simp; omega
     have h2c : (s.size : Int) = 101 := by omega
     clear hb2 hz e h2
     go_enter Tryz.func62, Tryz.ntmps62
     go_wp2_with fail
     refine Calls.mono (VA.out _) ?_
     rintro e w1 ⟨rfl, hb⟩
     go_wp2
     go_ret
     exact ⟨Ag (by simp), hb⟩
    ·have e : decide (Bd 100 (zS s)) = false := decide_eq_false (fun h => by have := hb2.2 h; omega)
     rw [e]
     have h2' : ((s.size : Int) == 101) = false := by simp; omega
     clear hb2 hz e
     go_enter Tryz.func62, Tryz.ntmps62
     go_wp2_with fail
     refine Calls.mono (VA.out _) ?_
     rintro e w1 ⟨rfl, hb⟩
     go_wp2
     go_ret
     exact ⟨Ag (by simp; omega), hb⟩
   ·rw [show decide (zS s < 0) = false by simp [hz]] at hf
    have e : decide (Bd 100 (zS s)) = false := decide_eq_false (fun h => by have := (hn1 hz).2 h; omega)
    rw [e]
    clear hn1 hn2 hz e
    go_enter Tryz.func62, Tryz.ntmps62
    go_wp2_with fail
    refine Calls.mono (VA.out _) ?_
    rintro e w1 ⟨rfl, hb⟩
    go_wp2
    go_ret
    exact ⟨Ag (by simp; omega), hb⟩
def badB (s : ByteArray) : Bool := !numB s || decide (zS s < 0)
theorem Ft (s : ByteArray) (w : World) : Calls Tryz.prog 87 #[.string s] w (Rets w (.bool (badB s))) := by
 have VA := A8 (fun W => CF s W)
 unfold badB
 cases hk : numB s with
 | false =>
  rw [hk] at VA
  clear hk
  go_enter Tryz.func87, Tryz.ntmps87
  go_wp2_with fail
  refine Calls.mono (VA.out _) ?_
  rintro e w1 ⟨rfl, hb⟩
  go_wp2
  go_ret
  exact ⟨rfl, hb⟩
 | true =>
  rw [hk] at VA
  have hok : okS s = true := by unfold numB at hk; rw [Bool.and_eq_true] at hk; exact hk.1
  obtain ⟨h0, hf⟩ := De hok
  clear hk hok
  generalize decide (zS s < 0) = b at *
  cases b <;>
  ·go_enter Tryz.func87, Tryz.ntmps87
   go_wp2_with fail
   refine Calls.mono (VA.out _) ?_
   rintro e w1 ⟨rfl, hb⟩
   go_wp2
   go_ret
   exact ⟨Ag (by simp), hb⟩
def largeB (x : Int) : Bool := !(decide (-30000 ≤ x) && decide (x ≤ 30000))
def badE (cols : Int) (r : List Int × Int) : Bool := !((r.1.length : Int) == cols) || r.1.any largeB || !(decide (-1000000000 ≤ r.2) && decide (r.2 ≤ 1000000000))
def validL (cols : Int) (rows : List (List Int × Int)) : Bool := (decide (0 ≤ cols) && decide (cols ≤ 64)) && decide (rows.length ≤ 18) && !(rows.any (badE cols))
def formedL (l : List ByteArray) (den : ByteArray) : Bool := decide (l.length ≤ 64) && !(l.any badB) && (numB den && decide (0 < zS den))
theorem JM {s : ByteArray} (h : okS s = true) : (s.data.toList == [48]) = decide (zS s = 0) := by
 have e := Ei h
 by_cases hz : zS s = 0
 ·rw [e, hz, Ap (by decide), Aq (by decide)]; rfl
 ·have h2 : s.data.toList ≠ [48] := fun h48 => hz (by show ival s.data.toList = 0; rw [h48]; rfl)
  simp [hz, h2]
theorem Iu (x : Int) (w : World) : Calls Tryz.prog 43 #[.int .i64 x] w (Rets w (.bool (largeB x))) := by
 have IN := A8 (fun W => Cr x (-30000) 30000 W)
 unfold largeB
 generalize (decide (-30000 ≤ x) && decide (x ≤ 30000)) = b at *
 go_enter Tryz.func43, Tryz.ntmps43
 go_wp2_with fail
 refine Calls.mono (IN.out _) ?_
 rintro e w1 ⟨rfl, hb⟩
 go_wp2
 go_ret
 exact ⟨rfl, hb⟩
theorem Iw (cols val : Int) (v rv : Value) (coef : List Int) (Bs Bf : Nat) (w : World) (h : Sl w v coef) (k1 : Blk w Bs #[.int .i64 cols, rv] 27) (k2 : Blk w Bf #[.func (.func 43) #[] #[]] 80) :
  Calls Tryz.prog 45 #[.agg #[v, .int .i64 val], .pointer (some ⟨Bs, 0, none⟩), .pointer (some ⟨Bf, 0, none⟩)] w (Rets w (.bool (badE cols (coef, val)))) := by
 have hlen := h.len_le
 unfold maxLen at hlen
 have IN := A8 (fun W => Cr val (-1000000000) 1000000000 W)
 have hS : BL w [(w.heap.size, #[v, .int .i64 val], 60), (Bs, #[.int .i64 cols, rv], 27), (Bf, #[.func (.func 43) #[] #[]], 80)] (w.alloc (.cells #[v, .int .i64 val] 60)) := (⟨Below.refl _ _, fun p hp => by
  rcases List.mem_cons.1 hp with rfl | hp
  ·exact k1
  ·rcases List.mem_cons.1 hp with rfl | hp
   ·exact k2
   ·cases hp⟩ : BL w [(Bs, #[.int .i64 cols, rv], 27), (Bf, #[.func (.func 43) #[] #[]], 80)] w).add _ _
 have CI := A8 (fun W (hW : Sl W v coef) => Fh v coef 43 #[] largeB W hW (Go.Proofs.enters_of Tryz.func43 (by kernel_rfl) rfl) (fun W x _ _ => by rw [Array.append_empty]; exact Iu x W))
 have HS := A8 h
 obtain ⟨V, hV⟩ : ∃ V, V = w.alloc (.cells #[v, .int .i64 val] 60) := ⟨_, rfl⟩
 rw [← hV] at hS
 obtain ⟨a, cap, rfl⟩ := h.shape
 unfold badE
 dsimp only
 generalize (decide (-1000000000 ≤ val) && decide (val ≤ 1000000000)) = bin at *
 by_cases hc : (coef.length : Int) = cols
 ·have hc1 : ((coef.length : Int) == cols) = true := by simp [hc]
  have hc2 : ((coef.length : Int) != cols) = false := by simp [hc]
  rw [hc1]
  cases hany : coef.any largeB
  ·rw [hany] at CI
   clear hany hc k1 k2
   generalize coef.length = n at *
   obtain ⟨x0, x1⟩ := hS.c2 w.heap.size _ _ _ (.head _)
   have y0 := (hS.c2 Bs _ _ _ (.tail _ (.head _))).1
   have y1 := hS.c1 Bf _ _ (.tail _ (.tail _ (.head _)))
   go_enter Tryz.func45, Tryz.ntmps45
   go_upto_region 1 with fail
   rw [← hV]
   clear hV
   go_wp2_with fail
   refine Calls.mono (CI.out _ (HS.out.below hS.below)) ?_
   rintro e w1 ⟨rfl, hb⟩
   replace hS := hS.call hb
   clear x0 x1 y0 y1 hb
   obtain ⟨x0, x1⟩ := hS.c2 w.heap.size _ _ _ (.head _)
   go_wp2_with fail
   refine Calls.mono (IN.out _) ?_
   rintro e w2 ⟨rfl, hb⟩
   replace hS := hS.call hb
   go_wp2
   go_ret
   exact ⟨Ag (by simp), hS.below⟩
  ·rw [hany] at CI
   clear hany hc k1 k2
   generalize coef.length = n at *
   obtain ⟨x0, x1⟩ := hS.c2 w.heap.size _ _ _ (.head _)
   have y0 := (hS.c2 Bs _ _ _ (.tail _ (.head _))).1
   have y1 := hS.c1 Bf _ _ (.tail _ (.tail _ (.head _)))
   go_enter Tryz.func45, Tryz.ntmps45
   go_upto_region 1 with fail
   rw [← hV]
   clear hV
   go_wp2_with fail
   refine Calls.mono (CI.out _ (HS.out.below hS.below)) ?_
   rintro e w1 ⟨rfl, hb⟩
   replace hS := hS.call hb
   go_wp2
   go_ret
   exact ⟨Ag (by simp), hS.below⟩
 ·have hc1 : ((coef.length : Int) == cols) = false := by simp [hc]
  have hc2 : ((coef.length : Int) != cols) = true := by simp [hc]
  rw [hc1]
  clear k1 k2
  generalize coef.length = n at *
  obtain ⟨x0, x1⟩ := hS.c2 w.heap.size _ _ _ (.head _)
  have y0 := (hS.c2 Bs _ _ _ (.tail _ (.head _))).1
  go_enter Tryz.func45, Tryz.ntmps45
  go_upto_region 1 with fail
  rw [← hV]
  clear hV
  go_wp2
  go_ret
  exact ⟨Ag (by simp), hS.below⟩
theorem BF (cols : Int) (v : Value) (rows : List (List Int × Int)) (w : World) (h : SlE w v rows) :
  Calls Tryz.prog 15 #[.agg #[.int .i64 cols, v]] w (Rets w (.bool (validL cols rows))) := by
 have hlen : rows.length ≤ maxLen := h.len_le
 unfold maxLen at hlen
 have IN := A8 (fun W => Cr cols 0 64 W)
 obtain ⟨V, hV, S1, z1⟩ := (BL.start w).add' #[.int .i64 cols, v] 27
 obtain ⟨a, cap, rfl⟩ := h.shape
 have HS := A8 h
 replace z1 := A8 z1
 have hS := S1
 clear S1
 unfold validL
 cases hin : (decide (0 ≤ cols) && decide (cols ≤ 64))
 ·rw [hin] at IN
  clear hin
  generalize rows.length = n at *
  obtain ⟨x0, x1⟩ := hS.c2 w.heap.size _ _ _ (.head _)
  go_enter Tryz.func15, Tryz.ntmps15
  go_upto_region 1 with fail
  rw [← hV]
  clear hV
  go_wp2_with fail
  refine Calls.mono (IN.out _) ?_
  rintro e w1 ⟨rfl, hb⟩
  replace hS := hS.call hb
  go_wp2
  go_ret
  exact ⟨Ag (by simp), hS.below⟩
 ·rw [hin] at IN
  clear hin
  by_cases hn : rows.length ≤ 18
  ·rw [decide_eq_true hn]
   have hn' : ¬ (18 : Int) < (rows.length : Int) := by omega
   have CE := A8 (fun W (hW : SlE W (.slice a rows.length cap) rows) (k1 : Blk W w.heap.size #[.int .i64 cols, .slice a rows.length cap] 27) (Bf : Nat) (k2 : Blk W Bf #[.func (.func 43) #[] #[]] 80) => D7 _ rows 45 #[.pointer (some ⟨w.heap.size, 0, none⟩), .pointer (some ⟨Bf, 0, none⟩)] (badE cols) W hW (Go.Proofs.enters_of Tryz.func45 (by kernel_rfl) rfl) (fun W' x v' _ hb hv => Iw cols x.2 v' _ x.1 w.heap.size Bf W' hv (k1.below hb) (k2.below hb)))
   generalize rows.any (badE cols) = bb at *
   clear h
   generalize rows.length = n at *
   obtain ⟨x0, x1⟩ := hS.c2 w.heap.size _ _ _ (.head _)
   go_enter Tryz.func15, Tryz.ntmps15
   go_upto_region 1 with fail
   rw [← hV]
   clear hV
   go_wp2_with fail
   refine Calls.mono (IN.out _) ?_
   rintro e w1 ⟨rfl, hb⟩
   replace hS := hS.call hb
   clear x0 x1 hb
   obtain ⟨x0, x1⟩ := hS.c2 w.heap.size _ _ _ (.head _)
   go_upto_region 4 with fail
   clear x0 x1
   obtain ⟨W2, hW2, S2, z2⟩ := hS.add' #[.func (.func 43) #[] #[]] 80
   rw [← hW2]
   clear hW2 z2 hS
   obtain ⟨x0, x1⟩ := S2.c2 w.heap.size _ _ _ (.tail _ (.head _))
   go_wp2_with fail
   refine Calls.mono (CE.out _ (HS.out.below S2.below) (S2.blks _ (.tail _ (.head _))) _ (S2.blks _ (.head _))) ?_
   rintro e w3 ⟨rfl, hb⟩
   have hB := Af hb S2.below (Aa _)
   go_wp2
   go_ret
   exact ⟨Ag (by simp), hB⟩
  ·rw [decide_eq_false hn]
   have hn' : (18 : Int) < (rows.length : Int) := by omega
   clear h
   generalize rows.length = n at *
   obtain ⟨x0, x1⟩ := hS.c2 w.heap.size _ _ _ (.head _)
   go_enter Tryz.func15, Tryz.ntmps15
   go_upto_region 1 with fail
   rw [← hV]
   clear hV
   go_wp2_with fail
   refine Calls.mono (IN.out _) ?_
   rintro e w1 ⟨rfl, hb⟩
   replace hS := hS.call hb
   clear x0 x1 hb
   obtain ⟨x0, x1⟩ := hS.c2 w.heap.size _ _ _ (.head _)
   go_wp2
   go_ret
   exact ⟨Ag (by simp), hS.below⟩
theorem JO (l : List ByteArray) (den : ByteArray) : formedL l den = (decide (l.length ≤ 64) && !(l.any badB) && !(badB den) && !(den.data.toList == [48])) := by
 unfold formedL badB
 by_cases hk : numB den = true
 ·have ho : okS den = true := by unfold numB at hk; rw [Bool.and_eq_true] at hk; exact hk.1
  rw [JM ho, hk]
  have e : decide (0 < zS den) = (!decide (zS den < 0) && !decide (zS den = 0)) := by
   rw [Bool.eq_iff_iff]; simp; omega
  rw [e]
  cases decide (l.length ≤ 64) <;> cases l.any (fun s => !numB s || decide (zS s < 0)) <;> cases decide (zS den < 0) <;> cases decide (zS den = 0) <;> rfl
 ·have hk' : numB den = false := by simpa using hk
  rw [hk']; simp
theorem Bz (v : Value) (l : List ByteArray) (den : ByteArray) (w : World) (h : SlS w v l) :
  Calls Tryz.prog 48 #[.agg #[v, .string den]] w (Rets w (.bool (formedL l den))) := by
 have hlen : l.length ≤ maxLen := h.len_le
 unfold maxLen at hlen
 obtain ⟨V, hV, hS, z1⟩ := (BL.start w).add' #[v, .string den] 30
 replace z1 := A8 z1
 obtain ⟨a, cap, rfl⟩ := h.shape
 have HS := A8 h
 have CS := A8 (fun W (hW : SlS W (.slice a l.length cap) l) => D6 _ l 87 #[] badB W hW (Go.Proofs.enters_of Tryz.func87 (by kernel_rfl) rfl) (fun W x _ _ => by rw [Array.append_empty]; exact Ft x W))
 have BD := A8 (fun W => Ft den W)
 rw [JO]
 by_cases hn : l.length ≤ 64
 ·rw [decide_eq_true hn]
  have hn' : (l.length : Int) ≤ 64 := by omega
  generalize l.any badB = b1 at *
  generalize badB den = b2 at *
  obtain ⟨b3, hb3⟩ : ∃ b, b = (den.data.toList == [48]) := ⟨_, rfl⟩
  rw [← hb3]
  have hb3' : (den.toList == [48]) = b3 := by rw [ByteArray.toList_eq]; exact hb3.symm
  clear h hb3
  generalize l.length = n at *
  obtain ⟨x0, x1⟩ := hS.c2 w.heap.size _ _ _ (.head _)
  go_enter Tryz.func48, Tryz.ntmps48
  go_upto_region 2 with fail
  rw [← hV]
  clear hV
  go_wp2_with fail
  refine Calls.mono (CS.out _ (HS.out.below hS.below)) ?_
  rintro e w1 ⟨rfl, hb⟩
  replace hS := hS.call hb
  clear x0 x1 hb
  obtain ⟨x0, x1⟩ := hS.c2 w.heap.size _ _ _ (.head _)
  cases b1
  ·go_wp2_with fail
   refine Calls.mono (BD.out _) ?_
   rintro e w2 ⟨rfl, hb⟩
   replace hS := hS.call hb
   clear x0 x1 hb
   obtain ⟨x0, x1⟩ := hS.c2 w.heap.size _ _ _ (.head _)
   cases b2
   ·go_wp2
    go_ret
    exact ⟨Ag (by simp), hS.below⟩
   ·go_wp2
    go_ret
    exact ⟨Ag (by simp), hS.below⟩
  ·go_wp2
   go_ret
   exact ⟨Ag (by simp), hS.below⟩
 ·rw [decide_eq_false hn]
  have hn' : ¬ (l.length : Int) ≤ 64 := by omega
  clear h
  generalize l.length = n at *
  obtain ⟨x0, x1⟩ := hS.c2 w.heap.size _ _ _ (.head _)
  go_enter Tryz.func48, Tryz.ntmps48
  go_upto_region 2 with fail
  rw [← hV]
  clear hV
  go_wp2
  go_ret
  exact ⟨Ag (by simp), hS.below⟩
theorem Fu (c m : Int) (hc : Fits c) (h0 : 0 < m) (h1 : m ≤ 9223372036854775807) (w : World) : Calls Tryz.prog 24 #[.int .i64 c, .int .i64 m] w (Rets w (.int .i64 (pkv c m))) := by
 obtain ⟨hc0, hc1⟩ := hc
 have hmz : (m == 0) = false := by rw [beq_eq_false_iff_ne]; omega
 by_cases hc : c < 0
 ·have hp : 0 ≤ -(c + 1) := by omega
  have e := A8 (show -(c + 1) % m = pkv c m by unfold pkv; rw [if_pos hc])
  have e2 := A8 (show -((c + 1).tmod m) = -(c + 1) % m by rw [← Int.neg_tmod, Int.tmod_eq_emod_of_nonneg hp])
  go_enter Tryz.func24, Tryz.ntmps24
  go_wp2
  go_ret
  first | exact ⟨Bt e.out, Below.refl _ _⟩ | exact ⟨Bt (e2.out.trans e.out), Below.refl _ _⟩
 ·have hp : 0 ≤ c := by omega
  have e := A8 (show c % m = pkv c m by unfold pkv; rw [if_neg hc])
  go_enter Tryz.func24, Tryz.ntmps24
  go_wp2
  go_ret
  exact ⟨Bt e.out, Below.refl _ _⟩
theorem AB (c m : Int) (hc : Fits c) (h0 : 0 < m) (h1 : m ≤ 9223372036854775807) (w : World) : Calls Tryz.prog 35 #[.int .i64 c, .int .i64 m] w (Rets w (.int .i64 (pkv c m))) := by
 obtain ⟨hc0, hc1⟩ := hc
 have hmz : (m == 0) = false := by rw [beq_eq_false_iff_ne]; omega
 by_cases hc : c < 0
 ·have hp : 0 ≤ -(c + 1) := by omega
  have e := A8 (show -(c + 1) % m = pkv c m by unfold pkv; rw [if_pos hc])
  have e2 := A8 (show -((c + 1).tmod m) = -(c + 1) % m by rw [← Int.neg_tmod, Int.tmod_eq_emod_of_nonneg hp])
  go_enter Tryz.func35, Tryz.ntmps35
  go_wp2
  go_ret
  first | exact ⟨Bt e.out, Below.refl _ _⟩ | exact ⟨Bt (e2.out.trans e.out), Below.refl _ _⟩
 ·have hp : 0 ≤ c := by omega
  have e := A8 (show c % m = pkv c m by unfold pkv; rw [if_neg hc])
  go_enter Tryz.func35, Tryz.ntmps35
  go_wp2
  go_ret
  exact ⟨Bt e.out, Below.refl _ _⟩
def atv (l : List Int) (i : Nat) : Int := gi l (i % l.length)
theorem Ej (v : Value) (l : List Int) (i : Nat) (w : World) (h : Sl w v l) : Calls Tryz.prog 36 #[v, .int .i64 i] w (Rets w (.int .i64 (atv l i))) := by
 have hl := h.len_le
 unfold maxLen at hl
 unfold atv
 rcases h with ⟨rfl, rfl⟩ | ⟨b, off, cap, rfl, h1, h2, h3, h4⟩
 ·go_enter Tryz.func36, Tryz.ntmps36
  go_wp2
  go_ret
  exact ⟨rfl, Below.refl _ _⟩
 ·by_cases h0 : l.length = 0
  ·have hz : gi l (i % l.length) = 0 := Cl (by omega)
   rw [hz]
   have e0 : ((l.length : Int) == 0) = true := by simp [h0]
   generalize l.length = n at *
   clear h4 hz
   subst h0
   go_enter Tryz.func36, Tryz.ntmps36
   go_wp2
   go_ret
   exact ⟨rfl, Below.refl _ _⟩
  ·have hlt : i % l.length < l.length := Nat.mod_lt _ (by omega)
   have x0 := h4 (i % l.length) hlt
   have e0 : ((l.length : Int) == 0) = false := by rw [beq_eq_false_iff_ne]; omega
   have e1 : ((i : Int)).tmod (l.length : Int) = ((i % l.length : Nat) : Int) := by rw [Int.tmod_eq_emod_of_nonneg (Int.natCast_nonneg i)]; rfl
   generalize gi l (i % l.length) = z at *
   generalize hq : i % l.length = q at *
   generalize l.length = n at *
   have hq1 : (q : Int) < n := by omega
   have hq0 : (0 : Int) ≤ q := by omega
   have hn0 : ¬ (n : Int) = 0 := by omega
   have hn1 : ¬ n = 0 := h0
   replace hq := A8 hq
   clear h4
   go_enter Tryz.func36, Tryz.ntmps36
   go_wp2
   go_ret
   exact ⟨rfl, Below.refl _ _⟩
theorem Iy (c r m : Int) (v u : Value) (a a2 : Option Addr) (cp cp2 n n2 : Nat) (hv : v = .slice a n cp) (hu : u = .slice a2 n2 cp2) (hm : Fits m) (w : World) :
  Calls Tryz.prog 30 #[.agg #[.int .i64 c, .int .i64 r, v, u, .int .i64 m]] w (Rets w (.bool (pkv m 3 == 2))) := by
 subst hv
 subst hu
 have PK := A8 (fun W => AB m 3 hm (by decide) (by decide) W)
 obtain ⟨V, hV, hS, z1⟩ := (BL.start w).add' #[.int .i64 c, .int .i64 r, .slice a n cp, .slice a2 n2 cp2, .int .i64 m] 24
 have x4 : V.cell? ⟨w.heap.size, 4, none⟩ = some (.int .i64 m) := hS.cell _ _ _ (.head _) 4
 generalize pkv m 3 = z at *
 clear z1
 go_enter Tryz.func30, Tryz.ntmps30
 go_upto_region 1 with fail
 rw [← hV]
 clear hV
 go_wp2_with fail
 refine Calls.mono (PK.out _) ?_
 rintro e w1 ⟨rfl, hb⟩
 replace hS := hS.call hb
 go_wp2
 go_ret
 exact ⟨rfl, hS.below⟩
def sAt6 (l : List ByteArray) (i : Nat) : ByteArray := l[i]?.getD ⟨#[]⟩
theorem J4 {l : List ByteArray} {i : Nat} (h : i < l.length) : l[i]? = some (sAt6 l i) := by unfold sAt6; rw [List.getElem?_eq_getElem h]; rfl
theorem KL (a b : ByteArray) : (a.toList == b.toList) = decide (a = b) := by
 by_cases h : a = b
 ·subst h; simp
 ·rw [decide_eq_false h, beq_eq_false_iff_ne]
  intro e
  rw [ByteArray.toList_eq, ByteArray.toList_eq] at e
  exact h (ByteArray.ext (Array.toList_inj.1 e))
theorem Iz {l m : List ByteArray} (hl : l.length = m.length) (h : ∀ j, j < l.length → sAt6 l j = sAt6 m j) : l = m := by
 refine List.ext_getElem hl fun j h1 h2 => ?_
 have := h j h1
 unfold sAt6 at this
 rwa [List.getElem?_eq_getElem h1, List.getElem?_eq_getElem h2] at this
theorem H6 (va vb : Value) (la lb : List ByteArray) (w : World) (hA : SlS w va la) (hB : SlS w vb lb) : Calls Tryz.prog 67 #[va, vb] w (Rets w (.bool (decide (la = lb)))) := by
 have hla : la.length ≤ maxLen := hA.len_le
 unfold maxLen at hla
 obtain ⟨aa, ca, rfl⟩ := hA.shape
 obtain ⟨ab, cb, rfl⟩ := hB.shape
 by_cases hl : la.length = lb.length
 case neg =>
  have hn : la ≠ lb := fun e => hl (by rw [e])
  have h1 : ((la.length : Int) != lb.length) = true := by simp; omega
  rw [decide_eq_false hn]
  clear hA hB hn
  generalize la.length = n at *
  generalize lb.length = m at *
  go_enter Tryz.func67, Tryz.ntmps67
  go_wp2
  go_ret
  exact ⟨rfl, Below.refl _ _⟩
 case pos =>
  have h1 : ((la.length : Int) != lb.length) = false := by simp [hl]
  have HA := A8 hA
  have HB := A8 hB
  have hpost : Hid (∀ (b : Bool) k, (b = false ∧ k < la.length ∧ sAt6 la k ≠ sAt6 lb k) ∨ (b = true ∧ ∀ j, j < la.length → sAt6 la j = sAt6 lb j) → decide (la = lb) = b) := A8 (fun b k h => by
   rcases h with ⟨rfl, h1, h2⟩ | ⟨rfl, h1⟩
   ·exact decide_eq_false (fun e => h2 (by rw [e]))
   ·exact decide_eq_true (Iz hl h1))
  obtain ⟨n, hn⟩ : ∃ n, n = la.length := ⟨_, rfl⟩
  obtain ⟨m, hm⟩ : ∃ n, n = lb.length := ⟨_, rfl⟩
  rw [← hn] at HA h1 hpost hl hla ⊢
  rw [← hm] at HB h1 hl ⊢
  replace hn := A8 hn
  replace hm := A8 hm
  replace hl := A8 hl
  clear hA hB
  generalize decide (la = lb) = bb at *
  go_enter Tryz.func67, Tryz.ntmps67
  go_wp2_with fail
  go_loopw [5] (fun o wr => ∃ i : Nat, o = .int .i64 i ∧ i ≤ n ∧ Hid (∀ j, j < i → sAt6 la j = sAt6 lb j) ∧ Hid (Below w.heap.size w wr)) (fun o _ => n - (intOf o).toNat)
  case atStart => exact ⟨0, rfl, by omega, A8 (fun j hj => absurd hj (by omega)), A8 (Below.refl _ _)⟩
  case round =>
   obtain ⟨i, rfl, hi, hall, hb⟩ := hrel
   by_cases hil : i < n
   case neg =>
    have hil' : ¬ (i : Int) < n := by omega
    obtain rfl : i = n := by omega
    have hp := A8 (hpost.out true 0 (.inr ⟨rfl, hall.out⟩))
    go_wp2
    go_ret
    exact ⟨Ag hp.out.symm, hb.out⟩
   case pos =>
    have hil' : (i : Int) < n := by omega
    have hil2 : (i : Int) < m := by have := hl.out; omega
    have hi0 : (0 : Int) ≤ i := by omega
    obtain ⟨ba, oa, ea, hba, xa⟩ : ∃ b off, aa = some ⟨b, off, none⟩ ∧ b < w.heap.size ∧ w.cell? ⟨b, off + i, none⟩ = some (.string (sAt6 la i)) := by
     rcases HA.out with ⟨e, e2⟩ | ⟨b, off, cap', e, h1, h2, h3, h4⟩
     ·have := hn.out; rw [e2] at this; simp at this; omega
     ·cases e
      have := h4 i _ (J4 (by rw [← hn.out]; exact hil))
      rw [Nat.mul_one] at this
      exact ⟨b, off, rfl, h3, this⟩
    obtain ⟨bb', ob, eb, hbb, xb⟩ : ∃ b off, ab = some ⟨b, off, none⟩ ∧ b < w.heap.size ∧ w.cell? ⟨b, off + i, none⟩ = some (.string (sAt6 lb i)) := by
     rcases HB.out with ⟨e, e2⟩ | ⟨b, off, cap', e, h1, h2, h3, h4⟩
     ·have e3 := hm.out; rw [e2] at e3; simp at e3; have := hl.out; omega
     ·cases e
      have := h4 i _ (J4 (by rw [← hm.out, ← hl.out]; exact hil))
      rw [Nat.mul_one] at this
      exact ⟨b, off, rfl, h3, this⟩
    subst ea
    subst eb
    replace xa := (hb.out.cell (p := ⟨_, _, none⟩) hba).trans xa
    replace xb := (hb.out.cell (p := ⟨_, _, none⟩) hbb).trans xb
    have hse := KL (sAt6 la i) (sAt6 lb i)
    obtain ⟨sa, hsa⟩ : ∃ s, s = sAt6 la i := ⟨_, rfl⟩
    obtain ⟨sb, hsb⟩ : ∃ s, s = sAt6 lb i := ⟨_, rfl⟩
    rw [← hsa] at xa hse
    rw [← hsb] at xb hse
    replace hsa := A8 hsa
    replace hsb := A8 hsb
    have hb2 := A8 (hb.out.trans (Ad wr 1 |>.mono hb.out.size))
    by_cases heq : sa = sb
    ·rw [decide_eq_true heq] at hse
     have hall2 := A8 (show ∀ j, j < i + 1 → sAt6 la j = sAt6 lb j from fun j hj => by
      by_cases e : j = i
      ·subst e; rw [← hsa.out, ← hsb.out]; exact heq
      ·exact hall.out j (by omega))
     clear heq hall
     go_upto_region 6 with fail
     go_region_held3 (fun w' => w'.cell? ⟨ba, oa + i, none⟩ = some (.string sa) ∧ w'.cell? ⟨bb', ob + i, none⟩ = some (.string sb))
      (first | go_keep)
      (fail)
     all_goals (go_wp2_with fail; go_roundw)
     case rel => exact ⟨i + 1, by go_num, by omega, hall2, hb2⟩
     case measure => simp [intOf]; omega
    ·rw [decide_eq_false heq] at hse
     have hp := A8 (hpost.out false i (.inl ⟨rfl, hil, by rw [← hsa.out, ← hsb.out]; exact heq⟩))
     clear heq
     go_upto_region 6 with fail
     go_region_held3 (fun w' => w'.cell? ⟨ba, oa + i, none⟩ = some (.string sa) ∧ w'.cell? ⟨bb', ob + i, none⟩ = some (.string sb))
      (first | go_keep)
      (fail)
     all_goals (go_wp2; go_ret; exact ⟨Ag hp.out.symm, hb2.out⟩)
end
section
open Go.RowKit
open LnM (wd upd)
attribute [local go_sem] Oper.semAt_some
structure SysWd (s : LnM.Sys) : Prop where
 d : ∀ B, s.Inv B → LnM.Wide (s.d B)
 T : ∀ B, s.Inv B → ∀ i, i < s.m → ∀ j, j ≤ s.n + s.m → LnM.Wide (s.T B i j)
 C : ∀ B, s.Inv B → ∀ j, j ≤ s.n + s.m → LnM.Wide (s.C B j)
 two : ∀ B, s.Inv B → ∀ i r k, i < s.m → r < s.m → k ≤ s.n + s.m → LnM.Wide (s.T B i (s.n + s.m) * s.T B r k - s.T B r (s.n + s.m) * s.T B i k)
 dT : ∀ B r k, s.Inv B → s.Leave B k r → k < s.n → ∀ i, i < s.m → ∀ j, j ≤ s.n + s.m → LnM.Wide (s.d B * s.T (upd B r k) i j)
 dC : ∀ B r k, s.Inv B → s.Leave B k r → k < s.n → ∀ j, j ≤ s.n + s.m → LnM.Wide (s.d B * s.C (upd B r k) j)
theorem K8 (t : Tb) (base : Nat) (s : LnM.Sys) (hwd : SysWd s) (B : Nat → Nat) (sg : Nat → Int) (r k : Nat) (hI : s.Inv B) (hl : s.Leave B k r) (hk : k < s.n) (hm : t.m = s.m) (hn : t.n = s.n + s.m + 1) (hd : t.Dis base) (hm1 : t.m ≤ 100000) (hn1 : t.n ≤ 100000)
  (w : World) (h : Tbl w t (tabF s B) B sg (s.d B)) (hbs : base ≤ w.heap.size) :
  Calls Tryz.prog 77 #[.pointer (some ⟨t.tb, 0, none⟩), .int .i64 r, .int .i64 k] w fun e w' => e = .returned (.tuple #[]) ∧ Tbl w' t (tabF s (upd B r k)) (upd B r k) sg (s.d (upd B r k)) ∧ Below base w w' := by
 have hr := hl.lt
 have hP := K7 t base (tabF s B) (tabF s (upd B r k)) B sg (s.d B) r k w h hd hbs (by omega) (by omega) hm1 hn1 hI.dpos (hwd.d B hI) (fun i hi hir j hj => ?_) (fun j hj => ?_)
 ·have e : tabF s B r k = s.d (upd B r k) := by unfold tabF; rw [if_pos hr, LnM.pivot_d]
  rwa [e] at hP
 ·unfold tabF
  by_cases him : i < s.m
  ·simp only [if_pos hr, if_pos him]
   have hj' : j ≤ s.n + s.m := by rw [hn] at hj; omega
   exact ⟨(LnM.pivot_T hI hr him hir hj').symm, hwd.dT B r k hI hl hk i him j hj'⟩
  ·simp only [if_pos hr, if_neg him]
   have hj' : j ≤ s.n + s.m := by rw [hn] at hj; omega
   exact ⟨(LnM.pivot_C hI hr hk hj').symm, hwd.dC B r k hI hl hk j hj'⟩
 ·unfold tabF
  rw [if_pos hr, if_pos hr, LnM.pivot_row]
theorem run_any (t : Tb) (base : Nat) (s : LnM.Sys) (hwd : SysWd s) (B : Nat → Nat) (sg : Nat → Int) (hI : s.Inv B) (hm : t.m = s.m) (hn : t.n = s.n + s.m + 1) (hkn : t.k = s.n) (hd : t.Dis base) (hm1 : t.m ≤ 100000) (hn1 : t.n ≤ 100000)
  (w : World) (h : Tbl w t (tabF s B) B sg (s.d B)) (hbs : base ≤ w.heap.size) :
  Calls Tryz.prog 38 #[.pointer (some ⟨t.tb, 0, none⟩)] w fun e w' => e = .returned (.tuple #[]) ∧ (∃ B', s.Inv B' ∧ (∀ k, k < s.n → 0 ≤ s.C B' k) ∧ Tbl w' t (tabF s B') B' sg (s.d B')) ∧ Below base w w' := by
 obtain ⟨c, Kc, Rc, L, h0, hch, hend⟩ := LnM.run_ends hI
 rw [← h0] at h
 have PV := A8 (fun B r k hI hl hk W h hb => K8 t base s hwd B sg r k hI hl hk hm hn hd hm1 hn1 W h hb)
 have LV := A8 (fun B k (hI : s.Inv B) (hk : k < s.n) (hm0 : 0 < s.m) W (h : Tbl W t (tabF s B) B sg (s.d B)) => Hs t s (tabF s B) B sg (s.d B) k W h hm hn (fun i hi j hj => if_pos hi) (by omega) hm0 hm1 hn1 (fun i hi => hwd.T B hI i hi k (by omega)) (fun i r hi hr => hwd.two B hI i r k hi hr (by omega)))
 have H := A8 h
 have hwd' := A8 hwd
 have hch' := A8 hch
 have hend' := A8 hend
 have hd' := A8 hd
 replace hm := A8 hm
 replace hn := A8 hn
 have hkn' := A8 hkn
 clear h hwd hch hend hI h0 hd hkn
 go_enter Tryz.func38, Tryz.ntmps38
 refine wp_scope_straight ?_
 go_wp2_with fail
 refine wp_label ?_
 go_wp2_with fail
 go_loopg [] L (fun q wr => ∃ l, l + q = L ∧ Hid (Tbl wr t (tabF s (c l)) (c l) sg (s.d (c l))) ∧ Below base w wr)
 case atStart => exact ⟨0, by omega, H, (Below.refl _ _).mono hbs⟩
 case round =>
  rename World => Wo
  obtain ⟨l, hlk, hT, hB⟩ := hrel
  have hI := A8 (hch'.out.invs (l := l) (by omega))
  have hbo : base ≤ Wo.heap.size := Nat.le_trans hbs hB.size
  have c16 := hT.out.c16
  rw [hkn'.out] at c16
  go_wp2_with fail
  clear c16
  go_loopw [7] (fun o wr2 => ∃ k : Nat, o = .int .i64 k ∧ k ≤ s.n ∧ Hid (∀ j, j < k → 0 ≤ s.C (c l) j) ∧ Below Wo.heap.size Wo wr2) (fun o _ => s.n - (intOf o).toNat)
  case atStart => exact ⟨0, rfl, by omega, A8 (fun j hj => by omega), Below.refl _ _⟩
  case round =>
   obtain ⟨k, rfl, hk, hfi, hB2⟩ := hrel
   by_cases hkn : k < s.n
   ·have hkn' : (k : Int) < s.n := by omega
    have hk0 : (0 : Int) ≤ k := by omega
    have hkt : k < t.n := by have := hn.out; omega
    have hkt' : (k : Int) < t.n := by omega
    have HT := A8 (hT.out.below hB2)
    have c1 := HT.out.c1
    obtain ⟨b0, b1, b2, b3, b4, b5, b6, b7, b8, b9, b10, b11⟩ := Av ((HT.out.grid.row t.m (by omega)).rd k hkt)
    rw [show tabF s (c l) t.m k = s.C (c l) k from if_neg (by have := hm.out; omega)] at b0 b1 b2 b3 b4 b5 b6 b7 b8 b9 b10 b11
    have hvw := hwd'.out.C (c l) hI.out k (by omega)
    obtain ⟨v, hv⟩ : ∃ v, v = s.C (c l) k := ⟨_, rfl⟩
    rw [← hv] at b0 b1 b2 b3 b4 b5 b6 b7 b8 b9 b10 b11 hvw
    have NG := fun W => ER hvw W
    replace hv := A8 hv
    by_cases hneg : v < 0
    ·rw [show decide (v < 0) = true by simp [hneg]] at NG
     have he : s.Enter (c l) k := ⟨hkn, by rw [← hv.out]; exact hneg, hfi.out⟩
     obtain ⟨i0, hi0, hp0⟩ := LnM.exists_pos he
     have hlL : l < L := by
      refine Nat.lt_of_not_le fun hle => ?_
      have e : l = L := by omega
      have := hend'.out k hkn
      rw [← e, ← hv.out] at this
      omega
     have hKk : Kc l = k := LnM.enter_unique (hch'.out.enter l hlL) he
     have hRr := hch'.out.leave l hlL
     rw [hKk] at hRr
     have hnx := hch'.out.next l hlL
     rw [hKk] at hnx
     replace hRr := A8 hRr
     replace hnx := A8 hnx
     replace hp0 := A8 hp0
     generalize wd v = f at *
     clear hneg hvw he hKk
     replace NG := A8 NG
     go_wp2_with fail
     refine Calls.mono (NG.out _) ?_
     rintro e w1 ⟨rfl, hb⟩
     have H1 := A8 (HT.out.below hb)
     have hB3 : Below base Wo w1 := (hB2.mono hbo).trans (hb.mono (Nat.le_trans hbo hB2.size))
     clear b0 b1 b2 b3 b4 b5 b6 b7 b8 b9 b10 b11 c1 NG hb
     go_wp2_with fail
     refine Calls.mono (LV.out (c l) k hI.out hkn (by omega) _ H1.out) ?_
     rintro e w2 ⟨⟨bz, rfl, hbz⟩, hb⟩
     have H2 := A8 (H1.out.below hb)
     have hB4 : Below base Wo w2 := hB3.trans (hb.mono (Nat.le_trans hbo hB3.size))
     clear hb
     rcases hbz with ⟨rfl, hno⟩ | ⟨r, rfl, hl⟩
     ·exact absurd hp0.out (Int.not_lt.2 (hno i0 hi0))
     have hle := LnM.leaveTo_all hl
     have hrr : Rc l = r := LnM.leave_unique hI.out hRr.out hle
     have PVr := A8 (PV.out (c l) r k hI.out hle hkn w2 H2.out (Nat.le_trans hbo hB4.size))
     rw [hrr] at hnx
     clear hl hle hrr
     go_wp2_with fail
     refine Calls.mono PVr.out ?_
     rintro e w3 ⟨rfl, H3, hb⟩
     rw [← hnx.out] at H3
     have hB5 : Below base w w3 := hB.trans (hB4.trans hb)
     clear hb
     go_wp2_with fail
     go_roundg (gk - 1)
     case rel => exact ⟨l + 1, by omega, A8 H3, hB5⟩
     case measure => omega
    ·rw [show decide (v < 0) = false by simp; omega] at NG
     have hfi2 := A8 (show ∀ j, j < k + 1 → 0 ≤ s.C (c l) j from fun j hj => by
      by_cases e : j = k
      ·subst e; rw [← hv.out]; omega
      ·exact hfi.out j (by omega))
     generalize wd v = f at *
     clear hneg hvw hfi
     replace NG := A8 NG
     go_wp2_with fail
     refine Calls.mono (NG.out _) ?_
     rintro e w1 ⟨rfl, hb⟩
     have hB3 : Below Wo.heap.size Wo w1 := hB2.trans (hb.mono hB2.size)
     clear b0 b1 b2 b3 b4 b5 b6 b7 b8 b9 b10 b11 c1 NG hb
     go_wp2_with fail
     go_roundw
     case rel => exact ⟨k + 1, by go_num, by omega, hfi2, hB3⟩
     case measure => simp [intOf]; omega
   ·have hkn' : ¬ (k : Int) < s.n := by omega
    obtain rfl : k = s.n := by omega
    have HT := A8 (hT.out.below hB2)
    have hB3 : Below base w wr := hB.trans (hB2.mono hbo)
    go_wp2
    exact bodyPost_ret (v := .tuple #[]) (by simp [results, Tryz.results38, go_sem]) rfl ⟨rfl, ⟨c l, hI.out, hfi.out, HT.out⟩, hB3⟩
end
section
open Go.RowKit
open LnM (wd upd sm)
attribute [local go_sem] Oper.semAt_some
abbrev I10 (z : Int) : ByteArray := ⟨(Lib.itoa z).toArray⟩
theorem Lb : I10 0 = ⟨#[48]⟩ := by unfold I10; rw [Ap (by decide), Aq (by decide)]; rfl
structure SysTx (s : LnM.Sys) : Prop where
 d : ∀ B, s.Inv B → LnM.Wide (s.d B) ∧ LnM.Wide (-(s.d B))
 T : ∀ B, s.Inv B → ∀ i, i < s.m → LnM.Wide (s.T B i (s.n + s.m)) ∧ LnM.Wide (-(s.T B i (s.n + s.m)))
 w : ∀ B, s.Inv B → ∀ i, i < s.m → LnM.Wide (s.w B i) ∧ LnM.Wide (-(s.w B i))
def numF (s : LnM.Sys) (B : Nat → Nat) (i k : Nat) : ByteArray := I10 (sm i (fun j => if B j = k then s.T B j (s.n + s.m) else 0))
theorem K9 (s : LnM.Sys) (B : Nat → Nat) (k : Nat) : numF s B 0 k = ⟨#[48]⟩ := Lb
theorem Lc {s : LnM.Sys} {B : Nat → Nat} (h : s.Inv B) {i : Nat} (hi : i < s.m) (k : Nat) : upd (numF s B i) (B i) (I10 (s.T B i (s.n + s.m))) k = numF s B (i + 1) k := by
 unfold upd numF
 show _ = I10 (sm i (fun j => if B j = k then s.T B j (s.n + s.m) else 0) + (if B i = k then s.T B i (s.n + s.m) else 0))
 by_cases e : k = B i
 ·rw [if_pos e, if_pos e.symm]
  rw [LnM.sm_zero (fun j hj => if_neg (fun e2 => by have := h.dist (by omega) hi (e2.trans e); omega)), Int.zero_add]
 ·rw [if_neg e, if_neg (Ne.symm e), Int.add_zero]
theorem Ka {s : LnM.Sys} {B : Nat → Nat} {i k : Nat} (h : B i ≠ k) : numF s B i k = numF s B (i + 1) k := by
 unfold numF
 show _ = I10 (sm i (fun j => if B j = k then s.T B j (s.n + s.m) else 0) + (if B i = k then s.T B i (s.n + s.m) else 0))
 rw [if_neg h, Int.add_zero]
theorem AF {cols : Int} {rows : List (List Int × Int)} (h : validL cols rows = true) : 0 ≤ cols ∧ cols ≤ 64 ∧ rows.length ≤ 18 ∧ ∀ r ∈ rows, (r.1.length : Int) = cols ∧ (∀ x ∈ r.1, -30000 ≤ x ∧ x ≤ 30000) ∧ -1000000000 ≤ r.2 ∧ r.2 ≤ 1000000000 := by
 unfold validL at h
 simp only [Bool.and_eq_true, decide_eq_true_eq, Bool.not_eq_true', List.any_eq_false] at h
 obtain ⟨⟨⟨h1, h2⟩, h3⟩, h4⟩ := h
 refine ⟨h1, h2, h3, fun r hr => ?_⟩
 have := h4 r hr
 unfold badE at this
 simp only [Bool.or_eq_true, Bool.not_eq_true', not_or, Bool.not_eq_false, beq_iff_eq, Bool.and_eq_true, decide_eq_true_eq, List.any_eq_true, not_exists, not_and] at this
 refine ⟨this.1.1, fun x hx => ?_, this.2⟩
 have h5 := this.1.2 x hx
 unfold largeB at h5
 simpa using h5
theorem CL {w W : World} {b : Nat} (h : Blk W b #[.bool false, .slice none 0 0, .string ⟨#[]⟩, .slice none 0 0] 38) (hb : w.heap.size ≤ b) (hW : Below w.heap.size w W) (a c d e : Value) :
  let V := (((W.setCell ⟨b, 0, none⟩ a).setCell ⟨b, 1, none⟩ c).setCell ⟨b, 2, none⟩ d).setCell ⟨b, 3, none⟩ e
  (V.cell? ⟨b, 0, none⟩ = some a ∧ V.cell? ⟨b, 1, none⟩ = some c ∧ V.cell? ⟨b, 2, none⟩ = some d ∧ V.cell? ⟨b, 3, none⟩ = some e) ∧ Below w.heap.size w V ∧ Only [b] W V := by
 have hB := (((h.set 0 a).set 1 c).set 2 d).set 3 e
 have hon : Only [b] W ((((W.setCell ⟨b, 0, none⟩ a).setCell ⟨b, 1, none⟩ c).setCell ⟨b, 2, none⟩ d).setCell ⟨b, 3, none⟩ e) := ((((Only.refl [b] W).setCell (p := ⟨b, 0, none⟩) (by simp) _).setCell (p := ⟨b, 1, none⟩) (by simp) _).setCell (p := ⟨b, 2, none⟩) (by simp) _).setCell (p := ⟨b, 3, none⟩) (by simp) _
 exact ⟨⟨hB.cell 0, hB.cell 1, hB.cell 2, hB.cell 3⟩, hW.trans (hon.toBelow hW.size (by intro x hx; rw [List.mem_singleton.1 hx]; exact hb)), hon⟩
theorem Kd (cols : Int) (v : Value) (rows : List (List Int × Int)) (w : World) (h : SlE w v rows) (hv : validL cols rows = false) :
  Calls Tryz.prog 14 #[.agg #[.int .i64 cols, v]] w (Rets w (.tuple #[.agg #[.bool false, .slice none 0 0, .string ⟨#[]⟩, .slice none 0 0], .int .i64 60])) := by
 obtain ⟨a, cap, rfl⟩ := h.shape
 have H := A8 h
 have VA := A8 (fun W (hW : SlE W (.slice a rows.length cap) rows) => BF cols _ rows W hW)
 rw [hv] at VA
 clear h hv
 generalize rows.length = n at *
 obtain ⟨V1, e1, S1, z1⟩ := (BL.start w).add' #[.int .i64 cols, .slice a n cap] 27
 obtain ⟨V2, e2, hS, z2⟩ := S1.add' #[.bool false, .slice none 0 0, .string ⟨#[]⟩, .slice none 0 0] 38
 rw [z1] at hS
 have hV : V2 = (w.alloc (.cells #[.int .i64 cols, .slice a n cap] 27)).alloc (.cells #[.bool false, .slice none 0 0, .string ⟨#[]⟩, .slice none 0 0] 38) := by rw [e2, e1]
 have zz := A8 (show V2.heap.size = w.heap.size + 2 by rw [z2, z1])
 clear e1 e2 S1 z1 z2
 obtain ⟨x0, x1⟩ := hS.c2 w.heap.size _ _ _ (.tail _ (.head _))
 go_enter Tryz.func14, Tryz.ntmps14
 go_upto_region 1 with fail
 rw [← hV]
 clear hV
 go_wp2_with fail
 refine Calls.mono (VA.out _ (H.out.below hS.below)) ?_
 rintro e w1 ⟨rfl, hb⟩
 replace hS := hS.call hb
 have hsv := A8 hb.size
 clear x0 x1 hb
 obtain ⟨y0, y1, y2, y3⟩ := hS.c4 (w.heap.size + 1) _ _ _ _ _ (.head _)
 have hB := hS.blks _ (.head _)
 have f0 := hB.frozen 0
 have f1 := hB.frozen 1
 have f2 := hB.frozen 2
 have f3 := hB.frozen 3
 obtain ⟨⟨k0, k1, k2, k3⟩, hfin, -⟩ := CL hB (Nat.le_succ _) hS.below (.bool false) (.slice none 0 0) (.string ⟨#[]⟩) (.slice none 0 0)
 have hfin := A8 hfin
 clear hS hB
 dsimp only at f0 f1 f2 f3 k0 k1 k2 k3
 go_wp2
 exact bodyPost_ret (v := .tuple #[.agg #[.bool false, .slice none 0 0, .string ⟨#[]⟩, .slice none 0 0], .int .i64 60]) (by simp [results, Tryz.results14, go_sem, k0, k1, k2, k3]) rfl ⟨rfl, hfin.out⟩
theorem Ld (cols : Nat) (v : Value) (rows : List (List Int × Int)) (w : World) (hE : Env w) (h : SlE w v rows) (hv : validL cols rows = true) (hwd : SysWd (sysOf cols rows)) (htx : SysTx (sysOf cols rows)) :
   Calls Tryz.prog 14 #[.agg #[.int .i64 cols, v]] w fun e w' => ∃ B, (sysOf cols rows).Inv B ∧ (∀ k, k < cols → 0 ≤ (sysOf cols rows).C B k) ∧ Below w.heap.size w w' ∧
     (((sysOf cols rows).C B (cols + rows.length) = 0 ∧ ∃ nv, e = .returned (.tuple #[.agg #[.bool true, nv, .string (I10 ((sysOf cols rows).d B)), .slice none 0 0], .int .i64 0]) ∧ SlS w' nv ((List.range cols).map fun k => I10 ((sysOf cols rows).x B k))) ∨
      ((sysOf cols rows).C B (cols + rows.length) ≠ 0 ∧ ∃ wv, e = .returned (.tuple #[.agg #[.bool false, .slice none 0 0, .string ⟨#[]⟩, wv], .int .i64 0]) ∧ SlS w' wv ((List.range rows.length).map fun i => I10 (sgnOf rows i * (sysOf cols rows).w B i)))) := by
 obtain ⟨p1, p2, p3, p4⟩ := AF hv
 obtain ⟨a, cap, rfl⟩ := h.shape
 have H := A8 h
 have VA := A8 (fun W (hW : SlE W (.slice a rows.length cap) rows) => BF cols _ rows W hW)
 rw [hv] at VA
 have OP := A8 (fun W (hW : SlE W (.slice a rows.length cap) rows) => La cols rows _ W hW (by omega) (by omega) (fun r hr => by have := (p4 r hr).1; omega) (fun r hr => ⟨fun x hx => by have := (p4 r hr).2.1 x hx; omega, (p4 r hr).2.2⟩))
 have ok := II cols rows
 obtain ⟨s, hs⟩ : ∃ s, s = sysOf cols rows := ⟨_, rfl⟩
 have hsn : s.n = cols := by rw [hs]; rfl
 have hsm : s.m = rows.length := by rw [hs]; rfl
 rw [← hs] at OP ok hwd htx ⊢
 have hsg := A8 (fun i => DA rows i)
 generalize sgnOf rows = sg at *
 generalize rows.length = n at *
 have c64 : cols ≤ 64 := by omega
 replace ok := A8 ok
 replace hwd := A8 hwd
 replace htx := A8 htx
 replace hsn := A8 hsn
 replace hsm := A8 hsm
 replace hE := A8 hE
 clear h hv p1 p2 p4 hs
 obtain ⟨V1, e1, S1, z1⟩ := (BL.start w).add' #[.int .i64 cols, .slice a n cap] 27
 obtain ⟨V2, e2, hS, z2⟩ := S1.add' #[.bool false, .slice none 0 0, .string ⟨#[]⟩, .slice none 0 0] 38
 rw [z1] at hS
 have hV : V2 = (w.alloc (.cells #[.int .i64 cols, .slice a n cap] 27)).alloc (.cells #[.bool false, .slice none 0 0, .string ⟨#[]⟩, .slice none 0 0] 38) := by rw [e2, e1]
 have zz := A8 (show V2.heap.size = w.heap.size + 2 by rw [z2, z1])
 clear e1 e2 S1 z1 z2
 obtain ⟨x0, x1⟩ := hS.c2 w.heap.size _ _ _ (.tail _ (.head _))
 go_enter Tryz.func14, Tryz.ntmps14
 go_upto_region 1 with fail
 rw [← hV]
 clear hV
 go_wp2_with fail
 refine Calls.mono (VA.out _ (H.out.below hS.below)) ?_
 rintro e w1 ⟨rfl, hb⟩
 replace hS := hS.call hb
 have hsv := A8 hb.size
 clear x0 x1 hb
 obtain ⟨x0, x1⟩ := hS.c2 w.heap.size _ _ _ (.tail _ (.head _))
 go_wp2_with fail
 refine Calls.mono (OP.out _ (H.out.below hS.below)) ?_
 rintro e w2 ⟨t, rfl, t1, t2, t3, t4, t5, hb2⟩
 clear x0 x1
 replace t1 := A8 t1
 replace t2 := A8 t2
 replace t3 := A8 t3
 replace t4 := A8 t4
 replace t5 := A8 t5
 go_wp2_with fail
 refine Calls.mono (run_any t w1.heap.size s hwd.out s.B0 sg (LnM.inv_B0 ok.out) (by rw [t1.out, hsm.out]) (by rw [t2.out, hsn.out, hsm.out]) (by rw [t3.out, hsn.out]) t4.out (by rw [t1.out]; omega) (by rw [t2.out]; omega) w2 (by rw [LnM.d_B0 ok.out]; exact t5.out) hb2.size) ?_
 rintro e w3 ⟨rfl, ⟨B, hI, hfe, hT⟩, hb3⟩
 replace hS := hS.call (hb2.trans hb3)
 have hszw : w1.heap.size ≤ w3.heap.size := Nat.le_trans hb2.size hb3.size
 have hsz1 : w.heap.size + 2 ≤ w1.heap.size := by rw [← zz.out]; exact hsv.out
 replace hT := A8 hT
 replace hI := A8 hI
 replace hfe := A8 hfe
 clear t5 hb2 hb3 H VA OP
 have hms : t.m = s.m := by rw [t1.out, hsm.out]
 have hns : t.n = s.n + s.m + 1 := by rw [t2.out, hsn.out, hsm.out]
 have hks : t.k = s.n := by rw [t3.out, hsn.out]
 have htm1 : t.m ≤ 18 := by rw [t1.out]; exact p3
 have htk1 : t.k ≤ 64 := by rw [t3.out]; exact c64
 have htn1 : t.n ≤ 1000 := by rw [t2.out]; omega
 obtain ⟨la, hla⟩ : ∃ la, la = s.n + s.m := ⟨_, rfl⟩
 have hlan : la < t.n := by omega
 have hla' : (la : Int) < t.n := by omega
 have hla0 : (0 : Int) ≤ la := by omega
 have hw1 : IntKind.i64.wrap ((t.n : Int) - 1) = la := by rw [IntWalk.i64_in _ (by omega)]; omega
 have hcw := hwd.out.C B hI.out la (by omega)
 have hlac : la = cols + n := by rw [hla, hsn.out, hsm.out]
 have hFc : ∀ j, tabF s B t.m j = s.C B j := fun j => by unfold tabF; rw [if_neg (by omega)]
 have hFr : ∀ i, i < t.m → ∀ j, tabF s B i j = s.T B i j := fun i hi j => by unfold tabF; rw [if_pos (by omega)]
 have c1 := hT.out.c1
 obtain ⟨b0, b1, b2, b3, b4, b5, b6, b7, b8, b9, b10, b11⟩ := Av ((hT.out.grid.row t.m (by omega)).rd la hlan)
 rw [hFc la] at b0 b1 b2 b3 b4 b5 b6 b7 b8 b9 b10 b11
 obtain ⟨z, hz⟩ : ∃ z, z = s.C B la := ⟨_, rfl⟩
 rw [← hz] at b0 b1 b2 b3 b4 b5 b6 b7 b8 b9 b10 b11 hcw
 have EQ := fun W => AP hcw (b := decide (z = 0)) rfl W
 obtain ⟨fz, hfz⟩ : ∃ f, f = wd z := ⟨_, rfl⟩
 rw [← hfz] at b0 b1 b2 b3 b4 b5 b6 b7 b8 b9 b10 b11 EQ
 dsimp only [wc] at EQ
 replace hz := A8 hz
 replace hla := A8 hla
 replace hlac := A8 hlac
 replace hns := A8 hns
 replace hms := A8 hms
 replace hks := A8 hks
 replace hFc := A8 hFc
 replace hFr := A8 hFr
 have tbl3 : t.tb < w3.heap.size := hT.out.lt
 clear hcw hfz
 by_cases hz0 : z = 0
 case neg =>
   rw [show decide (z = 0) = false by simp [hz0]] at EQ
   have hm0 : 0 < t.m := by
     refine Nat.pos_of_ne_zero fun e => hz0 ?_
     have e2 : s.m = 0 := by rw [← hms.out]; exact e
     rw [hz.out, hla.out, LnM.C_val, e2]; rfl
   have hm0' : ¬ (t.m : Int) = 0 := by omega
   go_upto_region 7 with fail
   clear b0 b1 b2 b3 b4 b5 b6 b7 b8 b9 b10 b11 c1 EQ
   replace hz0 := A8 hz0
   go_upto_region 8 with fail
   obtain ⟨X, hX⟩ : ∃ X, X = w3.heap.size := ⟨_, rfl⟩
   obtain ⟨W4, hW4, S4, z4⟩ := (BL.start w3).add' #[.bool false, .slice none 0 0, .string ⟨#[]⟩, .slice none 0 0] 38
   rw [← hW4]
   rw [← hX] at S4 ⊢
   have c3 : W4.cell? ⟨t.tb, 3, none⟩ = some (sl t.m t.sb t.cs) := (hT.out.below S4.below).c3
   rw [BH hm0] at c3
   have hb4 := S4.below
   have kX := A8 (S4.blks _ (.head _))
   have hX' := A8 hX
   have hX1 : w1.heap.size ≤ X := by omega
   clear hW4 S4 hX
   go_wp2_with fail
   clear c3
   go_loopw [41] (fun o wr => ∃ (i : Nat) (wv : Value), o = .int .i64 i ∧ i ≤ t.m ∧ Hid (Below w3.heap.size w3 wr) ∧ Hid (Blk wr X #[.bool false, .slice none 0 0, .string ⟨#[]⟩, wv] 38) ∧ Hid (wr.ownsRow w3.heap.size 9 1 wv i ((List.range i).map fun j => .string (I10 (sg j * s.w B j))))) (fun o _ => t.m - (intOf o).toNat)
   case atStart => exact ⟨0, _, rfl, by omega, A8 hb4, kX, A8 (World.ownsRow_nil _ _ _ _)⟩
   case round =>
     clear hb4 kX z4
     obtain ⟨i, wv, rfl, him, hB, kX, own⟩ := hrel
     by_cases hi : i < t.m
     case pos =>
       have hi' : (i : Int) < t.m := by omega
       have hi0 : (0 : Int) ≤ i := by omega
       have hTr := A8 (hT.out.below hB.out)
       have y0 := hTr.out.sgn i hi
       obtain ⟨si, hsi⟩ : ∃ si, si = sg i := ⟨_, rfl⟩
       rw [← hsi] at y0
       have hsgi := hsg.out i
       rw [← hsi] at hsgi
       replace hsi := A8 hsi
       go_upto_region 11 with fail
       clear y0
       refine K4 (i := i) (q := cols + i) hTr (by rw [hks.out, hsn.out, IntWalk.i64_in _ (by omega)]; omega) (by rw [hns.out, hsn.out, ← hms.out]; omega) (by have : cols + i < t.n := (by rw [hns.out, hsn.out, ← hms.out]; omega); omega) (by omega) (by kernel_rfl) ?_
       intro v46 v47 v48 v49 v50 v51 v52 v53 v54 v55 v56 v57 v58 v59 v60 v61 v62 g W5 hb5 kG hgw
       have kX5 := A8 (kX.out.below hb5)
       have own5 := A8 (As own.out hb5)
       have hB5 := A8 (hB.out.trans (hb5.mono hB.out.size))
       have hwt := htx.out.w B hI.out i (by rw [← hms.out]; exact hi)
       have hD : Hid (tabF s B t.m (cols + i) - s.d B = s.w B i) := A8 (by rw [hFc.out]; unfold LnM.Sys.w; rw [hsn.out])
       obtain ⟨D, hDD⟩ : ∃ D, D = tabF s B t.m (cols + i) - s.d B := ⟨_, rfl⟩
       rw [← hDD] at kG
       rw [← hDD] at hD
       clear hDD hb5
       have hsz5 : w3.heap.size ≤ W5.heap.size := hB5.out.size
       have hX5 : w3.heap.size ≤ X := by rw [hX'.out]; exact Aa _
       have hgw3 : w3.heap.size ≤ g := Nat.le_trans hB.out.size hgw
       have hBw5 := A8 (hS.below.trans (hB5.out.mono hS.below.size))
       rcases hsgi with e1 | e1
       · rw [e1]
         have he : Hid (s.w B i = sg i * s.w B i) := A8 (by rw [← hsi.out, e1, Int.one_mul])
         clear e1
         go_upto_region 14 with fail
         refine FD (base := w3.heap.size) (z := D) (w0 := w) hE (A8 ⟨hBw5.out, hS.below.size, hsz5, hX5⟩) (A8 (by rw [hD.out]; exact hwt)) (by have := t1.out; omega) kX5 (A8 kG) own5 (by kernel_rfl) ?_
         intro v68 v69 v70 v71 v72 v73 v74 ga cap W6 hO6 kX6 own6
         have hB6 := A8 (hB5.out.trans (hO6.toBelow hsz5 (by
           intro k hk
           rcases List.mem_cons.1 hk with rfl | hk
           · exact hX5
           · exact (own5.out.lt k (by simpa using hk)).1)))
         have own7 : Hid (W6.ownsRow w3.heap.size 9 1 (.slice (some ⟨ga, 0, none⟩) (i + 1) cap) (i + 1) ((List.range (i + 1)).map fun j => .string (I10 (sg j * s.w B j)))) := A8 (by
           rw [List.range_succ, List.map_append]
           show W6.ownsRow _ _ 1 _ _ (_ ++ [Value.string (I10 (sg i * s.w B i))])
           rw [← he.out, ← hD.out]; exact own6)
         replace kX6 := A8 kX6
         clear hO6 own6 kG
         go_wp2_with fail
         go_roundw
         case rel => exact ⟨i + 1, _, by go_num, by omega, hB6, kX6, own7⟩
         case measure => simp [intOf]; omega
       · rw [e1]
         have he : Hid (-(s.w B i) = sg i * s.w B i) := A8 (by rw [← hsi.out, e1]; omega)
         clear e1
         obtain ⟨E, hEE⟩ : ∃ E, E = 0 - D := ⟨_, rfl⟩
         have MI := A8 (fun W => (by have := Bh 0 D W; rw [← hEE] at this; rwa [show wc (wd 0) = wc (fun _ => 0) from Ax fun i _ => LnM.wd_zero i] at this : Calls Tryz.prog 39 #[.agg (wc (fun _ => 0)), .agg (wc (wd D))] W (Rets W (.agg (wc (wd E))))))
         replace hEE := A8 hEE
         obtain ⟨y0, y1, y2, y3, y4, y5, y6, y7, y8, y9, y10, y11⟩ := Am kG
         go_wp2_with fail
         refine Calls.mono (MI.out _) ?_
         rintro e w6 ⟨rfl, hb6⟩
         clear y0 y1 y2 y3 y4 y5 y6 y7 y8 y9 y10 y11
         replace kG := kG.below hb6
         replace kX5 := A8 (kX5.out.below hb6)
         replace own5 := A8 (As own5.out hb6)
         replace hB5 := A8 (hB5.out.trans (hb6.mono hsz5))
         replace hBw5 := A8 (hS.below.trans (hB5.out.mono hS.below.size))
         replace hsz5 : w3.heap.size ≤ w6.heap.size := hB5.out.size
         clear hb6
         obtain ⟨y0, y1, y2, y3, y4, y5, y6, y7, y8, y9, y10, y11⟩ := Am kG
         obtain ⟨q0, q1, q2, q3, q4, q5, q6, q7, q8, q9, q10, q11⟩ := B4 kG
         go_upto_region 14 with fail
         clear y0 y1 y2 y3 y4 y5 y6 y7 y8 y9 y10 y11 q0 q1 q2 q3 q4 q5 q6 q7 q8 q9 q10 q11
         have kG7 := AX (f := wd E) kG
         have hO7 : Only [g] w6 (st12 w6 g (wd E)) := by rw [← Cs]; exact Ah _ _ _
         obtain ⟨W7, hW7⟩ : ∃ W7, W7 = st12 w6 g (wd E) := ⟨_, rfl⟩
         rw [← hW7] at kG7 hO7
         rw [show ((((((((((((w6.setCell ⟨g, 0, none⟩ (.int .u64 (wd E 0))).setCell ⟨g, 1, none⟩ (.int .u64 (wd E 1))).setCell ⟨g, 2, none⟩ (.int .u64 (wd E 2))).setCell ⟨g, 3, none⟩ (.int .u64 (wd E 3))).setCell ⟨g, 4, none⟩ (.int .u64 (wd E 4))).setCell ⟨g, 5, none⟩ (.int .u64 (wd E 5))).setCell ⟨g, 6, none⟩ (.int .u64 (wd E 6))).setCell ⟨g, 7, none⟩ (.int .u64 (wd E 7))).setCell ⟨g, 8, none⟩ (.int .u64 (wd E 8))).setCell ⟨g, 9, none⟩ (.int .u64 (wd E 9))).setCell ⟨g, 10, none⟩ (.int .u64 (wd E 10))).setCell ⟨g, 11, none⟩ (.int .u64 (wd E 11))) = W7 from hW7.symm]
         clear hW7
         have gne : X ≠ g := fun e => by
           have h1 := kX5.out
           rw [e] at h1
           have := h1.symm.trans kG
           simp at this
         have kX7 := A8 ((hO7.block X kX5.out.lt (by simpa using gne)).trans kX5.out : Blk W7 X #[.bool false, .slice none 0 0, .string ⟨#[]⟩, wv] 38)
         have own7 := A8 (Cv own5.out hO7 (fun b e hb => by rw [List.mem_singleton.1 hb] at e; exact kG.not_row (by decide) own5.out e.symm))
         have hB7 := A8 (hB5.out.trans (hO7.toBelow hsz5 (by intro x hx; rw [List.mem_singleton.1 hx]; exact hgw3)))
         have hBw7 := A8 (hS.below.trans (hB7.out.mono hS.below.size))
         have hsz7 : w3.heap.size ≤ W7.heap.size := hB7.out.size
         clear hO7 kG kX5 own5 hB5 hBw5 hsz5
         refine FD (base := w3.heap.size) (z := E) (w0 := w) hE (A8 ⟨hBw7.out, hS.below.size, hsz7, hX5⟩) (A8 (by rw [hEE.out, hD.out, Int.zero_sub, Int.neg_neg]; exact ⟨hwt.2, hwt.1⟩)) (by have := t1.out; omega) kX7 (A8 kG7) own7 (by kernel_rfl) ?_
         intro v68 v69 v70 v71 v72 v73 v74 ga cap W8 hO8 kX8 own8
         have hB8 := A8 (hB7.out.trans (hO8.toBelow hsz7 (by
           intro k hk
           rcases List.mem_cons.1 hk with rfl | hk
           · exact hX5
           · exact (own7.out.lt k (by simpa using hk)).1)))
         have own9 : Hid (W8.ownsRow w3.heap.size 9 1 (.slice (some ⟨ga, 0, none⟩) (i + 1) cap) (i + 1) ((List.range (i + 1)).map fun j => .string (I10 (sg j * s.w B j)))) := A8 (by
           rw [List.range_succ, List.map_append]
           show W8.ownsRow _ _ 1 _ _ (_ ++ [Value.string (I10 (sg i * s.w B i))])
           rw [← he.out, ← hD.out, ← Int.zero_sub, ← hEE.out]; exact own8)
         replace kX8 := A8 kX8
         clear hO8 own8 kG7
         go_wp2_with fail
         go_roundw
         case rel => exact ⟨i + 1, _, by go_num, by omega, hB8, kX8, own9⟩
         case measure => simp [intOf]; omega
     case neg =>
       have hi' : ¬ (i : Int) < t.m := by omega
       obtain rfl : i = t.m := by omega
       have hBl := A8 (hS.below.trans (hB.out.mono hS.below.size))
       have hBr := (hS.blks _ (.head _)).below (hB.out.mono (Aa _))
       obtain ⟨ga, cap, rfl⟩ : ∃ ga cap, wv = .slice (some ⟨ga, 0, none⟩) t.m cap := by
         rcases own.out.2 with ⟨e, h0⟩ | ⟨g, cp, cur, e, -⟩
         · omega
         · exact ⟨g, cp, e⟩
       obtain ⟨y0, y1, y2, y3⟩ := (⟨kX.out.cell 0, kX.out.cell 1, kX.out.cell 2, kX.out.cell 3⟩ : _ ∧ _ ∧ _ ∧ _)
       obtain ⟨q0, q1, q2, q3⟩ := (⟨hBr.cell 0, hBr.cell 1, hBr.cell 2, hBr.cell 3⟩ : _ ∧ _ ∧ _ ∧ _)
       have f0 := hBr.frozen 0
       have f1 := hBr.frozen 1
       have f2 := hBr.frozen 2
       have f3 := hBr.frozen 3
       obtain ⟨⟨k0, k1, k2, k3⟩, hfin, hon⟩ := CL hBr (Nat.le_succ _) hBl.out (.bool false) (.slice none 0 0) (.string ⟨#[]⟩) (.slice (some ⟨ga, 0, none⟩) t.m cap)
       have ownf := Cv own.out hon (fun b e hb => by
         have h1 := (own.out.lt b e).1
         have h2 := List.mem_singleton.1 hb
         dsimp only at h2
         omega)
       have hsl : Hid (SlS _ (.slice (some ⟨ga, 0, none⟩) t.m cap) ((List.range t.m).map fun j => I10 (sg j * s.w B j))) := A8 (SlS.of_own (by rw [List.map_map]; exact ownf))
       have hfin := A8 hfin
       clear hBr kX own hon ownf
       dsimp only at f0 f1 f2 f3 k0 k1 k2 k3 q0 q1 q2 q3
       go_wp2
       exact bodyPost_ret (v := .tuple #[.agg #[.bool false, .slice none 0 0, .string ⟨#[]⟩, .slice (some ⟨ga, 0, none⟩) t.m cap], .int .i64 0]) (by simp [results, Tryz.results14, go_sem, k0, k1, k2, k3]) rfl
         ⟨B, hI.out, fun k hk => hfe.out k (by rw [hsn.out]; exact hk), hfin.out, .inr ⟨by rw [← hlac.out, ← hz.out]; exact hz0.out, _, rfl, by rw [← t1.out]; exact hsl.out⟩⟩
 case pos =>
   rw [show decide (z = 0) = true by simp [hz0]] at EQ
   replace hz0 := A8 hz0
   go_upto_region 17 with fail
   clear b0 b1 b2 b3 b4 b5 b6 b7 b8 b9 b10 b11 c1 EQ
   refine K5 (w0 := w) hE (A8 hS.below) hT (A8 (htx.out.d B hI.out)) (by omega) (by kernel_rfl) ?_
   intro v77 v78 v79 v80 v81 v82 v83 v84 v85 v86 v87 v88 v89 ga gb W4 hb4 hN kA hga hgb
   have hT4 := A8 (hT.out.below hb4)
   obtain ⟨ao, cc, hsl⟩ : ∃ ao cc, sl t.m t.bb t.cb = .slice ao t.m cc := ⟨_, _, rfl⟩
   have c2 := hT4.out.c2
   rw [hsl] at c2
   obtain ⟨S, hSm, hSg⟩ : ∃ S : List Nat, (∀ x ∈ S, x = gb ∧ 0 < t.k) ∧ (0 < t.k → S = [gb]) := by
     by_cases h0 : 0 < t.k
     · exact ⟨[gb], fun x hx => ⟨List.mem_singleton.1 hx, h0⟩, fun _ => rfl⟩
     · exact ⟨[], fun x hx => (by cases hx), fun h => absurd h h0⟩
   have hne : 0 < t.k → ga ≠ gb := fun hk0 e => by
     have := (hN.cell 0 hk0).1
     rw [← e, kA.cell] at this; simp at this
   have N0 := A8 (hN.congr (g := numF s B 0) (fun j _ => (K9 s B j).symm))
   replace kA := A8 kA
   replace hsl := A8 hsl
   replace hSm := A8 hSm
   replace hSg := A8 hSg
   replace hne := A8 hne
   replace hb4 := A8 hb4
   clear hN
   go_wp2_with fail
   clear c2
   go_loopw [95] (fun o wr => ∃ i : Nat, o = .int .i64 i ∧ i ≤ t.m ∧ Hid (Only S W4 wr) ∧ Hid (StrAt wr gb t.k (numF s B i))) (fun o _ => t.m - (intOf o).toNat)
   case atStart => exact ⟨0, rfl, by omega, A8 (Only.refl _ _), N0⟩
   case round =>
     clear N0
     obtain ⟨i, rfl, him, hO, hN⟩ := hrel
     have hBr := A8 (hb4.out.trans (hO.out.toBelow hb4.out.size (by intro x hx; rw [(hSm.out x hx).1]; exact hgb)))
     by_cases hi : i < t.m
     case pos =>
       have hi' : (i : Int) < t.m := by omega
       have hi0 : (0 : Int) ≤ i := by omega
       have hm0 : 0 < t.m := by omega
       have hsl' := hsl.out
       rw [BH hm0] at hsl'
       cases hsl'
       have hTr := A8 (hT.out.below hBr.out)
       have y0 := (hTr.out.bas i hi).1
       have y1 := hTr.out.c16
       obtain ⟨q, hq⟩ : ∃ q, q = B i := ⟨_, rfl⟩
       rw [← hq] at y0
       replace hq := A8 hq
       by_cases hqk : q < t.k
       · have hqk' : (q : Int) < t.k := by omega
         have gbl : w3.heap.size ≤ gb := hgb
         go_upto_region 22 with fail
         clear y0 y1
         refine K6 (w0 := w) (la := la) hE (A8 ⟨hS.below.trans (hBr.out.mono hS.below.size), Nat.le_trans hS.below.size hgb⟩) hTr hi hi' hi0 hlan hla' hla0 hqk hqk' (by omega) (A8 (by rw [hFr.out i hi, hla.out]; exact htx.out.T B hI.out i (by rw [← hms.out]; exact hi))) (A8 ⟨A9 kA.out.lt hO.out.size, (hO.out.cell (p := ⟨ga, 1, none⟩) kA.out.lt (fun hx => hne.out (by omega) (hSm.out _ hx).1)).trans (kA.out.cell 1), hne.out (by omega)⟩) hN (A8 ⟨by have := hT.out.lt; omega, by have := hT.out.lx hm0; omega, by have := (hT.out.grid.row i (by omega)).lt; omega⟩) hm0 (by kernel_rfl) ?_
         intro v106 v107 v108 v109 v110 v111 v112 v113 v114 v115 v116 v117 v118 v119 v120 v121 W5 hO5 hN5
         have hO6 := A8 (hO.out.trans (by rw [hSg.out (by omega)]; exact hO5))
         have hN6 := A8 (hN5.congr (g := numF s B (i + 1)) (fun j _ => by rw [hFr.out i hi, hla.out, hq.out]; exact Lc hI.out (by rw [← hms.out]; exact hi) j))
         clear hO5 hN5
         go_wp2_with fail
         go_roundw
         case rel => exact ⟨i + 1, by go_num, by omega, hO6, hN6⟩
         case measure => simp [intOf]; omega
       · have hqk' : ¬ (q : Int) < t.k := by omega
         have hN6 := A8 (hN.out.congr (g := numF s B (i + 1)) (fun j hj => Ka (by rw [← hq.out]; omega)))
         go_wp2_with fail
         go_roundw
         case rel => exact ⟨i + 1, by go_num, by omega, hO, hN6⟩
         case measure => simp [intOf]; omega
     case neg =>
       have hi' : ¬ (i : Int) < t.m := by omega
       obtain rfl : i = t.m := by omega
       have hBl := A8 (hS.below.trans (hBr.out.mono hS.below.size))
       have hBz := (hS.blks _ (.head _)).below (hBr.out.mono (Aa _))
       have kAr : Blk wr ga #[.bool true, .slice (some ⟨gb, 0, none⟩) t.k t.k, .string (I10 (s.d B)), .slice none 0 0] 38 := (hO.out.block ga kA.out.lt (fun hx => hne.out (hSm.out _ hx).2 (hSm.out _ hx).1)).trans kA.out
       obtain ⟨y0, y1, y2, y3⟩ := (⟨kAr.cell 0, kAr.cell 1, kAr.cell 2, kAr.cell 3⟩ : _ ∧ _ ∧ _ ∧ _)
       obtain ⟨q0, q1, q2, q3⟩ := (⟨hBz.cell 0, hBz.cell 1, hBz.cell 2, hBz.cell 3⟩ : _ ∧ _ ∧ _ ∧ _)
       have f0 := hBz.frozen 0
       have f1 := hBz.frozen 1
       have f2 := hBz.frozen 2
       have f3 := hBz.frozen 3
       obtain ⟨⟨k0, k1, k2, k3⟩, hfin, hon⟩ := CL hBz (Nat.le_succ _) hBl.out (.bool true) (.slice (some ⟨gb, 0, none⟩) t.k t.k) (.string (I10 (s.d B))) (.slice none 0 0)
       have Nf := hN.out.only hon (by intro e; have := List.mem_singleton.1 e; dsimp only at this; omega)
       have hsf : Hid (SlS _ (.slice (some ⟨gb, 0, none⟩) t.k t.k) ((List.range t.k).map (numF s B t.m))) := A8 (Nf.sl (by unfold maxLen; omega))
       have hfin := A8 hfin
       clear hBz kAr hon Nf
       dsimp only at f0 f1 f2 f3 k0 k1 k2 k3 q0 q1 q2 q3 y0 y1 y2 y3
       go_wp2
       exact bodyPost_ret (v := .tuple #[.agg #[.bool true, .slice (some ⟨gb, 0, none⟩) t.k t.k, .string (I10 (s.d B)), .slice none 0 0], .int .i64 0]) (by simp [results, Tryz.results14, go_sem, k0, k1, k2, k3]) rfl
         ⟨B, hI.out, fun k hk => hfe.out k (by rw [hsn.out]; exact hk), hfin.out, .inl ⟨by rw [← hlac.out, ← hz.out]; exact hz0.out, _, rfl, by
           have e : numF s B t.m = fun k => I10 (s.x B k) := by funext k; unfold numF LnM.Sys.x; rw [hms.out]
           rw [← t3.out, ← e]; exact hsf.out⟩⟩
end
end Go.Proofs.YtcmomjnailihpaaGreatDoor
