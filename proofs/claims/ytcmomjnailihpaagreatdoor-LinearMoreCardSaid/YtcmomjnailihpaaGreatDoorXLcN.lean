/- LcN, SvF, LqA, OrP, MoP, Mem, SnA, MemA, Eqs, MemB, MdA, MdB -/
import Derived.Test.YtcmomjnailihpaaGreatDoorXLcG
import Derived.Deep.Upon
set_option maxHeartbeats 8000000
set_option maxRecDepth 100000
namespace Go.Proofs.YtcmomjnailihpaaGreatDoor
section
open Go.RowKit
attribute [local go_sem] Oper.semAt_some
def mixR (x : MixA) : List ByteArray × ByteArray × Int := if mixB x = true then ((List.range x.na.length).map (fun j => I (x.quo (j + 1))), I (x.quo 0), 0) else ([], ⟨#[]⟩, 60)
def MixP (x : MixA) (w : World) (e : Ending) (w' : World) : Prop := Below w.heap.size w w' ∧ ∃ v, SlS w' v (mixR x).1 ∧ e = .returned (.tuple #[.agg #[v, .string (mixR x).2.1], .int .i64 (mixR x).2.2])
theorem MixP.bad {x : MixA} {w w' : World} (h : mixB x = false) (hb : Below w.heap.size w w') : MixP x w (.returned (.tuple #[.agg #[.slice none 0 0, .string ⟨#[]⟩], .int .i64 60])) w' := by
 refine ⟨hb, .slice none 0 0, ?_, ?_⟩
 ·unfold mixR; rw [h]; exact .inl ⟨rfl, rfl⟩
 ·unfold mixR; rw [h]; rfl
theorem MixA.gcd_pos (x : MixA) (h : x.num 0 ≠ 0) : ∀ k, 0 < x.gcd (k + 1)
 | 0 => by
  show 0 < gcdZ 0 (x.num 0)
  unfold gcdZ; rw [Int.zero_gcd]; omega
 | k + 1 => by
  show 0 < gcdZ (x.gcd (k + 1)) (x.num (k + 1))
  have h1 := x.gcd_pos h k
  have : Int.gcd (x.gcd (k + 1)) (x.num (k + 1)) ≠ 0 := fun e => by rw [Int.gcd_eq_zero_iff] at e; omega
  unfold gcdZ; omega
theorem MixA.gcd_small (x : MixA) {m : Nat} (h : ∀ j, j < m → Small (x.num j)) : ∀ {k : Nat}, k ≤ m → Small (x.gcd k)
 | 0, _ => EM
 | k + 1, hk => IC (x.gcd_small h (by omega)) (h k (by omega))
theorem numB_I {z : Int} (h : Small z) : numB (I z) = decide (Bd 100 z) := by unfold numB; rw [BT h, C6, Bool.true_and]
def MixA.row (x : MixA) (i j : Nat) : ByteArray := if j < i then I (x.quo j) else I (x.num j)
theorem MixA.row_open (x : MixA) {n base g c : Nat} {W : World} (hf : x.flag n = true) (h : W.ownsRow base 9 1 (.slice (some ⟨g, 0, none⟩) (n + 1) c) (n + 1) ((List.range (n + 1)).map fun j => .string (x.txt j))) :
  ∃ cs, Blk W g cs 9 ∧ base ≤ g ∧ n + 1 ≤ c ∧ c ≤ maxLen ∧ ∀ j, j ≤ n → cs[j]? = some (.string (x.row 0 j)) := by
 rcases h.2 with ⟨e, _⟩ | ⟨g', cap, cur, e, hb, hg, hn, hm, hs, ht⟩
 ·cases e
 ·cases e
  have hk : Blk W g cur 9 := hg
  refine ⟨cur, hk, hb, hn, hm, fun j hj => ?_⟩
  have hc := h.cells (g := g) rfl j (.string (x.txt j)) (by simp [List.getElem?_map, List.getElem?_range (show j < n + 1 by omega)])
  have hadd : (⟨g, 0, none⟩ : Addr).add j = ⟨g, 0 + j, none⟩ := by unfold Addr.add; split <;> simp_all
  rw [hadd, Nat.zero_add, hk.cell j, (x.good (x.flag_le hf hj)).1] at hc
  rw [hc]; unfold MixA.row; rw [if_neg (by omega)]
theorem MixA.row_set (x : MixA) {n i : Nat} {cs : Array Value} (h : ∀ j, j ≤ n → cs[j]? = some (.string (x.row i j))) (hi : i ≤ n) : ∀ j, j ≤ n → (cs.setIfInBounds i (.string (I (x.quo i))))[j]? = some (.string (x.row (i + 1) j)) := fun j hj => by
 rw [Array.getElem?_setIfInBounds]
 have hsz : i < cs.size := (Array.getElem?_eq_some_iff.1 (h i hi)).1
 by_cases e : i = j
 ·subst e; rw [if_pos rfl, if_pos hsz]; unfold MixA.row; rw [if_pos (by omega)]
 ·rw [if_neg e, h j hj]; unfold MixA.row
  by_cases e2 : j < i
  ·rw [if_pos e2, if_pos (by omega)]
  ·rw [if_neg e2, if_neg (by omega)]
theorem far_two {W : World} {g b : Nat} {u x y : Value} (hg : g ≠ b) (h : W.cell? ⟨g, 0, none⟩ = some u) : ((W.setCell ⟨b, 0, none⟩ x).setCell ⟨b, 1, none⟩ y).cell? ⟨g, 0, none⟩ = some u := by
 have hon : Only [b] W ((W.setCell ⟨b, 0, none⟩ x).setCell ⟨b, 1, none⟩ y) := ((Only.refl [b] W).setCell (p := ⟨b, 0, none⟩) (by simp) _).setCell (p := ⟨b, 1, none⟩) (by simp) _
 have hlt : g < W.heap.size := by
  rcases Nat.lt_or_ge g W.heap.size with h1 | h1
  ·exact h1
  ·exfalso; simp [World.cell?, Array.getElem?_eq_none h1] at h
 exact (hon.cell (p := ⟨g, 0, none⟩) hlt (by simpa using hg)).trans h
theorem MixA.small_m (x : MixA) {n m : Nat} (hm : m = n + 1) (h : ∀ j, j < n + 1 → Small (x.num j)) : ∀ j, j < m → Small (x.num j) := by subst hm; exact h
structure MixI (x : MixA) (w W8 : World) (n gf : Nat) (i : Nat) (cs : Array Value) (wr : World) : Prop where
 blk : Blk wr gf cs 9
 row : ∀ j, j ≤ n → cs[j]? = some (.string (x.row i j))
 bd : ∀ j, j < i → Bd 100 (x.quo j)
 bel : Below w.heap.size w wr
 res : Blk wr (w.heap.size + 2) #[.slice none 0 0, .string ⟨#[]⟩] 30
theorem MixI.call {x : MixA} {w W8 W W' : World} {n gf i : Nat} {cs : Array Value} (h : MixI x w W8 n gf i cs W) (hb : Below W.heap.size W W') : MixI x w W8 n gf i cs W' :=
 ⟨h.blk.below hb, h.row, h.bd, h.bel.trans (hb.mono h.bel.size), h.res.below hb⟩
theorem MixP.good {x : MixA} {w w' : World} {v : Value} (h : mixB x = true) (hb : Below w.heap.size w w') (hs : SlS w' v ((List.range x.na.length).map (fun j => I (x.quo (j + 1))))) : MixP x w (.returned (.tuple #[.agg #[v, .string (I (x.quo 0))], .int .i64 0])) w' := by
 refine ⟨hb, v, ?_, ?_⟩
 ·unfold mixR; rw [if_pos h]; exact hs
 ·unfold mixR; rw [if_pos h]
theorem MixI.slice {x : MixA} {w W8 W W' : World} {n gf k cf : Nat} {cs : Array Value} (h : MixI x w W8 n gf k cs W) (hk : k = n + 1) (hc : k ≤ cf) (hm : cf ≤ maxLen) (_hn : n = x.na.length) (hon : Only [w.heap.size + 2] W W') (hne : gf ≠ w.heap.size + 2) :
  SlS W' (.slice (if cf = 1 then some ⟨gf, 0, none⟩ else some ⟨gf, 1, none⟩) (k - 1) (cf - 1)) ((List.range n).map (fun j => I (x.quo (j + 1)))) := by
 have hb : Blk W' gf cs 9 := (hon.block _ h.blk.lt (by simpa using hne)).trans h.blk
 have hl : ((List.range n).map (fun j => I (x.quo (j + 1)))).length = k - 1 := by simp; omega
 by_cases e : cf = 1
 ·rw [if_pos e]
  refine .inr ⟨gf, 0, cf - 1, by rw [hl], by rw [hl]; omega, by omega, hb.lt, fun j y hj => ?_⟩
  have := (List.getElem?_eq_some_iff.1 hj).1
  rw [hl] at this; omega
 ·rw [if_neg e]
  refine .inr ⟨gf, 1, cf - 1, by rw [hl], by rw [hl]; omega, by omega, hb.lt, fun j y hj => ?_⟩
  have hjl := (List.getElem?_eq_some_iff.1 hj).1
  rw [hl] at hjl
  rw [List.getElem?_map, List.getElem?_range (by omega)] at hj
  have hy := (Option.some.inj hj).symm
  show W'.cell? ⟨gf, 1 + j * 1, none⟩ = some (.string y)
  rw [hb.cell, Nat.mul_one, Nat.add_comm, h.row (j + 1) (by omega), show x.row k (j + 1) = I (x.quo (j + 1)) from if_pos (by omega), hy]
theorem MixI.put {x : MixA} {w W8 W : World} {n gf i : Nat} {cs : Array Value} (h : MixI x w W8 n gf i cs W) (hi : i ≤ n) (hg : w.heap.size + 2 < gf) :
  Blk (W.setCell ⟨gf, i, none⟩ (.string (I (x.quo i)))) gf (cs.setIfInBounds i (.string (I (x.quo i)))) 9 ∧ (∀ j, j ≤ n → (cs.setIfInBounds i (.string (I (x.quo i))))[j]? = some (.string (x.row (i + 1) j))) ∧ Below w.heap.size w (W.setCell ⟨gf, i, none⟩ (.string (I (x.quo i)))) ∧ Blk (W.setCell ⟨gf, i, none⟩ (.string (I (x.quo i)))) (w.heap.size + 2) #[.slice none 0 0, .string ⟨#[]⟩] 30 := by
 have hon : Only [gf] W (W.setCell ⟨gf, i, none⟩ (.string (I (x.quo i)))) := (Only.refl [gf] W).setCell (p := ⟨gf, i, none⟩) (by simp) _
 exact ⟨h.blk.set i _, x.row_set h.row hi, h.bel.trans (hon.toBelow h.bel.size (by intro z hz; rw [List.mem_singleton.1 hz]; omega)), (hon.block _ h.res.lt (by simp; omega)).trans h.res⟩
theorem mix_ok (x : MixA) (va vb : Value) (w : World) (hE : Env w) (hA : SlS w va x.na) (hB : SlS w vb x.nb) (h : mixArg x = true) :
  Calls Tryz.prog 23 #[.agg #[va, .string x.da], .agg #[vb, .string x.db], .int .i64 x.p, .int .i64 x.q] w (MixP x w) := by
 obtain ⟨aa, ca, rfl⟩ := hA.shape
 obtain ⟨ab, cb, rfl⟩ := hB.shape
 have hmB : mixB x = (x.flag x.na.length && (List.range (x.na.length + 1)).all (fun i => decide (Bd 100 (x.quo i)))) := by unfold mixB; rw [h, Bool.true_and]
 unfold mixArg at h
 simp only [Bool.and_eq_true, decide_eq_true_eq] at h
 obtain ⟨⟨⟨⟨h1, h2⟩, h3⟩, h4⟩, h5⟩ := h
 obtain ⟨g1, g2, g3, g4, g5⟩ := Bo h1
 obtain ⟨t1, t2, t3, t4, t5⟩ := Bo h2
 have FA := fun W (hW : SlS W (.slice aa x.na.length ca) x.na) => Bz _ x.na x.da W hW
 have FB := fun W (hW : SlS W (.slice ab x.nb.length cb) x.nb) => Bz _ x.nb x.db W hW
 have P3 := Ct x.p 1 1000
 have P4 := Ct x.q 1 1000
 rw [show (decide (1 ≤ x.p) && decide (x.p ≤ 1000)) = true by simp [h4]] at P3
 rw [show (decide (1 ≤ x.q) && decide (x.q ≤ 1000)) = true by simp [h5]] at P4
 rw [h1] at FA
 rw [h2] at FB
 have hnum0 : x.num 0 ≠ 0 := by
  have := Int.mul_pos (Int.mul_pos (show 0 < x.p + x.q by omega) g5) t5
  show (x.p + x.q) * zS x.da * zS x.db ≠ 0
  omega
 obtain ⟨n, hn⟩ : ∃ n, n = x.na.length := ⟨_, rfl⟩
 have hn2 : n = x.nb.length := by omega
 have HA := A8 hA
 have HB := A8 hB
 have hok : Hid ((∀ i, i < n → okS (sAt x.na i) = true ∧ okS (sAt x.nb i) = true) ∧ okS x.da = true ∧ okS x.db = true) := A8 ⟨fun i hi => ⟨(g2 i (by omega)).1, (t2 i (by omega)).1⟩, g3, t3⟩
 have hpq : Hid ((1 ≤ x.p ∧ x.p ≤ 1000) ∧ (1 ≤ x.q ∧ x.q ≤ 1000)) := A8 ⟨h4, h5⟩
 have hnn : Hid (n = x.na.length ∧ n = x.nb.length ∧ n ≤ 64) := A8 ⟨hn, hn2, by omega⟩
 clear hA hB h1 h2 h3 h4 h5 g1 g2 g3 g4 g5 t1 t2 t3 t4 t5
 rw [← hn] at FA HA hmB ⊢
 rw [← hn2] at FB HB ⊢
 replace FA := A8 FA
 replace FB := A8 FB
 replace P3 := A8 P3
 replace P4 := A8 P4
 replace hE := A8 hE
 replace hmB := A8 hmB
 replace hnum0 := A8 hnum0
 replace hn := A8 hn
 clear hn2
 obtain ⟨V1, e1, S1, z1⟩ := (BL.start w).add' #[.slice aa n ca, .string x.da] 30
 obtain ⟨V2, e2, S2, z2⟩ := S1.add' #[.slice ab n cb, .string x.db] 30
 obtain ⟨V3, e3, hS, z3⟩ := S2.add' #[.slice none 0 0, .string ⟨#[]⟩] 30
 rw [z2, z1] at hS
 replace hS : BL w [(w.heap.size + 2, #[.slice none 0 0, .string ⟨#[]⟩], 30), (w.heap.size + 1, #[.slice ab n cb, .string x.db], 30), (w.heap.size, #[.slice aa n ca, .string x.da], 30)] V3 := hS
 have hV : V3 = ((w.alloc (.cells #[.slice aa n ca, .string x.da] 30)).alloc (.cells #[.slice ab n cb, .string x.db] 30)).alloc (.cells #[.slice none 0 0, .string ⟨#[]⟩] 30) := by rw [e3, e2, e1]
 have zz := A8 (show V3.heap.size = w.heap.size + 3 by rw [z3, z2, z1])
 clear e1 e2 e3 S1 S2 z1 z2 z3
 obtain ⟨x0, x1⟩ := hS.c2 w.heap.size _ _ _ (.tail _ (.tail _ (.head _)))
 obtain ⟨y0, y1⟩ := hS.c2 (w.heap.size + 1) _ _ _ (.tail _ (.head _))
 go_enter Tryz.func23, Tryz.ntmps23
 go_upto_region 1 with fail
 rw [← hV]
 clear hV
 go_wp2_with fail
 refine Calls.mono (FA.out _ (HA.out.below hS.below)) ?_
 rintro e w1 ⟨rfl, hb⟩
 replace hS := hS.call hb
 have hsz1 := A8 hb.size
 clear x0 x1 y0 y1 hb
 obtain ⟨x0, x1⟩ := hS.c2 w.heap.size _ _ _ (.tail _ (.tail _ (.head _)))
 obtain ⟨y0, y1⟩ := hS.c2 (w.heap.size + 1) _ _ _ (.tail _ (.head _))
 go_wp2_with fail
 refine Calls.mono (FB.out _ (HB.out.below hS.below)) ?_
 rintro e w2 ⟨rfl, hb⟩
 replace hS := hS.call hb
 have hsz2 := A8 hb.size
 clear x0 x1 y0 y1 hb
 obtain ⟨x0, x1⟩ := hS.c2 w.heap.size _ _ _ (.tail _ (.tail _ (.head _)))
 obtain ⟨y0, y1⟩ := hS.c2 (w.heap.size + 1) _ _ _ (.tail _ (.head _))
 go_wp2_with fail
 refine Calls.mono (P3.out _) ?_
 rintro e w3 ⟨rfl, hb⟩
 replace hS := hS.call hb
 have hsz3 := A8 hb.size
 clear x0 x1 y0 y1 hb
 obtain ⟨x0, x1⟩ := hS.c2 w.heap.size _ _ _ (.tail _ (.tail _ (.head _)))
 obtain ⟨y0, y1⟩ := hS.c2 (w.heap.size + 1) _ _ _ (.tail _ (.head _))
 go_wp2_with fail
 refine Calls.mono (P4.out _) ?_
 rintro e w4 ⟨rfl, hb⟩
 replace hS := hS.call hb
 have hsz4 := A8 hb.size
 clear x0 x1 y0 y1 hb
 obtain ⟨x0, x1⟩ := hS.c2 w.heap.size _ _ _ (.tail _ (.tail _ (.head _)))
 obtain ⟨y0, y1⟩ := hS.c2 (w.heap.size + 1) _ _ _ (.tail _ (.head _))
 go_upto_region 5 with fail
 clear x0 x1 y0 y1
 have hlt4 : w.heap.size + 3 ≤ w4.heap.size := by have := zz.out; have := hsz1.out; have := hsz2.out; have := hsz3.out; have := hsz4.out; omega
 obtain ⟨W5, hW5⟩ : ∃ W, W = w4.alloc (.cells #[.bool true] 4) := ⟨_, rfl⟩
 rw [← hW5]
 have hk5 : Blk W5 w4.heap.size #[.bool true] 4 := by rw [hW5]; exact Blk.new w4 #[.bool true] 4
 have hs5 : W5.heap.size = w4.heap.size + 1 := by rw [hW5, World.size_alloc]
 have ho5 : Only [] w4 W5 := by rw [hW5]; exact (Only.refl [] w4).alloc _
 have hS5 := hS.call (ho5.toBelow (Aa _) (by simp))
 clear hW5 ho5 hS hsz1 hsz2 hsz3 hsz4 zz FA FB P3 P4
 generalize w4.heap.size = Bk at *
 have hA5 := hS5.blks _ (.tail _ (.tail _ (.head _)))
 have hB5 := hS5.blks _ (.tail _ (.head _))
 have hR5 := hS5.blks _ (.head _)
 dsimp only at hA5 hB5 hR5
 have cc : ∀ (W : World), Only [Bk] W5 W → Blk W w.heap.size #[.slice aa n ca, .string x.da] 30 ∧ Blk W (w.heap.size + 1) #[.slice ab n cb, .string x.db] 30 ∧ Blk W (w.heap.size + 2) #[.slice none 0 0, .string ⟨#[]⟩] 30 := fun W hW =>
  ⟨(hW.block _ hA5.lt (by simp; omega)).trans hA5, (hW.block _ hB5.lt (by simp; omega)).trans hB5, (hW.block _ hR5.lt (by simp; omega)).trans hR5⟩
 replace cc := A8 cc
 replace hs5 := A8 hs5
 replace hlt4 := A8 hlt4
 have hbel5 := A8 hS5.below
 clear hA5 hB5 hR5 hS5
 refine mix_r5 (p := x.p) (q := x.q) (pq := x.p + x.q) (b0 := w.heap.size) (b1 := w.heap.size + 1) (Bk := Bk) (da := x.da) (db := x.db) (w0 := w) hE (A8 ⟨hbel5.out, by have := hlt4.out; omega⟩) (by have := hpq.out; exact IntWalk.i64_in _ (by omega)) (A8 (by have := hpq.out; exact ⟨by unfold Fits; omega, (bd11 (by omega)).small (by decide)⟩)) (A8 hok.out.2)
  (A8 (fun W hW => ⟨(cc.out W hW).1.cell 1, (cc.out W hW).2.1.cell 1⟩)) (A8 (by have := hs5.out; omega)) (A8 hk5) (by kernel_rfl) ?_
 intro v50 v51 v52 v53 v54 v55 v56 v57 v58 v59 v60 v61 gr W6 hO6 hk6 hr6
 clear hk5
 obtain ⟨a6, b6, r6⟩ := cc.out W6 hO6
 have hbel6 := A8 (hbel5.out.trans (hO6.toBelow hbel5.out.size (by intro z hz; rw [List.mem_singleton.1 hz]; have := hlt4.out; omega)))
 have hs6 := A8 hO6.size
 have x0 := a6.cell 0
 replace a6 := A8 a6
 replace b6 := A8 b6
 replace r6 := A8 r6
 replace hk6 := A8 hk6
 replace hr6 := A8 hr6
 clear hO6 cc
 go_wp2_with fail
 refine mix_l0 (x := x) (b0 := w.heap.size) (b1 := w.heap.size + 1) (Bk := Bk) (n := n) (base := W5.heap.size) (g0 := gr) (w0 := w) hE (A8 ⟨hbel6.out, by have := hlt4.out; omega, by have := hs5.out; omega, hs6.out⟩) hpq hnn hok
  (A8 ⟨⟨by have := hs5.out; have := hlt4.out; omega, by have := hlt4.out; omega, a6.out.cell 0, a6.out.cell 1⟩, ⟨by have := hs5.out; have := hlt4.out; omega, by have := hlt4.out; omega, b6.out.cell 0, b6.out.cell 1⟩⟩) HA HB hk6 hr6 (by kernel_rfl) ?_
 intro gf cf u13 u14 u15 u65 u66 u67 u68 u69 u70 u71 u72 u73 u74 u75 u76 u77 u78 u79 u80 u81 u82 u83 u84 u85 u86 u87 u88 u89 u90 u91 u92 u93 u94 u95 u96 u97 u98 u99 u100 u101 u102 u103 u104 u105 W7 hbW hk7 hr7 hs7
 have kR : Hid (Blk W7 (w.heap.size + 2) #[.slice none 0 0, .string ⟨#[]⟩] 30) := A8 ((hs7.out (w.heap.size + 2) (by have := hs5.out; have := hlt4.out; omega) (by have := hlt4.out; omega)).trans r6.out : Blk W7 (w.heap.size + 2) #[.slice none 0 0, .string ⟨#[]⟩] 30)
 have hbs := A8 (show w.heap.size + 3 < W5.heap.size by have := hs5.out; have := hlt4.out; omega)
 clear x0 hs7 r6 a6 b6 hs6 hbel6 hbel5 hs5 hlt4 hk6 hr6 HA HB hok hpq
 have z0 := (hk7.out.cell 0).trans (show _ = some (Value.bool (x.flag n)) from rfl)
 cases hfl : x.flag n
 case false =>
  rw [hfl] at z0
  have hbad : Hid (mixB x = false) := A8 (by rw [hmB.out, hfl]; rfl)
  have f0 := kR.out.frozen 0
  have f1 := kR.out.frozen 1
  have r0 := (kR.out.cell 0).trans (show _ = some (Value.slice none 0 0) from rfl)
  have r1 := (kR.out.cell 1).trans (show _ = some (Value.string ⟨#[]⟩) from rfl)
  obtain ⟨⟨k0, k1⟩, hfin, -⟩ := CU kR.out (by show w.heap.size ≤ w.heap.size + 2; omega) hbW.out (.slice none 0 0) (.string ⟨#[]⟩)
  have hfin := A8 (MixP.bad hbad.out hfin)
  try dsimp only at k0 k1
  clear kR hbW hbad hk7 hr7 hfl
  go_wp2
  exact bodyPost_ret (v := .tuple #[.agg #[.slice none 0 0, .string ⟨#[]⟩], .int .i64 60]) (by simp [results, Tryz.results23, go_sem, k0, k1]) rfl hfin.out
 case true =>
  rw [hfl] at z0
  obtain ⟨cs, kr, hgb, hnc, hcm, hcs⟩ := x.row_open hfl hr7.out
  have hsm : ∀ j, j < n + 1 → Small (x.num j) := fun j hj => (x.good (x.flag_le hfl (show j ≤ n by omega))).2
  clear hk7 hr7
  obtain ⟨m, hm⟩ : ∃ m, m = n + 1 := ⟨_, rfl⟩
  rw [← hm] at hnc ⊢
  have hsM := A8 (x.small_m hm hsm)
  have I1 : MixI x w W7 n gf 0 cs W7 := ⟨kr, hcs, fun j hj => by omega, hbW.out, kR.out⟩
  replace I1 := A8 I1
  have hgp : Hid (0 < x.gcd m) := A8 (by rw [hm]; exact x.gcd_pos hnum0.out n)
  have hg2 : Hid (w.heap.size + 2 < gf) := A8 (by have := hbs.out; omega)
  replace hmB : Hid (mixB x = (List.range m).all fun i => decide (Bd 100 (x.quo i))) := A8 (by rw [hmB.out, hfl, hm]; rfl)
  have hqe : Hid (∀ i, x.quo i = x.num i / x.gcd m) := A8 (fun i => by unfold MixA.quo; rw [hm, hn.out])
  have hI0 : Value.string ⟨#[48]⟩ = .string (I (x.gcd 0)) := by rw [show x.gcd 0 = 0 from rfl, Jz]
  have hm64 : m ≤ 65 := by have := hnn.out.2.2; omega
  replace hm := A8 hm
  replace hI0 := A8 hI0
  replace hfl := A8 hfl
  clear hsm hcs kr kR hbW hbs hgb hnn hnum0
  go_wp2_with fail
  go_loopw [16, 111] (fun s o wr => ∃ i : Nat, s = .string (I (x.gcd i)) ∧ o = .int .i64 i ∧ i ≤ m ∧ Hid (Below W7.heap.size W7 wr)) (fun _ o _ => m - (intOf o).toNat)
  case atStart => exact ⟨0, hI0.out, rfl, by omega, A8 (Below.refl _ _)⟩
  case round =>
   clear z0
   obtain ⟨i, rfl, rfl, hi, hB⟩ := hrel
   by_cases him : i < m
   case pos =>
    have him' : (i : Int) < m := by omega
    have hi0 : (0 : Int) ≤ i := by omega
    have y0 := ((I1.out.call hB.out).blk.cell i).trans ((I1.out.call hB.out).row i (by have := hm.out; omega))
    rw [show x.row 0 i = I (x.num i) from if_neg (by omega)] at y0
    have GC := A8 (fun W (hW : Env W) => (by have := gcd_any (I (x.gcd i)) (I (x.num i)) W hW; rw [BT (x.gcd_small hsM.out hi), BT (hsM.out i him), C6, C6, Bool.and_self, show gcdZ (x.gcd i) (x.num i) = x.gcd (i + 1) from rfl, BF (x.gcd_small hsM.out him)] at this; exact this : Calls Tryz.prog 60 #[.string (I (x.gcd i)), .string (I (x.num i))] W (Gives W fun r _ => r = .tuple #[.string (I (x.gcd (i + 1))), .int .i64 0])))
    have hEr := A8 (hE.out.below (I1.out.call hB.out).bel (Aa _))
    generalize I (x.num i) = t1 at *
    generalize I (x.gcd i) = t2 at *
    generalize ht3 : I (x.gcd (i + 1)) = t3 at *
    replace ht3 := A8 ht3
    go_wp2_with fail
    refine Calls.mono (GC.out _ hEr.out) ?_
    rintro e w9 ⟨⟨r, rfl, rfl⟩, hb⟩
    replace hB := A8 (hB.out.trans (hb.mono hB.out.size))
    clear y0 GC hEr hb
    go_wp2_with fail
    go_roundw
    case rel => exact ⟨i + 1, by rw [ht3.out], by go_num, by omega, hB⟩
    case measure => simp [intOf]; omega
   case neg =>
    have him' : ¬ (i : Int) < m := by omega
    obtain rfl : i = m := by omega
    replace I1 := A8 (I1.out.call hB.out)
    clear hB hi
    have hGs := A8 (x.gcd_small hsM.out (Aa _))
    go_wp2_with fail
    go_loopw [124] (fun o wr2 => ∃ (k : Nat) (ds : Array Value), o = .int .i64 k ∧ k ≤ i ∧ Hid (MixI x w W7 n gf k ds wr2)) (fun o _ => i - (intOf o).toNat)
    case atStart => exact ⟨0, cs, rfl, by omega, I1⟩
    case round =>
     clear I1 him him'
     obtain ⟨k, ds, rfl, hk, J⟩ := hrel
     by_cases hki : k < i
     case pos =>
      have hki' : (k : Int) < i := by omega
      have hk0 : (0 : Int) ≤ k := by omega
      have hkn : k ≤ n := by have := hm.out; omega
      have y0 := (J.out.blk.cell k).trans (J.out.row k hkn)
      rw [show x.row k k = I (x.num k) from if_neg (by omega)] at y0
      have hqs : Small (x.quo k) := by rw [hqe.out]; exact (DT (hsM.out k hki)).1
      have DV := A8 (fun W (hW : Env W) => (by have := div_any (I (x.num k)) (I (x.gcd i)) W hW; rw [BT hGs.out, BT (hsM.out k hki), C6, C6, Bool.and_self] at this; unfold divT at this; rw [if_pos (by have := hgp.out; simp; omega), ← hqe.out k] at this; exact this : Calls Tryz.prog 61 #[.string (I (x.num k)), .string (I (x.gcd i))] W (Gives W fun r _ => r = .tuple #[.string (I (x.quo k)), .string (I (x.num k % x.gcd i)), .int .i64 0])))
      have IN := A8 (fun W => (by have := CL (I (x.quo k)) W; rw [numB_I hqs] at this; exact this : Calls Tryz.prog 62 #[.string (I (x.quo k))] W (Rets W (.bool (decide (Bd 100 (x.quo k)))))))
      have hEr := A8 (hE.out.below J.out.bel (Aa _))
      obtain ⟨tq, htq⟩ : ∃ t, t = I (x.quo k) := ⟨_, rfl⟩
      rw [← htq] at DV IN
      generalize I (x.num k) = t1 at *
      generalize ht2 : I (x.gcd i) = t2 at *
      generalize I (x.num k % x.gcd i) = t3 at *
      replace ht2 := A8 ht2
      clear hqs
      go_wp2_with fail
      refine Calls.mono (DV.out _ hEr.out) ?_
      rintro e w9 ⟨⟨r, rfl, rfl⟩, hb⟩
      replace J := A8 (J.out.call hb)
      clear y0 DV hEr hb
      have y0 := (J.out.blk.cell k).trans (J.out.row k hkn)
      have y1 := J.out.blk.frozen k
      obtain ⟨q1, q2, q3, q4⟩ := J.out.put hkn hg2.out
      rw [← htq] at q1 q2 q3 q4
      have q5 := (q1.cell k).trans ((q2 k hkn).trans (by rw [show x.row (k + 1) k = I (x.quo k) from if_pos (by omega), ← htq]))
      replace htq := A8 htq
      replace q1 := A8 q1
      replace q2 := A8 q2
      replace q3 := A8 q3
      replace q4 := A8 q4
      go_upto_region 25 with fail
      generalize w9.setCell ⟨gf, k, none⟩ (.string tq) = W10 at *
      clear y0 y1
      go_wp2_with fail
      refine Calls.mono (IN.out _) ?_
      rintro e w11 ⟨rfl, hb⟩
      replace q1 := A8 (q1.out.below hb)
      replace q3 := A8 (q3.out.trans (hb.mono q3.out.size))
      replace q4 := A8 (q4.out.below hb)
      clear q5 hb IN
      by_cases hbd : Bd 100 (x.quo k)
      ·rw [decide_eq_true hbd]
       have J2 := A8 (⟨q1.out, q2.out, fun j hj => if e : j = k then e ▸ hbd else J.out.bd j (by omega), q3.out, q4.out⟩ : MixI x w W7 n gf (k + 1) _ w11)
       clear q1 q2 q3 q4 J hbd
       go_wp2_with fail
       go_roundw
       case rel => exact ⟨k + 1, _, by go_num, by omega, J2⟩
       case measure => simp [intOf]; omega
      ·rw [decide_eq_false hbd]
       have hbad : Hid (mixB x = false) := A8 (by rw [hmB.out, List.all_eq_false]; exact ⟨k, List.mem_range.2 hki, by simpa using hbd⟩)
       have hbW := q3
       have kR := q4
       clear q1 q2 q3 q4 hbd J
       have f0 := kR.out.frozen 0
       have f1 := kR.out.frozen 1
       have r0 := (kR.out.cell 0).trans (show _ = some (Value.slice none 0 0) from rfl)
       have r1 := (kR.out.cell 1).trans (show _ = some (Value.string ⟨#[]⟩) from rfl)
       obtain ⟨⟨k0, k1⟩, hfin, -⟩ := CU kR.out (by show w.heap.size ≤ w.heap.size + 2; omega) hbW.out (.slice none 0 0) (.string ⟨#[]⟩)
       have hfin := A8 (MixP.bad hbad.out hfin)
       try dsimp only at k0 k1
       clear kR hbW hbad
       go_wp2
       exact bodyPost_ret (v := .tuple #[.agg #[.slice none 0 0, .string ⟨#[]⟩], .int .i64 60]) (by simp [results, Tryz.results23, go_sem, k0, k1]) rfl hfin.out
     case neg =>
      have hki' : ¬ (k : Int) < i := by omega
      obtain rfl : k = i := by omega
      have hgood : Hid (mixB x = true) := A8 (by rw [hmB.out, List.all_eq_true]; intro j hj; simpa using J.out.bd j (List.mem_range.1 hj))
      have hk1 : (1 : Int) ≤ k := by have := hm.out; omega
      have hkc : (k : Int) ≤ cf := by omega
      have y0 := (J.out.blk.cell 0).trans (J.out.row 0 (by omega))
      rw [show x.row k 0 = I (x.quo 0) from if_pos (by omega)] at y0
      have hne : gf ≠ w.heap.size + 2 := by have := hg2.out; omega
      have f0 := J.out.res.frozen 0
      have f1 := J.out.res.frozen 1
      have r0 := (J.out.res.cell 0).trans (show _ = some (Value.slice none 0 0) from rfl)
      have r1 := (J.out.res.cell 1).trans (show _ = some (Value.string ⟨#[]⟩) from rfl)
      go_upto_region 28 with fail
      clear hE hqe hm64 hsM hmB
      have hC := A8 (fun (W : World) (hW : Below wr.heap.size wr W) => (hW.cell (p := ⟨gf, 0, none⟩) J.out.blk.lt).trans y0)
      have hk01 : (0 : Int) < k := by omega
      have hk02 : 0 < k := by omega
      have hk03 : 1 ≤ k := by omega
      have hk04 : 1 ≤ cf := by omega
      have hk05 : k ≤ cf := by omega
      have hk06 : (1 : Int) ≤ cf := by omega
      generalize hq0 : I (x.quo 0) = q0 at *
      replace hq0 := A8 hq0
      go_region_held3 (fun w' => w'.cell? ⟨gf, 0, none⟩ = some (.string q0))
       (first | (with_reducible exact y0) | (with_reducible exact hC.out _ (Ac wr 1)) | (refine far_two hne ?_; first | (with_reducible exact y0) | (with_reducible exact hC.out _ (Ac wr 1))) | go_keep) (fail)
      obtain ⟨⟨k0, k1⟩, hfin, hon⟩ := CU J.out.res (by show w.heap.size ≤ w.heap.size + 2; omega) J.out.bel (.slice (if cf = 1 then some ⟨gf, 0, none⟩ else some ⟨gf, 1, none⟩) (k - 1) (cf - 1)) (.string q0)
      have hsl := J.out.slice hm.out hnc hcm hn.out hon hne
      try dsimp only at k0 k1
      generalize (if cf = 1 then some (⟨gf, 0, none⟩ : Addr) else some ⟨gf, 1, none⟩) = sa at *
      have hend := A8 (MixP.good hgood.out (hfin.trans ((Ac _ 1).mono hfin.size)) (by rw [← hn.out]; exact hsl.below (Ac _ 1)))
      rw [hq0.out] at hend
      clear hfin hon hsl y0 r0 r1 f0 f1 hC J hgood
      go_wp2
      exact bodyPost_ret (v := .tuple #[.agg #[.slice sa (k - 1) (cf - 1), .string q0], .int .i64 0]) (by simp [results, Tryz.results23, go_sem, k0, k1]) rfl hend.out
end
section
open Go.RowKit
def SolP (cols : Nat) (rows : List (List Int × Int)) (w : World) (e : Ending) (w' : World) : Prop := Below w.heap.size w w' ∧
 ((∃ nv nums den, e = .returned (.tuple #[.agg #[.bool true, nv, .string den, .slice none 0 0], .int .i64 0]) ∧ SlS w' nv nums ∧ checkL cols rows nums den = true) ∨
  (∃ wv ws, e = .returned (.tuple #[.agg #[.bool false, .slice none 0 0, .string ⟨#[]⟩, wv], .int .i64 0]) ∧ SlS w' wv ws ∧ refutesL cols rows ws = true))
theorem CD (cols : Nat) (v : Value) (rows : List (List Int × Int)) (w : World) (hE : Env w) (h : SlE w v rows) (hv : validL cols rows = true) (h8 : rows.length ≤ 8) :
  Calls Tryz.prog 14 #[.agg #[.int .i64 cols, v]] w (SolP cols rows w) := by
 have hl := low8 hv h8
 refine (LC cols v rows w hE h hv (low_wd hl) (low_tx hl)).mono ?_
 rintro e w' ⟨B, hI, hend, hb, ⟨h0, nv, he, hs⟩ | ⟨h0, wv, he, hs⟩⟩
 ·exact ⟨hb, .inl ⟨nv, _, _, he, hs, KF hv hl hI h0⟩⟩
 ·exact ⟨hb, .inr ⟨wv, _, he, hs, I9 hv hl hI hend h0⟩⟩
end
section
open Go.RowKit
open LnM (sm)
structure SolZ (rows : List (List Int × Int)) (n : Nat) (x : Nat → Int) (d : Int) : Prop where
 pos : 0 < d
 nn : ∀ k, k < n → 0 ≤ x k
 eq : ∀ i, i < rows.length → sm n (fun k => x k * gi (rowOf rows i).1 k) = d * (rowOf rows i).2
structure RefZ (rows : List (List Int × Int)) (n : Nat) (w : Nat → Int) : Prop where
 nn : ∀ k, k < n → 0 ≤ sm rows.length (fun i => w i * gi (rowOf rows i).1 k)
 neg : sm rows.length (fun i => w i * (rowOf rows i).2) < 0
theorem G1 {rows : List (List Int × Int)} {n : Nat} {x w : Nat → Int} {d : Int} (h : SolZ rows n x d) (g : RefZ rows n w) : False := by
 have e1 : sm rows.length (fun i => w i * sm n (fun k => x k * gi (rowOf rows i).1 k)) = d * sm rows.length (fun i => w i * (rowOf rows i).2) := by
  rw [← LnM.sm_mul]
  exact LnM.sm_congr fun i hi => by rw [h.eq i hi, ← Int.mul_assoc, Int.mul_comm (w i), Int.mul_assoc]
 have e2 : sm rows.length (fun i => w i * sm n (fun k => x k * gi (rowOf rows i).1 k)) = sm n (fun k => x k * sm rows.length (fun i => w i * gi (rowOf rows i).1 k)) := by
  rw [show (fun i => w i * sm n (fun k => x k * gi (rowOf rows i).1 k)) = (fun i => sm n (fun k => w i * (x k * gi (rowOf rows i).1 k))) from by funext i; rw [LnM.sm_mul], LnM.sm_swap]
  refine LnM.sm_congr fun k _ => ?_
  rw [← LnM.sm_mul]
  exact LnM.sm_congr fun i _ => by rw [← Int.mul_assoc, Int.mul_comm (w i), Int.mul_assoc]
 have e3 : 0 ≤ sm n (fun k => x k * sm rows.length (fun i => w i * gi (rowOf rows i).1 k)) := LnM.sm_nonneg fun k hk => Int.mul_nonneg (h.nn k hk) (g.nn k hk)
 have e4 := Int.mul_neg_of_pos_of_neg h.pos g.neg
 omega
theorem B6 {cols : Int} {rows : List (List Int × Int)} {nums : List ByteArray} {den : ByteArray} (h : checkL cols rows nums den = true) : validL cols rows = true ∧ formedL nums den = true ∧ (nums.length : Int) = cols := by
 unfold checkL at h
 simp only [Bool.and_eq_true, beq_iff_eq] at h
 exact ⟨h.1.1.1, h.1.1.2, h.1.2⟩
theorem Cc {cols : Int} {rows : List (List Int × Int)} {nums : List ByteArray} {den : ByteArray} (h : checkL cols rows nums den = true) : SolZ rows nums.length (fun k => zS (sAt nums k)) (zS den) := by
 obtain ⟨_, hf, _⟩ := B6 h
 obtain ⟨_, q2, _, _, q5⟩ := Bo hf
 unfold checkL at h
 simp only [Bool.and_eq_true] at h
 refine ⟨q5, fun k hk => (q2 k hk).2.2, fun i hi => ?_⟩
 have := List.all_eq_true.1 h.2 _ (Bp hi)
 rw [decide_eq_true_eq] at this
 exact this
theorem Fd {cols : Int} {rows : List (List Int × Int)} {nums : List ByteArray} {den : ByteArray} (hv : validL cols rows = true) (hf : formedL nums den = true) (hl : (nums.length : Int) = cols) (h : SolZ rows nums.length (fun k => zS (sAt nums k)) (zS den)) : checkL cols rows nums den = true := by
 unfold checkL
 rw [hv, hf]
 simp only [Bool.and_eq_true, Bool.true_and, beq_iff_eq]
 refine ⟨hl, ?_⟩
 rw [List.all_eq_true]
 intro r hr
 obtain ⟨i, hi, rfl⟩ := List.mem_iff_getElem.1 hr
 have hrow : rowOf rows i = rows[i] := by unfold rowOf; rw [List.getElem?_eq_getElem hi]; rfl
 rw [← hrow, decide_eq_true_eq]
 exact h.eq i hi
theorem Bq {cols : Int} {rows : List (List Int × Int)} {ws : List ByteArray} (h : refutesL cols rows ws = true) : validL cols rows = true ∧ ws.length = rows.length ∧ (∀ s ∈ ws, numB s = true) := by
 unfold refutesL at h
 simp only [Bool.and_eq_true, decide_eq_true_eq, beq_iff_eq, Bool.not_eq_true', List.any_eq_false] at h
 exact ⟨h.1.1.1.1, by have := h.1.1.1.2; omega, fun s hs => by have := h.1.1.2 s hs; simpa using this⟩
theorem BX {cols : Nat} {rows : List (List Int × Int)} {ws : List ByteArray} (h : refutesL cols rows ws = true) : RefZ rows cols (fun i => zS (sAt ws i)) := by
 obtain ⟨_, hl, _⟩ := Bq h
 unfold refutesL at h
 simp only [Bool.and_eq_true, decide_eq_true_eq] at h
 obtain ⟨⟨_, hk⟩, hneg⟩ := h
 rw [hl] at hk hneg
 refine ⟨fun k hkc => ?_, hneg⟩
 have := List.all_eq_true.1 hk k (List.mem_range.2 (by simpa using hkc))
 rw [decide_eq_true_eq] at this
 exact this
theorem DL {cols : Nat} {rows : List (List Int × Int)} {ws : List ByteArray} (hv : validL cols rows = true) (hl : ws.length = rows.length) (hn : ∀ s ∈ ws, numB s = true) (h : RefZ rows cols (fun i => zS (sAt ws i))) : refutesL cols rows ws = true := by
 unfold refutesL
 have hany : (ws.any fun s => !numB s) = false := by
  rw [List.any_eq_false]; intro t ht; rw [hn t ht]; decide
 rw [hv, hany, hl]
 simp only [Bool.true_and, beq_self_eq_true, Bool.not_false, Bool.and_eq_true, decide_eq_true_eq, List.all_eq_true]
 refine ⟨fun k hk => h.nn k (by simpa using hk), h.neg⟩
theorem gi_map {n : Nat} (f : Nat → Int) {k : Nat} (h : k < n) : gi ((List.range n).map f) k = f k := by
 unfold gi
 rw [List.getElem?_map, List.getElem?_range h]; rfl
theorem tdivL3 {m : Int} (h : Fits m) : Fits (m.tdiv 3) ∧ IntKind.i64.wrap (m.tdiv 3) = m.tdiv 3 := by
 have h1 : m.tdiv 3 ≤ 9223372036854775807 ∧ -9223372036854775808 ≤ m.tdiv 3 := by
  have := Int.natAbs_tdiv_le_natAbs m 3
  unfold Fits at h
  refine ⟨?_, by omega⟩
  rcases Int.lt_or_le 0 m with h0 | h0
  ·omega
  ·obtain ⟨b, rfl⟩ : ∃ b : Int, m = -b := ⟨-m, by omega⟩
   rw [Int.neg_tdiv, Int.tdiv_eq_ediv_of_nonneg (by omega)]
   omega
 exact ⟨⟨h1.2, h1.1⟩, IntWalk.i64_in _ ⟨h1.2, h1.1⟩⟩
theorem tdivL30 {m : Int} (h : Fits m) : Fits (m.tdiv 30) ∧ IntKind.i64.wrap (m.tdiv 30) = m.tdiv 30 := by
 have h1 : m.tdiv 30 ≤ 9223372036854775807 ∧ -9223372036854775808 ≤ m.tdiv 30 := by
  have := Int.natAbs_tdiv_le_natAbs m 30
  unfold Fits at h
  refine ⟨?_, by omega⟩
  rcases Int.lt_or_le 0 m with h0 | h0
  ·omega
  ·obtain ⟨b, rfl⟩ : ∃ b : Int, m = -b := ⟨-m, by omega⟩
   rw [Int.neg_tdiv, Int.tdiv_eq_ediv_of_nonneg (by omega)]
   omega
 exact ⟨⟨h1.2, h1.1⟩, IntWalk.i64_in _ ⟨h1.2, h1.1⟩⟩
end
section
open LnM (sm)
theorem KG {m : Nat} (f : Nat → List Int × Int) {i : Nat} (h : i < m) : rowOf ((List.range m).map f) i = f i := by
 unfold rowOf
 rw [List.getElem?_map, List.getElem?_range h]; rfl
theorem Ia {cols : Nat} {rows : List (List Int × Int)} (hc : cols ≤ 64) (hl : rows.length ≤ 18) (h : ∀ r ∈ rows, r.1.length = cols ∧ (∀ x ∈ r.1, -30000 ≤ x ∧ x ≤ 30000) ∧ -1000000000 ≤ r.2 ∧ r.2 ≤ 1000000000) : validL cols rows = true := by
 unfold validL
 simp only [Bool.and_eq_true, decide_eq_true_eq, Bool.not_eq_true', List.any_eq_false]
 refine ⟨⟨⟨by omega, by omega⟩, hl⟩, fun e he => ?_⟩
 obtain ⟨h1, h2, h3, h4⟩ := h e he
 have hany : e.1.any largeB = false := by
  rw [List.any_eq_false]
  intro z hz
  have := h2 z hz
  unfold largeB
  simp; omega
 unfold badE
 rw [hany]
 simp; omega
theorem Dr {rows : List (List Int × Int)} {r : List Int × Int} {i : Nat} (h : i < rows.length) : rowOf (rows ++ [r]) i = rowOf rows i := by unfold rowOf; rw [List.getElem?_append_left h]
theorem Fe {l : List ByteArray} {s : ByteArray} {i : Nat} (h : i < l.length) : sAt (l ++ [s]) i = sAt l i := by unfold sAt; rw [List.getElem?_append_left h]
theorem Ff (l : List ByteArray) (s : ByteArray) : sAt (l ++ [s]) l.length = s := by unfold sAt; simp
theorem zS0 : zS ⟨#[48]⟩ = 0 := by kernel_rfl
theorem numB0 : numB ⟨#[48]⟩ = true := by kernel_rfl
theorem G4 {rows : List (List Int × Int)} {r : List Int × Int} {n : Nat} {x : Nat → Int} {d : Int} (h : SolZ (rows ++ [r]) n x d) : SolZ rows n x d :=
 ⟨h.pos, h.nn, fun i hi => by have := h.eq i (by simp; omega); rwa [Dr hi] at this⟩
theorem J7 {c : Nat} {rows : List (List Int × Int)} {r : List Int × Int} {nums : List ByteArray} {den : ByteArray} (hv : validL c rows = true) (h : checkL c (rows ++ [r]) nums den = true) : checkL c rows nums den = true := by
 obtain ⟨_, hf, hl⟩ := B6 h
 exact Fd hv hf hl (G4 (Cc h))
theorem DM {c : Nat} {rows : List (List Int × Int)} {r : List Int × Int} {ws : List ByteArray} (hv : validL c (rows ++ [r]) = true) (h : refutesL c rows ws = true) : refutesL c (rows ++ [r]) (ws ++ [⟨#[48]⟩]) = true := by
 obtain ⟨_, hl, hn⟩ := Bq h
 have hr := BX h
 have e : ∀ f : Nat → Int, sm (rows ++ [r]).length (fun i => zS (sAt (ws ++ [⟨#[48]⟩]) i) * f i) = sm rows.length (fun i => zS (sAt ws i) * f i) := fun f => by
  rw [List.length_append, List.length_singleton]
  show sm rows.length _ + zS (sAt (ws ++ [⟨#[48]⟩]) rows.length) * f rows.length = _
  rw [← hl, Ff, zS0, Int.zero_mul, Int.add_zero]
  exact LnM.sm_congr fun i hi => by rw [Fe hi]
 refine DL hv (by simp [hl]) (fun s hs => ?_) ⟨fun k hk => ?_, ?_⟩
 ·rcases List.mem_append.1 hs with h1 | h1
  ·exact hn s h1
  ·rw [List.mem_singleton.1 h1]; exact numB0
 ·rw [e fun i => gi (rowOf (rows ++ [r]) i).1 k]
  rw [show sm rows.length (fun i => zS (sAt ws i) * gi (rowOf (rows ++ [r]) i).1 k) = sm rows.length (fun i => zS (sAt ws i) * gi (rowOf rows i).1 k) from LnM.sm_congr fun i hi => by rw [Dr hi]]
  exact hr.nn k hk
 ·rw [e fun i => (rowOf (rows ++ [r]) i).2]
  rw [show sm rows.length (fun i => zS (sAt ws i) * (rowOf (rows ++ [r]) i).2) = sm rows.length (fun i => zS (sAt ws i) * (rowOf rows i).2) from LnM.sm_congr fun i hi => by rw [Dr hi]]
  exact hr.neg
def wRow (r : List Int × Int) (x : Int) : List Int × Int := (r.1 ++ [x], r.2)
def wRows (rows : List (List Int × Int)) (f : Nat → Int) : List (List Int × Int) := (List.range rows.length).map fun i => wRow (rowOf rows i) (f i)
theorem BJ (rows : List (List Int × Int)) (f : Nat → Int) : (wRows rows f).length = rows.length := by unfold wRows; simp
theorem Fg {rows : List (List Int × Int)} {f : Nat → Int} {i : Nat} (h : i < rows.length) : rowOf (wRows rows f) i = wRow (rowOf rows i) (f i) := KG _ h
theorem J8 {c : Nat} {rows : List (List Int × Int)} {r : List Int × Int} (hv : validL c rows = true) (h8 : rows.length ≤ 8) (h1 : r.1.length = c) (h2 : ∀ x ∈ r.1, -9 ≤ x ∧ x ≤ 9) (h3 : -50 ≤ r.2 ∧ r.2 ≤ 50) : validL c (rows ++ [r]) = true := by
 obtain ⟨a1, a2, a3, a4⟩ := Au hv
 refine Ia (by omega) (by simp; omega) fun e he => ?_
 rcases List.mem_append.1 he with h | h
 ·obtain ⟨b1, b2, b3⟩ := a4 e h
  exact ⟨by omega, b2, b3⟩
 ·rw [List.mem_singleton.1 h]
  exact ⟨h1, fun x hx => by have := h2 x hx; omega, by omega, by omega⟩
theorem JF {c : Nat} {rows : List (List Int × Int)} {f : Nat → Int} (hv : validL c rows = true) (hc : c ≤ 8) (hf : ∀ i, -9 ≤ f i ∧ f i ≤ 9) : validL ((c + 1 : Nat) : Int) (wRows rows f) = true := by
 obtain ⟨a1, a2, a3, a4⟩ := Au hv
 refine Ia (by omega) (by rw [BJ]; exact a3) fun e he => ?_
 unfold wRows at he
 obtain ⟨i, hi, rfl⟩ := List.mem_map.1 he
 obtain ⟨b1, b2, b3⟩ := a4 _ (Bp (List.mem_range.1 hi))
 unfold wRow
 refine ⟨by simp; omega, fun x hx => ?_, b3⟩
 rcases List.mem_append.1 hx with h | h
 ·exact b2 x h
 ·rw [List.mem_singleton.1 h]; have := hf i; omega
theorem J9 {c : Nat} {rows : List (List Int × Int)} {f x : Nat → Int} {d : Int} (hv : validL c rows = true) (h : SolZ rows c x d) : SolZ (wRows rows f) (c + 1) (fun k => if k = c then 0 else x k) d := by
 obtain ⟨_, _, _, a4⟩ := Au hv
 refine ⟨h.pos, fun k hk => ?_, fun i hi => ?_⟩
 ·by_cases e : k = c
  ·simp [e]
  ·simp only [e, if_false]; exact h.nn k (by omega)
 ·rw [BJ] at hi
  rw [Fg hi]
  have hl : (rowOf rows i).1.length = c := by have := (a4 _ (Bp hi)).1; omega
  show sm c _ + _ = d * (rowOf rows i).2
  rw [← h.eq i hi]
  simp only [if_true, Int.zero_mul, Int.add_zero]
  refine LnM.sm_congr fun k hk => ?_
  simp only [show ¬ k = c by omega, if_false]
  unfold wRow
  rw [Gy (by omega)]
theorem JG {c : Nat} {rows : List (List Int × Int)} {f : Nat → Int} {nums : List ByteArray} {den : ByteArray} (hc : c ≤ 8) (hf : ∀ i, -9 ≤ f i ∧ f i ≤ 9) (h : checkL c rows nums den = true) : checkL ((c + 1 : Nat) : Int) (wRows rows f) (nums ++ [⟨#[48]⟩]) den = true := by
 obtain ⟨hv, hg, hl⟩ := B6 h
 have hl' : nums.length = c := by omega
 have hs := Cc h
 rw [hl'] at hs
 have hfm : formedL (nums ++ [⟨#[48]⟩]) den = true := by
  unfold formedL at hg ⊢
  have hb : badB ⟨#[48]⟩ = false := by kernel_rfl
  simp only [Bool.and_eq_true, decide_eq_true_eq, Bool.not_eq_true'] at hg ⊢
  refine ⟨⟨by simp; omega, ?_⟩, hg.2⟩
  rw [List.any_append, hg.1.2]
  simp [hb]
 refine Fd (JF hv hc hf) hfm (by simp; omega) ?_
 have hw := J9 (f := f) hv hs
 rw [List.length_append, List.length_singleton, hl']
 refine ⟨hw.pos, fun k hk => ?_, fun i hi => ?_⟩
 ·by_cases e : k = c
  ·rw [e, ← hl', Ff, zS0]; decide
  ·rw [Fe (by omega)]; exact hs.nn k (by omega)
 ·rw [← hw.eq i hi]
  refine LnM.sm_congr fun k hk => ?_
  by_cases e : k = c
  ·simp only [e, if_true]; rw [← hl', Ff, zS0]
  ·simp only [e, if_false]; rw [Fe (by omega)]
theorem KH {c : Nat} {rows : List (List Int × Int)} {f : Nat → Int} {ws : List ByteArray} (hv : validL c rows = true) (h : refutesL ((c + 1 : Nat) : Int) (wRows rows f) ws = true) : refutesL c rows ws = true := by
 obtain ⟨_, hl, hn⟩ := Bq h
 obtain ⟨_, _, _, a4⟩ := Au hv
 have hr := BX h
 rw [BJ] at hl
 refine DL hv hl hn ⟨fun k hk => ?_, ?_⟩
 ·have := hr.nn k (by omega)
  rw [BJ] at this
  rw [show sm rows.length (fun i => zS (sAt ws i) * gi (rowOf rows i).1 k) = sm rows.length (fun i => zS (sAt ws i) * gi (rowOf (wRows rows f) i).1 k) from LnM.sm_congr fun i hi => by
   have := (a4 _ (Bp hi)).1
   rw [Fg hi]; unfold wRow; rw [Gy (by omega)]]
  exact this
 ·have := hr.neg
  rw [BJ] at this
  rw [show sm rows.length (fun i => zS (sAt ws i) * (rowOf rows i).2) = sm rows.length (fun i => zS (sAt ws i) * (rowOf (wRows rows f) i).2) from LnM.sm_congr fun i hi => by rw [Fg hi]; rfl]
  exact this
end
section
open Go.RowKit
structure RowD where
 e : TypeId
 k : Nat
 v : Value
 n : Nat
 xs : List Value
structure Mem (w : World) (L : BLs) (R : List RowD) (W : World) : Prop where
 below : Below w.heap.size w W
 ge : ∀ p ∈ L, w.heap.size ≤ p.1
 blks : ∀ p ∈ L, Blk W p.1 p.2.1 p.2.2
 dup : L.Pairwise (fun p q => p.1 ≠ q.1)
 rows : ∀ r ∈ R, W.ownsRow w.heap.size r.e r.k r.v r.n r.xs
 rdis : R.Pairwise (fun r s => ∀ b, r.v.ownBlock = some b → s.v.ownBlock ≠ some b)
 rL : ∀ r ∈ R, ∀ p ∈ L, r.v.ownBlock ≠ some p.1
section
variable {w W W' : World} {L A C : BLs} {R RA RC : List RowD} {B : Nat} {cs : Array Value} {t : TypeId}
theorem Mem.start (w : World) : Mem w [] [] w := ⟨Below.refl _ _, fun p h => (by cases h), fun p h => (by cases h), .nil, fun p h => (by cases h), .nil, fun p h => (by cases h)⟩
theorem Mem.call (h : Mem w L R W) (hb : Below W.heap.size W W') : Mem w L R W' :=
 ⟨Ad hb h.below (Aa _), h.ge, fun p hp => (h.blks p hp).below hb, h.dup, fun r hr => Ar (h.rows r hr) hb, h.rdis, h.rL⟩
theorem Mem.drew (h : Mem w L R W) : Mem w L R W.drew := h.call (Ac W 1)
theorem Mem.drewN (h : Mem w L R W) (n : Nat) : Mem w L R (W.drewN n) := h.call (Ac W n)
theorem Mem.new (h : Mem w L R W) (o : Obj) : Mem w L R (W.alloc o) := h.call ((Below.refl _ _).alloc (Aa _) o)
theorem Mem.lt (h : Mem w L R W) : ∀ p ∈ L, p.1 < W.heap.size := fun p hp => (h.blks p hp).lt
theorem Mem.add (h : Mem w L R W) (cs : Array Value) (t : TypeId) : Mem w ((W.heap.size, cs, t) :: L) R (W.alloc (.cells cs t)) := by
 have h1 := h.new (.cells cs t)
 refine ⟨h1.below, fun p hp => ?_, fun p hp => ?_, List.pairwise_cons.2 ⟨fun p hp => ?_, h.dup⟩, h1.rows, h.rdis, fun r hr p hp => ?_⟩
 ·rcases List.mem_cons.1 hp with rfl | hp
  ·exact h.below.size
  ·exact h.ge p hp
 ·rcases List.mem_cons.1 hp with rfl | hp
  ·exact Blk.new _ _ _
  ·exact h1.blks p hp
 ·have := h.lt p hp; show W.heap.size ≠ p.1; omega
 ·rcases List.mem_cons.1 hp with rfl | hp
  ·intro e; have := ((h.rows r hr).lt _ e).2; omega
  ·exact h.rL r hr p hp
theorem Mem.add' (h : Mem w L R W) (cs : Array Value) (t : TypeId) : ∃ W', W' = W.alloc (.cells cs t) ∧ Mem w ((W.heap.size, cs, t) :: L) R W' ∧ W'.heap.size = W.heap.size + 1 := ⟨_, rfl, h.add cs t, World.size_alloc _ _⟩
theorem Mem.sub {L' : BLs} (h : Mem w L R W) (hs : L'.Sublist L) : Mem w L' R W :=
 ⟨h.below, fun p hp => h.ge p (hs.subset hp), fun p hp => h.blks p (hs.subset hp), h.dup.sublist hs, h.rows, h.rdis, fun r hr p hp => h.rL r hr p (hs.subset hp)⟩
theorem Mem.rsub {R' : List RowD} (h : Mem w L R W) (hs : R'.Sublist R) : Mem w L R' W :=
 ⟨h.below, h.ge, h.blks, h.dup, fun r hr => h.rows r (hs.subset hr), h.rdis.sublist hs, fun r hr => h.rL r (hs.subset hr)⟩
theorem Mem.perm {L' : BLs} (h : Mem w L R W) (hs : L.Perm L') : Mem w L' R W :=
 ⟨h.below, fun p hp => h.ge p (hs.mem_iff.2 hp), fun p hp => h.blks p (hs.mem_iff.2 hp), (hs.pairwise_iff (fun {_ _} hab e => hab e.symm)).1 h.dup, h.rows, h.rdis, fun r hr p hp => h.rL r hr p (hs.mem_iff.2 hp)⟩
theorem Mem.cell (h : Mem w L R W) (B : Nat) (cs : Array Value) (t : TypeId) (hm : (B, cs, t) ∈ L) (i : Nat) : W.cell? ⟨B, i, none⟩ = cs[i]? := (h.blks _ hm).cell i
theorem Mem.frozen (h : Mem w L R W) (B : Nat) (cs : Array Value) (t : TypeId) (hm : (B, cs, t) ∈ L) (i : Nat) : W.frozen? ⟨B, i, none⟩ = false := (h.blks _ hm).frozen i
theorem Mem.old (h : Mem w L R W) {b k : Nat} {u : Value} (hb : b < w.heap.size) (hu : w.cell? ⟨b, k, none⟩ = some u) : W.cell? ⟨b, k, none⟩ = some u := (h.below.cell (p := ⟨b, k, none⟩) hb).trans hu
theorem Mem.size (h : Mem w L R W) : w.heap.size ≤ W.heap.size := h.below.size
theorem Mem.put (h : Mem w (A ++ (B, cs, t) :: C) R W) (i : Nat) (x : Value) : Mem w (A ++ (B, cs.setIfInBounds i x, t) :: C) R (W.setCell ⟨B, i, none⟩ x) := by
 have hB : (B, cs, t) ∈ A ++ (B, cs, t) :: C := List.mem_append_right _ List.mem_cons_self
 have ho : Only [B] W (W.setCell ⟨B, i, none⟩ x) := (Only.refl [B] W).setCell (p := ⟨B, i, none⟩) (by simp) x
 have hd := List.pairwise_append.1 h.dup
 have hdc := List.pairwise_cons.1 hd.2.1
 have hge := h.ge _ hB
 have old : ∀ p, p ∈ A ∨ p ∈ C → p ∈ A ++ (B, cs, t) :: C ∧ p.1 ≠ B := fun p hp => by
  rcases hp with hp | hp
  ·exact ⟨List.mem_append_left _ hp, hd.2.2 p hp _ List.mem_cons_self⟩
  ·exact ⟨List.mem_append_right _ (List.mem_cons_of_mem _ hp), fun e => hdc.1 p hp e.symm⟩
 have split : ∀ p, p ∈ A ++ (B, cs.setIfInBounds i x, t) :: C → p = (B, cs.setIfInBounds i x, t) ∨ (p ∈ A ∨ p ∈ C) := fun p hp => by
  rcases List.mem_append.1 hp with h1 | h1
  ·exact .inr (.inl h1)
  ·rcases List.mem_cons.1 h1 with h1 | h1
   ·exact .inl h1
   ·exact .inr (.inr h1)
 refine ⟨h.below.trans (ho.toBelow h.below.size (by simpa using hge)), fun p hp => ?_, fun p hp => ?_, ?_, fun r hr => ?_, h.rdis, fun r hr p hp => ?_⟩
 ·rcases split p hp with rfl | hp
  ·exact hge
  ·exact h.ge p (old p hp).1
 ·rcases split p hp with rfl | hp
  ·exact (h.blks _ hB).set i x
  ·exact (h.blks p (old p hp).1).only ho (by simpa using (old p hp).2)
 ·refine List.pairwise_append.2 ⟨hd.1, List.pairwise_cons.2 ⟨hdc.1, hdc.2⟩, fun p hp q hq => ?_⟩
  rcases List.mem_cons.1 hq with rfl | hq
  ·exact hd.2.2 p hp (B, cs, t) List.mem_cons_self
  ·exact hd.2.2 p hp q (List.mem_cons_of_mem _ hq)
 ·refine (h.rows r hr).kept (Ai W B i x) ?_
  cases hb : r.v.ownBlock with
  | none => exact .inl rfl
  | some b => exact .inr fun e => h.rL r hr _ hB (by rw [hb, e])
 ·rcases split p hp with rfl | hp
  ·exact h.rL r hr (B, cs, t) hB
  ·exact h.rL r hr p (old p hp).1
theorem Mem.row0 (h : Mem w L R W) (e : TypeId) (k : Nat) : Mem w L (⟨e, k, .slice none 0 0, 0, []⟩ :: R) W := by
 refine ⟨h.below, h.ge, h.blks, h.dup, fun r hr => ?_, List.pairwise_cons.2 ⟨fun s _ b hb => (by cases hb), h.rdis⟩, fun r hr p hp => ?_⟩
 ·rcases List.mem_cons.1 hr with rfl | hr
  ·exact World.ownsRow_nil _ _ _ _
  ·exact h.rows r hr
 ·rcases List.mem_cons.1 hr with rfl | hr
  ·intro e; cases e
  ·exact h.rL r hr p hp
theorem Mem.app {e : TypeId} {k n n' : Nat} {v v' : Value} {xs xs' : List Value} (h : Mem w L (RA ++ ⟨e, k, v, n, xs⟩ :: RC) W) (hg : W.grownBy W' v.ownBlock) (hr : W'.ownsRow w.heap.size e k v' n' xs') (hv : ∀ b, v'.ownBlock = some b → v.ownBlock = some b ∨ W.heap.size ≤ b) :
  Mem w L (RA ++ ⟨e, k, v', n', xs'⟩ :: RC) W' := by
 have hM : (⟨e, k, v, n, xs⟩ : RowD) ∈ RA ++ ⟨e, k, v, n, xs⟩ :: RC := List.mem_append_right _ List.mem_cons_self
 have hd := List.pairwise_append.1 h.rdis
 have hdc := List.pairwise_cons.1 hd.2.1
 have old : ∀ s, s ∈ RA ∨ s ∈ RC → s ∈ RA ++ ⟨e, k, v, n, xs⟩ :: RC ∧ (∀ b, s.v.ownBlock = some b → v.ownBlock ≠ some b) := fun s hs => by
  rcases hs with hs | hs
  ·exact ⟨List.mem_append_left _ hs, fun b hb => hd.2.2 s hs _ List.mem_cons_self b hb⟩
  ·exact ⟨List.mem_append_right _ (List.mem_cons_of_mem _ hs), fun b hb e' => hdc.1 s hs b e' hb⟩
 have split : ∀ s, s ∈ RA ++ ⟨e, k, v', n', xs'⟩ :: RC → s = ⟨e, k, v', n', xs'⟩ ∨ (s ∈ RA ∨ s ∈ RC) := fun p hp => by
  rcases List.mem_append.1 hp with h1 | h1
  ·exact .inr (.inl h1)
  ·rcases List.mem_cons.1 h1 with h1 | h1
   ·exact .inl h1
   ·exact .inr (.inr h1)
 have hge : ∀ b, v.ownBlock = some b → w.heap.size ≤ b := fun b hb => ((h.rows _ hM).lt b hb).1
 have dis : ∀ s, s ∈ RA ∨ s ∈ RC → ∀ b, s.v.ownBlock = some b → v'.ownBlock ≠ some b := fun s hs b hb e' => by
  rcases hv b e' with h1 | h1
  ·exact (old s hs).2 b hb h1
  ·have := ((h.rows s (old s hs).1).lt b hb).2; omega
 refine ⟨⟨hg.os.trans h.below.os, hg.tape.trans h.below.tape, hg.output.trans h.below.output, Nat.le_trans h.below.size hg.size, fun i hi => (hg.block i (A9 hi h.below.size) (fun e' => by have := hge i e'.symm; omega)).trans (h.below.block i hi)⟩, h.ge, fun p hp => ?_, h.dup, fun s hs => ?_, ?_, fun s hs p hp => ?_⟩
 ·exact (h.blks p hp).kept hg (fun e' => h.rL _ hM p hp e'.symm)
 ·rcases split s hs with rfl | hs
  ·exact hr
  ·refine (h.rows s (old s hs).1).kept hg ?_
   cases hb : s.v.ownBlock with
   | none => exact .inl rfl
   | some b => exact .inr fun e' => (old s hs).2 b hb e'.symm
 ·refine List.pairwise_append.2 ⟨hd.1, List.pairwise_cons.2 ⟨fun s hs b hb e' => dis s (.inr hs) b e' hb, hdc.2⟩, fun s hs q hq => ?_⟩
  rcases List.mem_cons.1 hq with rfl | hq
  ·exact fun b hb => dis s (.inl hs) b hb
  ·exact hd.2.2 s hs q (List.mem_cons_of_mem _ hq)
 ·rcases split s hs with rfl | hs
  ·intro e'
   rcases hv p.1 e' with h1 | h1
   ·exact h.rL _ hM p hp h1
   ·have := h.lt p hp; omega
  ·exact h.rL s (old s hs).1 p hp
theorem Mem.own {e : TypeId} {k n : Nat} {v : Value} {xs : List Value} (h : Mem w L R W) (hr : (⟨e, k, v, n, xs⟩ : RowD) ∈ R) : W.ownsRow w.heap.size e k v n xs := h.rows _ hr
theorem Mem.freeze {e : TypeId} {k n : Nat} {v : Value} {xs : List Value} (h : Mem w L (⟨e, k, v, n, xs⟩ :: R) W) :
  (v = .slice none 0 0 ∧ n = 0 ∧ xs = [] ∧ Mem w L R W) ∨ ∃ g cap cs, v = .slice (some ⟨g, 0, none⟩) n cap ∧ n ≤ cap ∧ cap ≤ maxLen ∧ cs.size = cap * k ∧ cs.toList.take (n * k) = xs ∧ Mem w ((g, cs, e) :: L) R W := by
 have hr := h.rows _ List.mem_cons_self
 have hR := h.rsub (List.sublist_cons_self _ _)
 rcases hr.2 with ⟨h1, h2⟩ | ⟨g, cap, cs, h1, h2, h3, h4, h5, h6, h7⟩
 ·have h1' : v = .slice none 0 0 := h1
  have h2' : n = 0 := h2
  subst h2'
  exact .inl ⟨h1', rfl, List.eq_nil_of_length_eq_zero (by have := hr.1; simpa using this), hR⟩
 ·have h1' : v = .slice (some ⟨g, 0, none⟩) n cap := h1
  subst h1'
  refine .inr ⟨g, cap, cs, rfl, h4, h5, h6, h7, h.below, fun p hp => ?_, fun p hp => ?_, List.pairwise_cons.2 ⟨fun p hp e' => ?_, h.dup⟩, hR.rows, hR.rdis, fun r hr' p hp => ?_⟩
  ·rcases List.mem_cons.1 hp with rfl | hp
   ·exact h2
   ·exact h.ge p hp
  ·rcases List.mem_cons.1 hp with rfl | hp
   ·exact h3
   ·exact h.blks p hp
  ·exact h.rL _ List.mem_cons_self p hp (by rw [← e']; rfl)
  ·rcases List.mem_cons.1 hp with rfl | hp
   ·intro e'
    exact (List.pairwise_cons.1 h.rdis).1 r hr' g rfl e'
   ·exact hR.rL r hr' p hp
theorem Mem.thaw {e : TypeId} {k n cap : Nat} {xs : List Value} (h : Mem w ((B, cs, e) :: L) R W) (hn : n ≤ cap) (hm : cap ≤ maxLen) (hs : cs.size = cap * k) (hx : cs.toList.take (n * k) = xs) : Mem w L (⟨e, k, .slice (some ⟨B, 0, none⟩) n cap, n, xs⟩ :: R) W := by
 have hL := h.sub (List.sublist_cons_self _ _)
 have hd := List.pairwise_cons.1 h.dup
 refine ⟨h.below, hL.ge, hL.blks, hL.dup, fun r hr => ?_, List.pairwise_cons.2 ⟨fun s hs b hb e' => ?_, h.rdis⟩, fun r hr p hp => ?_⟩
 ·rcases List.mem_cons.1 hr with rfl | hr
  ·refine ⟨by subst hx; rw [List.length_take, Array.length_toList, hs]; exact Nat.min_eq_left (Nat.mul_le_mul_right _ hn), .inr ⟨B, cap, cs, rfl, h.ge _ List.mem_cons_self, h.blks _ List.mem_cons_self, hn, hm, hs, hx⟩⟩
  ·exact h.rows r hr
 ·cases hb
  exact h.rL s hs _ List.mem_cons_self e'
 ·rcases List.mem_cons.1 hr with rfl | hr
  ·intro e'
   exact hd.1 p hp (Option.some.inj e')
  ·exact hL.rL r hr p hp
theorem Mem.env (h : Mem w L R W) (hE : Env w) : Env W := hE.below h.below (Aa _)
theorem Mem.tail (h : Mem w ((B, cs, t) :: L) R W) : Mem w L R W := h.sub (List.sublist_cons_self _ _)
theorem Mem.join {W0 : World} {cs' : Array Value} {t' : TypeId} (h0 : Mem w ((B, cs, t) :: L) R W0) (h : Mem w L R W) (hb : Blk W B cs' t') : Mem w ((B, cs', t') :: L) R W := by
 refine ⟨h.below, fun p hp => ?_, fun p hp => ?_, List.pairwise_cons.2 ⟨(List.pairwise_cons.1 h0.dup).1, h.dup⟩, h.rows, h.rdis, fun r hr p hp => ?_⟩
 ·rcases List.mem_cons.1 hp with rfl | hp
  ·exact h0.ge (B, cs, t) List.mem_cons_self
  ·exact h.ge p hp
 ·rcases List.mem_cons.1 hp with rfl | hp
  ·exact hb
  ·exact h.blks p hp
 ·rcases List.mem_cons.1 hp with rfl | hp
  ·exact h0.rL r hr (B, cs, t) List.mem_cons_self
  ·exact h.rL r hr p hp
theorem Mem.put0 (h : Mem w ((B, cs, t) :: L) R W) (i : Nat) (x : Value) : Mem w ((B, cs.setIfInBounds i x, t) :: L) R (W.setCell ⟨B, i, none⟩ x) := h.put (A := []) i x
theorem Mem.off {W0 : World} {ds : Array Value} {t' : TypeId} (h0 : Mem w ((B, ds, t') :: L) R W0) (h : Mem w L R W) (hb : Blk W B cs t) (i : Nat) (x : Value) : Mem w L R (W.setCell ⟨B, i, none⟩ x) := ((h0.join h hb).put0 i x).tail
theorem Mem.app0 {e : TypeId} {k n n' : Nat} {v v' : Value} {xs xs' : List Value} (h : Mem w L (⟨e, k, v, n, xs⟩ :: R) W) (hg : W.grownBy W' v.ownBlock) (hr : W'.ownsRow w.heap.size e k v' n' xs') (hv : ∀ b, v'.ownBlock = some b → v.ownBlock = some b ∨ W.heap.size ≤ b) :
 Mem w L (⟨e, k, v', n', xs'⟩ :: R) W' := h.app (RA := []) hg hr hv
theorem Mem.own0 {e : TypeId} {k n : Nat} {v : Value} {xs : List Value} (h : Mem w L (⟨e, k, v, n, xs⟩ :: R) W) : W.ownsRow w.heap.size e k v n xs := h.rows _ List.mem_cons_self
theorem Mem.rtail {r : RowD} (h : Mem w L (r :: R) W) : Mem w L R W := h.rsub (List.sublist_cons_self _ _)
theorem Mem.front {p : Nat × Array Value × TypeId} (h : Mem w (A ++ p :: C) R W) : Mem w (p :: (A ++ C)) R W := h.perm List.perm_middle
theorem Mem.front2 {p q : Nat × Array Value × TypeId} (h : Mem w (A ++ p :: q :: C) R W) : Mem w (q :: (A ++ C)) R W := (h.sub (List.Sublist.append (List.Sublist.refl A) (List.sublist_cons_self p (q :: C)))).front
theorem Jj {O : Nat} {a b : Value} (h : Blk W O #[a, b] t) (x y : Value) : W.cell? ⟨O, 0, none⟩ = some a ∧ W.cell? ⟨O, 1, none⟩ = some b ∧ W.frozen? ⟨O, 0, none⟩ = false ∧ W.frozen? ⟨O, 1, none⟩ = false ∧
  ((W.setCell ⟨O, 0, none⟩ x).setCell ⟨O, 1, none⟩ y).cell? ⟨O, 0, none⟩ = some x ∧ ((W.setCell ⟨O, 0, none⟩ x).setCell ⟨O, 1, none⟩ y).cell? ⟨O, 1, none⟩ = some y :=
 ⟨h.cell 0, h.cell 1, h.frozen 0, h.frozen 1, ((h.set 0 x).set 1 y).cell 0, ((h.set 0 x).set 1 y).cell 1⟩
theorem Mem.out2 {O : Nat} {a b : Value} (h : Mem w ((O, #[a, b], t) :: L) R W) (x y : Value) : Mem w ((O, #[x, y], t) :: L) R ((W.setCell ⟨O, 0, none⟩ x).setCell ⟨O, 1, none⟩ y) := (h.put0 0 x).put0 1 y
end
end
section
open Go.RowKit
open LnM (sm)
theorem sm2 (f : Nat → Int) : sm 2 f = f 0 + f 1 := by show (0 + f 0) + f 1 = _; omega
theorem Id {a b : Int} {x : Nat → Int} {d : Int} (h : SolZ (twoL a b) 2 x d) : x 0 + x 1 = d * a ∧ x 0 - x 1 = d * b ∧ 0 ≤ x 0 ∧ 0 ≤ x 1 ∧ 0 < d := by
 have e0 := h.eq 0 (show 0 < 2 by decide)
 have e1 := h.eq 1 (show 1 < 2 by decide)
 rw [sm2] at e0 e1
 have g0 : x 0 * 1 + x 1 * 1 = d * a := e0
 have g1 : x 0 * 1 + x 1 * (-1) = d * b := e1
 exact ⟨by omega, by omega, h.nn 0 (by decide), h.nn 1 (by decide), h.pos⟩
theorem Ie {a b : Int} (x : Nat → Int) {d : Int} (h0 : x 0 + x 1 = d * a) (h1 : x 0 - x 1 = d * b) (h2 : 0 ≤ x 0) (h3 : 0 ≤ x 1) (h4 : 0 < d) : SolZ (twoL a b) 2 x d := by
 refine ⟨h4, fun k hk => ?_, fun i hi => ?_⟩
 ·match k, hk with
  | 0, _ => exact h2
  | 1, _ => exact h3
 ·rw [sm2]
  match i, hi with
  | 0, _ => show x 0 * 1 + x 1 * 1 = d * a; omega
  | 1, _ => show x 0 * 1 + x 1 * (-1) = d * b; omega
theorem G5 {a b : Int} (ha : -1000 ≤ a ∧ a ≤ 1000) (hb : -1000 ≤ b ∧ b ≤ 1000) : validL 2 (twoL a b) = true := by
 unfold validL twoL badE
 have l1 : ([1, 1] : List Int).any largeB = false := by decide
 have l2 : ([1, -1] : List Int).any largeB = false := by decide
 simp only [List.any_cons, List.any_nil, l1, l2]
 simp
 omega
theorem two_eq {nums : List ByteArray} {den : ByteArray} (h : checkL 2 (twoL 3 1) nums den = true) : equalL nums den [⟨#[52]⟩, ⟨#[50]⟩] ⟨#[50]⟩ = true := by
 obtain ⟨_, hf, hl⟩ := B6 h
 have hl2 : nums.length = 2 := by omega
 have hs := Cc h
 rw [hl2] at hs
 obtain ⟨e0, e1, _, _, _⟩ := Id hs
 have f2 : formedL [⟨#[52]⟩, ⟨#[50]⟩] ⟨#[50]⟩ = true := by kernel_rfl
 have z2 : zS ⟨#[50]⟩ = 2 := by kernel_rfl
 have z4 : zS ⟨#[52]⟩ = 4 := by kernel_rfl
 unfold equalL
 rw [hf, f2, hl2]
 simp only [Bool.true_and, Bool.and_eq_true, List.all_eq_true, decide_eq_true_eq]
 refine ⟨by simp, fun i hi => ?_⟩
 rw [z2]
 match i, List.mem_range.1 hi with
 | 0, _ => show _ = zS ⟨#[52]⟩ * _; rw [z4]; omega
 | 1, _ => show _ = zS ⟨#[50]⟩ * _; rw [z2]; omega
theorem Ci (cols : Nat) (v : Value) (rows : List (List Int × Int)) (w : World) (hE : Env w) (h : SlE w v rows) (hv : validL cols rows = true) (h8 : rows.length ≤ 8) {x : Nat → Int} {d : Int} (hs : SolZ rows cols x d) :
  Calls Tryz.prog 14 #[.agg #[.int .i64 cols, v]] w fun e w' => ∃ nv nums den, e = .returned (.tuple #[.agg #[.bool true, nv, .string den, .slice none 0 0], .int .i64 0]) ∧ SlS w' nv nums ∧ checkL cols rows nums den = true ∧ Below w.heap.size w w' :=
 (CD cols v rows w hE h hv h8).mono fun e w' ⟨hb, hh⟩ => by
  rcases hh with ⟨nv, nums, den, he, hn, hc⟩ | ⟨wv, ws, he, hw, hr⟩
  ·exact ⟨nv, nums, den, he, hn, hc, hb⟩
  ·exact (G1 hs (BX hr)).elim
theorem Ds (cols : Nat) (v : Value) (rows : List (List Int × Int)) (w : World) (hE : Env w) (h : SlE w v rows) (hv : validL cols rows = true) (h8 : rows.length ≤ 8) (hs : ∀ x d, ¬ SolZ rows cols x d) :
  Calls Tryz.prog 14 #[.agg #[.int .i64 cols, v]] w fun e w' => ∃ wv ws, e = .returned (.tuple #[.agg #[.bool false, .slice none 0 0, .string ⟨#[]⟩, wv], .int .i64 0]) ∧ SlS w' wv ws ∧ refutesL cols rows ws = true ∧ Below w.heap.size w w' :=
 (CD cols v rows w hE h hv h8).mono fun e w' ⟨hb, hh⟩ => by
  rcases hh with ⟨nv, nums, den, he, hn, hc⟩ | ⟨wv, ws, he, hw, hr⟩
  ·have hl := (B6 hc).2.2
   have hl2 : nums.length = cols := by omega
   have := Cc hc
   rw [hl2] at this
   exact (hs _ _ this).elim
  ·exact ⟨wv, ws, he, hw, hr, hb⟩
theorem solve31 (v : Value) (w : World) (hE : Env w) (h : SlE w v (twoL 3 1)) :
  Calls Tryz.prog 14 #[.agg #[.int .i64 2, v]] w fun e w' => ∃ a nums den cp, e = .returned (.tuple #[.agg #[.bool true, .slice a nums.length cp, .string den, .slice none 0 0], .int .i64 0]) ∧ SlS w' (.slice a nums.length cp) nums ∧ equalL nums den [⟨#[52]⟩, ⟨#[50]⟩] ⟨#[50]⟩ = true ∧ Below w.heap.size w w' :=
 (Ci 2 v (twoL 3 1) w hE h (G5 (by omega) (by omega)) (by decide) (Ie (fun k => if k = 0 then 2 else 1) (d := 1) (by decide) (by decide) (by decide) (by decide) (by decide))).mono fun e w' ⟨nv, nums, den, he, hn, hc, hb⟩ => by
  obtain ⟨a, cp, rfl⟩ := hn.shape
  exact ⟨a, nums, den, cp, he, hn, two_eq hc, hb⟩
theorem solve34 (v : Value) (w : World) (hE : Env w) (h : SlE w v (twoL 3 4)) :
  Calls Tryz.prog 14 #[.agg #[.int .i64 2, v]] w fun e w' => ∃ a ws cp, e = .returned (.tuple #[.agg #[.bool false, .slice none 0 0, .string ⟨#[]⟩, .slice a ws.length cp], .int .i64 0]) ∧ SlS w' (.slice a ws.length cp) ws ∧ refutesL 2 (twoL 3 4) ws = true ∧ Below w.heap.size w w' :=
 (Ds 2 v (twoL 3 4) w hE h (G5 (by omega) (by omega)) (by decide) (fun x d hs => by
  obtain ⟨e0, e1, _, h1, h2⟩ := Id hs
  omega)).mono fun e w' ⟨wv, ws, he, hn, hr, hb⟩ => by
  obtain ⟨a, cp, rfl⟩ := hn.shape
  exact ⟨a, ws, cp, he, hn, hr, hb⟩
theorem solve00 (v : Value) (w : World) (hE : Env w) (h : SlE w v [([], 0)]) :
  Calls Tryz.prog 14 #[.agg #[.int .i64 0, v]] w fun e w' => ∃ a den cp, e = .returned (.tuple #[.agg #[.bool true, .slice a 0 cp, .string den, .slice none 0 0], .int .i64 0]) ∧ Below w.heap.size w w' :=
 (Ci 0 v [([], 0)] w hE h (by rw [show ((0 : Nat) : Int) = 0 from rfl]; decide) (by decide) (x := fun _ => 0) (d := 1) ⟨by decide, fun k hk => by omega, fun i hi => by
  obtain rfl : i = 0 := by simp at hi; exact hi
  rfl⟩).mono fun e w' ⟨nv, nums, den, he, hn, hc, hb⟩ => by
  obtain ⟨a, cp, rfl⟩ := hn.shape
  have hl := (B6 hc).2.2
  rw [show nums.length = 0 by omega] at he
  exact ⟨a, den, cp, he, hb⟩
theorem solve01 (v : Value) (w : World) (hE : Env w) (h : SlE w v [([], 1)]) :
  Calls Tryz.prog 14 #[.agg #[.int .i64 0, v]] w fun e w' => ∃ a cp, e = .returned (.tuple #[.agg #[.bool false, .slice none 0 0, .string ⟨#[]⟩, .slice a 1 cp], .int .i64 0]) ∧ Below w.heap.size w w' :=
 (Ds 0 v [([], 1)] w hE h (by rw [show ((0 : Nat) : Int) = 0 from rfl]; decide) (by decide) (fun x d hs => by
  have e := hs.eq 0 (by decide)
  have g : (0 : Int) = d * 1 := e
  have := hs.pos
  omega)).mono fun e w' ⟨wv, ws, he, hn, hr, hb⟩ => by
  obtain ⟨a, cp, rfl⟩ := hn.shape
  have hl := (Bq hr).2.1
  rw [show ws.length = 1 from hl] at he
  exact ⟨a, cp, he, hb⟩
theorem solve10 (v : Value) (w : World) (h : SlE w v [([], 0)]) :
  Calls Tryz.prog 14 #[.agg #[.int .i64 1, v]] w (Rets w (.tuple #[.agg #[.bool false, .slice none 0 0, .string ⟨#[]⟩, .slice none 0 0], .int .i64 60])) :=
 KB 1 v [([], 0)] w h (by decide)
theorem SlS.of2 {W : World} {B : Nat} {s t : ByteArray} (h : Blk W B #[.string s, .string t] 9) : SlS W (.slice (some ⟨B, 0, none⟩) 2 2) [s, t] := by
 refine .inr ⟨B, 0, 2, rfl, Aa _, by unfold maxLen; decide, h.lt, fun j x hj => ?_⟩
 match j, hj with
 | 0, hj => cases hj; exact h.cell 0
 | 1, hj => cases hj; exact h.cell 1
theorem SlE.of1 {W : World} {B : Nat} {z : Int} (h : Blk W B #[.slice none 0 0, .int .i64 z] 60) : SlE W (.slice (some ⟨B, 0, none⟩) 1 1) [([], z)] := by
 refine .inr ⟨B, 0, 1, rfl, Aa _, by unfold maxLen; decide, h.lt, fun j x hj => ?_⟩
 match j, hj with
 | 0, hj => cases hj; exact ⟨_, h.cell 0, .inl ⟨rfl, rfl⟩, h.cell 1⟩
theorem mix13 : mixR { p := 1, q := 3, na := [⟨#[49]⟩, ⟨#[48]⟩], nb := [⟨#[48]⟩, ⟨#[49]⟩], da := ⟨#[49]⟩, db := ⟨#[49]⟩ } = ([⟨#[49]⟩, ⟨#[51]⟩], ⟨#[52]⟩, 0) := by kernel_rfl
structure MS (w : World) (L : BLs) (ss : List (Value × List ByteArray)) (W : World) : Prop where
 mem : Mem w L [] W
 ss : ∀ p ∈ ss, SlS W p.1 p.2
section
variable {w W W' : World} {L : BLs} {ss : List (Value × List ByteArray)}
theorem MS.start (w : World) : MS w [] [] w := ⟨Mem.start w, fun p h => by cases h⟩
theorem MS.call (h : MS w L ss W) (hb : Below W.heap.size W W') : MS w L ss W' := ⟨h.mem.call hb, fun p hp => (h.ss p hp).below hb⟩
theorem MS.new (h : MS w L ss W) (o : Obj) : MS w L ss (W.alloc o) := h.call ((Below.refl _ _).alloc (Aa _) o)
theorem MS.add' (h : MS w L ss W) (cs : Array Value) (t : TypeId) : ∃ W' B, W' = W.alloc (.cells cs t) ∧ B = W.heap.size ∧ MS w ((B, cs, t) :: L) ss W' := ⟨_, _, rfl, rfl, h.mem.add cs t, (h.new _).ss⟩
theorem MS.slice (h : MS w L ss W) {v : Value} {l : List ByteArray} (hv : SlS W v l) : MS w L ((v, l) :: ss) W := ⟨h.mem, fun p hp => by
 rcases List.mem_cons.1 hp with rfl | hp
 ·exact hv
 ·exact h.ss p hp⟩
theorem MS.cell (h : MS w L ss W) (B : Nat) (cs : Array Value) (t : TypeId) (hm : (B, cs, t) ∈ L) (i : Nat) : W.cell? ⟨B, i, none⟩ = cs[i]? := h.mem.cell B cs t hm i
theorem MS.env (h : MS w L ss W) (hE : Env w) : Env W := h.mem.env hE
end
theorem ck31 : checkL 2 (twoL 3 1) [⟨#[52]⟩, ⟨#[50]⟩] ⟨#[50]⟩ = true := by kernel_rfl
theorem ck32 : checkL 2 (twoL 3 2) [⟨#[52]⟩, ⟨#[50]⟩] ⟨#[50]⟩ = false := by kernel_rfl
theorem rf34 : refutesL 2 (twoL 3 4) [⟨#[49]⟩, ⟨#[45, 49]⟩] = true := by kernel_rfl
theorem rf34n : refutesL 2 (twoL 3 4) [⟨#[45, 49]⟩, ⟨#[49]⟩] = false := by kernel_rfl
theorem rf31n : refutesL 2 (twoL 3 1) [⟨#[49]⟩, ⟨#[45, 49]⟩] = false := by kernel_rfl
theorem vl11 : validL 2 (twoL 1 1) = true := by kernel_rfl
theorem vl65 : validL 65 [] = false := by kernel_rfl
end
section
open Go.RowKit
attribute [local go_sem] Oper.semAt_some
section
variable {ops : Array Oper} {rest : List Oper} {o : Oper} {a : Act} {Q : Exit → Act → World → Prop} {K : Act → World → Prop} {w0 w : World} {L : BLs} {R : List RowD} {s x : Operand} {v : Value} {n : Nat} {xs : List Value} {g : Nat}
theorem D7 {e : TypeId} {k : Nat} {v : Value} {xs : List Value} (h : w.ownsRow w0.heap.size e k v (n + 1) xs) : ∃ g' cap, v = .slice (some ⟨g', 0, none⟩) (n + 1) cap := by
 rcases h.2 with ⟨_, h0⟩ | ⟨g', cap, cur, e, _⟩
 ·omega
 ·exact ⟨g', cap, e⟩
theorem FX (ho : o.op = .call { callee := .builtin .append, args := #[s, x], argTypes := #[22, 22] }) (hM : Mem w0 L (⟨3, 1, v, n, xs⟩ :: R) w) (hs : a.eval s = v)
  {z : Int} (hx : a.eval x = .slice (some ⟨g, 0, none⟩) 1 1) (hu : w.cell? ⟨g, 0, none⟩ = some (.int .i64 z)) (hn : n ≤ 1000000)
  (h : ∀ g' cap w', Mem w0 L (⟨3, 1, .slice (some ⟨g', 0, none⟩) (n + 1) cap, n + 1, xs ++ [.int .i64 z]⟩ :: R) w' → K (a.put o.dst (.slice (some ⟨g', 0, none⟩) (n + 1) cap)) w') : Oper.wp Tryz.prog o a w K Q :=
 AE 22 3 (.int .i64 0) 8 Tryz.underlying22 Bu rfl s x ho v n xs hs hM.own0 g _ hx hu rfl (by omega) hn hM.size fun v' w' r1 r2 r3 => by
  obtain ⟨g', cap, rfl⟩ := D7 r1
  exact h g' cap w' (hM.app0 r2 r1 r3)
theorem KD (ho : o.op = .call { callee := .builtin .append, args := #[s, x], argTypes := #[28, 28] }) (hM : Mem w0 L (⟨9, 1, v, n, xs⟩ :: R) w) (hs : a.eval s = v)
  {z : ByteArray} (hx : a.eval x = .slice (some ⟨g, 0, none⟩) 1 1) (hu : w.cell? ⟨g, 0, none⟩ = some (.string z)) (hn : n ≤ 1000000)
  (h : ∀ g' cap w', Mem w0 L (⟨9, 1, .slice (some ⟨g', 0, none⟩) (n + 1) cap, n + 1, xs ++ [.string z]⟩ :: R) w' → K (a.put o.dst (.slice (some ⟨g', 0, none⟩) (n + 1) cap)) w') : Oper.wp Tryz.prog o a w K Q :=
 AE 28 9 (.string ⟨#[]⟩) 16 Tryz.underlying28 Ca rfl s x ho v n xs hs hM.own0 g _ hx hu rfl (by omega) hn hM.size fun v' w' r1 r2 r3 => by
  obtain ⟨g', cap, rfl⟩ := D7 r1
  exact h g' cap w' (hM.app0 r2 r1 r3)
theorem FY (ho : o.op = .call { callee := .builtin .append, args := #[s, x], argTypes := #[25, 25] }) (hM : Mem w0 L (⟨60, 2, v, n, xs⟩ :: R) w) (hs : a.eval s = v)
  {u1 u2 : Value} (hx : a.eval x = .slice (some ⟨g, 0, none⟩) 1 1) (hu1 : w.cell? ⟨g, 0, none⟩ = some u1) (hu2 : w.cell? ⟨g, 1, none⟩ = some u2) (h1 : u1.oneCell' = true) (h2 : u2.oneCell' = true) (hn : n ≤ 1000000)
  (h : ∀ g' cap w', Mem w0 L (⟨60, 2, .slice (some ⟨g', 0, none⟩) (n + 1) cap, n + 1, xs ++ [u1, u2]⟩ :: R) w' → K (a.put o.dst (.slice (some ⟨g', 0, none⟩) (n + 1) cap)) w') : Oper.wp Tryz.prog o a w K Q :=
 Fx 25 Tryz.underlying25 s x ho v n xs hs hM.own0 g u1 u2 hx hu1 hu2 h1 h2 hn hM.size fun v' w' r1 r2 r3 => by
  obtain ⟨g', cap, rfl⟩ := D7 r1
  exact h g' cap w' (hM.app0 r2 r1 r3)
theorem CZ (hgd : o.guard = none) (ho : o.op = .call { callee := .builtin .append, args := #[s, x], argTypes := #[22, 22] }) (hM : Mem w0 L (⟨3, 1, v, n, xs⟩ :: R) w) (hs : a.eval s = v)
  {z : Int} (hx : a.eval x = .slice (some ⟨g, 0, none⟩) 1 1) (hu : w.cell? ⟨g, 0, none⟩ = some (.int .i64 z)) (hn : n ≤ 1000000)
  (h : ∀ g' cap w', Mem w0 L (⟨3, 1, .slice (some ⟨g', 0, none⟩) (n + 1) cap, n + 1, xs ++ [.int .i64 z]⟩ :: R) w' → wpList Tryz.prog ops Q rest (a.put o.dst (.slice (some ⟨g', 0, none⟩) (n + 1) cap)) w') : wpList Tryz.prog ops Q (o :: rest) a w :=
 wpList_plain hgd fun _ hK => FX ho hM hs hx hu hn fun g' cap w' hm => hK _ _ (h g' cap w' hm)
theorem Ch (hgd : o.guard = none) (ho : o.op = .call { callee := .builtin .append, args := #[s, x], argTypes := #[25, 25] }) (hM : Mem w0 L (⟨60, 2, v, n, xs⟩ :: R) w) (hs : a.eval s = v)
  {u1 u2 : Value} (hx : a.eval x = .slice (some ⟨g, 0, none⟩) 1 1) (hu1 : w.cell? ⟨g, 0, none⟩ = some u1) (hu2 : w.cell? ⟨g, 1, none⟩ = some u2) (h1 : u1.oneCell' = true) (h2 : u2.oneCell' = true) (hn : n ≤ 1000000)
  (h : ∀ g' cap w', Mem w0 L (⟨60, 2, .slice (some ⟨g', 0, none⟩) (n + 1) cap, n + 1, xs ++ [u1, u2]⟩ :: R) w' → wpList Tryz.prog ops Q rest (a.put o.dst (.slice (some ⟨g', 0, none⟩) (n + 1) cap)) w') : wpList Tryz.prog ops Q (o :: rest) a w :=
 wpList_plain hgd fun _ hK => FY ho hM hs hx hu1 hu2 h1 h2 hn fun g' cap w' hm => hK _ _ (h g' cap w' hm)
end
end
section
open Go.RowKit
def InB (fs : BLs) (v : Value) (l : List Int) : Prop :=
 (v = .slice none 0 0 ∧ l = []) ∨ ∃ g cap cs, v = .slice (some ⟨g, 0, none⟩) l.length cap ∧ l.length ≤ cap ∧ cap ≤ maxLen ∧ cs.size = cap ∧ (g, cs, (3 : TypeId)) ∈ fs ∧ cs.toList.take l.length = l.map (Value.int .i64)
theorem InB.mono {fs gs : BLs} {v : Value} {l : List Int} (h : InB fs v l) (hs : ∀ p ∈ fs, p ∈ gs) : InB gs v l := by
 rcases h with h | ⟨g, cap, cs, h1, h2, h3, h4, h5, h6⟩
 ·exact .inl h
 ·exact .inr ⟨g, cap, cs, h1, h2, h3, h4, hs _ h5, h6⟩
theorem InB.shape {fs : BLs} {v : Value} {l : List Int} (h : InB fs v l) : ∃ a cap, v = .slice a l.length cap := by
 rcases h with ⟨rfl, rfl⟩ | ⟨g, cap, cs, h1, _⟩
 ·exact ⟨_, _, rfl⟩
 ·exact ⟨_, _, h1⟩
theorem InB.sl {fs : BLs} {v : Value} {l : List Int} (h : InB fs v l) {w W : World} {L : BLs} {R : List RowD} (hM : Mem w L R W) (hs : ∀ p ∈ fs, p ∈ L) : Sl W v l := by
 rcases h with h | ⟨g, cap, cs, h1, h2, h3, h4, h5, h6⟩
 ·exact .inl h
 ·have hb := hM.blks _ (hs _ h5)
  refine .inr ⟨g, 0, cap, h1, h2, h3, hb.lt, fun j hj => ?_⟩
  rw [Nat.zero_add, hb.cell]
  have e := congrArg (fun z => z[j]?) h6
  simp only [List.getElem?_take, hj, if_true, List.getElem?_map, List.getElem?_eq_getElem hj] at e
  rw [Array.getElem?_toList] at e
  rw [e, BB hj]; rfl
theorem Mem.freezeI {w W : World} {L : BLs} {R : List RowD} {v : Value} {l : List Int} {n : Nat} (hn : n = l.length) (h : Mem w L (⟨3, 1, v, n, l.map (Value.int .i64)⟩ :: R) W) : ∃ gs : BLs, InB gs v l ∧ Mem w (gs ++ L) R W := by
 subst hn
 rcases h.freeze with ⟨rfl, h1, h2, h3⟩ | ⟨g, cap, cs, rfl, h1, h2, h3, h4, h5⟩
 ·exact ⟨[], .inl ⟨rfl, by simpa using h2⟩, h3⟩
 ·exact ⟨[(g, cs, 3)], .inr ⟨g, cap, cs, rfl, h1, h2, by omega, List.mem_cons_self, by rw [Nat.mul_one] at h4; exact h4⟩, h5⟩
structure EqsAt (fs : BLs) (rows : List (List Int × Int)) (xs : List Value) : Prop where
 len : xs.length = rows.length * 2
 at_ : ∀ j r, rows[j]? = some r → ∃ v, xs[j * 2]? = some v ∧ xs[j * 2 + 1]? = some (.int .i64 r.2) ∧ InB fs v r.1
theorem EqsAt.nil (fs : BLs) : EqsAt fs [] [] := ⟨rfl, fun j r h => by simp at h⟩
theorem EqsAt.snoc {fs gs : BLs} {rows : List (List Int × Int)} {xs : List Value} {v : Value} {l : List Int} {z : Int} (h : EqsAt fs rows xs) (hv : InB gs v l) (hs : ∀ p ∈ fs, p ∈ gs) : EqsAt gs (rows ++ [(l, z)]) (xs ++ [v, .int .i64 z]) := by
 refine ⟨by simp [h.len]; omega, fun j r hj => ?_⟩
 by_cases hlt : j < rows.length
 ·rw [List.getElem?_append_left hlt] at hj
  obtain ⟨u, h1, h2, h3⟩ := h.at_ j r hj
  refine ⟨u, ?_, ?_, h3.mono hs⟩
  ·rw [List.getElem?_append_left (by rw [h.len]; omega)]; exact h1
  ·rw [List.getElem?_append_left (by rw [h.len]; omega)]; exact h2
 ·have hj' : j = rows.length := by
   have := (List.getElem?_eq_some_iff.1 hj).1
   simp at this; omega
  subst hj'
  simp at hj
  subst hj
  refine ⟨v, ?_, ?_, hv⟩
  ·rw [List.getElem?_append_right (by rw [h.len]; omega), h.len]; simp
  ·rw [List.getElem?_append_right (by rw [h.len]; omega), h.len, show rows.length * 2 + 1 - rows.length * 2 = 1 by omega]; rfl
theorem EqsAt.mono {fs gs : BLs} {rows : List (List Int × Int)} {xs : List Value} (h : EqsAt fs rows xs) (hs : ∀ p ∈ fs, p ∈ gs) : EqsAt gs rows xs := ⟨h.len, fun j r hj => by
 obtain ⟨v, h1, h2, h3⟩ := h.at_ j r hj
 exact ⟨v, h1, h2, h3.mono hs⟩⟩
theorem EqsAt.slE {w W : World} {L fs : BLs} {R : List RowD} {v : Value} {n : Nat} {rows : List (List Int × Int)} {xs : List Value} (h : EqsAt fs rows xs) (hM : Mem w L (⟨60, 2, v, n, xs⟩ :: R) W) (hn : n = rows.length) (hs : ∀ p ∈ fs, p ∈ L) : SlE W v rows := by
 refine SlG.of_own hM.own0 hn fun b hb hc j r hj => ?_
 obtain ⟨u, h1, h2, h3⟩ := h.at_ j r hj
 exact ⟨u, hc _ _ h1, h3.sl hM hs, hc _ _ h2⟩
theorem GG {o : Oper} {a : Act} {Q : Exit → Act → World → Prop} {K : Act → World → Prop} {w0 w : World} {L : BLs} {R : List RowD} {s x : Operand} {g : Nat} (ho : o.op = .call { callee := .builtin .append, args := #[s, x], argTypes := #[22, 22] })
  (hM : Mem w0 ((g, #[], 3) :: L) R w) (hs : a.eval s = .slice (some ⟨g, 0, none⟩) 0 0) {u : Value} (hx : a.eval x = u) {l : List Int} (hu : Sl w u l) (hn : l.length ≤ 1000000)
  (h : ∀ (gs : BLs) (av : Option Addr) (cap : Nat) (w' : World), InB gs (.slice av l.length cap) l → Mem w0 (gs ++ L) R w' → K (a.put o.dst (.slice av l.length cap)) w') : Oper.wp Tryz.prog o a w K Q := by
 obtain ⟨i0, hi, hz0, hz1, hz2⟩ := info_parts Bu
 have H : ∃ gs av cap w', (Builtin.append_ #[22, 22] o.type #[.slice (some ⟨g, 0, none⟩) 0 0, u]).run Tryz.prog w = .ok (.slice av l.length cap) w' ∧ InB gs (.slice av l.length cap) l ∧ Mem w0 (gs ++ L) R w' := by
  by_cases hl : l = []
  ·subst hl
   have hsrc : Src Tryz.prog i0.size 22 u 0 [] w := by
    rcases hu with ⟨rfl, _⟩ | ⟨b, off, cap, rfl, _⟩
    ·exact Src.ofNil w Tryz.underlying22 0
    ·exact Src.ofSlice w Tryz.underlying22 ⟨b, off, none⟩ 0 cap [] (by simp) (by simp) (by simp)
   exact ⟨[(g, #[], 3)], some ⟨g, 0, none⟩, 0, w, run_append_nothing w 22 22 o.type 3 i0 Tryz.underlying22 hi _ 0 0 (Aa _) u hsrc, .inr ⟨g, 0, #[], rfl, Aa _, Nat.zero_le _, rfl, List.mem_cons_self, rfl⟩, hM⟩
  ·rcases hu with ⟨_, e⟩ | ⟨b, off, cap, rfl, h1, h2, h3, h4⟩
   ·exact absurd e hl
   have hpos : 0 < l.length := List.length_pos_iff.2 hl
   obtain ⟨v', w', hrun, r1, r2⟩ := run_append_arg_grows (P := Tryz.prog) w 22 o.type 3 i0 (.int .i64 0) 1 8 Tryz.underlying22 hi hz0 hz1 hz2 rfl (by decide) ⟨g, 0, none⟩ 0 0 [] rfl (fun j u hj => by simp at hj) ⟨b, off, none⟩ l.length cap (l.map (Value.int .i64)) (by simp) (fun j y hj => by
    rw [Av]
    rw [List.getElem?_map] at hj
    by_cases hjl : j < l.length
    ·rw [h4 j hjl, BB hjl]
     rw [List.getElem?_eq_getElem hjl] at hj
     exact hj
    ·rw [List.getElem?_eq_none (by omega)] at hj; cases hj) (by omega) (by unfold maxLen; omega) (by omega)
   have hM1 : Mem w0 L (⟨3, 1, v', 0 + l.length, [] ++ l.map (Value.int .i64)⟩ :: R) w' := (hM.tail.row0 3 1).app0 r2 (Cv r1 hM.size) (fun b hb => .inr (r1.lt b hb).1)
   rw [Nat.zero_add, List.nil_append] at hM1
   obtain ⟨gs, hin, hM2⟩ := hM1.freezeI (l := l) rfl
   obtain ⟨av, cp, rfl⟩ := hin.shape
   exact ⟨gs, av, cp, w', hrun, hin, hM2⟩
 obtain ⟨gs, av, cap, w', hrun, hin, hM2⟩ := H
 unfold Oper.wp
 simp [execOp, ho, resolve, invoke, builtin, hs, hx, hrun, Result.andThen]
 exact h gs av cap w' hin hM2
structure New (w : World) (L : BLs) (R : List RowD) (ids : List Nat) (b : Nat) (cs : Array Value) (t : TypeId) (W : World) : Prop where
 ge : w.heap.size ≤ b
 ids : ∀ q ∈ ids, q ≠ b
 L : ∀ p ∈ L, p.1 ≠ b
 R : ∀ r ∈ R, r.v.ownBlock ≠ some b
 blk : Blk W b cs t
theorem New.below {w W W' : World} {L : BLs} {R : List RowD} {ids : List Nat} {b : Nat} {cs : Array Value} {t : TypeId} (h : New w L R ids b cs t W) (hb : Below W.heap.size W W') : New w L R ids b cs t W' := ⟨h.ge, h.ids, h.L, h.R, h.blk.below hb⟩
theorem New.of {w W : World} {L : BLs} {R : List RowD} {ids : List Nat} (cs : Array Value) (t : TypeId) (h : Mem w L R W) (hi : ∀ q ∈ ids, q < W.heap.size) : New w L R ids W.heap.size cs t (W.alloc (.cells cs t)) :=
 ⟨h.size, fun q hq e => by have := hi q hq; omega, fun p hp e => by have := h.lt p hp; omega, fun r hr e => by have := ((h.rows r hr).lt _ e).2; omega, Blk.new _ _ _⟩
theorem Blk.type {W : World} {b : Nat} {cs ds : Array Value} {t s : TypeId} (h : Blk W b cs t) (g : Blk W b ds s) : t = s := by
 have := h.symm.trans g
 cases this; rfl
theorem Mem.adopt {w W : World} {L L1 : BLs} {R R1 : List RowD} {ids : List Nat} {b : Nat} {cs : Array Value} {t : TypeId} (h : Mem w L R W) (hb : New w L1 R1 ids b cs t W) (hL : ∀ p ∈ L, p.1 ≠ b ∨ p.2.2 ≠ t) (hR : ∀ r ∈ R, r.v.ownBlock ≠ some b ∨ r.e ≠ t) : Mem w ((b, cs, t) :: L) R W := by
 refine ⟨h.below, fun p hp => ?_, fun p hp => ?_, List.pairwise_cons.2 ⟨fun p hp e => ?_, h.dup⟩, h.rows, h.rdis, fun r hr p hp => ?_⟩
 ·rcases List.mem_cons.1 hp with rfl | hp
  ·exact hb.ge
  ·exact h.ge p hp
 ·rcases List.mem_cons.1 hp with rfl | hp
  ·exact hb.blk
  ·exact h.blks p hp
 ·rcases hL p hp with h1 | h1
  ·exact h1 e.symm
  ·have h2 := h.blks p hp
   rw [← show b = p.1 from e] at h2
   exact h1 (Blk.type h2 hb.blk)
 ·rcases List.mem_cons.1 hp with rfl | hp
  ·intro e
   rcases hR r hr with h1 | h1
   ·exact h1 e
   ·rcases (h.rows r hr).2 with ⟨e1, _⟩ | ⟨g, cap, cur, e1, _, h2, _⟩
    ·rw [e1] at e; cases e
    ·rw [e1] at e
     obtain rfl : g = b := Option.some.inj e
     exact h1 (Blk.type h2 hb.blk)
  ·exact h.rL r hr p hp
theorem Mem.keep {w0 w w' : World} {L : BLs} {R : List RowD} {e : TypeId} {k n : Nat} {v : Value} {xs : List Value} (hM : Mem w0 L (⟨e, k, v, n, xs⟩ :: R) w) (hg : w.grownBy w' v.ownBlock) : ∀ b cs t, Blk w b cs t → t ≠ e → Blk w' b cs t := fun b cs t hb hne => hb.kept hg fun h => by
 rcases hM.own0.2 with ⟨e1, _⟩ | ⟨g, cap, cur, e1, _, h2, _⟩
 ·rw [e1] at h; cases h
 ·rw [e1] at h
  obtain rfl : b = g := Option.some.inj h
  exact hne (Blk.type hb h2)
section
variable {ops : Array Oper} {rest : List Oper} {o : Oper} {a : Act} {Q : Exit → Act → World → Prop} {K : Act → World → Prop} {w0 w : World} {L : BLs} {R : List RowD} {s x : Operand} {v : Value} {n : Nat} {xs : List Value} {g : Nat}
theorem J6 (ho : o.op = .call { callee := .builtin .append, args := #[s, x], argTypes := #[28, 28] }) (hM : Mem w0 L (⟨9, 1, v, n, xs⟩ :: R) w) (hs : a.eval s = v)
  {z : ByteArray} (hx : a.eval x = .slice (some ⟨g, 0, none⟩) 1 1) (hu : w.cell? ⟨g, 0, none⟩ = some (.string z)) (hn : n ≤ 1000000)
  (h : ∀ g' cap w', Mem w0 L (⟨9, 1, .slice (some ⟨g', 0, none⟩) (n + 1) cap, n + 1, xs ++ [.string z]⟩ :: R) w' → (∀ b cs t, Blk w b cs t → t ≠ 9 → Blk w' b cs t) → K (a.put o.dst (.slice (some ⟨g', 0, none⟩) (n + 1) cap)) w') : Oper.wp Tryz.prog o a w K Q :=
 AE 28 9 (.string ⟨#[]⟩) 16 Tryz.underlying28 Ca rfl s x ho v n xs hs hM.own0 g _ hx hu rfl (by omega) hn hM.size fun v' w' r1 r2 r3 => by
  obtain ⟨g', cap, rfl⟩ := D7 r1
  exact h g' cap w' (hM.app0 r2 r1 r3) (hM.keep r2)
end
theorem Df {o : Oper} {a : Act} {Q : Exit → Act → World → Prop} {K : Act → World → Prop} {w0 w : World} {L : BLs} {R : List RowD} {s x : Operand} {g : Nat} (ho : o.op = .call { callee := .builtin .append, args := #[s, x], argTypes := #[28, 28] })
  (hM : Mem w0 ((g, #[], 9) :: L) R w) (hs : a.eval s = .slice (some ⟨g, 0, none⟩) 0 0) {u : Value} (hx : a.eval x = u) {l : List ByteArray} (hu : SlS w u l) (hn : l.length ≤ 1000000)
  (h : ∀ (av : Option Addr) (cap : Nat) (w' : World), Mem w0 L (⟨9, 1, .slice av l.length cap, l.length, l.map Value.string⟩ :: R) w' → (∀ b cs t, Blk w b cs t → Blk w' b cs t) → K (a.put o.dst (.slice av l.length cap)) w') : Oper.wp Tryz.prog o a w K Q := by
 obtain ⟨i0, hi, hz0, hz1, hz2⟩ := info_parts Ca
 have H : ∃ av cap w', (Builtin.append_ #[28, 28] o.type #[.slice (some ⟨g, 0, none⟩) 0 0, u]).run Tryz.prog w = .ok (.slice av l.length cap) w' ∧ Mem w0 L (⟨9, 1, .slice av l.length cap, l.length, l.map Value.string⟩ :: R) w' ∧ (∀ b cs t, Blk w b cs t → Blk w' b cs t) := by
  by_cases hl : l = []
  ·subst hl
   have hsrc : Src Tryz.prog i0.size 28 u 0 [] w := by
    rcases hu with ⟨rfl, _⟩ | ⟨b, off, cap, rfl, _⟩
    ·exact Src.ofNil w Tryz.underlying28 0
    ·exact Src.ofSlice w Tryz.underlying28 ⟨b, off, none⟩ 0 cap [] (by simp) (by simp) (by simp)
   exact ⟨some ⟨g, 0, none⟩, 0, w, run_append_nothing w 28 28 o.type 9 i0 Tryz.underlying28 hi _ 0 0 (Aa _) u hsrc, hM.thaw (k := 1) (Aa _) (Nat.zero_le _) rfl rfl, fun _ _ _ h => h⟩
  ·rcases hu with ⟨_, e⟩ | ⟨b, off, cap, rfl, h1, h2, h3, h4⟩
   ·exact absurd e hl
   have hpos : 0 < l.length := List.length_pos_iff.2 hl
   obtain ⟨v', w', hrun, r1, r2⟩ := run_append_arg_grows (P := Tryz.prog) w 28 o.type 9 i0 (.string ⟨#[]⟩) 1 16 Tryz.underlying28 hi hz0 hz1 hz2 rfl (by decide) ⟨g, 0, none⟩ 0 0 [] rfl (fun j u hj => by simp at hj) ⟨b, off, none⟩ l.length cap (l.map Value.string) (by simp) (fun j y hj => by
    rw [Av]
    rw [List.getElem?_map] at hj
    by_cases hjl : j < l.length
    ·rw [List.getElem?_eq_getElem hjl] at hj
     have := h4 j _ (List.getElem?_eq_getElem hjl)
     rw [Nat.mul_one] at this
     rw [← hj]; exact this
    ·rw [List.getElem?_eq_none (by omega)] at hj; cases hj) (by omega) (by unfold maxLen; omega) (by omega)
   have hM1 : Mem w0 L (⟨9, 1, v', 0 + l.length, [] ++ l.map Value.string⟩ :: R) w' := (hM.tail.row0 9 1).app0 r2 (Cv r1 hM.size) (fun b hb => .inr (r1.lt b hb).1)
   rw [Nat.zero_add, List.nil_append] at hM1
   have hsh : ∃ av cap, v' = .slice av l.length cap := by
    rcases hM1.own0.2 with ⟨_, e⟩ | ⟨g', cap', cur, e, _⟩
    ·omega
    ·exact ⟨_, _, e⟩
   obtain ⟨av, cp, rfl⟩ := hsh
   exact ⟨av, cp, w', hrun, hM1, fun b cs t h => h.kept r2 (by rintro ⟨⟩)⟩
 obtain ⟨av, cap, w', hrun, hM2, hk⟩ := H
 unfold Oper.wp
 simp [execOp, ho, resolve, invoke, builtin, hs, hx, hrun, Result.andThen]
 exact h av cap w' hM2 hk
end
section
open Go.RowKit
attribute [local go_sem] Oper.semAt_some
theorem LL {Q : Exit → Act → World → Prop} {u0 u2 u3 u4 u5 u9 u10 u11 u12 u13 u14 u15 u16 u17 u18 u19 u20 u21 u22 u23 u24 u25 u26 u27 u28 u29 u30 u31 u32 u33 u34 u35 u36 u37 u38 u39 u40 u41 u42 u43 u44 u45 u46 u47 u48 u49 u50 u51 u52 u53 u54 u55 u56 u57 u58 u59 u60 u61 u62 u63 u64 u65 u66 u67 u68 u69 u70 u71 u72 u73 u74 u75 u76 u77 u78 u79 u80 u81 u82 u83 u84 : Value} {bN bE : Nat} {v hv : Value} {w W0 : World} {L : BLs} {R : List RowD} {j co at_ hd pr s0 s1 : Int} (hpr : IntKind.i64.wrap (co * hd) = pr) (hsm : IntKind.i64.wrap (s0 + pr) = s1) (hN : Hid (∀ W, Mem w L R W → W.cell? ⟨bN, 3, none⟩ = some hv)) (AT : Hid (∀ W, Mem w L R W → Calls Tryz.prog 36 #[hv, .int .i64 j] W (Rets W (.int .i64 at_)))) (PK : Hid (∀ W, Calls Tryz.prog 35 #[.int .i64 at_, .int .i64 6] W (Rets W (.int .i64 hd)))) (h0 : Hid (Mem w ((bE, #[v, .int .i64 s0], 60) :: L) R W0)) {ops : Array Oper} (ho : getOps Tryz.f11.body 12 = some ops)
  (hQ : ∀ (v47 v48 v49 v50 v51 v52 v53 v54 v55 v56 v57 : Value)  (W' : World), Mem w ((bE, #[v, .int .i64 s1], 60) :: L) R W' → Q .normal { tmps := List.toArray (u0::.pointer (some ⟨bN, 0, none⟩)::u2::u3::u4::u5::.pointer (some ⟨bE, 0, none⟩)::.int .i64 j::.int .i64 co::u9::u10::u11::u12::u13::u14::u15::u16::u17::u18::u19::u20::u21::u22::u23::u24::u25::u26::u27::u28::u29::u30::u31::u32::u33::u34::u35::u36::u37::u38::u39::u40::u41::u42::u43::u44::u45::u46::v47::v48::v49::v50::v51::v52::v53::v54::v55::v56::v57::u58::u59::u60::u61::u62::u63::u64::u65::u66::u67::u68::u69::u70::u71::u72::u73::u74::u75::u76::u77::u78::u79::u80::u81::u82::u83::u84::[]), defers := [] } W') :
  (Code.region 12 ops true).wp Tryz.prog Q { tmps := List.toArray (u0::.pointer (some ⟨bN, 0, none⟩)::u2::u3::u4::u5::.pointer (some ⟨bE, 0, none⟩)::.int .i64 j::.int .i64 co::u9::u10::u11::u12::u13::u14::u15::u16::u17::u18::u19::u20::u21::u22::u23::u24::u25::u26::u27::u28::u29::u30::u31::u32::u33::u34::u35::u36::u37::u38::u39::u40::u41::u42::u43::u44::u45::u46::u47::u48::u49::u50::u51::u52::u53::u54::u55::u56::u57::u58::u59::u60::u61::u62::u63::u64::u65::u66::u67::u68::u69::u70::u71::u72::u73::u74::u75::u76::u77::u78::u79::u80::u81::u82::u83::u84::[]), defers := [] } W0 := by
 obtain rfl := Option.some.inj (ho.symm.trans (rfl : getOps Tryz.f11.body 12 = some _))
 clear ho
 replace hQ := A8 hQ
 obtain ⟨Iv, hI⟩ : ∃ Iv : (Nat → Bool) → Act → World → Prop, ∀ l a W, Iv l a W ↔ (∃ s47 s48 s49 s50 s51 s52 s53 s54 s55 s56 s57 : Value, a = { tmps := List.toArray (u0::.pointer (some ⟨bN, 0, none⟩)::u2::u3::u4::u5::.pointer (some ⟨bE, 0, none⟩)::.int .i64 j::.int .i64 co::u9::u10::u11::u12::u13::u14::u15::u16::u17::u18::u19::u20::u21::u22::u23::u24::u25::u26::u27::u28::u29::u30::u31::u32::u33::u34::u35::u36::u37::u38::u39::u40::u41::u42::u43::u44::u45::u46::s47::s48::s49::s50::s51::s52::s53::s54::s55::s56::s57::u58::u59::u60::u61::u62::u63::u64::u65::u66::u67::u68::u69::u70::u71::u72::u73::u74::u75::u76::u77::u78::u79::u80::u81::u82::u83::u84::[]), defers := [] } ∧ Mem w L R W ∧ Vs [(0, .pointer (some ⟨bE, 1, none⟩), s47), (1, .int .i64 s0, s48), (2, .int .i64 co, s49), (3, .pointer (some ⟨bN, 3, none⟩), s50), (4, hv, s51), (5, .int .i64 j, s52), (6, .int .i64 at_, s53), (7, .int .i64 hd, s54), (8, .int .i64 pr, s55), (9, .int .i64 s1, s56), (10, .pointer (some ⟨bE, 1, none⟩), s57)] l ∧ ((l 11 = false → Blk W bE #[v, .int .i64 s0] 60) ∧ (l 11 = true → Blk W bE #[v, .int .i64 s1] 60))) := ⟨_, fun _ _ _ => Iff.rfl⟩
 refine Aj Iv (by kernel_rfl) (by kernel_rfl) ((hI _ _ _).2 ⟨_, _, _, _, _, _, _, _, _, _, _, rfl, h0.out.tail.drew, Vs.zero, ⟨fun _ => h0.out.drew.blks _ List.mem_cons_self, fun h => off h⟩⟩) (Ab (k := 0) ?_ (Ab (k := 1) ?_ (Ab (k := 2) ?_ (Ab (k := 3) ?_ (Ab (k := 4) ?_ (Ab (k := 5) ?_ (Ab (k := 6) ?_ (Ab (k := 7) ?_ (Ab (k := 8) ?_ (Ab (k := 9) ?_ (Ab (k := 10) ?_ (Ab (k := 11) ?_ (Am))))))))))))) ?_
 ·intro l a W hl hw hsh h K hK
  rw [hI] at h; iterate 11 obtain ⟨_, h⟩ := h
  obtain ⟨rfl, hC, hP, g⟩ := h
  go_simp
  apply hK.out; rw [hI]; iterate 11 apply Exists.intro
  exact ⟨rfl, hC, hP.put 0 rfl rfl rfl, g⟩
 ·intro l a W hl hw hsh h K hK
  rw [hI] at h; iterate 11 obtain ⟨_, h⟩ := h
  obtain ⟨rfl, hC, hP, g⟩ := h
  obtain rfl := hP.get 0 rfl (hw 0 (by kernel_rfl))
  have hst : l 11 = false := by
   cases hc : l 11 with
   | false => rfl
   | true => exact absurd (hsh 9 1 _ rfl (hsh 11 9 _ rfl (hc) (by kernel_rfl)) (by kernel_rfl)) (by simp [hl])
  have x1 := ((g.1 hst).cell 1).trans (show _ = some (Value.int .i64 s0) from rfl)
  go_simp
  apply hK.out; rw [hI]; iterate 11 apply Exists.intro
  exact ⟨rfl, hC, hP.put 1 rfl rfl rfl, g⟩
 ·intro l a W hl hw hsh h K hK
  rw [hI] at h; iterate 11 obtain ⟨_, h⟩ := h
  obtain ⟨rfl, hC, hP, g⟩ := h
  go_simp
  apply hK.out; rw [hI]; iterate 11 apply Exists.intro
  exact ⟨rfl, hC, hP.put 2 rfl rfl rfl, g⟩
 ·intro l a W hl hw hsh h K hK
  rw [hI] at h; iterate 11 obtain ⟨_, h⟩ := h
  obtain ⟨rfl, hC, hP, g⟩ := h
  go_simp
  apply hK.out; rw [hI]; iterate 11 apply Exists.intro
  exact ⟨rfl, hC, hP.put 3 rfl rfl rfl, g⟩
 ·intro l a W hl hw hsh h K hK
  rw [hI] at h; iterate 11 obtain ⟨_, h⟩ := h
  obtain ⟨rfl, hC, hP, g⟩ := h
  obtain rfl := hP.get 3 rfl (hw 3 (by kernel_rfl))
  have x1 := hN.out _ hC
  go_simp
  apply hK.out; rw [hI]; iterate 11 apply Exists.intro
  exact ⟨rfl, hC, hP.put 4 rfl rfl rfl, g⟩
 ·intro l a W hl hw hsh h K hK
  rw [hI] at h; iterate 11 obtain ⟨_, h⟩ := h
  obtain ⟨rfl, hC, hP, g⟩ := h
  go_simp
  apply hK.out; rw [hI]; iterate 11 apply Exists.intro
  exact ⟨rfl, hC, hP.put 5 rfl rfl rfl, g⟩
 ·intro l a W hl hw hsh h K hK
  rw [hI] at h; iterate 11 obtain ⟨_, h⟩ := h
  obtain ⟨rfl, hC, hP, g⟩ := h
  obtain rfl := hP.get 4 rfl (hw 4 (by kernel_rfl))
  obtain rfl := hP.get 5 rfl (hw 5 (by kernel_rfl))
  go_simp
  refine Calls.mono (AT.out W hC) ?_
  rintro e W2 ⟨rfl, hb⟩
  apply hK.out; rw [hI]; iterate 11 apply Exists.intro
  exact ⟨rfl, hC.call hb, hP.put 6 rfl rfl rfl, ⟨fun h => (g.1 h).below hb, fun h => (g.2 h).below hb⟩⟩
 ·intro l a W hl hw hsh h K hK
  rw [hI] at h; iterate 11 obtain ⟨_, h⟩ := h
  obtain ⟨rfl, hC, hP, g⟩ := h
  obtain rfl := hP.get 6 rfl (hw 6 (by kernel_rfl))
  go_simp
  refine Calls.mono (PK.out W) ?_
  rintro e W2 ⟨rfl, hb⟩
  apply hK.out; rw [hI]; iterate 11 apply Exists.intro
  exact ⟨rfl, hC.call hb, hP.put 7 rfl rfl rfl, ⟨fun h => (g.1 h).below hb, fun h => (g.2 h).below hb⟩⟩
 ·intro l a W hl hw hsh h K hK
  rw [hI] at h; iterate 11 obtain ⟨_, h⟩ := h
  obtain ⟨rfl, hC, hP, g⟩ := h
  obtain rfl := hP.get 2 rfl (hw 2 (by kernel_rfl))
  obtain rfl := hP.get 7 rfl (hw 7 (by kernel_rfl))
  go_simp
  apply hK.out; rw [hI]; iterate 11 apply Exists.intro
  exact ⟨rfl, hC, hP.put 8 rfl rfl rfl, g⟩
 ·intro l a W hl hw hsh h K hK
  rw [hI] at h; iterate 11 obtain ⟨_, h⟩ := h
  obtain ⟨rfl, hC, hP, g⟩ := h
  obtain rfl := hP.get 1 rfl (hw 1 (by kernel_rfl))
  obtain rfl := hP.get 8 rfl (hw 8 (by kernel_rfl))
  go_simp
  apply hK.out; rw [hI]; iterate 11 apply Exists.intro
  exact ⟨rfl, hC, hP.put 9 rfl rfl rfl, g⟩
 ·intro l a W hl hw hsh h K hK
  rw [hI] at h; iterate 11 obtain ⟨_, h⟩ := h
  obtain ⟨rfl, hC, hP, g⟩ := h
  go_simp
  apply hK.out; rw [hI]; iterate 11 apply Exists.intro
  exact ⟨rfl, hC, hP.put 10 rfl rfl rfl, g⟩
 ·intro l a W hl hw hsh h K hK
  rw [hI] at h; iterate 11 obtain ⟨_, h⟩ := h
  obtain ⟨rfl, hC, hP, g⟩ := h
  obtain rfl := hP.get 9 rfl (hw 9 (by kernel_rfl))
  obtain rfl := hP.get 10 rfl (hw 10 (by kernel_rfl))
  have x1 := (g.1 hl).cell 1
  have x2 := (g.1 hl).frozen 1
  go_simp
  apply hK.out; rw [hI]; iterate 11 apply Exists.intro
  exact ⟨rfl, h0.out.off hC (g.1 hl) 1 _, hP.skip 11 rfl, ⟨fun h => off h.symm, fun _ => (g.1 hl).set 1 _⟩⟩
 ·intro a W hI'
  have h := (hI _ _ _).1 hI'; clear hI'; iterate 11 obtain ⟨_, h⟩ := h
  obtain ⟨rfl, hC, hP, g⟩ := h
  exact hQ.out _ _ _ _ _ _ _ _ _ _ _ _ (h0.out.join hC (g.2 (by kernel_rfl)))
theorem LM {Q : Exit → Act → World → Prop} {u0 u2 u3 u4 u5 u7 u8 u9 u10 u11 u12 u13 u14 u15 u16 u17 u18 u19 u20 u21 u22 u23 u24 u25 u26 u27 u28 u29 u30 u31 u32 u33 u34 u35 u36 u37 u38 u39 u40 u41 u42 u43 u44 u45 u46 u47 u48 u49 u50 u51 u52 u53 u54 u55 u56 u57 u58 u59 u60 u61 u62 u63 u64 u65 u66 u67 u68 u69 u70 u71 u72 u73 u74 u75 u76 u77 u78 u79 u80 u81 u82 u83 u84 : Value} {bN bE : Nat} {v : Value} {w W0 : World} {L : BLs} {R : List RowD} {ms mq pk sa s0 s1 : Int} (hmq : IntKind.i64.wrap (ms.tdiv 30) = mq) (hsa : IntKind.i64.wrap (s0 + pk) = sa) (hsm : IntKind.i64.wrap (sa - 20) = s1) (hN : Hid (∀ W, Mem w L R W → W.cell? ⟨bN, 4, none⟩ = some (.int .i64 ms))) (PK : Hid (∀ W, Calls Tryz.prog 35 #[.int .i64 mq, .int .i64 41] W (Rets W (.int .i64 pk)))) (h0 : Hid (Mem w ((bE, #[v, .int .i64 s0], 60) :: L) R W0)) {ops : Array Oper} (ho : getOps Tryz.f11.body 14 = some ops)
  (hQ : ∀ (v69 v70 v71 v72 v73 v74 v75 v76 v77 : Value)  (W' : World), Mem w ((bE, #[v, .int .i64 s1], 60) :: L) R W' → Q .normal { tmps := List.toArray (u0::.pointer (some ⟨bN, 0, none⟩)::u2::u3::u4::u5::.pointer (some ⟨bE, 0, none⟩)::u7::u8::u9::u10::u11::u12::u13::u14::u15::u16::u17::u18::u19::u20::u21::u22::u23::u24::u25::u26::u27::u28::u29::u30::u31::u32::u33::u34::u35::u36::u37::u38::u39::u40::u41::u42::u43::u44::u45::u46::u47::u48::u49::u50::u51::u52::u53::u54::u55::u56::u57::u58::u59::u60::u61::u62::u63::u64::u65::u66::u67::u68::v69::v70::v71::v72::v73::v74::v75::v76::v77::u78::u79::u80::u81::u82::u83::u84::[]), defers := [] } W') :
  (Code.region 14 ops true).wp Tryz.prog Q { tmps := List.toArray (u0::.pointer (some ⟨bN, 0, none⟩)::u2::u3::u4::u5::.pointer (some ⟨bE, 0, none⟩)::u7::u8::u9::u10::u11::u12::u13::u14::u15::u16::u17::u18::u19::u20::u21::u22::u23::u24::u25::u26::u27::u28::u29::u30::u31::u32::u33::u34::u35::u36::u37::u38::u39::u40::u41::u42::u43::u44::u45::u46::u47::u48::u49::u50::u51::u52::u53::u54::u55::u56::u57::u58::u59::u60::u61::u62::u63::u64::u65::u66::u67::u68::u69::u70::u71::u72::u73::u74::u75::u76::u77::u78::u79::u80::u81::u82::u83::u84::[]), defers := [] } W0 := by
 obtain rfl := Option.some.inj (ho.symm.trans (rfl : getOps Tryz.f11.body 14 = some _))
 clear ho
 replace hQ := A8 hQ
 obtain ⟨Iv, hI⟩ : ∃ Iv : (Nat → Bool) → Act → World → Prop, ∀ l a W, Iv l a W ↔ (∃ s69 s70 s71 s72 s73 s74 s75 s76 s77 : Value, a = { tmps := List.toArray (u0::.pointer (some ⟨bN, 0, none⟩)::u2::u3::u4::u5::.pointer (some ⟨bE, 0, none⟩)::u7::u8::u9::u10::u11::u12::u13::u14::u15::u16::u17::u18::u19::u20::u21::u22::u23::u24::u25::u26::u27::u28::u29::u30::u31::u32::u33::u34::u35::u36::u37::u38::u39::u40::u41::u42::u43::u44::u45::u46::u47::u48::u49::u50::u51::u52::u53::u54::u55::u56::u57::u58::u59::u60::u61::u62::u63::u64::u65::u66::u67::u68::s69::s70::s71::s72::s73::s74::s75::s76::s77::u78::u79::u80::u81::u82::u83::u84::[]), defers := [] } ∧ Mem w L R W ∧ Vs [(0, .pointer (some ⟨bE, 1, none⟩), s69), (1, .int .i64 s0, s70), (2, .pointer (some ⟨bN, 4, none⟩), s71), (3, .int .i64 ms, s72), (4, .int .i64 mq, s73), (5, .int .i64 pk, s74), (6, .int .i64 sa, s75), (7, .int .i64 s1, s76), (8, .pointer (some ⟨bE, 1, none⟩), s77)] l ∧ ((l 9 = false → Blk W bE #[v, .int .i64 s0] 60) ∧ (l 9 = true → Blk W bE #[v, .int .i64 s1] 60))) := ⟨_, fun _ _ _ => Iff.rfl⟩
 refine Aj Iv (by kernel_rfl) (by kernel_rfl) ((hI _ _ _).2 ⟨_, _, _, _, _, _, _, _, _, rfl, h0.out.tail.drew, Vs.zero, ⟨fun _ => h0.out.drew.blks _ List.mem_cons_self, fun h => off h⟩⟩) (Ab (k := 0) ?_ (Ab (k := 1) ?_ (Ab (k := 2) ?_ (Ab (k := 3) ?_ (Ab (k := 4) ?_ (Ab (k := 5) ?_ (Ab (k := 6) ?_ (Ab (k := 7) ?_ (Ab (k := 8) ?_ (Ab (k := 9) ?_ (Am))))))))))) ?_
 ·intro l a W hl hw hsh h K hK
  rw [hI] at h; iterate 9 obtain ⟨_, h⟩ := h
  obtain ⟨rfl, hC, hP, g⟩ := h
  go_simp
  apply hK.out; rw [hI]; iterate 9 apply Exists.intro
  exact ⟨rfl, hC, hP.put 0 rfl rfl rfl, g⟩
 ·intro l a W hl hw hsh h K hK
  rw [hI] at h; iterate 9 obtain ⟨_, h⟩ := h
  obtain ⟨rfl, hC, hP, g⟩ := h
  obtain rfl := hP.get 0 rfl (hw 0 (by kernel_rfl))
  have hst : l 9 = false := by
   cases hc : l 9 with
   | false => rfl
   | true => exact absurd (hsh 6 1 _ rfl (hsh 7 6 _ rfl (hsh 9 7 _ rfl (hc) (by kernel_rfl)) (by kernel_rfl)) (by kernel_rfl)) (by simp [hl])
  have x1 := ((g.1 hst).cell 1).trans (show _ = some (Value.int .i64 s0) from rfl)
  go_simp
  apply hK.out; rw [hI]; iterate 9 apply Exists.intro
  exact ⟨rfl, hC, hP.put 1 rfl rfl rfl, g⟩
 ·intro l a W hl hw hsh h K hK
  rw [hI] at h; iterate 9 obtain ⟨_, h⟩ := h
  obtain ⟨rfl, hC, hP, g⟩ := h
  go_simp
  apply hK.out; rw [hI]; iterate 9 apply Exists.intro
  exact ⟨rfl, hC, hP.put 2 rfl rfl rfl, g⟩
 ·intro l a W hl hw hsh h K hK
  rw [hI] at h; iterate 9 obtain ⟨_, h⟩ := h
  obtain ⟨rfl, hC, hP, g⟩ := h
  obtain rfl := hP.get 2 rfl (hw 2 (by kernel_rfl))
  have x1 := hN.out _ hC
  go_simp
  apply hK.out; rw [hI]; iterate 9 apply Exists.intro
  exact ⟨rfl, hC, hP.put 3 rfl rfl rfl, g⟩
 ·intro l a W hl hw hsh h K hK
  rw [hI] at h; iterate 9 obtain ⟨_, h⟩ := h
  obtain ⟨rfl, hC, hP, g⟩ := h
  obtain rfl := hP.get 3 rfl (hw 3 (by kernel_rfl))
  go_simp
  apply hK.out; rw [hI]; iterate 9 apply Exists.intro
  exact ⟨rfl, hC, hP.put 4 rfl rfl rfl, g⟩
 ·intro l a W hl hw hsh h K hK
  rw [hI] at h; iterate 9 obtain ⟨_, h⟩ := h
  obtain ⟨rfl, hC, hP, g⟩ := h
  obtain rfl := hP.get 4 rfl (hw 4 (by kernel_rfl))
  go_simp
  refine Calls.mono (PK.out W) ?_
  rintro e W2 ⟨rfl, hb⟩
  apply hK.out; rw [hI]; iterate 9 apply Exists.intro
  exact ⟨rfl, hC.call hb, hP.put 5 rfl rfl rfl, ⟨fun h => (g.1 h).below hb, fun h => (g.2 h).below hb⟩⟩
 ·intro l a W hl hw hsh h K hK
  rw [hI] at h; iterate 9 obtain ⟨_, h⟩ := h
  obtain ⟨rfl, hC, hP, g⟩ := h
  obtain rfl := hP.get 1 rfl (hw 1 (by kernel_rfl))
  obtain rfl := hP.get 5 rfl (hw 5 (by kernel_rfl))
  go_simp
  apply hK.out; rw [hI]; iterate 9 apply Exists.intro
  exact ⟨rfl, hC, hP.put 6 rfl rfl rfl, g⟩
 ·intro l a W hl hw hsh h K hK
  rw [hI] at h; iterate 9 obtain ⟨_, h⟩ := h
  obtain ⟨rfl, hC, hP, g⟩ := h
  obtain rfl := hP.get 6 rfl (hw 6 (by kernel_rfl))
  go_simp
  apply hK.out; rw [hI]; iterate 9 apply Exists.intro
  exact ⟨rfl, hC, hP.put 7 rfl rfl rfl, g⟩
 ·intro l a W hl hw hsh h K hK
  rw [hI] at h; iterate 9 obtain ⟨_, h⟩ := h
  obtain ⟨rfl, hC, hP, g⟩ := h
  go_simp
  apply hK.out; rw [hI]; iterate 9 apply Exists.intro
  exact ⟨rfl, hC, hP.put 8 rfl rfl rfl, g⟩
 ·intro l a W hl hw hsh h K hK
  rw [hI] at h; iterate 9 obtain ⟨_, h⟩ := h
  obtain ⟨rfl, hC, hP, g⟩ := h
  obtain rfl := hP.get 7 rfl (hw 7 (by kernel_rfl))
  obtain rfl := hP.get 8 rfl (hw 8 (by kernel_rfl))
  have x1 := (g.1 hl).cell 1
  have x2 := (g.1 hl).frozen 1
  go_simp
  apply hK.out; rw [hI]; iterate 9 apply Exists.intro
  exact ⟨rfl, h0.out.off hC (g.1 hl) 1 _, hP.skip 9 rfl, ⟨fun h => off h.symm, fun _ => (g.1 hl).set 1 _⟩⟩
 ·intro a W hI'
  have h := (hI _ _ _).1 hI'; clear hI'; iterate 9 obtain ⟨_, h⟩ := h
  obtain ⟨rfl, hC, hP, g⟩ := h
  exact hQ.out _ _ _ _ _ _ _ _ _ _ (h0.out.join hC (g.2 (by kernel_rfl)))
theorem NumL.sum_small (x : NumL) (i : Nat) {k : Nat} (hk : k ≤ 8) : -360 ≤ x.sum i k ∧ x.sum i k ≤ 360 := by
 obtain ⟨h1, h2⟩ := x.sum_bd i k
 omega
theorem made_l2 {Q : Exit → Act → World → Prop} {u0 u2 u4 u8 u9 u10 u11 u12 u13 u14 u15 u16 u17 u18 u19 u20 u21 u22 u23 u24 u25 u26 u27 u28 u29 u30 u31 u32 u33 u34 u35 u36 u37 u38 u39 u40 u41 u42 u43 u44 u45 u46 u47 u48 u49 u50 u51 u52 u53 u54 u55 u56 u57 u58 u59 u60 u61 u62 u63 u64 u65 u66 u67 u68 u69 u70 u71 u72 u73 u74 u75 u76 u77 u78 u79 u80 u81 u82 u83 u84 : Value} {x : NumL} {bN bS bE i c : Nat} {cv hv : Value} {w W0 : World} {L : BLs} {R : List RowD} (hc : Hid (c = x.c)) (hi : Hid (i ≤ 5)) (hN : Hid (∀ W, Mem w L R W → W.cell? ⟨bN, 2, none⟩ = some cv ∧ W.cell? ⟨bN, 3, none⟩ = some hv)) (hS : Hid (∀ W, Mem w L R W → W.cell? ⟨bS, 0, none⟩ = some (.int .i64 c)))
  (AC : Hid (∀ W, Mem w L R W → ∀ k : Nat, Calls Tryz.prog 36 #[cv, .int .i64 k] W (Rets W (.int .i64 (atv x.coefs k))))) (AH : Hid (∀ W, Mem w L R W → ∀ k : Nat, Calls Tryz.prog 36 #[hv, .int .i64 k] W (Rets W (.int .i64 (atv x.hidden k))))) (hf : Hid (∀ k, Fits (atv x.coefs k) ∧ Fits (atv x.hidden k))) (h0 : Hid (Mem w ((bE, #[.slice none 0 0, .int .i64 0], 60) :: L) R W0)) {body : Code} (hbody : getLoop Tryz.f11.body 2 = some body)
  (hQ : ∀ (vf : Value) (v7 v8 v24 v25 v26 v27 v28 v29 v30 v31 v32 v33 v34 v35 v36 v37 v38 v39 v40 v41 v42 v43 v44 v45 v46 v47 v48 v49 v50 v51 v52 v53 v54 v55 v56 v57 : Value) (W' : World), Hid (Mem w ((bE, #[vf, .int .i64 (x.sum i c)], 60) :: L) (⟨3, 1, vf, c, ((List.range c).map fun k => Value.int .i64 (x.coef i k))⟩ :: R) W') → Q (.exit 2) { tmps := List.toArray (u0::.pointer (some ⟨bN, 0, none⟩)::u2::.pointer (some ⟨bS, 0, none⟩)::u4::.int .i64 i::.pointer (some ⟨bE, 0, none⟩)::v7::v8::u9::u10::u11::u12::u13::u14::u15::u16::u17::u18::u19::u20::u21::u22::u23::v24::v25::v26::v27::v28::v29::v30::v31::v32::v33::v34::v35::v36::v37::v38::v39::v40::v41::v42::v43::v44::v45::v46::v47::v48::v49::v50::v51::v52::v53::v54::v55::v56::v57::u58::u59::u60::u61::u62::u63::u64::u65::u66::u67::u68::u69::u70::u71::u72::u73::u74::u75::u76::u77::u78::u79::u80::u81::u82::u83::u84::[]), defers := [] } W') :
  (Code.loop body).wp Tryz.prog Q { tmps := List.toArray (u0::.pointer (some ⟨bN, 0, none⟩)::u2::.pointer (some ⟨bS, 0, none⟩)::u4::.int .i64 i::.pointer (some ⟨bE, 0, none⟩)::.int .i64 0::u8::u9::u10::u11::u12::u13::u14::u15::u16::u17::u18::u19::u20::u21::u22::u23::u24::u25::u26::u27::u28::u29::u30::u31::u32::u33::u34::u35::u36::u37::u38::u39::u40::u41::u42::u43::u44::u45::u46::u47::u48::u49::u50::u51::u52::u53::u54::u55::u56::u57::u58::u59::u60::u61::u62::u63::u64::u65::u66::u67::u68::u69::u70::u71::u72::u73::u74::u75::u76::u77::u78::u79::u80::u81::u82::u83::u84::[]), defers := [] } W0 := by
 obtain rfl := Option.some.inj (hbody.symm.trans (rfl : getLoop Tryz.f11.body 2 = some _))
 clear hbody
 replace hQ := A8 hQ
 go_loopw [7] (fun s wr => ∃ (j : Nat) (v : Value), s = .int .i64 j ∧ j ≤ c ∧ Hid (Mem w ((bE, #[v, .int .i64 (x.sum i j)], 60) :: L) (⟨3, 1, v, j, ((List.range j).map fun k => Value.int .i64 (x.coef i k))⟩ :: R) wr)) (fun s _ => c - (intOf s).toNat)
 case atStart => exact ⟨0, .slice none 0 0, rfl, by omega, A8 (h0.out.row0 3 1)⟩
 case round =>
  clear h0
  obtain ⟨j, v, rfl, hj, hM⟩ := hrel
  have y0 := hS.out _ hM.out.tail.rtail
  by_cases hjc : j < c
  case neg =>
   have hjc' : ¬ (j : Int) < c := by omega
   obtain rfl : j = c := by omega
   go_wp2_with fail
   exact hQ.out v _ _ _ _ _ _ _ _ _ _ _ _ _ _ _ _ _ _ _ _ _ _ _ _ _ _ _ _ _ _ _ _ _ _ _ _ _ hM
  case pos =>
   have hjc' : (j : Int) < c := by omega
   obtain ⟨y1, _⟩ := hN.out _ hM.out.tail.rtail
   have hcb := x.c_eq
   have hcc := hc.out
   have hii := hi.out
   have hic : i * c ≤ 40 := Nat.le_trans (Nat.mul_le_mul hii (show c ≤ 8 by omega)) (by decide)
   obtain ⟨ic, hic1⟩ : ∃ z, z = i * c := ⟨_, rfl⟩
   have hw1 : IntKind.i64.wrap ((i : Int) * c) = (ic : Int) := by rw [hic1, IntWalk.i64_in _ (by rw [← Int.natCast_mul]; omega)]; simp
   obtain ⟨ij, hij⟩ : ∃ z, z = ic + j := ⟨_, rfl⟩
   have hw2 : IntKind.i64.wrap ((ic : Int) + j) = (ij : Int) := by rw [hij, IntWalk.i64_in _ (by omega)]; simp
   have hco : pkv (atv x.coefs ij) 19 - 9 = x.coef i j := by unfold NumL.coef; rw [hij, hic1, hcc]
   have hcbd := x.coef_bd i j
   have hhbd := x.hid_bd j
   have hpbd := x.prod_bd i j
   have hs0 := x.sum_small i (k := j) (by omega)
   have hs1 := x.sum_small i (k := j + 1) (by omega)
   have hse : x.sum i (j + 1) = x.sum i j + x.coef i j * x.hid j := rfl
   have hxs : ((List.range (j + 1)).map fun k => Value.int .i64 (x.coef i k)) = ((List.range j).map fun k => Value.int .i64 (x.coef i k)) ++ [.int .i64 (x.coef i j)] := by rw [List.range_succ, List.map_append]; rfl
   have hhd : pkv (atv x.hidden j) 6 = x.hid j := rfl
   obtain ⟨fa, fh⟩ : Fits (atv x.coefs ij) ∧ Fits (atv x.hidden j) := ⟨(hf.out ij).1, (hf.out j).2⟩
   obtain ⟨co, hcoe⟩ : ∃ z, z = x.coef i j := ⟨_, rfl⟩
   have hw3 : IntKind.i64.wrap (pkv (atv x.coefs ij) 19 - 9) = co := by rw [hco, hcoe]; exact IntWalk.i64_in _ (by omega)
   have C1 := A8 (AC.out _ hM.out.tail.rtail ij)
   have P1 := A8 (fun W => Bh (atv x.coefs ij) 19 fa (by decide) (by decide) W)
   have P2 := A8 (fun W => by have := Bh (atv x.hidden j) 6 fh (by decide) (by decide) W; rwa [hhd] at this)
   have hpr : IntKind.i64.wrap (co * x.hid j) = x.coef i j * x.hid j := by rw [hcoe]; exact IntWalk.i64_in _ (by omega)
   have hsm : IntKind.i64.wrap (x.sum i j + x.coef i j * x.hid j) = x.sum i (j + 1) := by rw [hse]; exact IntWalk.i64_in _ (by omega)
   rw [← hcoe] at hxs
   have hxs' := A8 hxs
   have hj8 : j ≤ 8 := by omega
   generalize pkv (atv x.coefs ij) 19 = p1 at *
   generalize atv x.coefs ij = a1 at *
   clear hic hic1 hij hco hcbd hhbd hpbd hs0 hs1 hse hxs hhd fa fh hcc hcoe hcb hii
   replace hpr := A8 hpr
   replace hsm := A8 hsm
   go_wp2_with fail
   refine Calls.mono C1.out ?_
   rintro e w1 ⟨rfl, hb⟩
   replace hM := A8 (hM.out.call hb)
   clear y0 y1 hb
   go_wp2_with fail
   refine Calls.mono (P1.out _) ?_
   rintro e w2 ⟨rfl, hb⟩
   replace hM := A8 (hM.out.call hb)
   clear hb
   have y2 := hM.out.cell bE _ _ (.head _) 0
   go_upto_region 12 with (at_builtin; refine CZ rfl rfl (hM.out.new _) rfl rfl ((Blk.new _ _ _).cell 0) (by omega) ?_; intro g2 c2 W8 hM8; have y3 := hM8.cell bE _ _ (.head _) 0; have y4 := hM8.frozen bE _ _ (.head _) 0; replace hM8 := hM8.put0 0 (.slice (some ⟨g2, 0, none⟩) (j + 1) c2))
   refine LL (bN := bN) (bE := bE) (hv := hv) (w := w) (L := L) (R := ⟨3, 1, _, j + 1, ((List.range j).map fun k => Value.int .i64 (x.coef i k)) ++ [.int .i64 co]⟩ :: R) (j := j) (co := co) (at_ := atv x.hidden j) (hd := x.hid j) (pr := x.coef i j * x.hid j) (s0 := x.sum i j) (s1 := x.sum i (j + 1)) hpr.out hsm.out (A8 fun W hW => (hN.out W hW.rtail).2) (A8 fun W hW => AH.out W hW.rtail j) P2 (A8 (by assumption)) (by kernel_rfl) ?_
   intro z47 z48 z49 z50 z51 z52 z53 z54 z55 z56 z57 W9 hM9
   rw [← hxs'.out] at hM9
   go_wp2_with fail
   go_roundw
   case rel => exact ⟨j + 1, _, by go_num, by omega, A8 hM9⟩
   case measure => simp [intOf]; omega
end
end Go.Proofs.YtcmomjnailihpaaGreatDoor
