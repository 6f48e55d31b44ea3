/- SvF, LqA, SnA, MdB, MdC -/
import Derived.Test.YtcmomjnailihpaaGreatDoorZLcD
import Derived.Test.YtcmomjnailihpaaGreatDoorZLcK
import Derived.Test.YtcmomjnailihpaaGreatDoorZMem
namespace Go.Proofs.YtcmomjnailihpaaGreatDoor
open Go.RowKit
def SolP (cols : Nat) (rows : List (List Int × Int)) (w : World) (e : Ending) (w' : World) : Prop := Below w.heap.size w w' ∧
 ((∃ nv nums den, e = .returned (.tuple #[.agg #[.bool true, nv, .string den, .slice none 0 0], .int .i64 0]) ∧ SlS w' nv nums ∧ checkL cols rows nums den = true) ∨
  (∃ wv ws, e = .returned (.tuple #[.agg #[.bool false, .slice none 0 0, .string ⟨#[]⟩, wv], .int .i64 0]) ∧ SlS w' wv ws ∧ refutesL cols rows ws = true))
theorem solve_any (cols : Nat) (v : Value) (rows : List (List Int × Int)) (w : World) (hE : Env w) (h : SlE w v rows) (hv : validL cols rows = true) (h8 : rows.length ≤ 8) :
   Calls Tryz.prog 14 #[.agg #[.int .i64 cols, v]] w (SolP cols rows w) := by
 have hl := low8 hv h8
 refine (solve_ok cols v rows w hE h hv (low_wd hl) (low_tx hl)).mono ?_
 rintro e w' ⟨B, hI, hend, hb, ⟨h0, nv, he, hs⟩ | ⟨h0, wv, he, hs⟩⟩
 · exact ⟨hb, .inl ⟨nv, _, _, he, hs, sol_check hv hl hI h0⟩⟩
 · exact ⟨hb, .inr ⟨wv, _, he, hs, sol_refutes hv hl hI hend h0⟩⟩
end Go.Proofs.YtcmomjnailihpaaGreatDoor
namespace Go.Proofs.YtcmomjnailihpaaGreatDoor
open Go.RowKit
open LnM (sm)
structure SolZ (rows : List (List Int × Int)) (n : Nat) (x : Nat → Int) (d : Int) : Prop where
 pos : 0 < d
 nn : ∀ k, k < n → 0 ≤ x k
 eq : ∀ i, i < rows.length → sm n (fun k => x k * gi (rowOf rows i).1 k) = d * (rowOf rows i).2
structure RefZ (rows : List (List Int × Int)) (n : Nat) (w : Nat → Int) : Prop where
 nn : ∀ k, k < n → 0 ≤ sm rows.length (fun i => w i * gi (rowOf rows i).1 k)
 neg : sm rows.length (fun i => w i * (rowOf rows i).2) < 0
theorem solz_refz {rows : List (List Int × Int)} {n : Nat} {x w : Nat → Int} {d : Int} (h : SolZ rows n x d) (g : RefZ rows n w) : False := by
 have e1 : sm rows.length (fun i => w i * sm n (fun k => x k * gi (rowOf rows i).1 k)) = d * sm rows.length (fun i => w i * (rowOf rows i).2) := by
   rw [← LnM.sm_mul]
   exact LnM.sm_congr fun i hi => by rw [h.eq i hi, ← Int.mul_assoc, Int.mul_comm (w i), Int.mul_assoc]
 have e2 : sm rows.length (fun i => w i * sm n (fun k => x k * gi (rowOf rows i).1 k)) = sm n (fun k => x k * sm rows.length (fun i => w i * gi (rowOf rows i).1 k)) := by
   rw [show (fun i => w i * sm n (fun k => x k * gi (rowOf rows i).1 k)) = (fun i => sm n (fun k => w i * (x k * gi (rowOf rows i).1 k))) from by funext i; rw [LnM.sm_mul], LnM.sm_swap]
   refine LnM.sm_congr fun k _ => ?_
   rw [← LnM.sm_mul]
   exact LnM.sm_congr fun i _ => by rw [← Int.mul_assoc, Int.mul_comm (w i), Int.mul_assoc]
 have e3 : 0 ≤ sm n (fun k => x k * sm rows.length (fun i => w i * gi (rowOf rows i).1 k)) := LnM.sm_nonneg fun k hk => Int.mul_nonneg (h.nn k hk) (g.nn k hk)
 have e4 := Int.mul_neg_of_pos_of_neg h.pos g.neg
 omega
theorem check_len {cols : Int} {rows : List (List Int × Int)} {nums : List ByteArray} {den : ByteArray} (h : checkL cols rows nums den = true) : validL cols rows = true ∧ formedL nums den = true ∧ (nums.length : Int) = cols := by
 unfold checkL at h
 simp only [Bool.and_eq_true, beq_iff_eq] at h
 exact ⟨h.1.1.1, h.1.1.2, h.1.2⟩
theorem check_solz {cols : Int} {rows : List (List Int × Int)} {nums : List ByteArray} {den : ByteArray} (h : checkL cols rows nums den = true) : SolZ rows nums.length (fun k => zS (sAt nums k)) (zS den) := by
 obtain ⟨_, hf, _⟩ := check_len h
 obtain ⟨_, q2, _, _, q5⟩ := formed_nums hf
 unfold checkL at h
 simp only [Bool.and_eq_true] at h
 refine ⟨q5, fun k hk => (q2 k hk).2.2, fun i hi => ?_⟩
 have := List.all_eq_true.1 h.2 _ (rowOf_mem hi)
 rw [decide_eq_true_eq] at this
 exact this
theorem refutes_len {cols : Int} {rows : List (List Int × Int)} {ws : List ByteArray} (h : refutesL cols rows ws = true) : validL cols rows = true ∧ ws.length = rows.length ∧ (∀ s ∈ ws, numB s = true) := by
 unfold refutesL at h
 simp only [Bool.and_eq_true, decide_eq_true_eq, beq_iff_eq, Bool.not_eq_true', List.any_eq_false] at h
 exact ⟨h.1.1.1.1, by have := h.1.1.1.2; omega, fun s hs => by have := h.1.1.2 s hs; simpa using this⟩
theorem refutes_refz {cols : Nat} {rows : List (List Int × Int)} {ws : List ByteArray} (h : refutesL cols rows ws = true) : RefZ rows cols (fun i => zS (sAt ws i)) := by
 obtain ⟨_, hl, _⟩ := refutes_len h
 unfold refutesL at h
 simp only [Bool.and_eq_true, decide_eq_true_eq] at h
 obtain ⟨⟨_, hk⟩, hneg⟩ := h
 rw [hl] at hk hneg
 refine ⟨fun k hkc => ?_, hneg⟩
 have := List.all_eq_true.1 hk k (List.mem_range.2 (by simpa using hkc))
 rw [decide_eq_true_eq] at this
 exact this
theorem NumL.sum_sm (x : NumL) (i : Nat) : ∀ k, x.sum i k = sm k (fun j => x.coef i j * x.hid j)
 | 0 => rfl
 | k + 1 => by show x.sum i k + _ = _; rw [x.sum_sm i k]; rfl
theorem NumL.rowOf_made (x : NumL) {i : Nat} (h : i < x.r) : rowOf x.made i = x.row i := by
 unfold rowOf NumL.made
 rw [List.getElem?_map, List.getElem?_range h]; rfl
theorem gi_map {n : Nat} (f : Nat → Int) {k : Nat} (h : k < n) : gi ((List.range n).map f) k = f k := by
 unfold gi
 rw [List.getElem?_map, List.getElem?_range h]; rfl
theorem NumL.made_sol (x : NumL) (h : x.misses = false) : SolZ x.made x.c x.hid 1 := by
 refine ⟨by decide, fun k _ => (x.hid_bd k).1, fun i hi => ?_⟩
 rw [x.made_len] at hi
 rw [x.rowOf_made hi]
 have e : (x.row i).2 = x.sum i x.c := by
   show x.val i = _
   unfold NumL.val NumL.hit
   rw [h]; rfl
 rw [e, x.sum_sm, Int.one_mul]
 refine LnM.sm_congr fun k hk => ?_
 show x.hid k * gi ((List.range x.c).map (x.coef i)) k = _
 rw [gi_map _ hk, Int.mul_comm]
theorem tdivL3 {m : Int} (h : Fits m) : Fits (m.tdiv 3) ∧ IntKind.i64.wrap (m.tdiv 3) = m.tdiv 3 := by
 have h1 : m.tdiv 3 ≤ 9223372036854775807 ∧ -9223372036854775808 ≤ m.tdiv 3 := by
   have := Int.natAbs_tdiv_le_natAbs m 3
   unfold Fits at h
   refine ⟨?_, by omega⟩
   rcases Int.lt_or_le 0 m with h0 | h0
   · omega
   · obtain ⟨b, rfl⟩ : ∃ b : Int, m = -b := ⟨-m, by omega⟩
     rw [Int.neg_tdiv, Int.tdiv_eq_ediv_of_nonneg (by omega)]
     omega
 exact ⟨⟨h1.2, h1.1⟩, IntWalk.i64_in _ ⟨h1.2, h1.1⟩⟩
theorem tdivL30 {m : Int} (h : Fits m) : Fits (m.tdiv 30) ∧ IntKind.i64.wrap (m.tdiv 30) = m.tdiv 30 := by
 have h1 : m.tdiv 30 ≤ 9223372036854775807 ∧ -9223372036854775808 ≤ m.tdiv 30 := by
   have := Int.natAbs_tdiv_le_natAbs m 30
   unfold Fits at h
   refine ⟨?_, by omega⟩
   rcases Int.lt_or_le 0 m with h0 | h0
   · omega
   · obtain ⟨b, rfl⟩ : ∃ b : Int, m = -b := ⟨-m, by omega⟩
     rw [Int.neg_tdiv, Int.tdiv_eq_ediv_of_nonneg (by omega)]
     omega
 exact ⟨⟨h1.2, h1.1⟩, IntWalk.i64_in _ ⟨h1.2, h1.1⟩⟩
theorem sm2 (f : Nat → Int) : sm 2 f = f 0 + f 1 := by show (0 + f 0) + f 1 = _; omega
theorem two_solz {a b : Int} {x : Nat → Int} {d : Int} (h : SolZ (twoL a b) 2 x d) : x 0 + x 1 = d * a ∧ x 0 - x 1 = d * b ∧ 0 ≤ x 0 ∧ 0 ≤ x 1 ∧ 0 < d := by
 have e0 := h.eq 0 (show 0 < 2 by decide)
 have e1 := h.eq 1 (show 1 < 2 by decide)
 rw [sm2] at e0 e1
 have g0 : x 0 * 1 + x 1 * 1 = d * a := e0
 have g1 : x 0 * 1 + x 1 * (-1) = d * b := e1
 exact ⟨by omega, by omega, h.nn 0 (by decide), h.nn 1 (by decide), h.pos⟩
theorem two_solz_of {a b : Int} (x : Nat → Int) {d : Int} (h0 : x 0 + x 1 = d * a) (h1 : x 0 - x 1 = d * b) (h2 : 0 ≤ x 0) (h3 : 0 ≤ x 1) (h4 : 0 < d) : SolZ (twoL a b) 2 x d := by
 refine ⟨h4, fun k hk => ?_, fun i hi => ?_⟩
 · match k, hk with
   | 0, _ => exact h2
   | 1, _ => exact h3
 · rw [sm2]
   match i, hi with
   | 0, _ => show x 0 * 1 + x 1 * 1 = d * a; omega
   | 1, _ => show x 0 * 1 + x 1 * (-1) = d * b; omega
theorem two_valid {a b : Int} (ha : -1000 ≤ a ∧ a ≤ 1000) (hb : -1000 ≤ b ∧ b ≤ 1000) : validL 2 (twoL a b) = true := by
 unfold validL twoL badE
 have l1 : ([1, 1] : List Int).any largeB = false := by decide
 have l2 : ([1, -1] : List Int).any largeB = false := by decide
 simp only [List.any_cons, List.any_nil, l1, l2]
 simp
 omega
theorem two_eq {nums : List ByteArray} {den : ByteArray} (h : checkL 2 (twoL 3 1) nums den = true) : equalL nums den [⟨#[52]⟩, ⟨#[50]⟩] ⟨#[50]⟩ = true := by
 obtain ⟨_, hf, hl⟩ := check_len h
 have hl2 : nums.length = 2 := by omega
 have hs := check_solz h
 rw [hl2] at hs
 obtain ⟨e0, e1, _, _, _⟩ := two_solz hs
 have f2 : formedL [⟨#[52]⟩, ⟨#[50]⟩] ⟨#[50]⟩ = true := by kernel_rfl
 have z2 : zS ⟨#[50]⟩ = 2 := by kernel_rfl
 have z4 : zS ⟨#[52]⟩ = 4 := by kernel_rfl
 unfold equalL
 rw [hf, f2, hl2]
 simp only [Bool.true_and, Bool.and_eq_true, List.all_eq_true, decide_eq_true_eq]
 refine ⟨by simp, fun i hi => ?_⟩
 rw [z2]
 match i, List.mem_range.1 hi with
 | 0, _ => show _ = zS ⟨#[52]⟩ * _; rw [z4]; omega
 | 1, _ => show _ = zS ⟨#[50]⟩ * _; rw [z2]; omega
theorem solve_found (cols : Nat) (v : Value) (rows : List (List Int × Int)) (w : World) (hE : Env w) (h : SlE w v rows) (hv : validL cols rows = true) (h8 : rows.length ≤ 8) {x : Nat → Int} {d : Int} (hs : SolZ rows cols x d) :
   Calls Tryz.prog 14 #[.agg #[.int .i64 cols, v]] w fun e w' => ∃ nv nums den, e = .returned (.tuple #[.agg #[.bool true, nv, .string den, .slice none 0 0], .int .i64 0]) ∧ SlS w' nv nums ∧ checkL cols rows nums den = true ∧ Below w.heap.size w w' :=
 (solve_any cols v rows w hE h hv h8).mono fun e w' ⟨hb, hh⟩ => by
   rcases hh with ⟨nv, nums, den, he, hn, hc⟩ | ⟨wv, ws, he, hw, hr⟩
   · exact ⟨nv, nums, den, he, hn, hc, hb⟩
   · exact (solz_refz hs (refutes_refz hr)).elim
theorem solve_none (cols : Nat) (v : Value) (rows : List (List Int × Int)) (w : World) (hE : Env w) (h : SlE w v rows) (hv : validL cols rows = true) (h8 : rows.length ≤ 8) (hs : ∀ x d, ¬ SolZ rows cols x d) :
   Calls Tryz.prog 14 #[.agg #[.int .i64 cols, v]] w fun e w' => ∃ wv ws, e = .returned (.tuple #[.agg #[.bool false, .slice none 0 0, .string ⟨#[]⟩, wv], .int .i64 0]) ∧ SlS w' wv ws ∧ refutesL cols rows ws = true ∧ Below w.heap.size w w' :=
 (solve_any cols v rows w hE h hv h8).mono fun e w' ⟨hb, hh⟩ => by
   rcases hh with ⟨nv, nums, den, he, hn, hc⟩ | ⟨wv, ws, he, hw, hr⟩
   · have hl := (check_len hc).2.2
     have hl2 : nums.length = cols := by omega
     have := check_solz hc
     rw [hl2] at this
     exact (hs _ _ this).elim
   · exact ⟨wv, ws, he, hw, hr, hb⟩
theorem solve31 (v : Value) (w : World) (hE : Env w) (h : SlE w v (twoL 3 1)) :
   Calls Tryz.prog 14 #[.agg #[.int .i64 2, v]] w fun e w' => ∃ a nums den cp, e = .returned (.tuple #[.agg #[.bool true, .slice a nums.length cp, .string den, .slice none 0 0], .int .i64 0]) ∧ SlS w' (.slice a nums.length cp) nums ∧ equalL nums den [⟨#[52]⟩, ⟨#[50]⟩] ⟨#[50]⟩ = true ∧ Below w.heap.size w w' :=
 (solve_found 2 v (twoL 3 1) w hE h (two_valid (by omega) (by omega)) (by decide) (two_solz_of (fun k => if k = 0 then 2 else 1) (d := 1) (by decide) (by decide) (by decide) (by decide) (by decide))).mono fun e w' ⟨nv, nums, den, he, hn, hc, hb⟩ => by
   obtain ⟨a, cp, rfl⟩ := hn.shape
   exact ⟨a, nums, den, cp, he, hn, two_eq hc, hb⟩
theorem solve34 (v : Value) (w : World) (hE : Env w) (h : SlE w v (twoL 3 4)) :
   Calls Tryz.prog 14 #[.agg #[.int .i64 2, v]] w fun e w' => ∃ a ws cp, e = .returned (.tuple #[.agg #[.bool false, .slice none 0 0, .string ⟨#[]⟩, .slice a ws.length cp], .int .i64 0]) ∧ SlS w' (.slice a ws.length cp) ws ∧ refutesL 2 (twoL 3 4) ws = true ∧ Below w.heap.size w w' :=
 (solve_none 2 v (twoL 3 4) w hE h (two_valid (by omega) (by omega)) (by decide) (fun x d hs => by
   obtain ⟨e0, e1, _, h1, h2⟩ := two_solz hs
   omega)).mono fun e w' ⟨wv, ws, he, hn, hr, hb⟩ => by
   obtain ⟨a, cp, rfl⟩ := hn.shape
   exact ⟨a, ws, cp, he, hn, hr, hb⟩
theorem solve00 (v : Value) (w : World) (hE : Env w) (h : SlE w v [([], 0)]) :
   Calls Tryz.prog 14 #[.agg #[.int .i64 0, v]] w fun e w' => ∃ a den cp, e = .returned (.tuple #[.agg #[.bool true, .slice a 0 cp, .string den, .slice none 0 0], .int .i64 0]) ∧ Below w.heap.size w w' :=
 (solve_found 0 v [([], 0)] w hE h (by rw [show ((0 : Nat) : Int) = 0 from rfl]; decide) (by decide) (x := fun _ => 0) (d := 1) ⟨by decide, fun k hk => by omega, fun i hi => by
   obtain rfl : i = 0 := by simp at hi; exact hi
   rfl⟩).mono fun e w' ⟨nv, nums, den, he, hn, hc, hb⟩ => by
   obtain ⟨a, cp, rfl⟩ := hn.shape
   have hl := (check_len hc).2.2
   rw [show nums.length = 0 by omega] at he
   exact ⟨a, den, cp, he, hb⟩
theorem solve01 (v : Value) (w : World) (hE : Env w) (h : SlE w v [([], 1)]) :
   Calls Tryz.prog 14 #[.agg #[.int .i64 0, v]] w fun e w' => ∃ a cp, e = .returned (.tuple #[.agg #[.bool false, .slice none 0 0, .string ⟨#[]⟩, .slice a 1 cp], .int .i64 0]) ∧ Below w.heap.size w w' :=
 (solve_none 0 v [([], 1)] w hE h (by rw [show ((0 : Nat) : Int) = 0 from rfl]; decide) (by decide) (fun x d hs => by
   have e := hs.eq 0 (by decide)
   have g : (0 : Int) = d * 1 := e
   have := hs.pos
   omega)).mono fun e w' ⟨wv, ws, he, hn, hr, hb⟩ => by
   obtain ⟨a, cp, rfl⟩ := hn.shape
   have hl := (refutes_len hr).2.1
   rw [show ws.length = 1 from hl] at he
   exact ⟨a, cp, he, hb⟩
theorem solve10 (v : Value) (w : World) (h : SlE w v [([], 0)]) :
   Calls Tryz.prog 14 #[.agg #[.int .i64 1, v]] w (Rets w (.tuple #[.agg #[.bool false, .slice none 0 0, .string ⟨#[]⟩, .slice none 0 0], .int .i64 60])) :=
 solve_bad 1 v [([], 0)] w h (by decide)
theorem SlS.of2 {W : World} {B : Nat} {s t : ByteArray} (h : Blk W B #[.string s, .string t] 9) : SlS W (.slice (some ⟨B, 0, none⟩) 2 2) [s, t] := by
 refine .inr ⟨B, 0, 2, rfl, Nat.le_refl _, by unfold maxLen; decide, h.lt, fun j x hj => ?_⟩
 match j, hj with
 | 0, hj => cases hj; exact h.cell 0
 | 1, hj => cases hj; exact h.cell 1
theorem SlE.of1 {W : World} {B : Nat} {z : Int} (h : Blk W B #[.slice none 0 0, .int .i64 z] 60) : SlE W (.slice (some ⟨B, 0, none⟩) 1 1) [([], z)] := by
 refine .inr ⟨B, 0, 1, rfl, Nat.le_refl _, by unfold maxLen; decide, h.lt, fun j x hj => ?_⟩
 match j, hj with
 | 0, hj => cases hj; exact ⟨_, h.cell 0, .inl ⟨rfl, rfl⟩, h.cell 1⟩
theorem mix13 : mixR { p := 1, q := 3, na := [⟨#[49]⟩, ⟨#[48]⟩], nb := [⟨#[48]⟩, ⟨#[49]⟩], da := ⟨#[49]⟩, db := ⟨#[49]⟩ } = ([⟨#[49]⟩, ⟨#[51]⟩], ⟨#[52]⟩, 0) := by kernel_rfl
structure MS (w : World) (L : BLs) (ss : List (Value × List ByteArray)) (W : World) : Prop where
 mem : Mem w L [] W
 ss : ∀ p ∈ ss, SlS W p.1 p.2
section
variable {w W W' : World} {L : BLs} {ss : List (Value × List ByteArray)}
theorem MS.start (w : World) : MS w [] [] w := ⟨Mem.start w, fun p h => by cases h⟩
theorem MS.call (h : MS w L ss W) (hb : Below W.heap.size W W') : MS w L ss W' := ⟨h.mem.call hb, fun p hp => (h.ss p hp).below hb⟩
theorem MS.new (h : MS w L ss W) (o : Obj) : MS w L ss (W.alloc o) := h.call ((Below.refl _ _).alloc (Nat.le_refl _) o)
theorem MS.add' (h : MS w L ss W) (cs : Array Value) (t : TypeId) : ∃ W' B, W' = W.alloc (.cells cs t) ∧ B = W.heap.size ∧ MS w ((B, cs, t) :: L) ss W' := ⟨_, _, rfl, rfl, h.mem.add cs t, (h.new _).ss⟩
theorem MS.slice (h : MS w L ss W) {v : Value} {l : List ByteArray} (hv : SlS W v l) : MS w L ((v, l) :: ss) W := ⟨h.mem, fun p hp => by
 rcases List.mem_cons.1 hp with rfl | hp
 · exact hv
 · exact h.ss p hp⟩
theorem MS.cell (h : MS w L ss W) (B : Nat) (cs : Array Value) (t : TypeId) (hm : (B, cs, t) ∈ L) (i : Nat) : W.cell? ⟨B, i, none⟩ = cs[i]? := h.mem.cell B cs t hm i
theorem MS.env (h : MS w L ss W) (hE : Env w) : Env W := h.mem.env hE
end
theorem ck31 : checkL 2 (twoL 3 1) [⟨#[52]⟩, ⟨#[50]⟩] ⟨#[50]⟩ = true := by kernel_rfl
theorem ck32 : checkL 2 (twoL 3 2) [⟨#[52]⟩, ⟨#[50]⟩] ⟨#[50]⟩ = false := by kernel_rfl
theorem rf34 : refutesL 2 (twoL 3 4) [⟨#[49]⟩, ⟨#[45, 49]⟩] = true := by kernel_rfl
theorem rf34n : refutesL 2 (twoL 3 4) [⟨#[45, 49]⟩, ⟨#[49]⟩] = false := by kernel_rfl
theorem rf31n : refutesL 2 (twoL 3 1) [⟨#[49]⟩, ⟨#[45, 49]⟩] = false := by kernel_rfl
theorem vl11 : validL 2 (twoL 1 1) = true := by kernel_rfl
theorem vl65 : validL 65 [] = false := by kernel_rfl
end Go.Proofs.YtcmomjnailihpaaGreatDoor
namespace Go.Proofs.YtcmomjnailihpaaGreatDoor
open Go.RowKit
attribute [local go_sem] Oper.semAt_some
theorem NumL.sum_small (x : NumL) (i : Nat) {k : Nat} (hk : k ≤ 8) : -360 ≤ x.sum i k ∧ x.sum i k ≤ 360 := by
 obtain ⟨h1, h2⟩ := x.sum_bd i k
 omega
set_option maxRecDepth 100000 in
set_option maxHeartbeats 8000000 in
theorem made_l2 {Q : Exit → Act → World → Prop} {u0 u2 u4 u8 u9 u10 u11 u12 u13 u14 u15 u16 u17 u18 u19 u20 u21 u22 u23 u24 u25 u26 u27 u28 u29 u30 u31 u32 u33 u34 u35 u36 u37 u38 u39 u40 u41 u42 u43 u44 u45 u46 u47 u48 u49 u50 u51 u52 u53 u54 u55 u56 u57 u58 u59 u60 u61 u62 u63 u64 u65 u66 u67 u68 u69 u70 u71 u72 u73 u74 u75 u76 u77 u78 u79 u80 u81 u82 u83 u84 : Value} {x : NumL} {bN bS bE i c : Nat} {cv hv : Value} {w W0 : World} {L : BLs} {R : List RowD} (hc : Hid (c = x.c)) (hi : Hid (i ≤ 5)) (hN : Hid (∀ W, Mem w L R W → W.cell? ⟨bN, 2, none⟩ = some cv ∧ W.cell? ⟨bN, 3, none⟩ = some hv)) (hS : Hid (∀ W, Mem w L R W → W.cell? ⟨bS, 0, none⟩ = some (.int .i64 c)))
   (AC : Hid (∀ W, Mem w L R W → ∀ k : Nat, Calls Tryz.prog 36 #[cv, .int .i64 k] W (Rets W (.int .i64 (atv x.coefs k))))) (AH : Hid (∀ W, Mem w L R W → ∀ k : Nat, Calls Tryz.prog 36 #[hv, .int .i64 k] W (Rets W (.int .i64 (atv x.hidden k))))) (hf : Hid (∀ k, Fits (atv x.coefs k) ∧ Fits (atv x.hidden k))) (h0 : Hid (Mem w ((bE, #[.slice none 0 0, .int .i64 0], 60) :: L) R W0)) {body : Code} (hbody : getLoop Tryz.f11.body 2 = some body)
   (hQ : ∀ (vf : Value) (v7 v8 v24 v25 v26 v27 v28 v29 v30 v31 v32 v33 v34 v35 v36 v37 v38 v39 v40 v41 v42 v43 v44 v45 v46 v47 v48 v49 v50 v51 v52 v53 v54 v55 v56 v57 : Value) (W' : World), Hid (Mem w ((bE, #[vf, .int .i64 (x.sum i c)], 60) :: L) (⟨3, 1, vf, c, ((List.range c).map fun k => Value.int .i64 (x.coef i k))⟩ :: R) W') → Q (.exit 2) { tmps := List.toArray (u0::.pointer (some ⟨bN, 0, none⟩)::u2::.pointer (some ⟨bS, 0, none⟩)::u4::.int .i64 i::.pointer (some ⟨bE, 0, none⟩)::v7::v8::u9::u10::u11::u12::u13::u14::u15::u16::u17::u18::u19::u20::u21::u22::u23::v24::v25::v26::v27::v28::v29::v30::v31::v32::v33::v34::v35::v36::v37::v38::v39::v40::v41::v42::v43::v44::v45::v46::v47::v48::v49::v50::v51::v52::v53::v54::v55::v56::v57::u58::u59::u60::u61::u62::u63::u64::u65::u66::u67::u68::u69::u70::u71::u72::u73::u74::u75::u76::u77::u78::u79::u80::u81::u82::u83::u84::[]), defers := [] } W') :
   (Code.loop body).wp Tryz.prog Q { tmps := List.toArray (u0::.pointer (some ⟨bN, 0, none⟩)::u2::.pointer (some ⟨bS, 0, none⟩)::u4::.int .i64 i::.pointer (some ⟨bE, 0, none⟩)::.int .i64 0::u8::u9::u10::u11::u12::u13::u14::u15::u16::u17::u18::u19::u20::u21::u22::u23::u24::u25::u26::u27::u28::u29::u30::u31::u32::u33::u34::u35::u36::u37::u38::u39::u40::u41::u42::u43::u44::u45::u46::u47::u48::u49::u50::u51::u52::u53::u54::u55::u56::u57::u58::u59::u60::u61::u62::u63::u64::u65::u66::u67::u68::u69::u70::u71::u72::u73::u74::u75::u76::u77::u78::u79::u80::u81::u82::u83::u84::[]), defers := [] } W0 := by
 obtain rfl := Option.some.inj (hbody.symm.trans (rfl : getLoop Tryz.f11.body 2 = some _))
 clear hbody
 replace hQ := Lib.hid hQ
 go_loopw [7] (fun s wr => ∃ (j : Nat) (v : Value), s = .int .i64 j ∧ j ≤ c ∧ Hid (Mem w ((bE, #[v, .int .i64 (x.sum i j)], 60) :: L) (⟨3, 1, v, j, ((List.range j).map fun k => Value.int .i64 (x.coef i k))⟩ :: R) wr)) (fun s _ => c - (intOf s).toNat)
 case atStart => exact ⟨0, .slice none 0 0, rfl, by omega, Lib.hid (h0.out.row0 3 1)⟩
 case round =>
   clear h0
   obtain ⟨j, v, rfl, hj, hM⟩ := hrel
   have y0 := hS.out _ hM.out.tail.rtail
   by_cases hjc : j < c
   case neg =>
     have hjc' : ¬ (j : Int) < c := by omega
     obtain rfl : j = c := by omega
     go_wp2_with fail
     exact hQ.out v _ _ _ _ _ _ _ _ _ _ _ _ _ _ _ _ _ _ _ _ _ _ _ _ _ _ _ _ _ _ _ _ _ _ _ _ _ hM
   case pos =>
     have hjc' : (j : Int) < c := by omega
     obtain ⟨y1, _⟩ := hN.out _ hM.out.tail.rtail
     have hcb := x.c_eq
     have hcc := hc.out
     have hii := hi.out
     have hic : i * c ≤ 40 := Nat.le_trans (Nat.mul_le_mul hii (show c ≤ 8 by omega)) (by decide)
     obtain ⟨ic, hic1⟩ : ∃ z, z = i * c := ⟨_, rfl⟩
     have hw1 : IntKind.i64.wrap ((i : Int) * c) = (ic : Int) := by rw [hic1, IntWalk.i64_in _ (by rw [← Int.natCast_mul]; omega)]; simp
     obtain ⟨ij, hij⟩ : ∃ z, z = ic + j := ⟨_, rfl⟩
     have hw2 : IntKind.i64.wrap ((ic : Int) + j) = (ij : Int) := by rw [hij, IntWalk.i64_in _ (by omega)]; simp
     have hco : pkv (atv x.coefs ij) 19 - 9 = x.coef i j := by unfold NumL.coef; rw [hij, hic1, hcc]
     have hcbd := x.coef_bd i j
     have hhbd := x.hid_bd j
     have hpbd := x.prod_bd i j
     have hs0 := x.sum_small i (k := j) (by omega)
     have hs1 := x.sum_small i (k := j + 1) (by omega)
     have hse : x.sum i (j + 1) = x.sum i j + x.coef i j * x.hid j := rfl
     have hxs : ((List.range (j + 1)).map fun k => Value.int .i64 (x.coef i k)) = ((List.range j).map fun k => Value.int .i64 (x.coef i k)) ++ [.int .i64 (x.coef i j)] := by rw [List.range_succ, List.map_append]; rfl
     have hhd : pkv (atv x.hidden j) 6 = x.hid j := rfl
     obtain ⟨fa, fh⟩ : Fits (atv x.coefs ij) ∧ Fits (atv x.hidden j) := ⟨(hf.out ij).1, (hf.out j).2⟩
     obtain ⟨co, hcoe⟩ : ∃ z, z = x.coef i j := ⟨_, rfl⟩
     have hw3 : IntKind.i64.wrap (pkv (atv x.coefs ij) 19 - 9) = co := by rw [hco, hcoe]; exact IntWalk.i64_in _ (by omega)
     have C1 := Lib.hid (AC.out _ hM.out.tail.rtail ij)
     have P1 := Lib.hid (fun W => pickR6_any (atv x.coefs ij) 19 fa (by decide) (by decide) W)
     have P2 := Lib.hid (fun W => by have := pickR6_any (atv x.hidden j) 6 fh (by decide) (by decide) W; rwa [hhd] at this)
     have hpr : IntKind.i64.wrap (co * x.hid j) = x.coef i j * x.hid j := by rw [hcoe]; exact IntWalk.i64_in _ (by omega)
     have hsm : IntKind.i64.wrap (x.sum i j + x.coef i j * x.hid j) = x.sum i (j + 1) := by rw [hse]; exact IntWalk.i64_in _ (by omega)
     rw [← hcoe] at hxs
     have hxs' := Lib.hid hxs
     have hj8 : j ≤ 8 := by omega
     generalize pkv (atv x.coefs ij) 19 = p1 at *
     generalize atv x.coefs ij = a1 at *
     clear hic hic1 hij hco hcbd hhbd hpbd hs0 hs1 hse hxs hhd fa fh hcc hcoe hcb hii
     replace hpr := Lib.hid hpr
     replace hsm := Lib.hid hsm
     go_wp2_with fail
     refine Calls.mono C1.out ?_
     rintro e w1 ⟨rfl, hb⟩
     replace hM := Lib.hid (hM.out.call hb)
     clear y0 y1 hb
     go_wp2_with fail
     refine Calls.mono (P1.out _) ?_
     rintro e w2 ⟨rfl, hb⟩
     replace hM := Lib.hid (hM.out.call hb)
     clear hb
     have y2 := hM.out.cell bE _ _ (.head _) 0
     go_upto_region 12 with (at_builtin; refine wpList_appI rfl rfl (hM.out.new _) rfl rfl ((Blk.new _ _ _).cell 0) (by omega) ?_; intro g2 c2 W8 hM8; have y3 := hM8.cell bE _ _ (.head _) 0; have y4 := hM8.frozen bE _ _ (.head _) 0; replace hM8 := hM8.put0 0 (.slice (some ⟨g2, 0, none⟩) (j + 1) c2))
     refine made_r12 (bN := bN) (bE := bE) (hv := hv) (w := w) (L := L) (R := ⟨3, 1, _, j + 1, ((List.range j).map fun k => Value.int .i64 (x.coef i k)) ++ [.int .i64 co]⟩ :: R) (j := j) (co := co) (at_ := atv x.hidden j) (hd := x.hid j) (pr := x.coef i j * x.hid j) (s0 := x.sum i j) (s1 := x.sum i (j + 1)) hpr.out hsm.out (Lib.hid fun W hW => (hN.out W hW.rtail).2) (Lib.hid fun W hW => AH.out W hW.rtail j) P2 (Lib.hid (by assumption)) (by kernel_rfl) ?_
     intro z47 z48 z49 z50 z51 z52 z53 z54 z55 z56 z57 W9 hM9
     rw [← hxs'.out] at hM9
     go_wp2_with fail
     go_roundw
     case rel => exact ⟨j + 1, _, by go_num, by omega, Lib.hid hM9⟩
     case measure => simp [intOf]; omega
set_option maxRecDepth 100000 in
set_option maxHeartbeats 8000000 in
theorem made_l0 {Q : Exit → Act → World → Prop} {u0 u2 u6 u7 u8 u9 u10 u11 u12 u13 u14 u15 u16 u17 u18 u19 u20 u21 u22 u23 u24 u25 u26 u27 u28 u29 u30 u31 u32 u33 u34 u35 u36 u37 u38 u39 u40 u41 u42 u43 u44 u45 u46 u47 u48 u49 u50 u51 u52 u53 u54 u55 u56 u57 u58 u59 u60 u61 u62 u63 u64 u65 u66 u67 u68 u69 u70 u71 u72 u73 u74 u75 u76 u77 u78 u79 u80 u81 u82 u83 u84 : Value} {x : NumL} {bN bS r c : Nat} {ac ah : Option Addr} {nc cc nh ch : Nat} {w W0 : World} {L : BLs} {R : List RowD} (hc : Hid (c = x.c)) (hr : Hid (r = x.r)) (hN : Hid ((bN, #[.int .i64 x.cols, .int .i64 x.rows, .slice ac nc cc, .slice ah nh ch, .int .i64 x.miss], 24) ∈ L))
   (AC : Hid (∀ W, Below w.heap.size w W → ∀ k : Nat, Calls Tryz.prog 36 #[.slice ac nc cc, .int .i64 k] W (Rets W (.int .i64 (atv x.coefs k))))) (AH : Hid (∀ W, Below w.heap.size w W → ∀ k : Nat, Calls Tryz.prog 36 #[.slice ah nh ch, .int .i64 k] W (Rets W (.int .i64 (atv x.hidden k))))) (hf : Hid (∀ k, Fits (atv x.coefs k) ∧ Fits (atv x.hidden k))) (hm : Hid (Fits x.miss)) (h0 : Hid (Mem w ((bS, #[.int .i64 c, .slice none 0 0], 27) :: L) R W0)) {body : Code} (hbody : getLoop Tryz.f11.body 0 = some body)
   (hQ : ∀ (fs : BLs) (sv : Value) (xs : List Value) (v5 v6 v7 v8 v18 v19 v20 v21 v22 v23 v24 v25 v26 v27 v28 v29 v30 v31 v32 v33 v34 v35 v36 v37 v38 v39 v40 v41 v42 v43 v44 v45 v46 v47 v48 v49 v50 v51 v52 v53 v54 v55 v56 v57 v58 v59 v60 v61 v62 v63 v64 v65 v66 v67 v68 v69 v70 v71 v72 v73 v74 v75 v76 v77 v78 v79 v80 v81 v82 v83 : Value) (W' : World), Hid (Mem w ((bS, #[.int .i64 c, sv], 27) :: (fs ++ L)) (⟨60, 2, sv, r, xs⟩ :: R) W' ∧ EqsAt fs ((List.range r).map x.row) xs) → Q (.exit 0) { tmps := List.toArray (u0::.pointer (some ⟨bN, 0, none⟩)::u2::.pointer (some ⟨bS, 0, none⟩)::.int .i64 r::v5::v6::v7::v8::u9::u10::u11::u12::u13::u14::u15::u16::u17::v18::v19::v20::v21::v22::v23::v24::v25::v26::v27::v28::v29::v30::v31::v32::v33::v34::v35::v36::v37::v38::v39::v40::v41::v42::v43::v44::v45::v46::v47::v48::v49::v50::v51::v52::v53::v54::v55::v56::v57::v58::v59::v60::v61::v62::v63::v64::v65::v66::v67::v68::v69::v70::v71::v72::v73::v74::v75::v76::v77::v78::v79::v80::v81::v82::v83::u84::[]), defers := [] } W') :
   (Code.loop body).wp Tryz.prog Q { tmps := List.toArray (u0::.pointer (some ⟨bN, 0, none⟩)::u2::.pointer (some ⟨bS, 0, none⟩)::.int .i64 r::.int .i64 0::u6::u7::u8::u9::u10::u11::u12::u13::u14::u15::u16::u17::u18::u19::u20::u21::u22::u23::u24::u25::u26::u27::u28::u29::u30::u31::u32::u33::u34::u35::u36::u37::u38::u39::u40::u41::u42::u43::u44::u45::u46::u47::u48::u49::u50::u51::u52::u53::u54::u55::u56::u57::u58::u59::u60::u61::u62::u63::u64::u65::u66::u67::u68::u69::u70::u71::u72::u73::u74::u75::u76::u77::u78::u79::u80::u81::u82::u83::u84::[]), defers := [] } W0 := by
 obtain rfl := Option.some.inj (hbody.symm.trans (rfl : getLoop Tryz.f11.body 0 = some _))
 clear hbody
 replace hQ := Lib.hid hQ
 go_loopw [5] (fun s wr => ∃ (i : Nat) (fs : BLs) (sv : Value) (xs : List Value), s = .int .i64 i ∧ i ≤ r ∧ Hid (Mem w ((bS, #[.int .i64 c, sv], 27) :: (fs ++ L)) (⟨60, 2, sv, i, xs⟩ :: R) wr ∧ EqsAt fs ((List.range i).map x.row) xs)) (fun s _ => r - (intOf s).toNat)
 case atStart => exact ⟨0, [], .slice none 0 0, [], rfl, by omega, Lib.hid ⟨h0.out.row0 60 2, EqsAt.nil _⟩⟩
 case round =>
   clear h0
   obtain ⟨i, fs, sv, xs, rfl, hi, hM⟩ := hrel
   by_cases hir : i < r
   case neg =>
     have hir' : ¬ (i : Int) < r := by omega
     obtain rfl : i = r := by omega
     go_wp2_with fail
     exact hQ.out fs sv xs _ _ _ _ _ _ _ _ _ _ _ _ _ _ _ _ _ _ _ _ _ _ _ _ _ _ _ _ _ _ _ _ _ _ _ _ _ _ _ _ _ _ _ _ _ _ _ _ _ _ _ _ _ _ _ _ _ _ _ _ _ _ _ _ _ _ _ _ _ _ _ hM
   case pos =>
     have hir' : (i : Int) < r := by omega
     obtain ⟨W1, eW, hM1, hB⟩ := hM.out.1.add' #[.slice none 0 0, .int .i64 0] 60
     have hE := Lib.hid hM.out.2
     obtain ⟨B, eB⟩ : ∃ B, B = wr.heap.size := ⟨_, rfl⟩
     rw [← eB] at hM1 hB
     go_upto_region 7 with fail
     rw [← eW, ← eB]
     replace hM1 := Lib.hid hM1
     clear hM eW hB eB
     go_wp2_with fail
     refine made_l2 (x := x) (bN := bN) (bS := bS) (bE := B) (i := i) (c := c) (cv := .slice ac nc cc) (hv := .slice ah nh ch) (w := w) (L := (bS, #[.int .i64 c, sv], 27) :: (fs ++ L)) (R := ⟨60, 2, sv, i, xs⟩ :: R) hc (Lib.hid (by have := x.r_eq; have := hr.out; omega)) (Lib.hid fun W hW => ⟨hW.cell _ _ _ (List.mem_cons_of_mem _ (List.mem_append_right _ hN.out)) 2, hW.cell _ _ _ (List.mem_cons_of_mem _ (List.mem_append_right _ hN.out)) 3⟩) (Lib.hid fun W hW => hW.cell _ _ _ List.mem_cons_self 0) (Lib.hid fun W hW k => AC.out W hW.below k) (Lib.hid fun W hW k => AH.out W hW.below k) hf hM1 (by kernel_rfl) ?_
     intro vf u7 u8 u24 u25 u26 u27 u28 u29 u30 u31 u32 u33 u34 u35 u36 u37 u38 u39 u40 u41 u42 u43 u44 u45 u46 u47 u48 u49 u50 u51 u52 u53 u54 u55 u56 u57 W2 hM2
     clear hM1
     have hxs : ((List.range c).map fun k => Value.int .i64 (x.coef i k)) = ((List.range c).map (x.coef i)).map (Value.int .i64) := by rw [List.map_map]; rfl
     rw [hxs] at hM2
     clear hxs
     have hlen : ((List.range c).map (x.coef i)).length = c := by simp
     obtain ⟨gs, hin, hM3⟩ := hM2.out.freezeI (l := (List.range c).map (x.coef i)) hlen.symm
     obtain ⟨av, cp, rfl⟩ := hin.shape
     rw [hlen] at hin hM3 hM2
     clear hM2 hlen
     replace hin := Lib.hid hin
     have hM3 := Lib.hid hM3
     have hrb := x.r_eq
     have hrr := hr.out
     have hi5 : i ≤ 5 := by omega
     have hr5 : r ≤ 5 := by omega
     replace hrr := Lib.hid hrr
     clear hrb
     have hre : Hid ((List.range (i + 1)).map x.row = (List.range i).map x.row ++ [((List.range c).map (x.coef i), x.val i)]) := Lib.hid (by rw [List.range_succ, List.map_append, hc.out]; rfl)
     have hval : Hid (x.val i = if x.hit i then x.sum i c + pkv (x.miss.tdiv 30) 41 - 20 else x.sum i c) := Lib.hid (by unfold NumL.val; rw [hc.out])
     have hsb := x.sum_small i (k := c) (by have := x.c_eq; have := hc.out; omega)
     have hmb := hm.out
     unfold Fits at hmb
     have hmem : Hid (∀ V, (bN, #[.int .i64 x.cols, .int .i64 x.rows, .slice ac nc cc, .slice ah nh ch, .int .i64 x.miss], 24) ∈ (gs ++ (B, #[.slice av c cp, .int .i64 V], 60) :: (bS, #[.int .i64 c, sv], 27) :: (fs ++ L) : BLs)) := Lib.hid (fun V => List.mem_append_right _ (List.mem_cons_of_mem _ (List.mem_cons_of_mem _ (List.mem_append_right _ hN.out))))
     generalize x.sum i c = s0 at *
     have z0 := hM3.out.cell _ _ _ (hmem.out _) 0
     have z1 := hM3.out.cell _ _ _ (hmem.out _) 1
     have z2 := hM3.out.cell _ _ _ (hmem.out _) 2
     have z3 := hM3.out.cell _ _ _ (hmem.out _) 3
     have z4 := hM3.out.cell _ _ _ (hmem.out _) 4
     have MS := Lib.hid (fun W => misses_any x.cols x.rows x.miss (.slice ac nc cc) (.slice ah nh ch) _ _ _ _ _ _ rfl rfl hm.out W)
     have hmd : Fits (x.miss.tdiv 3) := (tdivL3 hm.out).1
     have hmd2 : Fits (x.miss.tdiv 30) := (tdivL30 hm.out).1
     have hq1 : IntKind.i64.wrap (x.miss.tdiv 3) = x.miss.tdiv 3 := (tdivL3 hm.out).2
     have hq2 : IntKind.i64.wrap (x.miss.tdiv 30) = x.miss.tdiv 30 := (tdivL30 hm.out).2
     cases hmis : pkv x.miss 3 == 2
     case false =>
       have hv : Hid (x.val i = s0) := Lib.hid (by rw [hval.out]; unfold NumL.hit NumL.misses; rw [hmis]; rfl)
       rw [hmis] at MS
       clear hmis hval
       go_wp2_with fail
       refine Calls.mono (MS.out _) ?_
       rintro e w3 ⟨rfl, hb⟩
       have hM3 := Lib.hid (hM3.out.call hb)
       clear hb z0 z1 z2 z3 z4 hq1 hq2 hmd hmd2
       have hM6 := Lib.hid (hM3.out.front2)
       have y0 := (hM3.out.cell _ _ _ (List.mem_append_right _ List.mem_cons_self) 0).trans (show _ = some (Value.slice av c cp) from rfl)
       have y1 := (hM3.out.cell _ _ _ (List.mem_append_right _ List.mem_cons_self) 1).trans (show _ = some (Value.int .i64 (s0)) from rfl)
       have y2 := (hM6.out.cell _ _ _ List.mem_cons_self 1).trans (show _ = some sv from rfl)
       clear hM3
       go_upto_region 5 with (at_builtin; refine wpList_appE rfl rfl (hM6.out.new _) rfl rfl ((Blk.new _ _ _).cell 0) ((Blk.new _ _ _).cell 1) rfl rfl (by omega) ?_; intro g2 c2 W8 hM8; have q0 := hM8.cell bS _ _ (.head _) 1; have q1 := hM8.frozen bS _ _ (.head _) 1; replace hM8 := hM8.put0 1 (.slice (some ⟨g2, 0, none⟩) (i + 1) c2))
       go_wp2_with fail
       go_roundw
       case rel => exact ⟨i + 1, gs ++ fs, _, _, by go_num, by omega, Lib.hid ⟨by rw [List.append_assoc]; assumption, by rw [hre.out, hv.out]; exact hE.out.snoc (hin.out.mono (fun p hp => List.mem_append_left _ hp)) (fun p hp => List.mem_append_right _ hp)⟩⟩
       case measure => simp [intOf]; omega
     case true =>
       have P3 := Lib.hid (fun W => pickR6_any (x.miss.tdiv 3) r hmd (by omega) (by omega) W)
       have P4 := Lib.hid (fun W => pickR6_any (x.miss.tdiv 30) 41 hmd2 (by decide) (by decide) W)
       have hp1 := pkv_nonneg (c := x.miss.tdiv 30) (m := 41) (by decide)
       have hp2 := pkv_lt (c := x.miss.tdiv 30) (m := 41) (by decide)
       have hhit : Hid (x.hit i = ((i : Int) == pkv (x.miss.tdiv 3) r)) := Lib.hid (by unfold NumL.hit NumL.misses; rw [hmis, hrr.out]; rfl)
       rw [hmis] at MS
       clear hmis
       generalize pkv (x.miss.tdiv 3) r = p3 at *
       generalize pkv (x.miss.tdiv 30) 41 = p4 at *
       go_wp2_with fail
       refine Calls.mono (MS.out _) ?_
       rintro e w3 ⟨rfl, hb⟩
       have hM3 := Lib.hid (hM3.out.call hb)
       clear hb z0 z1 z2 z3 z4
       have z4 := hM3.out.cell _ _ _ (hmem.out _) 4
       go_wp2_with fail
       refine Calls.mono (P3.out _) ?_
       rintro e w4 ⟨rfl, hb⟩
       have hM3 := Lib.hid (hM3.out.call hb)
       clear hb z4
       cases heq : (i : Int) == p3
       case false =>
         have hv : Hid (x.val i = s0) := Lib.hid (by rw [hval.out, hhit.out, heq]; rfl)
         clear hval hhit
         have hM6 := Lib.hid (hM3.out.front2)
         have y0 := (hM3.out.cell _ _ _ (List.mem_append_right _ List.mem_cons_self) 0).trans (show _ = some (Value.slice av c cp) from rfl)
         have y1 := (hM3.out.cell _ _ _ (List.mem_append_right _ List.mem_cons_self) 1).trans (show _ = some (Value.int .i64 (s0)) from rfl)
         have y2 := (hM6.out.cell _ _ _ List.mem_cons_self 1).trans (show _ = some sv from rfl)
         clear hM3
         go_upto_region 5 with (at_builtin; refine wpList_appE rfl rfl (hM6.out.new _) rfl rfl ((Blk.new _ _ _).cell 0) ((Blk.new _ _ _).cell 1) rfl rfl (by omega) ?_; intro g2 c2 W8 hM8; have q0 := hM8.cell bS _ _ (.head _) 1; have q1 := hM8.frozen bS _ _ (.head _) 1; replace hM8 := hM8.put0 1 (.slice (some ⟨g2, 0, none⟩) (i + 1) c2))
         go_wp2_with fail
         go_roundw
         case rel => exact ⟨i + 1, gs ++ fs, _, _, by go_num, by omega, Lib.hid ⟨by rw [List.append_assoc]; assumption, by rw [hre.out, hv.out]; exact hE.out.snoc (hin.out.mono (fun p hp => List.mem_append_left _ hp)) (fun p hp => List.mem_append_right _ hp)⟩⟩
         case measure => simp [intOf]; omega
       case true =>
         have hv : Hid (x.val i = s0 + p4 - 20) := Lib.hid (by rw [hval.out, hhit.out, heq]; rfl)
         clear hval hhit
         go_upto_region 14 with fail
         refine made_r14 (bN := bN) (bE := B) (v := .slice av c cp) (w := w) (L := gs ++ (bS, #[.int .i64 c, sv], 27) :: (fs ++ L)) (R := ⟨60, 2, sv, i, xs⟩ :: R) (ms := x.miss) (mq := x.miss.tdiv 30) (pk := p4) (sa := s0 + p4) (s0 := s0) (s1 := s0 + p4 - 20) hq2 (IntWalk.i64_in _ (by omega)) (IntWalk.i64_in _ (by omega)) (Lib.hid fun W hW => hW.cell _ _ _ (List.mem_append_right _ (List.mem_cons_of_mem _ (List.mem_append_right _ hN.out))) 4) P4 (Lib.hid hM3.out.front) (by kernel_rfl) ?_
         intro z69 z70 z71 z72 z73 z74 z75 z76 z77 W5 hM5
         have hM3 := Lib.hid hM5
         clear hM5
         have hM6 := Lib.hid (hM3.out.tail.front)
         have y0 := (hM3.out.cell _ _ _ List.mem_cons_self 0).trans (show _ = some (Value.slice av c cp) from rfl)
         have y1 := (hM3.out.cell _ _ _ List.mem_cons_self 1).trans (show _ = some (Value.int .i64 (s0 + p4 - 20)) from rfl)
         have y2 := (hM6.out.cell _ _ _ List.mem_cons_self 1).trans (show _ = some sv from rfl)
         clear hM3
         go_upto_region 5 with (at_builtin; refine wpList_appE rfl rfl (hM6.out.new _) rfl rfl ((Blk.new _ _ _).cell 0) ((Blk.new _ _ _).cell 1) rfl rfl (by omega) ?_; intro g2 c2 W8 hM8; have q0 := hM8.cell bS _ _ (.head _) 1; have q1 := hM8.frozen bS _ _ (.head _) 1; replace hM8 := hM8.put0 1 (.slice (some ⟨g2, 0, none⟩) (i + 1) c2))
         go_wp2_with fail
         go_roundw
         case rel => exact ⟨i + 1, gs ++ fs, _, _, by go_num, by omega, Lib.hid ⟨by rw [List.append_assoc]; assumption, by rw [hre.out, hv.out]; exact hE.out.snoc (hin.out.mono (fun p hp => List.mem_append_left _ hp)) (fun p hp => List.mem_append_right _ hp)⟩⟩
         case measure => simp [intOf]; omega
set_option maxRecDepth 100000 in
set_option maxHeartbeats 8000000 in
theorem made_any (x : NumL) (vc vh : Value) (w : World) (hc : Sl w vc x.coefs) (hh : Sl w vh x.hidden) (hF : Fits x.cols ∧ Fits x.rows ∧ Fits x.miss) (hf : ∀ k, Fits (atv x.coefs k) ∧ Fits (atv x.hidden k)) :
   Calls Tryz.prog 11 #[.agg #[.int .i64 x.cols, .int .i64 x.rows, vc, vh, .int .i64 x.miss]] w fun e w' => ∃ v, e = .returned (.agg #[.int .i64 x.c, v]) ∧ SlE w' v x.made ∧ Below w.heap.size w w' := by
 obtain ⟨ac, cc, rfl⟩ := hc.shape
 obtain ⟨ah, ch, rfl⟩ := hh.shape
 have HC := Lib.hid hc
 have HH := Lib.hid hh
 have AC := Lib.hid (fun W (hW : Below w.heap.size w W) (k : Nat) => at6_any (.slice ac x.coefs.length cc) x.coefs k W (HC.out.below hW))
 have AH := Lib.hid (fun W (hW : Below w.heap.size w W) (k : Nat) => at6_any (.slice ah x.hidden.length ch) x.hidden k W (HH.out.below hW))
 replace hf := Lib.hid hf
 have hm := Lib.hid hF.2.2
 have P1 := Lib.hid (fun W => pickR6_any x.cols 8 hF.1 (by decide) (by decide) W)
 have P2 := Lib.hid (fun W => pickR6_any x.rows 5 hF.2.1 (by decide) (by decide) W)
 have hcq := x.c_eq
 have hrq := x.r_eq
 obtain ⟨c, hc0⟩ : ∃ c, c = x.c := ⟨_, rfl⟩
 obtain ⟨r, hr0⟩ : ∃ r, r = x.r := ⟨_, rfl⟩
 rw [← hc0] at hcq
 rw [← hr0] at hrq
 have hw1 : IntKind.i64.wrap (1 + pkv x.cols 8) = (c : Int) := by rw [← hcq.1]; exact IntWalk.i64_in _ (by omega)
 have hw2 : IntKind.i64.wrap (1 + pkv x.rows 5) = (r : Int) := by rw [← hrq.1]; exact IntWalk.i64_in _ (by omega)
 have hmade : Hid ((List.range r).map x.row = x.made) := Lib.hid (by rw [hr0]; rfl)
 rw [← hc0]
 replace hc0 := Lib.hid hc0
 replace hr0 := Lib.hid hr0
 generalize pkv x.cols 8 = p1 at *
 generalize pkv x.rows 5 = p2 at *
 clear hc hh hF hcq hrq
 generalize x.coefs.length = nc at *
 generalize x.hidden.length = nh at *
 obtain ⟨V1, e1, S1, s1⟩ := (Mem.start w).add' #[.int .i64 x.cols, .int .i64 x.rows, .slice ac nc cc, .slice ah nh ch, .int .i64 x.miss] 24
 obtain ⟨V2, e2, S2, s2⟩ := S1.add' #[.int .i64 0, .slice none 0 0] 27
 rw [s1] at S2
 rw [e1] at e2
 have hM := Lib.hid S2
 have z0 := S2.cell w.heap.size _ _ (.tail _ (.head _)) 0
 have z1 := S2.cell w.heap.size _ _ (.tail _ (.head _)) 1
 clear e1 S1 s1 S2 s2 HC HH
 go_enter Tryz.func11, Tryz.ntmps11
 go_upto_region 1 with fail
 rw [← e2]
 clear e2
 go_wp2_with fail
 refine Calls.mono (P1.out _) ?_
 rintro e w1 ⟨rfl, hb⟩
 replace hM := Lib.hid (hM.out.call hb)
 clear z0 z1 hb
 obtain ⟨V3, e3, S3, s3⟩ := hM.out.add' #[.int .i64 c, .slice none 0 0] 27
 have z1 := S3.cell w.heap.size _ _ (.tail _ (.tail _ (.head _))) 1
 obtain ⟨B, hB⟩ : ∃ B, B = w1.heap.size := ⟨_, rfl⟩
 rw [← hB] at S3
 replace hM := Lib.hid S3
 clear S3 s3
 go_upto_region 2 with fail
 rw [← e3, ← hB]
 clear e3 hB
 go_wp2_with fail
 refine Calls.mono (P2.out _) ?_
 rintro e w2 ⟨rfl, hb⟩
 replace hM := Lib.hid (hM.out.call hb)
 clear z1 hb
 go_wp2_with fail
 refine made_l0 (x := x) (bN := w.heap.size) (bS := B) (r := r) (c := c) (ac := ac) (ah := ah) (nc := nc) (cc := cc) (nh := nh) (ch := ch) (w := w) (L := [(w.heap.size + 1, #[.int .i64 0, .slice none 0 0], 27), (w.heap.size, #[.int .i64 x.cols, .int .i64 x.rows, .slice ac nc cc, .slice ah nh ch, .int .i64 x.miss], 24)]) (R := []) hc0 hr0 (Lib.hid (.tail _ (.head _))) AC AH hf hm hM (by kernel_rfl) ?_
 clear hM
 intro fs sv xs _ _ _ _ _ _ _ _ _ _ _ _ _ _ _ _ _ _ _ _ _ _ _ _ _ _ _ _ _ _ _ _ _ _ _ _ _ _ _ _ _ _ _ _ _ _ _ _ _ _ _ _ _ _ _ _ _ _ _ _ _ _ _ _ _ _ _ _ _ _ W3 hM
 have hF := Mem.front (A := (B, #[.int .i64 c, sv], 27) :: fs) (C := [(w.heap.size, #[.int .i64 x.cols, .int .i64 x.rows, .slice ac nc cc, .slice ah nh ch, .int .i64 x.miss], 24)]) hM.out.1
 have hrl : r = x.made.length := by rw [x.made_len]; exact hr0.out
 have hq := hM.out.2
 rw [hmade.out] at hq
 obtain ⟨a, cp, hsv⟩ := (hq.slE hM.out.1 hrl (fun p hp => List.mem_cons_of_mem _ (List.mem_append_left _ hp))).shape
 have hO := hF.out2 (.int .i64 c) sv
 have hsl := Lib.hid (hq.slE hO hrl (fun p hp => List.mem_cons_of_mem _ (List.mem_append_left _ (List.mem_cons_of_mem _ hp))))
 have hfin := Lib.hid hO.below
 obtain ⟨k0, k1, f0, f1, y0, y1⟩ := out_two (hF.blks _ List.mem_cons_self) (.int .i64 c) sv
 have z0 := (hM.out.1.cell _ _ _ List.mem_cons_self 0).trans (show _ = some (Value.int .i64 c) from rfl)
 have z1 := (hM.out.1.cell _ _ _ List.mem_cons_self 1).trans (show _ = some sv from rfl)
 clear hM hF hO hq
 generalize x.made.length = nm at *
 subst hsv
 replace hrl := Lib.hid hrl
 clear hw1 hw2
 go_wp2
 exact bodyPost_ret (v := .agg #[.int .i64 c, .slice a nm cp]) (by simp [results, Tryz.results11, go_sem, y0, y1]) rfl ⟨_, rfl, hsl.out, hfin.out⟩
end Go.Proofs.YtcmomjnailihpaaGreatDoor
