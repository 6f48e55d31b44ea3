/- putloglaw04: is, sane. -/
import Derived.Test.YtiekbcbcbgmnmaaGreatDoorPkJ
import Derived.Deep.RegionHeld3
import Derived.Deep.DeepCutAuto
namespace Go.Proofs.YtiekbcbcbgmnmaaGreatDoor
open Go.RowKit
attribute [local go_sem] Oper.semAt_some

set_option maxRecDepth 100000 in
set_option maxHeartbeats 4000000 in
theorem is_any (a b : ByteArray) (w : World) : Calls Tryz.prog 27 #[.string a, .string b] w (Rets w (.agg #[.string a, .string b])) := by
  have hB := (Below.refl w.heap.size w).alloc (Nat.le_refl _) (.cells #[.string a, .string b] 23)
  go_enter Tryz.func27, Tryz.ntmps27
  go_wp2
  exact bodyPost_ret (v := .agg #[.string a, .string b]) (by simp [results, Tryz.results27, go_sem]) rfl ⟨rfl, hB⟩

/-- Fractions that a call has in blocks of its own. -/
structure SL (w : World) (L : List (Nat × ByteArray × ByteArray)) (W : World) : Prop where
  below : Below w.heap.size w W
  blks : ∀ p ∈ L, Blk W p.1 #[.string p.2.1, .string p.2.2] 23
theorem SL.start (w : World) : SL w [] w := ⟨Below.refl _ _, fun p h => by cases h⟩
theorem SL.call {w W W' : World} {L : List (Nat × ByteArray × ByteArray)} (h : SL w L W) (hb : Below W.heap.size W W') : SL w L W' :=
  ⟨kb_call hb h.below (Nat.le_refl _), fun p hp => (h.blks p hp).below hb⟩
theorem SL.drew {w W : World} {L : List (Nat × ByteArray × ByteArray)} (h : SL w L W) : SL w L W.drew := h.call (below_drewN W 1)
theorem SL.add {w W : World} {L : List (Nat × ByteArray × ByteArray)} (h : SL w L W) (n d : ByteArray) : ∃ W', W' = W.alloc (.cells #[.string n, .string d] 23) ∧ SL w ((W.heap.size, n, d) :: L) W' := by
  obtain ⟨W', hW, hk, hb⟩ := box_two W (.string n) (.string d) 23
  refine ⟨W', hW, (h.call hb).below, fun p hp => ?_⟩
  rcases List.mem_cons.1 hp with rfl | hp
  · exact hk
  · exact (h.call hb).blks p hp
theorem SL.new {w W : World} {L : List (Nat × ByteArray × ByteArray)} (h : SL w L W) (o : Obj) : SL w L (W.alloc o) := h.call ((Below.refl _ _).alloc (Nat.le_refl _) o)
theorem SL.c {w W : World} {L : List (Nat × ByteArray × ByteArray)} (h : SL w L W) (B : Nat) (n d : ByteArray) (hm : (B, n, d) ∈ L) : W.cell? ⟨B, 0, none⟩ = some (.string n) ∧ W.cell? ⟨B, 1, none⟩ = some (.string d) := blk_two (h.blks _ hm)
theorem SL.lts {w W : World} {L : List (Nat × ByteArray × ByteArray)} (h : SL w L W) : ∀ p ∈ L, p.1 < W.heap.size := fun p hp => (h.blks p hp).lt
theorem SL.setG {w W : World} {L : List (Nat × ByteArray × ByteArray)} {g : Nat} (h : SL w L W) (hge : w.heap.size ≤ g) (hlt : ∀ p ∈ L, p.1 < g) (x y : Value) : SL w L ((W.setCell ⟨g, 0, none⟩ x).setCell ⟨g, 1, none⟩ y) :=
  ⟨(h.below.setCell (p := ⟨g, 0, none⟩) hge x).setCell (p := ⟨g, 1, none⟩) hge y, fun p hp => (h.blks p hp).only (S := [g]) (((Only.refl [g] W).setCell (p := ⟨g, 0, none⟩) (by simp) x).setCell (p := ⟨g, 1, none⟩) (by simp) y) (by have := hlt p hp; simp; omega)⟩
/-- A new result's block, behind a call. -/
theorem new_res {W W' : World} (hb : Below (W.alloc (.cells #[.string ⟨#[]⟩, .string ⟨#[]⟩] 23)).heap.size (W.alloc (.cells #[.string ⟨#[]⟩, .string ⟨#[]⟩] 23)) W') : Blk W' W.heap.size #[.string ⟨#[]⟩, .string ⟨#[]⟩] 23 := (Blk.new _ _ _).below hb
theorem new_res_drew {W W' : World} (hb : Below (W.alloc (.cells #[.string ⟨#[]⟩, .string ⟨#[]⟩] 23)).drew.heap.size (W.alloc (.cells #[.string ⟨#[]⟩, .string ⟨#[]⟩] 23)).drew W') : Blk W' W.heap.size #[.string ⟨#[]⟩, .string ⟨#[]⟩] 23 := ((Blk.new _ _ _).below (below_drewN _ 1)).below hb
theorem SL.envQ {w W : World} {L : List (Nat × ByteArray × ByteArray)} (h : SL w L W) (hE : EnvQ w) : EnvQ W := hE.below h.below (Nat.le_refl _)

theorem oV_lit {o : Option Rat} {a b : ByteArray} {e : Int} (h : a = tN o ∧ b = tD o ∧ e = eO o) : oV o = .tuple #[.agg #[.string a, .string b], .int .i64 e] := by
  rw [h.1, h.2.1, h.2.2]; rfl

theorem add_lit (a b : Option Rat) (n1 d1 n2 d2 n d : ByteArray) (e : Int) (ha : OkO a) (hb : OkO b) (h1 : n1 = tN a ∧ d1 = tD a ∧ n2 = tN b ∧ d2 = tD b) (h2 : n = tN (oAdd a b) ∧ d = tD (oAdd a b) ∧ e = eO (oAdd a b)) (w : World) (hE : Env w) :
    Calls Tryz.prog 26 #[.agg #[.string n1, .string d1], .agg #[.string n2, .string d2]] w (Rets w (.tuple #[.agg #[.string n, .string d], .int .i64 e])) := by
  rw [← oV_lit h2, h1.1, h1.2.1, h1.2.2.1, h1.2.2.2]; exact qadd_o ha hb w hE
theorem sub_lit (a b : Option Rat) (n1 d1 n2 d2 n d : ByteArray) (e : Int) (ha : OkO a) (hb : OkO b) (h1 : n1 = tN a ∧ d1 = tD a ∧ n2 = tN b ∧ d2 = tD b) (h2 : n = tN (oSub a b) ∧ d = tD (oSub a b) ∧ e = eO (oSub a b)) (w : World) (hE : Env w) :
    Calls Tryz.prog 32 #[.agg #[.string n1, .string d1], .agg #[.string n2, .string d2]] w (Rets w (.tuple #[.agg #[.string n, .string d], .int .i64 e])) := by
  rw [← oV_lit h2, h1.1, h1.2.1, h1.2.2.1, h1.2.2.2]; exact qsub_o ha hb w hE
theorem mul_lit (a b : Option Rat) (n1 d1 n2 d2 n d : ByteArray) (e : Int) (ha : OkO a) (hb : OkO b) (h1 : n1 = tN a ∧ d1 = tD a ∧ n2 = tN b ∧ d2 = tD b) (h2 : n = tN (oMul a b) ∧ d = tD (oMul a b) ∧ e = eO (oMul a b)) (w : World) (hE : Env w) :
    Calls Tryz.prog 33 #[.agg #[.string n1, .string d1], .agg #[.string n2, .string d2]] w (Rets w (.tuple #[.agg #[.string n, .string d], .int .i64 e])) := by
  rw [← oV_lit h2, h1.1, h1.2.1, h1.2.2.1, h1.2.2.2]; exact qmul_o ha hb w hE
theorem div_lit (a b : Option Rat) (n1 d1 n2 d2 n d : ByteArray) (e : Int) (ha : OkO a) (hb : OkO b) (h1 : n1 = tN a ∧ d1 = tD a ∧ n2 = tN b ∧ d2 = tD b) (h2 : n = tN (oDiv a b) ∧ d = tD (oDiv a b) ∧ e = eO (oDiv a b)) (w : World) (hE : Env w) :
    Calls Tryz.prog 28 #[.agg #[.string n1, .string d1], .agg #[.string n2, .string d2]] w (Rets w (.tuple #[.agg #[.string n, .string d], .int .i64 e])) := by
  rw [← oV_lit h2, h1.1, h1.2.1, h1.2.2.1, h1.2.2.2]; exact qdiv_o ha hb w hE
theorem down_lit (a : Option Rat) (k : Int) (n1 d1 n d : ByteArray) (e : Int) (ha : OkO a) (h1 : n1 = tN a ∧ d1 = tD a) (h2 : n = tN (oRnd false a k) ∧ d = tD (oRnd false a k) ∧ e = eO (oRnd false a k)) (w : World) (hE : Env w) :
    Calls Tryz.prog 16 #[.agg #[.string n1, .string d1], .int .i64 k] w (Rets w (.tuple #[.agg #[.string n, .string d], .int .i64 e])) := by
  rw [← oV_lit h2, h1.1, h1.2]; exact qdown_o ha k w hE
theorem up_lit (a : Option Rat) (k : Int) (n1 d1 n d : ByteArray) (e : Int) (ha : OkO a) (h1 : n1 = tN a ∧ d1 = tD a) (h2 : n = tN (oRnd true a k) ∧ d = tD (oRnd true a k) ∧ e = eO (oRnd true a k)) (w : World) (hE : Env w) :
    Calls Tryz.prog 18 #[.agg #[.string n1, .string d1], .int .i64 k] w (Rets w (.tuple #[.agg #[.string n, .string d], .int .i64 e])) := by
  rw [← oV_lit h2, h1.1, h1.2]; exact qup_o ha k w hE
theorem of_lit (x y : Int) (n d : ByteArray) (e : Int) (hx : Fits x) (hy : Fits y) (h2 : n = tN (oOf x y) ∧ d = tD (oOf x y) ∧ e = eO (oOf x y)) (w : World) (hE : Env w) :
    Calls Tryz.prog 24 #[.int .i64 x, .int .i64 y] w (Rets w (.tuple #[.agg #[.string n, .string d], .int .i64 e])) := by
  rw [← oV_lit h2]; exact qof_o x y hx hy w hE
theorem parse_lit (s : ByteArray) (c : Bool) (n d : ByteArray) (e : Int) (hs : s.size ≤ 100000) (hc : (rOk (cutN s) (cutD s) && decide (prt (cutN s) (cutD s) = s)) = c) (h2 : n = tN (oIf c (rv (cutN s) (cutD s))) ∧ d = tD (oIf c (rv (cutN s) (cutD s))) ∧ e = eO (oIf c (rv (cutN s) (cutD s)))) (w : World) (hE : EnvQ w) :
    Calls Tryz.prog 29 #[.string s] w (Rets w (.tuple #[.agg #[.string n, .string d], .int .i64 e])) := by
  rw [← oV_lit h2, ← qT_oIf, ← hc]; exact qparse_run s hs w hE

set_option maxRecDepth 100000 in
set_option maxHeartbeats 16000000 in
theorem saneQ_any (w : World) (hE : EnvQ w) : Calls Tryz.prog 4 #[] w (Rets w (.bool true)) := by
  have hS := SL.start w
  go_enter Tryz.func4, Tryz.ntmps4
  go_wp2_with fail
  refine (of_lit 6 (-4) ⟨#[45, 51]⟩ ⟨#[50]⟩ 0 (by unfold Fits; omega) (by unfold Fits; omega) (by decide +kernel) _ (hS.envQ hE).env).mono ?_
  rintro e w1 ⟨rfl, hb⟩
  have hS := hS.call hb
  clear hb
  obtain ⟨W, hW, hS⟩ := hS.add ⟨#[45, 51]⟩ ⟨#[50]⟩
  go_wp2_with fail
  rw [← hW]
  clear hW
  refine (of_lit 0 (-5) ⟨#[48]⟩ ⟨#[49]⟩ 0 (by unfold Fits; omega) (by unfold Fits; omega) (by decide +kernel) _ (hS.envQ hE).env).mono ?_
  rintro e w2 ⟨rfl, hb⟩
  have hS := hS.call hb
  clear hb
  obtain ⟨W, hW, hS⟩ := hS.add ⟨#[48]⟩ ⟨#[49]⟩
  go_wp2_with fail
  rw [← hW]
  clear hW
  refine (of_lit 1 0 ⟨#[]⟩ ⟨#[]⟩ 40 (by unfold Fits; omega) (by unfold Fits; omega) (by decide +kernel) _ (hS.envQ hE).env).mono ?_
  rintro e w3 ⟨rfl, hb⟩
  have hS := hS.call hb
  clear hb
  obtain ⟨W, hW, hS⟩ := hS.add ⟨#[]⟩ ⟨#[]⟩
  go_wp2_with fail
  rw [← hW]
  clear hW
  refine (is_any _ _ _).mono ?_
  rintro e w' ⟨rfl, hb⟩
  have hS := hS.call hb
  clear hb
  go_wp2_with fail
  refine (is_any _ _ _).mono ?_
  rintro e w' ⟨rfl, hb⟩
  have hS := hS.call hb
  clear hb
  go_wp2_with fail
  refine (add_lit (some (Rat.divInt (1) 2)) (some (Rat.divInt (1) 3)) ⟨#[49]⟩ ⟨#[50]⟩ ⟨#[49]⟩ ⟨#[51]⟩ ⟨#[53]⟩ ⟨#[54]⟩ 0 (OkO.some (by decide +kernel)) (OkO.some (by decide +kernel)) (by decide +kernel) (by decide +kernel) _ (hS.envQ hE).env).mono ?_
  rintro e w4 ⟨rfl, hb⟩
  have hS := hS.call hb
  clear hb
  obtain ⟨W, hW, hS⟩ := hS.add ⟨#[53]⟩ ⟨#[54]⟩
  go_wp2_with fail
  rw [← hW]
  clear hW
  refine (is_any _ _ _).mono ?_
  rintro e w' ⟨rfl, hb⟩
  have hS := hS.call hb
  clear hb
  go_wp2_with fail
  refine (is_any _ _ _).mono ?_
  rintro e w' ⟨rfl, hb⟩
  have hS := hS.call hb
  clear hb
  go_wp2_with fail
  refine (div_lit (some (Rat.divInt (1) 2)) (some (Rat.divInt (-1) 4)) ⟨#[49]⟩ ⟨#[50]⟩ ⟨#[45, 49]⟩ ⟨#[52]⟩ ⟨#[45, 50]⟩ ⟨#[49]⟩ 0 (OkO.some (by decide +kernel)) (OkO.some (by decide +kernel)) (by decide +kernel) (by decide +kernel) _ (hS.envQ hE).env).mono ?_
  rintro e w5 ⟨rfl, hb⟩
  have hS := hS.call hb
  clear hb
  obtain ⟨W, hW, hS⟩ := hS.add ⟨#[45, 50]⟩ ⟨#[49]⟩
  go_upto_region 6 with fail
  rw [← hW]
  clear hW
  obtain ⟨x0, x1⟩ := hS.c w2.heap.size ⟨#[48]⟩ ⟨#[49]⟩ (by simp)
  have h0 := hS
  have hS := hS.drew
  go_cut [11, 12] (fun s11 s12 wx => (∃ g : Nat, s11 = .pointer (some ⟨g, 0, none⟩)) ∧ s12 = .int .i64 40 ∧ SL w [(w5.heap.size, ⟨#[45, 50]⟩, ⟨#[49]⟩), (w4.heap.size, ⟨#[53]⟩, ⟨#[54]⟩), (w3.heap.size, ⟨#[]⟩, ⟨#[]⟩), (w2.heap.size, ⟨#[48]⟩, ⟨#[49]⟩), (w1.heap.size, ⟨#[45, 51]⟩, ⟨#[50]⟩)] wx)
  case first =>
    go_region_held3 (fun w' => w'.cell? ⟨w2.heap.size, 0, none⟩ = some (.string ⟨#[48]⟩) ∧ w'.cell? ⟨w2.heap.size, 1, none⟩ = some (.string ⟨#[49]⟩))
      (first | exact hS.c w2.heap.size ⟨#[48]⟩ ⟨#[49]⟩ (by simp) | exact (hS.new _).c w2.heap.size ⟨#[48]⟩ ⟨#[49]⟩ (by simp) | exact ((h0.new _).drew).c w2.heap.size ⟨#[48]⟩ ⟨#[49]⟩ (by simp) | exact (hS.setG hge hlt _ _).c w2.heap.size ⟨#[48]⟩ ⟨#[49]⟩ (by simp) | go_keep)
      (first | (go_at_call 27; refine (is_any _ _ _).mono ?_; rintro e w' ⟨rfl, hb⟩; (first | (have hS := hS.call hb) | (have hlt := hS.lts; have hge := hS.below.size; have hN := new_res hb; have n0 := (blk_two hN).1; have n1 := (blk_two hN).2; have m0 := hN.frozen 0; have m1 := hN.frozen 1; have hS := (hS.new _).call hb) | (have hlt := h0.lts; have hge := h0.below.size; have hN := new_res_drew hb; have n0 := (blk_two hN).1; have n1 := (blk_two hN).2; have m0 := hN.frozen 0; have m1 := hN.frozen 1; have hS := ((h0.new _).drew).call hb)); clear hb) | (go_at_call 28; refine Calls.mono (div_lit (some (Rat.divInt (1) 1)) (some (Rat.divInt (0) 1)) ⟨#[49]⟩ ⟨#[49]⟩ ⟨#[48]⟩ ⟨#[49]⟩ ⟨#[]⟩ ⟨#[]⟩ 40 (OkO.some (by decide +kernel)) (OkO.some (by decide +kernel)) (by decide +kernel) (by decide +kernel) _ ?_) ?_; (first | exact (hS.envQ hE).env | exact ((hS.new _).envQ hE).env); rintro e w6 ⟨rfl, hb⟩; (first | (have hS := hS.call hb; first | (have hN := hN.below hb; have n0 := (blk_two hN).1; have n1 := (blk_two hN).2; have m0 := hN.frozen 0; have m1 := hN.frozen 1) | skip) | (have hlt := hS.lts; have hge := hS.below.size; have hN := new_res hb; have n0 := (blk_two hN).1; have n1 := (blk_two hN).2; have m0 := hN.frozen 0; have m1 := hN.frozen 1; have hS := (hS.new _).call hb)); clear hb))
    all_goals (go_wp2_with fail; go_meet; exact ⟨⟨_, rfl⟩, rfl, by first | exact hS | exact hS.new _ | exact hS.setG hge hlt _ _⟩)
  case rest =>
    clear x0 x1 hS
    obtain ⟨⟨g, rfl⟩, rfl, hS⟩ := hcut
    go_wp2_with fail
    refine (is_any _ _ _).mono ?_
    rintro e w' ⟨rfl, hb⟩
    have hS := hS.call hb
    clear hb
    go_wp2_with fail
    refine (down_lit (some (Rat.divInt (-1) 3)) 2 ⟨#[45, 49]⟩ ⟨#[51]⟩ ⟨#[45, 49, 55]⟩ ⟨#[53, 48]⟩ 0 (OkO.some (by decide +kernel)) (by decide +kernel) (by decide +kernel) _ (hS.envQ hE).env).mono ?_
    rintro e w7 ⟨rfl, hb⟩
    have hS := hS.call hb
    clear hb
    obtain ⟨W, hW, hS⟩ := hS.add ⟨#[45, 49, 55]⟩ ⟨#[53, 48]⟩
    go_wp2_with fail
    rw [← hW]
    clear hW
    refine (is_any _ _ _).mono ?_
    rintro e w' ⟨rfl, hb⟩
    have hS := hS.call hb
    clear hb
    go_wp2_with fail
    refine (up_lit (some (Rat.divInt (1) 3)) 2 ⟨#[49]⟩ ⟨#[51]⟩ ⟨#[49, 55]⟩ ⟨#[53, 48]⟩ 0 (OkO.some (by decide +kernel)) (by decide +kernel) (by decide +kernel) _ (hS.envQ hE).env).mono ?_
    rintro e w8 ⟨rfl, hb⟩
    have hS := hS.call hb
    clear hb
    obtain ⟨W, hW, hS⟩ := hS.add ⟨#[49, 55]⟩ ⟨#[53, 48]⟩
    go_wp2_with fail
    rw [← hW]
    clear hW
    refine (parse_lit ⟨#[45, 51, 47, 50]⟩ true ⟨#[45, 51]⟩ ⟨#[50]⟩ 0 (by decide +kernel) (by decide +kernel) (by decide +kernel) _ (hS.envQ hE)).mono ?_
    rintro e w9 ⟨rfl, hb⟩
    have hS := hS.call hb
    clear hb
    obtain ⟨W, hW, hS⟩ := hS.add ⟨#[45, 51]⟩ ⟨#[50]⟩
    go_wp2_with fail
    rw [← hW]
    clear hW
    refine (parse_lit ⟨#[54, 47, 52]⟩ false ⟨#[]⟩ ⟨#[]⟩ 40 (by decide +kernel) (by decide +kernel) (by decide +kernel) _ (hS.envQ hE)).mono ?_
    rintro e w10 ⟨rfl, hb⟩
    have hS := hS.call hb
    clear hb
    obtain ⟨W, hW, hS⟩ := hS.add ⟨#[]⟩ ⟨#[]⟩
    go_upto_region 12 with fail
    rw [← hW]
    clear hW
    have h0 := hS
    have hC : ∀ W', SL w [(w10.heap.size, ⟨#[]⟩, ⟨#[]⟩), (w9.heap.size, ⟨#[45, 51]⟩, ⟨#[50]⟩), (w8.heap.size, ⟨#[49, 55]⟩, ⟨#[53, 48]⟩), (w7.heap.size, ⟨#[45, 49, 55]⟩, ⟨#[53, 48]⟩), (w5.heap.size, ⟨#[45, 50]⟩, ⟨#[49]⟩), (w4.heap.size, ⟨#[53]⟩, ⟨#[54]⟩), (w3.heap.size, ⟨#[]⟩, ⟨#[]⟩), (w2.heap.size, ⟨#[48]⟩, ⟨#[49]⟩), (w1.heap.size, ⟨#[45, 51]⟩, ⟨#[50]⟩)] W' → (W'.cell? ⟨w1.heap.size, 0, none⟩ = some (.string ⟨#[45, 51]⟩) ∧ W'.cell? ⟨w1.heap.size, 1, none⟩ = some (.string ⟨#[50]⟩) ∧ W'.cell? ⟨w2.heap.size, 0, none⟩ = some (.string ⟨#[48]⟩) ∧ W'.cell? ⟨w2.heap.size, 1, none⟩ = some (.string ⟨#[49]⟩) ∧ W'.cell? ⟨w4.heap.size, 0, none⟩ = some (.string ⟨#[53]⟩) ∧ W'.cell? ⟨w4.heap.size, 1, none⟩ = some (.string ⟨#[54]⟩) ∧ W'.cell? ⟨w5.heap.size, 0, none⟩ = some (.string ⟨#[45, 50]⟩) ∧ W'.cell? ⟨w5.heap.size, 1, none⟩ = some (.string ⟨#[49]⟩) ∧ W'.cell? ⟨w7.heap.size, 0, none⟩ = some (.string ⟨#[45, 49, 55]⟩) ∧ W'.cell? ⟨w7.heap.size, 1, none⟩ = some (.string ⟨#[53, 48]⟩) ∧ W'.cell? ⟨w8.heap.size, 0, none⟩ = some (.string ⟨#[49, 55]⟩) ∧ W'.cell? ⟨w8.heap.size, 1, none⟩ = some (.string ⟨#[53, 48]⟩) ∧ W'.cell? ⟨w9.heap.size, 0, none⟩ = some (.string ⟨#[45, 51]⟩) ∧ W'.cell? ⟨w9.heap.size, 1, none⟩ = some (.string ⟨#[50]⟩)) := fun W' h =>
      ⟨(h.c (w1.heap.size) ⟨#[45, 51]⟩ ⟨#[50]⟩ (by simp)).1, (h.c (w1.heap.size) ⟨#[45, 51]⟩ ⟨#[50]⟩ (by simp)).2, (h.c (w2.heap.size) ⟨#[48]⟩ ⟨#[49]⟩ (by simp)).1, (h.c (w2.heap.size) ⟨#[48]⟩ ⟨#[49]⟩ (by simp)).2, (h.c (w4.heap.size) ⟨#[53]⟩ ⟨#[54]⟩ (by simp)).1, (h.c (w4.heap.size) ⟨#[53]⟩ ⟨#[54]⟩ (by simp)).2, (h.c (w5.heap.size) ⟨#[45, 50]⟩ ⟨#[49]⟩ (by simp)).1, (h.c (w5.heap.size) ⟨#[45, 50]⟩ ⟨#[49]⟩ (by simp)).2, (h.c (w7.heap.size) ⟨#[45, 49, 55]⟩ ⟨#[53, 48]⟩ (by simp)).1, (h.c (w7.heap.size) ⟨#[45, 49, 55]⟩ ⟨#[53, 48]⟩ (by simp)).2, (h.c (w8.heap.size) ⟨#[49, 55]⟩ ⟨#[53, 48]⟩ (by simp)).1, (h.c (w8.heap.size) ⟨#[49, 55]⟩ ⟨#[53, 48]⟩ (by simp)).2, (h.c (w9.heap.size) ⟨#[45, 51]⟩ ⟨#[50]⟩ (by simp)).1, (h.c (w9.heap.size) ⟨#[45, 51]⟩ ⟨#[50]⟩ (by simp)).2⟩
    have hC := Lib.hid hC
    have hS := hS.drew
    obtain ⟨x0, x1, x2, x3, x4, x5, x6, x7, x8, x9, x10, x11, x12, x13⟩ := hC.out _ h0
    have P1 := fun W (hE : Env W) => qprint_any ⟨#[45, 51]⟩ ⟨#[50]⟩ W hE
    rw [show prt ⟨#[45, 51]⟩ ⟨#[50]⟩ = ⟨#[45, 51, 47, 50]⟩ by decide +kernel] at P1
    have K1 := fun W (hE : Env W) => qcmp_any ⟨#[49]⟩ ⟨#[51]⟩ ⟨#[51, 51, 51, 51, 51]⟩ ⟨#[49, 48, 48, 48, 48, 48]⟩ W hE
    rw [show (if (rOk ⟨#[49]⟩ ⟨#[51]⟩ && rOk ⟨#[51, 51, 51, 51, 51]⟩ ⟨#[49, 48, 48, 48, 48, 48]⟩) = true then Lib.compareInt (zS ⟨#[49]⟩ * zS ⟨#[49, 48, 48, 48, 48, 48]⟩) (zS ⟨#[51, 51, 51, 51, 51]⟩ * zS ⟨#[51]⟩) else 0) = 1 by decide +kernel] at K1
    have y1 : rOk ⟨#[45, 51]⟩ ⟨#[50]⟩ = true := by decide +kernel
    have y2 : rOk ⟨#[]⟩ ⟨#[]⟩ = false := by decide +kernel
    have P1' := Lib.hid P1
    have K1' := Lib.hid K1
    clear P1 K1
    go_region_held3 (fun w' => w'.cell? ⟨w1.heap.size, 0, none⟩ = some (.string ⟨#[45, 51]⟩) ∧ w'.cell? ⟨w1.heap.size, 1, none⟩ = some (.string ⟨#[50]⟩) ∧ w'.cell? ⟨w2.heap.size, 0, none⟩ = some (.string ⟨#[48]⟩) ∧ w'.cell? ⟨w2.heap.size, 1, none⟩ = some (.string ⟨#[49]⟩) ∧ w'.cell? ⟨w4.heap.size, 0, none⟩ = some (.string ⟨#[53]⟩) ∧ w'.cell? ⟨w4.heap.size, 1, none⟩ = some (.string ⟨#[54]⟩) ∧ w'.cell? ⟨w5.heap.size, 0, none⟩ = some (.string ⟨#[45, 50]⟩) ∧ w'.cell? ⟨w5.heap.size, 1, none⟩ = some (.string ⟨#[49]⟩) ∧ w'.cell? ⟨w7.heap.size, 0, none⟩ = some (.string ⟨#[45, 49, 55]⟩) ∧ w'.cell? ⟨w7.heap.size, 1, none⟩ = some (.string ⟨#[53, 48]⟩) ∧ w'.cell? ⟨w8.heap.size, 0, none⟩ = some (.string ⟨#[49, 55]⟩) ∧ w'.cell? ⟨w8.heap.size, 1, none⟩ = some (.string ⟨#[53, 48]⟩) ∧ w'.cell? ⟨w9.heap.size, 0, none⟩ = some (.string ⟨#[45, 51]⟩) ∧ w'.cell? ⟨w9.heap.size, 1, none⟩ = some (.string ⟨#[50]⟩))
      (first | exact hC.out _ hS | go_keep)
      (first | (go_at_call 27; refine (is_any _ _ _).mono ?_; rintro e w' ⟨rfl, hb⟩; have hS := hS.call hb; clear hb) | (go_at_call 30; refine (P1'.out _ (hS.envQ hE).env).mono ?_; rintro e w' ⟨rfl, hb⟩; have hS := hS.call hb; clear hb) | (go_at_call 13; refine (K1'.out _ (hS.envQ hE).env).mono ?_; rintro e w' ⟨rfl, hb⟩; have hS := hS.call hb; clear hb) | (go_at_call 22; refine (qvalid_any _ _ _ (hS.envQ hE).env).mono ?_; rintro e w' ⟨rfl, hb⟩; have hS := hS.call hb; clear hb))
    go_wp2
    go_ret
    exact ⟨rfl, hS.below⟩
end Go.Proofs.YtiekbcbcbgmnmaaGreatDoor
