/- package decay: measures of lines; which line is better. -/
import Derived.Test.YtebokdboodgkpaaGreatDoorDecD
import Derived.Deep.RegionHeld3
import Derived.Deep.QuietTactic
import Derived.BigQuiet
namespace Go.Proofs.YtebokdboodgkpaaGreatDoor
open Go.RowKit Go.Shelf
open DecM (Dt gd gd_lt gd_mem okF okD Ln fitting lns prs four stepB bst sg)
attribute [local go_sem] Oper.semAt_some


/-- A measure that a function value computes in every world behind w. -/
structure Meas (w : World) (gm : Nat) (lbm : Array Value) (m : Ln → Int) : Prop where
  enters : ∀ (args : Array Value) (w : World), (callFunc gm args).run Tryz.prog w = .ok (.enter gm args) w
  bd : ∀ x, LnOk x → -1600000000000 ≤ m x ∧ m x ≤ 1600000000000
  call : ∀ (W : World) (x : Ln), LnOk x → Below w.heap.size w W → Calls Tryz.prog gm (#[.agg #[.int .i64 x.t, .int .i64 x.v, .int .i64 x.u, .int .i64 x.w]] ++ lbm) W (Rets W (.int .i64 (m x)))
theorem Meas.below {w w' : World} {gm : Nat} {lbm : Array Value} {m : Ln → Int} (h : Meas w gm lbm m) (hb : Below w.heap.size w w') : Meas w' gm lbm m :=
  ⟨h.enters, h.bd, fun W x hx hw => h.call W x hx (kb_call hw hb (Nat.le_refl _))⟩
theorem sign_any (b : Bool) (w : World) : Calls Tryz.prog 64 #[.bool b] w (Rets w (.int .i64 (sg b))) := by
  cases b
  all_goals
    go_enter Tryz.func64, Tryz.ntmps64
    go_wp2
    go_ret
    exact ⟨rfl, Below.refl _ _⟩

set_option maxRecDepth 100000 in
set_option maxHeartbeats 16000000 in
theorem extr1_any (x : Ln) (t : Int) (hi : Bool) (Bh Bt : Nat) (hx : LnOk x) (ht : 0 ≤ t ∧ t ≤ 800000) (w : World) (k1 : Blk w Bh #[.bool hi] 4) (k2 : Blk w Bt #[.int .i64 t] 3) :
    Calls Tryz.prog 63 #[.agg #[.int .i64 x.t, .int .i64 x.v, .int .i64 x.u, .int .i64 x.w], .pointer (some ⟨Bh, 0, none⟩), .pointer (some ⟨Bt, 0, none⟩)] w (Rets w (.int .i64 (sg hi * x.on t))) := by
  have ON := Lib.hid (fun W => on_any x t hx ht W)
  have SG := Lib.hid (fun W => sign_any hi W)
  have hob := on_le hx ht
  have hsg : sg hi = 1 ∨ sg hi = -1 := by cases hi <;> simp [sg]
  generalize x.on t = r at *
  generalize sg hi = s at *
  have w1 : IntKind.i64.wrap (s * r) = s * r := IntWalk.i64_in _ (by rcases hsg with rfl | rfl <;> omega)
  clear hsg hob hx ht
  have S0 : BL w [(Bt, #[.int .i64 t], 3), (Bh, #[.bool hi], 4)] w := ⟨Below.refl _ _, fun p hp => by rcases List.mem_cons.1 hp with rfl | hp; exact k2; rcases List.mem_cons.1 hp with rfl | hp; exact k1; cases hp⟩
  obtain ⟨V, hV, hS, hz⟩ := S0.add' #[.int .i64 x.t, .int .i64 x.v, .int .i64 x.u, .int .i64 x.w] 63
  clear S0 hz k1 k2
  go_enter Tryz.func63, Tryz.ntmps63
  go_upto_region 1 with fail
  rw [← hV]
  clear hV
  have hC0 : ∀ W', BL w [(w.heap.size, #[.int .i64 x.t, .int .i64 x.v, .int .i64 x.u, .int .i64 x.w], 63), (Bt, #[.int .i64 t], 3), (Bh, #[.bool hi], 4)] W' → (W'.cell? ⟨w.heap.size, 0, none⟩ = some (.int .i64 x.t) ∧ W'.cell? ⟨w.heap.size, 1, none⟩ = some (.int .i64 x.v) ∧ W'.cell? ⟨w.heap.size, 2, none⟩ = some (.int .i64 x.u) ∧ W'.cell? ⟨w.heap.size, 3, none⟩ = some (.int .i64 x.w) ∧ W'.cell? ⟨Bt, 0, none⟩ = some (.int .i64 t) ∧ W'.cell? ⟨Bh, 0, none⟩ = some (.bool hi)) := fun W' h => ⟨(h.cell (w.heap.size) _ _ (.head _) 0), (h.cell (w.heap.size) _ _ (.head _) 1), (h.cell (w.heap.size) _ _ (.head _) 2), (h.cell (w.heap.size) _ _ (.head _) 3), (h.cell (Bt) _ _ (.tail _ (.head _)) 0), (h.cell (Bh) _ _ (.tail _ (.tail _ (.head _))) 0)⟩
  have hC := Lib.hid hC0
  clear hC0
  obtain ⟨x0', x1', x2', x3', x4', x5'⟩ := hC.out _ hS
  replace hS := hS.drew
  go_region_held3 (fun w' => w'.cell? ⟨w.heap.size, 0, none⟩ = some (.int .i64 x.t) ∧ w'.cell? ⟨w.heap.size, 1, none⟩ = some (.int .i64 x.v) ∧ w'.cell? ⟨w.heap.size, 2, none⟩ = some (.int .i64 x.u) ∧ w'.cell? ⟨w.heap.size, 3, none⟩ = some (.int .i64 x.w) ∧ w'.cell? ⟨Bt, 0, none⟩ = some (.int .i64 t) ∧ w'.cell? ⟨Bh, 0, none⟩ = some (.bool hi))
    (first | with_reducible exact hC.out _ hS | go_keep)
    (first | (go_at_call 33; (with_reducible refine Calls.mono (ON.out _) ?_); rintro e w' ⟨rfl, hb⟩; replace hS := hS.call hb; clear hb) | (go_at_call 64; (with_reducible refine Calls.mono (SG.out _) ?_); rintro e w' ⟨rfl, hb⟩; replace hS := hS.call hb; clear hb))
  go_wp2
  go_ret
  exact ⟨rfl, hS.below⟩

set_option maxRecDepth 100000 in
set_option maxHeartbeats 16000000 in
theorem rate1_any (x : Ln) (hx : LnOk x) (w : World) :
    Calls Tryz.prog 36 #[.agg #[.int .i64 x.t, .int .i64 x.v, .int .i64 x.u, .int .i64 x.w]] w (Rets w (.int .i64 (x.v - x.w))) := by
  have w1 : IntKind.i64.wrap (x.v - x.w) = x.v - x.w := IntWalk.i64_in _ (by have := hx.v; have := hx.w; omega)
  have hB := kb_new (Below.refl w.heap.size w) (.cells #[.int .i64 x.t, .int .i64 x.v, .int .i64 x.u, .int .i64 x.w] 63)
  clear hx
  go_enter Tryz.func36, Tryz.ntmps36
  go_wp2
  go_ret
  exact ⟨rfl, hB⟩

set_option maxRecDepth 100000 in
set_option maxHeartbeats 16000000 in
theorem rate2_any (x : Ln) (hx : LnOk x) (w : World) :
    Calls Tryz.prog 37 #[.agg #[.int .i64 x.t, .int .i64 x.v, .int .i64 x.u, .int .i64 x.w]] w (Rets w (.int .i64 (x.w - x.v))) := by
  have w1 : IntKind.i64.wrap (x.w - x.v) = x.w - x.v := IntWalk.i64_in _ (by have := hx.v; have := hx.w; omega)
  have hB := kb_new (Below.refl w.heap.size w) (.cells #[.int .i64 x.t, .int .i64 x.v, .int .i64 x.u, .int .i64 x.w] 63)
  clear hx
  go_enter Tryz.func37, Tryz.ntmps37
  go_wp2
  go_ret
  exact ⟨rfl, hB⟩

theorem sg_on {x : Ln} (hx : LnOk x) {t : Int} (ht : 0 ≤ t ∧ t ≤ 800000) (hi : Bool) : -1600000000000 ≤ sg hi * x.on t ∧ sg hi * x.on t ≤ 1600000000000 := by
  have := on_le hx ht
  cases hi
  · show -1600000000000 ≤ -1 * x.on t ∧ -1 * x.on t ≤ 1600000000000
    omega
  · show -1600000000000 ≤ 1 * x.on t ∧ 1 * x.on t ≤ 1600000000000
    omega

theorem meas_extr (t : Int) (hi : Bool) (Bh Bt : Nat) (ht : 0 ≤ t ∧ t ≤ 800000) (w : World) (k1 : Blk w Bh #[.bool hi] 4) (k2 : Blk w Bt #[.int .i64 t] 3) :
    Meas w 63 #[.pointer (some ⟨Bh, 0, none⟩), .pointer (some ⟨Bt, 0, none⟩)] (fun x => sg hi * x.on t) :=
  ⟨Go.Proofs.enters_of Tryz.func63 (by kernel_rfl) rfl, fun x hx => sg_on hx ht hi,
    fun W x hx hb => extr1_any x t hi Bh Bt hx ht W (k1.below hb) (k2.below hb)⟩
theorem meas_rate1 (w : World) : Meas w 36 #[] (fun x => x.v - x.w) :=
  ⟨Go.Proofs.enters_of Tryz.func36 (by kernel_rfl) rfl, fun x hx => by have := hx.v; have := hx.w; omega, fun W x hx _ => rate1_any x hx W⟩
theorem meas_rate2 (w : World) : Meas w 37 #[] (fun x => x.w - x.v) :=
  ⟨Go.Proofs.enters_of Tryz.func37 (by kernel_rfl) rfl, fun x hx => by have := hx.v; have := hx.w; omega, fun W x hx _ => rate2_any x hx W⟩

/-- Whether a line is better than the best one so far. -/
def isB (m : Ln → Int) (o : Option Ln) (x : Ln) : Bool := match o with
  | none => true
  | some y => decide (m y * (x.u - x.t) < m x * (y.u - y.t))
theorem stepB_is (m : Ln → Int) (o : Option Ln) (x : Ln) : stepB m o x = if isB m o x then some x else o := by
  cases o with
  | none => rfl
  | some y => unfold stepB isB; simp
/-- The cells of the best line so far. -/
def oC (o : Option Ln) : Array Value := match o with
  | none => #[.int .i64 0, .int .i64 0, .int .i64 0, .int .i64 0]
  | some x => #[.int .i64 x.t, .int .i64 x.v, .int .i64 x.u, .int .i64 x.w]

set_option maxRecDepth 100000 in
set_option maxHeartbeats 16000000 in
theorem is_none (x : Ln) (Bo Bm gm : Nat) (lbm : Array Value) (w : World) (k1 : Blk w Bo #[.int .i64 0, .int .i64 0, .int .i64 0, .int .i64 0] 63) (k2 : Blk w Bm #[.func (.func gm) #[] lbm] 66) :
    Calls Tryz.prog 59 #[.agg #[.int .i64 x.t, .int .i64 x.v, .int .i64 x.u, .int .i64 x.w], .pointer (some ⟨Bo, 0, none⟩), .pointer (some ⟨Bm, 0, none⟩)] w (Rets w (.bool true)) := by
  have S0 : BL w [(Bm, #[.func (.func gm) #[] lbm], 66), (Bo, #[.int .i64 0, .int .i64 0, .int .i64 0, .int .i64 0], 63)] w := ⟨Below.refl _ _, fun p hp => by rcases List.mem_cons.1 hp with rfl | hp; exact k2; rcases List.mem_cons.1 hp with rfl | hp; exact k1; cases hp⟩
  obtain ⟨V, hV, hS, hz⟩ := S0.add' #[.int .i64 x.t, .int .i64 x.v, .int .i64 x.u, .int .i64 x.w] 63
  clear S0 hz k1 k2
  go_enter Tryz.func59, Tryz.ntmps59
  go_upto_region 1 with fail
  rw [← hV]
  clear hV
  obtain ⟨c_x_0, c_x_1, c_x_2, c_x_3⟩ := hS.c4 (w.heap.size) _ _ _ _ _ (.head _)
  have c_m_0 := hS.c1 (Bm) _ _ (.tail _ (.head _))
  obtain ⟨c_o_0, c_o_1, c_o_2, c_o_3⟩ := hS.c4 (Bo) _ _ _ _ _ (.tail _ (.tail _ (.head _)))
  go_quiet (fail)
  go_wp2
  go_ret
  exact ⟨rfl, (hS.drewN _).below⟩

set_option maxRecDepth 100000 in
set_option maxHeartbeats 16000000 in
theorem is_some (m : Ln → Int) (y : Ln) (x : Ln) (Bo Bm gm : Nat) (lbm : Array Value) (hx : LnOk x) (hy : LnOk y) (hy0 : y.t < y.u) (w : World) (hM : Meas w gm lbm m) (k1 : Blk w Bo #[.int .i64 y.t, .int .i64 y.v, .int .i64 y.u, .int .i64 y.w] 63) (k2 : Blk w Bm #[.func (.func gm) #[] lbm] 66) :
    Calls Tryz.prog 59 #[.agg #[.int .i64 x.t, .int .i64 x.v, .int .i64 x.u, .int .i64 x.w], .pointer (some ⟨Bo, 0, none⟩), .pointer (some ⟨Bm, 0, none⟩)] w (Rets w (.bool (decide (m y * (x.u - x.t) < m x * (y.u - y.t))))) := by
  have S0 : BL w [(Bm, #[.func (.func gm) #[] lbm], 66), (Bo, #[.int .i64 y.t, .int .i64 y.v, .int .i64 y.u, .int .i64 y.w], 63)] w := ⟨Below.refl _ _, fun p hp => by rcases List.mem_cons.1 hp with rfl | hp; exact k2; rcases List.mem_cons.1 hp with rfl | hp; exact k1; cases hp⟩
  have MX := Lib.hid (fun W hb => hM.call W x hx hb)
  have MY := Lib.hid (fun W hb => hM.call W y hy hb)
  have hE := hM.enters
  have bx := hM.bd x hx
  have by' := hM.bd y hy
  have m1 := mul_bd (a := m y) (b := x.u - x.t) 1600000000000 800000 (by omega) (by have := hx.t; have := hx.u; omega)
  have m2 := mul_bd (a := m x) (b := y.u - y.t) 1600000000000 800000 (by omega) (by have := hy.t; have := hy.u; omega)
  generalize m x = mx at *
  generalize m y = my at *
  have w1 : IntKind.i64.wrap (x.u - x.t) = x.u - x.t := IntWalk.i64_in _ (by have := hx.t; have := hx.u; omega)
  have w2 : IntKind.i64.wrap (y.u - y.t) = y.u - y.t := IntWalk.i64_in _ (by have := hy.t; have := hy.u; omega)
  have w3 : IntKind.i64.wrap (my * (x.u - x.t)) = my * (x.u - x.t) := IntWalk.i64_in _ (by omega)
  have w4 : IntKind.i64.wrap (mx * (y.u - y.t)) = mx * (y.u - y.t) := IntWalk.i64_in _ (by omega)
  have hz1 : (¬ y.t = 0) ∨ (y.t = 0 ∧ ¬ y.v = 0) ∨ (y.t = 0 ∧ y.v = 0 ∧ ¬ y.u = 0) := by omega
  clear m1 m2 bx by' hx hy hy0 hM
  obtain ⟨V, hV, hS, hzz⟩ := S0.add' #[.int .i64 x.t, .int .i64 x.v, .int .i64 x.u, .int .i64 x.w] 63
  clear S0 hzz k1 k2
  go_enter Tryz.func59, Tryz.ntmps59
  go_upto_region 1 with fail
  rw [← hV]
  clear hV
  have hC0 : ∀ W', BL w [(w.heap.size, #[.int .i64 x.t, .int .i64 x.v, .int .i64 x.u, .int .i64 x.w], 63), (Bm, #[.func (.func gm) #[] lbm], 66), (Bo, #[.int .i64 y.t, .int .i64 y.v, .int .i64 y.u, .int .i64 y.w], 63)] W' → (W'.cell? ⟨w.heap.size, 0, none⟩ = some (.int .i64 x.t) ∧ W'.cell? ⟨w.heap.size, 1, none⟩ = some (.int .i64 x.v) ∧ W'.cell? ⟨w.heap.size, 2, none⟩ = some (.int .i64 x.u) ∧ W'.cell? ⟨w.heap.size, 3, none⟩ = some (.int .i64 x.w) ∧ W'.cell? ⟨Bm, 0, none⟩ = some (.func (.func gm) #[] lbm) ∧ W'.cell? ⟨Bo, 0, none⟩ = some (.int .i64 y.t) ∧ W'.cell? ⟨Bo, 1, none⟩ = some (.int .i64 y.v) ∧ W'.cell? ⟨Bo, 2, none⟩ = some (.int .i64 y.u) ∧ W'.cell? ⟨Bo, 3, none⟩ = some (.int .i64 y.w)) := fun W' h => ⟨(h.cell (w.heap.size) _ _ (.head _) 0), (h.cell (w.heap.size) _ _ (.head _) 1), (h.cell (w.heap.size) _ _ (.head _) 2), (h.cell (w.heap.size) _ _ (.head _) 3), (h.cell (Bm) _ _ (.tail _ (.head _)) 0), (h.cell (Bo) _ _ (.tail _ (.tail _ (.head _))) 0), (h.cell (Bo) _ _ (.tail _ (.tail _ (.head _))) 1), (h.cell (Bo) _ _ (.tail _ (.tail _ (.head _))) 2), (h.cell (Bo) _ _ (.tail _ (.tail _ (.head _))) 3)⟩
  have hC := Lib.hid hC0
  clear hC0
  obtain ⟨x0', x1', x2', x3', x4', x5', x6', x7', x8'⟩ := hC.out _ hS
  replace hS := hS.drew
  rcases hz1 with h1 | ⟨h0, h1⟩ | ⟨h0, h2, h1⟩
  · have e1 : (y.t == 0) = false := by simp [h1]
    clear h1
    go_region_held3 (fun w' => w'.cell? ⟨w.heap.size, 0, none⟩ = some (.int .i64 x.t) ∧ w'.cell? ⟨w.heap.size, 1, none⟩ = some (.int .i64 x.v) ∧ w'.cell? ⟨w.heap.size, 2, none⟩ = some (.int .i64 x.u) ∧ w'.cell? ⟨w.heap.size, 3, none⟩ = some (.int .i64 x.w) ∧ w'.cell? ⟨Bm, 0, none⟩ = some (.func (.func gm) #[] lbm) ∧ w'.cell? ⟨Bo, 0, none⟩ = some (.int .i64 y.t) ∧ w'.cell? ⟨Bo, 1, none⟩ = some (.int .i64 y.v) ∧ w'.cell? ⟨Bo, 2, none⟩ = some (.int .i64 y.u) ∧ w'.cell? ⟨Bo, 3, none⟩ = some (.int .i64 y.w))
      (first | with_reducible exact hC.out _ hS | go_keep)
      (first | ((with_reducible refine Calls.mono (MX.out _ hS.below) ?_); rintro e w' ⟨rfl, hb⟩; replace hS := hS.call hb; clear hb) | ((with_reducible refine Calls.mono (MY.out _ hS.below) ?_); rintro e w' ⟨rfl, hb⟩; replace hS := hS.call hb; clear hb))
    go_wp2
    go_ret
    exact ⟨rfl, hS.below⟩
  · have e1 : (y.t == 0) = true := by simp [h0]
    have e2 : (y.v == 0) = false := by simp [h1]
    clear h0 h1
    go_region_held3 (fun w' => w'.cell? ⟨w.heap.size, 0, none⟩ = some (.int .i64 x.t) ∧ w'.cell? ⟨w.heap.size, 1, none⟩ = some (.int .i64 x.v) ∧ w'.cell? ⟨w.heap.size, 2, none⟩ = some (.int .i64 x.u) ∧ w'.cell? ⟨w.heap.size, 3, none⟩ = some (.int .i64 x.w) ∧ w'.cell? ⟨Bm, 0, none⟩ = some (.func (.func gm) #[] lbm) ∧ w'.cell? ⟨Bo, 0, none⟩ = some (.int .i64 y.t) ∧ w'.cell? ⟨Bo, 1, none⟩ = some (.int .i64 y.v) ∧ w'.cell? ⟨Bo, 2, none⟩ = some (.int .i64 y.u) ∧ w'.cell? ⟨Bo, 3, none⟩ = some (.int .i64 y.w))
      (first | with_reducible exact hC.out _ hS | go_keep)
      (first | ((with_reducible refine Calls.mono (MX.out _ hS.below) ?_); rintro e w' ⟨rfl, hb⟩; replace hS := hS.call hb; clear hb) | ((with_reducible refine Calls.mono (MY.out _ hS.below) ?_); rintro e w' ⟨rfl, hb⟩; replace hS := hS.call hb; clear hb))
    go_wp2
    go_ret
    exact ⟨rfl, hS.below⟩
  · have e1 : (y.t == 0) = true := by simp [h0]
    have e2 : (y.v == 0) = true := by simp [h2]
    have e3 : (y.u == 0) = false := by simp [h1]
    clear h0 h1 h2
    go_region_held3 (fun w' => w'.cell? ⟨w.heap.size, 0, none⟩ = some (.int .i64 x.t) ∧ w'.cell? ⟨w.heap.size, 1, none⟩ = some (.int .i64 x.v) ∧ w'.cell? ⟨w.heap.size, 2, none⟩ = some (.int .i64 x.u) ∧ w'.cell? ⟨w.heap.size, 3, none⟩ = some (.int .i64 x.w) ∧ w'.cell? ⟨Bm, 0, none⟩ = some (.func (.func gm) #[] lbm) ∧ w'.cell? ⟨Bo, 0, none⟩ = some (.int .i64 y.t) ∧ w'.cell? ⟨Bo, 1, none⟩ = some (.int .i64 y.v) ∧ w'.cell? ⟨Bo, 2, none⟩ = some (.int .i64 y.u) ∧ w'.cell? ⟨Bo, 3, none⟩ = some (.int .i64 y.w))
      (first | with_reducible exact hC.out _ hS | go_keep)
      (first | ((with_reducible refine Calls.mono (MX.out _ hS.below) ?_); rintro e w' ⟨rfl, hb⟩; replace hS := hS.call hb; clear hb) | ((with_reducible refine Calls.mono (MY.out _ hS.below) ?_); rintro e w' ⟨rfl, hb⟩; replace hS := hS.call hb; clear hb))
    go_wp2
    go_ret
    exact ⟨rfl, hS.below⟩

end Go.Proofs.YtebokdboodgkpaaGreatDoor
