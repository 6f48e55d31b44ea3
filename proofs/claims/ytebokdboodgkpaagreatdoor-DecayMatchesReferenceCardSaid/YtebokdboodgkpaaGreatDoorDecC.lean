/- package decay: whether a line fits. -/
import Derived.Test.YtebokdboodgkpaaGreatDoorDecB
import Derived.Test.YtebokdboodgkpaaGreatDoorBlq
import Derived.Deep.RegionHeld3
import Derived.Deep.DeepCutAuto
namespace Go.Proofs.YtebokdboodgkpaaGreatDoor
open Go.RowKit
open DecM (Dt gd gd_lt gd_mem okF okD Ln)
attribute [local go_sem] Oper.semAt_some


theorem isIn_b (n lo hi : Int) (w : World) : Calls Tryz.prog 42 #[.int .i64 n, .int .i64 lo, .int .i64 hi] w (Rets w (.bool (decide (lo ≤ n) && decide (n ≤ hi)))) :=
  (isIn_any n lo hi w).mono fun _ _ h => ⟨h.1, by rw [← h.2]; exact Below.refl _ _⟩
/-- The bounds of a valid datum. -/
structure DtOk (d : Dt) : Prop where
  t : 0 ≤ d.t ∧ d.t ≤ 800000
  lo : -1000000 ≤ d.lo ∧ d.lo ≤ 1000000
  hi : -1000000 ≤ d.hi ∧ d.hi ≤ 1000000
theorem dtOk_of {l : List Dt} (h : okD l = true) {d : Dt} (hd : d ∈ l) : DtOk d := by
  obtain ⟨_, h2, _⟩ := DecM.okD_iff.1 h
  have := h2 d hd
  exact ⟨by omega, by omega, by omega⟩
/-- Whether a datum lies off a line. -/
def offB (x : Ln) (d : Dt) : Bool := !(decide (d.lo * (x.u - x.t) ≤ x.on d.t) && decide (x.on d.t ≤ d.hi * (x.u - x.t)))
theorem fits_off (x : Ln) (l : List Dt) : (!l.any (offB x)) = x.fits l := by
  unfold DecM.Ln.fits offB
  induction l with
  | nil => rfl
  | cons d l ih => rw [List.any_cons, List.all_cons, ← ih, Bool.not_or, Bool.not_not]

set_option maxRecDepth 100000 in
set_option maxHeartbeats 16000000 in
theorem fits1_any (x : Ln) (d : Dt) (Bx Bn : Nat) (hx : LnOk x) (hd : DtOk d) (w : World) (k1 : Blk w Bx #[.int .i64 x.t, .int .i64 x.v, .int .i64 x.u, .int .i64 x.w] 63) (k2 : Blk w Bn #[.int .i64 (x.u - x.t)] 3) :
    Calls Tryz.prog 111 #[.agg #[.int .i64 d.t, .int .i64 d.lo, .int .i64 d.hi], .pointer (some ⟨Bx, 0, none⟩), .pointer (some ⟨Bn, 0, none⟩)] w (Rets w (.bool (offB x d))) := by
  have ON := Lib.hid (fun W => on_any x d.t hx hd.t W)
  have hob := on_le hx hd.t
  obtain ⟨n, hn⟩ : ∃ n : Int, n = x.u - x.t := ⟨_, rfl⟩
  unfold offB
  rw [← hn] at k2 ⊢
  have nb : -800000 ≤ n ∧ n ≤ 800000 := by have := hx.t; have := hx.u; omega
  have m1 := mul_bd (a := d.lo) (b := n) 1000000 800000 (by have := hd.lo; omega) (by omega)
  have m2 := mul_bd (a := d.hi) (b := n) 1000000 800000 (by have := hd.hi; omega) (by omega)
  generalize x.on d.t = r at *
  obtain ⟨p, hp⟩ : ∃ p : Int, p = d.lo * n := ⟨_, rfl⟩
  obtain ⟨u, hu⟩ : ∃ u : Int, u = d.hi * n := ⟨_, rfl⟩
  have IN := Lib.hid (fun W => isIn_b r (d.lo * n) (d.hi * n) W)
  generalize (decide (d.lo * n ≤ r) && decide (r ≤ d.hi * n)) = bb at *
  have w1 : IntKind.i64.wrap (d.lo * n) = d.lo * n := IntWalk.i64_in _ (by omega)
  have w2 : IntKind.i64.wrap (d.hi * n) = d.hi * n := IntWalk.i64_in _ (by omega)
  clear m1 m2 hp hu hob nb hn hx hd
  have S0 : BL w [(Bn, #[.int .i64 n], 3), (Bx, #[.int .i64 x.t, .int .i64 x.v, .int .i64 x.u, .int .i64 x.w], 63)] w := ⟨Below.refl _ _, fun p hp => by rcases List.mem_cons.1 hp with rfl | hp; exact k2; rcases List.mem_cons.1 hp with rfl | hp; exact k1; cases hp⟩
  obtain ⟨V, hV, hS, hz⟩ := S0.add' #[.int .i64 d.t, .int .i64 d.lo, .int .i64 d.hi] 58
  clear S0 hz k1 k2
  go_enter Tryz.func111, Tryz.ntmps111
  go_upto_region 1 with fail
  rw [← hV]
  clear hV
  have hC0 : ∀ W', BL w [(w.heap.size, #[.int .i64 d.t, .int .i64 d.lo, .int .i64 d.hi], 58), (Bn, #[.int .i64 n], 3), (Bx, #[.int .i64 x.t, .int .i64 x.v, .int .i64 x.u, .int .i64 x.w], 63)] W' → (W'.cell? ⟨w.heap.size, 0, none⟩ = some (.int .i64 d.t) ∧ W'.cell? ⟨w.heap.size, 1, none⟩ = some (.int .i64 d.lo) ∧ W'.cell? ⟨w.heap.size, 2, none⟩ = some (.int .i64 d.hi) ∧ W'.cell? ⟨Bx, 0, none⟩ = some (.int .i64 x.t) ∧ W'.cell? ⟨Bx, 1, none⟩ = some (.int .i64 x.v) ∧ W'.cell? ⟨Bx, 2, none⟩ = some (.int .i64 x.u) ∧ W'.cell? ⟨Bx, 3, none⟩ = some (.int .i64 x.w) ∧ W'.cell? ⟨Bn, 0, none⟩ = some (.int .i64 n)) := fun W' h => ⟨(h.cell (w.heap.size) _ _ (.head _) 0), (h.cell (w.heap.size) _ _ (.head _) 1), (h.cell (w.heap.size) _ _ (.head _) 2), (h.cell (Bx) _ _ (.tail _ (.tail _ (.head _))) 0), (h.cell (Bx) _ _ (.tail _ (.tail _ (.head _))) 1), (h.cell (Bx) _ _ (.tail _ (.tail _ (.head _))) 2), (h.cell (Bx) _ _ (.tail _ (.tail _ (.head _))) 3), (h.cell (Bn) _ _ (.tail _ (.head _)) 0)⟩
  have hC := Lib.hid hC0
  clear hC0
  obtain ⟨x0', x1', x2', x3', x4', x5', x6', x7'⟩ := hC.out _ hS
  replace hS := hS.drew
  go_region_held3 (fun w' => w'.cell? ⟨w.heap.size, 0, none⟩ = some (.int .i64 d.t) ∧ w'.cell? ⟨w.heap.size, 1, none⟩ = some (.int .i64 d.lo) ∧ w'.cell? ⟨w.heap.size, 2, none⟩ = some (.int .i64 d.hi) ∧ w'.cell? ⟨Bx, 0, none⟩ = some (.int .i64 x.t) ∧ w'.cell? ⟨Bx, 1, none⟩ = some (.int .i64 x.v) ∧ w'.cell? ⟨Bx, 2, none⟩ = some (.int .i64 x.u) ∧ w'.cell? ⟨Bx, 3, none⟩ = some (.int .i64 x.w) ∧ w'.cell? ⟨Bn, 0, none⟩ = some (.int .i64 n))
    (first | with_reducible exact hC.out _ hS | go_keep)
    (first | (go_at_call 33; (with_reducible refine Calls.mono (ON.out _) ?_); rintro e w' ⟨rfl, hb⟩; replace hS := hS.call hb; clear hb) | (go_at_call 42; (with_reducible refine Calls.mono (IN.out _) ?_); rintro e w' ⟨rfl, hb⟩; replace hS := hS.call hb; clear hb))
  go_wp2
  go_ret
  exact ⟨rfl, hS.below⟩

set_option maxRecDepth 100000 in
set_option maxHeartbeats 16000000 in
/-- (line).fits. -/
theorem lfits_any (x : Ln) (v : Value) (l : List Dt) (hx : LnOk x) (hl : ∀ d ∈ l, DtOk d) (w : World) (h : SlD w v l) :
    Calls Tryz.prog 87 #[.agg #[.int .i64 x.t, .int .i64 x.v, .int .i64 x.u, .int .i64 x.w], v] w (Rets w (.bool (x.fits l))) := by
  rw [← fits_off]
  have k1 := Blk.new w #[.int .i64 x.t, .int .i64 x.v, .int .i64 x.u, .int .i64 x.w] 63
  have b1 := kb_new (Below.refl w.heap.size w) (.cells #[.int .i64 x.t, .int .i64 x.v, .int .i64 x.u, .int .i64 x.w] 63)
  have k2 := Blk.new (w.alloc (.cells #[.int .i64 x.t, .int .i64 x.v, .int .i64 x.u, .int .i64 x.w] 63)) #[.int .i64 (x.u - x.t)] 3
  have b2 := kb_new b1 (.cells #[.int .i64 (x.u - x.t)] 3)
  have k1 := k1.alloc (.cells #[.int .i64 (x.u - x.t)] 3)
  obtain ⟨V, hV⟩ : ∃ V, V = (w.alloc (.cells #[.int .i64 x.t, .int .i64 x.v, .int .i64 x.u, .int .i64 x.w] 63)).alloc (.cells #[.int .i64 (x.u - x.t)] 3) := ⟨_, rfl⟩
  rw [← hV] at k1 k2 b2
  rw [World.size_alloc] at k2
  have C := Lib.hid (containsD_any v l 111 #[.pointer (some ⟨w.heap.size, 0, none⟩), .pointer (some ⟨w.heap.size + 1, 0, none⟩)] (offB x) V (h.below b2) (Go.Proofs.enters_of Tryz.func111 (by kernel_rfl) rfl) (fun W d hd hb => fits1_any x d w.heap.size (w.heap.size + 1) hx (hl d hd) W (k1.below hb) (k2.below hb)))
  have w1 : IntKind.i64.wrap (x.u - x.t) = x.u - x.t := IntWalk.i64_in _ (by have := hx.t; have := hx.u; omega)
  generalize l.any (offB x) = bb at *
  obtain ⟨a, cap, rfl⟩ := h.shape
  clear hx hl h k1 k2 b1
  go_enter Tryz.func87, Tryz.ntmps87
  go_wp2_with fail
  rw [← hV]
  clear hV
  refine Calls.mono C.out ?_
  rintro e w' ⟨rfl, hb⟩
  go_wp2
  go_ret
  exact ⟨rfl, kb_call hb b2 (Nat.le_refl _)⟩

end Go.Proofs.YtebokdboodgkpaaGreatDoor
