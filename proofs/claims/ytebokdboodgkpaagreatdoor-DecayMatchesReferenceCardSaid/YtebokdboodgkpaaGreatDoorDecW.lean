/- putloglaw26: example. -/
import Derived.Test.YtebokdboodgkpaaGreatDoorDecV
namespace Go.Proofs.YtebokdboodgkpaaGreatDoor
open Go.RowKit
open DecM (Dt gd gd_lt gd_mem okD Ln)
attribute [local go_sem] Oper.semAt_some

/-- The cells of the example's data. -/
def exC (p q r : Dt) : Array Value := #[.int .i64 p.t, .int .i64 p.lo, .int .i64 p.hi, .int .i64 q.t, .int .i64 q.lo, .int .i64 q.hi, .int .i64 r.t, .int .i64 r.lo, .int .i64 r.hi]
set_option maxRecDepth 100000 in
set_option maxHeartbeats 4000000 in
theorem example_any (w : World) : Calls Tryz.prog 28 #[] w fun e w' => e = .returned (.slice (some ⟨w.heap.size, 0, none⟩) 3 3) ∧ w' = w.alloc (.cells #[.int .i64 0, .int .i64 0, .int .i64 2, .int .i64 10, .int .i64 4, .int .i64 6, .int .i64 20, .int .i64 9, .int .i64 10] 58) := by
  go_enter Tryz.func28, Tryz.ntmps28
  go_wp2
  exact bodyPost_ret (v := .slice (some ⟨w.heap.size, 0, none⟩) 3 3) (by simp [results, Tryz.results28, go_sem]) rfl ⟨rfl, rfl⟩
theorem SlD.of3 {W : World} {B : Nat} {p q r : Dt} (h : Blk W B #[.int .i64 p.t, .int .i64 p.lo, .int .i64 p.hi, .int .i64 q.t, .int .i64 q.lo, .int .i64 q.hi, .int .i64 r.t, .int .i64 r.lo, .int .i64 r.hi] 58) : SlD W (.slice (some ⟨B, 0, none⟩) 3 3) [p, q, r] := by
  refine .inr ⟨B, 0, 3, rfl, by simp, by unfold maxLen; omega, h.lt, fun j hj => ?_⟩
  match j, hj with
  | 0, _ => exact ⟨h.cell 0, h.cell 1, h.cell 2⟩
  | 1, _ => exact ⟨h.cell 3, h.cell 4, h.cell 5⟩
  | 2, _ => exact ⟨h.cell 6, h.cell 7, h.cell 8⟩
end Go.Proofs.YtebokdboodgkpaaGreatDoor
