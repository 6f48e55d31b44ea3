/- The contract of sort.Search. -/
import Derived.Test.YtbnilfjhalildaaGreatDoorBase
import Derived.Test.YtbnilfjhalildaaGreatDoorProg
namespace Go.Proofs.YtbnilfjhalildaaGreatDoor
open Go.RowKit

/-- i parts the places below n: what lies just before it says no, it itself says yes. -/
def Parts (p : Nat → Bool) (lo hi n : Nat) : Prop := (∀ j, lo = j + 1 → p j = false) ∧ (hi < n → p hi = true)

set_option maxRecDepth 100000 in
set_option maxHeartbeats 1000000 in
theorem search_any (g : Nat) (cap : Array Value) (n : Nat) (p : Nat → Bool) (w : World) (hn : n ≤ 1000000)
    (hE : ∀ (args : Array Value) (w : World), (callFunc g args).run Tryz.prog w = .ok (.enter g args) w)
    (hF : ∀ (W : World) (i : Nat), Below w.heap.size w W → i < n → Calls Tryz.prog g (#[.int .i64 i] ++ cap) W fun e W' => e = .returned (.bool (p i)) ∧ Below W.heap.size W W') :
    Calls Tryz.prog 67 #[.int .i64 n, .func (.func g) #[] cap] w (Gives w fun v _ => ∃ i : Nat, v = .int .i64 i ∧ i ≤ n ∧ Parts p i i n) := by
  have HF := Lib.hid hF
  clear hF
  go_enter Tryz.func67, Tryz.ntmps67
  go_wp2
  go_outline
  go_loopw [5, 6] (fun s5 s6 wr => ∃ (lo hi : Nat), s5 = .int .i64 lo ∧ s6 = .int .i64 hi ∧ lo ≤ hi ∧ hi ≤ n ∧ Hid (Parts p lo hi n) ∧ Below w.heap.size w wr)
    (fun s5 s6 _ => (intOf s6 - intOf s5).toNat)
  case atStart => exact ⟨0, n, rfl, rfl, by omega, by omega, (⟨fun j h => (by omega), fun h => (by omega)⟩ : Parts p 0 n n), Below.refl _ _⟩
  case round =>
    obtain ⟨lo, hi, rfl, rfl, hlh, hin, hP, hnx⟩ := hrel
    by_cases hlt : lo < hi
    · have hc := HF.out wr ((lo + hi) / 2) hnx (by omega)
      rw [show (((lo + hi) / 2 : Nat) : Int) = ((lo : Int) + (hi : Int)) / 2 by omega] at hc
      cases hp : p ((lo + hi) / 2) <;> rw [hp] at hc
      · have Hp := Lib.hid hp
        clear hp
        go_wp2_with fail
        refine hc.mono ?_
        rintro e W' ⟨rfl, hb⟩
        go_wp2_with fail
        go_roundw
        case rel => exact ⟨(lo + hi) / 2 + 1, hi, by rw [show ((lo : Int) + (hi : Int)) / 2 + 1 = (((lo + hi) / 2 + 1 : Nat) : Int) by omega], rfl, by omega, hin, (⟨fun j h => by rw [show j = (lo + hi) / 2 by omega]; exact Hp.out, hP.out.2⟩ : Parts p _ _ n), hnx.trans (hb.mono hnx.size)⟩
        case measure => simp [intOf]; omega
      · have Hp := Lib.hid hp
        clear hp
        go_wp2_with fail
        refine hc.mono ?_
        rintro e W' ⟨rfl, hb⟩
        go_wp2_with fail
        go_roundw
        case rel => exact ⟨lo, (lo + hi) / 2, rfl, by rw [show ((lo : Int) + (hi : Int)) / 2 = (((lo + hi) / 2 : Nat) : Int) by omega], by omega, by omega, (⟨hP.out.1, fun _ => Hp.out⟩ : Parts p _ _ n), hnx.trans (hb.mono hnx.size)⟩
        case measure => simp [intOf]; omega
    · obtain rfl : lo = hi := by omega
      go_wp2_with fail
      go_ret
      exact ⟨⟨_, rfl, lo, rfl, hin, hP.out⟩, hnx⟩
end Go.Proofs.YtbnilfjhalildaaGreatDoor
