/- The reference for fractions: cross. -/
import Derived.Test.YtebokdboodgkpaaGreatDoorPkJ
import Derived.Test.YtebokdboodgkpaaGreatDoorPkI
import Derived.Test.YtebokdboodgkpaaGreatDoorBlq
import Derived.Deep.QuietTactic
import Derived.BigQuiet
namespace Go.Proofs.YtebokdboodgkpaaGreatDoor
open Go.RowKit
attribute [local go_sem] Oper.semAt_some

theorem res4 {fn : Func} {t u v x : Tmp} (h : fn.results = #[.tmp t, .tmp u, .tmp v, .tmp x]) (tmps : Array Value) (Pr : Program) (w : World) :
    (results fn tmps).run Pr w = .ok (.tuple #[tmps.getD t undef, tmps.getD u undef, tmps.getD v undef, tmps.getD x undef]) w := by simp [results, h]
/-- A product's text and error. -/
theorem mul_text {a b : ByteArray} (ha : okS a = true) (hb : okS b = true) : ∃ (s : ByteArray) (e : Int), (∀ W, Calls Tryz.prog 81 #[.string a, .string b] W (Rets W (.tuple #[.string s, .int .i64 e]))) ∧
    ((Small (zS a * zS b) ∧ e = 0 ∧ s = I (zS a * zS b)) ∨ (¬ Small (zS a * zS b) ∧ e = 30)) := by
  have sa := Nat.le_trans (okS_size ha) (show 201 ≤ 9223372036854775807 by decide)
  have sb := Nat.le_trans (okS_size hb) (show 201 ≤ 9223372036854775807 by decide)
  have h := fun W => rmul_any a b sa sb W
  rw [ha, hb] at h
  by_cases hs : Small (zS a * zS b)
  · exact ⟨_, _, fun W => Rets.of (h W) (resT_small hs), .inl ⟨hs, rfl, rfl⟩⟩
  · exact ⟨_, _, fun W => Rets.of (h W) (resT_big hs), .inr ⟨hs, rfl⟩⟩
def crB (n1 d1 n2 d2 : ByteArray) : Bool := rOk n1 d1 && rOk n2 d2 && decide (Small (zS n1 * zS d2)) && decide (Small (zS n2 * zS d1)) && decide (Small (zS d1 * zS d2))
def CrossP (w : World) (n1 d1 n2 d2 : ByteArray) (e : Ending) (w' : World) : Prop := ∃ (X Y D : ByteArray) (k : Bool), e = .returned (.tuple #[.string X, .string Y, .string D, .bool k]) ∧ k = crB n1 d1 n2 d2 ∧
  (k = true → X = I (zS n1 * zS d2) ∧ Y = I (zS n2 * zS d1) ∧ D = I (zS d1 * zS d2)) ∧ Below w.heap.size w w'

set_option maxRecDepth 100000 in
set_option maxHeartbeats 16000000 in
/-- putlogref04.cross. -/
theorem qrcross_any (n1 d1 n2 d2 : ByteArray) (h1 : n1.size ≤ 9223372036854775807) (h2 : d1.size ≤ 9223372036854775807) (h3 : n2.size ≤ 9223372036854775807) (h4 : d2.size ≤ 9223372036854775807) (w : World) :
    Calls Tryz.prog 82 #[.agg #[.string n1, .string d1], .agg #[.string n2, .string d2]] w (CrossP w n1 d1 n2 d2) := by
  have V1 := Lib.hid (fun W => qrvalid_any n1 d1 h1 h2 W)
  have V2 := Lib.hid (fun W => qrvalid_any n2 d2 h3 h4 W)
  clear h1 h2 h3 h4
  obtain ⟨U1, e1, S1, z1⟩ := (BL.start w).add' #[.string n1, .string d1] 27
  obtain ⟨U2, e2, S2, z2⟩ := S1.add' #[.string n2, .string d2] 27
  rw [z1] at S2
  have hV : U2 = (w.alloc (.cells #[.string n1, .string d1] 27)).alloc (.cells #[.string n2, .string d2] 27) := by rw [e2, e1]
  clear e1 e2 z1 z2 S1
  cases c1 : rOk n1 d1 with
  | false =>
    rw [c1] at V1
    cases c2 : rOk n2 d2 with
    | false =>
      rw [c2] at V2
      replace c1 := Lib.hid c1
      replace c2 := Lib.hid c2
      go_enter Tryz.func82, Tryz.ntmps82
      go_wp2_with fail
      rw [← hV]
      clear hV
      refine Calls.mono (V1.out _) ?_
      rintro e w' ⟨rfl, hb⟩
      replace S2 := S2.call hb
      clear hb
      obtain ⟨a0, a1⟩ := S2.c2 w.heap.size _ _ _ (.tail _ (.head _))
      obtain ⟨b0, b1⟩ := S2.c2 (w.heap.size + 1) _ _ _ (.head _)
      go_wp2_with fail
      refine Calls.mono (V2.out _) ?_
      rintro e w' ⟨rfl, hb⟩
      replace S2 := S2.call hb
      clear hb a0 a1 b0 b1
      go_wp2
      refine bodyPost_ret (res4 rfl _ _ _) rfl ?_
      exact ⟨⟨#[]⟩, ⟨#[]⟩, ⟨#[]⟩, false, rfl, by unfold crB; rw [c1.out, c2.out]; rfl, (fun h => by cases h), S2.below⟩
    | true =>
      rw [c2] at V2
      replace c1 := Lib.hid c1
      replace c2 := Lib.hid c2
      go_enter Tryz.func82, Tryz.ntmps82
      go_wp2_with fail
      rw [← hV]
      clear hV
      refine Calls.mono (V1.out _) ?_
      rintro e w' ⟨rfl, hb⟩
      replace S2 := S2.call hb
      clear hb
      obtain ⟨a0, a1⟩ := S2.c2 w.heap.size _ _ _ (.tail _ (.head _))
      obtain ⟨b0, b1⟩ := S2.c2 (w.heap.size + 1) _ _ _ (.head _)
      go_wp2_with fail
      refine Calls.mono (V2.out _) ?_
      rintro e w' ⟨rfl, hb⟩
      replace S2 := S2.call hb
      clear hb a0 a1 b0 b1
      go_wp2
      refine bodyPost_ret (res4 rfl _ _ _) rfl ?_
      exact ⟨⟨#[]⟩, ⟨#[]⟩, ⟨#[]⟩, false, rfl, by unfold crB; rw [c1.out, c2.out]; rfl, (fun h => by cases h), S2.below⟩
  | true =>
    rw [c1] at V1
    cases c2 : rOk n2 d2 with
    | false =>
      rw [c2] at V2
      replace c1 := Lib.hid c1
      replace c2 := Lib.hid c2
      go_enter Tryz.func82, Tryz.ntmps82
      go_wp2_with fail
      rw [← hV]
      clear hV
      refine Calls.mono (V1.out _) ?_
      rintro e w' ⟨rfl, hb⟩
      replace S2 := S2.call hb
      clear hb
      obtain ⟨a0, a1⟩ := S2.c2 w.heap.size _ _ _ (.tail _ (.head _))
      obtain ⟨b0, b1⟩ := S2.c2 (w.heap.size + 1) _ _ _ (.head _)
      go_wp2_with fail
      refine Calls.mono (V2.out _) ?_
      rintro e w' ⟨rfl, hb⟩
      replace S2 := S2.call hb
      clear hb a0 a1 b0 b1
      go_wp2
      refine bodyPost_ret (res4 rfl _ _ _) rfl ?_
      exact ⟨⟨#[]⟩, ⟨#[]⟩, ⟨#[]⟩, false, rfl, by unfold crB; rw [c1.out, c2.out]; rfl, (fun h => by cases h), S2.below⟩
    | true =>
      rw [c2] at V2
      obtain ⟨o1, o2, _, _⟩ := rOk_parts c1
      obtain ⟨o3, o4, _, _⟩ := rOk_parts c2
      obtain ⟨X, ex, MX, hx⟩ := mul_text o1 o4
      obtain ⟨Y, ey, MY, hy⟩ := mul_text o3 o2
      obtain ⟨D, ed, MD, hd⟩ := mul_text o2 o4
      replace MX := Lib.hid MX
      replace MY := Lib.hid MY
      replace MD := Lib.hid MD
      replace c1 := Lib.hid c1
      replace c2 := Lib.hid c2
      rcases hx with ⟨sx, rfl, tx⟩ | ⟨sx, rfl⟩ <;> rcases hy with ⟨sy, rfl, ty⟩ | ⟨sy, rfl⟩ <;> rcases hd with ⟨sd, rfl, td⟩ | ⟨sd, rfl⟩
      all_goals
        try replace tx := Lib.hid tx
        try replace ty := Lib.hid ty
        try replace td := Lib.hid td
        replace sx := Lib.hid sx
        replace sy := Lib.hid sy
        replace sd := Lib.hid sd
        go_enter Tryz.func82, Tryz.ntmps82
        go_wp2_with fail
        rw [← hV]
        clear hV
        refine Calls.mono (V1.out _) ?_
        rintro e w' ⟨rfl, hb⟩
        replace S2 := S2.call hb
        clear hb
        obtain ⟨a0, a1⟩ := S2.c2 w.heap.size _ _ _ (.tail _ (.head _))
        obtain ⟨b0, b1⟩ := S2.c2 (w.heap.size + 1) _ _ _ (.head _)
        go_wp2_with fail
        refine Calls.mono (V2.out _) ?_
        rintro e w' ⟨rfl, hb⟩
        replace S2 := S2.call hb
        clear hb a0 a1 b0 b1
        obtain ⟨a0, a1⟩ := S2.c2 w.heap.size _ _ _ (.tail _ (.head _))
        obtain ⟨b0, b1⟩ := S2.c2 (w.heap.size + 1) _ _ _ (.head _)
        go_wp2_with fail
        refine Calls.mono (MX.out _) ?_
        rintro e w' ⟨rfl, hb⟩
        replace S2 := S2.call hb
        clear hb a0 a1 b0 b1
        obtain ⟨a0, a1⟩ := S2.c2 w.heap.size _ _ _ (.tail _ (.head _))
        obtain ⟨b0, b1⟩ := S2.c2 (w.heap.size + 1) _ _ _ (.head _)
        go_wp2_with fail
        refine Calls.mono (MY.out _) ?_
        rintro e w' ⟨rfl, hb⟩
        replace S2 := S2.call hb
        clear hb a0 a1 b0 b1
        obtain ⟨a0, a1⟩ := S2.c2 w.heap.size _ _ _ (.tail _ (.head _))
        obtain ⟨b0, b1⟩ := S2.c2 (w.heap.size + 1) _ _ _ (.head _)
        go_wp2_with fail
        refine Calls.mono (MD.out _) ?_
        rintro e w' ⟨rfl, hb⟩
        replace S2 := S2.call hb
        clear hb a0 a1 b0 b1
        go_wp2
        refine bodyPost_ret (res4 rfl _ _ _) rfl ?_
        first | exact ⟨X, Y, D, true, rfl, by unfold crB; rw [c1.out, c2.out, decide_eq_true sx.out, decide_eq_true sy.out, decide_eq_true sd.out]; rfl, fun _ => ⟨tx.out, ty.out, td.out⟩, S2.below⟩ | exact ⟨X, Y, D, false, rfl, by unfold crB; rw [c1.out, c2.out]; first | rw [decide_eq_false sx.out]; rfl | (rw [decide_eq_true sx.out]; first | (rw [decide_eq_false sy.out]; rfl) | (rw [decide_eq_true sy.out, decide_eq_false sd.out]; rfl)), (fun h => by cases h), S2.below⟩
end Go.Proofs.YtebokdboodgkpaaGreatDoor
