/- putlogref26.Valid. -/
import Derived.Test.YtebokdboodgkpaaGreatDoorRfA
import Derived.Deep.QuietTactic
import Derived.BigQuiet
namespace Go.Proofs.YtebokdboodgkpaaGreatDoor
open Go.RowKit
open DecM (Dt gd gd_mem gd_lt okD okF)
attribute [local go_sem] Oper.semAt_some

structure C9 (w wr : World) (t : Int) (p : Nat) (o : Nat) (x : Option Value) (W' : World) : Prop where
  c : W'.cell? ⟨wr.heap.size, 0, none⟩ = some (.int .i64 t)
  l : ∀ y, x = some y → W'.cell? ⟨p, o, none⟩ = some y
  b : Below w.heap.size w W'
theorem st9z {w wr : World} {t lo hi : Int} (hB : Below w.heap.size w wr) : C9 w wr t 0 0 none (wr.alloc (.cells #[.int .i64 t, .int .i64 lo, .int .i64 hi] 58)).drew :=
  ⟨(Blk.new wr #[.int .i64 t, .int .i64 lo, .int .i64 hi] 58).cell 0, (fun _ h => by cases h), kb_drew (kb_new hB _)⟩
theorem st9 {w wr : World} {b o : Nat} {t lo hi : Int} {x : Value} (hB : Below w.heap.size w wr) (hlt : b < w.heap.size) (hp : wr.cell? ⟨b, o, none⟩ = some x) : C9 w wr t b o (some x) (wr.alloc (.cells #[.int .i64 t, .int .i64 lo, .int .i64 hi] 58)).drew :=
  ⟨(Blk.new wr #[.int .i64 t, .int .i64 lo, .int .i64 hi] 58).cell 0, (fun _ h => by cases h; exact ((kb_drew (kb_new (Below.refl wr.heap.size wr) _)).cell (p := ⟨b, o, none⟩) (Nat.lt_of_lt_of_le hlt hB.size)).trans hp), kb_drew (kb_new hB _)⟩
/-- The day of the datum before. -/
def lastD (l : List Dt) (k : Nat) : Int := if k = 0 then -1 else (gd l (k - 1)).t
set_option maxRecDepth 100000 in
set_option maxHeartbeats 4000000 in
/-- putlogref26.Valid. -/
theorem dval26_any (v : Value) (l : List Dt) (w : World) (h : SlD w v l) :
    Calls Tryz.prog 14 #[v] w (Rets w (.bool (okD l))) := by
  have hl := h.len_le
  unfold maxLen at hl
  by_cases h16 : l.length ≤ 16
  · have hok := Lib.hid (show okD l = okF (-1) l by unfold okD; rw [decide_eq_true h16, Bool.and_true])
    generalize okD l = res at *
    rcases h with ⟨rfl, rfl⟩ | ⟨b, off, cap, rfl, h1, h2, h3, h4⟩
    · go_enter Tryz.func14, Tryz.ntmps14
      go_wp2_with fail
      go_loopw [3] (fun i wr => i = .int .i64 0 ∧ wr = w) (fun _ _ => 0)
      case atStart => exact ⟨rfl, rfl⟩
      case round =>
        obtain ⟨rfl, rfl⟩ := hrel
        go_wp2
        go_ret
        exact ⟨ret_bool (by rw [hok.out]; rfl), Below.refl _ _⟩
    · have hg : ¬ ((l.length : Int) > 16) := by omega
      go_enter Tryz.func14, Tryz.ntmps14
      go_wp2_with fail
      clear hg h16
      go_loopw [3] (fun i wr => ∃ k : Nat, i = .int .i64 k ∧ k ≤ l.length ∧ -1 ≤ lastD l k ∧ Hid (res = okF (lastD l k) (l.drop k)) ∧ Below w.heap.size w wr)
        (fun i _ => l.length - (intOf i).toNat)
      case atStart => exact ⟨0, rfl, by omega, by unfold lastD; simp, hok, Below.refl _ _⟩
      case round =>
        clear hok
        obtain ⟨k, rfl, hk, hl0, hok, hB⟩ := hrel
        by_cases hkl : k < l.length
        · obtain ⟨c0, c1, c2⟩ := (h4 k hkl).below hB h3
          rw [drop_gd hkl] at hok
          have hp : ∀ j, k = j + 1 → wr.cell? ⟨b, off + j * 3, none⟩ = some (.int .i64 (lastD l k)) := fun j e => by
            subst e; unfold lastD; simp only [Nat.add_sub_cancel, if_neg (Nat.succ_ne_zero j)]; exact ((h4 j (by omega)).below hB h3).1
          have hz : k = 0 → lastD l k = -1 := fun e => by subst e; rfl
          have hn : lastD l (k + 1) = (gd l k).t := by unfold lastD; simp
          generalize gd l k = p at *
          obtain ⟨t, lo, hi⟩ := p
          dsimp only at c0 c1 c2 hn
          generalize lastD l k = last at *
          have hB1 := kb_new hB (.cells #[.int .i64 t, .int .i64 lo, .int .i64 hi] 58)
          by_cases a1 : 0 ≤ t ∧ t ≤ 800000
          · by_cases a2 : -1000000 ≤ lo ∧ lo ≤ 1000000
            · by_cases a3 : -1000000 ≤ hi ∧ hi ≤ 1000000
              · by_cases a4 : lo > hi
                · replace hok := Lib.hid (hok.out.trans (okF_stop (fun h => by have := h.2.2.2.1; dsimp only at this; omega)))
                  go_wp2_with fail
                  refine (in26_t a1 _).mono ?_
                  rintro e w' ⟨rfl, rfl⟩
                  go_wp2_with fail
                  refine (in26_t a2 _).mono ?_
                  rintro e w' ⟨rfl, rfl⟩
                  go_wp2_with fail
                  refine (in26_t a3 _).mono ?_
                  rintro e w' ⟨rfl, rfl⟩
                  go_wp2
                  go_ret
                  exact ⟨ret_bool hok.out.symm, hB1⟩
                · by_cases hk0 : k = 0
                  · have hz := hz hk0
                    have g0 : ¬ ((k : Int) > 0) := by omega
                    replace hok := Lib.hid (hok.out.trans (okF_step ⟨by dsimp only; omega, a1.2, a2.1, by dsimp only; omega, a3.2⟩))
                    clear hp hk0
                    go_wp2_with fail
                    refine (in26_t a1 _).mono ?_
                    rintro e w' ⟨rfl, rfl⟩
                    go_wp2_with fail
                    refine (in26_t a2 _).mono ?_
                    rintro e w' ⟨rfl, rfl⟩
                    go_wp2_with fail
                    refine (in26_t a3 _).mono ?_
                    rintro e w' ⟨rfl, rfl⟩
                    go_upto_region 9 with fail
                    refine wp_region_quiet (C := fun W' => C9 w wr t 0 0 none W') rfl (by kernel_rfl) (st9z hB) (Walled.out ?_)
                    refine qWant rfl fun K hK => ?_
                    go_simp
                    refine ⟨_, fun _ _ => rfl, hK _ ?_⟩
                    clear hK K
                    refine qWant rfl fun K hK => ?_
                    go_simp
                    refine ⟨.bool false, fun _ _ => by first | rfl | exact congrArg Value.bool (decide_eq_false (by omega)), hK _ ?_⟩
                    clear hK K
                    refine qWant rfl fun K hK => ?_
                    go_simp
                    refine ⟨_, fun _ _ => rfl, hK _ ?_⟩
                    clear hK K
                    refine qStep fun K hK => ?_
                    go_simp
                    refine hK _ ?_
                    clear hK K
                    refine qStep fun K hK => ?_
                    go_simp
                    refine hK _ ?_
                    clear hK K
                    refine qStep fun K hK => ?_
                    go_simp
                    refine hK _ ?_
                    clear hK K
                    refine qStep fun K hK => ?_
                    go_simp
                    refine hK _ ?_
                    clear hK K
                    refine qStep fun K hK => ?_
                    go_simp
                    refine hK _ ?_
                    clear hK K
                    refine qStep fun K hK => ?_
                    go_simp
                    refine hK _ ?_
                    clear hK K
                    refine qStep fun K hK => ?_
                    go_simp
                    refine hK _ ?_
                    clear hK K
                    refine qStep fun K hK => ?_
                    go_simp
                    refine hK _ ?_
                    clear hK K
                    refine qStep fun K hK => ?_
                    go_simp
                    refine hK _ ?_
                    clear hK K
                    refine qWant rfl fun K hK => ?_
                    go_simp
                    refine ⟨_, fun _ _ => rfl, hK _ ?_⟩
                    clear hK K
                    refine qNil ?_
                    intro W' hI
                    replace hI := hI.b
                    go_wp2_with fail
                    go_roundw
                    case rel => exact ⟨k + 1, by go_num, by omega, by rw [hn]; omega, by rw [hn]; exact hok, hI⟩
                    case measure => simp [intOf]; omega
                  · obtain ⟨j, wj, gj, hp⟩ : ∃ j : Nat, IntKind.i64.wrap ((k : Int) - 1) = (j : Int) ∧ (j : Int) < l.length ∧ wr.cell? ⟨b, off + j * 3, none⟩ = some (.int .i64 last) :=
                      ⟨k - 1, by rw [show (k : Int) - 1 = ((k - 1 : Nat) : Int) by omega]; exact IntWalk.i64_in _ (by omega), by omega, hp (k - 1) (by omega)⟩
                    have g0 : (k : Int) > 0 := by omega
                    clear hk0 hz
                    by_cases a5 : t ≤ last
                    · replace hok := Lib.hid (hok.out.trans (okF_stop (fun h => by have := h.1; dsimp only at *; omega)))
                      go_wp2_with fail
                      refine (in26_t a1 _).mono ?_
                      rintro e w' ⟨rfl, rfl⟩
                      go_wp2_with fail
                      refine (in26_t a2 _).mono ?_
                      rintro e w' ⟨rfl, rfl⟩
                      go_wp2_with fail
                      refine (in26_t a3 _).mono ?_
                      rintro e w' ⟨rfl, rfl⟩
                      go_upto_region 9 with fail
                      refine wp_region_quiet (C := fun W' => C9 w wr t b (off + j * 3) (some (.int .i64 last)) W') rfl (by kernel_rfl) (st9 hB h3 hp) (Walled.out ?_)
                      refine qWant rfl fun K hK => ?_
                      go_simp
                      refine ⟨_, fun _ _ => rfl, hK _ ?_⟩
                      clear hK K
                      refine qWant rfl fun K hK => ?_
                      go_simp
                      refine ⟨.bool true, fun _ _ => by first | rfl | exact congrArg Value.bool (decide_eq_true (by omega)), hK _ ?_⟩
                      clear hK K
                      refine qWant rfl fun K hK => ?_
                      go_simp
                      refine ⟨_, fun _ _ => rfl, hK _ ?_⟩
                      clear hK K
                      refine qWant rfl fun K hK => ?_
                      go_simp
                      refine ⟨_, fun _ _ => rfl, hK _ ?_⟩
                      clear hK K
                      refine qWant rfl fun K hK => ?_
                      go_simp
                      refine ⟨.int .i64 t, fun W hW => ?_, hK _ ?_⟩
                      · have x0' := hW.c; have x1' := hW.l _ rfl
                        go_simp
                      clear hK K
                      refine qWant rfl fun K hK => ?_
                      go_simp
                      refine ⟨_, fun _ _ => rfl, hK _ ?_⟩
                      clear hK K
                      refine qWant rfl fun K hK => ?_
                      go_simp
                      refine ⟨_, fun _ _ => rfl, hK _ ?_⟩
                      clear hK K
                      refine qWant rfl fun K hK => ?_
                      go_simp
                      refine ⟨_, fun _ _ => rfl, hK _ ?_⟩
                      clear hK K
                      refine qWant rfl fun K hK => ?_
                      go_simp
                      refine ⟨_, fun _ _ => rfl, hK _ ?_⟩
                      clear hK K
                      refine qWant rfl fun K hK => ?_
                      go_simp
                      refine ⟨_, fun _ _ => rfl, hK _ ?_⟩
                      clear hK K
                      refine qWant rfl fun K hK => ?_
                      go_simp
                      refine ⟨.int .i64 last, fun W hW => ?_, hK _ ?_⟩
                      · have x0' := hW.c; have x1' := hW.l _ rfl
                        go_simp
                      clear hK K
                      refine qWant rfl fun K hK => ?_
                      go_simp
                      refine ⟨.bool true, fun _ _ => by first | rfl | exact congrArg Value.bool (decide_eq_true (by omega)), hK _ ?_⟩
                      clear hK K
                      refine qWant rfl fun K hK => ?_
                      go_simp
                      refine ⟨_, fun _ _ => rfl, hK _ ?_⟩
                      clear hK K
                      refine qNil ?_
                      intro W' hI
                      replace hI := hI.b
                      go_wp2
                      go_ret
                      exact ⟨ret_bool hok.out.symm, hI⟩
                    · replace hok := Lib.hid (hok.out.trans (okF_step ⟨by dsimp only; omega, a1.2, a2.1, by dsimp only; omega, a3.2⟩))
                      go_wp2_with fail
                      refine (in26_t a1 _).mono ?_
                      rintro e w' ⟨rfl, rfl⟩
                      go_wp2_with fail
                      refine (in26_t a2 _).mono ?_
                      rintro e w' ⟨rfl, rfl⟩
                      go_wp2_with fail
                      refine (in26_t a3 _).mono ?_
                      rintro e w' ⟨rfl, rfl⟩
                      go_upto_region 9 with fail
                      refine wp_region_quiet (C := fun W' => C9 w wr t b (off + j * 3) (some (.int .i64 last)) W') rfl (by kernel_rfl) (st9 hB h3 hp) (Walled.out ?_)
                      refine qWant rfl fun K hK => ?_
                      go_simp
                      refine ⟨_, fun _ _ => rfl, hK _ ?_⟩
                      clear hK K
                      refine qWant rfl fun K hK => ?_
                      go_simp
                      refine ⟨.bool true, fun _ _ => by first | rfl | exact congrArg Value.bool (decide_eq_true (by omega)), hK _ ?_⟩
                      clear hK K
                      refine qWant rfl fun K hK => ?_
                      go_simp
                      refine ⟨_, fun _ _ => rfl, hK _ ?_⟩
                      clear hK K
                      refine qWant rfl fun K hK => ?_
                      go_simp
                      refine ⟨_, fun _ _ => rfl, hK _ ?_⟩
                      clear hK K
                      refine qWant rfl fun K hK => ?_
                      go_simp
                      refine ⟨.int .i64 t, fun W hW => ?_, hK _ ?_⟩
                      · have x0' := hW.c; have x1' := hW.l _ rfl
                        go_simp
                      clear hK K
                      refine qWant rfl fun K hK => ?_
                      go_simp
                      refine ⟨_, fun _ _ => rfl, hK _ ?_⟩
                      clear hK K
                      refine qWant rfl fun K hK => ?_
                      go_simp
                      refine ⟨_, fun _ _ => rfl, hK _ ?_⟩
                      clear hK K
                      refine qWant rfl fun K hK => ?_
                      go_simp
                      refine ⟨_, fun _ _ => rfl, hK _ ?_⟩
                      clear hK K
                      refine qWant rfl fun K hK => ?_
                      go_simp
                      refine ⟨_, fun _ _ => rfl, hK _ ?_⟩
                      clear hK K
                      refine qWant rfl fun K hK => ?_
                      go_simp
                      refine ⟨_, fun _ _ => rfl, hK _ ?_⟩
                      clear hK K
                      refine qWant rfl fun K hK => ?_
                      go_simp
                      refine ⟨.int .i64 last, fun W hW => ?_, hK _ ?_⟩
                      · have x0' := hW.c; have x1' := hW.l _ rfl
                        go_simp
                      clear hK K
                      refine qWant rfl fun K hK => ?_
                      go_simp
                      refine ⟨.bool false, fun _ _ => by first | rfl | exact congrArg Value.bool (decide_eq_false (by omega)), hK _ ?_⟩
                      clear hK K
                      refine qWant rfl fun K hK => ?_
                      go_simp
                      refine ⟨_, fun _ _ => rfl, hK _ ?_⟩
                      clear hK K
                      refine qNil ?_
                      intro W' hI
                      replace hI := hI.b
                      go_wp2_with fail
                      go_roundw
                      case rel => exact ⟨k + 1, by go_num, by omega, by rw [hn]; omega, by rw [hn]; exact hok, hI⟩
                      case measure => simp [intOf]; omega
              · replace hok := Lib.hid (hok.out.trans (okF_stop (fun h => a3 ⟨by have := h.2.2.1; have := h.2.2.2.1; dsimp only at *; omega, h.2.2.2.2⟩)))
                go_wp2_with fail
                refine (in26_t a1 _).mono ?_
                rintro e w' ⟨rfl, rfl⟩
                go_wp2_with fail
                refine (in26_t a2 _).mono ?_
                rintro e w' ⟨rfl, rfl⟩
                go_wp2_with fail
                refine (in26_f a3 _).mono ?_
                rintro e w' ⟨rfl, rfl⟩
                go_wp2
                go_ret
                exact ⟨ret_bool hok.out.symm, hB1⟩
            · replace hok := Lib.hid (hok.out.trans (okF_stop (fun h => a2 ⟨h.2.2.1, by have := h.2.2.2.1; have := h.2.2.2.2; dsimp only at *; omega⟩)))
              go_wp2_with fail
              refine (in26_t a1 _).mono ?_
              rintro e w' ⟨rfl, rfl⟩
              go_wp2_with fail
              refine (in26_f a2 _).mono ?_
              rintro e w' ⟨rfl, rfl⟩
              go_wp2
              go_ret
              exact ⟨ret_bool hok.out.symm, hB1⟩
          · replace hok := Lib.hid (hok.out.trans (okF_stop (fun h => a1 ⟨by have := h.1; dsimp only at *; omega, h.2.1⟩)))
            go_wp2_with fail
            refine (in26_f a1 _).mono ?_
            rintro e w' ⟨rfl, rfl⟩
            go_wp2
            go_ret
            exact ⟨ret_bool hok.out.symm, hB1⟩
        · have hok := Lib.hid (show res = true by rw [hok.out, List.drop_eq_nil_of_le (by omega)]; rfl)
          go_wp2
          go_ret
          exact ⟨ret_bool hok.out.symm, hB⟩
  · have hok := Lib.hid (show okD l = false by unfold okD; rw [decide_eq_false h16, Bool.and_false])
    have hg : (l.length : Int) > 16 := by omega
    generalize okD l = res at *
    obtain ⟨ag, cap, rfl⟩ := h.shape
    go_enter Tryz.func14, Tryz.ntmps14
    go_wp2
    go_ret
    exact ⟨ret_bool hok.out.symm, Below.refl _ _⟩
end Go.Proofs.YtebokdboodgkpaaGreatDoor
