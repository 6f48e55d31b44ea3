/- Data in memory; package decay: isIn, Valid. -/
import Derived.Test.YtebokdboodgkpaaGreatDoorDecQ
import Derived.Test.YtebokdboodgkpaaGreatDoorPkA
namespace Go.Proofs.YtebokdboodgkpaaGreatDoor
open Go.RowKit
open DecM (Dt gd gd_lt okF okD Ln)
attribute [local go_sem] Oper.semAt_some

/-- The cells of a datum in a slice. -/
def DCell (w : World) (b o : Nat) (p : Dt) : Prop := w.cell? ⟨b, o, none⟩ = some (.int .i64 p.t) ∧ w.cell? ⟨b, o + 1, none⟩ = some (.int .i64 p.lo) ∧ w.cell? ⟨b, o + 2, none⟩ = some (.int .i64 p.hi)
/-- The slice value v reads as the data l. -/
def SlD (w : World) (v : Value) (l : List Dt) : Prop :=
  (v = .slice none 0 0 ∧ l = []) ∨ ∃ b off cap, v = .slice (some ⟨b, off, none⟩) l.length cap ∧ l.length ≤ cap ∧ cap ≤ maxLen ∧ b < w.heap.size ∧ ∀ j, j < l.length → DCell w b (off + j * 3) (gd l j)
theorem SlD.nil (w : World) : SlD w (.slice none 0 0) [] := .inl ⟨rfl, rfl⟩
theorem DCell.below {w w' : World} {b o : Nat} {p : Dt} (h : DCell w b o p) (hb : Below w.heap.size w w') (hlt : b < w.heap.size) : DCell w' b o p :=
  ⟨(hb.cell (p := ⟨b, o, none⟩) hlt).trans h.1, (hb.cell (p := ⟨b, o + 1, none⟩) hlt).trans h.2.1, (hb.cell (p := ⟨b, o + 2, none⟩) hlt).trans h.2.2⟩
theorem SlD.below {w w' : World} {v : Value} {l : List Dt} (h : SlD w v l) (hb : Below w.heap.size w w') : SlD w' v l := by
  rcases h with h | ⟨b, off, cap, rfl, h1, h2, h3, h4⟩
  · exact .inl h
  · exact .inr ⟨b, off, cap, rfl, h1, h2, Nat.lt_of_lt_of_le h3 hb.size, fun j hj => (h4 j hj).below hb h3⟩
theorem SlD.shape {w : World} {v : Value} {l : List Dt} (h : SlD w v l) : ∃ a cap, v = .slice a l.length cap := by
  rcases h with ⟨rfl, rfl⟩ | ⟨b, off, cap, rfl, _⟩
  · exact ⟨_, _, rfl⟩
  · exact ⟨_, _, rfl⟩
theorem SlD.len_le {w : World} {v : Value} {l : List Dt} (h : SlD w v l) : l.length ≤ maxLen := by
  rcases h with ⟨_, rfl⟩ | ⟨_, _, _, _, h1, h2, _⟩
  · simp
  · exact Nat.le_trans h1 h2
theorem drop_gd {l : List Dt} {k : Nat} (h : k < l.length) : l.drop k = gd l k :: l.drop (k + 1) := by
  rw [gd_lt h]; exact List.drop_eq_getElem_cons h
theorem kb_new {w W : World} (h : Below w.heap.size w W) (o : Obj) : Below w.heap.size w (W.alloc o) := h.alloc h.size o
/-- A datum's cells behind the turn of what lies elsewhere. -/
theorem isIn_any (n lo hi : Int) (w : World) : Calls Tryz.prog 42 #[.int .i64 n, .int .i64 lo, .int .i64 hi] w fun e w' => e = .returned (.bool (decide (lo ≤ n) && decide (n ≤ hi))) ∧ w = w' := by
  by_cases h1 : lo ≤ n <;> by_cases h2 : n ≤ hi
  all_goals
    go_enter Tryz.func42, Tryz.ntmps42
    go_wp2
    go_ret
    exact ⟨ret_bool (by simp [h1, h2]), rfl⟩
theorem isIn_t {n lo hi : Int} (h1 : lo ≤ n) (h2 : n ≤ hi) (w : World) : Calls Tryz.prog 42 #[.int .i64 n, .int .i64 lo, .int .i64 hi] w fun e w' => e = .returned (.bool true) ∧ w = w' :=
  (isIn_any n lo hi w).mono fun _ _ h => ⟨by rw [h.1, decide_eq_true h1, decide_eq_true h2]; rfl, h.2⟩
theorem isIn_f {n lo hi : Int} (h : ¬ (lo ≤ n ∧ n ≤ hi)) (w : World) : Calls Tryz.prog 42 #[.int .i64 n, .int .i64 lo, .int .i64 hi] w fun e w' => e = .returned (.bool false) ∧ w = w' :=
  (isIn_any n lo hi w).mono fun _ _ k => ⟨by rw [k.1, ← Bool.decide_and, decide_eq_false h], k.2⟩

theorem okF_step {last : Int} {p : Dt} {l : List Dt} (h : last + 1 ≤ p.t ∧ p.t ≤ 800000 ∧ -1000000 ≤ p.lo ∧ p.lo ≤ p.hi ∧ p.hi ≤ 1000000) : okF last (p :: l) = okF p.t l := by
  unfold okF; rw [decide_eq_true h, Bool.true_and]; cases l <;> rfl
theorem okF_stop {last : Int} {p : Dt} {l : List Dt} (h : ¬ (last + 1 ≤ p.t ∧ p.t ≤ 800000 ∧ -1000000 ≤ p.lo ∧ p.lo ≤ p.hi ∧ p.hi ≤ 1000000)) : okF last (p :: l) = false := by
  unfold okF; rw [decide_eq_false h, Bool.false_and]
set_option maxRecDepth 100000 in
set_option maxHeartbeats 4000000 in
/-- decay.Valid. -/
theorem dvalid_any (v : Value) (l : List Dt) (w : World) (h : SlD w v l) :
    Calls Tryz.prog 13 #[v] w fun e w' => e = .returned (.bool (okD l)) ∧ Below w.heap.size w w' := by
  have hl := h.len_le
  unfold maxLen at hl
  rcases h with ⟨rfl, rfl⟩ | ⟨b, off, cap, rfl, h1, h2, h3, h4⟩
  · go_enter Tryz.func13, Tryz.ntmps13
    go_wp2_with fail
    go_loopw [8] (fun i wr => i = .int .i64 0 ∧ wr = w) (fun _ _ => 0)
    case atStart => exact ⟨rfl, rfl⟩
    case round =>
      obtain ⟨rfl, rfl⟩ := hrel
      go_wp2
      go_ret
      exact ⟨rfl, Below.refl _ _⟩
  · go_enter Tryz.func13, Tryz.ntmps13
    go_wp2_with fail
    go_loopw [3, 8] (fun a i wr => ∃ (k : Nat) (last : Int), i = .int .i64 k ∧ a = .int .i64 last ∧ k ≤ l.length ∧ -1 ≤ last ∧ last ≤ 800000 ∧ Hid (okF (-1) l = okF last (l.drop k)) ∧ Below w.heap.size w wr)
      (fun _ i _ => l.length - (intOf i).toNat)
    case atStart => exact ⟨0, -1, rfl, rfl, by omega, by omega, by omega, rfl, Below.refl _ _⟩
    case round =>
      obtain ⟨k, last, rfl, rfl, hk, hl0, hl1, hok, hB⟩ := hrel
      by_cases hkl : k < l.length
      · obtain ⟨c0, c1, c2⟩ := (h4 k hkl).below hB h3
        rw [drop_gd hkl] at hok
        generalize gd l k = p at *
        obtain ⟨t, lo, hi⟩ := p
        dsimp only at c0 c1 c2
        have hB1 := kb_new hB (.cells #[.int .i64 t, .int .i64 lo, .int .i64 hi] 58)
        by_cases a1 : last + 1 ≤ t ∧ t ≤ 800000
        · by_cases a2 : -1000000 ≤ lo ∧ lo ≤ hi
          · by_cases a3 : hi ≤ 1000000
            · replace hok := Lib.hid (hok.out.trans (okF_step ⟨a1.1, a1.2, a2.1, a2.2, a3⟩))
              go_wp2_with fail
              refine (isIn_t a1.1 a1.2 _).mono ?_
              rintro e w' ⟨rfl, rfl⟩
              go_wp2_with fail
              refine (isIn_t a2.1 a2.2 _).mono ?_
              rintro e w' ⟨rfl, rfl⟩
              go_wp2_with fail
              go_roundw
              case rel => exact ⟨k + 1, t, by go_num, rfl, by omega, by omega, by omega, hok, hB1⟩
              case measure => simp [intOf]; omega
            · replace hok := Lib.hid (hok.out.trans (okF_stop (fun h => a3 h.2.2.2.2)))
              go_wp2_with fail
              refine (isIn_t a1.1 a1.2 _).mono ?_
              rintro e w' ⟨rfl, rfl⟩
              go_wp2_with fail
              refine (isIn_t a2.1 a2.2 _).mono ?_
              rintro e w' ⟨rfl, rfl⟩
              go_wp2
              go_ret
              exact ⟨ret_bool (by unfold okD; rw [hok.out]; rfl), hB1⟩
          · replace hok := Lib.hid (hok.out.trans (okF_stop (fun h => a2 ⟨h.2.2.1, h.2.2.2.1⟩)))
            go_wp2_with fail
            refine (isIn_t a1.1 a1.2 _).mono ?_
            rintro e w' ⟨rfl, rfl⟩
            go_wp2_with fail
            refine (isIn_f a2 _).mono ?_
            rintro e w' ⟨rfl, rfl⟩
            go_wp2
            go_ret
            exact ⟨ret_bool (by unfold okD; rw [hok.out]; rfl), hB1⟩
        · replace hok := Lib.hid (hok.out.trans (okF_stop (fun h => a1 ⟨h.1, h.2.1⟩)))
          go_wp2_with fail
          refine (isIn_f a1 _).mono ?_
          rintro e w' ⟨rfl, rfl⟩
          go_wp2
          go_ret
          exact ⟨ret_bool (by unfold okD; rw [hok.out]; rfl), hB1⟩
      · have hok := Lib.hid (show decide ((l.length : Int) ≤ 16) = okD l by unfold okD; rw [hok.out, List.drop_eq_nil_of_le (by omega)]; simp [okF]; omega)
        go_wp2
        go_ret
        exact ⟨ret_bool hok.out, hB⟩
end Go.Proofs.YtebokdboodgkpaaGreatDoor
