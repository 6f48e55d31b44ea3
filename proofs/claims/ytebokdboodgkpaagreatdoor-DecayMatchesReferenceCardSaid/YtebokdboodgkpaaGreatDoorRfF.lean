/- putlogref26.Bent, putloglaw26.cut. -/
import Derived.Test.YtebokdboodgkpaaGreatDoorDecMa
import Derived.Test.YtebokdboodgkpaaGreatDoorDecL
import Derived.Deep.RegionHeld3
import Derived.Laws.AppendOwnNone
namespace Go.Proofs.YtebokdboodgkpaaGreatDoor
open Go.RowKit
open DecM (Dt gd gd_mem gd_lt)
attribute [local go_sem] Oper.semAt_some

/-- append(s, part), for slices of data: the first is the call's own. -/
theorem wp_app_dtl {ops : Array Oper} {rest : List Oper} {o : Oper} {a : Act} {Q : Exit → Act → World → Prop} {wr : World} {base : Nat} {v : Value} {n : Nat} {ds : List Dt} (es : List Dt) (t : TypeId)
    (ht : Tryz.prog.underlying t = some (.slice 58)) (hgd : o.guard = none) (s x : Operand) (ho : o.op = .call { callee := .builtin .append, args := #[s, x], argTypes := #[t, t] })
    (hs : a.eval s = v) (b off c : Nat) (hx : a.eval x = .slice (some ⟨b, off, none⟩) es.length c) (hcl : ∀ j, j < es.length → DCell wr b (off + j * 3) (gd es j))
    (hown : wr.ownsRow base 58 3 v n (dfl ds)) (hn : n + es.length ≤ 1000000000) (hbase : base ≤ wr.heap.size)
    (h : ∀ v' w', w'.ownsRow base 58 3 v' (n + es.length) (dfl (ds ++ es)) → Below base wr w' → wpList Tryz.prog ops Q rest (a.put o.dst v') w') :
    wpList Tryz.prog ops Q (o :: rest) a wr := by
  obtain ⟨i0, hi, hz0, hz1, hz2⟩ := info_parts info_dt
  refine wpList_append_own _ hgd s x t ho base 58 i0 (.agg #[.int .i64 0, .int .i64 0, .int .i64 0]) 3 24 ht hi hz0 hz1 hz2 rfl (by decide) v n _ hs hown ⟨b, off, none⟩ es.length c (dfl es) hx (dfl_length es) ?_ ?_ (by unfold maxLen; omega) (by omega) hbase ?_
  · intro j u hu
    rw [addr_add]
    have hj : j < es.length * 3 := by rw [← dfl_length]; exact (List.getElem?_eq_some_iff.1 hu).1
    obtain ⟨m, hm, e⟩ : ∃ m, m < es.length ∧ (j = m * 3 ∨ j = m * 3 + 1 ∨ j = m * 3 + 2) := ⟨j / 3, by omega, by omega⟩
    obtain ⟨k0, k1, k2⟩ := dfl_get es m hm
    obtain ⟨c0, c1, c2⟩ := hcl m hm
    rcases e with rfl | rfl | rfl
    · rw [k0] at hu; cases hu; exact c0
    · rw [k1] at hu; cases hu; exact c1
    · rw [k2] at hu; cases hu; exact c2
  · intro u hu
    unfold dfl at hu
    simp only [List.mem_flatMap, List.mem_cons, List.not_mem_nil, or_false] at hu
    obtain ⟨p, _, rfl | rfl | rfl⟩ := hu <;> rfl
  intro v' w' hown' hgrow hnil
  rw [show dfl ds ++ dfl es = dfl (ds ++ es) from by unfold dfl; rw [List.flatMap_append]] at hown'
  refine h v' w' hown' ?_
  refine (Below.refl base wr).grown hgrow hbase (fun k hk => ?_)
  exact (hown.lt k hk).1
theorem own_new (W : World) (base : Nat) (hb : base ≤ W.heap.size) : (W.alloc (.cells #[] 58)).ownsRow base 58 3 (.slice (some ⟨W.heap.size, 0, none⟩) 0 0) 0 (dfl []) :=
  ⟨rfl, .inr ⟨W.heap.size, 0, #[], rfl, hb, heap_alloc_new W _, Nat.le_refl _, by unfold maxLen; omega, rfl, rfl⟩⟩
/-- A datum with one of its numbers exchanged. -/
def up3 (p : Dt) (c : Nat) (x : Int) : Dt := match c with
  | 0 => ⟨x, p.lo, p.hi⟩
  | 1 => ⟨p.t, x, p.hi⟩
  | _ => ⟨p.t, p.lo, x⟩
theorem dfl_set : ∀ (l : List Dt) (k c : Nat) (x : Int), k < l.length → c < 3 → (dfl l).set (k * 3 + c) (.int .i64 x) = dfl (l.set k (up3 (gd l k) c x))
  | [], k, c, x, h, _ => by simp at h
  | p :: l, 0, c, x, _, hc => by
    unfold dfl
    match c, hc with
    | 0, _ => rfl
    | 1, _ => rfl
    | 2, _ => rfl
  | p :: l, k + 1, c, x, h, hc => by
    have ih := dfl_set l k c x (by simpa using h) hc
    have e : (k + 1) * 3 + c = (k * 3 + c) + 1 + 1 + 1 := by omega
    rw [e]
    show (.int .i64 p.t :: .int .i64 p.lo :: .int .i64 p.hi :: dfl l).set (k * 3 + c + 1 + 1 + 1) (.int .i64 x) = .int .i64 p.t :: .int .i64 p.lo :: .int .i64 p.hi :: dfl (l.set k (up3 (gd l k) c x))
    rw [List.set_cons_succ, List.set_cons_succ, List.set_cons_succ, ih]
def Fit3 (p : Dt) : Prop := Fits p.t ∧ Fits p.lo ∧ Fits p.hi
theorem fit_up3 {p : Dt} {c : Nat} {x : Int} (h : Fit3 p) (hx : Fits x) : Fit3 (up3 p c x) := by
  unfold up3
  split
  · exact ⟨hx, h.2⟩
  · exact ⟨h.1, hx, h.2.2⟩
  · exact ⟨h.1, h.2.1, hx⟩
/-- What Bent returns. -/
def BentP (w : World) (n : Nat) : Ending → World → Prop := fun e w' => ∃ u m, e = .returned u ∧ SlD w' u m ∧ (∀ d ∈ m, Fit3 d) ∧ m.length ≤ n + 1 ∧ Below w.heap.size w w'
theorem set_fit {l : List Dt} (h : ∀ d ∈ l, Fit3 d) {k c : Nat} {x : Int} (hk : k < l.length) (hx : Fits x) : ∀ d ∈ l.set k (up3 (gd l k) c x), Fit3 d := fun d hd => by
  rcases List.mem_or_eq_of_mem_set hd with hd | rfl
  · exact h d hd
  · exact fit_up3 (h _ (gd_mem hk)) hx

set_option maxRecDepth 100000 in
set_option maxHeartbeats 4000000 in
/-- putlogref26.Bent. -/
theorem bent_any (v : Value) (l : List Dt) (how n at_ : Int) (hw : Fits how) (hn : Fits n) (ha : Fits at_) (hf : ∀ d ∈ l, Fit3 d) (hlen : l.length ≤ 1000) (w : World) (h : SlD w v l) :
    Calls Tryz.prog 8 #[v, .int .i64 how, .int .i64 n, .int .i64 at_] w (BentP w l.length) := by
  have hB0 := kb_new (Below.refl w.heap.size w) (.cells #[] 58)
  have hO0 := own_new w w.heap.size (Nat.le_refl _)
  obtain ⟨i0, hi0, -, -, -⟩ := info_parts info_dt
  by_cases h0 : l = []
  · subst h0
    have fin0 : Fit3 (⟨n, 0, 0⟩ : Dt) := ⟨hn, show Fits 0 by decide, show Fits 0 by decide⟩
    rcases h with ⟨rfl, -⟩ | ⟨b, off, cap, rfl, h1, h2, h3, h4⟩
    · go_enter Tryz.func8, Tryz.ntmps8
      go_upto_region 2 with (at_builtin; refine wpList_append_own_none rfl _ _ 25 rfl w.heap.size 58 i0 3 Tryz.underlying25 hi0 _ _ _ rfl hO0 rfl ?_)
      go_upto_region 3 with fail
      obtain ⟨w0, e0⟩ : ∃ W, W = w.alloc (.cells #[] 58) := ⟨_, rfl⟩
      rw [← e0] at hO0 hB0 ⊢
      clear e0
      go_wp2_with (at_builtin; refine wp_app_dt (ds := []) ⟨n, 0, 0⟩ 25 Tryz.underlying25 rfl _ _ rfl rfl rfl hO0 (by omega) hB0.size ?_; intro g1 cap1 w1 hown1 hgrow1 hb1)
      go_ret
      exact ⟨_, [⟨n, 0, 0⟩], rfl, SlD.of_own hown1, by simpa using fin0, by simp, hB0.trans hb1⟩
    · go_enter Tryz.func8, Tryz.ntmps8
      go_upto_region 2 with (at_builtin; refine wp_app_dtl (ds := []) [] 25 Tryz.underlying25 rfl _ _ rfl rfl b off cap rfl (fun j hj => absurd hj (by simp)) hO0 (by simp) hB0.size ?_; intro v1 w1 hown1 hb1)
      replace hb1 := hB0.trans hb1
      rcases hown1.2 with ⟨rfl, -⟩ | ⟨g, cp, cur, rfl, -⟩
      · go_upto_region 3 with fail
        go_wp2_with (at_builtin; refine wp_app_dt (ds := []) ⟨n, 0, 0⟩ 25 Tryz.underlying25 rfl _ _ rfl rfl rfl hown1 (by simp) hb1.size ?_; intro g1 cap1 w2 hown2 hgrow2 hb2)
        go_ret
        exact ⟨_, [⟨n, 0, 0⟩], rfl, SlD.of_own hown2, by simpa using fin0, by simp, hb1.trans hb2⟩
      · go_upto_region 3 with fail
        go_wp2_with (at_builtin; refine wp_app_dt (ds := []) ⟨n, 0, 0⟩ 25 Tryz.underlying25 rfl _ _ rfl rfl rfl hown1 (by simp) hb1.size ?_; intro g1 cap1 w2 hown2 hgrow2 hb2)
        go_ret
        exact ⟨_, [⟨n, 0, 0⟩], rfl, SlD.of_own hown2, by simpa using fin0, by simp, hb1.trans hb2⟩
  · rcases h with ⟨-, e⟩ | ⟨b, off, cap, rfl, h1, h2, h3, h4⟩
    · exact absurd e h0
    · have hpos : 0 < l.length := List.length_pos_iff.2 h0
      have hpos' : ¬ ((l.length : Int) = 0) := by omega
      have P1 := Lib.hid (fun W => pickR_any at_ l.length ha (by omega) (by omega) W)
      have p0 := pkv_nonneg (c := at_) (m := l.length) (by omega)
      have p1 := pkv_lt (c := at_) (m := l.length) (by omega)
      have P2 := Lib.hid (fun W => pickR_any how 4 hw (by decide) (by decide) W)
      have q0 := pkv_nonneg (c := how) (m := 4) (by decide)
      have q1 := pkv_lt (c := how) (m := 4) (by decide)
      generalize pkv at_ l.length = p at *
      generalize pkv how 4 = q at *
      obtain ⟨k, rfl⟩ : ∃ k : Nat, p = k := ⟨p.toNat, by omega⟩
      have hk : k < l.length := by omega
      have hk' : (k : Int) < l.length := by omega
      have hcl : ∀ j, j < l.length → DCell (w.alloc (.cells #[] 58)) b (off + j * 3) (gd l j) := fun j hj => (h4 j hj).below hB0 h3
      clear p0 p1 h0 hw ha h4 h3
      go_enter Tryz.func8, Tryz.ntmps8
      go_upto_region 2 with (at_builtin; refine wp_app_dtl (ds := []) l 25 Tryz.underlying25 rfl _ _ rfl rfl b off cap rfl hcl hO0 (by omega) hB0.size ?_; intro v1 w1 hown1 hb1)
      replace hb1 := hB0.trans hb1
      rw [Nat.zero_add, List.nil_append] at hown1
      rcases hown1.2 with ⟨-, e⟩ | ⟨g, cp, cur, rfl, -⟩
      · exact absurd e (by omega)
      have hfz := fun j => hown1.frozenAt j
      obtain ⟨y0, y1, y2⟩ := dfl_get l k hk
      have c0 := (hown1.cellAt (k * 3) (by omega)).trans y0
      have c1 := (hown1.cellAt (k * 3 + 1) (by omega)).trans y1
      have c2 := (hown1.cellAt (k * 3 + 2) (by omega)).trans y2
      have z0 := hfz (k * 3)
      have z1 := hfz (k * 3 + 1)
      have z2 := hfz (k * 3 + 2)
      clear hO0 hB0 hcl hfz y0 y1 y2
      go_wp2_with fail
      refine (P1.out _).mono ?_
      rintro e w' ⟨rfl, rfl⟩
      go_wp2_with fail
      refine (P2.out _).mono ?_
      rintro e w' ⟨rfl, rfl⟩
      clear P1 P2
      rcases (show q = 0 ∨ q = 1 ∨ q = 2 ∨ q = 3 by omega) with rfl | rfl | rfl | rfl
      · obtain ⟨o2, g2⟩ := hown1.stored (k * 3) (.int .i64 n)
        rw [show k * 3 = k * 3 + 0 from rfl, dfl_set l k 0 n hk (by decide)] at o2
        have b2 : Below w.heap.size w (w1.setCell ⟨g, k * 3, none⟩ (.int .i64 n)) := hb1.grown g2 hb1.size (fun j hj => (hown1.lt j hj).1)
        go_wp2
        go_ret
        exact ⟨_, _, rfl, SlD.of_own o2, set_fit hf hk hn, by simp, b2⟩
      · obtain ⟨o2, g2⟩ := hown1.stored (k * 3 + 1) (.int .i64 n)
        rw [dfl_set l k 1 n hk (by decide)] at o2
        have b2 : Below w.heap.size w (w1.setCell ⟨g, k * 3 + 1, none⟩ (.int .i64 n)) := hb1.grown g2 hb1.size (fun j hj => (hown1.lt j hj).1)
        go_wp2
        go_ret
        exact ⟨_, _, rfl, SlD.of_own o2, set_fit hf hk hn, by simp, b2⟩
      · obtain ⟨o2, g2⟩ := hown1.stored (k * 3 + 2) (.int .i64 n)
        rw [dfl_set l k 2 n hk (by decide)] at o2
        have b2 : Below w.heap.size w (w1.setCell ⟨g, k * 3 + 2, none⟩ (.int .i64 n)) := hb1.grown g2 hb1.size (fun j hj => (hown1.lt j hj).1)
        go_wp2
        go_ret
        exact ⟨_, _, rfl, SlD.of_own o2, set_fit hf hk hn, by simp, b2⟩
      · go_wp2_with (at_builtin; refine wp_app_dt (ds := l) (gd l k) 25 Tryz.underlying25 rfl _ _ rfl rfl rfl hown1 (by omega) hb1.size ?_; intro g1 cap1 w2 hown2 hgrow2 hb2)
        go_ret
        refine ⟨_, l ++ [gd l k], rfl, SlD.of_own hown2, ?_, by simp, hb1.trans hb2⟩
        intro d hd
        rcases List.mem_append.1 hd with hd | hd
        · exact hf d hd
        · rw [List.mem_singleton.1 hd]; exact hf _ (gd_mem hk)
end Go.Proofs.YtebokdboodgkpaaGreatDoor
