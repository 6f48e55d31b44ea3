/- The contract of number.over: the walk. -/
import Derived.Test.YtbnilfjhalildaaGreatDoorOver
import Derived.Test.YtbnilfjhalildaaGreatDoorHeld
import Derived.Laws.EntriesVeiled
namespace Go.Proofs.YtbnilfjhalildaaGreatDoor
open Go.RowKit Go.Shelf
attribute [local go_sem] Oper.semAt_some

set_option maxRecDepth 100000 in
set_option maxHeartbeats 4000000 in
theorem over_any (v u : Value) (xs ys : List Int) (m : Int) (w : World) (hv : Sl w v xs) (hu : Sl w u ys) (hx : Dig 10000 xs) (hy : Num 10000 ys m) (hm : 0 < m) (hlx : xs.length ≤ 1000) (hly : ys.length ≤ 1000) :
    Calls Tryz.prog 42 #[v, u] w (Gives w fun r w' => ∃ r1 r2 qs rs, r = .tuple #[r1, r2] ∧ Sl w' r1 qs ∧ Num 10000 qs (val 10000 xs / m) ∧ Sl w' r2 rs ∧ Num 10000 rs (val 10000 xs % m)) := by
  have hvp := hv.ptr_lt
  refine (callsIn_wide (n := 5)).1 ?_
  refine callsIn_of_wp_marks Tryz.func42 rfl trivial ?_ rfl
  simp only [Tryz.ntmps42, List.size_toArray, List.length_cons, List.length_nil, Nat.reduceAdd, Nat.reduceSub, Array.replicate_succ, Array.replicate_zero, List.push_toArray, List.append_toArray, List.nil_append, List.cons_append]
  obtain ⟨a1, c1, rfl⟩ := hv.shape
  obtain ⟨a2, c2, rfl⟩ := hu.shape
  have hw0 : Below w.heap.size w (((w.alloc (.cells #[.slice a2 ys.length c2] 48)).alloc (.cells #[.slice none 0 0] 48)).alloc (.cells #[.slice none 0 0] 48)) := (((Below.refl _ _).alloc (Nat.le_refl _) _).alloc (by simp) _).alloc (by simp; omega) _
  have b1 : Boxed (((w.alloc (.cells #[.slice a2 ys.length c2] 48)).alloc (.cells #[.slice none 0 0] 48)).alloc (.cells #[.slice none 0 0] 48)) w.heap.size 48 (.slice a2 ys.length c2) := ((Boxed.new w _ _).alloc _).alloc _
  have b2 : Boxed (((w.alloc (.cells #[.slice a2 ys.length c2] 48)).alloc (.cells #[.slice none 0 0] 48)).alloc (.cells #[.slice none 0 0] 48)) (w.heap.size + 1) 48 (.slice none 0 0) := by
    have := (Boxed.new (w.alloc (.cells #[.slice a2 ys.length c2] 48)) 48 (.slice none 0 0)).alloc (.cells #[.slice none 0 0] 48)
    rwa [World.size_alloc] at this
  have b3 : Boxed (((w.alloc (.cells #[.slice a2 ys.length c2] 48)).alloc (.cells #[.slice none 0 0] 48)).alloc (.cells #[.slice none 0 0] 48)) (w.heap.size + 1 + 1) 48 (.slice none 0 0) := by
    have := Boxed.new ((w.alloc (.cells #[.slice a2 ys.length c2] 48)).alloc (.cells #[.slice none 0 0] 48)) 48 (.slice none 0 0)
    rwa [World.size_alloc, World.size_alloc] at this
  have hs3 : (((w.alloc (.cells #[.slice a2 ys.length c2] 48)).alloc (.cells #[.slice none 0 0] 48)).alloc (.cells #[.slice none 0 0] 48)).heap.size = w.heap.size + 1 + 1 + 1 := by simp
  have Hs3 := Lib.hid hs3
  clear hs3
  gi_wp2_with (first
    | (refine ⟨trivial, ?_⟩; gi_at_call 60; refine (back_in Fence.wide 4 trivial rfl _ _ ⟨_, _, _, rfl⟩).mono ?_; rintro e w' ⟨rfl, rfl⟩)
    | (gi_at_make; refine wpIn_make_int 48 Tryz.underlying48 rfl _ _ rfl _ _ xs.length rfl rfl (by omega) ?_; intro w0 hown0 hb0; have q2 := boxed_below b2 hb0; have q2c := q2.cell; have q2f := q2.frozen))
  have q1 := boxed_below b1 hb0
  have q3 := boxed_below b3 hb0
  have hz0 := hb0.size
  rw [Hs3.out] at hz0
  have hv1 := (hv.below hw0).below hb0
  have hu1 := (hu.below hw0).below hb0
  have hw1 := hw0.trans (hb0.mono hw0.size)
  have hu2 := hu1.setBox q2 (fun n e => by cases e) (.slice (some ⟨w.heap.size + 1 + 1 + 1, 0, none⟩) xs.length xs.length)
  have hv2 := hv1.setBox q2 (fun n e => by cases e) (.slice (some ⟨w.heap.size + 1 + 1 + 1, 0, none⟩) xs.length xs.length)
  rw [Hs3.out] at hown0
  have hlt3 : w.heap.size + 1 + 1 + 1 < w0.heap.size := (hown0.lt _ rfl).2
  have p1 := (boxed_setOther q1 (show w.heap.size ≠ w.heap.size + 1 by omega) (.slice (some ⟨w.heap.size + 1 + 1 + 1, 0, none⟩) xs.length xs.length)).alloc (.cells #[.slice a1 xs.length c1] 48)
  have p2 := (q2.set (.slice (some ⟨w.heap.size + 1 + 1 + 1, 0, none⟩) xs.length xs.length)).alloc (.cells #[.slice a1 xs.length c1] 48)
  have p3 := (boxed_setOther q3 (show w.heap.size + 1 + 1 ≠ w.heap.size + 1 by omega) (.slice (some ⟨w.heap.size + 1 + 1 + 1, 0, none⟩) xs.length xs.length)).alloc (.cells #[.slice a1 xs.length c1] 48)
  have pq := (hown0.kept (grownBy_setCell' w0 (w.heap.size + 1) (.slice (some ⟨w.heap.size + 1 + 1 + 1, 0, none⟩) xs.length xs.length)) (.inr (by simp [Value.ownBlock]; omega))).alloc (.cells #[.slice a1 xs.length c1] 48)
  have pu := hu2.below ((Below.refl _ _).alloc (Nat.le_refl _) (.cells #[.slice a1 xs.length c1] 48))
  have pv := hv2.below ((Below.refl _ _).alloc (Nat.le_refl _) (.cells #[.slice a1 xs.length c1] 48))
  have pB : Boxed ((w0.setCell ⟨w.heap.size + 1, 0, none⟩ (.slice (some ⟨w.heap.size + 1 + 1 + 1, 0, none⟩) xs.length xs.length)).alloc (.cells #[.slice a1 xs.length c1] 48)) w0.heap.size 48 (.slice a1 xs.length c1) := by
    have := Boxed.new (w0.setCell ⟨w.heap.size + 1, 0, none⟩ (.slice (some ⟨w.heap.size + 1 + 1 + 1, 0, none⟩) xs.length xs.length)) 48 (.slice a1 xs.length c1)
    rwa [World.size_setCell] at this
  have pw : Below w.heap.size w ((w0.setCell ⟨w.heap.size + 1, 0, none⟩ (.slice (some ⟨w.heap.size + 1 + 1 + 1, 0, none⟩) xs.length xs.length)).alloc (.cells #[.slice a1 xs.length c1] 48)) := (hw1.setCell (p := ⟨w.heap.size + 1, 0, none⟩) (by simp) _).alloc (by have := hw1.size; simp; omega) _
  clear hv1 hu1 hu2 hv2 q1 q2 q3 q2c q2f hb0 hown0 b1 b2 b3 hw0 hw1 Hs3
  generalize hWL : (w0.setCell ⟨w.heap.size + 1, 0, none⟩ (.slice (some ⟨w.heap.size + 1 + 1 + 1, 0, none⟩) xs.length xs.length)).alloc (.cells #[.slice a1 xs.length c1] 48) = WL at *
  clear hWL
  generalize w0.heap.size = B0 at *
  refine wp_back B0 [w.heap.size + 1 + 1, w.heap.size + 1 + 1 + 1] (.slice a1 xs.length c1) xs rfl pB.cell pv (by simp; omega) (fun b o e => by have := hvp b o e; simp; omega) rfl
    (fun pre W => Boxed W w.heap.size 48 (.slice a2 ys.length c2) ∧ Boxed W (w.heap.size + 1) 48 (.slice (some ⟨w.heap.size + 1 + 1 + 1, 0, none⟩) xs.length xs.length) ∧ (∃ rv rs, Boxed W (w.heap.size + 1 + 1) 48 rv ∧ Sl W rv rs ∧ Num 10000 rs (remQ xs m pre)) ∧
      W.ownsRow (w.heap.size + 1 + 1 + 1) 3 1 (.slice (some ⟨w.heap.size + 1 + 1 + 1, 0, none⟩) xs.length xs.length) xs.length ((quoQ xs m pre).1.map (Value.int .i64)) ∧ Sl W (.slice a2 ys.length c2) ys)
    (fun _ _ => False)
    (fun pre W W' ⟨h1, h2, ⟨rv, rs, h3, hr, nr⟩, hq, hm'⟩ k => ⟨k.boxed h1, k.boxed h2, ⟨rv, rs, k.boxed h3, k.sl hr, nr⟩, k.own hq, k.sl hm'⟩) (fun pre W W' h k => h)
    (fun pre W ⟨h1, h2, ⟨rv, rs, h3, hr, nr⟩, hq, hm'⟩ k hk => by
      simp at hk
      rcases hk with rfl | rfl
      · exact ⟨_, h3, rfl⟩
      · rcases hq.2 with ⟨h', _⟩ | ⟨g, cap, cur, h', _, hg, _⟩
        · cases h'
        · cases h'; exact ⟨_, hg, rfl⟩)
    ⟨p1, p2, ⟨_, [], p3, Sl.nil _, Dig.nil _, (fun k h => by cases h), rfl⟩, pq, pu⟩
    (fun x => { tmps := #[.slice a1 xs.length c1, .slice a2 ys.length c2, undef, .pointer (some ⟨w.heap.size, 0, none⟩), .pointer (some ⟨w.heap.size + 1, 0, none⟩), .pointer (some ⟨w.heap.size + 1 + 1, 0, none⟩), .int .i64 (x.1 : Int), .int .i64 (gi xs x.1), undef, undef,
      .slice a1 xs.length c1, .int .i64 xs.length, (.slice (some ⟨w.heap.size + 1 + 1 + 1, 0, none⟩) xs.length xs.length), .slice a1 xs.length c1, .func (.func 78) #[] #[.pointer (some ⟨B0, 0, none⟩)], .int .i64 (x.1 : Int), .int .i64 (gi xs x.1),
      undef, undef, undef, undef, undef, undef, undef, undef, undef, undef, undef, undef, undef, undef, undef, undef, undef, undef, undef, undef, undef, undef, undef, undef], defers := [] }) ?assign ?body ?done ?stop
  case assign =>
    intro l x W K hK
    gi_wp2
    exact hK
  case body =>
    rintro l pre x W ho ⟨h1, h2, ⟨rv, rs, h3, hr, nr⟩, hq, hm'⟩ hlen
    have hmx : Tryz.prog.follows .mixedOrders = true := by kernel_rfl
    have hc3 := h3.cell
    have hf3 := h3.frozen
    have hbl : w.heap.size + 1 + 1 < W.heap.size := h3.lt
    obtain ⟨a3, c3, rfl⟩ := hr.shape
    have hrl : rs.length ≤ 1000 := by
      have hb := remQ_bounds (xs := xs) hm pre
      have := nr.length_le (show (1 : Int) < 10000 by decide) (m := ys.length) (Int.lt_trans hb.2 (hy.lt (by decide)))
      omega
    gi_wp2_with (first
      | (gi_at_builtin; refine wpIn_app_sl 48 Tryz.underlying48 rfl _ _ rfl rfl rfl (own_lit W (gi xs x.1)) (hr.below ((Below.refl _ W).alloc (Nat.le_refl _) _)) (by omega) (by decide) (by simp) ?_
         intro g cap w1 hown hgr hbw
         have hbw' := ((Below.refl _ W).alloc (Nat.le_refl _) _).trans hbw
         have hf0 := (hbw'.frozen (p := ⟨w.heap.size + 1 + 1, 0, none⟩) hbl).trans hf3
         have hc0 := (hbw'.cell (p := ⟨w.heap.size + 1 + 1, 0, none⟩) hbl).trans hc3
         have hcm0 := (hbw'.cell (p := ⟨w.heap.size, 0, none⟩) h1.lt).trans h1.cell)
      | (refine ⟨trivial, ?_⟩
         gi_at_call 65
         refine (CallsIn.inRound l (callsIn_wide.2 (trimmed_any _ ([gi xs x.1] ++ rs) _ (Sl.of_own hown)))).mono ?_
         rintro e w' ⟨⟨r2, rfl, hz2, hp2⟩, rfl⟩
         obtain ⟨a5, c5, rfl⟩ := hz2.shape))
    -- the memory behind the first statements of the round
    have hrem := remQ_bounds (xs := xs) hm pre
    have hgx := hx.gi (by decide) x.1
    have nt : Num 10000 (trim (gi xs x.1 :: rs)) (remQ xs m pre * 10000 + gi xs x.1) := by
      have h := Num.trim (b := 10000) (xs := gi xs x.1 :: rs) (fun y hy => by
        rcases List.mem_cons.1 hy with rfl | hy
        · exact hgx
        · exact nr.dig y hy)
      rw [val, nr.val] at h
      rw [show remQ xs m pre * 10000 + gi xs x.1 = gi xs x.1 + 10000 * remQ xs m pre by omega]; exact h
    have hqp : W.heap.size ≤ g := by
      rcases hown.2 with ⟨h', _⟩ | ⟨g', cap', cur, h', hg, _⟩
      · cases h'
      · cases h'; exact hg
    have hsz1 := hbw'.size
    have hqlt : w.heap.size + 1 + 1 + 1 < W.heap.size := (hq.lt (w.heap.size + 1 + 1 + 1) rfl).2
    have q1 := boxed_below h1 hbw'
    have q2 := boxed_below h2 hbw'
    have q3 := boxed_below h3 hbw'
    have qq := own_below hq hbw'
    have qm := hm'.below hbw'
    have hS0 : OvW w.heap.size w1.heap.size ((w1.setCell ⟨w.heap.size + 1 + 1, 0, none⟩ (.slice a5 (trim (gi xs x.1 :: rs)).length c5)).alloc (.cells #[.func (.func 64) #[.slice a2 ys.length c2] #[]] 81))
        (.slice a2 ys.length c2) (.slice (some ⟨w.heap.size + 1 + 1 + 1, 0, none⟩) xs.length xs.length) (.slice a5 (trim (gi xs x.1 :: rs)).length c5) ys (trim (gi xs x.1 :: rs)) (quoQ xs m pre).1 xs.length := by
      refine ⟨(boxed_setOther q1 (by omega) _).alloc _, (boxed_setOther q2 (by omega) _).alloc _, (q3.set _).alloc _, ?_, (qq.kept (grownBy_setCell' _ _ _) (.inr (by simp [Value.ownBlock]))).alloc _, (qm.setBox q3 (fun n e => by cases e) _).below ((Below.refl _ _).alloc (Nat.le_refl _) _), (hz2.setBox q3 (fun n e => by cases e) _).below ((Below.refl _ _).alloc (Nat.le_refl _) _)⟩
      have := Boxed.new (w1.setCell ⟨w.heap.size + 1 + 1, 0, none⟩ (.slice a5 (trim (gi xs x.1 :: rs)).length c5)) 81 (.func (.func 64) #[.slice a2 ys.length c2] #[])
      rwa [World.size_setCell] at this
    have hO : Only [w.heap.size + 1 + 1, w.heap.size + 1 + 1 + 1] W ((w1.setCell ⟨w.heap.size + 1 + 1, 0, none⟩ (.slice a5 (trim (gi xs x.1 :: rs)).length c5)).alloc (.cells #[.func (.func 64) #[.slice a2 ys.length c2] #[]] 81)) :=
      (((Only.refl _ _).below hbw').setCell (by simp) _).alloc _
    have hr5 : ∀ b o, (Value.slice a5 (trim (gi xs x.1 :: rs)).length c5).ptr? = some (b, o) → b ≠ w.heap.size + 1 + 1 + 1 := fun b o e => by
      have e' : (Value.slice (some ⟨g, 0, none⟩) (1 + rs.length) cap).ptr? = some (b, o) := hp2.symm.trans e
      have e2 : g = b := by simpa [Go.Value.ptr?] using congrArg (Option.map Prod.fst) e'
      omega
    have h8 : w.heap.size + 1 + 1 + 1 < w1.heap.size := Nat.lt_of_lt_of_le hqlt hsz1
    have hmp : ∀ b o, (Value.slice a2 ys.length c2).ptr? = some (b, o) → b < w.heap.size := hu.ptr_lt
    clear q1 q2 q3 qq qm hc0 hf0 hcm0 hc3 hf3 hown hgr hbw hz2 hp2
    generalize (w1.setCell ⟨w.heap.size + 1 + 1, 0, none⟩ (.slice a5 (trim (gi xs x.1 :: rs)).length c5)).alloc (.cells #[.func (.func 64) #[.slice a2 ys.length c2] #[]] 81) = Wc at *
    clear hbw' hsz1
    generalize w1.heap.size = B8 at *
    clear w1
    have hql := quoQ_len xs m pre
    have htl : (trim (gi xs x.1 :: rs)).length ≤ 100000 := Nat.le_trans (trim_len _) (by simp; omega)
    have hxl := x.2
    refine Go.wpIn_mono (Q := fun e a' w' => e = .normal ∧ ∃ d : Nat, a' = { tmps := #[.slice a1 xs.length c1, .slice a2 ys.length c2, undef, .pointer (some ⟨w.heap.size, 0, none⟩), .pointer (some ⟨w.heap.size + 1, 0, none⟩), .pointer (some ⟨w.heap.size + 1 + 1, 0, none⟩), .int .i64 (x.1 : Int), .int .i64 (gi xs x.1), .pointer (some ⟨B8, 0, none⟩),
        .func (.func 66) #[] #[.pointer (some ⟨B8, 0, none⟩), .pointer (some ⟨w.heap.size + 1 + 1, 0, none⟩)], .slice a1 xs.length c1, .int .i64 xs.length, (.slice (some ⟨w.heap.size + 1 + 1 + 1, 0, none⟩) xs.length xs.length), .slice a1 xs.length c1, .func (.func 78) #[] #[.pointer (some ⟨B0, 0, none⟩)], .int .i64 (x.1 : Int), .int .i64 (gi xs x.1),
        .int .i64 (gi xs x.1), .slice (some ⟨W.heap.size, 0, none⟩) 1 1, .slice a3 rs.length c3, .slice (some ⟨g, 0, none⟩) (1 + rs.length) cap, .slice a5 (trim (gi xs x.1 :: rs)).length c5, .slice a2 ys.length c2, .func (.func 64) #[.slice a2 ys.length c2] #[],
        .func (.func 66) #[] #[.pointer (some ⟨B8, 0, none⟩), .pointer (some ⟨w.heap.size + 1 + 1, 0, none⟩)], (.slice (some ⟨w.heap.size + 1 + 1 + 1, 0, none⟩) xs.length xs.length), .int .i64 (x.1 : Int), .func (.func 66) #[] #[.pointer (some ⟨B8, 0, none⟩), .pointer (some ⟨w.heap.size + 1 + 1, 0, none⟩)], .int .i64 (d : Nat), .pointer (some ⟨w.heap.size + 1 + 1 + 1, x.1, none⟩),
        undef, undef, undef, undef, undef, undef, undef, undef, undef, undef, undef], defers := [] } ∧ (d : Int) = (remQ xs m pre * 10000 + gi xs x.1) / m ∧ d ≤ 9999 ∧
      OvW w.heap.size B8 w' (.slice a2 ys.length c2) (.slice (some ⟨w.heap.size + 1 + 1 + 1, 0, none⟩) xs.length xs.length) (.slice a5 (trim (gi xs x.1 :: rs)).length c5) ys (trim (gi xs x.1 :: rs)) ((quoQ xs m pre).1.set x.1 d) xs.length ∧ Only [w.heap.size + 1 + 1, w.heap.size + 1 + 1 + 1] W w') ?_ ?_
    · have hS := hS0.below (Below.refl _ Wc).drew
      have cQ := hS0.b2.cell
      gi_region_with (refine ⟨trivial, ?_⟩
                      gi_at_call 67
                      refine (CallsIn.inRound l (callsIn_wide.2 (hS.search hy nt hly))).mono ?_
                      rintro e w3 ⟨⟨v3, rfl, d, rfl, hd, hP⟩, hb3⟩
                      have hS3 := hS.below hb3
                      have cQ3 := hS3.b2.cell
                      have cR := hS3.cellq hql hxl
                      have fR := hS3.q.frozenAt x.1)
      all_goals exact ⟨rfl, d, rfl, search_quot hm (by omega) (by omega) hd hP, hd, hS3.store x.1 d h8 hmp hr5, ((hO.below (Below.refl _ _).drew).below hb3).setCell (by simp) _⟩
    · rintro e a' Wd ⟨rfl, d, rfl, hdq, hd, hSd, hOd⟩
      clear hS0 hO
      have Hdq := Lib.hid hdq
      clear hdq
      have hql2 : ((quoQ xs m pre).1.set x.1 d).length = xs.length := by rw [List.length_set, hql]
      have cQ := hSd.b2.cell
      have cR := hSd.b3.cell
      have fR := hSd.b3.frozen
      have c8 := hSd.b8.cell
      have cD : Wd.cell? ⟨w.heap.size + 1 + 1 + 1, x.1, none⟩ = some (.int .i64 d) := by
        have := hSd.cellq hql2 hxl
        rwa [show gi ((quoQ xs m pre).1.set x.1 d) x.1 = d by simp [gi, hql]] at this
      have hSe := hSd.below (Below.refl _ Wd).drew
      gi_wp2_with fail
      refine Go.wpIn_mono (Q := fun e _ w' => e = .normal ∧ ∃ rm ms w5, w' = w5.setCell ⟨w.heap.size + 1 + 1, 0, none⟩ rm ∧ OvW w.heap.size B8 w5 (.slice a2 ys.length c2) (.slice (some ⟨w.heap.size + 1 + 1 + 1, 0, none⟩) xs.length xs.length) (.slice a5 (trim (gi xs x.1 :: rs)).length c5) ys (trim (gi xs x.1 :: rs)) ((quoQ xs m pre).1.set x.1 d) xs.length ∧
        Sl w5 rm ms ∧ Num 10000 ms ((remQ xs m pre * 10000 + gi xs x.1) % m) ∧ Wd.heap.size ≤ w5.heap.size ∧ Fresh Wd rm ∧ Below Wd.heap.size Wd w5) ?_ ?_
      · rename_i Q1 K1 A1 Q2
        clear hOd hSd hql2 hql hmp hr5 hqlt hqp hrem hgx Q2 hr hrl h3 hbl hlen hm' hq nr h2 h1 ho pB hlt3 hz0 pw pv pu pq p3 p2 p1 A1 K1 Q1 hvp hv hu
        generalize hTR : trim (gi xs x.1 :: rs) = tr at *
        generalize hQQ : (quoQ xs m pre).1.set x.1 ↑d = qq at *
        generalize hRM : remQ xs m pre * 10000 + gi xs x.1 = r' at *
        clear hTR hQQ hRM
        have hle := quot_le hm Hdq.out hy
        have hSof : ∀ W', OvW w.heap.size B8 W' (.slice a2 ys.length c2) (.slice (some ⟨w.heap.size + 1 + 1 + 1, 0, none⟩) xs.length xs.length) (.slice a5 tr.length c5) ys tr qq xs.length → OvS w.heap.size B8 (.slice a2 ys.length c2) (.slice (some ⟨w.heap.size + 1 + 1 + 1, 0, none⟩) xs.length xs.length) x.1 d W' := fun W' h => by
          refine ⟨h.b2.cell, h.b8.cell, ?_⟩
          rw [← cD]
          exact (h.q.cellAt x.1 (by omega)).trans (hSe.q.cellAt x.1 (by omega)).symm
        have hS0 := hSof _ hSe
        have cRe := hSe.b3.cell
        refine round_region_held (S := OvS w.heap.size B8 (.slice a2 ys.length c2) (.slice (some ⟨w.heap.size + 1 + 1 + 1, 0, none⟩) xs.length xs.length) x.1 d) hmx (by kernel_rfl) ?_
        refine held_take (i := 1) rfl (by kernel_rfl) (by kernel_rfl) (by kernel_rfl) (fun _ _ _ h => by cases h.1) (held_load (v := .func (.func 64) #[.slice a2 ys.length c2] #[]) rfl rfl rfl (Go.Proofs.run_isAgg_plain Tryz.underlying81 rfl) (fun W' h => h.2.1)) hS0 (l' := #[false, true, false, false, false, false, false, false, false]) (by kernel_rfl) rfl ?_
        simp only [List.setIfInBounds_toArray, List.set_cons_zero, List.set_cons_succ]
        refine held_take (i := 2) rfl (by kernel_rfl) (by kernel_rfl) (by kernel_rfl) (fun _ _ _ h => by cases h.1) (held_load (v := (.slice (some ⟨w.heap.size + 1 + 1 + 1, 0, none⟩) xs.length xs.length)) rfl rfl rfl (Go.Proofs.run_isAgg_plain Tryz.underlying48 rfl) (fun W' h => h.1)) hS0 (l' := #[false, true, true, false, false, false, false, false, false]) (by kernel_rfl) rfl ?_
        simp only [List.setIfInBounds_toArray, List.set_cons_zero, List.set_cons_succ]
        refine held_take (i := 3) rfl (by kernel_rfl) (by kernel_rfl) (by kernel_rfl) (fun _ _ _ h => by cases h.1) (held_move (v := .int .i64 (x.1 : Int)) rfl rfl rfl) hS0 (l' := #[false, true, true, true, false, false, false, false, false]) (by kernel_rfl) rfl ?_
        simp only [List.setIfInBounds_toArray, List.set_cons_zero, List.set_cons_succ]
        refine held_take (i := 4) rfl (by kernel_rfl) (by kernel_rfl) (by kernel_rfl) (fun _ _ _ h => by cases h.1) (held_index (v := .pointer (some ⟨w.heap.size + 1 + 1 + 1, x.1, none⟩)) rfl rfl rfl rfl Tryz.underlying48 hxl (fun _ => by kernel_rfl) rfl) hS0 (l' := #[false, true, true, true, true, false, false, false, false]) (by kernel_rfl) rfl ?_
        simp only [List.setIfInBounds_toArray, List.set_cons_zero, List.set_cons_succ]
        refine held_take (i := 5) rfl (by kernel_rfl) (by kernel_rfl) (by kernel_rfl) (fun _ _ _ h => by cases h.1) (held_load (v := .int .i64 d) rfl rfl rfl (Go.Proofs.run_isAgg_plain Tryz.underlying3 rfl) (fun W' h => h.2.2)) hS0 (l' := #[false, true, true, true, true, true, false, false, false]) (by kernel_rfl) rfl ?_
        simp only [List.setIfInBounds_toArray, List.set_cons_zero, List.set_cons_succ]
        refine held_two (i := 0) (j := 6) rfl rfl (by kernel_rfl) (l' := #[true, true, true, true, true, true, false, false, false]) (l2 := #[false, true, true, true, true, true, true, false, false]) (by kernel_rfl) (by kernel_rfl) ?_ ?_
        · unfold Oper.wp
          go_simp
          refine held_only (i := 6) rfl (by kernel_rfl) (l' := #[true, true, true, true, true, true, true, false, false]) (by kernel_rfl) ?_
          unfold Oper.wp
          go_simp
          refine (by_any _ _ ys _ hSe.m hy.dig (by omega) (by omega) (by omega)).mono ?_
          rintro e w4 ⟨⟨rb, rfl, bs, hrb, nb, _⟩, hb4⟩
          have hS4 := hSe.below hb4
          have cR4 := hS4.b3.cell
          have hlb := nb.len_le (by decide) nt hle.1
          refine ⟨hSof _ hS4, ?_⟩
          refine held_only (i := 7) rfl (by kernel_rfl) (l' := #[true, true, true, true, true, true, true, true, false]) (by kernel_rfl) ?_
          unfold Oper.wp
          go_simp
          refine (minus_any _ _ tr bs _ hS4.r hrb nt.dig nb.dig (by omega) hlb (by rw [nb.val, nt.val]; exact hle.1)).mono ?_
          rintro e w5 ⟨⟨rm, rfl, ms, hrm, nm, hfm⟩, hb5⟩
          obtain ⟨a7, c7, rfl⟩ := hrm.shape
          have hS5 := hS4.below hb5
          have cR5 := hS5.b3.cell
          have fR5 := hS5.b3.frozen
          refine ⟨hSof _ hS5, ?_⟩
          refine held_only (i := 8) rfl (by kernel_rfl) (l' := #[true, true, true, true, true, true, true, true, true]) (by kernel_rfl) ?_
          unfold Oper.wp
          go_simp
          refine ⟨?_, wpAnyH_done (by kernel_rfl) ⟨rfl, _, ms, w5, rfl, hS5, hrm, by rw [← hle.2, ← nt.val, ← nb.val]; exact nm, ?_, Fresh.mono (w' := w4) hfm hb4.size, ((Below.refl _ _).drew.trans hb4).trans (hb5.mono hb4.size)⟩ _⟩
          · obtain ⟨g1, g2, g3⟩ := hSof _ hS5
            exact ⟨(cell_far (by simp) _).trans g1, (cell_far (by simp; omega) _).trans g2, (cell_far (by simp) _).trans g3⟩
          · exact Nat.le_trans hb4.size hb5.size
        · skip
          unfold Oper.wp
          go_simp
          refine (by_any _ _ ys _ hSe.m hy.dig (by omega) (by omega) (by omega)).mono ?_
          rintro e w4 ⟨⟨rb, rfl, bs, hrb, nb, _⟩, hb4⟩
          have hS4 := hSe.below hb4
          have cR4 := hS4.b3.cell
          have hlb := nb.len_le (by decide) nt hle.1
          refine ⟨hSof _ hS4, ?_⟩
          refine held_only (i := 0) rfl (by kernel_rfl) (l' := #[true, true, true, true, true, true, true, false, false]) (by kernel_rfl) ?_
          unfold Oper.wp
          go_simp
          refine held_only (i := 7) rfl (by kernel_rfl) (l' := #[true, true, true, true, true, true, true, true, false]) (by kernel_rfl) ?_
          unfold Oper.wp
          go_simp
          refine (minus_any _ _ tr bs _ hS4.r hrb nt.dig nb.dig (by omega) hlb (by rw [nb.val, nt.val]; exact hle.1)).mono ?_
          rintro e w5 ⟨⟨rm, rfl, ms, hrm, nm, hfm⟩, hb5⟩
          obtain ⟨a7, c7, rfl⟩ := hrm.shape
          have hS5 := hS4.below hb5
          have cR5 := hS5.b3.cell
          have fR5 := hS5.b3.frozen
          refine ⟨hSof _ hS5, ?_⟩
          refine held_only (i := 8) rfl (by kernel_rfl) (l' := #[true, true, true, true, true, true, true, true, true]) (by kernel_rfl) ?_
          unfold Oper.wp
          go_simp
          refine ⟨?_, wpAnyH_done (by kernel_rfl) ⟨rfl, _, ms, w5, rfl, hS5, hrm, by rw [← hle.2, ← nt.val, ← nb.val]; exact nm, ?_, Fresh.mono (w' := w4) hfm hb4.size, ((Below.refl _ _).drew.trans hb4).trans (hb5.mono hb4.size)⟩ _⟩
          · obtain ⟨g1, g2, g3⟩ := hSof _ hS5
            exact ⟨(cell_far (by simp) _).trans g1, (cell_far (by simp; omega) _).trans g2, (cell_far (by simp) _).trans g3⟩
          · exact Nat.le_trans hb4.size hb5.size
      · rintro e a' w' ⟨rfl, rm, ms, w5, rfl, hS5, hrm, nm, hsz, hfm, hb5⟩
        have hrp : ∀ b o, rm.ptr? = some (b, o) → b ≠ w.heap.size + 1 + 1 + 1 := fun b o e => by
          have h1 := hfm b o e
          have h2 := (hSd.q.lt (w.heap.size + 1 + 1 + 1) rfl).2
          omega
        refine ⟨(hOd.below hb5).setCell (by simp) _, boxed_setOther hS5.b1 (by omega) _, boxed_setOther hS5.b2 (by omega) _, ⟨rm, ms, hS5.b3.set _, hrm.setBox hS5.b3 (fun n e => by cases e) _, by rw [remQ_snoc]; exact nm⟩, ?_, hS5.m.setBox hS5.b3 (fun n e => by cases e) _⟩
        rw [quoQ_snoc, ← Hdq.out]
        exact hS5.q.kept (grownBy_setCell' _ _ _) (.inr (by simp [Value.ownBlock]))
  case done =>
    rintro D W hD ho ⟨h1, h2, ⟨rv, rs, h3, hr, nr⟩, hq, hm'⟩ hK
    have hmx : Tryz.prog.follows .mixedOrders = true := by kernel_rfl
    have hc2 := h2.cell
    have hf2 := h2.frozen
    have hc3 := h3.cell
    have hf3 := h3.frozen
    obtain ⟨a3, c3, rfl⟩ := hr.shape
    have hqs : Sl W.drew (.slice (some ⟨w.heap.size + 1 + 1 + 1, 0, none⟩) xs.length xs.length) (quoQ xs m (downs xs.length xs.length)).1 := (Sl.of_own hq).below (Below.refl _ _).drew
    have hle := long_div_end (xs := xs) hm
    have Hle := Lib.hid hle
    clear hle
    gi_wp2_with fail
    gi_region_with (refine ⟨trivial, ?_⟩
                    gi_at_call 65
                    refine (callsIn_wide.2 (trimmed_any _ _ _ hqs)).mono ?_
                    rintro e w' ⟨⟨r2, rfl, hz2, hp2⟩, rfl⟩
                    obtain ⟨a5, c5, rfl⟩ := hz2.shape)
    all_goals gi_wp2
    all_goals
      have hz3 : Sl W (.slice a5 (trim (quoQ xs m (downs xs.length xs.length)).1).length c5) (trim (quoQ xs m (downs xs.length xs.length)).1) := hz2
      have k2 := boxed_setOther (h2.set (.slice a5 (trim (quoQ xs m (downs xs.length xs.length)).1).length c5)) (show w.heap.size + 1 ≠ w.heap.size + 1 + 1 by omega) (.slice a3 rs.length c3)
      have k3 := (boxed_setOther h3 (show w.heap.size + 1 + 1 ≠ w.heap.size + 1 by omega) (.slice a5 (trim (quoQ xs m (downs xs.length xs.length)).1).length c5)).set (.slice a3 rs.length c3)
      have k3' := boxed_setOther h3 (show w.heap.size + 1 + 1 ≠ w.heap.size + 1 by omega) (.slice a5 (trim (quoQ xs m (downs xs.length xs.length)).1).length c5)
      have kz := ((hz3.setBox h2 (fun n e => by cases e) (.slice a5 (trim (quoQ xs m (downs xs.length xs.length)).1).length c5)).setBox k3' (fun n e => by cases e) (.slice a3 rs.length c3)).below (Below.refl _ _).drew
      have kr := ((hr.setBox h2 (fun n e => by cases e) (.slice a5 (trim (quoQ xs m (downs xs.length xs.length)).1).length c5)).setBox k3' (fun n e => by cases e) (.slice a3 rs.length c3)).below (Below.refl _ _).drew
      have l2 := boxed_below k2 (Below.refl _ _).drew
      have l3 := boxed_below k3 (Below.refl _ _).drew
      have hKF := (KeepsOthers.drew _).same D _ ((KeepsOthers.setCell _ ⟨w.heap.size + 1 + 1, 0, none⟩ (.slice a3 rs.length c3)).same D _ ((KeepsOthers.setCell W ⟨w.heap.size + 1, 0, none⟩ (.slice a5 (trim (quoQ xs m (downs xs.length xs.length)).1).length c5)).same D _ hK rfl) rfl) rfl
      have ck := CellsKept.putObj (.deferred none) hKF rfl
      have cA := (ck.boxed l2).cell
      have cB := (ck.boxed l3).cell
      have ho2 := ((((ho.mono (T := [w.heap.size + 1, w.heap.size + 1 + 1, w.heap.size + 1 + 1 + 1]) (by simp)).setCell (p := ⟨w.heap.size + 1, 0, none⟩) (by simp) (.slice a5 (trim (quoQ xs m (downs xs.length xs.length)).1).length c5)).setCell (p := ⟨w.heap.size + 1 + 1, 0, none⟩) (by simp) (.slice a3 rs.length c3)).below (Below.refl _ _).drew).putObj hD (.deferred none)
      exact ret_marked hKF (v := .tuple #[.slice a5 (trim (quoQ xs m (downs xs.length xs.length)).1).length c5, .slice a3 rs.length c3]) (by simp [results, Tryz.results42, go_sem, cA, cB])
        ⟨⟨_, rfl, _, _, _, rs, rfl, ck.sl kz, by rw [← Hle.out.1]; exact Num.trim (quoQ_dig hx hm _), ck.sl kr, by rw [← Hle.out.2]; exact nr⟩, pw.trans (ho2.toBelow (by have := pw.size; omega) (by simp; omega))⟩
  case stop =>
    rintro D k W hk hD ho h hK
    exact h.elim
end Go.Proofs.YtbnilfjhalildaaGreatDoor
