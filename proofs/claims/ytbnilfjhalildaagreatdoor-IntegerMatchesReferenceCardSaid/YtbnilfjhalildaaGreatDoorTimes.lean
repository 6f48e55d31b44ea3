/- The contract of number.times. -/
import Derived.Test.YtbnilfjhalildaaGreatDoorLoop
namespace Go.Proofs.YtbnilfjhalildaaGreatDoor
open Go.RowKit Go.Shelf
attribute [local go_sem] Oper.semAt_some

theorem List.reverseRecOn' {α : Type} {motive : List α → Prop} (l : List α) (nil : motive []) (snoc : ∀ pre x, motive pre → motive (pre ++ [x])) : motive l := by
  have : ∀ k : List α, motive k.reverse := by
    intro k
    induction k with
    | nil => exact nil
    | cons a k ih => rw [List.reverse_cons]; exact snoc _ _ ih
  have h := this l.reverse
  rwa [List.reverse_reverse] at h

/-- What has been summed up when the places of pre have come. -/
def horn (a : Int) (ys : List Int) : List (Fin ys.length) → Int := fun pre => pre.foldl (fun s x => s * 10000 + a * gi ys x.1) 0
theorem horn_snoc (a : Int) (ys : List Int) (pre : List (Fin ys.length)) (x : Fin ys.length) : horn a ys (pre ++ [x]) = horn a ys pre * 10000 + a * gi ys x.1 := by
  unfold horn; rw [List.foldl_append]; rfl

theorem horn_bounds {a : Int} (ha : 0 ≤ a) {ys : List Int} (hy : Dig 10000 ys) (pre : List (Fin ys.length)) : 0 ≤ horn a ys pre ∧ horn a ys pre ≤ a * (10000 ^ pre.length - 1) := by
  induction pre using Go.Proofs.YtbnilfjhalildaaGreatDoor.List.reverseRecOn' with
  | nil => simp [horn]
  | snoc pre x ih =>
    rw [horn_snoc, List.length_append]
    have hd := hy.gi (by decide) x.1
    have h1 : 0 ≤ a * gi ys x.1 := Int.mul_nonneg ha hd.1
    have h2 : a * gi ys x.1 ≤ a * 9999 := Int.mul_le_mul_of_nonneg_left (by omega) ha
    refine ⟨by omega, ?_⟩
    have e : a * (10000 ^ (pre.length + [x].length) - 1) = a * (10000 ^ pre.length - 1) * 10000 + a * 9999 := by
      simp only [List.length_cons, List.length_nil, Nat.zero_add, Int.pow_succ, Int.mul_sub, Int.sub_mul]
      rw [Int.mul_assoc]; omega
    rw [e]; omega
/-- In the end it is the product. -/
theorem horn_downs (a : Int) (ys : List Int) : ∀ k, k ≤ ys.length → horn a ys (downs ys.length k) = a * val 10000 (ys.drop (ys.length - k))
  | 0, _ => by simp [downs, horn, val]
  | k + 1, h => by
    rw [downs_succ (by omega), horn_snoc, horn_downs a ys k (by omega)]
    have e : ys.drop (ys.length - (k + 1)) = gi ys (ys.length - 1 - k) :: ys.drop (ys.length - k) := by
      rw [show ys.length - (k + 1) = ys.length - 1 - k by omega, List.drop_eq_getElem_cons (by omega), gi_lt (by omega), show ys.length - 1 - k + 1 = ys.length - k by omega]
    rw [e]
    simp only [val, Int.mul_add]
    rw [Int.mul_assoc, Int.mul_comm (val _ _) 10000]
    omega
theorem horn_all (a : Int) (ys : List Int) : horn a ys (downs ys.length ys.length) = a * val 10000 ys := by
  rw [horn_downs a ys _ (Nat.le_refl _), Nat.sub_self, List.drop_zero]
theorem horn_len {xs ys zs : List Int} (hx : Dig 10000 xs) (hy : Dig 10000 ys) {pre : List (Fin ys.length)} (hz : Num 10000 zs (horn (val 10000 xs) ys pre)) : zs.length ≤ xs.length + pre.length := by
  have h1 := val_bounds (show (1 : Int) < 10000 by decide) hx
  have h2 := (horn_bounds h1.1 hy pre).2
  refine hz.length_le (by decide) ?_
  have p1 := pow_pos' (show (0 : Int) < 10000 by decide) pre.length
  have h3 : val 10000 xs * (10000 ^ pre.length - 1) ≤ 10000 ^ xs.length * (10000 ^ pre.length - 1) := Int.mul_le_mul_of_nonneg_right (by omega) (by omega)
  have p2 := pow_pos' (show (0 : Int) < 10000 by decide) xs.length
  simp only [Int.mul_sub, Int.mul_one] at h2 h3
  rw [Int.pow_add]
  omega

theorem by_len {xs rs : List Int} {d : Int} (hx : Dig 10000 xs) (hn : Num 10000 rs (val 10000 xs * d)) (hl : xs.length ≤ 99999) (h1 : d ≤ 9999) : rs.length ≤ 100000 := by
  have hv := val_bounds (show (1 : Int) < 10000 by decide) hx
  have p2 := pow_pos' (show (0 : Int) < 10000 by decide) xs.length
  have h2 : val 10000 xs * d ≤ val 10000 xs * 9999 := Int.mul_le_mul_of_nonneg_left h1 hv.1
  have := hn.length_le (show (1 : Int) < 10000 by decide) (m := xs.length + 1) (by rw [Int.pow_succ]; omega)
  omega
/-- Behind the statement out = out.plus(l.by(n)). -/
theorem times_close {W w1 w2 : World} {H : Nat} {vl vo r : Value} {xs zs rs ts os ys : List Int} {pre : List (Fin ys.length)} {x : Fin ys.length} (W0 : World) (h1 : Boxed W H 48 vl) (h2 : Sl W vl xs) (h3 : Boxed W (H + 1) 48 vo) (hvo : ∀ n, vo ≠ .int .i64 n)
    (ho : Only [H + 1] W0 W) (hb : Below W.heap.size W w1) (hb2 : Below w1.heap.size w1 w2) (hr2 : Sl w2 r ts) (h5 : val 10000 zs = horn (val 10000 xs) ys pre) (hos : val 10000 os = val 10000 zs * 10000) (hn : Num 10000 rs (val 10000 xs * gi ys x.1))
    (hn2 : Num 10000 ts (val 10000 os + val 10000 rs)) :
    Only [H + 1] W0 (w2.setCell ⟨H + 1, 0, none⟩ r) ∧ (Boxed (w2.setCell ⟨H + 1, 0, none⟩ r) H 48 vl ∧ Sl (w2.setCell ⟨H + 1, 0, none⟩ r) vl xs ∧
      ∃ vo zs, Boxed (w2.setCell ⟨H + 1, 0, none⟩ r) (H + 1) 48 vo ∧ Sl (w2.setCell ⟨H + 1, 0, none⟩ r) vo zs ∧ Num 10000 zs (horn (val 10000 xs) ys (pre ++ [x]))) := by
  have g1 := boxed_below (boxed_below h1 hb) hb2
  have g3 := boxed_below (boxed_below h3 hb) hb2
  refine ⟨((ho.below hb).below hb2).setCell (by simp) _, boxed_setOther g1 (by omega) _, ((h2.below hb).below hb2).setBox g3 hvo _, r, ts, g3.set r, hr2.setBox g3 hvo _, ?_⟩
  rw [horn_snoc, ← h5, ← hos, ← hn.val]
  exact hn2

set_option maxRecDepth 100000 in
set_option maxHeartbeats 1000000 in
theorem times_any (v u : Value) (xs ys : List Int) (w : World) (hv : Sl w v xs) (hu : Sl w u ys) (hx : Dig 10000 xs) (hy : Dig 10000 ys) (hlx : xs.length ≤ 1000) (hly : ys.length ≤ 1000) :
    Calls Tryz.prog 41 #[v, u] w (Gives w fun r w' => ∃ zs, Sl w' r zs ∧ Num 10000 zs (val 10000 xs * val 10000 ys)) := by
  have hvp := hu.ptr_lt
  refine (callsIn_wide (n := 5)).1 ?_
  refine callsIn_of_wp_marks Tryz.func41 rfl trivial ?_ rfl
  simp only [Tryz.ntmps41, List.size_toArray, List.length_cons, List.length_nil, Nat.reduceAdd, Nat.reduceSub, Array.replicate_succ, Array.replicate_zero, List.push_toArray, List.append_toArray, List.nil_append, List.cons_append]
  obtain ⟨a1, c1, rfl⟩ := hv.shape
  obtain ⟨a2, c2, rfl⟩ := hu.shape
  gi_wp2_with (refine ⟨trivial, ?_⟩; gi_at_call 60; refine (back_in Fence.wide 4 trivial rfl _ _ ⟨_, _, _, rfl⟩).mono ?_; rintro e w' ⟨rfl, rfl⟩)
  have hw0 : Below w.heap.size w (((w.alloc (.cells #[.slice a1 xs.length c1] 48)).alloc (.cells #[.slice none 0 0] 48)).alloc (.cells #[.slice a2 ys.length c2] 48)) := (((Below.refl _ _).alloc (Nat.le_refl _) _).alloc (by simp) _).alloc (by simp; omega) _
  have b1 : Boxed (((w.alloc (.cells #[.slice a1 xs.length c1] 48)).alloc (.cells #[.slice none 0 0] 48)).alloc (.cells #[.slice a2 ys.length c2] 48)) w.heap.size 48 (.slice a1 xs.length c1) := ((Boxed.new w _ _).alloc _).alloc _
  have b2 : Boxed (((w.alloc (.cells #[.slice a1 xs.length c1] 48)).alloc (.cells #[.slice none 0 0] 48)).alloc (.cells #[.slice a2 ys.length c2] 48)) (w.heap.size + 1) 48 (.slice none 0 0) := by
    have := (Boxed.new (w.alloc (.cells #[.slice a1 xs.length c1] 48)) 48 (.slice none 0 0)).alloc (.cells #[.slice a2 ys.length c2] 48)
    rwa [World.size_alloc] at this
  have b3 : Boxed (((w.alloc (.cells #[.slice a1 xs.length c1] 48)).alloc (.cells #[.slice none 0 0] 48)).alloc (.cells #[.slice a2 ys.length c2] 48)) (w.heap.size + 1 + 1) 48 (.slice a2 ys.length c2) := by
    have := Boxed.new ((w.alloc (.cells #[.slice a1 xs.length c1] 48)).alloc (.cells #[.slice none 0 0] 48)) 48 (.slice a2 ys.length c2)
    rwa [World.size_alloc, World.size_alloc] at this
  have hv0 := hv.below hw0
  have hu0 := hu.below hw0
  refine wp_back (w.heap.size + 1 + 1) [w.heap.size + 1] (.slice a2 ys.length c2) ys rfl b3.cell hu0 (by simp) (fun b o e => by have := hvp b o e; simp; omega) rfl
    (fun pre W => Boxed W w.heap.size 48 (.slice a1 xs.length c1) ∧ Sl W (.slice a1 xs.length c1) xs ∧ ∃ vo zs, Boxed W (w.heap.size + 1) 48 vo ∧ Sl W vo zs ∧ Num 10000 zs (horn (val 10000 xs) ys pre))
    (fun _ _ => False)
    (fun pre W W' ⟨h1, h2, vo, zs, h3, h4, h5⟩ k => ⟨k.boxed h1, k.sl h2, vo, zs, k.boxed h3, k.sl h4, h5⟩) (fun pre W W' h k => h)
    (fun pre W ⟨h1, h2, vo, zs, h3, h4, h5⟩ k hk => by simp at hk; subst hk; exact ⟨_, h3, rfl⟩) ⟨b1, hv0, _, [], b2, Sl.nil _, Dig.nil _, (fun k h => by cases h), rfl⟩
    (fun x => { tmps := #[.slice a1 xs.length c1, .slice a2 ys.length c2, .pointer (some ⟨w.heap.size, 0, none⟩), undef, .slice none 0 0, .pointer (some ⟨w.heap.size + 1, 0, none⟩), undef, .int .i64 (gi ys x.1), .slice a2 ys.length c2,
      .func (.func 78) #[] #[.pointer (some ⟨w.heap.size + 1 + 1, 0, none⟩)], .int .i64 (x.1 : Int), .int .i64 (gi ys x.1), undef, undef, undef, undef, undef, undef, undef, undef, undef, undef, undef, undef], defers := [] }) ?assign ?body ?done ?stop
  case assign =>
    intro l x W K hK
    gi_wp2
    exact hK
  case body =>
    rintro l pre x W ho ⟨h1, h2, vo, zs, h3, h4, h5⟩ hlen
    have hzl := horn_len hx hy h5
    have hd := hy.gi (by decide) x.1
    have hc1 := h1.cell
    have hc3 := h3.cell
    have hf3 := h3.frozen
    obtain ⟨a3, c3, rfl⟩ := h4.shape
    cases zs with
    | nil =>
      have hmx : Tryz.prog.follows .mixedOrders = true := by kernel_rfl
      gi_wp2_with fail
      have k1 := h1; have k2 := h2; have k3 := h3; have k4 := h4
      have kO : Only [w.heap.size + 1] W W := Only.refl _ _
      have kv : val 10000 ([] : List Int) = val 10000 ([] : List Int) * 10000 := rfl
      have kd : Dig 10000 ([] : List Int) := Dig.nil _
      have kl : ([] : List Int).length ≤ 100000 := by simp
      have hvW := k2.below (Below.refl _ _).drew
      have h4W := k4.below (Below.refl _ _).drew
      have hbl := k3.lt
      gi_region_with (first
        | (refine ⟨trivial, ?_⟩
           gi_at_call 64
           refine (CallsIn.inRound l (callsIn_wide.2 (by_any _ _ xs _ hvW hx (by omega) hd.1 (by omega)))).mono ?_
           rintro e w1 ⟨⟨r, rfl, rs, hr, hn, _⟩, hb⟩
           have hc3 := (hb.cell (p := ⟨w.heap.size + 1, 0, none⟩) hbl).trans hc3
           have hc1 := (hb.cell (p := ⟨w.heap.size, 0, none⟩) (Nat.lt_of_succ_lt hbl)).trans hc1
           have hf3 := (hb.frozen (p := ⟨w.heap.size + 1, 0, none⟩) hbl).trans hf3
           have hvo := h4W.below hb
           have hrl : rs.length ≤ 100000 := by_len hx hn (by omega) (by omega)
           have hbl2 := Nat.lt_of_lt_of_le hbl hb.size)
        | (refine ⟨trivial, ?_⟩
           gi_at_call 43
           refine (CallsIn.inRound l (callsIn_wide.2 (plus_any _ _ _ rs _ hvo hr kd hn.dig kl hrl))).mono ?_
           rintro e w2 ⟨⟨r2, rfl, ts, hr2, hn2, _⟩, hb2⟩
           obtain ⟨a5, c5, rfl⟩ := hr2.shape
           have hc4 := (hb2.cell (p := ⟨w.heap.size + 1, 0, none⟩) hbl2).trans hc3
           have hf4 := (hb2.frozen (p := ⟨w.heap.size + 1, 0, none⟩) hbl2).trans hf3))
      all_goals gi_wp2
      all_goals exact times_close _ (boxed_below k1 (Below.refl _ _).drew) (k2.below (Below.refl _ _).drew) (boxed_below k3 (Below.refl _ _).drew) (fun n e => by cases e) (kO.below (Below.refl _ _).drew) hb hb2 hr2 h5.val kv hn hn2
    | cons z zs =>
      have hmx : Tryz.prog.follows .mixedOrders = true := by kernel_rfl
      have hpos : (0 : Int) < ((z :: zs).length : Int) := by simp
      have hbl : w.heap.size + 1 < W.heap.size := h3.lt
      gi_wp2_with (gi_at_builtin; refine wpIn_app_sl 48 Tryz.underlying48 rfl _ _ rfl rfl rfl (own_lit W 0) (h4.below ((Below.refl _ W).alloc (Nat.le_refl _) _)) (by simp at hzl ⊢; omega) (by decide) (by simp) ?_; intro g cap w0 hown hgr hbw; have hbw' := ((Below.refl _ W).alloc (Nat.le_refl _) _).trans hbw; have hf0 := (hbw'.frozen (p := ⟨w.heap.size + 1, 0, none⟩) hbl).trans hf3; have hc0 := (hbw'.cell (p := ⟨w.heap.size + 1, 0, none⟩) hbl).trans hc3)
      have q3 := boxed_below h3 hbw'
      have k1 := boxed_setOther (boxed_below h1 hbw') (show w.heap.size ≠ w.heap.size + 1 by omega) (.slice (some ⟨g, 0, none⟩) (1 + (z :: zs).length) cap)
      have k2 := (h2.below hbw').setBox q3 (fun n e => by cases e) (.slice (some ⟨g, 0, none⟩) (1 + (z :: zs).length) cap)
      have k3 := q3.set (.slice (some ⟨g, 0, none⟩) (1 + (z :: zs).length) cap)
      have k4 := (Sl.of_own hown).setBox q3 (fun n e => by cases e) (.slice (some ⟨g, 0, none⟩) (1 + (z :: zs).length) cap)
      have kO : Only [w.heap.size + 1] W (w0.setCell ⟨w.heap.size + 1, 0, none⟩ (.slice (some ⟨g, 0, none⟩) (1 + (z :: zs).length) cap)) := ((Only.refl _ W).below hbw').setCell (by simp) _
      have kv : val 10000 (0 :: z :: zs) = val 10000 (z :: zs) * 10000 := by rw [val]; omega
      have kd : Dig 10000 (0 :: z :: zs) := fun y hy => by
        rcases List.mem_cons.1 hy with rfl | hy
        · omega
        · exact h5.dig y hy
      have kl : (0 :: z :: zs).length ≤ 100000 := by simp at hzl ⊢; omega
      generalize hWb : w0.setCell ⟨w.heap.size + 1, 0, none⟩ (.slice (some ⟨g, 0, none⟩) (1 + (z :: zs).length) cap) = Wb at *
      clear hWb hc1 hc3 hf3 hc0 hf0 hown hgr hbw hbw' q3
      have k4' : Sl Wb (.slice (some ⟨g, 0, none⟩) (1 + (z :: zs).length) cap) (0 :: z :: zs) := k4
      clear k4
      have k4 := k4'
      have hc1 := k1.cell
      have hc3 := k3.cell
      have hf3 := k3.frozen
      have hvW := k2.below (Below.refl _ _).drew
      have h4W := k4.below (Below.refl _ _).drew
      have hbl := k3.lt
      gi_region_with (first
        | (refine ⟨trivial, ?_⟩
           gi_at_call 64
           refine (CallsIn.inRound l (callsIn_wide.2 (by_any _ _ xs _ hvW hx (by omega) hd.1 (by omega)))).mono ?_
           rintro e w1 ⟨⟨r, rfl, rs, hr, hn, _⟩, hb⟩
           have hc3 := (hb.cell (p := ⟨w.heap.size + 1, 0, none⟩) hbl).trans hc3
           have hc1 := (hb.cell (p := ⟨w.heap.size, 0, none⟩) (Nat.lt_of_succ_lt hbl)).trans hc1
           have hf3 := (hb.frozen (p := ⟨w.heap.size + 1, 0, none⟩) hbl).trans hf3
           have hvo := h4W.below hb
           have hrl : rs.length ≤ 100000 := by_len hx hn (by omega) (by omega)
           have hbl2 := Nat.lt_of_lt_of_le hbl hb.size)
        | (refine ⟨trivial, ?_⟩
           gi_at_call 43
           refine (CallsIn.inRound l (callsIn_wide.2 (plus_any _ _ _ rs _ hvo hr kd hn.dig kl hrl))).mono ?_
           rintro e w2 ⟨⟨r2, rfl, ts, hr2, hn2, _⟩, hb2⟩
           obtain ⟨a5, c5, rfl⟩ := hr2.shape
           have hc4 := (hb2.cell (p := ⟨w.heap.size + 1, 0, none⟩) hbl2).trans hc3
           have hf4 := (hb2.frozen (p := ⟨w.heap.size + 1, 0, none⟩) hbl2).trans hf3))
      all_goals gi_wp2
      all_goals exact times_close _ (boxed_below k1 (Below.refl _ _).drew) (k2.below (Below.refl _ _).drew) (boxed_below k3 (Below.refl _ _).drew) (fun n e => by cases e) (kO.below (Below.refl _ _).drew) hb hb2 hr2 h5.val kv hn hn2
  case done =>
    rintro D W hD ho ⟨h1, h2, vo, zs, h3, h4, h5⟩ hK
    have hc3 := h3.cell
    gi_wp2
    refine ret_marked hK (v := vo) (results_tmp (t := 4) rfl _ _ _) ⟨⟨_, rfl, zs, (CellsKept.putObj (.deferred none) hK rfl).sl h4, by rw [← horn_all]; exact h5⟩, hw0.trans ((ho.putObj hD _).toBelow (by simp; omega) (by simp))⟩
  case stop =>
    rintro D k W hk hD ho h hK
    exact h.elim
end Go.Proofs.YtbnilfjhalildaaGreatDoor
