/- putlogref26: Negative. -/
import Derived.Test.YtebokdboodgkpaaGreatDoorDecS
import Derived.Test.YtebokdboodgkpaaGreatDoorDecQ
import Derived.Deep.RegionHeld3
namespace Go.Proofs.YtebokdboodgkpaaGreatDoor
open Go.RowKit
open DecM (Dt gd gd_lt gd_mem okD ng)
attribute [local go_sem] Oper.semAt_some

theorem take_snoc {l : List Dt} {k : Nat} (h : k < l.length) (f : Dt → Dt) : (l.take k).map f ++ [f (gd l k)] = (l.take (k + 1)).map f := by
  rw [gd_lt h, List.take_add_one, List.getElem?_eq_getElem h, List.map_append]; rfl
theorem neg_w {z : Int} (h : -4000000 ≤ z ∧ z ≤ 4000000) : IntKind.i64.wrap (-z) = -z := IntWalk.i64_in _ (by omega)

/-- append(s, d) as an operation, for a slice of data of the call's own. -/
theorem oper_app_dt {o : Oper} {a : Act} {K : Act → World → Prop} {Q : Exit → Act → World → Prop} {wr : World} {base : Nat} {v : Value} {n : Nat} {ds : List Dt} (p : Dt) (t : TypeId)
    (ht : Tryz.prog.underlying t = some (.slice 58)) (s x : Operand) (ho : o.op = .call { callee := .builtin .append, args := #[s, x], argTypes := #[t, t] })
    (hs : a.eval s = v) (hx : a.eval x = .slice (some ⟨wr.heap.size, 0, none⟩) 1 1) (hown : wr.ownsRow base 58 3 v n (dfl ds)) (hn : n + 1 ≤ 1000000000) (hbase : base ≤ wr.heap.size)
    (h : ∀ g cap w', w'.ownsRow base 58 3 (.slice (some ⟨g, 0, none⟩) (n + 1) cap) (n + 1) (dfl (ds ++ [p])) → Below base wr w' → K (a.put o.dst (.slice (some ⟨g, 0, none⟩) (n + 1) cap)) w') :
    Oper.wp Tryz.prog o a (wr.alloc (.cells #[.int .i64 p.t, .int .i64 p.lo, .int .i64 p.hi] 58)) K Q := by
  obtain ⟨i0, hi, hz0, hz1, hz2⟩ := info_parts info_dt
  refine wp_append_own _ s x t ho base 58 i0 (.agg #[.int .i64 0, .int .i64 0, .int .i64 0]) 3 24 ht hi hz0 hz1 hz2 rfl (by decide) v n _ hs (hown.alloc _) ⟨wr.heap.size, 0, none⟩ 1 1 [.int .i64 p.t, .int .i64 p.lo, .int .i64 p.hi] hx rfl ?_ ?_ (by unfold maxLen; omega) (by omega) (Nat.le_trans hbase (by simp)) ?_
  · intro j u hu
    rw [addr_add]
    have hb := Blk.new wr #[.int .i64 p.t, .int .i64 p.lo, .int .i64 p.hi] 58
    match j, hu with
    | 0, hu => rw [show (0 : Nat) + 0 = 0 from rfl, hb.cell]; exact hu
    | 1, hu => rw [show (0 : Nat) + 1 = 1 from rfl, hb.cell]; exact hu
    | 2, hu => rw [show (0 : Nat) + 2 = 2 from rfl, hb.cell]; exact hu
  · intro u hu
    simp only [List.mem_cons, List.not_mem_nil, or_false] at hu
    rcases hu with rfl | rfl | rfl <;> rfl
  intro v' w' hown' hgrow hnil
  rw [← dfl_snoc] at hown'
  rcases hown'.2 with ⟨_, h0⟩ | ⟨g, cap, cur, rfl, hg⟩
  · omega
  · refine h g cap w' hown' ?_
    refine ((Below.refl base wr).alloc hbase _).grown hgrow (by simp; omega) (fun k hk => ?_)
    exact (hown.lt k hk).1

set_option maxRecDepth 100000 in
set_option maxHeartbeats 16000000 in
/-- putlogref26.Negative. -/
theorem negative_any (v : Value) (l : List Dt) (w : World) (hok : okD l = true) (h : SlD w v l) :
    Calls Tryz.prog 41 #[v] w fun e w' => ∃ u, e = .returned u ∧ SlD w' u (l.map ng) ∧ Below w.heap.size w w' := by
  have hbd := (DecM.okD_iff.1 hok).2.1
  have hl16 := (DecM.okD_iff.1 hok).2.2
  have HL := Lib.hid h
  have hl := h.len_le
  unfold maxLen at hl
  rcases h with ⟨rfl, rfl⟩ | ⟨b, off, cap, rfl, g1, g2, g3, g4⟩
  · go_enter Tryz.func41, Tryz.ntmps41
    go_wp2_with fail
    go_loopw [3, 4] (fun a i wr => a = .slice none 0 0 ∧ i = .int .i64 0 ∧ wr = w) (fun _ _ _ => 0)
    case atStart => exact ⟨rfl, rfl, rfl⟩
    case round =>
      obtain ⟨rfl, rfl, rfl⟩ := hrel
      go_wp2
      go_ret
      exact ⟨_, rfl, SlD.nil _, Below.refl _ _⟩
  · unfold maxLen at g2
    go_enter Tryz.func41, Tryz.ntmps41
    go_wp2_with fail
    go_loopw [3, 4] (fun a i wr => ∃ k : Nat, i = .int .i64 k ∧ k ≤ l.length ∧ wr.ownsRow w.heap.size 58 3 a k (dfl ((l.take k).map ng)) ∧ Below w.heap.size w wr) (fun _ i _ => l.length - (intOf i).toNat)
    case atStart => exact ⟨0, rfl, by omega, ⟨rfl, .inl ⟨rfl, rfl⟩⟩, Below.refl _ _⟩
    case round =>
      obtain ⟨k, rfl, hk, hown, hB⟩ := hrel
      by_cases hkl : k < l.length
      · have hd := hbd _ (gd_mem hkl)
        have hcells := (g4 k hkl).below hB g3
        have hdc0 := fun W (hb : Below w.heap.size w W) => (g4 k hkl).below hb g3
        have e1 := take_snoc hkl ng
        have e2 : ng (gd l k) = ⟨(gd l k).t, -(gd l k).hi, -(gd l k).lo⟩ := rfl
        rw [e2] at e1
        clear e2 g4 hbd
        generalize gd l k = d at *
        obtain ⟨d0, d1, d2⟩ := hcells
        have hdc := Lib.hid (show ∀ W, Below w.heap.size w W → (W.cell? ⟨b, off + k * 3, none⟩ = some (.int .i64 d.t) ∧ W.cell? ⟨b, off + k * 3 + 1, none⟩ = some (.int .i64 d.lo) ∧ W.cell? ⟨b, off + k * 3 + 2, none⟩ = some (.int .i64 d.hi)) from hdc0)
        clear hdc0
        have w1 := neg_w (z := d.hi) (by omega)
        have w2 := neg_w (z := d.lo) (by omega)
        go_upto_region 5 with fail
        have hown2 := own_below hown (below_drewN wr 1)
        have hB2 : Below w.heap.size w wr.drew := hB.trans ((below_drewN wr 1).mono hB.size)
        go_region_held3 (fun w' => w'.cell? ⟨b, off + k * 3, none⟩ = some (.int .i64 d.t) ∧ w'.cell? ⟨b, off + k * 3 + 1, none⟩ = some (.int .i64 d.lo) ∧ w'.cell? ⟨b, off + k * 3 + 2, none⟩ = some (.int .i64 d.hi))
          (first | with_reducible exact hdc.out _ (hB2.trans hb1) | with_reducible exact hdc.out _ (hB.trans hb1) | go_keep)
          (first | (refine oper_app_dt ⟨d.t, -d.hi, -d.lo⟩ 25 Tryz.underlying25 _ _ rfl rfl rfl hown2 (by omega) hB2.size ?_; intro g' cap2 w1 hown1 hb1) | (refine oper_app_dt ⟨d.t, -d.hi, -d.lo⟩ 25 Tryz.underlying25 _ _ rfl rfl rfl hown (by omega) hB.size ?_; intro g' cap2 w1 hown1 hb1))
        go_wp2_with fail
        go_roundw
        case rel => exact ⟨k + 1, by go_num, by omega, by rw [← e1]; exact hown1, hB2.trans hb1⟩
        case measure => simp [intOf]; omega
      · have hke : k = l.length := by omega
        subst hke
        rw [List.take_length] at hown
        go_wp2
        go_ret
        exact ⟨_, rfl, SlD.of_own hown, hB⟩
end Go.Proofs.YtebokdboodgkpaaGreatDoor
