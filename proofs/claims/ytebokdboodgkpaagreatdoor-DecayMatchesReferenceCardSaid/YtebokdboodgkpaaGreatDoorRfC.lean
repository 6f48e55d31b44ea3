/- putlogref26: whole, Value, Fits. -/
import Derived.Test.YtebokdboodgkpaaGreatDoorRfB
import Derived.Test.YtebokdboodgkpaaGreatDoorRefZ
import Derived.Test.YtebokdboodgkpaaGreatDoorDecI
import Derived.Deep.RegionHeld3
import Derived.Deep.DeepCutAuto
import Derived.Deep.QuietTactic
import Derived.BigQuiet
namespace Go.Proofs.YtebokdboodgkpaaGreatDoor
open Go.RowKit
open DecM (Dt gd gd_mem gd_lt okD inDay)
attribute [local go_sem] Oper.semAt_some

def T63 (a : ByteArray) : Prop := a.size ≤ 9223372036854775807
theorem t63_t {o : Option Rat} (h : OkO o) : T63 (tN o) ∧ T63 (tD o) := by
  cases o with
  | none => exact ⟨by show (0 : Nat) ≤ _; omega, by show (0 : Nat) ≤ _; omega⟩
  | some r => exact ⟨I_len' (h r rfl).1, I_len' (h r rfl).2⟩
theorem qradd_o {a b : Option Rat} (ha : OkO a) (hb : OkO b) (w : World) : Calls Tryz.prog 56 #[.agg #[.string (tN a), .string (tD a)], .agg #[.string (tN b), .string (tD b)]] w (Rets w (oV (oAdd a b))) := by
  have h := qrAdd_any (tN a) (tD a) (tN b) (tD b) (t63_t ha).1 (t63_t ha).2 (t63_t hb).1 (t63_t hb).2 w
  rw [rOk_t ha, rOk_t hb] at h
  cases a with
  | none => rw [show ((none : Option Rat).isSome && b.isSome) = false from rfl, Bool.false_and, Bool.false_and, Bool.false_and, Bool.false_and, Bool.false_and, qT_none rfl] at h; exact h
  | some x => cases b with
    | none => rw [show ((some x).isSome && (none : Option Rat).isSome) = false from rfl, Bool.false_and, Bool.false_and, Bool.false_and, Bool.false_and, Bool.false_and, qT_none rfl] at h; exact h
    | some y =>
      rw [zN, zN, zD, zD, add_divInt, decide_eq_true (den_mul_ne x y), Bool.and_true, show ((some x).isSome && (some y).isSome) = true from rfl, Bool.true_and, qT_oIf] at h
      rw [oAdd_some]; unfold fAdd; exact h
theorem qrmul_o {a b : Option Rat} (ha : OkO a) (hb : OkO b) (w : World) : Calls Tryz.prog 55 #[.agg #[.string (tN a), .string (tD a)], .agg #[.string (tN b), .string (tD b)]] w (Rets w (oV (oMul a b))) := by
  have h := qrMul_any (tN a) (tD a) (tN b) (tD b) (t63_t ha).1 (t63_t ha).2 (t63_t hb).1 (t63_t hb).2 w
  rw [rOk_t ha, rOk_t hb] at h
  cases a with
  | none => rw [show ((none : Option Rat).isSome && b.isSome) = false from rfl, Bool.false_and, Bool.false_and, Bool.false_and, qT_none rfl] at h; exact h
  | some x => cases b with
    | none => rw [show ((some x).isSome && (none : Option Rat).isSome) = false from rfl, Bool.false_and, Bool.false_and, Bool.false_and, qT_none rfl] at h; exact h
    | some y =>
      rw [zN, zN, zD, zD, mul_divInt, decide_eq_true (den_mul_ne x y), Bool.and_true, show ((some x).isSome && (some y).isSome) = true from rfl, Bool.true_and, qT_oIf] at h
      rw [oMul_some]; unfold fMul; exact h
theorem qrcmp_o {a b : Option Rat} (ha : OkO a) (hb : OkO b) (w : World) :
    Calls Tryz.prog 47 #[.agg #[.string (tN a), .string (tD a)], .agg #[.string (tN b), .string (tD b)]] w (Rets w (.int .i64 (oCmp a b))) := by
  have h := qrcmp_any (tN a) (tD a) (tN b) (tD b) (t63_t ha).1 (t63_t ha).2 (t63_t hb).1 (t63_t hb).2 w
  rw [rOk_t ha, rOk_t hb] at h
  cases a with
  | none => exact h
  | some x => cases b with
    | none => exact h
    | some y => rw [zN, zN, zD, zD] at h; exact h

theorem qradd_t (n1 d1 n2 d2 : ByteArray) (h1 : T63 n1) (h2 : T63 d1) (h3 : T63 n2) (h4 : T63 d2) (w : World) : Calls Tryz.prog 56 #[.agg #[.string n1, .string d1], .agg #[.string n2, .string d2]] w (Rets w (oV (oAdd (oq n1 d1) (oq n2 d2)))) := by
  rcases oq_cases n1 d1 with ⟨_, r, e, hn, hd, h⟩ | ⟨hf, e⟩
  · rcases oq_cases n2 d2 with ⟨_, s, e2, hn2, hd2, h2'⟩ | ⟨hf, e2⟩
    · rw [e, e2, hn, hd, hn2, hd2]; exact qradd_o h h2' w
    · have k := qrAdd_any n1 d1 n2 d2 h1 h2 h3 h4 w
      rw [hf, Bool.and_false] at k
      simp only [Bool.false_and] at k
      rw [qT_none rfl] at k
      rw [e, e2]; exact k
  · have k := qrAdd_any n1 d1 n2 d2 h1 h2 h3 h4 w
    rw [hf] at k
    simp only [Bool.false_and] at k
    rw [qT_none rfl] at k
    rw [e]; exact k
theorem qrmul_t (n1 d1 n2 d2 : ByteArray) (h1 : T63 n1) (h2 : T63 d1) (h3 : T63 n2) (h4 : T63 d2) (w : World) : Calls Tryz.prog 55 #[.agg #[.string n1, .string d1], .agg #[.string n2, .string d2]] w (Rets w (oV (oMul (oq n1 d1) (oq n2 d2)))) := by
  rcases oq_cases n1 d1 with ⟨_, r, e, hn, hd, h⟩ | ⟨hf, e⟩
  · rcases oq_cases n2 d2 with ⟨_, s, e2, hn2, hd2, h2'⟩ | ⟨hf, e2⟩
    · rw [e, e2, hn, hd, hn2, hd2]; exact qrmul_o h h2' w
    · have k := qrMul_any n1 d1 n2 d2 h1 h2 h3 h4 w
      rw [hf, Bool.and_false] at k
      simp only [Bool.false_and] at k
      rw [qT_none rfl] at k
      rw [e, e2]; exact k
  · have k := qrMul_any n1 d1 n2 d2 h1 h2 h3 h4 w
    rw [hf] at k
    simp only [Bool.false_and] at k
    rw [qT_none rfl] at k
    rw [e]; exact k
set_option maxRecDepth 100000 in
set_option maxHeartbeats 16000000 in
/-- An integer as a fraction. -/
theorem whole26_any (t : Int) (ht : Fits t) (w : World) : Calls Tryz.prog 48 #[.int .i64 t] w (Rets w (.agg #[.string (tN (some (t : Rat))), .string (tD (some (t : Rat)))])) := by
  have OF := fun W => qrof_o t 1 ht (by decide) W
  rw [oOf_one] at OF
  unfold oV at OF
  generalize tN (some (t : Rat)) = tn at *
  generalize tD (some (t : Rat)) = td at *
  generalize eO (some (t : Rat)) = te at *
  replace OF := Lib.hid OF
  clear ht
  have Sv0 := BL.start w
  obtain ⟨V1, ev1, Sv1, zv1⟩ := Sv0.add' #[.string ⟨#[]⟩, .string ⟨#[]⟩] 27
  have hV : V1 = (w.alloc (.cells #[.string ⟨#[]⟩, .string ⟨#[]⟩] 27)) := by rw [ev1]
  have hS : BL w [(w.heap.size, #[.string ⟨#[]⟩, .string ⟨#[]⟩], 27)] V1 := Sv1
  clear ev1 zv1 Sv0 Sv1
  go_enter Tryz.func48, Tryz.ntmps48
  go_wp2_with fail
  rw [← hV]
  clear hV
  refine Calls.mono (OF.out _) ?_
  rintro e w1 ⟨rfl, hb⟩
  replace hS := hS.call hb
  clear hb
  replace hS := hS.add' #[.string tn, .string td] 27
  obtain ⟨W0, hW0, hS, hz0⟩ := hS
  obtain ⟨W, hW⟩ : ∃ W, W = (w1.alloc (.cells #[.string tn, .string td] 27)) := ⟨_, rfl⟩
  replace hS : BL w [(w1.heap.size, #[.string tn, .string td], 27), (w.heap.size, #[.string ⟨#[]⟩, .string ⟨#[]⟩], 27)] W := by rw [hW, ← hW0]; exact hS
  clear hz0 hW0
  go_upto_region 2 with fail
  rw [← hW]
  clear hW
  obtain ⟨c_r_0, c_r_1⟩ := hS.c2 (w1.heap.size) _ _ _ (.head _)
  obtain ⟨k0, k1, q0, q1, y0, y1, hfin⟩ := res_after (hS.blks _ (.tail _ (.head _))) tn td
  have hfin := Lib.hid (hfin w hS.below (by omega))
  clear hS
  go_wp2
  exact bodyPost_ret (v := .agg #[.string tn, .string td]) (by simp [results, Tryz.results48, go_sem, y0, y1]) rfl ⟨rfl, hfin.out⟩

set_option maxRecDepth 100000 in
set_option maxHeartbeats 16000000 in
/-- putlogref26.Value. -/
theorem rvalue_any (n1 d1 n2 d2 : ByteArray) (h1 : T63 n1) (h2 : T63 d1) (h3 : T63 n2) (h4 : T63 d2) (t : Int) (ht : Fits t) (w : World) :
    Calls Tryz.prog 27 #[.agg #[.string n1, .string d1], .agg #[.string n2, .string d2], .int .i64 t] w (Rets w (dV (valO (oq n1 d1) (oq n2 d2) t))) := by
  have VA := fun W => qrvalid_any n1 d1 h1 h2 W
  have VB := fun W => qrvalid_any n2 d2 h3 h4 W
  have IN := fun W => in26_b t 0 800000 W
  rw [inDay_b] at IN
  have OF := fun W => whole26_any t ht W
  have tx := t63_t (ok_int ht)
  have MU := fun W => qrmul_t n2 d2 (tN (some (t : Rat))) (tD (some (t : Rat))) h3 h4 tx.1 tx.2 W
  rw [oq_t (ok_int ht)] at MU
  have ty := t63_t (OkO.mul (a := oq n2 d2) (b := some (t : Rat)))
  have AD := fun W => qradd_t n1 d1 (tN (oMul (oq n2 d2) (some (t : Rat)))) (tD (oMul (oq n2 d2) (some (t : Rat)))) h1 h2 ty.1 ty.2 W
  rw [oq_t OkO.mul] at AD
  unfold oV at MU AD
  unfold valO
  rw [oq_some, oq_some]
  clear tx ty
  generalize oq n1 d1 = oa at *
  generalize oMul (oq n2 d2) (some (t : Rat)) = om at *
  have hnone : om = none → oAdd oa om = none := by rintro rfl; cases oa <;> rfl
  generalize oAdd oa om = ov at *
  generalize tN (some (t : Rat)) = tn at *
  generalize tD (some (t : Rat)) = td at *
  generalize rOk n1 d1 = b1 at *
  generalize rOk n2 d2 = b2 at *
  generalize inDay t = b3 at *
  clear ht h1 h2 h3 h4
  have Sv0 := BL.start w
  obtain ⟨V1, ev1, Sv1, zv1⟩ := Sv0.add' #[.string n1, .string d1] 27
  obtain ⟨V2, ev2, Sv2, zv2⟩ := Sv1.add' #[.string n2, .string d2] 27
  obtain ⟨V3, ev3, Sv3, zv3⟩ := Sv2.add' #[.string ⟨#[]⟩, .string ⟨#[]⟩] 27
  rw [zv1] at Sv2
  rw [zv2, zv1] at Sv3
  have hV : V3 = (((w.alloc (.cells #[.string n1, .string d1] 27)).alloc (.cells #[.string n2, .string d2] 27)).alloc (.cells #[.string ⟨#[]⟩, .string ⟨#[]⟩] 27)) := by rw [ev3, ev2, ev1]
  have hS : BL w [(w.heap.size + 1 + 1, #[.string ⟨#[]⟩, .string ⟨#[]⟩], 27), (w.heap.size + 1, #[.string n2, .string d2], 27), (w.heap.size, #[.string n1, .string d1], 27)] V3 := Sv3
  clear ev1 ev2 ev3 zv1 zv2 zv3 Sv0 Sv1 Sv2 Sv3
  replace IN := Lib.hid IN
  replace OF := Lib.hid OF
  replace VA := Lib.hid VA
  replace VB := Lib.hid VB
  cases b1 with
  | false =>
    show Calls _ _ _ _ (Rets w (.tuple #[.agg #[.string ⟨#[]⟩, .string ⟨#[]⟩], .int .i64 260]))
    go_enter Tryz.func27, Tryz.ntmps27
    go_upto_region 1 with fail
    rw [← hV]
    clear hV
    obtain ⟨c_a_0, c_a_1⟩ := hS.c2 (w.heap.size) _ _ _ (.tail _ (.tail _ (.head _)))
    obtain ⟨c_b_0, c_b_1⟩ := hS.c2 (w.heap.size + 1) _ _ _ (.tail _ (.head _))
    go_wp2_with fail
    refine Calls.mono (VA.out _) ?_
    rintro e w1 ⟨rfl, hb⟩
    clear c_a_0 c_a_1 c_b_0 c_b_1
    replace hS := hS.call hb
    clear hb
    obtain ⟨k0, k1, q0, q1, y0, y1, hfin⟩ := res_after (hS.blks _ (.head _)) ⟨#[]⟩ ⟨#[]⟩
    have hfin := Lib.hid (hfin w hS.below (by omega))
    clear hS
    go_wp2
    exact bodyPost_ret (v := .tuple #[.agg #[.string ⟨#[]⟩, .string ⟨#[]⟩], .int .i64 260]) (by simp [results, Tryz.results27, go_sem, y0, y1]) rfl ⟨rfl, hfin.out⟩
  | true =>
    cases b2 with
    | false =>
      show Calls _ _ _ _ (Rets w (.tuple #[.agg #[.string ⟨#[]⟩, .string ⟨#[]⟩], .int .i64 260]))
      go_enter Tryz.func27, Tryz.ntmps27
      go_upto_region 1 with fail
      rw [← hV]
      clear hV
      obtain ⟨c_a_0, c_a_1⟩ := hS.c2 (w.heap.size) _ _ _ (.tail _ (.tail _ (.head _)))
      obtain ⟨c_b_0, c_b_1⟩ := hS.c2 (w.heap.size + 1) _ _ _ (.tail _ (.head _))
      go_wp2_with fail
      refine Calls.mono (VA.out _) ?_
      rintro e w1 ⟨rfl, hb⟩
      clear c_a_0 c_a_1 c_b_0 c_b_1
      replace hS := hS.call hb
      clear hb
      obtain ⟨c_b_0, c_b_1⟩ := hS.c2 (w.heap.size + 1) _ _ _ (.tail _ (.head _))
      go_wp2_with fail
      refine Calls.mono (VB.out _) ?_
      rintro e w2 ⟨rfl, hb⟩
      clear c_b_0 c_b_1
      replace hS := hS.call hb
      clear hb
      obtain ⟨k0, k1, q0, q1, y0, y1, hfin⟩ := res_after (hS.blks _ (.head _)) ⟨#[]⟩ ⟨#[]⟩
      have hfin := Lib.hid (hfin w hS.below (by omega))
      clear hS
      go_wp2
      exact bodyPost_ret (v := .tuple #[.agg #[.string ⟨#[]⟩, .string ⟨#[]⟩], .int .i64 260]) (by simp [results, Tryz.results27, go_sem, y0, y1]) rfl ⟨rfl, hfin.out⟩
    | true =>
      cases b3 with
      | false =>
        show Calls _ _ _ _ (Rets w (.tuple #[.agg #[.string ⟨#[]⟩, .string ⟨#[]⟩], .int .i64 260]))
        go_enter Tryz.func27, Tryz.ntmps27
        go_upto_region 1 with fail
        rw [← hV]
        clear hV
        obtain ⟨c_a_0, c_a_1⟩ := hS.c2 (w.heap.size) _ _ _ (.tail _ (.tail _ (.head _)))
        obtain ⟨c_b_0, c_b_1⟩ := hS.c2 (w.heap.size + 1) _ _ _ (.tail _ (.head _))
        go_wp2_with fail
        refine Calls.mono (VA.out _) ?_
        rintro e w1 ⟨rfl, hb⟩
        clear c_a_0 c_a_1 c_b_0 c_b_1
        replace hS := hS.call hb
        clear hb
        obtain ⟨c_b_0, c_b_1⟩ := hS.c2 (w.heap.size + 1) _ _ _ (.tail _ (.head _))
        go_wp2_with fail
        refine Calls.mono (VB.out _) ?_
        rintro e w2 ⟨rfl, hb⟩
        clear c_b_0 c_b_1
        replace hS := hS.call hb
        clear hb
        go_wp2_with fail
        refine Calls.mono (IN.out _) ?_
        rintro e w3 ⟨rfl, hb⟩
        replace hS := hS.call hb
        clear hb
        obtain ⟨k0, k1, q0, q1, y0, y1, hfin⟩ := res_after (hS.blks _ (.head _)) ⟨#[]⟩ ⟨#[]⟩
        have hfin := Lib.hid (hfin w hS.below (by omega))
        clear hS
        go_wp2
        exact bodyPost_ret (v := .tuple #[.agg #[.string ⟨#[]⟩, .string ⟨#[]⟩], .int .i64 260]) (by simp [results, Tryz.results27, go_sem, y0, y1]) rfl ⟨rfl, hfin.out⟩
      | true =>
        show Calls _ _ _ _ (Rets w (dV ov))
        cases om with
        | none =>
          rw [hnone rfl]
          clear AD hnone
          show Calls _ _ _ _ (Rets w (.tuple #[.agg #[.string ⟨#[]⟩, .string ⟨#[]⟩], .int .i64 260]))
          have MU : ∀ W, Calls Tryz.prog 55 #[.agg #[.string n2, .string d2], .agg #[.string tn, .string td]] W (Rets W (.tuple #[.agg #[.string ⟨#[]⟩, .string ⟨#[]⟩], .int .i64 40])) := MU
          replace MU := Lib.hid MU
          go_enter Tryz.func27, Tryz.ntmps27
          go_upto_region 1 with fail
          rw [← hV]
          clear hV
          obtain ⟨c_a_0, c_a_1⟩ := hS.c2 (w.heap.size) _ _ _ (.tail _ (.tail _ (.head _)))
          obtain ⟨c_b_0, c_b_1⟩ := hS.c2 (w.heap.size + 1) _ _ _ (.tail _ (.head _))
          go_wp2_with fail
          refine Calls.mono (VA.out _) ?_
          rintro e w1 ⟨rfl, hb⟩
          clear c_a_0 c_a_1 c_b_0 c_b_1
          replace hS := hS.call hb
          clear hb
          obtain ⟨c_b_0, c_b_1⟩ := hS.c2 (w.heap.size + 1) _ _ _ (.tail _ (.head _))
          go_wp2_with fail
          refine Calls.mono (VB.out _) ?_
          rintro e w2 ⟨rfl, hb⟩
          clear c_b_0 c_b_1
          replace hS := hS.call hb
          clear hb
          go_wp2_with fail
          refine Calls.mono (IN.out _) ?_
          rintro e w3 ⟨rfl, hb⟩
          replace hS := hS.call hb
          clear hb
          go_upto_region 3 with fail
          have hC0 : ∀ W', BL w [(w.heap.size + 1 + 1, #[.string ⟨#[]⟩, .string ⟨#[]⟩], 27), (w.heap.size + 1, #[.string n2, .string d2], 27), (w.heap.size, #[.string n1, .string d1], 27)] W' → (W'.cell? ⟨w.heap.size + 1, 0, none⟩ = some (.string n2) ∧ W'.cell? ⟨w.heap.size + 1, 1, none⟩ = some (.string d2)) := fun W' h => ⟨(h.cell (w.heap.size + 1) _ _ (.tail _ (.head _)) 0), (h.cell (w.heap.size + 1) _ _ (.tail _ (.head _)) 1)⟩
          have hC := Lib.hid hC0
          clear hC0
          have h0 := hS
          obtain ⟨x0', x1'⟩ := hC.out _ hS
          replace hS := hS.drew
          go_cut [8, 9] (fun s e wx => ∃ g : Nat, s = .pointer (some ⟨g, 0, none⟩) ∧ e = .int .i64 40 ∧ w.heap.size ≤ g ∧ (∀ p ∈ ([(w.heap.size + 1 + 1, #[.string ⟨#[]⟩, .string ⟨#[]⟩], 27), (w.heap.size + 1, #[.string n2, .string d2], 27), (w.heap.size, #[.string n1, .string d1], 27)] : BLs), p.1 < g) ∧ BL w ((g, #[.string ⟨#[]⟩, .string ⟨#[]⟩], 27) :: [(w.heap.size + 1 + 1, #[.string ⟨#[]⟩, .string ⟨#[]⟩], 27), (w.heap.size + 1, #[.string n2, .string d2], 27), (w.heap.size, #[.string n1, .string d1], 27)]) wx)
          case first => as_aux_lemma =>
            go_region_held3 (fun w' => w'.cell? ⟨w.heap.size + 1, 0, none⟩ = some (.string n2) ∧ w'.cell? ⟨w.heap.size + 1, 1, none⟩ = some (.string d2))
              (first | with_reducible exact hC.out _ hS | with_reducible exact hC.out _ (hS.new _) | with_reducible exact hC.out _ ((h0.new _).drew) | with_reducible exact hC.out _ (hS.setG hge hlt _ _) | go_keep)
              (first | (go_at_call 48; (with_reducible refine Calls.mono (OF.out _) ?_); rintro e w' ⟨rfl, hb⟩; (first | (replace hS := hS.call hb; first | (replace hN := hN.below hb; have n0 := (blk_two hN).1; have n1 := (blk_two hN).2; have m0 := hN.frozen 0; have m1 := hN.frozen 1) | skip) | (have hlt := hS.lts; have hge := hS.below.size; have hN := nres hb; have n0 := (blk_two hN).1; have n1 := (blk_two hN).2; have m0 := hN.frozen 0; have m1 := hN.frozen 1; replace hS := (hS.new _).call hb) | (have hlt := h0.lts; have hge := h0.below.size; have hN := nres_drew hb; have n0 := (blk_two hN).1; have n1 := (blk_two hN).2; have m0 := hN.frozen 0; have m1 := hN.frozen 1; replace hS := ((h0.new _).drew).call hb)); clear hb) | (go_at_call 55; (with_reducible refine Calls.mono (MU.out _) ?_); rintro e w' ⟨rfl, hb⟩; (first | (replace hS := hS.call hb; first | (replace hN := hN.below hb; have n0 := (blk_two hN).1; have n1 := (blk_two hN).2; have m0 := hN.frozen 0; have m1 := hN.frozen 1) | skip) | (have hlt := hS.lts; have hge := hS.below.size; have hN := nres hb; have n0 := (blk_two hN).1; have n1 := (blk_two hN).2; have m0 := hN.frozen 0; have m1 := hN.frozen 1; replace hS := (hS.new _).call hb) | (have hlt := h0.lts; have hge := h0.below.size; have hN := nres_drew hb; have n0 := (blk_two hN).1; have n1 := (blk_two hN).2; have m0 := hN.frozen 0; have m1 := hN.frozen 1; replace hS := ((h0.new _).drew).call hb)); clear hb))
            all_goals (go_wp2_with fail; go_meet; first | exact ⟨_, rfl, rfl, hS.below.size, hS.lts, hS.add _ _⟩ | exact ⟨_, rfl, rfl, hge, hlt, (hS.setG hge hlt _ _).pushB ((hN.set 0 (.string ⟨#[]⟩)).set 1 (.string ⟨#[]⟩))⟩)
          case rest =>
            clear hS h0 hC x0' x1'
            obtain ⟨g1, rfl, rfl, g1ge, g1lt, hS⟩ := hcut
            go_upto_region 5 with fail
            obtain ⟨k0, k1, q0, q1, y0, y1, hfin⟩ := res_after (hS.blks _ (.tail _ (.head _))) ⟨#[]⟩ ⟨#[]⟩
            have hfin := Lib.hid (hfin w hS.below (by omega))
            clear hS
            go_wp2
            exact bodyPost_ret (v := .tuple #[.agg #[.string ⟨#[]⟩, .string ⟨#[]⟩], .int .i64 260]) (by simp [results, Tryz.results27, go_sem, y0, y1]) rfl ⟨rfl, hfin.out⟩
        | some m =>
          clear hnone
          generalize tN (some m) = mn at *
          generalize tD (some m) = md at *
          replace MU : ∀ W, Calls Tryz.prog 55 #[.agg #[.string n2, .string d2], .agg #[.string tn, .string td]] W (Rets W (.tuple #[.agg #[.string mn, .string md], .int .i64 0])) := MU
          replace MU := Lib.hid MU
          cases ov with
          | none =>
            show Calls _ _ _ _ (Rets w (.tuple #[.agg #[.string ⟨#[]⟩, .string ⟨#[]⟩], .int .i64 260]))
            have AD : ∀ W, Calls Tryz.prog 56 #[.agg #[.string n1, .string d1], .agg #[.string mn, .string md]] W (Rets W (.tuple #[.agg #[.string ⟨#[]⟩, .string ⟨#[]⟩], .int .i64 40])) := AD
            replace AD := Lib.hid AD
            go_enter Tryz.func27, Tryz.ntmps27
            go_upto_region 1 with fail
            rw [← hV]
            clear hV
            obtain ⟨c_a_0, c_a_1⟩ := hS.c2 (w.heap.size) _ _ _ (.tail _ (.tail _ (.head _)))
            obtain ⟨c_b_0, c_b_1⟩ := hS.c2 (w.heap.size + 1) _ _ _ (.tail _ (.head _))
            go_wp2_with fail
            refine Calls.mono (VA.out _) ?_
            rintro e w1 ⟨rfl, hb⟩
            clear c_a_0 c_a_1 c_b_0 c_b_1
            replace hS := hS.call hb
            clear hb
            obtain ⟨c_b_0, c_b_1⟩ := hS.c2 (w.heap.size + 1) _ _ _ (.tail _ (.head _))
            go_wp2_with fail
            refine Calls.mono (VB.out _) ?_
            rintro e w2 ⟨rfl, hb⟩
            clear c_b_0 c_b_1
            replace hS := hS.call hb
            clear hb
            go_wp2_with fail
            refine Calls.mono (IN.out _) ?_
            rintro e w3 ⟨rfl, hb⟩
            replace hS := hS.call hb
            clear hb
            go_upto_region 3 with fail
            have hC0 : ∀ W', BL w [(w.heap.size + 1 + 1, #[.string ⟨#[]⟩, .string ⟨#[]⟩], 27), (w.heap.size + 1, #[.string n2, .string d2], 27), (w.heap.size, #[.string n1, .string d1], 27)] W' → (W'.cell? ⟨w.heap.size + 1, 0, none⟩ = some (.string n2) ∧ W'.cell? ⟨w.heap.size + 1, 1, none⟩ = some (.string d2)) := fun W' h => ⟨(h.cell (w.heap.size + 1) _ _ (.tail _ (.head _)) 0), (h.cell (w.heap.size + 1) _ _ (.tail _ (.head _)) 1)⟩
            have hC := Lib.hid hC0
            clear hC0
            have h0 := hS
            obtain ⟨x0', x1'⟩ := hC.out _ hS
            replace hS := hS.drew
            go_cut [8, 9] (fun s e wx => ∃ g : Nat, s = .pointer (some ⟨g, 0, none⟩) ∧ e = .int .i64 0 ∧ w.heap.size ≤ g ∧ (∀ p ∈ ([(w.heap.size + 1 + 1, #[.string ⟨#[]⟩, .string ⟨#[]⟩], 27), (w.heap.size + 1, #[.string n2, .string d2], 27), (w.heap.size, #[.string n1, .string d1], 27)] : BLs), p.1 < g) ∧ BL w ((g, #[.string mn, .string md], 27) :: [(w.heap.size + 1 + 1, #[.string ⟨#[]⟩, .string ⟨#[]⟩], 27), (w.heap.size + 1, #[.string n2, .string d2], 27), (w.heap.size, #[.string n1, .string d1], 27)]) wx)
            case first => as_aux_lemma =>
              go_region_held3 (fun w' => w'.cell? ⟨w.heap.size + 1, 0, none⟩ = some (.string n2) ∧ w'.cell? ⟨w.heap.size + 1, 1, none⟩ = some (.string d2))
                (first | with_reducible exact hC.out _ hS | with_reducible exact hC.out _ (hS.new _) | with_reducible exact hC.out _ ((h0.new _).drew) | with_reducible exact hC.out _ (hS.setG hge hlt _ _) | go_keep)
                (first | (go_at_call 48; (with_reducible refine Calls.mono (OF.out _) ?_); rintro e w' ⟨rfl, hb⟩; (first | (replace hS := hS.call hb; first | (replace hN := hN.below hb; have n0 := (blk_two hN).1; have n1 := (blk_two hN).2; have m0 := hN.frozen 0; have m1 := hN.frozen 1) | skip) | (have hlt := hS.lts; have hge := hS.below.size; have hN := nres hb; have n0 := (blk_two hN).1; have n1 := (blk_two hN).2; have m0 := hN.frozen 0; have m1 := hN.frozen 1; replace hS := (hS.new _).call hb) | (have hlt := h0.lts; have hge := h0.below.size; have hN := nres_drew hb; have n0 := (blk_two hN).1; have n1 := (blk_two hN).2; have m0 := hN.frozen 0; have m1 := hN.frozen 1; replace hS := ((h0.new _).drew).call hb)); clear hb) | (go_at_call 55; (with_reducible refine Calls.mono (MU.out _) ?_); rintro e w' ⟨rfl, hb⟩; (first | (replace hS := hS.call hb; first | (replace hN := hN.below hb; have n0 := (blk_two hN).1; have n1 := (blk_two hN).2; have m0 := hN.frozen 0; have m1 := hN.frozen 1) | skip) | (have hlt := hS.lts; have hge := hS.below.size; have hN := nres hb; have n0 := (blk_two hN).1; have n1 := (blk_two hN).2; have m0 := hN.frozen 0; have m1 := hN.frozen 1; replace hS := (hS.new _).call hb) | (have hlt := h0.lts; have hge := h0.below.size; have hN := nres_drew hb; have n0 := (blk_two hN).1; have n1 := (blk_two hN).2; have m0 := hN.frozen 0; have m1 := hN.frozen 1; replace hS := ((h0.new _).drew).call hb)); clear hb))
              all_goals (go_wp2_with fail; go_meet; first | exact ⟨_, rfl, rfl, hS.below.size, hS.lts, hS.add _ _⟩ | exact ⟨_, rfl, rfl, hge, hlt, (hS.setG hge hlt _ _).pushB ((hN.set 0 (.string mn)).set 1 (.string md))⟩)
            case rest =>
              clear hS h0 hC x0' x1'
              obtain ⟨g1, rfl, rfl, g1ge, g1lt, hS⟩ := hcut
              have hne : ¬ (g1 = w.heap.size + 1 + 1) := by have := g1lt _ (.head _); dsimp only at this; omega
              obtain ⟨c_a_0, c_a_1⟩ := hS.c2 (w.heap.size) _ _ _ (.tail _ (.tail _ (.tail _ (.head _))))
              obtain ⟨c_more_0, c_more_1⟩ := hS.c2 (g1) _ _ _ (.head _)
              go_wp2_with fail
              refine Calls.mono (AD.out _) ?_
              rintro e w4 ⟨rfl, hb⟩
              clear c_a_0 c_a_1 c_more_0 c_more_1
              replace hS := hS.call hb
              clear hb
              replace hS := hS.add' #[.string ⟨#[]⟩, .string ⟨#[]⟩] 27
              obtain ⟨W0, hW0, hS, hz0⟩ := hS
              obtain ⟨W, hW⟩ : ∃ W, W = (w4.alloc (.cells #[.string ⟨#[]⟩, .string ⟨#[]⟩] 27)) := ⟨_, rfl⟩
              replace hS : BL w [(w4.heap.size, #[.string ⟨#[]⟩, .string ⟨#[]⟩], 27), (g1, #[.string mn, .string md], 27), (w.heap.size + 1 + 1, #[.string ⟨#[]⟩, .string ⟨#[]⟩], 27), (w.heap.size + 1, #[.string n2, .string d2], 27), (w.heap.size, #[.string n1, .string d1], 27)] W := by rw [hW, ← hW0]; exact hS
              clear hz0 hW0
              go_upto_region 8 with fail
              rw [← hW]
              clear hW
              obtain ⟨k0, k1, q0, q1, y0, y1, hfin⟩ := res_after (hS.blks _ (.tail _ (.tail _ (.head _)))) ⟨#[]⟩ ⟨#[]⟩
              have hfin := Lib.hid (hfin w hS.below (by omega))
              clear hS
              go_wp2
              exact bodyPost_ret (v := .tuple #[.agg #[.string ⟨#[]⟩, .string ⟨#[]⟩], .int .i64 260]) (by simp [results, Tryz.results27, go_sem, y0, y1]) rfl ⟨rfl, hfin.out⟩
          | some v =>
            show Calls _ _ _ _ (Rets w (.tuple #[.agg #[.string (tN (some v)), .string (tD (some v))], .int .i64 0]))
            generalize tN (some v) = an at *
            generalize tD (some v) = ad at *
            replace AD : ∀ W, Calls Tryz.prog 56 #[.agg #[.string n1, .string d1], .agg #[.string mn, .string md]] W (Rets W (.tuple #[.agg #[.string an, .string ad], .int .i64 0])) := AD
            replace AD := Lib.hid AD
            go_enter Tryz.func27, Tryz.ntmps27
            go_upto_region 1 with fail
            rw [← hV]
            clear hV
            obtain ⟨c_a_0, c_a_1⟩ := hS.c2 (w.heap.size) _ _ _ (.tail _ (.tail _ (.head _)))
            obtain ⟨c_b_0, c_b_1⟩ := hS.c2 (w.heap.size + 1) _ _ _ (.tail _ (.head _))
            go_wp2_with fail
            refine Calls.mono (VA.out _) ?_
            rintro e w1 ⟨rfl, hb⟩
            clear c_a_0 c_a_1 c_b_0 c_b_1
            replace hS := hS.call hb
            clear hb
            obtain ⟨c_b_0, c_b_1⟩ := hS.c2 (w.heap.size + 1) _ _ _ (.tail _ (.head _))
            go_wp2_with fail
            refine Calls.mono (VB.out _) ?_
            rintro e w2 ⟨rfl, hb⟩
            clear c_b_0 c_b_1
            replace hS := hS.call hb
            clear hb
            go_wp2_with fail
            refine Calls.mono (IN.out _) ?_
            rintro e w3 ⟨rfl, hb⟩
            replace hS := hS.call hb
            clear hb
            go_upto_region 3 with fail
            have hC0 : ∀ W', BL w [(w.heap.size + 1 + 1, #[.string ⟨#[]⟩, .string ⟨#[]⟩], 27), (w.heap.size + 1, #[.string n2, .string d2], 27), (w.heap.size, #[.string n1, .string d1], 27)] W' → (W'.cell? ⟨w.heap.size + 1, 0, none⟩ = some (.string n2) ∧ W'.cell? ⟨w.heap.size + 1, 1, none⟩ = some (.string d2)) := fun W' h => ⟨(h.cell (w.heap.size + 1) _ _ (.tail _ (.head _)) 0), (h.cell (w.heap.size + 1) _ _ (.tail _ (.head _)) 1)⟩
            have hC := Lib.hid hC0
            clear hC0
            have h0 := hS
            obtain ⟨x0', x1'⟩ := hC.out _ hS
            replace hS := hS.drew
            go_cut [8, 9] (fun s e wx => ∃ g : Nat, s = .pointer (some ⟨g, 0, none⟩) ∧ e = .int .i64 0 ∧ w.heap.size ≤ g ∧ (∀ p ∈ ([(w.heap.size + 1 + 1, #[.string ⟨#[]⟩, .string ⟨#[]⟩], 27), (w.heap.size + 1, #[.string n2, .string d2], 27), (w.heap.size, #[.string n1, .string d1], 27)] : BLs), p.1 < g) ∧ BL w ((g, #[.string mn, .string md], 27) :: [(w.heap.size + 1 + 1, #[.string ⟨#[]⟩, .string ⟨#[]⟩], 27), (w.heap.size + 1, #[.string n2, .string d2], 27), (w.heap.size, #[.string n1, .string d1], 27)]) wx)
            case first => as_aux_lemma =>
              go_region_held3 (fun w' => w'.cell? ⟨w.heap.size + 1, 0, none⟩ = some (.string n2) ∧ w'.cell? ⟨w.heap.size + 1, 1, none⟩ = some (.string d2))
                (first | with_reducible exact hC.out _ hS | with_reducible exact hC.out _ (hS.new _) | with_reducible exact hC.out _ ((h0.new _).drew) | with_reducible exact hC.out _ (hS.setG hge hlt _ _) | go_keep)
                (first | (go_at_call 48; (with_reducible refine Calls.mono (OF.out _) ?_); rintro e w' ⟨rfl, hb⟩; (first | (replace hS := hS.call hb; first | (replace hN := hN.below hb; have n0 := (blk_two hN).1; have n1 := (blk_two hN).2; have m0 := hN.frozen 0; have m1 := hN.frozen 1) | skip) | (have hlt := hS.lts; have hge := hS.below.size; have hN := nres hb; have n0 := (blk_two hN).1; have n1 := (blk_two hN).2; have m0 := hN.frozen 0; have m1 := hN.frozen 1; replace hS := (hS.new _).call hb) | (have hlt := h0.lts; have hge := h0.below.size; have hN := nres_drew hb; have n0 := (blk_two hN).1; have n1 := (blk_two hN).2; have m0 := hN.frozen 0; have m1 := hN.frozen 1; replace hS := ((h0.new _).drew).call hb)); clear hb) | (go_at_call 55; (with_reducible refine Calls.mono (MU.out _) ?_); rintro e w' ⟨rfl, hb⟩; (first | (replace hS := hS.call hb; first | (replace hN := hN.below hb; have n0 := (blk_two hN).1; have n1 := (blk_two hN).2; have m0 := hN.frozen 0; have m1 := hN.frozen 1) | skip) | (have hlt := hS.lts; have hge := hS.below.size; have hN := nres hb; have n0 := (blk_two hN).1; have n1 := (blk_two hN).2; have m0 := hN.frozen 0; have m1 := hN.frozen 1; replace hS := (hS.new _).call hb) | (have hlt := h0.lts; have hge := h0.below.size; have hN := nres_drew hb; have n0 := (blk_two hN).1; have n1 := (blk_two hN).2; have m0 := hN.frozen 0; have m1 := hN.frozen 1; replace hS := ((h0.new _).drew).call hb)); clear hb))
              all_goals (go_wp2_with fail; go_meet; first | exact ⟨_, rfl, rfl, hS.below.size, hS.lts, hS.add _ _⟩ | exact ⟨_, rfl, rfl, hge, hlt, (hS.setG hge hlt _ _).pushB ((hN.set 0 (.string mn)).set 1 (.string md))⟩)
            case rest =>
              clear hS h0 hC x0' x1'
              obtain ⟨g1, rfl, rfl, g1ge, g1lt, hS⟩ := hcut
              have hne : ¬ (g1 = w.heap.size + 1 + 1) := by have := g1lt _ (.head _); dsimp only at this; omega
              obtain ⟨c_a_0, c_a_1⟩ := hS.c2 (w.heap.size) _ _ _ (.tail _ (.tail _ (.tail _ (.head _))))
              obtain ⟨c_more_0, c_more_1⟩ := hS.c2 (g1) _ _ _ (.head _)
              go_wp2_with fail
              refine Calls.mono (AD.out _) ?_
              rintro e w4 ⟨rfl, hb⟩
              clear c_a_0 c_a_1 c_more_0 c_more_1
              replace hS := hS.call hb
              clear hb
              replace hS := hS.add' #[.string an, .string ad] 27
              obtain ⟨W0, hW0, hS, hz0⟩ := hS
              obtain ⟨W, hW⟩ : ∃ W, W = (w4.alloc (.cells #[.string an, .string ad] 27)) := ⟨_, rfl⟩
              replace hS : BL w [(w4.heap.size, #[.string an, .string ad], 27), (g1, #[.string mn, .string md], 27), (w.heap.size + 1 + 1, #[.string ⟨#[]⟩, .string ⟨#[]⟩], 27), (w.heap.size + 1, #[.string n2, .string d2], 27), (w.heap.size, #[.string n1, .string d1], 27)] W := by rw [hW, ← hW0]; exact hS
              clear hz0 hW0
              go_upto_region 9 with fail
              rw [← hW]
              clear hW
              obtain ⟨c_o_0, c_o_1⟩ := hS.c2 (w4.heap.size) _ _ _ (.head _)
              obtain ⟨k0, k1, q0, q1, y0, y1, hfin⟩ := res_after (hS.blks _ (.tail _ (.tail _ (.head _)))) an ad
              have hfin := Lib.hid (hfin w hS.below (by omega))
              clear hS
              go_wp2
              exact bodyPost_ret (v := .tuple #[.agg #[.string an, .string ad], .int .i64 0]) (by simp [results, Tryz.results27, go_sem, y0, y1]) rfl ⟨rfl, hfin.out⟩

end Go.Proofs.YtebokdboodgkpaaGreatDoor
