/- package decay: the value of a model on a day. -/
import Derived.Test.YtebokdboodgkpaaGreatDoorDecF
import Derived.Deep.RegionHeld3
import Derived.Deep.QuietTactic
import Derived.BigQuiet
namespace Go.Proofs.YtebokdboodgkpaaGreatDoor
open Go.RowKit
open DecM (Dt gd okD inDay)
attribute [local go_sem] Oper.semAt_some


/-- The fraction that two texts are. -/
def oq (n d : ByteArray) : Option Rat := oIf (rOk n d) (rv n d)
theorem oq_cases (n d : ByteArray) : (rOk n d = true ∧ ∃ r, oq n d = some r ∧ n = tN (some r) ∧ d = tD (some r) ∧ OkO (some r)) ∨ (rOk n d = false ∧ oq n d = none) := by
  cases h : rOk n d with
  | true =>
    obtain ⟨h1, h2, h3⟩ := rOk_texts h
    exact .inl ⟨rfl, rv n d, by unfold oq oIf; rw [h]; rfl, h1, h2, OkO.some h3⟩
  | false => exact .inr ⟨rfl, by unfold oq oIf; rw [h]; rfl⟩
theorem oq_t {o : Option Rat} (h : OkO o) : oq (tN o) (tD o) = o := by
  unfold oq oIf
  rw [rOk_t h]
  cases o with
  | none => rfl
  | some r => show (if true = true then some (rv (numS r) (denS r)) else none) = some r; rw [if_pos rfl, rv_of rfl rfl]
theorem oq_ok (n d : ByteArray) : OkO (oq n d) := by
  rcases oq_cases n d with ⟨_, r, e, _, _, h⟩ | ⟨_, e⟩ <;> rw [e]
  · exact h
  · exact OkO.none
theorem oq_some (n d : ByteArray) : (oq n d).isSome = rOk n d := by
  rcases oq_cases n d with ⟨h, r, e, _⟩ | ⟨h, e⟩ <;> rw [e, h] <;> rfl

theorem qadd_t (n1 d1 n2 d2 : ByteArray) (w : World) (hE : Env w) : Calls Tryz.prog 54 #[.agg #[.string n1, .string d1], .agg #[.string n2, .string d2]] w (Rets w (oV (oAdd (oq n1 d1) (oq n2 d2)))) := by
  rcases oq_cases n1 d1 with ⟨_, r, e, hn, hd, h⟩ | ⟨hf, e⟩
  · rcases oq_cases n2 d2 with ⟨_, s, e2, hn2, hd2, h2⟩ | ⟨hf, e2⟩
    · rw [e, e2, hn, hd, hn2, hd2]; exact qadd_o h h2 w hE
    · have k := qAdd_any n1 d1 n2 d2 w hE
      rw [hf, Bool.and_false] at k
      simp only [Bool.false_and] at k
      rw [qT_none rfl] at k
      rw [e, e2]; exact k
  · have k := qAdd_any n1 d1 n2 d2 w hE
    rw [hf] at k
    simp only [Bool.false_and] at k
    rw [qT_none rfl] at k
    rw [e]; exact k
theorem qmul_t (n1 d1 n2 d2 : ByteArray) (w : World) (hE : Env w) : Calls Tryz.prog 53 #[.agg #[.string n1, .string d1], .agg #[.string n2, .string d2]] w (Rets w (oV (oMul (oq n1 d1) (oq n2 d2)))) := by
  rcases oq_cases n1 d1 with ⟨_, r, e, hn, hd, h⟩ | ⟨hf, e⟩
  · rcases oq_cases n2 d2 with ⟨_, s, e2, hn2, hd2, h2⟩ | ⟨hf, e2⟩
    · rw [e, e2, hn, hd, hn2, hd2]; exact qmul_o h h2 w hE
    · have k := qMul_any n1 d1 n2 d2 w hE
      rw [hf, Bool.and_false] at k
      simp only [Bool.false_and] at k
      rw [qT_none rfl] at k
      rw [e, e2]; exact k
  · have k := qMul_any n1 d1 n2 d2 w hE
    rw [hf] at k
    simp only [Bool.false_and] at k
    rw [qT_none rfl] at k
    rw [e]; exact k
theorem qcmp_t (n1 d1 n2 d2 : ByteArray) (w : World) (hE : Env w) : Calls Tryz.prog 46 #[.agg #[.string n1, .string d1], .agg #[.string n2, .string d2]] w (Rets w (.int .i64 (oCmp (oq n1 d1) (oq n2 d2)))) := by
  rcases oq_cases n1 d1 with ⟨_, r, e, hn, hd, h⟩ | ⟨hf, e⟩
  · rcases oq_cases n2 d2 with ⟨_, s, e2, hn2, hd2, h2⟩ | ⟨hf, e2⟩
    · rw [e, e2, hn, hd, hn2, hd2]; exact qcmp_o h h2 w hE
    · have k := qcmp_any n1 d1 n2 d2 w hE
      rw [hf, Bool.and_false] at k
      rw [e, e2]; exact k
  · have k := qcmp_any n1 d1 n2 d2 w hE
    rw [hf, Bool.false_and] at k
    rw [e]; exact k
/-- The error of package decay. -/
def eD (o : Option Rat) : Int := match o with
  | some _ => 0
  | none => 260
/-- A fraction, or the error. -/
def dV (o : Option Rat) : Value := .tuple #[.agg #[.string (tN o), .string (tD o)], .int .i64 (eD o)]
/-- The value of a model on a day. -/
def valO (a b : Option Rat) (t : Int) : Option Rat := if a.isSome && b.isSome && inDay t then oAdd a (oMul b (some (t : Rat))) else none
theorem oOf_one (t : Int) : oOf t 1 = some (t : Rat) := by
  unfold oOf oIf
  rw [if_pos (by decide)]
  congr 1
  rw [Rat.divInt_eq_div]; grind
theorem OkO.val {a b : Option Rat} {t : Int} : OkO (valO a b t) := by
  unfold valO
  split
  · exact OkO.add
  · exact OkO.none
theorem inDay_b (t : Int) : (decide (0 ≤ t) && decide (t ≤ 800000)) = inDay t := rfl

set_option maxRecDepth 100000 in
set_option maxHeartbeats 16000000 in
/-- decay.Value. -/
theorem value_any (n1 d1 n2 d2 : ByteArray) (t : Int) (ht : Fits t) (w : World) (hE : Env w) :
    Calls Tryz.prog 26 #[.agg #[.string n1, .string d1], .agg #[.string n2, .string d2], .int .i64 t] w (Rets w (dV (valO (oq n1 d1) (oq n2 d2) t))) := by
  have VA := fun W (hE : Env W) => qvalid_any n1 d1 W hE
  have VB := fun W (hE : Env W) => qvalid_any n2 d2 W hE
  have IN := fun W => isIn_b t 0 800000 W
  rw [inDay_b] at IN
  have OF := fun W (hE : Env W) => qof_o t 1 ht (by decide) W hE
  rw [oOf_one] at OF
  unfold oV at OF
  have MU := fun W (hE : Env W) => qmul_t n2 d2 (tN (some (t : Rat))) (tD (some (t : Rat))) W hE
  rw [oq_t (OkO.some (show SmallQ (t : Rat) from ⟨fits_small ht, one_small⟩))] at MU
  have AD := fun W (hE : Env W) => qadd_t n1 d1 (tN (oMul (oq n2 d2) (some (t : Rat)))) (tD (oMul (oq n2 d2) (some (t : Rat)))) W hE
  rw [oq_t OkO.mul] at AD
  unfold oV at MU AD
  unfold valO
  rw [oq_some, oq_some]
  generalize oq n1 d1 = oa at *
  generalize oMul (oq n2 d2) (some (t : Rat)) = om at *
  have hnone : om = none → oAdd oa om = none := by rintro rfl; cases oa <;> rfl
  generalize oAdd oa om = ov at *
  generalize tN (some (t : Rat)) = tn at *
  generalize tD (some (t : Rat)) = td at *
  generalize eO (some (t : Rat)) = te at *
  generalize rOk n1 d1 = b1 at *
  generalize rOk n2 d2 = b2 at *
  generalize inDay t = b3 at *
  clear ht
  have Sv0 := BL.start w
  obtain ⟨V1, ev1, Sv1, zv1⟩ := Sv0.add' #[.string n1, .string d1] 27
  obtain ⟨V2, ev2, Sv2, zv2⟩ := Sv1.add' #[.string n2, .string d2] 27
  obtain ⟨V3, ev3, Sv3, zv3⟩ := Sv2.add' #[.string ⟨#[]⟩, .string ⟨#[]⟩] 27
  rw [zv1] at Sv2
  rw [zv2, zv1] at Sv3
  have hV : V3 = (((w.alloc (.cells #[.string n1, .string d1] 27)).alloc (.cells #[.string n2, .string d2] 27)).alloc (.cells #[.string ⟨#[]⟩, .string ⟨#[]⟩] 27)) := by rw [ev3, ev2, ev1]
  have hS : BL w [(w.heap.size + 1 + 1, #[.string ⟨#[]⟩, .string ⟨#[]⟩], 27), (w.heap.size + 1, #[.string n2, .string d2], 27), (w.heap.size, #[.string n1, .string d1], 27)] V3 := Sv3
  clear ev1 ev2 ev3 zv1 zv2 zv3 Sv0 Sv1 Sv2 Sv3
  replace IN := Lib.hid IN
  replace OF := Lib.hid OF
  replace VA := Lib.hid VA
  replace VB := Lib.hid VB
  cases b1 with
  | false =>
    show Calls _ _ _ _ (Rets w (.tuple #[.agg #[.string ⟨#[]⟩, .string ⟨#[]⟩], .int .i64 260]))
    go_enter Tryz.func26, Tryz.ntmps26
    go_upto_region 1 with fail
    rw [← hV]
    clear hV
    obtain ⟨c_a_0, c_a_1⟩ := hS.c2 (w.heap.size) _ _ _ (.tail _ (.tail _ (.head _)))
    obtain ⟨c_b_0, c_b_1⟩ := hS.c2 (w.heap.size + 1) _ _ _ (.tail _ (.head _))
    go_wp2_with fail
    refine Calls.mono (VA.out _ (hS.env hE)) ?_
    rintro e w1 ⟨rfl, hb⟩
    clear c_a_0 c_a_1 c_b_0 c_b_1
    replace hS := hS.call hb
    clear hb
    obtain ⟨k0, k1, q0, q1, y0, y1, hfin⟩ := res_after (hS.blks _ (.head _)) ⟨#[]⟩ ⟨#[]⟩
    have hfin := Lib.hid (hfin w hS.below (by omega))
    clear hS
    go_wp2
    exact bodyPost_ret (v := .tuple #[.agg #[.string ⟨#[]⟩, .string ⟨#[]⟩], .int .i64 260]) (by simp [results, Tryz.results26, go_sem, y0, y1]) rfl ⟨rfl, hfin.out⟩
  | true =>
    cases b2 with
    | false =>
      show Calls _ _ _ _ (Rets w (.tuple #[.agg #[.string ⟨#[]⟩, .string ⟨#[]⟩], .int .i64 260]))
      go_enter Tryz.func26, Tryz.ntmps26
      go_upto_region 1 with fail
      rw [← hV]
      clear hV
      obtain ⟨c_a_0, c_a_1⟩ := hS.c2 (w.heap.size) _ _ _ (.tail _ (.tail _ (.head _)))
      obtain ⟨c_b_0, c_b_1⟩ := hS.c2 (w.heap.size + 1) _ _ _ (.tail _ (.head _))
      go_wp2_with fail
      refine Calls.mono (VA.out _ (hS.env hE)) ?_
      rintro e w1 ⟨rfl, hb⟩
      clear c_a_0 c_a_1 c_b_0 c_b_1
      replace hS := hS.call hb
      clear hb
      obtain ⟨c_b_0, c_b_1⟩ := hS.c2 (w.heap.size + 1) _ _ _ (.tail _ (.head _))
      go_wp2_with fail
      refine Calls.mono (VB.out _ (hS.env hE)) ?_
      rintro e w2 ⟨rfl, hb⟩
      clear c_b_0 c_b_1
      replace hS := hS.call hb
      clear hb
      obtain ⟨k0, k1, q0, q1, y0, y1, hfin⟩ := res_after (hS.blks _ (.head _)) ⟨#[]⟩ ⟨#[]⟩
      have hfin := Lib.hid (hfin w hS.below (by omega))
      clear hS
      go_wp2
      exact bodyPost_ret (v := .tuple #[.agg #[.string ⟨#[]⟩, .string ⟨#[]⟩], .int .i64 260]) (by simp [results, Tryz.results26, go_sem, y0, y1]) rfl ⟨rfl, hfin.out⟩
    | true =>
      cases b3 with
      | false =>
        show Calls _ _ _ _ (Rets w (.tuple #[.agg #[.string ⟨#[]⟩, .string ⟨#[]⟩], .int .i64 260]))
        go_enter Tryz.func26, Tryz.ntmps26
        go_upto_region 1 with fail
        rw [← hV]
        clear hV
        obtain ⟨c_a_0, c_a_1⟩ := hS.c2 (w.heap.size) _ _ _ (.tail _ (.tail _ (.head _)))
        obtain ⟨c_b_0, c_b_1⟩ := hS.c2 (w.heap.size + 1) _ _ _ (.tail _ (.head _))
        go_wp2_with fail
        refine Calls.mono (VA.out _ (hS.env hE)) ?_
        rintro e w1 ⟨rfl, hb⟩
        clear c_a_0 c_a_1 c_b_0 c_b_1
        replace hS := hS.call hb
        clear hb
        obtain ⟨c_b_0, c_b_1⟩ := hS.c2 (w.heap.size + 1) _ _ _ (.tail _ (.head _))
        go_wp2_with fail
        refine Calls.mono (VB.out _ (hS.env hE)) ?_
        rintro e w2 ⟨rfl, hb⟩
        clear c_b_0 c_b_1
        replace hS := hS.call hb
        clear hb
        go_wp2_with fail
        refine Calls.mono (IN.out _) ?_
        rintro e w3 ⟨rfl, hb⟩
        replace hS := hS.call hb
        clear hb
        obtain ⟨k0, k1, q0, q1, y0, y1, hfin⟩ := res_after (hS.blks _ (.head _)) ⟨#[]⟩ ⟨#[]⟩
        have hfin := Lib.hid (hfin w hS.below (by omega))
        clear hS
        go_wp2
        exact bodyPost_ret (v := .tuple #[.agg #[.string ⟨#[]⟩, .string ⟨#[]⟩], .int .i64 260]) (by simp [results, Tryz.results26, go_sem, y0, y1]) rfl ⟨rfl, hfin.out⟩
      | true =>
        show Calls _ _ _ _ (Rets w (dV ov))
        cases om with
        | none =>
          rw [hnone rfl]
          clear AD hnone
          show Calls _ _ _ _ (Rets w (.tuple #[.agg #[.string ⟨#[]⟩, .string ⟨#[]⟩], .int .i64 260]))
          have MU : ∀ W, Env W → Calls Tryz.prog 53 #[.agg #[.string n2, .string d2], .agg #[.string tn, .string td]] W (Rets W (.tuple #[.agg #[.string ⟨#[]⟩, .string ⟨#[]⟩], .int .i64 40])) := MU
          replace MU := Lib.hid MU
          go_enter Tryz.func26, Tryz.ntmps26
          go_upto_region 1 with fail
          rw [← hV]
          clear hV
          obtain ⟨c_a_0, c_a_1⟩ := hS.c2 (w.heap.size) _ _ _ (.tail _ (.tail _ (.head _)))
          obtain ⟨c_b_0, c_b_1⟩ := hS.c2 (w.heap.size + 1) _ _ _ (.tail _ (.head _))
          go_wp2_with fail
          refine Calls.mono (VA.out _ (hS.env hE)) ?_
          rintro e w1 ⟨rfl, hb⟩
          clear c_a_0 c_a_1 c_b_0 c_b_1
          replace hS := hS.call hb
          clear hb
          obtain ⟨c_b_0, c_b_1⟩ := hS.c2 (w.heap.size + 1) _ _ _ (.tail _ (.head _))
          go_wp2_with fail
          refine Calls.mono (VB.out _ (hS.env hE)) ?_
          rintro e w2 ⟨rfl, hb⟩
          clear c_b_0 c_b_1
          replace hS := hS.call hb
          clear hb
          go_wp2_with fail
          refine Calls.mono (IN.out _) ?_
          rintro e w3 ⟨rfl, hb⟩
          replace hS := hS.call hb
          clear hb
          go_wp2_with fail
          refine Calls.mono (OF.out _ (hS.env hE)) ?_
          rintro e w4 ⟨rfl, hb⟩
          replace hS := hS.call hb
          clear hb
          replace hS := hS.add' #[.string tn, .string td] 27
          obtain ⟨W0, hW0, hS, hz0⟩ := hS
          obtain ⟨W, hW⟩ : ∃ W, W = (w4.alloc (.cells #[.string tn, .string td] 27)) := ⟨_, rfl⟩
          replace hS : BL w [(w4.heap.size, #[.string tn, .string td], 27), (w.heap.size + 1 + 1, #[.string ⟨#[]⟩, .string ⟨#[]⟩], 27), (w.heap.size + 1, #[.string n2, .string d2], 27), (w.heap.size, #[.string n1, .string d1], 27)] W := by rw [hW, ← hW0]; exact hS
          clear hz0 hW0
          go_upto_region 4 with fail
          rw [← hW]
          clear hW
          obtain ⟨c_b_0, c_b_1⟩ := hS.c2 (w.heap.size + 1) _ _ _ (.tail _ (.tail _ (.head _)))
          obtain ⟨c_days_0, c_days_1⟩ := hS.c2 (w4.heap.size) _ _ _ (.head _)
          go_wp2_with fail
          refine Calls.mono (MU.out _ (hS.env hE)) ?_
          rintro e w5 ⟨rfl, hb⟩
          clear c_b_0 c_b_1 c_days_0 c_days_1
          replace hS := hS.call hb
          clear hb
          replace hS := hS.add' #[.string ⟨#[]⟩, .string ⟨#[]⟩] 27
          obtain ⟨W0, hW0, hS, hz0⟩ := hS
          obtain ⟨W, hW⟩ : ∃ W, W = (w5.alloc (.cells #[.string ⟨#[]⟩, .string ⟨#[]⟩] 27)) := ⟨_, rfl⟩
          replace hS : BL w [(w5.heap.size, #[.string ⟨#[]⟩, .string ⟨#[]⟩], 27), (w4.heap.size, #[.string tn, .string td], 27), (w.heap.size + 1 + 1, #[.string ⟨#[]⟩, .string ⟨#[]⟩], 27), (w.heap.size + 1, #[.string n2, .string d2], 27), (w.heap.size, #[.string n1, .string d1], 27)] W := by rw [hW, ← hW0]; exact hS
          clear hz0 hW0
          go_upto_region 6 with fail
          rw [← hW]
          clear hW
          obtain ⟨k0, k1, q0, q1, y0, y1, hfin⟩ := res_after (hS.blks _ (.tail _ (.tail _ (.head _)))) ⟨#[]⟩ ⟨#[]⟩
          have hfin := Lib.hid (hfin w hS.below (by omega))
          clear hS
          go_wp2
          exact bodyPost_ret (v := .tuple #[.agg #[.string ⟨#[]⟩, .string ⟨#[]⟩], .int .i64 260]) (by simp [results, Tryz.results26, go_sem, y0, y1]) rfl ⟨rfl, hfin.out⟩
        | some m =>
          clear hnone
          generalize tN (some m) = mn at *
          generalize tD (some m) = md at *
          replace MU : ∀ W, Env W → Calls Tryz.prog 53 #[.agg #[.string n2, .string d2], .agg #[.string tn, .string td]] W (Rets W (.tuple #[.agg #[.string mn, .string md], .int .i64 0])) := MU
          replace MU := Lib.hid MU
          cases ov with
          | none =>
            show Calls _ _ _ _ (Rets w (.tuple #[.agg #[.string ⟨#[]⟩, .string ⟨#[]⟩], .int .i64 260]))
            have AD : ∀ W, Env W → Calls Tryz.prog 54 #[.agg #[.string n1, .string d1], .agg #[.string mn, .string md]] W (Rets W (.tuple #[.agg #[.string ⟨#[]⟩, .string ⟨#[]⟩], .int .i64 40])) := AD
            replace AD := Lib.hid AD
            go_enter Tryz.func26, Tryz.ntmps26
            go_upto_region 1 with fail
            rw [← hV]
            clear hV
            obtain ⟨c_a_0, c_a_1⟩ := hS.c2 (w.heap.size) _ _ _ (.tail _ (.tail _ (.head _)))
            obtain ⟨c_b_0, c_b_1⟩ := hS.c2 (w.heap.size + 1) _ _ _ (.tail _ (.head _))
            go_wp2_with fail
            refine Calls.mono (VA.out _ (hS.env hE)) ?_
            rintro e w1 ⟨rfl, hb⟩
            clear c_a_0 c_a_1 c_b_0 c_b_1
            replace hS := hS.call hb
            clear hb
            obtain ⟨c_b_0, c_b_1⟩ := hS.c2 (w.heap.size + 1) _ _ _ (.tail _ (.head _))
            go_wp2_with fail
            refine Calls.mono (VB.out _ (hS.env hE)) ?_
            rintro e w2 ⟨rfl, hb⟩
            clear c_b_0 c_b_1
            replace hS := hS.call hb
            clear hb
            go_wp2_with fail
            refine Calls.mono (IN.out _) ?_
            rintro e w3 ⟨rfl, hb⟩
            replace hS := hS.call hb
            clear hb
            go_wp2_with fail
            refine Calls.mono (OF.out _ (hS.env hE)) ?_
            rintro e w4 ⟨rfl, hb⟩
            replace hS := hS.call hb
            clear hb
            replace hS := hS.add' #[.string tn, .string td] 27
            obtain ⟨W0, hW0, hS, hz0⟩ := hS
            obtain ⟨W, hW⟩ : ∃ W, W = (w4.alloc (.cells #[.string tn, .string td] 27)) := ⟨_, rfl⟩
            replace hS : BL w [(w4.heap.size, #[.string tn, .string td], 27), (w.heap.size + 1 + 1, #[.string ⟨#[]⟩, .string ⟨#[]⟩], 27), (w.heap.size + 1, #[.string n2, .string d2], 27), (w.heap.size, #[.string n1, .string d1], 27)] W := by rw [hW, ← hW0]; exact hS
            clear hz0 hW0
            go_upto_region 4 with fail
            rw [← hW]
            clear hW
            obtain ⟨c_b_0, c_b_1⟩ := hS.c2 (w.heap.size + 1) _ _ _ (.tail _ (.tail _ (.head _)))
            obtain ⟨c_days_0, c_days_1⟩ := hS.c2 (w4.heap.size) _ _ _ (.head _)
            go_wp2_with fail
            refine Calls.mono (MU.out _ (hS.env hE)) ?_
            rintro e w5 ⟨rfl, hb⟩
            clear c_b_0 c_b_1 c_days_0 c_days_1
            replace hS := hS.call hb
            clear hb
            replace hS := hS.add' #[.string mn, .string md] 27
            obtain ⟨W0, hW0, hS, hz0⟩ := hS
            obtain ⟨W, hW⟩ : ∃ W, W = (w5.alloc (.cells #[.string mn, .string md] 27)) := ⟨_, rfl⟩
            replace hS : BL w [(w5.heap.size, #[.string mn, .string md], 27), (w4.heap.size, #[.string tn, .string td], 27), (w.heap.size + 1 + 1, #[.string ⟨#[]⟩, .string ⟨#[]⟩], 27), (w.heap.size + 1, #[.string n2, .string d2], 27), (w.heap.size, #[.string n1, .string d1], 27)] W := by rw [hW, ← hW0]; exact hS
            clear hz0 hW0
            go_upto_region 7 with fail
            rw [← hW]
            clear hW
            obtain ⟨c_a_0, c_a_1⟩ := hS.c2 (w.heap.size) _ _ _ (.tail _ (.tail _ (.tail _ (.tail _ (.head _)))))
            obtain ⟨c_more_0, c_more_1⟩ := hS.c2 (w5.heap.size) _ _ _ (.head _)
            go_wp2_with fail
            refine Calls.mono (AD.out _ (hS.env hE)) ?_
            rintro e w6 ⟨rfl, hb⟩
            clear c_a_0 c_a_1 c_more_0 c_more_1
            replace hS := hS.call hb
            clear hb
            replace hS := hS.add' #[.string ⟨#[]⟩, .string ⟨#[]⟩] 27
            obtain ⟨W0, hW0, hS, hz0⟩ := hS
            obtain ⟨W, hW⟩ : ∃ W, W = (w6.alloc (.cells #[.string ⟨#[]⟩, .string ⟨#[]⟩] 27)) := ⟨_, rfl⟩
            replace hS : BL w [(w6.heap.size, #[.string ⟨#[]⟩, .string ⟨#[]⟩], 27), (w5.heap.size, #[.string mn, .string md], 27), (w4.heap.size, #[.string tn, .string td], 27), (w.heap.size + 1 + 1, #[.string ⟨#[]⟩, .string ⟨#[]⟩], 27), (w.heap.size + 1, #[.string n2, .string d2], 27), (w.heap.size, #[.string n1, .string d1], 27)] W := by rw [hW, ← hW0]; exact hS
            clear hz0 hW0
            go_upto_region 9 with fail
            rw [← hW]
            clear hW
            obtain ⟨k0, k1, q0, q1, y0, y1, hfin⟩ := res_after (hS.blks _ (.tail _ (.tail _ (.tail _ (.head _))))) ⟨#[]⟩ ⟨#[]⟩
            have hfin := Lib.hid (hfin w hS.below (by omega))
            clear hS
            go_wp2
            exact bodyPost_ret (v := .tuple #[.agg #[.string ⟨#[]⟩, .string ⟨#[]⟩], .int .i64 260]) (by simp [results, Tryz.results26, go_sem, y0, y1]) rfl ⟨rfl, hfin.out⟩
          | some v =>
            show Calls _ _ _ _ (Rets w (.tuple #[.agg #[.string (tN (some v)), .string (tD (some v))], .int .i64 0]))
            generalize tN (some v) = an at *
            generalize tD (some v) = ad at *
            replace AD : ∀ W, Env W → Calls Tryz.prog 54 #[.agg #[.string n1, .string d1], .agg #[.string mn, .string md]] W (Rets W (.tuple #[.agg #[.string an, .string ad], .int .i64 0])) := AD
            replace AD := Lib.hid AD
            go_enter Tryz.func26, Tryz.ntmps26
            go_upto_region 1 with fail
            rw [← hV]
            clear hV
            obtain ⟨c_a_0, c_a_1⟩ := hS.c2 (w.heap.size) _ _ _ (.tail _ (.tail _ (.head _)))
            obtain ⟨c_b_0, c_b_1⟩ := hS.c2 (w.heap.size + 1) _ _ _ (.tail _ (.head _))
            go_wp2_with fail
            refine Calls.mono (VA.out _ (hS.env hE)) ?_
            rintro e w1 ⟨rfl, hb⟩
            clear c_a_0 c_a_1 c_b_0 c_b_1
            replace hS := hS.call hb
            clear hb
            obtain ⟨c_b_0, c_b_1⟩ := hS.c2 (w.heap.size + 1) _ _ _ (.tail _ (.head _))
            go_wp2_with fail
            refine Calls.mono (VB.out _ (hS.env hE)) ?_
            rintro e w2 ⟨rfl, hb⟩
            clear c_b_0 c_b_1
            replace hS := hS.call hb
            clear hb
            go_wp2_with fail
            refine Calls.mono (IN.out _) ?_
            rintro e w3 ⟨rfl, hb⟩
            replace hS := hS.call hb
            clear hb
            go_wp2_with fail
            refine Calls.mono (OF.out _ (hS.env hE)) ?_
            rintro e w4 ⟨rfl, hb⟩
            replace hS := hS.call hb
            clear hb
            replace hS := hS.add' #[.string tn, .string td] 27
            obtain ⟨W0, hW0, hS, hz0⟩ := hS
            obtain ⟨W, hW⟩ : ∃ W, W = (w4.alloc (.cells #[.string tn, .string td] 27)) := ⟨_, rfl⟩
            replace hS : BL w [(w4.heap.size, #[.string tn, .string td], 27), (w.heap.size + 1 + 1, #[.string ⟨#[]⟩, .string ⟨#[]⟩], 27), (w.heap.size + 1, #[.string n2, .string d2], 27), (w.heap.size, #[.string n1, .string d1], 27)] W := by rw [hW, ← hW0]; exact hS
            clear hz0 hW0
            go_upto_region 4 with fail
            rw [← hW]
            clear hW
            obtain ⟨c_b_0, c_b_1⟩ := hS.c2 (w.heap.size + 1) _ _ _ (.tail _ (.tail _ (.head _)))
            obtain ⟨c_days_0, c_days_1⟩ := hS.c2 (w4.heap.size) _ _ _ (.head _)
            go_wp2_with fail
            refine Calls.mono (MU.out _ (hS.env hE)) ?_
            rintro e w5 ⟨rfl, hb⟩
            clear c_b_0 c_b_1 c_days_0 c_days_1
            replace hS := hS.call hb
            clear hb
            replace hS := hS.add' #[.string mn, .string md] 27
            obtain ⟨W0, hW0, hS, hz0⟩ := hS
            obtain ⟨W, hW⟩ : ∃ W, W = (w5.alloc (.cells #[.string mn, .string md] 27)) := ⟨_, rfl⟩
            replace hS : BL w [(w5.heap.size, #[.string mn, .string md], 27), (w4.heap.size, #[.string tn, .string td], 27), (w.heap.size + 1 + 1, #[.string ⟨#[]⟩, .string ⟨#[]⟩], 27), (w.heap.size + 1, #[.string n2, .string d2], 27), (w.heap.size, #[.string n1, .string d1], 27)] W := by rw [hW, ← hW0]; exact hS
            clear hz0 hW0
            go_upto_region 7 with fail
            rw [← hW]
            clear hW
            obtain ⟨c_a_0, c_a_1⟩ := hS.c2 (w.heap.size) _ _ _ (.tail _ (.tail _ (.tail _ (.tail _ (.head _)))))
            obtain ⟨c_more_0, c_more_1⟩ := hS.c2 (w5.heap.size) _ _ _ (.head _)
            go_wp2_with fail
            refine Calls.mono (AD.out _ (hS.env hE)) ?_
            rintro e w6 ⟨rfl, hb⟩
            clear c_a_0 c_a_1 c_more_0 c_more_1
            replace hS := hS.call hb
            clear hb
            replace hS := hS.add' #[.string an, .string ad] 27
            obtain ⟨W0, hW0, hS, hz0⟩ := hS
            obtain ⟨W, hW⟩ : ∃ W, W = (w6.alloc (.cells #[.string an, .string ad] 27)) := ⟨_, rfl⟩
            replace hS : BL w [(w6.heap.size, #[.string an, .string ad], 27), (w5.heap.size, #[.string mn, .string md], 27), (w4.heap.size, #[.string tn, .string td], 27), (w.heap.size + 1 + 1, #[.string ⟨#[]⟩, .string ⟨#[]⟩], 27), (w.heap.size + 1, #[.string n2, .string d2], 27), (w.heap.size, #[.string n1, .string d1], 27)] W := by rw [hW, ← hW0]; exact hS
            clear hz0 hW0
            go_upto_region 10 with fail
            rw [← hW]
            clear hW
            obtain ⟨c_o_0, c_o_1⟩ := hS.c2 (w6.heap.size) _ _ _ (.head _)
            obtain ⟨k0, k1, q0, q1, y0, y1, hfin⟩ := res_after (hS.blks _ (.tail _ (.tail _ (.tail _ (.head _))))) an ad
            have hfin := Lib.hid (hfin w hS.below (by omega))
            clear hS
            go_wp2
            exact bodyPost_ret (v := .tuple #[.agg #[.string an, .string ad], .int .i64 0]) (by simp [results, Tryz.results26, go_sem, y0, y1]) rfl ⟨rfl, hfin.out⟩

end Go.Proofs.YtebokdboodgkpaaGreatDoor
