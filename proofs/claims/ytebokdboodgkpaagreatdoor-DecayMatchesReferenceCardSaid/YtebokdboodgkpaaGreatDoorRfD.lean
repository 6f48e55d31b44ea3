/- putlogref26: Fits, Forecast, Rates, Reaches. -/
import Derived.Test.YtebokdboodgkpaaGreatDoorRfC
import Derived.Test.YtebokdboodgkpaaGreatDoorDecMa
import Derived.Test.YtebokdboodgkpaaGreatDoorDecJ
import Derived.Deep.RegionHeld3
import Derived.Deep.DeepCutAuto
import Derived.Deep.QuietTactic
import Derived.BigQuiet
namespace Go.Proofs.YtebokdboodgkpaaGreatDoor
open Go.RowKit
open DecM (Dt gd gd_mem gd_lt okD inDay)
attribute [local go_sem] Oper.semAt_some


set_option maxRecDepth 100000 in
set_option maxHeartbeats 16000000 in
/-- putlogref26.Fits. -/
theorem rfits_any (v : Value) (l : List Dt) (n1 d1 n2 d2 : ByteArray) (h1 : T63 n1) (h2 : T63 d1) (h3 : T63 n2) (h4 : T63 d2) (w : World) (h : SlD w v l) :
    Calls Tryz.prog 25 #[v, .agg #[.string n1, .string d1], .agg #[.string n2, .string d2]] w (Rets w (.bool (fitO l (oq n1 d1) (oq n2 d2)))) := by
  have V0 := Lib.hid (fun W (h : SlD W v l) => dval26_any v l W h)
  have VA := Lib.hid (fun W => qrvalid_any n1 d1 h1 h2 W)
  have VB := Lib.hid (fun W => qrvalid_any n2 d2 h3 h4 W)
  have VL := Lib.hid (fun (t : Int) (ht : Fits t) W => rvalue_any n1 d1 n2 d2 h1 h2 h3 h4 t ht W)
  have hr := Lib.hid (show fitO l (oq n1 d1) (oq n2 d2) = (okD l && rOk n1 d1 && rOk n2 d2 && !l.any (offM (oq n1 d1) (oq n2 d2))) by unfold fitO; rw [oq_some, oq_some])
  generalize fitO l (oq n1 d1) (oq n2 d2) = res at *
  have hl := h.len_le
  unfold maxLen at hl
  have HH := Lib.hid h
  have hdt := Lib.hid (fun (hok : okD l = true) d (hd : d ∈ l) => dtOk_of hok hd)
  clear h1 h2 h3 h4
  generalize oq n1 d1 = oa at *
  generalize oq n2 d2 = ob at *
  generalize rOk n1 d1 = b1 at *
  generalize rOk n2 d2 = b2 at *
  have Sv0 := BL.start w
  obtain ⟨V1, ev1, Sv1, zv1⟩ := Sv0.add' #[.string n1, .string d1] 27
  obtain ⟨V2, ev2, Sv2, zv2⟩ := Sv1.add' #[.string n2, .string d2] 27
  rw [zv1] at Sv2
  have hV : V2 = ((w.alloc (.cells #[.string n1, .string d1] 27)).alloc (.cells #[.string n2, .string d2] 27)) := by rw [ev2, ev1]
  have hS : BL w [(w.heap.size + 1, #[.string n2, .string d2], 27), (w.heap.size, #[.string n1, .string d1], 27)] V2 := Sv2
  clear ev1 ev2 zv1 zv2 Sv0 Sv1 Sv2
  cases hok : okD l with
  | false =>
    rw [hok] at V0 hr
    obtain ⟨ag, cap, rfl⟩ := h.shape
    clear h
    go_enter Tryz.func25, Tryz.ntmps25
    go_wp2_with fail
    rw [← hV]
    clear hV
    refine Calls.mono (V0.out _ (HH.out.below hS.below)) ?_
    rintro e w1 ⟨rfl, hb⟩
    replace hS := hS.call hb
    clear hb
    go_wp2
    go_ret
    exact ⟨ret_bool (by rw [hr.out]; first | rfl | simp), hS.below⟩
  | true =>
    rw [hok] at V0 hr
    replace hdt := Lib.hid (hdt.out hok)
    clear hok
    cases b1 with
    | false =>
      obtain ⟨ag, cap, rfl⟩ := h.shape
      clear h
      go_enter Tryz.func25, Tryz.ntmps25
      go_wp2_with fail
      rw [← hV]
      clear hV
      refine Calls.mono (V0.out _ (HH.out.below hS.below)) ?_
      rintro e w1 ⟨rfl, hb⟩
      replace hS := hS.call hb
      clear hb
      obtain ⟨c_a_0, c_a_1⟩ := hS.c2 (w.heap.size) _ _ _ (.tail _ (.head _))
      go_wp2_with fail
      refine Calls.mono (VA.out _) ?_
      rintro e w2 ⟨rfl, hb⟩
      clear c_a_0 c_a_1
      replace hS := hS.call hb
      clear hb
      go_wp2
      go_ret
      exact ⟨ret_bool (by rw [hr.out]; first | rfl | simp), hS.below⟩
    | true =>
      cases b2 with
      | false =>
        obtain ⟨ag, cap, rfl⟩ := h.shape
        clear h
        go_enter Tryz.func25, Tryz.ntmps25
        go_wp2_with fail
        rw [← hV]
        clear hV
        refine Calls.mono (V0.out _ (HH.out.below hS.below)) ?_
        rintro e w1 ⟨rfl, hb⟩
        replace hS := hS.call hb
        clear hb
        obtain ⟨c_a_0, c_a_1⟩ := hS.c2 (w.heap.size) _ _ _ (.tail _ (.head _))
        go_wp2_with fail
        refine Calls.mono (VA.out _) ?_
        rintro e w2 ⟨rfl, hb⟩
        clear c_a_0 c_a_1
        replace hS := hS.call hb
        clear hb
        obtain ⟨c_b_0, c_b_1⟩ := hS.c2 (w.heap.size + 1) _ _ _ (.head _)
        go_wp2_with fail
        refine Calls.mono (VB.out _) ?_
        rintro e w3 ⟨rfl, hb⟩
        clear c_b_0 c_b_1
        replace hS := hS.call hb
        clear hb
        go_wp2
        go_ret
        exact ⟨ret_bool (by rw [hr.out]; first | rfl | simp), hS.below⟩
      | true =>
        replace hr := Lib.hid (show res = !(l.drop 0).any (offM oa ob) from hr.out)
        rcases h with ⟨rfl, rfl⟩ | ⟨bl, off, cap, rfl, hc1, hc2, hlt, hce⟩
        · clear hdt VL
          go_enter Tryz.func25, Tryz.ntmps25
          go_wp2_with fail
          rw [← hV]
          clear hV
          refine Calls.mono (V0.out _ (HH.out.below hS.below)) ?_
          rintro e w1 ⟨rfl, hb⟩
          replace hS := hS.call hb
          clear hb
          obtain ⟨c_a_0, c_a_1⟩ := hS.c2 (w.heap.size) _ _ _ (.tail _ (.head _))
          go_wp2_with fail
          refine Calls.mono (VA.out _) ?_
          rintro e w2 ⟨rfl, hb⟩
          clear c_a_0 c_a_1
          replace hS := hS.call hb
          clear hb
          obtain ⟨c_b_0, c_b_1⟩ := hS.c2 (w.heap.size + 1) _ _ _ (.head _)
          go_wp2_with fail
          refine Calls.mono (VB.out _) ?_
          rintro e w3 ⟨rfl, hb⟩
          clear c_b_0 c_b_1
          replace hS := hS.call hb
          clear hb
          clear V0 VA VB HH
          go_wp2_with fail
          go_loopw [7] (fun i wr => i = .int .i64 0 ∧ BL w ([] : BLs) wr) (fun _ _ => 0)
          case atStart => exact ⟨rfl, hS.drop (fun p hp => by cases hp)⟩
          case round =>
            clear hS
            obtain ⟨rfl, hS⟩ := hrel
            go_wp2
            go_ret
            exact ⟨ret_bool (by rw [hr.out]; rfl), hS.below⟩
        · unfold maxLen at hc2
          go_enter Tryz.func25, Tryz.ntmps25
          go_wp2_with fail
          rw [← hV]
          clear hV
          refine Calls.mono (V0.out _ (HH.out.below hS.below)) ?_
          rintro e w1 ⟨rfl, hb⟩
          replace hS := hS.call hb
          clear hb
          obtain ⟨c_a_0, c_a_1⟩ := hS.c2 (w.heap.size) _ _ _ (.tail _ (.head _))
          go_wp2_with fail
          refine Calls.mono (VA.out _) ?_
          rintro e w2 ⟨rfl, hb⟩
          clear c_a_0 c_a_1
          replace hS := hS.call hb
          clear hb
          obtain ⟨c_b_0, c_b_1⟩ := hS.c2 (w.heap.size + 1) _ _ _ (.head _)
          go_wp2_with fail
          refine Calls.mono (VB.out _) ?_
          rintro e w3 ⟨rfl, hb⟩
          clear c_b_0 c_b_1
          replace hS := hS.call hb
          clear hb
          clear V0 VA VB HH
          go_wp2_with fail
          go_loopw [7] (fun i wr => ∃ k : Nat, i = .int .i64 k ∧ k ≤ l.length ∧ Hid (res = !(l.drop k).any (offM oa ob)) ∧ BL w [(w.heap.size + 1, #[.string n2, .string d2], 27), (w.heap.size, #[.string n1, .string d1], 27)] wr) (fun i _ => l.length - (intOf i).toNat)
          case atStart => exact ⟨0, rfl, by omega, hr, hS⟩
          case round =>
            clear hr hS
            obtain ⟨k, rfl, hk, hr, hS⟩ := hrel
            by_cases hkl : k < l.length
            · have z0 := hce k hkl
              have dk := hdt.out _ (gd_mem hkl)
              replace hr := Lib.hid (hr.out.trans (by rw [any_step _ hkl]))
              generalize gd l k = p at *
              have VV := VL.out p.t (by have := dk.t; unfold Fits; omega)
              have OL := Lib.hid (fun W => whole26_any p.lo (by have := dk.lo; unfold Fits; omega) W)
              have OH := Lib.hid (fun W => whole26_any p.hi (by have := dk.hi; unfold Fits; omega) W)
              have hvo : OkO (valO oa ob p.t) := OkO.val
              have CL := fun W => qrcmp_o hvo (ok_int (z := p.lo) (by have := dk.lo; unfold Fits; omega)) W
              have CH := fun W => qrcmp_o hvo (ok_int (z := p.hi) (by have := dk.hi; unfold Fits; omega)) W
              unfold dV at VV
              have hjp : offM oa ob p = (match valO oa ob p.t with
                | none => true
                | some v => decide (v < (p.lo : Rat)) || decide ((p.hi : Rat) < v)) := rfl
              rw [hjp] at hr
              clear hjp
              clear hvo dk VL hdt
              have hkl' : (k : Int) < l.length := by omega
              generalize valO oa ob p.t = ov at *
              generalize tN (some (p.lo : Rat)) = ln at *
              generalize tD (some (p.lo : Rat)) = ld at *
              generalize tN (some (p.hi : Rat)) = hn at *
              generalize tD (some (p.hi : Rat)) = hd at *
              cases ov with
              | none =>
                clear CL CH OL OH
                replace VV : ∀ W, Calls Tryz.prog 27 #[.agg #[.string n1, .string d1], .agg #[.string n2, .string d2], .int .i64 p.t] W (Rets W (.tuple #[.agg #[.string ⟨#[]⟩, .string ⟨#[]⟩], .int .i64 260])) := VV
                replace VV := Lib.hid VV
                go_upto_region 6 with fail
                have hC0 : ∀ W', BL w [(w.heap.size + 1, #[.string n2, .string d2], 27), (w.heap.size, #[.string n1, .string d1], 27)] W' → (W'.cell? ⟨w.heap.size, 0, none⟩ = some (.string n1) ∧ W'.cell? ⟨w.heap.size, 1, none⟩ = some (.string d1) ∧ W'.cell? ⟨w.heap.size + 1, 0, none⟩ = some (.string n2) ∧ W'.cell? ⟨w.heap.size + 1, 1, none⟩ = some (.string d2) ∧ W'.cell? ⟨bl, off + k * 3, none⟩ = some (.int .i64 p.t)) := fun W' h => ⟨(h.cell (w.heap.size) _ _ (.tail _ (.head _)) 0), (h.cell (w.heap.size) _ _ (.tail _ (.head _)) 1), (h.cell (w.heap.size + 1) _ _ (.head _) 0), (h.cell (w.heap.size + 1) _ _ (.head _) 1), (z0.below h.below hlt).1⟩
                have hC := Lib.hid hC0
                clear hC0
                have h0 := hS
                obtain ⟨x0', x1', x2', x3', x4'⟩ := hC.out _ hS
                replace hS := hS.drew
                go_cut [8, 9] (fun s e wx => ∃ g : Nat, s = .pointer (some ⟨g, 0, none⟩) ∧ e = .int .i64 260 ∧ w.heap.size ≤ g ∧ (∀ p ∈ ([(w.heap.size + 1, #[.string n2, .string d2], 27), (w.heap.size, #[.string n1, .string d1], 27)] : BLs), p.1 < g) ∧ BL w ((g, #[.string ⟨#[]⟩, .string ⟨#[]⟩], 27) :: [(w.heap.size + 1, #[.string n2, .string d2], 27), (w.heap.size, #[.string n1, .string d1], 27)]) wx)
                case first => as_aux_lemma =>
                  go_region_held3 (fun w' => w'.cell? ⟨w.heap.size, 0, none⟩ = some (.string n1) ∧ w'.cell? ⟨w.heap.size, 1, none⟩ = some (.string d1) ∧ w'.cell? ⟨w.heap.size + 1, 0, none⟩ = some (.string n2) ∧ w'.cell? ⟨w.heap.size + 1, 1, none⟩ = some (.string d2) ∧ w'.cell? ⟨bl, off + k * 3, none⟩ = some (.int .i64 p.t))
                    (first | with_reducible exact hC.out _ hS | with_reducible exact hC.out _ (hS.new _) | with_reducible exact hC.out _ ((h0.new _).drew) | with_reducible exact hC.out _ (hS.setG hge hlt _ _) | go_keep)
                    (first | (go_at_call 27; (with_reducible refine Calls.mono (VV.out _) ?_); rintro e w' ⟨rfl, hb⟩; (first | (replace hS := hS.call hb; first | (replace hN := hN.below hb; have n0 := (blk_two hN).1; have n1 := (blk_two hN).2; have m0 := hN.frozen 0; have m1 := hN.frozen 1) | skip) | (have hlt := hS.lts; have hge := hS.below.size; have hN := nres hb; have n0 := (blk_two hN).1; have n1 := (blk_two hN).2; have m0 := hN.frozen 0; have m1 := hN.frozen 1; replace hS := (hS.new _).call hb) | (have hlt := h0.lts; have hge := h0.below.size; have hN := nres_drew hb; have n0 := (blk_two hN).1; have n1 := (blk_two hN).2; have m0 := hN.frozen 0; have m1 := hN.frozen 1; replace hS := ((h0.new _).drew).call hb)); clear hb))
                  all_goals (go_wp2_with fail; go_meet; first | exact ⟨_, rfl, rfl, hS.below.size, hS.lts, hS.add _ _⟩ | exact ⟨_, rfl, rfl, hge, hlt, (hS.setG hge hlt _ _).pushB ((hN.set 0 (.string ⟨#[]⟩)).set 1 (.string ⟨#[]⟩))⟩)
                case rest =>
                  clear hS h0 hC x0' x1' x2' x3' x4'
                  obtain ⟨g1, rfl, rfl, g1ge, g1lt, hS⟩ := hcut
                  obtain ⟨u0, u1, u2⟩ := z0.below hS.below hlt
                  go_upto_region 7 with fail
                  have hC0 : ∀ W', BL w [(g1, #[.string ⟨#[]⟩, .string ⟨#[]⟩], 27), (w.heap.size + 1, #[.string n2, .string d2], 27), (w.heap.size, #[.string n1, .string d1], 27)] W' → (W'.cell? ⟨g1, 0, none⟩ = some (.string ⟨#[]⟩) ∧ W'.cell? ⟨g1, 1, none⟩ = some (.string ⟨#[]⟩) ∧ W'.cell? ⟨bl, off + k * 3 + 1, none⟩ = some (.int .i64 p.lo) ∧ W'.cell? ⟨bl, off + k * 3 + 2, none⟩ = some (.int .i64 p.hi)) := fun W' h => ⟨(h.cell (g1) _ _ (.head _) 0), (h.cell (g1) _ _ (.head _) 1), (z0.below h.below hlt).2.1, (z0.below h.below hlt).2.2⟩
                  have hC := Lib.hid hC0
                  clear hC0
                  refine wp_region_quiet (C := fun W' => BL w [(g1, #[.string ⟨#[]⟩, .string ⟨#[]⟩], 27), (w.heap.size + 1, #[.string n2, .string d2], 27), (w.heap.size, #[.string n1, .string d1], 27)] W') rfl (by kernel_rfl) hS.drew (Walled.out ?_)
                  refine qWant rfl fun K hK => ?_
                  go_simp
                  refine ⟨_, fun _ _ => rfl, hK _ ?_⟩
                  clear hK K
                  refine qWant rfl fun K hK => ?_
                  go_simp
                  refine ⟨_, fun _ _ => rfl, hK _ ?_⟩
                  clear hK K
                  refine qWant rfl fun K hK => ?_
                  go_simp
                  refine ⟨_, fun _ _ => rfl, hK _ ?_⟩
                  clear hK K
                  refine qStep fun K hK => ?_
                  go_simp
                  refine hK _ ?_
                  clear hK K
                  refine qStep fun K hK => ?_
                  go_simp
                  refine hK _ ?_
                  clear hK K
                  refine qStep fun K hK => ?_
                  go_simp
                  refine hK _ ?_
                  clear hK K
                  refine qStep fun K hK => ?_
                  go_simp
                  refine hK _ ?_
                  clear hK K
                  refine qStep fun K hK => ?_
                  go_simp
                  refine hK _ ?_
                  clear hK K
                  refine qStep fun K hK => ?_
                  go_simp
                  refine hK _ ?_
                  clear hK K
                  refine qStep fun K hK => ?_
                  go_simp
                  refine hK _ ?_
                  clear hK K
                  refine qStep fun K hK => ?_
                  go_simp
                  refine hK _ ?_
                  clear hK K
                  refine qStep fun K hK => ?_
                  go_simp
                  refine hK _ ?_
                  clear hK K
                  refine qWant rfl fun K hK => ?_
                  go_simp
                  refine ⟨_, fun _ _ => rfl, hK _ ?_⟩
                  clear hK K
                  refine qWant rfl fun K hK => ?_
                  go_simp
                  refine ⟨_, fun _ _ => rfl, hK _ ?_⟩
                  clear hK K
                  refine qStep fun K hK => ?_
                  go_simp
                  refine hK _ ?_
                  clear hK K
                  refine qStep fun K hK => ?_
                  go_simp
                  refine hK _ ?_
                  clear hK K
                  refine qStep fun K hK => ?_
                  go_simp
                  refine hK _ ?_
                  clear hK K
                  refine qStep fun K hK => ?_
                  go_simp
                  refine hK _ ?_
                  clear hK K
                  refine qStep fun K hK => ?_
                  go_simp
                  refine hK _ ?_
                  clear hK K
                  refine qStep fun K hK => ?_
                  go_simp
                  refine hK _ ?_
                  clear hK K
                  refine qStep fun K hK => ?_
                  go_simp
                  refine hK _ ?_
                  clear hK K
                  refine qStep fun K hK => ?_
                  go_simp
                  refine hK _ ?_
                  clear hK K
                  refine qStep fun K hK => ?_
                  go_simp
                  refine hK _ ?_
                  clear hK K
                  refine qWant rfl fun K hK => ?_
                  go_simp
                  refine ⟨_, fun _ _ => rfl, hK _ ?_⟩
                  clear hK K
                  refine qNil ?_
                  intro W' hI
                  go_wp2
                  go_ret
                  exact ⟨ret_bool (by rw [hr.out]; rfl), hI.below⟩
              | some x =>
                replace VV : ∀ W, Calls Tryz.prog 27 #[.agg #[.string n1, .string d1], .agg #[.string n2, .string d2], .int .i64 p.t] W (Rets W (.tuple #[.agg #[.string (tN (some x)), .string (tD (some x))], .int .i64 0])) := VV
                replace VV := Lib.hid VV
                have e1 : decide (x < (p.lo : Rat)) = decide (oCmp (some x) (some (p.lo : Rat)) < 0) := (cmpQ_neg x p.lo).symm
                have e2 : decide ((p.hi : Rat) < x) = decide (oCmp (some x) (some (p.hi : Rat)) > 0) := (cmpQ_pos x p.hi).symm
                replace hr := Lib.hid (show res = !(decide (oCmp (some x) (some (p.lo : Rat)) < 0) || decide (oCmp (some x) (some (p.hi : Rat)) > 0) || (l.drop (k + 1)).any (offM oa ob)) by rw [hr.out, ← e1, ← e2])
                clear e1 e2
                generalize tN (some x) = vn at *
                generalize tD (some x) = vd at *
                generalize oCmp (some x) (some (p.lo : Rat)) = cl at *
                generalize oCmp (some x) (some (p.hi : Rat)) = ch at *
                replace CL := Lib.hid CL
                replace CH := Lib.hid CH
                go_upto_region 6 with fail
                have hC0 : ∀ W', BL w [(w.heap.size + 1, #[.string n2, .string d2], 27), (w.heap.size, #[.string n1, .string d1], 27)] W' → (W'.cell? ⟨w.heap.size, 0, none⟩ = some (.string n1) ∧ W'.cell? ⟨w.heap.size, 1, none⟩ = some (.string d1) ∧ W'.cell? ⟨w.heap.size + 1, 0, none⟩ = some (.string n2) ∧ W'.cell? ⟨w.heap.size + 1, 1, none⟩ = some (.string d2) ∧ W'.cell? ⟨bl, off + k * 3, none⟩ = some (.int .i64 p.t)) := fun W' h => ⟨(h.cell (w.heap.size) _ _ (.tail _ (.head _)) 0), (h.cell (w.heap.size) _ _ (.tail _ (.head _)) 1), (h.cell (w.heap.size + 1) _ _ (.head _) 0), (h.cell (w.heap.size + 1) _ _ (.head _) 1), (z0.below h.below hlt).1⟩
                have hC := Lib.hid hC0
                clear hC0
                have h0 := hS
                obtain ⟨x0', x1', x2', x3', x4'⟩ := hC.out _ hS
                replace hS := hS.drew
                go_cut [8, 9] (fun s e wx => ∃ g : Nat, s = .pointer (some ⟨g, 0, none⟩) ∧ e = .int .i64 0 ∧ w.heap.size ≤ g ∧ (∀ p ∈ ([(w.heap.size + 1, #[.string n2, .string d2], 27), (w.heap.size, #[.string n1, .string d1], 27)] : BLs), p.1 < g) ∧ BL w ((g, #[.string vn, .string vd], 27) :: [(w.heap.size + 1, #[.string n2, .string d2], 27), (w.heap.size, #[.string n1, .string d1], 27)]) wx)
                case first => as_aux_lemma =>
                  go_region_held3 (fun w' => w'.cell? ⟨w.heap.size, 0, none⟩ = some (.string n1) ∧ w'.cell? ⟨w.heap.size, 1, none⟩ = some (.string d1) ∧ w'.cell? ⟨w.heap.size + 1, 0, none⟩ = some (.string n2) ∧ w'.cell? ⟨w.heap.size + 1, 1, none⟩ = some (.string d2) ∧ w'.cell? ⟨bl, off + k * 3, none⟩ = some (.int .i64 p.t))
                    (first | with_reducible exact hC.out _ hS | with_reducible exact hC.out _ (hS.new _) | with_reducible exact hC.out _ ((h0.new _).drew) | with_reducible exact hC.out _ (hS.setG hge hlt _ _) | go_keep)
                    (first | (go_at_call 27; (with_reducible refine Calls.mono (VV.out _) ?_); rintro e w' ⟨rfl, hb⟩; (first | (replace hS := hS.call hb; first | (replace hN := hN.below hb; have n0 := (blk_two hN).1; have n1 := (blk_two hN).2; have m0 := hN.frozen 0; have m1 := hN.frozen 1) | skip) | (have hlt := hS.lts; have hge := hS.below.size; have hN := nres hb; have n0 := (blk_two hN).1; have n1 := (blk_two hN).2; have m0 := hN.frozen 0; have m1 := hN.frozen 1; replace hS := (hS.new _).call hb) | (have hlt := h0.lts; have hge := h0.below.size; have hN := nres_drew hb; have n0 := (blk_two hN).1; have n1 := (blk_two hN).2; have m0 := hN.frozen 0; have m1 := hN.frozen 1; replace hS := ((h0.new _).drew).call hb)); clear hb))
                  all_goals (go_wp2_with fail; go_meet; first | exact ⟨_, rfl, rfl, hS.below.size, hS.lts, hS.add _ _⟩ | exact ⟨_, rfl, rfl, hge, hlt, (hS.setG hge hlt _ _).pushB ((hN.set 0 (.string vn)).set 1 (.string vd))⟩)
                case rest =>
                  clear hS h0 hC x0' x1' x2' x3' x4'
                  obtain ⟨g1, rfl, rfl, g1ge, g1lt, hS⟩ := hcut
                  go_upto_region 7 with fail
                  have hC0 : ∀ W', BL w [(g1, #[.string vn, .string vd], 27), (w.heap.size + 1, #[.string n2, .string d2], 27), (w.heap.size, #[.string n1, .string d1], 27)] W' → (W'.cell? ⟨g1, 0, none⟩ = some (.string vn) ∧ W'.cell? ⟨g1, 1, none⟩ = some (.string vd) ∧ W'.cell? ⟨bl, off + k * 3 + 1, none⟩ = some (.int .i64 p.lo) ∧ W'.cell? ⟨bl, off + k * 3 + 2, none⟩ = some (.int .i64 p.hi)) := fun W' h => ⟨(h.cell (g1) _ _ (.head _) 0), (h.cell (g1) _ _ (.head _) 1), (z0.below h.below hlt).2.1, (z0.below h.below hlt).2.2⟩
                  have hC := Lib.hid hC0
                  clear hC0
                  by_cases hcl : cl < 0
                  · refine wp_region_quiet (C := fun W' => BL w [(g1, #[.string vn, .string vd], 27), (w.heap.size + 1, #[.string n2, .string d2], 27), (w.heap.size, #[.string n1, .string d1], 27)] W') rfl (by kernel_rfl) hS.drew (Walled.out ?_)
                    refine qWant rfl fun K hK => ?_
                    go_simp
                    refine ⟨_, fun _ _ => rfl, hK _ ?_⟩
                    clear hK K
                    refine qWant rfl fun K hK => ?_
                    go_simp
                    refine ⟨_, fun _ _ => rfl, hK _ ?_⟩
                    clear hK K
                    refine qWant rfl fun K hK => ?_
                    go_simp
                    refine ⟨_, fun _ _ => rfl, hK _ ?_⟩
                    clear hK K
                    refine qWant rfl fun K hK => ?_
                    go_simp
                    refine ⟨.agg #[.string vn, .string vd], fun W hW => ?_, hK _ ?_⟩
                    · obtain ⟨x0', x1', x2', x3'⟩ := hC.out W hW
                      go_simp
                    clear hK K
                    refine qWant rfl fun K hK => ?_
                    go_simp
                    refine ⟨_, fun _ _ => rfl, hK _ ?_⟩
                    clear hK K
                    refine qWant rfl fun K hK => ?_
                    go_simp
                    refine ⟨_, fun _ _ => rfl, hK _ ?_⟩
                    clear hK K
                    refine qWant rfl fun K hK => ?_
                    go_simp
                    refine ⟨_, fun _ _ => rfl, hK _ ?_⟩
                    clear hK K
                    refine qWant rfl fun K hK => ?_
                    go_simp
                    refine ⟨_, fun _ _ => rfl, hK _ ?_⟩
                    clear hK K
                    refine qWant rfl fun K hK => ?_
                    go_simp
                    refine ⟨.int .i64 p.lo, fun W hW => ?_, hK _ ?_⟩
                    · obtain ⟨x0', x1', x2', x3'⟩ := hC.out W hW
                      go_simp
                    clear hK K
                    refine qWant rfl fun K hK => ?_
                    go_simp
                    refine ⟨.agg #[.string ln, .string ld], fun W hW => (OL.out W).mono fun e w' h => ⟨h.1, hW.call h.2⟩, hK _ ?_⟩
                    clear hK K
                    refine qWant rfl fun K hK => ?_
                    go_simp
                    refine ⟨.int .i64 cl, fun W hW => (CL.out W).mono fun e w' h => ⟨h.1, hW.call h.2⟩, hK _ ?_⟩
                    clear hK K
                    refine qWant rfl fun K hK => ?_
                    go_simp
                    refine ⟨.bool true, fun _ _ => by first | rfl | exact congrArg Value.bool (decide_eq_true hcl), hK _ ?_⟩
                    clear hK K
                    refine qWant rfl fun K hK => ?_
                    go_simp
                    refine ⟨_, fun _ _ => rfl, hK _ ?_⟩
                    clear hK K
                    refine qWant rfl fun K hK => ?_
                    go_simp
                    refine ⟨_, fun _ _ => rfl, hK _ ?_⟩
                    clear hK K
                    refine qStep fun K hK => ?_
                    go_simp
                    refine hK _ ?_
                    clear hK K
                    refine qStep fun K hK => ?_
                    go_simp
                    refine hK _ ?_
                    clear hK K
                    refine qStep fun K hK => ?_
                    go_simp
                    refine hK _ ?_
                    clear hK K
                    refine qStep fun K hK => ?_
                    go_simp
                    refine hK _ ?_
                    clear hK K
                    refine qStep fun K hK => ?_
                    go_simp
                    refine hK _ ?_
                    clear hK K
                    refine qStep fun K hK => ?_
                    go_simp
                    refine hK _ ?_
                    clear hK K
                    refine qStep fun K hK => ?_
                    go_simp
                    refine hK _ ?_
                    clear hK K
                    refine qStep fun K hK => ?_
                    go_simp
                    refine hK _ ?_
                    clear hK K
                    refine qStep fun K hK => ?_
                    go_simp
                    refine hK _ ?_
                    clear hK K
                    refine qWant rfl fun K hK => ?_
                    go_simp
                    refine ⟨_, fun _ _ => rfl, hK _ ?_⟩
                    clear hK K
                    refine qNil ?_
                    intro W' hI
                    go_wp2
                    go_ret
                    exact ⟨ret_bool (by rw [hr.out, decide_eq_true hcl]; rfl), hI.below⟩
                  · by_cases hch : ch > 0
                    · refine wp_region_quiet (C := fun W' => BL w [(g1, #[.string vn, .string vd], 27), (w.heap.size + 1, #[.string n2, .string d2], 27), (w.heap.size, #[.string n1, .string d1], 27)] W') rfl (by kernel_rfl) hS.drew (Walled.out ?_)
                      refine qWant rfl fun K hK => ?_
                      go_simp
                      refine ⟨_, fun _ _ => rfl, hK _ ?_⟩
                      clear hK K
                      refine qWant rfl fun K hK => ?_
                      go_simp
                      refine ⟨_, fun _ _ => rfl, hK _ ?_⟩
                      clear hK K
                      refine qWant rfl fun K hK => ?_
                      go_simp
                      refine ⟨_, fun _ _ => rfl, hK _ ?_⟩
                      clear hK K
                      refine qWant rfl fun K hK => ?_
                      go_simp
                      refine ⟨.agg #[.string vn, .string vd], fun W hW => ?_, hK _ ?_⟩
                      · obtain ⟨x0', x1', x2', x3'⟩ := hC.out W hW
                        go_simp
                      clear hK K
                      refine qWant rfl fun K hK => ?_
                      go_simp
                      refine ⟨_, fun _ _ => rfl, hK _ ?_⟩
                      clear hK K
                      refine qWant rfl fun K hK => ?_
                      go_simp
                      refine ⟨_, fun _ _ => rfl, hK _ ?_⟩
                      clear hK K
                      refine qWant rfl fun K hK => ?_
                      go_simp
                      refine ⟨_, fun _ _ => rfl, hK _ ?_⟩
                      clear hK K
                      refine qWant rfl fun K hK => ?_
                      go_simp
                      refine ⟨_, fun _ _ => rfl, hK _ ?_⟩
                      clear hK K
                      refine qWant rfl fun K hK => ?_
                      go_simp
                      refine ⟨.int .i64 p.lo, fun W hW => ?_, hK _ ?_⟩
                      · obtain ⟨x0', x1', x2', x3'⟩ := hC.out W hW
                        go_simp
                      clear hK K
                      refine qWant rfl fun K hK => ?_
                      go_simp
                      refine ⟨.agg #[.string ln, .string ld], fun W hW => (OL.out W).mono fun e w' h => ⟨h.1, hW.call h.2⟩, hK _ ?_⟩
                      clear hK K
                      refine qWant rfl fun K hK => ?_
                      go_simp
                      refine ⟨.int .i64 cl, fun W hW => (CL.out W).mono fun e w' h => ⟨h.1, hW.call h.2⟩, hK _ ?_⟩
                      clear hK K
                      refine qWant rfl fun K hK => ?_
                      go_simp
                      refine ⟨.bool false, fun _ _ => by first | rfl | exact congrArg Value.bool (decide_eq_false hcl), hK _ ?_⟩
                      clear hK K
                      refine qWant rfl fun K hK => ?_
                      go_simp
                      refine ⟨_, fun _ _ => rfl, hK _ ?_⟩
                      clear hK K
                      refine qWant rfl fun K hK => ?_
                      go_simp
                      refine ⟨_, fun _ _ => rfl, hK _ ?_⟩
                      clear hK K
                      refine qWant rfl fun K hK => ?_
                      go_simp
                      refine ⟨.agg #[.string vn, .string vd], fun W hW => ?_, hK _ ?_⟩
                      · obtain ⟨x0', x1', x2', x3'⟩ := hC.out W hW
                        go_simp
                      clear hK K
                      refine qWant rfl fun K hK => ?_
                      go_simp
                      refine ⟨_, fun _ _ => rfl, hK _ ?_⟩
                      clear hK K
                      refine qWant rfl fun K hK => ?_
                      go_simp
                      refine ⟨_, fun _ _ => rfl, hK _ ?_⟩
                      clear hK K
                      refine qWant rfl fun K hK => ?_
                      go_simp
                      refine ⟨_, fun _ _ => rfl, hK _ ?_⟩
                      clear hK K
                      refine qWant rfl fun K hK => ?_
                      go_simp
                      refine ⟨_, fun _ _ => rfl, hK _ ?_⟩
                      clear hK K
                      refine qWant rfl fun K hK => ?_
                      go_simp
                      refine ⟨.int .i64 p.hi, fun W hW => ?_, hK _ ?_⟩
                      · obtain ⟨x0', x1', x2', x3'⟩ := hC.out W hW
                        go_simp
                      clear hK K
                      refine qWant rfl fun K hK => ?_
                      go_simp
                      refine ⟨.agg #[.string hn, .string hd], fun W hW => (OH.out W).mono fun e w' h => ⟨h.1, hW.call h.2⟩, hK _ ?_⟩
                      clear hK K
                      refine qWant rfl fun K hK => ?_
                      go_simp
                      refine ⟨.int .i64 ch, fun W hW => (CH.out W).mono fun e w' h => ⟨h.1, hW.call h.2⟩, hK _ ?_⟩
                      clear hK K
                      refine qWant rfl fun K hK => ?_
                      go_simp
                      refine ⟨.bool true, fun _ _ => by first | rfl | exact congrArg Value.bool (decide_eq_true hch), hK _ ?_⟩
                      clear hK K
                      refine qWant rfl fun K hK => ?_
                      go_simp
                      refine ⟨_, fun _ _ => rfl, hK _ ?_⟩
                      clear hK K
                      refine qNil ?_
                      intro W' hI
                      go_wp2
                      go_ret
                      exact ⟨ret_bool (by rw [hr.out, decide_eq_true hch, Bool.or_true]; rfl), hI.below⟩
                    · refine wp_region_quiet (C := fun W' => BL w [(g1, #[.string vn, .string vd], 27), (w.heap.size + 1, #[.string n2, .string d2], 27), (w.heap.size, #[.string n1, .string d1], 27)] W') rfl (by kernel_rfl) hS.drew (Walled.out ?_)
                      refine qWant rfl fun K hK => ?_
                      go_simp
                      refine ⟨_, fun _ _ => rfl, hK _ ?_⟩
                      clear hK K
                      refine qWant rfl fun K hK => ?_
                      go_simp
                      refine ⟨_, fun _ _ => rfl, hK _ ?_⟩
                      clear hK K
                      refine qWant rfl fun K hK => ?_
                      go_simp
                      refine ⟨_, fun _ _ => rfl, hK _ ?_⟩
                      clear hK K
                      refine qWant rfl fun K hK => ?_
                      go_simp
                      refine ⟨.agg #[.string vn, .string vd], fun W hW => ?_, hK _ ?_⟩
                      · obtain ⟨x0', x1', x2', x3'⟩ := hC.out W hW
                        go_simp
                      clear hK K
                      refine qWant rfl fun K hK => ?_
                      go_simp
                      refine ⟨_, fun _ _ => rfl, hK _ ?_⟩
                      clear hK K
                      refine qWant rfl fun K hK => ?_
                      go_simp
                      refine ⟨_, fun _ _ => rfl, hK _ ?_⟩
                      clear hK K
                      refine qWant rfl fun K hK => ?_
                      go_simp
                      refine ⟨_, fun _ _ => rfl, hK _ ?_⟩
                      clear hK K
                      refine qWant rfl fun K hK => ?_
                      go_simp
                      refine ⟨_, fun _ _ => rfl, hK _ ?_⟩
                      clear hK K
                      refine qWant rfl fun K hK => ?_
                      go_simp
                      refine ⟨.int .i64 p.lo, fun W hW => ?_, hK _ ?_⟩
                      · obtain ⟨x0', x1', x2', x3'⟩ := hC.out W hW
                        go_simp
                      clear hK K
                      refine qWant rfl fun K hK => ?_
                      go_simp
                      refine ⟨.agg #[.string ln, .string ld], fun W hW => (OL.out W).mono fun e w' h => ⟨h.1, hW.call h.2⟩, hK _ ?_⟩
                      clear hK K
                      refine qWant rfl fun K hK => ?_
                      go_simp
                      refine ⟨.int .i64 cl, fun W hW => (CL.out W).mono fun e w' h => ⟨h.1, hW.call h.2⟩, hK _ ?_⟩
                      clear hK K
                      refine qWant rfl fun K hK => ?_
                      go_simp
                      refine ⟨.bool false, fun _ _ => by first | rfl | exact congrArg Value.bool (decide_eq_false hcl), hK _ ?_⟩
                      clear hK K
                      refine qWant rfl fun K hK => ?_
                      go_simp
                      refine ⟨_, fun _ _ => rfl, hK _ ?_⟩
                      clear hK K
                      refine qWant rfl fun K hK => ?_
                      go_simp
                      refine ⟨_, fun _ _ => rfl, hK _ ?_⟩
                      clear hK K
                      refine qWant rfl fun K hK => ?_
                      go_simp
                      refine ⟨.agg #[.string vn, .string vd], fun W hW => ?_, hK _ ?_⟩
                      · obtain ⟨x0', x1', x2', x3'⟩ := hC.out W hW
                        go_simp
                      clear hK K
                      refine qWant rfl fun K hK => ?_
                      go_simp
                      refine ⟨_, fun _ _ => rfl, hK _ ?_⟩
                      clear hK K
                      refine qWant rfl fun K hK => ?_
                      go_simp
                      refine ⟨_, fun _ _ => rfl, hK _ ?_⟩
                      clear hK K
                      refine qWant rfl fun K hK => ?_
                      go_simp
                      refine ⟨_, fun _ _ => rfl, hK _ ?_⟩
                      clear hK K
                      refine qWant rfl fun K hK => ?_
                      go_simp
                      refine ⟨_, fun _ _ => rfl, hK _ ?_⟩
                      clear hK K
                      refine qWant rfl fun K hK => ?_
                      go_simp
                      refine ⟨.int .i64 p.hi, fun W hW => ?_, hK _ ?_⟩
                      · obtain ⟨x0', x1', x2', x3'⟩ := hC.out W hW
                        go_simp
                      clear hK K
                      refine qWant rfl fun K hK => ?_
                      go_simp
                      refine ⟨.agg #[.string hn, .string hd], fun W hW => (OH.out W).mono fun e w' h => ⟨h.1, hW.call h.2⟩, hK _ ?_⟩
                      clear hK K
                      refine qWant rfl fun K hK => ?_
                      go_simp
                      refine ⟨.int .i64 ch, fun W hW => (CH.out W).mono fun e w' h => ⟨h.1, hW.call h.2⟩, hK _ ?_⟩
                      clear hK K
                      refine qWant rfl fun K hK => ?_
                      go_simp
                      refine ⟨.bool false, fun _ _ => by first | rfl | exact congrArg Value.bool (decide_eq_false hch), hK _ ?_⟩
                      clear hK K
                      refine qWant rfl fun K hK => ?_
                      go_simp
                      refine ⟨_, fun _ _ => rfl, hK _ ?_⟩
                      clear hK K
                      refine qNil ?_
                      intro W' hI
                      replace hr := Lib.hid (show res = !(l.drop (k + 1)).any (offM oa ob) by rw [hr.out, decide_eq_false hcl, decide_eq_false hch]; rfl)
                      go_wp2_with fail
                      go_roundw
                      case rel => exact ⟨k + 1, by go_num, by omega, hr, hI.drop (fun p hp => .tail _ hp)⟩
                      case measure => simp [intOf]; omega
            · have hr := Lib.hid (show res = true by rw [hr.out, List.drop_eq_nil_of_le (by omega)]; rfl)
              go_wp2
              go_ret
              exact ⟨ret_bool hr.out.symm, hS.below⟩

end Go.Proofs.YtebokdboodgkpaaGreatDoor
