/- RationalTextMatchesReference: the walk. -/
import Derived.Test.YtkmlcnkhijpndaaGreatDoorCutQ
import Derived.Test.YtkmlcnkhijpndaaGreatDoorIsQ
import Derived.Deep.QuietTactic
import Derived.BigQuiet
namespace Go.Proofs.YtkmlcnkhijpndaaGreatDoor
open Go.RowKit
attribute [local go_sem] Oper.semAt_some

set_option maxRecDepth 100000 in
set_option maxHeartbeats 16000000 in
theorem textq_law (n d : ByteArray) (x0 x1 x2 x3 at_ c : Int) (raw : ByteArray) (hn : n.size ≤ 9223372036854775807) (hd : d.size ≤ 9223372036854775807) (F0 : Fits x0) (F1 : Fits x1) (F2 : Fits x2) (F3 : Fits x3) (Fa : Fits at_) (hc : 0 ≤ c ∧ c ≤ 255) (hr : raw.size ≤ 9223372036854775807) (w : World) (hE : EnvQ w) :
    Calls Tryz.prog 3 #[.agg #[.string n, .string d], .agg #[.int .i64 x0, .int .i64 x1, .int .i64 x2, .int .i64 x3], .int .i64 at_, .int .u8 c, .string raw] w (Rets w (.bool true)) := by
  have Sv0 := BL.start w
  obtain ⟨V1, ev1, Sv1, zv1⟩ := Sv0.add' #[.string n, .string d] 23
  obtain ⟨V2, ev2, Sv2, zv2⟩ := Sv1.add' #[.int .i64 x0, .int .i64 x1, .int .i64 x2, .int .i64 x3] 24
  rw [zv1] at Sv2
  have hV : V2 = ((w.alloc (.cells #[.string n, .string d] 23)).alloc (.cells #[.int .i64 x0, .int .i64 x1, .int .i64 x2, .int .i64 x3] 24)) := by rw [ev2, ev1]
  have hS : BL w [(w.heap.size + 1, #[.int .i64 x0, .int .i64 x1, .int .i64 x2, .int .i64 x3], 24), (w.heap.size, #[.string n, .string d], 23)] V2 := Sv2
  clear ev1 ev2 zv1 zv2 Sv0 Sv1 Sv2
  go_enter Tryz.func3, Tryz.ntmps3
  go_wp2_with fail
  rw [← hV]
  clear hV
  refine Calls.mono (saneQ_any _ (hS.envQ hE)) ?_
  rintro e w1 ⟨rfl, hb⟩
  replace hS := hS.call hb
  clear hb
  obtain ⟨c_L_0, c_L_1, c_L_2, c_L_3⟩ := hS.c4 (w.heap.size + 1) _ _ _ _ _ (.head _)
  go_wp2_with fail
  refine Calls.mono (long_v x0 x1 x2 x3 F0 F1 F2 F3 _) ?_
  rintro e w2 ⟨r, mn, md, rfl, Im, Bm, hb⟩
  clear c_L_0 c_L_1 c_L_2 c_L_3
  replace hS := hS.call hb
  clear hb
  replace hS := hS.add' #[.string mn, .string md] 23
  obtain ⟨W0, hW0, hS, hz0⟩ := hS
  obtain ⟨W, hW⟩ : ∃ W, W = (w2.alloc (.cells #[.string mn, .string md] 23)) := ⟨_, rfl⟩
  replace hS : BL w [(w2.heap.size, #[.string mn, .string md], 23), (w.heap.size + 1, #[.int .i64 x0, .int .i64 x1, .int .i64 x2, .int .i64 x3], 24), (w.heap.size, #[.string n, .string d], 23)] W := by rw [hW, ← hW0]; exact hS
  clear hz0 hW0
  go_upto_region 3 with fail
  rw [← hW]
  clear hW
  go_cut [32, 33, 34] (fun sl le ix wx => ∃ (g : Nat) (ca cb : ByteArray), sl = .slice (some ⟨g, 0, none⟩) 2 2 ∧ le = .int .i64 2 ∧ ix = .int .i64 0 ∧ ca.size ≤ 210 ∧ cb.size ≤ 210 ∧ BL w ((g, #[.string ca, .string cb, .string mn, .string md], 23) :: [(w2.heap.size, #[.string mn, .string md], 23), (w.heap.size + 1, #[.int .i64 x0, .int .i64 x1, .int .i64 x2, .int .i64 x3], 24), (w.heap.size, #[.string n, .string d], 23)]) wx)
  case first => as_aux_lemma =>
    have hC0 : ∀ W', BL w [(w2.heap.size, #[.string mn, .string md], 23), (w.heap.size + 1, #[.int .i64 x0, .int .i64 x1, .int .i64 x2, .int .i64 x3], 24), (w.heap.size, #[.string n, .string d], 23)] W' → (W'.cell? ⟨w.heap.size, 0, none⟩ = some (.string n) ∧ W'.cell? ⟨w.heap.size, 1, none⟩ = some (.string d) ∧ W'.cell? ⟨w2.heap.size, 0, none⟩ = some (.string mn) ∧ W'.cell? ⟨w2.heap.size, 1, none⟩ = some (.string md)) := fun W' h => ⟨(h.cell (w.heap.size) _ _ (.tail _ (.tail _ (.head _))) 0), (h.cell (w.heap.size) _ _ (.tail _ (.tail _ (.head _))) 1), (h.cell (w2.heap.size) _ _ (.head _) 0), (h.cell (w2.heap.size) _ _ (.head _) 1)⟩
    have hC := Lib.hid hC0
    clear hC0
    obtain ⟨x0', x1', x2', x3'⟩ := hC.out _ hS
    replace hS := hS.drew
    go_region_held3 (fun w' => w'.cell? ⟨w.heap.size, 0, none⟩ = some (.string n) ∧ w'.cell? ⟨w.heap.size, 1, none⟩ = some (.string d) ∧ w'.cell? ⟨w2.heap.size, 0, none⟩ = some (.string mn) ∧ w'.cell? ⟨w2.heap.size, 1, none⟩ = some (.string md))
      (first | with_reducible exact hC.out _ hS | with_reducible exact hC.out _ (hS.new _) | go_keep)
      (first | (go_at_call 13; refine Calls.mono (cut4_any n d hn hd _) ?_; rintro e w' ⟨ca, cb, rfl, ha, hbb, hb⟩; have hS := hS.call hb; clear hb))
    all_goals (go_wp2_with fail; go_meet; exact ⟨_, ca, cb, rfl, rfl, rfl, ha, hbb, hS.add _ _⟩)
  case rest =>
    clear hS
    obtain ⟨g, ca, cb, rfl, rfl, rfl, ha, hbb, hS⟩ := hcut
    have hml := Im.len
    go_wp2_with fail
    go_loopw [34] (fun i wr => (i = .int .i64 0 ∨ i = .int .i64 1 ∨ i = .int .i64 2) ∧ BL w [(g, #[.string ca, .string cb, .string mn, .string md], 23), (w2.heap.size, #[.string mn, .string md], 23), (w.heap.size + 1, #[.int .i64 x0, .int .i64 x1, .int .i64 x2, .int .i64 x3], 24), (w.heap.size, #[.string n, .string d], 23)] wr) (fun i _ => 2 - (intOf i).toNat)
    case atStart => exact ⟨.inl rfl, hS⟩
    case round =>
      clear hS
      obtain ⟨hi, hS⟩ := hrel
      rcases hi with rfl | rfl | rfl
      · as_aux_lemma =>
        have sa : ca.size ≤ 9223372036854775807 := Nat.le_trans ha (by decide)
        have sb : cb.size ≤ 9223372036854775807 := Nat.le_trans hbb (by decide)
        have hl := prt_len ca cb
        have P1 := Lib.hid (fun W hE => qprint_any ca cb W hE)
        have P2 := Lib.hid (fun W => qrprint_any ca cb sa sb W)
        have P3 := Lib.hid (fun W hE => qparse_run (prt ca cb) (by omega) W hE)
        have V1 := Lib.hid (fun W hE => qvalid_any ca cb W hE)
        rcases par_prt ca cb with ⟨h1, h2, h3⟩ | ⟨h1, h2, h3⟩
        · rw [h1] at V1
          rw [h3] at P3
          have e1 := empty_toList h2
          have e2 : ((prt ca cb).toList == []) = false := by rw [beq_eq_false_iff_ne]; exact e1
          have e3 : (prt ca cb).toList.isEmpty = false := by rw [List.isEmpty_eq_false_iff]; exact e1
          generalize prt ca cb = pt at *
          clear h1 h2 h3 sa sb hl
          obtain ⟨c_g_0, c_g_1, c_g_2, c_g_3⟩ := hS.c4 (g) _ _ _ _ _ (.head _)
          go_upto_region 6 with fail
          replace hS := hS.add' #[.string ca, .string cb] 23
          obtain ⟨W, hW, hS, hz⟩ := hS
          rw [← hW]
          clear hW hz c_g_0 c_g_1 c_g_2 c_g_3
          obtain ⟨c_r_0, c_r_1⟩ := hS.c2 (wr.heap.size) _ _ _ (.head _)
          go_wp2_with fail
          refine Calls.mono (P1.out _ (hS.envQ hE).env) ?_
          rintro e w3 ⟨rfl, hb⟩
          clear c_r_0 c_r_1
          replace hS := hS.call hb
          clear hb
          go_wp2_with fail
          refine Calls.mono (P3.out _ (hS.envQ hE)) ?_
          rintro e w4 ⟨rfl, hb⟩
          replace hS := hS.call hb
          clear hb
          replace hS := hS.add' #[.string ca, .string cb] 23
          obtain ⟨W0, hW0, hS, hz0⟩ := hS
          obtain ⟨W, hW⟩ : ∃ W, W = (w4.alloc (.cells #[.string ca, .string cb] 23)) := ⟨_, rfl⟩
          replace hS : BL w [(w4.heap.size, #[.string ca, .string cb], 23), (wr.heap.size, #[.string ca, .string cb], 23), (g, #[.string ca, .string cb, .string mn, .string md], 23), (w2.heap.size, #[.string mn, .string md], 23), (w.heap.size + 1, #[.int .i64 x0, .int .i64 x1, .int .i64 x2, .int .i64 x3], 24), (w.heap.size, #[.string n, .string d], 23)] W := by rw [hW, ← hW0]; exact hS
          clear hz0 hW0
          go_upto_region 8 with fail
          rw [← hW]
          clear hW
          obtain ⟨c_r_0, c_r_1⟩ := hS.c2 (wr.heap.size) _ _ _ (.tail _ (.head _))
          go_wp2_with fail
          refine Calls.mono (P2.out _) ?_
          rintro e w5 ⟨rfl, hb⟩
          clear c_r_0 c_r_1
          replace hS := hS.call hb
          clear hb
          obtain ⟨c_r_0, c_r_1⟩ := hS.c2 (wr.heap.size) _ _ _ (.tail _ (.head _))
          obtain ⟨c_t_0, c_t_1⟩ := hS.c2 (w4.heap.size) _ _ _ (.head _)
          go_wp2_with fail
          refine Calls.mono (V1.out _ (hS.envQ hE).env) ?_
          rintro e w5' ⟨rfl, hb⟩
          replace hS := hS.call hb
          clear hb c_r_0 c_r_1 c_t_0 c_t_1
          obtain ⟨c_r_0, c_r_1⟩ := hS.c2 (wr.heap.size) _ _ _ (.tail _ (.head _))
          obtain ⟨c_t_0, c_t_1⟩ := hS.c2 (w4.heap.size) _ _ _ (.head _)
          go_wp2_with fail
          refine Calls.mono (V1.out _ (hS.envQ hE).env) ?_
          rintro e w6' ⟨rfl, hb⟩
          replace hS := hS.call hb
          clear hb c_r_0 c_r_1 c_t_0 c_t_1
          go_wp2_with fail
          exact ⟨⟨.inr (.inl rfl), hS.drop (fun p hp => List.mem_cons_of_mem _ (List.mem_cons_of_mem _ hp))⟩, by simp [intOf]⟩
        · rw [h1] at V1
          rw [h3] at P3
          rw [h2] at P1 P2 P3
          clear h1 h2 h3 sa sb hl
          obtain ⟨c_g_0, c_g_1, c_g_2, c_g_3⟩ := hS.c4 (g) _ _ _ _ _ (.head _)
          go_upto_region 6 with fail
          replace hS := hS.add' #[.string ca, .string cb] 23
          obtain ⟨W, hW, hS, hz⟩ := hS
          rw [← hW]
          clear hW hz c_g_0 c_g_1 c_g_2 c_g_3
          obtain ⟨c_r_0, c_r_1⟩ := hS.c2 (wr.heap.size) _ _ _ (.head _)
          go_wp2_with fail
          refine Calls.mono (P1.out _ (hS.envQ hE).env) ?_
          rintro e w6 ⟨rfl, hb⟩
          clear c_r_0 c_r_1
          replace hS := hS.call hb
          clear hb
          go_wp2_with fail
          refine Calls.mono (P3.out _ (hS.envQ hE)) ?_
          rintro e w7 ⟨rfl, hb⟩
          replace hS := hS.call hb
          clear hb
          replace hS := hS.add' #[.string ⟨#[]⟩, .string ⟨#[]⟩] 23
          obtain ⟨W0, hW0, hS, hz0⟩ := hS
          obtain ⟨W, hW⟩ : ∃ W, W = (w7.alloc (.cells #[.string ⟨#[]⟩, .string ⟨#[]⟩] 23)) := ⟨_, rfl⟩
          replace hS : BL w [(w7.heap.size, #[.string ⟨#[]⟩, .string ⟨#[]⟩], 23), (wr.heap.size, #[.string ca, .string cb], 23), (g, #[.string ca, .string cb, .string mn, .string md], 23), (w2.heap.size, #[.string mn, .string md], 23), (w.heap.size + 1, #[.int .i64 x0, .int .i64 x1, .int .i64 x2, .int .i64 x3], 24), (w.heap.size, #[.string n, .string d], 23)] W := by rw [hW, ← hW0]; exact hS
          clear hz0 hW0
          go_upto_region 8 with fail
          rw [← hW]
          clear hW
          obtain ⟨c_r_0, c_r_1⟩ := hS.c2 (wr.heap.size) _ _ _ (.tail _ (.head _))
          go_wp2_with fail
          refine Calls.mono (P2.out _) ?_
          rintro e w8 ⟨rfl, hb⟩
          clear c_r_0 c_r_1
          replace hS := hS.call hb
          clear hb
          obtain ⟨c_r_0, c_r_1⟩ := hS.c2 (wr.heap.size) _ _ _ (.tail _ (.head _))
          obtain ⟨c_t_0, c_t_1⟩ := hS.c2 (w7.heap.size) _ _ _ (.head _)
          go_wp2_with fail
          refine Calls.mono (V1.out _ (hS.envQ hE).env) ?_
          rintro e w5' ⟨rfl, hb⟩
          replace hS := hS.call hb
          clear hb c_r_0 c_r_1 c_t_0 c_t_1
          obtain ⟨c_r_0, c_r_1⟩ := hS.c2 (wr.heap.size) _ _ _ (.tail _ (.head _))
          obtain ⟨c_t_0, c_t_1⟩ := hS.c2 (w7.heap.size) _ _ _ (.head _)
          go_wp2_with fail
          refine Calls.mono (V1.out _ (hS.envQ hE).env) ?_
          rintro e w6' ⟨rfl, hb⟩
          replace hS := hS.call hb
          clear hb c_r_0 c_r_1 c_t_0 c_t_1
          go_wp2_with fail
          exact ⟨⟨.inr (.inl rfl), hS.drop (fun p hp => List.mem_cons_of_mem _ (List.mem_cons_of_mem _ hp))⟩, by simp [intOf]⟩
      · as_aux_lemma =>
        have sa : mn.size ≤ 9223372036854775807 := Nat.le_trans hml.1 (by decide)
        have sb : md.size ≤ 9223372036854775807 := Nat.le_trans hml.2 (by decide)
        have hl := prt_len mn md
        have P1 := Lib.hid (fun W hE => qprint_any mn md W hE)
        have P2 := Lib.hid (fun W => qrprint_any mn md sa sb W)
        have P3 := Lib.hid (fun W hE => qparse_run (prt mn md) (by omega) W hE)
        have V1 := Lib.hid (fun W hE => qvalid_any mn md W hE)
        rcases par_prt mn md with ⟨h1, h2, h3⟩ | ⟨h1, h2, h3⟩
        · rw [h1] at V1
          rw [h3] at P3
          have e1 := empty_toList h2
          have e2 : ((prt mn md).toList == []) = false := by rw [beq_eq_false_iff_ne]; exact e1
          have e3 : (prt mn md).toList.isEmpty = false := by rw [List.isEmpty_eq_false_iff]; exact e1
          generalize prt mn md = pt at *
          clear h1 h2 h3 sa sb hl
          obtain ⟨c_g_0, c_g_1, c_g_2, c_g_3⟩ := hS.c4 (g) _ _ _ _ _ (.head _)
          go_upto_region 6 with fail
          replace hS := hS.add' #[.string mn, .string md] 23
          obtain ⟨W, hW, hS, hz⟩ := hS
          rw [← hW]
          clear hW hz c_g_0 c_g_1 c_g_2 c_g_3
          obtain ⟨c_r_0, c_r_1⟩ := hS.c2 (wr.heap.size) _ _ _ (.head _)
          go_wp2_with fail
          refine Calls.mono (P1.out _ (hS.envQ hE).env) ?_
          rintro e w9 ⟨rfl, hb⟩
          clear c_r_0 c_r_1
          replace hS := hS.call hb
          clear hb
          go_wp2_with fail
          refine Calls.mono (P3.out _ (hS.envQ hE)) ?_
          rintro e w10 ⟨rfl, hb⟩
          replace hS := hS.call hb
          clear hb
          replace hS := hS.add' #[.string mn, .string md] 23
          obtain ⟨W0, hW0, hS, hz0⟩ := hS
          obtain ⟨W, hW⟩ : ∃ W, W = (w10.alloc (.cells #[.string mn, .string md] 23)) := ⟨_, rfl⟩
          replace hS : BL w [(w10.heap.size, #[.string mn, .string md], 23), (wr.heap.size, #[.string mn, .string md], 23), (g, #[.string ca, .string cb, .string mn, .string md], 23), (w2.heap.size, #[.string mn, .string md], 23), (w.heap.size + 1, #[.int .i64 x0, .int .i64 x1, .int .i64 x2, .int .i64 x3], 24), (w.heap.size, #[.string n, .string d], 23)] W := by rw [hW, ← hW0]; exact hS
          clear hz0 hW0
          go_upto_region 8 with fail
          rw [← hW]
          clear hW
          obtain ⟨c_r_0, c_r_1⟩ := hS.c2 (wr.heap.size) _ _ _ (.tail _ (.head _))
          go_wp2_with fail
          refine Calls.mono (P2.out _) ?_
          rintro e w11 ⟨rfl, hb⟩
          clear c_r_0 c_r_1
          replace hS := hS.call hb
          clear hb
          obtain ⟨c_r_0, c_r_1⟩ := hS.c2 (wr.heap.size) _ _ _ (.tail _ (.head _))
          obtain ⟨c_t_0, c_t_1⟩ := hS.c2 (w10.heap.size) _ _ _ (.head _)
          go_wp2_with fail
          refine Calls.mono (V1.out _ (hS.envQ hE).env) ?_
          rintro e w5' ⟨rfl, hb⟩
          replace hS := hS.call hb
          clear hb c_r_0 c_r_1 c_t_0 c_t_1
          obtain ⟨c_r_0, c_r_1⟩ := hS.c2 (wr.heap.size) _ _ _ (.tail _ (.head _))
          obtain ⟨c_t_0, c_t_1⟩ := hS.c2 (w10.heap.size) _ _ _ (.head _)
          go_wp2_with fail
          refine Calls.mono (V1.out _ (hS.envQ hE).env) ?_
          rintro e w6' ⟨rfl, hb⟩
          replace hS := hS.call hb
          clear hb c_r_0 c_r_1 c_t_0 c_t_1
          go_wp2_with fail
          exact ⟨⟨.inr (.inr rfl), hS.drop (fun p hp => List.mem_cons_of_mem _ (List.mem_cons_of_mem _ hp))⟩, by simp [intOf]⟩
        · rw [h1] at V1
          rw [h3] at P3
          rw [h2] at P1 P2 P3
          clear h1 h2 h3 sa sb hl
          obtain ⟨c_g_0, c_g_1, c_g_2, c_g_3⟩ := hS.c4 (g) _ _ _ _ _ (.head _)
          go_upto_region 6 with fail
          replace hS := hS.add' #[.string mn, .string md] 23
          obtain ⟨W, hW, hS, hz⟩ := hS
          rw [← hW]
          clear hW hz c_g_0 c_g_1 c_g_2 c_g_3
          obtain ⟨c_r_0, c_r_1⟩ := hS.c2 (wr.heap.size) _ _ _ (.head _)
          go_wp2_with fail
          refine Calls.mono (P1.out _ (hS.envQ hE).env) ?_
          rintro e w12 ⟨rfl, hb⟩
          clear c_r_0 c_r_1
          replace hS := hS.call hb
          clear hb
          go_wp2_with fail
          refine Calls.mono (P3.out _ (hS.envQ hE)) ?_
          rintro e w13 ⟨rfl, hb⟩
          replace hS := hS.call hb
          clear hb
          replace hS := hS.add' #[.string ⟨#[]⟩, .string ⟨#[]⟩] 23
          obtain ⟨W0, hW0, hS, hz0⟩ := hS
          obtain ⟨W, hW⟩ : ∃ W, W = (w13.alloc (.cells #[.string ⟨#[]⟩, .string ⟨#[]⟩] 23)) := ⟨_, rfl⟩
          replace hS : BL w [(w13.heap.size, #[.string ⟨#[]⟩, .string ⟨#[]⟩], 23), (wr.heap.size, #[.string mn, .string md], 23), (g, #[.string ca, .string cb, .string mn, .string md], 23), (w2.heap.size, #[.string mn, .string md], 23), (w.heap.size + 1, #[.int .i64 x0, .int .i64 x1, .int .i64 x2, .int .i64 x3], 24), (w.heap.size, #[.string n, .string d], 23)] W := by rw [hW, ← hW0]; exact hS
          clear hz0 hW0
          go_upto_region 8 with fail
          rw [← hW]
          clear hW
          obtain ⟨c_r_0, c_r_1⟩ := hS.c2 (wr.heap.size) _ _ _ (.tail _ (.head _))
          go_wp2_with fail
          refine Calls.mono (P2.out _) ?_
          rintro e w14 ⟨rfl, hb⟩
          clear c_r_0 c_r_1
          replace hS := hS.call hb
          clear hb
          obtain ⟨c_r_0, c_r_1⟩ := hS.c2 (wr.heap.size) _ _ _ (.tail _ (.head _))
          obtain ⟨c_t_0, c_t_1⟩ := hS.c2 (w13.heap.size) _ _ _ (.head _)
          go_wp2_with fail
          refine Calls.mono (V1.out _ (hS.envQ hE).env) ?_
          rintro e w5' ⟨rfl, hb⟩
          replace hS := hS.call hb
          clear hb c_r_0 c_r_1 c_t_0 c_t_1
          obtain ⟨c_r_0, c_r_1⟩ := hS.c2 (wr.heap.size) _ _ _ (.tail _ (.head _))
          obtain ⟨c_t_0, c_t_1⟩ := hS.c2 (w13.heap.size) _ _ _ (.head _)
          go_wp2_with fail
          refine Calls.mono (V1.out _ (hS.envQ hE).env) ?_
          rintro e w6' ⟨rfl, hb⟩
          replace hS := hS.call hb
          clear hb c_r_0 c_r_1 c_t_0 c_t_1
          go_wp2_with fail
          exact ⟨⟨.inr (.inr rfl), hS.drop (fun p hp => List.mem_cons_of_mem _ (List.mem_cons_of_mem _ hp))⟩, by simp [intOf]⟩
      · skip
        have hro : rOk mn md = true := by have := rOk_t Im.ok; rw [← Im.1, ← Im.2.1] at this; exact this
        have PM := Lib.hid (fun W => qrprint_any mn md (Nat.le_trans hml.1 (by decide)) (Nat.le_trans hml.2 (by decide)) W)
        have e1 := empty_toList (prt_ne hro)
        have e2 : ((prt mn md).toList == []) = false := by rw [beq_eq_false_iff_ne]; exact e1
        have e3 : (prt mn md).toList.isEmpty = false := by rw [List.isEmpty_eq_false_iff]; exact e1
        have hpl := prt_len mn md
        have hp0 : 0 < (prt mn md).size := size_pos (prt_ne hro)
        generalize prt mn md = pm at *
        clear hro
        have PK := Lib.hid (fun W => pick4_any at_ (pm.size : Int) Fa (by omega) (by omega) W)
        have k0 := pkv_nonneg (c := at_) (m := (pm.size : Int)) (by omega)
        have k1 := pkv_lt (c := at_) (m := (pm.size : Int)) (by omega)
        generalize pkv at_ (pm.size : Int) = kz at *
        obtain ⟨k, rfl⟩ : ∃ k : Nat, kz = k := ⟨kz.toNat, by omega⟩
        have hk : k < pm.size := by omega
        clear k0 k1
        obtain ⟨kr, hkr, hkr1, hkr2⟩ : ∃ k : Nat, min (raw.size : Int) 420 = (k : Int) ∧ k ≤ raw.size ∧ k ≤ 420 := ⟨min raw.size 420, by omega, by omega, by omega⟩
        obtain ⟨b, rfl⟩ := byte_of hc
        have HKR := Lib.hid hkr
        clear hkr
        obtain ⟨c_m_0, c_m_1⟩ := hS.c2 (w2.heap.size) _ _ _ (.tail _ (.head _))
        go_wp2_with fail
        refine Calls.mono (PM.out _) ?_
        rintro e w15 ⟨rfl, hb⟩
        clear c_m_0 c_m_1
        replace hS := hS.call hb
        clear hb
        go_wp2_with fail
        refine Calls.mono (PK.out _) ?_
        rintro e w' ⟨rfl, rfl⟩
        have hkr := HKR.out
        go_upto_region 15 with fail
        go_cut [94, 95, 96] (fun sl le ix wx => ∃ (g2 : Nat) (u0 u1 : ByteArray), sl = .slice (some ⟨g2, 0, none⟩) 2 2 ∧ le = .int .i64 2 ∧ ix = .int .i64 0 ∧ u0.size ≤ 3000 ∧ u1.size ≤ 3000 ∧ BL w ((g2, #[.string u0, .string u1], 9) :: [(g, #[.string ca, .string cb, .string mn, .string md], 23), (w2.heap.size, #[.string mn, .string md], 23), (w.heap.size + 1, #[.int .i64 x0, .int .i64 x1, .int .i64 x2, .int .i64 x3], 24), (w.heap.size, #[.string n, .string d], 23)]) wx)
        case first =>
          have z0 : (0 : Int) ≤ (k : Int) := by omega
          have z1 : (k : Int) ≤ (pm.size : Int) := by omega
          have z2 : (k : Int) + 1 ≤ (pm.size : Int) := by omega
          have z3 : (0 : Int) ≤ (k : Int) + 1 := by omega
          have z4 : ((k : Int) + 1).toNat = k + 1 := by omega
          have z5 : IntKind.i64.wrap ((k : Int) + 1) = (k : Int) + 1 := IntWalk.i64_in _ (by omega)
          have hcv := run_str_one w15.drew b _ rfl 35 Tryz.underlying35
          have hcv2 := run_str_one_d w15 b _ rfl 35 Tryz.underlying35
          have hC0 : ∀ W', BL w [(g, #[.string ca, .string cb, .string mn, .string md], 23), (w2.heap.size, #[.string mn, .string md], 23), (w.heap.size + 1, #[.int .i64 x0, .int .i64 x1, .int .i64 x2, .int .i64 x3], 24), (w.heap.size, #[.string n, .string d], 23)] W' → (W'.cell? ⟨w2.heap.size, 0, none⟩ = some (.string mn) ∧ W'.cell? ⟨w2.heap.size, 1, none⟩ = some (.string md)) := fun W' h => ⟨(h.cell (w2.heap.size) _ _ (.tail _ (.head _)) 0), (h.cell (w2.heap.size) _ _ (.tail _ (.head _)) 1)⟩
          have hC := Lib.hid hC0
          clear hC0
          obtain ⟨x0', x1'⟩ := hC.out _ hS
          have h0 := hS
          replace hS := hS.drew
          go_region
          all_goals (go_wp2_with fail; go_meet; exact ⟨_, _, _, rfl, rfl, rfl, by simp; omega, text_size hpl k b, h0.pair _ _ _ _⟩)
        case rest =>
          clear hS hkr
          obtain ⟨g2, u0, u1, rfl, rfl, rfl, hu0, hu1, hS⟩ := hcut
          clear PM PK HKR e1 e2 e3 hpl hp0 hk hkr1 hkr2 hml Im Bm
          go_wp2_with fail
          obtain ⟨wo, rfl⟩ : ∃ wo : World, wo = wr := ⟨_, rfl⟩
          go_loopw [96] (fun i wr => (i = .int .i64 0 ∨ i = .int .i64 1 ∨ i = .int .i64 2) ∧ BL w [(g2, #[.string u0, .string u1], 9), (g, #[.string ca, .string cb, .string mn, .string md], 23), (w2.heap.size, #[.string mn, .string md], 23), (w.heap.size + 1, #[.int .i64 x0, .int .i64 x1, .int .i64 x2, .int .i64 x3], 24), (w.heap.size, #[.string n, .string d], 23)] wr) (fun i _ => 2 - (intOf i).toNat)
          case atStart => exact ⟨.inl rfl, hS⟩
          case round =>
            clear hS
            obtain ⟨hi, hS⟩ := hrel
            rcases hi with rfl | rfl | rfl
            · as_aux_lemma =>
              have K1 := Lib.hid (fun W hE => qparse_run u0 (by omega) W hE)
              have K2 := Lib.hid (fun W => qrparse_any u0 (by omega) W)
              rcases par_any u0 with ⟨pn, pd, h1, h2⟩ | h1
              · rw [h1] at K1 K2
                have P1 := Lib.hid (fun W hE => qprint_any pn pd W hE)
                rw [h2] at P1
                clear h1 h2
                obtain ⟨c_g2_0, c_g2_1⟩ := hS.c2 (g2) _ _ _ (.head _)
                go_wp2_with fail
                refine Calls.mono (K1.out _ (hS.envQ hE)) ?_
                rintro e w41 ⟨rfl, hb⟩
                clear c_g2_0 c_g2_1
                replace hS := hS.call hb
                clear hb
                replace hS := hS.add' #[.string pn, .string pd] 23
                obtain ⟨W0, hW0, hS, hz0⟩ := hS
                obtain ⟨W, hW⟩ : ∃ W, W = (w41.alloc (.cells #[.string pn, .string pd] 23)) := ⟨_, rfl⟩
                replace hS : BL w [(w41.heap.size, #[.string pn, .string pd], 23), (g2, #[.string u0, .string u1], 9), (g, #[.string ca, .string cb, .string mn, .string md], 23), (w2.heap.size, #[.string mn, .string md], 23), (w.heap.size + 1, #[.int .i64 x0, .int .i64 x1, .int .i64 x2, .int .i64 x3], 24), (w.heap.size, #[.string n, .string d], 23)] W := by rw [hW, ← hW0]; exact hS
                clear hz0 hW0
                go_wp2_with fail
                rw [← hW]
                clear hW
                refine Calls.mono (K2.out _) ?_
                rintro e w42 ⟨rfl, hb⟩
                replace hS := hS.call hb
                clear hb
                replace hS := hS.add' #[.string pn, .string pd] 23
                obtain ⟨W0, hW0, hS, hz0⟩ := hS
                obtain ⟨W, hW⟩ : ∃ W, W = (w42.alloc (.cells #[.string pn, .string pd] 23)) := ⟨_, rfl⟩
                replace hS : BL w [(w42.heap.size, #[.string pn, .string pd], 23), (w41.heap.size, #[.string pn, .string pd], 23), (g2, #[.string u0, .string u1], 9), (g, #[.string ca, .string cb, .string mn, .string md], 23), (w2.heap.size, #[.string mn, .string md], 23), (w.heap.size + 1, #[.int .i64 x0, .int .i64 x1, .int .i64 x2, .int .i64 x3], 24), (w.heap.size, #[.string n, .string d], 23)] W := by rw [hW, ← hW0]; exact hS
                clear hz0 hW0
                go_upto_region 20 with fail
                rw [← hW]
                clear hW
                obtain ⟨c_p1_0, c_p1_1⟩ := hS.c2 (w41.heap.size) _ _ _ (.tail _ (.head _))
                obtain ⟨c_p2_0, c_p2_1⟩ := hS.c2 (w42.heap.size) _ _ _ (.head _)
                go_wp2_with fail
                refine Calls.mono (P1.out _ (hS.envQ hE).env) ?_
                rintro e w9' ⟨rfl, hb⟩
                replace hS := hS.call hb
                clear hb c_p1_0 c_p1_1 c_p2_0 c_p2_1
                go_wp2_with fail
                exact ⟨⟨.inr (.inl rfl), hS.drop (fun p hp => List.mem_cons_of_mem _ (List.mem_cons_of_mem _ hp))⟩, by simp [intOf]⟩
              · rw [h1] at K1 K2
                clear h1
                obtain ⟨c_g2_0, c_g2_1⟩ := hS.c2 (g2) _ _ _ (.head _)
                go_wp2_with fail
                refine Calls.mono (K1.out _ (hS.envQ hE)) ?_
                rintro e w41 ⟨rfl, hb⟩
                clear c_g2_0 c_g2_1
                replace hS := hS.call hb
                clear hb
                replace hS := hS.add' #[.string ⟨#[]⟩, .string ⟨#[]⟩] 23
                obtain ⟨W0, hW0, hS, hz0⟩ := hS
                obtain ⟨W, hW⟩ : ∃ W, W = (w41.alloc (.cells #[.string ⟨#[]⟩, .string ⟨#[]⟩] 23)) := ⟨_, rfl⟩
                replace hS : BL w [(w41.heap.size, #[.string ⟨#[]⟩, .string ⟨#[]⟩], 23), (g2, #[.string u0, .string u1], 9), (g, #[.string ca, .string cb, .string mn, .string md], 23), (w2.heap.size, #[.string mn, .string md], 23), (w.heap.size + 1, #[.int .i64 x0, .int .i64 x1, .int .i64 x2, .int .i64 x3], 24), (w.heap.size, #[.string n, .string d], 23)] W := by rw [hW, ← hW0]; exact hS
                clear hz0 hW0
                go_wp2_with fail
                rw [← hW]
                clear hW
                refine Calls.mono (K2.out _) ?_
                rintro e w42 ⟨rfl, hb⟩
                replace hS := hS.call hb
                clear hb
                replace hS := hS.add' #[.string ⟨#[]⟩, .string ⟨#[]⟩] 23
                obtain ⟨W0, hW0, hS, hz0⟩ := hS
                obtain ⟨W, hW⟩ : ∃ W, W = (w42.alloc (.cells #[.string ⟨#[]⟩, .string ⟨#[]⟩] 23)) := ⟨_, rfl⟩
                replace hS : BL w [(w42.heap.size, #[.string ⟨#[]⟩, .string ⟨#[]⟩], 23), (w41.heap.size, #[.string ⟨#[]⟩, .string ⟨#[]⟩], 23), (g2, #[.string u0, .string u1], 9), (g, #[.string ca, .string cb, .string mn, .string md], 23), (w2.heap.size, #[.string mn, .string md], 23), (w.heap.size + 1, #[.int .i64 x0, .int .i64 x1, .int .i64 x2, .int .i64 x3], 24), (w.heap.size, #[.string n, .string d], 23)] W := by rw [hW, ← hW0]; exact hS
                clear hz0 hW0
                go_upto_region 20 with fail
                rw [← hW]
                clear hW
                obtain ⟨c_p1_0, c_p1_1⟩ := hS.c2 (w41.heap.size) _ _ _ (.tail _ (.head _))
                obtain ⟨c_p2_0, c_p2_1⟩ := hS.c2 (w42.heap.size) _ _ _ (.head _)
                go_wp2_with fail
                exact ⟨⟨.inr (.inl rfl), hS.drop (fun p hp => List.mem_cons_of_mem _ (List.mem_cons_of_mem _ hp))⟩, by simp [intOf]⟩
            · as_aux_lemma =>
              have K1 := Lib.hid (fun W hE => qparse_run u1 (by omega) W hE)
              have K2 := Lib.hid (fun W => qrparse_any u1 (by omega) W)
              rcases par_any u1 with ⟨pn, pd, h1, h2⟩ | h1
              · rw [h1] at K1 K2
                have P1 := Lib.hid (fun W hE => qprint_any pn pd W hE)
                rw [h2] at P1
                clear h1 h2
                obtain ⟨c_g2_0, c_g2_1⟩ := hS.c2 (g2) _ _ _ (.head _)
                go_wp2_with fail
                refine Calls.mono (K1.out _ (hS.envQ hE)) ?_
                rintro e w41 ⟨rfl, hb⟩
                clear c_g2_0 c_g2_1
                replace hS := hS.call hb
                clear hb
                replace hS := hS.add' #[.string pn, .string pd] 23
                obtain ⟨W0, hW0, hS, hz0⟩ := hS
                obtain ⟨W, hW⟩ : ∃ W, W = (w41.alloc (.cells #[.string pn, .string pd] 23)) := ⟨_, rfl⟩
                replace hS : BL w [(w41.heap.size, #[.string pn, .string pd], 23), (g2, #[.string u0, .string u1], 9), (g, #[.string ca, .string cb, .string mn, .string md], 23), (w2.heap.size, #[.string mn, .string md], 23), (w.heap.size + 1, #[.int .i64 x0, .int .i64 x1, .int .i64 x2, .int .i64 x3], 24), (w.heap.size, #[.string n, .string d], 23)] W := by rw [hW, ← hW0]; exact hS
                clear hz0 hW0
                go_wp2_with fail
                rw [← hW]
                clear hW
                refine Calls.mono (K2.out _) ?_
                rintro e w42 ⟨rfl, hb⟩
                replace hS := hS.call hb
                clear hb
                replace hS := hS.add' #[.string pn, .string pd] 23
                obtain ⟨W0, hW0, hS, hz0⟩ := hS
                obtain ⟨W, hW⟩ : ∃ W, W = (w42.alloc (.cells #[.string pn, .string pd] 23)) := ⟨_, rfl⟩
                replace hS : BL w [(w42.heap.size, #[.string pn, .string pd], 23), (w41.heap.size, #[.string pn, .string pd], 23), (g2, #[.string u0, .string u1], 9), (g, #[.string ca, .string cb, .string mn, .string md], 23), (w2.heap.size, #[.string mn, .string md], 23), (w.heap.size + 1, #[.int .i64 x0, .int .i64 x1, .int .i64 x2, .int .i64 x3], 24), (w.heap.size, #[.string n, .string d], 23)] W := by rw [hW, ← hW0]; exact hS
                clear hz0 hW0
                go_upto_region 20 with fail
                rw [← hW]
                clear hW
                obtain ⟨c_p1_0, c_p1_1⟩ := hS.c2 (w41.heap.size) _ _ _ (.tail _ (.head _))
                obtain ⟨c_p2_0, c_p2_1⟩ := hS.c2 (w42.heap.size) _ _ _ (.head _)
                go_wp2_with fail
                refine Calls.mono (P1.out _ (hS.envQ hE).env) ?_
                rintro e w9' ⟨rfl, hb⟩
                replace hS := hS.call hb
                clear hb c_p1_0 c_p1_1 c_p2_0 c_p2_1
                go_wp2_with fail
                exact ⟨⟨.inr (.inr rfl), hS.drop (fun p hp => List.mem_cons_of_mem _ (List.mem_cons_of_mem _ hp))⟩, by simp [intOf]⟩
              · rw [h1] at K1 K2
                clear h1
                obtain ⟨c_g2_0, c_g2_1⟩ := hS.c2 (g2) _ _ _ (.head _)
                go_wp2_with fail
                refine Calls.mono (K1.out _ (hS.envQ hE)) ?_
                rintro e w41 ⟨rfl, hb⟩
                clear c_g2_0 c_g2_1
                replace hS := hS.call hb
                clear hb
                replace hS := hS.add' #[.string ⟨#[]⟩, .string ⟨#[]⟩] 23
                obtain ⟨W0, hW0, hS, hz0⟩ := hS
                obtain ⟨W, hW⟩ : ∃ W, W = (w41.alloc (.cells #[.string ⟨#[]⟩, .string ⟨#[]⟩] 23)) := ⟨_, rfl⟩
                replace hS : BL w [(w41.heap.size, #[.string ⟨#[]⟩, .string ⟨#[]⟩], 23), (g2, #[.string u0, .string u1], 9), (g, #[.string ca, .string cb, .string mn, .string md], 23), (w2.heap.size, #[.string mn, .string md], 23), (w.heap.size + 1, #[.int .i64 x0, .int .i64 x1, .int .i64 x2, .int .i64 x3], 24), (w.heap.size, #[.string n, .string d], 23)] W := by rw [hW, ← hW0]; exact hS
                clear hz0 hW0
                go_wp2_with fail
                rw [← hW]
                clear hW
                refine Calls.mono (K2.out _) ?_
                rintro e w42 ⟨rfl, hb⟩
                replace hS := hS.call hb
                clear hb
                replace hS := hS.add' #[.string ⟨#[]⟩, .string ⟨#[]⟩] 23
                obtain ⟨W0, hW0, hS, hz0⟩ := hS
                obtain ⟨W, hW⟩ : ∃ W, W = (w42.alloc (.cells #[.string ⟨#[]⟩, .string ⟨#[]⟩] 23)) := ⟨_, rfl⟩
                replace hS : BL w [(w42.heap.size, #[.string ⟨#[]⟩, .string ⟨#[]⟩], 23), (w41.heap.size, #[.string ⟨#[]⟩, .string ⟨#[]⟩], 23), (g2, #[.string u0, .string u1], 9), (g, #[.string ca, .string cb, .string mn, .string md], 23), (w2.heap.size, #[.string mn, .string md], 23), (w.heap.size + 1, #[.int .i64 x0, .int .i64 x1, .int .i64 x2, .int .i64 x3], 24), (w.heap.size, #[.string n, .string d], 23)] W := by rw [hW, ← hW0]; exact hS
                clear hz0 hW0
                go_upto_region 20 with fail
                rw [← hW]
                clear hW
                obtain ⟨c_p1_0, c_p1_1⟩ := hS.c2 (w41.heap.size) _ _ _ (.tail _ (.head _))
                obtain ⟨c_p2_0, c_p2_1⟩ := hS.c2 (w42.heap.size) _ _ _ (.head _)
                go_wp2_with fail
                exact ⟨⟨.inr (.inr rfl), hS.drop (fun p hp => List.mem_cons_of_mem _ (List.mem_cons_of_mem _ hp))⟩, by simp [intOf]⟩
            · as_aux_lemma =>
              go_wp2
              go_ret
              exact ⟨rfl, hS.below⟩
end Go.Proofs.YtkmlcnkhijpndaaGreatDoor
