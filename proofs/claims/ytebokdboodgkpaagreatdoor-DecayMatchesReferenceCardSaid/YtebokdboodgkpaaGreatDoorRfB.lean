/- putlogref26: most, bound, rate, Refute, right. -/
import Derived.Test.YtebokdboodgkpaaGreatDoorRfV
import Derived.Deep.RegionHeld3
import Derived.Deep.DeepCutAuto
import Derived.Deep.QuietTactic
import Derived.BigQuiet
namespace Go.Proofs.YtebokdboodgkpaaGreatDoor
open Go.RowKit
open DecM (Dt gd gd_mem gd_lt okD okF Ln refD f1 f2 f3 apB Apart mx mostN rbnd stepR prs)
attribute [local go_sem] Oper.semAt_some


set_option maxRecDepth 100000 in
set_option maxHeartbeats 16000000 in
theorem most26_any (p q : Dt) (t : Int) (hp : DtOk p) (hq : DtOk q) (ht : 0 ≤ t ∧ t ≤ 800000) (w : World) :
    Calls Tryz.prog 65 #[dtV p, dtV q, .int .i64 t] w (Rets w (.tuple #[.int .i64 (mostN p q t), .int .i64 (q.t - p.t)])) := by
  have w1 : IntKind.i64.wrap (q.t - t) = q.t - t := IntWalk.i64_in _ (by have := hq.t; omega)
  have w2 : IntKind.i64.wrap (t - p.t) = t - p.t := IntWalk.i64_in _ (by have := hp.t; omega)
  have w3 : IntKind.i64.wrap (q.t - p.t) = q.t - p.t := IntWalk.i64_in _ (by have := hp.t; have := hq.t; omega)
  have T1 := Lib.hid (fun W => times26_any (q.t - t) p.lo p.hi (by have := hq.t; omega) hp.lo hp.hi W)
  have T2 := Lib.hid (fun W => times26_any (t - p.t) q.lo q.hi (by have := hp.t; omega) hq.lo hq.hi W)
  have b1 := mx_bd (n := q.t - t) (by have := hq.t; omega) hp.lo hp.hi
  have b2 := mx_bd (n := t - p.t) (by have := hp.t; omega) hq.lo hq.hi
  have he := Lib.hid (show mx (q.t - t) p.lo p.hi + mx (t - p.t) q.lo q.hi = mostN p q t from rfl)
  generalize mostN p q t = r at *
  generalize mx (q.t - t) p.lo p.hi = m1 at *
  generalize mx (t - p.t) q.lo q.hi = m2 at *
  have w4 : IntKind.i64.wrap (m1 + m2) = r := by rw [← he.out]; exact IntWalk.i64_in _ (by omega)
  clear b1 b2 he ht
  obtain ⟨pt, pl, ph⟩ := p
  obtain ⟨qt, ql, qh⟩ := q
  unfold dtV
  dsimp only at *
  clear hp hq
  have Sv0 := BL.start w
  obtain ⟨V1, ev1, Sv1, zv1⟩ := Sv0.add' #[.int .i64 pt, .int .i64 pl, .int .i64 ph] 58
  obtain ⟨V2, ev2, Sv2, zv2⟩ := Sv1.add' #[.int .i64 qt, .int .i64 ql, .int .i64 qh] 58
  rw [zv1] at Sv2
  have hV : V2 = ((w.alloc (.cells #[.int .i64 pt, .int .i64 pl, .int .i64 ph] 58)).alloc (.cells #[.int .i64 qt, .int .i64 ql, .int .i64 qh] 58)) := by rw [ev2, ev1]
  have hS : BL w [(w.heap.size + 1, #[.int .i64 qt, .int .i64 ql, .int .i64 qh], 58), (w.heap.size, #[.int .i64 pt, .int .i64 pl, .int .i64 ph], 58)] V2 := Sv2
  clear ev1 ev2 zv1 zv2 Sv0 Sv1 Sv2
  go_enter Tryz.func65, Tryz.ntmps65
  go_upto_region 1 with fail
  rw [← hV]
  clear hV
  have hC0 : ∀ W', BL w [(w.heap.size + 1, #[.int .i64 qt, .int .i64 ql, .int .i64 qh], 58), (w.heap.size, #[.int .i64 pt, .int .i64 pl, .int .i64 ph], 58)] W' → (W'.cell? ⟨w.heap.size, 0, none⟩ = some (.int .i64 pt) ∧ W'.cell? ⟨w.heap.size, 1, none⟩ = some (.int .i64 pl) ∧ W'.cell? ⟨w.heap.size, 2, none⟩ = some (.int .i64 ph) ∧ W'.cell? ⟨w.heap.size + 1, 0, none⟩ = some (.int .i64 qt) ∧ W'.cell? ⟨w.heap.size + 1, 1, none⟩ = some (.int .i64 ql) ∧ W'.cell? ⟨w.heap.size + 1, 2, none⟩ = some (.int .i64 qh)) := fun W' h => ⟨(h.cell (w.heap.size) _ _ (.tail _ (.head _)) 0), (h.cell (w.heap.size) _ _ (.tail _ (.head _)) 1), (h.cell (w.heap.size) _ _ (.tail _ (.head _)) 2), (h.cell (w.heap.size + 1) _ _ (.head _) 0), (h.cell (w.heap.size + 1) _ _ (.head _) 1), (h.cell (w.heap.size + 1) _ _ (.head _) 2)⟩
  have hC := Lib.hid hC0
  clear hC0
  obtain ⟨x0', x1', x2', x3', x4', x5'⟩ := hC.out _ hS
  replace hS := hS.drew
  go_region_held3 (fun w' => w'.cell? ⟨w.heap.size, 0, none⟩ = some (.int .i64 pt) ∧ w'.cell? ⟨w.heap.size, 1, none⟩ = some (.int .i64 pl) ∧ w'.cell? ⟨w.heap.size, 2, none⟩ = some (.int .i64 ph) ∧ w'.cell? ⟨w.heap.size + 1, 0, none⟩ = some (.int .i64 qt) ∧ w'.cell? ⟨w.heap.size + 1, 1, none⟩ = some (.int .i64 ql) ∧ w'.cell? ⟨w.heap.size + 1, 2, none⟩ = some (.int .i64 qh))
    (first | with_reducible exact hC.out _ hS | go_keep)
    (first | (go_at_call 89; (with_reducible refine Calls.mono (T1.out _) ?_); rintro e w' ⟨rfl, hb⟩; replace hS := hS.call hb; clear hb) | (go_at_call 89; (with_reducible refine Calls.mono (T2.out _) ?_); rintro e w' ⟨rfl, hb⟩; replace hS := hS.call hb; clear hb))
  go_wp2
  refine bodyPost_ret (resT2 rfl _ _ _) rfl ?_
  exact ⟨rfl, hS.below⟩

/-- What is left of the pairs, at i. -/
def rst (f : Dt → Dt → Int) (l : List Dt) (i : Nat) : List (Int × Int) := (prs (l.drop i)).map fun x => (f x.1 x.2, x.2.t - x.1.t)
/-- What is left of the pairs with datum i, at k. -/
def rsk (f : Dt → Dt → Int) (l : List Dt) (i k : Nat) : List (Int × Int) := ((l.drop k).map fun q => (gd l i, q)).map fun x => (f x.1 x.2, x.2.t - x.1.t)
theorem rst_step {f : Dt → Dt → Int} {l : List Dt} {i : Nat} (h : i < l.length) : rst f l i = rsk f l i (i + 1) ++ rst f l (i + 1) := by
  unfold rst rsk; rw [drop_gd h, prs, List.map_append]
theorem rst_end {f : Dt → Dt → Int} {l : List Dt} {i : Nat} (h : ¬ i < l.length) : rst f l i = [] := by
  unfold rst; rw [List.drop_eq_nil_of_le (by omega)]; rfl
theorem rsk_step {f : Dt → Dt → Int} {l : List Dt} {i k : Nat} (h : k < l.length) : rsk f l i k = (f (gd l i) (gd l k), (gd l k).t - (gd l i).t) :: rsk f l i (k + 1) := by
  unfold rsk; rw [drop_gd h, List.map_cons, List.map_cons]
theorem rsk_end {f : Dt → Dt → Int} {l : List Dt} {i k : Nat} (h : ¬ k < l.length) : rsk f l i k = [] := by
  unfold rsk; rw [List.drop_eq_nil_of_le (by omega)]; rfl
theorem rbnd_rst (f : Dt → Dt → Int) (l : List Dt) : rbnd l f = (rst f l 0).foldl stepR (f (gd l 0) (gd l 1), (gd l 1).t - (gd l 0).t) := rfl
theorem stepR_if (n d m e : Int) : stepR (n, d) (m, e) = if m * d < n * e then (m, e) else (n, d) := rfl
theorem mostN_bd {p q : Dt} {t : Int} (hp : DtOk p) (hq : DtOk q) (ht : 0 ≤ t ∧ t ≤ 800000) : -1600000000000 ≤ mostN p q t ∧ mostN p q t ≤ 1600000000000 := by
  have b1 := mx_bd (n := q.t - t) (by have := hq.t; omega) hp.lo hp.hi
  have b2 := mx_bd (n := t - p.t) (by have := hp.t; omega) hq.lo hq.hi
  show _ ≤ mx (q.t - t) p.lo p.hi + mx (t - p.t) q.lo q.hi ∧ mx (q.t - t) p.lo p.hi + mx (t - p.t) q.lo q.hi ≤ _
  omega

set_option maxRecDepth 100000 in
set_option maxHeartbeats 16000000 in
/-- putlogref26.bound. -/
theorem bound26_any (v : Value) (l : List Dt) (t : Int) (ht : 0 ≤ t ∧ t ≤ 800000) (w : World) (hok : okD l = true) (h2 : 2 ≤ l.length) (h : SlD w v l) :
    Calls Tryz.prog 45 #[v, .int .i64 t] w (Rets w (.tuple #[.int .i64 (rbnd l (fun p q => mostN p q t)).1, .int .i64 (rbnd l (fun p q => mostN p q t)).2])) := by
  have hl := (DecM.okD_iff.1 hok).2.2
  have hdt := fun d (hd : d ∈ l) => dtOk_of hok hd
  have hasc : ∀ i j : Nat, i < j → j < l.length → (gd l i).t < (gd l j).t := fun i j h hj => DecM.gd_asc (DecM.okD_good hok) h hj
  have HF := Lib.hid (rbnd_rst (fun p q => mostN p q t) l)
  have HD := Lib.hid hdt
  have HA := Lib.hid hasc
  generalize rbnd l (fun p q => mostN p q t) = res at *
  clear hdt hasc hok
  rcases h with ⟨rfl, rfl⟩ | ⟨b, off, cap, rfl, h1, hcap, h3, h4⟩
  · exact absurd h2 (by simp)
  · have g0 : (0 : Int) < l.length := by omega
    have g1 : (1 : Int) < l.length := by omega
    have g0' : 0 < l.length := by omega
    have g0'' : ¬ (l = []) := fun e => by rw [e] at g0'; exact absurd g0' (by decide)
    have g1' : 1 < l.length := by omega
    have z0 := h4 0 (by omega)
    have z1 := h4 1 (by omega)
    have d0 := HD.out _ (gd_mem (show 0 < l.length by omega))
    have d1 := HD.out _ (gd_mem (show 1 < l.length by omega))
    have a01 := HA.out 0 1 (by omega) (by omega)
    rw [Nat.zero_mul, Nat.add_zero] at z0
    rw [Nat.one_mul] at z1
    try dsimp only at HF
    generalize gd l 0 = p at *
    generalize gd l 1 = q at *
    have hB := Below.refl w.heap.size w
    have MO := Lib.hid (show ∀ W, Calls Tryz.prog 65 #[.agg #[.int .i64 p.t, .int .i64 p.lo, .int .i64 p.hi], .agg #[.int .i64 q.t, .int .i64 q.lo, .int .i64 q.hi], .int .i64 t] W (Rets W (.tuple #[.int .i64 (mostN p q t), .int .i64 (q.t - p.t)])) from fun W => most26_any p q t d0 d1 ht W)
    have fb := mostN_bd d0 d1 ht
    have := d0.t
    have := d1.t
    generalize hM : mostN p q t = M at *
    go_enter Tryz.func45, Tryz.ntmps45
    have hC := Lib.hid (show ∀ w' : World, Below w.heap.size w w' → (w'.cell? ⟨b, off, none⟩ = some (.int .i64 p.t) ∧ w'.cell? ⟨b, off + 1, none⟩ = some (.int .i64 p.lo) ∧ w'.cell? ⟨b, off + 2, none⟩ = some (.int .i64 p.hi) ∧ w'.cell? ⟨b, off + 3, none⟩ = some (.int .i64 q.t) ∧ w'.cell? ⟨b, off + 3 + 1, none⟩ = some (.int .i64 q.lo) ∧ w'.cell? ⟨b, off + 3 + 2, none⟩ = some (.int .i64 q.hi)) from fun W hW => ⟨(z0.below hW h3).1, (z0.below hW h3).2.1, (z0.below hW h3).2.2, (z1.below hW h3).1, (z1.below hW h3).2.1, (z1.below hW h3).2.2⟩)
    go_upto_region 1 with fail
    obtain ⟨x0', x1', x2', x3', x4', x5'⟩ := hC.out _ hB
    replace hB := kb_drew hB
    go_region_held3 (fun w' => w'.cell? ⟨b, off, none⟩ = some (.int .i64 p.t) ∧ w'.cell? ⟨b, off + 1, none⟩ = some (.int .i64 p.lo) ∧ w'.cell? ⟨b, off + 2, none⟩ = some (.int .i64 p.hi) ∧ w'.cell? ⟨b, off + 3, none⟩ = some (.int .i64 q.t) ∧ w'.cell? ⟨b, off + 3 + 1, none⟩ = some (.int .i64 q.lo) ∧ w'.cell? ⟨b, off + 3 + 2, none⟩ = some (.int .i64 q.hi))
      (first | with_reducible exact hC.out _ hB | go_keep)
      (first | (go_at_call 65; (with_reducible refine Calls.mono (MO.out _) ?_); rintro e w' ⟨rfl, hb⟩; replace hB := kb_then hB hb; clear hb))
    clear hC
    clear MO
    go_wp2_with fail

    go_loopw [6, 7, 8] (fun n d o wr => ∃ (N D : Int) (i : Nat), n = .int .i64 N ∧ d = .int .i64 D ∧ o = .int .i64 i ∧ i ≤ l.length ∧ -1600000000000 ≤ N ∧ N ≤ 1600000000000 ∧ 0 < D ∧ D ≤ 800000 ∧ Hid (res = (rst (fun p q => mostN p q t) l i).foldl stepR (N, D)) ∧ Below w.heap.size w wr) (fun _ _ o _ => l.length - (intOf o).toNat)
    case atStart => exact ⟨_, _, 0, rfl, rfl, rfl, by omega, fb.1, fb.2, by omega, by omega, HF, hB⟩
    case round =>
      clear HF hB fb a01 d0 d1
      obtain ⟨N, D, i, rfl, rfl, rfl, hi, n0, n1, e0, e1, HF, hB⟩ := hrel
      by_cases hil : i < l.length
      · replace HF := Lib.hid (HF.out.trans (by rw [rst_step hil]))
        go_wp2_with fail
        go_loopw [6, 7, 9] (fun n d o wr => ∃ (N D : Int) (k : Nat), n = .int .i64 N ∧ d = .int .i64 D ∧ o = .int .i64 k ∧ i < k ∧ k ≤ l.length ∧ -1600000000000 ≤ N ∧ N ≤ 1600000000000 ∧ 0 < D ∧ D ≤ 800000 ∧ Hid (res = (rsk (fun p q => mostN p q t) l i k ++ rst (fun p q => mostN p q t) l (i + 1)).foldl stepR (N, D)) ∧ Below w.heap.size w wr) (fun _ _ o _ => l.length - (intOf o).toNat)
        case atStart => exact ⟨N, D, i + 1, rfl, rfl, by go_num, by omega, by omega, n0, n1, e0, e1, HF, hB⟩
        case round =>
          clear HF hB n0 n1 e0 e1
          obtain ⟨N, D, k, rfl, rfl, rfl, hik, hk, n0, n1, e0, e1, HF, hB⟩ := hrel
          by_cases hkl : k < l.length
          · replace HF := Lib.hid (HF.out.trans (by rw [rsk_step hkl, List.cons_append, List.foldl_cons, stepR_if]))
            have z0 := h4 i hil
            have z1 := h4 k hkl
            have d0 := HD.out _ (gd_mem hil)
            have d1 := HD.out _ (gd_mem hkl)
            have a01 := HA.out i k hik hkl
            try dsimp only at HF
            generalize gd l i = p at *
            generalize gd l k = q at *
            have MO := Lib.hid (show ∀ W, Calls Tryz.prog 65 #[.agg #[.int .i64 p.t, .int .i64 p.lo, .int .i64 p.hi], .agg #[.int .i64 q.t, .int .i64 q.lo, .int .i64 q.hi], .int .i64 t] W (Rets W (.tuple #[.int .i64 (mostN p q t), .int .i64 (q.t - p.t)])) from fun W => most26_any p q t d0 d1 ht W)
            have fb := mostN_bd d0 d1 ht
            have := d0.t
            have := d1.t
            generalize hM : mostN p q t = M at *
            obtain ⟨E, hE⟩ : ∃ E, E = q.t - p.t := ⟨_, rfl⟩
            rw [← hE] at MO HF
            have hEb : 0 < E ∧ E ≤ 800000 := by omega
            clear hE
            have hC := Lib.hid (show ∀ w' : World, Below w.heap.size w w' → (w'.cell? ⟨b, off + i * 3, none⟩ = some (.int .i64 p.t) ∧ w'.cell? ⟨b, off + i * 3 + 1, none⟩ = some (.int .i64 p.lo) ∧ w'.cell? ⟨b, off + i * 3 + 2, none⟩ = some (.int .i64 p.hi) ∧ w'.cell? ⟨b, off + k * 3, none⟩ = some (.int .i64 q.t) ∧ w'.cell? ⟨b, off + k * 3 + 1, none⟩ = some (.int .i64 q.lo) ∧ w'.cell? ⟨b, off + k * 3 + 2, none⟩ = some (.int .i64 q.hi)) from fun W hW => ⟨(z0.below hW h3).1, (z0.below hW h3).2.1, (z0.below hW h3).2.2, (z1.below hW h3).1, (z1.below hW h3).2.1, (z1.below hW h3).2.2⟩)
            go_upto_region 8 with fail
            obtain ⟨x0', x1', x2', x3', x4', x5'⟩ := hC.out _ hB
            replace hB := kb_drew hB
            go_region_held3 (fun w' => w'.cell? ⟨b, off + i * 3, none⟩ = some (.int .i64 p.t) ∧ w'.cell? ⟨b, off + i * 3 + 1, none⟩ = some (.int .i64 p.lo) ∧ w'.cell? ⟨b, off + i * 3 + 2, none⟩ = some (.int .i64 p.hi) ∧ w'.cell? ⟨b, off + k * 3, none⟩ = some (.int .i64 q.t) ∧ w'.cell? ⟨b, off + k * 3 + 1, none⟩ = some (.int .i64 q.lo) ∧ w'.cell? ⟨b, off + k * 3 + 2, none⟩ = some (.int .i64 q.hi))
              (first | with_reducible exact hC.out _ hB | go_keep)
              (first | (go_at_call 65; (with_reducible refine Calls.mono (MO.out _) ?_); rintro e w' ⟨rfl, hb⟩; replace hB := kb_then hB hb; clear hb))
            clear hC
            clear MO
            have p1 := mul_bd (a := M) (b := D) 1600000000000 800000 (by omega) (by omega)
            have p2 := mul_bd (a := N) (b := E) 1600000000000 800000 (by omega) (by omega)
            have u1 : IntKind.i64.wrap (M * D) = M * D := IntWalk.i64_in _ (by omega)
            have u2 : IntKind.i64.wrap (N * E) = N * E := IntWalk.i64_in _ (by omega)
            by_cases hc : M * D < N * E
            · replace HF := Lib.hid (HF.out.trans (by rw [if_pos hc]))
              clear p1 p2
              go_wp2_with fail
              go_roundw
              case rel => exact ⟨M, E, k + 1, rfl, rfl, by go_num, by omega, by omega, by omega, by omega, by omega, by omega, HF, hB⟩
              case measure => simp [intOf]; omega
            · replace HF := Lib.hid (HF.out.trans (by rw [if_neg hc]))
              clear p1 p2
              go_wp2_with fail
              go_roundw
              case rel => exact ⟨N, D, k + 1, rfl, rfl, by go_num, by omega, by omega, n0, n1, e0, e1, HF, hB⟩
              case measure => simp [intOf]; omega
          · go_wp2_with fail
            go_roundw
            case rel => exact ⟨N, D, i + 1, rfl, rfl, by go_num, by omega, n0, n1, e0, e1, by rw [rsk_end hkl, List.nil_append] at HF; exact HF, hB⟩
            case measure => simp [intOf]; omega
      · have hn := Lib.hid (show res = (N, D) by rw [HF.out, rst_end hil]; rfl)
        clear HF
        go_wp2
        refine bodyPost_ret (resT2 rfl _ _ _) rfl ?_
        exact ⟨by have e := hn.out; subst e; rfl, hB⟩

set_option maxRecDepth 100000 in
set_option maxHeartbeats 16000000 in
/-- putlogref26.rate. -/
theorem rate26_any (v : Value) (l : List Dt) (w : World) (hok : okD l = true) (h2 : 2 ≤ l.length) (h : SlD w v l) :
    Calls Tryz.prog 40 #[v] w (Rets w (.tuple #[.int .i64 (rbnd l (fun p q => q.hi - p.lo)).1, .int .i64 (rbnd l (fun p q => q.hi - p.lo)).2])) := by
  have hl := (DecM.okD_iff.1 hok).2.2
  have hdt := fun d (hd : d ∈ l) => dtOk_of hok hd
  have hasc : ∀ i j : Nat, i < j → j < l.length → (gd l i).t < (gd l j).t := fun i j h hj => DecM.gd_asc (DecM.okD_good hok) h hj
  have HF := Lib.hid (rbnd_rst (fun p q => q.hi - p.lo) l)
  have HD := Lib.hid hdt
  have HA := Lib.hid hasc
  generalize rbnd l (fun p q => q.hi - p.lo) = res at *
  clear hdt hasc hok
  rcases h with ⟨rfl, rfl⟩ | ⟨b, off, cap, rfl, h1, hcap, h3, h4⟩
  · exact absurd h2 (by simp)
  · have g0 : (0 : Int) < l.length := by omega
    have g1 : (1 : Int) < l.length := by omega
    have g0' : 0 < l.length := by omega
    have g0'' : ¬ (l = []) := fun e => by rw [e] at g0'; exact absurd g0' (by decide)
    have g1' : 1 < l.length := by omega
    have z0 := h4 0 (by omega)
    have z1 := h4 1 (by omega)
    have d0 := HD.out _ (gd_mem (show 0 < l.length by omega))
    have d1 := HD.out _ (gd_mem (show 1 < l.length by omega))
    have a01 := HA.out 0 1 (by omega) (by omega)
    rw [Nat.zero_mul, Nat.add_zero] at z0
    rw [Nat.one_mul] at z1
    try dsimp only at HF
    generalize gd l 0 = p at *
    generalize gd l 1 = q at *
    have hB := Below.refl w.heap.size w
    have := d0.t
    have := d1.t
    have := d0.lo
    have := d1.hi
    obtain ⟨M, hM⟩ : ∃ M, M = q.hi - p.lo := ⟨_, rfl⟩
    have w1 : IntKind.i64.wrap (q.hi - p.lo) = M := by rw [hM]; exact IntWalk.i64_in _ (by omega)
    have w2 : IntKind.i64.wrap (q.t - p.t) = q.t - p.t := IntWalk.i64_in _ (by omega)
    have fb : -1600000000000 ≤ M ∧ M ≤ 1600000000000 := by omega
    rw [← hM] at HF
    clear hM
    go_enter Tryz.func40, Tryz.ntmps40
    obtain ⟨x0, x1, x2⟩ := z0.below hB h3
    obtain ⟨y0, y1, y2⟩ := z1.below hB h3
    go_upto_region 1 with fail
    go_region
    clear x0 x1 x2 y0 y1 y2
    replace hB := kb_drew hB
    obtain ⟨x0, x1, x2⟩ := z0.below hB h3
    obtain ⟨y0, y1, y2⟩ := z1.below hB h3
    go_upto_region 2 with fail
    go_region
    clear x0 x1 x2 y0 y1 y2
    replace hB := kb_drew hB
    go_wp2_with fail

    go_loopw [4, 5, 6] (fun n d o wr => ∃ (N D : Int) (i : Nat), n = .int .i64 N ∧ d = .int .i64 D ∧ o = .int .i64 i ∧ i ≤ l.length ∧ -1600000000000 ≤ N ∧ N ≤ 1600000000000 ∧ 0 < D ∧ D ≤ 800000 ∧ Hid (res = (rst (fun p q => q.hi - p.lo) l i).foldl stepR (N, D)) ∧ Below w.heap.size w wr) (fun _ _ o _ => l.length - (intOf o).toNat)
    case atStart => exact ⟨_, _, 0, rfl, rfl, rfl, by omega, fb.1, fb.2, by omega, by omega, HF, hB⟩
    case round =>
      clear HF hB fb a01 d0 d1
      obtain ⟨N, D, i, rfl, rfl, rfl, hi, n0, n1, e0, e1, HF, hB⟩ := hrel
      by_cases hil : i < l.length
      · replace HF := Lib.hid (HF.out.trans (by rw [rst_step hil]))
        go_wp2_with fail
        go_loopw [4, 5, 7] (fun n d o wr => ∃ (N D : Int) (k : Nat), n = .int .i64 N ∧ d = .int .i64 D ∧ o = .int .i64 k ∧ i < k ∧ k ≤ l.length ∧ -1600000000000 ≤ N ∧ N ≤ 1600000000000 ∧ 0 < D ∧ D ≤ 800000 ∧ Hid (res = (rsk (fun p q => q.hi - p.lo) l i k ++ rst (fun p q => q.hi - p.lo) l (i + 1)).foldl stepR (N, D)) ∧ Below w.heap.size w wr) (fun _ _ o _ => l.length - (intOf o).toNat)
        case atStart => exact ⟨N, D, i + 1, rfl, rfl, by go_num, by omega, by omega, n0, n1, e0, e1, HF, hB⟩
        case round =>
          clear HF hB n0 n1 e0 e1
          obtain ⟨N, D, k, rfl, rfl, rfl, hik, hk, n0, n1, e0, e1, HF, hB⟩ := hrel
          by_cases hkl : k < l.length
          · replace HF := Lib.hid (HF.out.trans (by rw [rsk_step hkl, List.cons_append, List.foldl_cons, stepR_if]))
            have z0 := h4 i hil
            have z1 := h4 k hkl
            have d0 := HD.out _ (gd_mem hil)
            have d1 := HD.out _ (gd_mem hkl)
            have a01 := HA.out i k hik hkl
            try dsimp only at HF
            generalize gd l i = p at *
            generalize gd l k = q at *
            have := d0.t
            have := d1.t
            have := d0.lo
            have := d1.hi
            obtain ⟨M, hM⟩ : ∃ M, M = q.hi - p.lo := ⟨_, rfl⟩
            have w1 : IntKind.i64.wrap (q.hi - p.lo) = M := by rw [hM]; exact IntWalk.i64_in _ (by omega)
            obtain ⟨E, hE⟩ : ∃ E, E = q.t - p.t := ⟨_, rfl⟩
            have w2 : IntKind.i64.wrap (q.t - p.t) = E := by rw [hE]; exact IntWalk.i64_in _ (by omega)
            have fb : -1600000000000 ≤ M ∧ M ≤ 1600000000000 := by omega
            rw [← hM, ← hE] at HF
            have hEb : 0 < E ∧ E ≤ 800000 := by omega
            clear hM hE
            obtain ⟨x0, x1, x2⟩ := z0.below hB h3
            obtain ⟨y0, y1, y2⟩ := z1.below hB h3
            go_upto_region 9 with fail
            go_region
            clear x0 x1 x2 y0 y1 y2
            replace hB := kb_drew hB
            obtain ⟨x0, x1, x2⟩ := z0.below hB h3
            obtain ⟨y0, y1, y2⟩ := z1.below hB h3
            go_upto_region 10 with fail
            go_region
            clear x0 x1 x2 y0 y1 y2
            replace hB := kb_drew hB
            have p1 := mul_bd (a := M) (b := D) 1600000000000 800000 (by omega) (by omega)
            have p2 := mul_bd (a := N) (b := E) 1600000000000 800000 (by omega) (by omega)
            have u1 : IntKind.i64.wrap (M * D) = M * D := IntWalk.i64_in _ (by omega)
            have u2 : IntKind.i64.wrap (N * E) = N * E := IntWalk.i64_in _ (by omega)
            by_cases hc : M * D < N * E
            · replace HF := Lib.hid (HF.out.trans (by rw [if_pos hc]))
              clear p1 p2
              go_wp2_with fail
              go_roundw
              case rel => exact ⟨M, E, k + 1, rfl, rfl, by go_num, by omega, by omega, by omega, by omega, by omega, by omega, HF, hB⟩
              case measure => simp [intOf]; omega
            · replace HF := Lib.hid (HF.out.trans (by rw [if_neg hc]))
              clear p1 p2
              go_wp2_with fail
              go_roundw
              case rel => exact ⟨N, D, k + 1, rfl, rfl, by go_num, by omega, by omega, n0, n1, e0, e1, HF, hB⟩
              case measure => simp [intOf]; omega
          · go_wp2_with fail
            go_roundw
            case rel => exact ⟨N, D, i + 1, rfl, rfl, by go_num, by omega, n0, n1, e0, e1, by rw [rsk_end hkl, List.nil_append] at HF; exact HF, hB⟩
            case measure => simp [intOf]; omega
      · have hn := Lib.hid (show res = (N, D) by rw [HF.out, rst_end hil]; rfl)
        clear HF
        go_wp2
        refine bodyPost_ret (resT2 rfl _ _ _) rfl ?_
        exact ⟨by have e := hn.out; subst e; rfl, hB⟩

set_option maxRecDepth 100000 in
set_option maxHeartbeats 16000000 in
/-- putlogref26.Refute. -/
theorem rrefute_any (v : Value) (l : List Dt) (w : World) (h : SlD w v l) :
    Calls Tryz.prog 10 #[v] w (RefP w l) := by
  have VD := fun W (h : SlD W v l) => dval26_any v l W h
  have hl := h.len_le
  unfold maxLen at hl
  unfold RefP refO
  cases hok : okD l with
  | false =>
    rw [hok] at VD
    have V0 := Lib.hid (VD w h)
    obtain ⟨ag, cap, rfl⟩ := h.shape
    clear VD h hok
    go_enter Tryz.func10, Tryz.ntmps10
    go_wp2_with fail
    refine V0.out.mono ?_
    rintro e w1 ⟨rfl, hb⟩
    go_wp2
    refine bodyPost_ret (resT2 rfl _ _ _) rfl ?_
    exact ⟨_, rfl, Sl.nil _, hb⟩
  | true =>
    rw [hok] at VD
    have hdt := fun d (hd : d ∈ l) => dtOk_of hok hd
    have V0 := Lib.hid (VD w h)
    have HD := Lib.hid hdt
    clear VD hok hdt
    rcases h with ⟨rfl, rfl⟩ | ⟨b, off, cap, rfl, h1, h2, h3, h4⟩
    · go_enter Tryz.func10, Tryz.ntmps10
      go_wp2_with fail
      refine V0.out.mono ?_
      rintro e w1 ⟨rfl, hb⟩
      go_wp2_with fail
      go_loopw [4] (fun i wr => i = .int .i64 0 ∧ wr = w1) (fun _ _ => 0)
      case atStart => exact ⟨rfl, rfl⟩
      case round =>
        obtain ⟨rfl, rfl⟩ := hrel
        go_wp2
        refine bodyPost_ret (resT2 rfl _ _ _) rfl ?_
        exact ⟨_, rfl, Sl.nil _, hb⟩
    · go_enter Tryz.func10, Tryz.ntmps10
      go_wp2_with fail
      refine V0.out.mono ?_
      rintro e w1 ⟨rfl, hb⟩
      clear V0
      go_wp2_with fail
      go_loopw [4] (fun a wr => ∃ i : Nat, a = .int .i64 i ∧ i ≤ l.length ∧ Hid (refD l = f1 l i) ∧ Below w.heap.size w wr) (fun a _ => l.length - (intOf a).toNat)
      case atStart => exact ⟨0, rfl, by omega, rfl, hb⟩
      case round =>
        clear hb
        obtain ⟨i, rfl, hi, hR, hB⟩ := hrel
        by_cases hil : i < l.length
        · replace hR := Lib.hid (hR.out.trans (DecM.f1_step hil))
          go_wp2_with fail
          go_loopw [5] (fun a wr => ∃ j : Nat, a = .int .i64 j ∧ i < j ∧ j ≤ l.length ∧ Hid (refD l = (f2 l i j).or (f1 l (i + 1))) ∧ Below w.heap.size w wr) (fun a _ => l.length - (intOf a).toNat)
          case atStart => exact ⟨i + 1, by go_num, by omega, by omega, hR, hB⟩
          case round =>
            clear hR hB
            obtain ⟨j, rfl, hij, hj, hR, hB⟩ := hrel
            by_cases hjl : j < l.length
            · replace hR := Lib.hid (hR.out.trans (by rw [DecM.f2_step hjl, Option.or_assoc] : (f2 l i j).or (f1 l (i + 1)) = (f3 l i j (j + 1)).or ((f2 l i (j + 1)).or (f1 l (i + 1)))))
              go_wp2_with fail
              go_loopw [6] (fun a wr => ∃ k : Nat, a = .int .i64 k ∧ j < k ∧ k ≤ l.length ∧ Hid (refD l = (f3 l i j k).or ((f2 l i (j + 1)).or (f1 l (i + 1)))) ∧ Below w.heap.size w wr) (fun a _ => l.length - (intOf a).toNat)
              case atStart => exact ⟨j + 1, by go_num, by omega, by omega, hR, hB⟩
              case round =>
                clear hR hB
                obtain ⟨k, rfl, hjk, hk, hR, hB⟩ := hrel
                by_cases hkl : k < l.length
                · have z0 := h4 i (by omega)
                  have z1 := h4 j (by omega)
                  have z2 := h4 k (by omega)
                  have d0 := HD.out _ (gd_mem (show i < l.length by omega))
                  have d1 := HD.out _ (gd_mem (show j < l.length by omega))
                  have d2 := HD.out _ (gd_mem (show k < l.length by omega))
                  replace hR := Lib.hid (hR.out.trans (by rw [DecM.f3_step hkl, show apB l i j k = decide (Apart (gd l i) (gd l j) (gd l k)) from rfl] : (f3 l i j k).or ((f2 l i (j + 1)).or (f1 l (i + 1))) = _))
                  generalize gd l i = p at *
                  generalize gd l j = q at *
                  generalize gd l k = r at *
                  have AP := Lib.hid (show ∀ W, Calls Tryz.prog 34 #[.agg #[.int .i64 p.t, .int .i64 p.lo, .int .i64 p.hi], .agg #[.int .i64 q.t, .int .i64 q.lo, .int .i64 q.hi], .agg #[.int .i64 r.t, .int .i64 r.lo, .int .i64 r.hi]] W (Rets W (.bool (decide (Apart p q r)))) from fun W => apart_any p q r d0 d1 d2 W)
                  generalize decide (Apart p q r) = d at *
                  have hi' : (i : Int) < l.length := by omega
                  have hj' : (j : Int) < l.length := by omega
                  have hC := Lib.hid (show ∀ w' : World, Below w.heap.size w w' → (w'.cell? ⟨b, off + i * 3, none⟩ = some (.int .i64 p.t) ∧ w'.cell? ⟨b, off + i * 3 + 1, none⟩ = some (.int .i64 p.lo) ∧ w'.cell? ⟨b, off + i * 3 + 2, none⟩ = some (.int .i64 p.hi) ∧ w'.cell? ⟨b, off + j * 3, none⟩ = some (.int .i64 q.t) ∧ w'.cell? ⟨b, off + j * 3 + 1, none⟩ = some (.int .i64 q.lo) ∧ w'.cell? ⟨b, off + j * 3 + 2, none⟩ = some (.int .i64 q.hi) ∧ w'.cell? ⟨b, off + k * 3, none⟩ = some (.int .i64 r.t) ∧ w'.cell? ⟨b, off + k * 3 + 1, none⟩ = some (.int .i64 r.lo) ∧ w'.cell? ⟨b, off + k * 3 + 2, none⟩ = some (.int .i64 r.hi)) from fun W hW => ⟨(z0.below hW h3).1, (z0.below hW h3).2.1, (z0.below hW h3).2.2, (z1.below hW h3).1, (z1.below hW h3).2.1, (z1.below hW h3).2.2, (z2.below hW h3).1, (z2.below hW h3).2.1, (z2.below hW h3).2.2⟩)
                  clear z0 z1 z2 d0 d1 d2
                  go_upto_region 12 with fail
                  obtain ⟨x0', x1', x2', x3', x4', x5', x6', x7', x8'⟩ := hC.out _ hB
                  replace hB := kb_drew hB
                  go_region_held3 (fun w' => w'.cell? ⟨b, off + i * 3, none⟩ = some (.int .i64 p.t) ∧ w'.cell? ⟨b, off + i * 3 + 1, none⟩ = some (.int .i64 p.lo) ∧ w'.cell? ⟨b, off + i * 3 + 2, none⟩ = some (.int .i64 p.hi) ∧ w'.cell? ⟨b, off + j * 3, none⟩ = some (.int .i64 q.t) ∧ w'.cell? ⟨b, off + j * 3 + 1, none⟩ = some (.int .i64 q.lo) ∧ w'.cell? ⟨b, off + j * 3 + 2, none⟩ = some (.int .i64 q.hi) ∧ w'.cell? ⟨b, off + k * 3, none⟩ = some (.int .i64 r.t) ∧ w'.cell? ⟨b, off + k * 3 + 1, none⟩ = some (.int .i64 r.lo) ∧ w'.cell? ⟨b, off + k * 3 + 2, none⟩ = some (.int .i64 r.hi))
                    (first | with_reducible exact hC.out _ hB | go_keep)
                    (first | (go_at_call 34; (with_reducible refine Calls.mono (AP.out _) ?_); rintro e w' ⟨rfl, hb⟩; replace hB := kb_then hB hb; clear hb))
                  clear hC
                  cases d with
                  | true =>
                    have hfin := Lib.hid (show refD l = some (i, j, k) by rw [hR.out, if_pos rfl]; rfl)
                    clear hR
                    go_wp2
                    refine bodyPost_ret (resT2 rfl _ _ _) rfl ?_
                    exact ⟨_, by rw [hfin.out]; rfl, by rw [hfin.out]; exact tri_sl _ _ _ _, kb_new hB _⟩
                  | false =>
                    have hR2 := Lib.hid (show refD l = (f3 l i j (k + 1)).or ((f2 l i (j + 1)).or (f1 l (i + 1))) by rw [hR.out, if_neg (by decide), Option.none_or])
                    clear hR
                    go_wp2_with fail
                    go_roundw
                    case rel => exact ⟨k + 1, by go_num, by omega, by omega, hR2, hB⟩
                    case measure => simp [intOf]; omega
                · go_wp2_with fail
                  go_roundw
                  case rel => exact ⟨j + 1, by go_num, by omega, by omega, by rw [DecM.f3_end hkl, Option.none_or] at hR; exact hR, hB⟩
                  case measure => simp [intOf]; omega
            · go_wp2_with fail
              go_roundw
              case rel => exact ⟨i + 1, by go_num, by omega, by rw [DecM.f2_end hjl, Option.none_or] at hR; exact hR, hB⟩
              case measure => simp [intOf]; omega
        · have hn := Lib.hid (show refD l = none by rw [hR.out, DecM.f1_end hil])
          go_wp2
          refine bodyPost_ret (resT2 rfl _ _ _) rfl ?_
          exact ⟨_, by rw [hn.out]; rfl, by rw [hn.out]; exact Sl.nil _, hB⟩

set_option maxRecDepth 100000 in
set_option maxHeartbeats 16000000 in
theorem right26_any (v : Value) (l : List Dt) (w : World) (h : SlD w v l) :
    Calls Tryz.prog 39 #[v] w (Rets w (.bool (DecM.rightD l))) := by
  have V0 := Lib.hid (dval26_any v l w h)
  have R0 := Lib.hid (fun W (h : SlD W v l) => rrefute_any v l W h)
  have hR := Lib.hid (show DecM.rightD l = (okD l && decide (2 ≤ l.length) && !(refO l).isSome) by
    unfold DecM.rightD refO
    cases okD l with
    | false => rfl
    | true => cases refD l <;> simp)
  have HH := Lib.hid h
  obtain ⟨ag, cap, rfl⟩ := h.shape
  clear h
  cases hok : okD l with
  | false =>
    rw [hok] at V0 hR
    clear R0 hok
    go_enter Tryz.func39, Tryz.ntmps39
    go_wp2_with fail
    refine V0.out.mono ?_
    rintro e w1 ⟨rfl, hb⟩
    go_wp2
    go_ret
    exact ⟨ret_bool (by rw [hR.out]; rfl), hb⟩
  | true =>
    rw [hok] at V0 hR
    clear hok
    by_cases h2 : 2 ≤ l.length
    · have h2' : ¬ ((l.length : Int) < 2) := by omega
      rw [decide_eq_true h2] at hR
      clear h2
      go_enter Tryz.func39, Tryz.ntmps39
      go_wp2_with fail
      refine V0.out.mono ?_
      rintro e w1 ⟨rfl, hb⟩
      go_wp2_with fail
      refine (R0.out _ (HH.out.below hb)).mono ?_
      rintro e w2 ⟨u, rfl, _, hb2⟩
      replace hb := kb_then hb hb2
      go_wp2
      go_ret
      exact ⟨ret_bool (by rw [hR.out]; cases refO l <;> rfl), hb⟩
    · have h2' : (l.length : Int) < 2 := by omega
      rw [decide_eq_false h2] at hR
      clear h2
      go_enter Tryz.func39, Tryz.ntmps39
      go_wp2_with fail
      refine V0.out.mono ?_
      rintro e w1 ⟨rfl, hb⟩
      go_wp2
      go_ret
      exact ⟨ret_bool (by rw [hR.out]; rfl), hb⟩

end Go.Proofs.YtebokdboodgkpaaGreatDoor
