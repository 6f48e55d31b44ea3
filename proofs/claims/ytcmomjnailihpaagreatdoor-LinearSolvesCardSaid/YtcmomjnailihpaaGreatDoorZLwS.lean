/- LwS, SvC -/
import Derived.Test.YtcmomjnailihpaaGreatDoorZLcB
import Derived.Test.YtcmomjnailihpaaGreatDoorZLwQ
import Derived.Test.YtcmomjnailihpaaGreatDoorZLwR
import Derived.Test.YtcmomjnailihpaaGreatDoorZSvB
import Derived.Deep.LoopGhost
import Derived.Scope
import Derived.WalkMore
namespace Go.Proofs.YtcmomjnailihpaaGreatDoor
open Go.RowKit
open LnM (wd upd)
attribute [local go_sem] Oper.semAt_some
structure SysWd (s : LnM.Sys) : Prop where
  d : ∀ B, s.Inv B → LnM.Wide (s.d B)
  T : ∀ B, s.Inv B → ∀ i, i < s.m → ∀ j, j ≤ s.n + s.m → LnM.Wide (s.T B i j)
  C : ∀ B, s.Inv B → ∀ j, j ≤ s.n + s.m → LnM.Wide (s.C B j)
  two : ∀ B, s.Inv B → ∀ i r k, i < s.m → r < s.m → k ≤ s.n + s.m → LnM.Wide (s.T B i (s.n + s.m) * s.T B r k - s.T B r (s.n + s.m) * s.T B i k)
  dT : ∀ B r k, s.Inv B → s.Leave B k r → k < s.n → ∀ i, i < s.m → ∀ j, j ≤ s.n + s.m → LnM.Wide (s.d B * s.T (upd B r k) i j)
  dC : ∀ B r k, s.Inv B → s.Leave B k r → k < s.n → ∀ j, j ≤ s.n + s.m → LnM.Wide (s.d B * s.C (upd B r k) j)
theorem pivot_tab (t : Tb) (base : Nat) (s : LnM.Sys) (hwd : SysWd s) (B : Nat → Nat) (sg : Nat → Int) (r k : Nat) (hI : s.Inv B) (hl : s.Leave B k r) (hk : k < s.n) (hm : t.m = s.m) (hn : t.n = s.n + s.m + 1) (hd : t.Dis base) (hm1 : t.m ≤ 100000) (hn1 : t.n ≤ 100000)
    (w : World) (h : Tbl w t (tabF s B) B sg (s.d B)) (hbs : base ≤ w.heap.size) :
    Calls Tryz.prog 77 #[.pointer (some ⟨t.tb, 0, none⟩), .int .i64 r, .int .i64 k] w fun e w' => e = .returned (.tuple #[]) ∧ Tbl w' t (tabF s (upd B r k)) (upd B r k) sg (s.d (upd B r k)) ∧ Below base w w' := by
  have hr := hl.lt
  have hP := pivot_any t base (tabF s B) (tabF s (upd B r k)) B sg (s.d B) r k w h hd hbs (by omega) (by omega) hm1 hn1 hI.dpos (hwd.d B hI) (fun i hi hir j hj => ?_) (fun j hj => ?_)
  · have e : tabF s B r k = s.d (upd B r k) := by unfold tabF; rw [if_pos hr, LnM.pivot_d]
    rwa [e] at hP
  · unfold tabF
    by_cases him : i < s.m
    · simp only [if_pos hr, if_pos him]
      have hj' : j ≤ s.n + s.m := by rw [hn] at hj; omega
      exact ⟨(LnM.pivot_T hI hr him hir hj').symm, hwd.dT B r k hI hl hk i him j hj'⟩
    · simp only [if_pos hr, if_neg him]
      have hj' : j ≤ s.n + s.m := by rw [hn] at hj; omega
      exact ⟨(LnM.pivot_C hI hr hk hj').symm, hwd.dC B r k hI hl hk j hj'⟩
  · unfold tabF
    rw [if_pos hr, if_pos hr, LnM.pivot_row]
set_option maxRecDepth 100000 in
set_option maxHeartbeats 8000000 in
theorem run_any (t : Tb) (base : Nat) (s : LnM.Sys) (hwd : SysWd s) (B : Nat → Nat) (sg : Nat → Int) (hI : s.Inv B) (hm : t.m = s.m) (hn : t.n = s.n + s.m + 1) (hkn : t.k = s.n) (hd : t.Dis base) (hm1 : t.m ≤ 100000) (hn1 : t.n ≤ 100000)
    (w : World) (h : Tbl w t (tabF s B) B sg (s.d B)) (hbs : base ≤ w.heap.size) :
    Calls Tryz.prog 38 #[.pointer (some ⟨t.tb, 0, none⟩)] w fun e w' => e = .returned (.tuple #[]) ∧ (∃ B', s.Inv B' ∧ (∀ k, k < s.n → 0 ≤ s.C B' k) ∧ Tbl w' t (tabF s B') B' sg (s.d B')) ∧ Below base w w' := by
  obtain ⟨c, Kc, Rc, L, h0, hch, hend⟩ := LnM.run_ends hI
  rw [← h0] at h
  have PV := Lib.hid (fun B r k hI hl hk W h hb => pivot_tab t base s hwd B sg r k hI hl hk hm hn hd hm1 hn1 W h hb)
  have LV := Lib.hid (fun B k (hI : s.Inv B) (hk : k < s.n) (hm0 : 0 < s.m) W (h : Tbl W t (tabF s B) B sg (s.d B)) => leaving_any t s (tabF s B) B sg (s.d B) k W h hm hn (fun i hi j hj => if_pos hi) (by omega) hm0 hm1 hn1 (fun i hi => hwd.T B hI i hi k (by omega)) (fun i r hi hr => hwd.two B hI i r k hi hr (by omega)))
  have H := Lib.hid h
  have hwd' := Lib.hid hwd
  have hch' := Lib.hid hch
  have hend' := Lib.hid hend
  have hd' := Lib.hid hd
  replace hm := Lib.hid hm
  replace hn := Lib.hid hn
  have hkn' := Lib.hid hkn
  clear h hwd hch hend hI h0 hd hkn
  go_enter Tryz.func38, Tryz.ntmps38
  refine wp_scope_straight ?_
  go_wp2_with fail
  refine wp_label ?_
  go_wp2_with fail
  go_loopg [] L (fun q wr => ∃ l, l + q = L ∧ Hid (Tbl wr t (tabF s (c l)) (c l) sg (s.d (c l))) ∧ Below base w wr)
  case atStart => exact ⟨0, by omega, H, (Below.refl _ _).mono hbs⟩
  case round =>
    rename World => Wo
    obtain ⟨l, hlk, hT, hB⟩ := hrel
    have hI := Lib.hid (hch'.out.invs (l := l) (by omega))
    have hbo : base ≤ Wo.heap.size := Nat.le_trans hbs hB.size
    have c16 := hT.out.c16
    rw [hkn'.out] at c16
    go_wp2_with fail
    clear c16
    go_loopw [7] (fun o wr2 => ∃ k : Nat, o = .int .i64 k ∧ k ≤ s.n ∧ Hid (∀ j, j < k → 0 ≤ s.C (c l) j) ∧ Below Wo.heap.size Wo wr2) (fun o _ => s.n - (intOf o).toNat)
    case atStart => exact ⟨0, rfl, by omega, Lib.hid (fun j hj => by omega), Below.refl _ _⟩
    case round =>
      obtain ⟨k, rfl, hk, hfi, hB2⟩ := hrel
      by_cases hkn : k < s.n
      · have hkn' : (k : Int) < s.n := by omega
        have hk0 : (0 : Int) ≤ k := by omega
        have hkt : k < t.n := by have := hn.out; omega
        have hkt' : (k : Int) < t.n := by omega
        have HT := Lib.hid (hT.out.below hB2)
        have c1 := HT.out.c1
        obtain ⟨b0, b1, b2, b3, b4, b5, b6, b7, b8, b9, b10, b11⟩ := range_cells ((HT.out.grid.row t.m (by omega)).rd k hkt)
        rw [show tabF s (c l) t.m k = s.C (c l) k from if_neg (by have := hm.out; omega)] at b0 b1 b2 b3 b4 b5 b6 b7 b8 b9 b10 b11
        have hvw := hwd'.out.C (c l) hI.out k (by omega)
        obtain ⟨v, hv⟩ : ∃ v, v = s.C (c l) k := ⟨_, rfl⟩
        rw [← hv] at b0 b1 b2 b3 b4 b5 b6 b7 b8 b9 b10 b11 hvw
        have NG := fun W => neg_wide hvw W
        replace hv := Lib.hid hv
        by_cases hneg : v < 0
        · rw [show decide (v < 0) = true by simp [hneg]] at NG
          have he : s.Enter (c l) k := ⟨hkn, by rw [← hv.out]; exact hneg, hfi.out⟩
          obtain ⟨i0, hi0, hp0⟩ := LnM.exists_pos he
          have hlL : l < L := by
            refine Nat.lt_of_not_le fun hle => ?_
            have e : l = L := by omega
            have := hend'.out k hkn
            rw [← e, ← hv.out] at this
            omega
          have hKk : Kc l = k := LnM.enter_unique (hch'.out.enter l hlL) he
          have hRr := hch'.out.leave l hlL
          rw [hKk] at hRr
          have hnx := hch'.out.next l hlL
          rw [hKk] at hnx
          replace hRr := Lib.hid hRr
          replace hnx := Lib.hid hnx
          replace hp0 := Lib.hid hp0
          generalize wd v = f at *
          clear hneg hvw he hKk
          replace NG := Lib.hid NG
          go_wp2_with fail
          refine Calls.mono (NG.out _) ?_
          rintro e w1 ⟨rfl, hb⟩
          have H1 := Lib.hid (HT.out.below hb)
          have hB3 : Below base Wo w1 := (hB2.mono hbo).trans (hb.mono (Nat.le_trans hbo hB2.size))
          clear b0 b1 b2 b3 b4 b5 b6 b7 b8 b9 b10 b11 c1 NG hb
          go_wp2_with fail
          refine Calls.mono (LV.out (c l) k hI.out hkn (by omega) _ H1.out) ?_
          rintro e w2 ⟨⟨bz, rfl, hbz⟩, hb⟩
          have H2 := Lib.hid (H1.out.below hb)
          have hB4 : Below base Wo w2 := hB3.trans (hb.mono (Nat.le_trans hbo hB3.size))
          clear hb
          rcases hbz with ⟨rfl, hno⟩ | ⟨r, rfl, hl⟩
          · exact absurd hp0.out (Int.not_lt.2 (hno i0 hi0))
          have hle := LnM.leaveTo_all hl
          have hrr : Rc l = r := LnM.leave_unique hI.out hRr.out hle
          have PVr := Lib.hid (PV.out (c l) r k hI.out hle hkn w2 H2.out (Nat.le_trans hbo hB4.size))
          rw [hrr] at hnx
          clear hl hle hrr
          go_wp2_with fail
          refine Calls.mono PVr.out ?_
          rintro e w3 ⟨rfl, H3, hb⟩
          rw [← hnx.out] at H3
          have hB5 : Below base w w3 := hB.trans (hB4.trans hb)
          clear hb
          go_wp2_with fail
          go_roundg (gk - 1)
          case rel => exact ⟨l + 1, by omega, Lib.hid H3, hB5⟩
          case measure => omega
        · rw [show decide (v < 0) = false by simp; omega] at NG
          have hfi2 := Lib.hid (show ∀ j, j < k + 1 → 0 ≤ s.C (c l) j from fun j hj => by
            by_cases e : j = k
            · subst e; rw [← hv.out]; omega
            · exact hfi.out j (by omega))
          generalize wd v = f at *
          clear hneg hvw hfi
          replace NG := Lib.hid NG
          go_wp2_with fail
          refine Calls.mono (NG.out _) ?_
          rintro e w1 ⟨rfl, hb⟩
          have hB3 : Below Wo.heap.size Wo w1 := hB2.trans (hb.mono hB2.size)
          clear b0 b1 b2 b3 b4 b5 b6 b7 b8 b9 b10 b11 c1 NG hb
          go_wp2_with fail
          go_roundw
          case rel => exact ⟨k + 1, by go_num, by omega, hfi2, hB3⟩
          case measure => simp [intOf]; omega
      · have hkn' : ¬ (k : Int) < s.n := by omega
        obtain rfl : k = s.n := by omega
        have HT := Lib.hid (hT.out.below hB2)
        have hB3 : Below base w wr := hB.trans (hB2.mono hbo)
        go_wp2
        exact bodyPost_ret (v := .tuple #[]) (by simp [results, Tryz.results38, go_sem]) rfl ⟨rfl, ⟨c l, hI.out, hfi.out, HT.out⟩, hB3⟩
end Go.Proofs.YtcmomjnailihpaaGreatDoor
namespace Go.Proofs.YtcmomjnailihpaaGreatDoor
open Go.RowKit
open LnM (wd upd sm)
attribute [local go_sem] Oper.semAt_some
abbrev I10 (z : Int) : ByteArray := ⟨(Lib.itoa z).toArray⟩
theorem I10_zero : I10 0 = ⟨#[48]⟩ := by unfold I10; rw [itoa_nonneg (by decide), decDigits_small (by decide)]; rfl
structure SysTx (s : LnM.Sys) : Prop where
  d : ∀ B, s.Inv B → LnM.Wide (s.d B) ∧ LnM.Wide (-(s.d B))
  T : ∀ B, s.Inv B → ∀ i, i < s.m → LnM.Wide (s.T B i (s.n + s.m)) ∧ LnM.Wide (-(s.T B i (s.n + s.m)))
  w : ∀ B, s.Inv B → ∀ i, i < s.m → LnM.Wide (s.w B i) ∧ LnM.Wide (-(s.w B i))
def numF (s : LnM.Sys) (B : Nat → Nat) (i k : Nat) : ByteArray := I10 (sm i (fun j => if B j = k then s.T B j (s.n + s.m) else 0))
theorem numF_zero (s : LnM.Sys) (B : Nat → Nat) (k : Nat) : numF s B 0 k = ⟨#[48]⟩ := I10_zero
theorem numF_hit {s : LnM.Sys} {B : Nat → Nat} (h : s.Inv B) {i : Nat} (hi : i < s.m) (k : Nat) : upd (numF s B i) (B i) (I10 (s.T B i (s.n + s.m))) k = numF s B (i + 1) k := by
  unfold upd numF
  show _ = I10 (sm i (fun j => if B j = k then s.T B j (s.n + s.m) else 0) + (if B i = k then s.T B i (s.n + s.m) else 0))
  by_cases e : k = B i
  · rw [if_pos e, if_pos e.symm]
    rw [LnM.sm_zero (fun j hj => if_neg (fun e2 => by have := h.dist (by omega) hi (e2.trans e); omega)), Int.zero_add]
  · rw [if_neg e, if_neg (Ne.symm e), Int.add_zero]
theorem numF_miss {s : LnM.Sys} {B : Nat → Nat} {i k : Nat} (h : B i ≠ k) : numF s B i k = numF s B (i + 1) k := by
  unfold numF
  show _ = I10 (sm i (fun j => if B j = k then s.T B j (s.n + s.m) else 0) + (if B i = k then s.T B i (s.n + s.m) else 0))
  rw [if_neg h, Int.add_zero]
theorem valid_parts6 {cols : Int} {rows : List (List Int × Int)} (h : validL cols rows = true) : 0 ≤ cols ∧ cols ≤ 64 ∧ rows.length ≤ 18 ∧ ∀ r ∈ rows, (r.1.length : Int) = cols ∧ (∀ x ∈ r.1, -30000 ≤ x ∧ x ≤ 30000) ∧ -1000000000 ≤ r.2 ∧ r.2 ≤ 1000000000 := by
  unfold validL at h
  simp only [Bool.and_eq_true, decide_eq_true_eq, Bool.not_eq_true', List.any_eq_false] at h
  obtain ⟨⟨⟨h1, h2⟩, h3⟩, h4⟩ := h
  refine ⟨h1, h2, h3, fun r hr => ?_⟩
  have := h4 r hr
  unfold badE at this
  simp only [Bool.or_eq_true, Bool.not_eq_true', not_or, Bool.not_eq_false, beq_iff_eq, Bool.and_eq_true, decide_eq_true_eq, List.any_eq_true, not_exists, not_and] at this
  refine ⟨this.1.1, fun x hx => ?_, this.2⟩
  have h5 := this.1.2 x hx
  unfold largeB at h5
  simpa using h5
theorem answer_after {w W : World} {b : Nat} (h : Blk W b #[.bool false, .slice none 0 0, .string ⟨#[]⟩, .slice none 0 0] 38) (hb : w.heap.size ≤ b) (hW : Below w.heap.size w W) (a c d e : Value) :
    let V := (((W.setCell ⟨b, 0, none⟩ a).setCell ⟨b, 1, none⟩ c).setCell ⟨b, 2, none⟩ d).setCell ⟨b, 3, none⟩ e
    (V.cell? ⟨b, 0, none⟩ = some a ∧ V.cell? ⟨b, 1, none⟩ = some c ∧ V.cell? ⟨b, 2, none⟩ = some d ∧ V.cell? ⟨b, 3, none⟩ = some e) ∧ Below w.heap.size w V ∧ Only [b] W V := by
  have hB := (((h.set 0 a).set 1 c).set 2 d).set 3 e
  have hon : Only [b] W ((((W.setCell ⟨b, 0, none⟩ a).setCell ⟨b, 1, none⟩ c).setCell ⟨b, 2, none⟩ d).setCell ⟨b, 3, none⟩ e) := ((((Only.refl [b] W).setCell (p := ⟨b, 0, none⟩) (by simp) _).setCell (p := ⟨b, 1, none⟩) (by simp) _).setCell (p := ⟨b, 2, none⟩) (by simp) _).setCell (p := ⟨b, 3, none⟩) (by simp) _
  exact ⟨⟨hB.cell 0, hB.cell 1, hB.cell 2, hB.cell 3⟩, hW.trans (hon.toBelow hW.size (by intro x hx; rw [List.mem_singleton.1 hx]; exact hb)), hon⟩
set_option maxRecDepth 100000 in
set_option maxHeartbeats 8000000 in
theorem solve_bad (cols : Int) (v : Value) (rows : List (List Int × Int)) (w : World) (h : SlE w v rows) (hv : validL cols rows = false) :
    Calls Tryz.prog 14 #[.agg #[.int .i64 cols, v]] w (Rets w (.tuple #[.agg #[.bool false, .slice none 0 0, .string ⟨#[]⟩, .slice none 0 0], .int .i64 60])) := by
  obtain ⟨a, cap, rfl⟩ := h.shape
  have H := Lib.hid h
  have VA := Lib.hid (fun W (hW : SlE W (.slice a rows.length cap) rows) => lvalid_any cols _ rows W hW)
  rw [hv] at VA
  clear h hv
  generalize rows.length = n at *
  obtain ⟨V1, e1, S1, z1⟩ := (BL.start w).add' #[.int .i64 cols, .slice a n cap] 27
  obtain ⟨V2, e2, hS, z2⟩ := S1.add' #[.bool false, .slice none 0 0, .string ⟨#[]⟩, .slice none 0 0] 38
  rw [z1] at hS
  have hV : V2 = (w.alloc (.cells #[.int .i64 cols, .slice a n cap] 27)).alloc (.cells #[.bool false, .slice none 0 0, .string ⟨#[]⟩, .slice none 0 0] 38) := by rw [e2, e1]
  have zz := Lib.hid (show V2.heap.size = w.heap.size + 2 by rw [z2, z1])
  clear e1 e2 S1 z1 z2
  obtain ⟨x0, x1⟩ := hS.c2 w.heap.size _ _ _ (.tail _ (.head _))
  go_enter Tryz.func14, Tryz.ntmps14
  go_upto_region 1 with fail
  rw [← hV]
  clear hV
  go_wp2_with fail
  refine Calls.mono (VA.out _ (H.out.below hS.below)) ?_
  rintro e w1 ⟨rfl, hb⟩
  replace hS := hS.call hb
  have hsv := Lib.hid hb.size
  clear x0 x1 hb
  obtain ⟨y0, y1, y2, y3⟩ := hS.c4 (w.heap.size + 1) _ _ _ _ _ (.head _)
  have hB := hS.blks _ (.head _)
  have f0 := hB.frozen 0
  have f1 := hB.frozen 1
  have f2 := hB.frozen 2
  have f3 := hB.frozen 3
  obtain ⟨⟨k0, k1, k2, k3⟩, hfin, -⟩ := answer_after hB (Nat.le_succ _) hS.below (.bool false) (.slice none 0 0) (.string ⟨#[]⟩) (.slice none 0 0)
  have hfin := Lib.hid hfin
  clear hS hB
  dsimp only at f0 f1 f2 f3 k0 k1 k2 k3
  go_wp2
  exact bodyPost_ret (v := .tuple #[.agg #[.bool false, .slice none 0 0, .string ⟨#[]⟩, .slice none 0 0], .int .i64 60]) (by simp [results, Tryz.results14, go_sem, k0, k1, k2, k3]) rfl ⟨rfl, hfin.out⟩
set_option maxRecDepth 100000 in
set_option maxHeartbeats 8000000 in
theorem solve_ok (cols : Nat) (v : Value) (rows : List (List Int × Int)) (w : World) (hE : Env w) (h : SlE w v rows) (hv : validL cols rows = true) (hwd : SysWd (sysOf cols rows)) (htx : SysTx (sysOf cols rows)) :
    Calls Tryz.prog 14 #[.agg #[.int .i64 cols, v]] w fun e w' => ∃ B, (sysOf cols rows).Inv B ∧ (∀ k, k < cols → 0 ≤ (sysOf cols rows).C B k) ∧ Below w.heap.size w w' ∧
      (((sysOf cols rows).C B (cols + rows.length) = 0 ∧ ∃ nv, e = .returned (.tuple #[.agg #[.bool true, nv, .string (I10 ((sysOf cols rows).d B)), .slice none 0 0], .int .i64 0]) ∧ SlS w' nv ((List.range cols).map fun k => I10 ((sysOf cols rows).x B k))) ∨
       ((sysOf cols rows).C B (cols + rows.length) ≠ 0 ∧ ∃ wv, e = .returned (.tuple #[.agg #[.bool false, .slice none 0 0, .string ⟨#[]⟩, wv], .int .i64 0]) ∧ SlS w' wv ((List.range rows.length).map fun i => I10 (sgnOf rows i * (sysOf cols rows).w B i)))) := by
  obtain ⟨p1, p2, p3, p4⟩ := valid_parts6 hv
  obtain ⟨a, cap, rfl⟩ := h.shape
  have H := Lib.hid h
  have VA := Lib.hid (fun W (hW : SlE W (.slice a rows.length cap) rows) => lvalid_any cols _ rows W hW)
  rw [hv] at VA
  have OP := Lib.hid (fun W (hW : SlE W (.slice a rows.length cap) rows) => open_any cols rows _ W hW (by omega) (by omega) (fun r hr => by have := (p4 r hr).1; omega) (fun r hr => ⟨fun x hx => by have := (p4 r hr).2.1 x hx; omega, (p4 r hr).2.2⟩))
  have ok := sys_ok cols rows
  obtain ⟨s, hs⟩ : ∃ s, s = sysOf cols rows := ⟨_, rfl⟩
  have hsn : s.n = cols := by rw [hs]; rfl
  have hsm : s.m = rows.length := by rw [hs]; rfl
  rw [← hs] at OP ok hwd htx ⊢
  have hsg := Lib.hid (fun i => sgn_val rows i)
  generalize sgnOf rows = sg at *
  generalize rows.length = n at *
  have c64 : cols ≤ 64 := by omega
  replace ok := Lib.hid ok
  replace hwd := Lib.hid hwd
  replace htx := Lib.hid htx
  replace hsn := Lib.hid hsn
  replace hsm := Lib.hid hsm
  replace hE := Lib.hid hE
  clear h hv p1 p2 p4 hs
  obtain ⟨V1, e1, S1, z1⟩ := (BL.start w).add' #[.int .i64 cols, .slice a n cap] 27
  obtain ⟨V2, e2, hS, z2⟩ := S1.add' #[.bool false, .slice none 0 0, .string ⟨#[]⟩, .slice none 0 0] 38
  rw [z1] at hS
  have hV : V2 = (w.alloc (.cells #[.int .i64 cols, .slice a n cap] 27)).alloc (.cells #[.bool false, .slice none 0 0, .string ⟨#[]⟩, .slice none 0 0] 38) := by rw [e2, e1]
  have zz := Lib.hid (show V2.heap.size = w.heap.size + 2 by rw [z2, z1])
  clear e1 e2 S1 z1 z2
  obtain ⟨x0, x1⟩ := hS.c2 w.heap.size _ _ _ (.tail _ (.head _))
  go_enter Tryz.func14, Tryz.ntmps14
  go_upto_region 1 with fail
  rw [← hV]
  clear hV
  go_wp2_with fail
  refine Calls.mono (VA.out _ (H.out.below hS.below)) ?_
  rintro e w1 ⟨rfl, hb⟩
  replace hS := hS.call hb
  have hsv := Lib.hid hb.size
  clear x0 x1 hb
  obtain ⟨x0, x1⟩ := hS.c2 w.heap.size _ _ _ (.tail _ (.head _))
  go_wp2_with fail
  refine Calls.mono (OP.out _ (H.out.below hS.below)) ?_
  rintro e w2 ⟨t, rfl, t1, t2, t3, t4, t5, hb2⟩
  clear x0 x1
  replace t1 := Lib.hid t1
  replace t2 := Lib.hid t2
  replace t3 := Lib.hid t3
  replace t4 := Lib.hid t4
  replace t5 := Lib.hid t5
  go_wp2_with fail
  refine Calls.mono (run_any t w1.heap.size s hwd.out s.B0 sg (LnM.inv_B0 ok.out) (by rw [t1.out, hsm.out]) (by rw [t2.out, hsn.out, hsm.out]) (by rw [t3.out, hsn.out]) t4.out (by rw [t1.out]; omega) (by rw [t2.out]; omega) w2 (by rw [LnM.d_B0 ok.out]; exact t5.out) hb2.size) ?_
  rintro e w3 ⟨rfl, ⟨B, hI, hfe, hT⟩, hb3⟩
  replace hS := hS.call (hb2.trans hb3)
  have hszw : w1.heap.size ≤ w3.heap.size := Nat.le_trans hb2.size hb3.size
  have hsz1 : w.heap.size + 2 ≤ w1.heap.size := by rw [← zz.out]; exact hsv.out
  replace hT := Lib.hid hT
  replace hI := Lib.hid hI
  replace hfe := Lib.hid hfe
  clear t5 hb2 hb3 H VA OP
  have hms : t.m = s.m := by rw [t1.out, hsm.out]
  have hns : t.n = s.n + s.m + 1 := by rw [t2.out, hsn.out, hsm.out]
  have hks : t.k = s.n := by rw [t3.out, hsn.out]
  have htm1 : t.m ≤ 18 := by rw [t1.out]; exact p3
  have htk1 : t.k ≤ 64 := by rw [t3.out]; exact c64
  have htn1 : t.n ≤ 1000 := by rw [t2.out]; omega
  obtain ⟨la, hla⟩ : ∃ la, la = s.n + s.m := ⟨_, rfl⟩
  have hlan : la < t.n := by omega
  have hla' : (la : Int) < t.n := by omega
  have hla0 : (0 : Int) ≤ la := by omega
  have hw1 : IntKind.i64.wrap ((t.n : Int) - 1) = la := by rw [IntWalk.i64_in _ (by omega)]; omega
  have hcw := hwd.out.C B hI.out la (by omega)
  have hlac : la = cols + n := by rw [hla, hsn.out, hsm.out]
  have hFc : ∀ j, tabF s B t.m j = s.C B j := fun j => by unfold tabF; rw [if_neg (by omega)]
  have hFr : ∀ i, i < t.m → ∀ j, tabF s B i j = s.T B i j := fun i hi j => by unfold tabF; rw [if_pos (by omega)]
  have c1 := hT.out.c1
  obtain ⟨b0, b1, b2, b3, b4, b5, b6, b7, b8, b9, b10, b11⟩ := range_cells ((hT.out.grid.row t.m (by omega)).rd la hlan)
  rw [hFc la] at b0 b1 b2 b3 b4 b5 b6 b7 b8 b9 b10 b11
  obtain ⟨z, hz⟩ : ∃ z, z = s.C B la := ⟨_, rfl⟩
  rw [← hz] at b0 b1 b2 b3 b4 b5 b6 b7 b8 b9 b10 b11 hcw
  have EQ := fun W => eq_zero_wide hcw (b := decide (z = 0)) rfl W
  obtain ⟨fz, hfz⟩ : ∃ f, f = wd z := ⟨_, rfl⟩
  rw [← hfz] at b0 b1 b2 b3 b4 b5 b6 b7 b8 b9 b10 b11 EQ
  dsimp only [wc] at EQ
  replace hz := Lib.hid hz
  replace hla := Lib.hid hla
  replace hlac := Lib.hid hlac
  replace hns := Lib.hid hns
  replace hms := Lib.hid hms
  replace hks := Lib.hid hks
  replace hFc := Lib.hid hFc
  replace hFr := Lib.hid hFr
  have tbl3 : t.tb < w3.heap.size := hT.out.lt
  clear hcw hfz
  by_cases hz0 : z = 0
  case neg =>
    rw [show decide (z = 0) = false by simp [hz0]] at EQ
    have hm0 : 0 < t.m := by
      refine Nat.pos_of_ne_zero fun e => hz0 ?_
      have e2 : s.m = 0 := by rw [← hms.out]; exact e
      rw [hz.out, hla.out, LnM.C_val, e2]; rfl
    have hm0' : ¬ (t.m : Int) = 0 := by omega
    go_upto_region 7 with fail
    clear b0 b1 b2 b3 b4 b5 b6 b7 b8 b9 b10 b11 c1 EQ
    replace hz0 := Lib.hid hz0
    go_upto_region 8 with fail
    obtain ⟨X, hX⟩ : ∃ X, X = w3.heap.size := ⟨_, rfl⟩
    obtain ⟨W4, hW4, S4, z4⟩ := (BL.start w3).add' #[.bool false, .slice none 0 0, .string ⟨#[]⟩, .slice none 0 0] 38
    rw [← hW4]
    rw [← hX] at S4 ⊢
    have c3 : W4.cell? ⟨t.tb, 3, none⟩ = some (sl t.m t.sb t.cs) := (hT.out.below S4.below).c3
    rw [sl_pos hm0] at c3
    have hb4 := S4.below
    have kX := Lib.hid (S4.blks _ (.head _))
    have hX' := Lib.hid hX
    have hX1 : w1.heap.size ≤ X := by omega
    clear hW4 S4 hX
    go_wp2_with fail
    clear c3
    go_loopw [41] (fun o wr => ∃ (i : Nat) (wv : Value), o = .int .i64 i ∧ i ≤ t.m ∧ Hid (Below w3.heap.size w3 wr) ∧ Hid (Blk wr X #[.bool false, .slice none 0 0, .string ⟨#[]⟩, wv] 38) ∧ Hid (wr.ownsRow w3.heap.size 9 1 wv i ((List.range i).map fun j => .string (I10 (sg j * s.w B j))))) (fun o _ => t.m - (intOf o).toNat)
    case atStart => exact ⟨0, _, rfl, by omega, Lib.hid hb4, kX, Lib.hid (World.ownsRow_nil _ _ _ _)⟩
    case round =>
      clear hb4 kX z4
      obtain ⟨i, wv, rfl, him, hB, kX, own⟩ := hrel
      by_cases hi : i < t.m
      case pos =>
        have hi' : (i : Int) < t.m := by omega
        have hi0 : (0 : Int) ≤ i := by omega
        have hTr := Lib.hid (hT.out.below hB.out)
        have y0 := hTr.out.sgn i hi
        obtain ⟨si, hsi⟩ : ∃ si, si = sg i := ⟨_, rfl⟩
        rw [← hsi] at y0
        have hsgi := hsg.out i
        rw [← hsi] at hsgi
        replace hsi := Lib.hid hsi
        go_upto_region 11 with fail
        clear y0
        refine solve_r11 (i := i) (q := cols + i) hTr (by rw [hks.out, hsn.out, IntWalk.i64_in _ (by omega)]; omega) (by rw [hns.out, hsn.out, ← hms.out]; omega) (by have : cols + i < t.n := (by rw [hns.out, hsn.out, ← hms.out]; omega); omega) (by omega) (by kernel_rfl) ?_
        intro v46 v47 v48 v49 v50 v51 v52 v53 v54 v55 v56 v57 v58 v59 v60 v61 v62 g W5 hb5 kG hgw
        have kX5 := Lib.hid (kX.out.below hb5)
        have own5 := Lib.hid (own_below own.out hb5)
        have hB5 := Lib.hid (hB.out.trans (hb5.mono hB.out.size))
        have hwt := htx.out.w B hI.out i (by rw [← hms.out]; exact hi)
        have hD : Hid (tabF s B t.m (cols + i) - s.d B = s.w B i) := Lib.hid (by rw [hFc.out]; unfold LnM.Sys.w; rw [hsn.out])
        obtain ⟨D, hDD⟩ : ∃ D, D = tabF s B t.m (cols + i) - s.d B := ⟨_, rfl⟩
        rw [← hDD] at kG
        rw [← hDD] at hD
        clear hDD hb5
        have hsz5 : w3.heap.size ≤ W5.heap.size := hB5.out.size
        have hX5 : w3.heap.size ≤ X := by rw [hX'.out]; exact Nat.le_refl _
        have hgw3 : w3.heap.size ≤ g := Nat.le_trans hB.out.size hgw
        have hBw5 := Lib.hid (hS.below.trans (hB5.out.mono hS.below.size))
        rcases hsgi with e1 | e1
        · rw [e1]
          have he : Hid (s.w B i = sg i * s.w B i) := Lib.hid (by rw [← hsi.out, e1, Int.one_mul])
          clear e1
          go_upto_region 14 with fail
          refine solve_r14 (base := w3.heap.size) (z := D) (w0 := w) hE (Lib.hid ⟨hBw5.out, hS.below.size, hsz5, hX5⟩) (Lib.hid (by rw [hD.out]; exact hwt)) (by have := t1.out; omega) kX5 (Lib.hid kG) own5 (by kernel_rfl) ?_
          intro v68 v69 v70 v71 v72 v73 v74 ga cap W6 hO6 kX6 own6
          have hB6 := Lib.hid (hB5.out.trans (hO6.toBelow hsz5 (by
            intro k hk
            rcases List.mem_cons.1 hk with rfl | hk
            · exact hX5
            · exact (own5.out.lt k (by simpa using hk)).1)))
          have own7 : Hid (W6.ownsRow w3.heap.size 9 1 (.slice (some ⟨ga, 0, none⟩) (i + 1) cap) (i + 1) ((List.range (i + 1)).map fun j => .string (I10 (sg j * s.w B j)))) := Lib.hid (by
            rw [List.range_succ, List.map_append]
            show W6.ownsRow _ _ 1 _ _ (_ ++ [Value.string (I10 (sg i * s.w B i))])
            rw [← he.out, ← hD.out]; exact own6)
          replace kX6 := Lib.hid kX6
          clear hO6 own6 kG
          go_wp2_with fail
          go_roundw
          case rel => exact ⟨i + 1, _, by go_num, by omega, hB6, kX6, own7⟩
          case measure => simp [intOf]; omega
        · rw [e1]
          have he : Hid (-(s.w B i) = sg i * s.w B i) := Lib.hid (by rw [← hsi.out, e1]; omega)
          clear e1
          obtain ⟨E, hEE⟩ : ∃ E, E = 0 - D := ⟨_, rfl⟩
          have MI := Lib.hid (fun W => (by have := wminus_any 0 D W; rw [← hEE] at this; rwa [show wc (wd 0) = wc (fun _ => 0) from wc_congr fun i _ => LnM.wd_zero i] at this : Calls Tryz.prog 39 #[.agg (wc (fun _ => 0)), .agg (wc (wd D))] W (Rets W (.agg (wc (wd E))))))
          replace hEE := Lib.hid hEE
          obtain ⟨y0, y1, y2, y3, y4, y5, y6, y7, y8, y9, y10, y11⟩ := wc_cells kG
          go_wp2_with fail
          refine Calls.mono (MI.out _) ?_
          rintro e w6 ⟨rfl, hb6⟩
          clear y0 y1 y2 y3 y4 y5 y6 y7 y8 y9 y10 y11
          replace kG := kG.below hb6
          replace kX5 := Lib.hid (kX5.out.below hb6)
          replace own5 := Lib.hid (own_below own5.out hb6)
          replace hB5 := Lib.hid (hB5.out.trans (hb6.mono hsz5))
          replace hBw5 := Lib.hid (hS.below.trans (hB5.out.mono hS.below.size))
          replace hsz5 : w3.heap.size ≤ w6.heap.size := hB5.out.size
          clear hb6
          obtain ⟨y0, y1, y2, y3, y4, y5, y6, y7, y8, y9, y10, y11⟩ := wc_cells kG
          obtain ⟨q0, q1, q2, q3, q4, q5, q6, q7, q8, q9, q10, q11⟩ := wc_frozen kG
          go_upto_region 14 with fail
          clear y0 y1 y2 y3 y4 y5 y6 y7 y8 y9 y10 y11 q0 q1 q2 q3 q4 q5 q6 q7 q8 q9 q10 q11
          have kG7 := st12_blk (f := wd E) kG
          have hO7 : Only [g] w6 (st12 w6 g (wd E)) := by rw [← st12_row]; exact only_setCells _ _ _
          obtain ⟨W7, hW7⟩ : ∃ W7, W7 = st12 w6 g (wd E) := ⟨_, rfl⟩
          rw [← hW7] at kG7 hO7
          rw [show ((((((((((((w6.setCell ⟨g, 0, none⟩ (.int .u64 (wd E 0))).setCell ⟨g, 1, none⟩ (.int .u64 (wd E 1))).setCell ⟨g, 2, none⟩ (.int .u64 (wd E 2))).setCell ⟨g, 3, none⟩ (.int .u64 (wd E 3))).setCell ⟨g, 4, none⟩ (.int .u64 (wd E 4))).setCell ⟨g, 5, none⟩ (.int .u64 (wd E 5))).setCell ⟨g, 6, none⟩ (.int .u64 (wd E 6))).setCell ⟨g, 7, none⟩ (.int .u64 (wd E 7))).setCell ⟨g, 8, none⟩ (.int .u64 (wd E 8))).setCell ⟨g, 9, none⟩ (.int .u64 (wd E 9))).setCell ⟨g, 10, none⟩ (.int .u64 (wd E 10))).setCell ⟨g, 11, none⟩ (.int .u64 (wd E 11))) = W7 from hW7.symm]
          clear hW7
          have gne : X ≠ g := fun e => by
            have h1 := kX5.out
            rw [e] at h1
            have := h1.symm.trans kG
            simp at this
          have kX7 := Lib.hid ((hO7.block X kX5.out.lt (by simpa using gne)).trans kX5.out : Blk W7 X #[.bool false, .slice none 0 0, .string ⟨#[]⟩, wv] 38)
          have own7 := Lib.hid (own_only own5.out hO7 (fun b e hb => by rw [List.mem_singleton.1 hb] at e; exact kG.not_row (by decide) own5.out e.symm))
          have hB7 := Lib.hid (hB5.out.trans (hO7.toBelow hsz5 (by intro x hx; rw [List.mem_singleton.1 hx]; exact hgw3)))
          have hBw7 := Lib.hid (hS.below.trans (hB7.out.mono hS.below.size))
          have hsz7 : w3.heap.size ≤ W7.heap.size := hB7.out.size
          clear hO7 kG kX5 own5 hB5 hBw5 hsz5
          refine solve_r14 (base := w3.heap.size) (z := E) (w0 := w) hE (Lib.hid ⟨hBw7.out, hS.below.size, hsz7, hX5⟩) (Lib.hid (by rw [hEE.out, hD.out, Int.zero_sub, Int.neg_neg]; exact ⟨hwt.2, hwt.1⟩)) (by have := t1.out; omega) kX7 (Lib.hid kG7) own7 (by kernel_rfl) ?_
          intro v68 v69 v70 v71 v72 v73 v74 ga cap W8 hO8 kX8 own8
          have hB8 := Lib.hid (hB7.out.trans (hO8.toBelow hsz7 (by
            intro k hk
            rcases List.mem_cons.1 hk with rfl | hk
            · exact hX5
            · exact (own7.out.lt k (by simpa using hk)).1)))
          have own9 : Hid (W8.ownsRow w3.heap.size 9 1 (.slice (some ⟨ga, 0, none⟩) (i + 1) cap) (i + 1) ((List.range (i + 1)).map fun j => .string (I10 (sg j * s.w B j)))) := Lib.hid (by
            rw [List.range_succ, List.map_append]
            show W8.ownsRow _ _ 1 _ _ (_ ++ [Value.string (I10 (sg i * s.w B i))])
            rw [← he.out, ← hD.out, ← Int.zero_sub, ← hEE.out]; exact own8)
          replace kX8 := Lib.hid kX8
          clear hO8 own8 kG7
          go_wp2_with fail
          go_roundw
          case rel => exact ⟨i + 1, _, by go_num, by omega, hB8, kX8, own9⟩
          case measure => simp [intOf]; omega
      case neg =>
        have hi' : ¬ (i : Int) < t.m := by omega
        obtain rfl : i = t.m := by omega
        have hBl := Lib.hid (hS.below.trans (hB.out.mono hS.below.size))
        have hBr := (hS.blks _ (.head _)).below (hB.out.mono (Nat.le_refl _))
        obtain ⟨ga, cap, rfl⟩ : ∃ ga cap, wv = .slice (some ⟨ga, 0, none⟩) t.m cap := by
          rcases own.out.2 with ⟨e, h0⟩ | ⟨g, cp, cur, e, -⟩
          · omega
          · exact ⟨g, cp, e⟩
        obtain ⟨y0, y1, y2, y3⟩ := (⟨kX.out.cell 0, kX.out.cell 1, kX.out.cell 2, kX.out.cell 3⟩ : _ ∧ _ ∧ _ ∧ _)
        obtain ⟨q0, q1, q2, q3⟩ := (⟨hBr.cell 0, hBr.cell 1, hBr.cell 2, hBr.cell 3⟩ : _ ∧ _ ∧ _ ∧ _)
        have f0 := hBr.frozen 0
        have f1 := hBr.frozen 1
        have f2 := hBr.frozen 2
        have f3 := hBr.frozen 3
        obtain ⟨⟨k0, k1, k2, k3⟩, hfin, hon⟩ := answer_after hBr (Nat.le_succ _) hBl.out (.bool false) (.slice none 0 0) (.string ⟨#[]⟩) (.slice (some ⟨ga, 0, none⟩) t.m cap)
        have ownf := own_only own.out hon (fun b e hb => by
          have h1 := (own.out.lt b e).1
          have h2 := List.mem_singleton.1 hb
          dsimp only at h2
          omega)
        have hsl : Hid (SlS _ (.slice (some ⟨ga, 0, none⟩) t.m cap) ((List.range t.m).map fun j => I10 (sg j * s.w B j))) := Lib.hid (SlS.of_own (by rw [List.map_map]; exact ownf))
        have hfin := Lib.hid hfin
        clear hBr kX own hon ownf
        dsimp only at f0 f1 f2 f3 k0 k1 k2 k3 q0 q1 q2 q3
        go_wp2
        exact bodyPost_ret (v := .tuple #[.agg #[.bool false, .slice none 0 0, .string ⟨#[]⟩, .slice (some ⟨ga, 0, none⟩) t.m cap], .int .i64 0]) (by simp [results, Tryz.results14, go_sem, k0, k1, k2, k3]) rfl
          ⟨B, hI.out, fun k hk => hfe.out k (by rw [hsn.out]; exact hk), hfin.out, .inr ⟨by rw [← hlac.out, ← hz.out]; exact hz0.out, _, rfl, by rw [← t1.out]; exact hsl.out⟩⟩
  case pos =>
    rw [show decide (z = 0) = true by simp [hz0]] at EQ
    replace hz0 := Lib.hid hz0
    go_upto_region 17 with fail
    clear b0 b1 b2 b3 b4 b5 b6 b7 b8 b9 b10 b11 c1 EQ
    refine solve_r17 (w0 := w) hE (Lib.hid hS.below) hT (Lib.hid (htx.out.d B hI.out)) (by omega) (by kernel_rfl) ?_
    intro v77 v78 v79 v80 v81 v82 v83 v84 v85 v86 v87 v88 v89 ga gb W4 hb4 hN kA hga hgb
    have hT4 := Lib.hid (hT.out.below hb4)
    obtain ⟨ao, cc, hsl⟩ : ∃ ao cc, sl t.m t.bb t.cb = .slice ao t.m cc := ⟨_, _, rfl⟩
    have c2 := hT4.out.c2
    rw [hsl] at c2
    obtain ⟨S, hSm, hSg⟩ : ∃ S : List Nat, (∀ x ∈ S, x = gb ∧ 0 < t.k) ∧ (0 < t.k → S = [gb]) := by
      by_cases h0 : 0 < t.k
      · exact ⟨[gb], fun x hx => ⟨List.mem_singleton.1 hx, h0⟩, fun _ => rfl⟩
      · exact ⟨[], fun x hx => (by cases hx), fun h => absurd h h0⟩
    have hne : 0 < t.k → ga ≠ gb := fun hk0 e => by
      have := (hN.cell 0 hk0).1
      rw [← e, kA.cell] at this; simp at this
    have N0 := Lib.hid (hN.congr (g := numF s B 0) (fun j _ => (numF_zero s B j).symm))
    replace kA := Lib.hid kA
    replace hsl := Lib.hid hsl
    replace hSm := Lib.hid hSm
    replace hSg := Lib.hid hSg
    replace hne := Lib.hid hne
    replace hb4 := Lib.hid hb4
    clear hN
    go_wp2_with fail
    clear c2
    go_loopw [95] (fun o wr => ∃ i : Nat, o = .int .i64 i ∧ i ≤ t.m ∧ Hid (Only S W4 wr) ∧ Hid (StrAt wr gb t.k (numF s B i))) (fun o _ => t.m - (intOf o).toNat)
    case atStart => exact ⟨0, rfl, by omega, Lib.hid (Only.refl _ _), N0⟩
    case round =>
      clear N0
      obtain ⟨i, rfl, him, hO, hN⟩ := hrel
      have hBr := Lib.hid (hb4.out.trans (hO.out.toBelow hb4.out.size (by intro x hx; rw [(hSm.out x hx).1]; exact hgb)))
      by_cases hi : i < t.m
      case pos =>
        have hi' : (i : Int) < t.m := by omega
        have hi0 : (0 : Int) ≤ i := by omega
        have hm0 : 0 < t.m := by omega
        have hsl' := hsl.out
        rw [sl_pos hm0] at hsl'
        cases hsl'
        have hTr := Lib.hid (hT.out.below hBr.out)
        have y0 := (hTr.out.bas i hi).1
        have y1 := hTr.out.c16
        obtain ⟨q, hq⟩ : ∃ q, q = B i := ⟨_, rfl⟩
        rw [← hq] at y0
        replace hq := Lib.hid hq
        by_cases hqk : q < t.k
        · have hqk' : (q : Int) < t.k := by omega
          have gbl : w3.heap.size ≤ gb := hgb
          go_upto_region 22 with fail
          clear y0 y1
          refine solve_r22 (w0 := w) (la := la) hE (Lib.hid ⟨hS.below.trans (hBr.out.mono hS.below.size), Nat.le_trans hS.below.size hgb⟩) hTr hi hi' hi0 hlan hla' hla0 hqk hqk' (by omega) (Lib.hid (by rw [hFr.out i hi, hla.out]; exact htx.out.T B hI.out i (by rw [← hms.out]; exact hi))) (Lib.hid ⟨Nat.lt_of_lt_of_le kA.out.lt hO.out.size, (hO.out.cell (p := ⟨ga, 1, none⟩) kA.out.lt (fun hx => hne.out (by omega) (hSm.out _ hx).1)).trans (kA.out.cell 1), hne.out (by omega)⟩) hN (Lib.hid ⟨by have := hT.out.lt; omega, by have := hT.out.lx hm0; omega, by have := (hT.out.grid.row i (by omega)).lt; omega⟩) hm0 (by kernel_rfl) ?_
          intro v106 v107 v108 v109 v110 v111 v112 v113 v114 v115 v116 v117 v118 v119 v120 v121 W5 hO5 hN5
          have hO6 := Lib.hid (hO.out.trans (by rw [hSg.out (by omega)]; exact hO5))
          have hN6 := Lib.hid (hN5.congr (g := numF s B (i + 1)) (fun j _ => by rw [hFr.out i hi, hla.out, hq.out]; exact numF_hit hI.out (by rw [← hms.out]; exact hi) j))
          clear hO5 hN5
          go_wp2_with fail
          go_roundw
          case rel => exact ⟨i + 1, by go_num, by omega, hO6, hN6⟩
          case measure => simp [intOf]; omega
        · have hqk' : ¬ (q : Int) < t.k := by omega
          have hN6 := Lib.hid (hN.out.congr (g := numF s B (i + 1)) (fun j hj => numF_miss (by rw [← hq.out]; omega)))
          go_wp2_with fail
          go_roundw
          case rel => exact ⟨i + 1, by go_num, by omega, hO, hN6⟩
          case measure => simp [intOf]; omega
      case neg =>
        have hi' : ¬ (i : Int) < t.m := by omega
        obtain rfl : i = t.m := by omega
        have hBl := Lib.hid (hS.below.trans (hBr.out.mono hS.below.size))
        have hBz := (hS.blks _ (.head _)).below (hBr.out.mono (Nat.le_refl _))
        have kAr : Blk wr ga #[.bool true, .slice (some ⟨gb, 0, none⟩) t.k t.k, .string (I10 (s.d B)), .slice none 0 0] 38 := (hO.out.block ga kA.out.lt (fun hx => hne.out (hSm.out _ hx).2 (hSm.out _ hx).1)).trans kA.out
        obtain ⟨y0, y1, y2, y3⟩ := (⟨kAr.cell 0, kAr.cell 1, kAr.cell 2, kAr.cell 3⟩ : _ ∧ _ ∧ _ ∧ _)
        obtain ⟨q0, q1, q2, q3⟩ := (⟨hBz.cell 0, hBz.cell 1, hBz.cell 2, hBz.cell 3⟩ : _ ∧ _ ∧ _ ∧ _)
        have f0 := hBz.frozen 0
        have f1 := hBz.frozen 1
        have f2 := hBz.frozen 2
        have f3 := hBz.frozen 3
        obtain ⟨⟨k0, k1, k2, k3⟩, hfin, hon⟩ := answer_after hBz (Nat.le_succ _) hBl.out (.bool true) (.slice (some ⟨gb, 0, none⟩) t.k t.k) (.string (I10 (s.d B))) (.slice none 0 0)
        have Nf := hN.out.only hon (by intro e; have := List.mem_singleton.1 e; dsimp only at this; omega)
        have hsf : Hid (SlS _ (.slice (some ⟨gb, 0, none⟩) t.k t.k) ((List.range t.k).map (numF s B t.m))) := Lib.hid (Nf.sl (by unfold maxLen; omega))
        have hfin := Lib.hid hfin
        clear hBz kAr hon Nf
        dsimp only at f0 f1 f2 f3 k0 k1 k2 k3 q0 q1 q2 q3 y0 y1 y2 y3
        go_wp2
        exact bodyPost_ret (v := .tuple #[.agg #[.bool true, .slice (some ⟨gb, 0, none⟩) t.k t.k, .string (I10 (s.d B)), .slice none 0 0], .int .i64 0]) (by simp [results, Tryz.results14, go_sem, k0, k1, k2, k3]) rfl
          ⟨B, hI.out, fun k hk => hfe.out k (by rw [hsn.out]; exact hk), hfin.out, .inl ⟨by rw [← hlac.out, ← hz.out]; exact hz0.out, _, rfl, by
            have e : numF s B t.m = fun k => I10 (s.x B k) := by funext k; unfold numF LnM.Sys.x; rw [hms.out]
            rw [← t3.out, ← e]; exact hsf.out⟩⟩
end Go.Proofs.YtcmomjnailihpaaGreatDoor
