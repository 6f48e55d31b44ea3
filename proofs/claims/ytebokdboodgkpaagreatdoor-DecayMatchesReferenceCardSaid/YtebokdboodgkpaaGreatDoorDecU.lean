/- putlogref26: Made. -/
import Derived.Test.YtebokdboodgkpaaGreatDoorDecT
import Derived.Deep.RegionHeld3
import Derived.Deep.DeepCutAuto
import Derived.Deep.QuietTactic
import Derived.BigQuiet
import Derived.RegionTactic
import Derived.BigRegion
namespace Go.Proofs.YtebokdboodgkpaaGreatDoor
open Go.RowKit
open DecM (Dt gd gd_lt okD inDay Ln mk mdt pk)
attribute [local go_sem] Oper.semAt_some


theorem trip_drop {x : Nm} {k : Nat} (h : k < x.ds.length) (h9 : k < 9) : x.trip.drop k = ((gd x.ds k).t, (gd x.ds k).lo, (gd x.ds k).hi) :: x.trip.drop (k + 1) := by
  unfold Nm.trip
  rw [← List.map_drop, ← List.map_drop]
  have hl : k < (x.ds.take 9).length := by rw [List.length_take]; omega
  rw [List.drop_eq_getElem_cons hl, List.map_cons]
  have e : (x.ds.take 9)[k] = gd x.ds k := by rw [gd_lt h, List.getElem_take]
  rw [e]
theorem trip_end {x : Nm} {k : Nat} (h : ¬ (k < x.ds.length ∧ k < 9)) : x.trip.drop k = [] := by
  refine List.drop_eq_nil_of_le ?_
  unfold Nm.trip; rw [List.length_map, List.length_take]; omega
theorem tdiv_fits {m d : Int} (h : Fits m) : Fits (m.tdiv d) ∨ m.tdiv d = 9223372036854775808 := by
  have := Int.natAbs_tdiv_le_natAbs m d
  unfold Fits at *; omega
theorem tdiv3 {m : Int} (h : Fits m) : Fits (m.tdiv 3) ∧ IntKind.i64.wrap (m.tdiv 3) = m.tdiv 3 := by
  have h1 : m.tdiv 3 ≤ 9223372036854775807 ∧ -9223372036854775808 ≤ m.tdiv 3 := by
    have := Int.natAbs_tdiv_le_natAbs m 3
    unfold Fits at h
    refine ⟨?_, by omega⟩
    rcases Int.lt_or_le 0 m with h0 | h0
    · omega
    · obtain ⟨b, rfl⟩ : ∃ b : Int, m = -b := ⟨-m, by omega⟩
      rw [Int.neg_tdiv, Int.tdiv_eq_ediv_of_nonneg (by omega)]
      omega
  exact ⟨⟨h1.2, h1.1⟩, IntWalk.i64_in _ ⟨h1.2, h1.1⟩⟩
theorem tdiv30 {m : Int} (h : Fits m) : Fits (m.tdiv 30) ∧ IntKind.i64.wrap (m.tdiv 30) = m.tdiv 30 := by
  have h1 : m.tdiv 30 ≤ 9223372036854775807 ∧ -9223372036854775808 ≤ m.tdiv 30 := by
    have := Int.natAbs_tdiv_le_natAbs m 30
    unfold Fits at h
    refine ⟨?_, by omega⟩
    rcases Int.lt_or_le 0 m with h0 | h0
    · omega
    · obtain ⟨b, rfl⟩ : ∃ b : Int, m = -b := ⟨-m, by omega⟩
      rw [Int.neg_tdiv, Int.tdiv_eq_ediv_of_nonneg (by omega)]
      omega
  exact ⟨⟨h1.2, h1.1⟩, IntWalk.i64_in _ ⟨h1.2, h1.1⟩⟩
/-- What holds between two rounds of Made. -/
structure MI (w : World) (x : Nm) (ag : Option Addr) (cap : Nat) (k : Nat) (at_ : Int) (v : Value) (pre : List Dt) (W : World) : Prop where
  at0 : 0 ≤ at_
  at1 : at_ ≤ 400 * k
  eq : pre ++ DecM.mk x.first x.slope x.mi x.by' k at_ (x.trip.drop k) = x.made
  own : W.ownsRow w.heap.size 58 3 v k (dfl pre)
  box : Blk W w.heap.size #[.int .i64 x.f, .int .i64 x.s, .slice ag x.ds.length cap, .int .i64 x.m] 24
  below : Below w.heap.size w W
theorem MI.call {w W W' : World} {x : Nm} {ag : Option Addr} {cap k : Nat} {at_ : Int} {v : Value} {pre : List Dt} (h : MI w x ag cap k at_ v pre W) (hb : Below W.heap.size W W') : MI w x ag cap k at_ v pre W' :=
  ⟨h.at0, h.at1, h.eq, own_below h.own hb, h.box.below hb, kb_call hb h.below (Nat.le_refl _)⟩
theorem MI.only {w W W' : World} {x : Nm} {ag : Option Addr} {cap k g : Nat} {at_ : Int} {v : Value} {pre : List Dt} (h : MI w x ag cap k at_ v pre W) (ho : Only [g] W W') (hg : w.heap.size < g) (hv : ∀ n, v.ownBlock = some n → n < g) : MI w x ag cap k at_ v pre W' :=
  ⟨h.at0, h.at1, h.eq, h.own.kept (row := some g) ⟨ho.os, ho.tape, ho.output, ho.size, fun k hk hs => ho.block k hk (by simp; exact fun e => hs (by rw [e]))⟩ (.inr (fun e => by have := hv g e; omega)), h.box.only ho (by simp; omega), h.below.trans (ho.toBelow h.below.size (by simp; omega))⟩
theorem MI.new {w W : World} {x : Nm} {ag : Option Addr} {cap k : Nat} {at_ : Int} {v : Value} {pre : List Dt} (h : MI w x ag cap k at_ v pre W) (o : Obj) : MI w x ag cap k at_ v pre (W.alloc o) := h.call ((Below.refl _ _).alloc (Nat.le_refl _) o)
theorem MI.drew {w W : World} {x : Nm} {ag : Option Addr} {cap k : Nat} {at_ : Int} {v : Value} {pre : List Dt} (h : MI w x ag cap k at_ v pre W) : MI w x ag cap k at_ v pre W.drew := h.call (below_drewN W 1)

set_option maxRecDepth 100000 in
set_option maxHeartbeats 16000000 in
/-- putlogref26.Made. -/
theorem made_any (x : Nm) (w : World) (h : NmOk w x) : Calls Tryz.prog 7 #[.agg #[.int .i64 x.f, .int .i64 x.s, x.v, .int .i64 x.m]] w fun e w' => ∃ v, e = .returned v ∧ SlD w' v x.made ∧ Below w.heap.size w w' := by
  have P1 := Lib.hid (fun W => pickR_any x.f 2001 h.f (by decide) (by decide) W)
  have P2 := Lib.hid (fun W => pickR_any x.s 141 h.s (by decide) (by decide) W)
  have w1 : IntKind.i64.wrap (pkv x.f 2001 - 1000) = x.first := IntWalk.i64_in _ (by have := x.first_bd; unfold Nm.first at this; omega)
  have w2 : IntKind.i64.wrap (pkv x.s 141 - 70) = x.slope := IntWalk.i64_in _ (by have := x.slope_bd; unfold Nm.slope at this; omega)
  have hmiss := Lib.hid (fun W (hW : NmOk W x) => misses_any x W hW)
  have hfb := x.first_bd
  have hsb := x.slope_bd
  have hN := Lib.hid h
  obtain ⟨ag, cap, hv⟩ := h.sl.shape
  have hlen := h.sl.len_le
  unfold maxLen at hlen
  rw [hv] at hmiss
  have k0 := Blk.new w #[.int .i64 x.f, .int .i64 x.s, .slice ag x.ds.length cap, .int .i64 x.m] 24
  have b0 := kb_new (Below.refl w.heap.size w) (.cells #[.int .i64 x.f, .int .i64 x.s, .slice ag x.ds.length cap, .int .i64 x.m] 24)
  obtain ⟨V, hV⟩ : ∃ V, V = w.alloc (.cells #[.int .i64 x.f, .int .i64 x.s, .slice ag x.ds.length cap, .int .i64 x.m] 24) := ⟨_, rfl⟩
  rw [← hV] at k0 b0
  have c0 := k0.cell 0
  have c1 := k0.cell 1
  simp only [List.getElem?_toArray, List.getElem?_cons_zero, List.getElem?_cons_succ] at c0 c1
  clear h
  rw [hv]
  go_enter Tryz.func7, Tryz.ntmps7
  go_upto_region 1 with fail
  rw [← hV]
  clear hV
  go_wp2_with fail
  refine Calls.mono (P1.out _) ?_
  rintro e w' ⟨rfl, rfl⟩
  go_wp2_with fail
  refine Calls.mono (P2.out _) ?_
  rintro e w' ⟨rfl, rfl⟩
  go_wp2_with fail
  clear P1 P2 c0 c1
  go_loopw [5, 6, 7] (fun a v i wr => ∃ (k : Nat) (at_ : Int) (pre : List Dt), a = .int .i64 at_ ∧ i = .int .i64 k ∧ k ≤ x.ds.length ∧ k ≤ 9 ∧ MI w x ag cap k at_ v pre wr) (fun _ _ i _ => 9 - (intOf i).toNat)
  case atStart => exact ⟨0, 0, [], rfl, rfl, by omega, by omega, by omega, by omega, rfl, ⟨rfl, .inl ⟨rfl, rfl⟩⟩, k0, b0⟩
  case round =>
    clear k0 b0
    obtain ⟨k, at_, pre, rfl, rfl, hk, hk9, hI⟩ := hrel
    have bx0 := hI.box.cell 0
    have bx1 := hI.box.cell 1
    have bx2 := hI.box.cell 2
    have bx3 := hI.box.cell 3
    simp only [List.getElem?_toArray, List.getElem?_cons_zero, List.getElem?_cons_succ] at bx0 bx1 bx2 bx3
    by_cases hkn : k < x.ds.length ∧ k < 9
    · obtain ⟨hkl, hk8⟩ := hkn
      have hd := trip_drop hkl hk8
      have hfd := hN.out.ds (gd x.ds k) (DecM.gd_mem hkl)
      have hsl := hN.out.sl
      rw [hv] at hsl
      rcases hsl with ⟨-, e⟩ | ⟨b, off, cap', e, g1, g2, g3, g4⟩
      · rw [e] at hkl; exact absurd hkl (by simp)
      · cases e
        have hcells := g4 k hkl
        have hdc := fun W (hb : Below w.heap.size w W) => hcells.below hb g3
        replace hdc := Lib.hid hdc
        clear g4 hcells
        obtain ⟨d0, d1, d2⟩ := hdc.out wr hI.below
        have heq := Lib.hid hI.eq
        rw [hd, DecM.mk] at heq
        generalize gd x.ds k = d at *
        have a0 := hI.at0
        have a1 := hI.at1
        have q0 := pkv_nonneg (c := d.t) (m := 400) (by decide)
        have q1 := pkv_lt (c := d.t) (m := 400) (by decide)
        have q2 := pkv_nonneg (c := d.lo) (m := 60) (by decide)
        have q3 := pkv_lt (c := d.lo) (m := 60) (by decide)
        have q4 := pkv_nonneg (c := d.hi) (m := 60) (by decide)
        have q5 := pkv_lt (c := d.hi) (m := 60) (by decide)
        have PA := Lib.hid (fun W => pickR_any d.t 400 hfd.1 (by decide) (by decide) W)
        have PB := Lib.hid (fun W => pickR_any d.lo 60 hfd.2.1 (by decide) (by decide) W)
        have PC := Lib.hid (fun W => pickR_any d.hi 60 hfd.2.2 (by decide) (by decide) W)
        have hmd : ∀ m : Int, mdt x.first x.slope (at_ + 1 + DecM.pk d.t 400) d.lo d.hi m = ⟨at_ + 1 + pkv d.t 400, x.first + x.slope * (at_ + 1 + pkv d.t 400) / 7 - pkv d.lo 60 + m, -((-(7 * x.first + x.slope * (at_ + 1 + pkv d.t 400))) / 7) + pkv d.hi 60 + m⟩ := fun m => rfl
        rw [hmd, show at_ + 1 + DecM.pk d.t 400 = at_ + 1 + pkv d.t 400 from rfl] at heq
        have hsb2 := DecM.slope_bd hsb (t := at_ + 1 + pkv d.t 400) (by omega) (by omega)
        generalize pkv d.t 400 = a at *
        generalize pkv d.lo 60 = p2 at *
        generalize pkv d.hi 60 = p3 at *
        obtain ⟨sp, hsp⟩ : ∃ sp : Int, sp = x.slope * (at_ + 1 + a) := ⟨_, rfl⟩
        have wm : IntKind.i64.wrap (x.slope * (at_ + 1 + a)) = sp := by rw [hsp]; exact IntWalk.i64_in _ (by omega)
        rw [← hsp] at heq hsb2
        have FA := Lib.hid (fun W => floor_any sp (by omega) W)
        have FB := Lib.hid (fun W => floor_any (-(7 * x.first + sp)) (by omega) W)
        obtain ⟨lo, hlo⟩ : ∃ lo : Int, lo = x.first + sp / 7 - p2 := ⟨_, rfl⟩
        obtain ⟨hi, hhi⟩ : ∃ hi : Int, hi = -(-(7 * x.first + sp) / 7) + p3 := ⟨_, rfl⟩
        have wlo : IntKind.i64.wrap (x.first + sp / 7 - p2) = lo := by rw [hlo]; exact IntWalk.i64_in _ (by omega)
        have whi : IntKind.i64.wrap (-(-(7 * x.first + sp) / 7) + p3) = hi := by rw [hhi]; exact IntWalk.i64_in _ (by omega)
        rw [← hlo, ← hhi] at heq
        have lob : -100000 ≤ lo ∧ lo ≤ 100000 := by omega
        have hib : -100000 ≤ hi ∧ hi ≤ 100000 := by omega
        clear hmd hd hfd g1 g2 hsp hlo hhi
        go_wp2_with fail
        refine Calls.mono (PA.out _) ?_
        rintro e w' ⟨rfl, rfl⟩
        go_wp2_with fail
        refine Calls.mono (FA.out _) ?_
        rintro e w1' ⟨rfl, hb⟩
        replace hI := hI.call hb
        clear hb d0 d1 d2 bx0 bx1 bx2 bx3
        go_wp2_with fail
        refine Calls.mono (FB.out _) ?_
        rintro e w2' ⟨rfl, hb⟩
        replace hI := hI.call hb
        clear hb
        obtain ⟨d0, d1, d2⟩ := hdc.out _ hI.below
        have bx2 := hI.box.cell 2
        simp only [List.getElem?_toArray, List.getElem?_cons_zero, List.getElem?_cons_succ] at bx2
        go_upto_region 11 with fail
        have hC := Lib.hid (show ∀ w', MI w x (some ⟨b, off, none⟩) cap k at_ u6 pre w' → (w'.cell? ⟨b, off + k * 3, none⟩ = some (.int .i64 d.t) ∧ w'.cell? ⟨b, off + k * 3 + 1, none⟩ = some (.int .i64 d.lo) ∧ w'.cell? ⟨b, off + k * 3 + 2, none⟩ = some (.int .i64 d.hi) ∧ w'.cell? ⟨w.heap.size, 2, none⟩ = some (.slice (some ⟨b, off, none⟩) x.ds.length cap)) from fun W' h => ⟨(hdc.out _ h.below).1, (hdc.out _ h.below).2.1, (hdc.out _ h.below).2.2, h.box.cell 2⟩)
        have h0 := hI
        replace hI := hI.drew
        go_cut [10] (fun s wx => ∃ g : Nat, s = .pointer (some ⟨g, 0, none⟩) ∧ Blk wx g #[.int .i64 (at_ + 1 + a), .int .i64 lo, .int .i64 hi] 58 ∧ MI w x (some ⟨b, off, none⟩) cap k at_ u6 pre wx ∧ w.heap.size < g ∧ (∀ n, u6.ownBlock = some n → n < g))
        case first => as_aux_lemma =>
          have hlt := fun n hn => (h0.own.lt n hn).2
          have hgt := h0.box.lt
          go_region_held3 (fun w' => w'.cell? ⟨b, off + k * 3, none⟩ = some (.int .i64 d.t) ∧ w'.cell? ⟨b, off + k * 3 + 1, none⟩ = some (.int .i64 d.lo) ∧ w'.cell? ⟨b, off + k * 3 + 2, none⟩ = some (.int .i64 d.hi) ∧ w'.cell? ⟨w.heap.size, 2, none⟩ = some (.slice (some ⟨b, off, none⟩) x.ds.length cap))
            (first | with_reducible exact hC.out _ hI | with_reducible exact hC.out _ (hI.new _) | with_reducible exact hC.out _ ((h0.new _).drew) | go_keep)
            (first | (go_at_call 30; first | ((with_reducible refine Calls.mono (PB.out _) ?_); rintro e w' ⟨rfl, rfl⟩) | ((with_reducible refine Calls.mono (PC.out _) ?_); rintro e w' ⟨rfl, rfl⟩)))
          all_goals (go_wp2_with fail; go_meet)
          all_goals (first | exact ⟨_, rfl, (Blk.new _ _ _).below (below_drewN _ 1), (h0.new _).drew, hgt, hlt⟩ | exact ⟨_, rfl, Blk.new _ _ _, hI.new _, hgt, hlt⟩)
        case rest =>
          clear hI h0 d0 d1 d2 bx2 PA PB PC FA FB wm hC wlo whi
          obtain ⟨g, rfl, kg, hI, hgt, hlt⟩ := hcut
          have HM := hmiss.out _ (hN.out.below hI.below)
          have z0 := hI.box.cell 0
          have z1 := hI.box.cell 1
          have z2 := hI.box.cell 2
          have z3 := hI.box.cell 3
          simp only [List.getElem?_toArray, List.getElem?_cons_zero, List.getElem?_cons_succ] at z0 z1 z2 z3
          cases hms : x.miss with
          | false =>
            rw [hms] at HM
            replace HM := Lib.hid HM
            have hmi : ¬ (k : Int) = x.mi := by unfold Nm.mi; rw [if_neg (by rw [hms]; decide)]; omega
            rw [if_neg hmi, Int.add_zero, Int.add_zero] at heq
            clear hmi hms hmiss
            go_wp2_with fail
            refine Calls.mono HM.out ?_
            rintro e w3' ⟨rfl, hb⟩
            replace hI := hI.call hb
            replace kg := kg.below hb
            clear hb z0 z1 z2 z3
            have n0 := kg.cell 0
            have n1 := kg.cell 1
            have n2 := kg.cell 2
            simp only [List.getElem?_toArray, List.getElem?_cons_zero, List.getElem?_cons_succ] at n0 n1 n2
            go_wp2_with (at_builtin; refine wp_app_dt ⟨at_ + 1 + a, lo, hi⟩ 25 Tryz.underlying25 rfl _ _ rfl rfl rfl hI.own (by omega) hI.below.size ?_; intro g' cap2 w1 hown1 hgrow1 hb1)
            go_roundw
            case rel => exact ⟨k + 1, at_ + 1 + a, pre ++ [⟨at_ + 1 + a, lo, hi⟩], by go_num, by go_num, by omega, by omega, ⟨by omega, by omega, by have := heq.out; simpa using this, hown1, (hI.box.alloc _).kept hgrow1 (Blk.not_row hI.box (by decide) hI.own), hI.below.trans hb1⟩⟩
            case measure => simp [intOf]; omega
          | true =>
            rw [hms] at HM
            replace HM := Lib.hid HM
            obtain ⟨ft, wt⟩ := tdiv3 hN.out.m
            have PM := Lib.hid (fun W => pickR_any (x.m.tdiv 3) (min (x.ds.length : Int) 9) ft (by omega) (by omega) W)
            have hmi : x.mi = pkv (x.m.tdiv 3) (min (x.ds.length : Int) 9) := by unfold Nm.mi; rw [if_pos hms]
            generalize pkv (x.m.tdiv 3) (min (x.ds.length : Int) 9) = pm at *
            replace hmi := Lib.hid hmi
            clear ft hms hmiss
            by_cases hhit : (k : Int) = pm
            · rw [if_pos (hhit.trans hmi.out.symm)] at heq
              have hhb : ((k : Int) == pm) = true := by simp [hhit]
              obtain ⟨ft, wu⟩ := tdiv30 hN.out.m
              have PN := Lib.hid (fun W => pickR_any (x.m.tdiv 30) 241 ft (by decide) (by decide) W)
              have hby := x.by_bd
              have wby : IntKind.i64.wrap (pkv (x.m.tdiv 30) 241 - 120) = x.by' := IntWalk.i64_in _ (by unfold Nm.by' at hby; omega)
              clear hhit ft
              generalize pkv (x.m.tdiv 30) 241 = pn at *
              go_wp2_with fail
              refine Calls.mono HM.out ?_
              rintro e w3' ⟨rfl, hb⟩
              replace hI := hI.call hb
              replace kg := kg.below hb
              clear hb z0 z1 z2 z3
              have z0 := hI.box.cell 0
              have z1 := hI.box.cell 1
              have z2 := hI.box.cell 2
              have z3 := hI.box.cell 3
              simp only [List.getElem?_toArray, List.getElem?_cons_zero, List.getElem?_cons_succ] at z0 z1 z2 z3
              go_wp2_with fail
              refine Calls.mono (PM.out _) ?_
              rintro e w4' ⟨rfl, rfl⟩
              go_wp2_with fail
              refine Calls.mono (PN.out _) ?_
              rintro e w5' ⟨rfl, rfl⟩
              have wl : IntKind.i64.wrap (lo + x.by') = lo + x.by' := IntWalk.i64_in _ (by omega)
              have wh : IntKind.i64.wrap (hi + x.by') = hi + x.by' := IntWalk.i64_in _ (by omega)
              have n0 := kg.cell 0
              have n1 := kg.cell 1
              have n2 := kg.cell 2
              simp only [List.getElem?_toArray, List.getElem?_cons_zero, List.getElem?_cons_succ] at n0 n1 n2
              have m1 := kg.frozen 1
              have m2 := kg.frozen 2
              go_upto_region 16 with fail
              have ho : Only [g] w3' ((w3'.setCell ⟨g, 1, none⟩ (.int .i64 (lo + x.by'))).setCell ⟨g, 2, none⟩ (.int .i64 (hi + x.by'))) := ((Only.refl [g] w3').setCell (p := ⟨g, 1, none⟩) (by simp) _).setCell (p := ⟨g, 2, none⟩) (by simp) _
              have kg2 := (kg.set 1 (.int .i64 (lo + x.by'))).set 2 (.int .i64 (hi + x.by'))
              simp only [List.setIfInBounds_toArray, List.set_cons_zero, List.set_cons_succ] at kg2
              have hI2 := hI.only ho hgt hlt
              obtain ⟨V2, hV2⟩ : ∃ V2, V2 = (w3'.setCell ⟨g, 1, none⟩ (.int .i64 (lo + x.by'))).setCell ⟨g, 2, none⟩ (.int .i64 (hi + x.by')) := ⟨_, rfl⟩
              rw [← hV2] at kg2 hI2 ⊢
              clear hV2 ho hI kg n0 n1 n2 m1 m2 z0 z1 z2 z3
              have n0 := kg2.cell 0
              have n1 := kg2.cell 1
              have n2 := kg2.cell 2
              simp only [List.getElem?_toArray, List.getElem?_cons_zero, List.getElem?_cons_succ] at n0 n1 n2
              go_wp2_with (at_builtin; refine wp_app_dt ⟨at_ + 1 + a, lo + x.by', hi + x.by'⟩ 25 Tryz.underlying25 rfl _ _ rfl rfl rfl hI2.own (by omega) hI2.below.size ?_; intro g' cap2 w1 hown1 hgrow1 hb1)
              go_roundw
              case rel => exact ⟨k + 1, at_ + 1 + a, pre ++ [⟨at_ + 1 + a, lo + x.by', hi + x.by'⟩], by go_num, by go_num, by omega, by omega, ⟨by omega, by omega, by have := heq.out; simpa using this, hown1, (hI2.box.alloc _).kept hgrow1 (Blk.not_row hI2.box (by decide) hI2.own), hI2.below.trans hb1⟩⟩
              case measure => simp [intOf]; omega
            · rw [if_neg (fun h => hhit (h.trans hmi.out)), Int.add_zero, Int.add_zero] at heq
              have hhb : ((k : Int) == pm) = false := by simp [hhit]
              clear hhit
              go_wp2_with fail
              refine Calls.mono HM.out ?_
              rintro e w3' ⟨rfl, hb⟩
              replace hI := hI.call hb
              replace kg := kg.below hb
              clear hb z0 z1 z2 z3
              have z0 := hI.box.cell 0
              have z1 := hI.box.cell 1
              have z2 := hI.box.cell 2
              have z3 := hI.box.cell 3
              simp only [List.getElem?_toArray, List.getElem?_cons_zero, List.getElem?_cons_succ] at z0 z1 z2 z3
              go_wp2_with fail
              refine Calls.mono (PM.out _) ?_
              rintro e w4' ⟨rfl, rfl⟩
              have n0 := kg.cell 0
              have n1 := kg.cell 1
              have n2 := kg.cell 2
              simp only [List.getElem?_toArray, List.getElem?_cons_zero, List.getElem?_cons_succ] at n0 n1 n2
              go_wp2_with (at_builtin; refine wp_app_dt ⟨at_ + 1 + a, lo, hi⟩ 25 Tryz.underlying25 rfl _ _ rfl rfl rfl hI.own (by omega) hI.below.size ?_; intro g' cap2 w1 hown1 hgrow1 hb1)
              go_roundw
              case rel => exact ⟨k + 1, at_ + 1 + a, pre ++ [⟨at_ + 1 + a, lo, hi⟩], by go_num, by go_num, by omega, by omega, ⟨by omega, by omega, by have := heq.out; simpa using this, hown1, (hI.box.alloc _).kept hgrow1 (Blk.not_row hI.box (by decide) hI.own), hI.below.trans hb1⟩⟩
              case measure => simp [intOf]; omega
    · have hfin := Lib.hid (show pre = x.made by have := hI.eq; rw [trip_end hkn] at this; simpa [DecM.mk] using this)
      have hcond : (decide ((k : Int) < (x.ds.length : Int)) && decide ((k : Int) < 9)) = false := by simp; omega
      by_cases hkl : k < x.ds.length
      · have hk8 : ¬ (k : Int) < 9 := by omega
        go_wp2
        go_ret
        exact ⟨_, rfl, by rw [← hfin.out]; exact SlD.of_own hI.own, hI.below⟩
      · go_wp2
        go_ret
        exact ⟨_, rfl, by rw [← hfin.out]; exact SlD.of_own hI.own, hI.below⟩

end Go.Proofs.YtebokdboodgkpaaGreatDoor
