/- putloglaw26: DecayHelly, the walk. -/
import Derived.Test.YtonbmhdbcbbagaaGreatDoorDecHa
import Derived.Test.YtonbmhdbcbbagaaGreatDoorDecMa
import Derived.Test.YtonbmhdbcbbagaaGreatDoorDecX
import Derived.Deep.RegionHeld3
import Derived.Deep.DeepCutAuto
import Derived.Deep.QuietTactic
import Derived.BigQuiet
namespace Go.Proofs.YtonbmhdbcbbagaaGreatDoor
open Go.RowKit
open DecM (Dt fcst rts okD inDay gd gd_lt gd_mem)
attribute [local go_sem] Oper.semAt_some

/-- append(s, part), as an operation, for slices of data: the first is the call's own. -/
theorem oper_app_dts {o : Oper} {a : Act} {K : Act → World → Prop} {Q : Exit → Act → World → Prop} {wr : World} {base : Nat} {v : Value} {n : Nat} {ds : List Dt} (es : List Dt) (t : TypeId)
    (ht : Tryz.prog.underlying t = some (.slice 59)) (s x : Operand) (ho : o.op = .call { callee := .builtin .append, args := #[s, x], argTypes := #[t, t] })
    (hs : a.eval s = v) (b off c : Nat) (hx : a.eval x = .slice (some ⟨b, off, none⟩) es.length c) (hcl : ∀ j, j < es.length → DCell wr b (off + j * 3) (gd es j))
    (hown : wr.ownsRow base 59 3 v n (dfl ds)) (hn : n + es.length ≤ 1000000000) (hbase : base ≤ wr.heap.size)
    (h : ∀ v' w', w'.ownsRow base 59 3 v' (n + es.length) (dfl (ds ++ es)) → Below base wr w' → K (a.put o.dst v') w') :
    Oper.wp Tryz.prog o a wr K Q := by
  obtain ⟨i0, hi, hz0, hz1, hz2⟩ := info_parts info_dt
  refine wp_append_own _ s x t ho base 59 i0 (.agg #[.int .i64 0, .int .i64 0, .int .i64 0]) 3 24 ht hi hz0 hz1 hz2 rfl (by decide) v n _ hs hown ⟨b, off, none⟩ es.length c (dfl es) hx (dfl_length es) ?_ ?_ (by unfold maxLen; omega) (by omega) hbase ?_
  · intro j u hu
    rw [addr_add]
    have hj : j < es.length * 3 := by rw [← dfl_length]; exact (List.getElem?_eq_some_iff.1 hu).1
    obtain ⟨m, hm, e⟩ : ∃ m, m < es.length ∧ (j = m * 3 ∨ j = m * 3 + 1 ∨ j = m * 3 + 2) := ⟨j / 3, by omega, by omega⟩
    obtain ⟨k0, k1, k2⟩ := dfl_get es m hm
    obtain ⟨c0, c1, c2⟩ := hcl m hm
    rcases e with rfl | rfl | rfl
    · rw [k0] at hu; cases hu; exact c0
    · rw [k1] at hu; cases hu; exact c1
    · rw [k2] at hu; cases hu; exact c2
  · intro u hu
    unfold dfl at hu
    simp only [List.mem_flatMap, List.mem_cons, List.not_mem_nil, or_false] at hu
    obtain ⟨p, _, rfl | rfl | rfl⟩ := hu <;> rfl
  intro v' w' hown' hgrow hnil
  rw [show dfl ds ++ dfl es = dfl (ds ++ es) from by unfold dfl; rw [List.flatMap_append]] at hown'
  refine h v' w' hown' ?_
  refine (Below.refl base wr).grown hgrow hbase (fun k hk => ?_)
  exact (hown.lt k hk).1
/-- An empty slice of the call's own. -/
theorem own_empty (W : World) (base : Nat) (hb : base ≤ W.heap.size) : (W.alloc (.cells #[] 59)).ownsRow base 59 3 (.slice (some ⟨W.heap.size, 0, none⟩) 0 0) 0 (dfl []) :=
  ⟨rfl, .inr ⟨W.heap.size, 0, #[], rfl, hb, heap_alloc_new W _, Nat.le_refl _, by unfold maxLen; omega, rfl, rfl⟩⟩
theorem dcell_of {W : World} {B : Nat} {p q r : Dt} (h : Blk W B #[.int .i64 p.t, .int .i64 p.lo, .int .i64 p.hi, .int .i64 q.t, .int .i64 q.lo, .int .i64 q.hi, .int .i64 r.t, .int .i64 r.lo, .int .i64 r.hi] 59) : DCell W B 0 p ∧ DCell W B 3 q ∧ DCell W B 6 r :=
  ⟨⟨h.cell 0, h.cell 1, h.cell 2⟩, ⟨h.cell 3, h.cell 4, h.cell 5⟩, ⟨h.cell 6, h.cell 7, h.cell 8⟩⟩
theorem dc_nil {W : World} {b off : Nat} : ∀ j, j < ([] : List Dt).length → DCell W b (off + j * 3) (gd [] j) := fun j hj => absurd hj (by simp)
theorem dc_one {W : World} {b off : Nat} {p : Dt} (h : DCell W b off p) : ∀ j, j < [p].length → DCell W b (off + j * 3) (gd [p] j) := fun j hj => by
  match j, hj with
  | 0, _ => exact h
theorem dc_two {W : World} {b off : Nat} {p q : Dt} (h : DCell W b off p) (g : DCell W b (off + 3) q) : ∀ j, j < [p, q].length → DCell W b (off + j * 3) (gd [p, q] j) := fun j hj => by
  match j, hj with
  | 0, _ => exact h
  | 1, _ => exact g
theorem fit_cb {l : List Dt} {c : Bool} (hok : okD l = true) {p q : Rat} (hp : OkO (some p)) (hq : OkO (some q)) (h : fitO l (some p) (some q) = c) (v : Value) (W : World) (hE : Env W) (hv : SlD W v l) :
    Calls Tryz.prog 31 #[v, .agg #[.string (numS p), .string (denS p)], .agg #[.string (numS q), .string (denS q)]] W (Rets W (.bool c)) := by
  have := dfits_any v l (tN (some p)) (tD (some p)) (tN (some q)) (tD (some q)) (ok_fits hok) W hE hv
  rw [oq_t hp, oq_t hq, h] at this
  exact this
theorem of_cb (n d : Int) (hn : Fits n) (hd : Fits d) (h0 : 0 < d) (W : World) : Calls Tryz.prog 30 #[.int .i64 n, .int .i64 d] W (Rets W (.agg #[.string (numS (DecM.ratio n d)), .string (denS (DecM.ratio n d))])) := by
  have := of_any n d hn hd W
  rw [oOf_ratio (by omega)] at this
  exact this
/-- Blocks of the call's own, a list of data, and a list of indexes. -/
structure HI (w : World) (L : BLs) (v : Value) (l : List Dt) (r : Value) (xs : List Int) (W : World) : Prop where
  bl : BL w L W
  sd : SlD W v l
  sl : Sl W r xs
theorem HI.call {w W W' : World} {L : BLs} {v r : Value} {l : List Dt} {xs : List Int} (h : HI w L v l r xs W) (hb : Below W.heap.size W W') : HI w L v l r xs W' := ⟨h.bl.call hb, h.sd.below hb, h.sl.below hb⟩
theorem HI.drew {w W : World} {L : BLs} {v r : Value} {l : List Dt} {xs : List Int} (h : HI w L v l r xs W) : HI w L v l r xs W.drew := h.call (below_drewN W 1)
theorem HI.add {w W : World} {L : BLs} {v r : Value} {l : List Dt} {xs : List Int} (h : HI w L v l r xs W) (cs : Array Value) (t : TypeId) : HI w ((W.heap.size, cs, t) :: L) v l r xs (W.alloc (.cells cs t)) :=
  ⟨h.bl.add cs t, h.sd.new _, h.sl.new _⟩

set_option maxRecDepth 100000 in
set_option maxHeartbeats 16000000 in
theorem helly_none (x : Nm) (t : Int) (p0 p1 p2 p3 : Int) (w : World) (h : NmOk w x) (ht : Fits t) (hEQ : EnvQ w) (HL : refO x.made = none ∧ DecM.Feas x.made ∧ ((x.made.length : Int) < 2 ∧ lnO x.made (pkv t 5001) true = none ∨ ¬ (x.made.length : Int) < 2 ∧ ∃ p q, lnO x.made (pkv t 5001) true = some (p, q) ∧ fitO x.made (some p) (some q) = true ∧ BQ 13 p ∧ BQ 13 q)) :
    Calls Tryz.prog 4 #[.agg #[.int .i64 x.f, .int .i64 x.s, x.v, .int .i64 x.m], .int .i64 t, .agg #[.int .i64 p0, .int .i64 p1, .int .i64 p2, .int .i64 p3]] w (Rets w (.bool true)) := by
  have hE := hEQ.env
  have hd0 := pkv_nonneg (c := t) (m := 5001) (by decide)
  have hd1 := pkv_lt (c := t) (m := 5001) (by decide)
  have DY := fun W => day_any t ht W
  have hd : inDay (pkv t 5001) = true := DecM.inDay_iff.2 (by omega)
  generalize pkv t 5001 = d at *
  have MS := fun W (h : NmOk W x) => misses_any x W h
  have HD := fun W (h : NmOk W x) => hid_c x W h
  have MD := fun W (h : NmOk W x) => made_any x W h
  have hok := x.made_ok
  obtain ⟨bf, bs⟩ := bq_hid x
  have MF : x.miss = false → DecM.Feas x.made ∧ fitO x.made (some (x.first : Rat)) (some ((x.slope : Rat) / 7)) = true := fun hm => ⟨⟨_, _, x.made_fit hm⟩, fitO_of hok bf bs (x.made_fit hm)⟩
  generalize (x.first : Rat) = fa at *
  generalize ((x.slope : Rat) / 7) = fb at *
  have HN := Lib.hid h
  obtain ⟨ag, cap, hv⟩ := h.sl.shape
  generalize x.made = l at *
  have hl16 := (DecM.okD_iff.1 hok).2.2
  have LN := fun v W (hE : Env W) (h : SlD W v l) => line_any v l d true W hE h
  have RF := fun v W (h : SlD W v l) => refute_any v l W h
  generalize x.miss = mb at *
  clear h ht hd0 hd1 hEQ
  rw [hv] at MD MS HD ⊢
  generalize x.f = xf at *
  generalize x.s = xs at *
  generalize x.m = xm at *
  generalize x.ds.length = xl at *
  clear hv
  replace DY := Lib.hid DY
  replace MD := Lib.hid MD
  replace MS := Lib.hid MS
  replace HD := Lib.hid HD
  unfold RefP at RF
  obtain ⟨hr, hf, hA⟩ := HL
  rw [hr] at RF
  dsimp only [Option.isSome, triL] at RF
  replace RF := Lib.hid RF
  clear hr hf
  rcases hA with ⟨hA, hln⟩ | ⟨hA, p, q, hln, hfl, bp, bq⟩
  · rw [hln] at LN
    unfold fV at LN
    clear hln
    replace LN := Lib.hid LN
    cases mb with
    | false =>
      have FT := Lib.hid (fun v W (hE : Env W) (h : SlD W v l) => fit_cb hok (bf.ok (by decide)) (bs.ok (by decide)) (MF rfl).2 v W hE h)
      clear MF hok bf bs
      generalize numS fa = an at *
      generalize denS fa = ad at *
      generalize numS fb = bn at *
      generalize denS fb = bd at *
      have Sv0 := BL.start w
      obtain ⟨V1, ev1, Sv1, zv1⟩ := Sv0.add' #[.int .i64 xf, .int .i64 xs, .slice ag xl cap, .int .i64 xm] 24
      obtain ⟨V2, ev2, Sv2, zv2⟩ := Sv1.add' #[.int .i64 p0, .int .i64 p1, .int .i64 p2, .int .i64 p3] 56
      rw [zv1] at Sv2
      have hV : V2 = ((w.alloc (.cells #[.int .i64 xf, .int .i64 xs, .slice ag xl cap, .int .i64 xm] 24)).alloc (.cells #[.int .i64 p0, .int .i64 p1, .int .i64 p2, .int .i64 p3] 56)) := by rw [ev2, ev1]
      have hS : BL w [(w.heap.size + 1, #[.int .i64 p0, .int .i64 p1, .int .i64 p2, .int .i64 p3], 56), (w.heap.size, #[.int .i64 xf, .int .i64 xs, .slice ag xl cap, .int .i64 xm], 24)] V2 := Sv2
      clear ev1 ev2 zv1 zv2 Sv0 Sv1 Sv2
      go_enter Tryz.func4, Tryz.ntmps4
      go_wp2_with fail
      rw [← hV]
      clear hV
      refine Calls.mono (sane_any _ (hS.env hE)) ?_
      rintro e w1 ⟨rfl, hb⟩
      replace hS := hS.call hb
      clear hb
      obtain ⟨c_x_0, c_x_1, c_x_2, c_x_3⟩ := hS.c4 (w.heap.size) _ _ _ _ _ (.tail _ (.head _))
      go_wp2_with fail
      refine Calls.mono (MD.out _ (HN.out.below hS.below)) ?_
      rintro e w2 ⟨v, rfl, hD, hb⟩
      clear c_x_0 c_x_1 c_x_2 c_x_3
      replace hS := hS.call hb
      clear hb
      obtain ⟨la, lc, rfl⟩ := hD.shape
      go_wp2_with fail
      refine Calls.mono (RF.out _ _ hD) ?_
      rintro e w3 ⟨u, rfl, hR, hb⟩
      replace hS := hS.call hb
      replace hD := hD.below hb
      clear hb
      obtain ⟨ra, rc, rfl⟩ := hR.shape
      clear hR
      obtain ⟨c_x_0, c_x_1, c_x_2, c_x_3⟩ := hS.c4 (w.heap.size) _ _ _ _ _ (.tail _ (.head _))
      go_wp2_with fail
      refine Calls.mono (HD.out _ (HN.out.below hS.below)) ?_
      rintro e w4 ⟨rfl, hb⟩
      clear c_x_0 c_x_1 c_x_2 c_x_3
      replace hS := hS.call hb
      replace hD := hD.below hb
      clear hb
      replace hS := hS.add' #[.string an, .string ad] 27
      obtain ⟨W0, hW0, hS, hz0⟩ := hS
      replace hS := hS.add' #[.string bn, .string bd] 27
      obtain ⟨W1, hW1, hS, hz1⟩ := hS
      rw [hz0] at hS
      obtain ⟨W, hW⟩ : ∃ W, W = ((w4.alloc (.cells #[.string an, .string ad] 27)).alloc (.cells #[.string bn, .string bd] 27)) := ⟨_, rfl⟩
      replace hS : BL w [(w4.heap.size + 1, #[.string bn, .string bd], 27), (w4.heap.size, #[.string an, .string ad], 27), (w.heap.size + 1, #[.int .i64 p0, .int .i64 p1, .int .i64 p2, .int .i64 p3], 56), (w.heap.size, #[.int .i64 xf, .int .i64 xs, .slice ag xl cap, .int .i64 xm], 24)] W := by rw [hW, ← hW0, ← hW1]; exact hS
      replace hD : SlD W (.slice la l.length lc) l := by rw [hW]; exact (hD.new _).new _
      clear hz0 hz1 hW1 hW0
      go_upto_region 6 with fail
      rw [← hW]
      clear hW
      have hI := HI.mk hS hD (Sl.nil _)
      clear hS hD
      go_cut [76] (fun s wx => s = .bool false ∧ HI w [(w4.heap.size + 1, #[.string bn, .string bd], 27), (w4.heap.size, #[.string an, .string ad], 27), (w.heap.size + 1, #[.int .i64 p0, .int .i64 p1, .int .i64 p2, .int .i64 p3], 56), (w.heap.size, #[.int .i64 xf, .int .i64 xs, .slice ag xl cap, .int .i64 xm], 24)] (.slice la l.length lc) l (.slice none 0 0) [] wx)
      case first => as_aux_lemma =>
        refine wp_region_quiet (C := fun W' => HI w [(w4.heap.size + 1, #[.string bn, .string bd], 27), (w4.heap.size, #[.string an, .string ad], 27), (w.heap.size + 1, #[.int .i64 p0, .int .i64 p1, .int .i64 p2, .int .i64 p3], 56), (w.heap.size, #[.int .i64 xf, .int .i64 xs, .slice ag xl cap, .int .i64 xm], 24)] (.slice la l.length lc) l (.slice none 0 0) [] W') rfl (by kernel_rfl) hI.drew (Walled.out ?_)
        refine qWant rfl fun K hK => ?_
        go_simp
        refine ⟨_, fun _ _ => rfl, hK _ ?_⟩
        clear hK K
        refine qWant rfl fun K hK => ?_
        go_simp
        refine ⟨_, fun _ _ => rfl, hK _ ?_⟩
        clear hK K
        refine qStep fun K hK => ?_
        go_simp
        refine hK _ ?_
        clear hK K
        refine qStep fun K hK => ?_
        go_simp
        refine hK _ ?_
        clear hK K
        refine qStep fun K hK => ?_
        go_simp
        refine hK _ ?_
        clear hK K
        refine qStep fun K hK => ?_
        go_simp
        refine hK _ ?_
        clear hK K
        refine qStep fun K hK => ?_
        go_simp
        refine hK _ ?_
        clear hK K
        refine qStep fun K hK => ?_
        go_simp
        refine hK _ ?_
        clear hK K
        refine qStep fun K hK => ?_
        go_simp
        refine hK _ ?_
        clear hK K
        refine qStep fun K hK => ?_
        go_simp
        refine hK _ ?_
        clear hK K
        refine qStep fun K hK => ?_
        go_simp
        refine hK _ ?_
        clear hK K
        refine qStep fun K hK => ?_
        go_simp
        refine hK _ ?_
        clear hK K
        refine qStep fun K hK => ?_
        go_simp
        refine hK _ ?_
        clear hK K
        refine qStep fun K hK => ?_
        go_simp
        refine hK _ ?_
        clear hK K
        refine qStep fun K hK => ?_
        go_simp
        refine hK _ ?_
        clear hK K
        refine qStep fun K hK => ?_
        go_simp
        refine hK _ ?_
        clear hK K
        refine qStep fun K hK => ?_
        go_simp
        refine hK _ ?_
        clear hK K
        refine qStep fun K hK => ?_
        go_simp
        refine hK _ ?_
        clear hK K
        refine qStep fun K hK => ?_
        go_simp
        refine hK _ ?_
        clear hK K
        refine qStep fun K hK => ?_
        go_simp
        refine hK _ ?_
        clear hK K
        refine qStep fun K hK => ?_
        go_simp
        refine hK _ ?_
        clear hK K
        refine qStep fun K hK => ?_
        go_simp
        refine hK _ ?_
        clear hK K
        refine qStep fun K hK => ?_
        go_simp
        refine hK _ ?_
        clear hK K
        refine qStep fun K hK => ?_
        go_simp
        refine hK _ ?_
        clear hK K
        refine qStep fun K hK => ?_
        go_simp
        refine hK _ ?_
        clear hK K
        refine qStep fun K hK => ?_
        go_simp
        refine hK _ ?_
        clear hK K
        refine qStep fun K hK => ?_
        go_simp
        refine hK _ ?_
        clear hK K
        refine qStep fun K hK => ?_
        go_simp
        refine hK _ ?_
        clear hK K
        refine qStep fun K hK => ?_
        go_simp
        refine hK _ ?_
        clear hK K
        refine qStep fun K hK => ?_
        go_simp
        refine hK _ ?_
        clear hK K
        refine qStep fun K hK => ?_
        go_simp
        refine hK _ ?_
        clear hK K
        refine qStep fun K hK => ?_
        go_simp
        refine hK _ ?_
        clear hK K
        refine qStep fun K hK => ?_
        go_simp
        refine hK _ ?_
        clear hK K
        refine qStep fun K hK => ?_
        go_simp
        refine hK _ ?_
        clear hK K
        refine qStep fun K hK => ?_
        go_simp
        refine hK _ ?_
        clear hK K
        refine qStep fun K hK => ?_
        go_simp
        refine hK _ ?_
        clear hK K
        refine qStep fun K hK => ?_
        go_simp
        refine hK _ ?_
        clear hK K
        refine qStep fun K hK => ?_
        go_simp
        refine hK _ ?_
        clear hK K
        refine qWant rfl fun K hK => ?_
        go_simp
        refine ⟨_, fun _ _ => rfl, hK _ ?_⟩
        clear hK K
        refine qNil ?_
        intro W' hI
        go_wp2_with fail
        go_meet
        exact ⟨rfl, hI⟩
      case rest =>
        clear hI
        obtain ⟨rfl, hI⟩ := hcut
        obtain ⟨hS, hD, -⟩ := hI
        obtain ⟨c_x_0, c_x_1, c_x_2, c_x_3⟩ := hS.c4 (w.heap.size) _ _ _ _ _ (.tail _ (.tail _ (.tail _ (.head _))))
        go_wp2_with fail
        refine Calls.mono (MS.out _ (HN.out.below hS.below)) ?_
        rintro e w5 ⟨rfl, hb⟩
        clear c_x_0 c_x_1 c_x_2 c_x_3
        replace hS := hS.call hb
        replace hD := hD.below hb
        clear hb
        obtain ⟨c_a_0, c_a_1⟩ := hS.c2 (w4.heap.size) _ _ _ (.tail _ (.head _))
        obtain ⟨c_b_0, c_b_1⟩ := hS.c2 (w4.heap.size + 1) _ _ _ (.head _)
        go_wp2_with fail
        refine Calls.mono (FT.out _ _ (hS.env hE) hD) ?_
        rintro e w6 ⟨rfl, hb⟩
        clear c_a_0 c_a_1 c_b_0 c_b_1
        replace hS := hS.call hb
        replace hD := hD.below hb
        clear hb
        go_wp2_with fail
        refine Calls.mono (DY.out _) ?_
        rintro e w7 ⟨rfl, hb⟩
        replace hS := hS.call hb
        replace hD := hD.below hb
        clear hb
        go_wp2_with fail
        refine Calls.mono (LN.out _ _ (hS.env hE) hD) ?_
        rintro e w8 ⟨rfl, hb⟩
        replace hS := hS.call hb
        replace hD := hD.below hb
        clear hb
        replace hS := hS.add' #[.string ⟨#[]⟩, .string ⟨#[]⟩] 27
        obtain ⟨W0, hW0, hS, hz0⟩ := hS
        replace hS := hS.add' #[.string ⟨#[]⟩, .string ⟨#[]⟩] 27
        obtain ⟨W1, hW1, hS, hz1⟩ := hS
        rw [hz0] at hS
        obtain ⟨W, hW⟩ : ∃ W, W = ((w8.alloc (.cells #[.string ⟨#[]⟩, .string ⟨#[]⟩] 27)).alloc (.cells #[.string ⟨#[]⟩, .string ⟨#[]⟩] 27)) := ⟨_, rfl⟩
        replace hS : BL w [(w8.heap.size + 1, #[.string ⟨#[]⟩, .string ⟨#[]⟩], 27), (w8.heap.size, #[.string ⟨#[]⟩, .string ⟨#[]⟩], 27), (w4.heap.size + 1, #[.string bn, .string bd], 27), (w4.heap.size, #[.string an, .string ad], 27), (w.heap.size + 1, #[.int .i64 p0, .int .i64 p1, .int .i64 p2, .int .i64 p3], 56), (w.heap.size, #[.int .i64 xf, .int .i64 xs, .slice ag xl cap, .int .i64 xm], 24)] W := by rw [hW, ← hW0, ← hW1]; exact hS
        replace hD : SlD W (.slice la l.length lc) l := by rw [hW]; exact (hD.new _).new _
        clear hz0 hz1 hW1 hW0
        go_wp2
        rw [← hW]
        clear hW
        go_ret
        exact ⟨rfl, hS.below⟩
    | true =>
      clear MF hok bf bs
      generalize numS fa = an at *
      generalize denS fa = ad at *
      generalize numS fb = bn at *
      generalize denS fb = bd at *
      have Sv0 := BL.start w
      obtain ⟨V1, ev1, Sv1, zv1⟩ := Sv0.add' #[.int .i64 xf, .int .i64 xs, .slice ag xl cap, .int .i64 xm] 24
      obtain ⟨V2, ev2, Sv2, zv2⟩ := Sv1.add' #[.int .i64 p0, .int .i64 p1, .int .i64 p2, .int .i64 p3] 56
      rw [zv1] at Sv2
      have hV : V2 = ((w.alloc (.cells #[.int .i64 xf, .int .i64 xs, .slice ag xl cap, .int .i64 xm] 24)).alloc (.cells #[.int .i64 p0, .int .i64 p1, .int .i64 p2, .int .i64 p3] 56)) := by rw [ev2, ev1]
      have hS : BL w [(w.heap.size + 1, #[.int .i64 p0, .int .i64 p1, .int .i64 p2, .int .i64 p3], 56), (w.heap.size, #[.int .i64 xf, .int .i64 xs, .slice ag xl cap, .int .i64 xm], 24)] V2 := Sv2
      clear ev1 ev2 zv1 zv2 Sv0 Sv1 Sv2
      go_enter Tryz.func4, Tryz.ntmps4
      go_wp2_with fail
      rw [← hV]
      clear hV
      refine Calls.mono (sane_any _ (hS.env hE)) ?_
      rintro e w1 ⟨rfl, hb⟩
      replace hS := hS.call hb
      clear hb
      obtain ⟨c_x_0, c_x_1, c_x_2, c_x_3⟩ := hS.c4 (w.heap.size) _ _ _ _ _ (.tail _ (.head _))
      go_wp2_with fail
      refine Calls.mono (MD.out _ (HN.out.below hS.below)) ?_
      rintro e w2 ⟨v, rfl, hD, hb⟩
      clear c_x_0 c_x_1 c_x_2 c_x_3
      replace hS := hS.call hb
      clear hb
      obtain ⟨la, lc, rfl⟩ := hD.shape
      go_wp2_with fail
      refine Calls.mono (RF.out _ _ hD) ?_
      rintro e w3 ⟨u, rfl, hR, hb⟩
      replace hS := hS.call hb
      replace hD := hD.below hb
      clear hb
      obtain ⟨ra, rc, rfl⟩ := hR.shape
      clear hR
      obtain ⟨c_x_0, c_x_1, c_x_2, c_x_3⟩ := hS.c4 (w.heap.size) _ _ _ _ _ (.tail _ (.head _))
      go_wp2_with fail
      refine Calls.mono (HD.out _ (HN.out.below hS.below)) ?_
      rintro e w4 ⟨rfl, hb⟩
      clear c_x_0 c_x_1 c_x_2 c_x_3
      replace hS := hS.call hb
      replace hD := hD.below hb
      clear hb
      replace hS := hS.add' #[.string an, .string ad] 27
      obtain ⟨W0, hW0, hS, hz0⟩ := hS
      replace hS := hS.add' #[.string bn, .string bd] 27
      obtain ⟨W1, hW1, hS, hz1⟩ := hS
      rw [hz0] at hS
      obtain ⟨W, hW⟩ : ∃ W, W = ((w4.alloc (.cells #[.string an, .string ad] 27)).alloc (.cells #[.string bn, .string bd] 27)) := ⟨_, rfl⟩
      replace hS : BL w [(w4.heap.size + 1, #[.string bn, .string bd], 27), (w4.heap.size, #[.string an, .string ad], 27), (w.heap.size + 1, #[.int .i64 p0, .int .i64 p1, .int .i64 p2, .int .i64 p3], 56), (w.heap.size, #[.int .i64 xf, .int .i64 xs, .slice ag xl cap, .int .i64 xm], 24)] W := by rw [hW, ← hW0, ← hW1]; exact hS
      replace hD : SlD W (.slice la l.length lc) l := by rw [hW]; exact (hD.new _).new _
      clear hz0 hz1 hW1 hW0
      go_upto_region 6 with fail
      rw [← hW]
      clear hW
      have hI := HI.mk hS hD (Sl.nil _)
      clear hS hD
      go_cut [76] (fun s wx => s = .bool false ∧ HI w [(w4.heap.size + 1, #[.string bn, .string bd], 27), (w4.heap.size, #[.string an, .string ad], 27), (w.heap.size + 1, #[.int .i64 p0, .int .i64 p1, .int .i64 p2, .int .i64 p3], 56), (w.heap.size, #[.int .i64 xf, .int .i64 xs, .slice ag xl cap, .int .i64 xm], 24)] (.slice la l.length lc) l (.slice none 0 0) [] wx)
      case first => as_aux_lemma =>
        refine wp_region_quiet (C := fun W' => HI w [(w4.heap.size + 1, #[.string bn, .string bd], 27), (w4.heap.size, #[.string an, .string ad], 27), (w.heap.size + 1, #[.int .i64 p0, .int .i64 p1, .int .i64 p2, .int .i64 p3], 56), (w.heap.size, #[.int .i64 xf, .int .i64 xs, .slice ag xl cap, .int .i64 xm], 24)] (.slice la l.length lc) l (.slice none 0 0) [] W') rfl (by kernel_rfl) hI.drew (Walled.out ?_)
        refine qWant rfl fun K hK => ?_
        go_simp
        refine ⟨_, fun _ _ => rfl, hK _ ?_⟩
        clear hK K
        refine qWant rfl fun K hK => ?_
        go_simp
        refine ⟨_, fun _ _ => rfl, hK _ ?_⟩
        clear hK K
        refine qStep fun K hK => ?_
        go_simp
        refine hK _ ?_
        clear hK K
        refine qStep fun K hK => ?_
        go_simp
        refine hK _ ?_
        clear hK K
        refine qStep fun K hK => ?_
        go_simp
        refine hK _ ?_
        clear hK K
        refine qStep fun K hK => ?_
        go_simp
        refine hK _ ?_
        clear hK K
        refine qStep fun K hK => ?_
        go_simp
        refine hK _ ?_
        clear hK K
        refine qStep fun K hK => ?_
        go_simp
        refine hK _ ?_
        clear hK K
        refine qStep fun K hK => ?_
        go_simp
        refine hK _ ?_
        clear hK K
        refine qStep fun K hK => ?_
        go_simp
        refine hK _ ?_
        clear hK K
        refine qStep fun K hK => ?_
        go_simp
        refine hK _ ?_
        clear hK K
        refine qStep fun K hK => ?_
        go_simp
        refine hK _ ?_
        clear hK K
        refine qStep fun K hK => ?_
        go_simp
        refine hK _ ?_
        clear hK K
        refine qStep fun K hK => ?_
        go_simp
        refine hK _ ?_
        clear hK K
        refine qStep fun K hK => ?_
        go_simp
        refine hK _ ?_
        clear hK K
        refine qStep fun K hK => ?_
        go_simp
        refine hK _ ?_
        clear hK K
        refine qStep fun K hK => ?_
        go_simp
        refine hK _ ?_
        clear hK K
        refine qStep fun K hK => ?_
        go_simp
        refine hK _ ?_
        clear hK K
        refine qStep fun K hK => ?_
        go_simp
        refine hK _ ?_
        clear hK K
        refine qStep fun K hK => ?_
        go_simp
        refine hK _ ?_
        clear hK K
        refine qStep fun K hK => ?_
        go_simp
        refine hK _ ?_
        clear hK K
        refine qStep fun K hK => ?_
        go_simp
        refine hK _ ?_
        clear hK K
        refine qStep fun K hK => ?_
        go_simp
        refine hK _ ?_
        clear hK K
        refine qStep fun K hK => ?_
        go_simp
        refine hK _ ?_
        clear hK K
        refine qStep fun K hK => ?_
        go_simp
        refine hK _ ?_
        clear hK K
        refine qStep fun K hK => ?_
        go_simp
        refine hK _ ?_
        clear hK K
        refine qStep fun K hK => ?_
        go_simp
        refine hK _ ?_
        clear hK K
        refine qStep fun K hK => ?_
        go_simp
        refine hK _ ?_
        clear hK K
        refine qStep fun K hK => ?_
        go_simp
        refine hK _ ?_
        clear hK K
        refine qStep fun K hK => ?_
        go_simp
        refine hK _ ?_
        clear hK K
        refine qStep fun K hK => ?_
        go_simp
        refine hK _ ?_
        clear hK K
        refine qStep fun K hK => ?_
        go_simp
        refine hK _ ?_
        clear hK K
        refine qStep fun K hK => ?_
        go_simp
        refine hK _ ?_
        clear hK K
        refine qStep fun K hK => ?_
        go_simp
        refine hK _ ?_
        clear hK K
        refine qStep fun K hK => ?_
        go_simp
        refine hK _ ?_
        clear hK K
        refine qStep fun K hK => ?_
        go_simp
        refine hK _ ?_
        clear hK K
        refine qStep fun K hK => ?_
        go_simp
        refine hK _ ?_
        clear hK K
        refine qStep fun K hK => ?_
        go_simp
        refine hK _ ?_
        clear hK K
        refine qWant rfl fun K hK => ?_
        go_simp
        refine ⟨_, fun _ _ => rfl, hK _ ?_⟩
        clear hK K
        refine qNil ?_
        intro W' hI
        go_wp2_with fail
        go_meet
        exact ⟨rfl, hI⟩
      case rest =>
        clear hI
        obtain ⟨rfl, hI⟩ := hcut
        obtain ⟨hS, hD, -⟩ := hI
        obtain ⟨c_x_0, c_x_1, c_x_2, c_x_3⟩ := hS.c4 (w.heap.size) _ _ _ _ _ (.tail _ (.tail _ (.tail _ (.head _))))
        go_wp2_with fail
        refine Calls.mono (MS.out _ (HN.out.below hS.below)) ?_
        rintro e w5 ⟨rfl, hb⟩
        clear c_x_0 c_x_1 c_x_2 c_x_3
        replace hS := hS.call hb
        replace hD := hD.below hb
        clear hb
        go_wp2_with fail
        refine Calls.mono (DY.out _) ?_
        rintro e w6 ⟨rfl, hb⟩
        replace hS := hS.call hb
        replace hD := hD.below hb
        clear hb
        go_wp2_with fail
        refine Calls.mono (LN.out _ _ (hS.env hE) hD) ?_
        rintro e w7 ⟨rfl, hb⟩
        replace hS := hS.call hb
        replace hD := hD.below hb
        clear hb
        replace hS := hS.add' #[.string ⟨#[]⟩, .string ⟨#[]⟩] 27
        obtain ⟨W0, hW0, hS, hz0⟩ := hS
        replace hS := hS.add' #[.string ⟨#[]⟩, .string ⟨#[]⟩] 27
        obtain ⟨W1, hW1, hS, hz1⟩ := hS
        rw [hz0] at hS
        obtain ⟨W, hW⟩ : ∃ W, W = ((w7.alloc (.cells #[.string ⟨#[]⟩, .string ⟨#[]⟩] 27)).alloc (.cells #[.string ⟨#[]⟩, .string ⟨#[]⟩] 27)) := ⟨_, rfl⟩
        replace hS : BL w [(w7.heap.size + 1, #[.string ⟨#[]⟩, .string ⟨#[]⟩], 27), (w7.heap.size, #[.string ⟨#[]⟩, .string ⟨#[]⟩], 27), (w4.heap.size + 1, #[.string bn, .string bd], 27), (w4.heap.size, #[.string an, .string ad], 27), (w.heap.size + 1, #[.int .i64 p0, .int .i64 p1, .int .i64 p2, .int .i64 p3], 56), (w.heap.size, #[.int .i64 xf, .int .i64 xs, .slice ag xl cap, .int .i64 xm], 24)] W := by rw [hW, ← hW0, ← hW1]; exact hS
        replace hD : SlD W (.slice la l.length lc) l := by rw [hW]; exact (hD.new _).new _
        clear hz0 hz1 hW1 hW0
        go_wp2
        rw [← hW]
        clear hW
        go_ret
        exact ⟨rfl, hS.below⟩
  · rw [hln] at LN
    unfold fV at LN
    dsimp only at LN
    clear hln
    replace LN := Lib.hid LN
    have FL := Lib.hid (fun v W (hE : Env W) (h : SlD W v l) => fit_cb hok (bp.ok (by decide)) (bq.ok (by decide)) hfl v W hE h)
    cases mb with
    | false =>
      have FT := Lib.hid (fun v W (hE : Env W) (h : SlD W v l) => fit_cb hok (bf.ok (by decide)) (bs.ok (by decide)) (MF rfl).2 v W hE h)
      clear MF hok bf bs bp bq hfl
      generalize numS fa = an at *
      generalize denS fa = ad at *
      generalize numS fb = bn at *
      generalize denS fb = bd at *
      generalize numS p = cn at *
      generalize denS p = cd at *
      generalize numS q = en at *
      generalize denS q = ed at *
      have Sv0 := BL.start w
      obtain ⟨V1, ev1, Sv1, zv1⟩ := Sv0.add' #[.int .i64 xf, .int .i64 xs, .slice ag xl cap, .int .i64 xm] 24
      obtain ⟨V2, ev2, Sv2, zv2⟩ := Sv1.add' #[.int .i64 p0, .int .i64 p1, .int .i64 p2, .int .i64 p3] 56
      rw [zv1] at Sv2
      have hV : V2 = ((w.alloc (.cells #[.int .i64 xf, .int .i64 xs, .slice ag xl cap, .int .i64 xm] 24)).alloc (.cells #[.int .i64 p0, .int .i64 p1, .int .i64 p2, .int .i64 p3] 56)) := by rw [ev2, ev1]
      have hS : BL w [(w.heap.size + 1, #[.int .i64 p0, .int .i64 p1, .int .i64 p2, .int .i64 p3], 56), (w.heap.size, #[.int .i64 xf, .int .i64 xs, .slice ag xl cap, .int .i64 xm], 24)] V2 := Sv2
      clear ev1 ev2 zv1 zv2 Sv0 Sv1 Sv2
      go_enter Tryz.func4, Tryz.ntmps4
      go_wp2_with fail
      rw [← hV]
      clear hV
      refine Calls.mono (sane_any _ (hS.env hE)) ?_
      rintro e w1 ⟨rfl, hb⟩
      replace hS := hS.call hb
      clear hb
      obtain ⟨c_x_0, c_x_1, c_x_2, c_x_3⟩ := hS.c4 (w.heap.size) _ _ _ _ _ (.tail _ (.head _))
      go_wp2_with fail
      refine Calls.mono (MD.out _ (HN.out.below hS.below)) ?_
      rintro e w2 ⟨v, rfl, hD, hb⟩
      clear c_x_0 c_x_1 c_x_2 c_x_3
      replace hS := hS.call hb
      clear hb
      obtain ⟨la, lc, rfl⟩ := hD.shape
      go_wp2_with fail
      refine Calls.mono (RF.out _ _ hD) ?_
      rintro e w3 ⟨u, rfl, hR, hb⟩
      replace hS := hS.call hb
      replace hD := hD.below hb
      clear hb
      obtain ⟨ra, rc, rfl⟩ := hR.shape
      clear hR
      obtain ⟨c_x_0, c_x_1, c_x_2, c_x_3⟩ := hS.c4 (w.heap.size) _ _ _ _ _ (.tail _ (.head _))
      go_wp2_with fail
      refine Calls.mono (HD.out _ (HN.out.below hS.below)) ?_
      rintro e w4 ⟨rfl, hb⟩
      clear c_x_0 c_x_1 c_x_2 c_x_3
      replace hS := hS.call hb
      replace hD := hD.below hb
      clear hb
      replace hS := hS.add' #[.string an, .string ad] 27
      obtain ⟨W0, hW0, hS, hz0⟩ := hS
      replace hS := hS.add' #[.string bn, .string bd] 27
      obtain ⟨W1, hW1, hS, hz1⟩ := hS
      rw [hz0] at hS
      obtain ⟨W, hW⟩ : ∃ W, W = ((w4.alloc (.cells #[.string an, .string ad] 27)).alloc (.cells #[.string bn, .string bd] 27)) := ⟨_, rfl⟩
      replace hS : BL w [(w4.heap.size + 1, #[.string bn, .string bd], 27), (w4.heap.size, #[.string an, .string ad], 27), (w.heap.size + 1, #[.int .i64 p0, .int .i64 p1, .int .i64 p2, .int .i64 p3], 56), (w.heap.size, #[.int .i64 xf, .int .i64 xs, .slice ag xl cap, .int .i64 xm], 24)] W := by rw [hW, ← hW0, ← hW1]; exact hS
      replace hD : SlD W (.slice la l.length lc) l := by rw [hW]; exact (hD.new _).new _
      clear hz0 hz1 hW1 hW0
      go_upto_region 6 with fail
      rw [← hW]
      clear hW
      have hI := HI.mk hS hD (Sl.nil _)
      clear hS hD
      go_cut [76] (fun s wx => s = .bool false ∧ HI w [(w4.heap.size + 1, #[.string bn, .string bd], 27), (w4.heap.size, #[.string an, .string ad], 27), (w.heap.size + 1, #[.int .i64 p0, .int .i64 p1, .int .i64 p2, .int .i64 p3], 56), (w.heap.size, #[.int .i64 xf, .int .i64 xs, .slice ag xl cap, .int .i64 xm], 24)] (.slice la l.length lc) l (.slice none 0 0) [] wx)
      case first => as_aux_lemma =>
        refine wp_region_quiet (C := fun W' => HI w [(w4.heap.size + 1, #[.string bn, .string bd], 27), (w4.heap.size, #[.string an, .string ad], 27), (w.heap.size + 1, #[.int .i64 p0, .int .i64 p1, .int .i64 p2, .int .i64 p3], 56), (w.heap.size, #[.int .i64 xf, .int .i64 xs, .slice ag xl cap, .int .i64 xm], 24)] (.slice la l.length lc) l (.slice none 0 0) [] W') rfl (by kernel_rfl) hI.drew (Walled.out ?_)
        refine qWant rfl fun K hK => ?_
        go_simp
        refine ⟨_, fun _ _ => rfl, hK _ ?_⟩
        clear hK K
        refine qWant rfl fun K hK => ?_
        go_simp
        refine ⟨_, fun _ _ => rfl, hK _ ?_⟩
        clear hK K
        refine qStep fun K hK => ?_
        go_simp
        refine hK _ ?_
        clear hK K
        refine qStep fun K hK => ?_
        go_simp
        refine hK _ ?_
        clear hK K
        refine qStep fun K hK => ?_
        go_simp
        refine hK _ ?_
        clear hK K
        refine qStep fun K hK => ?_
        go_simp
        refine hK _ ?_
        clear hK K
        refine qStep fun K hK => ?_
        go_simp
        refine hK _ ?_
        clear hK K
        refine qStep fun K hK => ?_
        go_simp
        refine hK _ ?_
        clear hK K
        refine qStep fun K hK => ?_
        go_simp
        refine hK _ ?_
        clear hK K
        refine qStep fun K hK => ?_
        go_simp
        refine hK _ ?_
        clear hK K
        refine qStep fun K hK => ?_
        go_simp
        refine hK _ ?_
        clear hK K
        refine qStep fun K hK => ?_
        go_simp
        refine hK _ ?_
        clear hK K
        refine qStep fun K hK => ?_
        go_simp
        refine hK _ ?_
        clear hK K
        refine qStep fun K hK => ?_
        go_simp
        refine hK _ ?_
        clear hK K
        refine qStep fun K hK => ?_
        go_simp
        refine hK _ ?_
        clear hK K
        refine qStep fun K hK => ?_
        go_simp
        refine hK _ ?_
        clear hK K
        refine qStep fun K hK => ?_
        go_simp
        refine hK _ ?_
        clear hK K
        refine qStep fun K hK => ?_
        go_simp
        refine hK _ ?_
        clear hK K
        refine qStep fun K hK => ?_
        go_simp
        refine hK _ ?_
        clear hK K
        refine qStep fun K hK => ?_
        go_simp
        refine hK _ ?_
        clear hK K
        refine qStep fun K hK => ?_
        go_simp
        refine hK _ ?_
        clear hK K
        refine qStep fun K hK => ?_
        go_simp
        refine hK _ ?_
        clear hK K
        refine qStep fun K hK => ?_
        go_simp
        refine hK _ ?_
        clear hK K
        refine qStep fun K hK => ?_
        go_simp
        refine hK _ ?_
        clear hK K
        refine qStep fun K hK => ?_
        go_simp
        refine hK _ ?_
        clear hK K
        refine qStep fun K hK => ?_
        go_simp
        refine hK _ ?_
        clear hK K
        refine qStep fun K hK => ?_
        go_simp
        refine hK _ ?_
        clear hK K
        refine qStep fun K hK => ?_
        go_simp
        refine hK _ ?_
        clear hK K
        refine qStep fun K hK => ?_
        go_simp
        refine hK _ ?_
        clear hK K
        refine qStep fun K hK => ?_
        go_simp
        refine hK _ ?_
        clear hK K
        refine qStep fun K hK => ?_
        go_simp
        refine hK _ ?_
        clear hK K
        refine qStep fun K hK => ?_
        go_simp
        refine hK _ ?_
        clear hK K
        refine qStep fun K hK => ?_
        go_simp
        refine hK _ ?_
        clear hK K
        refine qStep fun K hK => ?_
        go_simp
        refine hK _ ?_
        clear hK K
        refine qStep fun K hK => ?_
        go_simp
        refine hK _ ?_
        clear hK K
        refine qStep fun K hK => ?_
        go_simp
        refine hK _ ?_
        clear hK K
        refine qStep fun K hK => ?_
        go_simp
        refine hK _ ?_
        clear hK K
        refine qStep fun K hK => ?_
        go_simp
        refine hK _ ?_
        clear hK K
        refine qWant rfl fun K hK => ?_
        go_simp
        refine ⟨_, fun _ _ => rfl, hK _ ?_⟩
        clear hK K
        refine qNil ?_
        intro W' hI
        go_wp2_with fail
        go_meet
        exact ⟨rfl, hI⟩
      case rest =>
        clear hI
        obtain ⟨rfl, hI⟩ := hcut
        obtain ⟨hS, hD, -⟩ := hI
        obtain ⟨c_x_0, c_x_1, c_x_2, c_x_3⟩ := hS.c4 (w.heap.size) _ _ _ _ _ (.tail _ (.tail _ (.tail _ (.head _))))
        go_wp2_with fail
        refine Calls.mono (MS.out _ (HN.out.below hS.below)) ?_
        rintro e w5 ⟨rfl, hb⟩
        clear c_x_0 c_x_1 c_x_2 c_x_3
        replace hS := hS.call hb
        replace hD := hD.below hb
        clear hb
        obtain ⟨c_a_0, c_a_1⟩ := hS.c2 (w4.heap.size) _ _ _ (.tail _ (.head _))
        obtain ⟨c_b_0, c_b_1⟩ := hS.c2 (w4.heap.size + 1) _ _ _ (.head _)
        go_wp2_with fail
        refine Calls.mono (FT.out _ _ (hS.env hE) hD) ?_
        rintro e w6 ⟨rfl, hb⟩
        clear c_a_0 c_a_1 c_b_0 c_b_1
        replace hS := hS.call hb
        replace hD := hD.below hb
        clear hb
        go_wp2_with fail
        refine Calls.mono (DY.out _) ?_
        rintro e w7 ⟨rfl, hb⟩
        replace hS := hS.call hb
        replace hD := hD.below hb
        clear hb
        go_wp2_with fail
        refine Calls.mono (LN.out _ _ (hS.env hE) hD) ?_
        rintro e w8 ⟨rfl, hb⟩
        replace hS := hS.call hb
        replace hD := hD.below hb
        clear hb
        replace hS := hS.add' #[.string cn, .string cd] 27
        obtain ⟨W0, hW0, hS, hz0⟩ := hS
        replace hS := hS.add' #[.string en, .string ed] 27
        obtain ⟨W1, hW1, hS, hz1⟩ := hS
        rw [hz0] at hS
        obtain ⟨W, hW⟩ : ∃ W, W = ((w8.alloc (.cells #[.string cn, .string cd] 27)).alloc (.cells #[.string en, .string ed] 27)) := ⟨_, rfl⟩
        replace hS : BL w [(w8.heap.size + 1, #[.string en, .string ed], 27), (w8.heap.size, #[.string cn, .string cd], 27), (w4.heap.size + 1, #[.string bn, .string bd], 27), (w4.heap.size, #[.string an, .string ad], 27), (w.heap.size + 1, #[.int .i64 p0, .int .i64 p1, .int .i64 p2, .int .i64 p3], 56), (w.heap.size, #[.int .i64 xf, .int .i64 xs, .slice ag xl cap, .int .i64 xm], 24)] W := by rw [hW, ← hW0, ← hW1]; exact hS
        replace hD : SlD W (.slice la l.length lc) l := by rw [hW]; exact (hD.new _).new _
        clear hz0 hz1 hW1 hW0
        go_upto_region 11 with fail
        rw [← hW]
        clear hW
        obtain ⟨c_c_0, c_c_1⟩ := hS.c2 (w8.heap.size) _ _ _ (.tail _ (.head _))
        obtain ⟨c_e_0, c_e_1⟩ := hS.c2 (w8.heap.size + 1) _ _ _ (.head _)
        go_wp2_with fail
        refine Calls.mono (FL.out _ _ (hS.env hE) hD) ?_
        rintro e w9 ⟨rfl, hb⟩
        clear c_c_0 c_c_1 c_e_0 c_e_1
        replace hS := hS.call hb
        replace hD := hD.below hb
        clear hb
        go_wp2
        go_ret
        exact ⟨rfl, hS.below⟩
    | true =>
      clear MF hok bf bs bp bq hfl
      generalize numS fa = an at *
      generalize denS fa = ad at *
      generalize numS fb = bn at *
      generalize denS fb = bd at *
      generalize numS p = cn at *
      generalize denS p = cd at *
      generalize numS q = en at *
      generalize denS q = ed at *
      have Sv0 := BL.start w
      obtain ⟨V1, ev1, Sv1, zv1⟩ := Sv0.add' #[.int .i64 xf, .int .i64 xs, .slice ag xl cap, .int .i64 xm] 24
      obtain ⟨V2, ev2, Sv2, zv2⟩ := Sv1.add' #[.int .i64 p0, .int .i64 p1, .int .i64 p2, .int .i64 p3] 56
      rw [zv1] at Sv2
      have hV : V2 = ((w.alloc (.cells #[.int .i64 xf, .int .i64 xs, .slice ag xl cap, .int .i64 xm] 24)).alloc (.cells #[.int .i64 p0, .int .i64 p1, .int .i64 p2, .int .i64 p3] 56)) := by rw [ev2, ev1]
      have hS : BL w [(w.heap.size + 1, #[.int .i64 p0, .int .i64 p1, .int .i64 p2, .int .i64 p3], 56), (w.heap.size, #[.int .i64 xf, .int .i64 xs, .slice ag xl cap, .int .i64 xm], 24)] V2 := Sv2
      clear ev1 ev2 zv1 zv2 Sv0 Sv1 Sv2
      go_enter Tryz.func4, Tryz.ntmps4
      go_wp2_with fail
      rw [← hV]
      clear hV
      refine Calls.mono (sane_any _ (hS.env hE)) ?_
      rintro e w1 ⟨rfl, hb⟩
      replace hS := hS.call hb
      clear hb
      obtain ⟨c_x_0, c_x_1, c_x_2, c_x_3⟩ := hS.c4 (w.heap.size) _ _ _ _ _ (.tail _ (.head _))
      go_wp2_with fail
      refine Calls.mono (MD.out _ (HN.out.below hS.below)) ?_
      rintro e w2 ⟨v, rfl, hD, hb⟩
      clear c_x_0 c_x_1 c_x_2 c_x_3
      replace hS := hS.call hb
      clear hb
      obtain ⟨la, lc, rfl⟩ := hD.shape
      go_wp2_with fail
      refine Calls.mono (RF.out _ _ hD) ?_
      rintro e w3 ⟨u, rfl, hR, hb⟩
      replace hS := hS.call hb
      replace hD := hD.below hb
      clear hb
      obtain ⟨ra, rc, rfl⟩ := hR.shape
      clear hR
      obtain ⟨c_x_0, c_x_1, c_x_2, c_x_3⟩ := hS.c4 (w.heap.size) _ _ _ _ _ (.tail _ (.head _))
      go_wp2_with fail
      refine Calls.mono (HD.out _ (HN.out.below hS.below)) ?_
      rintro e w4 ⟨rfl, hb⟩
      clear c_x_0 c_x_1 c_x_2 c_x_3
      replace hS := hS.call hb
      replace hD := hD.below hb
      clear hb
      replace hS := hS.add' #[.string an, .string ad] 27
      obtain ⟨W0, hW0, hS, hz0⟩ := hS
      replace hS := hS.add' #[.string bn, .string bd] 27
      obtain ⟨W1, hW1, hS, hz1⟩ := hS
      rw [hz0] at hS
      obtain ⟨W, hW⟩ : ∃ W, W = ((w4.alloc (.cells #[.string an, .string ad] 27)).alloc (.cells #[.string bn, .string bd] 27)) := ⟨_, rfl⟩
      replace hS : BL w [(w4.heap.size + 1, #[.string bn, .string bd], 27), (w4.heap.size, #[.string an, .string ad], 27), (w.heap.size + 1, #[.int .i64 p0, .int .i64 p1, .int .i64 p2, .int .i64 p3], 56), (w.heap.size, #[.int .i64 xf, .int .i64 xs, .slice ag xl cap, .int .i64 xm], 24)] W := by rw [hW, ← hW0, ← hW1]; exact hS
      replace hD : SlD W (.slice la l.length lc) l := by rw [hW]; exact (hD.new _).new _
      clear hz0 hz1 hW1 hW0
      go_upto_region 6 with fail
      rw [← hW]
      clear hW
      have hI := HI.mk hS hD (Sl.nil _)
      clear hS hD
      go_cut [76] (fun s wx => s = .bool false ∧ HI w [(w4.heap.size + 1, #[.string bn, .string bd], 27), (w4.heap.size, #[.string an, .string ad], 27), (w.heap.size + 1, #[.int .i64 p0, .int .i64 p1, .int .i64 p2, .int .i64 p3], 56), (w.heap.size, #[.int .i64 xf, .int .i64 xs, .slice ag xl cap, .int .i64 xm], 24)] (.slice la l.length lc) l (.slice none 0 0) [] wx)
      case first => as_aux_lemma =>
        refine wp_region_quiet (C := fun W' => HI w [(w4.heap.size + 1, #[.string bn, .string bd], 27), (w4.heap.size, #[.string an, .string ad], 27), (w.heap.size + 1, #[.int .i64 p0, .int .i64 p1, .int .i64 p2, .int .i64 p3], 56), (w.heap.size, #[.int .i64 xf, .int .i64 xs, .slice ag xl cap, .int .i64 xm], 24)] (.slice la l.length lc) l (.slice none 0 0) [] W') rfl (by kernel_rfl) hI.drew (Walled.out ?_)
        refine qWant rfl fun K hK => ?_
        go_simp
        refine ⟨_, fun _ _ => rfl, hK _ ?_⟩
        clear hK K
        refine qWant rfl fun K hK => ?_
        go_simp
        refine ⟨_, fun _ _ => rfl, hK _ ?_⟩
        clear hK K
        refine qStep fun K hK => ?_
        go_simp
        refine hK _ ?_
        clear hK K
        refine qStep fun K hK => ?_
        go_simp
        refine hK _ ?_
        clear hK K
        refine qStep fun K hK => ?_
        go_simp
        refine hK _ ?_
        clear hK K
        refine qStep fun K hK => ?_
        go_simp
        refine hK _ ?_
        clear hK K
        refine qStep fun K hK => ?_
        go_simp
        refine hK _ ?_
        clear hK K
        refine qStep fun K hK => ?_
        go_simp
        refine hK _ ?_
        clear hK K
        refine qStep fun K hK => ?_
        go_simp
        refine hK _ ?_
        clear hK K
        refine qStep fun K hK => ?_
        go_simp
        refine hK _ ?_
        clear hK K
        refine qStep fun K hK => ?_
        go_simp
        refine hK _ ?_
        clear hK K
        refine qStep fun K hK => ?_
        go_simp
        refine hK _ ?_
        clear hK K
        refine qStep fun K hK => ?_
        go_simp
        refine hK _ ?_
        clear hK K
        refine qStep fun K hK => ?_
        go_simp
        refine hK _ ?_
        clear hK K
        refine qStep fun K hK => ?_
        go_simp
        refine hK _ ?_
        clear hK K
        refine qStep fun K hK => ?_
        go_simp
        refine hK _ ?_
        clear hK K
        refine qStep fun K hK => ?_
        go_simp
        refine hK _ ?_
        clear hK K
        refine qStep fun K hK => ?_
        go_simp
        refine hK _ ?_
        clear hK K
        refine qStep fun K hK => ?_
        go_simp
        refine hK _ ?_
        clear hK K
        refine qStep fun K hK => ?_
        go_simp
        refine hK _ ?_
        clear hK K
        refine qStep fun K hK => ?_
        go_simp
        refine hK _ ?_
        clear hK K
        refine qStep fun K hK => ?_
        go_simp
        refine hK _ ?_
        clear hK K
        refine qStep fun K hK => ?_
        go_simp
        refine hK _ ?_
        clear hK K
        refine qStep fun K hK => ?_
        go_simp
        refine hK _ ?_
        clear hK K
        refine qStep fun K hK => ?_
        go_simp
        refine hK _ ?_
        clear hK K
        refine qStep fun K hK => ?_
        go_simp
        refine hK _ ?_
        clear hK K
        refine qStep fun K hK => ?_
        go_simp
        refine hK _ ?_
        clear hK K
        refine qStep fun K hK => ?_
        go_simp
        refine hK _ ?_
        clear hK K
        refine qStep fun K hK => ?_
        go_simp
        refine hK _ ?_
        clear hK K
        refine qStep fun K hK => ?_
        go_simp
        refine hK _ ?_
        clear hK K
        refine qStep fun K hK => ?_
        go_simp
        refine hK _ ?_
        clear hK K
        refine qStep fun K hK => ?_
        go_simp
        refine hK _ ?_
        clear hK K
        refine qStep fun K hK => ?_
        go_simp
        refine hK _ ?_
        clear hK K
        refine qStep fun K hK => ?_
        go_simp
        refine hK _ ?_
        clear hK K
        refine qStep fun K hK => ?_
        go_simp
        refine hK _ ?_
        clear hK K
        refine qStep fun K hK => ?_
        go_simp
        refine hK _ ?_
        clear hK K
        refine qStep fun K hK => ?_
        go_simp
        refine hK _ ?_
        clear hK K
        refine qStep fun K hK => ?_
        go_simp
        refine hK _ ?_
        clear hK K
        refine qWant rfl fun K hK => ?_
        go_simp
        refine ⟨_, fun _ _ => rfl, hK _ ?_⟩
        clear hK K
        refine qNil ?_
        intro W' hI
        go_wp2_with fail
        go_meet
        exact ⟨rfl, hI⟩
      case rest =>
        clear hI
        obtain ⟨rfl, hI⟩ := hcut
        obtain ⟨hS, hD, -⟩ := hI
        obtain ⟨c_x_0, c_x_1, c_x_2, c_x_3⟩ := hS.c4 (w.heap.size) _ _ _ _ _ (.tail _ (.tail _ (.tail _ (.head _))))
        go_wp2_with fail
        refine Calls.mono (MS.out _ (HN.out.below hS.below)) ?_
        rintro e w5 ⟨rfl, hb⟩
        clear c_x_0 c_x_1 c_x_2 c_x_3
        replace hS := hS.call hb
        replace hD := hD.below hb
        clear hb
        go_wp2_with fail
        refine Calls.mono (DY.out _) ?_
        rintro e w6 ⟨rfl, hb⟩
        replace hS := hS.call hb
        replace hD := hD.below hb
        clear hb
        go_wp2_with fail
        refine Calls.mono (LN.out _ _ (hS.env hE) hD) ?_
        rintro e w7 ⟨rfl, hb⟩
        replace hS := hS.call hb
        replace hD := hD.below hb
        clear hb
        replace hS := hS.add' #[.string cn, .string cd] 27
        obtain ⟨W0, hW0, hS, hz0⟩ := hS
        replace hS := hS.add' #[.string en, .string ed] 27
        obtain ⟨W1, hW1, hS, hz1⟩ := hS
        rw [hz0] at hS
        obtain ⟨W, hW⟩ : ∃ W, W = ((w7.alloc (.cells #[.string cn, .string cd] 27)).alloc (.cells #[.string en, .string ed] 27)) := ⟨_, rfl⟩
        replace hS : BL w [(w7.heap.size + 1, #[.string en, .string ed], 27), (w7.heap.size, #[.string cn, .string cd], 27), (w4.heap.size + 1, #[.string bn, .string bd], 27), (w4.heap.size, #[.string an, .string ad], 27), (w.heap.size + 1, #[.int .i64 p0, .int .i64 p1, .int .i64 p2, .int .i64 p3], 56), (w.heap.size, #[.int .i64 xf, .int .i64 xs, .slice ag xl cap, .int .i64 xm], 24)] W := by rw [hW, ← hW0, ← hW1]; exact hS
        replace hD : SlD W (.slice la l.length lc) l := by rw [hW]; exact (hD.new _).new _
        clear hz0 hz1 hW1 hW0
        go_upto_region 11 with fail
        rw [← hW]
        clear hW
        obtain ⟨c_c_0, c_c_1⟩ := hS.c2 (w7.heap.size) _ _ _ (.tail _ (.head _))
        obtain ⟨c_e_0, c_e_1⟩ := hS.c2 (w7.heap.size + 1) _ _ _ (.head _)
        go_wp2_with fail
        refine Calls.mono (FL.out _ _ (hS.env hE) hD) ?_
        rintro e w8 ⟨rfl, hb⟩
        clear c_c_0 c_c_1 c_e_0 c_e_1
        replace hS := hS.call hb
        replace hD := hD.below hb
        clear hb
        go_wp2
        go_ret
        exact ⟨rfl, hS.below⟩

set_option maxRecDepth 100000 in
set_option maxHeartbeats 16000000 in
theorem helly_some (x : Nm) (t : Int) (p0 p1 p2 p3 : Int) (w : World) (h : NmOk w x) (ht : Fits t) (f0 : Fits p0) (f1 : Fits p1) (f2 : Fits p2) (f3 : Fits p3) (hEQ : EnvQ w) (HL : ∃ i j k, refO x.made = some (i, j, k) ∧ ¬ DecM.Feas x.made ∧ HellyF x.made (pkv t 5001) i j k) :
    Calls Tryz.prog 4 #[.agg #[.int .i64 x.f, .int .i64 x.s, x.v, .int .i64 x.m], .int .i64 t, .agg #[.int .i64 p0, .int .i64 p1, .int .i64 p2, .int .i64 p3]] w (Rets w (.bool true)) := by
  have hE := hEQ.env
  have hd0 := pkv_nonneg (c := t) (m := 5001) (by decide)
  have hd1 := pkv_lt (c := t) (m := 5001) (by decide)
  have DY := fun W => day_any t ht W
  have hd : inDay (pkv t 5001) = true := DecM.inDay_iff.2 (by omega)
  generalize pkv t 5001 = d at *
  have MS := fun W (h : NmOk W x) => misses_any x W h
  have HD := fun W (h : NmOk W x) => hid_c x W h
  have MD := fun W (h : NmOk W x) => made_any x W h
  have hok := x.made_ok
  obtain ⟨bf, bs⟩ := bq_hid x
  have MF : x.miss = false → DecM.Feas x.made ∧ fitO x.made (some (x.first : Rat)) (some ((x.slope : Rat) / 7)) = true := fun hm => ⟨⟨_, _, x.made_fit hm⟩, fitO_of hok bf bs (x.made_fit hm)⟩
  generalize (x.first : Rat) = fa at *
  generalize ((x.slope : Rat) / 7) = fb at *
  have HN := Lib.hid h
  obtain ⟨ag, cap, hv⟩ := h.sl.shape
  generalize x.made = l at *
  have hl16 := (DecM.okD_iff.1 hok).2.2
  have LN := fun v W (hE : Env W) (h : SlD W v l) => line_any v l d true W hE h
  have RF := fun v W (h : SlD W v l) => refute_any v l W h
  generalize x.miss = mb at *
  clear h ht hd0 hd1 hEQ
  rw [hv] at MD MS HD ⊢
  generalize x.f = xf at *
  generalize x.s = xs at *
  generalize x.m = xm at *
  generalize x.ds.length = xl at *
  clear hv
  replace DY := Lib.hid DY
  replace MD := Lib.hid MD
  replace MS := Lib.hid MS
  replace HD := Lib.hid HD
  unfold RefP at RF
  obtain ⟨i, j, k, hr, hf, hB⟩ := HL
  rw [hr] at RF
  dsimp only [Option.isSome, triL] at RF
  replace RF := Lib.hid RF
  have hmb : mb = true := by
    cases mb with
    | true => rfl
    | false => exact absurd (MF rfl).1 hf
  subst hmb
  clear MF hr hf
  obtain ⟨ij, jk, kl, bad, hln, h3, o1, o2, o3⟩ := hB
  rw [hln] at LN
  unfold fV at LN
  replace LN := Lib.hid LN
  have FT := fun v W (hE : Env W) (h : SlD W v l) => fit_cb hok (bf.ok (by decide)) (bs.ok (by decide)) (bad _ _ bf bs) v W hE h
  have q0 := pkv_nonneg (c := p0) (m := 2001) (by decide)
  have q0' := pkv_lt (c := p0) (m := 2001) (by decide)
  have q1 := pkv_nonneg (c := p1) (m := 9) (by decide)
  have q1' := pkv_lt (c := p1) (m := 9) (by decide)
  have q2 := pkv_nonneg (c := p2) (m := 141) (by decide)
  have q2' := pkv_lt (c := p2) (m := 141) (by decide)
  have q3 := pkv_nonneg (c := p3) (m := 9) (by decide)
  have q3' := pkv_lt (c := p3) (m := 9) (by decide)
  have P0 := fun W => pickL_any_b p0 2001 f0 (by decide) (by decide) W
  have P1 := fun W => pickL_any_b p1 9 f1 (by decide) (by decide) W
  have P2 := fun W => pickL_any_b p2 141 f2 (by decide) (by decide) W
  have P3 := fun W => pickL_any_b p3 9 f3 (by decide) (by decide) W
  generalize pkv p0 2001 = z0 at *
  generalize pkv p1 9 = z1 at *
  generalize pkv p2 141 = z2 at *
  generalize pkv p3 9 = z3 at *
  obtain ⟨y0, e0⟩ : ∃ y, y = z0 - 1000 := ⟨_, rfl⟩
  have w0 : IntKind.i64.wrap (z0 - 1000) = y0 := by rw [e0]; exact IntWalk.i64_in _ (by omega)
  obtain ⟨y1, e1⟩ : ∃ y, y = 1 + z1 := ⟨_, rfl⟩
  have w1 : IntKind.i64.wrap (1 + z1) = y1 := by rw [e1]; exact IntWalk.i64_in _ (by omega)
  obtain ⟨y2, e2⟩ : ∃ y, y = z2 - 70 := ⟨_, rfl⟩
  have w2 : IntKind.i64.wrap (z2 - 70) = y2 := by rw [e2]; exact IntWalk.i64_in _ (by omega)
  obtain ⟨y3, e3⟩ : ∃ y, y = 1 + z3 := ⟨_, rfl⟩
  have w3 : IntKind.i64.wrap (1 + z3) = y3 := by rw [e3]; exact IntWalk.i64_in _ (by omega)
  have O1 := fun W => of_cb y0 y1 (by unfold Fits; omega) (by unfold Fits; omega) (by omega) W
  have O2 := fun W => of_cb y2 y3 (by unfold Fits; omega) (by unfold Fits; omega) (by omega) W
  have B1 : BQ 13 (DecM.ratio y0 y1) := bq_ratio (by omega) (by omega) (by omega)
  have B2 : BQ 13 (DecM.ratio y2 y3) := bq_ratio (by omega) (by omega) (by omega)
  have FP := fun v W (hE : Env W) (h : SlD W v l) => fit_cb hok (B1.ok (by decide)) (B2.ok (by decide)) (bad _ _ B1 B2) v W hE h
  generalize DecM.ratio y0 y1 = ra at *
  generalize DecM.ratio y2 y3 = rb' at *
  obtain ⟨u1, v1, g1, i1, a1, b1⟩ := two_law o1 hd
  obtain ⟨u2, v2, g2, i2, a2, b2⟩ := two_law o2 hd
  obtain ⟨u3, v3, g3, i3, a3, b3⟩ := two_law o3 hd
  have F1 := fun v W (hE : Env W) (h : SlD W v [gd l j, gd l k]) => fit_cb o1 (a1.ok (by decide)) (b1.ok (by decide)) i1 v W hE h
  have F2 := fun v W (hE : Env W) (h : SlD W v [gd l i, gd l k]) => fit_cb o2 (a2.ok (by decide)) (b2.ok (by decide)) i2 v W hE h
  have F3 := fun v W (hE : Env W) (h : SlD W v [gd l i, gd l j]) => fit_cb o3 (a3.ok (by decide)) (b3.ok (by decide)) i3 v W hE h
  have L1 := fun v W (hE : Env W) (h : SlD W v [gd l j, gd l k]) => line_any v [gd l j, gd l k] d false W hE h
  have L2 := fun v W (hE : Env W) (h : SlD W v [gd l i, gd l k]) => line_any v [gd l i, gd l k] d false W hE h
  have L3 := fun v W (hE : Env W) (h : SlD W v [gd l i, gd l j]) => line_any v [gd l i, gd l j] d false W hE h
  have FC := fun v W (hE : Env W) (h : SlD W v [gd l i, gd l j, gd l k]) => forecast_any v [gd l i, gd l j, gd l k] d W hE h
  rw [g1] at L1
  rw [g2] at L2
  rw [g3] at L3
  rw [h3] at FC
  unfold fV at L1 L2 L3 FC
  dsimp only at L1 L2 L3
  clear g1 g2 g3 i1 i2 i3 a1 a2 a3 b1 b2 b3 h3 o1 o2 o3 hln bad q0 q0' q1 q1' q2 q2' q3 q3' e0 e1 e2 e3 f0 f1 f2 f3 B1 B2 bf bs hd
  generalize numS fa = an at *
  generalize denS fa = ad at *
  generalize numS fb = bn at *
  generalize denS fb = bd at *
  generalize numS ra = pan at *
  generalize denS ra = pad at *
  generalize numS rb' = pbn at *
  generalize denS rb' = pbd at *
  generalize numS u1 = c1n at *
  generalize denS u1 = c1d at *
  generalize numS v1 = e1n at *
  generalize denS v1 = e1d at *
  generalize numS u2 = c2n at *
  generalize denS u2 = c2d at *
  generalize numS v2 = e2n at *
  generalize denS v2 = e2d at *
  generalize numS u3 = c3n at *
  generalize denS u3 = c3d at *
  generalize numS v3 = e3n at *
  generalize denS v3 = e3d at *
  replace FT := Lib.hid FT
  replace P0 := Lib.hid P0
  replace P1 := Lib.hid P1
  replace P2 := Lib.hid P2
  replace P3 := Lib.hid P3
  replace O1 := Lib.hid O1
  replace O2 := Lib.hid O2
  replace FP := Lib.hid FP
  replace F1 := Lib.hid F1
  replace F2 := Lib.hid F2
  replace F3 := Lib.hid F3
  replace L1 := Lib.hid L1
  replace L2 := Lib.hid L2
  replace L3 := Lib.hid L3
  replace FC := Lib.hid FC
  have Sv0 := BL.start w
  obtain ⟨V1, ev1, Sv1, zv1⟩ := Sv0.add' #[.int .i64 xf, .int .i64 xs, .slice ag xl cap, .int .i64 xm] 24
  obtain ⟨V2, ev2, Sv2, zv2⟩ := Sv1.add' #[.int .i64 p0, .int .i64 p1, .int .i64 p2, .int .i64 p3] 56
  rw [zv1] at Sv2
  have hV : V2 = ((w.alloc (.cells #[.int .i64 xf, .int .i64 xs, .slice ag xl cap, .int .i64 xm] 24)).alloc (.cells #[.int .i64 p0, .int .i64 p1, .int .i64 p2, .int .i64 p3] 56)) := by rw [ev2, ev1]
  have hS : BL w [(w.heap.size + 1, #[.int .i64 p0, .int .i64 p1, .int .i64 p2, .int .i64 p3], 56), (w.heap.size, #[.int .i64 xf, .int .i64 xs, .slice ag xl cap, .int .i64 xm], 24)] V2 := Sv2
  clear ev1 ev2 zv1 zv2 Sv0 Sv1 Sv2
  go_enter Tryz.func4, Tryz.ntmps4
  go_wp2_with fail
  rw [← hV]
  clear hV
  refine Calls.mono (sane_any _ (hS.env hE)) ?_
  rintro e w1 ⟨rfl, hb⟩
  replace hS := hS.call hb
  clear hb
  obtain ⟨c_x_0, c_x_1, c_x_2, c_x_3⟩ := hS.c4 (w.heap.size) _ _ _ _ _ (.tail _ (.head _))
  go_wp2_with fail
  refine Calls.mono (MD.out _ (HN.out.below hS.below)) ?_
  rintro e w2 ⟨v, rfl, hD, hb⟩
  clear c_x_0 c_x_1 c_x_2 c_x_3
  replace hS := hS.call hb
  clear hb
  obtain ⟨lb, lo, lc, rfl, hln2⟩ : ∃ lb lo lc, v = .slice (some ⟨lb, lo, none⟩) l.length lc ∧ 0 < l.length := by
    rcases id hD with ⟨-, e⟩ | ⟨b0, off, cap3, e, _⟩
    · rw [e] at kl; exact absurd kl (by simp)
    · exact ⟨b0, off, cap3, e, by omega⟩
  go_wp2_with fail
  refine Calls.mono (RF.out _ _ hD) ?_
  rintro e w3 ⟨u, rfl, hR, hb⟩
  replace hS := hS.call hb
  replace hD := hD.below hb
  clear hb
  obtain ⟨rb, ro, rc, rfl⟩ : ∃ rb ro rc, u = .slice (some ⟨rb, ro, none⟩) 3 rc := by
    rcases id hR with ⟨-, e⟩ | ⟨b0, off, cap3, e, _⟩
    · cases e
    · exact ⟨b0, off, cap3, e⟩
  obtain ⟨c_x_0, c_x_1, c_x_2, c_x_3⟩ := hS.c4 (w.heap.size) _ _ _ _ _ (.tail _ (.head _))
  go_wp2_with fail
  refine Calls.mono (HD.out _ (HN.out.below hS.below)) ?_
  rintro e w4 ⟨rfl, hb⟩
  clear c_x_0 c_x_1 c_x_2 c_x_3
  replace hS := hS.call hb
  replace hD := hD.below hb
  replace hR := hR.below hb
  clear hb
  replace hS := hS.add' #[.string an, .string ad] 27
  obtain ⟨W0, hW0, hS, hz0⟩ := hS
  replace hS := hS.add' #[.string bn, .string bd] 27
  obtain ⟨W1, hW1, hS, hz1⟩ := hS
  rw [hz0] at hS
  obtain ⟨W, hW⟩ : ∃ W, W = ((w4.alloc (.cells #[.string an, .string ad] 27)).alloc (.cells #[.string bn, .string bd] 27)) := ⟨_, rfl⟩
  replace hS : BL w [(w4.heap.size + 1, #[.string bn, .string bd], 27), (w4.heap.size, #[.string an, .string ad], 27), (w.heap.size + 1, #[.int .i64 p0, .int .i64 p1, .int .i64 p2, .int .i64 p3], 56), (w.heap.size, #[.int .i64 xf, .int .i64 xs, .slice ag xl cap, .int .i64 xm], 24)] W := by rw [hW, ← hW0, ← hW1]; exact hS
  replace hD : SlD W (.slice (some ⟨lb, lo, none⟩) l.length lc) l := by rw [hW]; exact (hD.new _).new _
  replace hR : Sl W (.slice (some ⟨rb, ro, none⟩) 3 rc) [(i : Int), (j : Int), (k : Int)] := by rw [hW]; exact (hR.new _).new _
  clear hz0 hz1 hW1 hW0
  go_upto_region 6 with fail
  rw [← hW]
  clear hW
  have hI := HI.mk hS hD hR
  have hC0 : ∀ W', BL w [(w4.heap.size + 1, #[.string bn, .string bd], 27), (w4.heap.size, #[.string an, .string ad], 27), (w.heap.size + 1, #[.int .i64 p0, .int .i64 p1, .int .i64 p2, .int .i64 p3], 56), (w.heap.size, #[.int .i64 xf, .int .i64 xs, .slice ag xl cap, .int .i64 xm], 24)] W' → (W'.cell? ⟨w.heap.size, 0, none⟩ = some (.int .i64 xf) ∧ W'.cell? ⟨w.heap.size, 1, none⟩ = some (.int .i64 xs) ∧ W'.cell? ⟨w.heap.size, 2, none⟩ = some (.slice ag xl cap) ∧ W'.cell? ⟨w.heap.size, 3, none⟩ = some (.int .i64 xm) ∧ W'.cell? ⟨w4.heap.size, 0, none⟩ = some (.string an) ∧ W'.cell? ⟨w4.heap.size, 1, none⟩ = some (.string ad) ∧ W'.cell? ⟨w4.heap.size + 1, 0, none⟩ = some (.string bn) ∧ W'.cell? ⟨w4.heap.size + 1, 1, none⟩ = some (.string bd) ∧ W'.cell? ⟨w.heap.size + 1, 0, none⟩ = some (.int .i64 p0) ∧ W'.cell? ⟨w.heap.size + 1, 1, none⟩ = some (.int .i64 p1) ∧ W'.cell? ⟨w.heap.size + 1, 2, none⟩ = some (.int .i64 p2) ∧ W'.cell? ⟨w.heap.size + 1, 3, none⟩ = some (.int .i64 p3)) := fun W' h => ⟨(h.cell (w.heap.size) _ _ (.tail _ (.tail _ (.tail _ (.head _)))) 0), (h.cell (w.heap.size) _ _ (.tail _ (.tail _ (.tail _ (.head _)))) 1), (h.cell (w.heap.size) _ _ (.tail _ (.tail _ (.tail _ (.head _)))) 2), (h.cell (w.heap.size) _ _ (.tail _ (.tail _ (.tail _ (.head _)))) 3), (h.cell (w4.heap.size) _ _ (.tail _ (.head _)) 0), (h.cell (w4.heap.size) _ _ (.tail _ (.head _)) 1), (h.cell (w4.heap.size + 1) _ _ (.head _) 0), (h.cell (w4.heap.size + 1) _ _ (.head _) 1), (h.cell (w.heap.size + 1) _ _ (.tail _ (.tail _ (.head _))) 0), (h.cell (w.heap.size + 1) _ _ (.tail _ (.tail _ (.head _))) 1), (h.cell (w.heap.size + 1) _ _ (.tail _ (.tail _ (.head _))) 2), (h.cell (w.heap.size + 1) _ _ (.tail _ (.tail _ (.head _))) 3)⟩
  have hC := Lib.hid hC0
  clear hC0
  clear hS hD hR
  go_cut [76] (fun s wx => s = .bool false ∧ HI w [(w4.heap.size + 1, #[.string bn, .string bd], 27), (w4.heap.size, #[.string an, .string ad], 27), (w.heap.size + 1, #[.int .i64 p0, .int .i64 p1, .int .i64 p2, .int .i64 p3], 56), (w.heap.size, #[.int .i64 xf, .int .i64 xs, .slice ag xl cap, .int .i64 xm], 24)] (.slice (some ⟨lb, lo, none⟩) l.length lc) l (.slice (some ⟨rb, ro, none⟩) 3 rc) [(i : Int), (j : Int), (k : Int)] wx)
  case first => as_aux_lemma =>
    refine wp_region_quiet (C := fun W' => HI w [(w4.heap.size + 1, #[.string bn, .string bd], 27), (w4.heap.size, #[.string an, .string ad], 27), (w.heap.size + 1, #[.int .i64 p0, .int .i64 p1, .int .i64 p2, .int .i64 p3], 56), (w.heap.size, #[.int .i64 xf, .int .i64 xs, .slice ag xl cap, .int .i64 xm], 24)] (.slice (some ⟨lb, lo, none⟩) l.length lc) l (.slice (some ⟨rb, ro, none⟩) 3 rc) [(i : Int), (j : Int), (k : Int)] W') rfl (by kernel_rfl) hI.drew (Walled.out ?_)
    refine qWant rfl fun K hK => ?_
    go_simp
    refine ⟨_, fun _ _ => rfl, hK _ ?_⟩
    clear hK K
    refine qWant rfl fun K hK => ?_
    go_simp
    refine ⟨_, fun _ _ => rfl, hK _ ?_⟩
    clear hK K
    refine qWant rfl fun K hK => ?_
    go_simp
    refine ⟨.agg #[.int .i64 xf, .int .i64 xs, .slice ag xl cap, .int .i64 xm], fun W hW => ?_, hK _ ?_⟩
    · obtain ⟨x0', x1', x2', x3', x4', x5', x6', x7', x8', x9', x10', x11'⟩ := hC.out W hW.bl
      go_simp
    clear hK K
    refine qWant rfl fun K hK => ?_
    go_simp
    refine ⟨.bool true, fun W hW => (MS.out W (HN.out.below hW.bl.below)).mono fun e w' h => ⟨h.1, hW.call h.2⟩, hK _ ?_⟩
    clear hK K
    refine qWant rfl fun K hK => ?_
    go_simp
    refine ⟨_, fun _ _ => rfl, hK _ ?_⟩
    clear hK K
    refine qWant rfl fun K hK => ?_
    go_simp
    refine ⟨_, fun _ _ => rfl, hK _ ?_⟩
    clear hK K
    refine qWant rfl fun K hK => ?_
    go_simp
    refine ⟨_, fun _ _ => rfl, hK _ ?_⟩
    clear hK K
    refine qWant rfl fun K hK => ?_
    go_simp
    refine ⟨_, fun _ _ => rfl, hK _ ?_⟩
    clear hK K
    refine qWant rfl fun K hK => ?_
    go_simp
    refine ⟨_, fun _ _ => rfl, hK _ ?_⟩
    clear hK K
    refine qWant rfl fun K hK => ?_
    go_simp
    refine ⟨_, fun _ _ => rfl, hK _ ?_⟩
    clear hK K
    refine qWant rfl fun K hK => ?_
    go_simp
    refine ⟨_, fun _ _ => rfl, hK _ ?_⟩
    clear hK K
    refine qWant rfl fun K hK => ?_
    go_simp
    refine ⟨_, fun _ _ => rfl, hK _ ?_⟩
    clear hK K
    refine qWant rfl fun K hK => ?_
    go_simp
    refine ⟨.agg #[.string an, .string ad], fun W hW => ?_, hK _ ?_⟩
    · obtain ⟨x0', x1', x2', x3', x4', x5', x6', x7', x8', x9', x10', x11'⟩ := hC.out W hW.bl
      go_simp
    clear hK K
    refine qWant rfl fun K hK => ?_
    go_simp
    refine ⟨.agg #[.string bn, .string bd], fun W hW => ?_, hK _ ?_⟩
    · obtain ⟨x0', x1', x2', x3', x4', x5', x6', x7', x8', x9', x10', x11'⟩ := hC.out W hW.bl
      go_simp
    clear hK K
    refine qWant rfl fun K hK => ?_
    go_simp
    refine ⟨.bool false, fun W hW => (FT.out _ W (hW.bl.env hE) hW.sd).mono fun e w' h => ⟨h.1, hW.call h.2⟩, hK _ ?_⟩
    clear hK K
    refine qWant rfl fun K hK => ?_
    go_simp
    refine ⟨_, fun _ _ => rfl, hK _ ?_⟩
    clear hK K
    refine qWant rfl fun K hK => ?_
    go_simp
    refine ⟨_, fun _ _ => rfl, hK _ ?_⟩
    clear hK K
    refine qWant rfl fun K hK => ?_
    go_simp
    refine ⟨_, fun _ _ => rfl, hK _ ?_⟩
    clear hK K
    refine qWant rfl fun K hK => ?_
    go_simp
    refine ⟨_, fun _ _ => rfl, hK _ ?_⟩
    clear hK K
    refine qWant rfl fun K hK => ?_
    go_simp
    refine ⟨.int .i64 p0, fun W hW => ?_, hK _ ?_⟩
    · obtain ⟨x0', x1', x2', x3', x4', x5', x6', x7', x8', x9', x10', x11'⟩ := hC.out W hW.bl
      go_simp
    clear hK K
    refine qWant rfl fun K hK => ?_
    go_simp
    refine ⟨.int .i64 z0, fun W hW => (P0.out W).mono fun e w' h => ⟨h.1, hW.call h.2⟩, hK _ ?_⟩
    clear hK K
    refine qWant rfl fun K hK => ?_
    go_simp
    refine ⟨.int .i64 y0, fun _ _ => by first | rfl | rw [w0], hK _ ?_⟩
    clear hK K
    refine qWant rfl fun K hK => ?_
    go_simp
    refine ⟨_, fun _ _ => rfl, hK _ ?_⟩
    clear hK K
    refine qWant rfl fun K hK => ?_
    go_simp
    refine ⟨.int .i64 p1, fun W hW => ?_, hK _ ?_⟩
    · obtain ⟨x0', x1', x2', x3', x4', x5', x6', x7', x8', x9', x10', x11'⟩ := hC.out W hW.bl
      go_simp
    clear hK K
    refine qWant rfl fun K hK => ?_
    go_simp
    refine ⟨.int .i64 z1, fun W hW => (P1.out W).mono fun e w' h => ⟨h.1, hW.call h.2⟩, hK _ ?_⟩
    clear hK K
    refine qWant rfl fun K hK => ?_
    go_simp
    refine ⟨.int .i64 y1, fun _ _ => by first | rfl | rw [w1], hK _ ?_⟩
    clear hK K
    refine qWant rfl fun K hK => ?_
    go_simp
    refine ⟨.agg #[.string pan, .string pad], fun W hW => (O1.out W).mono fun e w' h => ⟨h.1, hW.call h.2⟩, hK _ ?_⟩
    clear hK K
    refine qWant rfl fun K hK => ?_
    go_simp
    refine ⟨_, fun _ _ => rfl, hK _ ?_⟩
    clear hK K
    refine qWant rfl fun K hK => ?_
    go_simp
    refine ⟨.int .i64 p2, fun W hW => ?_, hK _ ?_⟩
    · obtain ⟨x0', x1', x2', x3', x4', x5', x6', x7', x8', x9', x10', x11'⟩ := hC.out W hW.bl
      go_simp
    clear hK K
    refine qWant rfl fun K hK => ?_
    go_simp
    refine ⟨.int .i64 z2, fun W hW => (P2.out W).mono fun e w' h => ⟨h.1, hW.call h.2⟩, hK _ ?_⟩
    clear hK K
    refine qWant rfl fun K hK => ?_
    go_simp
    refine ⟨.int .i64 y2, fun _ _ => by first | rfl | rw [w2], hK _ ?_⟩
    clear hK K
    refine qWant rfl fun K hK => ?_
    go_simp
    refine ⟨_, fun _ _ => rfl, hK _ ?_⟩
    clear hK K
    refine qWant rfl fun K hK => ?_
    go_simp
    refine ⟨.int .i64 p3, fun W hW => ?_, hK _ ?_⟩
    · obtain ⟨x0', x1', x2', x3', x4', x5', x6', x7', x8', x9', x10', x11'⟩ := hC.out W hW.bl
      go_simp
    clear hK K
    refine qWant rfl fun K hK => ?_
    go_simp
    refine ⟨.int .i64 z3, fun W hW => (P3.out W).mono fun e w' h => ⟨h.1, hW.call h.2⟩, hK _ ?_⟩
    clear hK K
    refine qWant rfl fun K hK => ?_
    go_simp
    refine ⟨.int .i64 y3, fun _ _ => by first | rfl | rw [w3], hK _ ?_⟩
    clear hK K
    refine qWant rfl fun K hK => ?_
    go_simp
    refine ⟨.agg #[.string pbn, .string pbd], fun W hW => (O2.out W).mono fun e w' h => ⟨h.1, hW.call h.2⟩, hK _ ?_⟩
    clear hK K
    refine qWant rfl fun K hK => ?_
    go_simp
    refine ⟨.bool false, fun W hW => (FP.out _ W (hW.bl.env hE) hW.sd).mono fun e w' h => ⟨h.1, hW.call h.2⟩, hK _ ?_⟩
    clear hK K
    refine qWant rfl fun K hK => ?_
    go_simp
    refine ⟨_, fun _ _ => rfl, hK _ ?_⟩
    clear hK K
    refine qWant rfl fun K hK => ?_
    go_simp
    refine ⟨_, fun _ _ => rfl, hK _ ?_⟩
    clear hK K
    refine qNil ?_
    intro W' hI
    go_wp2_with fail
    go_meet
    exact ⟨rfl, hI⟩
  case rest =>
    clear hC hI
    obtain ⟨rfl, hI⟩ := hcut
    obtain ⟨hS, hD, hR⟩ := hI
    obtain ⟨c_x_0, c_x_1, c_x_2, c_x_3⟩ := hS.c4 (w.heap.size) _ _ _ _ _ (.tail _ (.tail _ (.tail _ (.head _))))
    go_wp2_with fail
    refine Calls.mono (MS.out _ (HN.out.below hS.below)) ?_
    rintro e w5 ⟨rfl, hb⟩
    clear c_x_0 c_x_1 c_x_2 c_x_3
    replace hS := hS.call hb
    replace hD := hD.below hb
    replace hR := hR.below hb
    clear hb
    go_wp2_with fail
    refine Calls.mono (DY.out _) ?_
    rintro e w6 ⟨rfl, hb⟩
    replace hS := hS.call hb
    replace hD := hD.below hb
    replace hR := hR.below hb
    clear hb
    go_wp2_with fail
    refine Calls.mono (LN.out _ _ (hS.env hE) hD) ?_
    rintro e w7 ⟨rfl, hb⟩
    replace hS := hS.call hb
    replace hD := hD.below hb
    replace hR := hR.below hb
    clear hb
    replace hS := hS.add' #[.string ⟨#[]⟩, .string ⟨#[]⟩] 27
    obtain ⟨W0, hW0, hS, hz0⟩ := hS
    replace hS := hS.add' #[.string ⟨#[]⟩, .string ⟨#[]⟩] 27
    obtain ⟨W1, hW1, hS, hz1⟩ := hS
    rw [hz0] at hS
    obtain ⟨W, hW⟩ : ∃ W, W = ((w7.alloc (.cells #[.string ⟨#[]⟩, .string ⟨#[]⟩] 27)).alloc (.cells #[.string ⟨#[]⟩, .string ⟨#[]⟩] 27)) := ⟨_, rfl⟩
    replace hS : BL w [(w7.heap.size + 1, #[.string ⟨#[]⟩, .string ⟨#[]⟩], 27), (w7.heap.size, #[.string ⟨#[]⟩, .string ⟨#[]⟩], 27), (w4.heap.size + 1, #[.string bn, .string bd], 27), (w4.heap.size, #[.string an, .string ad], 27), (w.heap.size + 1, #[.int .i64 p0, .int .i64 p1, .int .i64 p2, .int .i64 p3], 56), (w.heap.size, #[.int .i64 xf, .int .i64 xs, .slice ag xl cap, .int .i64 xm], 24)] W := by rw [hW, ← hW0, ← hW1]; exact hS
    replace hD : SlD W (.slice (some ⟨lb, lo, none⟩) l.length lc) l := by rw [hW]; exact (hD.new _).new _
    replace hR : Sl W (.slice (some ⟨rb, ro, none⟩) 3 rc) [(i : Int), (j : Int), (k : Int)] := by rw [hW]; exact (hR.new _).new _
    clear hz0 hz1 hW1 hW0
    go_upto_region 15 with fail
    rw [← hW]
    clear hW
    have hI := HI.mk hS hD hR
    clear hS hD hR
    have hC0 : ∀ W', HI w [(w7.heap.size + 1, #[.string ⟨#[]⟩, .string ⟨#[]⟩], 27), (w7.heap.size, #[.string ⟨#[]⟩, .string ⟨#[]⟩], 27), (w4.heap.size + 1, #[.string bn, .string bd], 27), (w4.heap.size, #[.string an, .string ad], 27), (w.heap.size + 1, #[.int .i64 p0, .int .i64 p1, .int .i64 p2, .int .i64 p3], 56), (w.heap.size, #[.int .i64 xf, .int .i64 xs, .slice ag xl cap, .int .i64 xm], 24)] (.slice (some ⟨lb, lo, none⟩) l.length lc) l (.slice (some ⟨rb, ro, none⟩) 3 rc) [(i : Int), (j : Int), (k : Int)] W' → W'.cell? ⟨rb, ro, none⟩ = some (.int .i64 i) ∧ W'.cell? ⟨rb, ro + 1, none⟩ = some (.int .i64 j) ∧ W'.cell? ⟨rb, ro + 2, none⟩ = some (.int .i64 k) := fun W' h => by
      rcases h.sl with ⟨e, _⟩ | ⟨b0, off, cap3, e, g1, g2, g3, g4⟩
      · cases e
      · cases e
        exact ⟨g4 0 (by simp), g4 1 (by simp), g4 2 (by simp)⟩
    have hC := Lib.hid hC0
    clear hC0
    go_cut [149] (fun s wx => s = .bool false ∧ HI w [(w7.heap.size + 1, #[.string ⟨#[]⟩, .string ⟨#[]⟩], 27), (w7.heap.size, #[.string ⟨#[]⟩, .string ⟨#[]⟩], 27), (w4.heap.size + 1, #[.string bn, .string bd], 27), (w4.heap.size, #[.string an, .string ad], 27), (w.heap.size + 1, #[.int .i64 p0, .int .i64 p1, .int .i64 p2, .int .i64 p3], 56), (w.heap.size, #[.int .i64 xf, .int .i64 xs, .slice ag xl cap, .int .i64 xm], 24)] (.slice (some ⟨lb, lo, none⟩) l.length lc) l (.slice (some ⟨rb, ro, none⟩) 3 rc) [(i : Int), (j : Int), (k : Int)] wx)
    case first => as_aux_lemma =>
      refine wp_region_quiet (C := fun W' => HI w [(w7.heap.size + 1, #[.string ⟨#[]⟩, .string ⟨#[]⟩], 27), (w7.heap.size, #[.string ⟨#[]⟩, .string ⟨#[]⟩], 27), (w4.heap.size + 1, #[.string bn, .string bd], 27), (w4.heap.size, #[.string an, .string ad], 27), (w.heap.size + 1, #[.int .i64 p0, .int .i64 p1, .int .i64 p2, .int .i64 p3], 56), (w.heap.size, #[.int .i64 xf, .int .i64 xs, .slice ag xl cap, .int .i64 xm], 24)] (.slice (some ⟨lb, lo, none⟩) l.length lc) l (.slice (some ⟨rb, ro, none⟩) 3 rc) [(i : Int), (j : Int), (k : Int)] W') rfl (by kernel_rfl) hI.drew (Walled.out ?_)
      refine qWant rfl fun K hK => ?_
      go_simp
      refine ⟨_, fun _ _ => rfl, hK _ ?_⟩
      clear hK K
      refine qWant rfl fun K hK => ?_
      go_simp
      refine ⟨_, fun _ _ => rfl, hK _ ?_⟩
      clear hK K
      refine qWant rfl fun K hK => ?_
      go_simp
      refine ⟨.int .i64 i, fun W hW => ?_, hK _ ?_⟩
      · obtain ⟨x0', x1', x2'⟩ := hC.out W hW
        go_simp
      clear hK K
      refine qWant rfl fun K hK => ?_
      go_simp
      refine ⟨.bool false, fun _ _ => by first | rfl | exact congrArg Value.bool (decide_eq_false (by omega)), hK _ ?_⟩
      clear hK K
      refine qWant rfl fun K hK => ?_
      go_simp
      refine ⟨_, fun _ _ => rfl, hK _ ?_⟩
      clear hK K
      refine qWant rfl fun K hK => ?_
      go_simp
      refine ⟨_, fun _ _ => rfl, hK _ ?_⟩
      clear hK K
      refine qWant rfl fun K hK => ?_
      go_simp
      refine ⟨_, fun _ _ => rfl, hK _ ?_⟩
      clear hK K
      refine qWant rfl fun K hK => ?_
      go_simp
      refine ⟨.int .i64 i, fun W hW => ?_, hK _ ?_⟩
      · obtain ⟨x0', x1', x2'⟩ := hC.out W hW
        go_simp
      clear hK K
      refine qWant rfl fun K hK => ?_
      go_simp
      refine ⟨_, fun _ _ => rfl, hK _ ?_⟩
      clear hK K
      refine qWant rfl fun K hK => ?_
      go_simp
      refine ⟨_, fun _ _ => rfl, hK _ ?_⟩
      clear hK K
      refine qWant rfl fun K hK => ?_
      go_simp
      refine ⟨.int .i64 j, fun W hW => ?_, hK _ ?_⟩
      · obtain ⟨x0', x1', x2'⟩ := hC.out W hW
        go_simp
      clear hK K
      refine qWant rfl fun K hK => ?_
      go_simp
      refine ⟨.bool false, fun _ _ => by first | rfl | exact congrArg Value.bool (decide_eq_false (by omega)), hK _ ?_⟩
      clear hK K
      refine qWant rfl fun K hK => ?_
      go_simp
      refine ⟨_, fun _ _ => rfl, hK _ ?_⟩
      clear hK K
      refine qWant rfl fun K hK => ?_
      go_simp
      refine ⟨_, fun _ _ => rfl, hK _ ?_⟩
      clear hK K
      refine qWant rfl fun K hK => ?_
      go_simp
      refine ⟨_, fun _ _ => rfl, hK _ ?_⟩
      clear hK K
      refine qWant rfl fun K hK => ?_
      go_simp
      refine ⟨_, fun _ _ => rfl, hK _ ?_⟩
      clear hK K
      refine qWant rfl fun K hK => ?_
      go_simp
      refine ⟨.int .i64 j, fun W hW => ?_, hK _ ?_⟩
      · obtain ⟨x0', x1', x2'⟩ := hC.out W hW
        go_simp
      clear hK K
      refine qWant rfl fun K hK => ?_
      go_simp
      refine ⟨_, fun _ _ => rfl, hK _ ?_⟩
      clear hK K
      refine qWant rfl fun K hK => ?_
      go_simp
      refine ⟨_, fun _ _ => rfl, hK _ ?_⟩
      clear hK K
      refine qWant rfl fun K hK => ?_
      go_simp
      refine ⟨.int .i64 k, fun W hW => ?_, hK _ ?_⟩
      · obtain ⟨x0', x1', x2'⟩ := hC.out W hW
        go_simp
      clear hK K
      refine qWant rfl fun K hK => ?_
      go_simp
      refine ⟨.bool false, fun _ _ => by first | rfl | exact congrArg Value.bool (decide_eq_false (by omega)), hK _ ?_⟩
      clear hK K
      refine qWant rfl fun K hK => ?_
      go_simp
      refine ⟨_, fun _ _ => rfl, hK _ ?_⟩
      clear hK K
      refine qWant rfl fun K hK => ?_
      go_simp
      refine ⟨_, fun _ _ => rfl, hK _ ?_⟩
      clear hK K
      refine qWant rfl fun K hK => ?_
      go_simp
      refine ⟨_, fun _ _ => rfl, hK _ ?_⟩
      clear hK K
      refine qWant rfl fun K hK => ?_
      go_simp
      refine ⟨_, fun _ _ => rfl, hK _ ?_⟩
      clear hK K
      refine qWant rfl fun K hK => ?_
      go_simp
      refine ⟨.int .i64 k, fun W hW => ?_, hK _ ?_⟩
      · obtain ⟨x0', x1', x2'⟩ := hC.out W hW
        go_simp
      clear hK K
      refine qWant rfl fun K hK => ?_
      go_simp
      refine ⟨_, fun _ _ => rfl, hK _ ?_⟩
      clear hK K
      refine qWant rfl fun K hK => ?_
      go_simp
      refine ⟨_, fun _ _ => rfl, hK _ ?_⟩
      clear hK K
      refine qWant rfl fun K hK => ?_
      go_simp
      refine ⟨.bool false, fun _ _ => by first | rfl | exact congrArg Value.bool (decide_eq_false (by omega)), hK _ ?_⟩
      clear hK K
      refine qWant rfl fun K hK => ?_
      go_simp
      refine ⟨_, fun _ _ => rfl, hK _ ?_⟩
      clear hK K
      refine qNil ?_
      intro W' hI
      go_wp2_with fail
      go_meet
      exact ⟨rfl, hI⟩
    case rest =>
      clear hC hI
      obtain ⟨rfl, hI⟩ := hcut
      go_upto_region 17 with fail
      have ik : i < l.length := by omega
      have jk' : j < l.length := by omega
      have hC0 : ∀ W', HI w [(w7.heap.size + 1, #[.string ⟨#[]⟩, .string ⟨#[]⟩], 27), (w7.heap.size, #[.string ⟨#[]⟩, .string ⟨#[]⟩], 27), (w4.heap.size + 1, #[.string bn, .string bd], 27), (w4.heap.size, #[.string an, .string ad], 27), (w.heap.size + 1, #[.int .i64 p0, .int .i64 p1, .int .i64 p2, .int .i64 p3], 56), (w.heap.size, #[.int .i64 xf, .int .i64 xs, .slice ag xl cap, .int .i64 xm], 24)] (.slice (some ⟨lb, lo, none⟩) l.length lc) l (.slice (some ⟨rb, ro, none⟩) 3 rc) [(i : Int), (j : Int), (k : Int)] W' → (W'.cell? ⟨rb, ro, none⟩ = some (.int .i64 i) ∧ W'.cell? ⟨rb, ro + 1, none⟩ = some (.int .i64 j) ∧ W'.cell? ⟨rb, ro + 2, none⟩ = some (.int .i64 k) ∧ W'.cell? ⟨lb, lo + i * 3, none⟩ = some (.int .i64 (gd l i).t) ∧ W'.cell? ⟨lb, lo + i * 3 + 1, none⟩ = some (.int .i64 (gd l i).lo) ∧ W'.cell? ⟨lb, lo + i * 3 + 2, none⟩ = some (.int .i64 (gd l i).hi) ∧ W'.cell? ⟨lb, lo + j * 3, none⟩ = some (.int .i64 (gd l j).t) ∧ W'.cell? ⟨lb, lo + j * 3 + 1, none⟩ = some (.int .i64 (gd l j).lo) ∧ W'.cell? ⟨lb, lo + j * 3 + 2, none⟩ = some (.int .i64 (gd l j).hi) ∧ W'.cell? ⟨lb, lo + k * 3, none⟩ = some (.int .i64 (gd l k).t) ∧ W'.cell? ⟨lb, lo + k * 3 + 1, none⟩ = some (.int .i64 (gd l k).lo) ∧ W'.cell? ⟨lb, lo + k * 3 + 2, none⟩ = some (.int .i64 (gd l k).hi)) := fun W' h => by
        rcases h.sl with ⟨e, _⟩ | ⟨b0, off, cap3, e, g1, g2, g3, g4⟩
        · cases e
        · cases e
          rcases h.sd with ⟨e, _⟩ | ⟨b1, off1, cap4, e, h1, h2, h3, h4⟩
          · cases e
          · cases e
            exact ⟨g4 0 (by simp), g4 1 (by simp), g4 2 (by simp), (h4 i ik).1, (h4 i ik).2.1, (h4 i ik).2.2, (h4 j jk').1, (h4 j jk').2.1, (h4 j jk').2.2, (h4 k kl).1, (h4 k kl).2.1, (h4 k kl).2.2⟩
      have hC := Lib.hid hC0
      clear hC0 hln2
      generalize gd l i = da at *
      generalize gd l j = db at *
      generalize gd l k = dc at *
      go_cut [15] (fun s wx => ∃ g : Nat, s = .slice (some ⟨g, 0, none⟩) 3 3 ∧ w.heap.size ≤ g ∧ (∀ p ∈ ([(w7.heap.size + 1, #[.string ⟨#[]⟩, .string ⟨#[]⟩], 27), (w7.heap.size, #[.string ⟨#[]⟩, .string ⟨#[]⟩], 27), (w4.heap.size + 1, #[.string bn, .string bd], 27), (w4.heap.size, #[.string an, .string ad], 27), (w.heap.size + 1, #[.int .i64 p0, .int .i64 p1, .int .i64 p2, .int .i64 p3], 56), (w.heap.size, #[.int .i64 xf, .int .i64 xs, .slice ag xl cap, .int .i64 xm], 24)] : BLs), p.1 < g) ∧ HI w ((g, #[.int .i64 da.t, .int .i64 da.lo, .int .i64 da.hi, .int .i64 db.t, .int .i64 db.lo, .int .i64 db.hi, .int .i64 dc.t, .int .i64 dc.lo, .int .i64 dc.hi], 59) :: [(w7.heap.size + 1, #[.string ⟨#[]⟩, .string ⟨#[]⟩], 27), (w7.heap.size, #[.string ⟨#[]⟩, .string ⟨#[]⟩], 27), (w4.heap.size + 1, #[.string bn, .string bd], 27), (w4.heap.size, #[.string an, .string ad], 27), (w.heap.size + 1, #[.int .i64 p0, .int .i64 p1, .int .i64 p2, .int .i64 p3], 56), (w.heap.size, #[.int .i64 xf, .int .i64 xs, .slice ag xl cap, .int .i64 xm], 24)]) (.slice (some ⟨lb, lo, none⟩) l.length lc) l (.slice (some ⟨rb, ro, none⟩) 3 rc) [(i : Int), (j : Int), (k : Int)] wx)
      case first =>
        obtain ⟨x0', x1', x2', x3', x4', x5', x6', x7', x8', x9', x10', x11'⟩ := hC.out _ hI
        have hlt := hI.bl.lts
        have hge := hI.bl.below.size
        have h0 := hI
        replace hI := hI.drew
        go_region_held3 (fun w' => w'.cell? ⟨rb, ro, none⟩ = some (.int .i64 i) ∧ w'.cell? ⟨rb, ro + 1, none⟩ = some (.int .i64 j) ∧ w'.cell? ⟨rb, ro + 2, none⟩ = some (.int .i64 k) ∧ w'.cell? ⟨lb, lo + i * 3, none⟩ = some (.int .i64 da.t) ∧ w'.cell? ⟨lb, lo + i * 3 + 1, none⟩ = some (.int .i64 da.lo) ∧ w'.cell? ⟨lb, lo + i * 3 + 2, none⟩ = some (.int .i64 da.hi) ∧ w'.cell? ⟨lb, lo + j * 3, none⟩ = some (.int .i64 db.t) ∧ w'.cell? ⟨lb, lo + j * 3 + 1, none⟩ = some (.int .i64 db.lo) ∧ w'.cell? ⟨lb, lo + j * 3 + 2, none⟩ = some (.int .i64 db.hi) ∧ w'.cell? ⟨lb, lo + k * 3, none⟩ = some (.int .i64 dc.t) ∧ w'.cell? ⟨lb, lo + k * 3 + 1, none⟩ = some (.int .i64 dc.lo) ∧ w'.cell? ⟨lb, lo + k * 3 + 2, none⟩ = some (.int .i64 dc.hi))
          (first | with_reducible exact hC.out _ hI | go_keep)
          (fail)
        all_goals (go_wp2_with fail; go_meet; first | with_reducible exact ⟨_, rfl, hge, hlt, (h0.add _ _).drew⟩ | with_reducible exact ⟨_, rfl, hge, hlt, hI.add _ _⟩)
      case rest =>
        clear hC hI
        obtain ⟨g, rfl, gge, glt, hI⟩ := hcut
        have hS := hI.bl
        clear hI
        go_wp2_with fail
        refine Calls.mono (DY.out _) ?_
        rintro e w8 ⟨rfl, hb⟩
        replace hS := hS.call hb
        clear hb
        go_wp2_with fail
        refine Calls.mono (FC.out _ _ (hS.env hE) (SlD.of3 (hS.blks _ (.head _)))) ?_
        rintro e w9 ⟨rfl, hb⟩
        replace hS := hS.call hb
        clear hb
        replace hS := hS.add' #[.string ⟨#[]⟩, .string ⟨#[]⟩] 27
        obtain ⟨W0, hW0, hS, hz0⟩ := hS
        replace hS := hS.add' #[.string ⟨#[]⟩, .string ⟨#[]⟩] 27
        obtain ⟨W1, hW1, hS, hz1⟩ := hS
        rw [hz0] at hS
        obtain ⟨W, hW⟩ : ∃ W, W = ((w9.alloc (.cells #[.string ⟨#[]⟩, .string ⟨#[]⟩] 27)).alloc (.cells #[.string ⟨#[]⟩, .string ⟨#[]⟩] 27)) := ⟨_, rfl⟩
        replace hS : BL w [(w9.heap.size + 1, #[.string ⟨#[]⟩, .string ⟨#[]⟩], 27), (w9.heap.size, #[.string ⟨#[]⟩, .string ⟨#[]⟩], 27), (g, #[.int .i64 da.t, .int .i64 da.lo, .int .i64 da.hi, .int .i64 db.t, .int .i64 db.lo, .int .i64 db.hi, .int .i64 dc.t, .int .i64 dc.lo, .int .i64 dc.hi], 59), (w7.heap.size + 1, #[.string ⟨#[]⟩, .string ⟨#[]⟩], 27), (w7.heap.size, #[.string ⟨#[]⟩, .string ⟨#[]⟩], 27), (w4.heap.size + 1, #[.string bn, .string bd], 27), (w4.heap.size, #[.string an, .string ad], 27), (w.heap.size + 1, #[.int .i64 p0, .int .i64 p1, .int .i64 p2, .int .i64 p3], 56), (w.heap.size, #[.int .i64 xf, .int .i64 xs, .slice ag xl cap, .int .i64 xm], 24)] W := by rw [hW, ← hW0, ← hW1]; exact hS
        clear hz0 hz1 hW1 hW0
        go_wp2_with fail
        rw [← hW]
        clear hW
        go_loopw [19] (fun o wr => ∃ m : Nat, o = .int .i64 m ∧ m ≤ 3 ∧ BL w [(w9.heap.size + 1, #[.string ⟨#[]⟩, .string ⟨#[]⟩], 27), (w9.heap.size, #[.string ⟨#[]⟩, .string ⟨#[]⟩], 27), (g, #[.int .i64 da.t, .int .i64 da.lo, .int .i64 da.hi, .int .i64 db.t, .int .i64 db.lo, .int .i64 db.hi, .int .i64 dc.t, .int .i64 dc.lo, .int .i64 dc.hi], 59), (w7.heap.size + 1, #[.string ⟨#[]⟩, .string ⟨#[]⟩], 27), (w7.heap.size, #[.string ⟨#[]⟩, .string ⟨#[]⟩], 27), (w4.heap.size + 1, #[.string bn, .string bd], 27), (w4.heap.size, #[.string an, .string ad], 27), (w.heap.size + 1, #[.int .i64 p0, .int .i64 p1, .int .i64 p2, .int .i64 p3], 56), (w.heap.size, #[.int .i64 xf, .int .i64 xs, .slice ag xl cap, .int .i64 xm], 24)] wr) (fun o _ => 3 - (intOf o).toNat)
        case atStart => exact ⟨0, rfl, by omega, hS⟩
        case round =>
          clear hS
          obtain ⟨m, rfl, hm, hS⟩ := hrel
          rcases (show m = 0 ∨ m = 1 ∨ m = 2 ∨ m = 3 by omega) with rfl | rfl | rfl | rfl
          · rw [show ((0 : Nat) : Int) = 0 from rfl]
            have wq : IntKind.i64.wrap 1 = 1 := IntWalk.i64_in _ (by omega)
            have wq' : wrap64 1 = 1 := IntWalk.wrap64_in _ (by omega)
            go_upto_region 24 with fail
            have hC0 : ∀ W', BL w [(w9.heap.size + 1, #[.string ⟨#[]⟩, .string ⟨#[]⟩], 27), (w9.heap.size, #[.string ⟨#[]⟩, .string ⟨#[]⟩], 27), (g, #[.int .i64 da.t, .int .i64 da.lo, .int .i64 da.hi, .int .i64 db.t, .int .i64 db.lo, .int .i64 db.hi, .int .i64 dc.t, .int .i64 dc.lo, .int .i64 dc.hi], 59), (w7.heap.size + 1, #[.string ⟨#[]⟩, .string ⟨#[]⟩], 27), (w7.heap.size, #[.string ⟨#[]⟩, .string ⟨#[]⟩], 27), (w4.heap.size + 1, #[.string bn, .string bd], 27), (w4.heap.size, #[.string an, .string ad], 27), (w.heap.size + 1, #[.int .i64 p0, .int .i64 p1, .int .i64 p2, .int .i64 p3], 56), (w.heap.size, #[.int .i64 xf, .int .i64 xs, .slice ag xl cap, .int .i64 xm], 24)] W' → DCell W' g 0 da ∧ DCell W' g 3 db ∧ DCell W' g 6 dc := fun W' h => dcell_of (h.blks _ (.tail _ (.tail _ (.head _))))
            have hC := Lib.hid hC0
            clear hC0
            go_cut [20] (fun s wx => SlD wx s [db, dc] ∧ BL w [(w9.heap.size + 1, #[.string ⟨#[]⟩, .string ⟨#[]⟩], 27), (w9.heap.size, #[.string ⟨#[]⟩, .string ⟨#[]⟩], 27), (g, #[.int .i64 da.t, .int .i64 da.lo, .int .i64 da.hi, .int .i64 db.t, .int .i64 db.lo, .int .i64 db.hi, .int .i64 dc.t, .int .i64 dc.lo, .int .i64 dc.hi], 59), (w7.heap.size + 1, #[.string ⟨#[]⟩, .string ⟨#[]⟩], 27), (w7.heap.size, #[.string ⟨#[]⟩, .string ⟨#[]⟩], 27), (w4.heap.size + 1, #[.string bn, .string bd], 27), (w4.heap.size, #[.string an, .string ad], 27), (w.heap.size + 1, #[.int .i64 p0, .int .i64 p1, .int .i64 p2, .int .i64 p3], 56), (w.heap.size, #[.int .i64 xf, .int .i64 xs, .slice ag xl cap, .int .i64 xm], 24)] wx)
            case first =>
              have hA0 : ∀ o, Below wr.heap.size wr (wr.drew.alloc o) := fun o => (below_drewN wr 1).alloc (Nat.le_refl _) o
              have hA := Lib.hid hA0
              clear hA0
              have hD0 : ∀ W', BL w [(w9.heap.size + 1, #[.string ⟨#[]⟩, .string ⟨#[]⟩], 27), (w9.heap.size, #[.string ⟨#[]⟩, .string ⟨#[]⟩], 27), (g, #[.int .i64 da.t, .int .i64 da.lo, .int .i64 da.hi, .int .i64 db.t, .int .i64 db.lo, .int .i64 db.hi, .int .i64 dc.t, .int .i64 dc.lo, .int .i64 dc.hi], 59), (w7.heap.size + 1, #[.string ⟨#[]⟩, .string ⟨#[]⟩], 27), (w7.heap.size, #[.string ⟨#[]⟩, .string ⟨#[]⟩], 27), (w4.heap.size + 1, #[.string bn, .string bd], 27), (w4.heap.size, #[.string an, .string ad], 27), (w.heap.size + 1, #[.int .i64 p0, .int .i64 p1, .int .i64 p2, .int .i64 p3], 56), (w.heap.size, #[.int .i64 xf, .int .i64 xs, .slice ag xl cap, .int .i64 xm], 24)] W' → (W'.cell? ⟨g, 0, none⟩ = some (.int .i64 da.t) ∧ W'.cell? ⟨g, 1, none⟩ = some (.int .i64 da.lo) ∧ W'.cell? ⟨g, 2, none⟩ = some (.int .i64 da.hi) ∧ W'.cell? ⟨g, 3, none⟩ = some (.int .i64 db.t) ∧ W'.cell? ⟨g, 4, none⟩ = some (.int .i64 db.lo) ∧ W'.cell? ⟨g, 5, none⟩ = some (.int .i64 db.hi) ∧ W'.cell? ⟨g, 6, none⟩ = some (.int .i64 dc.t) ∧ W'.cell? ⟨g, 7, none⟩ = some (.int .i64 dc.lo) ∧ W'.cell? ⟨g, 8, none⟩ = some (.int .i64 dc.hi)) := fun W' h => ⟨(h.cell (g) _ _ (.tail _ (.tail _ (.head _))) 0), (h.cell (g) _ _ (.tail _ (.tail _ (.head _))) 1), (h.cell (g) _ _ (.tail _ (.tail _ (.head _))) 2), (h.cell (g) _ _ (.tail _ (.tail _ (.head _))) 3), (h.cell (g) _ _ (.tail _ (.tail _ (.head _))) 4), (h.cell (g) _ _ (.tail _ (.tail _ (.head _))) 5), (h.cell (g) _ _ (.tail _ (.tail _ (.head _))) 6), (h.cell (g) _ _ (.tail _ (.tail _ (.head _))) 7), (h.cell (g) _ _ (.tail _ (.tail _ (.head _))) 8)⟩
              have hD := Lib.hid hD0
              clear hD0
              obtain ⟨y0', y1', y2', y3', y4', y5', y6', y7', y8'⟩ := hD.out _ hS
              have h0 := hS
              replace hS := hS.drew
              go_region_held3 (fun w' => w'.cell? ⟨g, 0, none⟩ = some (.int .i64 da.t) ∧ w'.cell? ⟨g, 1, none⟩ = some (.int .i64 da.lo) ∧ w'.cell? ⟨g, 2, none⟩ = some (.int .i64 da.hi) ∧ w'.cell? ⟨g, 3, none⟩ = some (.int .i64 db.t) ∧ w'.cell? ⟨g, 4, none⟩ = some (.int .i64 db.lo) ∧ w'.cell? ⟨g, 5, none⟩ = some (.int .i64 db.hi) ∧ w'.cell? ⟨g, 6, none⟩ = some (.int .i64 dc.t) ∧ w'.cell? ⟨g, 7, none⟩ = some (.int .i64 dc.lo) ∧ w'.cell? ⟨g, 8, none⟩ = some (.int .i64 dc.hi))
                (first | with_reducible exact hD.out _ hS | with_reducible exact hD.out _ (h0.call (hA.out _)) | with_reducible exact hD.out _ (h0.call hF1) | with_reducible exact hD.out _ (h0.call hF2) | go_keep)
                (first | (have HB := h0.call (hA.out (.cells #[] 59)); refine oper_app_dts [] 25 Tryz.underlying25 _ _ rfl rfl g 0 3 rfl dc_nil (own_empty _ wr.heap.size (Nat.le_refl _)) (by simp) (by simp) ?_; intro v1 w1 hown1 hb1; have hF1 := (hA.out (.cells #[] 59)).trans hb1) | (have HB := h0.call hF1; refine oper_app_dts [db, dc] 25 Tryz.underlying25 _ _ rfl rfl g 3 _ rfl (dc_two (hC.out _ HB).2.1 (hC.out _ HB).2.2) hown1 (by simp) hF1.size ?_; intro v2 w2 hown2 hb2; have hF2 := hF1.trans hb2))
              all_goals (go_wp2_with fail; go_meet; exact ⟨SlD.of_own hown2, h0.call hF2⟩)
            case rest =>
              clear hC hS
              obtain ⟨hM, hS⟩ := hcut
              go_wp2_with fail
              refine Calls.mono (DY.out _) ?_
              rintro e w10 ⟨rfl, hb⟩
              replace hS := hS.call hb
              replace hM := hM.below hb
              clear hb
              go_wp2_with fail
              refine Calls.mono (L1.out _ _ (hS.env hE) hM) ?_
              rintro e w11 ⟨rfl, hb⟩
              replace hS := hS.call hb
              replace hM := hM.below hb
              clear hb
              replace hS := hS.add' #[.string c1n, .string c1d] 27
              obtain ⟨W0, hW0, hS, hz0⟩ := hS
              replace hS := hS.add' #[.string e1n, .string e1d] 27
              obtain ⟨W1, hW1, hS, hz1⟩ := hS
              rw [hz0] at hS
              obtain ⟨W, hW⟩ : ∃ W, W = ((w11.alloc (.cells #[.string c1n, .string c1d] 27)).alloc (.cells #[.string e1n, .string e1d] 27)) := ⟨_, rfl⟩
              replace hS : BL w [(w11.heap.size + 1, #[.string e1n, .string e1d], 27), (w11.heap.size, #[.string c1n, .string c1d], 27), (w9.heap.size + 1, #[.string ⟨#[]⟩, .string ⟨#[]⟩], 27), (w9.heap.size, #[.string ⟨#[]⟩, .string ⟨#[]⟩], 27), (g, #[.int .i64 da.t, .int .i64 da.lo, .int .i64 da.hi, .int .i64 db.t, .int .i64 db.lo, .int .i64 db.hi, .int .i64 dc.t, .int .i64 dc.lo, .int .i64 dc.hi], 59), (w7.heap.size + 1, #[.string ⟨#[]⟩, .string ⟨#[]⟩], 27), (w7.heap.size, #[.string ⟨#[]⟩, .string ⟨#[]⟩], 27), (w4.heap.size + 1, #[.string bn, .string bd], 27), (w4.heap.size, #[.string an, .string ad], 27), (w.heap.size + 1, #[.int .i64 p0, .int .i64 p1, .int .i64 p2, .int .i64 p3], 56), (w.heap.size, #[.int .i64 xf, .int .i64 xs, .slice ag xl cap, .int .i64 xm], 24)] W := by rw [hW, ← hW0, ← hW1]; exact hS
              replace hM : SlD W u20 [db, dc] := by rw [hW]; exact (hM.new _).new _
              clear hz0 hz1 hW1 hW0
              go_upto_region 26 with fail
              rw [← hW]
              clear hW
              obtain ⟨c_lc_0, c_lc_1⟩ := hS.c2 (w11.heap.size) _ _ _ (.tail _ (.head _))
              obtain ⟨c_le_0, c_le_1⟩ := hS.c2 (w11.heap.size + 1) _ _ _ (.head _)
              go_wp2_with fail
              refine Calls.mono (F1.out _ _ (hS.env hE) hM) ?_
              rintro e w12 ⟨rfl, hb⟩
              clear c_lc_0 c_lc_1 c_le_0 c_le_1
              replace hS := hS.call hb
              replace hM := hM.below hb
              clear hb
              go_wp2_with fail
              go_roundw
              case rel => exact ⟨1, by go_num, by omega, hS.drop (fun p hp => .tail _ (.tail _ hp))⟩
              case measure => simp [intOf]
          · rw [show ((1 : Nat) : Int) = 1 from rfl]
            have wq : IntKind.i64.wrap 2 = 2 := IntWalk.i64_in _ (by omega)
            have wq' : wrap64 2 = 2 := IntWalk.wrap64_in _ (by omega)
            go_upto_region 24 with fail
            have hC0 : ∀ W', BL w [(w9.heap.size + 1, #[.string ⟨#[]⟩, .string ⟨#[]⟩], 27), (w9.heap.size, #[.string ⟨#[]⟩, .string ⟨#[]⟩], 27), (g, #[.int .i64 da.t, .int .i64 da.lo, .int .i64 da.hi, .int .i64 db.t, .int .i64 db.lo, .int .i64 db.hi, .int .i64 dc.t, .int .i64 dc.lo, .int .i64 dc.hi], 59), (w7.heap.size + 1, #[.string ⟨#[]⟩, .string ⟨#[]⟩], 27), (w7.heap.size, #[.string ⟨#[]⟩, .string ⟨#[]⟩], 27), (w4.heap.size + 1, #[.string bn, .string bd], 27), (w4.heap.size, #[.string an, .string ad], 27), (w.heap.size + 1, #[.int .i64 p0, .int .i64 p1, .int .i64 p2, .int .i64 p3], 56), (w.heap.size, #[.int .i64 xf, .int .i64 xs, .slice ag xl cap, .int .i64 xm], 24)] W' → DCell W' g 0 da ∧ DCell W' g 3 db ∧ DCell W' g 6 dc := fun W' h => dcell_of (h.blks _ (.tail _ (.tail _ (.head _))))
            have hC := Lib.hid hC0
            clear hC0
            go_cut [20] (fun s wx => SlD wx s [da, dc] ∧ BL w [(w9.heap.size + 1, #[.string ⟨#[]⟩, .string ⟨#[]⟩], 27), (w9.heap.size, #[.string ⟨#[]⟩, .string ⟨#[]⟩], 27), (g, #[.int .i64 da.t, .int .i64 da.lo, .int .i64 da.hi, .int .i64 db.t, .int .i64 db.lo, .int .i64 db.hi, .int .i64 dc.t, .int .i64 dc.lo, .int .i64 dc.hi], 59), (w7.heap.size + 1, #[.string ⟨#[]⟩, .string ⟨#[]⟩], 27), (w7.heap.size, #[.string ⟨#[]⟩, .string ⟨#[]⟩], 27), (w4.heap.size + 1, #[.string bn, .string bd], 27), (w4.heap.size, #[.string an, .string ad], 27), (w.heap.size + 1, #[.int .i64 p0, .int .i64 p1, .int .i64 p2, .int .i64 p3], 56), (w.heap.size, #[.int .i64 xf, .int .i64 xs, .slice ag xl cap, .int .i64 xm], 24)] wx)
            case first =>
              have hA0 : ∀ o, Below wr.heap.size wr (wr.drew.alloc o) := fun o => (below_drewN wr 1).alloc (Nat.le_refl _) o
              have hA := Lib.hid hA0
              clear hA0
              have hD0 : ∀ W', BL w [(w9.heap.size + 1, #[.string ⟨#[]⟩, .string ⟨#[]⟩], 27), (w9.heap.size, #[.string ⟨#[]⟩, .string ⟨#[]⟩], 27), (g, #[.int .i64 da.t, .int .i64 da.lo, .int .i64 da.hi, .int .i64 db.t, .int .i64 db.lo, .int .i64 db.hi, .int .i64 dc.t, .int .i64 dc.lo, .int .i64 dc.hi], 59), (w7.heap.size + 1, #[.string ⟨#[]⟩, .string ⟨#[]⟩], 27), (w7.heap.size, #[.string ⟨#[]⟩, .string ⟨#[]⟩], 27), (w4.heap.size + 1, #[.string bn, .string bd], 27), (w4.heap.size, #[.string an, .string ad], 27), (w.heap.size + 1, #[.int .i64 p0, .int .i64 p1, .int .i64 p2, .int .i64 p3], 56), (w.heap.size, #[.int .i64 xf, .int .i64 xs, .slice ag xl cap, .int .i64 xm], 24)] W' → (W'.cell? ⟨g, 0, none⟩ = some (.int .i64 da.t) ∧ W'.cell? ⟨g, 1, none⟩ = some (.int .i64 da.lo) ∧ W'.cell? ⟨g, 2, none⟩ = some (.int .i64 da.hi) ∧ W'.cell? ⟨g, 3, none⟩ = some (.int .i64 db.t) ∧ W'.cell? ⟨g, 4, none⟩ = some (.int .i64 db.lo) ∧ W'.cell? ⟨g, 5, none⟩ = some (.int .i64 db.hi) ∧ W'.cell? ⟨g, 6, none⟩ = some (.int .i64 dc.t) ∧ W'.cell? ⟨g, 7, none⟩ = some (.int .i64 dc.lo) ∧ W'.cell? ⟨g, 8, none⟩ = some (.int .i64 dc.hi)) := fun W' h => ⟨(h.cell (g) _ _ (.tail _ (.tail _ (.head _))) 0), (h.cell (g) _ _ (.tail _ (.tail _ (.head _))) 1), (h.cell (g) _ _ (.tail _ (.tail _ (.head _))) 2), (h.cell (g) _ _ (.tail _ (.tail _ (.head _))) 3), (h.cell (g) _ _ (.tail _ (.tail _ (.head _))) 4), (h.cell (g) _ _ (.tail _ (.tail _ (.head _))) 5), (h.cell (g) _ _ (.tail _ (.tail _ (.head _))) 6), (h.cell (g) _ _ (.tail _ (.tail _ (.head _))) 7), (h.cell (g) _ _ (.tail _ (.tail _ (.head _))) 8)⟩
              have hD := Lib.hid hD0
              clear hD0
              obtain ⟨y0', y1', y2', y3', y4', y5', y6', y7', y8'⟩ := hD.out _ hS
              have h0 := hS
              replace hS := hS.drew
              go_region_held3 (fun w' => w'.cell? ⟨g, 0, none⟩ = some (.int .i64 da.t) ∧ w'.cell? ⟨g, 1, none⟩ = some (.int .i64 da.lo) ∧ w'.cell? ⟨g, 2, none⟩ = some (.int .i64 da.hi) ∧ w'.cell? ⟨g, 3, none⟩ = some (.int .i64 db.t) ∧ w'.cell? ⟨g, 4, none⟩ = some (.int .i64 db.lo) ∧ w'.cell? ⟨g, 5, none⟩ = some (.int .i64 db.hi) ∧ w'.cell? ⟨g, 6, none⟩ = some (.int .i64 dc.t) ∧ w'.cell? ⟨g, 7, none⟩ = some (.int .i64 dc.lo) ∧ w'.cell? ⟨g, 8, none⟩ = some (.int .i64 dc.hi))
                (first | with_reducible exact hD.out _ hS | with_reducible exact hD.out _ (h0.call (hA.out _)) | with_reducible exact hD.out _ (h0.call hF1) | with_reducible exact hD.out _ (h0.call hF2) | go_keep)
                (first | (have HB := h0.call (hA.out (.cells #[] 59)); refine oper_app_dts [da] 25 Tryz.underlying25 _ _ rfl rfl g 0 3 rfl (dc_one (hC.out _ HB).1) (own_empty _ wr.heap.size (Nat.le_refl _)) (by simp) (by simp) ?_; intro v1 w1 hown1 hb1; have hF1 := (hA.out (.cells #[] 59)).trans hb1) | (have HB := h0.call hF1; refine oper_app_dts [dc] 25 Tryz.underlying25 _ _ rfl rfl g 6 _ rfl (dc_one (hC.out _ HB).2.2) hown1 (by simp) hF1.size ?_; intro v2 w2 hown2 hb2; have hF2 := hF1.trans hb2))
              all_goals (go_wp2_with fail; go_meet; exact ⟨SlD.of_own hown2, h0.call hF2⟩)
            case rest =>
              clear hC hS
              obtain ⟨hM, hS⟩ := hcut
              go_wp2_with fail
              refine Calls.mono (DY.out _) ?_
              rintro e w10 ⟨rfl, hb⟩
              replace hS := hS.call hb
              replace hM := hM.below hb
              clear hb
              go_wp2_with fail
              refine Calls.mono (L2.out _ _ (hS.env hE) hM) ?_
              rintro e w11 ⟨rfl, hb⟩
              replace hS := hS.call hb
              replace hM := hM.below hb
              clear hb
              replace hS := hS.add' #[.string c2n, .string c2d] 27
              obtain ⟨W0, hW0, hS, hz0⟩ := hS
              replace hS := hS.add' #[.string e2n, .string e2d] 27
              obtain ⟨W1, hW1, hS, hz1⟩ := hS
              rw [hz0] at hS
              obtain ⟨W, hW⟩ : ∃ W, W = ((w11.alloc (.cells #[.string c2n, .string c2d] 27)).alloc (.cells #[.string e2n, .string e2d] 27)) := ⟨_, rfl⟩
              replace hS : BL w [(w11.heap.size + 1, #[.string e2n, .string e2d], 27), (w11.heap.size, #[.string c2n, .string c2d], 27), (w9.heap.size + 1, #[.string ⟨#[]⟩, .string ⟨#[]⟩], 27), (w9.heap.size, #[.string ⟨#[]⟩, .string ⟨#[]⟩], 27), (g, #[.int .i64 da.t, .int .i64 da.lo, .int .i64 da.hi, .int .i64 db.t, .int .i64 db.lo, .int .i64 db.hi, .int .i64 dc.t, .int .i64 dc.lo, .int .i64 dc.hi], 59), (w7.heap.size + 1, #[.string ⟨#[]⟩, .string ⟨#[]⟩], 27), (w7.heap.size, #[.string ⟨#[]⟩, .string ⟨#[]⟩], 27), (w4.heap.size + 1, #[.string bn, .string bd], 27), (w4.heap.size, #[.string an, .string ad], 27), (w.heap.size + 1, #[.int .i64 p0, .int .i64 p1, .int .i64 p2, .int .i64 p3], 56), (w.heap.size, #[.int .i64 xf, .int .i64 xs, .slice ag xl cap, .int .i64 xm], 24)] W := by rw [hW, ← hW0, ← hW1]; exact hS
              replace hM : SlD W u20 [da, dc] := by rw [hW]; exact (hM.new _).new _
              clear hz0 hz1 hW1 hW0
              go_upto_region 26 with fail
              rw [← hW]
              clear hW
              obtain ⟨c_lc_0, c_lc_1⟩ := hS.c2 (w11.heap.size) _ _ _ (.tail _ (.head _))
              obtain ⟨c_le_0, c_le_1⟩ := hS.c2 (w11.heap.size + 1) _ _ _ (.head _)
              go_wp2_with fail
              refine Calls.mono (F2.out _ _ (hS.env hE) hM) ?_
              rintro e w12 ⟨rfl, hb⟩
              clear c_lc_0 c_lc_1 c_le_0 c_le_1
              replace hS := hS.call hb
              replace hM := hM.below hb
              clear hb
              go_wp2_with fail
              go_roundw
              case rel => exact ⟨2, by go_num, by omega, hS.drop (fun p hp => .tail _ (.tail _ hp))⟩
              case measure => simp [intOf]
          · rw [show ((2 : Nat) : Int) = 2 from rfl]
            have wq : IntKind.i64.wrap 3 = 3 := IntWalk.i64_in _ (by omega)
            have wq' : wrap64 3 = 3 := IntWalk.wrap64_in _ (by omega)
            go_upto_region 24 with fail
            have hC0 : ∀ W', BL w [(w9.heap.size + 1, #[.string ⟨#[]⟩, .string ⟨#[]⟩], 27), (w9.heap.size, #[.string ⟨#[]⟩, .string ⟨#[]⟩], 27), (g, #[.int .i64 da.t, .int .i64 da.lo, .int .i64 da.hi, .int .i64 db.t, .int .i64 db.lo, .int .i64 db.hi, .int .i64 dc.t, .int .i64 dc.lo, .int .i64 dc.hi], 59), (w7.heap.size + 1, #[.string ⟨#[]⟩, .string ⟨#[]⟩], 27), (w7.heap.size, #[.string ⟨#[]⟩, .string ⟨#[]⟩], 27), (w4.heap.size + 1, #[.string bn, .string bd], 27), (w4.heap.size, #[.string an, .string ad], 27), (w.heap.size + 1, #[.int .i64 p0, .int .i64 p1, .int .i64 p2, .int .i64 p3], 56), (w.heap.size, #[.int .i64 xf, .int .i64 xs, .slice ag xl cap, .int .i64 xm], 24)] W' → DCell W' g 0 da ∧ DCell W' g 3 db ∧ DCell W' g 6 dc := fun W' h => dcell_of (h.blks _ (.tail _ (.tail _ (.head _))))
            have hC := Lib.hid hC0
            clear hC0
            go_cut [20] (fun s wx => SlD wx s [da, db] ∧ BL w [(w9.heap.size + 1, #[.string ⟨#[]⟩, .string ⟨#[]⟩], 27), (w9.heap.size, #[.string ⟨#[]⟩, .string ⟨#[]⟩], 27), (g, #[.int .i64 da.t, .int .i64 da.lo, .int .i64 da.hi, .int .i64 db.t, .int .i64 db.lo, .int .i64 db.hi, .int .i64 dc.t, .int .i64 dc.lo, .int .i64 dc.hi], 59), (w7.heap.size + 1, #[.string ⟨#[]⟩, .string ⟨#[]⟩], 27), (w7.heap.size, #[.string ⟨#[]⟩, .string ⟨#[]⟩], 27), (w4.heap.size + 1, #[.string bn, .string bd], 27), (w4.heap.size, #[.string an, .string ad], 27), (w.heap.size + 1, #[.int .i64 p0, .int .i64 p1, .int .i64 p2, .int .i64 p3], 56), (w.heap.size, #[.int .i64 xf, .int .i64 xs, .slice ag xl cap, .int .i64 xm], 24)] wx)
            case first =>
              have hA0 : ∀ o, Below wr.heap.size wr (wr.drew.alloc o) := fun o => (below_drewN wr 1).alloc (Nat.le_refl _) o
              have hA := Lib.hid hA0
              clear hA0
              have hD0 : ∀ W', BL w [(w9.heap.size + 1, #[.string ⟨#[]⟩, .string ⟨#[]⟩], 27), (w9.heap.size, #[.string ⟨#[]⟩, .string ⟨#[]⟩], 27), (g, #[.int .i64 da.t, .int .i64 da.lo, .int .i64 da.hi, .int .i64 db.t, .int .i64 db.lo, .int .i64 db.hi, .int .i64 dc.t, .int .i64 dc.lo, .int .i64 dc.hi], 59), (w7.heap.size + 1, #[.string ⟨#[]⟩, .string ⟨#[]⟩], 27), (w7.heap.size, #[.string ⟨#[]⟩, .string ⟨#[]⟩], 27), (w4.heap.size + 1, #[.string bn, .string bd], 27), (w4.heap.size, #[.string an, .string ad], 27), (w.heap.size + 1, #[.int .i64 p0, .int .i64 p1, .int .i64 p2, .int .i64 p3], 56), (w.heap.size, #[.int .i64 xf, .int .i64 xs, .slice ag xl cap, .int .i64 xm], 24)] W' → (W'.cell? ⟨g, 0, none⟩ = some (.int .i64 da.t) ∧ W'.cell? ⟨g, 1, none⟩ = some (.int .i64 da.lo) ∧ W'.cell? ⟨g, 2, none⟩ = some (.int .i64 da.hi) ∧ W'.cell? ⟨g, 3, none⟩ = some (.int .i64 db.t) ∧ W'.cell? ⟨g, 4, none⟩ = some (.int .i64 db.lo) ∧ W'.cell? ⟨g, 5, none⟩ = some (.int .i64 db.hi) ∧ W'.cell? ⟨g, 6, none⟩ = some (.int .i64 dc.t) ∧ W'.cell? ⟨g, 7, none⟩ = some (.int .i64 dc.lo) ∧ W'.cell? ⟨g, 8, none⟩ = some (.int .i64 dc.hi)) := fun W' h => ⟨(h.cell (g) _ _ (.tail _ (.tail _ (.head _))) 0), (h.cell (g) _ _ (.tail _ (.tail _ (.head _))) 1), (h.cell (g) _ _ (.tail _ (.tail _ (.head _))) 2), (h.cell (g) _ _ (.tail _ (.tail _ (.head _))) 3), (h.cell (g) _ _ (.tail _ (.tail _ (.head _))) 4), (h.cell (g) _ _ (.tail _ (.tail _ (.head _))) 5), (h.cell (g) _ _ (.tail _ (.tail _ (.head _))) 6), (h.cell (g) _ _ (.tail _ (.tail _ (.head _))) 7), (h.cell (g) _ _ (.tail _ (.tail _ (.head _))) 8)⟩
              have hD := Lib.hid hD0
              clear hD0
              obtain ⟨y0', y1', y2', y3', y4', y5', y6', y7', y8'⟩ := hD.out _ hS
              have h0 := hS
              replace hS := hS.drew
              go_region_held3 (fun w' => w'.cell? ⟨g, 0, none⟩ = some (.int .i64 da.t) ∧ w'.cell? ⟨g, 1, none⟩ = some (.int .i64 da.lo) ∧ w'.cell? ⟨g, 2, none⟩ = some (.int .i64 da.hi) ∧ w'.cell? ⟨g, 3, none⟩ = some (.int .i64 db.t) ∧ w'.cell? ⟨g, 4, none⟩ = some (.int .i64 db.lo) ∧ w'.cell? ⟨g, 5, none⟩ = some (.int .i64 db.hi) ∧ w'.cell? ⟨g, 6, none⟩ = some (.int .i64 dc.t) ∧ w'.cell? ⟨g, 7, none⟩ = some (.int .i64 dc.lo) ∧ w'.cell? ⟨g, 8, none⟩ = some (.int .i64 dc.hi))
                (first | with_reducible exact hD.out _ hS | with_reducible exact hD.out _ (h0.call (hA.out _)) | with_reducible exact hD.out _ (h0.call hF1) | with_reducible exact hD.out _ (h0.call hF2) | go_keep)
                (first | (have HB := h0.call (hA.out (.cells #[] 59)); refine oper_app_dts [da, db] 25 Tryz.underlying25 _ _ rfl rfl g 0 3 rfl (dc_two (hC.out _ HB).1 (hC.out _ HB).2.1) (own_empty _ wr.heap.size (Nat.le_refl _)) (by simp) (by simp) ?_; intro v1 w1 hown1 hb1; have hF1 := (hA.out (.cells #[] 59)).trans hb1) | (have HB := h0.call hF1; refine oper_app_dts [] 25 Tryz.underlying25 _ _ rfl rfl g 0 _ rfl dc_nil hown1 (by simp) hF1.size ?_; intro v2 w2 hown2 hb2; have hF2 := hF1.trans hb2))
              all_goals (go_wp2_with fail; go_meet; exact ⟨SlD.of_own hown2, h0.call hF2⟩)
            case rest =>
              clear hC hS
              obtain ⟨hM, hS⟩ := hcut
              go_wp2_with fail
              refine Calls.mono (DY.out _) ?_
              rintro e w10 ⟨rfl, hb⟩
              replace hS := hS.call hb
              replace hM := hM.below hb
              clear hb
              go_wp2_with fail
              refine Calls.mono (L3.out _ _ (hS.env hE) hM) ?_
              rintro e w11 ⟨rfl, hb⟩
              replace hS := hS.call hb
              replace hM := hM.below hb
              clear hb
              replace hS := hS.add' #[.string c3n, .string c3d] 27
              obtain ⟨W0, hW0, hS, hz0⟩ := hS
              replace hS := hS.add' #[.string e3n, .string e3d] 27
              obtain ⟨W1, hW1, hS, hz1⟩ := hS
              rw [hz0] at hS
              obtain ⟨W, hW⟩ : ∃ W, W = ((w11.alloc (.cells #[.string c3n, .string c3d] 27)).alloc (.cells #[.string e3n, .string e3d] 27)) := ⟨_, rfl⟩
              replace hS : BL w [(w11.heap.size + 1, #[.string e3n, .string e3d], 27), (w11.heap.size, #[.string c3n, .string c3d], 27), (w9.heap.size + 1, #[.string ⟨#[]⟩, .string ⟨#[]⟩], 27), (w9.heap.size, #[.string ⟨#[]⟩, .string ⟨#[]⟩], 27), (g, #[.int .i64 da.t, .int .i64 da.lo, .int .i64 da.hi, .int .i64 db.t, .int .i64 db.lo, .int .i64 db.hi, .int .i64 dc.t, .int .i64 dc.lo, .int .i64 dc.hi], 59), (w7.heap.size + 1, #[.string ⟨#[]⟩, .string ⟨#[]⟩], 27), (w7.heap.size, #[.string ⟨#[]⟩, .string ⟨#[]⟩], 27), (w4.heap.size + 1, #[.string bn, .string bd], 27), (w4.heap.size, #[.string an, .string ad], 27), (w.heap.size + 1, #[.int .i64 p0, .int .i64 p1, .int .i64 p2, .int .i64 p3], 56), (w.heap.size, #[.int .i64 xf, .int .i64 xs, .slice ag xl cap, .int .i64 xm], 24)] W := by rw [hW, ← hW0, ← hW1]; exact hS
              replace hM : SlD W u20 [da, db] := by rw [hW]; exact (hM.new _).new _
              clear hz0 hz1 hW1 hW0
              go_upto_region 26 with fail
              rw [← hW]
              clear hW
              obtain ⟨c_lc_0, c_lc_1⟩ := hS.c2 (w11.heap.size) _ _ _ (.tail _ (.head _))
              obtain ⟨c_le_0, c_le_1⟩ := hS.c2 (w11.heap.size + 1) _ _ _ (.head _)
              go_wp2_with fail
              refine Calls.mono (F3.out _ _ (hS.env hE) hM) ?_
              rintro e w12 ⟨rfl, hb⟩
              clear c_lc_0 c_lc_1 c_le_0 c_le_1
              replace hS := hS.call hb
              replace hM := hM.below hb
              clear hb
              go_wp2_with fail
              go_roundw
              case rel => exact ⟨3, by go_num, by omega, hS.drop (fun p hp => .tail _ (.tail _ hp))⟩
              case measure => simp [intOf]
          · go_wp2
            go_ret
            exact ⟨rfl, hS.below⟩

set_option maxRecDepth 100000 in
set_option maxHeartbeats 16000000 in
theorem helly_row (x : Nm) (t : Int) (p0 p1 p2 p3 : Int) (w : World) (h : NmOk w x) (ht : Fits t) (f0 : Fits p0) (f1 : Fits p1) (f2 : Fits p2) (f3 : Fits p3) (hEQ : EnvQ w) :
    Calls Tryz.prog 4 #[.agg #[.int .i64 x.f, .int .i64 x.s, x.v, .int .i64 x.m], .int .i64 t, .agg #[.int .i64 p0, .int .i64 p1, .int .i64 p2, .int .i64 p3]] w (Rets w (.bool true)) := by
  have hd : inDay (pkv t 5001) = true := DecM.inDay_iff.2 (by
    have hd0 := pkv_nonneg (c := t) (m := 5001) (by decide)
    have hd1 := pkv_lt (c := t) (m := 5001) (by decide)
    omega)
  rcases helly_law x.made_ok hd with H | H
  · exact helly_none x t p0 p1 p2 p3 w h ht hEQ H
  · exact helly_some x t p0 p1 p2 p3 w h ht f0 f1 f2 f3 hEQ H

end Go.Proofs.YtonbmhdbcbbagaaGreatDoor
