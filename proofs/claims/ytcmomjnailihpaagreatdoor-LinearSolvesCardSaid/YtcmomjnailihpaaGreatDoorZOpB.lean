/- OpB, OpC -/
import Derived.Test.YtcmomjnailihpaaGreatDoorZLwT
import Derived.Test.YtcmomjnailihpaaGreatDoorZLwU
import Derived.Deep.DeepCutAuto
namespace Go.Proofs.YtcmomjnailihpaaGreatDoor
open Go.RowKit
open LnM (wd upd sm)
attribute [local go_sem] Oper.semAt_some
theorem own_only {W W' : World} {base : Nat} {e : TypeId} {v : Value} {n : Nat} {xs : List Value} {S : List Nat} (h : W.ownsRow base e 1 v n xs) (ho : Only S W W') (hS : ∀ b, v.ownBlock = some b → b ∉ S) : W'.ownsRow base e 1 v n xs := by
  refine ⟨h.1, ?_⟩
  rcases h.2 with h0 | ⟨g, cap, cur, rfl, hb, hg, r⟩
  · exact .inl h0
  · exact .inr ⟨g, cap, cur, rfl, hb, (ho.block g (Array.getElem?_eq_some_iff.1 hg).1 (hS g rfl)).trans hg, r⟩
def rowsL (R : Nat → Nat) (n i : Nat) : List Value := (List.range i).map fun j => .slice (some ⟨R j, 0, none⟩) n n
def basL (cols i : Nat) : List Value := (List.range i).map fun j => .int .i64 ((cols + j : Nat) : Int)
def sgL (rows : List (List Int × Int)) (i : Nat) : List Value := (List.range i).map fun j => .int .i64 (sgnOf rows j)
theorem rowsL_succ (R : Nat → Nat) (n i rb : Nat) (h : R i = rb) : rowsL R n i ++ [.slice (some ⟨rb, 0, none⟩) n n] = rowsL R n (i + 1) := by unfold rowsL; rw [List.range_succ, List.map_append, ← h]; rfl
theorem rowsL_congr {R R' : Nat → Nat} {n i : Nat} (h : ∀ j, j < i → R j = R' j) : rowsL R n i = rowsL R' n i := List.map_congr_left fun j hj => by rw [h j (List.mem_range.1 hj)]
theorem basL_succ (cols i : Nat) : basL cols i ++ [.int .i64 ((cols + i : Nat) : Int)] = basL cols (i + 1) := by unfold basL; rw [List.range_succ, List.map_append]; rfl
theorem sgL_succ (rows : List (List Int × Int)) (i : Nat) : sgL rows i ++ [.int .i64 (sgnOf rows i)] = sgL rows (i + 1) := by unfold sgL; rw [List.range_succ, List.map_append]; rfl
structure OpS (w W : World) (s : LnM.Sys) (rows : List (List Int × Int)) (xB tb cb n cols base i : Nat) (v : Value) (R : Nat → Nat) (rv bv sv : Value) : Prop where
  below : Below w.heap.size w W
  xl : xB < W.heap.size
  x0 : W.cell? ⟨xB, 0, none⟩ = some (.int .i64 cols)
  x1 : W.cell? ⟨xB, 1, none⟩ = some v
  tbl : Blk W tb (tbc rv cb n bv sv 1 cols) 75
  cost : RowT W cb n (costF s i)
  grid : ∀ j, j < i → RowT W (R j) n (s.S j)
  own : Own3 W W base rv bv sv rv i (rowsL R n i) bv i (basL cols i) sv i (sgL rows i)
  ge : ∀ j, j < i → base ≤ R j
  inj : ∀ j k, j < i → k < i → R j = R k → j = k
  rc : ∀ j, j < i → R j ≠ cb
  rt : ∀ j, j < i → R j ≠ tb
  nl : i = 0 → rv = .slice none 0 0 ∧ bv = .slice none 0 0 ∧ sv = .slice none 0 0
theorem Own3.re {w0 W : World} {base : Nat} {rv bv sv cr cb cs : Value} {nr nb ns : Nat} {xr xb xs : List Value} (h : Own3 w0 W base rv bv sv cr nr xr cb nb xb cs ns xs) : Own3 W W base cr cb cs cr nr xr cb nb xb cs ns xs :=
  ⟨h.r, h.b, h.s, Nat.le_refl _, fun _ e => .inl e, fun _ e => .inl e, fun _ e => .inl e, h.bs⟩
theorem Own3.only {w0 W W' : World} {base : Nat} {rv bv sv cr cb cs : Value} {nr nb ns : Nat} {xr xb xs : List Value} (h : Own3 w0 W base rv bv sv cr nr xr cb nb xb cs ns xs) {S : List Nat} (ho : Only S W W')
    (hS : ∀ b ∈ S, cr.ownBlock ≠ some b ∧ cb.ownBlock ≠ some b ∧ cs.ownBlock ≠ some b) : Own3 w0 W' base rv bv sv cr nr xr cb nb xb cs ns xs :=
  ⟨own_only h.r ho fun b e hb => (hS b hb).1 e, own_only h.b ho fun b e hb => (hS b hb).2.1 e, own_only h.s ho fun b e hb => (hS b hb).2.2 e, Nat.le_trans h.le ho.size, h.fr, h.fb, h.fs, h.bs⟩
theorem OpS.later {w W W' : World} {s : LnM.Sys} {rows : List (List Int × Int)} {xB tb cb n cols base i : Nat} {v : Value} {R : Nat → Nat} {rv bv sv : Value} (h : OpS w W s rows xB tb cb n cols base i v R rv bv sv) (hb : Below W.heap.size W W') : OpS w W' s rows xB tb cb n cols base i v R rv bv sv :=
  ⟨kb_call hb h.below (Nat.le_refl _), Nat.lt_of_lt_of_le h.xl hb.size, (hb.cell (p := ⟨_, _, none⟩) h.xl).trans h.x0, (hb.cell (p := ⟨_, _, none⟩) h.xl).trans h.x1, h.tbl.below hb, h.cost.below hb, fun j hj => (h.grid j hj).below hb, (h.own.below hb).re, h.ge, h.inj, h.rc, h.rt, h.nl⟩
theorem OpS.round {w W W1 W2 W3 : World} {s : LnM.Sys} {rows : List (List Int × Int)} {xB tb cb n cols base i rb : Nat} {v : Value} {R : Nat → Nat} {rv bv sv rv' bv' sv' : Value} (h : OpS w W s rows xB tb cb n cols base i v R rv bv sv)
    (ok : s.Ok) (hsn : s.n = cols) (hn : n = s.n + s.m + 1) (him : i < s.m) (hbase : w.heap.size ≤ xB ∧ xB < base) (htb : base ≤ tb) (hcb : base ≤ cb) (htc : tb ≠ cb) (hrbt : rb ≠ tb) (hrbc : rb ≠ cb) (hrbR : ∀ j, j < i → R j ≠ rb) (hrbo : rv.ownBlock ≠ some rb ∧ bv.ownBlock ≠ some rb ∧ sv.ownBlock ≠ some rb) (hrb : base ≤ rb)
    (o1 : Only [rb, cb] W W1) (r1 : RowT W1 rb n (rowF s i (cols + 1))) (c1 : RowT W1 cb n (fun j => costF s i j - rowF s i (cols + 1) j)) (o2 : Only [rb] W1 W2) (r2 : RowT W2 rb n (upd (rowF s i (cols + 1)) (cols + i) 1))
    (o3 : Only (hotS tb rv bv sv) W2 W3) (t3 : Blk W3 tb (tbc rv' cb n bv' sv' 1 cols) 75)
    (w3 : Own3 W2 W3 base rv bv sv rv' (i + 1) (rowsL R n i ++ [.slice (some ⟨rb, 0, none⟩) n n]) bv' (i + 1) (basL cols i ++ [.int .i64 ((cols + i : Nat) : Int)]) sv' (i + 1) (sgL rows i ++ [.int .i64 (sgnOf rows i)])) :
    OpS w W3 s rows xB tb cb n cols base (i + 1) v (upd R i rb) rv' bv' sv' := by
  have nr := fun {f : Nat → Int} {b : Nat} {W' : World} (hr : RowT W' b n f) (ho : Own3 W' W' base rv bv sv rv i (rowsL R n i) bv i (basL cols i) sv i (sgL rows i)) (hne : b ≠ tb) => (show b ∉ hotS tb rv bv sv from by
    unfold hotS
    simp only [List.mem_cons, List.mem_append, Option.mem_toList, not_or]
    exact ⟨hne, fun e => hr.not_own ho.r (by decide) e, fun e => hr.not_own ho.b (by decide) e, fun e => hr.not_own ho.s (by decide) e⟩)
  have cown := fun {W' : World} (hr : RowT W' cb n (fun j => costF s i j - rowF s i (cols + 1) j)) (ho : Own3 W' W' base rv bv sv rv i (rowsL R n i) bv i (basL cols i) sv i (sgL rows i)) => (⟨hr.not_own ho.r (by decide), hr.not_own ho.b (by decide), hr.not_own ho.s (by decide)⟩ : rv.ownBlock ≠ some cb ∧ bv.ownBlock ≠ some cb ∧ sv.ownBlock ≠ some cb)
  have co0 : rv.ownBlock ≠ some cb ∧ bv.ownBlock ≠ some cb ∧ sv.ownBlock ≠ some cb := ⟨h.cost.not_own h.own.r (by decide), h.cost.not_own h.own.b (by decide), h.cost.not_own h.own.s (by decide)⟩
  have ow1 := (h.own.only o1 (fun b hb => by
    simp only [List.mem_cons, List.not_mem_nil, or_false] at hb
    rcases hb with rfl | rfl
    · exact hrbo
    · exact co0)).re
  have ow2 := (ow1.only o2 (fun b hb => by
    simp only [List.mem_cons, List.not_mem_nil, or_false] at hb
    subst hb
    exact hrbo)).re
  have g1 : ∀ j, j < i → RowT W1 (R j) n (s.S j) := fun j hj => (h.grid j hj).only o1 (by simp only [List.mem_cons, List.not_mem_nil, or_false, not_or]; exact ⟨hrbR j hj, h.rc j hj⟩)
  have g2 : ∀ j, j < i → RowT W2 (R j) n (s.S j) := fun j hj => (g1 j hj).only o2 (by simpa using hrbR j hj)
  have g3 : ∀ j, j < i → RowT W3 (R j) n (s.S j) := fun j hj => (g2 j hj).only o3 (nr (g2 j hj) ow2 (h.rt j hj))
  have c2 := c1.only o2 (by simpa using hrbc.symm)
  have c3 := c2.only o3 (nr c2 ow2 htc.symm)
  have r3 := r2.only o3 (nr r2 ow2 hrbt)
  have xne : xB ≠ rb ∧ xB ≠ cb ∧ xB ≠ tb := ⟨by omega, by omega, by omega⟩
  have xn3 : xB ∉ hotS tb rv bv sv := by
    unfold hotS
    simp only [List.mem_cons, List.mem_append, Option.mem_toList, not_or]
    refine ⟨xne.2.2, fun e => ?_, fun e => ?_, fun e => ?_⟩
    · have := (ow2.r.lt xB e).1; omega
    · have := (ow2.b.lt xB e).1; omega
    · have := (ow2.s.lt xB e).1; omega
  have xl1 := Nat.lt_of_lt_of_le h.xl o1.size
  have xl2 := Nat.lt_of_lt_of_le xl1 o2.size
  have xc := fun (k : Nat) => ((o3.cell (p := ⟨xB, k, none⟩) xl2 xn3).trans (o2.cell (p := ⟨xB, k, none⟩) xl1 (by simpa using xne.1))).trans (o1.cell (p := ⟨xB, k, none⟩) h.xl (by simp only [List.mem_cons, List.not_mem_nil, or_false, not_or]; exact ⟨xne.1, xne.2.1⟩))
  refine ⟨?_, Nat.lt_of_lt_of_le xl2 o3.size, (xc 0).trans h.x0, (xc 1).trans h.x1, t3, c3.congr fun j hj => ?_, fun j hj => ?_, ?_, fun j hj => ?_, fun j k hj hk e => ?_, fun j hj => ?_, fun j hj => ?_, fun e => absurd e (by omega)⟩
  · have hs0 := h.below.size
    refine ((h.below.trans (o1.toBelow hs0 ?_)).trans (o2.toBelow (Nat.le_trans hs0 o1.size) ?_)).trans (o3.toBelow (Nat.le_trans hs0 (Nat.le_trans o1.size o2.size)) ?_)
    · intro b hb
      simp only [List.mem_cons, List.not_mem_nil, or_false] at hb
      omega
    · intro b hb
      simp only [List.mem_cons, List.not_mem_nil, or_false] at hb
      omega
    · intro b hb
      unfold hotS at hb
      simp only [List.mem_cons, List.mem_append, Option.mem_toList] at hb
      rcases hb with rfl | e | e | e
      · omega
      · have := (ow2.r.lt b e).1; omega
      · have := (ow2.b.lt b e).1; omega
      · have := (ow2.s.lt b e).1; omega
  · show costF s i j - rowF s i (cols + 1) j = _
    rw [← hsn]; exact costF_full
  · by_cases e : j = i
    · subst e
      rw [LnM.upd_same]
      exact r3.congr fun k hk => by rw [← hsn]; exact rowF_full ok him (by omega)
    · rw [LnM.upd_ne _ _ e]; exact g3 j (by omega)
  · have hw := w3.re
    rw [rowsL_congr (R' := upd R i rb) (fun j hj => (LnM.upd_ne _ _ (by omega)).symm), rowsL_succ (upd R i rb) n i rb (LnM.upd_same _ _ _), basL_succ, sgL_succ] at hw
    exact hw
  · by_cases e : j = i
    · subst e; rw [LnM.upd_same]; exact hrb
    · rw [LnM.upd_ne _ _ e]; exact h.ge j (by omega)
  · by_cases ej : j = i
    · by_cases ek : k = i
      · omega
      · rw [ej, LnM.upd_same, LnM.upd_ne _ _ ek] at e
        exact absurd e.symm (hrbR k (by omega))
    · by_cases ek : k = i
      · rw [ek, LnM.upd_same, LnM.upd_ne _ _ ej] at e
        exact absurd e (hrbR j (by omega))
      · rw [LnM.upd_ne _ _ ej, LnM.upd_ne _ _ ek] at e
        exact h.inj j k (by omega) (by omega) e
  · by_cases e : j = i
    · subst e; rw [LnM.upd_same]; exact hrbc
    · rw [LnM.upd_ne _ _ e]; exact h.rc j (by omega)
  · by_cases e : j = i
    · subst e; rw [LnM.upd_same]; exact hrbt
    · rw [LnM.upd_ne _ _ e]; exact h.rt j (by omega)
theorem own_cell {W : World} {base : Nat} {e : TypeId} {v : Value} {n : Nat} {xs : List Value} (h : W.ownsRow base e 1 v n xs) (h0 : 0 < n) : ∃ b c, v = .slice (some ⟨b, 0, none⟩) n c ∧ v.ownBlock = some b ∧ base ≤ b ∧ b < W.heap.size ∧ n ≤ c ∧ ∀ j u, xs[j]? = some u → W.cell? ⟨b, j, none⟩ = some u ∧ W.frozen? ⟨b, j, none⟩ = false := by
  have h' := h
  rcases h.2 with ⟨rfl, rfl⟩ | ⟨g, cap, cur, rfl, hb, hg, hn, _⟩
  · omega
  · refine ⟨g, cap, rfl, rfl, hb, (Array.getElem?_eq_some_iff.1 hg).1, hn, fun j u hj => ⟨?_, by simp [World.frozen?, hg]⟩⟩
    have := h'.cells (g := g) rfl j u hj
    rwa [addr_add, Nat.zero_add] at this
theorem tbc_den {W : World} {tb : Nat} {rv bv sv : Value} {cb n : Nat} {d k : Int} {t : TypeId} (h : Blk W tb (tbc rv cb n bv sv d k) t) : W.rangeAt tb 4 (wl (wd d)) ∧ W.there tb 4 12 := by
  have hc : ∀ j, j < 12 → (tbc rv cb n bv sv d k)[4 + j]? = some (.int .u64 (wd d j)) := fun j hj => by
    match j, hj with
    | 0, _ => rfl
    | 1, _ => rfl
    | 2, _ => rfl
    | 3, _ => rfl
    | 4, _ => rfl
    | 5, _ => rfl
    | 6, _ => rfl
    | 7, _ => rfl
    | 8, _ => rfl
    | 9, _ => rfl
    | 10, _ => rfl
    | 11, _ => rfl
  refine ⟨fun j v hv => ?_, fun j hj => ⟨?_, h.frozen _⟩⟩
  · have hj : j < 12 := by have := (List.getElem?_eq_some_iff.1 hv).1; rwa [wl_len] at this
    rw [h.cell, hc j hj, ← hv]
    have := wc_get (wd d) hj
    rw [← wl_arr, List.getElem?_toArray] at this
    exact this.symm
  · rw [h.cell, hc j hj]; rfl
theorem OpS.table {w W : World} {s : LnM.Sys} {rows : List (List Int × Int)} {xB tb cb n cols base : Nat} {v : Value} {R : Nat → Nat} {rv bv sv : Value} (h : OpS w W s rows xB tb cb n cols base s.m v R rv bv sv) (ok : s.Ok) (hsn : s.n = cols) (hn : n = s.n + s.m + 1)
    (hb : w.heap.size ≤ base) (hbW : base ≤ W.heap.size) (htb : base ≤ tb) (hcb : base ≤ cb) (htc : tb ≠ cb) : ∃ t : Tb, t.tb = tb ∧ t.m = s.m ∧ t.n = n ∧ t.k = cols ∧ t.Dis w.heap.size ∧ Tbl W t (tabF s s.B0) s.B0 (sgnOf rows) 1 := by
  have key : ∃ xb cx bb cB sb cS, rv = sl s.m xb cx ∧ bv = sl s.m bb cB ∧ sv = sl s.m sb cS ∧ base ≤ xb ∧ base ≤ bb ∧ base ≤ sb ∧ (0 < s.m → xb < W.heap.size ∧ bb < W.heap.size ∧ sb < W.heap.size) ∧ s.m ≤ cx ∧ xb ≠ tb ∧ bb ≠ tb ∧ sb ≠ tb ∧ xb ≠ bb ∧ bb ≠ sb ∧
      xb ≠ cb ∧ bb ≠ cb ∧ sb ≠ cb ∧ (∀ j, j < s.m → R j ≠ xb ∧ R j ≠ bb ∧ R j ≠ sb) ∧ (∀ j, j < s.m → W.cell? ⟨xb, j, none⟩ = some (.slice (some ⟨R j, 0, none⟩) n n) ∧ (W.cell? ⟨bb, j, none⟩ = some (.int .i64 ((cols + j : Nat) : Int)) ∧ W.frozen? ⟨bb, j, none⟩ = false) ∧ W.cell? ⟨sb, j, none⟩ = some (.int .i64 (sgnOf rows j))) := by
    have htl := h.tbl.lt
    have hcl := h.cost.row.lt
    by_cases hm : s.m = 0
    · obtain ⟨rfl, rfl, rfl⟩ := h.nl hm
      refine ⟨W.heap.size, 0, W.heap.size + 1, 0, W.heap.size + 2, 0, ?_, ?_, ?_, hbW, by omega, by omega, fun h0 => by omega, by omega, by omega, by omega, by omega, by omega, by omega, by omega, by omega, by omega, fun j hj => by omega, fun j hj => by omega⟩ <;> unfold sl <;> rw [hm] <;> rfl
    · obtain ⟨xb, cx, er, obr, hxb, hxl, hxc, hxx⟩ := own_cell h.own.r (by omega)
      obtain ⟨bb, cB, eb, obb, hbb, hbl, hbc, hbx⟩ := own_cell h.own.b (by omega)
      obtain ⟨sb, cS, es, obs, hsb, hsl, hsc, hsx⟩ := own_cell h.own.s (by omega)
      have tr := fun e => h.tbl.not_row (by decide) h.own.r (e : some tb = rv.ownBlock)
      have tB := fun e => h.tbl.not_row (by decide) h.own.b (e : some tb = bv.ownBlock)
      have tS := fun e => h.tbl.not_row (by decide) h.own.s (e : some tb = sv.ownBlock)
      have cr := h.cost.not_own h.own.r (by decide)
      have cB' := h.cost.not_own h.own.b (by decide)
      have cS' := h.cost.not_own h.own.s (by decide)
      refine ⟨xb, cx, bb, cB, sb, cS, by rw [sl_pos (by omega)]; exact er, by rw [sl_pos (by omega)]; exact eb, by rw [sl_pos (by omega)]; exact es, hxb, hbb, hsb, fun _ => ⟨hxl, hbl, hsl⟩, hxc, ?_, ?_, ?_, ?_, ?_, ?_, ?_, ?_, fun j hj => ⟨?_, ?_, ?_⟩, fun j hj => ⟨(hxx j _ ?_).1, hbx j _ ?_, (hsx j _ ?_).1⟩⟩
      · rintro rfl; exact tr obr.symm
      · rintro rfl; exact tB obb.symm
      · rintro rfl; exact tS obs.symm
      · rintro rfl; exact own_types h.own.r h.own.b types_ne xb obr obb
      · rintro rfl; exact h.own.bs bb obb obs
      · rintro rfl; exact cr obr
      · rintro rfl; exact cB' obb
      · rintro rfl; exact cS' obs
      · rintro e; exact (h.grid j hj).not_own h.own.r (by decide) (by rw [e]; exact obr)
      · rintro e; exact (h.grid j hj).not_own h.own.b (by decide) (by rw [e]; exact obb)
      · rintro e; exact (h.grid j hj).not_own h.own.s (by decide) (by rw [e]; exact obs)
      · unfold rowsL; rw [List.getElem?_map, List.getElem?_range hj]; rfl
      · unfold basL; rw [List.getElem?_map, List.getElem?_range hj]; rfl
      · unfold sgL; rw [List.getElem?_map, List.getElem?_range hj]; rfl
  obtain ⟨xb, cx, bb, cB, sb, cS, rfl, rfl, rfl, k1, k2, k3, k4, k5, k6, k7, k8, k9, k10, k11, k12, k13, k14, k15⟩ := key
  obtain ⟨d1, d2⟩ := tbc_den h.tbl
  have hup : ∀ j, j < s.m → upd R s.m cb j = R j := fun j hj => LnM.upd_ne _ _ (by omega)
  refine ⟨⟨tb, xb, bb, sb, upd R s.m cb, s.m, n, cols, cx, cB, cS⟩, rfl, rfl, rfl, rfl, ?_, ?_⟩
  · have ne := fun (i : Nat) (hi : i < s.m + 1) (x : Nat) (h1 : cb ≠ x) (h2 : ∀ j, j < s.m → R j ≠ x) => (show upd R s.m cb i ≠ x from by
      by_cases e : i = s.m
      · subst e; rw [LnM.upd_same]; exact h1
      · rw [LnM.upd_ne _ _ e]; exact h2 i (by omega))
    refine ⟨fun i j hi hj e => ?_, fun i hi => ne i hi tb (by omega) h.rt, fun i hi => ne i hi xb k11.symm (fun j hj => (k14 j hj).1), fun i hi => ne i hi bb k12.symm (fun j hj => (k14 j hj).2.1), fun i hi => ne i hi sb k13.symm (fun j hj => (k14 j hj).2.2), k6.symm, k7.symm, k8.symm, k9, k10, fun i hi => ?_, by show w.heap.size ≤ tb; omega, by show w.heap.size ≤ xb; omega, by show w.heap.size ≤ bb; omega, by show w.heap.size ≤ sb; omega⟩
    · dsimp only at hi hj e
      by_cases ei : i = s.m
      · by_cases ej : j = s.m
        · omega
        · rw [ei, LnM.upd_same, LnM.upd_ne _ _ ej] at e
          exact absurd e.symm (h.rc j (by omega))
      · by_cases ej : j = s.m
        · rw [ej, LnM.upd_same, LnM.upd_ne _ _ ei] at e
          exact absurd e (h.rc i (by omega))
        · rw [LnM.upd_ne _ _ ei, LnM.upd_ne _ _ ej] at e
          exact h.inj i j (by omega) (by omega) e
    · show w.heap.size ≤ upd R s.m cb i
      by_cases e : i = s.m
      · subst e; rw [LnM.upd_same]; omega
      · rw [LnM.upd_ne _ _ e]; have := h.ge i (by dsimp only at hi; omega); omega
  · refine ⟨h.tbl.lt, fun hm => (k4 hm).1, fun hm => (k4 hm).2.1, fun hm => (k4 hm).2.2, h.tbl.cell 0, ?_, h.tbl.cell 2, h.tbl.cell 3, d1, d2, h.tbl.cell 16, k5, fun i hi => ?_, ⟨fun i hi => ?_⟩, fun i hi => ?_, fun i hi => (k15 i hi).2.2⟩
    · show W.cell? ⟨tb, 1, none⟩ = some (.slice (some ⟨upd R s.m cb s.m, 0, none⟩) n n)
      rw [LnM.upd_same]; exact h.tbl.cell 1
    · show W.cell? ⟨xb, i, none⟩ = some (.slice (some ⟨upd R s.m cb i, 0, none⟩) n n)
      rw [hup i hi]; exact (k15 i hi).1
    · show RowAt W (upd R s.m cb i) n (tabF s s.B0 i)
      by_cases e : i = s.m
      · subst e
        rw [LnM.upd_same]
        exact h.cost.row.congr fun j hj => by unfold tabF; rw [if_neg (by omega)]; exact costF_end ok (by omega)
      · have hi' : i < s.m := by dsimp only at hi; omega
        rw [hup i hi']
        exact (h.grid i hi').row.congr fun j hj => by unfold tabF; rw [if_pos hi', LnM.T_B0 ok hi']
    · have := (k15 i hi).2.1
      rwa [← hsn] at this
theorem open_r9x {Q : Exit → Act → World → Prop} {u0 u1 u2 u3 u4 u6 u7 u8 u9 u10 u11 u12 u13 u14 u15 u16 u17 u18 u19 u20 u21 u22 u23 u24 u25 u26 u27 u28 u29 u30 u31 u32 u33 u34 u35 u36 u37 u38 u39 u40 u41 u42 u43 u44 u45 u46 u47 u48 u49 u50 u51 u52 u53 u54 u55 u56 u57 u58 u59 u60 u61 u62 u63 u64 u65 u66 u67 u68 u69 u70 u71 u72 u73 u74 u75 u76 u77 u78 u79 u80 u81 u82 u83 u84 u85 u86 u87 u88 u89 u90 u91 u92 u93 u94 u95 u96 u97 u98 u99 u100 u101 u102 u103 u104 u105 u106 u107 u108 u109 u110 u111 u112 u113 u114 u115 u116 u117 u118 u119 u120 u121 u122 u123 u124 u125 u126 u127 u128 u129 u130 u131 u132 u133 u134 u135 : Value} {ac : Option Addr} {cols cp xE : Nat} {val : Int} {coef : List Int} {wb w : World} {L : BLs} (hS : BL wb L w) (hcell : Hid (∀ W, BL wb L W → W.cell? ⟨xE, 0, none⟩ = some (.slice ac cols cp) ∧ W.cell? ⟨xE, 1, none⟩ = some (.int .i64 val)))
    (hco : Hid (Sl wb (.slice ac cols cp) coef)) (hlen : Hid (coef.length = cols)) (hc1 : cols ≤ 100000) {ops : Array Oper} (ho : getOps Tryz.f37.body 9 = some ops)
    (hQ : ∀ (v41 v42 v43 v44 v45 v46 v47 v48 v49 v50 v51 v52 : Value) (g cap' : Nat) (W' : World), BL wb L W' → Sl W' (.slice (some ⟨g, 0, none⟩) (cols + 1) cap') (coef ++ [val]) → wb.heap.size ≤ g → Q .normal { tmps := List.toArray (u0::u1::u2::u3::u4::.pointer (some ⟨xE, 0, none⟩)::u6::u7::u8::u9::u10::u11::u12::u13::u14::u15::u16::u17::u18::u19::u20::u21::u22::u23::u24::u25::u26::u27::u28::u29::u30::u31::u32::u33::u34::u35::u36::u37::u38::u39::u40::v41::v42::v43::v44::v45::v46::v47::v48::v49::v50::v51::v52::.slice (some ⟨g, 0, none⟩) (cols + 1) cap'::.int .i64 ((cols + 1 : Nat) : Int)::.int .i64 0::u56::u57::u58::u59::u60::u61::u62::u63::u64::u65::u66::u67::u68::u69::u70::u71::u72::u73::u74::u75::u76::u77::u78::u79::u80::u81::u82::u83::u84::u85::u86::u87::u88::u89::u90::u91::u92::u93::u94::u95::u96::u97::u98::u99::u100::u101::u102::u103::u104::u105::u106::u107::u108::u109::u110::u111::u112::u113::u114::u115::u116::u117::u118::u119::u120::u121::u122::u123::u124::u125::u126::u127::u128::u129::u130::u131::u132::u133::u134::u135::[]), defers := [] } W') :
    (Code.region 9 ops true).wp Tryz.prog Q { tmps := List.toArray (u0::u1::u2::u3::u4::.pointer (some ⟨xE, 0, none⟩)::u6::u7::u8::u9::u10::u11::u12::u13::u14::u15::u16::u17::u18::u19::u20::u21::u22::u23::u24::u25::u26::u27::u28::u29::u30::u31::u32::u33::u34::u35::u36::u37::u38::u39::u40::u41::u42::u43::u44::u45::u46::u47::u48::u49::u50::u51::u52::u53::u54::u55::u56::u57::u58::u59::u60::u61::u62::u63::u64::u65::u66::u67::u68::u69::u70::u71::u72::u73::u74::u75::u76::u77::u78::u79::u80::u81::u82::u83::u84::u85::u86::u87::u88::u89::u90::u91::u92::u93::u94::u95::u96::u97::u98::u99::u100::u101::u102::u103::u104::u105::u106::u107::u108::u109::u110::u111::u112::u113::u114::u115::u116::u117::u118::u119::u120::u121::u122::u123::u124::u125::u126::u127::u128::u129::u130::u131::u132::u133::u134::u135::[]), defers := [] } w := by
  rcases hco.out with ⟨e, e2⟩ | ⟨b, off, cap, e, h1, h2, h3, h4⟩
  · cases e
    exact open_r9n hS hcell hco hlen ho hQ
  · cases e
    exact open_r9 hS hcell hco hlen (by omega) hc1 (by omega) ho hQ
theorem OpS.mid {w W W1 W2 : World} {s : LnM.Sys} {rows : List (List Int × Int)} {xB tb cb n cols base i rb : Nat} {v : Value} {R : Nat → Nat} {rv bv sv : Value} (h : OpS w W s rows xB tb cb n cols base i v R rv bv sv)
    (hbase : xB < base) (htb : base ≤ tb) (hcb : base ≤ cb) (htc : tb ≠ cb) (hrbt : rb ≠ tb) (hrbo : rv.ownBlock ≠ some rb ∧ bv.ownBlock ≠ some rb ∧ sv.ownBlock ≠ some rb) (hrb : base ≤ rb) (o1 : Only [rb, cb] W W1) (o2 : Only [rb] W1 W2) :
    (xB < W2.heap.size ∧ W2.cell? ⟨xB, 0, none⟩ = some (.int .i64 cols) ∧ xB ∉ hotS tb rv bv sv) ∧ Blk W2 tb (tbc rv cb n bv sv 1 cols) 75 ∧ Own3 W2 W2 base rv bv sv rv i (rowsL R n i) bv i (basL cols i) sv i (sgL rows i) := by
  have co0 : rv.ownBlock ≠ some cb ∧ bv.ownBlock ≠ some cb ∧ sv.ownBlock ≠ some cb := ⟨h.cost.not_own h.own.r (by decide), h.cost.not_own h.own.b (by decide), h.cost.not_own h.own.s (by decide)⟩
  have ow1 := (h.own.only o1 (fun b hb => by
    simp only [List.mem_cons, List.not_mem_nil, or_false] at hb
    rcases hb with rfl | rfl
    · exact hrbo
    · exact co0)).re
  have ow2 := (ow1.only o2 (fun b hb => by
    simp only [List.mem_cons, List.not_mem_nil, or_false] at hb
    subst hb
    exact hrbo)).re
  have xne : xB ≠ rb ∧ xB ≠ cb ∧ xB ≠ tb := ⟨by omega, by omega, by omega⟩
  have xl1 := Nat.lt_of_lt_of_le h.xl o1.size
  have tl1 := Nat.lt_of_lt_of_le h.tbl.lt o1.size
  refine ⟨⟨Nat.lt_of_lt_of_le xl1 o2.size, ((o2.cell (p := ⟨xB, 0, none⟩) xl1 (by simpa using xne.1)).trans (o1.cell (p := ⟨xB, 0, none⟩) h.xl (by simp only [List.mem_cons, List.not_mem_nil, or_false, not_or]; exact ⟨xne.1, xne.2.1⟩))).trans h.x0, ?_⟩, ?_, ow2⟩
  · unfold hotS
    simp only [List.mem_cons, List.mem_append, Option.mem_toList, not_or]
    refine ⟨xne.2.2, fun e => ?_, fun e => ?_, fun e => ?_⟩
    · have := (ow2.r.lt xB e).1; omega
    · have := (ow2.b.lt xB e).1; omega
    · have := (ow2.s.lt xB e).1; omega
  · exact (o2.block tb tl1 (by simpa using hrbt.symm)).trans ((o1.block tb h.tbl.lt (by simp only [List.mem_cons, List.not_mem_nil, or_false, not_or]; exact ⟨hrbt.symm, htc⟩)).trans h.tbl)
theorem gi_last (l : List Int) (x : Int) : gi (l ++ [x]) l.length = x := by simp [gi]
theorem gi_init {l : List Int} {c : Nat} (h : c < l.length) (x : Int) : gi (l ++ [x]) c = gi l c := by simp [gi, List.getElem?_append_left h]
theorem sys_elem {cols : Nat} {rows : List (List Int × Int)} {i : Nat} (hl : (rowOf rows i).1.length = cols) {c : Nat} (hc : c ≤ cols) : sgnOf rows i * gi ((rowOf rows i).1 ++ [(rowOf rows i).2]) c = (sysOf cols rows).S i (qOf (sysOf cols rows) c) := by
  show _ = (sysOf cols rows).S i (if c = cols then cols + rows.length else c)
  by_cases e : c = cols
  · rw [if_pos e, e, ← hl, gi_last, hl]
    show _ = (if cols + rows.length < cols then _ else if cols + rows.length < cols + rows.length then _ else _)
    rw [if_neg (by omega), if_neg (by omega)]
  · rw [if_neg e, gi_init (by omega)]
    show _ = (if c < cols then _ else _)
    rw [if_pos (by omega)]
theorem sgn_val (rows : List (List Int × Int)) (i : Nat) : sgnOf rows i = 1 ∨ sgnOf rows i = -1 := by unfold sgnOf; split <;> simp
theorem gi_bd {l : List Int} {B : Int} (hB : 0 ≤ B) (h : ∀ x ∈ l, -B ≤ x ∧ x ≤ B) (c : Nat) : -B ≤ gi l c ∧ gi l c ≤ B := by
  by_cases hc : c < l.length
  · rw [gi_lt hc]; exact h _ (List.getElem_mem hc)
  · rw [gi_ge (by omega)]; omega
set_option maxRecDepth 100000 in
set_option maxHeartbeats 8000000 in
theorem open_any (cols : Nat) (rows : List (List Int × Int)) (v : Value) (w : World) (h : SlE w v rows) (hc : cols ≤ 1000) (hm : rows.length ≤ 1000) (hlen : ∀ r ∈ rows, r.1.length = cols)
    (hbd : ∀ r ∈ rows, (∀ x ∈ r.1, -1000000000 ≤ x ∧ x ≤ 1000000000) ∧ -1000000000 ≤ r.2 ∧ r.2 ≤ 1000000000) :
    Calls Tryz.prog 37 #[.agg #[.int .i64 cols, v]] w fun e w' => ∃ t : Tb, e = .returned (.pointer (some ⟨t.tb, 0, none⟩)) ∧ t.m = rows.length ∧ t.n = cols + rows.length + 1 ∧ t.k = cols ∧ t.Dis w.heap.size ∧ Tbl w' t (tabF (sysOf cols rows) (sysOf cols rows).B0) (sysOf cols rows).B0 (sgnOf rows) 1 ∧ Below w.heap.size w w' := by
  obtain ⟨ad, cap, rfl⟩ := h.shape
  have H := Lib.hid h
  obtain ⟨s, hs⟩ : ∃ s, s = sysOf cols rows := ⟨_, rfl⟩
  have ok : Hid s.Ok := Lib.hid (by rw [hs]; exact sys_ok cols rows)
  have hsn : Hid (s.n = cols) := Lib.hid (by rw [hs]; rfl)
  have hsm : Hid (s.m = rows.length) := Lib.hid (by rw [hs]; rfl)
  have hrow : Hid (∀ i, i < rows.length → rows[i]? = some (rowOf rows i) ∧ (rowOf rows i).1.length = cols ∧ ∀ c, c ≤ cols → IntKind.i64.wrap (sgnOf rows i * gi ((rowOf rows i).1 ++ [(rowOf rows i).2]) c) = s.S i (qOf s c) ∧ Fits (s.S i (qOf s c))) := Lib.hid (fun i hi => by
    have e : rows[i]? = some (rowOf rows i) := by unfold rowOf; rw [List.getElem?_eq_getElem hi]; rfl
    have hmem : rowOf rows i ∈ rows := List.mem_of_getElem? e
    refine ⟨e, hlen _ hmem, fun c hcc => ?_⟩
    rw [hs, ← sys_elem (hlen _ hmem) hcc]
    obtain ⟨b1, b2⟩ := hbd _ hmem
    have b3 := gi_bd (B := 1000000000) (by decide) (l := (rowOf rows i).1 ++ [(rowOf rows i).2]) (fun x hx => by
      rcases List.mem_append.1 hx with h1 | h1
      · exact b1 x h1
      · rw [List.mem_singleton.1 h1]; exact b2) c
    have : -1000000000 ≤ sgnOf rows i * gi ((rowOf rows i).1 ++ [(rowOf rows i).2]) c ∧ sgnOf rows i * gi ((rowOf rows i).1 ++ [(rowOf rows i).2]) c ≤ 1000000000 := by
      rcases sgn_val rows i with e | e <;> rw [e] <;> omega
    exact ⟨IntWalk.i64_in _ (by omega), by unfold Fits; omega⟩)
  obtain ⟨m, hmm⟩ : ∃ m, m = rows.length := ⟨_, rfl⟩
  obtain ⟨n, hn⟩ : ∃ n, n = cols + m + 1 := ⟨_, rfl⟩
  rw [← hmm] at hm hsm hrow ⊢
  have hnn : Hid (n = s.n + s.m + 1) := Lib.hid (by rw [hsn.out, hsm.out]; exact hn)
  have hn1 : n ≤ 100000 := by omega
  rw [← hs]
  have hs' := Lib.hid hs
  replace hmm := Lib.hid hmm
  replace hn := Lib.hid hn
  clear h hlen hbd hs
  obtain ⟨V1, hV, S1, zv1⟩ := (BL.start w).add' #[.int .i64 cols, .slice ad m cap] 27
  have zz := Lib.hid zv1
  clear zv1
  go_enter Tryz.func37, Tryz.ntmps37
  go_upto_region 1 with fail
  rw [← hV]
  clear hV
  refine open_r1 (wb := V1) (cols := cols) (m := m) (n := n) ⟨Below.refl _ _, S1.blks⟩ (Lib.hid (fun W hW => hW.c2 w.heap.size _ _ _ (.head _))) hn hn1 (by kernel_rfl) ?_
  intro v11 v12 v13 v14 v15 v16 v17 v18 v19 v20 v21 v22 v23 gc gt W1 hS1 hr hk hge hlt
  have O0 : OpS w W1 s rows w.heap.size gt gc n cols (w.heap.size + 1) 0 (.slice ad m cap) (fun _ => 0) (.slice none 0 0) (.slice none 0 0) (.slice none 0 0) :=
    ⟨S1.below.trans (hS1.below.mono S1.below.size), (hS1.lts _ (.head _)), (hS1.c2 w.heap.size _ _ _ (.head _)).1, (hS1.c2 w.heap.size _ _ _ (.head _)).2, hk, hr.congr (fun j _ => (costF_zero s j).symm), fun j hj => absurd hj (by omega),
      ⟨World.ownsRow_nil _ _ _ _, World.ownsRow_nil _ _ _ _, World.ownsRow_nil _ _ _ _, Nat.le_refl _, fun _ e => .inl e, fun _ e => .inl e, fun _ e => .inl e, fun g e => by cases e⟩, fun j hj => absurd hj (by omega), fun j k hj => absurd hj (by omega), fun j hj => absurd hj (by omega), fun j hj => absurd hj (by omega), fun _ => ⟨rfl, rfl, rfl⟩⟩
  have hgc : w.heap.size + 1 ≤ gc := by rw [← zz.out]; exact hge
  have x1 := O0.x1
  replace O0 := Lib.hid O0
  clear hS1 hr hk hge S1
  go_wp2_with fail
  clear x1
  go_loopw [27] (fun o wr => ∃ (i : Nat) (R : Nat → Nat) (rv bv sv : Value), o = .int .i64 i ∧ i ≤ m ∧ Hid (OpS w wr s rows w.heap.size gt gc n cols (w.heap.size + 1) i (.slice ad m cap) R rv bv sv)) (fun o _ => m - (intOf o).toNat)
  case atStart => exact ⟨0, _, _, _, _, rfl, by omega, O0⟩
  case round =>
    clear O0
    obtain ⟨i, R, rv, bv, sv, rfl, him, O⟩ := hrel
    by_cases hi : i < m
    case neg =>
      have hi' : ¬ (i : Int) < m := by omega
      obtain rfl : i = m := by omega
      go_wp2
      go_ret
      have e : s.m = i := hsm.out
      obtain ⟨t, t1, t2, t3, t4, t5, t6⟩ := OpS.table (e ▸ O.out) ok.out hsn.out (by rw [e]; exact hnn.out.trans (by rw [e])) (Nat.le_succ _) (Nat.le_trans hgc (Nat.le_of_lt O.out.cost.row.lt)) (by omega) hgc (by omega)
      exact ⟨t, by rw [t1]; rfl, by rw [t2]; exact hsm.out, by rw [t3]; exact hn.out, t4, t5, t6, O.out.below⟩
    case pos =>
      have hi' : (i : Int) < m := by omega
      have hi0 : (0 : Int) ≤ i := by omega
      obtain ⟨hri, hrl, hre⟩ := hrow.out i hi
      obtain ⟨b, off, had, h3, h4⟩ : ∃ b off, ad = some ⟨b, off, none⟩ ∧ b < w.heap.size ∧ CEq w b (off + i * 2) (rowOf rows i) := by
        rcases H.out with ⟨e, e2⟩ | ⟨b, off, cap', e, h1, h2, h3, h4⟩
        · rw [e2] at hri; cases hri
        · cases e; exact ⟨b, off, rfl, h3, h4 i _ hri⟩
      subst had
      obtain ⟨cv, hcv, hcs, hval⟩ := h4
      obtain ⟨ac, cp, rfl⟩ := hcs.shape
      rw [hrl] at hcv hcs
      have y0 := (O.out.below.cell (p := ⟨b, off + i * 2, none⟩) h3).trans hcv
      have y1 := (O.out.below.cell (p := ⟨b, off + i * 2 + 1, none⟩) h3).trans hval
      obtain ⟨sg, hsg⟩ : ∃ sg, sg = sgnOf rows i := ⟨_, rfl⟩
      have hsgv : Hid (sg = if (rowOf rows i).2 < 0 then -1 else 1) := Lib.hid hsg
      rw [← hsg] at hre
      obtain ⟨coef, hcoef⟩ : ∃ l, l = (rowOf rows i).1 := ⟨_, rfl⟩
      obtain ⟨val, hvale⟩ : ∃ x, x = (rowOf rows i).2 := ⟨_, rfl⟩
      rw [← hcoef, ← hvale] at hre
      rw [← hcoef] at hcs hrl
      rw [← hvale] at y1 hsgv
      replace hre := Lib.hid hre
      replace hrl := Lib.hid hrl
      have hcsW := Lib.hid (hcs.below O.out.below)
      replace hsg := Lib.hid hsg
      clear hri h3 hcv hcs hval hcoef hvale
      go_upto_region 5 with fail
      clear y0 y1
      obtain ⟨W5, hW5, S5, z5⟩ := (BL.start wr).add' #[.slice ac cols cp, .int .i64 val] 60
      rw [← hW5]
      have hE0 := S5.c2 wr.heap.size _ _ _ (.head _)
      obtain ⟨y0, y1⟩ := hE0
      have hb5 : Below wr.heap.size wr W5 := S5.below
      have O5 := Lib.hid (O.out.later hb5)
      replace hcsW := Lib.hid (hcsW.out.below hb5)
      have kE := Lib.hid (S5.blks _ (.head _))
      replace z5 := Lib.hid z5
      clear hW5 S5
      go_upto_if 34 with (fail)
      go_cut [6] (fun sx wx => sx = .int .i64 sg ∧ W5 = wx)
      case first =>
        by_cases hneg : val < 0
        · have e1 : sg = -1 := by rw [hsgv.out, if_pos hneg]
          go_wp2_with fail
          go_meet
          exact ⟨by rw [e1], rfl⟩
        · have e1 : sg = 1 := by rw [hsgv.out, if_neg hneg]
          go_wp2_with fail
          go_meet
          exact ⟨by rw [e1], rfl⟩
      case rest =>
        obtain ⟨rfl, rfl⟩ := hcut
        have x8 : W5.cell? ⟨gt, 1, none⟩ = some (.slice (some ⟨gc, 0, none⟩) n n) := O5.out.tbl.cell 1
        have gtl : gt < W5.heap.size := O5.out.tbl.lt
        have gcl : gc < W5.heap.size := O5.out.cost.row.lt
        have xl5 : w.heap.size + 1 < W5.heap.size := by have := O.out.xl; have := z5.out; omega
        obtain ⟨W8, hmk, hrow8, hty8, hb8⟩ := run_make_row W5 n (by omega)
        have R8 := Lib.hid (⟨hrow8, hty8⟩ : RowT W8 W5.heap.size n (fun _ => 0))
        have own5 := (⟨fun e => by have := (O5.out.own.r.lt _ e).2; omega, fun e => by have := (O5.out.own.b.lt _ e).2; omega, fun e => by have := (O5.out.own.s.lt _ e).2; omega⟩ : rv.ownBlock ≠ some W5.heap.size ∧ bv.ownBlock ≠ some W5.heap.size ∧ sv.ownBlock ≠ some W5.heap.size)
        have ne5 : ∀ j, j < i → R j ≠ W5.heap.size := fun j hj e => by have := (O5.out.grid j hj).row.lt; omega
        replace own5 := Lib.hid own5
        replace ne5 := Lib.hid ne5
        clear hrow8 hty8
        go_upto_region 9 with fail
        clear x8 hmk y0 y1
        have O8 := Lib.hid (O5.out.later hb8)
        have kE8 := kE.out.below hb8
        generalize hrbe : W5.heap.size = rb at *
        refine open_r9x (wb := W8) (coef := coef) (val := val) (L := [(wr.heap.size, #[.slice ac cols cp, .int .i64 val], 60)]) ⟨Below.refl _ _, fun p hp => by rcases List.mem_cons.1 hp with rfl | hp; exact kE8; cases hp⟩ (Lib.hid (fun W hW => hW.c2 wr.heap.size _ _ _ (.head _))) (Lib.hid (hcsW.out.below (hrbe ▸ hb8))) hrl (by omega) (by kernel_rfl) ?_
        intro v41 v42 v43 v44 v45 v46 v47 v48 v49 v50 v51 v52 g capg W9 hS9 hSl hg8
        have O9 := Lib.hid (O8.out.later hS9.below)
        have R9 := Lib.hid ((R8.out.below hS9.below).congr (g := rowF s i 0) (fun j _ => (rowF_zero s i j).symm))
        have C9 := Lib.hid (O9.out.cost.congr (g := fun j => costF s i j - rowF s i 0 j) (fun j _ => by rw [rowF_zero, Int.sub_zero]))
        have hrb8 : rb < W8.heap.size := R8.out.row.lt
        replace hSl := Lib.hid hSl
        clear hS9 kE8
        go_wp2_with fail
        refine open_l2 (es := coef ++ [val]) (s := s) (i := i) (Lib.hid (by omega)) hsn hnn hn1 (Lib.hid (by rw [List.length_append, hrl.out]; rfl)) hSl hre (Lib.hid ⟨O9.out.xl, O9.out.x0, by omega, by omega⟩) (Lib.hid ⟨O9.out.tbl.lt, O9.out.tbl.cell 1, by omega, by omega⟩) (Lib.hid (by omega)) (Lib.hid ⟨by omega, by omega⟩) R9 C9 (by kernel_rfl) ?_
        intro u8 u9 u10 u55 u56 u57 u58 u59 u60 u61 u62 u63 u64 u65 u66 u67 u68 u69 u70 u71 u72 u73 u74 u75 u76 u77 u78 u79 u80 u81 u82 u83 u84 u85 u86 u87 u88 u89 u90 u91 u92 u93 W10 hO10 R10 C10
        clear R9 C9 hSl
        have hO10' := Lib.hid hO10
        have x10 := (⟨Nat.lt_of_lt_of_le O9.out.xl hO10.size, (hO10.cell (p := ⟨w.heap.size, 0, none⟩) O9.out.xl (by simp only [List.mem_cons, List.not_mem_nil, or_false, not_or]; exact ⟨by omega, by omega⟩)).trans O9.out.x0⟩ : w.heap.size < W10.heap.size ∧ W10.cell? ⟨w.heap.size, 0, none⟩ = some (.int .i64 cols))
        replace x10 := Lib.hid x10
        clear hO10
        go_upto_region 18 with fail
        have hcin : cols + i < n := by have := hn.out; omega
        refine open_r18 (q := cols + i) (cols := cols) (i := i) (Fr := rowF s i (cols + 1)) (by rw [IntWalk.i64_in _ (by omega)]; omega) hcin (by omega) (by omega) x10 (Lib.hid R10) (Lib.hid (by omega)) (by kernel_rfl) ?_
        intro v94 v95 v96 v97 v98 v99 v100 W11 hO11 R11
        obtain ⟨m1, m2, m3⟩ := O9.out.mid (by omega) (by omega) hgc (by omega) (by omega) own5.out (by omega) hO10'.out hO11
        have hO11' := Lib.hid hO11
        have R11' := Lib.hid R11
        have bs11 : w.heap.size + 1 ≤ W11.heap.size := m1.1
        replace m1 := Lib.hid m1
        replace m2 := Lib.hid m2
        replace m3 := Lib.hid m3
        clear hO11 R11
        go_upto_region 19 with fail
        refine open_r19 (q := cols + i) (cols := cols) (i := i) (by rw [IntWalk.i64_in _ (by omega)]; omega) (by omega) bs11 m1 m2 m3 (by kernel_rfl) ?_
        intro v101 v102 v103 v104 v105 v106 v107 v108 v109 v110 v111 v112 v113 v114 v115 v116 v117 v118 v119 v120 v121 v122 v123 v124 v125 v126 v127 v128 v129 v130 v131 v132 v133 gr kr gb kb gs ks W12 hO12 T12 own12
        rw [hsg.out] at own12
        have O12 := Lib.hid (O9.out.round ok.out hsn.out hnn.out (by rw [hsm.out]; exact hi) ⟨Nat.le_refl _, Nat.lt_succ_self _⟩ (by omega) hgc (by omega) (by omega) (by omega) ne5.out own5.out (by omega) hO10'.out R10 C10 hO11'.out R11'.out hO12 T12 own12)
        clear hO12 T12 own12 m1 m2 m3 R10 C10
        go_wp2_with fail
        go_roundw
        case rel => exact ⟨i + 1, _, _, _, _, by go_num, by omega, O12⟩
        case measure => simp [intOf]; omega
end Go.Proofs.YtcmomjnailihpaaGreatDoor
