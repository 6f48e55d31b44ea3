/- SnC, SvL, Stay, LnOpen -/
import Derived.Test.YtcmomjnailihpaaGreatDoorZPkA
import Derived.Test.YtcmomjnailihpaaGreatDoorZSnB
import Derived.Test.YtcmomjnailihpaaGreatDoorZSvF
import Derived.Deep.DeepCutAuto
import Derived.OpenShut
import Derived.ChangeStays
import Derived.ChangeBook
import Derived.ChangeOld
import Derived.ChangeShapes
import Derived.Lib.SmallJoins
import Derived.Laws.IdiomArrays
import Derived.Deep.Strs
namespace Go.Proofs.YtcmomjnailihpaaGreatDoor
open Go.RowKit
attribute [local go_sem] Oper.semAt_some
theorem same13 {W : World} {v u : Value} (h1 : SlS W v [⟨#[49]⟩, ⟨#[51]⟩]) (h2 : SlS W u [⟨#[49]⟩, ⟨#[51]⟩]) : Calls Tryz.prog 26 #[.agg #[v, .string ⟨#[52]⟩], .agg #[u, .string ⟨#[52]⟩]] W (Rets W (.bool true)) := by
 have := same_any v u _ _ ⟨#[52]⟩ ⟨#[52]⟩ W h1 h2
 simpa using this
theorem val11 {W : World} {v : Value} (h : SlE W v (twoL 1 1)) : Calls Tryz.prog 15 #[.agg #[.int .i64 2, v]] W (Rets W (.bool true)) := by
 have := lvalid_any 2 v (twoL 1 1) W h
 rwa [vl11] at this
theorem val65 (W : World) : Calls Tryz.prog 15 #[.agg #[.int .i64 65, .slice none 0 0]] W (Rets W (.bool false)) := by
 have := lvalid_any 65 _ [] W (SlG.nil W)
 rwa [vl65] at this
theorem Blk.new1 (W : World) (o : Obj) (cs : Array Value) (t : TypeId) : Blk ((W.alloc o).alloc (.cells cs t)) (W.heap.size + 1) cs t := by
 have := Blk.new (W.alloc o) cs t
 rwa [World.size_alloc] at this
set_option maxRecDepth 100000 in
set_option maxHeartbeats 8000000 in
theorem sane_any6 (w : World) (hE : Env w) : Calls Tryz.prog 9 #[] w (Rets w (.bool true)) := by
 replace hE := Lib.hid hE
 obtain ⟨V1, bS, e1, b1, S1⟩ := (MS.start w).add' #[.string ⟨#[52]⟩, .string ⟨#[50]⟩] 9
 obtain ⟨V2, bV, e2, b2, S2⟩ := S1.add' #[.slice (some ⟨bS, 0, none⟩) 2 2, .string ⟨#[50]⟩] 30
 have hS := Lib.hid (S2.slice (SlS.of2 (S2.mem.blks _ (.tail _ (.head _)))))
 rw [b1] at e2
 rw [e1] at e2 b2
 rw [World.size_alloc] at b2
 clear S1 S2 e1
 go_enter Tryz.func9, Tryz.ntmps9
 go_upto_region 2 with fail
 rw [← e2, ← b2]
 clear e2 b1 b2
 go_wp2_with fail
 refine Calls.mono (two_any6 3 1 _) ?_
 rintro e w1 ⟨v1, rfl, hv, hb⟩
 replace hS := Lib.hid (hS.out.call hb)
 clear hb
 go_wp2_with fail
 refine Calls.mono (solve31 v1 _ (hS.out.env hE.out) hv) ?_
 rintro e w2 ⟨a1, l1, d1, k1, rfl, hs1, heq, hb⟩
 clear hv
 replace hS := Lib.hid (hS.out.call hb)
 replace hS := Lib.hid (hS.out.slice hs1)
 clear hb hs1
 replace heq := Lib.hid heq
 obtain ⟨n1, hn1⟩ : ∃ n, n = l1.length := ⟨_, rfl⟩
 rw [← hn1] at hS ⊢
 replace hn1 := Lib.hid hn1
 obtain ⟨W1, bA, e1, b1, S1⟩ := hS.out.add' #[.bool true, .slice a1 n1 k1, .string d1, .slice none 0 0] 38
 replace hS := Lib.hid S1
 clear S1
 go_upto_region 3 with fail
 rw [← e1, ← b1]
 clear e1 b1
 go_wp2_with fail
 refine Calls.mono (two_any6 3 4 _) ?_
 rintro e w3 ⟨v2, rfl, hv, hb⟩
 replace hS := Lib.hid (hS.out.call hb)
 clear hb
 go_wp2_with fail
 refine Calls.mono (solve34 v2 _ (hS.out.env hE.out) hv) ?_
 rintro e w4 ⟨a2, l2, k2, rfl, hs2, hrf, hb⟩
 clear hv
 replace hS := Lib.hid (hS.out.call hb)
 replace hS := Lib.hid (hS.out.slice hs2)
 clear hb hs2
 replace hrf := Lib.hid hrf
 obtain ⟨n2, hn2⟩ : ∃ n, n = l2.length := ⟨_, rfl⟩
 rw [← hn2] at hS ⊢
 replace hn2 := Lib.hid hn2
 obtain ⟨W1, bB, e1, b1, S1⟩ := hS.out.add' #[.bool false, .slice none 0 0, .string ⟨#[]⟩, .slice a2 n2 k2] 38
 replace hS := Lib.hid S1
 clear S1
 go_upto_region 4 with fail
 rw [← e1, ← b1]
 clear e1 b1
 go_wp2_with fail
 refine Calls.mono (solve00 _ _ ((hS.out.new _).env hE.out) (SlE.of1 (Blk.new _ _ _))) ?_
 rintro e w5 ⟨a3, d3, k3, rfl, hb⟩
 replace hS := Lib.hid (hS.out.new _ |>.call hb)
 clear hb
 obtain ⟨W1, bC, e1, b1, S1⟩ := hS.out.add' #[.bool true, .slice a3 0 k3, .string d3, .slice none 0 0] 38
 replace hS := Lib.hid S1
 clear S1
 go_upto_region 5 with fail
 rw [← e1, ← b1]
 clear e1 b1
 go_wp2_with fail
 refine Calls.mono (solve01 _ _ ((hS.out.new _).env hE.out) (SlE.of1 (Blk.new _ _ _))) ?_
 rintro e w6 ⟨a4, k4, rfl, hb⟩
 replace hS := Lib.hid (hS.out.new _ |>.call hb)
 clear hb
 obtain ⟨W1, bD, e1, b1, S1⟩ := hS.out.add' #[.bool false, .slice none 0 0, .string ⟨#[]⟩, .slice a4 1 k4] 38
 replace hS := Lib.hid S1
 clear S1
 go_upto_region 6 with fail
 rw [← e1, ← b1]
 clear e1 b1
 go_wp2_with fail
 refine Calls.mono (mix_ok { p := 1, q := 3, na := [⟨#[49]⟩, ⟨#[48]⟩], nb := [⟨#[48]⟩, ⟨#[49]⟩], da := ⟨#[49]⟩, db := ⟨#[49]⟩ } _ _ _ (((hS.out.new _).new _).env hE.out) ((SlS.of2 (Blk.new _ _ _)).below ((Below.refl _ _).alloc (Nat.le_refl _) _)) (SlS.of2 (Blk.new1 _ _ _ _)) (by kernel_rfl)) ?_
 intro e w5 hmx
 unfold MixP at hmx
 rw [mix13] at hmx
 obtain ⟨hb, v5, hs5, rfl⟩ := hmx
 obtain ⟨a5, k5, rfl⟩ := hs5.shape
 replace hS := Lib.hid ((hS.out.new _ |>.new _).call hb)
 replace hS := Lib.hid (hS.out.slice hs5)
 clear hb hs5
 obtain ⟨W1, bM, e1, b1, S1⟩ := hS.out.add' #[.slice a5 2 k5, .string ⟨#[52]⟩] 30
 replace hS := Lib.hid S1
 clear S1
 go_upto_region 7 with fail
 rw [← e1, ← b1]
 clear e1 b1
 go_wp2_with fail
 refine Calls.mono (solve10 _ _ (SlE.of1 (Blk.new _ _ _))) ?_
 rintro e w8 ⟨rfl, hb⟩
 replace hS := Lib.hid (hS.out.new _ |>.call hb)
 clear hb
 obtain ⟨W1, bN, e1, b1, S1⟩ := hS.out.add' #[.bool false, .slice none 0 0, .string ⟨#[]⟩, .slice none 0 0] 38
 replace hS := Lib.hid S1
 clear S1
 go_upto_region 8 with fail
 rw [← e1, ← b1]
 clear e1 b1
 go_upto_region 10 with fail
 have rf := hrf
 clear hrf
 have hn1' := hn1.out
 have hn2' := hn2.out
 subst hn1'
 subst hn2'
 refine sane6_r10 (bV := bV) (bA := bA) (bB := bB) (bC := bC) (bD := bD) (bS := bS) (a1 := a1) (n1 := l1.length) (k1 := k1) (a2 := a2) (n2 := l2.length) (k2 := k2) (a3 := a3) (k3 := k3) (a4 := a4) (k4 := k4) (d1 := d1) (w := W1) (W0 := W1) (L := []) (R := []) (Lib.hid fun W hW => (hS.out.call hW.below).cell bA _ _ (.tail _ (.tail _ (.tail _ (.tail _ (.tail _ (.head _)))))) 0) (Lib.hid fun W hW => (hS.out.call hW.below).cell bA _ _ (.tail _ (.tail _ (.tail _ (.tail _ (.tail _ (.head _)))))) 1) (Lib.hid fun W hW => (hS.out.call hW.below).cell bA _ _ (.tail _ (.tail _ (.tail _ (.tail _ (.tail _ (.head _)))))) 2) (Lib.hid fun W hW => (hS.out.call hW.below).cell bV _ _ (.tail _ (.tail _ (.tail _ (.tail _ (.tail _ (.tail _ (.head _))))))) 0) (Lib.hid fun W hW => (hS.out.call hW.below).cell bV _ _ (.tail _ (.tail _ (.tail _ (.tail _ (.tail _ (.tail _ (.head _))))))) 1) (Lib.hid fun W hW => (by have := equal_any _ _ l1 _ d1 ⟨#[50]⟩ W ((hS.out.call hW.below).env hE.out) ((hS.out.call hW.below).ss _ (.tail _ (.tail _ (.head _)))) ((hS.out.call hW.below).ss _ (.tail _ (.tail _ (.tail _ (.head _))))); rwa [heq.out] at this)) (Lib.hid fun W hW => (hS.out.call hW.below).cell bA _ _ (.tail _ (.tail _ (.tail _ (.tail _ (.tail _ (.head _)))))) 3) (Lib.hid fun W hW => (hS.out.call hW.below).cell bB _ _ (.tail _ (.tail _ (.tail _ (.tail _ (.head _))))) 0) (Lib.hid fun W hW => (two_any6 3 4 W)) (Lib.hid fun W hW => (hS.out.call hW.below).cell bB _ _ (.tail _ (.tail _ (.tail _ (.tail _ (.head _))))) 3) (Lib.hid fun W v hW hv => (by have := refutes_any 2 v _ (twoL 3 4) l2 W ((hS.out.call hW.below).env hE.out) hv ((hS.out.call hW.below).ss _ (.tail _ (.head _))); rwa [rf.out] at this)) (Lib.hid fun W hW => (hS.out.call hW.below).cell bC _ _ (.tail _ (.tail _ (.tail _ (.head _)))) 0) (Lib.hid fun W hW => (hS.out.call hW.below).cell bC _ _ (.tail _ (.tail _ (.tail _ (.head _)))) 1) (Lib.hid fun W hW => (hS.out.call hW.below).cell bD _ _ (.tail _ (.tail _ (.head _))) 0) (Lib.hid fun W hW => (hS.out.call hW.below).cell bD _ _ (.tail _ (.tail _ (.head _))) 3) (Lib.hid (Mem.start W1)) (by kernel_rfl) ?_
 intro _ _ _ _ _ _ _ _ _ _ _ _ _ _ _ _ _ _ _ _ _ _ _ _ _ _ _ _ _ _ _ _ _ _ _ _ _ _ _ _ _ _ _ _ _ _ _ W2 hW2
 replace hS := Lib.hid (hS.out.call hW2.out.below)
 clear hW2 heq rf
 go_upto_region 11 with fail
 refine sane6_r11 (bV := bV) (L := []) (R := []) (Lib.hid fun W hW => (two_any6 3 1 W)) (Lib.hid fun W hW => (hS.out.call hW.below).cell bV _ _ (.tail _ (.tail _ (.tail _ (.tail _ (.tail _ (.tail _ (.head _))))))) 0) (Lib.hid fun W hW => (hS.out.call hW.below).cell bV _ _ (.tail _ (.tail _ (.tail _ (.tail _ (.tail _ (.tail _ (.head _))))))) 1) (Lib.hid fun W v hW hv => (by have := check_any 2 v _ (twoL 3 1) _ ⟨#[50]⟩ W ((hS.out.call hW.below).env hE.out) hv ((hS.out.call hW.below).ss _ (.tail _ (.tail _ (.tail _ (.head _))))); rwa [ck31] at this)) (Lib.hid fun W hW => (two_any6 3 2 W)) (Lib.hid fun W hW => (hS.out.call hW.below).cell bV _ _ (.tail _ (.tail _ (.tail _ (.tail _ (.tail _ (.tail _ (.head _))))))) 0) (Lib.hid fun W hW => (hS.out.call hW.below).cell bV _ _ (.tail _ (.tail _ (.tail _ (.tail _ (.tail _ (.tail _ (.head _))))))) 1) (Lib.hid fun W v hW hv => (by have := check_any 2 v _ (twoL 3 2) _ ⟨#[50]⟩ W ((hS.out.call hW.below).env hE.out) hv ((hS.out.call hW.below).ss _ (.tail _ (.tail _ (.tail _ (.head _))))); rwa [ck32] at this)) (Lib.hid fun W hW => (two_any6 3 4 W)) (Lib.hid fun W v g hW hv hg => (by have := refutes_any 2 v _ (twoL 3 4) _ W ((hS.out.call hW.below).env hE.out) hv (SlS.of2 hg); rwa [rf34] at this)) (Lib.hid fun W hW => (two_any6 3 4 W)) (Lib.hid fun W v g hW hv hg => (by have := refutes_any 2 v _ (twoL 3 4) _ W ((hS.out.call hW.below).env hE.out) hv (SlS.of2 hg); rwa [rf34n] at this)) (Lib.hid fun W hW => (two_any6 3 1 W)) (Lib.hid fun W v g hW hv hg => (by have := refutes_any 2 v _ (twoL 3 1) _ W ((hS.out.call hW.below).env hE.out) hv (SlS.of2 hg); rwa [rf31n] at this)) (Lib.hid (Mem.start _)) (by kernel_rfl) ?_
 intro _ _ _ _ _ _ _ _ _ _ _ _ _ _ _ _ _ _ _ _ _ _ _ _ _ _ W3 hW3
 replace hS := Lib.hid (hS.out.call hW3.out.below)
 clear hW3
 have z0 := (hS.out.cell bM _ _ (.tail _ (.head _)) 0).trans (show _ = some (Value.slice a5 2 k5) from rfl)
 have z1 := (hS.out.cell bM _ _ (.tail _ (.head _)) 1).trans (show _ = some (Value.string ⟨#[52]⟩) from rfl)
 go_wp2_with fail
 refine Calls.mono (same13 (hS.out.new _ |>.ss _ (.head _)) (SlS.of2 (Blk.new _ _ _))) ?_
 rintro e w9 ⟨rfl, hb⟩
 replace hS := Lib.hid (hS.out.new _ |>.call hb)
 clear hb z0 z1
 go_wp2_with fail
 refine Calls.mono (two_any6 1 1 _) ?_
 rintro e w10 ⟨v9, rfl, hv, hb⟩
 replace hS := Lib.hid (hS.out.call hb)
 clear hb
 go_wp2_with fail
 refine Calls.mono (val11 hv) ?_
 rintro e w11 ⟨rfl, hb⟩
 clear hv
 replace hS := Lib.hid (hS.out.call hb)
 clear hb
 go_wp2_with fail
 refine Calls.mono (val65 _) ?_
 rintro e w12 ⟨rfl, hb⟩
 replace hS := Lib.hid (hS.out.call hb)
 clear hb
 go_wp2
 go_ret
 exact ⟨rfl, hS.out.mem.below⟩
structure NumOk (W : World) (x : NumL) (vc vh : Value) : Prop where
 c : Sl W vc x.coefs
 h : Sl W vh x.hidden
 f : Fits x.cols ∧ Fits x.rows ∧ Fits x.miss
 fc : ∀ z ∈ x.coefs, Fits z
 fh : ∀ z ∈ x.hidden, Fits z
theorem atv_fits {l : List Int} (h : ∀ z ∈ l, Fits z) (k : Nat) : Fits (atv l k) := by
 unfold atv
 by_cases hk : k % l.length < l.length
 · rw [gi_lt hk]; exact h _ (List.getElem_mem hk)
 · rw [gi_ge (by omega)]; unfold Fits; decide
theorem NumOk.below {W W' : World} {x : NumL} {vc vh : Value} (h : NumOk W x vc vh) (hb : Below W.heap.size W W') : NumOk W' x vc vh := ⟨h.c.below hb, h.h.below hb, h.f, h.fc, h.fh⟩
theorem made_ok {W : World} {x : NumL} {vc vh : Value} (h : NumOk W x vc vh) : Calls Tryz.prog 11 #[.agg #[.int .i64 x.cols, .int .i64 x.rows, vc, vh, .int .i64 x.miss]] W fun e w' => ∃ a cp, e = .returned (.agg #[.int .i64 x.c, .slice a x.r cp]) ∧ SlE w' (.slice a x.r cp) x.made ∧ Below W.heap.size W w' :=
 (made_any x vc vh W h.c h.h h.f (fun k => ⟨atv_fits h.fc k, atv_fits h.fh k⟩)).mono fun e w' ⟨v, he, hs, hb⟩ => by
   obtain ⟨a, cp, rfl⟩ := hs.shape
   rw [x.made_len] at hs he
   exact ⟨a, cp, he, hs, hb⟩
theorem misses_ok {W : World} {x : NumL} {vc vh : Value} (h : NumOk W x vc vh) : Calls Tryz.prog 30 #[.agg #[.int .i64 x.cols, .int .i64 x.rows, vc, vh, .int .i64 x.miss]] W (Rets W (.bool x.misses)) := by
 obtain ⟨a, ca, rfl⟩ := h.c.shape
 obtain ⟨b, cb, rfl⟩ := h.h.shape
 exact misses_any x.cols x.rows x.miss _ _ _ _ _ _ _ _ rfl rfl h.f.2.2 W
theorem made_small (x : NumL) : x.made.length ≤ 8 := by rw [x.made_len]; have := x.r_eq; omega
theorem refuted_misses {x : NumL} {ws : List ByteArray} (h : refutesL x.c x.made ws = true) : x.misses = true := by
 cases hm : x.misses with
 | true => rfl
 | false => exact (solz_refz (x.made_sol hm) (refutes_refz h)).elim
set_option maxRecDepth 100000 in
set_option maxHeartbeats 8000000 in
theorem solves_row (x : NumL) (vc vh : Value) (w : World) (hN : NumOk w x vc vh) (hE0 : EnvQ w) : Calls Tryz.prog 4 #[.agg #[.int .i64 x.cols, .int .i64 x.rows, vc, vh, .int .i64 x.miss]] w (Rets w (.bool true)) := by
 have hE := Lib.hid hE0.env
 clear hE0
 obtain ⟨ac, cc, rfl⟩ := hN.c.shape
 obtain ⟨ah, ch, rfl⟩ := hN.h.shape
 have MD := Lib.hid (fun W (hW : NumOk W x (.slice ac x.coefs.length cc) (.slice ah x.hidden.length ch)) => made_ok hW)
 have MI := Lib.hid (fun W (hW : NumOk W x (.slice ac x.coefs.length cc) (.slice ah x.hidden.length ch)) => misses_ok hW)
 replace hN := Lib.hid hN
 generalize x.coefs.length = nc at *
 generalize x.hidden.length = nh at *
 obtain ⟨V1, bN, e1, b1, S1⟩ := (MS.start w).add' #[.int .i64 x.cols, .int .i64 x.rows, .slice ac nc cc, .slice ah nh ch, .int .i64 x.miss] 24
 have hS := Lib.hid S1
 clear S1
 go_enter Tryz.func4, Tryz.ntmps4
 go_upto_region 1 with fail
 rw [← e1, ← b1]
 clear e1 b1
 go_wp2_with fail
 refine Calls.mono (sane_any6 _ (hS.out.env hE.out)) ?_
 rintro e w1 ⟨rfl, hb⟩
 replace hS := Lib.hid (hS.out.call hb)
 clear hb
 go_upto_region 3 with fail
 have z0 := (hS.out.cell bN _ _ (.head _) 0).trans (show _ = some (Value.int .i64 x.cols : Value) from rfl)
 have z1 := (hS.out.cell bN _ _ (.head _) 1).trans (show _ = some (Value.int .i64 x.rows : Value) from rfl)
 have z2 := (hS.out.cell bN _ _ (.head _) 2).trans (show _ = some (Value.slice ac nc cc : Value) from rfl)
 have z3 := (hS.out.cell bN _ _ (.head _) 3).trans (show _ = some (Value.slice ah nh ch : Value) from rfl)
 have z4 := (hS.out.cell bN _ _ (.head _) 4).trans (show _ = some (Value.int .i64 x.miss : Value) from rfl)
 go_wp2_with fail
 refine Calls.mono (MD.out _ (hN.out.below hS.out.mem.below)) ?_
 rintro e w2 ⟨a, cp, rfl, hs, hb⟩
 replace hS := Lib.hid (hS.out.call hb)
 clear hb z0 z1 z2 z3 z4
 have hR := Lib.hid hs
 clear hs
 obtain ⟨r, hr⟩ : ∃ r, r = x.r := ⟨_, rfl⟩
 obtain ⟨c, hc⟩ : ∃ c, c = x.c := ⟨_, rfl⟩
 rw [← hr] at hR ⊢
 rw [← hc]
 replace hr := Lib.hid hr
 replace hc := Lib.hid hc
 obtain ⟨W1, bS, e1, b1, S1⟩ := hS.out.add' #[.int .i64 c, .slice a r cp] 27
 have hR1 : Hid (SlE W1 (.slice a r cp) x.made) := Lib.hid (by rw [e1]; exact hR.out.below ((Below.refl _ _).alloc (Nat.le_refl _) _))
 replace hR := hR1
 clear hR1
 replace hS := Lib.hid S1
 clear S1
 go_upto_region 4 with fail
 rw [← e1, ← b1]
 clear e1 b1
 have z0 := (hS.out.cell bS _ _ (.head _) 0).trans (show _ = some (Value.int .i64 c : Value) from rfl)
 have z1 := (hS.out.cell bS _ _ (.head _) 1).trans (show _ = some (Value.slice a r cp : Value) from rfl)
 go_wp2_with fail
 refine Calls.mono (solve_any c _ x.made _ (hS.out.env hE.out) hR.out (by rw [hc.out]; exact x.made_valid) (made_small x)) ?_
 rintro e w3 ⟨hb, ⟨nv, nums, den, rfl, hs, hck⟩ | ⟨wv, ws, rfl, hs, hrf⟩⟩
 · obtain ⟨an, kn, rfl⟩ := hs.shape
   replace hS := Lib.hid (hS.out.call hb)
   replace hR := Lib.hid (hR.out.below hb)
   replace hS := Lib.hid (hS.out.slice hs)
   clear hb hs z0 z1
   obtain ⟨m, hm⟩ : ∃ m, m = nums.length := ⟨_, rfl⟩
   rw [← hm] at hS ⊢
   replace hm := Lib.hid hm
   replace hck := Lib.hid hck
   obtain ⟨W1, bA, e1, b1, S1⟩ := hS.out.add' #[.bool true, .slice an m kn, .string den, .slice none 0 0] 38
   have hR1 : Hid (SlE W1 (.slice a r cp) x.made) := Lib.hid (by rw [e1]; exact hR.out.below ((Below.refl _ _).alloc (Nat.le_refl _) _))
   replace hR := hR1
   clear hR1
   replace hS := Lib.hid S1
   clear S1
   go_upto_region 5 with fail
   rw [← e1, ← b1]
   clear e1 b1
   have z0 := (hS.out.cell bS _ _ (.tail _ (.head _)) 0).trans (show _ = some (Value.int .i64 c : Value) from rfl)
   have z1 := (hS.out.cell bS _ _ (.tail _ (.head _)) 1).trans (show _ = some (Value.slice a r cp : Value) from rfl)
   go_wp2_with fail
   refine Calls.mono (lvalid_any _ _ x.made _ hR.out) ?_
   rintro e w4 ⟨rfl, hb⟩
   replace hS := Lib.hid (hS.out.call hb)
   replace hR := Lib.hid (hR.out.below hb)
   clear hb z0 z1
   have hvl : validL c x.made = true := by rw [hc.out]; exact x.made_valid
   rw [hvl]
   clear hvl
   go_upto_region 7 with fail
   have y0 := (hS.out.cell bA _ _ (.head _) 0).trans (show _ = some (Value.bool true : Value) from rfl)
   have y1 := (hS.out.cell bA _ _ (.head _) 1).trans (show _ = some (Value.slice an m kn : Value) from rfl)
   have y2 := (hS.out.cell bA _ _ (.head _) 2).trans (show _ = some (Value.string den : Value) from rfl)
   have y3 := (hS.out.cell bA _ _ (.head _) 3).trans (show _ = some (Value.slice none 0 0 : Value) from rfl)
   go_upto_region 8 with fail
   have z0 := (hS.out.cell bS _ _ (.tail _ (.head _)) 0).trans (show _ = some (Value.int .i64 c : Value) from rfl)
   have z1 := (hS.out.cell bS _ _ (.tail _ (.head _)) 1).trans (show _ = some (Value.slice a r cp : Value) from rfl)
   have CK := Lib.hid (show ∀ W, Env W → SlE W (.slice a r cp) x.made → SlS W (.slice an m kn) nums → Calls Tryz.prog 19 #[.agg #[.int .i64 c, .slice a r cp], .agg #[.slice an m kn, .string den]] W (Rets W (.bool true)) from fun W h1 h2 h3 => by have := check_any c _ _ x.made nums den W h1 h2 h3; rwa [hck.out] at this)
   have hss := hS.out.ss _ (.head _)
   go_wp2_with fail
   refine Calls.mono (CK.out _ (hS.out.env hE.out) hR.out hss) ?_
   rintro e w5 ⟨rfl, hb⟩
   replace hS := Lib.hid (hS.out.call hb)
   replace hR := Lib.hid (hR.out.below hb)
   clear hb z0 z1 y0 y1 y2 y3 hss
   have y3 := (hS.out.cell bA _ _ (.head _) 3).trans (show _ = some (Value.slice none 0 0) from rfl)
   go_wp2
   go_ret
   exact ⟨rfl, hS.out.mem.below⟩
 · obtain ⟨an, kn, rfl⟩ := hs.shape
   replace hS := Lib.hid (hS.out.call hb)
   replace hR := Lib.hid (hR.out.below hb)
   replace hS := Lib.hid (hS.out.slice hs)
   clear hb hs z0 z1
   obtain ⟨m, hm⟩ : ∃ m, m = ws.length := ⟨_, rfl⟩
   rw [← hm] at hS ⊢
   replace hm := Lib.hid hm
   replace hrf := Lib.hid hrf
   obtain ⟨W1, bA, e1, b1, S1⟩ := hS.out.add' #[.bool false, .slice none 0 0, .string ⟨#[]⟩, .slice an m kn] 38
   have hR1 : Hid (SlE W1 (.slice a r cp) x.made) := Lib.hid (by rw [e1]; exact hR.out.below ((Below.refl _ _).alloc (Nat.le_refl _) _))
   replace hR := hR1
   clear hR1
   replace hS := Lib.hid S1
   clear S1
   go_upto_region 5 with fail
   rw [← e1, ← b1]
   clear e1 b1
   have z0 := (hS.out.cell bS _ _ (.tail _ (.head _)) 0).trans (show _ = some (Value.int .i64 c : Value) from rfl)
   have z1 := (hS.out.cell bS _ _ (.tail _ (.head _)) 1).trans (show _ = some (Value.slice a r cp : Value) from rfl)
   go_wp2_with fail
   refine Calls.mono (lvalid_any _ _ x.made _ hR.out) ?_
   rintro e w4 ⟨rfl, hb⟩
   replace hS := Lib.hid (hS.out.call hb)
   replace hR := Lib.hid (hR.out.below hb)
   clear hb z0 z1
   have hvl : validL c x.made = true := by rw [hc.out]; exact x.made_valid
   rw [hvl]
   clear hvl
   go_upto_region 7 with fail
   have y0 := (hS.out.cell bA _ _ (.head _) 0).trans (show _ = some (Value.bool false : Value) from rfl)
   have y1 := (hS.out.cell bA _ _ (.head _) 1).trans (show _ = some (Value.slice none 0 0 : Value) from rfl)
   have y2 := (hS.out.cell bA _ _ (.head _) 2).trans (show _ = some (Value.string ⟨#[]⟩ : Value) from rfl)
   have y3 := (hS.out.cell bA _ _ (.head _) 3).trans (show _ = some (Value.slice an m kn : Value) from rfl)
   go_upto_region 9 with fail
   have x0 := (hS.out.cell bN _ _ (.tail _ (.tail _ (.head _))) 0).trans (show _ = some (Value.int .i64 x.cols : Value) from rfl)
   have x1 := (hS.out.cell bN _ _ (.tail _ (.tail _ (.head _))) 1).trans (show _ = some (Value.int .i64 x.rows : Value) from rfl)
   have x2 := (hS.out.cell bN _ _ (.tail _ (.tail _ (.head _))) 2).trans (show _ = some (Value.slice ac nc cc : Value) from rfl)
   have x3 := (hS.out.cell bN _ _ (.tail _ (.tail _ (.head _))) 3).trans (show _ = some (Value.slice ah nh ch : Value) from rfl)
   have x4 := (hS.out.cell bN _ _ (.tail _ (.tail _ (.head _))) 4).trans (show _ = some (Value.int .i64 x.miss : Value) from rfl)
   have hms : x.misses = true := refuted_misses (ws := ws) (by rw [← hc.out]; exact hrf.out)
   have RF := Lib.hid (show ∀ W, Env W → SlE W (.slice a r cp) x.made → SlS W (.slice an m kn) ws → Calls Tryz.prog 28 #[.agg #[.int .i64 c, .slice a r cp], .slice an m kn] W (Rets W (.bool true)) from fun W h1 h2 h3 => by have := refutes_any c _ _ x.made ws W h1 h2 h3; rwa [hrf.out] at this)
   rw [hms] at MI
   clear hms
   go_wp2_with fail
   refine Calls.mono (MI.out _ (hN.out.below hS.out.mem.below)) ?_
   rintro e w5 ⟨rfl, hb⟩
   replace hS := Lib.hid (hS.out.call hb)
   replace hR := Lib.hid (hR.out.below hb)
   clear hb x0 x1 x2 x3 x4 y0 y1 y2 y3
   have z0 := (hS.out.cell bS _ _ (.tail _ (.head _)) 0).trans (show _ = some (Value.int .i64 c : Value) from rfl)
   have z1 := (hS.out.cell bS _ _ (.tail _ (.head _)) 1).trans (show _ = some (Value.slice a r cp : Value) from rfl)
   have y0 := (hS.out.cell bA _ _ (.head _) 0).trans (show _ = some (Value.bool false : Value) from rfl)
   have y1 := (hS.out.cell bA _ _ (.head _) 1).trans (show _ = some (Value.slice none 0 0 : Value) from rfl)
   have y2 := (hS.out.cell bA _ _ (.head _) 2).trans (show _ = some (Value.string ⟨#[]⟩ : Value) from rfl)
   have y3 := (hS.out.cell bA _ _ (.head _) 3).trans (show _ = some (Value.slice an m kn : Value) from rfl)
   have hss := hS.out.ss _ (.head _)
   go_wp2_with fail
   refine Calls.mono (RF.out _ (hS.out.env hE.out) hR.out hss) ?_
   rintro e w6 ⟨rfl, hb⟩
   replace hS := Lib.hid (hS.out.call hb)
   replace hR := Lib.hid (hR.out.below hb)
   clear hb z0 z1 y0 y1 y2 y3 hss
   have y0 := (hS.out.cell bA _ _ (.head _) 0).trans (show _ = some (Value.bool false : Value) from rfl)
   have y1 := (hS.out.cell bA _ _ (.head _) 1).trans (show _ = some (Value.slice none 0 0 : Value) from rfl)
   have y2 := (hS.out.cell bA _ _ (.head _) 2).trans (show _ = some (Value.string ⟨#[]⟩ : Value) from rfl)
   have y3 := (hS.out.cell bA _ _ (.head _) 3).trans (show _ = some (Value.slice an m kn : Value) from rfl)
   go_wp2
   go_ret
   exact ⟨rfl, hS.out.mem.below⟩
end Go.Proofs.YtcmomjnailihpaaGreatDoor
namespace Go.Proofs.YtcmomjnailihpaaGreatDoor
open Go.RowKit Go.ChangeShapes
section
variable {H : Type} {enc : TypeId × Value → H} {P : Program}
theorem same_below {W W' : World} (hb : Below W.heap.size W W') {p : MemPlace} (h : p.block < W.heap.size) : W.sameAt W' p := by
 cases p with
 | cell b off => exact hb.cell (p := ⟨b, off, none⟩) h
 | map b => exact hb.block b h
theorem trod_stay (hl : laidOutB P = true) {t : TypeId} (hr : P.readableRec t = true) (hrow : t < P.types.size) (hsz : ∀ u e, InBook P t u → P.underlying u = some (.slice e) → 0 < P.cellsOf e)
   {W W' : World} (hb : Below W.heap.size W W') {v : Value} {d : DataW H} {ps : List MemPlace} (hlt : ∀ p ∈ ps, p.block < W.heap.size) (h : DataW.Trod enc P W 0 (fun _ => true) true t v d ps) :
   DataW.Trod enc P W' 0 (fun b => decide (b < W.heap.size)) true t v d ps := by
 obtain ⟨n, hn⟩ := h
 refine ⟨n, DataW.trod_stays (kids_book hl hr) (fun {u e} hT hu => hsz u e hT hu) (fun e => by cases e) ⟨hrow, book_self t⟩ hn (fun p hp => same_below hb (hlt p hp)) (fun p hp => by simpa using hlt p hp)⟩
def rowsB (P : Program) (ts : List TypeId) : Bool := ts.all fun t => P.readableRec t && decide (t < P.types.size) && (P.book t).all fun u => match P.underlying u with
 | some (.slice e) => decide (0 < P.cellsOf e)
 | _ => true
theorem args_stay (hl : laidOutB P = true) {W W' : World} (hb : Below W.heap.size W W') : ∀ {ts : List TypeId} {vs : List Value} {ds : List (DataW H)} {ps : List MemPlace}, rowsB P ts = true →
   DataW.TrodAll enc P W 0 (fun _ => true) true ts vs ds ps → DataW.TrodAll enc P W' 0 (fun b => decide (b < W.heap.size)) true ts vs ds ps
 | [], [], [], _, _, h => h
 | t :: ts, v :: vs, d :: ds, ps, hr, h => by
   have hlt := h.lt
   obtain ⟨p, q, h1, h2, e⟩ := h
   unfold rowsB at hr
   rw [List.all_cons, Bool.and_eq_true] at hr
   obtain ⟨hr1, hr2⟩ := hr
   simp only [Bool.and_eq_true, decide_eq_true_eq, List.all_eq_true] at hr1
   obtain ⟨⟨r1, r2⟩, r3⟩ := hr1
   refine ⟨p, q, trod_stay hl r1 r2 (fun u e hT hu => ?_) hb (fun x hx => hlt x (by rw [e]; exact List.mem_append_left _ hx)) h1, args_stay hl hb hr2 h2, e⟩
   have := r3 u hT.2
   rw [hu] at this
   simpa using this
end
end Go.Proofs.YtcmomjnailihpaaGreatDoor
namespace Go.Proofs.YtcmomjnailihpaaGreatDoor
open Go.RowKit Go.ChangeShapes Go.WideShapes Go.Deep
theorem shapeL_lt {w : World} {b : Nat} {x : TypeId × Nat} (h : w.shape? b = some x) : b < w.heap.size := by
 unfold World.shape? at h
 by_cases hb : b < w.heap.size
 · exact hb
 · rw [Array.getElem?_eq_none (by omega)] at h; simp at h
theorem fitsL_wf {n : Int} (h : (Lit.int .i64 n).wf = true) : Fits n := by simpa [Fits, Lit.wf, IntKind.min, IntKind.max, IntKind.signed, IntKind.bits] using h
section
variable {H : Type} {enc : TypeId × Value → H} {W : World} {sp : Nat → Bool} {held : Bool}
set_option maxRecDepth 100000 in
theorem open_rowL {t e : TypeId} {k b0 fuel : Nat} {v : Value} {y : DataW H × List MemPlace} (hu : Tryz.prog.underlying t = some (.slice e)) (hc : Tryz.prog.cellsOf e = k) (hk : Cell.okWide Tryz.prog W .any b0 t v) (h : DataW.trod enc Tryz.prog W 0 sp held fuel t [v] = some y) :
   v = .slice none 0 0 ∨ ∃ b off len cap, v = .slice (some ⟨b, off, none⟩) len cap ∧ len ≤ cap ∧ cap ≤ maxLen ∧ b < W.heap.size ∧ ∀ i, i < len → ∃ (cs : List Value) (n : Nat) (x : DataW H × List MemPlace), cs.length = k ∧ (∀ (j : Nat) (h : j < cs.length), W.cell? ⟨b, off + i * k + j, none⟩ = some cs[j]) ∧ DataW.trod enc Tryz.prog W 0 sp held n e cs = some x := by
 rcases open_slice hu h with ⟨hcs, _⟩ | ⟨a, len, cap, m, n, D, Pl, hcs, _, hl, hm, hmm, _, hx⟩
 · left; simpa using hcs
 · right
   obtain rfl : v = .slice (some a) len cap := by simpa using hcs
   have hk2 : W.has Tryz.prog .any b0 a e cap := by
     simp only [Cell.okWide, hu, Cell.ok] at hk
     exact hk.2.2
   obtain ⟨_, hsp, row, cells, hsh, _⟩ := hk2
   have hlt := shapeL_lt hsh
   obtain ⟨b, off, spot⟩ := a
   obtain rfl : spot = none := hsp
   refine ⟨b, off, len, cap, rfl, hl, hm, hlt, fun i hi => ?_⟩
   obtain ⟨cs', h1, h2⟩ := hx i (by rw [hmm]; split <;> omega)
   rw [hc] at h1
   obtain ⟨_, hlen, hcell⟩ := World.cells?_some h1
   refine ⟨cs', n, _, hlen, fun j hj => ?_, h2⟩
   have q := hcell j (by omega)
   rw [add_add, add_plain, ← Nat.add_assoc] at q
   rw [q, List.getElem?_eq_getElem hj]
set_option maxRecDepth 100000 in
theorem open_intsL {b0 fuel : Nat} {v : Value} {y : DataW H × List MemPlace} (hk : Cell.okWide Tryz.prog W .any b0 22 v) (h : DataW.trod enc Tryz.prog W 0 sp held fuel 22 [v] = some y) : ∃ l : List Int, Sl W v l ∧ ∀ z ∈ l, Fits z := by
 have hi : Tryz.prog.underlying 3 = some (.int .i64) := by kernel_rfl
 rcases open_rowL Tryz.underlying22 (k := 1) (by kernel_rfl) hk h with rfl | ⟨b, off, len, cap, rfl, hl, hm, hlt, hx⟩
 · exact ⟨[], Sl.nil W, fun z hz => by cases hz⟩
 · have each : ∀ i, i < len → ∃ z : Int, W.cell? ⟨b, off + i, none⟩ = some (.int .i64 z) ∧ Fits z := fun i hi' => by
     obtain ⟨cs, n, x, hlen, hcell, ht⟩ := hx i hi'
     match cs, hlen with
     | [c0], _ =>
       obtain ⟨z0, e0, _, f0⟩ := DataW.trod_int hi ht
       have q := hcell 0 (by simp)
       rw [Nat.mul_one] at q
       simp at e0
       subst e0
       exact ⟨z0, q, fitsL_wf f0⟩
   obtain ⟨q, hq⟩ := choose_lt (α := Int) (h := each)
   refine ⟨(List.range len).map q, .inr ⟨b, off, cap, by simp, by simpa using hl, hm, hlt, fun j hj => ?_⟩, fun d hd => ?_⟩
   · have hj' : j < len := by simpa using hj
     rw [gi_map _ hj']; exact (hq j hj').1
   · obtain ⟨i, hi', rfl⟩ := List.mem_map.1 hd
     exact (hq i (List.mem_range.1 hi')).2
theorem row_numsL : Tryz.prog.cellTypes Tryz.prog.depth 24 = some [3, 3, 22, 22, 3] := by kernel_rfl
set_option maxRecDepth 100000 in
theorem open_nmL {b0 : Nat} {v : Value} {d : DataW H} {p : List MemPlace} (hv : Value.okWide Tryz.prog W .any b0 24 v) (h : DataW.Trod enc Tryz.prog W 0 sp held 24 v d p) :
   ∃ (x : NumL) (vc vh : Value), v = .agg #[.int .i64 x.cols, .int .i64 x.rows, vc, vh, .int .i64 x.miss] ∧ NumOk W x vc vh := by
 have hi : Tryz.prog.underlying 3 = some (.int .i64) := by kernel_rfl
 simp only [Value.okWide, Tryz.underlying24] at hv
 obtain ⟨cs, rfl, hsz, ts, hts, hlen, hrow⟩ := hv
 rw [row_numsL] at hts
 cases hts
 obtain ⟨fuel, hf⟩ := h
 have hsz5 : cs.size = 5 := by
   have : Tryz.prog.cellsOf 24 = 5 := by kernel_rfl
   simpa [this] using hsz
 obtain ⟨csl⟩ := cs
 match csl, hsz5 with
 | [c0, c1, c2, c3, c4], _ =>
   obtain ⟨xs, n, _, _, hl, hlen5, hfs⟩ := DataW.trod_struct Tryz.underlying24 hf
   have hc1 : Tryz.prog.cellsOf 3 = 1 := by kernel_rfl
   have hc2 : Tryz.prog.cellsOf 22 = 1 := by kernel_rfl
   have hx5 : xs.length = 5 := hlen5
   match xs, hx5 with
   | [y0, y1, y2, y3, y4], _ =>
   have g0 : DataW.trod enc Tryz.prog W 0 sp held n 3 [c0] = some y0 := by have := hfs 0 _ rfl; simpa [hc1, Value.cells] using this
   have g1 : DataW.trod enc Tryz.prog W 0 sp held n 3 [c1] = some y1 := by have := hfs 1 _ rfl; simpa [hc1, Value.cells] using this
   have g2 : DataW.trod enc Tryz.prog W 0 sp held n 22 [c2] = some y2 := by have := hfs 2 _ rfl; simpa [hc2, Value.cells] using this
   have g3 : DataW.trod enc Tryz.prog W 0 sp held n 22 [c3] = some y3 := by have := hfs 3 _ rfl; simpa [hc2, Value.cells] using this
   have g4 : DataW.trod enc Tryz.prog W 0 sp held n 3 [c4] = some y4 := by have := hfs 4 _ rfl; simpa [hc1, Value.cells] using this
   obtain ⟨z0, e0, _, f0⟩ := DataW.trod_int hi g0
   obtain ⟨z1, e1, _, f1⟩ := DataW.trod_int hi g1
   obtain ⟨z4, e4, _, f4⟩ := DataW.trod_int hi g4
   obtain ⟨u2, hu2, k2⟩ := hrow 2 c2 rfl
   obtain ⟨u3, hu3, k3⟩ := hrow 3 c3 rfl
   cases hu2
   cases hu3
   obtain ⟨lc, hlc, flc⟩ := open_intsL k2 g2
   obtain ⟨lh, hlh, flh⟩ := open_intsL k3 g3
   simp at e0 e1 e4
   subst e0; subst e1; subst e4
   exact ⟨⟨z0, z1, lc, lh, z4⟩, c2, c3, rfl, hlc, hlh, ⟨fitsL_wf f0, fitsL_wf f1, fitsL_wf f4⟩, flc, flh⟩
end
end Go.Proofs.YtcmomjnailihpaaGreatDoor
