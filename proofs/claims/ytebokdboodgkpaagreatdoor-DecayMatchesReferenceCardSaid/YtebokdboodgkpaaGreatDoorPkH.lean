/- PkH: RatO RatP RatS -/
import Derived.Test.YtebokdboodgkpaaGreatDoorPkG
import Derived.Deep.RegionHeld3
/- package rational: check, Make, Of, Mul, Div. -/
namespace Go.Proofs.YtebokdboodgkpaaGreatDoor
open Go.RowKit
attribute [local go_sem] Oper.semAt_some

theorem smallS {s : ByteArray} (h : okS s = true) : Small (zS s) := (I_zS h).2
theorem txtS {s : ByteArray} (h : okS s = true) : s = I (zS s) := (I_zS h).1
theorem qT_shape (c : Bool) (r : Rat) : ∃ s t e, qT c r = .tuple #[.agg #[.string s, .string t], .int .i64 e] := by
  unfold qT; split <;> exact ⟨_, _, _, rfl⟩
theorem qred_sh {a b : ByteArray} {x y : Int} {bad : Bool} (h : Txts bad a b x y) (w0 W : World) (B : Nat) (hc : Cx w0 W B bad) :
    ∃ s t e, qT (!bad && decide (y ≠ 0)) (Rat.divInt x y) = .tuple #[.agg #[.string s, .string t], .int .i64 e] ∧
      Calls Tryz.prog 78 #[.pointer (some ⟨B, 0, none⟩), .string a, .string b] W fun e' w' => e' = .returned (.tuple #[.agg #[.string s, .string t], .int .i64 e]) ∧ Only [B] W w' := by
  obtain ⟨s, t, e, hq⟩ := qT_shape (!bad && decide (y ≠ 0)) (Rat.divInt x y)
  exact ⟨s, t, e, hq, by rw [← hq]; exact qred_any h w0 W B hc⟩
/-- A fraction is stored as a result. -/
theorem res_after {W : World} {R : Nat} (hR : Blk W R #[.string ⟨#[]⟩, .string ⟨#[]⟩] 27) (p q : ByteArray) :
    W.cell? ⟨R, 0, none⟩ = some (.string ⟨#[]⟩) ∧ W.cell? ⟨R, 1, none⟩ = some (.string ⟨#[]⟩) ∧ W.frozen? ⟨R, 0, none⟩ = false ∧ W.frozen? ⟨R, 1, none⟩ = false ∧
      ((W.setCell ⟨R, 0, none⟩ (.string p)).setCell ⟨R, 1, none⟩ (.string q)).cell? ⟨R, 0, none⟩ = some (.string p) ∧ ((W.setCell ⟨R, 0, none⟩ (.string p)).setCell ⟨R, 1, none⟩ (.string q)).cell? ⟨R, 1, none⟩ = some (.string q) ∧
      (∀ V, Below V.heap.size V W → V.heap.size ≤ R → Below V.heap.size V ((W.setCell ⟨R, 0, none⟩ (.string p)).setCell ⟨R, 1, none⟩ (.string q))) := by
  have m2 := (hR.set 0 (.string p)).set 1 (.string q)
  exact ⟨(blk_two hR).1, (blk_two hR).2, hR.frozen 0, hR.frozen 1, m2.cell 0, m2.cell 1,
    fun V hb hV => (hb.setCell (p := ⟨R, 0, none⟩) hV _).setCell (p := ⟨R, 1, none⟩) hV _⟩
/-- A new calculation. -/
theorem wk_new (W : World) (bad : Bool) : ∃ W1, W1 = W.alloc (.cells #[.bool bad] 98) ∧ Wk W1 W.heap.size bad ∧ Below W.heap.size W W1 :=
  ⟨_, rfl, Blk.new _ _ _, (Below.refl _ _).alloc (Nat.le_refl _) _⟩

set_option maxRecDepth 100000 in
set_option maxHeartbeats 4000000 in
theorem qmake_a (a b : ByteArray) (ha : okS a = false) (w : World) (hE : Env w) :
    Calls Tryz.prog 61 #[.string a, .string b] w (Rets w (qT false 0)) := by
  have V1 := fun W => Valid_any a W
  rw [ha] at V1
  clear ha
  obtain ⟨W1, hW1, hR1, hB1⟩ := box_two w (.string ⟨#[]⟩) (.string ⟨#[]⟩) 27
  go_enter Tryz.func61, Tryz.ntmps61
  go_wp2_with fail
  rw [← hW1]
  clear hW1
  refine (V1 _).mono ?_
  rintro e w2 ⟨rfl, hb⟩
  have hR2 := hR1.below hb
  have hB2 := kb_call hb hB1 (Nat.le_refl _)
  clear hR1 hB1 hb V1
  obtain ⟨_, rfl, hk3, hb3⟩ := wk_new w2 true
  have hR3 := hR2.below hb3
  have hB3 := kb_call hb3 hB2 (Nat.le_refl _)
  have hne : w.heap.size ∉ [w2.heap.size] := by have := hR2.lt; simp; omega
  have hle := hB2.size
  go_wp2_with fail
  obtain ⟨s, t, e, hq, RQ⟩ := qred_sh (x := 0) (y := 0) (bad := true) (fun e => by cases e) _ _ _ ⟨hE, hB3, hle, hk3⟩
  have HQ := Lib.hid hq
  clear hq
  refine RQ.mono ?_
  rintro e' w9 ⟨rfl, ho⟩
  clear RQ
  have hR9 := hR3.only ho hne
  have hB9 := hB3.trans (ho.toBelow hB3.size (fun k hk => by simp at hk; subst hk; exact hle))
  obtain ⟨k0, k1, f0, f1, y0, y1, hfin⟩ := res_after hR9 s t
  have hfin := Lib.hid (hfin w hB9 (Nat.le_refl _))
  clear ho hR9 hB9 
  go_wp2
  refine bodyPost_ret (v := .tuple #[.agg #[.string s, .string t], .int .i64 e]) (by simp [results, Tryz.results61, go_sem, y0, y1]) rfl ?_
  exact ⟨(congrArg Ending.returned (HQ.out.symm.trans (rfl))), hfin.out⟩
set_option maxRecDepth 100000 in
set_option maxHeartbeats 4000000 in
theorem qmake_b (a b : ByteArray) (ha : okS a = true) (w : World) (hE : Env w) :
    Calls Tryz.prog 61 #[.string a, .string b] w (Rets w (qT (okS b && decide (zS b ≠ 0)) (Rat.divInt (zS a) (zS b)))) := by
  have V1 := fun W => Valid_any a W
  have V2 := fun W => Valid_any b W
  have hx : Txts (!okS b) a b (zS a) (zS b) := fun e => by
    have hb : okS b = true := by simpa using e
    exact ⟨txtS ha, txtS hb, smallS ha, smallS hb⟩
  rw [ha] at V1
  have HBB := Lib.hid (show (!(!okS b) && decide (zS b ≠ 0)) = (okS b && decide (zS b ≠ 0)) by rw [Bool.not_not])
  generalize hbb : okS b = bb at *
  clear ha hbb
  obtain ⟨W1, hW1, hR1, hB1⟩ := box_two w (.string ⟨#[]⟩) (.string ⟨#[]⟩) 27
  go_enter Tryz.func61, Tryz.ntmps61
  go_wp2_with fail
  rw [← hW1]
  clear hW1
  refine (V1 _).mono ?_
  rintro e w2 ⟨rfl, hb⟩
  have hR2 := hR1.below hb
  have hB2 := kb_call hb hB1 (Nat.le_refl _)
  clear hR1 hB1 hb V1
  go_wp2_with fail
  refine (V2 _).mono ?_
  rintro e w4 ⟨rfl, hb⟩
  have hR4 := hR2.below hb
  have hB4 := kb_call hb hB2 (Nat.le_refl _)
  clear hR2 hB2 hb V2
  obtain ⟨_, rfl, hk3, hb3⟩ := wk_new w4 (!bb)
  have hR3 := hR4.below hb3
  have hB3 := kb_call hb3 hB4 (Nat.le_refl _)
  have hne : w.heap.size ∉ [w4.heap.size] := by have := hR4.lt; simp; omega
  have hle := hB4.size
  go_wp2_with fail
  obtain ⟨s, t, e, hq, RQ⟩ := qred_sh (x := zS a) (y := zS b) (bad := !bb) hx _ _ _ ⟨hE, hB3, hle, hk3⟩
  have HQ := Lib.hid hq
  clear hq
  refine RQ.mono ?_
  rintro e' w9 ⟨rfl, ho⟩
  clear RQ
  have hR9 := hR3.only ho hne
  have hB9 := hB3.trans (ho.toBelow hB3.size (fun k hk => by simp at hk; subst hk; exact hle))
  obtain ⟨k0, k1, f0, f1, y0, y1, hfin⟩ := res_after hR9 s t
  have hfin := Lib.hid (hfin w hB9 (Nat.le_refl _))
  clear ho hR9 hB9 
  go_wp2
  refine bodyPost_ret (v := .tuple #[.agg #[.string s, .string t], .int .i64 e]) (by simp [results, Tryz.results61, go_sem, y0, y1]) rfl ?_
  exact ⟨(congrArg Ending.returned (HQ.out.symm.trans (by rw [HBB.out]))), hfin.out⟩
/-- rational.Make. -/
theorem qmake_any (a b : ByteArray) (w : World) (hE : Env w) :
    Calls Tryz.prog 61 #[.string a, .string b] w (Rets w (qT (okS a && okS b && decide (zS b ≠ 0)) (Rat.divInt (zS a) (zS b)))) := by
  cases h : okS a with
  | false => rw [Bool.false_and, Bool.false_and, qT_false _ 0]; exact qmake_a a b h w hE
  | true => rw [Bool.true_and]; exact qmake_b a b h w hE

set_option maxRecDepth 100000 in
set_option maxHeartbeats 4000000 in
/-- rational.Of. -/
theorem qof_any (n d : Int) (hn : Fits n) (hd : Fits d) (w : World) (hE : Env w) :
    Calls Tryz.prog 38 #[.int .i64 n, .int .i64 d] w (Rets w (qT (decide (d ≠ 0)) (Rat.divInt n d))) := by
  have F1 := fun W (hE : Env W) => fromInt_is n hn W hE
  have F2 := fun W (hE : Env W) => fromInt_is d hd W hE
  have Bn : Bd 20 n := by unfold Fits at hn; unfold Bd; omega
  have Bq : Bd 20 d := by unfold Fits at hd; unfold Bd; omega
  have sn := Bn.small (by decide)
  have sd := Bq.small (by decide)
  have M1 := fun W (hE : Env W) => qmake_any (I n) (I d) W hE
  rw [okS_I sn, okS_I sd, zS_I, zS_I, show (true && true && decide (d ≠ 0)) = decide (d ≠ 0) from rfl] at M1
  generalize decide (d ≠ 0) = c at *
  obtain ⟨s, t, e, hq⟩ := qT_shape c (Rat.divInt n d)
  rw [hq] at M1 ⊢
  clear hq
  generalize I n = a at *
  generalize I d = b at *
  clear hn hd Bn Bq sn sd
  obtain ⟨W1, hW1, hR1, hB1⟩ := box_two w (.string ⟨#[]⟩) (.string ⟨#[]⟩) 27
  go_enter Tryz.func38, Tryz.ntmps38
  go_wp2_with fail
  rw [← hW1]
  clear hW1
  refine (F1 _ (hE.below hB1 (Nat.le_refl _))).mono ?_
  rintro e w2 ⟨rfl, hb⟩
  have hR2 := hR1.below hb
  have hB2 := kb_call hb hB1 (Nat.le_refl _)
  clear hR1 hB1 hb F1
  go_wp2_with fail
  refine (F2 _ (hE.below hB2 (Nat.le_refl _))).mono ?_
  rintro e w3 ⟨rfl, hb⟩
  have hR3 := hR2.below hb
  have hB3 := kb_call hb hB2 (Nat.le_refl _)
  clear hR2 hB2 hb F2
  go_wp2_with fail
  refine (M1 _ (hE.below hB3 (Nat.le_refl _))).mono ?_
  rintro e w4 ⟨rfl, hb⟩
  have hR4 := hR3.below hb
  have hB4 := kb_call hb hB3 (Nat.le_refl _)
  clear hR3 hB3 hb M1
  obtain ⟨k0, k1, f0, f1, y0, y1, hfin⟩ := res_after hR4 s t
  have hfin := Lib.hid (hfin w hB4 (Nat.le_refl _))
  clear hR4 hB4
  go_wp2
  refine bodyPost_ret (v := .tuple #[.agg #[.string s, .string t], .int .i64 e]) (by simp [results, Tryz.results38, go_sem, y0, y1]) rfl ?_
  exact ⟨rfl, hfin.out⟩

/-- The fractions of a list that lie in a block. -/
def RatsAt (W : World) (S : Nat) (l : List (ByteArray × ByteArray)) : Prop := ∀ (j : Nat) (h : j < l.length), W.cell? ⟨S, j * 2, none⟩ = some (.string (l[j]).1) ∧ W.cell? ⟨S, j * 2 + 1, none⟩ = some (.string (l[j]).2)
def allOk (l : List (ByteArray × ByteArray)) : Bool := l.all fun r => rOk r.1 r.2
theorem allOk_snoc (l : List (ByteArray × ByteArray)) (k : Nat) (h : k < l.length) : allOk (l.take (k + 1)) = (allOk (l.take k) && rOk (l[k]).1 (l[k]).2) := by
  unfold allOk
  rw [List.take_succ_eq_append_getElem h, List.all_append]
  simp
theorem RatsAt.only {B : List Nat} {W W' : World} {S : Nat} {l : List (ByteArray × ByteArray)} (h : RatsAt W S l) (ho : Only B W W') (hS : S < W.heap.size) (hB : S ∉ B) : RatsAt W' S l := fun j hj =>
  ⟨(ho.cell (p := ⟨S, j * 2, none⟩) hS hB).trans (h j hj).1, (ho.cell (p := ⟨S, j * 2 + 1, none⟩) hS hB).trans (h j hj).2⟩

set_option maxRecDepth 100000 in
set_option maxHeartbeats 4000000 in
/-- work.check. -/
theorem qcheck_any (l : List (ByteArray × ByteArray)) (S c : Nat) (bad : Bool) (w0 W : World) (B : Nat) (hx : Cx w0 W B bad) (hl : RatsAt W S l) (hS : S < W.heap.size) (hne : S ≠ B) (hlen : l.length ≤ 1000) :
    Calls Tryz.prog 76 #[.pointer (some ⟨B, 0, none⟩), .slice (some ⟨S, 0, none⟩) l.length c] W fun e w' => e = .returned (.tuple #[]) ∧ Wk w' B (bad || !allOk l) ∧ Only [B] W w' := by
  have Hne : S ∉ [B] := by simp; exact hne
  go_enter Tryz.func76, Tryz.ntmps76
  go_wp2
  go_loopw [8] (fun i wr => ∃ k : Nat, i = .int .i64 k ∧ k ≤ l.length ∧ Wk wr B (bad || !allOk (l.take k)) ∧ Only [B] W wr) (fun i _ => l.length - (intOf i).toNat)
  case atStart => exact ⟨0, rfl, by omega, (by have := hx.wk; simpa [allOk] using this), Only.refl _ _⟩
  case round =>
    obtain ⟨k, rfl, hk, hwk, ho⟩ := hrel
    have hcx := hx.next hwk ho
    by_cases hlt : k < l.length
    · obtain ⟨d0, d1⟩ := hl.only ho hS Hne k hlt
      have c0 := hwk.c0
      have f0 := hwk.f0
      generalize hbk : (bad || !allOk (l.take k)) = bk at *
      have hnx : (bad || !allOk (l.take (k + 1))) = (bk || !rOk (l[k]).1 (l[k]).2) := by
        rw [allOk_snoc l k hlt, ← hbk]; cases bad <;> cases allOk (l.take k) <;> simp
      have Hnx := Lib.hid hnx
      clear hnx hbk
      have Q := fun W (hE : Env W) => qvalid_any (l[k]).1 (l[k]).2 W hE
      generalize (l[k]).1 = n at *
      generalize (l[k]).2 = d at *
      generalize rOk n d = b at *
      have hi0 : (0 : Int) ≤ (k : Int) := by omega
      have hi1 : (k : Int) < (l.length : Int) := by omega
      obtain ⟨W1, hW1, hr1, hb1⟩ := box_two wr (.string n) (.string d) 27
      have hk1 := hwk.below hb1
      have ho1 := ho.below hb1
      have e0 := hk1.c0
      have g0 := hk1.f0
      cases bk with
      | true =>
        have hk2 := hk1.set true
        have ho2 := ho1.setCell (p := ⟨B, 0, none⟩) (by simp) (.bool true)
        rw [hW1] at e0 g0 hk2 ho2
        clear Q hk1 ho1 hr1 hb1 hW1 c0 f0 hwk ho hcx
        go_wp2
        go_roundw
        case rel => exact ⟨k + 1, by go_num, by omega, (by rw [Hnx.out]; exact hk2), ho2⟩
        case measure => simp [intOf]; omega
      | false =>
        have r0 := (blk_two hr1).1
        have r1 := (blk_two hr1).2
        rw [hW1] at e0 g0 r0 r1 hk1 ho1 hb1
        have hcx1 := hcx.call hb1
        clear hcx ho hwk c0 f0 hr1 hW1
        go_wp2_with fail
        refine (Q _ hcx1.envW).mono ?_
        rintro e w2 ⟨rfl, hb2⟩
        have hk2 := hk1.below hb2
        have ho2 := ho1.below hb2
        have hk3 := hk2.set (!b)
        have ho3 := ho2.setCell (p := ⟨B, 0, none⟩) (by simp) (.bool (!b))
        clear hk1 ho1 hcx1 e0 g0 r0 r1 hb2 hb1
        have e0 := hk2.c0
        have g0 := hk2.f0
        go_wp2
        go_roundw
        case rel => exact ⟨k + 1, by go_num, by omega, (by rw [Hnx.out, Bool.false_or]; exact hk3), ho3⟩
        case measure => simp [intOf]; omega
    · have hkl : k = l.length := by omega
      subst hkl
      rw [List.take_of_length_le (Nat.le_refl _)] at hwk
      go_wp2
      go_end0
      exact ⟨rfl, hwk, ho⟩

end Go.Proofs.YtebokdboodgkpaaGreatDoor

/- package rational: Mul, Div. -/
namespace Go.Proofs.YtebokdboodgkpaaGreatDoor
open Go.RowKit
attribute [local go_sem] Oper.semAt_some

/-- The blocks with which an operation on two fractions begins. -/
theorem ops_start (w : World) (n1 d1 n2 d2 : ByteArray) : ∃ W,
    W = ((((w.alloc (.cells #[.string n1, .string d1] 27)).alloc (.cells #[.string n2, .string d2] 27)).alloc (.cells #[.string ⟨#[]⟩, .string ⟨#[]⟩] 27)).alloc (.cells #[.bool false] 98)).alloc (.cells #[.string n1, .string d1, .string n2, .string d2] 27) ∧
    Blk W w.heap.size #[.string n1, .string d1] 27 ∧ Blk W (w.heap.size + 1) #[.string n2, .string d2] 27 ∧ Blk W (w.heap.size + 1 + 1) #[.string ⟨#[]⟩, .string ⟨#[]⟩] 27 ∧
    Wk W (w.heap.size + 1 + 1 + 1) false ∧ RatsAt W (w.heap.size + 1 + 1 + 1 + 1) [(n1, d1), (n2, d2)] ∧ Below w.heap.size w W ∧ W.heap.size = w.heap.size + 1 + 1 + 1 + 1 + 1 := by
  obtain ⟨V1, e1, a1, b1⟩ := box_two w (.string n1) (.string d1) 27
  obtain ⟨V2, e2, a2, b2⟩ := box_two V1 (.string n2) (.string d2) 27
  obtain ⟨V3, e3, a3, b3⟩ := box_two V2 (.string ⟨#[]⟩) (.string ⟨#[]⟩) 27
  obtain ⟨V4, e4, a4, b4⟩ := wk_new V3 false
  have z1 : V1.heap.size = w.heap.size + 1 := by rw [e1, World.size_alloc]
  have z2 : V2.heap.size = w.heap.size + 1 + 1 := by rw [e2, World.size_alloc, z1]
  have z3 : V3.heap.size = w.heap.size + 1 + 1 + 1 := by rw [e3, World.size_alloc, z2]
  have z4 : V4.heap.size = w.heap.size + 1 + 1 + 1 + 1 := by rw [e4, World.size_alloc, z3]
  have a5 := Blk.new V4 #[.string n1, .string d1, .string n2, .string d2] 27
  have b5 : Below V4.heap.size V4 (V4.alloc (.cells #[.string n1, .string d1, .string n2, .string d2] 27)) := (Below.refl _ _).alloc (Nat.le_refl _) _
  rw [z1] at a2
  rw [z2] at a3
  rw [z3] at a4
  rw [z4] at a5
  refine ⟨_, rfl, ?_⟩
  rw [← e1, ← e2, ← e3, ← e4]
  refine ⟨(((a1.below b2).below b3).below b4).below b5, ((a2.below b3).below b4).below b5, (a3.below b4).below b5, a4.below b5, ?_, ?_, by rw [World.size_alloc, z4]⟩
  · intro j hj
    match j, hj with
    | 0, _ => exact ⟨a5.cell 0, a5.cell 1⟩
    | 1, _ => exact ⟨a5.cell 2, a5.cell 3⟩
  · exact kb_call b5 (kb_call b4 (kb_call b3 (kb_call b2 b1 (Nat.le_refl _)) (Nat.le_refl _)) (Nat.le_refl _)) (Nat.le_refl _)
theorem rats_le {n1 d1 n2 d2 : ByteArray} : allOk [(n1, d1), (n2, d2)] = (rOk n1 d1 && rOk n2 d2) := by simp [allOk]
theorem both_parts {n1 d1 n2 d2 : ByteArray} (h : (!(rOk n1 d1 && rOk n2 d2)) = false) : okS n1 = true ∧ okS d1 = true ∧ okS n2 = true ∧ okS d2 = true := by
  have h1 : rOk n1 d1 = true ∧ rOk n2 d2 = true := by simpa using h
  have p1 := rOk_parts h1.1
  have p2 := rOk_parts h1.2
  exact ⟨p1.1, p1.2.1, p2.1, p2.2.1⟩
theorem txts_of {bad c : Bool} {a b : ByteArray} (hc : bad = false → c = false) (h : c = false → okS a = true ∧ okS b = true) : Txts bad a b (zS a) (zS b) := fun e => by
  obtain ⟨h1, h2⟩ := h (hc e)
  exact ⟨txtS h1, txtS h2, smallS h1, smallS h2⟩

set_option maxRecDepth 100000 in
set_option maxHeartbeats 8000000 in
/-- rational.Mul. -/
theorem qMul_any (n1 d1 n2 d2 : ByteArray) (w : World) (hE : Env w) :
    Calls Tryz.prog 53 #[.agg #[.string n1, .string d1], .agg #[.string n2, .string d2]] w
      (Rets w (qT (rOk n1 d1 && rOk n2 d2 && decide (Small (zS n1 * zS n2)) && decide (Small (zS d1 * zS d2)) && decide (zS d1 * zS d2 ≠ 0)) (Rat.divInt (zS n1 * zS n2) (zS d1 * zS d2)))) := by
  obtain ⟨W, hW, hA, hC, hR, hk, hl, hB, hz⟩ := ops_start w n1 d1 n2 d2
  have hle : w.heap.size ≤ w.heap.size + 1 + 1 + 1 := by omega
  have hcx : Cx w W (w.heap.size + 1 + 1 + 1) false := ⟨hE, hB, hle, hk⟩
  have K := qcheck_any [(n1, d1), (n2, d2)] (w.heap.size + 1 + 1 + 1 + 1) 2 false w W _ hcx hl (by omega) (by omega) (by simp)
  rw [rats_le, Bool.false_or] at K
  have hp := both_parts (n1 := n1) (d1 := d1) (n2 := n2) (d2 := d2)
  generalize hg0 : (!(rOk n1 d1 && rOk n2 d2)) = g0 at *
  go_enter Tryz.func53, Tryz.ntmps53
  go_wp2_with fail
  rw [← hW]
  clear hW hl hk hz
  refine K.mono ?_
  rintro e w1 ⟨rfl, hk, ho⟩
  have c1 := hcx.next hk ho
  have A1 := hA.only ho (by simp <;> omega)
  have C1 := hC.only ho (by simp <;> omega)
  have R1 := hR.only ho (by simp <;> omega)
  clear hcx hA hC hR hk ho hB K
  obtain ⟨x0, x1⟩ := blk_two A1
  obtain ⟨x2, x3⟩ := blk_two C1
  go_wp2_with fail
  refine (qmul_any (txts_of (fun e => e) (fun e => ⟨(hp e).1, (hp e).2.2.1⟩)) _ c1.envW _ c1.wk).mono ?_
  rintro e w2 ⟨s1, rfl, hk, ho, hs1⟩
  generalize hg1 : (g0 || !decide (Small (zS n1 * zS n2))) = g1 at *
  have i1 : g1 = false → g0 = false := fun e => by rw [e] at hg1; exact (Bool.or_eq_false_iff.1 hg1).1
  have c2 := c1.next hk ho
  have A2 := A1.only ho (by simp <;> omega)
  have C2 := C1.only ho (by simp <;> omega)
  have R2 := R1.only ho (by simp <;> omega)
  clear c1 A1 C1 R1 hk ho x0 x1 x2 x3
  obtain ⟨x0, x1⟩ := blk_two A2
  obtain ⟨x2, x3⟩ := blk_two C2
  have hs1 := Lib.hid hs1
  have HG1 := Lib.hid hg1
  have HG0 := Lib.hid hg0
  clear hg1 hg0
  go_wp2_with fail
  refine (qmul_any (txts_of i1 (fun e => ⟨(hp e).2.1, (hp e).2.2.2⟩)) _ c2.envW _ c2.wk).mono ?_
  rintro e w3 ⟨s2, rfl, hk, ho, hs2⟩
  generalize hg2 : (g1 || !decide (Small (zS d1 * zS d2))) = g2 at *
  have i2 : g2 = false → g1 = false := fun e => by rw [e] at hg2; exact (Bool.or_eq_false_iff.1 hg2).1
  have c3 := c2.next hk ho
  have R3 := R2.only ho (by simp <;> omega)
  clear c2 A2 C2 R2 hk ho x0 x1 x2 x3
  have hs2 := Lib.hid hs2
  have HG2 := Lib.hid hg2
  clear hg2
  go_wp2_with fail
  obtain ⟨s, t, er, hq, RQ⟩ := qred_sh (x := zS n1 * zS n2) (y := zS d1 * zS d2) (bad := g2) (fun e => ⟨(hs1.out (i2 e)).1, (hs2.out e).1, (hs1.out (i2 e)).2, (hs2.out e).2⟩) _ _ _ c3
  have HQ := Lib.hid hq
  clear hq
  refine RQ.mono ?_
  rintro e w4 ⟨rfl, ho⟩
  have R4 := R3.only ho (by simp <;> omega)
  have B4 := c3.below.trans (ho.toBelow c3.below.size (fun k hk => by simp at hk; subst hk; exact hle))
  clear RQ c3 R3 ho
  obtain ⟨k0, k1, f0, f1, y0, y1, hfin⟩ := res_after R4 s t
  have hfin := Lib.hid (hfin w B4 (by omega))
  clear R4 B4
  go_wp2
  refine bodyPost_ret (v := .tuple #[.agg #[.string s, .string t], .int .i64 er]) (by simp [results, Tryz.results53, go_sem, y0, y1]) rfl ?_
  refine ⟨congrArg Ending.returned (HQ.out.symm.trans ?_), hfin.out⟩
  rw [← HG2.out, ← HG1.out, ← HG0.out]
  simp only [Bool.not_or, Bool.not_not]
end Go.Proofs.YtebokdboodgkpaaGreatDoor

/- package rational: sum, Add, Sub. -/
namespace Go.Proofs.YtebokdboodgkpaaGreatDoor
open Go.RowKit
attribute [local go_sem] Oper.semAt_some

/-- A step with an operation: what it makes of two integers. -/
def Steps (f : Nat) (z : Int → Int → Int) : Prop := ∀ (a b : ByteArray) (x y : Int) (bad : Bool), Txts bad a b x y → ∀ (W : World), Env W → ∀ (B : Nat), Wk W B bad →
  Calls Tryz.prog 104 #[.pointer (some ⟨B, 0, none⟩), .func (.func f) #[] #[], .string a, .string b] W (DoP W B (bad || !decide (Small (z x y))) (z x y))
theorem steps_add : Steps 80 (fun x y => x + y) := fun _ _ _ _ _ h W hE B hk => qdo_add h W hE B hk
theorem steps_sub : Steps 106 (fun x y => x - y) := fun _ _ _ _ _ h W hE B hk => qdo_sub h W hE B hk
/-- The two arguments' blocks and the result's. -/
structure Ops (w W : World) (n1 d1 n2 d2 : ByteArray) (g : Bool) : Prop where
  cx : Cx w W (w.heap.size + 1 + 1 + 1) g
  a : Blk W w.heap.size #[.string n1, .string d1] 27
  c : Blk W (w.heap.size + 1) #[.string n2, .string d2] 27
  r : Blk W (w.heap.size + 1 + 1) #[.string ⟨#[]⟩, .string ⟨#[]⟩] 27
theorem Ops.next {w W W' : World} {n1 d1 n2 d2 : ByteArray} {g h : Bool} (o : Ops w W n1 d1 n2 d2 g) (hk : Wk W' (w.heap.size + 1 + 1 + 1) h) (ho : Only [w.heap.size + 1 + 1 + 1] W W') : Ops w W' n1 d1 n2 d2 h :=
  ⟨o.cx.next hk ho, o.a.only ho (by simp <;> omega), o.c.only ho (by simp <;> omega), o.r.only ho (by simp <;> omega)⟩
theorem Ops.drew {w W : World} {n1 d1 n2 d2 : ByteArray} {g : Bool} (o : Ops w W n1 d1 n2 d2 g) : Ops w W.drew n1 d1 n2 d2 g :=
  o.next (o.cx.wk.below (below_drewN W 1)) (Only.of_below (below_drewN W 1))
theorem Ops.cells {w W : World} {n1 d1 n2 d2 : ByteArray} {g : Bool} (o : Ops w W n1 d1 n2 d2 g) :
    W.cell? ⟨w.heap.size, 0, none⟩ = some (.string n1) ∧ W.cell? ⟨w.heap.size, 1, none⟩ = some (.string d1) ∧ W.cell? ⟨w.heap.size + 1, 0, none⟩ = some (.string n2) ∧ W.cell? ⟨w.heap.size + 1, 1, none⟩ = some (.string d2) :=
  ⟨(blk_two o.a).1, (blk_two o.a).2, (blk_two o.c).1, (blk_two o.c).2⟩
theorem and_part {a b : Bool} (h : (a || b) = false) : a = false := (Bool.or_eq_false_iff.1 h).1

set_option maxRecDepth 100000 in
set_option maxHeartbeats 8000000 in
/-- rational.sum. -/
theorem qsum_any (f : Nat) (z : Int → Int → Int) (hz : Steps f z) (n1 d1 n2 d2 : ByteArray) (w : World) (hE : Env w) :
    Calls Tryz.prog 79 #[.func (.func f) #[] #[], .agg #[.string n1, .string d1], .agg #[.string n2, .string d2]] w
      (Rets w (qT (rOk n1 d1 && rOk n2 d2 && decide (Small (zS n1 * zS d2)) && decide (Small (zS n2 * zS d1)) && decide (Small (z (zS n1 * zS d2) (zS n2 * zS d1))) && decide (Small (zS d1 * zS d2)) && decide (zS d1 * zS d2 ≠ 0)) (Rat.divInt (z (zS n1 * zS d2) (zS n2 * zS d1)) (zS d1 * zS d2)))) := by
  obtain ⟨W, hW, hA, hC, hR, hk, hl, hB, hsz⟩ := ops_start w n1 d1 n2 d2
  have hle : w.heap.size ≤ w.heap.size + 1 + 1 + 1 := by omega
  have hcx : Cx w W (w.heap.size + 1 + 1 + 1) false := ⟨hE, hB, hle, hk⟩
  have K := qcheck_any [(n1, d1), (n2, d2)] (w.heap.size + 1 + 1 + 1 + 1) 2 false w W _ hcx hl (by omega) (by omega) (by simp)
  rw [rats_le, Bool.false_or] at K
  have hp := both_parts (n1 := n1) (d1 := d1) (n2 := n2) (d2 := d2)
  have o0 : Ops w W n1 d1 n2 d2 false := ⟨hcx, hA, hC, hR⟩
  generalize hg0 : (!(rOk n1 d1 && rOk n2 d2)) = g0 at *
  have hz := Lib.hid hz
  go_enter Tryz.func79, Tryz.ntmps79
  go_wp2_with fail
  rw [← hW]
  clear hW hl hk hsz hcx hA hC hR hB
  refine K.mono ?_
  rintro e w1 ⟨rfl, hk, ho⟩
  have o1 := o0.next hk ho
  clear o0 hk ho K
  have p1 := o1.drew
  have T1 := txts_of (bad := g0) (c := g0) (a := n1) (b := d2) (fun e => e) (fun e => ⟨(hp e).1, (hp e).2.2.2⟩)
  obtain ⟨x0, x1, x2, x3⟩ := o1.cells
  have HG0 := Lib.hid hg0
  clear hg0
  have p1 := Lib.hid p1
  have T1 := Lib.hid T1
  have hp := Lib.hid hp
  clear o1
  go_wp2_with fail
  go_region_held3 (fun w' => w'.cell? ⟨w.heap.size, 0, none⟩ = some (.string n1) ∧ w'.cell? ⟨w.heap.size, 1, none⟩ = some (.string d1) ∧ w'.cell? ⟨w.heap.size + 1, 0, none⟩ = some (.string n2) ∧ w'.cell? ⟨w.heap.size + 1, 1, none⟩ = some (.string d2))
    (first | exact o4.out.cells | exact o3.out.cells | exact o2.out.cells | exact p1.out.cells | go_keep)
    (first | (go_at_call 104; refine (hz.out _ _ _ _ _ T3.out _ o3.out.cx.envW _ o3.out.cx.wk).mono ?_; rintro e w4 ⟨s3, rfl, hk, ho, hs3⟩; have o4 := Lib.hid (o3.out.next hk ho); have hs3 := Lib.hid hs3; clear hk ho) | (go_at_call 77; refine (qmul_any T2.out _ o2.out.cx.envW _ o2.out.cx.wk).mono ?_; rintro e w3 ⟨s2, rfl, hk, ho, hs2⟩; have o3 := Lib.hid (o2.out.next hk ho); have hs2 := Lib.hid hs2; clear hk ho; have T3 := Lib.hid (show Txts ((g0 || !decide (Small (zS n1 * zS d2))) || !decide (Small (zS n2 * zS d1))) s1 s2 (zS n1 * zS d2) (zS n2 * zS d1) from fun e => ⟨(hs1.out (and_part e)).1, (hs2.out e).1, (hs1.out (and_part e)).2, (hs2.out e).2⟩)) | (go_at_call 77; refine (qmul_any T1.out _ p1.out.cx.envW _ p1.out.cx.wk).mono ?_; rintro e w2 ⟨s1, rfl, hk, ho, hs1⟩; have o2 := Lib.hid (p1.out.next hk ho); have hs1 := Lib.hid hs1; clear hk ho; have T2 := Lib.hid (txts_of (bad := g0 || !decide (Small (zS n1 * zS d2))) (c := g0) (a := n2) (b := d1) and_part (fun e => ⟨(hp.out e).2.2.1, (hp.out e).2.1⟩))))
  clear T1 T2 T3 p1 o2 o3 x0 x1 x2 x3
  obtain ⟨x0, x1, x2, x3⟩ := o4.out.cells
  have T4 := Lib.hid (txts_of (bad := g0 || !decide (Small (zS n1 * zS d2)) || !decide (Small (zS n2 * zS d1)) || !decide (Small (z (zS n1 * zS d2) (zS n2 * zS d1)))) (c := g0) (a := d1) (b := d2) (fun e => and_part (and_part (and_part e))) (fun e => ⟨(hp.out e).2.1, (hp.out e).2.2.2⟩))
  go_wp2_with fail
  refine (qmul_any T4.out _ o4.out.cx.envW _ o4.out.cx.wk).mono ?_
  rintro e w5 ⟨s4, rfl, hk, ho, hs4⟩
  have o5 := o4.out.next hk ho
  have c5 := o5.cx
  have R5 := o5.r
  have hs4 := Lib.hid hs4
  clear hk ho o4 x0 x1 x2 x3 T4 o5
  generalize hg5 : (g0 || !decide (Small (zS n1 * zS d2)) || !decide (Small (zS n2 * zS d1)) || !decide (Small (z (zS n1 * zS d2) (zS n2 * zS d1))) || !decide (Small (zS d1 * zS d2))) = g5 at *
  have HG5 := Lib.hid hg5
  clear hg5
  have T5 : Txts g5 s3 s4 (z (zS n1 * zS d2) (zS n2 * zS d1)) (zS d1 * zS d2) := fun e => ⟨(hs3.out (and_part (HG5.out.trans e))).1, (hs4.out e).1, (hs3.out (and_part (HG5.out.trans e))).2, (hs4.out e).2⟩
  go_wp2_with fail
  obtain ⟨s, t, er, hq, RQ⟩ := qred_sh T5 _ _ _ c5
  have HQ := Lib.hid hq
  clear hq T5
  refine RQ.mono ?_
  rintro e w6 ⟨rfl, ho⟩
  have R6 := R5.only ho (by simp <;> omega)
  have B6 := c5.below.trans (ho.toBelow c5.below.size (fun k hk => by simp at hk; subst hk; exact hle))
  clear RQ c5 R5 ho
  obtain ⟨k0, k1, f0, f1, y0, y1, hfin⟩ := res_after R6 s t
  have hfin := Lib.hid (hfin w B6 (by omega))
  clear R6 B6
  go_wp2
  refine bodyPost_ret (v := .tuple #[.agg #[.string s, .string t], .int .i64 er]) (by simp [results, Tryz.results79, go_sem, y0, y1]) rfl ?_
  refine ⟨congrArg Ending.returned (HQ.out.symm.trans ?_), hfin.out⟩
  rw [← HG5.out, ← HG0.out]
  simp only [Bool.not_or, Bool.not_not]
set_option maxRecDepth 100000 in
set_option maxHeartbeats 8000000 in
/-- putlog/rational.Add. -/
theorem qAdd_any (n1 d1 n2 d2 : ByteArray) (w : World) (hE : Env w) :
    Calls Tryz.prog 54 #[.agg #[.string n1, .string d1], .agg #[.string n2, .string d2]] w
      (Rets w (qT (rOk n1 d1 && rOk n2 d2 && decide (Small (zS n1 * zS d2)) && decide (Small (zS n2 * zS d1)) && decide (Small (zS n1 * zS d2 + zS n2 * zS d1)) && decide (Small (zS d1 * zS d2)) && decide (zS d1 * zS d2 ≠ 0)) (Rat.divInt (zS n1 * zS d2 + zS n2 * zS d1) (zS d1 * zS d2)))) := by
  have Q := fun W (hE : Env W) => qsum_any _ _ steps_add n1 d1 n2 d2 W hE
  generalize (rOk n1 d1 && rOk n2 d2 && decide (Small (zS n1 * zS d2)) && decide (Small (zS n2 * zS d1)) && decide (Small (zS n1 * zS d2 + zS n2 * zS d1)) && decide (Small (zS d1 * zS d2)) && decide (zS d1 * zS d2 ≠ 0)) = c at *
  generalize Rat.divInt (zS n1 * zS d2 + zS n2 * zS d1) (zS d1 * zS d2) = r at *
  obtain ⟨s, t, e, hq⟩ := qT_shape c r
  rw [hq] at Q ⊢
  clear hq
  obtain ⟨V1, e1, a1, b1⟩ := box_two w (.string n1) (.string d1) 27
  obtain ⟨V2, e2, a2, b2⟩ := box_two V1 (.string n2) (.string d2) 27
  obtain ⟨V3, e3, R3, b3⟩ := box_two V2 (.string ⟨#[]⟩) (.string ⟨#[]⟩) 27
  have z1 : V1.heap.size = w.heap.size + 1 := by rw [e1, World.size_alloc]
  have z2 : V2.heap.size = w.heap.size + 1 + 1 := by rw [e2, World.size_alloc, z1]
  rw [z2] at R3
  have B3 : Below w.heap.size w V3 := kb_call b3 (kb_call b2 b1 (Nat.le_refl _)) (Nat.le_refl _)
  have hV : V3 = ((w.alloc (.cells #[.string n1, .string d1] 27)).alloc (.cells #[.string n2, .string d2] 27)).alloc (.cells #[.string ⟨#[]⟩, .string ⟨#[]⟩] 27) := by rw [e3, e2, e1]
  clear e1 e2 e3 a1 a2 b1 b2 b3 z1 z2
  go_enter Tryz.func54, Tryz.ntmps54
  go_wp2_with fail
  rw [← hV]
  clear hV
  refine (Q _ (hE.below B3 (Nat.le_refl _))).mono ?_
  rintro e' w4 ⟨rfl, hb⟩
  have R4 := R3.below hb
  have B4 := kb_call hb B3 (Nat.le_refl _)
  obtain ⟨k0, k1, f0, f1, y0, y1, hfin⟩ := res_after R4 s t
  have hfin := Lib.hid (hfin w B4 (by omega))
  clear R3 B3 hb R4 B4 Q
  go_wp2
  refine bodyPost_ret (v := .tuple #[.agg #[.string s, .string t], .int .i64 e]) (by simp [results, Tryz.results54, go_sem, y0, y1]) rfl ?_
  exact ⟨rfl, hfin.out⟩

end Go.Proofs.YtebokdboodgkpaaGreatDoor
