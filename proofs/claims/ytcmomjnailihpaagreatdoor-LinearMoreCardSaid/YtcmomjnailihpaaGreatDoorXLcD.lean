/- LcD, LcE, LcF, SvD, SvE -/
import Derived.Test.YtcmomjnailihpaaGreatDoorXSvB
import Derived.Deep.RegionHeld3
set_option maxHeartbeats 8000000
set_option maxRecDepth 100000
namespace Go.Proofs.YtcmomjnailihpaaGreatDoor
section
open Go.RowKit
open LnM (sm)
attribute [local go_sem] Oper.semAt_some
def sAt (l : List ByteArray) (i : Nat) : ByteArray := l[i]?.getD ⟨#[]⟩
theorem E6 {l : List ByteArray} {i : Nat} (h : i < l.length) : l[i]? = some (sAt l i) := by unfold sAt; rw [List.getElem?_eq_getElem h]; rfl
theorem Jy {l : List ByteArray} {i : Nat} (h : i < l.length) : sAt l i ∈ l := List.mem_of_getElem? (E6 h)
def sumZ (l : List ByteArray) (f : Nat → Int) (k : Nat) : Int := sm k (fun i => zS (sAt l i) * f i)
theorem sum_bd (a f : Nat → Int) : ∀ (n : Nat), (∀ i, i < n → Bd 100 (a i) ∧ Bd 11 (f i)) → Bd 111 (sm n (fun i => a i * f i)) ∨ ((sm n (fun i => a i * f i)).natAbs ≤ n * 10 ^ 111)
 | 0, _ => .inr (by simp [sm])
 | n + 1, h => by
  refine .inr ?_
  have h1 : (sm n (fun i => a i * f i)).natAbs ≤ n * 10 ^ 111 := by
   rcases sum_bd a f n (fun i hi => h i (by omega)) with h1 | h1
   ·rcases Nat.eq_zero_or_pos n with rfl | hn
    ·simp [sm]
    ·have := (Bd.nat.1 h1)
     have : 10 ^ 111 ≤ n * 10 ^ 111 := Nat.le_mul_of_pos_left _ hn
     omega
   ·exact h1
  have h2 := Bd.nat.1 ((h n (by omega)).1.mul (h n (by omega)).2)
  show (sm n (fun i => a i * f i) + a n * f n).natAbs ≤ _
  have h3 := Int.natAbs_add_le (sm n (fun i => a i * f i)) (a n * f n)
  rw [Nat.add_mul]
  omega
theorem sum_small {a f : Nat → Int} {n : Nat} (hn : n ≤ 1000) (h : ∀ i, i < n → Bd 100 (a i) ∧ Bd 11 (f i)) : Small (sm n (fun i => a i * f i)) := by
 have hb : Bd 200 (sm n (fun i => a i * f i)) := by
  rcases sum_bd a f n h with h1 | h1
  ·exact h1.mono (by decide)
  ·rw [Bd.nat]
   refine Nat.lt_of_le_of_lt h1 (Nat.lt_of_le_of_lt (Nat.mul_le_mul_right _ hn) ?_)
   decide
 exact hb.small (by decide)
theorem bd11 {x : Int} (h : -10000000000 ≤ x ∧ x ≤ 10000000000) : Bd 11 x := by unfold Bd; omega
theorem mul_I {s : ByteArray} {x : Int} (hs : okS s = true) (hx : Small x) (hp : Small (zS s * x)) (W : World) (hW : Env W) : Calls Tryz.prog 50 #[.string s, .string (I x)] W (Rets W (.tuple #[.string (I (zS s * x)), .int .i64 0])) := by
 have := Er s (I x) W hW
 rw [hs, BT hx, C6, Bool.and_self, BF hp] at this
 exact this.mono fun e w' h => by
  obtain ⟨⟨r, h1, h2⟩, hb⟩ := h
  exact ⟨by rw [h1, h2], hb⟩
theorem GA {x : Int} (h : Fits x) (W : World) (hW : Env W) : Calls Tryz.prog 51 #[.int .i64 x] W (Rets W (.string (I x))) := Eg x h.1 h.2 W hW
theorem F7 (v : Value) (l : List ByteArray) (g : Nat) (lb : Array Value) (f : Nat → Int) (w : World) (hE : Env w) (h : SlS w v l) (hl : l.length ≤ 1000) (hok : ∀ i, i < l.length → okS (sAt l i) = true ∧ Bd 100 (zS (sAt l i)) ∧ Bd 11 (f i))
  (hen : ∀ (args : Array Value) (w : World), (callFunc g args).run Tryz.prog w = .ok (.enter g args) w)
  (hF : ∀ (W : World) (i : Nat), i < l.length → Below w.heap.size w W → Calls Tryz.prog g (#[.int .i64 i] ++ lb) W (Rets W (.int .i64 (f i)))) :
  Calls Tryz.prog 52 #[v, .func (.func g) #[] lb] w (Rets w (.string (I (sumZ l f l.length)))) := by
 obtain ⟨a, cap, rfl⟩ := h.shape
 have H := A8 h
 replace hok := A8 hok
 replace hE := A8 hE
 replace hF := A8 hF
 have I0 : I (sumZ l f 0) = ⟨#[48]⟩ := by show I 0 = _; unfold I; rw [Ao (by decide), Ap (by decide)]; rfl
 obtain ⟨n, hn⟩ : ∃ n, n = l.length := ⟨_, rfl⟩
 rw [← hn] at hl ⊢
 replace hn := A8 hn
 clear h
 go_enter Tryz.func52, Tryz.ntmps52
 go_wp2_with fail
 go_loopw [5, 13] (fun x o wr => ∃ i : Nat, x = .string (I (sumZ l f i)) ∧ o = .int .i64 i ∧ i ≤ n ∧ Hid (Below w.heap.size w wr)) (fun _ o _ => n - (intOf o).toNat)
 case atStart => exact ⟨0, by rw [I0], rfl, by omega, A8 (Below.refl _ _)⟩
 case round =>
  clear I0
  obtain ⟨i, rfl, rfl, hi, hB⟩ := hrel
  by_cases hlt : i < n
  case neg =>
   have hlt' : ¬ (i : Int) < n := by omega
   obtain rfl : i = n := by omega
   go_wp2
   go_ret
   exact ⟨rfl, hB.out⟩
  case pos =>
   have hlt' : (i : Int) < n := by omega
   have hi0 : (0 : Int) ≤ i := by omega
   obtain ⟨b, off, ha, hb, x0⟩ : ∃ b off, a = some ⟨b, off, none⟩ ∧ b < w.heap.size ∧ w.cell? ⟨b, off + i, none⟩ = some (.string (sAt l i)) := by
    rcases H.out with ⟨e, e2⟩ | ⟨b, off, cap', e, h1, h2, h3, h4⟩
    ·have := hn.out; rw [e2] at this; simp at this; omega
    ·cases e
     have := h4 i _ (E6 (by rw [← hn.out]; exact hlt))
     rw [Nat.mul_one] at this
     exact ⟨b, off, rfl, h3, this⟩
   subst ha
   replace x0 := (hB.out.cell (p := ⟨_, _, none⟩) hb).trans x0
   obtain ⟨k1, k2, k3⟩ := hok.out i (by rw [← hn.out]; exact hlt)
   have hFi := A8 (hF.out wr i (by rw [← hn.out]; exact hlt) hB.out)
   have hsum : sumZ l f (i + 1) = sumZ l f i + zS (sAt l i) * f i := rfl
   have hS1 : Small (sumZ l f (i + 1)) := sum_small (by omega) (fun j hj => (hok.out j (by rw [← hn.out]; omega)).2)
   have hS0 : Small (sumZ l f i) := sum_small (by omega) (fun j hj => (hok.out j (by rw [← hn.out]; omega)).2)
   have hSp : Small (zS (sAt l i) * f i) := (k2.mul k3).small (by decide)
   obtain ⟨s, hs⟩ : ∃ s, s = sAt l i := ⟨_, rfl⟩
   obtain ⟨fi, hfi⟩ : ∃ x, x = f i := ⟨_, rfl⟩
   rw [← hs, ← hfi] at hsum hSp
   rw [← hs] at k1 k2 x0
   rw [← hfi] at hFi k3
   have hfit : -9223372036854775808 ≤ fi ∧ fi ≤ 9223372036854775807 := by unfold Bd at k3; omega
   have FI := A8 (fun W (hW : Env W) => Eg fi hfit.1 hfit.2 W hW)
   have MU := A8 (fun W (hW : Env W) => (by have := Er s (I fi) W hW; rw [k1, BT (k3.small (by decide)), C6, Bool.and_self, BF hSp] at this; exact this : Calls Tryz.prog 50 #[.string s, .string (I fi)] W (Gives W fun r _ => r = .tuple #[.string (I (zS s * fi)), .int .i64 0])))
   have AD := A8 (fun W (hW : Env W) => (by have := Jh (I (sumZ l f i)) (I (zS s * fi)) W hW; rw [BT hS0, BT hSp, C6, C6, Bool.and_self, ← hsum, BF hS1] at this; exact this : Calls Tryz.prog 59 #[.string (I (sumZ l f i)), .string (I (zS s * fi))] W (Gives W fun r _ => r = .tuple #[.string (I (sumZ l f (i + 1))), .int .i64 0])))
   have hz0 : fi = 0 → I (sumZ l f i) = I (sumZ l f (i + 1)) := fun e => by rw [hsum, e, Int.mul_zero, Int.add_zero]
   generalize I (sumZ l f i) = out at *
   obtain ⟨out2, ho2⟩ : ∃ x, x = I (sumZ l f (i + 1)) := ⟨_, rfl⟩
   rw [← ho2] at AD hz0
   replace ho2 := A8 ho2
   replace hz0 := A8 hz0
   generalize I (zS s * fi) = pr at *
   clear hsum hS1 hS0 hSp k1 k2 k3 hs hfi
   go_wp2_with fail
   refine Calls.mono hFi.out ?_
   rintro e w1 ⟨rfl, hb1⟩
   have hB1 := A8 (hB.out.trans (hb1.mono hB.out.size))
   clear x0 hb1 hFi
   by_cases hf0 : fi = 0
   ·have hf1 : (fi == 0) = true := by simp [hf0]
    have hf2 : (fi != 0) = false := by simp [hf0]
    have he := hz0.out hf0
    clear FI MU AD hz0 hf0
    go_wp2_with fail
    go_roundw
    case rel => exact ⟨i + 1, by rw [ho2.out], by go_num, by omega, hB1⟩
    case measure => simp [intOf]; omega
   ·have hf1 : (fi == 0) = false := by simp [hf0]
    have hf2 : (fi != 0) = true := by simp [hf0]
    go_wp2_with fail
    refine Calls.mono (FI.out _ (hE.out.below hB1.out (Aa _))) ?_
    rintro e w2 ⟨rfl, hb2⟩
    have hB2 := A8 (hB1.out.trans (hb2.mono hB1.out.size))
    go_wp2_with fail
    refine Calls.mono (MU.out _ (hE.out.below hB2.out (Aa _))) ?_
    rintro e w3 ⟨⟨r, rfl, rfl⟩, hb3⟩
    have hB3 := A8 (hB2.out.trans (hb3.mono hB2.out.size))
    go_wp2_with fail
    refine Calls.mono (AD.out _ (hE.out.below hB3.out (Aa _))) ?_
    rintro e w4 ⟨⟨r, rfl, rfl⟩, hb4⟩
    have hB4 := A8 (hB3.out.trans (hb4.mono hB3.out.size))
    clear hb2 hb3 hb4
    go_wp2_with fail
    go_roundw
    case rel => exact ⟨i + 1, by rw [ho2.out], by go_num, by omega, hB4⟩
    case measure => simp [intOf]; omega
def checkL (cols : Int) (rows : List (List Int × Int)) (nums : List ByteArray) (den : ByteArray) : Bool :=
 validL cols rows && formedL nums den && ((nums.length : Int) == cols) && rows.all (fun r => decide (sumZ nums (gi r.1) nums.length = zS den * r.2))
theorem I_inj6 {a b : Int} (h : I a = I b) : a = b := by rw [← C6 a, h, C6]
theorem I_eq (a b : Int) : ((I a).toList == (I b).toList) = decide (a = b) := by
 by_cases h : a = b
 ·subst h; simp
 ·rw [decide_eq_false h, beq_eq_false_iff_ne]
  intro e
  refine h (I_inj6 ?_)
  rw [ByteArray.toList_eq, ByteArray.toList_eq] at e
  exact ByteArray.ext (Array.toList_inj.1 e)
theorem Bo {l : List ByteArray} {den : ByteArray} (h : formedL l den = true) : l.length ≤ 64 ∧ (∀ i, i < l.length → okS (sAt l i) = true ∧ Bd 100 (zS (sAt l i)) ∧ 0 ≤ zS (sAt l i)) ∧ okS den = true ∧ Bd 100 (zS den) ∧ 0 < zS den := by
 unfold formedL at h
 simp only [Bool.and_eq_true, decide_eq_true_eq, Bool.not_eq_true'] at h
 obtain ⟨⟨h1, h2⟩, h3, h4⟩ := h
 unfold numB at h3
 simp only [Bool.and_eq_true, decide_eq_true_eq] at h3
 refine ⟨h1, fun i hi => ?_, h3.1, h3.2, h4⟩
 rw [List.any_eq_false] at h2
 have := h2 _ (Jy hi)
 unfold badB numB at this
 simp only [Bool.or_eq_true, Bool.not_eq_true', Bool.and_eq_false_imp, decide_eq_true_eq, decide_eq_false_iff_not, not_or] at this
 obtain ⟨t1, t2⟩ := this
 refine ⟨?_, ?_, by omega⟩
 ·refine Classical.byContradiction fun hc => t1 fun hk => absurd hk hc
 ·exact Classical.byContradiction fun hc => t1 fun _ => hc
theorem HQ (coef : List Int) (cv : Value) (val : Int) (Be : Nat) (w : World) (h : Sl w cv coef) (k : Blk w Be #[cv, .int .i64 val] 60) (i : Nat) (hi : i < coef.length) :
  Calls Tryz.prog 53 #[.int .i64 i, .pointer (some ⟨Be, 0, none⟩)] w (Rets w (.int .i64 (gi coef i))) := by
 rcases h with ⟨rfl, rfl⟩ | ⟨b, off, cap, rfl, h1, h2, h3, h4⟩
 ·simp at hi
 ·have x0 := h4 i hi
  have y0 : w.cell? ⟨Be, 0, none⟩ = some (.slice (some ⟨b, off, none⟩) coef.length cap) := k.cell 0
  have hi' : (i : Int) < coef.length := by omega
  have hi0 : (0 : Int) ≤ i := by omega
  generalize gi coef i = z at *
  generalize coef.length = n at *
  clear h4 k
  go_enter Tryz.func53, Tryz.ntmps53
  go_wp2
  go_ret
  exact ⟨rfl, Below.refl _ _⟩
theorem J5 (nums : List ByteArray) (den : ByteArray) (nv : Value) (coef : List Int) (cv : Value) (val : Int) (Bv : Nat) (w : World) (hE : Env w) (hN : SlS w nv nums) (h : Sl w cv coef) (k : Blk w Bv #[nv, .string den] 30)
  (hlen : coef.length = nums.length) (hn : nums.length ≤ 64) (hok : ∀ i, i < nums.length → okS (sAt nums i) = true ∧ Bd 100 (zS (sAt nums i))) (hc : ∀ x ∈ coef, -30000 ≤ x ∧ x ≤ 30000) (hd : okS den = true ∧ Bd 100 (zS den)) (hv : -1000000000 ≤ val ∧ val ≤ 1000000000) :
  Calls Tryz.prog 49 #[.agg #[cv, .int .i64 val], .pointer (some ⟨Bv, 0, none⟩)] w (Rets w (.bool (!decide (sumZ nums (gi coef) nums.length = zS den * val)))) := by
 obtain ⟨V, hV, hS, z1⟩ := (show BL w [(Bv, #[nv, .string den], 30)] w from ⟨Below.refl _ _, fun p hp => by rcases List.mem_cons.1 hp with rfl | hp; exact k; cases hp⟩).add' #[cv, .int .i64 val] 60
 have hcb := Ly (B := 30000) (by decide) hc
 have SU := A8 (fun W (hW : BL w [(w.heap.size, #[cv, .int .i64 val], 60), (Bv, #[nv, .string den], 30)] W) => F7 nv nums 53 #[.pointer (some ⟨w.heap.size, 0, none⟩)] (gi coef) W (hW.env hE) (hN.below hW.below) (by omega) (fun i hi => ⟨(hok i hi).1, (hok i hi).2, bd11 (by have := hcb i; omega)⟩) (Go.Proofs.enters_of Tryz.func53 (by kernel_rfl) rfl)
  (fun W' i hi hb => HQ coef cv val w.heap.size W' ((h.below hW.below).below hb) ((hW.blks _ (.head _)).below hb) i (by omega)))
 have hvf : Fits val := by unfold Fits; omega
 have hpr : Small (zS den * val) := (hd.2.mul (bd11 (x := val) (by omega))).small (by decide)
 have FI := A8 (fun W (hW : Env W) => GA hvf W hW)
 have MU := A8 (fun W (hW : Env W) => mul_I hd.1 ((bd11 (x := val) (by omega)).small (by decide)) hpr W hW)
 have hfe := I_eq (sumZ nums (gi coef) nums.length) (zS den * val)
 generalize decide (sumZ nums (gi coef) nums.length = zS den * val) = bb at *
 generalize I (sumZ nums (gi coef) nums.length) = sx at *
 generalize I (zS den * val) = px at *
 generalize I val = vx at *
 obtain ⟨a, cap, rfl⟩ := hN.shape
 obtain ⟨a2, cap2, rfl⟩ := h.shape
 generalize nums.length = n at *
 generalize coef.length = m at *
 replace hE := A8 hE
 clear hlen hn hok hc hd hv hcb hvf hpr k hN h z1
 go_enter Tryz.func49, Tryz.ntmps49
 go_upto_region 1 with fail
 rw [← hV]
 clear hV
 have hC := A8 (show ∀ w', BL w [(w.heap.size, #[.slice a2 m cap2, .int .i64 val], 60), (Bv, #[.slice a n cap, .string den], 30)] w' → (w'.cell? ⟨w.heap.size, 0, none⟩ = some (.slice a2 m cap2) ∧ w'.cell? ⟨w.heap.size, 1, none⟩ = some (.int .i64 val) ∧ w'.cell? ⟨Bv, 0, none⟩ = some (.slice a n cap) ∧ w'.cell? ⟨Bv, 1, none⟩ = some (.string den)) from fun W' h => ⟨h.cell _ _ _ (.head _) 0, h.cell _ _ _ (.head _) 1, h.cell _ _ _ (.tail _ (.head _)) 0, h.cell _ _ _ (.tail _ (.head _)) 1⟩)
 obtain ⟨x0, x1, x2, x3⟩ := hC.out _ hS
 replace hS := hS.drew
 go_region_held3 (fun w' => w'.cell? ⟨w.heap.size, 0, none⟩ = some (.slice a2 m cap2) ∧ w'.cell? ⟨w.heap.size, 1, none⟩ = some (.int .i64 val) ∧ w'.cell? ⟨Bv, 0, none⟩ = some (.slice a n cap) ∧ w'.cell? ⟨Bv, 1, none⟩ = some (.string den))
  (first | with_reducible exact hC.out _ hS | go_keep)
  (first | (go_at_call 51; (with_reducible refine Calls.mono (FI.out _ (hS.env hE.out)) ?_); rintro e w' ⟨rfl, hb⟩; replace hS := hS.call hb; clear hb) | (go_at_call 50; (with_reducible refine Calls.mono (MU.out _ (hS.env hE.out)) ?_); rintro e w' ⟨rfl, hb⟩; replace hS := hS.call hb; clear hb))
 all_goals (clear x0 x1 x2 x3)
 obtain ⟨x0, x1, x2, x3⟩ := hC.out _ hS
 go_wp2_with fail
 refine Calls.mono (SU.out _ hS) ?_
 rintro e w4 ⟨rfl, hb⟩
 replace hS := hS.call hb
 go_wp2
 go_ret
 exact ⟨Ae (by simp), hS.below⟩
theorem Cz (cols : Int) (rv nv : Value) (rows : List (List Int × Int)) (nums : List ByteArray) (den : ByteArray) (w : World) (hE : Env w) (hR : SlE w rv rows) (hN : SlS w nv nums) :
  Calls Tryz.prog 19 #[.agg #[.int .i64 cols, rv], .agg #[nv, .string den]] w (Rets w (.bool (checkL cols rows nums den))) := by
 obtain ⟨ar, capr, rfl⟩ := hR.shape
 obtain ⟨an, capn, rfl⟩ := hN.shape
 have HR := A8 hR
 have HN := A8 hN
 have VA := A8 (fun W (hW : SlE W (.slice ar rows.length capr) rows) => BG cols _ rows W hW)
 have FO := A8 (fun W (hW : SlS W (.slice an nums.length capn) nums) => Bz _ nums den W hW)
 unfold checkL
 cases hv : validL cols rows
 ·rw [hv] at VA
  clear hv hR hN
  generalize rows.length = nr at *
  generalize nums.length = nn at *
  obtain ⟨V1, e1, S1, z1⟩ := (BL.start w).add' #[.int .i64 cols, .slice ar nr capr] 27
  obtain ⟨V2, e2, hS, z2⟩ := S1.add' #[.slice an nn capn, .string den] 30
  rw [z1] at hS
  have hV : V2 = (w.alloc (.cells #[.int .i64 cols, .slice ar nr capr] 27)).alloc (.cells #[.slice an nn capn, .string den] 30) := by rw [e2, e1]
  clear e1 e2 S1 z1 z2
  obtain ⟨x0, x1⟩ := hS.c2 w.heap.size _ _ _ (.tail _ (.head _))
  obtain ⟨y0, y1⟩ := hS.c2 (w.heap.size + 1) _ _ _ (.head _)
  go_enter Tryz.func19, Tryz.ntmps19
  go_upto_region 1 with fail
  rw [← hV]
  clear hV
  go_wp2_with fail
  refine Calls.mono (VA.out _ (HR.out.below hS.below)) ?_
  rintro e w1 ⟨rfl, hb⟩
  replace hS := hS.call hb
  clear x0 x1 y0 y1 hb
  obtain ⟨x0, x1⟩ := hS.c2 w.heap.size _ _ _ (.tail _ (.head _))
  obtain ⟨y0, y1⟩ := hS.c2 (w.heap.size + 1) _ _ _ (.head _)
  go_wp2
  go_ret
  exact ⟨Ae (by simp), hS.below⟩
 cases hf : formedL nums den
 ·rw [hv] at VA
  rw [hf] at FO
  clear hv hf hR hN
  generalize rows.length = nr at *
  generalize nums.length = nn at *
  obtain ⟨V1, e1, S1, z1⟩ := (BL.start w).add' #[.int .i64 cols, .slice ar nr capr] 27
  obtain ⟨V2, e2, hS, z2⟩ := S1.add' #[.slice an nn capn, .string den] 30
  rw [z1] at hS
  have hV : V2 = (w.alloc (.cells #[.int .i64 cols, .slice ar nr capr] 27)).alloc (.cells #[.slice an nn capn, .string den] 30) := by rw [e2, e1]
  clear e1 e2 S1 z1 z2
  obtain ⟨x0, x1⟩ := hS.c2 w.heap.size _ _ _ (.tail _ (.head _))
  obtain ⟨y0, y1⟩ := hS.c2 (w.heap.size + 1) _ _ _ (.head _)
  go_enter Tryz.func19, Tryz.ntmps19
  go_upto_region 1 with fail
  rw [← hV]
  clear hV
  go_wp2_with fail
  refine Calls.mono (VA.out _ (HR.out.below hS.below)) ?_
  rintro e w1 ⟨rfl, hb⟩
  replace hS := hS.call hb
  clear x0 x1 y0 y1 hb
  obtain ⟨x0, x1⟩ := hS.c2 w.heap.size _ _ _ (.tail _ (.head _))
  obtain ⟨y0, y1⟩ := hS.c2 (w.heap.size + 1) _ _ _ (.head _)
  go_wp2_with fail
  refine Calls.mono (FO.out _ (HN.out.below hS.below)) ?_
  rintro e w2 ⟨rfl, hb⟩
  replace hS := hS.call hb
  clear x0 x1 y0 y1 hb
  obtain ⟨x0, x1⟩ := hS.c2 w.heap.size _ _ _ (.tail _ (.head _))
  obtain ⟨y0, y1⟩ := hS.c2 (w.heap.size + 1) _ _ _ (.head _)
  go_wp2
  go_ret
  exact ⟨Ae (by simp), hS.below⟩
 by_cases hl : (nums.length : Int) = cols
 ·have hl1 : ((nums.length : Int) == cols) = true := by simp [hl]
  have hl2 : ((nums.length : Int) != cols) = false := by simp [hl]
  obtain ⟨p1, p2, p3, p4⟩ := Au hv
  obtain ⟨q1, q2, q3, q4, q5⟩ := Bo hf
  have CE := A8 (fun W (hW : BL w [(w.heap.size + 1, #[.slice an nums.length capn, .string den], 30), (w.heap.size, #[.int .i64 cols, .slice ar rows.length capr], 27)] W) => Dd (.slice ar rows.length capr) rows 49 #[.pointer (some ⟨w.heap.size + 1, 0, none⟩)] (fun r => !decide (sumZ nums (gi r.1) nums.length = zS den * r.2)) W (hR.below hW.below) (Go.Proofs.enters_of Tryz.func49 (by kernel_rfl) rfl)
   (fun W' x v hx hb hv' => J5 nums den (.slice an nums.length capn) x.1 v x.2 (w.heap.size + 1) W' ((hW.call hb).env hE) ((hN.below hW.below).below hb) hv' ((hW.blks _ (.head _)).below hb) (by have := (p4 x hx).1; omega) q1 (fun i hi => ⟨(q2 i hi).1, (q2 i hi).2.1⟩) (p4 x hx).2.1 ⟨q3, q4⟩ (p4 x hx).2.2))
  rw [hv] at VA
  rw [hf] at FO
  rw [hl1]
  have hall : (!rows.any fun r => !decide (sumZ nums (gi r.1) nums.length = zS den * r.2)) = rows.all (fun r => decide (sumZ nums (gi r.1) nums.length = zS den * r.2)) := by
   rw [List.not_any_eq_all_not]; simp
  rw [← hall]
  clear hall
  generalize (rows.any fun r => !decide (sumZ nums (gi r.1) nums.length = zS den * r.2)) = bb at *
  clear hv hf hR hN p4 q2 hl
  generalize rows.length = nr at *
  generalize nums.length = nn at *
  obtain ⟨V1, e1, S1, z1⟩ := (BL.start w).add' #[.int .i64 cols, .slice ar nr capr] 27
  obtain ⟨V2, e2, hS, z2⟩ := S1.add' #[.slice an nn capn, .string den] 30
  rw [z1] at hS
  have hV : V2 = (w.alloc (.cells #[.int .i64 cols, .slice ar nr capr] 27)).alloc (.cells #[.slice an nn capn, .string den] 30) := by rw [e2, e1]
  clear e1 e2 S1 z1 z2
  obtain ⟨x0, x1⟩ := hS.c2 w.heap.size _ _ _ (.tail _ (.head _))
  obtain ⟨y0, y1⟩ := hS.c2 (w.heap.size + 1) _ _ _ (.head _)
  go_enter Tryz.func19, Tryz.ntmps19
  go_upto_region 1 with fail
  rw [← hV]
  clear hV
  go_wp2_with fail
  refine Calls.mono (VA.out _ (HR.out.below hS.below)) ?_
  rintro e w1 ⟨rfl, hb⟩
  replace hS := hS.call hb
  clear x0 x1 y0 y1 hb
  obtain ⟨x0, x1⟩ := hS.c2 w.heap.size _ _ _ (.tail _ (.head _))
  obtain ⟨y0, y1⟩ := hS.c2 (w.heap.size + 1) _ _ _ (.head _)
  go_wp2_with fail
  refine Calls.mono (FO.out _ (HN.out.below hS.below)) ?_
  rintro e w2 ⟨rfl, hb⟩
  replace hS := hS.call hb
  clear x0 x1 y0 y1 hb
  obtain ⟨x0, x1⟩ := hS.c2 w.heap.size _ _ _ (.tail _ (.head _))
  obtain ⟨y0, y1⟩ := hS.c2 (w.heap.size + 1) _ _ _ (.head _)
  go_wp2_with fail
  refine Calls.mono (CE.out _ hS) ?_
  rintro e w3 ⟨rfl, hb⟩
  replace hS := hS.call hb
  go_wp2
  go_ret
  exact ⟨Ae (by simp), hS.below⟩
 ·have hl1 : ((nums.length : Int) == cols) = false := by simp [hl]
  have hl2 : ((nums.length : Int) != cols) = true := by simp [hl]
  rw [hv] at VA
  rw [hf] at FO
  rw [hl1]
  clear hv hf hR hN hl
  generalize rows.length = nr at *
  generalize nums.length = nn at *
  obtain ⟨V1, e1, S1, z1⟩ := (BL.start w).add' #[.int .i64 cols, .slice ar nr capr] 27
  obtain ⟨V2, e2, hS, z2⟩ := S1.add' #[.slice an nn capn, .string den] 30
  rw [z1] at hS
  have hV : V2 = (w.alloc (.cells #[.int .i64 cols, .slice ar nr capr] 27)).alloc (.cells #[.slice an nn capn, .string den] 30) := by rw [e2, e1]
  clear e1 e2 S1 z1 z2
  obtain ⟨x0, x1⟩ := hS.c2 w.heap.size _ _ _ (.tail _ (.head _))
  obtain ⟨y0, y1⟩ := hS.c2 (w.heap.size + 1) _ _ _ (.head _)
  go_enter Tryz.func19, Tryz.ntmps19
  go_upto_region 1 with fail
  rw [← hV]
  clear hV
  go_wp2_with fail
  refine Calls.mono (VA.out _ (HR.out.below hS.below)) ?_
  rintro e w1 ⟨rfl, hb⟩
  replace hS := hS.call hb
  clear x0 x1 y0 y1 hb
  obtain ⟨x0, x1⟩ := hS.c2 w.heap.size _ _ _ (.tail _ (.head _))
  obtain ⟨y0, y1⟩ := hS.c2 (w.heap.size + 1) _ _ _ (.head _)
  go_wp2_with fail
  refine Calls.mono (FO.out _ (HN.out.below hS.below)) ?_
  rintro e w2 ⟨rfl, hb⟩
  replace hS := hS.call hb
  clear x0 x1 y0 y1 hb
  obtain ⟨x0, x1⟩ := hS.c2 w.heap.size _ _ _ (.tail _ (.head _))
  obtain ⟨y0, y1⟩ := hS.c2 (w.heap.size + 1) _ _ _ (.head _)
  go_wp2
  go_ret
  exact ⟨Ae (by simp), hS.below⟩
def refutesL (cols : Int) (rows : List (List Int × Int)) (ws : List ByteArray) : Bool :=
 validL cols rows && ((ws.length : Int) == rows.length) && !(ws.any fun s => !numB s) && (List.range cols.toNat).all (fun k => decide (0 ≤ sumZ ws (fun i => gi (rowOf rows i).1 k) ws.length)) && decide (sumZ ws (fun i => (rowOf rows i).2) ws.length < 0)
theorem DK {rows : List (List Int × Int)} {i : Nat} (h : i < rows.length) : rows[i]? = some (rowOf rows i) := by unfold rowOf; rw [List.getElem?_eq_getElem h]; rfl
theorem Bp {rows : List (List Int × Int)} {i : Nat} (h : i < rows.length) : rowOf rows i ∈ rows := List.mem_of_getElem? (DK h)
theorem FV {z : Int} (h : Small z) : ∃ s, s = I z ∧ ∃ h0 : 0 < s.size, (((s[0]).toNat : Int) == 45) = decide (z < 0) := by
 refine ⟨I z, rfl, ?_⟩
 have := Dl (BT h)
 rwa [C6] at this
theorem LD (cols : Int) (rows : List (List Int × Int)) (rv : Value) (Bs Bk k : Nat) (w : World) (h : SlE w rv rows) (k1 : Blk w Bs #[.int .i64 cols, rv] 27) (k2 : Blk w Bk #[.int .i64 k] 3) (i : Nat) (hi : i < rows.length) (hk : k < (rowOf rows i).1.length) :
  Calls Tryz.prog 70 #[.int .i64 i, .pointer (some ⟨Bs, 0, none⟩), .pointer (some ⟨Bk, 0, none⟩)] w (Rets w (.int .i64 (gi (rowOf rows i).1 k))) := by
 rcases h with ⟨rfl, rfl⟩ | ⟨b, off, cap, rfl, h1, h2, h3, h4⟩
 ·simp at hi
 ·obtain ⟨cv, c0, hcs, c1⟩ := h4 i _ (DK hi)
  rcases hcs with ⟨rfl, e2⟩ | ⟨b2, off2, cap2, rfl, g1, g2, g3, g4⟩
  ·rw [e2] at hk; simp at hk
  ·have d0 := g4 k hk
   have x0 : w.cell? ⟨Bs, 1, none⟩ = some (.slice (some ⟨b, off, none⟩) rows.length cap) := k1.cell 1
   have x1 : w.cell? ⟨Bk, 0, none⟩ = some (.int .i64 k) := k2.cell 0
   have hi' : (i : Int) < rows.length := by omega
   have hk' : (k : Int) < (rowOf rows i).1.length := by omega
   have hi0 : (0 : Int) ≤ i := by omega
   have hk0 : (0 : Int) ≤ k := by omega
   generalize gi (rowOf rows i).1 k = z at *
   generalize (rowOf rows i).1.length = nc at *
   clear h4 g4 k1 k2 c1
   have hC := A8 (show ∀ w', Below w.heap.size w w' → True from fun _ _ => trivial)
   go_enter Tryz.func70, Tryz.ntmps70
   go_upto_region 1 with fail
   go_region_held3 (fun w' => w'.cell? ⟨Bs, 1, none⟩ = some (.slice (some ⟨b, off, none⟩) rows.length cap) ∧ w'.cell? ⟨Bk, 0, none⟩ = some (.int .i64 k) ∧ w'.cell? ⟨b, off + i * 2, none⟩ = some (.slice (some ⟨b2, off2, none⟩) nc cap2) ∧ w'.cell? ⟨b2, off2 + k, none⟩ = some (.int .i64 z))
    (first | go_keep)
    (fail)
   all_goals go_wp2
   all_goals go_ret
   all_goals exact ⟨rfl, Ac w 1⟩
theorem LE (cols : Int) (rows : List (List Int × Int)) (rv : Value) (Bs : Nat) (w : World) (h : SlE w rv rows) (k1 : Blk w Bs #[.int .i64 cols, rv] 27) (i : Nat) (hi : i < rows.length) :
  Calls Tryz.prog 71 #[.int .i64 i, .pointer (some ⟨Bs, 0, none⟩)] w (Rets w (.int .i64 (rowOf rows i).2)) := by
 rcases h with ⟨rfl, rfl⟩ | ⟨b, off, cap, rfl, h1, h2, h3, h4⟩
 ·simp at hi
 ·obtain ⟨cv, c0, hcs, c1⟩ := h4 i _ (DK hi)
  have x0 : w.cell? ⟨Bs, 1, none⟩ = some (.slice (some ⟨b, off, none⟩) rows.length cap) := k1.cell 1
  have hi' : (i : Int) < rows.length := by omega
  have hi0 : (0 : Int) ≤ i := by omega
  generalize (rowOf rows i).2 = z at *
  clear h4 k1 hcs
  go_enter Tryz.func71, Tryz.ntmps71
  go_wp2
  go_ret
  exact ⟨rfl, Below.refl _ _⟩
theorem LF (s : ByteArray) (w : World) : Calls Tryz.prog 69 #[.string s] w (Rets w (.bool (!numB s))) := by
 have IN := A8 (fun W => CL s W)
 generalize numB s = b at *
 go_enter Tryz.func69, Tryz.ntmps69
 go_wp2_with fail
 refine Calls.mono (IN.out _) ?_
 rintro e w1 ⟨rfl, hb⟩
 go_wp2
 go_ret
 exact ⟨rfl, hb⟩
theorem AW (cols : Int) (rv wv : Value) (rows : List (List Int × Int)) (ws : List ByteArray) (w : World) (hE : Env w) (hR : SlE w rv rows) (hW : SlS w wv ws) :
  Calls Tryz.prog 28 #[.agg #[.int .i64 cols, rv], wv] w (Rets w (.bool (refutesL cols rows ws))) := by
 obtain ⟨ar, capr, rfl⟩ := hR.shape
 obtain ⟨aw, capw, rfl⟩ := hW.shape
 have hlw : ws.length ≤ maxLen := hW.len_le
 unfold maxLen at hlw
 have HR := A8 hR
 have HW := A8 hW
 have VA := A8 (fun W (hW : SlE W (.slice ar rows.length capr) rows) => BG cols _ rows W hW)
 have CS := A8 (fun W (hW : SlS W (.slice aw ws.length capw) ws) => Dc _ ws 69 #[] (fun s => !numB s) W hW (Go.Proofs.enters_of Tryz.func69 (by kernel_rfl) rfl) (fun W x _ _ => by rw [Array.append_empty]; exact LF x W))
 unfold refutesL
 cases hv : validL cols rows
 ·rw [hv] at VA
  clear hv hR hW
  generalize rows.length = nr at *
  generalize ws.length = nw at *
  obtain ⟨V, hV, hS, z1⟩ := (BL.start w).add' #[.int .i64 cols, .slice ar nr capr] 27
  clear z1
  obtain ⟨x0, x1⟩ := hS.c2 w.heap.size _ _ _ (.head _)
  go_enter Tryz.func28, Tryz.ntmps28
  go_upto_region 1 with fail
  rw [← hV]
  clear hV
  go_wp2_with fail
  refine Calls.mono (VA.out _ (HR.out.below hS.below)) ?_
  rintro e w1 ⟨rfl, hb⟩
  replace hS := hS.call hb
  clear x0 x1 hb
  obtain ⟨x0, x1⟩ := hS.c2 w.heap.size _ _ _ (.head _)
  go_wp2
  go_ret
  exact ⟨Ae (by simp), hS.below⟩
 by_cases hl : ws.length = rows.length
 case neg =>
  have hl1 : ((ws.length : Int) == rows.length) = false := by simp; omega
  have hl2 : ((ws.length : Int) != rows.length) = true := by simp; omega
  rw [hv] at VA
  rw [hl1]
  clear hv hR hW hl
  generalize rows.length = nr at *
  generalize ws.length = nw at *
  obtain ⟨V, hV, hS, z1⟩ := (BL.start w).add' #[.int .i64 cols, .slice ar nr capr] 27
  clear z1
  obtain ⟨x0, x1⟩ := hS.c2 w.heap.size _ _ _ (.head _)
  go_enter Tryz.func28, Tryz.ntmps28
  go_upto_region 1 with fail
  rw [← hV]
  clear hV
  go_wp2_with fail
  refine Calls.mono (VA.out _ (HR.out.below hS.below)) ?_
  rintro e w1 ⟨rfl, hb⟩
  replace hS := hS.call hb
  clear x0 x1 hb
  obtain ⟨x0, x1⟩ := hS.c2 w.heap.size _ _ _ (.head _)
  go_wp2
  go_ret
  exact ⟨Ae (by simp), hS.below⟩
 case pos =>
  have hl1 : ((ws.length : Int) == rows.length) = true := by simp [hl]
  have hl2 : ((ws.length : Int) != rows.length) = false := by simp [hl]
  rw [hl1]
  cases ha : (ws.any fun s => !numB s)
  case true =>
   rw [hv] at VA
   rw [ha] at CS
   clear hv hR hW hl ha
   generalize rows.length = nr at *
   generalize ws.length = nw at *
   obtain ⟨V, hV, hS, z1⟩ := (BL.start w).add' #[.int .i64 cols, .slice ar nr capr] 27
   clear z1
   obtain ⟨x0, x1⟩ := hS.c2 w.heap.size _ _ _ (.head _)
   go_enter Tryz.func28, Tryz.ntmps28
   go_upto_region 1 with fail
   rw [← hV]
   clear hV
   go_wp2_with fail
   refine Calls.mono (VA.out _ (HR.out.below hS.below)) ?_
   rintro e w1 ⟨rfl, hb⟩
   replace hS := hS.call hb
   clear x0 x1 hb
   obtain ⟨x0, x1⟩ := hS.c2 w.heap.size _ _ _ (.head _)
   go_wp2_with fail
   refine Calls.mono (CS.out _ (HW.out.below hS.below)) ?_
   rintro e w2 ⟨rfl, hb⟩
   replace hS := hS.call hb
   clear x0 x1 hb
   obtain ⟨x0, x1⟩ := hS.c2 w.heap.size _ _ _ (.head _)
   go_wp2
   go_ret
   exact ⟨Ae (by simp), hS.below⟩
  case false =>
   obtain ⟨p1, p2, p3, p4⟩ := Au hv
   obtain ⟨nc, hnc⟩ : ∃ nc : Nat, cols = nc := ⟨cols.toNat, by omega⟩
   subst hnc
   have hnum : ∀ i, i < ws.length → okS (sAt ws i) = true ∧ Bd 100 (zS (sAt ws i)) := fun i hi => by
    rw [List.any_eq_false] at ha
    have := ha _ (Jy hi)
    simp only [Bool.not_eq_true', Bool.not_eq_false] at this
    unfold numB at this
    simpa using this
   have hb2 : ∀ (k i : Nat), i < ws.length → okS (sAt ws i) = true ∧ Bd 100 (zS (sAt ws i)) ∧ Bd 11 (gi (rowOf rows i).1 k) := fun k i hi => ⟨(hnum i hi).1, (hnum i hi).2, bd11 (by have := Ly (B := 30000) (by decide) (p4 _ (Bp (by omega : i < rows.length))).2.1 k; omega)⟩
   have hb3 : ∀ i, i < ws.length → okS (sAt ws i) = true ∧ Bd 100 (zS (sAt ws i)) ∧ Bd 11 (rowOf rows i).2 := fun i hi => ⟨(hnum i hi).1, (hnum i hi).2, bd11 (by have := (p4 _ (Bp (by omega : i < rows.length))).2.2; omega)⟩
   have S2 := A8 (fun (k Bk : Nat) (hk : k < nc) W (hS : BL w [(Bk, #[.int .i64 k], 3), (w.heap.size, #[.int .i64 (nc : Int), .slice ar rows.length capr], 27)] W) => F7 (.slice aw ws.length capw) ws 70 #[.pointer (some ⟨w.heap.size, 0, none⟩), .pointer (some ⟨Bk, 0, none⟩)] (fun i => gi (rowOf rows i).1 k) W (hS.env hE) (hW.below hS.below) (by omega) (hb2 k) (Go.Proofs.enters_of Tryz.func70 (by kernel_rfl) rfl)
    (fun W' i hi hb => LD nc rows _ w.heap.size Bk k W' ((hR.below hS.below).below hb) ((hS.blks _ (.tail _ (.head _))).below hb) ((hS.blks _ (.head _)).below hb) i (by omega) (by have := (p4 _ (Bp (by omega : i < rows.length))).1; omega)))
   have S3 := A8 (fun W (hS : BL w [(w.heap.size, #[.int .i64 (nc : Int), .slice ar rows.length capr], 27)] W) => F7 (.slice aw ws.length capw) ws 71 #[.pointer (some ⟨w.heap.size, 0, none⟩)] (fun i => (rowOf rows i).2) W (hS.env hE) (hW.below hS.below) (by omega) hb3 (Go.Proofs.enters_of Tryz.func71 (by kernel_rfl) rfl)
    (fun W' i hi hb => LE nc rows _ w.heap.size W' ((hR.below hS.below).below hb) ((hS.blks _ (.head _)).below hb) i (by omega)))
   have G2 := A8 (fun k => FV (z := sumZ ws (fun i => gi (rowOf rows i).1 k) ws.length) (sum_small (by omega) (fun i hi => (hb2 k i hi).2)))
   have G3 := FV (z := sumZ ws (fun i => (rowOf rows i).2) ws.length) (sum_small (by omega) (fun i hi => (hb3 i hi).2))
   rw [show ((nc : Int)).toNat = nc from Int.toNat_natCast nc]
   obtain ⟨F, hF⟩ : ∃ F : Nat → Int, F = fun k => sumZ ws (fun i => gi (rowOf rows i).1 k) ws.length := ⟨_, rfl⟩
   have hF' : ∀ k, sumZ ws (fun i => gi (rowOf rows i).1 k) ws.length = F k := fun k => by rw [hF]
   simp only [hF'] at S2 G2 ⊢
   generalize sumZ ws (fun i => (rowOf rows i).2) ws.length = z3 at *
   have hpost : Hid (∀ (b : Bool) k, (b = false ∧ k < nc ∧ F k < 0) ∨ (b = decide (z3 < 0) ∧ ∀ j, j < nc → 0 ≤ F j) → ((true && true && !false && (List.range nc).all (fun k => decide (0 ≤ F k)) && decide (z3 < 0)) = b)) := A8 (fun b k h => by
    rcases h with ⟨rfl, h1, h2⟩ | ⟨rfl, h1⟩
    ·have : (List.range nc).all (fun k => decide (0 ≤ F k)) = false := by
      rw [List.all_eq_false]
      exact ⟨k, List.mem_range.2 h1, by simp; omega⟩
     rw [this]; simp
    ·have : (List.range nc).all (fun k => decide (0 ≤ F k)) = true := by
      rw [List.all_eq_true]
      intro j hj
      exact decide_eq_true (h1 j (List.mem_range.1 hj))
     rw [this]; simp)
   rw [hv] at VA
   rw [ha] at CS
   clear hv hR hW hl ha hnum hb2 hb3 p4 hF hF'
   generalize rows.length = nr at *
   generalize ws.length = nw at *
   obtain ⟨V, hV, hS, z1⟩ := (BL.start w).add' #[.int .i64 (nc : Int), .slice ar nr capr] 27
   clear z1
   obtain ⟨x0, x1⟩ := hS.c2 w.heap.size _ _ _ (.head _)
   go_enter Tryz.func28, Tryz.ntmps28
   go_upto_region 1 with fail
   rw [← hV]
   clear hV
   go_wp2_with fail
   refine Calls.mono (VA.out _ (HR.out.below hS.below)) ?_
   rintro e w1 ⟨rfl, hb⟩
   replace hS := hS.call hb
   clear x0 x1 hb
   obtain ⟨x0, x1⟩ := hS.c2 w.heap.size _ _ _ (.head _)
   go_wp2_with fail
   refine Calls.mono (CS.out _ (HW.out.below hS.below)) ?_
   rintro e w2 ⟨rfl, hb⟩
   replace hS := hS.call hb
   clear x0 x1 hb
   obtain ⟨x0, x1⟩ := hS.c2 w.heap.size _ _ _ (.head _)
   go_wp2_with fail
   clear x0 x1
   go_loopw [23] (fun o wr => ∃ k : Nat, o = .int .i64 k ∧ k ≤ nc ∧ Hid (∀ j, j < k → 0 ≤ F j) ∧ BL w [(w.heap.size, #[.int .i64 (nc : Int), .slice ar nr capr], 27)] wr) (fun o _ => nc - (intOf o).toNat)
   case atStart => exact ⟨0, rfl, by omega, A8 (fun j hj => absurd hj (by omega)), hS⟩
   case round =>
    clear hS
    obtain ⟨k, rfl, hk, hall, hS⟩ := hrel
    by_cases hkn : k < nc
    case pos =>
     have hkn' : (k : Int) < nc := by omega
     go_upto_region 6 with fail
     obtain ⟨W5, hW5, S5, z5⟩ := hS.add' #[.int .i64 k] 3
     rw [← hW5]
     clear hW5 z5
     have hSU := A8 (S2.out k _ hkn W5 S5)
     obtain ⟨sx, hsx, h0, hfb⟩ := G2.out k
     rw [← hsx] at hSU
     clear hsx
     by_cases hneg : F k < 0
     ·rw [decide_eq_true hneg] at hfb
      go_wp2_with fail
      refine Calls.mono hSU.out ?_
      rintro e w6 ⟨rfl, hb⟩
      have hBf := (S5.call hb).below
      go_wp2
      go_ret
      exact ⟨Ae (hpost.out false k (.inl ⟨rfl, hkn, hneg⟩)).symm, hBf⟩
     ·rw [decide_eq_false hneg] at hfb
      go_wp2_with fail
      refine Calls.mono hSU.out ?_
      rintro e w6 ⟨rfl, hb⟩
      have S6 := (S5.call hb).drop (M := [(w.heap.size, #[.int .i64 (nc : Int), .slice ar nr capr], 27)]) (fun p hp => .tail _ hp)
      have hall2 := A8 (show ∀ j, j < k + 1 → 0 ≤ F j from fun j hj => by
       by_cases e : j = k
       ·subst e; omega
       ·exact hall.out j (by omega))
      clear hb S5 hS hneg hall
      go_wp2_with fail
      go_roundw
      case rel => exact ⟨k + 1, by go_num, by omega, hall2, S6⟩
      case measure => simp [intOf]; omega
    case neg =>
     have hkn' : ¬ (k : Int) < nc := by omega
     obtain rfl : k = nc := by omega
     have hSU := A8 (S3.out wr hS)
     obtain ⟨sx, hsx, h0, hfb⟩ := G3
     rw [← hsx] at hSU
     clear hsx
     obtain ⟨b3, hb3⟩ : ∃ b, b = decide (z3 < 0) := ⟨_, rfl⟩
     rw [← hb3] at hfb
     have hb3' := A8 hb3
     clear hb3
     go_wp2_with fail
     refine Calls.mono hSU.out ?_
     rintro e w6 ⟨rfl, hb⟩
     have hBf := (hS.call hb).below
     go_wp2
     go_ret
     exact ⟨Ae (by rw [hpost.out b3 0 (.inr ⟨hb3'.out, hall.out⟩)]), hBf⟩
end
section
namespace LnM
def Kb : Int := 10 ^ 98
theorem Ew {z : Int} (h : (z.natAbs : Int) ≤ 19 * (Kb * Kb)) : Wide z := by
 have hp : 2 * (19 * (Kb * Kb)) < P 12 := by unfold Kb; decide
 unfold Wide
 omega
theorem Kb_pos : 1 ≤ Kb := by unfold Kb; decide
theorem KK : Kb ≤ Kb * Kb := by unfold Kb; decide
theorem Dq {a b x y : Int} (ha : (a.natAbs : Int) ≤ x) (hb : (b.natAbs : Int) ≤ y) : ((a * b).natAbs : Int) ≤ x * y := by
 rw [Int.natAbs_mul, Int.natCast_mul]
 exact Int.mul_le_mul ha hb (by omega) (by omega)
structure Sys.Low (s : Sys) : Prop where
 m : s.m ≤ 18
 d : ∀ B, s.Inv B → ((s.d B).natAbs : Int) ≤ Kb
 T : ∀ B, s.Inv B → ∀ i, i < s.m → ∀ j, j ≤ s.n + s.m → ((s.T B i j).natAbs : Int) ≤ Kb
theorem Sys.Low.C {s : Sys} (h : s.Low) {B : Nat → Nat} (hI : s.Inv B) {j : Nat} (hj : j ≤ s.n + s.m) : ((s.C B j).natAbs : Int) ≤ 19 * Kb := by
 have h1 := bd_C (s := s) (X := Kb) (B := B) (j := j) (h.d B hI) (fun i hi => h.T B hI i hi j hj)
 have h2 := h.m
 have h3 : ((s.m : Int) + 1) * Kb ≤ 19 * Kb := Int.mul_le_mul_of_nonneg_right (by omega) (by have := Kb_pos; omega)
 omega
theorem Sys.Low.of_bd {s : Sys} {A V : Int} (h : s.Bd A V) (hm : s.m ≤ 18) (h1 : A ^ s.m ≤ Kb) (h2 : 0 < s.m → A ^ (s.m - 1) * V ≤ Kb) : s.Low := by
 refine ⟨hm, fun B hI => Int.le_trans (bd_d h hI.bas) h1, fun B hI i hi j hj => ?_⟩
 by_cases e : j = s.n + s.m
 ·subst e; exact Int.le_trans (bd_Tv h hI.bas hi) (h2 (by omega))
 ·exact Int.le_trans (bd_T h hI.bas hi (by omega)) h1
end LnM
open LnM
theorem low_wd {s : LnM.Sys} (h : s.Low) : SysWd s := by
 have k0 := Kb_pos
 have kk := KK
 have w1 : ∀ {z : Int}, (z.natAbs : Int) ≤ 19 * Kb → Wide z := fun hz => Ew (by omega)
 have w2 : ∀ {a b : Int}, (a.natAbs : Int) ≤ Kb → (b.natAbs : Int) ≤ 19 * Kb → Wide (a * b) := fun {a b} ha hb => Ew (by
  have := Dq ha hb
  rw [show Kb * (19 * Kb) = 19 * (Kb * Kb) by rw [← Int.mul_assoc, Int.mul_comm Kb 19, Int.mul_assoc]] at this
  exact this)
 refine ⟨fun B hI => w1 (by have := h.d B hI; omega), fun B hI i hi j hj => w1 (by have := h.T B hI i hi j hj; omega), fun B hI j hj => w1 (h.C hI hj), fun B hI i r k hi hr hk => ?_, fun B r k hI hl hk i hi j hj => ?_, fun B r k hI hl hk j hj => ?_⟩
 ·have a1 := Dq (h.T B hI i hi _ (Aa _)) (h.T B hI r hr k hk)
  have a2 := Dq (h.T B hI r hr _ (Aa _)) (h.T B hI i hi k hk)
  refine Ew ?_
  generalize s.T B i (s.n + s.m) * s.T B r k = a at *
  generalize s.T B r (s.n + s.m) * s.T B i k = b at *
  generalize Kb * Kb = q at *
  omega
 ·exact w2 (h.d B hI) (by have := h.T _ (hI.pivot hk hl) i hi j hj; omega)
 ·exact w2 (h.d B hI) (h.C (hI.pivot hk hl) hj)
theorem low_tx {s : LnM.Sys} (h : s.Low) : SysTx s := by
 have k0 := Kb_pos
 have kk := KK
 have w1 : ∀ {z : Int}, (z.natAbs : Int) ≤ 20 * Kb → Wide z := fun hz => Ew (by
  have : (2 : Int) * Kb ≤ Kb * Kb := by unfold Kb; decide
  omega)
 have w2 : ∀ {z : Int}, (z.natAbs : Int) ≤ 20 * Kb → Wide z ∧ Wide (-z) := fun hz => ⟨w1 hz, w1 (by rw [Int.natAbs_neg]; exact hz)⟩
 refine ⟨fun B hI => w2 (by have := h.d B hI; omega), fun B hI i hi => w2 (by have := h.T B hI i hi _ (Aa _); omega), fun B hI i hi => w2 ?_⟩
 have h1 := h.d B hI
 have h2 := h.C hI (j := s.n + i) (by omega)
 unfold LnM.Sys.w
 omega
theorem sys_low {cols : Nat} {rows : List (List Int × Int)} {K V : Nat} (hm : rows.length ≤ 18) (hK : 1 ≤ K) (hc : ∀ r ∈ rows, ∀ x ∈ r.1, x.natAbs ≤ K) (hv : ∀ r ∈ rows, r.2.natAbs ≤ V)
  (h1 : ((rows.length * K : Nat) : Int) ^ rows.length ≤ Kb) (h2 : 0 < rows.length → ((rows.length * K : Nat) : Int) ^ (rows.length - 1) * ((rows.length * V : Nat) : Int) ≤ Kb) : (sysOf cols rows).Low := by
 by_cases h0 : rows.length = 0
 ·refine ⟨hm, fun B _ => ?_, fun B _ i hi => ?_⟩
  ·have e : (sysOf cols rows).m = 0 := h0
   unfold LnM.Sys.d
   rw [e]
   show (((1 : Int).natAbs : Nat) : Int) ≤ Kb
   have := Kb_pos; simpa using this
  ·have : i < rows.length := hi
   omega
 have hrow : ∀ i, i < rows.length → rowOf rows i ∈ rows := fun i hi => by
  unfold rowOf
  rw [List.getElem?_eq_getElem hi]
  exact List.getElem_mem hi
 have hgi : ∀ i, i < rows.length → ∀ j, (gi (rowOf rows i).1 j).natAbs ≤ K := fun i hi j => by
  by_cases hj : j < (rowOf rows i).1.length
  ·rw [BB hj]; exact hc _ (hrow i hi) _ (List.getElem_mem hj)
  ·rw [Cn (by omega)]; simp
 have hsg : ∀ i (z : Int), (sgnOf rows i * z).natAbs = z.natAbs := fun i z => by
  rcases DI rows i with e | e <;> rw [e] <;> simp
 have hsum : ∀ (f : Nat → Int) (X m : Nat), (∀ i, i < m → (f i).natAbs ≤ X) → sm m (fun i => ((f i).natAbs : Int)) ≤ ((m * X : Nat) : Int) := fun f X m => by
  induction m with
  | zero => intro _; simp [sm]
  | succ m ih =>
   intro h
   have a := ih (fun i hi => h i (by omega))
   have b := h m (by omega)
   rw [sm, Nat.succ_mul]
   omega
 refine LnM.Sys.Low.of_bd (A := ((rows.length * K : Nat) : Int)) (V := ((rows.length * V : Nat) : Int)) ⟨?_, fun j hj => ?_, ?_⟩ hm h1 h2
 ·have : 1 ≤ rows.length * K := Nat.mul_pos (by omega) hK
  omega
 ·refine hsum _ K rows.length fun i hi => ?_
  show (if j < cols then sgnOf rows i * gi (rowOf rows i).1 j else if j < cols + rows.length then (if i = j - cols then (1 : Int) else 0) else sgnOf rows i * (rowOf rows i).2).natAbs ≤ K
  have hj' : j < cols + rows.length := hj
  split
  ·rw [hsg]; exact hgi i hi j
  ·split
   ·exact hK
   ·exact Nat.zero_le _
 ·refine hsum _ V rows.length fun i hi => ?_
  show (if cols + rows.length < cols then _ else if cols + rows.length < cols + rows.length then _ else sgnOf rows i * (rowOf rows i).2).natAbs ≤ V
  rw [if_neg (by omega), if_neg (by omega), hsg]
  exact hv _ (hrow i hi)
end
section
open LnM (sm)
def solN (cols : Nat) (rows : List (List Int × Int)) (B : Nat → Nat) : List ByteArray := (List.range cols).map fun k => I10 ((sysOf cols rows).x B k)
def solW (cols : Nat) (rows : List (List Int × Int)) (B : Nat → Nat) : List ByteArray := (List.range rows.length).map fun i => I10 (sgnOf rows i * (sysOf cols rows).w B i)
theorem I8 (z : Int) : I10 z = I z := rfl
theorem bd100 {z : Int} (h : (z.natAbs : Int) ≤ 20 * LnM.Kb) : Bd 100 z := by
 have : (20 : Int) * LnM.Kb < 10 ^ 100 := by unfold LnM.Kb; decide
 unfold Bd
 generalize (10 : Int) ^ 100 = q at *
 omega
theorem JE {n : Nat} (f : Nat → ByteArray) {i : Nat} (h : i < n) : sAt ((List.range n).map f) i = f i := by
 unfold sAt
 rw [List.getElem?_map, List.getElem?_range h]; rfl
theorem GF {z : Int} (h : Bd 100 z) : numB (I10 z) = true := by
 rw [I8]; unfold numB; rw [BT (h.small (by decide)), C6, Bool.true_and]; exact decide_eq_true h
theorem x_low {s : LnM.Sys} (h : s.Low) {B : Nat → Nat} (hI : s.Inv B) (k : Nat) : ((s.x B k).natAbs : Int) ≤ LnM.Kb := by
 have k0 := LnM.Kb_pos
 unfold LnM.Sys.x
 by_cases hk : ∃ i, i < s.m ∧ B i = k
 ·obtain ⟨i, hi, rfl⟩ := hk
  rw [LnM.sm_single hi (fun j hj hne => if_neg (fun e => hne (hI.dist hj hi e))), if_pos rfl]
  exact h.T B hI i hi _ (Aa _)
 ·rw [LnM.sm_zero (fun j hj => if_neg (fun e => hk ⟨j, hj, e⟩))]
  simp; omega
theorem Fc {rows : List (List Int × Int)} {i : Nat} {a b : Int} (h : sgnOf rows i * a = sgnOf rows i * b) : a = b := by
 rcases DI rows i with e | e <;> rw [e] at h <;> omega
theorem sys_S {cols : Nat} {rows : List (List Int × Int)} (i : Nat) {k : Nat} (hk : k < cols) : (sysOf cols rows).S i k = sgnOf rows i * gi (rowOf rows i).1 k := by
 show (if k < cols then _ else _) = _
 rw [if_pos hk]
theorem sys_V {cols : Nat} {rows : List (List Int × Int)} (i : Nat) : (sysOf cols rows).S i (cols + rows.length) = sgnOf rows i * (rowOf rows i).2 := by
 show (if cols + rows.length < cols then _ else if cols + rows.length < cols + rows.length then _ else _) = _
 rw [if_neg (by omega), if_neg (by omega)]
theorem KF {cols : Nat} {rows : List (List Int × Int)} (hv : validL cols rows = true) (hl : (sysOf cols rows).Low) {B : Nat → Nat} (hI : (sysOf cols rows).Inv B) (h0 : (sysOf cols rows).C B (cols + rows.length) = 0) :
  checkL cols rows (solN cols rows B) (I10 ((sysOf cols rows).d B)) = true := by
 obtain ⟨p1, p2, p3, p4⟩ := Au hv
 obtain ⟨s1, s2⟩ := LnM.solves hI h0
 have hd : Bd 100 ((sysOf cols rows).d B) := bd100 (by have := hl.d B hI; have := LnM.Kb_pos; omega)
 have hx : ∀ k, Bd 100 ((sysOf cols rows).x B k) := fun k => bd100 (by have := x_low hl hI k; have := LnM.Kb_pos; omega)
 have hzd : zS (I10 ((sysOf cols rows).d B)) = (sysOf cols rows).d B := by rw [I8, C6]
 have hlen : (solN cols rows B).length = cols := by unfold solN; simp
 have hform : formedL (solN cols rows B) (I10 ((sysOf cols rows).d B)) = true := by
  unfold formedL
  rw [GF hd, hzd, decide_eq_true hI.dpos, hlen, decide_eq_true (by omega)]
  have : (solN cols rows B).any badB = false := by
   rw [List.any_eq_false]
   intro t ht
   unfold solN at ht
   obtain ⟨k, _, rfl⟩ := List.mem_map.1 ht
   unfold badB
   rw [GF (hx k), I8, C6]
   have := s1 k
   simp; omega
  rw [this]; rfl
 unfold checkL
 rw [hv, hform, hlen]
 simp only [Bool.and_true, beq_self_eq_true, Bool.true_and]
 rw [List.all_eq_true]
 intro r hr
 obtain ⟨i, hi, rfl⟩ := List.mem_iff_getElem.1 hr
 have hrow : rowOf rows i = rows[i] := by unfold rowOf; rw [List.getElem?_eq_getElem hi]; rfl
 rw [← hrow, decide_eq_true_eq, hzd]
 have e := s2 i hi
 refine Fc (rows := rows) (i := i) ?_
 have e2 : (sysOf cols rows).S i ((sysOf cols rows).n + (sysOf cols rows).m) = sgnOf rows i * (rowOf rows i).2 := sys_V i
 rw [e2] at e
 rw [show sgnOf rows i * ((sysOf cols rows).d B * (rowOf rows i).2) = (sysOf cols rows).d B * (sgnOf rows i * (rowOf rows i).2) by rw [← Int.mul_assoc, Int.mul_comm (sgnOf rows i), Int.mul_assoc], ← e]
 unfold sumZ
 rw [← LnM.sm_mul]
 refine LnM.sm_congr fun k hk => ?_
 have hk' : k < cols := hk
 rw [sys_S i hk']
 unfold solN
 rw [JE _ hk', I8, C6, ← Int.mul_assoc, ← Int.mul_assoc, Int.mul_comm (sgnOf rows i)]
theorem I9 {cols : Nat} {rows : List (List Int × Int)} (hv : validL cols rows = true) (hl : (sysOf cols rows).Low) {B : Nat → Nat} (hI : (sysOf cols rows).Inv B) (hend : ∀ k, k < cols → 0 ≤ (sysOf cols rows).C B k) (h0 : (sysOf cols rows).C B (cols + rows.length) ≠ 0) :
  refutesL cols rows (solW cols rows B) = true := by
 obtain ⟨s1, s2⟩ := LnM.refutes (IY cols rows) hI hend h0
 have hw : ∀ i, i < rows.length → Bd 100 (sgnOf rows i * (sysOf cols rows).w B i) := fun i hi => bd100 (by
  have h1 := hl.d B hI
  have h2 := hl.C hI (j := cols + i) (by show cols + i ≤ cols + rows.length; omega)
  have e : (sgnOf rows i * (sysOf cols rows).w B i).natAbs = ((sysOf cols rows).w B i).natAbs := by rcases DI rows i with e | e <;> rw [e] <;> simp
  rw [e]
  show ((((sysOf cols rows).C B (cols + i) - (sysOf cols rows).d B).natAbs : Nat) : Int) ≤ _
  omega)
 have hlen : (solW cols rows B).length = rows.length := by unfold solW; simp
 have hany : ((solW cols rows B).any fun s => !numB s) = false := by
  rw [List.any_eq_false]
  intro t ht
  unfold solW at ht
  obtain ⟨k, hk, rfl⟩ := List.mem_map.1 ht
  rw [GF (hw k (List.mem_range.1 hk))]
  decide
 have hsum : ∀ (f : Nat → Int) (j : Nat), (∀ i, i < rows.length → (sysOf cols rows).S i j = sgnOf rows i * f i) → sumZ (solW cols rows B) f rows.length = sm rows.length (fun l => (sysOf cols rows).w B l * (sysOf cols rows).S l j) := fun f j hj => by
  unfold sumZ
  refine LnM.sm_congr fun i hi => ?_
  rw [hj i hi]
  unfold solW
  rw [JE _ hi, I8, C6, Int.mul_comm (sgnOf rows i), Int.mul_assoc]
 unfold refutesL
 rw [hv, hlen, hany, hsum (fun i => (rowOf rows i).2) (cols + rows.length) (fun i _ => sys_V i)]
 simp only [Bool.true_and, beq_self_eq_true, Bool.not_false, Bool.and_eq_true, decide_eq_true_eq, List.all_eq_true]
 refine ⟨fun k hk => ?_, s2⟩
 have hk' : k < cols := by simpa using hk
 rw [hsum (fun i => gi (rowOf rows i).1 k) k (fun i _ => sys_S i hk')]
 exact s1 k hk'
theorem low_num {m : Nat} (h : m ≤ 8) : ((m * 30000 : Nat) : Int) ^ m ≤ LnM.Kb ∧ ((m * 30000 : Nat) : Int) ^ (m - 1) * ((m * 1000000000 : Nat) : Int) ≤ LnM.Kb := by
 unfold LnM.Kb
 match m, h with
 | 0, _ => decide
 | 1, _ => decide
 | 2, _ => decide
 | 3, _ => decide
 | 4, _ => decide
 | 5, _ => decide
 | 6, _ => decide
 | 7, _ => decide
 | 8, _ => decide
theorem low8 {cols : Nat} {rows : List (List Int × Int)} (hv : validL cols rows = true) (h8 : rows.length ≤ 8) : (sysOf cols rows).Low := by
 obtain ⟨_, _, _, p4⟩ := Au hv
 obtain ⟨h1, h2⟩ := low_num h8
 exact sys_low (K := 30000) (V := 1000000000) (by omega) (by decide) (fun r hr x hx => by have := (p4 r hr).2.1 x hx; omega) (fun r hr => by have := (p4 r hr).2.2; omega) h1 (fun _ => h2)
end
end Go.Proofs.YtcmomjnailihpaaGreatDoor
