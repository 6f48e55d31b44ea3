/- LwM, LwH, LcA, LcB, LcC -/
import Derived.Test.YtcmomjnailihpaaGreatDoorXPkD
set_option maxHeartbeats 8000000
set_option maxRecDepth 100000
namespace Go.Proofs.YtcmomjnailihpaaGreatDoor
section
open Go.RowKit
def SlG {α : Type} (k : Nat) (C : World → Nat → Nat → α → Prop) (W : World) (v : Value) (l : List α) : Prop :=
 (v = .slice none 0 0 ∧ l = []) ∨ ∃ b off cap, v = .slice (some ⟨b, off, none⟩) l.length cap ∧ l.length ≤ cap ∧ cap ≤ maxLen ∧ b < W.heap.size ∧ ∀ j x, l[j]? = some x → C W b (off + j * k) x
def Stable {α : Type} (C : World → Nat → Nat → α → Prop) : Prop := ∀ {W W' : World} {b o : Nat} {x : α}, b < W.heap.size → Below W.heap.size W W' → C W b o x → C W' b o x
theorem SlG.nil {α : Type} {k : Nat} {C : World → Nat → Nat → α → Prop} (W : World) : SlG k C W (.slice none 0 0) [] := .inl ⟨rfl, rfl⟩
theorem SlG.shape {α : Type} {k : Nat} {C : World → Nat → Nat → α → Prop} {W : World} {v : Value} {l : List α} (h : SlG k C W v l) : ∃ a cap, v = .slice a l.length cap := by
 rcases h with ⟨rfl, rfl⟩ | ⟨b, off, cap, rfl, _⟩
 ·exact ⟨_, _, rfl⟩
 ·exact ⟨_, _, rfl⟩
theorem SlG.below {α : Type} {k : Nat} {C : World → Nat → Nat → α → Prop} (hC : Stable C) {W W' : World} {v : Value} {l : List α} (h : SlG k C W v l) (hb : Below W.heap.size W W') : SlG k C W' v l := by
 rcases h with h | ⟨b, off, cap, rfl, h1, h2, h3, h4⟩
 ·exact .inl h
 ·exact .inr ⟨b, off, cap, rfl, h1, h2, A9 h3 hb.size, fun j x hj => hC h3 hb (h4 j x hj)⟩
theorem SlG.len_le {α : Type} {k : Nat} {C : World → Nat → Nat → α → Prop} {W : World} {v : Value} {l : List α} (h : SlG k C W v l) : l.length ≤ maxLen := by
 rcases h with ⟨_, rfl⟩ | ⟨_, _, _, _, h1, h2, _⟩
 ·simp
 ·exact Nat.le_trans h1 h2
theorem SlG.take {α : Type} {k : Nat} {C : World → Nat → Nat → α → Prop} {W : World} {b off cap : Nat} {l : List α} (h1 : l.length ≤ cap) (h2 : cap ≤ maxLen) (h3 : b < W.heap.size)
  (h4 : ∀ j x, l[j]? = some x → C W b (off + j * k) x) {n : Nat} (hn : n ≤ l.length) : SlG k C W (.slice (some ⟨b, off, none⟩) n cap) (l.take n) := by
 refine .inr ⟨b, off, cap, by rw [List.length_take, Nat.min_eq_left hn], by rw [List.length_take, Nat.min_eq_left hn]; omega, h2, h3, fun j x hj => h4 j x ?_⟩
 rw [List.getElem?_take] at hj
 split at hj
 ·exact hj
 ·cases hj
theorem SlG.ptr_lt {α : Type} {k : Nat} {C : World → Nat → Nat → α → Prop} {W : World} {v : Value} {l : List α} (h : SlG k C W v l) : ∀ b o, v.ptr? = some (b, o) → b < W.heap.size := by
 intro b o e
 rcases h with ⟨rfl, _⟩ | ⟨b', off, cap, rfl, h1, h2, h3, h4⟩
 ·cases e
 ·cases e; exact h3
theorem SlG.of_own {α : Type} {k : Nat} {C : World → Nat → Nat → α → Prop} {W : World} {base : Nat} {e : TypeId} {v : Value} {n : Nat} {cs : List Value} {l : List α} (h : W.ownsRow base e k v n cs) (hn : n = l.length)
  (hC : ∀ b, b < W.heap.size → (∀ i x, cs[i]? = some x → W.cell? ⟨b, i, none⟩ = some x) → ∀ j x, l[j]? = some x → C W b (j * k) x) : SlG k C W v l := by
 rcases h.2 with ⟨rfl, h0⟩ | ⟨g, cap, cur, rfl, hb, hg, hn', hm, hs, ht⟩
 ·subst hn
  exact .inl ⟨rfl, List.eq_nil_of_length_eq_zero h0⟩
 ·subst hn
  refine .inr ⟨g, 0, cap, rfl, hn', hm, (Array.getElem?_eq_some_iff.1 hg).1, fun j x hj => ?_⟩
  rw [Nat.zero_add]
  refine hC g (Array.getElem?_eq_some_iff.1 hg).1 (fun i y hi => ?_) j x hj
  have hc := h.cells (g := g) rfl i y hi
  have hadd : (⟨g, 0, none⟩ : Addr).add i = ⟨g, 0 + i, none⟩ := by unfold Addr.add; split <;> simp_all
  rwa [hadd, Nat.zero_add] at hc
def CStr (W : World) (b o : Nat) (s : ByteArray) : Prop := W.cell? ⟨b, o, none⟩ = some (.string s)
theorem CStr.stable : Stable CStr := fun h hb hc => (hb.cell (p := ⟨_, _, none⟩) h).trans hc
abbrev SlS (W : World) (v : Value) (l : List ByteArray) : Prop := SlG 1 CStr W v l
theorem SlS.below {W W' : World} {v : Value} {l : List ByteArray} (h : SlS W v l) (hb : Below W.heap.size W W') : SlS W' v l := SlG.below (C := CStr) (fun h1 h2 h3 => CStr.stable h1 h2 h3) h hb
theorem SlS.of_own {W : World} {base : Nat} {e : TypeId} {v : Value} {n : Nat} {l : List ByteArray} (h : W.ownsRow base e 1 v n (l.map Value.string)) : SlS W v l :=
 SlG.of_own h (by have := h.1; simpa using this.symm) fun b _ hc j x hj => by
  rw [Nat.mul_one]; exact hc j _ (by rw [List.getElem?_map, hj]; rfl)
def CEq (W : World) (b o : Nat) (x : List Int × Int) : Prop := ∃ v, W.cell? ⟨b, o, none⟩ = some v ∧ Sl W v x.1 ∧ W.cell? ⟨b, o + 1, none⟩ = some (.int .i64 x.2)
theorem CEq.stable : Stable CEq := fun h hb ⟨v, h1, h2, h3⟩ => ⟨v, (hb.cell (p := ⟨_, _, none⟩) h).trans h1, h2.below hb, (hb.cell (p := ⟨_, _, none⟩) h).trans h3⟩
abbrev SlE (W : World) (v : Value) (l : List (List Int × Int)) : Prop := SlG 2 CEq W v l
theorem SlE.below {W W' : World} {v : Value} {l : List (List Int × Int)} (h : SlE W v l) (hb : Below W.heap.size W W') : SlE W' v l := SlG.below (C := CEq) (fun h1 h2 h3 => CEq.stable h1 h2 h3) h hb
end
section
open Go.RowKit
attribute [local go_sem] Oper.semAt_some
theorem CO {b : Nat} {w w' : World} (h : Wrote b b w w') (hb : b ≤ w.heap.size) : Below b w w' :=
 ⟨h.os, h.tape, h.output, h.size, fun k hk => by
  by_cases hkw : k < w.heap.size
  ·exact h.block k hk hkw (by omega)
  ·exact absurd hkw (by omega)⟩
def catL (l : List ByteArray) : List UInt8 := l.flatMap fun s => s.data.toList
theorem FP (s : ByteArray) (l : List ByteArray) : catL (s :: l) = s.data.toList ++ catL l := by simp [catL]
theorem E4 {l : List ByteArray} {j : Nat} {s : ByteArray} (h : l[j]? = some s) : catL (l.take (j + 1)) = catL (l.take j) ++ s.data.toList := by
 unfold catL
 rw [List.take_add_one, h]
 simp
theorem HI {l : List ByteArray} (h : ∀ s ∈ l, s.size ≤ 1000) : (catL l).length ≤ 1000 * l.length := by
 induction l with
 | nil => simp [catL]
 | cons s l ih =>
  have h1 := h s List.mem_cons_self
  have h2 := ih fun x hx => h x (List.mem_cons_of_mem _ hx)
  have h3 : s.data.toList.length = s.size := by rw [Array.length_toList]; rfl
  rw [FP, List.length_append, List.length_cons, h3]
  omega
theorem Lo (v : Value) (l : List ByteArray) (w : World) (h : SlS w v l) (h1 : 1 ≤ l.length) (hl : l.length ≤ 50) (hs : ∀ s ∈ l, s.size ≤ 1000) :
  Calls Tryz.prog 83 #[v, .string ⟨#[]⟩] w fun e w' => e = .returned (.string ⟨(catL l).toArray⟩) ∧ Below w.heap.size w w' := by
 rcases h with ⟨rfl, rfl⟩ | ⟨S, off, cap, rfl, q1, q2, hS, hc⟩
 ·simp at h1
 have hc' : ∀ k : Nat, k < l.length → ∃ s : ByteArray, l[k]? = some s ∧ w.cell? ⟨S, off + k, none⟩ = some (.string s) ∧ s.size ≤ 1000 := fun k hk => by
  obtain ⟨s, e⟩ : ∃ s, l[k]? = some s := ⟨l[k], List.getElem?_eq_getElem hk⟩
  have := hc k s e
  rw [Nat.mul_one] at this
  exact ⟨s, e, this, hs s (List.mem_of_getElem? e)⟩
 clear hc
 have hc := A8 hc'
 clear hc'
 obtain ⟨n, hn⟩ : ∃ n, n = l.length := ⟨_, rfl⟩
 rw [← hn] at h1 hl q1 hc ⊢
 by_cases hone : n = 1
 ·obtain ⟨s, e, d0, hs0⟩ := hc.out 0 (by omega)
  have hcat : catL l = s.data.toList := by
   have := E4 e
   rw [List.take_of_length_le (by omega)] at this
   rw [this]; simp [catL]
  rw [hcat]
  have hb : (⟨s.data.toList.toArray⟩ : ByteArray) = s := rfl
  rw [hb]
  subst hone
  rw [Nat.add_zero] at d0
  clear hn hcat hb hs hc
  unfold maxLen at q2
  go_enter Tryz.func83, Tryz.ntmps83
  go_wp2
  go_ret
  exact ⟨rfl, Below.refl _ _⟩
 ·have n2 : (2 : Int) ≤ n := by omega
  have n0 : ¬ (n : Int) = 0 := by omega
  have n1 : ¬ (n : Int) = 1 := by omega
  have h1' : (1 : Int) ≤ n := by omega
  have hcap : (n : Int) ≤ cap := by omega
  have hw1 : IntKind.i64.wrap ((n : Int) - 1) = ((n - 1 : Nat) : Int) := by rw [IntWalk.i64_in _ (by omega)]; omega
  unfold maxLen at q2
  replace hn := A8 hn
  have hcap2 : (2 : Int) ≤ cap := by omega
  go_enter Tryz.func83, Tryz.ntmps83
  go_wp2_with fail
  go_loop [5, 41] (fun n' i => ∃ (k : Nat) (m : Int), n' = .int .i64 m ∧ i = .int .i64 k ∧ k ≤ n ∧ 0 ≤ m ∧ m ≤ 1000 * k) (fun _ i => n - (intOf i).toNat)
  case atStart => exact ⟨0, 0, rfl, rfl, by omega, by omega, by omega⟩
  case round =>
   obtain ⟨k, m, rfl, rfl, hk, hm0, hm1⟩ := hrel
   by_cases hlt : k < n
   ·obtain ⟨s, _, d0, hs0⟩ := hc.out k hlt
    have hi0 : (0 : Int) ≤ (k : Int) := by omega
    have hi1 : (k : Int) < n := by omega
    go_wp2_with fail
    go_round
    case rel => exact ⟨k + 1, m + s.size, rfl, by go_num, by omega, by omega, by omega⟩
    case measure => simp [intOf]; omega
   ·have hk2 : ¬ (k : Int) < n := by omega
    have hm2 : m ≤ 50000 := by omega
    obtain ⟨q, rfl⟩ := Int.eq_ofNat_of_zero_le hm0
    have hB0 : Below w.heap.size w (w.alloc (.cells #[.pointer none, .slice none 0 0] 140)) := (Below.refl _ _).alloc (Aa _) _
    have G := Tryz.Builder_Grow_fresh w.heap.size w.heap.size q (w.alloc (.cells #[.pointer none, .slice none 0 0] 140)) (Aa _) (World.alloc_heap_new w _) (by simp) (by omega)
    have G := A8 G
    go_wp2_with fail
    refine G.out.mono ?_
    rintro e w1 ⟨rfl, hbd, hb1⟩
    have hB1 := hB0.trans hb1
    have hbld : Bld w.heap.size w.heap.size [] w1 := by
     obtain ⟨_, v, h1, h2, _⟩ := hbd
     exact ⟨_, v, h1, .inr rfl, h2⟩
    clear G hbd hb1 hB0
    obtain ⟨s0, e0, d0, z0⟩ := hc.out 0 (by omega)
    replace d0 := (hB1.cell (p := ⟨S, off + 0, none⟩) hS).trans d0
    rw [Nat.add_zero] at d0
    go_wp2_with fail
    refine (AP hbld s0 (by simp; omega) hB1.size).mono ?_
    rintro e w2 ⟨rfl, hb2, hw2⟩
    have hB2 := hB1.trans (CO hw2 hB1.size)
    have ht1 : [] ++ s0.data.toList = catL (l.take (0 + 1)) := by rw [E4 e0]; simp [catL]
    rw [ht1] at hb2
    clear hbld hw2 hB1 d0 ht1 e0 z0
    go_upto_region 22 with fail
    go_loopw [65] (fun i wr => ∃ j : Nat, i = .int .i64 j ∧ j + 1 ≤ n ∧ Bld w.heap.size w.heap.size (catL (l.take (j + 1))) wr ∧ Below w.heap.size w wr) (fun i _ => n - (intOf i).toNat)
    case atStart => exact ⟨0, rfl, by omega, hb2, hB2⟩
    case round =>
     clear hb2 hB2
     obtain ⟨j, rfl, hj, hbd, hB⟩ := hrel
     by_cases hj0 : j + 1 < n
     ·obtain ⟨s1, e1, d1, z1⟩ := hc.out (j + 1) (by omega)
      replace d1 := (hB.cell (p := ⟨S, off + (j + 1), none⟩) hS).trans d1
      rw [← Nat.add_assoc, Nat.add_right_comm] at d1
      have hlen : (catL (l.take (j + 1))).length ≤ 1000 * (j + 1) := Nat.le_trans (HI (fun s hs' => hs s (List.mem_of_mem_take hs'))) (Nat.mul_le_mul_left _ (by rw [List.length_take]; omega))
      have hi0 : (0 : Int) ≤ (j : Int) := by omega
      have hi1 : (j : Int) < ((n - 1 : Nat) : Int) := by omega
      have ht := E4 e1
      go_wp2_with fail
      refine (AP hbd ⟨#[]⟩ (by show _ + 0 ≤ _; omega) hB.size).mono ?_
      rintro e w3 ⟨rfl, hb3, hw3⟩
      have hB3 := hB.trans (CO hw3 hB.size)
      rw [show (⟨#[]⟩ : ByteArray).data.toList = [] from rfl, List.append_nil] at hb3
      clear hbd hw3 hB d1
      go_wp2_with fail
      refine (AP hb3 s1 (by omega) hB3.size).mono ?_
      rintro e w4 ⟨rfl, hb4, hw4⟩
      have hB4 := hB3.trans (CO hw4 hB3.size)
      rw [← ht] at hb4
      clear hb3 hw4 hB3 ht
      go_wp2_with fail
      go_roundw
      case rel => exact ⟨j + 1, by go_num, by omega, hb4, hB4⟩
      case measure => simp [intOf]; omega
     ·have hi1 : ¬ (j : Int) < ((n - 1 : Nat) : Int) := by omega
      have hall : l.take (j + 1) = l := List.take_of_length_le (by have := hn.out; omega)
      rw [hall] at hbd
      clear hall
      go_wp2_with fail
      refine (CH hbd (Aa _) hB.size).mono ?_
      rintro e w3 ⟨rfl, hb3, _⟩
      have hB3 := hB.trans hb3
      go_wp2
      go_ret
      exact ⟨rfl, hB3⟩
theorem EN {α : Type} {l : List α} {k : Nat} (p : α → Bool) (h : k < l.length) : (l.drop k).any p = (p l[k] || (l.drop (k + 1)).any p) := by rw [List.drop_eq_getElem_cons h, List.any_cons]
theorem IJ (v : Value) (l : List ByteArray) (g : Nat) (lb : Array Value) (p : ByteArray → Bool) (w : World) (h : SlS w v l)
  (hE : ∀ (args : Array Value) (w : World), (callFunc g args).run Tryz.prog w = .ok (.enter g args) w)
  (hF : ∀ (W : World) (x : ByteArray), x ∈ l → Below w.heap.size w W → Calls Tryz.prog g (#[.string x] ++ lb) W fun e W' => e = .returned (.bool (p x)) ∧ Below W.heap.size W W') :
  Calls Tryz.prog 106 #[v, .func (.func g) #[] lb] w fun e w' => (∃ z : Int, e = .returned (.int .i64 z) ∧ -1 ≤ z ∧ (0 ≤ z ↔ l.any p = true)) ∧ Below w.heap.size w w' := by
 have hl : l.length ≤ maxLen := h.len_le
 unfold maxLen at hl
 rcases h with ⟨rfl, rfl⟩ | ⟨b, off, cap, rfl, h1, h2, h3, h4⟩
 ·go_enter Tryz.func106, Tryz.ntmps106
  go_wp2_with fail
  go_loopw [8] (fun i wr => i = .int .i64 0 ∧ wr = w) (fun _ _ => 0)
  case atStart => exact ⟨rfl, rfl⟩
  case round =>
   obtain ⟨rfl, rfl⟩ := hrel
   go_wp2
   go_ret
   exact ⟨⟨-1, rfl, by omega, by simp⟩, Below.refl _ _⟩
 ·go_enter Tryz.func106, Tryz.ntmps106
  go_wp2_with fail
  go_loopw [8] (fun i wr => ∃ (k : Nat), i = .int .i64 k ∧ k ≤ l.length ∧ Hid (l.any p = (l.drop k).any p) ∧ Below w.heap.size w wr)
   (fun i _ => l.length - (intOf i).toNat)
  case atStart => exact ⟨0, rfl, by omega, rfl, Below.refl _ _⟩
  case round =>
   obtain ⟨k, rfl, hk, hp, hB⟩ := hrel
   by_cases hkl : k < l.length
   ·have c0 : wr.cell? ⟨b, off + k, none⟩ = some (.string l[k]) := by
     have := h4 k _ (List.getElem?_eq_getElem hkl)
     rw [Nat.mul_one] at this
     exact (hB.cell (p := ⟨_, _, none⟩) h3).trans this
    rw [EN p hkl] at hp
    have hFk := hF wr l[k] (List.getElem_mem hkl) hB
    cases hpk : p l[k] with
    | true =>
     replace hp := A8 (show l.any p = true by rw [hp.out, hpk] <;> rfl)
     rw [hpk] at hFk
     clear hpk
     replace hFk := A8 hFk
     generalize l[k] = x at *
     go_wp2_with fail
     refine hFk.out.mono ?_
     rintro e W' ⟨rfl, hb⟩
     go_wp2
     go_ret
     exact ⟨⟨k, rfl, by omega, by rw [hp.out]; simp⟩, Ad hb hB (Aa _)⟩
    | false =>
     replace hp := A8 (show l.any p = (l.drop (k + 1)).any p by rw [hp.out, hpk] <;> rfl)
     rw [hpk] at hFk
     clear hpk
     replace hFk := A8 hFk
     generalize l[k] = x at *
     go_wp2_with fail
     refine hFk.out.mono ?_
     rintro e W' ⟨rfl, hb⟩
     go_wp2_with fail
     go_roundw
     case rel => exact ⟨k + 1, by go_num, by omega, hp, Ad hb hB (Aa _)⟩
     case measure => simp [intOf]; omega
   ·have hp := A8 (show l.any p = false by rw [hp.out, List.drop_eq_nil_of_le (by omega)]; rfl)
    go_wp2
    go_ret
    exact ⟨⟨-1, rfl, by omega, by rw [hp.out]; simp⟩, hB⟩
theorem Dc (v : Value) (l : List ByteArray) (g : Nat) (lb : Array Value) (p : ByteArray → Bool) (w : World) (h : SlS w v l)
  (hE : ∀ (args : Array Value) (w : World), (callFunc g args).run Tryz.prog w = .ok (.enter g args) w)
  (hF : ∀ (W : World) (x : ByteArray), x ∈ l → Below w.heap.size w W → Calls Tryz.prog g (#[.string x] ++ lb) W fun e W' => e = .returned (.bool (p x)) ∧ Below W.heap.size W W') :
  Calls Tryz.prog 68 #[v, .func (.func g) #[] lb] w fun e w' => e = .returned (.bool (l.any p)) ∧ Below w.heap.size w w' := by
 have hI := A8 (IJ v l g lb p w h hE hF)
 go_enter Tryz.func68, Tryz.ntmps68
 go_wp2_with fail
 refine hI.out.mono ?_
 rintro e w' ⟨⟨z, rfl, hz0, hz⟩, hb⟩
 replace hz := A8 (show decide (0 ≤ z) = l.any p by cases hc : l.any p <;> simp [hc] at hz ⊢ <;> omega)
 go_wp2
 go_ret
 exact ⟨Ae hz.out, hb⟩
theorem IK (v : Value) (l : List Int) (g : Nat) (lb : Array Value) (p : Int → Bool) (w : World) (h : Sl w v l)
  (hE : ∀ (args : Array Value) (w : World), (callFunc g args).run Tryz.prog w = .ok (.enter g args) w)
  (hF : ∀ (W : World) (x : Int), x ∈ l → Below w.heap.size w W → Calls Tryz.prog g (#[.int .i64 x] ++ lb) W fun e W' => e = .returned (.bool (p x)) ∧ Below W.heap.size W W') :
  Calls Tryz.prog 86 #[v, .func (.func g) #[] lb] w fun e w' => (∃ z : Int, e = .returned (.int .i64 z) ∧ -1 ≤ z ∧ (0 ≤ z ↔ l.any p = true)) ∧ Below w.heap.size w w' := by
 have hl : l.length ≤ maxLen := h.len_le
 unfold maxLen at hl
 rcases h with ⟨rfl, rfl⟩ | ⟨b, off, cap, rfl, h1, h2, h3, h4⟩
 ·go_enter Tryz.func86, Tryz.ntmps86
  go_wp2_with fail
  go_loopw [8] (fun i wr => i = .int .i64 0 ∧ wr = w) (fun _ _ => 0)
  case atStart => exact ⟨rfl, rfl⟩
  case round =>
   obtain ⟨rfl, rfl⟩ := hrel
   go_wp2
   go_ret
   exact ⟨⟨-1, rfl, by omega, by simp⟩, Below.refl _ _⟩
 ·go_enter Tryz.func86, Tryz.ntmps86
  go_wp2_with fail
  go_loopw [8] (fun i wr => ∃ (k : Nat), i = .int .i64 k ∧ k ≤ l.length ∧ Hid (l.any p = (l.drop k).any p) ∧ Below w.heap.size w wr)
   (fun i _ => l.length - (intOf i).toNat)
  case atStart => exact ⟨0, rfl, by omega, rfl, Below.refl _ _⟩
  case round =>
   obtain ⟨k, rfl, hk, hp, hB⟩ := hrel
   by_cases hkl : k < l.length
   ·have c0 : wr.cell? ⟨b, off + k, none⟩ = some (.int .i64 l[k]) := by
     have := h4 k hkl
     rw [BB hkl] at this
     exact (hB.cell (p := ⟨_, _, none⟩) h3).trans this
    rw [EN p hkl] at hp
    have hFk := hF wr l[k] (List.getElem_mem hkl) hB
    cases hpk : p l[k] with
    | true =>
     replace hp := A8 (show l.any p = true by rw [hp.out, hpk] <;> rfl)
     rw [hpk] at hFk
     clear hpk
     replace hFk := A8 hFk
     generalize l[k] = x at *
     go_wp2_with fail
     refine hFk.out.mono ?_
     rintro e W' ⟨rfl, hb⟩
     go_wp2
     go_ret
     exact ⟨⟨k, rfl, by omega, by rw [hp.out]; simp⟩, Ad hb hB (Aa _)⟩
    | false =>
     replace hp := A8 (show l.any p = (l.drop (k + 1)).any p by rw [hp.out, hpk] <;> rfl)
     rw [hpk] at hFk
     clear hpk
     replace hFk := A8 hFk
     generalize l[k] = x at *
     go_wp2_with fail
     refine hFk.out.mono ?_
     rintro e W' ⟨rfl, hb⟩
     go_wp2_with fail
     go_roundw
     case rel => exact ⟨k + 1, by go_num, by omega, hp, Ad hb hB (Aa _)⟩
     case measure => simp [intOf]; omega
   ·have hp := A8 (show l.any p = false by rw [hp.out, List.drop_eq_nil_of_le (by omega)]; rfl)
    go_wp2
    go_ret
    exact ⟨⟨-1, rfl, by omega, by rw [hp.out]; simp⟩, hB⟩
theorem Fv (v : Value) (l : List Int) (g : Nat) (lb : Array Value) (p : Int → Bool) (w : World) (h : Sl w v l)
  (hE : ∀ (args : Array Value) (w : World), (callFunc g args).run Tryz.prog w = .ok (.enter g args) w)
  (hF : ∀ (W : World) (x : Int), x ∈ l → Below w.heap.size w W → Calls Tryz.prog g (#[.int .i64 x] ++ lb) W fun e W' => e = .returned (.bool (p x)) ∧ Below W.heap.size W W') :
  Calls Tryz.prog 46 #[v, .func (.func g) #[] lb] w fun e w' => e = .returned (.bool (l.any p)) ∧ Below w.heap.size w w' := by
 have hI := A8 (IK v l g lb p w h hE hF)
 go_enter Tryz.func46, Tryz.ntmps46
 go_wp2_with fail
 refine hI.out.mono ?_
 rintro e w' ⟨⟨z, rfl, hz0, hz⟩, hb⟩
 replace hz := A8 (show decide (0 ≤ z) = l.any p by cases hc : l.any p <;> simp [hc] at hz ⊢ <;> omega)
 go_wp2
 go_ret
 exact ⟨Ae hz.out, hb⟩
theorem IL (v : Value) (l : List (List Int × Int)) (g : Nat) (lb : Array Value) (p : (List Int × Int) → Bool) (w : World) (h : SlE w v l)
  (hE : ∀ (args : Array Value) (w : World), (callFunc g args).run Tryz.prog w = .ok (.enter g args) w)
  (hF : ∀ (W : World) (x : (List Int × Int)) (v : Value), x ∈ l → Below w.heap.size w W → Sl W v x.1 → Calls Tryz.prog g (#[.agg #[v, .int .i64 x.2]] ++ lb) W fun e W' => e = .returned (.bool (p x)) ∧ Below W.heap.size W W') :
  Calls Tryz.prog 85 #[v, .func (.func g) #[] lb] w fun e w' => (∃ z : Int, e = .returned (.int .i64 z) ∧ -1 ≤ z ∧ (0 ≤ z ↔ l.any p = true)) ∧ Below w.heap.size w w' := by
 have hl : l.length ≤ maxLen := h.len_le
 unfold maxLen at hl
 rcases h with ⟨rfl, rfl⟩ | ⟨b, off, cap, rfl, h1, h2, h3, h4⟩
 ·go_enter Tryz.func85, Tryz.ntmps85
  go_wp2_with fail
  go_loopw [8] (fun i wr => i = .int .i64 0 ∧ wr = w) (fun _ _ => 0)
  case atStart => exact ⟨rfl, rfl⟩
  case round =>
   obtain ⟨rfl, rfl⟩ := hrel
   go_wp2
   go_ret
   exact ⟨⟨-1, rfl, by omega, by simp⟩, Below.refl _ _⟩
 ·go_enter Tryz.func85, Tryz.ntmps85
  go_wp2_with fail
  go_loopw [8] (fun i wr => ∃ (k : Nat), i = .int .i64 k ∧ k ≤ l.length ∧ Hid (l.any p = (l.drop k).any p) ∧ Below w.heap.size w wr)
   (fun i _ => l.length - (intOf i).toNat)
  case atStart => exact ⟨0, rfl, by omega, rfl, Below.refl _ _⟩
  case round =>
   obtain ⟨k, rfl, hk, hp, hB⟩ := hrel
   by_cases hkl : k < l.length
   ·obtain ⟨cv, c0, hcs, c1⟩ := h4 k _ (List.getElem?_eq_getElem hkl)
    obtain ⟨ac, cp, rfl⟩ := hcs.shape
    replace c0 := (hB.cell (p := ⟨_, _, none⟩) h3).trans c0
    replace c1 := (hB.cell (p := ⟨_, _, none⟩) h3).trans c1
    rw [EN p hkl] at hp
    have hFk := hF wr l[k] (.slice ac l[k].1.length cp) (List.getElem_mem hkl) hB (hcs.below hB)
    generalize l[k].1.length = lk at *
    cases hpk : p l[k] with
    | true =>
     replace hp := A8 (show l.any p = true by rw [hp.out, hpk] <;> rfl)
     rw [hpk] at hFk
     clear hpk
     replace hFk := A8 hFk
     generalize l[k] = x at *
     go_wp2_with fail
     refine hFk.out.mono ?_
     rintro e W' ⟨rfl, hb⟩
     go_wp2
     go_ret
     exact ⟨⟨k, rfl, by omega, by rw [hp.out]; simp⟩, Ad hb hB (Aa _)⟩
    | false =>
     replace hp := A8 (show l.any p = (l.drop (k + 1)).any p by rw [hp.out, hpk] <;> rfl)
     rw [hpk] at hFk
     clear hpk
     replace hFk := A8 hFk
     generalize l[k] = x at *
     go_wp2_with fail
     refine hFk.out.mono ?_
     rintro e W' ⟨rfl, hb⟩
     go_wp2_with fail
     go_roundw
     case rel => exact ⟨k + 1, by go_num, by omega, hp, Ad hb hB (Aa _)⟩
     case measure => simp [intOf]; omega
   ·have hp := A8 (show l.any p = false by rw [hp.out, List.drop_eq_nil_of_le (by omega)]; rfl)
    go_wp2
    go_ret
    exact ⟨⟨-1, rfl, by omega, by rw [hp.out]; simp⟩, hB⟩
theorem Dd (v : Value) (l : List (List Int × Int)) (g : Nat) (lb : Array Value) (p : (List Int × Int) → Bool) (w : World) (h : SlE w v l)
  (hE : ∀ (args : Array Value) (w : World), (callFunc g args).run Tryz.prog w = .ok (.enter g args) w)
  (hF : ∀ (W : World) (x : (List Int × Int)) (v : Value), x ∈ l → Below w.heap.size w W → Sl W v x.1 → Calls Tryz.prog g (#[.agg #[v, .int .i64 x.2]] ++ lb) W fun e W' => e = .returned (.bool (p x)) ∧ Below W.heap.size W W') :
  Calls Tryz.prog 44 #[v, .func (.func g) #[] lb] w fun e w' => e = .returned (.bool (l.any p)) ∧ Below w.heap.size w w' := by
 have hI := A8 (IL v l g lb p w h hE hF)
 go_enter Tryz.func44, Tryz.ntmps44
 go_wp2_with fail
 refine hI.out.mono ?_
 rintro e w' ⟨⟨z, rfl, hz0, hz⟩, hb⟩
 replace hz := A8 (show decide (0 ≤ z) = l.any p by cases hc : l.any p <;> simp [hc] at hz ⊢ <;> omega)
 go_wp2
 go_ret
 exact ⟨Ae hz.out, hb⟩
theorem Ct (n lo hi : Int) (w : World) : Calls Tryz.prog 42 #[.int .i64 n, .int .i64 lo, .int .i64 hi] w (Rets w (.bool (decide (lo ≤ n) && decide (n ≤ hi)))) := by
 go_enter Tryz.func42, Tryz.ntmps42
 by_cases h1 : lo ≤ n
 ·by_cases h2 : n ≤ hi
  ·go_wp2
   go_ret
   exact ⟨Ae (by simp [h1, h2]), Below.refl _ _⟩
  ·go_wp2
   go_ret
   exact ⟨Ae (by simp [h2]), Below.refl _ _⟩
 ·go_wp2
  go_ret
  exact ⟨Ae (by simp; omega), Below.refl _ _⟩
instance bdDec (k : Nat) (z : Int) : Decidable (Bd k z) := by unfold Bd; infer_instance
def numB (s : ByteArray) : Bool := okS s && decide (Bd 100 (zS s))
theorem Es {s : ByteArray} (h : okS s = true) : s.data.toList = Lib.itoa (zS s) := (Ck (l := s.data.toList) h).1
theorem Dl {s : ByteArray} (h : okS s = true) : ∃ h0 : 0 < s.size, (((s[0]).toNat : Int) == 45) = decide (zS s < 0) := by
 have e := Es h
 by_cases hz : zS s < 0
 ·rw [BS hz] at e
  have h0 : 0 < s.size := by
   have := congrArg List.length e
   rw [Array.length_toList, List.length_cons] at this
   show 0 < s.data.size
   omega
  refine ⟨h0, ?_⟩
  have hb : s[0] = 45 := by
   show s.data[0] = 45
   have : s.data.toList[0]? = some 45 := by rw [e]; rfl
   rw [Array.getElem?_toList, Array.getElem?_eq_getElem h0] at this
   exact Option.some.inj this
  rw [hb]; simp [hz]
 ·rw [Ao (by omega)] at e
  obtain ⟨b, r, hb, hne⟩ := BU (zS s).toNat
  rw [hb] at e
  have h0 : 0 < s.size := by
   have := congrArg List.length e
   rw [Array.length_toList, List.length_cons] at this
   show 0 < s.data.size
   omega
  refine ⟨h0, ?_⟩
  have hb : s[0] = b := by
   show s.data[0] = b
   have : s.data.toList[0]? = some b := by rw [e]; rfl
   rw [Array.getElem?_toList, Array.getElem?_eq_getElem h0] at this
   exact Option.some.inj this
  rw [hb, IF hne]; simp; omega
theorem num_pos {s : ByteArray} (h : okS s = true) (hz : ¬ zS s < 0) : s.size ≤ 100 ↔ Bd 100 (zS s) := by
 have e := congrArg List.length (Es h)
 rw [Ao (by omega), Array.length_toList] at e
 have e2 : s.size = (Lib.decDigits (zS s).toNat).length := e
 have hn : (zS s).toNat = (zS s).natAbs := by omega
 rw [e2, Bd.nat, hn]
 constructor
 ·intro h1
  refine Nat.lt_of_not_le fun h2 => ?_
  have := BE h2
  omega
 ·intro h1
  exact AQ h1 (by decide)
theorem num_neg {s : ByteArray} (h : okS s = true) (hz : zS s < 0) : s.size ≤ 101 ↔ Bd 100 (zS s) := by
 have e := congrArg List.length (Es h)
 rw [BS hz, Array.length_toList, List.length_cons] at e
 have e2 : s.size = (Lib.decDigits (zS s).natAbs).length + 1 := e
 rw [e2, Bd.nat]
 constructor
 ·intro h1
  refine Nat.lt_of_not_le fun h2 => ?_
  have := BE h2
  omega
 ·intro h1
  have := AQ h1 (by decide)
  omega
theorem CL (s : ByteArray) (w : World) : Calls Tryz.prog 62 #[.string s] w (Rets w (.bool (numB s))) := by
 have VA := A8 (fun W => JX s W)
 cases hk : okS s with
 | false =>
  have e : numB s = false := by unfold numB; rw [hk]; rfl
  rw [hk] at VA
  rw [e]
  clear hk e
  go_enter Tryz.func62, Tryz.ntmps62
  go_wp2_with fail
  refine Calls.mono (VA.out _) ?_
  rintro e w1 ⟨rfl, hb⟩
  go_wp2
  go_ret
  exact ⟨rfl, hb⟩
 | true =>
  rw [hk] at VA
  have e : numB s = decide (Bd 100 (zS s)) := by unfold numB; rw [hk]; rfl
  rw [e]
  obtain ⟨h0, hf⟩ := Dl hk
  have hn1 := num_pos hk
  have hn2 := num_neg hk
  clear hk e
  by_cases h1 : s.size ≤ 100
  ·have e : decide (Bd 100 (zS s)) = true := by
    rw [decide_eq_true_iff]
    by_cases hz : zS s < 0
    ·exact (hn2 hz).1 (by omega)
    ·exact (hn1 hz).1 h1
   rw [e]
   clear hf hn1 hn2 e
   have h1' : (s.size : Int) ≤ 100 := by omega
   go_enter Tryz.func62, Tryz.ntmps62
   go_wp2_with fail
   refine Calls.mono (VA.out _) ?_
   rintro e w1 ⟨rfl, hb⟩
   go_wp2
   go_ret
   exact ⟨rfl, hb⟩
  ·have h1' : ¬ (s.size : Int) ≤ 100 := by omega
   have h1c : 100 < s.size := by omega
   by_cases hz : zS s < 0
   ·rw [show decide (zS s < 0) = true by simp [hz]] at hf
    have hb2 := hn2 hz
    clear hn1 hn2
    by_cases h2 : s.size = 101
    ·have e : decide (Bd 100 (zS s)) = true := decide_eq_true (hb2.1 (by omega))
     rw [e]
     have h2' : ((s.size : Int) == 101) = true := by simp; omega
     have h2c : (s.size : Int) = 101 := by omega
     clear hb2 hz e h2
     go_enter Tryz.func62, Tryz.ntmps62
     go_wp2_with fail
     refine Calls.mono (VA.out _) ?_
     rintro e w1 ⟨rfl, hb⟩
     go_wp2
     go_ret
     exact ⟨Ae (by simp), hb⟩
    ·have e : decide (Bd 100 (zS s)) = false := decide_eq_false (fun h => by have := hb2.2 h; omega)
     rw [e]
     have h2' : ((s.size : Int) == 101) = false := by simp; omega
     clear hb2 hz e
     go_enter Tryz.func62, Tryz.ntmps62
     go_wp2_with fail
     refine Calls.mono (VA.out _) ?_
     rintro e w1 ⟨rfl, hb⟩
     go_wp2
     go_ret
     exact ⟨Ae (by simp; omega), hb⟩
   ·rw [show decide (zS s < 0) = false by simp [hz]] at hf
    have e : decide (Bd 100 (zS s)) = false := decide_eq_false (fun h => by have := (hn1 hz).2 h; omega)
    rw [e]
    clear hn1 hn2 hz e
    go_enter Tryz.func62, Tryz.ntmps62
    go_wp2_with fail
    refine Calls.mono (VA.out _) ?_
    rintro e w1 ⟨rfl, hb⟩
    go_wp2
    go_ret
    exact ⟨Ae (by simp; omega), hb⟩
def badB (s : ByteArray) : Bool := !numB s || decide (zS s < 0)
theorem FJ (s : ByteArray) (w : World) : Calls Tryz.prog 87 #[.string s] w (Rets w (.bool (badB s))) := by
 have VA := A8 (fun W => CL s W)
 unfold badB
 cases hk : numB s with
 | false =>
  rw [hk] at VA
  clear hk
  go_enter Tryz.func87, Tryz.ntmps87
  go_wp2_with fail
  refine Calls.mono (VA.out _) ?_
  rintro e w1 ⟨rfl, hb⟩
  go_wp2
  go_ret
  exact ⟨rfl, hb⟩
 | true =>
  rw [hk] at VA
  have hok : okS s = true := by unfold numB at hk; rw [Bool.and_eq_true] at hk; exact hk.1
  obtain ⟨h0, hf⟩ := Dl hok
  clear hk hok
  generalize decide (zS s < 0) = b at *
  cases b <;>
  ·go_enter Tryz.func87, Tryz.ntmps87
   go_wp2_with fail
   refine Calls.mono (VA.out _) ?_
   rintro e w1 ⟨rfl, hb⟩
   go_wp2
   go_ret
   exact ⟨Ae (by simp), hb⟩
def largeB (x : Int) : Bool := !(decide (-30000 ≤ x) && decide (x ≤ 30000))
def badE (cols : Int) (r : List Int × Int) : Bool := !((r.1.length : Int) == cols) || r.1.any largeB || !(decide (-1000000000 ≤ r.2) && decide (r.2 ≤ 1000000000))
def validL (cols : Int) (rows : List (List Int × Int)) : Bool := (decide (0 ≤ cols) && decide (cols ≤ 64)) && decide (rows.length ≤ 18) && !(rows.any (badE cols))
def formedL (l : List ByteArray) (den : ByteArray) : Bool := decide (l.length ≤ 64) && !(l.any badB) && (numB den && decide (0 < zS den))
theorem Ke {s : ByteArray} (h : okS s = true) : (s.data.toList == [48]) = decide (zS s = 0) := by
 have e := Es h
 by_cases hz : zS s = 0
 ·rw [e, hz, Ao (by decide), Ap (by decide)]; rfl
 ·have h2 : s.data.toList ≠ [48] := fun h48 => hz (by show ival s.data.toList = 0; rw [h48]; rfl)
  simp [hz, h2]
theorem IM (x : Int) (w : World) : Calls Tryz.prog 43 #[.int .i64 x] w (Rets w (.bool (largeB x))) := by
 have IN := A8 (fun W => Ct x (-30000) 30000 W)
 unfold largeB
 generalize (decide (-30000 ≤ x) && decide (x ≤ 30000)) = b at *
 go_enter Tryz.func43, Tryz.ntmps43
 go_wp2_with fail
 refine Calls.mono (IN.out _) ?_
 rintro e w1 ⟨rfl, hb⟩
 go_wp2
 go_ret
 exact ⟨rfl, hb⟩
theorem IO (cols val : Int) (v rv : Value) (coef : List Int) (Bs Bf : Nat) (w : World) (h : Sl w v coef) (k1 : Blk w Bs #[.int .i64 cols, rv] 27) (k2 : Blk w Bf #[.func (.func 43) #[] #[]] 80) :
  Calls Tryz.prog 45 #[.agg #[v, .int .i64 val], .pointer (some ⟨Bs, 0, none⟩), .pointer (some ⟨Bf, 0, none⟩)] w (Rets w (.bool (badE cols (coef, val)))) := by
 have hlen := h.len_le
 unfold maxLen at hlen
 have IN := A8 (fun W => Ct val (-1000000000) 1000000000 W)
 have hS : BL w [(w.heap.size, #[v, .int .i64 val], 60), (Bs, #[.int .i64 cols, rv], 27), (Bf, #[.func (.func 43) #[] #[]], 80)] (w.alloc (.cells #[v, .int .i64 val] 60)) := (⟨Below.refl _ _, fun p hp => by
  rcases List.mem_cons.1 hp with rfl | hp
  ·exact k1
  ·rcases List.mem_cons.1 hp with rfl | hp
   ·exact k2
   ·cases hp⟩ : BL w [(Bs, #[.int .i64 cols, rv], 27), (Bf, #[.func (.func 43) #[] #[]], 80)] w).add _ _
 have CI := A8 (fun W (hW : Sl W v coef) => Fv v coef 43 #[] largeB W hW (Go.Proofs.enters_of Tryz.func43 (by kernel_rfl) rfl) (fun W x _ _ => by rw [Array.append_empty]; exact IM x W))
 have HS := A8 h
 obtain ⟨V, hV⟩ : ∃ V, V = w.alloc (.cells #[v, .int .i64 val] 60) := ⟨_, rfl⟩
 rw [← hV] at hS
 obtain ⟨a, cap, rfl⟩ := h.shape
 unfold badE
 dsimp only
 generalize (decide (-1000000000 ≤ val) && decide (val ≤ 1000000000)) = bin at *
 by_cases hc : (coef.length : Int) = cols
 ·have hc1 : ((coef.length : Int) == cols) = true := by simp [hc]
  have hc2 : ((coef.length : Int) != cols) = false := by simp [hc]
  rw [hc1]
  cases hany : coef.any largeB
  ·rw [hany] at CI
   clear hany hc k1 k2
   generalize coef.length = n at *
   obtain ⟨x0, x1⟩ := hS.c2 w.heap.size _ _ _ (.head _)
   have y0 := (hS.c2 Bs _ _ _ (.tail _ (.head _))).1
   have y1 := hS.c1 Bf _ _ (.tail _ (.tail _ (.head _)))
   go_enter Tryz.func45, Tryz.ntmps45
   go_upto_region 1 with fail
   rw [← hV]
   clear hV
   go_wp2_with fail
   refine Calls.mono (CI.out _ (HS.out.below hS.below)) ?_
   rintro e w1 ⟨rfl, hb⟩
   replace hS := hS.call hb
   clear x0 x1 y0 y1 hb
   obtain ⟨x0, x1⟩ := hS.c2 w.heap.size _ _ _ (.head _)
   go_wp2_with fail
   refine Calls.mono (IN.out _) ?_
   rintro e w2 ⟨rfl, hb⟩
   replace hS := hS.call hb
   go_wp2
   go_ret
   exact ⟨Ae (by simp), hS.below⟩
  ·rw [hany] at CI
   clear hany hc k1 k2
   generalize coef.length = n at *
   obtain ⟨x0, x1⟩ := hS.c2 w.heap.size _ _ _ (.head _)
   have y0 := (hS.c2 Bs _ _ _ (.tail _ (.head _))).1
   have y1 := hS.c1 Bf _ _ (.tail _ (.tail _ (.head _)))
   go_enter Tryz.func45, Tryz.ntmps45
   go_upto_region 1 with fail
   rw [← hV]
   clear hV
   go_wp2_with fail
   refine Calls.mono (CI.out _ (HS.out.below hS.below)) ?_
   rintro e w1 ⟨rfl, hb⟩
   replace hS := hS.call hb
   go_wp2
   go_ret
   exact ⟨Ae (by simp), hS.below⟩
 ·have hc1 : ((coef.length : Int) == cols) = false := by simp [hc]
  have hc2 : ((coef.length : Int) != cols) = true := by simp [hc]
  rw [hc1]
  clear k1 k2
  generalize coef.length = n at *
  obtain ⟨x0, x1⟩ := hS.c2 w.heap.size _ _ _ (.head _)
  have y0 := (hS.c2 Bs _ _ _ (.tail _ (.head _))).1
  go_enter Tryz.func45, Tryz.ntmps45
  go_upto_region 1 with fail
  rw [← hV]
  clear hV
  go_wp2
  go_ret
  exact ⟨Ae (by simp), hS.below⟩
theorem BG (cols : Int) (v : Value) (rows : List (List Int × Int)) (w : World) (h : SlE w v rows) :
  Calls Tryz.prog 15 #[.agg #[.int .i64 cols, v]] w (Rets w (.bool (validL cols rows))) := by
 have hlen : rows.length ≤ maxLen := h.len_le
 unfold maxLen at hlen
 have IN := A8 (fun W => Ct cols 0 64 W)
 obtain ⟨V, hV, S1, z1⟩ := (BL.start w).add' #[.int .i64 cols, v] 27
 obtain ⟨a, cap, rfl⟩ := h.shape
 have HS := A8 h
 replace z1 := A8 z1
 have hS := S1
 clear S1
 unfold validL
 cases hin : (decide (0 ≤ cols) && decide (cols ≤ 64))
 ·rw [hin] at IN
  clear hin
  generalize rows.length = n at *
  obtain ⟨x0, x1⟩ := hS.c2 w.heap.size _ _ _ (.head _)
  go_enter Tryz.func15, Tryz.ntmps15
  go_upto_region 1 with fail
  rw [← hV]
  clear hV
  go_wp2_with fail
  refine Calls.mono (IN.out _) ?_
  rintro e w1 ⟨rfl, hb⟩
  replace hS := hS.call hb
  go_wp2
  go_ret
  exact ⟨Ae (by simp), hS.below⟩
 ·rw [hin] at IN
  clear hin
  by_cases hn : rows.length ≤ 18
  ·rw [decide_eq_true hn]
   have hn' : ¬ (18 : Int) < (rows.length : Int) := by omega
   have CE := A8 (fun W (hW : SlE W (.slice a rows.length cap) rows) (k1 : Blk W w.heap.size #[.int .i64 cols, .slice a rows.length cap] 27) (Bf : Nat) (k2 : Blk W Bf #[.func (.func 43) #[] #[]] 80) => Dd _ rows 45 #[.pointer (some ⟨w.heap.size, 0, none⟩), .pointer (some ⟨Bf, 0, none⟩)] (badE cols) W hW (Go.Proofs.enters_of Tryz.func45 (by kernel_rfl) rfl) (fun W' x v' _ hb hv => IO cols x.2 v' _ x.1 w.heap.size Bf W' hv (k1.below hb) (k2.below hb)))
   generalize rows.any (badE cols) = bb at *
   clear h
   generalize rows.length = n at *
   obtain ⟨x0, x1⟩ := hS.c2 w.heap.size _ _ _ (.head _)
   go_enter Tryz.func15, Tryz.ntmps15
   go_upto_region 1 with fail
   rw [← hV]
   clear hV
   go_wp2_with fail
   refine Calls.mono (IN.out _) ?_
   rintro e w1 ⟨rfl, hb⟩
   replace hS := hS.call hb
   clear x0 x1 hb
   obtain ⟨x0, x1⟩ := hS.c2 w.heap.size _ _ _ (.head _)
   go_upto_region 4 with fail
   clear x0 x1
   obtain ⟨W2, hW2, S2, z2⟩ := hS.add' #[.func (.func 43) #[] #[]] 80
   rw [← hW2]
   clear hW2 z2 hS
   obtain ⟨x0, x1⟩ := S2.c2 w.heap.size _ _ _ (.tail _ (.head _))
   go_wp2_with fail
   refine Calls.mono (CE.out _ (HS.out.below S2.below) (S2.blks _ (.tail _ (.head _))) _ (S2.blks _ (.head _))) ?_
   rintro e w3 ⟨rfl, hb⟩
   have hB := Ad hb S2.below (Aa _)
   go_wp2
   go_ret
   exact ⟨Ae (by simp), hB⟩
  ·rw [decide_eq_false hn]
   have hn' : (18 : Int) < (rows.length : Int) := by omega
   clear h
   generalize rows.length = n at *
   obtain ⟨x0, x1⟩ := hS.c2 w.heap.size _ _ _ (.head _)
   go_enter Tryz.func15, Tryz.ntmps15
   go_upto_region 1 with fail
   rw [← hV]
   clear hV
   go_wp2_with fail
   refine Calls.mono (IN.out _) ?_
   rintro e w1 ⟨rfl, hb⟩
   replace hS := hS.call hb
   clear x0 x1 hb
   obtain ⟨x0, x1⟩ := hS.c2 w.heap.size _ _ _ (.head _)
   go_wp2
   go_ret
   exact ⟨Ae (by simp), hS.below⟩
theorem Kf (l : List ByteArray) (den : ByteArray) : formedL l den = (decide (l.length ≤ 64) && !(l.any badB) && !(badB den) && !(den.data.toList == [48])) := by
 unfold formedL badB
 by_cases hk : numB den = true
 ·have ho : okS den = true := by unfold numB at hk; rw [Bool.and_eq_true] at hk; exact hk.1
  rw [Ke ho, hk]
  have e : decide (0 < zS den) = (!decide (zS den < 0) && !decide (zS den = 0)) := by
   rw [Bool.eq_iff_iff]; simp; omega
  rw [e]
  cases decide (l.length ≤ 64) <;> cases l.any (fun s => !numB s || decide (zS s < 0)) <;> cases decide (zS den < 0) <;> cases decide (zS den = 0) <;> rfl
 ·have hk' : numB den = false := by simpa using hk
  rw [hk']; simp
theorem Bz (v : Value) (l : List ByteArray) (den : ByteArray) (w : World) (h : SlS w v l) :
  Calls Tryz.prog 48 #[.agg #[v, .string den]] w (Rets w (.bool (formedL l den))) := by
 have hlen : l.length ≤ maxLen := h.len_le
 unfold maxLen at hlen
 obtain ⟨V, hV, hS, z1⟩ := (BL.start w).add' #[v, .string den] 30
 replace z1 := A8 z1
 obtain ⟨a, cap, rfl⟩ := h.shape
 have HS := A8 h
 have CS := A8 (fun W (hW : SlS W (.slice a l.length cap) l) => Dc _ l 87 #[] badB W hW (Go.Proofs.enters_of Tryz.func87 (by kernel_rfl) rfl) (fun W x _ _ => by rw [Array.append_empty]; exact FJ x W))
 have BD := A8 (fun W => FJ den W)
 rw [Kf]
 by_cases hn : l.length ≤ 64
 ·rw [decide_eq_true hn]
  have hn' : (l.length : Int) ≤ 64 := by omega
  generalize l.any badB = b1 at *
  generalize badB den = b2 at *
  obtain ⟨b3, hb3⟩ : ∃ b, b = (den.data.toList == [48]) := ⟨_, rfl⟩
  rw [← hb3]
  have hb3' : (den.toList == [48]) = b3 := by rw [ByteArray.toList_eq]; exact hb3.symm
  clear h hb3
  generalize l.length = n at *
  obtain ⟨x0, x1⟩ := hS.c2 w.heap.size _ _ _ (.head _)
  go_enter Tryz.func48, Tryz.ntmps48
  go_upto_region 2 with fail
  rw [← hV]
  clear hV
  go_wp2_with fail
  refine Calls.mono (CS.out _ (HS.out.below hS.below)) ?_
  rintro e w1 ⟨rfl, hb⟩
  replace hS := hS.call hb
  clear x0 x1 hb
  obtain ⟨x0, x1⟩ := hS.c2 w.heap.size _ _ _ (.head _)
  cases b1
  ·go_wp2_with fail
   refine Calls.mono (BD.out _) ?_
   rintro e w2 ⟨rfl, hb⟩
   replace hS := hS.call hb
   clear x0 x1 hb
   obtain ⟨x0, x1⟩ := hS.c2 w.heap.size _ _ _ (.head _)
   cases b2
   ·go_wp2
    go_ret
    exact ⟨Ae (by simp), hS.below⟩
   ·go_wp2
    go_ret
    exact ⟨Ae (by simp), hS.below⟩
  ·go_wp2
   go_ret
   exact ⟨Ae (by simp), hS.below⟩
 ·rw [decide_eq_false hn]
  have hn' : ¬ (l.length : Int) ≤ 64 := by omega
  clear h
  generalize l.length = n at *
  obtain ⟨x0, x1⟩ := hS.c2 w.heap.size _ _ _ (.head _)
  go_enter Tryz.func48, Tryz.ntmps48
  go_upto_region 2 with fail
  rw [← hV]
  clear hV
  go_wp2
  go_ret
  exact ⟨Ae (by simp), hS.below⟩
end
end Go.Proofs.YtcmomjnailihpaaGreatDoor
