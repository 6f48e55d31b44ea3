/- LwM, LwH, LcA, LwI -/
import Derived.Test.YtcmomjnailihpaaGreatDoorXLwE
import Derived.Deep.DeepCutAuto
import Derived.Laws.StructEq
set_option maxHeartbeats 8000000
set_option maxRecDepth 100000
namespace Go.Proofs.YtcmomjnailihpaaGreatDoor
section
open Go.RowKit
def SlG {α : Type} (k : Nat) (C : World → Nat → Nat → α → Prop) (W : World) (v : Value) (l : List α) : Prop :=
 (v = .slice none 0 0 ∧ l = []) ∨ ∃ b off cap, v = .slice (some ⟨b, off, none⟩) l.length cap ∧ l.length ≤ cap ∧ cap ≤ maxLen ∧ b < W.heap.size ∧ ∀ j x, l[j]? = some x → C W b (off + j * k) x
def Stable {α : Type} (C : World → Nat → Nat → α → Prop) : Prop := ∀ {W W' : World} {b o : Nat} {x : α}, b < W.heap.size → Below W.heap.size W W' → C W b o x → C W' b o x
theorem SlG.nil {α : Type} {k : Nat} {C : World → Nat → Nat → α → Prop} (W : World) : SlG k C W (.slice none 0 0) [] := .inl ⟨rfl, rfl⟩
theorem SlG.shape {α : Type} {k : Nat} {C : World → Nat → Nat → α → Prop} {W : World} {v : Value} {l : List α} (h : SlG k C W v l) : ∃ a cap, v = .slice a l.length cap := by
 rcases h with ⟨rfl, rfl⟩ | ⟨b, off, cap, rfl, _⟩
 ·exact ⟨_, _, rfl⟩
 ·exact ⟨_, _, rfl⟩
theorem SlG.below {α : Type} {k : Nat} {C : World → Nat → Nat → α → Prop} (hC : Stable C) {W W' : World} {v : Value} {l : List α} (h : SlG k C W v l) (hb : Below W.heap.size W W') : SlG k C W' v l := by
 rcases h with h | ⟨b, off, cap, rfl, h1, h2, h3, h4⟩
 ·exact .inl h
 ·exact .inr ⟨b, off, cap, rfl, h1, h2, A9 h3 hb.size, fun j x hj => hC h3 hb (h4 j x hj)⟩
theorem SlG.len_le {α : Type} {k : Nat} {C : World → Nat → Nat → α → Prop} {W : World} {v : Value} {l : List α} (h : SlG k C W v l) : l.length ≤ maxLen := by
 rcases h with ⟨_, rfl⟩ | ⟨_, _, _, _, h1, h2, _⟩
 ·simp
 ·exact Nat.le_trans h1 h2
theorem SlG.take {α : Type} {k : Nat} {C : World → Nat → Nat → α → Prop} {W : World} {b off cap : Nat} {l : List α} (h1 : l.length ≤ cap) (h2 : cap ≤ maxLen) (h3 : b < W.heap.size)
  (h4 : ∀ j x, l[j]? = some x → C W b (off + j * k) x) {n : Nat} (hn : n ≤ l.length) : SlG k C W (.slice (some ⟨b, off, none⟩) n cap) (l.take n) := by
 refine .inr ⟨b, off, cap, by rw [List.length_take, Nat.min_eq_left hn], by rw [List.length_take, Nat.min_eq_left hn]; omega, h2, h3, fun j x hj => h4 j x ?_⟩
 rw [List.getElem?_take] at hj
 split at hj
 ·exact hj
 ·cases hj
theorem SlG.ptr_lt {α : Type} {k : Nat} {C : World → Nat → Nat → α → Prop} {W : World} {v : Value} {l : List α} (h : SlG k C W v l) : ∀ b o, v.ptr? = some (b, o) → b < W.heap.size := by
 intro b o e
 rcases h with ⟨rfl, _⟩ | ⟨b', off, cap, rfl, h1, h2, h3, h4⟩
 ·cases e
 ·cases e; exact h3
theorem SlG.of_own {α : Type} {k : Nat} {C : World → Nat → Nat → α → Prop} {W : World} {base : Nat} {e : TypeId} {v : Value} {n : Nat} {cs : List Value} {l : List α} (h : W.ownsRow base e k v n cs) (hn : n = l.length)
  (hC : ∀ b, b < W.heap.size → (∀ i x, cs[i]? = some x → W.cell? ⟨b, i, none⟩ = some x) → ∀ j x, l[j]? = some x → C W b (j * k) x) : SlG k C W v l := by
 rcases h.2 with ⟨rfl, h0⟩ | ⟨g, cap, cur, rfl, hb, hg, hn', hm, hs, ht⟩
 ·subst hn
  exact .inl ⟨rfl, List.eq_nil_of_length_eq_zero h0⟩
 ·subst hn
  refine .inr ⟨g, 0, cap, rfl, hn', hm, (Array.getElem?_eq_some_iff.1 hg).1, fun j x hj => ?_⟩
  rw [Nat.zero_add]
  refine hC g (Array.getElem?_eq_some_iff.1 hg).1 (fun i y hi => ?_) j x hj
  have hc := h.cells (g := g) rfl i y hi
  have hadd : (⟨g, 0, none⟩ : Addr).add i = ⟨g, 0 + i, none⟩ := by unfold Addr.add; split <;> simp_all
  rwa [hadd, Nat.zero_add] at hc
def CStr (W : World) (b o : Nat) (s : ByteArray) : Prop := W.cell? ⟨b, o, none⟩ = some (.string s)
theorem CStr.stable : Stable CStr := fun h hb hc => (hb.cell (p := ⟨_, _, none⟩) h).trans hc
abbrev SlS (W : World) (v : Value) (l : List ByteArray) : Prop := SlG 1 CStr W v l
theorem SlS.below {W W' : World} {v : Value} {l : List ByteArray} (h : SlS W v l) (hb : Below W.heap.size W W') : SlS W' v l := SlG.below (C := CStr) (fun h1 h2 h3 => CStr.stable h1 h2 h3) h hb
theorem SlS.of_own {W : World} {base : Nat} {e : TypeId} {v : Value} {n : Nat} {l : List ByteArray} (h : W.ownsRow base e 1 v n (l.map Value.string)) : SlS W v l :=
 SlG.of_own h (by have := h.1; simpa using this.symm) fun b _ hc j x hj => by
  rw [Nat.mul_one]; exact hc j _ (by rw [List.getElem?_map, hj]; rfl)
def CEq (W : World) (b o : Nat) (x : List Int × Int) : Prop := ∃ v, W.cell? ⟨b, o, none⟩ = some v ∧ Sl W v x.1 ∧ W.cell? ⟨b, o + 1, none⟩ = some (.int .i64 x.2)
theorem CEq.stable : Stable CEq := fun h hb ⟨v, h1, h2, h3⟩ => ⟨v, (hb.cell (p := ⟨_, _, none⟩) h).trans h1, h2.below hb, (hb.cell (p := ⟨_, _, none⟩) h).trans h3⟩
abbrev SlE (W : World) (v : Value) (l : List (List Int × Int)) : Prop := SlG 2 CEq W v l
theorem SlE.below {W W' : World} {v : Value} {l : List (List Int × Int)} (h : SlE W v l) (hb : Below W.heap.size W W') : SlE W' v l := SlG.below (C := CEq) (fun h1 h2 h3 => CEq.stable h1 h2 h3) h hb
end
section
open Go.RowKit
attribute [local go_sem] Oper.semAt_some
theorem CJ {b : Nat} {w w' : World} (h : Wrote b b w w') (hb : b ≤ w.heap.size) : Below b w w' :=
 ⟨h.os, h.tape, h.output, h.size, fun k hk => by
  by_cases hkw : k < w.heap.size
  ·exact h.block k hk hkw (by omega)
  ·exact absurd hkw (by omega)⟩
def catL (l : List ByteArray) : List UInt8 := l.flatMap fun s => s.data.toList
theorem Fy (s : ByteArray) (l : List ByteArray) : catL (s :: l) = s.data.toList ++ catL l := by simp [catL]
theorem DT {l : List ByteArray} {j : Nat} {s : ByteArray} (h : l[j]? = some s) : catL (l.take (j + 1)) = catL (l.take j) ++ s.data.toList := by
 unfold catL
 rw [List.take_add_one, h]
 simp
theorem Ho {l : List ByteArray} (h : ∀ s ∈ l, s.size ≤ 1000) : (catL l).length ≤ 1000 * l.length := by
 induction l with
 | nil => simp [catL]
 | cons s l ih =>
  have h1 := h s List.mem_cons_self
  have h2 := ih fun x hx => h x (List.mem_cons_of_mem _ hx)
  have h3 : s.data.toList.length = s.size := by rw [Array.length_toList]; rfl
  rw [Fy, List.length_append, List.length_cons, h3]
  omega
theorem KZ (v : Value) (l : List ByteArray) (w : World) (h : SlS w v l) (h1 : 1 ≤ l.length) (hl : l.length ≤ 50) (hs : ∀ s ∈ l, s.size ≤ 1000) :
  Calls Tryz.prog 83 #[v, .string ⟨#[]⟩] w fun e w' => e = .returned (.string ⟨(catL l).toArray⟩) ∧ Below w.heap.size w w' := by
 rcases h with ⟨rfl, rfl⟩ | ⟨S, off, cap, rfl, q1, q2, hS, hc⟩
 ·simp at h1
 have hc' : ∀ k : Nat, k < l.length → ∃ s : ByteArray, l[k]? = some s ∧ w.cell? ⟨S, off + k, none⟩ = some (.string s) ∧ s.size ≤ 1000 := fun k hk => by
  obtain ⟨s, e⟩ : ∃ s, l[k]? = some s := ⟨l[k], List.getElem?_eq_getElem hk⟩
  have := hc k s e
  rw [Nat.mul_one] at this
  exact ⟨s, e, this, hs s (List.mem_of_getElem? e)⟩
 clear hc
 have hc := A8 hc'
 clear hc'
 obtain ⟨n, hn⟩ : ∃ n, n = l.length := ⟨_, rfl⟩
 rw [← hn] at h1 hl q1 hc ⊢
 by_cases hone : n = 1
 ·obtain ⟨s, e, d0, hs0⟩ := hc.out 0 (by omega)
  have hcat : catL l = s.data.toList := by
   have := DT e
   rw [List.take_of_length_le (by omega)] at this
   rw [this]; simp [catL]
  rw [hcat]
  have hb : (⟨s.data.toList.toArray⟩ : ByteArray) = s := rfl
  rw [hb]
  subst hone
  rw [Nat.add_zero] at d0
  clear hn hcat hb hs hc
  unfold maxLen at q2
  go_enter Tryz.func83, Tryz.ntmps83
  go_wp2
  go_ret
  exact ⟨rfl, Below.refl _ _⟩
 ·have n2 : (2 : Int) ≤ n := by omega
  have n0 : ¬ (n : Int) = 0 := by omega
  have n1 : ¬ (n : Int) = 1 := by omega
  have h1' : (1 : Int) ≤ n := by omega
  have hcap : (n : Int) ≤ cap := by omega
  have hw1 : IntKind.i64.wrap ((n : Int) - 1) = ((n - 1 : Nat) : Int) := by rw [IntWalk.i64_in _ (by omega)]; omega
  unfold maxLen at q2
  replace hn := A8 hn
  have hcap2 : (2 : Int) ≤ cap := by omega
  go_enter Tryz.func83, Tryz.ntmps83
  go_wp2_with fail
  go_loop [5, 41] (fun n' i => ∃ (k : Nat) (m : Int), n' = .int .i64 m ∧ i = .int .i64 k ∧ k ≤ n ∧ 0 ≤ m ∧ m ≤ 1000 * k) (fun _ i => n - (intOf i).toNat)
  case atStart => exact ⟨0, 0, rfl, rfl, by omega, by omega, by omega⟩
  case round =>
   obtain ⟨k, m, rfl, rfl, hk, hm0, hm1⟩ := hrel
   by_cases hlt : k < n
   ·obtain ⟨s, _, d0, hs0⟩ := hc.out k hlt
    have hi0 : (0 : Int) ≤ (k : Int) := by omega
    have hi1 : (k : Int) < n := by omega
    go_wp2_with fail
    go_round
    case rel => exact ⟨k + 1, m + s.size, rfl, by go_num, by omega, by omega, by omega⟩
    case measure => simp [intOf]; omega
   ·have hk2 : ¬ (k : Int) < n := by omega
    have hm2 : m ≤ 50000 := by omega
    obtain ⟨q, rfl⟩ := Int.eq_ofNat_of_zero_le hm0
    have hB0 : Below w.heap.size w (w.alloc (.cells #[.pointer none, .slice none 0 0] 140)) := (Below.refl _ _).alloc (Aa _) _
    have G := Tryz.Builder_Grow_fresh w.heap.size w.heap.size q (w.alloc (.cells #[.pointer none, .slice none 0 0] 140)) (Aa _) (World.alloc_heap_new w _) (by simp) (by omega)
    have G := A8 G
    go_wp2_with fail
    refine G.out.mono ?_
    rintro e w1 ⟨rfl, hbd, hb1⟩
    have hB1 := hB0.trans hb1
    have hbld : Bld w.heap.size w.heap.size [] w1 := by
     obtain ⟨_, v, h1, h2, _⟩ := hbd
     exact ⟨_, v, h1, .inr rfl, h2⟩
    clear G hbd hb1 hB0
    obtain ⟨s0, e0, d0, z0⟩ := hc.out 0 (by omega)
    replace d0 := (hB1.cell (p := ⟨S, off + 0, none⟩) hS).trans d0
    rw [Nat.add_zero] at d0
    go_wp2_with fail
    refine (AR hbld s0 (by simp; omega) hB1.size).mono ?_
    rintro e w2 ⟨rfl, hb2, hw2⟩
    have hB2 := hB1.trans (CJ hw2 hB1.size)
    have ht1 : [] ++ s0.data.toList = catL (l.take (0 + 1)) := by rw [DT e0]; simp [catL]
    rw [ht1] at hb2
    clear hbld hw2 hB1 d0 ht1 e0 z0
    go_upto_region 22 with fail
    go_loopw [65] (fun i wr => ∃ j : Nat, i = .int .i64 j ∧ j + 1 ≤ n ∧ Bld w.heap.size w.heap.size (catL (l.take (j + 1))) wr ∧ Below w.heap.size w wr) (fun i _ => n - (intOf i).toNat)
    case atStart => exact ⟨0, rfl, by omega, hb2, hB2⟩
    case round =>
     clear hb2 hB2
     obtain ⟨j, rfl, hj, hbd, hB⟩ := hrel
     by_cases hj0 : j + 1 < n
     ·obtain ⟨s1, e1, d1, z1⟩ := hc.out (j + 1) (by omega)
      replace d1 := (hB.cell (p := ⟨S, off + (j + 1), none⟩) hS).trans d1
      rw [← Nat.add_assoc, Nat.add_right_comm] at d1
      have hlen : (catL (l.take (j + 1))).length ≤ 1000 * (j + 1) := Nat.le_trans (Ho (fun s hs' => hs s (List.mem_of_mem_take hs'))) (Nat.mul_le_mul_left _ (by rw [List.length_take]; omega))
      have hi0 : (0 : Int) ≤ (j : Int) := by omega
      have hi1 : (j : Int) < ((n - 1 : Nat) : Int) := by omega
      have ht := DT e1
      go_wp2_with fail
      refine (AR hbd ⟨#[]⟩ (by show _ + 0 ≤ _; omega) hB.size).mono ?_
      rintro e w3 ⟨rfl, hb3, hw3⟩
      have hB3 := hB.trans (CJ hw3 hB.size)
      rw [show (⟨#[]⟩ : ByteArray).data.toList = [] from rfl, List.append_nil] at hb3
      clear hbd hw3 hB d1
      go_wp2_with fail
      refine (AR hb3 s1 (by omega) hB3.size).mono ?_
      rintro e w4 ⟨rfl, hb4, hw4⟩
      have hB4 := hB3.trans (CJ hw4 hB3.size)
      rw [← ht] at hb4
      clear hb3 hw4 hB3 ht
      go_wp2_with fail
      go_roundw
      case rel => exact ⟨j + 1, by go_num, by omega, hb4, hB4⟩
      case measure => simp [intOf]; omega
     ·have hi1 : ¬ (j : Int) < ((n - 1 : Nat) : Int) := by omega
      have hall : l.take (j + 1) = l := List.take_of_length_le (by have := hn.out; omega)
      rw [hall] at hbd
      clear hall
      go_wp2_with fail
      refine (CC hbd (Aa _) hB.size).mono ?_
      rintro e w3 ⟨rfl, hb3, _⟩
      have hB3 := hB.trans hb3
      go_wp2
      go_ret
      exact ⟨rfl, hB3⟩
theorem ED {α : Type} {l : List α} {k : Nat} (p : α → Bool) (h : k < l.length) : (l.drop k).any p = (p l[k] || (l.drop (k + 1)).any p) := by rw [List.drop_eq_getElem_cons h, List.any_cons]
theorem Ir (v : Value) (l : List ByteArray) (g : Nat) (lb : Array Value) (p : ByteArray → Bool) (w : World) (h : SlS w v l)
  (hE : ∀ (args : Array Value) (w : World), (callFunc g args).run Tryz.prog w = .ok (.enter g args) w)
  (hF : ∀ (W : World) (x : ByteArray), x ∈ l → Below w.heap.size w W → Calls Tryz.prog g (#[.string x] ++ lb) W fun e W' => e = .returned (.bool (p x)) ∧ Below W.heap.size W W') :
  Calls Tryz.prog 106 #[v, .func (.func g) #[] lb] w fun e w' => (∃ z : Int, e = .returned (.int .i64 z) ∧ -1 ≤ z ∧ (0 ≤ z ↔ l.any p = true)) ∧ Below w.heap.size w w' := by
 have hl : l.length ≤ maxLen := h.len_le
 unfold maxLen at hl
 rcases h with ⟨rfl, rfl⟩ | ⟨b, off, cap, rfl, h1, h2, h3, h4⟩
 ·go_enter Tryz.func106, Tryz.ntmps106
  go_wp2_with fail
  go_loopw [8] (fun i wr => i = .int .i64 0 ∧ wr = w) (fun _ _ => 0)
  case atStart => exact ⟨rfl, rfl⟩
  case round =>
   obtain ⟨rfl, rfl⟩ := hrel
   go_wp2
   go_ret
   exact ⟨⟨-1, rfl, by omega, by simp⟩, Below.refl _ _⟩
 ·go_enter Tryz.func106, Tryz.ntmps106
  go_wp2_with fail
  go_loopw [8] (fun i wr => ∃ (k : Nat), i = .int .i64 k ∧ k ≤ l.length ∧ Hid (l.any p = (l.drop k).any p) ∧ Below w.heap.size w wr)
   (fun i _ => l.length - (intOf i).toNat)
  case atStart => exact ⟨0, rfl, by omega, rfl, Below.refl _ _⟩
  case round =>
   obtain ⟨k, rfl, hk, hp, hB⟩ := hrel
   by_cases hkl : k < l.length
   ·have c0 : wr.cell? ⟨b, off + k, none⟩ = some (.string l[k]) := by
     have := h4 k _ (List.getElem?_eq_getElem hkl)
     rw [Nat.mul_one] at this
     exact (hB.cell (p := ⟨_, _, none⟩) h3).trans this
    rw [ED p hkl] at hp
    have hFk := hF wr l[k] (List.getElem_mem hkl) hB
    cases hpk : p l[k] with
    | true =>
     replace hp := A8 (show l.any p = true by rw [hp.out, hpk] <;> rfl)
     rw [hpk] at hFk
     clear hpk
     replace hFk := A8 hFk
     generalize l[k] = x at *
     go_wp2_with fail
     refine hFk.out.mono ?_
     rintro e W' ⟨rfl, hb⟩
     go_wp2
     go_ret
     exact ⟨⟨k, rfl, by omega, by rw [hp.out]; simp⟩, Af hb hB (Aa _)⟩
    | false =>
     replace hp := A8 (show l.any p = (l.drop (k + 1)).any p by rw [hp.out, hpk] <;> rfl)
     rw [hpk] at hFk
     clear hpk
     replace hFk := A8 hFk
     generalize l[k] = x at *
     go_wp2_with fail
     refine hFk.out.mono ?_
     rintro e W' ⟨rfl, hb⟩
     go_wp2_with fail
     go_roundw
     case rel => exact ⟨k + 1, by go_num, by omega, hp, Af hb hB (Aa _)⟩
     case measure => simp [intOf]; omega
   ·have hp := A8 (show l.any p = false by rw [hp.out, List.drop_eq_nil_of_le (by omega)]; rfl)
    go_wp2
    go_ret
    exact ⟨⟨-1, rfl, by omega, by rw [hp.out]; simp⟩, hB⟩
theorem D6 (v : Value) (l : List ByteArray) (g : Nat) (lb : Array Value) (p : ByteArray → Bool) (w : World) (h : SlS w v l)
  (hE : ∀ (args : Array Value) (w : World), (callFunc g args).run Tryz.prog w = .ok (.enter g args) w)
  (hF : ∀ (W : World) (x : ByteArray), x ∈ l → Below w.heap.size w W → Calls Tryz.prog g (#[.string x] ++ lb) W fun e W' => e = .returned (.bool (p x)) ∧ Below W.heap.size W W') :
  Calls Tryz.prog 68 #[v, .func (.func g) #[] lb] w fun e w' => e = .returned (.bool (l.any p)) ∧ Below w.heap.size w w' := by
 have hI := A8 (Ir v l g lb p w h hE hF)
 go_enter Tryz.func68, Tryz.ntmps68
 go_wp2_with fail
 refine hI.out.mono ?_
 rintro e w' ⟨⟨z, rfl, hz0, hz⟩, hb⟩
 replace hz := A8 (show decide (0 ≤ z) = l.any p by cases hc : l.any p <;> simp [hc] at hz ⊢ <;> omega)
 go_wp2
 go_ret
 exact ⟨Ag hz.out, hb⟩
theorem Is (v : Value) (l : List Int) (g : Nat) (lb : Array Value) (p : Int → Bool) (w : World) (h : Sl w v l)
  (hE : ∀ (args : Array Value) (w : World), (callFunc g args).run Tryz.prog w = .ok (.enter g args) w)
  (hF : ∀ (W : World) (x : Int), x ∈ l → Below w.heap.size w W → Calls Tryz.prog g (#[.int .i64 x] ++ lb) W fun e W' => e = .returned (.bool (p x)) ∧ Below W.heap.size W W') :
  Calls Tryz.prog 86 #[v, .func (.func g) #[] lb] w fun e w' => (∃ z : Int, e = .returned (.int .i64 z) ∧ -1 ≤ z ∧ (0 ≤ z ↔ l.any p = true)) ∧ Below w.heap.size w w' := by
 have hl : l.length ≤ maxLen := h.len_le
 unfold maxLen at hl
 rcases h with ⟨rfl, rfl⟩ | ⟨b, off, cap, rfl, h1, h2, h3, h4⟩
 ·go_enter Tryz.func86, Tryz.ntmps86
  go_wp2_with fail
  go_loopw [8] (fun i wr => i = .int .i64 0 ∧ wr = w) (fun _ _ => 0)
  case atStart => exact ⟨rfl, rfl⟩
  case round =>
   obtain ⟨rfl, rfl⟩ := hrel
   go_wp2
   go_ret
   exact ⟨⟨-1, rfl, by omega, by simp⟩, Below.refl _ _⟩
 ·go_enter Tryz.func86, Tryz.ntmps86
  go_wp2_with fail
  go_loopw [8] (fun i wr => ∃ (k : Nat), i = .int .i64 k ∧ k ≤ l.length ∧ Hid (l.any p = (l.drop k).any p) ∧ Below w.heap.size w wr)
   (fun i _ => l.length - (intOf i).toNat)
  case atStart => exact ⟨0, rfl, by omega, rfl, Below.refl _ _⟩
  case round =>
   obtain ⟨k, rfl, hk, hp, hB⟩ := hrel
   by_cases hkl : k < l.length
   ·have c0 : wr.cell? ⟨b, off + k, none⟩ = some (.int .i64 l[k]) := by
     have := h4 k hkl
     rw [BO hkl] at this
     exact (hB.cell (p := ⟨_, _, none⟩) h3).trans this
    rw [ED p hkl] at hp
    have hFk := hF wr l[k] (List.getElem_mem hkl) hB
    cases hpk : p l[k] with
    | true =>
     replace hp := A8 (show l.any p = true by rw [hp.out, hpk] <;> rfl)
     rw [hpk] at hFk
     clear hpk
     replace hFk := A8 hFk
     generalize l[k] = x at *
     go_wp2_with fail
     refine hFk.out.mono ?_
     rintro e W' ⟨rfl, hb⟩
     go_wp2
     go_ret
     exact ⟨⟨k, rfl, by omega, by rw [hp.out]; simp⟩, Af hb hB (Aa _)⟩
    | false =>
     replace hp := A8 (show l.any p = (l.drop (k + 1)).any p by rw [hp.out, hpk] <;> rfl)
     rw [hpk] at hFk
     clear hpk
     replace hFk := A8 hFk
     generalize l[k] = x at *
     go_wp2_with fail
     refine hFk.out.mono ?_
     rintro e W' ⟨rfl, hb⟩
     go_wp2_with fail
     go_roundw
     case rel => exact ⟨k + 1, by go_num, by omega, hp, Af hb hB (Aa _)⟩
     case measure => simp [intOf]; omega
   ·have hp := A8 (show l.any p = false by rw [hp.out, List.drop_eq_nil_of_le (by omega)]; rfl)
    go_wp2
    go_ret
    exact ⟨⟨-1, rfl, by omega, by rw [hp.out]; simp⟩, hB⟩
theorem Fh (v : Value) (l : List Int) (g : Nat) (lb : Array Value) (p : Int → Bool) (w : World) (h : Sl w v l)
  (hE : ∀ (args : Array Value) (w : World), (callFunc g args).run Tryz.prog w = .ok (.enter g args) w)
  (hF : ∀ (W : World) (x : Int), x ∈ l → Below w.heap.size w W → Calls Tryz.prog g (#[.int .i64 x] ++ lb) W fun e W' => e = .returned (.bool (p x)) ∧ Below W.heap.size W W') :
  Calls Tryz.prog 46 #[v, .func (.func g) #[] lb] w fun e w' => e = .returned (.bool (l.any p)) ∧ Below w.heap.size w w' := by
 have hI := A8 (Is v l g lb p w h hE hF)
 go_enter Tryz.func46, Tryz.ntmps46
 go_wp2_with fail
 refine hI.out.mono ?_
 rintro e w' ⟨⟨z, rfl, hz0, hz⟩, hb⟩
 replace hz := A8 (show decide (0 ≤ z) = l.any p by cases hc : l.any p <;> simp [hc] at hz ⊢ <;> omega)
 go_wp2
 go_ret
 exact ⟨Ag hz.out, hb⟩
theorem It (v : Value) (l : List (List Int × Int)) (g : Nat) (lb : Array Value) (p : (List Int × Int) → Bool) (w : World) (h : SlE w v l)
  (hE : ∀ (args : Array Value) (w : World), (callFunc g args).run Tryz.prog w = .ok (.enter g args) w)
  (hF : ∀ (W : World) (x : (List Int × Int)) (v : Value), x ∈ l → Below w.heap.size w W → Sl W v x.1 → Calls Tryz.prog g (#[.agg #[v, .int .i64 x.2]] ++ lb) W fun e W' => e = .returned (.bool (p x)) ∧ Below W.heap.size W W') :
  Calls Tryz.prog 85 #[v, .func (.func g) #[] lb] w fun e w' => (∃ z : Int, e = .returned (.int .i64 z) ∧ -1 ≤ z ∧ (0 ≤ z ↔ l.any p = true)) ∧ Below w.heap.size w w' := by
 have hl : l.length ≤ maxLen := h.len_le
 unfold maxLen at hl
 rcases h with ⟨rfl, rfl⟩ | ⟨b, off, cap, rfl, h1, h2, h3, h4⟩
 ·go_enter Tryz.func85, Tryz.ntmps85
  go_wp2_with fail
  go_loopw [8] (fun i wr => i = .int .i64 0 ∧ wr = w) (fun _ _ => 0)
  case atStart => exact ⟨rfl, rfl⟩
  case round =>
   obtain ⟨rfl, rfl⟩ := hrel
   go_wp2
   go_ret
   exact ⟨⟨-1, rfl, by omega, by simp⟩, Below.refl _ _⟩
 ·go_enter Tryz.func85, Tryz.ntmps85
  go_wp2_with fail
  go_loopw [8] (fun i wr => ∃ (k : Nat), i = .int .i64 k ∧ k ≤ l.length ∧ Hid (l.any p = (l.drop k).any p) ∧ Below w.heap.size w wr)
   (fun i _ => l.length - (intOf i).toNat)
  case atStart => exact ⟨0, rfl, by omega, rfl, Below.refl _ _⟩
  case round =>
   obtain ⟨k, rfl, hk, hp, hB⟩ := hrel
   by_cases hkl : k < l.length
   ·obtain ⟨cv, c0, hcs, c1⟩ := h4 k _ (List.getElem?_eq_getElem hkl)
    obtain ⟨ac, cp, rfl⟩ := hcs.shape
    replace c0 := (hB.cell (p := ⟨_, _, none⟩) h3).trans c0
    replace c1 := (hB.cell (p := ⟨_, _, none⟩) h3).trans c1
    rw [ED p hkl] at hp
    have hFk := hF wr l[k] (.slice ac l[k].1.length cp) (List.getElem_mem hkl) hB (hcs.below hB)
    generalize l[k].1.length = lk at *
    cases hpk : p l[k] with
    | true =>
     replace hp := A8 (show l.any p = true by rw [hp.out, hpk] <;> rfl)
     rw [hpk] at hFk
     clear hpk
     replace hFk := A8 hFk
     generalize l[k] = x at *
     go_wp2_with fail
     refine hFk.out.mono ?_
     rintro e W' ⟨rfl, hb⟩
     go_wp2
     go_ret
     exact ⟨⟨k, rfl, by omega, by rw [hp.out]; simp⟩, Af hb hB (Aa _)⟩
    | false =>
     replace hp := A8 (show l.any p = (l.drop (k + 1)).any p by rw [hp.out, hpk] <;> rfl)
     rw [hpk] at hFk
     clear hpk
     replace hFk := A8 hFk
     generalize l[k] = x at *
     go_wp2_with fail
     refine hFk.out.mono ?_
     rintro e W' ⟨rfl, hb⟩
     go_wp2_with fail
     go_roundw
     case rel => exact ⟨k + 1, by go_num, by omega, hp, Af hb hB (Aa _)⟩
     case measure => simp [intOf]; omega
   ·have hp := A8 (show l.any p = false by rw [hp.out, List.drop_eq_nil_of_le (by omega)]; rfl)
    go_wp2
    go_ret
    exact ⟨⟨-1, rfl, by omega, by rw [hp.out]; simp⟩, hB⟩
theorem D7 (v : Value) (l : List (List Int × Int)) (g : Nat) (lb : Array Value) (p : (List Int × Int) → Bool) (w : World) (h : SlE w v l)
  (hE : ∀ (args : Array Value) (w : World), (callFunc g args).run Tryz.prog w = .ok (.enter g args) w)
  (hF : ∀ (W : World) (x : (List Int × Int)) (v : Value), x ∈ l → Below w.heap.size w W → Sl W v x.1 → Calls Tryz.prog g (#[.agg #[v, .int .i64 x.2]] ++ lb) W fun e W' => e = .returned (.bool (p x)) ∧ Below W.heap.size W W') :
  Calls Tryz.prog 44 #[v, .func (.func g) #[] lb] w fun e w' => e = .returned (.bool (l.any p)) ∧ Below w.heap.size w w' := by
 have hI := A8 (It v l g lb p w h hE hF)
 go_enter Tryz.func44, Tryz.ntmps44
 go_wp2_with fail
 refine hI.out.mono ?_
 rintro e w' ⟨⟨z, rfl, hz0, hz⟩, hb⟩
 replace hz := A8 (show decide (0 ≤ z) = l.any p by cases hc : l.any p <;> simp [hc] at hz ⊢ <;> omega)
 go_wp2
 go_ret
 exact ⟨Ag hz.out, hb⟩
theorem Cr (n lo hi : Int) (w : World) : Calls Tryz.prog 42 #[.int .i64 n, .int .i64 lo, .int .i64 hi] w (Rets w (.bool (decide (lo ≤ n) && decide (n ≤ hi)))) := by
 go_enter Tryz.func42, Tryz.ntmps42
 by_cases h1 : lo ≤ n
 ·by_cases h2 : n ≤ hi
  ·go_wp2
   go_ret
   exact ⟨Ag (by simp [h1, h2]), Below.refl _ _⟩
  ·go_wp2
   go_ret
   exact ⟨Ag (by simp [h2]), Below.refl _ _⟩
 ·go_wp2
  go_ret
  exact ⟨Ag (by simp; omega), Below.refl _ _⟩
end
section
open Go.RowKit Go.Shelf
open LnM (wd upd)
attribute [local go_sem] Oper.semAt_some
theorem CV : (Tryz.prog.info? 9).map (fun i => (i.zero, i.size, i.bytes)) = some (some (.string ⟨#[]⟩), 1, 16) := by kernel_rfl
theorem L0 (es : List ByteArray) : ∀ u ∈ es.map Value.string, u.oneCell' = true := by
 intro u hu
 obtain ⟨s, _, rfl⟩ := List.mem_map.1 hu
 rfl
theorem own_ptr {w : World} {base : Nat} {e : TypeId} {k n : Nat} {v : Value} {xs : List Value} (h : w.ownsRow base e k v n xs) : ∀ b o, v.ptr? = some (b, o) → base ≤ b := by
 intro b o hb
 rcases h.2 with ⟨rfl, _⟩ | ⟨g, cap, cur, rfl, hg, _⟩
 ·cases hb
 ·cases hb; exact hg
theorem SlS.setFar {w : World} {v : Value} {l : List ByteArray} (h : SlS w v l) {B : Nat} (hB : ∀ b o, v.ptr? = some (b, o) → B < b) (i : Nat) (x : Value) : SlS (w.setCell ⟨B, i, none⟩ x) v l := by
 rcases h with h | ⟨b, off, cap, rfl, h1, h2, h3, h4⟩
 ·exact .inl h
 ·have hb := hB b off rfl
  refine .inr ⟨b, off, cap, rfl, h1, h2, by simpa [World.setCell] using h3, fun j y hj => ?_⟩
  exact (World.cell?_setCell_far w ⟨B, i, none⟩ ⟨b, off + j * 1, none⟩ x (by show B ≠ b; omega)).trans (h4 j y hj)
theorem Ea {ops : Array Oper} {rest : List Oper} {o : Oper} {a : Act} {Q : Exit → Act → World → Prop} {w : World} {s0 : ByteArray} {es : List ByteArray} (t : TypeId)
  (ht : Tryz.prog.underlying t = some (.slice 9)) (hgd : o.guard = none) (s x : Operand) (ho : o.op = .call { callee := .builtin .append, args := #[s, x], argTypes := #[t, t] }) {u : Value}
  (hs : a.eval s = .slice (some ⟨w.heap.size, 0, none⟩) 1 1) (hx : a.eval x = u) (hu : SlS w u es) (hk : es.length ≤ 1000000)
  (h : ∀ v' w', SlS w' v' (s0 :: es) → (∀ b o, v'.ptr? = some (b, o) → w.heap.size ≤ b) → Below w.heap.size w w' → wpList Tryz.prog ops Q rest (a.put o.dst v') w') :
  wpList Tryz.prog ops Q (o :: rest) a (w.alloc (.cells #[.string s0] 9)) := by
 refine wpList_plain hgd fun K hK => ?_
 obtain ⟨i0, hi, hz0, hz1, hz2⟩ := info_parts CV
 have hb0 : Below w.heap.size w (w.alloc (.cells #[.string s0] 9)) := (Below.refl _ _).alloc (Aa _) _
 have hown : (w.alloc (.cells #[.string s0] 9)).ownsRow w.heap.size 9 1 (.slice (some ⟨w.heap.size, 0, none⟩) 1 1) 1 ([s0].map Value.string) :=
  ⟨rfl, .inr ⟨w.heap.size, 1, #[.string s0], rfl, Aa _, heap_alloc_new w _, Aa _, by unfold maxLen; omega, rfl, rfl⟩⟩
 have H : ∃ v' w', (Builtin.append_ #[t, t] o.type #[.slice (some ⟨w.heap.size, 0, none⟩) 1 1, u]).run Tryz.prog (w.alloc (.cells #[.string s0] 9)) = .ok v' w' ∧ SlS w' v' (s0 :: es) ∧ (∀ b o, v'.ptr? = some (b, o) → w.heap.size ≤ b) ∧ Below w.heap.size w w' := by
  rcases hu.below hb0 with ⟨rfl, rfl⟩ | ⟨b, off, cap, rfl, h1, h2, h3, h4⟩
  ·have hr := run_append_owned_none (P := Tryz.prog) (w := w.alloc (.cells #[.string s0] 9)) w.heap.size t o.type 9 i0 1 ht hi _ 1 _ hown
   exact ⟨_, _, hr, SlS.of_own hown, (fun b o e => by cases e; exact Aa _), hb0⟩
  ·obtain ⟨v', w', hrun, r1, r2, r3⟩ := run_append_own (P := Tryz.prog) (w.alloc (.cells #[.string s0] 9)) w.heap.size t o.type 9 i0 (.string ⟨#[]⟩) 1 16 ht hi hz0 hz1 hz2 rfl (by decide) _ 1 _ hown ⟨b, off, none⟩ es.length cap (es.map Value.string) (by simp)
    (by
     intro j u hj
     rw [AA]
     rw [List.getElem?_map] at hj
     cases e : es[j]? with
     | none => rw [e] at hj; cases hj
     | some y =>
      rw [e] at hj
      cases hj
      have := h4 j y e
      rwa [Nat.mul_one] at this) (L0 es) (by unfold maxLen; omega) (by omega) (by rw [World.size_alloc]; omega)
   rw [← List.map_append] at r1
   exact ⟨v', w', hrun, SlS.of_own r1, own_ptr r1, (hb0.grown r2 (by rw [World.size_alloc]; omega) (fun j hj => (hown.lt j hj).1))⟩
 obtain ⟨v', w', hrun, r1, r0, r2⟩ := H
 unfold Oper.wp
 simp [execOp, ho, resolve, invoke, builtin, hs, hx, hrun, Result.andThen]
 exact hK _ _ (h v' w' r1 r0 r2)
theorem repeat18 {d : Nat} (h : d ≤ 18) {w : World} :
  Calls Tryz.prog 82 #[.string ⟨#[48]⟩, .int .i64 d] w fun e w' => e = .returned (.string ⟨(List.replicate d 48).toArray⟩) ∧ Below w.heap.size w w' := by
 refine (Tryz.strings_Repeat ⟨#[48]⟩ d w (by omega) (by show 1 * d ≤ _; omega)).mono ?_
 rintro e w' ⟨rfl, hb⟩
 exact ⟨by rw [← E5], hb⟩
theorem Hq (f g : Nat → Int) (W : World) : (Op.equalIn 10000 73 (.agg (wc f)) (.agg (wc g))).run Tryz.prog W = .ok ((List.range' 0 12 1).all fun i => f i == g i) W := by
 have he := Tryz.underlying71
 have hp : ∀ (h : Nat → Int) (i : Nat), i < 12 → (part 71 (wc h) (i * 1)).run Tryz.prog W = .ok (.int .u64 (h i)) W := fun h i hi => by
  have := B7 h hi
  rw [Nat.mul_one]
  simp [part, isAgg, run_underlying he, this]
 rw [show (10000 : Nat) = 9998 + 2 from rfl, Op.equalIn]
 simp only [Sem.run_bind, run_underlying Tryz.underlying73, Result.andThen_ok, Tryz.sizeOf71, Std.Legacy.Range.forIn_eq_forIn_range', Std.Legacy.Range.size, Nat.sub_zero, Nat.add_sub_cancel, Nat.div_one]
 have hl : ∀ i ∈ List.range' 0 12 1, i < 12 := fun i hi => by simpa using (List.mem_range'_1.1 hi).2
 generalize List.range' 0 12 1 = l at hl ⊢
 induction l with
 | nil => simp
 | cons i l ih =>
  have hi : i < 12 := hl i (by simp)
  have pe : (Op.equalIn (9998 + 1) 71 (.int .u64 (f i)) (.int .u64 (g i))).run Tryz.prog W = .ok (f i == g i) W := run_equalIn_int W 9998 71 .u64 .u64 _ _ he
  simp only [List.forIn_cons, Sem.run_bind, hp f i hi, hp g i hi, pe, Result.andThen_ok, List.all_cons]
  cases hc : (f i == g i) with
  | true => simpa using ih (fun x hx => hl x (List.mem_cons_of_mem _ hx))
  | false => simp
theorem JX (f g : Nat → Int) : ((List.range' 0 12 1).all fun i => f i == g i) = true ↔ ∀ i, i < 12 → f i = g i := by
 rw [List.all_eq_true]
 constructor
 ·intro h i hi
  simpa using h i (by simp [List.mem_range'_1]; omega)
 ·intro h i hi
  simpa using h i (by simpa using (List.mem_range'_1.1 hi).2)
theorem AP {z : Int} (hz : LnM.Wide z) {b : Bool} (hb : b = decide (z = 0)) (W : World) : (Op.equalIn 10000 73 (.agg (wc (wd z))) (.agg (wc (fun _ => 0)))).run Tryz.prog W = .ok b W := by
 rw [Hq, hb]
 congr 1
 rw [Bool.eq_iff_iff, JX, decide_eq_true_iff]
 constructor
 ·intro h
  exact LnM.wide_eq hz LnM.wide_zero fun i hi => by rw [h i hi, LnM.wd_zero]
 ·rintro rfl i _
  exact LnM.wd_zero i
theorem JY {a n A : Nat} (ha : a ≠ 0) (h : a * 1000000000000000000 ^ n ≤ A) (hA : LnM.Wide (A : Int)) : n ≤ 12 := Nat.le_of_not_lt fun hn => by
 have h1 : (1000000000000000000 : Nat) ^ 13 ≤ 1000000000000000000 ^ n := Nat.pow_le_pow_right (by decide) hn
 have h2 : 1 * (1000000000000000000 : Nat) ^ n ≤ a * 1000000000000000000 ^ n := Nat.mul_le_mul_right _ (by omega)
 have h3 : LnM.P 12 ≤ ((1000000000000000000 ^ 13 : Nat) : Int) := by decide +kernel
 have h4 := hA.2
 generalize (1000000000000000000 : Nat) ^ 13 = M at *
 have h6 : M ≤ A := by omega
 omega
theorem L1 {a : Nat} (h : LnM.Wide (a : Int)) (g : Nat) : LnM.Wide ((a / g : Nat) : Int) := by
 have h1 : a / g ≤ a := Nat.div_le_self _ _
 generalize a / g = q at *
 have h2 := h.2
 have := LnM.P_pos 12
 exact ⟨by omega, by omega⟩
def Grps (A a : Nat) (J : List ByteArray) : Prop := (A = 0 ∧ J = [] ∧ a = 0) ∨ LnM.Left A a (catL J)
theorem Grps.start (A : Nat) : Grps A A [] := by
 by_cases h : A = 0
 ·exact .inl ⟨h, rfl, h⟩
 ·exact .inr (LnM.left_start h)
theorem Grps.step {A a : Nat} {J : List ByteArray} (h : Grps A a J) (ha : a ≠ 0) : Grps A (a / 1000000000000000000) ((⟨(LnM.grp a).toArray⟩ : ByteArray) :: J) := by
 rcases h with ⟨_, _, h⟩ | h
 ·exact absurd h ha
 ·refine .inr ?_
  rw [Fy]
  exact LnM.left_step h ha
theorem grp_len (a : Nat) : (LnM.grp a).length ≤ 18 := by
 have h : a % 1000000000000000000 < 1000000000000000000 := Nat.mod_lt _ (by decide)
 unfold LnM.grp
 split
 ·exact (LnM.decDigits_len18 h).2
 ·rw [LnM.pad18_len h]; exact Aa _
theorem L2 {a : Int} (i : Nat) : (18446744073709551616 * ((a / LnM.P (i + 1)) % 1000000000000000000) + wd a i) / 1000000000000000000 = wd (a / 1000000000000000000) i ∧ (18446744073709551616 * ((a / LnM.P (i + 1)) % 1000000000000000000) + wd a i) % 1000000000000000000 = (a / LnM.P i) % 1000000000000000000 := by
 obtain ⟨h1, h2⟩ := LnM.wd_div (a := a) (g := 1000000000000000000) (by decide) i
 have h3 := LnM.wd_bd a i
 refine ⟨?_, h2.symm⟩
 rw [h1]
 unfold LnM.W64 at *
 omega
theorem DU (z : Int) (hz : LnM.Wide z) (hz2 : LnM.Wide (-z)) (w : World) (hE : Env w) :
  Calls Tryz.prog 40 #[.agg (wc (wd z))] w (Rets w (.string ⟨(Lib.itoa z).toArray⟩)) := by
 have hsg := LnM.wd_neg hz
 obtain ⟨nA, hA⟩ : ∃ nA : Nat, nA = z.natAbs := ⟨_, rfl⟩
 have hAw : LnM.Wide (nA : Int) := by
  by_cases h : z < 0
  ·rw [show (nA : Int) = -z by omega]; exact hz2
  ·rw [show (nA : Int) = z by omega]; exact hz
 obtain ⟨sb, hsb⟩ : ∃ sb, sb = decide (z < 0) := ⟨_, rfl⟩
 obtain ⟨sg, hsgn⟩ : ∃ sg : ByteArray, sg = if z < 0 then ⟨#[45]⟩ else ⟨#[]⟩ := ⟨_, rfl⟩
 have NEG : ∀ W, Calls Tryz.prog 76 #[.agg (wc (wd z))] W (Rets W (.bool sb)) := fun W => by
  have := Dw (wd z) W
  rwa [show (wd z 11 / 9223372036854775808 == 1) = sb by rw [hsb]; by_cases h : z < 0 <;> simp [h, hsg]] at this
 have MI := fun W => Bh 0 z W
 rw [Ax (f := wd 0) (g := fun _ => 0) (fun i _ => LnM.wd_zero i)] at MI
 have hout : (Lib.itoa z) = (sg.data.toList ++ Lib.decDigits nA) := by
  rw [hsgn, hA]
  by_cases h : z < 0
  ·rw [if_pos h, BS h]; rfl
  ·rw [if_neg h, Ap (by omega), show z.toNat = z.natAbs by omega]; rfl
 rw [hout]
 obtain ⟨V1, ev1, S1, zv1⟩ := (BL.start w).add' (wc (wd z)) 73
 have hV : V1 = (w.alloc (.cells (wc (wd z)) 73)) := by rw [ev1]
 have hS : BL w [(w.heap.size, wc (wd z), 73)] V1 := S1
 clear ev1 zv1 S1
 replace NEG := A8 NEG
 replace MI := A8 MI
 replace hout := A8 hout
 replace hsgn := A8 hsgn
 replace hsb := A8 hsb
 replace hA := A8 hA
 replace hAw := A8 hAw
 replace hsg := A8 hsg
 replace hz := A8 hz
 obtain ⟨a0, a1, a2, a3, a4, a5, a6, a7, a8, a9, a10, a11⟩ := Am (show Blk _ (w.heap.size) (wc (wd z)) 73 from hS.blks (w.heap.size, wc (wd z), 73) (.head _))
 go_enter Tryz.func40, Tryz.ntmps40
 go_upto_region 2 with fail
 rw [← hV]
 clear hV
 go_wp2_with fail
 refine Calls.mono (NEG.out _) ?_
 rintro e w1 ⟨rfl, hb⟩
 replace hS := hS.call hb
 clear hb
 clear a0 a1 a2 a3 a4 a5 a6 a7 a8 a9 a10 a11
 go_upto_if 9 with (fail)
 go_cut [3] (fun s wx => s = .string sg ∧ BL w [(w.heap.size, wc (wd nA), 73)] wx)
 case first =>
  by_cases hneg : z < 0
  ·obtain rfl : sb = true := by rw [hsb.out]; simp [hneg]
   have e1 : wc (wd (0 - z)) = wc (wd nA) := by rw [show 0 - z = (nA : Int) by have := hA.out; omega]
   have e2 : sg = ⟨#[45]⟩ := by rw [hsgn.out, if_pos hneg]
   clear hneg hout hsgn hsb hA hAw hsg hz NEG
   subst e2
   obtain ⟨a0, a1, a2, a3, a4, a5, a6, a7, a8, a9, a10, a11⟩ := Am (show Blk _ (w.heap.size) (wc (wd z)) 73 from hS.blks (w.heap.size, wc (wd z), 73) (.head _))
   obtain ⟨q0, q1, q2, q3, q4, q5, q6, q7, q8, q9, q10, q11⟩ := B4 (show Blk _ (w.heap.size) (wc (wd z)) 73 from hS.blks (w.heap.size, wc (wd z), 73) (.head _))
   go_wp2_with fail
   refine Calls.mono (MI.out _) ?_
   rintro e w2 ⟨rfl, hb⟩
   replace hS := hS.call hb
   clear hb
   clear a0 a1 a2 a3 a4 a5 a6 a7 a8 a9 a10 a11 q0 q1 q2 q3 q4 q5 q6 q7 q8 q9 q10 q11
   rw [e1]
   generalize wd nA = f at *
   clear e1
   obtain ⟨a0, a1, a2, a3, a4, a5, a6, a7, a8, a9, a10, a11⟩ := Am (show Blk _ (w.heap.size) (wc (wd z)) 73 from hS.blks (w.heap.size, wc (wd z), 73) (.head _))
   obtain ⟨q0, q1, q2, q3, q4, q5, q6, q7, q8, q9, q10, q11⟩ := B4 (show Blk _ (w.heap.size) (wc (wd z)) 73 from hS.blks (w.heap.size, wc (wd z), 73) (.head _))
   have hS2 := A8 (show BL w [(w.heap.size, wc f, 73)] (st12 w2 w.heap.size f) from BL.put12 (A := []) (C := []) ⟨by simp, by simp⟩ hS)
   dsimp only [st12] at hS2
   go_wp2_with fail
   go_meet
   exact ⟨rfl, hS2.out⟩
  ·obtain rfl : sb = false := by rw [hsb.out]; simp [hneg]
   have e1 : wd z = wd nA := by rw [show z = (nA : Int) by have := hA.out; omega]
   have e2 : sg = ⟨#[]⟩ := by rw [hsgn.out, if_neg hneg]
   rw [e1] at hS
   subst e2
   clear e1 hout hsgn hsb hA hAw hsg hz NEG MI
   go_wp2_with fail
   go_meet
   exact ⟨rfl, hS⟩
 case rest =>
  have hs0 := A8 (show nA = 0 → sg = ⟨#[]⟩ from fun h => by rw [hsgn.out, if_neg (by have := hA.out; omega)])
  have hsz1 : sg.size ≤ 1 := by rw [hsgn.out]; split <;> decide
  clear NEG MI hS hsgn hsb hsg hz hA hz2
  rename World => wc0
  obtain ⟨rfl, hS⟩ := hcut
  go_wp2_with fail
  clear hout
  go_loopw [4] (fun g wr => ∃ (a : Nat) (J : List ByteArray), Hid (Grps nA a J) ∧ Hid (a * 1000000000000000000 ^ J.length ≤ nA) ∧ Hid (∀ s ∈ J, s.size ≤ 18) ∧ Hid (J = [] → g = .slice none 0 0) ∧ Hid (LnM.Wide (a : Int)) ∧ J.length ≤ 13 ∧ Hid (∀ b o, g.ptr? = some (b, o) → w.heap.size < b) ∧ SlS wr g J ∧ BL w [(w.heap.size, wc (wd a), 73)] wr) (fun g _ => 20 - lenOf g)
  case atStart => exact ⟨nA, [], A8 (Grps.start nA), A8 (by simp), A8 (fun s h => by cases h), A8 (fun _ => rfl), hAw, by simp, A8 (fun b o e => by cases e), SlG.nil _, hS⟩
  case round =>
   clear hS
   obtain ⟨a, J, hL, hbd, hsz, hnil, haw, h13, hpt, hJ, hS⟩ := hrel
   by_cases ha : a = 0
   ·subst ha
    have EQ := fun W => AP (z := ((0 : Nat) : Int)) haw.out (b := true) (by simp) W
    obtain ⟨a0, a1, a2, a3, a4, a5, a6, a7, a8, a9, a10, a11⟩ := Am (show Blk _ (w.heap.size) (wc (wd ((0 : Nat) : Int))) 73 from hS.blks (w.heap.size, wc (wd ((0 : Nat) : Int)), 73) (.head _))
    generalize wd ((0 : Nat) : Int) = f at *
    dsimp only [wc] at EQ
    by_cases hJ0 : J = []
    ·obtain rfl := hnil.out hJ0
     have hz0 : nA = 0 := by
      rcases hL.out with ⟨h, _⟩ | h
      ·exact h
      ·have := LnM.left_end h
       rw [hJ0] at this
       exact absurd (show Lib.decDigits nA = [] from this) (An nA).2.2.1
     have hfin : (⟨(sg.data.toList ++ Lib.decDigits nA).toArray⟩ : ByteArray) = ⟨#[48]⟩ := by rw [hs0.out hz0, hz0]; decide +kernel
     replace hfin := A8 hfin
     clear hz0 hJ0 hL hbd hsz hnil haw hJ
     have NB : ∀ W, (binOp .eql 28 (.slice none 0 0) (.slice none 0 0)).run Tryz.prog W = .ok (.bool true) W := fun W => by kernel_rfl
     go_wp2
     go_ret
     exact ⟨by rw [hfin.out]; rfl, hS.below⟩
    ·have hdig : Lib.decDigits nA = catL J := by
      rcases hL.out with ⟨_, h, _⟩ | h
      ·exact absurd h hJ0
      ·exact LnM.left_end h
     have h1 : 1 ≤ J.length := by
      cases J with
      | nil => exact absurd rfl hJ0
      | cons => simp
     have h50 : J.length ≤ 50 := by omega
     have JN := fun (v : Value) W (h : SlS W v J) => KZ v J W h h1 h50 (fun s hs => Nat.le_trans (hsz.out s hs) (by decide))
     have hcl : (catL J).length ≤ 50000 := Nat.le_trans (Ho (fun s hs => Nat.le_trans (hsz.out s hs) (by decide))) (by omega)
     replace hdig := A8 hdig
     obtain ⟨jt, hjt⟩ : ∃ jt : ByteArray, jt = ⟨(catL J).toArray⟩ := ⟨_, rfl⟩
     have hjs : jt.size ≤ 50000 := by rw [hjt, C4]; exact hcl
     rw [← hjt] at JN
     have hfin : (⟨(sg.data.toList ++ catL J).toArray⟩ : ByteArray) = sg ++ jt := by rw [hjt, show sg = ⟨sg.data⟩ from rfl, BV]
     replace hfin := A8 hfin
     replace JN := A8 JN
     rcases hJ with ⟨_, h⟩ | ⟨gb, off, cap, rfl, g1, g2, g3, g4⟩
     ·exact absurd h hJ0
     have hJ := A8 (show SlS wr _ J from .inr ⟨gb, off, cap, rfl, g1, g2, g3, g4⟩)
     clear hcl hjt hJ0 hL hbd hsz hnil haw g4
     have NB : ∀ W, (binOp .eql 28 (.slice (some ⟨gb, off, none⟩) J.length cap) (.slice none 0 0)).run Tryz.prog W = .ok (.bool false) W := fun W => by kernel_rfl
     go_wp2_with fail
     refine Calls.mono (JN.out _ _ hJ.out) ?_
     rintro e w2 ⟨rfl, hb⟩
     replace hS := hS.call hb
     clear hb
     go_wp2
     go_ret
     exact ⟨by rw [hdig.out, hfin.out]; rfl, hS.below⟩
   ·have hln := JY ha hbd.out hAw.out
    have hdm : a / 1000000000000000000 * 1000000000000000000 ≤ a := Nat.div_mul_le_self _ _
    have hbd2 := A8 (show a / 1000000000000000000 * 1000000000000000000 ^ (J.length + 1) ≤ nA by
     rw [Nat.pow_succ, Nat.mul_comm (1000000000000000000 ^ J.length), ← Nat.mul_assoc]
     exact Nat.le_trans (Nat.mul_le_mul_right _ hdm) hbd.out)
    have hL2 := A8 (hL.out.step ha)
    have haw2 := A8 (L1 haw.out 1000000000000000000)
    have EQ := fun W => AP haw.out (b := false) (by simp [ha]) W
    have EQ2 := fun W => AP haw2.out (b := decide (a / 1000000000000000000 = 0)) (by simp; omega) W
    have hdw := A8 (fun i => L2 (a := (a : Int)) i)
    have he0 : ((a : Int) / LnM.P 12) % 1000000000000000000 = 0 := by
     rw [Int.ediv_eq_zero_of_lt (by omega) (by have := haw.out.2; have := LnM.P_pos 12; omega)]; rfl
    have he1 : ((a : Int) / LnM.P 0) % 1000000000000000000 = ((a % 1000000000000000000 : Nat) : Int) := by
     show ((a : Int) / 1) % 1000000000000000000 = _
     rw [Int.ediv_one]; omega
    have heq : ((a : Int) / 1000000000000000000) = ((a / 1000000000000000000 : Nat) : Int) := by omega
    have FU := A8 (fun W hE => Hn (a % 1000000000000000000) (Nat.lt_trans (Nat.mod_lt _ (by decide)) (by decide)) W hE)
    obtain ⟨ag, cap, rfl⟩ := hJ.shape
    obtain ⟨a0, a1, a2, a3, a4, a5, a6, a7, a8, a9, a10, a11⟩ := Am (show Blk _ (w.heap.size) (wc (wd a)) 73 from hS.blks (w.heap.size, wc (wd a), 73) (.head _))
    dsimp only [wc] at EQ
    clear hdm hbd hL
    go_wp2_with fail
    clear a0 a1 a2 a3 a4 a5 a6 a7 a8 a9 a10 a11
    clear EQ
    go_loopw [5, 6] (fun r i wr2 => ∃ (k : Nat) (m : Int), r = .int .u64 (((a : Int) / LnM.P k) % 1000000000000000000) ∧ i = .int .i64 m ∧ m = (k : Int) - 1 ∧ k ≤ 12 ∧ SlS wr2 (.slice ag J.length cap) J ∧ BL w [(w.heap.size, wc (fun j => if k ≤ j then wd ((a : Int) / 1000000000000000000) j else wd (a : Int) j), 73)] wr2) (fun _ i _ => (intOf i + 1).toNat)
    case atStart => exact ⟨12, 11, by rw [he0], rfl, by omega, by omega, hJ, by rw [Ax (f := fun j => if 12 ≤ j then wd ((a : Int) / 1000000000000000000) j else wd (a : Int) j) (g := wd (a : Int)) (fun i hi => if_neg (by omega))]; exact hS⟩
    case round =>
     clear hS hJ
     obtain ⟨k, m, rfl, rfl, hm, hk, hJ, hS⟩ := hrel
     rcases k with _ | i
     ·obtain rfl : m = -1 := by omega
      clear hm hk hdw he0
      rw [he1]
      rw [Ax (f := fun j => if 0 ≤ j then wd ((a : Int) / 1000000000000000000) j else wd (a : Int) j) (g := wd ((a / 1000000000000000000 : Nat) : Int)) (fun i hi => by rw [if_pos (Nat.zero_le _), heq])] at hS
      clear he1 heq
      go_wp2_with fail
      refine Calls.mono (FU.out _ (hS.env hE)) ?_
      rintro e w2 ⟨rfl, hb⟩
      replace hS := hS.call hb
      replace hJ := hJ.below hb
      clear hb FU
      have hd18 := LnM.decDigits_len18 (show a % 1000000000000000000 < 1000000000000000000 from Nat.mod_lt _ (by decide))
      obtain ⟨s, hs⟩ : ∃ s : ByteArray, s = ⟨(Lib.decDigits (a % 1000000000000000000)).toArray⟩ := ⟨_, rfl⟩
      have hss : s.size = (Lib.decDigits (a % 1000000000000000000)).length := by rw [hs, C4]
      rw [← hs]
      have hs18 : s.size ≤ 18 := by omega
      obtain ⟨gt, hgt⟩ : ∃ gt : ByteArray, gt = ⟨(LnM.grp a).toArray⟩ := ⟨_, rfl⟩
      have hg18 : gt.size ≤ 18 := by rw [hgt, C4]; exact grp_len a
      rw [← hgt] at hL2
      have hsz2 := A8 (show ∀ x ∈ gt :: J, x.size ≤ 18 from fun x hx => by
       rcases List.mem_cons.1 hx with rfl | hx
       ·exact hg18
       ·exact hsz.out x hx)
      obtain ⟨a0, a1, a2, a3, a4, a5, a6, a7, a8, a9, a10, a11⟩ := Am (show Blk _ (w.heap.size) (wc (wd ((a / 1000000000000000000 : Nat) : Int))) 73 from hS.blks (w.heap.size, wc (wd ((a / 1000000000000000000 : Nat) : Int)), 73) (.head _))
      by_cases hq : a / 1000000000000000000 = 0
      ·rw [show decide (a / 1000000000000000000 = 0) = true from decide_eq_true hq] at EQ2
       have hgs : gt = s := by rw [hgt, hs]; unfold LnM.grp; rw [if_pos hq]
       subst hgs
       clear hs hgt hss hd18 hq
       obtain ⟨f, hf⟩ : ∃ f, f = wd ((a / 1000000000000000000 : Nat) : Int) := ⟨_, rfl⟩
       rw [← hf] at EQ2 hS
       rw [← hf] at a0 a1 a2 a3 a4 a5 a6 a7 a8 a9 a10 a11
       replace hf := A8 hf
       dsimp only [wc] at EQ2
       go_upto_region 14 with fail
       have hlt9 := A8 (hS.lts _ (.head _))
       go_wp2_with (at_builtin; refine Ea (s0 := gt) 28 Tryz.underlying28 rfl _ _ rfl rfl rfl hJ (by omega) ?_; intro v' w9 hJ9 hp9 hb9)
       replace hS := hS.call hb9
       obtain ⟨ag9, cap9, rfl⟩ := hJ9.shape
       go_wp2_with fail
       go_roundw
       case rel => exact ⟨a / 1000000000000000000, gt :: J, hL2, hbd2, hsz2, A8 (fun h => by cases h), haw2, by rw [List.length_cons]; omega, A8 (fun b o e => A9 hlt9.out (hp9 b o e)), hJ9, by rw [← hf.out]; exact hS⟩
       case measure => simp [lenOf]; omega
      ·rw [show decide (a / 1000000000000000000 = 0) = false from decide_eq_false hq] at EQ2
       have RP := A8 (fun W => repeat18 (d := 18 - s.size) (by omega) (w := W))
       obtain ⟨z0, hz0⟩ : ∃ z0 : ByteArray, z0 = ⟨(List.replicate (18 - s.size) 48).toArray⟩ := ⟨_, rfl⟩
       have hz0s : z0.size ≤ 18 := by rw [hz0, C4, List.length_replicate]; omega
       rw [← hz0] at RP
       have hgs : z0 ++ s = gt := by
        rw [hgt, hz0, hs, BV]
        unfold LnM.grp
        rw [if_neg hq]
        unfold LnM.pad18
        rw [← hs, hss]
       have hw18 : IntKind.i64.wrap (18 - (s.size : Int)) = ((18 - s.size : Nat) : Int) := by rw [IntWalk.i64_in _ (by omega)]; omega
       clear hs hgt hss hd18 hq hz0
       obtain ⟨f, hf⟩ : ∃ f, f = wd ((a / 1000000000000000000 : Nat) : Int) := ⟨_, rfl⟩
       rw [← hf] at EQ2 hS
       rw [← hf] at a0 a1 a2 a3 a4 a5 a6 a7 a8 a9 a10 a11
       replace hf := A8 hf
       dsimp only [wc] at EQ2
       go_wp2_with fail
       refine Calls.mono (RP.out _) ?_
       rintro e w3 ⟨rfl, hb⟩
       replace hS := hS.call hb
       replace hJ := hJ.below hb
       clear hb RP
       go_upto_region 14 with fail
       clear hgs
       have hlt9 := A8 (hS.lts _ (.head _))
       go_wp2_with (at_builtin; refine Ea (s0 := gt) 28 Tryz.underlying28 rfl _ _ rfl rfl rfl hJ (by omega) ?_; intro v' w9 hJ9 hp9 hb9)
       replace hS := hS.call hb9
       obtain ⟨ag9, cap9, rfl⟩ := hJ9.shape
       go_wp2_with fail
       go_roundw
       case rel => exact ⟨a / 1000000000000000000, gt :: J, hL2, hbd2, hsz2, A8 (fun h => by cases h), haw2, by rw [List.length_cons]; omega, A8 (fun b o e => A9 hlt9.out (hp9 b o e)), hJ9, by rw [← hf.out]; exact hS⟩
       case measure => simp [lenOf]; omega
     ·obtain rfl : m = (i : Int) := by omega
      clear hm he0 he1 heq FU EQ2
      have hi12 : i < 12 := by omega
      have hii : (i : Int) < 12 := by omega
      have c0 := (hS.cell w.heap.size _ _ (.head _) i).trans (B7 _ hi12)
      rw [if_neg (by omega)] at c0
      obtain ⟨e1, e2⟩ := hdw.out i
      have D := fun W => JW (((a : Int) / LnM.P (i + 1)) % 1000000000000000000) (wd (a : Int) i) ⟨Int.emod_nonneg _ (by decide), Int.emod_lt_of_pos _ (by decide)⟩ (LnM.wd_bd _ _) W
      rw [e1, e2] at D
      clear e1 e2
      obtain ⟨h, hh⟩ : ∃ h, h = ((a : Int) / LnM.P (i + 1)) % 1000000000000000000 := ⟨_, rfl⟩
      obtain ⟨l, hl⟩ : ∃ l, l = wd (a : Int) i := ⟨_, rfl⟩
      obtain ⟨qw, hqw⟩ : ∃ qw, qw = wd ((a : Int) / 1000000000000000000) i := ⟨_, rfl⟩
      obtain ⟨rw', hrw⟩ : ∃ rw', rw' = ((a : Int) / LnM.P i) % 1000000000000000000 := ⟨_, rfl⟩
      rw [← hh, ← hl, ← hqw, ← hrw] at D
      rw [← hl] at c0
      rw [← hh]
      clear hh hl
      replace hqw := A8 hqw
      replace hrw := A8 hrw
      replace D := A8 D
      go_wp2_with fail
      refine Calls.mono (D.out _) ?_
      rintro e w2 ⟨rfl, hb⟩
      replace hS := hS.call hb
      replace hJ := hJ.below hb
      clear hb c0
      have c0 := (hS.cell w.heap.size _ _ (.head _) i).trans (B7 _ hi12)
      have c1 := hS.frozen w.heap.size _ _ (.head _) i
      have hS2 := BL.putc (A := []) (C := []) ⟨by simp, by simp⟩ hS i (.int .u64 qw)
      rw [AO _ hi12, Ax (f := upd (fun j => if i + 1 ≤ j then wd ((a : Int) / 1000000000000000000) j else wd (a : Int) j) i qw) (g := fun j => if i ≤ j then wd ((a : Int) / 1000000000000000000) j else wd (a : Int) j) (fun j hj => by
       unfold upd
       dsimp only
       by_cases h : j = i
       ·subst h; rw [if_pos rfl, if_pos (Aa _), hqw.out]
       ·by_cases h2 : i ≤ j
        ·rw [if_neg h, if_pos (by omega), if_pos h2]
        ·rw [if_neg h, if_neg (by omega), if_neg h2])] at hS2
      replace hS2 := A8 hS2
      have hJ2 := A8 (hJ.setFar hpt.out i (.int .u64 qw))
      have hw1 : IntKind.i64.wrap ((i : Int) - 1) = (i : Int) - 1 := IntWalk.i64_in _ (by omega)
      clear hS
      go_wp2_with fail
      go_roundw
      case rel => exact ⟨i, (i : Int) - 1, by rw [hrw.out], rfl, by omega, by omega, hJ2.out, hS2.out⟩
      case measure => simp [intOf]
end
end Go.Proofs.YtcmomjnailihpaaGreatDoor
