/- Eqd, Cpy, MoA, MoB -/
import Derived.Test.YtcmomjnailihpaaGreatDoorXRgK
set_option maxHeartbeats 8000000
set_option maxRecDepth 100000
namespace Go.Proofs.YtcmomjnailihpaaGreatDoor
section
open Go.RowKit
structure BoxI (p : Nat × Array Value × TypeId) (v : Value) (l : List Int) : Prop where
 t : p.2.2 = 3
 at_ : ∃ cap, v = .slice (some ⟨p.1, 0, none⟩) l.length cap ∧ l.length ≤ cap ∧ cap ≤ maxLen ∧ p.2.1.size = cap
 xs : p.2.1.toList.take l.length = l.map (Value.int .i64)
theorem BoxI.inB {p : Nat × Array Value × TypeId} {v : Value} {l : List Int} {fs : BLs} (h : BoxI p v l) (hp : p ∈ fs) : InB fs v l := by
 obtain ⟨g, cs, t⟩ := p
 obtain ⟨rfl, ⟨cap, h1, h2, h3, h4⟩, h5⟩ := h
 exact .inr ⟨g, cap, cs, h1, h2, h3, h4, hp, h5⟩
theorem BoxI.cell {p : Nat × Array Value × TypeId} {v : Value} {l : List Int} (h : BoxI p v l) {k : Nat} (hk : k < l.length) : p.2.1[k]? = some (.int .i64 (gi l k)) := by
 have e := congrArg (fun z => z[k]?) h.xs
 simp only [List.getElem?_take, hk, if_true, List.getElem?_map, List.getElem?_eq_getElem hk] at e
 rw [Array.getElem?_toList] at e
 rw [e, BB hk]; rfl
theorem BoxI.set {g : Nat} {cs : Array Value} {t : TypeId} {v : Value} {l : List Int} (h : BoxI (g, cs, t) v l) (k : Nat) (y : Int) : BoxI (g, cs.setIfInBounds k (.int .i64 y), t) v (l.set k y) := by
 obtain ⟨h1, ⟨cap, h2, h3, h4, h5⟩, h6⟩ := h
 refine ⟨h1, ⟨cap, by rw [List.length_set]; exact h2, by rw [List.length_set]; exact h3, h4, by simpa using h5⟩, ?_⟩
 rw [List.length_set]
 show (cs.setIfInBounds k (.int .i64 y)).toList.take l.length = (l.set k y).map _
 rw [Array.toList_setIfInBounds, List.take_set, h6, ← List.map_set]
structure EqD (fs : BLs) (rows : List (List Int × Int)) (xs : List Value) : Prop where
 len : xs.length = rows.length * 2
 fl : fs.length = rows.length
 at_ : ∀ j r, rows[j]? = some r → ∃ p v, fs[j]? = some p ∧ xs[j * 2]? = some v ∧ xs[j * 2 + 1]? = some (.int .i64 r.2) ∧ BoxI p v r.1
theorem EqD.eqs {fs : BLs} {rows : List (List Int × Int)} {xs : List Value} (h : EqD fs rows xs) : EqsAt fs rows xs := ⟨h.len, fun j r hj => by
 obtain ⟨p, v, h1, h2, h3, h4⟩ := h.at_ j r hj
 exact ⟨v, h2, h3, h4.inB (List.mem_of_getElem? h1)⟩⟩
theorem EqD.nil : EqD [] [] [] := ⟨rfl, rfl, fun j r h => by simp at h⟩
theorem EqD.snoc {fs : BLs} {rows : List (List Int × Int)} {xs : List Value} {p : Nat × Array Value × TypeId} {v : Value} {r : List Int × Int} (h : EqD fs rows xs) (hv : BoxI p v r.1) : EqD (fs ++ [p]) (rows ++ [r]) (xs ++ [v, .int .i64 r.2]) := by
 refine ⟨by simp [h.len]; omega, by simp [h.fl], fun j r' hj => ?_⟩
 by_cases hlt : j < rows.length
 ·rw [List.getElem?_append_left hlt] at hj
  obtain ⟨q, u, h1, h2, h3, h4⟩ := h.at_ j r' hj
  refine ⟨q, u, ?_, ?_, ?_, h4⟩
  ·rw [List.getElem?_append_left (by rw [h.fl]; exact hlt)]; exact h1
  ·rw [List.getElem?_append_left (by rw [h.len]; omega)]; exact h2
  ·rw [List.getElem?_append_left (by rw [h.len]; omega)]; exact h3
 ·have hj' : j = rows.length := by
   have := (List.getElem?_eq_some_iff.1 hj).1
   simp at this; omega
  subst hj'
  simp at hj
  subst hj
  refine ⟨p, v, ?_, ?_, ?_, hv⟩
  ·rw [List.getElem?_append_right (by rw [h.fl]; exact Aa _), h.fl]; simp
  ·rw [List.getElem?_append_right (by rw [h.len]; omega), h.len]; simp
  ·rw [List.getElem?_append_right (by rw [h.len]; omega), h.len, show rows.length * 2 + 1 - rows.length * 2 = 1 by omega]; rfl
theorem EqD.set {fs : BLs} {rows : List (List Int × Int)} {xs : List Value} {p : Nat × Array Value × TypeId} {v : Value} {r : List Int × Int} (h : EqD fs rows xs) (i : Nat) (hv : BoxI p v r.1) : EqD (fs.set i p) (rows.set i r) ((xs.set (i * 2) v).set (i * 2 + 1) (.int .i64 r.2)) := by
 refine ⟨by simp [h.len], by simp [h.fl], fun j r' hj => ?_⟩
 have hjl : j < rows.length := by have := (List.getElem?_eq_some_iff.1 hj).1; simpa using this
 by_cases e : i = j
 ·subst e
  rw [List.getElem?_set_self hjl] at hj
  obtain rfl := Option.some.inj hj
  refine ⟨p, v, List.getElem?_set_self (by rw [h.fl]; exact hjl), ?_, ?_, hv⟩
  ·rw [List.getElem?_set_ne (by omega), List.getElem?_set_self (by rw [h.len]; omega)]
  ·rw [List.getElem?_set_self (by rw [List.length_set, h.len]; omega)]
 ·rw [List.getElem?_set_ne e] at hj
  obtain ⟨q, u, h1, h2, h3, h4⟩ := h.at_ j r' hj
  refine ⟨q, u, ?_, ?_, ?_, h4⟩
  ·rw [List.getElem?_set_ne e]; exact h1
  ·rw [List.getElem?_set_ne (by omega), List.getElem?_set_ne (by omega)]; exact h2
  ·rw [List.getElem?_set_ne (by omega), List.getElem?_set_ne (by omega)]; exact h3
theorem LI {α : Type} {l : List α} {i : Nat} {x : α} (h : l[i]? = some x) : l.set i x = l := by
 refine List.ext_getElem? fun j => ?_
 by_cases e : i = j
 ·subst e; rw [List.getElem?_set_self (List.getElem?_eq_some_iff.1 h).1, h]
 ·rw [List.getElem?_set_ne e]
theorem EqD.setC {fs : BLs} {rows : List (List Int × Int)} {xs : List Value} {p : Nat × Array Value × TypeId} {v : Value} {r : List Int × Int} {l : List Int} (h : EqD fs rows xs) {i : Nat} (hr : rows[i]? = some r) (hv : BoxI p v l) : EqD (fs.set i p) (rows.set i (l, r.2)) (xs.set (i * 2) v) := by
 have h1 := h.set (r := (l, r.2)) i hv
 obtain ⟨_, _, _, _, h3, _⟩ := h.at_ i r hr
 have h4 : (xs.set (i * 2) v)[i * 2 + 1]? = some (.int .i64 r.2) := by rw [List.getElem?_set_ne (by omega)]; exact h3
 rw [show ((xs.set (i * 2) v).set (i * 2 + 1) (.int .i64 (l, r.2).2)) = xs.set (i * 2) v from LI h4] at h1
 exact h1
theorem Ja {cs : Array Value} {n i : Nat} (x : Value) : (cs.setIfInBounds i x).toList.take n = (cs.toList.take n).set i x := by
 rw [Array.toList_setIfInBounds, List.take_set]
structure SysB (B cap : Nat) (cs : Array Value) (fs : BLs) (rows : List (List Int × Int)) : Prop where
 le : rows.length ≤ cap
 mx : cap ≤ maxLen
 size : cs.size = cap * 2
 eq : EqD fs rows (cs.toList.take (rows.length * 2))
section
variable {B cap i : Nat} {cs : Array Value} {fs : BLs} {rows : List (List Int × Int)} {r : List Int × Int}
theorem SysB.at_ (h : SysB B cap cs fs rows) (hr : rows[i]? = some r) : ∃ p v, fs[i]? = some p ∧ cs[i * 2]? = some v ∧ cs[i * 2 + 1]? = some (.int .i64 r.2) ∧ BoxI p v r.1 := by
 have hi := (List.getElem?_eq_some_iff.1 hr).1
 obtain ⟨p, v, h1, h2, h3, h4⟩ := h.eq.at_ i r hr
 rw [List.getElem?_take, if_pos (by omega), Array.getElem?_toList] at h2 h3
 exact ⟨p, v, h1, h2, h3, h4⟩
theorem SysB.setC (h : SysB B cap cs fs rows) (hr : rows[i]? = some r) {p : Nat × Array Value × TypeId} {v : Value} {l : List Int} (hv : BoxI p v l) : SysB B cap (cs.setIfInBounds (i * 2) v) (fs.set i p) (rows.set i (l, r.2)) := by
 have hi := (List.getElem?_eq_some_iff.1 hr).1
 refine ⟨by rw [List.length_set]; exact h.le, h.mx, by simpa using h.size, ?_⟩
 rw [List.length_set, Ja]
 exact h.eq.setC hr hv
theorem SysB.slE {w W : World} {L : BLs} {R : List RowD} (h : SysB B cap cs fs rows) (hM : Mem w ((B, cs, 60) :: L) R W) (hs : ∀ p ∈ fs, p ∈ L) : SlE W (.slice (some ⟨B, 0, none⟩) rows.length cap) rows :=
 h.eq.eqs.slE (hM.thaw (n := rows.length) (k := 2) h.le h.mx h.size rfl) rfl hs
end
theorem InB.box {fs : BLs} {v : Value} {l : List Int} (h : InB fs v l) (hl : 1 ≤ l.length) : ∃ p ∈ fs, BoxI p v l := by
 rcases h with ⟨_, rfl⟩ | ⟨g, cap, cs, h1, h2, h3, h4, h5, h6⟩
 ·simp at hl
 ·exact ⟨_, h5, rfl, ⟨cap, h1, h2, h3, h4⟩, h6⟩
theorem Mem.tuck {w W : World} {gs fs C : BLs} {R : List RowD} {T p : Nat × Array Value × TypeId} (h : Mem w (T :: (gs ++ (fs ++ C))) R W) (hp : p ∈ gs) : Mem w (T :: ((fs ++ [p]) ++ C)) R W := by
 have h1 : Mem w (T :: ([p] ++ (fs ++ C))) R W := h.sub (List.Sublist.cons_cons _ (List.Sublist.append (List.singleton_sublist.2 hp) (List.Sublist.refl _)))
 refine h1.perm (List.Perm.cons _ ?_)
 rw [List.append_assoc]
 exact show (p :: (fs ++ C)).Perm (fs ++ p :: C) from List.perm_middle.symm
theorem Mem.pick {w W : World} {A C : BLs} {R : List RowD} {T p : Nat × Array Value × TypeId} (h : Mem w (T :: (A ++ p :: C)) R W) : Mem w (p :: T :: (A ++ C)) R W := h.perm ((List.Perm.cons _ List.perm_middle).trans (List.Perm.swap _ _ _))
theorem Mem.unpick {w W : World} {A C : BLs} {R : List RowD} {T p : Nat × Array Value × TypeId} (h : Mem w (p :: T :: (A ++ C)) R W) : Mem w (T :: (A ++ p :: C)) R W := h.perm ((List.Perm.swap _ _ _).trans (List.Perm.cons _ List.perm_middle.symm))
theorem Ib {α : Type} {l : List α} {i : Nat} {x : α} (h : l[i]? = some x) : ∃ A C, l = A ++ x :: C ∧ l.eraseIdx i = A ++ C ∧ ∀ y, l.set i y = A ++ y :: C := by
 obtain ⟨hi, rfl⟩ := List.getElem?_eq_some_iff.1 h
 refine ⟨l.take i, l.drop (i + 1), by rw [List.getElem_cons_drop, List.take_append_drop], List.eraseIdx_eq_take_drop_succ _ _, fun y => ?_⟩
 rw [List.set_eq_take_append_cons_drop, if_pos hi]
section
variable {w W : World} {L fs : BLs} {R : List RowD} {T p q : Nat × Array Value × TypeId} {i : Nat}
theorem Mem.pull (h : Mem w (T :: (fs ++ L)) R W) (hi : fs[i]? = some p) : Mem w (p :: T :: (fs.eraseIdx i ++ L)) R W := by
 obtain ⟨A, C, h1, h2, _⟩ := Ib hi
 rw [h2, List.append_assoc]
 rw [h1, List.append_assoc, List.cons_append] at h
 exact h.pick
theorem Mem.push (h : Mem w (q :: T :: (fs.eraseIdx i ++ L)) R W) (hi : fs[i]? = some p) : Mem w (T :: (fs.set i q ++ L)) R W := by
 obtain ⟨A, C, h1, h2, h3⟩ := Ib hi
 rw [h2, List.append_assoc] at h
 rw [h3, List.append_assoc, List.cons_append]
 exact h.unpick
end
section
variable {w W : World} {L fs : BLs} {R : List RowD} {B cap i n : Nat} {cs : Array Value} {rows : List (List Int × Int)} {r : List Int × Int}
theorem SysB.thaw (h : SysB B cap cs fs rows) (hr : rows[i]? = some r) (hM : Mem w ((B, cs, 60) :: (fs ++ L)) R W) : ∃ v, cs[i * 2]? = some v ∧ Mem w ((B, cs, 60) :: (fs.eraseIdx i ++ L)) (⟨3, 1, v, r.1.length, r.1.map (Value.int .i64)⟩ :: R) W := by
 obtain ⟨⟨g, ds, t⟩, v, h1, h2, _, h4⟩ := h.at_ hr
 obtain ⟨rfl, ⟨cp, rfl, h5, h6, h7⟩, h8⟩ := h4
 exact ⟨_, h2, (hM.pull h1).thaw (k := 1) h5 h6 (by rw [Nat.mul_one]; exact h7) (by rw [Nat.mul_one]; exact h8)⟩
theorem SysB.grown (h : SysB B cap cs fs rows) (hr : rows[i]? = some r) {l : List Int} {v : Value} (hl : 1 ≤ l.length) (hn : n = l.length) (hM : Mem w ((B, cs.setIfInBounds (i * 2) v, 60) :: (fs.eraseIdx i ++ L)) (⟨3, 1, v, n, l.map (Value.int .i64)⟩ :: R) W) :
  ∃ fs', SysB B cap (cs.setIfInBounds (i * 2) v) fs' (rows.set i (l, r.2)) ∧ Mem w ((B, cs.setIfInBounds (i * 2) v, 60) :: (fs' ++ L)) R W := by
 obtain ⟨p, _, h1, _, _, _⟩ := h.at_ hr
 obtain ⟨gs, hin, hM2⟩ := hM.freezeI hn
 obtain ⟨q, hq, hb⟩ := hin.box hl
 refine ⟨fs.set i q, h.setC hr hb, Mem.push (i := i) ?_ h1⟩
 exact hM2.sub (List.Sublist.append (List.singleton_sublist.2 hq) (List.Sublist.refl _))
end
theorem Mem.thawT {w W : World} {gs fs : BLs} {R : List RowD} {e T : Nat × Array Value × TypeId} {B n cap : Nat} {cs : Array Value} (h : Mem w (gs ++ e :: T :: (B, cs, 60) :: fs) R W) (hn : n ≤ cap) (hm : cap ≤ maxLen) (hs : cs.size = cap * 2) : Mem w (T :: (gs ++ fs)) (⟨60, 2, .slice (some ⟨B, 0, none⟩) n cap, n, cs.toList.take (n * 2)⟩ :: R) W := by
 have h1 := (h.sub (List.Sublist.append (List.Sublist.refl gs) (List.sublist_cons_self e _))).perm (List.perm_middle.trans (((List.perm_middle (a := ((B, cs, (60 : TypeId)) : Nat × Array Value × TypeId))).cons T).trans (List.Perm.swap _ _ _)))
 exact h1.thaw hn hm hs rfl
theorem JH {l : List Int} (h : ∀ z ∈ l, Fits z) (k : Nat) : Fits (gi l k) := by
 by_cases hk : k < l.length
 ·rw [BB hk]; exact h _ (List.getElem_mem hk)
 ·rw [Cn (by omega)]; unfold Fits; decide
theorem Mem.addB {w W : World} {L : BLs} {R : List RowD} (h : Mem w L R W) (cs : Array Value) (t : TypeId) : ∃ W' B, W' = W.alloc (.cells cs t) ∧ B = W.heap.size ∧ Mem w ((B, cs, t) :: L) R W' := ⟨_, _, rfl, rfl, h.add cs t⟩
theorem Mem.rot {w W : World} {L : BLs} {R : List RowD} {T p : Nat × Array Value × TypeId} (h : Mem w (T :: p :: L) R W) : Mem w (p :: (L ++ [T])) R W := h.perm (List.perm_append_singleton T (p :: L)).symm
def Row0 (w : World) (a : Option Addr) (n : Nat) (l : List Int) : Prop := n = 0 ∨ ∃ b o, a = some ⟨b, o, none⟩ ∧ b < w.heap.size ∧ ∀ k, k < n → w.cell? ⟨b, o + k, none⟩ = some (.int .i64 (gi l k))
theorem Row0.below {w W : World} {a : Option Addr} {n : Nat} {l : List Int} (h : Row0 w a n l) (hb : Below w.heap.size w W) : Row0 W a n l := h.imp id fun ⟨b, o, e, h1, h2⟩ => ⟨b, o, e, A9 h1 hb.size, fun k hk => (hb.cell (p := ⟨b, o + k, none⟩) h1).trans (h2 k hk)⟩
theorem Sl.row0 {w : World} {v : Value} {l : List Int} (h : Sl w v l) : ∃ a c, v = .slice a l.length c ∧ Row0 w a l.length l := by
 rcases h with ⟨rfl, rfl⟩ | ⟨b, off, cap, rfl, h1, h2, h3, h4⟩
 ·exact ⟨_, _, rfl, .inl rfl⟩
 ·exact ⟨_, _, rfl, .inr ⟨b, off, rfl, h3, h4⟩⟩
theorem SysB.coef {B cap i : Nat} {cs : Array Value} {fs : BLs} {rows : List (List Int × Int)} {r : List Int × Int} (h : SysB B cap cs fs rows) (hr : rows[i]? = some r) : ∃ g ds cp, fs[i]? = some (g, ds, (3 : TypeId)) ∧ cs[i * 2]? = some (.slice (some ⟨g, 0, none⟩) r.1.length cp) ∧ ∀ k, k < r.1.length → ds[k]? = some (.int .i64 (gi r.1 k)) := by
 obtain ⟨⟨g, ds, t⟩, v, h1, h2, _, h4⟩ := h.at_ hr
 have hc := fun k (hk : k < r.1.length) => h4.cell hk
 obtain ⟨rfl, ⟨cp, rfl, _, _, _⟩, _⟩ := h4
 exact ⟨g, ds, cp, h1, h2, hc⟩
end
section
open Go.RowKit
attribute [local go_sem] Oper.semAt_some
theorem copy_r5 {Q : Exit → Act → World → Prop} {us : List Value} {bP bV pb po m mc i : Nat} {v cv : Value} {xs : List Value} {cols z : Int} {zl : List Int} {w W0 : World} {L : BLs} {R : List RowD}  (hn : Hid (i ≤ 1000000)) (hzl : Hid (zl.length ≤ 1000000)) (hi0 : (0 : Int) ≤ i) (hi1 : (i : Int) < m) (hsl : Hid (∀ W, Mem w L R W → Sl W cv zl)) (mP : (bP, #[.int .i64 cols, .slice (some ⟨pb, po, none⟩) m mc], 27) ∈ L) (x23 : Hid (∀ W, Mem w L R W → W.cell? ⟨pb, po + i * 2, none⟩ = some (cv))) (x30 : Hid (∀ W, Mem w L R W → W.cell? ⟨pb, po + i * 2 + 1, none⟩ = some (.int .i64 z))) (h0 : Hid (Mem w ((bV, #[.int .i64 cols, v], 27) :: L) (⟨60, 2, v, i, xs⟩ :: R) W0)) (hN : us.length = 36) (g1 : us[1]? = some (.pointer (some ⟨bP, 0, none⟩))) (g3 : us[3]? = some (.pointer (some ⟨bV, 0, none⟩))) (g4 : us[4]? = some (.int .i64 i)) {ops : Array Oper} (ho : getOps Tryz.f32.body 5 = some ops)
  (hQ : ∀ (x : Nat → Value) (gs24 : BLs) (a24 : Option Addr) (cap24 : Nat) (G33 : Nat) (cap33 : Nat) (W' : World), Hid (InB gs24 (.slice a24 zl.length cap24) zl) → Hid (Mem w ((bV, #[.int .i64 cols, .slice (some ⟨G33, 0, none⟩) (i + 1) cap33], 27) :: (gs24 ++ L)) (⟨60, 2, .slice (some ⟨G33, 0, none⟩) (i + 1) cap33, i + 1, xs ++ [.slice a24 zl.length cap24, .int .i64 z]⟩ :: R) W') → Q .normal { tmps := (sets [15, 16, 17, 18, 19, 20, 21, 22, 23, 24, 25, 26, 27, 28, 29, 30, 31, 32, 33, 34] x us).toArray, defers := [] } W') :
  (Code.region 5 ops true).wp Tryz.prog Q { tmps := us.toArray, defers := [] } W0 := by
 obtain rfl := Option.some.inj (ho.symm.trans (rfl : getOps Tryz.f32.body 5 = some _))
 clear ho
 replace hQ := A8 hQ
 let Fl : BLs × Option Addr × Nat × Nat × Nat → FL := fun g => [some (15, .pointer (some ⟨bV, 1, none⟩)), some (16, v), none, some (18, .pointer (some ⟨bP, 1, none⟩)), some (19, .slice (some ⟨pb, po, none⟩) m mc), some (20, .int .i64 i), some (21, .pointer (some ⟨pb, po + i * 2, none⟩)), some (22, .pointer (some ⟨pb, po + i * 2, none⟩)), some (23, cv), some (24, .slice g.2.1 zl.length g.2.2.1), some (25, .pointer (some ⟨bP, 1, none⟩)), some (26, .slice (some ⟨pb, po, none⟩) m mc), some (27, .int .i64 i), some (28, .pointer (some ⟨pb, po + i * 2, none⟩)), some (29, .pointer (some ⟨pb, po + i * 2 + 1, none⟩)), some (30, .int .i64 z), some (31, .agg #[.slice g.2.1 zl.length g.2.2.1, .int .i64 z]), none, some (33, .slice (some ⟨g.2.2.2.1, 0, none⟩) (i + 1) g.2.2.2.2), some (34, .pointer (some ⟨bV, 1, none⟩)), none]
 let Ml : BLs × Option Addr × Nat × Nat × Nat → ML := fun g => [(2, 17, (fun yv W => ∃ (g17 : Nat), yv = .slice (some ⟨g17, 0, none⟩) 0 0 ∧ Mem w ((g17, #[], 3) :: ((bV, #[.int .i64 cols, v], 27) :: L)) (⟨60, 2, v, i, xs⟩ :: R) W), some 9), (17, 32, (fun yv W => ∃ (g32 : Nat), yv = .slice (some ⟨g32, 0, none⟩) 1 1 ∧ Blk W g32 #[.slice g.2.1 zl.length g.2.2.1, .int .i64 z] 60), some 18)]
 let Sl_ : BLs × Option Addr × Nat × Nat × Nat → List (World → Prop) := fun g => [fun W => Mem w ((bV, #[.int .i64 cols, v], 27) :: L) (⟨60, 2, v, i, xs⟩ :: R) W, fun W => InB g.1 (.slice g.2.1 zl.length g.2.2.1) zl ∧ Mem w ((bV, #[.int .i64 cols, v], 27) :: (g.1 ++ L)) (⟨60, 2, v, i, xs⟩ :: R) W, fun W => InB g.1 (.slice g.2.1 zl.length g.2.2.1) zl ∧ Mem w ((bV, #[.int .i64 cols, v], 27) :: (g.1 ++ L)) (⟨60, 2, .slice (some ⟨g.2.2.2.1, 0, none⟩) (i + 1) g.2.2.2.2, i + 1, xs ++ [.slice g.2.1 zl.length g.2.2.1, .int .i64 z]⟩ :: R) W, fun W => InB g.1 (.slice g.2.1 zl.length g.2.2.1) zl ∧ Mem w ((bV, #[.int .i64 cols, .slice (some ⟨g.2.2.2.1, 0, none⟩) (i + 1) g.2.2.2.2], 27) :: (g.1 ++ L)) (⟨60, 2, .slice (some ⟨g.2.2.2.1, 0, none⟩) (i + 1) g.2.2.2.2, i + 1, xs ++ [.slice g.2.1 zl.length g.2.2.1, .int .i64 z]⟩ :: R) W]
 have St : RgS 36 [15, 16, 17, 18, 19, 20, 21, 22, 23, 24, 25, 26, 27, 28, 29, 30, 31, 32, 33, 34] [2, 17] Fl Ml (Mem w L R) Sl_ := ⟨fun _ => by kernel_rfl, fun _ => rfl, fun _ _ hb h => h.call hb, fun g => List.forall_mem_cons.2 ⟨fun yv W W' hb => fun ⟨g, e, h⟩ => ⟨g, e, h.call hb⟩, List.forall_mem_cons.2 ⟨fun yv W W' hb => fun ⟨g, e, h⟩ => ⟨g, e, h.below hb⟩, (fun _ h => by cases h)⟩⟩, fun g => List.forall_mem_cons.2 ⟨fun W W' hb h => h.call hb, List.forall_mem_cons.2 ⟨fun W W' hb h => ⟨h.1, (h.2).call hb⟩, List.forall_mem_cons.2 ⟨fun W W' hb h => ⟨h.1, (h.2).call hb⟩, List.forall_mem_cons.2 ⟨fun W W' hb h => ⟨h.1, (h.2).call hb⟩, (fun _ h => by cases h)⟩⟩⟩⟩⟩
 refine B4 36 us [15, 16, 17, 18, 19, 20, 21, 22, 23, 24, 25, 26, 27, 28, 29, 30, 31, 32, 33, 34] Fl Ml [9, 18, 20] (Mem w L R) Sl_ hN (by kernel_rfl) (by kernel_rfl) ⟨[], none, 0, 0, 0⟩ h0.out.tail.rtail.drew h0.out.drew (by kernel_rfl) ?_ ?_
 refine Ab (stV St 0 rfl (fun _ => rfl) fun g T E W hl hw hs z K J => by
  have x3 := z.u g3
  go_simp; exact J) ?_
 refine Ab (stV St 1 rfl (fun _ => rfl) fun g T E W hl hw hs z K J => by
  have x15 := z.x 0 hw rfl
  have k0 : W.cell? ⟨bV, 1, none⟩ = some (v : Value) := z.ld 1 0 1 hl hw hs rfl (by kernel_rfl) ⟨fun s => Mem.cell (s) _ _ _ (.head _) 1, fun s => Mem.cell (And.right (s)) _ _ _ (.head _) 1⟩
  go_simp; exact J) ?_
 refine Ab (stM St 2 0 (.inl rfl) (fun _ => rfl) (fun _ => by kernel_rfl) fun g T E W hl hw hs z K J => by
  go_simp; exact J _ _ ((Below.refl _ _).alloc (Aa _) _) ⟨_, rfl, z.ld 2 0 0 hl hw hs rfl (by kernel_rfl) (fun s => Mem.add s _ _)⟩) ?_
 refine Ab (stV St 3 rfl (fun _ => rfl) fun g T E W hl hw hs z K J => by
  have x1 := z.u g1
  go_simp; exact J) ?_
 refine Ab (stV St 4 rfl (fun _ => rfl) fun g T E W hl hw hs z K J => by
  have x18 := z.x 3 hw rfl
  have hC := z.c
  have k0 := (hC.cell _ _ _ mP 1).trans (show _ = some (.slice (some ⟨pb, po, none⟩) m mc : Value) from rfl)
  go_simp; exact J) ?_
 refine Ab (stV St 5 rfl (fun _ => rfl) fun g T E W hl hw hs z K J => by
  have x4 := z.u g4
  go_simp; exact J) ?_
 refine Ab (stV St 6 rfl (fun _ => rfl) fun g T E W hl hw hs z K J => by
  have x19 := z.x 4 hw rfl
  have x20 := z.x 5 hw rfl
  go_simp; exact J) ?_
 refine Ab (stV St 7 rfl (fun _ => rfl) fun g T E W hl hw hs z K J => by
  have x21 := z.x 6 hw rfl
  go_simp; exact J) ?_
 refine Ab (stV St 8 rfl (fun _ => rfl) fun g T E W hl hw hs z K J => by
  have x22 := z.x 7 hw rfl
  have hC := z.c
  have k0 := x23.out _ hC
  go_simp; exact J) ?_
 refine Ab (stF St 9 0 (.inl rfl) rfl rfl (by kernel_rfl) (fun _ => by kernel_rfl) fun g T E W hl hw hs z q K J => by
  obtain ⟨_, x17, g17, rfl, hb2⟩ := z.y 0 hl hw hs rfl
  have x23 := z.x 8 hw rfl
  have hM0 : Mem _ _ _ _ := q
  have hC := z.c
  refine GG rfl hb2 (by go_simp) (by go_simp) (hsl.out _ hC) hzl.out ?_
  intro gs24' a24' cap24' W2 hin hM2
  replace hM2 := hM2.front
  exact J ⟨gs24', a24', cap24', g.2.2.2.1, g.2.2.2.2⟩ _ _ rfl (by kernel_rfl) ((hM2.tail.sub (List.sublist_append_right _ _)).rtail) ⟨hin, hM2⟩) ?_
 refine Ab (stV St 10 rfl (fun _ => rfl) fun g T E W hl hw hs z K J => by
  have x1 := z.u g1
  go_simp; exact J) ?_
 refine Ab (stV St 11 rfl (fun _ => rfl) fun g T E W hl hw hs z K J => by
  have x25 := z.x 10 hw rfl
  have hC := z.c
  have k0 := (hC.cell _ _ _ mP 1).trans (show _ = some (.slice (some ⟨pb, po, none⟩) m mc : Value) from rfl)
  go_simp; exact J) ?_
 refine Ab (stV St 12 rfl (fun _ => rfl) fun g T E W hl hw hs z K J => by
  have x4 := z.u g4
  go_simp; exact J) ?_
 refine Ab (stV St 13 rfl (fun _ => rfl) fun g T E W hl hw hs z K J => by
  have x26 := z.x 11 hw rfl
  have x27 := z.x 12 hw rfl
  go_simp; exact J) ?_
 refine Ab (stV St 14 rfl (fun _ => rfl) fun g T E W hl hw hs z K J => by
  have x28 := z.x 13 hw rfl
  go_simp; exact J) ?_
 refine Ab (stV St 15 rfl (fun _ => rfl) fun g T E W hl hw hs z K J => by
  have x29 := z.x 14 hw rfl
  have hC := z.c
  have k0 := x30.out _ hC
  go_simp; exact J) ?_
 refine Ab (stV St 16 rfl (fun _ => rfl) fun g T E W hl hw hs z K J => by
  have x24 := z.x 9 hw rfl
  have x30 := z.x 15 hw rfl
  go_simp; exact J) ?_
 refine Ab (stM St 17 1 (.inl rfl) (fun _ => rfl) (fun _ => by kernel_rfl) fun g T E W hl hw hs z K J => by
  have x31 := z.x 16 hw rfl
  go_simp; exact J _ _ ((Below.refl _ _).alloc (Aa _) _) ⟨_, rfl, Blk.new _ _ _⟩) ?_
 refine Ab (stF St 18 1 (.inl rfl) rfl rfl (by kernel_rfl) (fun _ => by kernel_rfl) fun g T E W hl hw hs z q K J => by
  have x16 := z.x 1 hw rfl
  obtain ⟨_, x32, g32, rfl, hb17⟩ := z.y 1 hl hw hs rfl
  have hM0 := And.right (q)
  refine FY rfl hM0 (by go_simp) (by go_simp) (hb17.cell 0) (hb17.cell 1) rfl rfl hn.out ?_
  intro G33' cap33' W2 hM2
  exact J ⟨g.1, g.2.1, g.2.2.1, G33', cap33'⟩ _ _ rfl (by kernel_rfl) ((hM2.tail.sub (List.sublist_append_right _ _)).rtail) ⟨(And.left (q)), hM2⟩) ?_
 refine Ab (stV St 19 rfl (fun _ => rfl) fun g T E W hl hw hs z K J => by
  have x3 := z.u g3
  go_simp; exact J) ?_
 refine Ab (stE 20 2 (.inl rfl) rfl rfl (fun _ => rfl) (by kernel_rfl) (fun _ => by kernel_rfl) fun g T E W hl hw hs z q K J => by
  have x33 := z.x 18 hw rfl
  have x34 := z.x 19 hw rfl
  have hM0 := And.right (q)
  have y0 := hM0.cell _ _ _ (.head _) 1
  have w0 := hM0.frozen _ _ _ (.head _) 1
  go_simp; exact J _ (((hM0.put0 1 _).tail.sub (List.sublist_append_right _ _)).rtail) ⟨(And.left (q)), (hM0.put0 1 _)⟩) ?_
 ·exact Am
 ·intro g a W z q
  have hM9 := And.right (q)
  rw [z.f.eqs]
  exact hQ.out _ g.1 g.2.1 g.2.2.1 g.2.2.2.1 g.2.2.2.2  _  (A8 (And.left (q))) (A8 hM9)
def CopyP (w : World) (cols : Int) (rows : List (List Int × Int)) (e : Ending) (w' : World) : Prop :=
 ∃ (B cap : Nat) (cs : Array Value) (fs : BLs), e = .returned (.agg #[.int .i64 cols, .slice (some ⟨B, 0, none⟩) rows.length cap]) ∧ SysB B cap cs fs rows ∧ Mem w ((B, cs, 60) :: fs) [] w'
theorem KI {α : Type} {l : List α} {i : Nat} {x : α} (h : l[i]? = some x) : l.take (i + 1) = l.take i ++ [x] := by
 rw [List.take_add_one, h]; rfl
theorem LK (cols : Int) (v : Value) (rows : List (List Int × Int)) (w : World) (h : SlE w v rows) (h1 : 1 ≤ rows.length) (h2 : rows.length ≤ 1000000) (h3 : ∀ r ∈ rows, 1 ≤ r.1.length ∧ r.1.length ≤ 1000000) :
  Calls Tryz.prog 32 #[.agg #[.int .i64 cols, v]] w (CopyP w cols rows) := by
 rcases h with ⟨rfl, rfl⟩ | ⟨pb, po, mc, rfl, k1, k2, k3, k4⟩
 ·simp at h1
 replace k4 := A8 k4
 replace h3 := A8 h3
 have hend : Hid (∀ fs sv xs W, Mem w ((w.heap.size + 1 + 1, #[.int .i64 cols, sv], 27) :: (fs ++ [(w.heap.size + 1, #[.int .i64 0, .slice none 0 0], 27), (w.heap.size, #[.int .i64 cols, .slice (some ⟨pb, po, none⟩) rows.length mc], 27)])) [⟨60, 2, sv, rows.length, xs⟩] W → EqD fs (rows.take rows.length) xs → ∃ B cap, sv = .slice (some ⟨B, 0, none⟩) rows.length cap ∧ ∀ W', W' = (W.setCell ⟨w.heap.size + 1, 0, none⟩ (.int .i64 cols)).setCell ⟨w.heap.size + 1, 1, none⟩ sv → CopyP w cols rows (.returned (.agg #[.int .i64 cols, sv])) W') := A8 (fun fs sv xs W hM hq => by
  rw [List.take_length] at hq
  have hF := Mem.front (A := (w.heap.size + 1 + 1, #[.int .i64 cols, sv], 27) :: fs) (C := [(w.heap.size, #[.int .i64 cols, .slice (some ⟨pb, po, none⟩) rows.length mc], 27)]) hM
  rcases hF.freeze with ⟨_, e0, _, _⟩ | ⟨B, cap, cs, rfl, q1, q2, q3, q4, _⟩
  ·omega
  ·refine ⟨B, cap, rfl, fun W' e => ?_⟩
   have h5 := hF.out2 (.int .i64 cols) (.slice (some ⟨B, 0, none⟩) rows.length cap)
   rw [← e] at h5
   rcases h5.freeze with ⟨e1, _, _, _⟩ | ⟨B2, cap2, cs2, e1, p1, p2, p3, p4, h6⟩
   ·cases e1
   ·cases e1
    refine ⟨B, cap, cs2, fs, rfl, ⟨p1, p2, p3, by rw [p4]; exact hq⟩, h6.sub ?_⟩
    exact List.Sublist.cons_cons _ (List.Sublist.cons _ (List.Sublist.cons _ (List.sublist_append_left fs _))))
 obtain ⟨m, hm⟩ : ∃ m, m = rows.length := ⟨_, rfl⟩
 rw [← hm] at hend h2 ⊢
 replace hm := A8 hm
 clear h1 k1 k2
 obtain ⟨V1, e1, S1, s1⟩ := (Mem.start w).add' #[.int .i64 cols, .slice (some ⟨pb, po, none⟩) m mc] 27
 obtain ⟨V2, e2, S2, s2⟩ := S1.add' #[.int .i64 0, .slice none 0 0] 27
 obtain ⟨V3, e3, S3, s3⟩ := S2.add' #[.int .i64 cols, .slice none 0 0] 27
 rw [s2, s1] at S3
 rw [s1] at S2
 rw [e2, e1] at e3
 have hM := A8 (S3.row0 60 2)
 clear e2 e1 S1 s1 S2 s2 S3 s3
 go_enter Tryz.func32, Tryz.ntmps32
 go_upto_region 2 with fail
 rw [← e3]
 clear e3
 go_wp2_with fail
 go_loopw [4] (fun s wr => ∃ (i : Nat) (fs : BLs) (sv : Value) (xs : List Value), s = .int .i64 i ∧ i ≤ m ∧ Hid (Mem w ((w.heap.size + 1 + 1, #[.int .i64 cols, sv], 27) :: (fs ++ [(w.heap.size + 1, #[.int .i64 0, .slice none 0 0], 27), (w.heap.size, #[.int .i64 cols, .slice (some ⟨pb, po, none⟩) m mc], 27)])) [⟨60, 2, sv, i, xs⟩] wr ∧ EqD fs (rows.take i) xs)) (fun s _ => m - (intOf s).toNat)
 case atStart => exact ⟨0, [], .slice none 0 0, [], rfl, by omega, A8 ⟨hM.out, EqD.nil⟩⟩
 case round =>
  clear hM
  obtain ⟨i, fs, sv, xs, rfl, hi, hM⟩ := hrel
  have hmP := A8 (show (w.heap.size, #[.int .i64 cols, .slice (some ⟨pb, po, none⟩) m mc], 27) ∈ ((w.heap.size + 1 + 1, #[.int .i64 cols, sv], 27) :: (fs ++ [(w.heap.size + 1, #[.int .i64 0, .slice none 0 0], 27), (w.heap.size, #[.int .i64 cols, .slice (some ⟨pb, po, none⟩) m mc], 27)]) : BLs) from List.mem_cons_of_mem _ (List.mem_append_right _ (.tail _ (.head _))))
  have z1 := (hM.out.1.cell _ _ _ hmP.out 1).trans (show _ = some (Value.slice (some ⟨pb, po, none⟩) m mc) from rfl)
  by_cases him : i < m
  case neg =>
   have him' : ¬ (i : Int) < m := by omega
   obtain rfl : i = m := by omega
   obtain ⟨B, cap, rfl, hfin⟩ := hend.out _ _ _ _ hM.out.1 hM.out.2
   have hfin := A8 (hfin _ rfl)
   have y0 := (hM.out.1.cell _ _ _ (.head _) 0).trans (show _ = some (Value.int .i64 cols) from rfl)
   have y1 := (hM.out.1.cell _ _ _ (.head _) 1).trans (show _ = some (Value.slice (some ⟨B, 0, none⟩) i cap) from rfl)
   obtain ⟨g0, g1, f0, f1, x0, x1⟩ := Jj (hM.out.1.blks _ (.tail _ (List.mem_append_right fs (.head _)))) (.int .i64 cols) (.slice (some ⟨B, 0, none⟩) i cap)
   clear hM hend hmP
   go_wp2
   exact bodyPost_ret (v := .agg #[.int .i64 cols, .slice (some ⟨B, 0, none⟩) i cap]) (by simp [results, Tryz.results32, go_sem, x0, x1]) rfl hfin.out
  case pos =>
   have him' : (i : Int) < m := by omega
   have hi0 : (0 : Int) ≤ i := by omega
   obtain ⟨r, hr⟩ : ∃ r, rows[i]? = some r := ⟨_, List.getElem?_eq_getElem (by rw [← hm.out]; exact him)⟩
   obtain ⟨cv, c1, c2, c3⟩ := k4.out i r hr
   have hrl := A8 (h3.out r (List.mem_of_getElem? hr))
   have hts := A8 (KI hr)
   replace c2 := A8 c2
   replace hr := A8 hr
   go_upto_region 5 with fail
   refine copy_r5 (bP := w.heap.size) (bV := w.heap.size + 1 + 1) (pb := pb) (po := po) (m := m) (mc := mc) (i := i) (v := sv) (cv := cv) (xs := xs) (cols := cols) (z := r.2) (zl := r.1) (w := w) (L := fs ++ [(w.heap.size + 1, #[.int .i64 0, .slice none 0 0], 27), (w.heap.size, #[.int .i64 cols, .slice (some ⟨pb, po, none⟩) m mc], 27)]) (R := []) (A8 (by omega)) (A8 hrl.out.2) hi0 him' (A8 fun W hW => c2.out.below hW.below) (List.mem_append_right _ (.tail _ (.head _))) (A8 fun W hW => hW.old k3 c1) (A8 fun W hW => hW.old k3 c3) (A8 hM.out.1) rfl rfl rfl rfl (by kernel_rfl) ?_
   intro xx gs a24 cap24 G33 cap33 W5 hin hM5
   simp only [sets, List.foldl_cons, List.foldl_nil, A5, A6]
   have hq := A8 hM.out.2
   clear hM c1 c3 z1 hmP
   go_wp2_with fail
   go_roundw
   case rel =>
    obtain ⟨p, hp, hb⟩ := InB.box hin.out hrl.out.1
    exact ⟨i + 1, fs ++ [p], _, _, by go_num, by omega, A8 ⟨hM5.out.tuck hp, by rw [hts.out]; exact hq.out.snoc hb⟩⟩
   case measure => simp [intOf]; omega
theorem I5 {Q : Exit → Act → World → Prop} {us : List Value} {bU B m cap i n : Nat} {cs : Array Value} {v : Value} {xs : List Value} {c1 y : Int} {w W0 : World} {L : BLs} {R : List RowD}  (hn : Hid (n ≤ 1000000)) (hi0 : (0 : Int) ≤ i) (hi1 : (i : Int) < m) (hcs : cs[i * 2]? = some v) (mU : (bU, #[.int .i64 c1, .slice (some ⟨B, 0, none⟩) m cap], 27) ∈ L)  (h0 : Hid (Mem w ((B, cs, 60) :: L) (⟨3, 1, v, n, xs⟩ :: R) W0)) (hN : us.length = 179) (g14 : us[14]? = some (.pointer (some ⟨bU, 0, none⟩))) (g15 : us[15]? = some (.int .i64 i)) (g16 : us[16]? = some (.int .i64 y)) {ops : Array Oper} (ho : getOps Tryz.f8.body 22 = some ops)
  (hQ : ∀ (x : Nat → Value) (G96 : Nat) (cap96 : Nat) (W' : World), Hid (Mem w ((B, (cs).setIfInBounds (i * 2) (.slice (some ⟨G96, 0, none⟩) (n + 1) cap96), 60) :: L) (⟨3, 1, .slice (some ⟨G96, 0, none⟩) (n + 1) cap96, n + 1, xs ++ [.int .i64 y]⟩ :: R) W') → Q .normal { tmps := (sets [85, 86, 87, 88, 89, 90, 91, 92, 93, 94, 95, 96, 97, 98] x us).toArray, defers := [] } W') :
  (Code.region 22 ops true).wp Tryz.prog Q { tmps := us.toArray, defers := [] } W0 := by
 obtain rfl := Option.some.inj (ho.symm.trans (rfl : getOps Tryz.f8.body 22 = some _))
 clear ho
 replace hQ := A8 hQ
 let Fl : Nat × Nat → FL := fun g => [some (85, .pointer (some ⟨bU, 1, none⟩)), some (86, .slice (some ⟨B, 0, none⟩) m cap), some (87, .int .i64 i), some (88, .pointer (some ⟨bU, 1, none⟩)), some (89, .slice (some ⟨B, 0, none⟩) m cap), some (90, .int .i64 i), some (91, .pointer (some ⟨B, i * 2, none⟩)), some (92, .pointer (some ⟨B, i * 2, none⟩)), some (93, v), some (94, .int .i64 y), none, some (96, .slice (some ⟨g.1, 0, none⟩) (n + 1) g.2), some (97, .pointer (some ⟨B, i * 2, none⟩)), some (98, .pointer (some ⟨B, i * 2, none⟩)), none]
 let Ml : Nat × Nat → ML := fun g => [(10, 95, (fun yv W => ∃ (g95 : Nat), yv = .slice (some ⟨g95, 0, none⟩) 1 1 ∧ Blk W g95 #[.int .i64 y] 3), some 11)]
 let Sl_ : Nat × Nat → List (World → Prop) := fun g => [fun W => Mem w ((B, cs, 60) :: L) (⟨3, 1, v, n, xs⟩ :: R) W, fun W => Mem w ((B, cs, 60) :: L) (⟨3, 1, .slice (some ⟨g.1, 0, none⟩) (n + 1) g.2, n + 1, xs ++ [.int .i64 y]⟩ :: R) W, fun W => Mem w ((B, (cs).setIfInBounds (i * 2) (.slice (some ⟨g.1, 0, none⟩) (n + 1) g.2), 60) :: L) (⟨3, 1, .slice (some ⟨g.1, 0, none⟩) (n + 1) g.2, n + 1, xs ++ [.int .i64 y]⟩ :: R) W]
 have St : RgS 179 [85, 86, 87, 88, 89, 90, 91, 92, 93, 94, 95, 96, 97, 98] [10] Fl Ml (Mem w L R) Sl_ := ⟨fun _ => by kernel_rfl, fun _ => rfl, fun _ _ hb h => h.call hb, fun g => List.forall_mem_cons.2 ⟨fun yv W W' hb => fun ⟨g, e, h⟩ => ⟨g, e, h.below hb⟩, (fun _ h => by cases h)⟩, fun g => List.forall_mem_cons.2 ⟨fun W W' hb h => h.call hb, List.forall_mem_cons.2 ⟨fun W W' hb h => h.call hb, List.forall_mem_cons.2 ⟨fun W W' hb h => h.call hb, (fun _ h => by cases h)⟩⟩⟩⟩
 refine B4 179 us [85, 86, 87, 88, 89, 90, 91, 92, 93, 94, 95, 96, 97, 98] Fl Ml [11, 14] (Mem w L R) Sl_ hN (by kernel_rfl) (by kernel_rfl) ⟨0, 0⟩ h0.out.tail.rtail.drew h0.out.drew (by kernel_rfl) ?_ ?_
 refine Ab (stV St 0 rfl (fun _ => rfl) fun g T E W hl hw hs z K J => by
  have x14 := z.u g14
  go_simp; exact J) ?_
 refine Ab (stV St 1 rfl (fun _ => rfl) fun g T E W hl hw hs z K J => by
  have x85 := z.x 0 hw rfl
  have hC := z.c
  have k0 := (hC.cell _ _ _ mU 1).trans (show _ = some (.slice (some ⟨B, 0, none⟩) m cap : Value) from rfl)
  go_simp; exact J) ?_
 refine Ab (stV St 2 rfl (fun _ => rfl) fun g T E W hl hw hs z K J => by
  have x15 := z.u g15
  go_simp; exact J) ?_
 refine Ab (stV St 3 rfl (fun _ => rfl) fun g T E W hl hw hs z K J => by
  have x14 := z.u g14
  go_simp; exact J) ?_
 refine Ab (stV St 4 rfl (fun _ => rfl) fun g T E W hl hw hs z K J => by
  have x88 := z.x 3 hw rfl
  have hC := z.c
  have k0 := (hC.cell _ _ _ mU 1).trans (show _ = some (.slice (some ⟨B, 0, none⟩) m cap : Value) from rfl)
  go_simp; exact J) ?_
 refine Ab (stV St 5 rfl (fun _ => rfl) fun g T E W hl hw hs z K J => by
  have x15 := z.u g15
  go_simp; exact J) ?_
 refine Ab (stV St 6 rfl (fun _ => rfl) fun g T E W hl hw hs z K J => by
  have x89 := z.x 4 hw rfl
  have x90 := z.x 5 hw rfl
  go_simp; exact J) ?_
 refine Ab (stV St 7 rfl (fun _ => rfl) fun g T E W hl hw hs z K J => by
  have x91 := z.x 6 hw rfl
  go_simp; exact J) ?_
 refine Ab (stV St 8 rfl (fun _ => rfl) fun g T E W hl hw hs z K J => by
  have x92 := z.x 7 hw rfl
  have k0 : W.cell? ⟨B, i * 2, none⟩ = some (v : Value) := z.ld 8 0 0 hl hw hs rfl (by kernel_rfl) (fun s => (Mem.cell (s) _ _ _ (.head _) (i * 2)).trans hcs)
  go_simp; exact J) ?_
 refine Ab (stV St 9 rfl (fun _ => rfl) fun g T E W hl hw hs z K J => by
  have x16 := z.u g16
  go_simp; exact J) ?_
 refine Ab (stM St 10 0 (.inl rfl) (fun _ => rfl) (fun _ => by kernel_rfl) fun g T E W hl hw hs z K J => by
  have x94 := z.x 9 hw rfl
  go_simp; exact J _ _ ((Below.refl _ _).alloc (Aa _) _) ⟨_, rfl, Blk.new _ _ _⟩) ?_
 refine Ab (stF St 11 0 (.inl rfl) rfl rfl (by kernel_rfl) (fun _ => by kernel_rfl) fun g T E W hl hw hs z q K J => by
  have x93 := z.x 8 hw rfl
  obtain ⟨_, x95, g95, rfl, hb10⟩ := z.y 0 hl hw hs rfl
  have hM0 : Mem _ _ _ _ := q
  refine FX rfl hM0 (by go_simp) (by go_simp) (hb10.cell 0) hn.out ?_
  intro G96' cap96' W2 hM2
  exact J ⟨G96', cap96'⟩ _ _ rfl (by kernel_rfl) (hM2.tail.rtail) hM2) ?_
 refine Ab (stV St 12 rfl (fun _ => rfl) fun g T E W hl hw hs z K J => by
  have x86 := z.x 1 hw rfl
  have x87 := z.x 2 hw rfl
  go_simp; exact J) ?_
 refine Ab (stV St 13 rfl (fun _ => rfl) fun g T E W hl hw hs z K J => by
  have x97 := z.x 12 hw rfl
  go_simp; exact J) ?_
 refine Ab (stE 14 1 (.inl rfl) rfl rfl (fun _ => rfl) (by kernel_rfl) (fun _ => by kernel_rfl) fun g T E W hl hw hs z q K J => by
  have x96 := z.x 11 hw rfl
  have x98 := z.x 13 hw rfl
  have hM0 : Mem _ _ _ _ := q
  have y0 := (hM0.cell _ _ _ (.head _) (i * 2)).trans hcs
  have w0 := hM0.frozen _ _ _ (.head _) (i * 2)
  go_simp; exact J _ ((hM0.put0 (i * 2) _).tail.rtail) (hM0.put0 (i * 2) _)) ?_
 ·exact Am
 ·intro g a W z q
  have hM9 : Mem _ _ _ _ := q
  rw [z.f.eqs]
  exact hQ.out _ g.1 g.2  _  (A8 hM9)
theorem I6 {Q : Exit → Act → World → Prop} {us : List Value} {bA n1 k1 : Nat} {a1 : Option Addr} {d1 : ByteArray} {nums : List ByteArray} {w W0 : World} {L : BLs} {R : List RowD}  (hnl : Hid (nums.length ≤ 1000000)) (hsl : Hid (∀ W, Mem w L R W → SlS W (.slice a1 n1 k1) nums))  (x150 : Hid (∀ W, Mem w L R W → W.cell? ⟨bA, 1, none⟩ = some (.slice a1 n1 k1))) (x156 : Hid (∀ W, Mem w L R W → W.cell? ⟨bA, 2, none⟩ = some (.string d1))) (h0 : Hid (Mem w L R W0)) (hN : us.length = 179) (g17 : us[17]? = some (.pointer (some ⟨bA, 0, none⟩))) {ops : Array Oper} (ho : getOps Tryz.f8.body 31 = some ops)
  (hQ : ∀ (x : Nat → Value) (_ : Option Addr) (_ : Nat) (G153 : Nat) (cap153 : Nat) (b23 : Nat) (W' : World), x 23 = .pointer (some ⟨b23, 0, none⟩) → Hid (Mem w ((b23, #[.slice (some ⟨G153, 0, none⟩) (nums.length + 1) cap153, .string d1], 30) :: L) (⟨9, 1, .slice (some ⟨G153, 0, none⟩) (nums.length + 1) cap153, nums.length + 1, nums.map Value.string ++ [.string ⟨#[48]⟩]⟩ :: R) W') → Q .normal { tmps := (sets [147, 148, 149, 150, 151, 152, 153, 154, 155, 156, 157, 23] x us).toArray, defers := [] } W') :
  (Code.region 31 ops true).wp Tryz.prog Q { tmps := us.toArray, defers := [] } W0 := by
 obtain rfl := Option.some.inj (ho.symm.trans (rfl : getOps Tryz.f8.body 31 = some _))
 clear ho
 replace hQ := A8 hQ
 let Fl : Option Addr × Nat × Nat × Nat × Nat → FL := fun g => [none, some (148, .pointer (some ⟨bA, 1, none⟩)), some (149, .pointer (some ⟨bA, 1, none⟩)), some (150, .slice a1 n1 k1), some (151, .slice g.1 nums.length g.2.1), none, some (153, .slice (some ⟨g.2.2.1, 0, none⟩) (nums.length + 1) g.2.2.2.1), some (154, .pointer (some ⟨bA, 1, none⟩)), some (155, .pointer (some ⟨bA, 2, none⟩)), some (156, .string d1), some (157, .agg #[.slice (some ⟨g.2.2.1, 0, none⟩) (nums.length + 1) g.2.2.2.1, .string d1]), some (23, .pointer (some ⟨g.2.2.2.2, 0, none⟩)), none]
 let Ml : Option Addr × Nat × Nat × Nat × Nat → ML := fun g => [(0, 147, (fun yv W => ∃ (g147 : Nat), yv = .slice (some ⟨g147, 0, none⟩) 0 0 ∧ Mem w ((g147, #[], 9) :: L) R W), some 4), (5, 152, (fun yv W => ∃ (g152 : Nat), yv = .slice (some ⟨g152, 0, none⟩) 1 1 ∧ Blk W g152 #[.string ⟨#[48]⟩] 9), some 6), (11, 23, (fun _ W => New w L R [] g.2.2.2.2 #[.slice none 0 0, .string ⟨#[]⟩] 30 W), some 12)]
 let Sl_ : Option Addr × Nat × Nat × Nat × Nat → List (World → Prop) := fun g => [fun W => Mem w L R W, fun W => Mem w L (⟨9, 1, .slice g.1 nums.length g.2.1, nums.length, nums.map Value.string⟩ :: R) W, fun W => Mem w L (⟨9, 1, .slice (some ⟨g.2.2.1, 0, none⟩) (nums.length + 1) g.2.2.2.1, nums.length + 1, nums.map Value.string ++ [.string ⟨#[48]⟩]⟩ :: R) W, fun W => Mem w ((g.2.2.2.2, #[.slice (some ⟨g.2.2.1, 0, none⟩) (nums.length + 1) g.2.2.2.1, .string d1], 30) :: L) (⟨9, 1, .slice (some ⟨g.2.2.1, 0, none⟩) (nums.length + 1) g.2.2.2.1, nums.length + 1, nums.map Value.string ++ [.string ⟨#[48]⟩]⟩ :: R) W]
 have St : RgS 179 [147, 148, 149, 150, 151, 152, 153, 154, 155, 156, 157, 23] [0, 5, 11] Fl Ml (Mem w L R) Sl_ := ⟨fun _ => by kernel_rfl, fun _ => rfl, fun _ _ hb h => h.call hb, fun g => List.forall_mem_cons.2 ⟨fun yv W W' hb => fun ⟨g, e, h⟩ => ⟨g, e, h.call hb⟩, List.forall_mem_cons.2 ⟨fun yv W W' hb => fun ⟨g, e, h⟩ => ⟨g, e, h.below hb⟩, List.forall_mem_cons.2 ⟨fun yv W W' hb => fun h => h.below hb, (fun _ h => by cases h)⟩⟩⟩, fun g => List.forall_mem_cons.2 ⟨fun W W' hb h => h.call hb, List.forall_mem_cons.2 ⟨fun W W' hb h => h.call hb, List.forall_mem_cons.2 ⟨fun W W' hb h => h.call hb, List.forall_mem_cons.2 ⟨fun W W' hb h => h.call hb, (fun _ h => by cases h)⟩⟩⟩⟩⟩
 refine B4 179 us [147, 148, 149, 150, 151, 152, 153, 154, 155, 156, 157, 23] Fl Ml [4, 6, 12] (Mem w L R) Sl_ hN (by kernel_rfl) (by kernel_rfl) ⟨none, 0, 0, 0, 0⟩ h0.out.drew h0.out.drew (by kernel_rfl) ?_ ?_
 refine Ab (stM St 0 0 (.inl rfl) (fun _ => rfl) (fun _ => by kernel_rfl) fun g T E W hl hw hs z K J => by
  go_simp; exact J _ _ ((Below.refl _ _).alloc (Aa _) _) ⟨_, rfl, z.ld 0 0 0 hl hw hs rfl (by kernel_rfl) (fun s => Mem.add s _ _)⟩) ?_
 refine Ab (stV St 1 rfl (fun _ => rfl) fun g T E W hl hw hs z K J => by
  have x17 := z.u g17
  go_simp; exact J) ?_
 refine Ab (stV St 2 rfl (fun _ => rfl) fun g T E W hl hw hs z K J => by
  have x148 := z.x 1 hw rfl
  go_simp; exact J) ?_
 refine Ab (stV St 3 rfl (fun _ => rfl) fun g T E W hl hw hs z K J => by
  have x149 := z.x 2 hw rfl
  have hC := z.c
  have k0 := x150.out _ hC
  go_simp; exact J) ?_
 refine Ab (stP St 4 0 [1, 2] (.inl rfl) rfl rfl (by kernel_rfl) (fun _ => by kernel_rfl) fun g T E W hl hw hs z q K J => by
  obtain ⟨_, x147, g147, rfl, hb0⟩ := z.y 0 hl hw hs rfl
  have x150 := z.x 3 hw rfl
  have hM0 : Mem _ _ _ _ := q
  have hC := z.c
  refine Df rfl hb0 (by go_simp) (by go_simp) (hsl.out _ hC) hnl.out ?_
  intro a151' cap151' W2 hM2 hk
  exact J ⟨a151', cap151', g.2.2.1, g.2.2.2.1, g.2.2.2.2⟩ _ _ rfl (by kernel_rfl) (hM2.rtail) hM2 (List.forall_mem_cons.2 ⟨fun r hr => by obtain rfl := Option.some.inj hr; exact ⟨_, rfl, fun v ⟨g, e, h⟩ => ⟨g, e, hk _ _ _ h⟩⟩, List.forall_mem_cons.2 ⟨fun r hr => by obtain rfl := Option.some.inj hr; exact ⟨_, rfl, fun v h => ⟨h.ge, h.ids, h.L, h.R, hk _ _ _ h.blk⟩⟩, (fun _ h => by cases h)⟩⟩)) ?_
 refine Ab (stM St 5 1 (.inl rfl) (fun _ => rfl) (fun _ => by kernel_rfl) fun g T E W hl hw hs z K J => by
  go_simp; exact J _ _ ((Below.refl _ _).alloc (Aa _) _) ⟨_, rfl, Blk.new _ _ _⟩) ?_
 refine Ab (stP St 6 1 [2] (.inl rfl) rfl rfl (by kernel_rfl) (fun _ => by kernel_rfl) fun g T E W hl hw hs z q K J => by
  have x151 := z.x 4 hw rfl
  obtain ⟨_, x152, g152, rfl, hb5⟩ := z.y 1 hl hw hs rfl
  have hM0 : Mem _ _ _ _ := q
  refine J6 rfl hM0 (by go_simp) (by go_simp) (hb5.cell 0) hnl.out ?_
  intro G153' cap153' W2 hM2 hk
  exact J ⟨g.1, g.2.1, G153', cap153', g.2.2.2.2⟩ _ _ rfl (by kernel_rfl) (hM2.rtail) hM2 (List.forall_mem_cons.2 ⟨fun r hr => by obtain rfl := Option.some.inj hr; exact ⟨_, rfl, fun v h => ⟨h.ge, h.ids, h.L, h.R, hk _ _ _ h.blk (show (30 : TypeId) ≠ 9 from by decide)⟩⟩, (fun _ h => by cases h)⟩)) ?_
 refine Ab (stV St 7 rfl (fun _ => rfl) fun g T E W hl hw hs z K J => by
  have x17 := z.u g17
  go_simp; exact J) ?_
 refine Ab (stV St 8 rfl (fun _ => rfl) fun g T E W hl hw hs z K J => by
  have x154 := z.x 7 hw rfl
  go_simp; exact J) ?_
 refine Ab (stV St 9 rfl (fun _ => rfl) fun g T E W hl hw hs z K J => by
  have x155 := z.x 8 hw rfl
  have hC := z.c
  have k0 := x156.out _ hC
  go_simp; exact J) ?_
 refine Ab (stV St 10 rfl (fun _ => rfl) fun g T E W hl hw hs z K J => by
  have x153 := z.x 6 hw rfl
  have x156 := z.x 9 hw rfl
  go_simp; exact J) ?_
 refine Ab (stA St 11 2 2 (.inl rfl) rfl (fun _ => rfl) (fun _ => rfl) (by kernel_rfl) fun g T E W hl hw hs z K J => by
  have hi : ∀ q ∈ ([] : List Nat), q < W.heap.size := fun _ h => by cases h
  have hC := z.c
  go_simp; exact J ⟨g.1, g.2.1, g.2.2.1, g.2.2.2.1, W.heap.size⟩ _ ((Below.refl _ _).alloc (Aa _) _) (by kernel_rfl) rfl rfl (New.of _ _ hC hi)) ?_
 refine Ab (stE 12 2 (.inl rfl) rfl rfl (fun _ => rfl) (by kernel_rfl) (fun _ => by kernel_rfl) fun g T E W hl hw hs z q K J => by
  have x23 := z.x 11 hw rfl
  have x157 := z.x 10 hw rfl
  have hM0 : Mem _ _ _ _ := q
  obtain ⟨_, _, hn11⟩ := z.y 2 hl hw hs rfl
  replace hM0 := hM0.adopt hn11 (fun p hp => .inl (hn11.L p hp)) (List.forall_mem_cons.2 ⟨.inr (show (9 : TypeId) ≠ 30 from by decide), fun p hp => .inl (hn11.R p hp)⟩)
  have y0 := hM0.cell _ _ _ (.head _) 0
  have w0 := hM0.frozen _ _ _ (.head _) 0
  have y1 := hM0.cell _ _ _ (.head _) 1
  have w1 := hM0.frozen _ _ _ (.head _) 1
  go_simp; exact J _ (((hM0.put0 0 _).put0 1 _).tail.rtail) ((hM0.put0 0 _).put0 1 _)) ?_
 ·exact Am
 ·intro g a W z q
  have hM9 : Mem _ _ _ _ := q
  have x23 := z.v.get 11 rfl (by kernel_rfl)
  rw [z.f.eqs]
  exact hQ.out _ g.1 g.2.1 g.2.2.1 g.2.2.2.1 g.2.2.2.2  _ (by simp [x23]) (A8 hM9)
theorem I7 {Q : Exit → Act → World → Prop} {us : List Value} {bA bB bT n1 k1 : Nat} {a1 : Option Addr} {ws : List ByteArray} {tv : Value} {c : Int} {w W0 : World} {L : BLs} {R : List RowD}  (hnl : Hid (ws.length ≤ 1000000)) (hsl : Hid (∀ W, Mem w L R W → SlS W (.slice a1 n1 k1) ws))  (x166 : Hid (∀ W, Mem w L R W → W.cell? ⟨bB, 0, none⟩ = some (.bool false))) (x169_0 : Hid (∀ W, Mem w L R W → W.cell? ⟨bT, 0, none⟩ = some (.int .i64 c))) (x169_1 : Hid (∀ W, Mem w L R W → W.cell? ⟨bT, 1, none⟩ = some (tv))) (x172 : Hid (∀ W, Mem w L R W → W.cell? ⟨bA, 3, none⟩ = some (.slice a1 n1 k1))) (C174 : Hid (∀ W, Mem w L R W → Calls Tryz.prog 33 #[.int .i64 0] W (Rets W (.string ⟨#[48]⟩)))) (C177 : Hid (∀ W (_ : Option Addr) (_ : Nat) (G176 : Nat) (cap176 : Nat), Mem w L (⟨9, 1, .slice (some ⟨G176, 0, none⟩) (ws.length + 1) cap176, ws.length + 1, ws.map Value.string ++ [.string ⟨#[48]⟩]⟩ :: R) W → Calls Tryz.prog 28 #[.agg #[.int .i64 c, tv], .slice (some ⟨G176, 0, none⟩) (ws.length + 1) cap176] W (Rets W (.bool true)))) (h0 : Hid (Mem w L R W0)) (hN : us.length = 179) (g10 : us[10]? = some (.pointer (some ⟨bT, 0, none⟩))) (g17 : us[17]? = some (.pointer (some ⟨bA, 0, none⟩))) (g19 : us[19]? = some (.pointer (some ⟨bB, 0, none⟩))) {ops : Array Oper} (ho : getOps Tryz.f8.body 33 = some ops)
  (hQ : ∀ (x : Nat → Value) (_ : Option Addr) (_ : Nat) (G176 : Nat) (cap176 : Nat) (W' : World), x 8 = .bool true → Hid (Mem w L (⟨9, 1, .slice (some ⟨G176, 0, none⟩) (ws.length + 1) cap176, ws.length + 1, ws.map Value.string ++ [.string ⟨#[48]⟩]⟩ :: R) W') → Q .normal { tmps := (sets [165, 166, 167, 168, 169, 170, 171, 172, 173, 174, 175, 176, 177, 178, 8] x us).toArray, defers := [] } W') :
  (Code.region 33 ops true).wp Tryz.prog Q { tmps := us.toArray, defers := [] } W0 := by
 obtain rfl := Option.some.inj (ho.symm.trans (rfl : getOps Tryz.f8.body 33 = some _))
 clear ho
 replace hQ := A8 hQ
 let Fl : Option Addr × Nat × Nat × Nat → FL := fun g => [some (165, .pointer (some ⟨bB, 0, none⟩)), some (166, .bool false), some (167, .bool true), some (168, .bool true), some (169, .agg #[.int .i64 c, tv]), none, some (171, .pointer (some ⟨bA, 3, none⟩)), some (172, .slice a1 n1 k1), some (173, .slice g.1 ws.length g.2.1), some (174, .string ⟨#[48]⟩), none, some (176, .slice (some ⟨g.2.2.1, 0, none⟩) (ws.length + 1) g.2.2.2), some (177, .bool true), some (178, .bool true), some (8, .bool true)]
 let Ml : Option Addr × Nat × Nat × Nat → ML := fun g => [(5, 170, (fun yv W => ∃ (g170 : Nat), yv = .slice (some ⟨g170, 0, none⟩) 0 0 ∧ Mem w ((g170, #[], 9) :: L) R W), some 8), (10, 175, (fun yv W => ∃ (g175 : Nat), yv = .slice (some ⟨g175, 0, none⟩) 1 1 ∧ Blk W g175 #[.string ⟨#[48]⟩] 9), some 11)]
 let Sl_ : Option Addr × Nat × Nat × Nat → List (World → Prop) := fun g => [fun W => Mem w L R W, fun W => Mem w L (⟨9, 1, .slice g.1 ws.length g.2.1, ws.length, ws.map Value.string⟩ :: R) W, fun W => Mem w L (⟨9, 1, .slice (some ⟨g.2.2.1, 0, none⟩) (ws.length + 1) g.2.2.2, ws.length + 1, ws.map Value.string ++ [.string ⟨#[48]⟩]⟩ :: R) W]
 have St : RgS 179 [165, 166, 167, 168, 169, 170, 171, 172, 173, 174, 175, 176, 177, 178, 8] [5, 10] Fl Ml (Mem w L R) Sl_ := ⟨fun _ => by kernel_rfl, fun _ => rfl, fun _ _ hb h => h.call hb, fun g => List.forall_mem_cons.2 ⟨fun yv W W' hb => fun ⟨g, e, h⟩ => ⟨g, e, h.call hb⟩, List.forall_mem_cons.2 ⟨fun yv W W' hb => fun ⟨g, e, h⟩ => ⟨g, e, h.below hb⟩, (fun _ h => by cases h)⟩⟩, fun g => List.forall_mem_cons.2 ⟨fun W W' hb h => h.call hb, List.forall_mem_cons.2 ⟨fun W W' hb h => h.call hb, List.forall_mem_cons.2 ⟨fun W W' hb h => h.call hb, (fun _ h => by cases h)⟩⟩⟩⟩
 refine B4 179 us [165, 166, 167, 168, 169, 170, 171, 172, 173, 174, 175, 176, 177, 178, 8] Fl Ml [8, 11] (Mem w L R) Sl_ hN (by kernel_rfl) (by kernel_rfl) ⟨none, 0, 0, 0⟩ h0.out.drew h0.out.drew (by kernel_rfl) ?_ ?_
 refine Ab (stV St 0 rfl (fun _ => rfl) fun g T E W hl hw hs z K J => by
  have x19 := z.u g19
  go_simp; exact J) ?_
 refine Ab (stV St 1 rfl (fun _ => rfl) fun g T E W hl hw hs z K J => by
  have x165 := z.x 0 hw rfl
  have hC := z.c
  have k0 := x166.out _ hC
  go_simp; exact J) ?_
 refine Ab (stV St 2 rfl (fun _ => rfl) fun g T E W hl hw hs z K J => by
  have x166 := z.x 1 hw rfl
  go_simp; exact J) ?_
 refine Ab (stV St 3 rfl (fun _ => rfl) fun g T E W hl hw hs z K J => by
  have x167 := z.x 2 hw rfl
  go_simp; exact J) ?_
 refine Ab (stG St 4 (wg 3 rfl rfl (by kernel_rfl) (fun _ => rfl)) rfl (fun _ => rfl) fun g T E W hl hw hs z K J => by
  have x10 := z.u g10
  have hC := z.c
  have k0 := x169_0.out _ hC
  have hC := z.c
  have k1 := x169_1.out _ hC
  go_simp; exact J) ?_
 refine Ab (stM St 5 0 (wg 3 rfl rfl (by kernel_rfl) (fun _ => rfl)) (fun _ => rfl) (fun _ => by kernel_rfl) fun g T E W hl hw hs z K J => by
  go_simp; exact J _ _ ((Below.refl _ _).alloc (Aa _) _) ⟨_, rfl, z.ld 5 0 0 hl hw hs rfl (by kernel_rfl) (fun s => Mem.add s _ _)⟩) ?_
 refine Ab (stG St 6 (wg 3 rfl rfl (by kernel_rfl) (fun _ => rfl)) rfl (fun _ => rfl) fun g T E W hl hw hs z K J => by
  have x17 := z.u g17
  go_simp; exact J) ?_
 refine Ab (stG St 7 (wg 3 rfl rfl (by kernel_rfl) (fun _ => rfl)) rfl (fun _ => rfl) fun g T E W hl hw hs z K J => by
  have x171 := z.x 6 hw rfl
  have hC := z.c
  have k0 := x172.out _ hC
  go_simp; exact J) ?_
 refine Ab (stP St 8 0 [1] (wg 3 rfl rfl (by kernel_rfl) (fun _ => rfl)) rfl rfl (by kernel_rfl) (fun _ => by kernel_rfl) fun g T E W hl hw hs z q K J => by
  obtain ⟨_, x170, g170, rfl, hb5⟩ := z.y 0 hl hw hs rfl
  have x172 := z.x 7 hw rfl
  have hM0 : Mem _ _ _ _ := q
  have hC := z.c
  refine Df rfl hb5 (by go_simp) (by go_simp) (hsl.out _ hC) hnl.out ?_
  intro a173' cap173' W2 hM2 hk
  exact J ⟨a173', cap173', g.2.2.1, g.2.2.2⟩ _ _ rfl (by kernel_rfl) (hM2.rtail) hM2 (List.forall_mem_cons.2 ⟨fun r hr => by obtain rfl := Option.some.inj hr; exact ⟨_, rfl, fun v ⟨g, e, h⟩ => ⟨g, e, hk _ _ _ h⟩⟩, (fun _ h => by cases h)⟩)) ?_
 refine Ab (stH St 9 (wg 3 rfl rfl (by kernel_rfl) (fun _ => rfl)) rfl (fun _ => rfl) fun g T E W hl hw hs z K J => by
  have hC := z.c
  go_simp
  refine Calls.mono (C174.out W hC) ?_
  rintro e W2 ⟨rfl, hb⟩
  exact J _ hb) ?_
 refine Ab (stM St 10 1 (wg 3 rfl rfl (by kernel_rfl) (fun _ => rfl)) (fun _ => rfl) (fun _ => by kernel_rfl) fun g T E W hl hw hs z K J => by
  have x174 := z.x 9 hw rfl
  go_simp; exact J _ _ ((Below.refl _ _).alloc (Aa _) _) ⟨_, rfl, Blk.new _ _ _⟩) ?_
 refine Ab (stF St 11 1 (wg 3 rfl rfl (by kernel_rfl) (fun _ => rfl)) rfl rfl (by kernel_rfl) (fun _ => by kernel_rfl) fun g T E W hl hw hs z q K J => by
  have x173 := z.x 8 hw rfl
  obtain ⟨_, x175, g175, rfl, hb10⟩ := z.y 1 hl hw hs rfl
  have hM0 : Mem _ _ _ _ := q
  refine KD rfl hM0 (by go_simp) (by go_simp) (hb10.cell 0) hnl.out ?_
  intro G176' cap176' W2 hM2
  exact J ⟨g.1, g.2.1, G176', cap176'⟩ _ _ rfl (by kernel_rfl) (hM2.rtail) hM2) ?_
 refine Ab (stH St 12 (wg 3 rfl rfl (by kernel_rfl) (fun _ => rfl)) rfl (fun _ => rfl) fun g T E W hl hw hs z K J => by
  have x169 := z.x 4 hw rfl
  have x176 := z.x 11 hw rfl
  have hS := z.ld 12 2 0 hl hw hs rfl (by kernel_rfl) (fun s => (show Mem _ _ _ _ from s))
  go_simp
  refine Calls.mono (C177.out W g.1 g.2.1 g.2.2.1 g.2.2.2 hS) ?_
  rintro e W2 ⟨rfl, hb⟩
  exact J _ hb) ?_
 refine Ab (stV St 13 rfl (fun _ => rfl) fun g T E W hl hw hs z K J => by
  have x168 := z.x 3 hw rfl
  have x177 := z.x 12 hw rfl
  go_simp; exact J) ?_
 refine Ab (stV St 14 rfl (fun _ => rfl) fun g T E W hl hw hs z K J => by
  have x178 := z.x 13 hw rfl
  go_simp; exact J) ?_
 ·exact Am
 ·intro g a W z q
  have hM9 : Mem _ _ _ _ := q
  have x8 := z.v.get 14 rfl (by kernel_rfl)
  rw [z.f.eqs]
  exact hQ.out _ g.1 g.2.1 g.2.2.1 g.2.2.2  _ (by simp [x8]) (A8 hM9)
def mc (row : List Int) (k : Nat) : Int := if k < row.length then pkv (gi row k) 19 - 9 else 0
theorem mc_lt {row : List Int} {k : Nat} (h : k < row.length) : mc row k = pkv (gi row k) 19 - 9 := by unfold mc; rw [if_pos h]
theorem mc_ge {row : List Int} {k : Nat} (h : ¬ k < row.length) : mc row k = 0 := by unfold mc; rw [if_neg h]
theorem JI (row : List Int) (k : Nat) : -9 ≤ mc row k ∧ mc row k ≤ 9 := by
 have h1 := AF (c := gi row k) (m := 19) (by decide)
 have h2 := Cm (c := gi row k) (m := 19) (by decide)
 unfold mc
 split <;> omega
def colRows (rows : List (List Int × Int)) (f : Nat → Int) (i : Nat) : List (List Int × Int) := (List.range rows.length).map fun j => if j < i then wRow (rowOf rows j) (f j) else rowOf rows j
theorem Ex (rows : List (List Int × Int)) (f : Nat → Int) (i : Nat) : (colRows rows f i).length = rows.length := by unfold colRows; simp
theorem Fh {rows : List (List Int × Int)} {f : Nat → Int} {i j : Nat} (hj : j < rows.length) : (colRows rows f i)[j]? = some (if j < i then wRow (rowOf rows j) (f j) else rowOf rows j) := by
 unfold colRows; rw [List.getElem?_map, List.getElem?_range hj]; rfl
theorem LJ (rows : List (List Int × Int)) (f : Nat → Int) : colRows rows f 0 = rows := by
 refine List.ext_getElem? fun j => ?_
 by_cases hj : j < rows.length
 ·rw [Fh hj, DK hj]; rfl
 ·rw [List.getElem?_eq_none (by rw [Ex]; omega), List.getElem?_eq_none (by omega)]
theorem col_all (rows : List (List Int × Int)) (f : Nat → Int) : colRows rows f rows.length = wRows rows f := by
 unfold colRows wRows
 refine List.map_congr_left fun j hj => ?_
 rw [if_pos (List.mem_range.1 hj)]
theorem Ic {rows : List (List Int × Int)} {f : Nat → Int} {i : Nat} : colRows rows f (i + 1) = (colRows rows f i).set i ((rowOf rows i).1 ++ [f i], (rowOf rows i).2) := by
 refine List.ext_getElem? fun j => ?_
 by_cases hj : j < rows.length
 ·by_cases e : i = j
  ·subst e
   rw [List.getElem?_set_self (by rw [Ex]; exact hj), Fh hj, if_pos (by omega)]; rfl
  ·rw [List.getElem?_set_ne e, Fh hj, Fh hj]
   by_cases h2 : j < i
   ·rw [if_pos (by omega), if_pos h2]
   ·rw [if_neg (by omega), if_neg h2]
 ·rw [List.getElem?_eq_none (by rw [Ex]; omega), List.getElem?_eq_none (by rw [List.length_set, Ex]; omega)]
theorem more_l0 {Q : Exit → Act → World → Prop} {u0 u2 u3 u4 u5 u6 u7 u8 u10 u13 u14 u15 u16 u17 u18 u19 u20 u21 u22 u23 u24 u25 u26 u27 u28 u29 u30 u31 u32 u33 u34 u35 u36 u37 u38 u39 u40 u41 u42 u43 u44 u45 u46 u47 u48 u49 u50 u51 u52 u53 u54 u55 u56 u57 u58 u59 u60 u61 u62 u63 u64 u65 u66 u67 u68 u69 u70 u71 u72 u73 u74 u75 u76 u77 u78 u79 u80 u81 u82 u83 u84 u85 u86 u87 u88 u89 u90 u91 u92 u93 u94 u95 u96 u97 u98 u99 u100 u101 u102 u103 u104 u105 u106 u107 u108 u109 u110 u111 u112 u113 u114 u115 u116 u117 u118 u119 u120 u121 u122 u123 u124 u125 u126 u127 u128 u129 u130 u131 u132 u133 u134 u135 u136 u137 u138 u139 u140 u141 u142 u143 u144 u145 u146 u147 u148 u149 u150 u151 u152 u153 u154 u155 u156 u157 u158 u159 u160 u161 u162 u163 u164 u165 u166 u167 u168 u169 u170 u171 u172 u173 u174 u175 u176 u177 u178 : Value} {bS bE c rn rk : Nat} {ra : Option Addr} {row : List Int} {z : Int} {w W0 : World} {L : BLs} {R : List RowD} (hc : Hid (c ≤ 1000)) (hn : Hid (rn = row.length)) (hrow : Hid (Row0 w ra rn row)) (hf : Hid (∀ k, Fits (gi row k))) (hS : Hid (∀ W, Mem w L R W → W.cell? ⟨bS, 0, none⟩ = some (.int .i64 c))) (h0 : Hid (Mem w ((bE, #[.slice none 0 0, .int .i64 z], 60) :: L) R W0)) {body : Code} (hbody : getLoop Tryz.f8.body 0 = some body)
  (hQ : ∀ (vf : Value) (v12 v13 v34 v35 v36 v37 v38 v39 v40 v41 v42 v43 v44 v45 v46 v47 v48 v49 v50 v51 v52 v53 v54 v55 : Value) (W' : World), Hid (Mem w ((bE, #[vf, .int .i64 z], 60) :: L) (⟨3, 1, vf, c, ((List.range c).map fun j => Value.int .i64 (mc row j))⟩ :: R) W') → Q (.exit 0) { tmps := List.toArray (u0::.slice ra rn rk::u2::u3::u4::u5::u6::u7::u8::.pointer (some ⟨bS, 0, none⟩)::u10::.pointer (some ⟨bE, 0, none⟩)::v12::v13::u14::u15::u16::u17::u18::u19::u20::u21::u22::u23::u24::u25::u26::u27::u28::u29::u30::u31::u32::u33::v34::v35::v36::v37::v38::v39::v40::v41::v42::v43::v44::v45::v46::v47::v48::v49::v50::v51::v52::v53::v54::v55::u56::u57::u58::u59::u60::u61::u62::u63::u64::u65::u66::u67::u68::u69::u70::u71::u72::u73::u74::u75::u76::u77::u78::u79::u80::u81::u82::u83::u84::u85::u86::u87::u88::u89::u90::u91::u92::u93::u94::u95::u96::u97::u98::u99::u100::u101::u102::u103::u104::u105::u106::u107::u108::u109::u110::u111::u112::u113::u114::u115::u116::u117::u118::u119::u120::u121::u122::u123::u124::u125::u126::u127::u128::u129::u130::u131::u132::u133::u134::u135::u136::u137::u138::u139::u140::u141::u142::u143::u144::u145::u146::u147::u148::u149::u150::u151::u152::u153::u154::u155::u156::u157::u158::u159::u160::u161::u162::u163::u164::u165::u166::u167::u168::u169::u170::u171::u172::u173::u174::u175::u176::u177::u178::[]), defers := [] } W') :
  (Code.loop body).wp Tryz.prog Q { tmps := List.toArray (u0::.slice ra rn rk::u2::u3::u4::u5::u6::u7::u8::.pointer (some ⟨bS, 0, none⟩)::u10::.pointer (some ⟨bE, 0, none⟩)::.int .i64 0::u13::u14::u15::u16::u17::u18::u19::u20::u21::u22::u23::u24::u25::u26::u27::u28::u29::u30::u31::u32::u33::u34::u35::u36::u37::u38::u39::u40::u41::u42::u43::u44::u45::u46::u47::u48::u49::u50::u51::u52::u53::u54::u55::u56::u57::u58::u59::u60::u61::u62::u63::u64::u65::u66::u67::u68::u69::u70::u71::u72::u73::u74::u75::u76::u77::u78::u79::u80::u81::u82::u83::u84::u85::u86::u87::u88::u89::u90::u91::u92::u93::u94::u95::u96::u97::u98::u99::u100::u101::u102::u103::u104::u105::u106::u107::u108::u109::u110::u111::u112::u113::u114::u115::u116::u117::u118::u119::u120::u121::u122::u123::u124::u125::u126::u127::u128::u129::u130::u131::u132::u133::u134::u135::u136::u137::u138::u139::u140::u141::u142::u143::u144::u145::u146::u147::u148::u149::u150::u151::u152::u153::u154::u155::u156::u157::u158::u159::u160::u161::u162::u163::u164::u165::u166::u167::u168::u169::u170::u171::u172::u173::u174::u175::u176::u177::u178::[]), defers := [] } W0 := by
 obtain rfl := Option.some.inj (hbody.symm.trans (rfl : getLoop Tryz.f8.body 0 = some _))
 clear hbody
 replace hQ := A8 hQ
 go_loopw [12] (fun s wr => ∃ (k : Nat) (v : Value), s = .int .i64 k ∧ k ≤ c ∧ Hid (Mem w ((bE, #[v, .int .i64 z], 60) :: L) (⟨3, 1, v, k, ((List.range k).map fun j => Value.int .i64 (mc row j))⟩ :: R) wr)) (fun s _ => c - (intOf s).toNat)
 case atStart => exact ⟨0, .slice none 0 0, rfl, by omega, A8 (h0.out.row0 3 1)⟩
 case round =>
  clear h0
  obtain ⟨k, v, rfl, hk, hM⟩ := hrel
  have y0 := hS.out _ hM.out.tail.rtail
  by_cases hkc : k < c
  case neg =>
   have hkc' : ¬ (k : Int) < c := by omega
   obtain rfl : k = c := by omega
   go_wp2_with fail
   exact hQ.out v _ _ _ _ _ _ _ _ _ _ _ _ _ _ _ _ _ _ _ _ _ _ _ _ _ hM
  case pos =>
   have hkc' : (k : Int) < c := by omega
   have hc9 := hc.out
   have hk0 : (0 : Int) ≤ k := by omega
   have APP : Hid (∀ w1 : World, Mem w ((bE, #[v, .int .i64 z], 60) :: L) (⟨3, 1, v, k, ((List.range k).map fun j => Value.int .i64 (mc row j))⟩ :: R) w1 → w1.cell? ⟨bE, 0, none⟩ = some v) := A8 (fun w1 h => (h.cell _ _ _ (.head _) 0).trans rfl)
   by_cases hkr : k < rn
   case pos =>
    have hkr' : (k : Int) < rn := by omega
    obtain ⟨rb, ro, rfl, hrb, hcell⟩ := hrow.out.resolve_left (by omega)
    have c0 := hM.out.old hrb (hcell k hkr)
    replace hrow := A8 (⟨hrb, hcell⟩ : _ ∧ _)
    clear hrb hcell
    have PK := A8 (fun W => DU (gi row k) 19 (hf.out k) (by decide) (by decide) W)
    have p1 := AF (c := gi row k) (m := 19) (by decide)
    have p2 := Cm (c := gi row k) (m := 19) (by decide)
    have hxs := A8 (show ((List.range (k + 1)).map fun j => Value.int .i64 (mc row j)) = ((List.range k).map fun j => Value.int .i64 (mc row j)) ++ [.int .i64 (pkv (gi row k) 19 - 9)] by rw [List.range_succ, List.map_append, ← mc_lt (by rw [← hn.out]; exact hkr)]; rfl)
    generalize pkv (gi row k) 19 = p at *
    generalize gi row k = zk at *
    go_wp2_with fail
    refine Calls.mono (PK.out _) ?_
    rintro e w1 ⟨rfl, hb⟩
    have hM1 := A8 (hM.out.call hb)
    have y1 := APP.out _ hM1.out
    clear hb c0 y0 hM PK
    go_wp2_with (at_builtin; refine CZ rfl rfl (hM1.out.new _) rfl rfl ((Blk.new _ _ _).cell 0) (by omega) ?_; intro g2 c2 W8 hM8; have y3 := hM8.cell bE _ _ (.head _) 0; have y4 := hM8.frozen bE _ _ (.head _) 0; replace hM8 := hM8.put0 0 (.slice (some ⟨g2, 0, none⟩) (k + 1) c2))
    go_roundw
    case rel => exact ⟨k + 1, _, by go_num, by omega, A8 (by rw [hxs.out]; assumption)⟩
    case measure => simp [intOf]; omega
   case neg =>
    have hkr' : ¬ (k : Int) < rn := by omega
    have hxs := A8 (show ((List.range (k + 1)).map fun j => Value.int .i64 (mc row j)) = ((List.range k).map fun j => Value.int .i64 (mc row j)) ++ [.int .i64 0] by rw [List.range_succ, List.map_append, ← mc_ge (by rw [← hn.out]; exact hkr)]; rfl)
    have y1 := APP.out _ hM.out
    go_wp2_with (at_builtin; refine CZ rfl rfl (hM.out.new _) rfl rfl ((Blk.new _ _ _).cell 0) (by omega) ?_; intro g2 c2 W8 hM8; have y3 := hM8.cell bE _ _ (.head _) 0; have y4 := hM8.frozen bE _ _ (.head _) 0; replace hM8 := hM8.put0 0 (.slice (some ⟨g2, 0, none⟩) (k + 1) c2))
    go_roundw
    case rel => exact ⟨k + 1, _, by go_num, by omega, A8 (by rw [hxs.out]; assumption)⟩
    case measure => simp [intOf]; omega
theorem more_l2 {Q : Exit → Act → World → Prop} {u0 u1 u2 u4 u5 u6 u7 u8 u9 u10 u11 u12 u13 u16 u17 u18 u19 u20 u21 u22 u23 u24 u25 u26 u27 u28 u29 u30 u31 u32 u33 u34 u35 u36 u37 u38 u39 u40 u41 u42 u43 u44 u45 u46 u47 u48 u49 u50 u51 u52 u53 u54 u55 u56 u57 u58 u59 u60 u61 u62 u63 u64 u65 u66 u67 u68 u69 u70 u71 u72 u73 u74 u75 u76 u77 u78 u79 u80 u81 u82 u83 u84 u85 u86 u87 u88 u89 u90 u91 u92 u93 u94 u95 u96 u97 u98 u99 u100 u101 u102 u103 u104 u105 u106 u107 u108 u109 u110 u111 u112 u113 u114 u115 u116 u117 u118 u119 u120 u121 u122 u123 u124 u125 u126 u127 u128 u129 u130 u131 u132 u133 u134 u135 u136 u137 u138 u139 u140 u141 u142 u143 u144 u145 u146 u147 u148 u149 u150 u151 u152 u153 u154 u155 u156 u157 u158 u159 u160 u161 u162 u163 u164 u165 u166 u167 u168 u169 u170 u171 u172 u173 u174 u175 u176 u177 u178 : Value} {bU B cap m cn ck : Nat} {ca : Option Addr} {col : List Int} {rows : List (List Int × Int)} {c1 : Int} {cs0 : Array Value} {fs0 : BLs} {w W0 : World} {L : BLs} {R : List RowD} (hm : Hid (m = rows.length ∧ m ≤ 1000)) (hn : Hid (cn = col.length)) (hcol : Hid (Row0 w ca cn col)) (hf : Hid (∀ k, Fits (gi col k))) (hl : Hid (∀ r ∈ rows, r.1.length ≤ 1000)) (mU : Hid ((bU, #[.int .i64 c1, .slice (some ⟨B, 0, none⟩) m cap], 27) ∈ L)) (h0 : Hid (Mem w ((B, cs0, 60) :: (fs0 ++ L)) R W0 ∧ SysB B cap cs0 fs0 rows)) {body : Code} (hbody : getLoop Tryz.f8.body 2 = some body)
  (hQ : ∀ (cs : Array Value) (fs : BLs) (v15 v16 v68 v69 v70 v71 v72 v73 v74 v75 v76 v77 v78 v79 v80 v81 v82 v83 v84 v85 v86 v87 v88 v89 v90 v91 v92 v93 v94 v95 v96 v97 v98 : Value) (W' : World), Hid (Mem w ((B, cs, 60) :: (fs ++ L)) R W' ∧ SysB B cap cs fs (wRows rows (mc col))) → Q (.exit 2) { tmps := List.toArray (u0::u1::u2::.slice ca cn ck::u4::u5::u6::u7::u8::u9::u10::u11::u12::u13::.pointer (some ⟨bU, 0, none⟩)::v15::v16::u17::u18::u19::u20::u21::u22::u23::u24::u25::u26::u27::u28::u29::u30::u31::u32::u33::u34::u35::u36::u37::u38::u39::u40::u41::u42::u43::u44::u45::u46::u47::u48::u49::u50::u51::u52::u53::u54::u55::u56::u57::u58::u59::u60::u61::u62::u63::u64::u65::u66::u67::v68::v69::v70::v71::v72::v73::v74::v75::v76::v77::v78::v79::v80::v81::v82::v83::v84::v85::v86::v87::v88::v89::v90::v91::v92::v93::v94::v95::v96::v97::v98::u99::u100::u101::u102::u103::u104::u105::u106::u107::u108::u109::u110::u111::u112::u113::u114::u115::u116::u117::u118::u119::u120::u121::u122::u123::u124::u125::u126::u127::u128::u129::u130::u131::u132::u133::u134::u135::u136::u137::u138::u139::u140::u141::u142::u143::u144::u145::u146::u147::u148::u149::u150::u151::u152::u153::u154::u155::u156::u157::u158::u159::u160::u161::u162::u163::u164::u165::u166::u167::u168::u169::u170::u171::u172::u173::u174::u175::u176::u177::u178::[]), defers := [] } W') :
  (Code.loop body).wp Tryz.prog Q { tmps := List.toArray (u0::u1::u2::.slice ca cn ck::u4::u5::u6::u7::u8::u9::u10::u11::u12::u13::.pointer (some ⟨bU, 0, none⟩)::.int .i64 0::u16::u17::u18::u19::u20::u21::u22::u23::u24::u25::u26::u27::u28::u29::u30::u31::u32::u33::u34::u35::u36::u37::u38::u39::u40::u41::u42::u43::u44::u45::u46::u47::u48::u49::u50::u51::u52::u53::u54::u55::u56::u57::u58::u59::u60::u61::u62::u63::u64::u65::u66::u67::u68::u69::u70::u71::u72::u73::u74::u75::u76::u77::u78::u79::u80::u81::u82::u83::u84::u85::u86::u87::u88::u89::u90::u91::u92::u93::u94::u95::u96::u97::u98::u99::u100::u101::u102::u103::u104::u105::u106::u107::u108::u109::u110::u111::u112::u113::u114::u115::u116::u117::u118::u119::u120::u121::u122::u123::u124::u125::u126::u127::u128::u129::u130::u131::u132::u133::u134::u135::u136::u137::u138::u139::u140::u141::u142::u143::u144::u145::u146::u147::u148::u149::u150::u151::u152::u153::u154::u155::u156::u157::u158::u159::u160::u161::u162::u163::u164::u165::u166::u167::u168::u169::u170::u171::u172::u173::u174::u175::u176::u177::u178::[]), defers := [] } W0 := by
 obtain rfl := Option.some.inj (hbody.symm.trans (rfl : getLoop Tryz.f8.body 2 = some _))
 clear hbody
 replace hQ := A8 hQ
 go_loopw [15] (fun s wr => ∃ (i : Nat) (cs : Array Value) (fs : BLs), s = .int .i64 i ∧ i ≤ m ∧ Hid (Mem w ((B, cs, 60) :: (fs ++ L)) R wr ∧ SysB B cap cs fs (colRows rows (mc col) i))) (fun s _ => m - (intOf s).toNat)
 case atStart => exact ⟨0, cs0, fs0, rfl, by omega, A8 ⟨h0.out.1, by rw [LJ]; exact h0.out.2⟩⟩
 case round =>
  clear h0
  obtain ⟨i, cs, fs, rfl, hi, hM⟩ := hrel
  have z1 := (hM.out.1.cell _ _ _ (.tail _ (List.mem_append_right _ mU.out)) 1).trans (show _ = some (Value.slice (some ⟨B, 0, none⟩) m cap) from rfl)
  by_cases him : i < m
  case neg =>
   have him' : ¬ (i : Int) < m := by omega
   obtain rfl : i = m := by omega
   go_wp2_with fail
   exact hQ.out cs fs _ _ _ _ _ _ _ _ _ _ _ _ _ _ _ _ _ _ _ _ _ _ _ _ _ _ _ _ _ _ _ _ _ _ (A8 ⟨hM.out.1, by have := hM.out.2; rw [hm.out.1, col_all] at this; exact this⟩)
  case pos =>
   have him' : (i : Int) < m := by omega
   have hm9 := hm.out.2
   have hi0 : (0 : Int) ≤ i := by omega
   have hat := A8 (show (colRows rows (mc col) i)[i]? = some (rowOf rows i) by rw [Fh (by rw [← hm.out.1]; exact him), if_neg (by omega)])
   have hrl := A8 (show (rowOf rows i).1.length ≤ 1000000 from by have := hl.out _ (Bp (rows := rows) (i := i) (by rw [← hm.out.1]; exact him)); omega)
   obtain ⟨v, hv, hT⟩ := hM.out.2.thaw hat.out hM.out.1
   replace hv := A8 hv
   replace hT := A8 hT
   by_cases hkr : i < cn
   case pos =>
    have hkr' : (i : Int) < cn := by omega
    obtain ⟨rb, ro, rfl, hrb, hcell⟩ := hcol.out.resolve_left (by omega)
    have c0 := hM.out.1.old hrb (hcell i hkr)
    replace hcol := A8 (⟨hrb, hcell⟩ : _ ∧ _)
    clear hrb hcell
    have PK := A8 (fun W => DU (gi col i) 19 (hf.out i) (by decide) (by decide) W)
    have p1 := AF (c := gi col i) (m := 19) (by decide)
    have p2 := Cm (c := gi col i) (m := 19) (by decide)
    have hmc := A8 (mc_lt (row := col) (k := i) (by rw [← hn.out]; exact hkr)).symm
    generalize pkv (gi col i) 19 = p at *
    generalize gi col i = zk at *
    go_wp2_with fail
    refine Calls.mono (PK.out _) ?_
    rintro e w1 ⟨rfl, hb⟩
    have hT1 := A8 (hT.out.call hb)
    clear hb c0 z1 PK
    go_upto_region 22 with fail
    refine I5 (bU := bU) (B := B) (m := m) (cap := cap) (i := i) (n := (rowOf rows i).1.length) (cs := cs) (v := v) (xs := (rowOf rows i).1.map (Value.int .i64)) (c1 := c1) (y := p - 9) (w := w) (L := fs.eraseIdx i ++ L) (R := R) hrl (by omega) him' hv.out (List.mem_append_right _ mU.out) hT1 rfl rfl rfl rfl (by kernel_rfl) ?_
    intro xx G capG W5 hM5
    simp only [sets, List.foldl_cons, List.foldl_nil, A5, A6]
    replace hM5 := A8 (hM.out.2.grown hat.out (l := (rowOf rows i).1 ++ [p - 9]) (n := (rowOf rows i).1.length + 1) (by simp) (by simp) (by rw [List.map_append]; exact hM5.out))
    rw [hmc.out] at hM5
    clear hM hv hT hT1 hmc
    go_wp2_with fail
    go_roundw
    case rel =>
     obtain ⟨fs', hs', hM6⟩ := hM5.out
     exact ⟨i + 1, _, fs', by go_num, by omega, A8 ⟨hM6, by rw [Ic]; exact hs'⟩⟩
    case measure => simp [intOf]; omega
   case neg =>
    have hkr' : ¬ (i : Int) < cn := by omega
    have hmc := A8 (mc_ge (row := col) (k := i) (by rw [← hn.out]; exact hkr)).symm
    go_upto_region 22 with fail
    refine I5 (bU := bU) (B := B) (m := m) (cap := cap) (i := i) (n := (rowOf rows i).1.length) (cs := cs) (v := v) (xs := (rowOf rows i).1.map (Value.int .i64)) (c1 := c1) (y := 0) (w := w) (L := fs.eraseIdx i ++ L) (R := R) hrl (by omega) him' hv.out (List.mem_append_right _ mU.out) hT rfl rfl rfl rfl (by kernel_rfl) ?_
    intro xx G capG W5 hM5
    simp only [sets, List.foldl_cons, List.foldl_nil, A5, A6]
    replace hM5 := A8 (hM.out.2.grown hat.out (l := (rowOf rows i).1 ++ [0]) (n := (rowOf rows i).1.length + 1) (by simp) (by simp) (by rw [List.map_append]; exact hM5.out))
    rw [hmc.out] at hM5
    clear hM hv hT hmc
    go_wp2_with fail
    go_roundw
    case rel =>
     obtain ⟨fs', hs', hM6⟩ := hM5.out
     exact ⟨i + 1, _, fs', by go_num, by omega, A8 ⟨hM6, by rw [Ic]; exact hs'⟩⟩
    case measure => simp [intOf]; omega
end
end Go.Proofs.YtcmomjnailihpaaGreatDoor
