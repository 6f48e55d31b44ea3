/- Arguments that a call leaves alone read as they did; arrays of integers among the parameters. -/
import Derived.Test.YtebokdboodgkpaaGreatDoorPkA
import Derived.OpenShut
import Derived.ChangeStays
import Derived.ChangeBook
import Derived.ChangeOld
import Derived.ChangeShapes
namespace Go.Proofs.YtebokdboodgkpaaGreatDoor
open Go.RowKit Go.ChangeShapes

section
variable {H : Type} {enc : TypeId × Value → H} {P : Program}
theorem same_below {W W' : World} (hb : Below W.heap.size W W') {p : MemPlace} (h : p.block < W.heap.size) : W.sameAt W' p := by
  cases p with
  | cell b off => exact hb.cell (p := ⟨b, off, none⟩) h
  | map b => exact hb.block b h
theorem trod_stay (hl : laidOutB P = true) {t : TypeId} (hr : P.readableRec t = true) (hrow : t < P.types.size) (hsz : ∀ u e, InBook P t u → P.underlying u = some (.slice e) → 0 < P.cellsOf e)
    {W W' : World} (hb : Below W.heap.size W W') {v : Value} {d : DataW H} {ps : List MemPlace} (hlt : ∀ p ∈ ps, p.block < W.heap.size) (h : DataW.Trod enc P W 0 (fun _ => true) true t v d ps) :
    DataW.Trod enc P W' 0 (fun b => decide (b < W.heap.size)) true t v d ps := by
  obtain ⟨n, hn⟩ := h
  refine ⟨n, DataW.trod_stays (kids_book hl hr) (fun {u e} hT hu => hsz u e hT hu) (fun e => by cases e) ⟨hrow, book_self t⟩ hn (fun p hp => same_below hb (hlt p hp)) (fun p hp => by simpa using hlt p hp)⟩
/-- All the types of a list can be read (a closed fact). -/
def rowsB (P : Program) (ts : List TypeId) : Bool := ts.all fun t => P.readableRec t && decide (t < P.types.size) && (P.book t).all fun u => match P.underlying u with
  | some (.slice e) => decide (0 < P.cellsOf e)
  | _ => true
theorem args_stay (hl : laidOutB P = true) {W W' : World} (hb : Below W.heap.size W W') : ∀ {ts : List TypeId} {vs : List Value} {ds : List (DataW H)} {ps : List MemPlace}, rowsB P ts = true →
    DataW.TrodAll enc P W 0 (fun _ => true) true ts vs ds ps → DataW.TrodAll enc P W' 0 (fun b => decide (b < W.heap.size)) true ts vs ds ps
  | [], [], [], _, _, h => h
  | t :: ts, v :: vs, d :: ds, ps, hr, h => by
    have hlt := h.lt
    obtain ⟨p, q, h1, h2, e⟩ := h
    unfold rowsB at hr
    rw [List.all_cons, Bool.and_eq_true] at hr
    obtain ⟨hr1, hr2⟩ := hr
    simp only [Bool.and_eq_true, decide_eq_true_eq, List.all_eq_true] at hr1
    obtain ⟨⟨r1, r2⟩, r3⟩ := hr1
    refine ⟨p, q, trod_stay hl r1 r2 (fun u e hT hu => ?_) hb (fun x hx => hlt x (by rw [e]; exact List.mem_append_left _ hx)) h1, args_stay hl hb hr2 h2, e⟩
    have := r3 u hT.2
    rw [hu] at this
    simpa using this
theorem open_ints_arr {W : World} {base : Nat} {sp : Nat → Bool} {held : Bool} {r : Reach} {b0 : Nat} {t e : TypeId} {n : Nat} {k : IntKind} {v : Value} {d : DataW H} {ps : List MemPlace} (hu : P.underlying t = some (.array n e)) (he : P.underlying e = some (.int k)) (hce : P.cellsOf e = 1) (hct : P.cellsOf t = n)
    (hv : Value.okWide P W r b0 t v) (hd : DataW.Trod enc P W base sp held t v d ps) : ∃ zs : List Int, zs.length = n ∧ v = .agg (zs.map (Value.int k)).toArray ∧ ∀ z ∈ zs, (Lit.int k z).wf = true := by
  simp only [Value.okWide, hu] at hv
  obtain ⟨cs, rfl, _, _⟩ := hv
  obtain ⟨fuel, hf⟩ := hd
  obtain ⟨xs, m, _, _, hlen, hxs, hget⟩ := DataW.trod_array hu hf
  have hcs : (Value.agg cs).cells.toList = cs.toList := rfl
  rw [hcs] at hlen hget
  rw [hce] at hget
  have key : ∀ i, i < n → ∃ z, cs.toList[i]? = some (.int k z) ∧ (Lit.int k z).wf = true := by
    intro i hi
    have h1 := hget i hi
    rw [List.getElem?_eq_getElem (by omega)] at h1
    obtain ⟨z, h2, _, h3⟩ := DataW.trod_int he h1
    refine ⟨z, ?_, h3⟩
    rw [Nat.mul_one] at h2
    have := congrArg (fun l => l[0]?) h2
    simpa using this
  have hl : cs.toList.length = n := by rw [hlen, hct]
  refine ⟨cs.toList.map intOf, by rw [List.length_map, hl], ?_, fun z hz => ?_⟩
  · congr 1
    apply Array.ext'
    show cs.toList = (cs.toList.map intOf).map (Value.int k)
    rw [List.map_map]
    refine List.ext_getElem? fun i => ?_
    rw [List.getElem?_map]
    rcases Nat.lt_or_ge i n with hi | hi
    · obtain ⟨z, h1, _⟩ := key i hi
      rw [h1]; rfl
    · rw [List.getElem?_eq_none (by omega)]; rfl
  · obtain ⟨v, hv, rfl⟩ := List.mem_map.1 hz
    obtain ⟨i, hi, rfl⟩ := List.getElem_of_mem hv
    obtain ⟨z, h1, h2⟩ := key i (by omega)
    rw [List.getElem?_eq_getElem hi] at h1
    rw [Option.some.inj h1]; exact h2
theorem list4 {l : List Int} (h : l.length = 4) : ∃ a b c d, l = [a, b, c, d] := by
  match l, h with
  | [a, b, c, d], _ => exact ⟨a, b, c, d, rfl⟩
theorem list2 {l : List Int} (h : l.length = 2) : ∃ a b, l = [a, b] := by
  match l, h with
  | [a, b], _ => exact ⟨a, b, rfl⟩
end
end Go.Proofs.YtebokdboodgkpaaGreatDoor
