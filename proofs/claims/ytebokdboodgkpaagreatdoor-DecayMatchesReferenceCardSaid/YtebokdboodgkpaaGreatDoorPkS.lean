/- PkS: NmOpen DtOpen -/
import Derived.Test.YtebokdboodgkpaaGreatDoorDecT
import Derived.Test.YtebokdboodgkpaaGreatDoorStay
import Derived.Lib.SmallJoins
import Derived.Laws.IdiomArrays
import Derived.Test.YtebokdboodgkpaaGreatDoorRfF
import Derived.Deep.Strs
/- Numbers of putlogref26 among a row's parameters, opened. -/
namespace Go.Proofs.YtebokdboodgkpaaGreatDoor
open Go.RowKit Go.ChangeShapes Go.WideShapes Go.Deep
open DecM (Dt gd gd_lt gd_mem)

instance : Inhabited Dt := ⟨⟨0, 0, 0⟩⟩
theorem shape_lt {w : World} {b : Nat} {x : TypeId × Nat} (h : w.shape? b = some x) : b < w.heap.size := by
  unfold World.shape? at h
  by_cases hb : b < w.heap.size
  · exact hb
  · rw [Array.getElem?_eq_none (by omega)] at h; simp at h
theorem row_nums : Tryz.prog.cellTypes Tryz.prog.depth 24 = some [3, 3, 22, 3] := by kernel_rfl
theorem fits_wf {n : Int} (h : (Lit.int .i64 n).wf = true) : Fits n := by simpa [Fits, Lit.wf, IntKind.min, IntKind.max, IntKind.signed, IntKind.bits] using h
section
variable {H : Type} {enc : TypeId × Value → H} {W : World} {sp : Nat → Bool} {held : Bool}
set_option maxRecDepth 100000 in
/-- A slice of triples of integers, as the numbers hold it. -/
theorem open_triples {b0 fuel : Nat} {v : Value} {y : DataW H × List MemPlace} (hk : Cell.okWide Tryz.prog W .any b0 22 v) (h : DataW.trod enc Tryz.prog W 0 sp held fuel 22 [v] = some y) :
    ∃ ds : List Dt, SlD W v ds ∧ ∀ d ∈ ds, Fits d.t ∧ Fits d.lo ∧ Fits d.hi := by
  have hu : Tryz.prog.underlying 22 = some (.slice 60) := by kernel_rfl
  have he : Tryz.prog.underlying 60 = some (.array 3 3) := by kernel_rfl
  have hi : Tryz.prog.underlying 3 = some (.int .i64) := by kernel_rfl
  have hc3 : Tryz.prog.cellsOf 60 = 3 := by kernel_rfl
  have hc1 : Tryz.prog.cellsOf 3 = 1 := by kernel_rfl
  rcases open_slice hu h with ⟨hcs, _⟩ | ⟨a, len, cap, m, n, D, Pl, hcs, _, hl, hm, hmm, _, hx⟩
  · obtain rfl : v = .slice none 0 0 := by simpa using hcs
    exact ⟨[], SlD.nil W, fun d hd => by cases hd⟩
  · obtain rfl : v = .slice (some a) len cap := by simpa using hcs
    have hk2 : W.has Tryz.prog .any b0 a 60 cap := by
      simp only [Cell.okWide, hu, Cell.ok] at hk
      exact hk.2.2
    obtain ⟨_, hsp, row, cells, hsh, _⟩ := hk2
    have hlt := shape_lt hsh
    obtain ⟨b, off, spot⟩ := a
    obtain rfl : spot = none := hsp
    have hlm : len ≤ m := by rw [hmm]; split <;> omega
    have each : ∀ i, i < len → ∃ d : Dt, DCell W b (off + i * 3) d ∧ Fits d.t ∧ Fits d.lo ∧ Fits d.hi := by
      intro i hi'
      obtain ⟨cs', h1, h2⟩ := hx i (by omega)
      rw [hc3] at h1
      obtain ⟨_, hlen, hcell⟩ := World.cells?_some h1
      match cs', hlen with
      | [c0, c1, c2], _ =>
        obtain ⟨y0, y1, y2, k, _, g0, g1, g2⟩ := trod_array3 he hc1 h2
        obtain ⟨z0, e0, _, f0⟩ := DataW.trod_int hi g0
        obtain ⟨z1, e1, _, f1⟩ := DataW.trod_int hi g1
        obtain ⟨z2, e2, _, f2⟩ := DataW.trod_int hi g2
        have q0 := hcell 0 (by decide)
        have q1 := hcell 1 (by decide)
        have q2 := hcell 2 (by decide)
        rw [add_add] at q0 q1 q2
        rw [add_plain] at q0 q1 q2
        simp at e0 e1 e2
        subst e0; subst e1; subst e2
        exact ⟨⟨z0, z1, z2⟩, ⟨q0, q1, q2⟩, fits_wf f0, fits_wf f1, fits_wf f2⟩
    obtain ⟨q, hq⟩ := choose_lt (α := Dt) (h := each)
    refine ⟨(List.range len).map q, .inr ⟨b, off, cap, by simp, by simpa using hl, hm, hlt, fun j hj => ?_⟩, fun d hd => ?_⟩
    · have hj' : j < len := by simpa using hj
      have e : gd ((List.range len).map q) j = q j := by rw [gd_lt hj]; simp
      rw [e]; exact (hq j hj').1
    · obtain ⟨i, hi', rfl⟩ := List.mem_map.1 hd
      exact (hq i (List.mem_range.1 hi')).2
set_option maxRecDepth 100000 in
/-- Numbers, opened. -/
theorem open_nm {b0 : Nat} {v : Value} {d : DataW H} {p : List MemPlace} (hv : Value.okWide Tryz.prog W .any b0 24 v) (h : DataW.Trod enc Tryz.prog W 0 sp held 24 v d p) :
    ∃ x : Nm, v = .agg #[.int .i64 x.f, .int .i64 x.s, x.v, .int .i64 x.m] ∧ NmOk W x := by
  have hi : Tryz.prog.underlying 3 = some (.int .i64) := by kernel_rfl
  have hv1 := hv
  obtain ⟨v0, v1, v2, v3, y0, y1, y2, y3, n, rfl, _, _, h0, h1, h2, h3⟩ := Go.Joins.open_agg4 Tryz.underlying24 (by kernel_rfl) (by kernel_rfl) hv h
  simp only [Value.okWide, Tryz.underlying24] at hv1
  obtain ⟨cs, hcs, _, ts, hts, _, hrow⟩ := hv1
  cases hcs
  rw [row_nums] at hts
  cases hts
  obtain ⟨u, hu, hk⟩ := hrow 2 v2 rfl
  cases hu
  obtain ⟨z0, e0, _, f0⟩ := DataW.trod_int hi h0
  obtain ⟨z1, e1, _, f1⟩ := DataW.trod_int hi h1
  obtain ⟨z3, e3, _, f3⟩ := DataW.trod_int hi h3
  obtain ⟨ds, hs, hd⟩ := open_triples hk h2
  simp at e0 e1 e3
  subst e0; subst e1; subst e3
  exact ⟨⟨z0, z1, v2, ds, z3⟩, rfl, fits_wf f0, fits_wf f1, fits_wf f3, hs, hd⟩
end
end Go.Proofs.YtebokdboodgkpaaGreatDoor

/- A slice of data among a row's parameters, opened. -/
namespace Go.Proofs.YtebokdboodgkpaaGreatDoor
open Go.RowKit Go.ChangeShapes Go.WideShapes Go.Deep
open DecM (Dt gd gd_lt gd_mem)
section
variable {H : Type} {enc : TypeId × Value → H} {W : World} {sp : Nat → Bool} {held : Bool}
set_option maxRecDepth 100000 in
theorem open_dts {b0 : Nat} {v : Value} {d : DataW H} {p : List MemPlace} (hv : Value.okWide Tryz.prog W .any b0 25 v) (h : DataW.Trod enc Tryz.prog W 0 sp held 25 v d p) :
    ∃ ds : List Dt, SlD W v ds ∧ ∀ d ∈ ds, Fit3 d := by
  have hu : Tryz.prog.underlying 25 = some (.slice 58) := by kernel_rfl
  have hi : Tryz.prog.underlying 3 = some (.int .i64) := by kernel_rfl
  have hc3 : Tryz.prog.cellsOf 58 = 3 := by kernel_rfl
  have hc1 : Tryz.prog.cellsOf 3 = 1 := by kernel_rfl
  have hs : ∃ a len cap, v = .slice a len cap := okWide_slice hu hv
  obtain ⟨fuel, hf⟩ := h
  obtain ⟨a0, len0, cap0, rfl⟩ := hs
  have hk : Cell.okWide Tryz.prog W .any b0 25 (.slice a0 len0 cap0) := by
    simpa [Value.okWide, hu] using hv
  rcases open_slice hu hf with ⟨hcs, _⟩ | ⟨a, len, cap, m, n, D, Pl, hcs, _, hl, hm, hmm, _, hx⟩
  · simp [Value.cells] at hcs
    obtain ⟨rfl, rfl, rfl⟩ := hcs
    exact ⟨[], SlD.nil W, fun d hd => by cases hd⟩
  · simp [Value.cells] at hcs
    obtain ⟨rfl, rfl, rfl⟩ := hcs
    have hk2 : W.has Tryz.prog .any b0 a 58 cap0 := by
      simp only [Cell.okWide, hu, Cell.ok] at hk
      exact hk.2.2
    obtain ⟨_, hsp, row, cells, hsh, _⟩ := hk2
    have hlt := shape_lt hsh
    obtain ⟨b, off, spot⟩ := a
    obtain rfl : spot = none := hsp
    have hlm : len0 ≤ m := by rw [hmm]; split <;> omega
    have each : ∀ i, i < len0 → ∃ d : Dt, DCell W b (off + i * 3) d ∧ Fit3 d := by
      intro i hi'
      obtain ⟨cs', h1, h2⟩ := hx i (by omega)
      rw [hc3] at h1
      obtain ⟨_, hlen, hcell⟩ := World.cells?_some h1
      match cs', hlen with
      | [c0, c1, c2], _ =>
        obtain ⟨y0, y1, y2, k, _, _, g0, g1, g2⟩ := trod_struct3 Tryz.underlying58 h2
        simp [hc1] at g0 g1 g2
        obtain ⟨z0, e0, _, f0⟩ := DataW.trod_int hi g0
        obtain ⟨z1, e1, _, f1⟩ := DataW.trod_int hi g1
        obtain ⟨z2, e2, _, f2⟩ := DataW.trod_int hi g2
        have q0 := hcell 0 (by decide)
        have q1 := hcell 1 (by decide)
        have q2 := hcell 2 (by decide)
        rw [add_add] at q0 q1 q2
        rw [add_plain] at q0 q1 q2
        simp at e0 e1 e2
        subst e0; subst e1; subst e2
        exact ⟨⟨z0, z1, z2⟩, ⟨q0, q1, q2⟩, fits_wf f0, fits_wf f1, fits_wf f2⟩
    obtain ⟨q, hq⟩ := choose_lt (α := Dt) (h := each)
    refine ⟨(List.range len0).map q, .inr ⟨b, off, cap0, by simp, by simpa using hl, hm, hlt, fun j hj => ?_⟩, fun d hd => ?_⟩
    · have hj' : j < len0 := by simpa using hj
      have e : gd ((List.range len0).map q) j = q j := by rw [gd_lt hj]; simp
      rw [e]; exact (hq j hj').1
    · obtain ⟨i, hi', rfl⟩ := List.mem_map.1 hd
      exact (hq i (List.mem_range.1 hi')).2
end
end Go.Proofs.YtebokdboodgkpaaGreatDoor
