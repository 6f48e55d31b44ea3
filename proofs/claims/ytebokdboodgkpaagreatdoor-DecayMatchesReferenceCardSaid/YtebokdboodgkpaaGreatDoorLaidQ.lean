/- From what a row lists of the library's variables, and the world's shape, to what the walks need. -/
import Derived.Test.YtebokdboodgkpaaGreatDoorPkI
import Derived.Lib.LaidTab
import Derived.Lib.LaidU8
import Derived.OpenShut
import Derived.Lib.SmallJoins
namespace Go.Proofs.YtebokdboodgkpaaGreatDoor
open Go.RowKit Go.Lib

theorem gPow : Tryz.prog.globalNamed "internal/strconv.uint64pow10" = some 0 := by kernel_rfl
/-- A table of integers out of a listed variable, wherever it stands on the list. -/
theorem tabIs_of_reads {P : Program} {W : World} {name : String} {k : IntKind} {zs : List Int} {g : Nat} {t e : TypeId} {n : Nat}
    (hg : P.globalNamed name = some g) (hty : (P.globals[g]?).map (·.type) = some t) (ht : P.underlying t = some (.array n e)) (he : P.underlying e = some (.int k)) (hce : P.cellsOf e = 1) (hct : P.cellsOf t = n)
    (h : VarReads P W name (tabData k zs)) : TabIs P W name k zs := by
  obtain ⟨g', t', cs, fuel, p, hg', ht', hvar, hd⟩ := h
  obtain rfl := Option.some.inj (hg.symm.trans hg')
  obtain rfl := Option.some.inj (hty.symm.trans ht')
  unfold TabIs
  rw [hvar, ← cells_of_tab ht he hce hct hd]
theorem tPow : (Tryz.prog.globals[0]?).map (·.type) = some 183 := by kernel_rfl
theorem cPow : Tryz.prog.cellsOf 183 = 20 := by kernel_rfl
theorem env_of_reads {W : World} (h : VarReads Tryz.prog W "internal/strconv.uint64pow10" (tabData .u64 pow10Tab)) : Env W :=
  ⟨tabIs_of_reads gPow tPow Tryz.underlying183 Tryz.underlying166 (by kernel_rfl) cPow h⟩
theorem envQ_of {W : World} (h : VarReads Tryz.prog W "internal/strconv.uint64pow10" (tabData .u64 pow10Tab)) (hs : W.ShapedOpen Tryz.prog) : EnvQ W := ⟨env_of_reads h, max_of_shape hs⟩
end Go.Proofs.YtebokdboodgkpaaGreatDoor
