/- From what a row lists of the library's variables to what the walks need. -/
import Derived.Test.YtbnilfjhalildaaGreatDoorInts
import Derived.Test.YtbnilfjhalildaaGreatDoorRows
import Derived.Lib.LaidTab
import Derived.Lib.LaidU8
import Derived.Stop.LaidErr
import Derived.OpenShut
namespace Go.Proofs.YtbnilfjhalildaaGreatDoor
open Go.RowKit Go.Lib

theorem gPow : Tryz.prog.globalNamed "internal/strconv.uint64pow10" = some 2 := by kernel_rfl
theorem gSyn : Tryz.prog.globalNamed "strconv.ErrSyntax" = some 0 := by kernel_rfl
theorem gRng : Tryz.prog.globalNamed "strconv.ErrRange" = some 1 := by kernel_rfl
theorem tSyn : (Tryz.prog.globals[0]?).map (·.type) = some 69 := by kernel_rfl
theorem tRng : (Tryz.prog.globals[1]?).map (·.type) = some 69 := by kernel_rfl
theorem star_err : "*" ++ "errors.errorString" = "*errors.errorString" := by decide
theorem row_err (u : TypeId) (h : Tryz.prog.typeName? 3 u = some "*errors.errorString") : u = 135 :=
  typeName_ptr_named (nm := "errors.errorString") (by rw [star_err]; kernel_rfl) (by kernel_rfl) (by decide) u (by rw [star_err]; exact h)
theorem cells_err : Tryz.prog.cellsOf 137 = 1 := by kernel_rfl
theorem cells_str : Tryz.prog.cellsOf 9 = 1 := by kernel_rfl

/-- A table of integers out of a listed variable, wherever it stands on the list. -/
theorem tabIs_of_reads {P : Program} {W : World} {name : String} {k : IntKind} {zs : List Int} {g : Nat} {t e : TypeId} {n : Nat}
    (hg : P.globalNamed name = some g) (hty : (P.globals[g]?).map (·.type) = some t) (ht : P.underlying t = some (.array n e)) (he : P.underlying e = some (.int k)) (hce : P.cellsOf e = 1) (hct : P.cellsOf t = n)
    (h : VarReads P W name (tabData k zs)) : TabIs P W name k zs := by
  obtain ⟨g', t', cs, fuel, p, hg', ht', hvar, hd⟩ := h
  obtain rfl := Option.some.inj (hg.symm.trans hg')
  obtain rfl := Option.some.inj (hty.symm.trans ht')
  unfold TabIs
  rw [hvar, ← cells_of_tab ht he hce hct hd]

theorem tPow : (Tryz.prog.globals[2]?).map (·.type) = some 139 := by kernel_rfl
theorem cPow : Tryz.prog.cellsOf 139 = 20 := by kernel_rfl
theorem envT_of_laid {W : World} (hL : laidMet Tryz.prog Rows.integerRingRow.laid W) : EnvT W := by
  refine ⟨⟨tabIs_of_reads gPow tPow Tryz.underlying139 Tryz.underlying112 (by kernel_rfl) cPow (laidMet.reads hL (.tail _ (.tail _ (.head _))))⟩, ?_, ?_⟩
  · obtain ⟨a, s, hv, _⟩ := laid_sentinel hL.tail.tail.tail.tail.tail gSyn tSyn Tryz.underlying69 row_err Tryz.underlying135 Tryz.underlying137 rfl rfl Tryz.underlying9 cells_err cells_str
    exact ⟨_, _, hv⟩
  · obtain ⟨a, s, hv, _⟩ := laid_sentinel hL.tail.tail.tail.tail gRng tRng Tryz.underlying69 row_err Tryz.underlying135 Tryz.underlying137 rfl rfl Tryz.underlying9 cells_err cells_str
    exact ⟨_, _, hv⟩
end Go.Proofs.YtbnilfjhalildaaGreatDoor
