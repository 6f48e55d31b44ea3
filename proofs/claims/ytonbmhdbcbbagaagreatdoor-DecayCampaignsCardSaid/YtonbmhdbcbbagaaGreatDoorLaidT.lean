/- What ToInt needs, from what a row lists of the library's variables. -/
import Derived.Test.YtonbmhdbcbbagaaGreatDoorLaidQ
import Derived.Test.YtonbmhdbcbbagaaGreatDoorToInt
import Derived.Stop.LaidErr
namespace Go.Proofs.YtonbmhdbcbbagaaGreatDoor
open Go.RowKit Go.Lib

theorem gSyn : Tryz.prog.globalNamed "strconv.ErrSyntax" = some 0 := by kernel_rfl
theorem gRng : Tryz.prog.globalNamed "strconv.ErrRange" = some 1 := by kernel_rfl
theorem tSyn : (Tryz.prog.globals[0]?).map (·.type) = some 136 := by kernel_rfl
theorem tRng : (Tryz.prog.globals[1]?).map (·.type) = some 136 := by kernel_rfl
theorem star_err : "*" ++ "errors.errorString" = "*errors.errorString" := by decide
theorem row_err (u : TypeId) (h : Tryz.prog.typeName? 3 u = some "*errors.errorString") : u = 266 :=
  typeName_ptr_named (nm := "errors.errorString") (by rw [star_err]; kernel_rfl) (by kernel_rfl) (by decide) u (by rw [star_err]; exact h)
theorem cells_err : Tryz.prog.cellsOf 268 = 1 := by kernel_rfl
theorem cells_str : Tryz.prog.cellsOf 9 = 1 := by kernel_rfl
theorem envT_of_two {W : World} {t1 t2 : List UInt8} {r1 r2 : List (String × DataW Unit)} (hE : Env W) (h1 : laidMet Tryz.prog (("strconv.ErrSyntax", .iface "*errors.errorString" (.ptr (.agg [.lit (.string t1)]))) :: r1) W)
    (h2 : laidMet Tryz.prog (("strconv.ErrRange", .iface "*errors.errorString" (.ptr (.agg [.lit (.string t2)]))) :: r2) W) : EnvT W := by
  refine ⟨hE, ?_, ?_⟩
  · obtain ⟨a, s, hv, _⟩ := laid_sentinel h1 gSyn tSyn Tryz.underlying136 row_err Tryz.underlying266 Tryz.underlying268 rfl rfl Tryz.underlying9 cells_err cells_str
    exact ⟨_, _, hv⟩
  · obtain ⟨a, s, hv, _⟩ := laid_sentinel h2 gRng tRng Tryz.underlying136 row_err Tryz.underlying266 Tryz.underlying268 rfl rfl Tryz.underlying9 cells_err cells_str
    exact ⟨_, _, hv⟩
end Go.Proofs.YtonbmhdbcbbagaaGreatDoor
