/- The chapter's examples: what package decay answers for them. -/
import Derived.Test.YtebokdboodgkpaaGreatDoorDecK
import Derived.Test.YtebokdboodgkpaaGreatDoorDecL
import Derived.Test.YtebokdboodgkpaaGreatDoorDecJ
import Derived.Test.YtebokdboodgkpaaGreatDoorDecH
import Derived.Test.YtebokdboodgkpaaGreatDoorDecS
namespace Go.Proofs.YtebokdboodgkpaaGreatDoor
open Go.RowKit
open DecM (Dt fcst rts rch okD Ln)
/-- The example's data. -/
def ex1 : List Dt := [⟨0, 0, 2⟩, ⟨10, 4, 6⟩, ⟨20, 9, 10⟩]
/-- The example's data with one changed. -/
def ex2 : List Dt := [⟨0, 0, 2⟩, ⟨10, 7, 8⟩, ⟨20, 9, 10⟩]
theorem ex_f40 : fcst ex1 40 = some (16, 20) := by kernel_rfl
theorem ex_f10 : fcst ex1 10 = some (9 / 2, 6) := by kernel_rfl
theorem ex_rts : rts ex1 = some (7 / 20, 1 / 2) := by kernel_rfl
theorem ex_ref : refO ex1 = none := by kernel_rfl
theorem ex_ref2 : refO ex2 = some (0, 1, 2) := by kernel_rfl
theorem ex_line : lnO ex1 40 true = some (0, 1 / 2) := by kernel_rfl
theorem ex_val : valO (some 0) (some (1 / 2)) 40 = some 20 := by kernel_rfl
theorem ex_r18 : rch ex1 18 40 = some 0 := by kernel_rfl
theorem ex_r21 : rch ex1 21 40 = some (-1) := by kernel_rfl
theorem ex_r16 : rch ex1 16 40 = some 1 := by kernel_rfl
theorem ex_f2 : fcst ex2 40 = none := by kernel_rfl
theorem ex_ok : okD ex1 = true := by kernel_rfl
theorem ex_bad : okD [⟨-1, 0, 0⟩] = false := by kernel_rfl
theorem ex_fit : fitO ex1 (some 0) (some (1 / 2)) = true := by kernel_rfl
theorem ex_fit2 : fitO ex1 (some 0) (some (2 / 3)) = false := by kernel_rfl
theorem of_16 : oOf 16 1 = some 16 := by kernel_rfl
theorem of_20 : oOf 20 1 = some 20 := by kernel_rfl
theorem of_92 : oOf 9 2 = some (9 / 2) := by kernel_rfl
theorem of_6 : oOf 6 1 = some 6 := by kernel_rfl
theorem of_720 : oOf 7 20 = some (7 / 20) := by kernel_rfl
theorem of_12 : oOf 1 2 = some (1 / 2) := by kernel_rfl
theorem of_0 : oOf 0 1 = some 0 := by kernel_rfl
theorem of_23 : oOf 2 3 = some (2 / 3) := by kernel_rfl
end Go.Proofs.YtebokdboodgkpaaGreatDoor
