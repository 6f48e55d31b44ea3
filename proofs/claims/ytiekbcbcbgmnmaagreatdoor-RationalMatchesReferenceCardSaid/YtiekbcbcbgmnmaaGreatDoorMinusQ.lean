/- putloglaw04.minus. -/
import Derived.Test.YtiekbcbcbgmnmaaGreatDoorSaneQ
namespace Go.Proofs.YtiekbcbcbgmnmaaGreatDoor
open Go.RowKit
attribute [local go_sem] Oper.semAt_some

theorem zero_texts : (⟨#[48]⟩ : ByteArray) = tN (some (Rat.divInt 0 1)) ∧ (⟨#[49]⟩ : ByteArray) = tD (some (Rat.divInt 0 1)) := by decide +kernel
end Go.Proofs.YtiekbcbcbgmnmaaGreatDoor
