/- Facts of the whole program that each row asks for. -/
import Derived.Test.YtfemjlhfgmbcmaaRows
import Derived.Test.YtfemjlhfgmbcmaaHg
namespace Go.Proofs.Ytfemjlhfgmbcmaa
theorem and_mk {a b : Bool} (h1 : a = true) (h2 : b = true) : (a && b) = true := by rw [h1, h2]; rfl
set_option maxRecDepth 100000 in
theorem p_mayEnter : Try.pinned.checked.prog.mayEnter = true := by kernel_rfl
set_option maxRecDepth 100000 in
theorem p_lifted : (Rows.runBlocksUptoRow.lifted == Try.pinned.checked.prog.liftsFinal) = true := by kernel_rfl
set_option maxRecDepth 100000 in
theorem p_make : (Try.pinned.checked.prog.make == some Rows.runBlocksUptoRow.make) = true := by kernel_rfl
end Go.Proofs.Ytfemjlhfgmbcmaa
