import Derived.Test.YtkmbliojafefdaaGreatDoorRows
import Derived.Test.YtkmbliojafefdaaGreatDoorCards
import Derived.KernelRfl
set_option autoImplicit false
set_option linter.unusedSimpArgs false
set_option linter.unusedVariables false
namespace Go.Proofs.YtkmbliojafefdaaGreatDoor.letterValidates
theorem wft : Rows.letterValidatesRow.wfByText (OpenSpec.ofChange Rows.letterValidatesSpec) = true := by kernel_rfl
theorem main_is : Tryz.prog.mainIs = some (true, ("d8be659bf8d5b02a094a7902d1429b48723caac21f6c6de879e48704ff2af7b1" : String).toList) := by kernel_rfl
theorem looks_no : false = Tryz.prog.looks [] := by kernel_rfl
theorem goes_by : false = Rows.letterValidatesRow.goesBy Tryz.prog := by kernel_rfl
theorem stand_no : ([38, 22, 40, 3].all fun u => !Tryz.prog.wantsStandIn u) = true := by kernel_rfl
end Go.Proofs.YtkmbliojafefdaaGreatDoor.letterValidates
