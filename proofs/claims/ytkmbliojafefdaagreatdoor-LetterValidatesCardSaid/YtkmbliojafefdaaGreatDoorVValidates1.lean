import Derived.Test.YtkmbliojafefdaaGreatDoorRows
import Derived.Stop.Joined
import Derived.KernelRfl
set_option autoImplicit false
set_option linter.unusedSimpArgs false
set_option linter.unusedVariables false
namespace Go.Proofs.YtkmbliojafefdaaGreatDoor.letterValidates
set_option maxHeartbeats 0 in
theorem closed : joinedFacts Tryz.prog 14 Tryz.f14 Rows.letterValidatesSpec Rows.letterValidatesRow = true := by
  unfold joinedFacts
  simp only [Bool.and_eq_true]
  repeat' apply And.intro
  all_goals (as_aux_lemma => kernel_rfl)
end Go.Proofs.YtkmbliojafefdaaGreatDoor.letterValidates
