import Derived.Test.YtkmbliojafefdaaGreatDoorWFaithful0
import Derived.Test.YtkmbliojafefdaaGreatDoorVFaithful3
import Derived.Test.YtkmbliojafefdaaGreatDoorTie
import Derived.SevenTiedAt
set_option autoImplicit false
set_option linter.unusedSimpArgs false
set_option linter.unusedVariables false
namespace Go.Proofs.YtkmbliojafefdaaGreatDoor.letterFaithful
open Go.Sx
theorem proved : Rows.LetterFaithfulCardSaid :=
  Claim7.holds_tied_plain_at .later [] [.data, .pinned] true (true, "d8be659bf8d5b02a094a7902d1429b48723caac21f6c6de879e48704ff2af7b1") false over (fun _ h => by cases h) wft (fun _ h => by cases h) letterFaithful_row_tie rfl ⟨rfl, rfl⟩ main_is rfl
    (fun f fn hf hfn => by
      obtain rfl : f = 7 := Option.some.inj (named.symm.trans hf) |>.symm
      obtain rfl : fn = Tryz.f7 := (Option.some.inj (Tryz.func7.symm.trans hfn)).symm
      exact ⟨looks_no, fun j t ht => by
        rw [Tryz.params7] at ht
        have hm : t ∈ [38, 22, 40, 3] := by simpa using Array.mem_of_getElem? ht
        exact (show Tryz.prog.wantsStandIn t = false by simpa using List.all_eq_true.1 stand_no t hm)⟩)
    goes_by
#print axioms proved
end Go.Proofs.YtkmbliojafefdaaGreatDoor.letterFaithful
