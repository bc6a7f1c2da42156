import Derived.Test.YtkmbliojafefdaaGreatDoorWValidates2
import Derived.Test.YtkmbliojafefdaaGreatDoorVValidates3
import Derived.Test.YtkmbliojafefdaaGreatDoorTie
import Derived.SevenTiedAt
set_option autoImplicit false
set_option linter.unusedSimpArgs false
set_option linter.unusedVariables false
namespace Go.Proofs.YtkmbliojafefdaaGreatDoor.letterValidates
open Go.Sx
theorem proved : Rows.LetterValidatesCardSaid :=
 Claim7.holds_tied_plain_at .later [] [.data, .pinned] true (true, "d8be659bf8d5b02a094a7902d1429b48723caac21f6c6de879e48704ff2af7b1") false over (fun _ h => by cases h) wft (fun _ h => by cases h) letterValidates_row_tie rfl ⟨rfl, rfl⟩ main_is rfl
   (fun f fn hf hfn => by
     obtain rfl : f = 14 := Option.some.inj (named.symm.trans hf) |>.symm
     obtain rfl : fn = Tryz.f14 := (Option.some.inj (Tryz.func14.symm.trans hfn)).symm
     exact ⟨looks_no, fun j t ht => by
       rw [Tryz.params14] at ht
       have hm : t ∈ [38, 22, 40, 3] := by simpa using Array.mem_of_getElem? ht
       exact (show Tryz.prog.wantsStandIn t = false by simpa using List.all_eq_true.1 stand_no t hm)⟩)
   goes_by
#print axioms proved
end Go.Proofs.YtkmbliojafefdaaGreatDoor.letterValidates
