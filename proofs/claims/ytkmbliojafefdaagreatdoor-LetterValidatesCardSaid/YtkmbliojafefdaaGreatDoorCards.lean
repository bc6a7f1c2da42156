/-
  DERIVED. GIVEN WITH THE SEED: THE CARDS: each row of YtkmbliojafefdaaGreatDoorRows.lean that lists a variable, with what it lists TIED to the program's text (the seventh form; the later family's looks); each row that meets fmt, with fmt's text TOLD by the authors' own Lean function (tested against real Go, not proved from fmt's source: count such statements apart). THE CARD IS WHAT COUNTS. Prove the row's statement (the work); the ties are given (YtkmbliojafefdaaGreatDoorTie.lean); close each card by the builder's one call (the guide's Derived/Test/ToyasCard.lean, 'card_holds'). Laid BY PROGRAM, IN A SANDBOX (cutbox-door.mjs). By AI agents, Wed Nov 11 2026. No macro, syntax, notation, axiom, sorry.
-/
import Derived.Test.YtkmbliojafefdaaGreatDoorRows
import GoSem.ClaimSeven
namespace Go.Proofs.YtkmbliojafefdaaGreatDoor
namespace Rows

/-- THE TIED CARD OF 'declaimlaw03.LetterAligns'. -/
def letterAlignsCard : Claim7 := { stood := { row := letterAlignsRow, standIns := [], harness := (true, "d8be659bf8d5b02a094a7902d1429b48723caac21f6c6de879e48704ff2af7b1"), looks := false }, kinds := [], alts := [], laidByText := true, laidKinds := [.data, .pinned], laidTests := true, laidLooks := .later }
def LetterAlignsCardSaid : Prop := Claim7.holds Tryz.pinned (.plain (OpenSpec.ofChange letterAlignsSpec)) letterAlignsCard

/-- THE TIED CARD OF 'declaimlaw03.LetterCheapest'. -/
def letterCheapestCard : Claim7 := { stood := { row := letterCheapestRow, standIns := [], harness := (true, "d8be659bf8d5b02a094a7902d1429b48723caac21f6c6de879e48704ff2af7b1"), looks := false }, kinds := [], alts := [], laidByText := true, laidKinds := [.data, .pinned], laidTests := true, laidLooks := .later }
def LetterCheapestCardSaid : Prop := Claim7.holds Tryz.pinned (.plain (OpenSpec.ofChange letterCheapestSpec)) letterCheapestCard

/-- THE TIED CARD OF 'declaimlaw03.LetterLearns'. -/
def letterLearnsCard : Claim7 := { stood := { row := letterLearnsRow, standIns := [], harness := (true, "d8be659bf8d5b02a094a7902d1429b48723caac21f6c6de879e48704ff2af7b1"), looks := false }, kinds := [], alts := [], laidByText := true, laidKinds := [.data, .pinned], laidTests := true, laidLooks := .later }
def LetterLearnsCardSaid : Prop := Claim7.holds Tryz.pinned (.plain (OpenSpec.ofChange letterLearnsSpec)) letterLearnsCard

/-- THE TIED CARD OF 'declaimlaw03.LetterSupports'. -/
def letterSupportsCard : Claim7 := { stood := { row := letterSupportsRow, standIns := [], harness := (true, "d8be659bf8d5b02a094a7902d1429b48723caac21f6c6de879e48704ff2af7b1"), looks := false }, kinds := [], alts := [], laidByText := true, laidKinds := [.data, .pinned], laidTests := true, laidLooks := .later }
def LetterSupportsCardSaid : Prop := Claim7.holds Tryz.pinned (.plain (OpenSpec.ofChange letterSupportsSpec)) letterSupportsCard

/-- THE TIED CARD OF 'declaimlaw03.LetterFaithful'. -/
def letterFaithfulCard : Claim7 := { stood := { row := letterFaithfulRow, standIns := [], harness := (true, "d8be659bf8d5b02a094a7902d1429b48723caac21f6c6de879e48704ff2af7b1"), looks := false }, kinds := [], alts := [], laidByText := true, laidKinds := [.data, .pinned], laidTests := true, laidLooks := .later }
def LetterFaithfulCardSaid : Prop := Claim7.holds Tryz.pinned (.plain (OpenSpec.ofChange letterFaithfulSpec)) letterFaithfulCard

/-- THE TIED CARD OF 'declaimlaw03.LetterSays'. -/
def letterSaysCard : Claim7 := { stood := { row := letterSaysRow, standIns := [], harness := (true, "d8be659bf8d5b02a094a7902d1429b48723caac21f6c6de879e48704ff2af7b1"), looks := false }, kinds := [], alts := [], laidByText := true, laidKinds := [.data, .pinned], laidTests := true, laidLooks := .later }
def LetterSaysCardSaid : Prop := Claim7.holds Tryz.pinned (.plain (OpenSpec.ofChange letterSaysSpec)) letterSaysCard

/-- THE TIED CARD OF 'declaimlaw03.LetterApart'. -/
def letterApartCard : Claim7 := { stood := { row := letterApartRow, standIns := [], harness := (true, "d8be659bf8d5b02a094a7902d1429b48723caac21f6c6de879e48704ff2af7b1"), looks := false }, kinds := [], alts := [], laidByText := true, laidKinds := [.data, .pinned], laidTests := true, laidLooks := .later }
def LetterApartCardSaid : Prop := Claim7.holds Tryz.pinned (.plain (OpenSpec.ofChange letterApartSpec)) letterApartCard

/-- THE TIED CARD OF 'declaimlaw03.LetterAccents'. -/
def letterAccentsCard : Claim7 := { stood := { row := letterAccentsRow, standIns := [], harness := (true, "d8be659bf8d5b02a094a7902d1429b48723caac21f6c6de879e48704ff2af7b1"), looks := false }, kinds := [], alts := [], laidByText := true, laidKinds := [.data, .pinned], laidTests := true, laidLooks := .later }
def LetterAccentsCardSaid : Prop := Claim7.holds Tryz.pinned (.plain (OpenSpec.ofChange letterAccentsSpec)) letterAccentsCard

/-- THE TIED CARD OF 'declaimlaw03.LetterValid'. -/
def letterValidCard : Claim7 := { stood := { row := letterValidRow, standIns := [], harness := (true, "d8be659bf8d5b02a094a7902d1429b48723caac21f6c6de879e48704ff2af7b1"), looks := false }, kinds := [], alts := [], laidByText := true, laidKinds := [.data, .pinned], laidTests := true, laidLooks := .later }
def LetterValidCardSaid : Prop := Claim7.holds Tryz.pinned (.plain (OpenSpec.ofChange letterValidSpec)) letterValidCard

/-- THE TIED CARD OF 'declaimlaw03.LetterSplits'. -/
def letterSplitsCard : Claim7 := { stood := { row := letterSplitsRow, standIns := [], harness := (true, "d8be659bf8d5b02a094a7902d1429b48723caac21f6c6de879e48704ff2af7b1"), looks := false }, kinds := [], alts := [], laidByText := true, laidKinds := [.data, .pinned], laidTests := true, laidLooks := .later }
def LetterSplitsCardSaid : Prop := Claim7.holds Tryz.pinned (.plain (OpenSpec.ofChange letterSplitsSpec)) letterSplitsCard

/-- THE TIED CARD OF 'declaimlaw03.LetterFewest'. -/
def letterFewestCard : Claim7 := { stood := { row := letterFewestRow, standIns := [], harness := (true, "d8be659bf8d5b02a094a7902d1429b48723caac21f6c6de879e48704ff2af7b1"), looks := false }, kinds := [], alts := [], laidByText := true, laidKinds := [.data, .pinned], laidTests := true, laidLooks := .later }
def LetterFewestCardSaid : Prop := Claim7.holds Tryz.pinned (.plain (OpenSpec.ofChange letterFewestSpec)) letterFewestCard

/-- THE TIED CARD OF 'declaimlaw03.LetterValidates'. -/
def letterValidatesCard : Claim7 := { stood := { row := letterValidatesRow, standIns := [], harness := (true, "d8be659bf8d5b02a094a7902d1429b48723caac21f6c6de879e48704ff2af7b1"), looks := false }, kinds := [], alts := [], laidByText := true, laidKinds := [.data, .pinned], laidTests := true, laidLooks := .later }
def LetterValidatesCardSaid : Prop := Claim7.holds Tryz.pinned (.plain (OpenSpec.ofChange letterValidatesSpec)) letterValidatesCard

/-- THE TIED CARD OF 'declaimlaw03.LetterPronounces'. -/
def letterPronouncesCard : Claim7 := { stood := { row := letterPronouncesRow, standIns := [], harness := (true, "d8be659bf8d5b02a094a7902d1429b48723caac21f6c6de879e48704ff2af7b1"), looks := false }, kinds := [], alts := [], laidByText := true, laidKinds := [.data, .pinned], laidTests := true, laidLooks := .later }
def LetterPronouncesCardSaid : Prop := Claim7.holds Tryz.pinned (.plain (OpenSpec.ofChange letterPronouncesSpec)) letterPronouncesCard

/-- THE TIED CARD OF 'declaimlaw03.LetterReasons'. -/
def letterReasonsCard : Claim7 := { stood := { row := letterReasonsRow, standIns := [], harness := (true, "d8be659bf8d5b02a094a7902d1429b48723caac21f6c6de879e48704ff2af7b1"), looks := false }, kinds := [], alts := [], laidByText := true, laidKinds := [.data, .pinned], laidTests := true, laidLooks := .later }
def LetterReasonsCardSaid : Prop := Claim7.holds Tryz.pinned (.plain (OpenSpec.ofChange letterReasonsSpec)) letterReasonsCard

/-- THE SECOND FORM's CARD OF 'declaimlaw03.LetterAligns'. -/
def letterAlignsUptoCard : Claim7 := { stood := { row := letterAlignsUptoRow, standIns := [], harness := (true, "d8be659bf8d5b02a094a7902d1429b48723caac21f6c6de879e48704ff2af7b1"), looks := false }, kinds := [], alts := [], laidByText := true, laidKinds := [.data, .pinned], laidTests := true, laidLooks := .later }
def LetterAlignsUptoCardSaid : Prop := Claim7.holds Tryz.pinned (.plain (OpenSpec.upto letterAlignsSpec)) letterAlignsUptoCard

/-- THE SECOND FORM's CARD OF 'declaimlaw03.LetterCheapest'. -/
def letterCheapestUptoCard : Claim7 := { stood := { row := letterCheapestUptoRow, standIns := [], harness := (true, "d8be659bf8d5b02a094a7902d1429b48723caac21f6c6de879e48704ff2af7b1"), looks := false }, kinds := [], alts := [], laidByText := true, laidKinds := [.data, .pinned], laidTests := true, laidLooks := .later }
def LetterCheapestUptoCardSaid : Prop := Claim7.holds Tryz.pinned (.plain (OpenSpec.upto letterCheapestSpec)) letterCheapestUptoCard

/-- THE SECOND FORM's CARD OF 'declaimlaw03.LetterLearns'. -/
def letterLearnsUptoCard : Claim7 := { stood := { row := letterLearnsUptoRow, standIns := [], harness := (true, "d8be659bf8d5b02a094a7902d1429b48723caac21f6c6de879e48704ff2af7b1"), looks := false }, kinds := [], alts := [], laidByText := true, laidKinds := [.data, .pinned], laidTests := true, laidLooks := .later }
def LetterLearnsUptoCardSaid : Prop := Claim7.holds Tryz.pinned (.plain (OpenSpec.upto letterLearnsSpec)) letterLearnsUptoCard

/-- THE SECOND FORM's CARD OF 'declaimlaw03.LetterSupports'. -/
def letterSupportsUptoCard : Claim7 := { stood := { row := letterSupportsUptoRow, standIns := [], harness := (true, "d8be659bf8d5b02a094a7902d1429b48723caac21f6c6de879e48704ff2af7b1"), looks := false }, kinds := [], alts := [], laidByText := true, laidKinds := [.data, .pinned], laidTests := true, laidLooks := .later }
def LetterSupportsUptoCardSaid : Prop := Claim7.holds Tryz.pinned (.plain (OpenSpec.upto letterSupportsSpec)) letterSupportsUptoCard

/-- THE SECOND FORM's CARD OF 'declaimlaw03.LetterFaithful'. -/
def letterFaithfulUptoCard : Claim7 := { stood := { row := letterFaithfulUptoRow, standIns := [], harness := (true, "d8be659bf8d5b02a094a7902d1429b48723caac21f6c6de879e48704ff2af7b1"), looks := false }, kinds := [], alts := [], laidByText := true, laidKinds := [.data, .pinned], laidTests := true, laidLooks := .later }
def LetterFaithfulUptoCardSaid : Prop := Claim7.holds Tryz.pinned (.plain (OpenSpec.upto letterFaithfulSpec)) letterFaithfulUptoCard

/-- THE SECOND FORM's CARD OF 'declaimlaw03.LetterSays'. -/
def letterSaysUptoCard : Claim7 := { stood := { row := letterSaysUptoRow, standIns := [], harness := (true, "d8be659bf8d5b02a094a7902d1429b48723caac21f6c6de879e48704ff2af7b1"), looks := false }, kinds := [], alts := [], laidByText := true, laidKinds := [.data, .pinned], laidTests := true, laidLooks := .later }
def LetterSaysUptoCardSaid : Prop := Claim7.holds Tryz.pinned (.plain (OpenSpec.upto letterSaysSpec)) letterSaysUptoCard

/-- THE SECOND FORM's CARD OF 'declaimlaw03.LetterApart'. -/
def letterApartUptoCard : Claim7 := { stood := { row := letterApartUptoRow, standIns := [], harness := (true, "d8be659bf8d5b02a094a7902d1429b48723caac21f6c6de879e48704ff2af7b1"), looks := false }, kinds := [], alts := [], laidByText := true, laidKinds := [.data, .pinned], laidTests := true, laidLooks := .later }
def LetterApartUptoCardSaid : Prop := Claim7.holds Tryz.pinned (.plain (OpenSpec.upto letterApartSpec)) letterApartUptoCard

/-- THE SECOND FORM's CARD OF 'declaimlaw03.LetterAccents'. -/
def letterAccentsUptoCard : Claim7 := { stood := { row := letterAccentsUptoRow, standIns := [], harness := (true, "d8be659bf8d5b02a094a7902d1429b48723caac21f6c6de879e48704ff2af7b1"), looks := false }, kinds := [], alts := [], laidByText := true, laidKinds := [.data, .pinned], laidTests := true, laidLooks := .later }
def LetterAccentsUptoCardSaid : Prop := Claim7.holds Tryz.pinned (.plain (OpenSpec.upto letterAccentsSpec)) letterAccentsUptoCard

/-- THE SECOND FORM's CARD OF 'declaimlaw03.LetterValid'. -/
def letterValidUptoCard : Claim7 := { stood := { row := letterValidUptoRow, standIns := [], harness := (true, "d8be659bf8d5b02a094a7902d1429b48723caac21f6c6de879e48704ff2af7b1"), looks := false }, kinds := [], alts := [], laidByText := true, laidKinds := [.data, .pinned], laidTests := true, laidLooks := .later }
def LetterValidUptoCardSaid : Prop := Claim7.holds Tryz.pinned (.plain (OpenSpec.upto letterValidSpec)) letterValidUptoCard

/-- THE SECOND FORM's CARD OF 'declaimlaw03.LetterSplits'. -/
def letterSplitsUptoCard : Claim7 := { stood := { row := letterSplitsUptoRow, standIns := [], harness := (true, "d8be659bf8d5b02a094a7902d1429b48723caac21f6c6de879e48704ff2af7b1"), looks := false }, kinds := [], alts := [], laidByText := true, laidKinds := [.data, .pinned], laidTests := true, laidLooks := .later }
def LetterSplitsUptoCardSaid : Prop := Claim7.holds Tryz.pinned (.plain (OpenSpec.upto letterSplitsSpec)) letterSplitsUptoCard

/-- THE SECOND FORM's CARD OF 'declaimlaw03.LetterFewest'. -/
def letterFewestUptoCard : Claim7 := { stood := { row := letterFewestUptoRow, standIns := [], harness := (true, "d8be659bf8d5b02a094a7902d1429b48723caac21f6c6de879e48704ff2af7b1"), looks := false }, kinds := [], alts := [], laidByText := true, laidKinds := [.data, .pinned], laidTests := true, laidLooks := .later }
def LetterFewestUptoCardSaid : Prop := Claim7.holds Tryz.pinned (.plain (OpenSpec.upto letterFewestSpec)) letterFewestUptoCard

/-- THE SECOND FORM's CARD OF 'declaimlaw03.LetterValidates'. -/
def letterValidatesUptoCard : Claim7 := { stood := { row := letterValidatesUptoRow, standIns := [], harness := (true, "d8be659bf8d5b02a094a7902d1429b48723caac21f6c6de879e48704ff2af7b1"), looks := false }, kinds := [], alts := [], laidByText := true, laidKinds := [.data, .pinned], laidTests := true, laidLooks := .later }
def LetterValidatesUptoCardSaid : Prop := Claim7.holds Tryz.pinned (.plain (OpenSpec.upto letterValidatesSpec)) letterValidatesUptoCard

/-- THE SECOND FORM's CARD OF 'declaimlaw03.LetterPronounces'. -/
def letterPronouncesUptoCard : Claim7 := { stood := { row := letterPronouncesUptoRow, standIns := [], harness := (true, "d8be659bf8d5b02a094a7902d1429b48723caac21f6c6de879e48704ff2af7b1"), looks := false }, kinds := [], alts := [], laidByText := true, laidKinds := [.data, .pinned], laidTests := true, laidLooks := .later }
def LetterPronouncesUptoCardSaid : Prop := Claim7.holds Tryz.pinned (.plain (OpenSpec.upto letterPronouncesSpec)) letterPronouncesUptoCard

/-- THE SECOND FORM's CARD OF 'declaimlaw03.LetterReasons'. -/
def letterReasonsUptoCard : Claim7 := { stood := { row := letterReasonsUptoRow, standIns := [], harness := (true, "d8be659bf8d5b02a094a7902d1429b48723caac21f6c6de879e48704ff2af7b1"), looks := false }, kinds := [], alts := [], laidByText := true, laidKinds := [.data, .pinned], laidTests := true, laidLooks := .later }
def LetterReasonsUptoCardSaid : Prop := Claim7.holds Tryz.pinned (.plain (OpenSpec.upto letterReasonsSpec)) letterReasonsUptoCard
end Rows
end Go.Proofs.YtkmbliojafefdaaGreatDoor
