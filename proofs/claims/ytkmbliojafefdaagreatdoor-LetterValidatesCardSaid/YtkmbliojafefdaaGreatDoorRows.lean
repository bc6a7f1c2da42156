/-
  NARROWER THAN 'FOR EVERY INPUT', by the rows' own cells (each row's printed sentence says how): LetterAligns: laid · LetterCheapest: laid · LetterLearns: laid · LetterSupports: laid · LetterFaithful: laid · LetterSays: laid · LetterApart: laid · LetterAccents: laid · LetterValid: laid · LetterSplits: laid · LetterFewest: laid · LetterValidates: laid · LetterPronounces: laid · LetterReasons: laid.
  DERIVED. THE GIVEN ROWS OF THIS SEAT. 14 by the template 'for every input the law returns true; each argument reads behind the call as it read before'; 0 by the template 'total and deterministic' (their statements: YtkmbliojafefdaaGreatDoorTotals.lean).
  GIVEN WITH THE SEED: the statements are not yours to turn. If you find one false, say at which input.
  Laid BY PROGRAM, IN A SANDBOX (cutbox-rows.mjs): the forced cells as the released guide's own fill.sh prints them over the translation f94192e763de32f6… (all of the seat's roots in one cut). By AI agents, Wed Nov 11 2026. No macro, syntax, notation, axiom, sorry.
-/
import Derived.Test.YtkmbliojafefdaaGreatDoorChecked
import GoSem.PinnedTables
import GoSem.Claim
import GoSem.ClaimJoined
import GoSem.ClaimMapViews
import Derived.JoinedTies
import Derived.KernelRfl
namespace Go.Proofs.YtkmbliojafefdaaGreatDoor
/- THE CELL 'sum', in the pinned program and in every row, IS THE sha256 OF THE DUMP (.gsa) THAT YtkmbliojafefdaaGreatDoorProg.lean LOADS. Nothing in Lean hashes anything: it is a label: what it is worth is what the hold of that sum in a sandbox is worth. -/
noncomputable def Tryz.pinned : Pinned := { name := "ytkmbliojafefdaagreatdoor", sum := "f94192e763de32f6974c0661dfe09df481b4356cde5c6496d8f4884b1d7382db", checked := Tryz.checked }
namespace Rows
def none {H : Type} : Left H := { results := [], args := [] }

/- WHAT THE LISTED PACKAGE-LEVEL VARIABLES READ AS WHEN THE CALL BEGINS. Each datum BY PROGRAM (the guide's laid-datum.mjs) off the statement by which the dump's own 'gosem.cut.vars' lays the variable. In a bare row this is a premise. The card (YtkmbliojafefdaaGreatDoorCards.lean) ties it to the program's text. -/
def laid_unicode_utf8_acceptRanges {H : Type} : DataW H := .agg [.agg [.lit (.int .u8 128), .lit (.int .u8 191)], .agg [.lit (.int .u8 160), .lit (.int .u8 191)], .agg [.lit (.int .u8 128), .lit (.int .u8 159)], .agg [.lit (.int .u8 144), .lit (.int .u8 191)], .agg [.lit (.int .u8 128), .lit (.int .u8 143)], .agg [.lit (.int .u8 0), .lit (.int .u8 0)], .agg [.lit (.int .u8 0), .lit (.int .u8 0)], .agg [.lit (.int .u8 0), .lit (.int .u8 0)], .agg [.lit (.int .u8 0), .lit (.int .u8 0)], .agg [.lit (.int .u8 0), .lit (.int .u8 0)], .agg [.lit (.int .u8 0), .lit (.int .u8 0)], .agg [.lit (.int .u8 0), .lit (.int .u8 0)], .agg [.lit (.int .u8 0), .lit (.int .u8 0)], .agg [.lit (.int .u8 0), .lit (.int .u8 0)], .agg [.lit (.int .u8 0), .lit (.int .u8 0)], .agg [.lit (.int .u8 0), .lit (.int .u8 0)]]
/-- One of Go's own tables, pinned by name: the form's constant. -/
def laid_unicode_utf8_first : DataW Unit := Go.Pinned.utf8First

/-- 'declaimlaw03.LetterAligns': WHATEVER THE INPUT: true; the input reads as it did. -/
def letterAlignsSpec : ChangeSpec := { name := "letterAligns", fn := fun _ => fun
  | [d1, d2, d3] => { results := [.lit (.bool true)], args := [d1, d2, d3] }
  | _ => none }
def letterAlignsRow : OpenClaim := { program := "ytkmbliojafefdaagreatdoor", sum := "f94192e763de32f6974c0661dfe09df481b4356cde5c6496d8f4884b1d7382db", func := "declaim/declaimlaw03.LetterAligns", spec := "letterAligns", inPlace := ["internal/bytealg.abigen_runtime_cmpstring", "internal/abi.NoEscape", "internal/bytealg.MakeNoZero"], unfollowed := true, recurses := true, named := ["unicode/utf8.first", "unicode/utf8.acceptRanges"], plainKeys := false, apart := false, laid := [("unicode/utf8.acceptRanges", laid_unicode_utf8_acceptRanges), ("unicode/utf8.first", laid_unicode_utf8_first)] }
def LetterAlignsSaid : Prop := letterAlignsRow.holds Tryz.pinned (OpenSpec.ofChange letterAlignsSpec)

/-- ITS FALSE NEIGHBOUR: 'it returns false'. Refute it at one input. -/
def letterAlignsWrong : ChangeSpec := { name := "letterAligns", fn := fun _ => fun
  | [d1, d2, d3] => { results := [.lit (.bool false)], args := [d1, d2, d3] }
  | _ => none }
def LetterAlignsWrongFalsely : Prop := letterAlignsRow.holds Tryz.pinned (OpenSpec.ofChange letterAlignsWrong)

/-- 'declaimlaw03.LetterCheapest': WHATEVER THE INPUT: true; the input reads as it did. -/
def letterCheapestSpec : ChangeSpec := { name := "letterCheapest", fn := fun _ => fun
  | [d1, d2, d3] => { results := [.lit (.bool true)], args := [d1, d2, d3] }
  | _ => none }
def letterCheapestRow : OpenClaim := { program := "ytkmbliojafefdaagreatdoor", sum := "f94192e763de32f6974c0661dfe09df481b4356cde5c6496d8f4884b1d7382db", func := "declaim/declaimlaw03.LetterCheapest", spec := "letterCheapest", inPlace := ["internal/bytealg.abigen_runtime_cmpstring", "internal/abi.NoEscape", "internal/bytealg.MakeNoZero"], unfollowed := true, recurses := true, named := ["unicode/utf8.first", "unicode/utf8.acceptRanges"], plainKeys := false, apart := false, laid := [("unicode/utf8.acceptRanges", laid_unicode_utf8_acceptRanges), ("unicode/utf8.first", laid_unicode_utf8_first)] }
def LetterCheapestSaid : Prop := letterCheapestRow.holds Tryz.pinned (OpenSpec.ofChange letterCheapestSpec)

/-- ITS FALSE NEIGHBOUR: 'it returns false'. Refute it at one input. -/
def letterCheapestWrong : ChangeSpec := { name := "letterCheapest", fn := fun _ => fun
  | [d1, d2, d3] => { results := [.lit (.bool false)], args := [d1, d2, d3] }
  | _ => none }
def LetterCheapestWrongFalsely : Prop := letterCheapestRow.holds Tryz.pinned (OpenSpec.ofChange letterCheapestWrong)

/-- 'declaimlaw03.LetterLearns': WHATEVER THE INPUT: true; the input reads as it did. -/
def letterLearnsSpec : ChangeSpec := { name := "letterLearns", fn := fun _ => fun
  | [d1, d2, d3] => { results := [.lit (.bool true)], args := [d1, d2, d3] }
  | _ => none }
def letterLearnsRow : OpenClaim := { program := "ytkmbliojafefdaagreatdoor", sum := "f94192e763de32f6974c0661dfe09df481b4356cde5c6496d8f4884b1d7382db", func := "declaim/declaimlaw03.LetterLearns", spec := "letterLearns", inPlace := ["internal/bytealg.abigen_runtime_cmpstring", "internal/abi.NoEscape", "internal/bytealg.MakeNoZero"], unfollowed := true, recurses := true, named := ["unicode/utf8.first", "unicode/utf8.acceptRanges"], plainKeys := false, apart := false, laid := [("unicode/utf8.acceptRanges", laid_unicode_utf8_acceptRanges), ("unicode/utf8.first", laid_unicode_utf8_first)] }
def LetterLearnsSaid : Prop := letterLearnsRow.holds Tryz.pinned (OpenSpec.ofChange letterLearnsSpec)

/-- ITS FALSE NEIGHBOUR: 'it returns false'. Refute it at one input. -/
def letterLearnsWrong : ChangeSpec := { name := "letterLearns", fn := fun _ => fun
  | [d1, d2, d3] => { results := [.lit (.bool false)], args := [d1, d2, d3] }
  | _ => none }
def LetterLearnsWrongFalsely : Prop := letterLearnsRow.holds Tryz.pinned (OpenSpec.ofChange letterLearnsWrong)

/-- 'declaimlaw03.LetterSupports': WHATEVER THE INPUT: true; the input reads as it did. -/
def letterSupportsSpec : ChangeSpec := { name := "letterSupports", fn := fun _ => fun
  | [d1, d2, d3] => { results := [.lit (.bool true)], args := [d1, d2, d3] }
  | _ => none }
def letterSupportsRow : OpenClaim := { program := "ytkmbliojafefdaagreatdoor", sum := "f94192e763de32f6974c0661dfe09df481b4356cde5c6496d8f4884b1d7382db", func := "declaim/declaimlaw03.LetterSupports", spec := "letterSupports", inPlace := ["internal/bytealg.abigen_runtime_cmpstring", "internal/abi.NoEscape", "internal/bytealg.MakeNoZero"], unfollowed := true, recurses := true, named := ["unicode/utf8.first", "unicode/utf8.acceptRanges"], plainKeys := false, apart := false, laid := [("unicode/utf8.acceptRanges", laid_unicode_utf8_acceptRanges), ("unicode/utf8.first", laid_unicode_utf8_first)] }
def LetterSupportsSaid : Prop := letterSupportsRow.holds Tryz.pinned (OpenSpec.ofChange letterSupportsSpec)

/-- ITS FALSE NEIGHBOUR: 'it returns false'. Refute it at one input. -/
def letterSupportsWrong : ChangeSpec := { name := "letterSupports", fn := fun _ => fun
  | [d1, d2, d3] => { results := [.lit (.bool false)], args := [d1, d2, d3] }
  | _ => none }
def LetterSupportsWrongFalsely : Prop := letterSupportsRow.holds Tryz.pinned (OpenSpec.ofChange letterSupportsWrong)

/-- 'declaimlaw03.LetterFaithful': WHATEVER THE INPUT: true; the input reads as it did. -/
def letterFaithfulSpec : ChangeSpec := { name := "letterFaithful", fn := fun _ => fun
  | [d1, d2, d3, d4] => { results := [.lit (.bool true)], args := [d1, d2, d3, d4] }
  | _ => none }
def letterFaithfulRow : OpenClaim := { program := "ytkmbliojafefdaagreatdoor", sum := "f94192e763de32f6974c0661dfe09df481b4356cde5c6496d8f4884b1d7382db", func := "declaim/declaimlaw03.LetterFaithful", spec := "letterFaithful", inPlace := ["internal/bytealg.abigen_runtime_cmpstring", "internal/abi.NoEscape", "internal/bytealg.MakeNoZero"], unfollowed := true, recurses := true, named := ["unicode/utf8.first", "unicode/utf8.acceptRanges"], plainKeys := false, apart := false, laid := [("unicode/utf8.acceptRanges", laid_unicode_utf8_acceptRanges), ("unicode/utf8.first", laid_unicode_utf8_first)] }
def LetterFaithfulSaid : Prop := letterFaithfulRow.holds Tryz.pinned (OpenSpec.ofChange letterFaithfulSpec)

/-- ITS FALSE NEIGHBOUR: 'it returns false'. Refute it at one input. -/
def letterFaithfulWrong : ChangeSpec := { name := "letterFaithful", fn := fun _ => fun
  | [d1, d2, d3, d4] => { results := [.lit (.bool false)], args := [d1, d2, d3, d4] }
  | _ => none }
def LetterFaithfulWrongFalsely : Prop := letterFaithfulRow.holds Tryz.pinned (OpenSpec.ofChange letterFaithfulWrong)

/-- 'declaimlaw03.LetterSays': WHATEVER THE INPUT: true; the input reads as it did. -/
def letterSaysSpec : ChangeSpec := { name := "letterSays", fn := fun _ => fun
  | [d1, d2] => { results := [.lit (.bool true)], args := [d1, d2] }
  | _ => none }
def letterSaysRow : OpenClaim := { program := "ytkmbliojafefdaagreatdoor", sum := "f94192e763de32f6974c0661dfe09df481b4356cde5c6496d8f4884b1d7382db", func := "declaim/declaimlaw03.LetterSays", spec := "letterSays", inPlace := ["internal/bytealg.abigen_runtime_cmpstring", "internal/abi.NoEscape", "internal/bytealg.MakeNoZero"], unfollowed := true, recurses := true, named := ["unicode/utf8.first", "unicode/utf8.acceptRanges"], plainKeys := false, apart := false, laid := [("unicode/utf8.acceptRanges", laid_unicode_utf8_acceptRanges), ("unicode/utf8.first", laid_unicode_utf8_first)] }
def LetterSaysSaid : Prop := letterSaysRow.holds Tryz.pinned (OpenSpec.ofChange letterSaysSpec)

/-- ITS FALSE NEIGHBOUR: 'it returns false'. Refute it at one input. -/
def letterSaysWrong : ChangeSpec := { name := "letterSays", fn := fun _ => fun
  | [d1, d2] => { results := [.lit (.bool false)], args := [d1, d2] }
  | _ => none }
def LetterSaysWrongFalsely : Prop := letterSaysRow.holds Tryz.pinned (OpenSpec.ofChange letterSaysWrong)

/-- 'declaimlaw03.LetterApart': WHATEVER THE INPUT: true; the input reads as it did. -/
def letterApartSpec : ChangeSpec := { name := "letterApart", fn := fun _ => fun
  | [d1, d2] => { results := [.lit (.bool true)], args := [d1, d2] }
  | _ => none }
def letterApartRow : OpenClaim := { program := "ytkmbliojafefdaagreatdoor", sum := "f94192e763de32f6974c0661dfe09df481b4356cde5c6496d8f4884b1d7382db", func := "declaim/declaimlaw03.LetterApart", spec := "letterApart", inPlace := ["internal/bytealg.abigen_runtime_cmpstring", "internal/abi.NoEscape", "internal/bytealg.MakeNoZero"], unfollowed := true, recurses := true, named := ["unicode/utf8.first", "unicode/utf8.acceptRanges"], plainKeys := false, apart := false, laid := [("unicode/utf8.acceptRanges", laid_unicode_utf8_acceptRanges), ("unicode/utf8.first", laid_unicode_utf8_first)] }
def LetterApartSaid : Prop := letterApartRow.holds Tryz.pinned (OpenSpec.ofChange letterApartSpec)

/-- ITS FALSE NEIGHBOUR: 'it returns false'. Refute it at one input. -/
def letterApartWrong : ChangeSpec := { name := "letterApart", fn := fun _ => fun
  | [d1, d2] => { results := [.lit (.bool false)], args := [d1, d2] }
  | _ => none }
def LetterApartWrongFalsely : Prop := letterApartRow.holds Tryz.pinned (OpenSpec.ofChange letterApartWrong)

/-- 'declaimlaw03.LetterAccents': WHATEVER THE INPUT: true; the input reads as it did. -/
def letterAccentsSpec : ChangeSpec := { name := "letterAccents", fn := fun _ => fun
  | [d1, d2, d3] => { results := [.lit (.bool true)], args := [d1, d2, d3] }
  | _ => none }
def letterAccentsRow : OpenClaim := { program := "ytkmbliojafefdaagreatdoor", sum := "f94192e763de32f6974c0661dfe09df481b4356cde5c6496d8f4884b1d7382db", func := "declaim/declaimlaw03.LetterAccents", spec := "letterAccents", inPlace := ["internal/bytealg.abigen_runtime_cmpstring", "internal/abi.NoEscape", "internal/bytealg.MakeNoZero"], unfollowed := true, recurses := true, named := ["unicode/utf8.first", "unicode/utf8.acceptRanges"], plainKeys := false, apart := false, laid := [("unicode/utf8.acceptRanges", laid_unicode_utf8_acceptRanges), ("unicode/utf8.first", laid_unicode_utf8_first)] }
def LetterAccentsSaid : Prop := letterAccentsRow.holds Tryz.pinned (OpenSpec.ofChange letterAccentsSpec)

/-- ITS FALSE NEIGHBOUR: 'it returns false'. Refute it at one input. -/
def letterAccentsWrong : ChangeSpec := { name := "letterAccents", fn := fun _ => fun
  | [d1, d2, d3] => { results := [.lit (.bool false)], args := [d1, d2, d3] }
  | _ => none }
def LetterAccentsWrongFalsely : Prop := letterAccentsRow.holds Tryz.pinned (OpenSpec.ofChange letterAccentsWrong)

/-- 'declaimlaw03.LetterValid': WHATEVER THE INPUT: true; the input reads as it did. -/
def letterValidSpec : ChangeSpec := { name := "letterValid", fn := fun _ => fun
  | [d1, d2, d3] => { results := [.lit (.bool true)], args := [d1, d2, d3] }
  | _ => none }
def letterValidRow : OpenClaim := { program := "ytkmbliojafefdaagreatdoor", sum := "f94192e763de32f6974c0661dfe09df481b4356cde5c6496d8f4884b1d7382db", func := "declaim/declaimlaw03.LetterValid", spec := "letterValid", inPlace := ["internal/bytealg.abigen_runtime_cmpstring", "internal/abi.NoEscape", "internal/bytealg.MakeNoZero"], unfollowed := true, recurses := true, named := ["unicode/utf8.first", "unicode/utf8.acceptRanges"], plainKeys := false, apart := false, laid := [("unicode/utf8.acceptRanges", laid_unicode_utf8_acceptRanges), ("unicode/utf8.first", laid_unicode_utf8_first)] }
def LetterValidSaid : Prop := letterValidRow.holds Tryz.pinned (OpenSpec.ofChange letterValidSpec)

/-- ITS FALSE NEIGHBOUR: 'it returns false'. Refute it at one input. -/
def letterValidWrong : ChangeSpec := { name := "letterValid", fn := fun _ => fun
  | [d1, d2, d3] => { results := [.lit (.bool false)], args := [d1, d2, d3] }
  | _ => none }
def LetterValidWrongFalsely : Prop := letterValidRow.holds Tryz.pinned (OpenSpec.ofChange letterValidWrong)

/-- 'declaimlaw03.LetterSplits': WHATEVER THE INPUT: true; the input reads as it did. -/
def letterSplitsSpec : ChangeSpec := { name := "letterSplits", fn := fun _ => fun
  | [d1, d2] => { results := [.lit (.bool true)], args := [d1, d2] }
  | _ => none }
def letterSplitsRow : OpenClaim := { program := "ytkmbliojafefdaagreatdoor", sum := "f94192e763de32f6974c0661dfe09df481b4356cde5c6496d8f4884b1d7382db", func := "declaim/declaimlaw03.LetterSplits", spec := "letterSplits", inPlace := ["internal/bytealg.abigen_runtime_cmpstring", "internal/abi.NoEscape", "internal/bytealg.MakeNoZero"], unfollowed := true, recurses := true, named := ["unicode/utf8.first", "unicode/utf8.acceptRanges"], plainKeys := false, apart := false, laid := [("unicode/utf8.acceptRanges", laid_unicode_utf8_acceptRanges), ("unicode/utf8.first", laid_unicode_utf8_first)] }
def LetterSplitsSaid : Prop := letterSplitsRow.holds Tryz.pinned (OpenSpec.ofChange letterSplitsSpec)

/-- ITS FALSE NEIGHBOUR: 'it returns false'. Refute it at one input. -/
def letterSplitsWrong : ChangeSpec := { name := "letterSplits", fn := fun _ => fun
  | [d1, d2] => { results := [.lit (.bool false)], args := [d1, d2] }
  | _ => none }
def LetterSplitsWrongFalsely : Prop := letterSplitsRow.holds Tryz.pinned (OpenSpec.ofChange letterSplitsWrong)

/-- 'declaimlaw03.LetterFewest': WHATEVER THE INPUT: true; the input reads as it did. -/
def letterFewestSpec : ChangeSpec := { name := "letterFewest", fn := fun _ => fun
  | [d1, d2] => { results := [.lit (.bool true)], args := [d1, d2] }
  | _ => none }
def letterFewestRow : OpenClaim := { program := "ytkmbliojafefdaagreatdoor", sum := "f94192e763de32f6974c0661dfe09df481b4356cde5c6496d8f4884b1d7382db", func := "declaim/declaimlaw03.LetterFewest", spec := "letterFewest", inPlace := ["internal/bytealg.abigen_runtime_cmpstring", "internal/abi.NoEscape", "internal/bytealg.MakeNoZero"], unfollowed := true, recurses := true, named := ["unicode/utf8.first", "unicode/utf8.acceptRanges"], plainKeys := false, apart := false, laid := [("unicode/utf8.acceptRanges", laid_unicode_utf8_acceptRanges), ("unicode/utf8.first", laid_unicode_utf8_first)] }
def LetterFewestSaid : Prop := letterFewestRow.holds Tryz.pinned (OpenSpec.ofChange letterFewestSpec)

/-- ITS FALSE NEIGHBOUR: 'it returns false'. Refute it at one input. -/
def letterFewestWrong : ChangeSpec := { name := "letterFewest", fn := fun _ => fun
  | [d1, d2] => { results := [.lit (.bool false)], args := [d1, d2] }
  | _ => none }
def LetterFewestWrongFalsely : Prop := letterFewestRow.holds Tryz.pinned (OpenSpec.ofChange letterFewestWrong)

/-- 'declaimlaw03.LetterValidates': WHATEVER THE INPUT: true; the input reads as it did. -/
def letterValidatesSpec : ChangeSpec := { name := "letterValidates", fn := fun _ => fun
  | [d1, d2, d3, d4] => { results := [.lit (.bool true)], args := [d1, d2, d3, d4] }
  | _ => none }
def letterValidatesRow : OpenClaim := { program := "ytkmbliojafefdaagreatdoor", sum := "f94192e763de32f6974c0661dfe09df481b4356cde5c6496d8f4884b1d7382db", func := "declaim/declaimlaw03.LetterValidates", spec := "letterValidates", inPlace := ["internal/bytealg.abigen_runtime_cmpstring", "internal/abi.NoEscape", "internal/bytealg.MakeNoZero"], unfollowed := true, recurses := true, named := ["unicode/utf8.first", "unicode/utf8.acceptRanges"], plainKeys := false, apart := false, laid := [("unicode/utf8.acceptRanges", laid_unicode_utf8_acceptRanges), ("unicode/utf8.first", laid_unicode_utf8_first)] }
def LetterValidatesSaid : Prop := letterValidatesRow.holds Tryz.pinned (OpenSpec.ofChange letterValidatesSpec)

/-- ITS FALSE NEIGHBOUR: 'it returns false'. Refute it at one input. -/
def letterValidatesWrong : ChangeSpec := { name := "letterValidates", fn := fun _ => fun
  | [d1, d2, d3, d4] => { results := [.lit (.bool false)], args := [d1, d2, d3, d4] }
  | _ => none }
def LetterValidatesWrongFalsely : Prop := letterValidatesRow.holds Tryz.pinned (OpenSpec.ofChange letterValidatesWrong)

/-- 'declaimlaw03.LetterPronounces': WHATEVER THE INPUT: true; the input reads as it did. -/
def letterPronouncesSpec : ChangeSpec := { name := "letterPronounces", fn := fun _ => fun
  | [d1, d2, d3] => { results := [.lit (.bool true)], args := [d1, d2, d3] }
  | _ => none }
def letterPronouncesRow : OpenClaim := { program := "ytkmbliojafefdaagreatdoor", sum := "f94192e763de32f6974c0661dfe09df481b4356cde5c6496d8f4884b1d7382db", func := "declaim/declaimlaw03.LetterPronounces", spec := "letterPronounces", inPlace := ["internal/bytealg.abigen_runtime_cmpstring", "internal/abi.NoEscape", "internal/bytealg.MakeNoZero"], unfollowed := true, recurses := true, named := ["unicode/utf8.first", "unicode/utf8.acceptRanges"], plainKeys := false, apart := false, laid := [("unicode/utf8.acceptRanges", laid_unicode_utf8_acceptRanges), ("unicode/utf8.first", laid_unicode_utf8_first)] }
def LetterPronouncesSaid : Prop := letterPronouncesRow.holds Tryz.pinned (OpenSpec.ofChange letterPronouncesSpec)

/-- ITS FALSE NEIGHBOUR: 'it returns false'. Refute it at one input. -/
def letterPronouncesWrong : ChangeSpec := { name := "letterPronounces", fn := fun _ => fun
  | [d1, d2, d3] => { results := [.lit (.bool false)], args := [d1, d2, d3] }
  | _ => none }
def LetterPronouncesWrongFalsely : Prop := letterPronouncesRow.holds Tryz.pinned (OpenSpec.ofChange letterPronouncesWrong)

/-- 'declaimlaw03.LetterReasons': WHATEVER THE INPUT: true; the input reads as it did. -/
def letterReasonsSpec : ChangeSpec := { name := "letterReasons", fn := fun _ => fun
  | [d1, d2, d3] => { results := [.lit (.bool true)], args := [d1, d2, d3] }
  | _ => none }
def letterReasonsRow : OpenClaim := { program := "ytkmbliojafefdaagreatdoor", sum := "f94192e763de32f6974c0661dfe09df481b4356cde5c6496d8f4884b1d7382db", func := "declaim/declaimlaw03.LetterReasons", spec := "letterReasons", inPlace := ["internal/bytealg.abigen_runtime_cmpstring", "internal/abi.NoEscape", "internal/bytealg.MakeNoZero"], unfollowed := true, recurses := true, named := ["unicode/utf8.first", "unicode/utf8.acceptRanges"], plainKeys := false, apart := false, laid := [("unicode/utf8.acceptRanges", laid_unicode_utf8_acceptRanges), ("unicode/utf8.first", laid_unicode_utf8_first)] }
def LetterReasonsSaid : Prop := letterReasonsRow.holds Tryz.pinned (OpenSpec.ofChange letterReasonsSpec)

/-- ITS FALSE NEIGHBOUR: 'it returns false'. Refute it at one input. -/
def letterReasonsWrong : ChangeSpec := { name := "letterReasons", fn := fun _ => fun
  | [d1, d2, d3] => { results := [.lit (.bool false)], args := [d1, d2, d3] }
  | _ => none }
def LetterReasonsWrongFalsely : Prop := letterReasonsRow.holds Tryz.pinned (OpenSpec.ofChange letterReasonsWrong)

/- THE SECOND FORM. 'bulk': how many values and letters a reading holds, each counted each time it is reached (what is shared counts as often as it is met; a slice's spare places count too). A statement '..UptoSaid' is the law's where the arguments, and the package variables that the reading takes, are together of bulk at most 1048576: NARROWER than '..Said'. Prove '..Said' where nothing that the law and all that it calls make is longer than what came in: it says more and counts as full. Else prove '..UptoSaid'. A law counts once. -/
mutual
def uptoBulk {H : Type} : DataW H → Nat
  | .lit (.string bytes) => bytes.length + 1
  | .lit _ => 1
  | .nil => 1
  | .ptr d => uptoBulk d + 1
  | .slice elems spare => uptoBulkAll elems + uptoBulkAll spare + 1
  | .agg parts => uptoBulkAll parts + 1
  | .iface _ d => uptoBulk d + 1
  | .map entries => uptoBulkEntries entries + 1
  | .held _ => 1
def uptoBulkAll {H : Type} : List (DataW H) → Nat
  | [] => 0
  | d :: r => uptoBulk d + uptoBulkAll r
def uptoBulkEntries {H : Type} : List (Lit × DataW H) → Nat
  | [] => 0
  | x :: r => uptoBulkEntry x + uptoBulkEntries r
def uptoBulkEntry {H : Type} : Lit × DataW H → Nat
  | (.string bytes, d) => bytes.length + uptoBulk d + 1
  | (_, d) => uptoBulk d + 1
 end
def uptoSmall : (H : Type) → List (DataW H) → Bool := fun _ ds => decide (uptoBulkAll ds ≤ 1048576)
def OpenSpec.upto (s : _root_.Go.ChangeSpec) : _root_.Go.OpenSpec := { _root_.Go.OpenSpec.ofChange s with cond := some uptoSmall }

/-- 'declaimlaw03.LetterAligns', WHERE WHAT IT READS IS OF BULK AT MOST 1048576: true; the input reads as it did. -/
def letterAlignsUptoRow : OpenClaim := { program := "ytkmbliojafefdaagreatdoor", sum := "f94192e763de32f6974c0661dfe09df481b4356cde5c6496d8f4884b1d7382db", func := "declaim/declaimlaw03.LetterAligns", spec := "letterAligns", inPlace := ["internal/bytealg.abigen_runtime_cmpstring", "internal/abi.NoEscape", "internal/bytealg.MakeNoZero"], unfollowed := true, recurses := true, named := ["unicode/utf8.first", "unicode/utf8.acceptRanges"], plainKeys := false, apart := false, laid := [("unicode/utf8.acceptRanges", laid_unicode_utf8_acceptRanges), ("unicode/utf8.first", laid_unicode_utf8_first)], narrowed := true }
def LetterAlignsUptoSaid : Prop := letterAlignsUptoRow.holds Tryz.pinned (OpenSpec.upto letterAlignsSpec)

/-- 'declaimlaw03.LetterCheapest', WHERE WHAT IT READS IS OF BULK AT MOST 1048576: true; the input reads as it did. -/
def letterCheapestUptoRow : OpenClaim := { program := "ytkmbliojafefdaagreatdoor", sum := "f94192e763de32f6974c0661dfe09df481b4356cde5c6496d8f4884b1d7382db", func := "declaim/declaimlaw03.LetterCheapest", spec := "letterCheapest", inPlace := ["internal/bytealg.abigen_runtime_cmpstring", "internal/abi.NoEscape", "internal/bytealg.MakeNoZero"], unfollowed := true, recurses := true, named := ["unicode/utf8.first", "unicode/utf8.acceptRanges"], plainKeys := false, apart := false, laid := [("unicode/utf8.acceptRanges", laid_unicode_utf8_acceptRanges), ("unicode/utf8.first", laid_unicode_utf8_first)], narrowed := true }
def LetterCheapestUptoSaid : Prop := letterCheapestUptoRow.holds Tryz.pinned (OpenSpec.upto letterCheapestSpec)

/-- 'declaimlaw03.LetterLearns', WHERE WHAT IT READS IS OF BULK AT MOST 1048576: true; the input reads as it did. -/
def letterLearnsUptoRow : OpenClaim := { program := "ytkmbliojafefdaagreatdoor", sum := "f94192e763de32f6974c0661dfe09df481b4356cde5c6496d8f4884b1d7382db", func := "declaim/declaimlaw03.LetterLearns", spec := "letterLearns", inPlace := ["internal/bytealg.abigen_runtime_cmpstring", "internal/abi.NoEscape", "internal/bytealg.MakeNoZero"], unfollowed := true, recurses := true, named := ["unicode/utf8.first", "unicode/utf8.acceptRanges"], plainKeys := false, apart := false, laid := [("unicode/utf8.acceptRanges", laid_unicode_utf8_acceptRanges), ("unicode/utf8.first", laid_unicode_utf8_first)], narrowed := true }
def LetterLearnsUptoSaid : Prop := letterLearnsUptoRow.holds Tryz.pinned (OpenSpec.upto letterLearnsSpec)

/-- 'declaimlaw03.LetterSupports', WHERE WHAT IT READS IS OF BULK AT MOST 1048576: true; the input reads as it did. -/
def letterSupportsUptoRow : OpenClaim := { program := "ytkmbliojafefdaagreatdoor", sum := "f94192e763de32f6974c0661dfe09df481b4356cde5c6496d8f4884b1d7382db", func := "declaim/declaimlaw03.LetterSupports", spec := "letterSupports", inPlace := ["internal/bytealg.abigen_runtime_cmpstring", "internal/abi.NoEscape", "internal/bytealg.MakeNoZero"], unfollowed := true, recurses := true, named := ["unicode/utf8.first", "unicode/utf8.acceptRanges"], plainKeys := false, apart := false, laid := [("unicode/utf8.acceptRanges", laid_unicode_utf8_acceptRanges), ("unicode/utf8.first", laid_unicode_utf8_first)], narrowed := true }
def LetterSupportsUptoSaid : Prop := letterSupportsUptoRow.holds Tryz.pinned (OpenSpec.upto letterSupportsSpec)

/-- 'declaimlaw03.LetterFaithful', WHERE WHAT IT READS IS OF BULK AT MOST 1048576: true; the input reads as it did. -/
def letterFaithfulUptoRow : OpenClaim := { program := "ytkmbliojafefdaagreatdoor", sum := "f94192e763de32f6974c0661dfe09df481b4356cde5c6496d8f4884b1d7382db", func := "declaim/declaimlaw03.LetterFaithful", spec := "letterFaithful", inPlace := ["internal/bytealg.abigen_runtime_cmpstring", "internal/abi.NoEscape", "internal/bytealg.MakeNoZero"], unfollowed := true, recurses := true, named := ["unicode/utf8.first", "unicode/utf8.acceptRanges"], plainKeys := false, apart := false, laid := [("unicode/utf8.acceptRanges", laid_unicode_utf8_acceptRanges), ("unicode/utf8.first", laid_unicode_utf8_first)], narrowed := true }
def LetterFaithfulUptoSaid : Prop := letterFaithfulUptoRow.holds Tryz.pinned (OpenSpec.upto letterFaithfulSpec)

/-- 'declaimlaw03.LetterSays', WHERE WHAT IT READS IS OF BULK AT MOST 1048576: true; the input reads as it did. -/
def letterSaysUptoRow : OpenClaim := { program := "ytkmbliojafefdaagreatdoor", sum := "f94192e763de32f6974c0661dfe09df481b4356cde5c6496d8f4884b1d7382db", func := "declaim/declaimlaw03.LetterSays", spec := "letterSays", inPlace := ["internal/bytealg.abigen_runtime_cmpstring", "internal/abi.NoEscape", "internal/bytealg.MakeNoZero"], unfollowed := true, recurses := true, named := ["unicode/utf8.first", "unicode/utf8.acceptRanges"], plainKeys := false, apart := false, laid := [("unicode/utf8.acceptRanges", laid_unicode_utf8_acceptRanges), ("unicode/utf8.first", laid_unicode_utf8_first)], narrowed := true }
def LetterSaysUptoSaid : Prop := letterSaysUptoRow.holds Tryz.pinned (OpenSpec.upto letterSaysSpec)

/-- 'declaimlaw03.LetterApart', WHERE WHAT IT READS IS OF BULK AT MOST 1048576: true; the input reads as it did. -/
def letterApartUptoRow : OpenClaim := { program := "ytkmbliojafefdaagreatdoor", sum := "f94192e763de32f6974c0661dfe09df481b4356cde5c6496d8f4884b1d7382db", func := "declaim/declaimlaw03.LetterApart", spec := "letterApart", inPlace := ["internal/bytealg.abigen_runtime_cmpstring", "internal/abi.NoEscape", "internal/bytealg.MakeNoZero"], unfollowed := true, recurses := true, named := ["unicode/utf8.first", "unicode/utf8.acceptRanges"], plainKeys := false, apart := false, laid := [("unicode/utf8.acceptRanges", laid_unicode_utf8_acceptRanges), ("unicode/utf8.first", laid_unicode_utf8_first)], narrowed := true }
def LetterApartUptoSaid : Prop := letterApartUptoRow.holds Tryz.pinned (OpenSpec.upto letterApartSpec)

/-- 'declaimlaw03.LetterAccents', WHERE WHAT IT READS IS OF BULK AT MOST 1048576: true; the input reads as it did. -/
def letterAccentsUptoRow : OpenClaim := { program := "ytkmbliojafefdaagreatdoor", sum := "f94192e763de32f6974c0661dfe09df481b4356cde5c6496d8f4884b1d7382db", func := "declaim/declaimlaw03.LetterAccents", spec := "letterAccents", inPlace := ["internal/bytealg.abigen_runtime_cmpstring", "internal/abi.NoEscape", "internal/bytealg.MakeNoZero"], unfollowed := true, recurses := true, named := ["unicode/utf8.first", "unicode/utf8.acceptRanges"], plainKeys := false, apart := false, laid := [("unicode/utf8.acceptRanges", laid_unicode_utf8_acceptRanges), ("unicode/utf8.first", laid_unicode_utf8_first)], narrowed := true }
def LetterAccentsUptoSaid : Prop := letterAccentsUptoRow.holds Tryz.pinned (OpenSpec.upto letterAccentsSpec)

/-- 'declaimlaw03.LetterValid', WHERE WHAT IT READS IS OF BULK AT MOST 1048576: true; the input reads as it did. -/
def letterValidUptoRow : OpenClaim := { program := "ytkmbliojafefdaagreatdoor", sum := "f94192e763de32f6974c0661dfe09df481b4356cde5c6496d8f4884b1d7382db", func := "declaim/declaimlaw03.LetterValid", spec := "letterValid", inPlace := ["internal/bytealg.abigen_runtime_cmpstring", "internal/abi.NoEscape", "internal/bytealg.MakeNoZero"], unfollowed := true, recurses := true, named := ["unicode/utf8.first", "unicode/utf8.acceptRanges"], plainKeys := false, apart := false, laid := [("unicode/utf8.acceptRanges", laid_unicode_utf8_acceptRanges), ("unicode/utf8.first", laid_unicode_utf8_first)], narrowed := true }
def LetterValidUptoSaid : Prop := letterValidUptoRow.holds Tryz.pinned (OpenSpec.upto letterValidSpec)

/-- 'declaimlaw03.LetterSplits', WHERE WHAT IT READS IS OF BULK AT MOST 1048576: true; the input reads as it did. -/
def letterSplitsUptoRow : OpenClaim := { program := "ytkmbliojafefdaagreatdoor", sum := "f94192e763de32f6974c0661dfe09df481b4356cde5c6496d8f4884b1d7382db", func := "declaim/declaimlaw03.LetterSplits", spec := "letterSplits", inPlace := ["internal/bytealg.abigen_runtime_cmpstring", "internal/abi.NoEscape", "internal/bytealg.MakeNoZero"], unfollowed := true, recurses := true, named := ["unicode/utf8.first", "unicode/utf8.acceptRanges"], plainKeys := false, apart := false, laid := [("unicode/utf8.acceptRanges", laid_unicode_utf8_acceptRanges), ("unicode/utf8.first", laid_unicode_utf8_first)], narrowed := true }
def LetterSplitsUptoSaid : Prop := letterSplitsUptoRow.holds Tryz.pinned (OpenSpec.upto letterSplitsSpec)

/-- 'declaimlaw03.LetterFewest', WHERE WHAT IT READS IS OF BULK AT MOST 1048576: true; the input reads as it did. -/
def letterFewestUptoRow : OpenClaim := { program := "ytkmbliojafefdaagreatdoor", sum := "f94192e763de32f6974c0661dfe09df481b4356cde5c6496d8f4884b1d7382db", func := "declaim/declaimlaw03.LetterFewest", spec := "letterFewest", inPlace := ["internal/bytealg.abigen_runtime_cmpstring", "internal/abi.NoEscape", "internal/bytealg.MakeNoZero"], unfollowed := true, recurses := true, named := ["unicode/utf8.first", "unicode/utf8.acceptRanges"], plainKeys := false, apart := false, laid := [("unicode/utf8.acceptRanges", laid_unicode_utf8_acceptRanges), ("unicode/utf8.first", laid_unicode_utf8_first)], narrowed := true }
def LetterFewestUptoSaid : Prop := letterFewestUptoRow.holds Tryz.pinned (OpenSpec.upto letterFewestSpec)

/-- 'declaimlaw03.LetterValidates', WHERE WHAT IT READS IS OF BULK AT MOST 1048576: true; the input reads as it did. -/
def letterValidatesUptoRow : OpenClaim := { program := "ytkmbliojafefdaagreatdoor", sum := "f94192e763de32f6974c0661dfe09df481b4356cde5c6496d8f4884b1d7382db", func := "declaim/declaimlaw03.LetterValidates", spec := "letterValidates", inPlace := ["internal/bytealg.abigen_runtime_cmpstring", "internal/abi.NoEscape", "internal/bytealg.MakeNoZero"], unfollowed := true, recurses := true, named := ["unicode/utf8.first", "unicode/utf8.acceptRanges"], plainKeys := false, apart := false, laid := [("unicode/utf8.acceptRanges", laid_unicode_utf8_acceptRanges), ("unicode/utf8.first", laid_unicode_utf8_first)], narrowed := true }
def LetterValidatesUptoSaid : Prop := letterValidatesUptoRow.holds Tryz.pinned (OpenSpec.upto letterValidatesSpec)

/-- 'declaimlaw03.LetterPronounces', WHERE WHAT IT READS IS OF BULK AT MOST 1048576: true; the input reads as it did. -/
def letterPronouncesUptoRow : OpenClaim := { program := "ytkmbliojafefdaagreatdoor", sum := "f94192e763de32f6974c0661dfe09df481b4356cde5c6496d8f4884b1d7382db", func := "declaim/declaimlaw03.LetterPronounces", spec := "letterPronounces", inPlace := ["internal/bytealg.abigen_runtime_cmpstring", "internal/abi.NoEscape", "internal/bytealg.MakeNoZero"], unfollowed := true, recurses := true, named := ["unicode/utf8.first", "unicode/utf8.acceptRanges"], plainKeys := false, apart := false, laid := [("unicode/utf8.acceptRanges", laid_unicode_utf8_acceptRanges), ("unicode/utf8.first", laid_unicode_utf8_first)], narrowed := true }
def LetterPronouncesUptoSaid : Prop := letterPronouncesUptoRow.holds Tryz.pinned (OpenSpec.upto letterPronouncesSpec)

/-- 'declaimlaw03.LetterReasons', WHERE WHAT IT READS IS OF BULK AT MOST 1048576: true; the input reads as it did. -/
def letterReasonsUptoRow : OpenClaim := { program := "ytkmbliojafefdaagreatdoor", sum := "f94192e763de32f6974c0661dfe09df481b4356cde5c6496d8f4884b1d7382db", func := "declaim/declaimlaw03.LetterReasons", spec := "letterReasons", inPlace := ["internal/bytealg.abigen_runtime_cmpstring", "internal/abi.NoEscape", "internal/bytealg.MakeNoZero"], unfollowed := true, recurses := true, named := ["unicode/utf8.first", "unicode/utf8.acceptRanges"], plainKeys := false, apart := false, laid := [("unicode/utf8.acceptRanges", laid_unicode_utf8_acceptRanges), ("unicode/utf8.first", laid_unicode_utf8_first)], narrowed := true }
def LetterReasonsUptoSaid : Prop := letterReasonsUptoRow.holds Tryz.pinned (OpenSpec.upto letterReasonsSpec)

end Rows
end Go.Proofs.YtkmbliojafefdaaGreatDoor
