/-
  No cell of these rows narrows 'for every input' (looked for: loops, veiled, ifaces, maps, wideKeys, modest, calm, conditions, laid).
  DERIVED. THE GIVEN ROWS OF THIS SEAT. 12 by the template 'for every input the law returns true; each argument reads behind the call as it read before'; 0 by the template 'total and deterministic' (their statements: YtekikelejncgeaaTotals.lean).
  GIVEN WITH THE SEED: the statements are not yours to turn. If you find one false, say at which input.
  Laid BY PROGRAM, IN A SANDBOX (cutbox-rows.mjs): the forced cells as the released guide's own fill.sh prints them over the translation 9d298defebf172e9… (all of the seat's roots in one cut). By AI agents, Wed Nov 11 2026. No macro, syntax, notation, axiom, sorry.
-/
import Derived.Test.YtekikelejncgeaaChecked
import GoSem.Claim
import GoSem.ClaimJoined
import GoSem.ClaimMapViews
import Derived.JoinedTies
import Derived.KernelRfl
namespace Go.Proofs.Ytekikelejncgeaa
/- THE CELL 'sum', in the pinned program and in every row, IS THE sha256 OF THE DUMP (.gsa) THAT YtekikelejncgeaaProg.lean LOADS. Nothing in Lean hashes anything: it is a label: what it is worth is what the hold of that sum in a sandbox is worth. -/
noncomputable def Try.pinned : Pinned := { name := "ytekikelejncgeaa", sum := "9d298defebf172e934e6bb123f945515d9080d3d0c9bcad7ba66c4e0a41c3e31", checked := Try.checked }
namespace Rows
def none {H : Type} : Left H := { results := [], args := [] }

/-- 'declaimlaw10.HouseTests': WHATEVER THE INPUT: true; the input reads as it did. -/
def houseTestsSpec : ChangeSpec := { name := "houseTests", fn := fun _ => fun
  | [d1, d2, d3, d4, d5] => { results := [.lit (.bool true)], args := [d1, d2, d3, d4, d5] }
  | _ => none }
def houseTestsRow : OpenClaim := { program := "ytekikelejncgeaa", sum := "9d298defebf172e934e6bb123f945515d9080d3d0c9bcad7ba66c4e0a41c3e31", func := "declaim/declaimlaw10.HouseTests", spec := "houseTests", unfollowed := true, recurses := true, plainKeys := false, apart := false }
def HouseTestsSaid : Prop := houseTestsRow.holds Try.pinned (OpenSpec.ofChange houseTestsSpec)

/-- ITS FALSE NEIGHBOUR: 'it returns false'. Refute it at one input. -/
def houseTestsWrong : ChangeSpec := { name := "houseTests", fn := fun _ => fun
  | [d1, d2, d3, d4, d5] => { results := [.lit (.bool false)], args := [d1, d2, d3, d4, d5] }
  | _ => none }
def HouseTestsWrongFalsely : Prop := houseTestsRow.holds Try.pinned (OpenSpec.ofChange houseTestsWrong)

/-- 'declaimlaw10.HouseChanges': WHATEVER THE INPUT: true; the input reads as it did. -/
def houseChangesSpec : ChangeSpec := { name := "houseChanges", fn := fun _ => fun
  | [d1, d2, d3] => { results := [.lit (.bool true)], args := [d1, d2, d3] }
  | _ => none }
def houseChangesRow : OpenClaim := { program := "ytekikelejncgeaa", sum := "9d298defebf172e934e6bb123f945515d9080d3d0c9bcad7ba66c4e0a41c3e31", func := "declaim/declaimlaw10.HouseChanges", spec := "houseChanges", unfollowed := true, recurses := true, plainKeys := false, apart := false }
def HouseChangesSaid : Prop := houseChangesRow.holds Try.pinned (OpenSpec.ofChange houseChangesSpec)

/-- ITS FALSE NEIGHBOUR: 'it returns false'. Refute it at one input. -/
def houseChangesWrong : ChangeSpec := { name := "houseChanges", fn := fun _ => fun
  | [d1, d2, d3] => { results := [.lit (.bool false)], args := [d1, d2, d3] }
  | _ => none }
def HouseChangesWrongFalsely : Prop := houseChangesRow.holds Try.pinned (OpenSpec.ofChange houseChangesWrong)

/-- 'declaimlaw10.HouseCounts': WHATEVER THE INPUT: true; the input reads as it did. -/
def houseCountsSpec : ChangeSpec := { name := "houseCounts", fn := fun _ => fun
  | [d1, d2] => { results := [.lit (.bool true)], args := [d1, d2] }
  | _ => none }
def houseCountsRow : OpenClaim := { program := "ytekikelejncgeaa", sum := "9d298defebf172e934e6bb123f945515d9080d3d0c9bcad7ba66c4e0a41c3e31", func := "declaim/declaimlaw10.HouseCounts", spec := "houseCounts", unfollowed := true, recurses := true, plainKeys := false, apart := false }
def HouseCountsSaid : Prop := houseCountsRow.holds Try.pinned (OpenSpec.ofChange houseCountsSpec)

/-- ITS FALSE NEIGHBOUR: 'it returns false'. Refute it at one input. -/
def houseCountsWrong : ChangeSpec := { name := "houseCounts", fn := fun _ => fun
  | [d1, d2] => { results := [.lit (.bool false)], args := [d1, d2] }
  | _ => none }
def HouseCountsWrongFalsely : Prop := houseCountsRow.holds Try.pinned (OpenSpec.ofChange houseCountsWrong)

/-- 'declaimlaw10.HouseFlips': WHATEVER THE INPUT: true; the input reads as it did. -/
def houseFlipsSpec : ChangeSpec := { name := "houseFlips", fn := fun _ => fun
  | [d1, d2, d3] => { results := [.lit (.bool true)], args := [d1, d2, d3] }
  | _ => none }
def houseFlipsRow : OpenClaim := { program := "ytekikelejncgeaa", sum := "9d298defebf172e934e6bb123f945515d9080d3d0c9bcad7ba66c4e0a41c3e31", func := "declaim/declaimlaw10.HouseFlips", spec := "houseFlips", unfollowed := true, recurses := true, plainKeys := false, apart := false }
def HouseFlipsSaid : Prop := houseFlipsRow.holds Try.pinned (OpenSpec.ofChange houseFlipsSpec)

/-- ITS FALSE NEIGHBOUR: 'it returns false'. Refute it at one input. -/
def houseFlipsWrong : ChangeSpec := { name := "houseFlips", fn := fun _ => fun
  | [d1, d2, d3] => { results := [.lit (.bool false)], args := [d1, d2, d3] }
  | _ => none }
def HouseFlipsWrongFalsely : Prop := houseFlipsRow.holds Try.pinned (OpenSpec.ofChange houseFlipsWrong)

/-- 'declaimlaw10.HouseChips': WHATEVER THE INPUT: true; the input reads as it did. -/
def houseChipsSpec : ChangeSpec := { name := "houseChips", fn := fun _ => fun
  | [d1, d2, d3, d4] => { results := [.lit (.bool true)], args := [d1, d2, d3, d4] }
  | _ => none }
def houseChipsRow : OpenClaim := { program := "ytekikelejncgeaa", sum := "9d298defebf172e934e6bb123f945515d9080d3d0c9bcad7ba66c4e0a41c3e31", func := "declaim/declaimlaw10.HouseChips", spec := "houseChips", unfollowed := true, recurses := true, plainKeys := false, apart := false }
def HouseChipsSaid : Prop := houseChipsRow.holds Try.pinned (OpenSpec.ofChange houseChipsSpec)

/-- ITS FALSE NEIGHBOUR: 'it returns false'. Refute it at one input. -/
def houseChipsWrong : ChangeSpec := { name := "houseChips", fn := fun _ => fun
  | [d1, d2, d3, d4] => { results := [.lit (.bool false)], args := [d1, d2, d3, d4] }
  | _ => none }
def HouseChipsWrongFalsely : Prop := houseChipsRow.holds Try.pinned (OpenSpec.ofChange houseChipsWrong)

/-- 'declaimlaw10.HouseWords': WHATEVER THE INPUT: true; the input reads as it did. -/
def houseWordsSpec : ChangeSpec := { name := "houseWords", fn := fun _ => fun
  | [d1, d2, d3] => { results := [.lit (.bool true)], args := [d1, d2, d3] }
  | _ => none }
def houseWordsRow : OpenClaim := { program := "ytekikelejncgeaa", sum := "9d298defebf172e934e6bb123f945515d9080d3d0c9bcad7ba66c4e0a41c3e31", func := "declaim/declaimlaw10.HouseWords", spec := "houseWords", unfollowed := true, recurses := true, plainKeys := false, apart := false }
def HouseWordsSaid : Prop := houseWordsRow.holds Try.pinned (OpenSpec.ofChange houseWordsSpec)

/-- ITS FALSE NEIGHBOUR: 'it returns false'. Refute it at one input. -/
def houseWordsWrong : ChangeSpec := { name := "houseWords", fn := fun _ => fun
  | [d1, d2, d3] => { results := [.lit (.bool false)], args := [d1, d2, d3] }
  | _ => none }
def HouseWordsWrongFalsely : Prop := houseWordsRow.holds Try.pinned (OpenSpec.ofChange houseWordsWrong)

/-- 'declaimlaw10.HouseSquares': WHATEVER THE INPUT: true; the input reads as it did. -/
def houseSquaresSpec : ChangeSpec := { name := "houseSquares", fn := fun _ => fun
  | [d] => { results := [.lit (.bool true)], args := [d] }
  | _ => none }
def houseSquaresRow : OpenClaim := { program := "ytekikelejncgeaa", sum := "9d298defebf172e934e6bb123f945515d9080d3d0c9bcad7ba66c4e0a41c3e31", func := "declaim/declaimlaw10.HouseSquares", spec := "houseSquares", unfollowed := true, recurses := true, plainKeys := false, apart := false }
def HouseSquaresSaid : Prop := houseSquaresRow.holds Try.pinned (OpenSpec.ofChange houseSquaresSpec)

/-- ITS FALSE NEIGHBOUR: 'it returns false'. Refute it at one input. -/
def houseSquaresWrong : ChangeSpec := { name := "houseSquares", fn := fun _ => fun
  | [d] => { results := [.lit (.bool false)], args := [d] }
  | _ => none }
def HouseSquaresWrongFalsely : Prop := houseSquaresRow.holds Try.pinned (OpenSpec.ofChange houseSquaresWrong)

/-- 'declaimlaw10.HouseBalances': WHATEVER THE INPUT: true; the input reads as it did. -/
def houseBalancesSpec : ChangeSpec := { name := "houseBalances", fn := fun _ => fun
  | [d1, d2] => { results := [.lit (.bool true)], args := [d1, d2] }
  | _ => none }
def houseBalancesRow : OpenClaim := { program := "ytekikelejncgeaa", sum := "9d298defebf172e934e6bb123f945515d9080d3d0c9bcad7ba66c4e0a41c3e31", func := "declaim/declaimlaw10.HouseBalances", spec := "houseBalances", unfollowed := true, recurses := true, plainKeys := false, apart := false }
def HouseBalancesSaid : Prop := houseBalancesRow.holds Try.pinned (OpenSpec.ofChange houseBalancesSpec)

/-- ITS FALSE NEIGHBOUR: 'it returns false'. Refute it at one input. -/
def houseBalancesWrong : ChangeSpec := { name := "houseBalances", fn := fun _ => fun
  | [d1, d2] => { results := [.lit (.bool false)], args := [d1, d2] }
  | _ => none }
def HouseBalancesWrongFalsely : Prop := houseBalancesRow.holds Try.pinned (OpenSpec.ofChange houseBalancesWrong)

/-- 'declaimlaw10.HouseSigns': WHATEVER THE INPUT: true; the input reads as it did. -/
def houseSignsSpec : ChangeSpec := { name := "houseSigns", fn := fun _ => fun
  | [d1, d2, d3] => { results := [.lit (.bool true)], args := [d1, d2, d3] }
  | _ => none }
def houseSignsRow : OpenClaim := { program := "ytekikelejncgeaa", sum := "9d298defebf172e934e6bb123f945515d9080d3d0c9bcad7ba66c4e0a41c3e31", func := "declaim/declaimlaw10.HouseSigns", spec := "houseSigns", unfollowed := true, recurses := true, plainKeys := false, apart := false }
def HouseSignsSaid : Prop := houseSignsRow.holds Try.pinned (OpenSpec.ofChange houseSignsSpec)

/-- ITS FALSE NEIGHBOUR: 'it returns false'. Refute it at one input. -/
def houseSignsWrong : ChangeSpec := { name := "houseSigns", fn := fun _ => fun
  | [d1, d2, d3] => { results := [.lit (.bool false)], args := [d1, d2, d3] }
  | _ => none }
def HouseSignsWrongFalsely : Prop := houseSignsRow.holds Try.pinned (OpenSpec.ofChange houseSignsWrong)

/-- 'declaimlaw10.HouseFinds': WHATEVER THE INPUT: true; the input reads as it did. -/
def houseFindsSpec : ChangeSpec := { name := "houseFinds", fn := fun _ => fun
  | [d1, d2, d3] => { results := [.lit (.bool true)], args := [d1, d2, d3] }
  | _ => none }
def houseFindsRow : OpenClaim := { program := "ytekikelejncgeaa", sum := "9d298defebf172e934e6bb123f945515d9080d3d0c9bcad7ba66c4e0a41c3e31", func := "declaim/declaimlaw10.HouseFinds", spec := "houseFinds", unfollowed := true, recurses := true, plainKeys := false, apart := false }
def HouseFindsSaid : Prop := houseFindsRow.holds Try.pinned (OpenSpec.ofChange houseFindsSpec)

/-- ITS FALSE NEIGHBOUR: 'it returns false'. Refute it at one input. -/
def houseFindsWrong : ChangeSpec := { name := "houseFinds", fn := fun _ => fun
  | [d1, d2, d3] => { results := [.lit (.bool false)], args := [d1, d2, d3] }
  | _ => none }
def HouseFindsWrongFalsely : Prop := houseFindsRow.holds Try.pinned (OpenSpec.ofChange houseFindsWrong)

/-- 'declaimlaw10.HouseMarks': WHATEVER THE INPUT: true; the input reads as it did. -/
def houseMarksSpec : ChangeSpec := { name := "houseMarks", fn := fun _ => fun
  | [d1, d2, d3, d4] => { results := [.lit (.bool true)], args := [d1, d2, d3, d4] }
  | _ => none }
def houseMarksRow : OpenClaim := { program := "ytekikelejncgeaa", sum := "9d298defebf172e934e6bb123f945515d9080d3d0c9bcad7ba66c4e0a41c3e31", func := "declaim/declaimlaw10.HouseMarks", spec := "houseMarks", unfollowed := true, recurses := true, plainKeys := false, apart := false }
def HouseMarksSaid : Prop := houseMarksRow.holds Try.pinned (OpenSpec.ofChange houseMarksSpec)

/-- ITS FALSE NEIGHBOUR: 'it returns false'. Refute it at one input. -/
def houseMarksWrong : ChangeSpec := { name := "houseMarks", fn := fun _ => fun
  | [d1, d2, d3, d4] => { results := [.lit (.bool false)], args := [d1, d2, d3, d4] }
  | _ => none }
def HouseMarksWrongFalsely : Prop := houseMarksRow.holds Try.pinned (OpenSpec.ofChange houseMarksWrong)

/-- 'declaimlaw10.HouseSurvives': WHATEVER THE INPUT: true; the input reads as it did. -/
def houseSurvivesSpec : ChangeSpec := { name := "houseSurvives", fn := fun _ => fun
  | [d1, d2, d3, d4, d5, d6, d7, d8, d9, d10] => { results := [.lit (.bool true)], args := [d1, d2, d3, d4, d5, d6, d7, d8, d9, d10] }
  | _ => none }
def houseSurvivesRow : OpenClaim := { program := "ytekikelejncgeaa", sum := "9d298defebf172e934e6bb123f945515d9080d3d0c9bcad7ba66c4e0a41c3e31", func := "declaim/declaimlaw10.HouseSurvives", spec := "houseSurvives", unfollowed := true, recurses := true, plainKeys := false, apart := false }
def HouseSurvivesSaid : Prop := houseSurvivesRow.holds Try.pinned (OpenSpec.ofChange houseSurvivesSpec)

/-- ITS FALSE NEIGHBOUR: 'it returns false'. Refute it at one input. -/
def houseSurvivesWrong : ChangeSpec := { name := "houseSurvives", fn := fun _ => fun
  | [d1, d2, d3, d4, d5, d6, d7, d8, d9, d10] => { results := [.lit (.bool false)], args := [d1, d2, d3, d4, d5, d6, d7, d8, d9, d10] }
  | _ => none }
def HouseSurvivesWrongFalsely : Prop := houseSurvivesRow.holds Try.pinned (OpenSpec.ofChange houseSurvivesWrong)

/- THE SECOND FORM. 'bulk': how many values and letters a reading holds, each counted each time it is reached (what is shared counts as often as it is met; a slice's spare places count too). A statement '..UptoSaid' is the law's where the arguments, and the package variables that the reading takes, are together of bulk at most 1048576: NARROWER than '..Said'. Prove '..Said' where nothing that the law and all that it calls make is longer than what came in: it says more and counts as full. Else prove '..UptoSaid'. A law counts once. -/
mutual
def uptoBulk {H : Type} : DataW H → Nat
  | .lit (.string bytes) => bytes.length + 1
  | .lit _ => 1
  | .nil => 1
  | .ptr d => uptoBulk d + 1
  | .slice elems spare => uptoBulkAll elems + uptoBulkAll spare + 1
  | .agg parts => uptoBulkAll parts + 1
  | .iface _ d => uptoBulk d + 1
  | .map entries => uptoBulkEntries entries + 1
  | .held _ => 1
def uptoBulkAll {H : Type} : List (DataW H) → Nat
  | [] => 0
  | d :: r => uptoBulk d + uptoBulkAll r
def uptoBulkEntries {H : Type} : List (Lit × DataW H) → Nat
  | [] => 0
  | x :: r => uptoBulkEntry x + uptoBulkEntries r
def uptoBulkEntry {H : Type} : Lit × DataW H → Nat
  | (.string bytes, d) => bytes.length + uptoBulk d + 1
  | (_, d) => uptoBulk d + 1
 end
def uptoSmall : (H : Type) → List (DataW H) → Bool := fun _ ds => decide (uptoBulkAll ds ≤ 1048576)
def OpenSpec.upto (s : _root_.Go.ChangeSpec) : _root_.Go.OpenSpec := { _root_.Go.OpenSpec.ofChange s with cond := some uptoSmall }

/-- 'declaimlaw10.HouseTests', WHERE WHAT IT READS IS OF BULK AT MOST 1048576: true; the input reads as it did. -/
def houseTestsUptoRow : OpenClaim := { program := "ytekikelejncgeaa", sum := "9d298defebf172e934e6bb123f945515d9080d3d0c9bcad7ba66c4e0a41c3e31", func := "declaim/declaimlaw10.HouseTests", spec := "houseTests", unfollowed := true, recurses := true, plainKeys := false, apart := false, narrowed := true }
def HouseTestsUptoSaid : Prop := houseTestsUptoRow.holds Try.pinned (OpenSpec.upto houseTestsSpec)

/-- 'declaimlaw10.HouseChanges', WHERE WHAT IT READS IS OF BULK AT MOST 1048576: true; the input reads as it did. -/
def houseChangesUptoRow : OpenClaim := { program := "ytekikelejncgeaa", sum := "9d298defebf172e934e6bb123f945515d9080d3d0c9bcad7ba66c4e0a41c3e31", func := "declaim/declaimlaw10.HouseChanges", spec := "houseChanges", unfollowed := true, recurses := true, plainKeys := false, apart := false, narrowed := true }
def HouseChangesUptoSaid : Prop := houseChangesUptoRow.holds Try.pinned (OpenSpec.upto houseChangesSpec)

/-- 'declaimlaw10.HouseCounts', WHERE WHAT IT READS IS OF BULK AT MOST 1048576: true; the input reads as it did. -/
def houseCountsUptoRow : OpenClaim := { program := "ytekikelejncgeaa", sum := "9d298defebf172e934e6bb123f945515d9080d3d0c9bcad7ba66c4e0a41c3e31", func := "declaim/declaimlaw10.HouseCounts", spec := "houseCounts", unfollowed := true, recurses := true, plainKeys := false, apart := false, narrowed := true }
def HouseCountsUptoSaid : Prop := houseCountsUptoRow.holds Try.pinned (OpenSpec.upto houseCountsSpec)

/-- 'declaimlaw10.HouseFlips', WHERE WHAT IT READS IS OF BULK AT MOST 1048576: true; the input reads as it did. -/
def houseFlipsUptoRow : OpenClaim := { program := "ytekikelejncgeaa", sum := "9d298defebf172e934e6bb123f945515d9080d3d0c9bcad7ba66c4e0a41c3e31", func := "declaim/declaimlaw10.HouseFlips", spec := "houseFlips", unfollowed := true, recurses := true, plainKeys := false, apart := false, narrowed := true }
def HouseFlipsUptoSaid : Prop := houseFlipsUptoRow.holds Try.pinned (OpenSpec.upto houseFlipsSpec)

/-- 'declaimlaw10.HouseChips', WHERE WHAT IT READS IS OF BULK AT MOST 1048576: true; the input reads as it did. -/
def houseChipsUptoRow : OpenClaim := { program := "ytekikelejncgeaa", sum := "9d298defebf172e934e6bb123f945515d9080d3d0c9bcad7ba66c4e0a41c3e31", func := "declaim/declaimlaw10.HouseChips", spec := "houseChips", unfollowed := true, recurses := true, plainKeys := false, apart := false, narrowed := true }
def HouseChipsUptoSaid : Prop := houseChipsUptoRow.holds Try.pinned (OpenSpec.upto houseChipsSpec)

/-- 'declaimlaw10.HouseWords', WHERE WHAT IT READS IS OF BULK AT MOST 1048576: true; the input reads as it did. -/
def houseWordsUptoRow : OpenClaim := { program := "ytekikelejncgeaa", sum := "9d298defebf172e934e6bb123f945515d9080d3d0c9bcad7ba66c4e0a41c3e31", func := "declaim/declaimlaw10.HouseWords", spec := "houseWords", unfollowed := true, recurses := true, plainKeys := false, apart := false, narrowed := true }
def HouseWordsUptoSaid : Prop := houseWordsUptoRow.holds Try.pinned (OpenSpec.upto houseWordsSpec)

/-- 'declaimlaw10.HouseSquares', WHERE WHAT IT READS IS OF BULK AT MOST 1048576: true; the input reads as it did. -/
def houseSquaresUptoRow : OpenClaim := { program := "ytekikelejncgeaa", sum := "9d298defebf172e934e6bb123f945515d9080d3d0c9bcad7ba66c4e0a41c3e31", func := "declaim/declaimlaw10.HouseSquares", spec := "houseSquares", unfollowed := true, recurses := true, plainKeys := false, apart := false, narrowed := true }
def HouseSquaresUptoSaid : Prop := houseSquaresUptoRow.holds Try.pinned (OpenSpec.upto houseSquaresSpec)

/-- 'declaimlaw10.HouseBalances', WHERE WHAT IT READS IS OF BULK AT MOST 1048576: true; the input reads as it did. -/
def houseBalancesUptoRow : OpenClaim := { program := "ytekikelejncgeaa", sum := "9d298defebf172e934e6bb123f945515d9080d3d0c9bcad7ba66c4e0a41c3e31", func := "declaim/declaimlaw10.HouseBalances", spec := "houseBalances", unfollowed := true, recurses := true, plainKeys := false, apart := false, narrowed := true }
def HouseBalancesUptoSaid : Prop := houseBalancesUptoRow.holds Try.pinned (OpenSpec.upto houseBalancesSpec)

/-- 'declaimlaw10.HouseSigns', WHERE WHAT IT READS IS OF BULK AT MOST 1048576: true; the input reads as it did. -/
def houseSignsUptoRow : OpenClaim := { program := "ytekikelejncgeaa", sum := "9d298defebf172e934e6bb123f945515d9080d3d0c9bcad7ba66c4e0a41c3e31", func := "declaim/declaimlaw10.HouseSigns", spec := "houseSigns", unfollowed := true, recurses := true, plainKeys := false, apart := false, narrowed := true }
def HouseSignsUptoSaid : Prop := houseSignsUptoRow.holds Try.pinned (OpenSpec.upto houseSignsSpec)

/-- 'declaimlaw10.HouseFinds', WHERE WHAT IT READS IS OF BULK AT MOST 1048576: true; the input reads as it did. -/
def houseFindsUptoRow : OpenClaim := { program := "ytekikelejncgeaa", sum := "9d298defebf172e934e6bb123f945515d9080d3d0c9bcad7ba66c4e0a41c3e31", func := "declaim/declaimlaw10.HouseFinds", spec := "houseFinds", unfollowed := true, recurses := true, plainKeys := false, apart := false, narrowed := true }
def HouseFindsUptoSaid : Prop := houseFindsUptoRow.holds Try.pinned (OpenSpec.upto houseFindsSpec)

/-- 'declaimlaw10.HouseMarks', WHERE WHAT IT READS IS OF BULK AT MOST 1048576: true; the input reads as it did. -/
def houseMarksUptoRow : OpenClaim := { program := "ytekikelejncgeaa", sum := "9d298defebf172e934e6bb123f945515d9080d3d0c9bcad7ba66c4e0a41c3e31", func := "declaim/declaimlaw10.HouseMarks", spec := "houseMarks", unfollowed := true, recurses := true, plainKeys := false, apart := false, narrowed := true }
def HouseMarksUptoSaid : Prop := houseMarksUptoRow.holds Try.pinned (OpenSpec.upto houseMarksSpec)

/-- 'declaimlaw10.HouseSurvives', WHERE WHAT IT READS IS OF BULK AT MOST 1048576: true; the input reads as it did. -/
def houseSurvivesUptoRow : OpenClaim := { program := "ytekikelejncgeaa", sum := "9d298defebf172e934e6bb123f945515d9080d3d0c9bcad7ba66c4e0a41c3e31", func := "declaim/declaimlaw10.HouseSurvives", spec := "houseSurvives", unfollowed := true, recurses := true, plainKeys := false, apart := false, narrowed := true }
def HouseSurvivesUptoSaid : Prop := houseSurvivesUptoRow.holds Try.pinned (OpenSpec.upto houseSurvivesSpec)

end Rows
end Go.Proofs.Ytekikelejncgeaa
