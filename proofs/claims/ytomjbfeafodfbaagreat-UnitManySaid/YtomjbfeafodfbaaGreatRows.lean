/-
  No cell of these rows narrows 'for every input' (looked for: loops, veiled, ifaces, maps, wideKeys, modest, calm, conditions, laid).
  DERIVED. THE GIVEN ROWS OF THIS SEAT. 14 by the template 'for every input the law returns true; each argument reads behind the call as it read before'; 0 by the template 'total and deterministic' (their statements: YtomjbfeafodfbaaGreatTotals.lean).
  GIVEN WITH THE SEED: the statements are not yours to turn. If you find one false, say at which input.
  Laid BY PROGRAM, IN A SANDBOX (cutbox-rows.mjs): the forced cells as the released guide's own fill.sh prints them over the translation 8b61224c2a3de2ff… (all of the seat's roots in one cut). By AI agents, Wed Nov 11 2026. No macro, syntax, notation, axiom, sorry.
-/
import Derived.Test.YtomjbfeafodfbaaGreatChecked
import GoSem.Claim
import GoSem.ClaimJoined
import GoSem.ClaimMapViews
import Derived.JoinedTies
import Derived.KernelRfl
namespace Go.Proofs.YtomjbfeafodfbaaGreat
/- THE CELL 'sum', in the pinned program and in every row, IS THE sha256 OF THE DUMP (.gsa) THAT YtomjbfeafodfbaaGreatProg.lean LOADS. Nothing in Lean hashes anything: it is a label: what it is worth is what the hold of that sum in a sandbox is worth. -/
noncomputable def Tryz.pinned : Pinned := { name := "ytomjbfeafodfbaagreat", sum := "8b61224c2a3de2ff64a71a76e432b2cd33c82316e0e74cd3ec07d63d9f39e365", checked := Tryz.checked }
namespace Rows
def none {H : Type} : Left H := { results := [], args := [] }

/-- 'declaimlaw06.UnitChooses': WHATEVER THE INPUT: true; the input reads as it did. -/
def unitChoosesSpec : ChangeSpec := { name := "unitChooses", fn := fun _ => fun
  | [d1, d2, d3] => { results := [.lit (.bool true)], args := [d1, d2, d3] }
  | _ => none }
def unitChoosesRow : OpenClaim := { program := "ytomjbfeafodfbaagreat", sum := "8b61224c2a3de2ff64a71a76e432b2cd33c82316e0e74cd3ec07d63d9f39e365", func := "declaim/declaimlaw06.UnitChooses", spec := "unitChooses", unfollowed := true, recurses := true, plainKeys := false, apart := false }
def UnitChoosesSaid : Prop := unitChoosesRow.holds Tryz.pinned (OpenSpec.ofChange unitChoosesSpec)

/-- ITS FALSE NEIGHBOUR: 'it returns false'. Refute it at one input. -/
def unitChoosesWrong : ChangeSpec := { name := "unitChooses", fn := fun _ => fun
  | [d1, d2, d3] => { results := [.lit (.bool false)], args := [d1, d2, d3] }
  | _ => none }
def UnitChoosesWrongFalsely : Prop := unitChoosesRow.holds Tryz.pinned (OpenSpec.ofChange unitChoosesWrong)

/-- 'declaimlaw06.UnitBest': WHATEVER THE INPUT: true; the input reads as it did. -/
def unitBestSpec : ChangeSpec := { name := "unitBest", fn := fun _ => fun
  | [d1, d2, d3, d4] => { results := [.lit (.bool true)], args := [d1, d2, d3, d4] }
  | _ => none }
def unitBestRow : OpenClaim := { program := "ytomjbfeafodfbaagreat", sum := "8b61224c2a3de2ff64a71a76e432b2cd33c82316e0e74cd3ec07d63d9f39e365", func := "declaim/declaimlaw06.UnitBest", spec := "unitBest", unfollowed := true, recurses := true, plainKeys := false, apart := false }
def UnitBestSaid : Prop := unitBestRow.holds Tryz.pinned (OpenSpec.ofChange unitBestSpec)

/-- ITS FALSE NEIGHBOUR: 'it returns false'. Refute it at one input. -/
def unitBestWrong : ChangeSpec := { name := "unitBest", fn := fun _ => fun
  | [d1, d2, d3, d4] => { results := [.lit (.bool false)], args := [d1, d2, d3, d4] }
  | _ => none }
def UnitBestWrongFalsely : Prop := unitBestRow.holds Tryz.pinned (OpenSpec.ofChange unitBestWrong)

/-- 'declaimlaw06.UnitAgain': WHATEVER THE INPUT: true; the input reads as it did. -/
def unitAgainSpec : ChangeSpec := { name := "unitAgain", fn := fun _ => fun
  | [d1, d2, d3, d4] => { results := [.lit (.bool true)], args := [d1, d2, d3, d4] }
  | _ => none }
def unitAgainRow : OpenClaim := { program := "ytomjbfeafodfbaagreat", sum := "8b61224c2a3de2ff64a71a76e432b2cd33c82316e0e74cd3ec07d63d9f39e365", func := "declaim/declaimlaw06.UnitAgain", spec := "unitAgain", unfollowed := true, recurses := true, plainKeys := false, apart := false }
def UnitAgainSaid : Prop := unitAgainRow.holds Tryz.pinned (OpenSpec.ofChange unitAgainSpec)

/-- ITS FALSE NEIGHBOUR: 'it returns false'. Refute it at one input. -/
def unitAgainWrong : ChangeSpec := { name := "unitAgain", fn := fun _ => fun
  | [d1, d2, d3, d4] => { results := [.lit (.bool false)], args := [d1, d2, d3, d4] }
  | _ => none }
def UnitAgainWrongFalsely : Prop := unitAgainRow.holds Tryz.pinned (OpenSpec.ofChange unitAgainWrong)

/-- 'declaimlaw06.UnitCuts': WHATEVER THE INPUT: true; the input reads as it did. -/
def unitCutsSpec : ChangeSpec := { name := "unitCuts", fn := fun _ => fun
  | [d1, d2, d3] => { results := [.lit (.bool true)], args := [d1, d2, d3] }
  | _ => none }
def unitCutsRow : OpenClaim := { program := "ytomjbfeafodfbaagreat", sum := "8b61224c2a3de2ff64a71a76e432b2cd33c82316e0e74cd3ec07d63d9f39e365", func := "declaim/declaimlaw06.UnitCuts", spec := "unitCuts", unfollowed := true, recurses := true, plainKeys := false, apart := false }
def UnitCutsSaid : Prop := unitCutsRow.holds Tryz.pinned (OpenSpec.ofChange unitCutsSpec)

/-- ITS FALSE NEIGHBOUR: 'it returns false'. Refute it at one input. -/
def unitCutsWrong : ChangeSpec := { name := "unitCuts", fn := fun _ => fun
  | [d1, d2, d3] => { results := [.lit (.bool false)], args := [d1, d2, d3] }
  | _ => none }
def UnitCutsWrongFalsely : Prop := unitCutsRow.holds Tryz.pinned (OpenSpec.ofChange unitCutsWrong)

/-- 'declaimlaw06.UnitPrices': WHATEVER THE INPUT: true; the input reads as it did. -/
def unitPricesSpec : ChangeSpec := { name := "unitPrices", fn := fun _ => fun
  | [d1, d2] => { results := [.lit (.bool true)], args := [d1, d2] }
  | _ => none }
def unitPricesRow : OpenClaim := { program := "ytomjbfeafodfbaagreat", sum := "8b61224c2a3de2ff64a71a76e432b2cd33c82316e0e74cd3ec07d63d9f39e365", func := "declaim/declaimlaw06.UnitPrices", spec := "unitPrices", unfollowed := true, recurses := true, plainKeys := false, apart := false }
def UnitPricesSaid : Prop := unitPricesRow.holds Tryz.pinned (OpenSpec.ofChange unitPricesSpec)

/-- ITS FALSE NEIGHBOUR: 'it returns false'. Refute it at one input. -/
def unitPricesWrong : ChangeSpec := { name := "unitPrices", fn := fun _ => fun
  | [d1, d2] => { results := [.lit (.bool false)], args := [d1, d2] }
  | _ => none }
def UnitPricesWrongFalsely : Prop := unitPricesRow.holds Tryz.pinned (OpenSpec.ofChange unitPricesWrong)

/-- 'declaimlaw06.UnitProves': WHATEVER THE INPUT: true; the input reads as it did. -/
def unitProvesSpec : ChangeSpec := { name := "unitProves", fn := fun _ => fun
  | [d1, d2, d3, d4] => { results := [.lit (.bool true)], args := [d1, d2, d3, d4] }
  | _ => none }
def unitProvesRow : OpenClaim := { program := "ytomjbfeafodfbaagreat", sum := "8b61224c2a3de2ff64a71a76e432b2cd33c82316e0e74cd3ec07d63d9f39e365", func := "declaim/declaimlaw06.UnitProves", spec := "unitProves", unfollowed := true, recurses := true, plainKeys := false, apart := false }
def UnitProvesSaid : Prop := unitProvesRow.holds Tryz.pinned (OpenSpec.ofChange unitProvesSpec)

/-- ITS FALSE NEIGHBOUR: 'it returns false'. Refute it at one input. -/
def unitProvesWrong : ChangeSpec := { name := "unitProves", fn := fun _ => fun
  | [d1, d2, d3, d4] => { results := [.lit (.bool false)], args := [d1, d2, d3, d4] }
  | _ => none }
def UnitProvesWrongFalsely : Prop := unitProvesRow.holds Tryz.pinned (OpenSpec.ofChange unitProvesWrong)

/-- 'declaimlaw06.UnitBounds': WHATEVER THE INPUT: true; the input reads as it did. -/
def unitBoundsSpec : ChangeSpec := { name := "unitBounds", fn := fun _ => fun
  | [d1, d2, d3, d4] => { results := [.lit (.bool true)], args := [d1, d2, d3, d4] }
  | _ => none }
def unitBoundsRow : OpenClaim := { program := "ytomjbfeafodfbaagreat", sum := "8b61224c2a3de2ff64a71a76e432b2cd33c82316e0e74cd3ec07d63d9f39e365", func := "declaim/declaimlaw06.UnitBounds", spec := "unitBounds", unfollowed := true, recurses := true, plainKeys := false, apart := false }
def UnitBoundsSaid : Prop := unitBoundsRow.holds Tryz.pinned (OpenSpec.ofChange unitBoundsSpec)

/-- ITS FALSE NEIGHBOUR: 'it returns false'. Refute it at one input. -/
def unitBoundsWrong : ChangeSpec := { name := "unitBounds", fn := fun _ => fun
  | [d1, d2, d3, d4] => { results := [.lit (.bool false)], args := [d1, d2, d3, d4] }
  | _ => none }
def UnitBoundsWrongFalsely : Prop := unitBoundsRow.holds Tryz.pinned (OpenSpec.ofChange unitBoundsWrong)

/-- 'declaimlaw06.UnitCosts': WHATEVER THE INPUT: true; the input reads as it did. -/
def unitCostsSpec : ChangeSpec := { name := "unitCosts", fn := fun _ => fun
  | [d1, d2, d3, d4, d5] => { results := [.lit (.bool true)], args := [d1, d2, d3, d4, d5] }
  | _ => none }
def unitCostsRow : OpenClaim := { program := "ytomjbfeafodfbaagreat", sum := "8b61224c2a3de2ff64a71a76e432b2cd33c82316e0e74cd3ec07d63d9f39e365", func := "declaim/declaimlaw06.UnitCosts", spec := "unitCosts", unfollowed := true, recurses := true, plainKeys := false, apart := false }
def UnitCostsSaid : Prop := unitCostsRow.holds Tryz.pinned (OpenSpec.ofChange unitCostsSpec)

/-- ITS FALSE NEIGHBOUR: 'it returns false'. Refute it at one input. -/
def unitCostsWrong : ChangeSpec := { name := "unitCosts", fn := fun _ => fun
  | [d1, d2, d3, d4, d5] => { results := [.lit (.bool false)], args := [d1, d2, d3, d4, d5] }
  | _ => none }
def UnitCostsWrongFalsely : Prop := unitCostsRow.holds Tryz.pinned (OpenSpec.ofChange unitCostsWrong)

/-- 'declaimlaw06.UnitHolds': WHATEVER THE INPUT: true; the input reads as it did. -/
def unitHoldsSpec : ChangeSpec := { name := "unitHolds", fn := fun _ => fun
  | [d1, d2, d3, d4, d5] => { results := [.lit (.bool true)], args := [d1, d2, d3, d4, d5] }
  | _ => none }
def unitHoldsRow : OpenClaim := { program := "ytomjbfeafodfbaagreat", sum := "8b61224c2a3de2ff64a71a76e432b2cd33c82316e0e74cd3ec07d63d9f39e365", func := "declaim/declaimlaw06.UnitHolds", spec := "unitHolds", unfollowed := true, recurses := true, plainKeys := false, apart := false }
def UnitHoldsSaid : Prop := unitHoldsRow.holds Tryz.pinned (OpenSpec.ofChange unitHoldsSpec)

/-- ITS FALSE NEIGHBOUR: 'it returns false'. Refute it at one input. -/
def unitHoldsWrong : ChangeSpec := { name := "unitHolds", fn := fun _ => fun
  | [d1, d2, d3, d4, d5] => { results := [.lit (.bool false)], args := [d1, d2, d3, d4, d5] }
  | _ => none }
def UnitHoldsWrongFalsely : Prop := unitHoldsRow.holds Tryz.pinned (OpenSpec.ofChange unitHoldsWrong)

/-- 'declaimlaw06.UnitProved': WHATEVER THE INPUT: true; the input reads as it did. -/
def unitProvedSpec : ChangeSpec := { name := "unitProved", fn := fun _ => fun
  | [d1, d2, d3, d4, d5] => { results := [.lit (.bool true)], args := [d1, d2, d3, d4, d5] }
  | _ => none }
def unitProvedRow : OpenClaim := { program := "ytomjbfeafodfbaagreat", sum := "8b61224c2a3de2ff64a71a76e432b2cd33c82316e0e74cd3ec07d63d9f39e365", func := "declaim/declaimlaw06.UnitProved", spec := "unitProved", unfollowed := true, recurses := true, plainKeys := false, apart := false }
def UnitProvedSaid : Prop := unitProvedRow.holds Tryz.pinned (OpenSpec.ofChange unitProvedSpec)

/-- ITS FALSE NEIGHBOUR: 'it returns false'. Refute it at one input. -/
def unitProvedWrong : ChangeSpec := { name := "unitProved", fn := fun _ => fun
  | [d1, d2, d3, d4, d5] => { results := [.lit (.bool false)], args := [d1, d2, d3, d4, d5] }
  | _ => none }
def UnitProvedWrongFalsely : Prop := unitProvedRow.holds Tryz.pinned (OpenSpec.ofChange unitProvedWrong)

/-- 'declaimlaw06.UnitLengths': WHATEVER THE INPUT: true; the input reads as it did. -/
def unitLengthsSpec : ChangeSpec := { name := "unitLengths", fn := fun _ => fun
  | [d1, d2, d3, d4] => { results := [.lit (.bool true)], args := [d1, d2, d3, d4] }
  | _ => none }
def unitLengthsRow : OpenClaim := { program := "ytomjbfeafodfbaagreat", sum := "8b61224c2a3de2ff64a71a76e432b2cd33c82316e0e74cd3ec07d63d9f39e365", func := "declaim/declaimlaw06.UnitLengths", spec := "unitLengths", unfollowed := true, recurses := true, plainKeys := false, apart := false }
def UnitLengthsSaid : Prop := unitLengthsRow.holds Tryz.pinned (OpenSpec.ofChange unitLengthsSpec)

/-- ITS FALSE NEIGHBOUR: 'it returns false'. Refute it at one input. -/
def unitLengthsWrong : ChangeSpec := { name := "unitLengths", fn := fun _ => fun
  | [d1, d2, d3, d4] => { results := [.lit (.bool false)], args := [d1, d2, d3, d4] }
  | _ => none }
def UnitLengthsWrongFalsely : Prop := unitLengthsRow.holds Tryz.pinned (OpenSpec.ofChange unitLengthsWrong)

/-- 'declaimlaw06.UnitSums': WHATEVER THE INPUT: true; the input reads as it did. -/
def unitSumsSpec : ChangeSpec := { name := "unitSums", fn := fun _ => fun
  | [d1, d2, d3, d4] => { results := [.lit (.bool true)], args := [d1, d2, d3, d4] }
  | _ => none }
def unitSumsRow : OpenClaim := { program := "ytomjbfeafodfbaagreat", sum := "8b61224c2a3de2ff64a71a76e432b2cd33c82316e0e74cd3ec07d63d9f39e365", func := "declaim/declaimlaw06.UnitSums", spec := "unitSums", unfollowed := true, recurses := true, plainKeys := false, apart := false }
def UnitSumsSaid : Prop := unitSumsRow.holds Tryz.pinned (OpenSpec.ofChange unitSumsSpec)

/-- ITS FALSE NEIGHBOUR: 'it returns false'. Refute it at one input. -/
def unitSumsWrong : ChangeSpec := { name := "unitSums", fn := fun _ => fun
  | [d1, d2, d3, d4] => { results := [.lit (.bool false)], args := [d1, d2, d3, d4] }
  | _ => none }
def UnitSumsWrongFalsely : Prop := unitSumsRow.holds Tryz.pinned (OpenSpec.ofChange unitSumsWrong)

/-- 'declaimlaw06.UnitCovers': WHATEVER THE INPUT: true; the input reads as it did. -/
def unitCoversSpec : ChangeSpec := { name := "unitCovers", fn := fun _ => fun
  | [d1, d2] => { results := [.lit (.bool true)], args := [d1, d2] }
  | _ => none }
def unitCoversRow : OpenClaim := { program := "ytomjbfeafodfbaagreat", sum := "8b61224c2a3de2ff64a71a76e432b2cd33c82316e0e74cd3ec07d63d9f39e365", func := "declaim/declaimlaw06.UnitCovers", spec := "unitCovers", unfollowed := true, recurses := true, plainKeys := false, apart := false }
def UnitCoversSaid : Prop := unitCoversRow.holds Tryz.pinned (OpenSpec.ofChange unitCoversSpec)

/-- ITS FALSE NEIGHBOUR: 'it returns false'. Refute it at one input. -/
def unitCoversWrong : ChangeSpec := { name := "unitCovers", fn := fun _ => fun
  | [d1, d2] => { results := [.lit (.bool false)], args := [d1, d2] }
  | _ => none }
def UnitCoversWrongFalsely : Prop := unitCoversRow.holds Tryz.pinned (OpenSpec.ofChange unitCoversWrong)

/-- 'declaimlaw06.UnitMany': WHATEVER THE INPUT: true; the input reads as it did. -/
def unitManySpec : ChangeSpec := { name := "unitMany", fn := fun _ => fun
  | [d1, d2] => { results := [.lit (.bool true)], args := [d1, d2] }
  | _ => none }
def unitManyRow : OpenClaim := { program := "ytomjbfeafodfbaagreat", sum := "8b61224c2a3de2ff64a71a76e432b2cd33c82316e0e74cd3ec07d63d9f39e365", func := "declaim/declaimlaw06.UnitMany", spec := "unitMany", unfollowed := true, recurses := true, plainKeys := false, apart := false }
def UnitManySaid : Prop := unitManyRow.holds Tryz.pinned (OpenSpec.ofChange unitManySpec)

/-- ITS FALSE NEIGHBOUR: 'it returns false'. Refute it at one input. -/
def unitManyWrong : ChangeSpec := { name := "unitMany", fn := fun _ => fun
  | [d1, d2] => { results := [.lit (.bool false)], args := [d1, d2] }
  | _ => none }
def UnitManyWrongFalsely : Prop := unitManyRow.holds Tryz.pinned (OpenSpec.ofChange unitManyWrong)

/- THE SECOND FORM. 'bulk': how many values and letters a reading holds, each counted each time it is reached (what is shared counts as often as it is met; a slice's spare places count too). A statement '..UptoSaid' is the law's where the arguments, and the package variables that the reading takes, are together of bulk at most 1048576: NARROWER than '..Said'. Prove '..Said' where nothing that the law and all that it calls make is longer than what came in: it says more and counts as full. Else prove '..UptoSaid'. A law counts once. -/
mutual
def uptoBulk {H : Type} : DataW H → Nat
  | .lit (.string bytes) => bytes.length + 1
  | .lit _ => 1
  | .nil => 1
  | .ptr d => uptoBulk d + 1
  | .slice elems spare => uptoBulkAll elems + uptoBulkAll spare + 1
  | .agg parts => uptoBulkAll parts + 1
  | .iface _ d => uptoBulk d + 1
  | .map entries => uptoBulkEntries entries + 1
  | .held _ => 1
def uptoBulkAll {H : Type} : List (DataW H) → Nat
  | [] => 0
  | d :: r => uptoBulk d + uptoBulkAll r
def uptoBulkEntries {H : Type} : List (Lit × DataW H) → Nat
  | [] => 0
  | x :: r => uptoBulkEntry x + uptoBulkEntries r
def uptoBulkEntry {H : Type} : Lit × DataW H → Nat
  | (.string bytes, d) => bytes.length + uptoBulk d + 1
  | (_, d) => uptoBulk d + 1
 end
def uptoSmall : (H : Type) → List (DataW H) → Bool := fun _ ds => decide (uptoBulkAll ds ≤ 1048576)
def OpenSpec.upto (s : _root_.Go.ChangeSpec) : _root_.Go.OpenSpec := { _root_.Go.OpenSpec.ofChange s with cond := some uptoSmall }

/-- 'declaimlaw06.UnitChooses', WHERE WHAT IT READS IS OF BULK AT MOST 1048576: true; the input reads as it did. -/
def unitChoosesUptoRow : OpenClaim := { program := "ytomjbfeafodfbaagreat", sum := "8b61224c2a3de2ff64a71a76e432b2cd33c82316e0e74cd3ec07d63d9f39e365", func := "declaim/declaimlaw06.UnitChooses", spec := "unitChooses", unfollowed := true, recurses := true, plainKeys := false, apart := false, narrowed := true }
def UnitChoosesUptoSaid : Prop := unitChoosesUptoRow.holds Tryz.pinned (OpenSpec.upto unitChoosesSpec)

/-- 'declaimlaw06.UnitBest', WHERE WHAT IT READS IS OF BULK AT MOST 1048576: true; the input reads as it did. -/
def unitBestUptoRow : OpenClaim := { program := "ytomjbfeafodfbaagreat", sum := "8b61224c2a3de2ff64a71a76e432b2cd33c82316e0e74cd3ec07d63d9f39e365", func := "declaim/declaimlaw06.UnitBest", spec := "unitBest", unfollowed := true, recurses := true, plainKeys := false, apart := false, narrowed := true }
def UnitBestUptoSaid : Prop := unitBestUptoRow.holds Tryz.pinned (OpenSpec.upto unitBestSpec)

/-- 'declaimlaw06.UnitAgain', WHERE WHAT IT READS IS OF BULK AT MOST 1048576: true; the input reads as it did. -/
def unitAgainUptoRow : OpenClaim := { program := "ytomjbfeafodfbaagreat", sum := "8b61224c2a3de2ff64a71a76e432b2cd33c82316e0e74cd3ec07d63d9f39e365", func := "declaim/declaimlaw06.UnitAgain", spec := "unitAgain", unfollowed := true, recurses := true, plainKeys := false, apart := false, narrowed := true }
def UnitAgainUptoSaid : Prop := unitAgainUptoRow.holds Tryz.pinned (OpenSpec.upto unitAgainSpec)

/-- 'declaimlaw06.UnitCuts', WHERE WHAT IT READS IS OF BULK AT MOST 1048576: true; the input reads as it did. -/
def unitCutsUptoRow : OpenClaim := { program := "ytomjbfeafodfbaagreat", sum := "8b61224c2a3de2ff64a71a76e432b2cd33c82316e0e74cd3ec07d63d9f39e365", func := "declaim/declaimlaw06.UnitCuts", spec := "unitCuts", unfollowed := true, recurses := true, plainKeys := false, apart := false, narrowed := true }
def UnitCutsUptoSaid : Prop := unitCutsUptoRow.holds Tryz.pinned (OpenSpec.upto unitCutsSpec)

/-- 'declaimlaw06.UnitPrices', WHERE WHAT IT READS IS OF BULK AT MOST 1048576: true; the input reads as it did. -/
def unitPricesUptoRow : OpenClaim := { program := "ytomjbfeafodfbaagreat", sum := "8b61224c2a3de2ff64a71a76e432b2cd33c82316e0e74cd3ec07d63d9f39e365", func := "declaim/declaimlaw06.UnitPrices", spec := "unitPrices", unfollowed := true, recurses := true, plainKeys := false, apart := false, narrowed := true }
def UnitPricesUptoSaid : Prop := unitPricesUptoRow.holds Tryz.pinned (OpenSpec.upto unitPricesSpec)

/-- 'declaimlaw06.UnitProves', WHERE WHAT IT READS IS OF BULK AT MOST 1048576: true; the input reads as it did. -/
def unitProvesUptoRow : OpenClaim := { program := "ytomjbfeafodfbaagreat", sum := "8b61224c2a3de2ff64a71a76e432b2cd33c82316e0e74cd3ec07d63d9f39e365", func := "declaim/declaimlaw06.UnitProves", spec := "unitProves", unfollowed := true, recurses := true, plainKeys := false, apart := false, narrowed := true }
def UnitProvesUptoSaid : Prop := unitProvesUptoRow.holds Tryz.pinned (OpenSpec.upto unitProvesSpec)

/-- 'declaimlaw06.UnitBounds', WHERE WHAT IT READS IS OF BULK AT MOST 1048576: true; the input reads as it did. -/
def unitBoundsUptoRow : OpenClaim := { program := "ytomjbfeafodfbaagreat", sum := "8b61224c2a3de2ff64a71a76e432b2cd33c82316e0e74cd3ec07d63d9f39e365", func := "declaim/declaimlaw06.UnitBounds", spec := "unitBounds", unfollowed := true, recurses := true, plainKeys := false, apart := false, narrowed := true }
def UnitBoundsUptoSaid : Prop := unitBoundsUptoRow.holds Tryz.pinned (OpenSpec.upto unitBoundsSpec)

/-- 'declaimlaw06.UnitCosts', WHERE WHAT IT READS IS OF BULK AT MOST 1048576: true; the input reads as it did. -/
def unitCostsUptoRow : OpenClaim := { program := "ytomjbfeafodfbaagreat", sum := "8b61224c2a3de2ff64a71a76e432b2cd33c82316e0e74cd3ec07d63d9f39e365", func := "declaim/declaimlaw06.UnitCosts", spec := "unitCosts", unfollowed := true, recurses := true, plainKeys := false, apart := false, narrowed := true }
def UnitCostsUptoSaid : Prop := unitCostsUptoRow.holds Tryz.pinned (OpenSpec.upto unitCostsSpec)

/-- 'declaimlaw06.UnitHolds', WHERE WHAT IT READS IS OF BULK AT MOST 1048576: true; the input reads as it did. -/
def unitHoldsUptoRow : OpenClaim := { program := "ytomjbfeafodfbaagreat", sum := "8b61224c2a3de2ff64a71a76e432b2cd33c82316e0e74cd3ec07d63d9f39e365", func := "declaim/declaimlaw06.UnitHolds", spec := "unitHolds", unfollowed := true, recurses := true, plainKeys := false, apart := false, narrowed := true }
def UnitHoldsUptoSaid : Prop := unitHoldsUptoRow.holds Tryz.pinned (OpenSpec.upto unitHoldsSpec)

/-- 'declaimlaw06.UnitProved', WHERE WHAT IT READS IS OF BULK AT MOST 1048576: true; the input reads as it did. -/
def unitProvedUptoRow : OpenClaim := { program := "ytomjbfeafodfbaagreat", sum := "8b61224c2a3de2ff64a71a76e432b2cd33c82316e0e74cd3ec07d63d9f39e365", func := "declaim/declaimlaw06.UnitProved", spec := "unitProved", unfollowed := true, recurses := true, plainKeys := false, apart := false, narrowed := true }
def UnitProvedUptoSaid : Prop := unitProvedUptoRow.holds Tryz.pinned (OpenSpec.upto unitProvedSpec)

/-- 'declaimlaw06.UnitLengths', WHERE WHAT IT READS IS OF BULK AT MOST 1048576: true; the input reads as it did. -/
def unitLengthsUptoRow : OpenClaim := { program := "ytomjbfeafodfbaagreat", sum := "8b61224c2a3de2ff64a71a76e432b2cd33c82316e0e74cd3ec07d63d9f39e365", func := "declaim/declaimlaw06.UnitLengths", spec := "unitLengths", unfollowed := true, recurses := true, plainKeys := false, apart := false, narrowed := true }
def UnitLengthsUptoSaid : Prop := unitLengthsUptoRow.holds Tryz.pinned (OpenSpec.upto unitLengthsSpec)

/-- 'declaimlaw06.UnitSums', WHERE WHAT IT READS IS OF BULK AT MOST 1048576: true; the input reads as it did. -/
def unitSumsUptoRow : OpenClaim := { program := "ytomjbfeafodfbaagreat", sum := "8b61224c2a3de2ff64a71a76e432b2cd33c82316e0e74cd3ec07d63d9f39e365", func := "declaim/declaimlaw06.UnitSums", spec := "unitSums", unfollowed := true, recurses := true, plainKeys := false, apart := false, narrowed := true }
def UnitSumsUptoSaid : Prop := unitSumsUptoRow.holds Tryz.pinned (OpenSpec.upto unitSumsSpec)

/-- 'declaimlaw06.UnitCovers', WHERE WHAT IT READS IS OF BULK AT MOST 1048576: true; the input reads as it did. -/
def unitCoversUptoRow : OpenClaim := { program := "ytomjbfeafodfbaagreat", sum := "8b61224c2a3de2ff64a71a76e432b2cd33c82316e0e74cd3ec07d63d9f39e365", func := "declaim/declaimlaw06.UnitCovers", spec := "unitCovers", unfollowed := true, recurses := true, plainKeys := false, apart := false, narrowed := true }
def UnitCoversUptoSaid : Prop := unitCoversUptoRow.holds Tryz.pinned (OpenSpec.upto unitCoversSpec)

/-- 'declaimlaw06.UnitMany', WHERE WHAT IT READS IS OF BULK AT MOST 1048576: true; the input reads as it did. -/
def unitManyUptoRow : OpenClaim := { program := "ytomjbfeafodfbaagreat", sum := "8b61224c2a3de2ff64a71a76e432b2cd33c82316e0e74cd3ec07d63d9f39e365", func := "declaim/declaimlaw06.UnitMany", spec := "unitMany", unfollowed := true, recurses := true, plainKeys := false, apart := false, narrowed := true }
def UnitManyUptoSaid : Prop := unitManyUptoRow.holds Tryz.pinned (OpenSpec.upto unitManySpec)

end Rows
end Go.Proofs.YtomjbfeafodfbaaGreat
