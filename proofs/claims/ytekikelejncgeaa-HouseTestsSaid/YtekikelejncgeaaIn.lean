import Derived.Test.YtekikelejncgeaaA
import Derived.Test.YtekikelejncgeaaSxDeep
set_option autoImplicit false
set_option linter.unusedSimpArgs false
set_option linter.unusedVariables false
set_option maxRecDepth 100000
namespace Go.Proofs.Ytekikelejncgeaa
open Go.Sx

/-! ### what comes in -/
instance : Deep Try.prog 3 Int Int := deepInt Try.underlying3
instance : Deep Try.prog 4 Bool Bool := deepBool Try.underlying4
theorem cells3 : Try.prog.cellsOf 3 = 1 := by kernel_rfl
instance : Deep Try.prog 55 Stamp Stamp where
  rd a b _ := a = b
  keep h _ := h
  opens {H enc w sp fuel cs x} h := by
    have hl := trod_len Try.underlying55 h
    obtain ⟨_, _, h0⟩ := trod_fld Try.underlying55 h 0 rfl rfl rfl cells3
    obtain ⟨_, _, h1⟩ := trod_fld Try.underlying55 h 1 rfl rfl rfl cells3
    obtain ⟨_, _, h2⟩ := trod_fld Try.underlying55 h 2 rfl rfl rfl cells3
    obtain ⟨_, _, h3⟩ := trod_fld Try.underlying55 h 3 rfl rfl rfl cells3
    obtain ⟨x0, _, e0, _⟩ := (deepInt Try.underlying3).opens h0
    obtain ⟨x1, _, e1, _⟩ := (deepInt Try.underlying3).opens h1
    obtain ⟨x2, _, e2, _⟩ := (deepInt Try.underlying3).opens h2
    obtain ⟨x3, _, e3, _⟩ := (deepInt Try.underlying3).opens h3
    rw [show Try.prog.cellsOf 55 = 4 by kernel_rfl] at hl
    match cs, hl with
    | [c0, c1, c2, c3], _ =>
    simp [Enc.enc] at e0 e1 e2 e3
    subst e0 e1 e2 e3
    exact ⟨⟨x0, x1, x2, x3⟩, _, rfl, rfl⟩
  vals := vals_struct Try.underlying55 fun _ => rfl
instance : Deep Try.prog 25 Chance Chance where
  rd a b _ := a = b
  keep h _ := h
  opens {H enc w sp fuel cs x} h := by
    have hl := trod_len Try.underlying25 h
    obtain ⟨_, _, h0⟩ := trod_fld Try.underlying25 h 0 rfl rfl rfl cells3
    obtain ⟨_, _, h1⟩ := trod_fld Try.underlying25 h 1 rfl rfl rfl cells3
    obtain ⟨x0, _, e0, _⟩ := (deepInt Try.underlying3).opens h0
    obtain ⟨x1, _, e1, _⟩ := (deepInt Try.underlying3).opens h1
    rw [show Try.prog.cellsOf 25 = 2 by kernel_rfl] at hl
    match cs, hl with
    | [c0, c1], _ =>
    simp [Enc.enc] at e0 e1
    subst e0 e1
    exact ⟨⟨x0, x1⟩, _, rfl, rfl⟩
  vals := vals_struct Try.underlying25 fun _ => rfl
instance : Deep Try.prog 37 SlV (List Int) := deepSlice Try.underlying37 (by kernel_rfl)
instance : Deep Try.prog 22 SlV (List Chance) := deepSlice Try.underlying22 (by kernel_rfl)
instance : Deep Try.prog 65 SlV (List (List Int)) := deepSlice Try.underlying65 (by kernel_rfl)
end Go.Proofs.Ytekikelejncgeaa
