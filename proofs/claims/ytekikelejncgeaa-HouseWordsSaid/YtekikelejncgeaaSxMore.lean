/-
  More rules for the layer of symbolic frames: calls with effects behind guards that hold. General lemmas, no program text.
-/
import Derived.Test.YtekikelejncgeaaSxEff
import Derived.Test.YtekikelejncgeaaSxSlice
set_option autoImplicit false
set_option linter.unusedSimpArgs false
set_option linter.unusedVariables false
set_option linter.unusedSectionVars false
namespace Go.Sx
open Enc (enc val)
section
variable {P : Program} {ops : Array Oper} {n : Fr} {E : Env} {C : World → Prop} {cs : List Bool} {o : Oper} {Q : Exit → Act → World → Prop} {w0 : World} {fp : List Nat} {H : List Asn}
/-- An effect behind guards. -/
def OpEc (P : Program) (n : Fr) (E : Env) (C : World → Prop) (cs : List Bool) (o : Oper) (R : Value → World → Prop) : Prop := AllT cs → OpE P n E C o R
theorem sw_xc {α : Type} {vf : α → Value} {C' : α → World → Prop} {rest : List Oper} {d : Nat} (hg : gof ops E o.guard = some cs) (hcs : AllT cs) (hd : o.dst = some d) (hn : Nat.ble (d + 1) n.sz = true)
    (hop : OpEc P n E C cs o (fun v w' => ∃ x, v = vf x ∧ C' x w')) (h : ∀ x, SW P ops Q rest n ((d, [], vf x) :: E) (C' x)) : SW P ops Q (o :: rest) n E C :=
  sw_effg hg hcs hd hn (hop hcs) fun _ => sw_ex fun x => sw_imp fun hv => by subst hv; exact h x
theorem e_callc {α : Type} {vf : α → Value} {p : α → Prop} {B : α → List Asn} {f : FuncId} {l : List Operand} {ts : Array TypeId} {vs : List Value} (hf : CanCall P f) (ho : o.op = .call { callee := .value (.func f), args := l.toArray, argTypes := ts }) (hv : Evs E cs l vs)
    (h : ∀ w, Cl w0 fp H w → Calls P f vs.toArray w fun e w' => ∃ x, e = .returned (vf x) ∧ p x ∧ Cl w [] (B x) w') : OpEc P n E (Cl w0 fp H) cs o (fun v w' => ∃ x, v = vf x ∧ p x ∧ Cl w0 fp (B x ++ H) w') :=
  fun hcs => .of_call (f := f) (args := vs.toArray) (fun a w ha hw => by
    unfold execOp; simp only [ho]
    simp only [resolve, Deferred.ofValue, Act.eval, invoke, List.map_toArray, hv.eval ha hcs, Sem.run_bind, Sem.run_pure, Result.andThen_ok]
    simp [hf.run]) fun w hw => (h w hw).mono fun e w' ⟨x, he, hp, hc⟩ => ⟨_, he, x, rfl, hp, hw.split0.2.2 _ _ hc⟩
end
end Go.Sx
