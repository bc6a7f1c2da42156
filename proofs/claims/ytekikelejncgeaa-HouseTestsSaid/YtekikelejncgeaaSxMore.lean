/-
  More rules for the layer of symbolic frames: calls with effects behind guards that hold. General lemmas, no program text.
-/
import Derived.Test.YtekikelejncgeaaSxEff
import Derived.Test.YtekikelejncgeaaSxSlice
import Derived.Lib.LazyBuf
import Derived.Scope
import Derived.ControlIn
set_option autoImplicit false
set_option linter.unusedSimpArgs false
set_option linter.unusedVariables false
set_option linter.unusedSectionVars false
namespace Go.Sx
open Enc (enc val)
/-! ### a scope that no goto leaves -/
theorem stepR_scope {P : Program} {b : Frame} {a : Act} {k : List Item} {cs : List Frame} {w : World} {c : Code} : step P (lone (b.atR a (.code (.scope c) :: k)) cs w) = .next (lone (b.atR a (.code c :: .inScope c :: k)) cs w) :=
  step_lone_go (by simp [stepG, stepG.exec, Frame.atR])
theorem stepR_inScope {P : Program} {b : Frame} {a : Act} {k : List Item} {cs : List Frame} {w : World} {c : Code} : step P (lone (b.atR a (.inScope c :: k)) cs w) = .next (lone (b.atR a k) cs w) :=
  step_lone_go (by simp [stepG, stepG.exec, Frame.atR])
theorem wpIn_scope {P : Program} {F : Fence} {n : Nat} {Q : Exit → Act → World → Prop} {a : Act} {w : World} {c : Code} (h : c.wpIn F n P (Exit.noGoto Q) a w) : (Code.scope c).wpIn F n P Q a w := by
  intro b k cs hro hb hr
  have h0 : (lone (b.atR a (.code (.scope c) :: k)) cs w).fenced P F := fenced_calm hb hr rfl
  obtain ⟨e, a₁, w₁, hq, harr⟩ := h b (.inScope c :: k) cs hro hb hr
  cases e with
  | normal => exact ⟨.normal, a₁, w₁, hq, .head h0 stepR_scope (StepsIn.trans harr (.one (fenced_calm hb hr rfl) stepR_inScope))⟩
  | exit id' =>
    have hx : exitTo id' (.inScope c :: k) = exitTo id' k := by simp [exitTo]
    exact ⟨.exit id', a₁, w₁, hq, fun k' hk => .head h0 stepR_scope (harr.1 k' (by rw [hx]; exact hk)),
      fun hr' hk => let ⟨k₁, h1, h2⟩ := harr.2 hr' (by rw [hx]; exact hk); ⟨k₁, h1, .head h0 stepR_scope h2⟩⟩
  | goto l => exact hq.elim
  | ret => exact ⟨_, a₁, w₁, hq, .of_steps (.one h0 stepR_scope) harr⟩
  | panic ch => exact ⟨_, a₁, w₁, hq, .of_steps (.one h0 stepR_scope) harr⟩
  | outgrown => exact ⟨_, a₁, w₁, hq, .of_steps (.one h0 stepR_scope) harr⟩
instance (n : Fr) (Q : Exit → Act → World → Prop) [h : RegOk n Q] : RegOk n (Exit.noGoto Q) := ⟨h.ok⟩
instance (Q : Exit → Act → World → Prop) [h : PanicOk Q] : PanicOk (Exit.noGoto Q) := ⟨h.ok⟩
section
variable {P : Program} {n : Fr} {E : Env} {C : World → Prop} {Q : Exit → Act → World → Prop}
theorem cw_scope {c : Code} (h : CW P c (Exit.noGoto Q) n E C) : CW P (.scope c) Q n E C := fun a w ha hw => wpIn_scope (h a w ha hw)
theorem cw_label {l : Nat} (h : Post n E C Q .normal) : CW P (.label l) Q n E C := fun a w ha hw => wpIn_label (h a w ha hw)
theorem post_scp (h : Post n E C Q .normal) : Post n E C (Exit.noGoto Q) .normal := h
theorem post_scp_x {i : Nat} (h : Post n E C Q (.exit i)) : Post n E C (Exit.noGoto Q) (.exit i) := h
theorem post_scp_r (h : Post n E C Q .ret) : Post n E C (Exit.noGoto Q) .ret := h
end
section
variable {P : Program} {ops : Array Oper} {n : Fr} {E : Env} {C : World → Prop} {cs : List Bool} {o : Oper} {Q : Exit → Act → World → Prop} {w0 : World} {fp : List Nat} {H : List Asn}
/-- An effect behind guards. -/
def OpEc (P : Program) (n : Fr) (E : Env) (C : World → Prop) (cs : List Bool) (o : Oper) (R : Value → World → Prop) : Prop := AllT cs → OpE P n E C o R
theorem sw_xc {α : Type} {vf : α → Value} {C' : α → World → Prop} {rest : List Oper} {d : Nat} (hg : gof ops E o.guard = some cs) (hcs : AllT cs) (hd : o.dst = some d) (hn : Nat.ble (d + 1) n.sz = true)
    (hop : OpEc P n E C cs o (fun v w' => ∃ x, v = vf x ∧ C' x w')) (h : ∀ x, SW P ops Q rest n ((d, [], vf x) :: E) (C' x)) : SW P ops Q (o :: rest) n E C :=
  sw_effg hg hcs hd hn (hop hcs) fun _ => sw_ex fun x => sw_imp fun hv => by subst hv; exact h x
theorem e_callc {α : Type} {vf : α → Value} {p : α → Prop} {B : α → List Asn} {f : FuncId} {l : List Operand} {ts : Array TypeId} {vs : List Value} (hf : CanCall P f) (ho : o.op = .call { callee := .value (.func f), args := l.toArray, argTypes := ts }) (hv : Evs E cs l vs)
    (h : ∀ w, Cl w0 fp H w → Calls P f vs.toArray w fun e w' => ∃ x, e = .returned (vf x) ∧ p x ∧ Cl w [] (B x) w') : OpEc P n E (Cl w0 fp H) cs o (fun v w' => ∃ x, v = vf x ∧ p x ∧ Cl w0 fp (B x ++ H) w') :=
  fun hcs => .of_call (f := f) (args := vs.toArray) (fun a w ha hw => by
    unfold execOp; simp only [ho]
    simp only [resolve, Deferred.ofValue, Act.eval, invoke, List.map_toArray, hv.eval ha hcs, Sem.run_bind, Sem.run_pure, Result.andThen_ok]
    simp [hf.run]) fun w hw => (h w hw).mono fun e w' ⟨x, he, hp, hc⟩ => ⟨_, he, x, rfl, hp, hw.split0.2.2 _ _ hc⟩
theorem q_eqlNil {t e t' : TypeId} {x : Operand} {cx : List Bool} {s : SlV} (ho : o.op = .binOp .eql t x (.const (.slice none 0 0)) t') (hx : evl E x = some (cx, s.v)) [sx : Sub cx cs] [ht : SlT P t e] : OpR P n E C cs o (.bool s.addr.isNone) :=
  fun a ha hc => bin_run (C := C) (y := .const (.slice none 0 0)) ho hx rfl sx inferInstance (eqGuard_at_slice ..) (fun w => run_eql_slice_nil w t e s.addr s.len s.cap ht.und) a ha hc
theorem rd_nil {α : Type} [Enc α] {s : SlV} {xs : List α} {w : World} (h : RdL s.v xs w) (hn : s.addr = none) : xs = [] := by
  obtain ⟨a, m, cap, e, h1, _, _, h4⟩ := h
  simp only [SlV.v, Value.slice.injEq] at e
  cases xs with
  | nil => rfl
  | cons x xs =>
    have hj : 0 < (enc x).length := by rw [Enc.len]; exact Enc.pos
    obtain ⟨b, hb, _⟩ := h4 0 x 0 _ rfl (List.getElem?_eq_getElem hj)
    rw [← e.1, hn] at hb; cases hb
/-- What a frame lends. -/
theorem lend_blk {F : List Asn} {w : World} {bs : List Nat} (h : ∀ G ∈ F, ∃ b2, Stb w bs fun w' => G.holds w' b2) {b : Nat} {cells : List Value} {t : TypeId} (hm : blk b cells t ∈ F) : Stb w bs (BlkAt b cells t) := by
  obtain ⟨b2, hb⟩ := h _ hm
  exact ⟨fun w' k => ⟨b2, hb.stb w' k⟩⟩
theorem lend_own {α : Type} [Enc α] {F : List Asn} {w : World} {bs : List Nat} (h : ∀ G ∈ F, ∃ b2, Stb w bs fun w' => G.holds w' b2) {e : TypeId} {sv : Value} {l : List α} (hm : ownL e sv l ∈ F) : Stb w bs (RdL sv l) := by
  obtain ⟨b2, hb⟩ := h _ hm
  exact ⟨fun w' k => ownL.rd (hb.stb w' k)⟩
/-- An element of a part of a slice is one of the whole. -/
theorem elP_sub {s : SlV} {lo hi sz i off : Nat} (h : s.cap ≠ lo) : elP (s.sub sz lo hi).v i sz off = elP s.v (lo + i) sz off := by
  cases ha : s.addr with
  | none => simp [elP, SlV.sub, SlV.v, h, ha]
  | some a =>
    simp [elP, SlV.sub, SlV.v, h, ha]
    rw [addr_add_assoc, Nat.add_mul, Nat.add_assoc]
theorem q_indexSub {α : Type} [Enc α] {t e : TypeId} {x y : Operand} {cx cy : List Bool} {s : SlV} {lo hi sz : Nat} {k : IntKind} {i : Nat} {xs : List α} (ho : o.op = .indexAddr t x y) (hx : evl E x = some (cx, (s.sub sz lo hi).v)) (hy : evl E y = some (cy, .int k (i : Int)))
    [sx : Sub cx cs] [sy : Sub cy cs] [ht : SlT P t e] [hz : SzT P e sz] (hR : ∀ w, C w → RdL s.v xs w) (hsz : sz = Enc.sz α) (h : AllT cs → lo + i < hi ∧ hi ≤ xs.length) : OpR P n E C cs o (elP s.v (lo + i) sz 0) := by
  intro a ha hc w hw
  have hh := h hc
  have hl := rd_lens (hR w hw)
  subst hsz
  have := q_indexN (P := P) (n := n) (E := E) (C := C) (cs := cs) (o := o) (xs := (xs.take hi).drop lo) ho hx hy (fun w hw => rd_sub (hR w hw) (by omega) (by omega)) (fun _ => by simp; omega) a ha hc w hw
  rwa [elP_sub (by omega)] at this
/-! ### draws: effects behind guards that hold -/
theorem aw_onec {S : World → Prop} {m : List Nat} {f : Nat} {listed : Array Bool} (i : Nat) {d : Nat} {R : Value → World → Prop} (hr : Region.ready .any ops listed = [i]) (hi : ops[i]? = some o) (hg : gof ops E o.guard = some cs) (hcs : AllT cs) (hd : o.dst = some d) (hn : Nat.ble (d + 1) n.sz = true)
    (hop : OpE P n E C o R) (hS : m.contains i = false → ∀ v w, R v w → S w) (h : ∀ v, AW P ops Q S m f (listed.setIfInBounds i true) n ((d, [], v) :: E) (R v)) : AW P ops Q S m (f + 1) listed n E C := by
  intro a w ha hw
  refine ⟨fun h0 => (by rw [hr] at h0; cases h0), fun j hj => ?_⟩
  rw [hr] at hj
  obtain rfl := List.mem_singleton.1 hj
  unfold wpOp
  simp only [hi]
  rw [if_pos ((gof_spec ha hg).1 hcs)]
  refine .inl ((hop a w ha hw).wp fun v w' hR => ⟨fun him _ => hS him v w' hR, ?_⟩)
  have := h v _ w' (ha.put (cs := []) (v := v) (Nat.le_of_ble_eq_true hn)) hR
  rw [hd]; exact this
theorem aw_xc {S : World → Prop} {m : List Nat} {f : Nat} {listed : Array Bool} {α : Type} {vf : α → Value} {C' : α → World → Prop} (i : Nat) {d : Nat} (hr : Region.ready .any ops listed = [i]) (hi : ops[i]? = some o) (hg : gof ops E o.guard = some cs) (hcs : AllT cs) (hd : o.dst = some d) (hn : Nat.ble (d + 1) n.sz = true)
    (hop : OpEc P n E C cs o (fun v w' => ∃ x, v = vf x ∧ C' x w')) (hS : m.contains i = false → ∀ x w, C' x w → S w) (h : ∀ x, AW P ops Q S m f (listed.setIfInBounds i true) n ((d, [], vf x) :: E) (C' x)) : AW P ops Q S m (f + 1) listed n E C :=
  aw_onec i hr hi hg hcs hd hn (hop hcs) (fun hb v w ⟨x, _, hx⟩ => hS hb x w hx) fun _ => aw_ex fun x => aw_imp fun hv => by subst hv; exact h x
theorem aw_qc {S : World → Prop} {m : List Nat} {f : Nat} {listed : Array Bool} (i : Nat) {d : Nat} {v : Value} (hr : Region.ready .any ops listed = [i]) (hi : ops[i]? = some o) (hg : gof ops E o.guard = some cs) (hcs : AllT cs) (hd : o.dst = some d) (hn : Nat.ble (d + 1) n.sz = true)
    (hop : OpQ P n E C cs o v) (hS : m.contains i = false → ∀ w, C w → S w) (h : AW P ops Q S m f (listed.setIfInBounds i true) n ((d, [], v) :: E) C) : AW P ops Q S m (f + 1) listed n E C :=
  aw_onec (R := fun v' w' => v' = v ∧ C w') i hr hi hg hcs hd hn (fun a w ha hw => quiet_eff (hop a ha hcs w hw) hw) (fun hb v w hx => hS hb w hx.2) fun _ => aw_imp fun hv => by subst hv; exact h
end
end Go.Sx
