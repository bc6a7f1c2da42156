import Derived.Test.YtomjbfeafodfbaaGreatWMany0
import Derived.Lib.LazyBuf
import Derived.Scope
import Derived.ControlIn
import Derived.Laws.StructEq
import Derived.WalkKit
import Derived.ProofKit
import Derived.OpenShut
import Derived.Carry
import Derived.ChangeOld
import Derived.ChangeSlices

/-
  More rules for the layer of symbolic frames: calls with effects behind guards that hold. General lemmas, no program text.
-/
set_option autoImplicit false
set_option linter.unusedSimpArgs false
set_option linter.unusedVariables false
set_option linter.unusedSectionVars false
namespace Go.Sx
open Enc (enc val)
theorem stepR_scope {P : Program} {b : Frame} {a : Act} {k : List Item} {cs : List Frame} {w : World} {c : Code} : step P (lone (b.atR a (.code (.scope c) :: k)) cs w) = .next (lone (b.atR a (.code c :: .inScope c :: k)) cs w) :=
  step_lone_go (by simp [stepG, stepG.exec, Frame.atR])
theorem stepR_inScope {P : Program} {b : Frame} {a : Act} {k : List Item} {cs : List Frame} {w : World} {c : Code} : step P (lone (b.atR a (.inScope c :: k)) cs w) = .next (lone (b.atR a k) cs w) :=
  step_lone_go (by simp [stepG, stepG.exec, Frame.atR])
theorem wpIn_scope {P : Program} {F : Fence} {n : Nat} {Q : Exit → Act → World → Prop} {a : Act} {w : World} {c : Code} (h : c.wpIn F n P (Exit.noGoto Q) a w) : (Code.scope c).wpIn F n P Q a w := by
  intro b k cs hro hb hr
  have h0 : (lone (b.atR a (.code (.scope c) :: k)) cs w).fenced P F := fenced_calm hb hr rfl
  obtain ⟨e, a₁, w₁, hq, harr⟩ := h b (.inScope c :: k) cs hro hb hr
  cases e with
  | normal => exact ⟨.normal, a₁, w₁, hq, .head h0 stepR_scope (StepsIn.trans harr (.one (fenced_calm hb hr rfl) stepR_inScope))⟩
  | exit id' =>
    have hx : exitTo id' (.inScope c :: k) = exitTo id' k := by simp [exitTo]
    exact ⟨.exit id', a₁, w₁, hq, fun k' hk => .head h0 stepR_scope (harr.1 k' (by rw [hx]; exact hk)),
      fun hr' hk => let ⟨k₁, h1, h2⟩ := harr.2 hr' (by rw [hx]; exact hk); ⟨k₁, h1, .head h0 stepR_scope h2⟩⟩
  | goto l => exact hq.elim
  | ret => exact ⟨_, a₁, w₁, hq, .of_steps (.one h0 stepR_scope) harr⟩
  | panic ch => exact ⟨_, a₁, w₁, hq, .of_steps (.one h0 stepR_scope) harr⟩
  | outgrown => exact ⟨_, a₁, w₁, hq, .of_steps (.one h0 stepR_scope) harr⟩
instance (n : Fr) (Q : Exit → Act → World → Prop) [h : RegOk n Q] : RegOk n (Exit.noGoto Q) := ⟨h.ok⟩
instance (Q : Exit → Act → World → Prop) [h : PanicOk Q] : PanicOk (Exit.noGoto Q) := ⟨h.ok⟩
section
variable {P : Program} {n : Fr} {E : Env} {C : World → Prop} {Q : Exit → Act → World → Prop}
theorem cw_scope {c : Code} (h : CW P c (Exit.noGoto Q) n E C) : CW P (.scope c) Q n E C := fun a w ha hw => wpIn_scope (h a w ha hw)
theorem cw_label {l : Nat} (h : Post n E C Q .normal) : CW P (.label l) Q n E C := fun a w ha hw => wpIn_label (h a w ha hw)
theorem post_scp (h : Post n E C Q .normal) : Post n E C (Exit.noGoto Q) .normal := h
theorem post_scp_x {i : Nat} (h : Post n E C Q (.exit i)) : Post n E C (Exit.noGoto Q) (.exit i) := h
theorem post_scp_r (h : Post n E C Q .ret) : Post n E C (Exit.noGoto Q) .ret := h
end
section
variable {P : Program} {ops : Array Oper} {n : Fr} {E : Env} {C : World → Prop} {cs : List Bool} {o : Oper} {Q : Exit → Act → World → Prop} {w0 : World} {fp : List Nat} {H : List Asn}
/-- An effect behind guards. -/
def OpEc (P : Program) (n : Fr) (E : Env) (C : World → Prop) (cs : List Bool) (o : Oper) (R : Value → World → Prop) : Prop := AllT cs → OpE P n E C o R
theorem sw_xc {α : Type} {vf : α → Value} {C' : α → World → Prop} {rest : List Oper} {d : Nat} (hg : gof ops E o.guard = some cs) (hcs : AllT cs) (hd : o.dst = some d) (hn : Nat.ble (d + 1) n.sz = true)
    (hop : OpEc P n E C cs o (fun v w' => ∃ x, v = vf x ∧ C' x w')) (h : ∀ x, SW P ops Q rest n ((d, [], vf x) :: E) (C' x)) : SW P ops Q (o :: rest) n E C :=
  sw_effg hg hcs hd hn (hop hcs) fun _ => sw_ex fun x => sw_imp fun hv => by subst hv; exact h x
theorem e_callc {α : Type} {vf : α → Value} {p : α → Prop} {B : α → List Asn} {f : FuncId} {l : List Operand} {ts : Array TypeId} {vs : List Value} (hf : CanCall P f) (ho : o.op = .call { callee := .value (.func f), args := l.toArray, argTypes := ts }) (hv : Evs E cs l vs)
    (h : ∀ w, Cl w0 fp H w → Calls P f vs.toArray w fun e w' => ∃ x, e = .returned (vf x) ∧ p x ∧ Cl w [] (B x) w') : OpEc P n E (Cl w0 fp H) cs o (fun v w' => ∃ x, v = vf x ∧ p x ∧ Cl w0 fp (B x ++ H) w') :=
  fun hcs => .of_call (f := f) (args := vs.toArray) (fun a w ha hw => by
    unfold execOp; simp only [ho]
    simp only [resolve, Deferred.ofValue, Act.eval, invoke, List.map_toArray, hv.eval ha hcs, Sem.run_bind, Sem.run_pure, Result.andThen_ok]
    simp [hf.run]) fun w hw => (h w hw).mono fun e w' ⟨x, he, hp, hc⟩ => ⟨_, he, x, rfl, hp, hw.split0.2.2 _ _ hc⟩
theorem q_eqlNil {t e t' : TypeId} {x : Operand} {cx : List Bool} {s : SlV} (ho : o.op = .binOp .eql t x (.const (.slice none 0 0)) t') (hx : evl E x = some (cx, s.v)) [sx : Sub cx cs] [ht : SlT P t e] : OpR P n E C cs o (.bool s.addr.isNone) :=
  fun a ha hc => bin_run (C := C) (y := .const (.slice none 0 0)) ho hx rfl sx inferInstance (eqGuard_at_slice ..) (fun w => run_eql_slice_nil w t e s.addr s.len s.cap ht.und) a ha hc
theorem rd_nil {α : Type} [Enc α] {s : SlV} {xs : List α} {w : World} (h : RdL s.v xs w) (hn : s.addr = none) : xs = [] := by
  obtain ⟨a, m, cap, e, h1, _, _, h4⟩ := h
  simp only [SlV.v, Value.slice.injEq] at e
  cases xs with
  | nil => rfl
  | cons x xs =>
    have hj : 0 < (enc x).length := by rw [Enc.len]; exact Enc.pos
    obtain ⟨b, hb, _⟩ := h4 0 x 0 _ rfl (List.getElem?_eq_getElem hj)
    rw [← e.1, hn] at hb; cases hb
/-- What a frame lends. -/
theorem lend_blk {F : List Asn} {w : World} {bs : List Nat} (h : ∀ G ∈ F, ∃ b2, Stb w bs fun w' => G.holds w' b2) {b : Nat} {cells : List Value} {t : TypeId} (hm : blk b cells t ∈ F) : Stb w bs (BlkAt b cells t) := by
  obtain ⟨b2, hb⟩ := h _ hm
  exact ⟨fun w' k => ⟨b2, hb.stb w' k⟩⟩
theorem lend_own {α : Type} [Enc α] {F : List Asn} {w : World} {bs : List Nat} (h : ∀ G ∈ F, ∃ b2, Stb w bs fun w' => G.holds w' b2) {e : TypeId} {sv : Value} {l : List α} (hm : ownL e sv l ∈ F) : Stb w bs (RdL sv l) := by
  obtain ⟨b2, hb⟩ := h _ hm
  exact ⟨fun w' k => ownL.rd (hb.stb w' k)⟩
/-- An element of a part of a slice is one of the whole. -/
theorem elP_sub {s : SlV} {lo hi sz i off : Nat} (h : s.cap ≠ lo) : elP (s.sub sz lo hi).v i sz off = elP s.v (lo + i) sz off := by
  cases ha : s.addr with
  | none => simp [elP, SlV.sub, SlV.v, h, ha]
  | some a =>
    simp [elP, SlV.sub, SlV.v, h, ha]
    rw [addr_add_assoc, Nat.add_mul, Nat.add_assoc]
theorem q_indexSub {α : Type} [Enc α] {t e : TypeId} {x y : Operand} {cx cy : List Bool} {s : SlV} {lo hi sz : Nat} {k : IntKind} {i : Nat} {xs : List α} (ho : o.op = .indexAddr t x y) (hx : evl E x = some (cx, (s.sub sz lo hi).v)) (hy : evl E y = some (cy, .int k (i : Int)))
    [sx : Sub cx cs] [sy : Sub cy cs] [ht : SlT P t e] [hz : SzT P e sz] (hR : ∀ w, C w → RdL s.v xs w) (hsz : sz = Enc.sz α) (h : AllT cs → lo + i < hi ∧ hi ≤ xs.length) : OpR P n E C cs o (elP s.v (lo + i) sz 0) := by
  intro a ha hc w hw
  have hh := h hc
  have hl := rd_lens (hR w hw)
  subst hsz
  have := q_indexN (P := P) (n := n) (E := E) (C := C) (cs := cs) (o := o) (xs := (xs.take hi).drop lo) ho hx hy (fun w hw => rd_sub (hR w hw) (by omega) (by omega)) (fun _ => by simp; omega) a ha hc w hw
  rwa [elP_sub (by omega)] at this
theorem aw_onec {S : World → Prop} {m : List Nat} {f : Nat} {listed : Array Bool} (i : Nat) {d : Nat} {R : Value → World → Prop} (hr : Region.ready .any ops listed = [i]) (hi : ops[i]? = some o) (hg : gof ops E o.guard = some cs) (hcs : AllT cs) (hd : o.dst = some d) (hn : Nat.ble (d + 1) n.sz = true)
    (hop : OpE P n E C o R) (hS : m.contains i = false → ∀ v w, R v w → S w) (h : ∀ v, AW P ops Q S m f (listed.setIfInBounds i true) n ((d, [], v) :: E) (R v)) : AW P ops Q S m (f + 1) listed n E C := by
  intro a w ha hw
  refine ⟨fun h0 => (by rw [hr] at h0; cases h0), fun j hj => ?_⟩
  rw [hr] at hj
  obtain rfl := List.mem_singleton.1 hj
  unfold wpOp
  simp only [hi]
  rw [if_pos ((gof_spec ha hg).1 hcs)]
  refine .inl ((hop a w ha hw).wp fun v w' hR => ⟨fun him _ => hS him v w' hR, ?_⟩)
  have := h v _ w' (ha.put (cs := []) (v := v) (Nat.le_of_ble_eq_true hn)) hR
  rw [hd]; exact this
theorem aw_xc {S : World → Prop} {m : List Nat} {f : Nat} {listed : Array Bool} {α : Type} {vf : α → Value} {C' : α → World → Prop} (i : Nat) {d : Nat} (hr : Region.ready .any ops listed = [i]) (hi : ops[i]? = some o) (hg : gof ops E o.guard = some cs) (hcs : AllT cs) (hd : o.dst = some d) (hn : Nat.ble (d + 1) n.sz = true)
    (hop : OpEc P n E C cs o (fun v w' => ∃ x, v = vf x ∧ C' x w')) (hS : m.contains i = false → ∀ x w, C' x w → S w) (h : ∀ x, AW P ops Q S m f (listed.setIfInBounds i true) n ((d, [], vf x) :: E) (C' x)) : AW P ops Q S m (f + 1) listed n E C :=
  aw_onec i hr hi hg hcs hd hn (hop hcs) (fun hb v w ⟨x, _, hx⟩ => hS hb x w hx) fun _ => aw_ex fun x => aw_imp fun hv => by subst hv; exact h x
theorem aw_qc {S : World → Prop} {m : List Nat} {f : Nat} {listed : Array Bool} (i : Nat) {d : Nat} {v : Value} (hr : Region.ready .any ops listed = [i]) (hi : ops[i]? = some o) (hg : gof ops E o.guard = some cs) (hcs : AllT cs) (hd : o.dst = some d) (hn : Nat.ble (d + 1) n.sz = true)
    (hop : OpQ P n E C cs o v) (hS : m.contains i = false → ∀ w, C w → S w) (h : AW P ops Q S m f (listed.setIfInBounds i true) n ((d, [], v) :: E) C) : AW P ops Q S m (f + 1) listed n E C :=
  aw_onec (R := fun v' w' => v' = v ∧ C w') i hr hi hg hcs hd hn (fun a w ha hw => quiet_eff (hop a ha hcs w hw) hw) (fun hb v w hx => hS hb w hx.2) fun _ => aw_imp fun hv => by subst hv; exact h
end
end Go.Sx

/- Strings and structs in operations: length, equality. General lemmas, no program text. -/
set_option autoImplicit false
namespace Go.Sx
section
variable {P : Program} {n : Fr} {E : Env} {C : World → Prop} {cs : List Bool} {o : Oper}
theorem str_inj {a b : ByteArray} (h : a.toList = b.toList) : a = b := by
  rw [ByteArray.toList_eq, ByteArray.toList_eq] at h
  cases a; cases b; simp at h; simp [h]
theorem q_lenS {l : List Operand} {t : TypeId} {b : ByteArray} (ho : o.op = .call { callee := .builtin .len, args := l.toArray, argTypes := #[t] }) (hv : Evs E cs l [.string b]) (ht : P.underlying t = some .string) : OpR P n E C cs o (.int .i64 b.size) :=
  builtin_run ho hv fun w c hw _ => by
    have := run_underlying ht w
    simp [builtin, Builtin.len_, this, goInt]
theorem q_eqlStr {t t' : TypeId} {x y : Operand} {cx cy : List Bool} {a b : ByteArray} (ho : o.op = .binOp .eql t x y t') (hx : evl E x = some (cx, .string a)) (hy : evl E y = some (cy, .string b)) [sx : Sub cx cs] [sy : Sub cy cs]
    (ht : P.underlying t = some .string) : OpR P n E C cs o (.bool (decide (a = b))) := bin_run ho hx hy sx sy (eqGuard_at_string ..) (fun w => by
      have := run_underlying ht w
      by_cases h : a = b
      · simp [go_sem, this, h]
      · have h2 : ¬ a.toList = b.toList := fun e => h (str_inj e)
        simp [go_sem, this, h, h2])
theorem q_neqStr {t t' : TypeId} {x y : Operand} {cx cy : List Bool} {a b : ByteArray} (ho : o.op = .binOp .neq t x y t') (hx : evl E x = some (cx, .string a)) (hy : evl E y = some (cy, .string b)) [sx : Sub cx cs] [sy : Sub cy cs]
    (ht : P.underlying t = some .string) : OpR P n E C cs o (.bool (!decide (a = b))) := bin_run ho hx hy sx sy (eqGuard_at_string ..) (fun w => by
      have := run_underlying ht w
      by_cases h : a = b
      · simp [go_sem, this, h]
      · have h2 : ¬ a.toList = b.toList := fun e => h (str_inj e)
        simp [go_sem, this, h, h2])
theorem q_eqlAg {t t' : TypeId} {x y : Operand} {cx cy : List Bool} {xs ys : Array Value} {r : Value} (ho : o.op = .binOp .eql t x y t') (hx : evl E x = some (cx, .agg xs)) (hy : evl E y = some (cy, .agg ys)) [sx : Sub cx cs] [sy : Sub cy cs]
    (hm : P.eqGuardType P.depth t = false) (hr : ∀ w, (binOp .eql t (.agg xs) (.agg ys)).run P w = .ok r w) : OpR P n E C cs o r :=
  .of_run fun a ha hc w _ => by
    unfold execOp; simp only [ho]
    rw [ha.eval hx sx hc, ha.eval hy sy hc]
    simp [run_eqGuard_agg w .eql t x y xs ys hm, hr w, Result.andThen]
theorem q_neqAg {t t' : TypeId} {x y : Operand} {cx cy : List Bool} {xs ys : Array Value} {r : Value} (ho : o.op = .binOp .neq t x y t') (hx : evl E x = some (cx, .agg xs)) (hy : evl E y = some (cy, .agg ys)) [sx : Sub cx cs] [sy : Sub cy cs]
    (hm : P.eqGuardType P.depth t = false) (hr : ∀ w, (binOp .neq t (.agg xs) (.agg ys)).run P w = .ok r w) : OpR P n E C cs o r :=
  .of_run fun a ha hc w _ => by
    unfold execOp; simp only [ho]
    rw [ha.eval hx sx hc, ha.eval hy sy hc]
    simp [run_eqGuard_agg w .neq t x y xs ys hm, hr w, Result.andThen]
end
section
open Enc (enc val)
variable {P : Program} {ops : Array Oper} {n : Fr} {E : Env} {C : World → Prop} {cs : List Bool} {o : Oper} {w0 : World} {fp : List Nat} {H : List Asn}
theorem e_buildSlicec {α : Type} [Enc α] {t e : TypeId} {len sz bytes : Nat} {z : List Value} {ps : List (Nat × Operand)} {vs : List Value} {l : List α} (ho : o.op = .buildSlice t len ps.toArray) (hv : Evs E cs (ps.map (·.2)) vs)
    [ht : SlT P t e] [hi : InfoT P e sz bytes z] (hsz : sz = Enc.sz α) (hlen : l.length = len) (hsmall : Nat.ble (len * sz) 16777216 = true) (hb : fillOf z sz len ((ps.map (·.1)).zip vs) = some (l.flatMap enc).toArray) :
    OpEc P n E (Cl w0 fp H) cs o (fun u w' => ∃ s : SlV, u = s.v ∧ Cl w0 fp (ownL e s.v l :: H) w') :=
  fun hcs => .of_run fun a w ha hw => by
    obtain ⟨i, v, h1, h2, h3, h4, h5, h6⟩ := hi.info
    have hs := Nat.le_of_ble_eq_true hsmall
    subst hsz hlen
    refine ⟨_, _, ?_, ⟨some ⟨w.heap.size, 0, none⟩, l.length, l.length⟩, rfl, hw.split0.2.2 [ownL e _ l] _ (cl_own_new (e := e) (l := l) (cap := l.length) (cur := (l.flatMap enc).toArray) w (Nat.le_refl _) ?_ ?_ ?_)⟩
    · unfold execOp; simp only [ho]
      have h7 : ps.map (fun (i, x) => (i, a.eval x)) = (ps.map (·.1)).zip vs := by
        rw [← hv.eval ha hcs]
        clear ho hb hv
        induction ps with
        | nil => rfl
        | cons p ps ih => simp [ih]
      simp only [List.map_toArray, h7]
      unfold fillOf at hb
      by_cases h0 : l.length * Enc.sz α = 0
      · have hp := Enc.pos (α := α)
        have : l.length = 0 := by
          rcases Nat.mul_eq_zero.1 h0 with h | h
          · exact h
          · omega
        simp only [h0] at hb
        simp [Array.range_zero'] at hb
        simp [Instr.buildSlice, run_underlying ht.und, sizeOf, typeInfo, h1, h2, h0, hb, newRow, Array.range_zero', SlV.v]
      · simp only [Nat.reducePow] at *
        have h8 : ¬ (16777216 < l.length * Enc.sz α) := by omega
        simp [Instr.buildSlice, run_underlying ht.und, sizeOf, typeInfo, h1, h2, h0, h8, zeroValue, h4, h5, newRow]
        simp at hb
        simp [hb, SlV.v]
    · have hp := Enc.pos (α := α)
      have : l.length ≤ l.length * Enc.sz α := Nat.le_mul_of_pos_right _ hp
      simp only [maxLen]; omega
    · rw [List.size_toArray, flat_len]
    · rw [List.toList_toArray, ← flat_len, List.take_length]
theorem e_buildLc {α : Type} [Enc α] {t e : TypeId} {len sz bytes : Nat} {z : List Value} {ps : List (Nat × Operand)} {l : List α} (ho : o.op = .buildSlice t len ps.toArray) (hv : Evs E cs (ps.map (·.2)) (l.map val))
    [ht : SlT P t e] [hi : InfoT P e sz bytes z] (hsz : sz = Enc.sz α) (hlen : l.length = len) (hps : ps.map (·.1) = List.range' 0 len) (hsmall : Nat.ble (len * sz) 16777216 = true) :
    OpEc P n E (Cl w0 fp H) cs o (fun u w' => ∃ s : SlV, u = s.v ∧ Cl w0 fp (ownL e s.v l :: H) w') := by
  refine e_buildSlicec (l := l) (ps := ps) (vs := l.map val) ho hv hsz hlen hsmall ?_
  subst hsz
  rw [hps, ← hlen]
  unfold fillOf
  have := fill_all l 0 [] ((List.range (l.length * Enc.sz α)).map (z.toArray[· % z.toArray.size]!)) (by simp) (by simp)
  simp only [List.nil_append] at this
  rw [← this]
  congr 1
  rw [← List.toArray_range, List.map_toArray]
end
end Go.Sx

/- Heaps in a list: what container/heap's loops keep. Plain laws, no program text. -/
set_option autoImplicit false
namespace Go.Sx
theorem nth_setP {α : Type} [Inhabited α] (l : List α) (i j : Nat) (x : α) (h : i < l.length) : nth (l.set i x) j = if j = i then x else nth l j := by
  simp only [nth, List.getD, List.getElem?_set]
  by_cases hj : i = j
  · subst hj; simp [h]
  · rw [if_neg hj, if_neg (fun e => hj e.symm)]
/-- A total order, told by what is before what. -/
structure TotB {α : Type} (lt : α → α → Bool) : Prop where
  tr : ∀ a b c, lt b a = false → lt c b = false → lt c a = false
  anti : ∀ a b, lt a b = true → lt b a = false
section
variable {α : Type} [Inhabited α]
def swp (l : List α) (i j : Nat) : List α := (l.set i (nth l j)).set j (nth l i)
theorem swp_len (l : List α) (i j : Nat) : (swp l i j).length = l.length := by simp [swp]
theorem swp_nth (l : List α) {i j : Nat} (hi : i < l.length) (hj : j < l.length) (k : Nat) : nth (swp l i j) k = if k = j then nth l i else if k = i then nth l j else nth l k := by
  rw [swp, nth_setP _ _ _ _ (by simpa using hj), nth_setP _ _ _ _ hi]
theorem swp_perm (l : List α) {i j : Nat} (hi : i < l.length) (hj : j < l.length) : (swp l i j).Perm l := by
  have := List.set_set_perm hi hj
  rw [swp, nth_get hi, nth_get hj]; exact this
variable (lt : α → α → Bool)
/-- A heap of the first n. -/
def HeapN (l : List α) (n : Nat) : Prop := ∀ k, 0 < k → k < n → lt (nth l k) (nth l ((k - 1) / 2)) = false
def UpOk (l : List α) (j : Nat) : Prop := (∀ k, 0 < k → k < l.length → k ≠ j → lt (nth l k) (nth l ((k - 1) / 2)) = false) ∧ (0 < j → ∀ k, 0 < k → k < l.length → (k - 1) / 2 = j → lt (nth l k) (nth l ((j - 1) / 2)) = false)
def DownOk (l : List α) (i n : Nat) : Prop := (∀ k, 0 < k → k < n → (k - 1) / 2 ≠ i → lt (nth l k) (nth l ((k - 1) / 2)) = false) ∧ (0 < i → ∀ k, 0 < k → k < n → (k - 1) / 2 = i → lt (nth l k) (nth l ((i - 1) / 2)) = false)
variable {lt} (ho : TotB lt)
include ho
theorem up_push {l : List α} (h : HeapN lt l l.length) (x : α) : UpOk lt (l ++ [x]) l.length := by
  refine ⟨fun k h0 hk hne => ?_, fun _ k h0 hk hp => ?_⟩
  · simp at hk
    have e1 : nth (l ++ [x]) k = nth l k := by simp only [nth, List.getD]; rw [List.getElem?_append_left (by omega)]
    have e2 : nth (l ++ [x]) ((k - 1) / 2) = nth l ((k - 1) / 2) := by simp only [nth, List.getD]; rw [List.getElem?_append_left (by omega)]
    rw [e1, e2]; exact h k h0 (by omega)
  · simp at hk; omega
omit ho in
theorem up_stop {l : List α} {j : Nat} (h : UpOk lt l j) (hs : j = 0 ∨ lt (nth l j) (nth l ((j - 1) / 2)) = false) : HeapN lt l l.length := by
  intro k h0 hk
  by_cases hkj : k = j
  · rcases hs with hs | hs
    · omega
    · rw [hkj]; exact hs
  · exact h.1 k h0 hk hkj
theorem up_step {l : List α} {j : Nat} (hj : j < l.length) (h0 : 0 < j) (h : UpOk lt l j) (hs : lt (nth l j) (nth l ((j - 1) / 2)) = true) : UpOk lt (swp l ((j - 1) / 2) j) ((j - 1) / 2) := by
  have hp : (j - 1) / 2 < l.length := by omega
  obtain ⟨u1, u2⟩ := h
  refine ⟨fun k k0 hk hne => ?_, fun p0 k k0 hk hpk => ?_⟩
  · rw [swp_len] at hk
    rw [swp_nth l hp hj, swp_nth l hp hj]
    by_cases hkj : k = j
    · subst hkj
      rw [if_pos rfl, if_neg (by omega), if_pos rfl]; exact ho.anti _ _ hs
    · rw [if_neg hkj, if_neg hne]
      by_cases h1 : (k - 1) / 2 = j
      · rw [if_pos h1]; exact u2 h0 k k0 hk h1
      · rw [if_neg h1]
        by_cases h2 : (k - 1) / 2 = (j - 1) / 2
        · rw [if_pos h2]
          have := u1 k k0 hk hkj
          rw [h2] at this
          exact ho.tr _ _ _ (ho.anti _ _ hs) this
        · rw [if_neg h2]; exact u1 k k0 hk hkj
  · rw [swp_len] at hk
    have u3 := u1 ((j - 1) / 2) p0 hp (by omega)
    rw [swp_nth l hp hj, swp_nth l hp hj, if_neg (show ¬ ((j - 1) / 2 - 1) / 2 = j by omega), if_neg (show ¬ ((j - 1) / 2 - 1) / 2 = (j - 1) / 2 by omega)]
    by_cases hkj : k = j
    · rw [if_pos hkj]; exact u3
    · rw [if_neg hkj, if_neg (by omega)]
      have := u1 k k0 hk hkj
      rw [hpk] at this
      exact ho.tr _ _ _ u3 this
omit ho in
theorem down_begin {l : List α} {n : Nat} (h : HeapN lt l l.length) (hn : n + 1 = l.length) : DownOk lt (swp l 0 n) 0 n := by
  refine ⟨fun k k0 hk hp => ?_, fun h0 => by omega⟩
  rw [swp_nth l (by omega) (by omega), swp_nth l (by omega) (by omega), if_neg (by omega), if_neg (by omega), if_neg (by omega), if_neg hp]
  exact h k k0 (by omega)
omit ho in
theorem down_stop {l : List α} {i n : Nat} (h : DownOk lt l i n) (hs : ∀ k, 0 < k → k < n → (k - 1) / 2 = i → lt (nth l k) (nth l i) = false) : HeapN lt l n := by
  intro k h0 hk
  by_cases hki : (k - 1) / 2 = i
  · rw [hki]; exact hs k h0 hk hki
  · exact h.1 k h0 hk hki
theorem down_step {l : List α} {i j n : Nat} (hn : n ≤ l.length) (hjn : j < n) (hj0 : 0 < j) (hji : (j - 1) / 2 = i) (h : DownOk lt l i n) (hmin : ∀ k, 0 < k → k < n → (k - 1) / 2 = i → lt (nth l k) (nth l j) = false) (hs : lt (nth l j) (nth l i) = true) : DownOk lt (swp l i j) j n := by
  have hi : i < l.length := by omega
  have hj : j < l.length := by omega
  obtain ⟨d1, d2⟩ := h
  refine ⟨fun k k0 hk hpk => ?_, fun p0 k k0 hk hpk => ?_⟩
  · rw [swp_nth l hi hj, swp_nth l hi hj, if_neg hpk]
    by_cases hkj : k = j
    · rw [if_pos hkj, hkj, if_pos hji]; exact ho.anti _ _ hs
    · rw [if_neg hkj]
      by_cases hki : k = i
      · rw [if_pos hki, hki, if_neg (by omega)]
        exact d2 (by omega) j hj0 hjn hji
      · rw [if_neg hki]
        by_cases hp : (k - 1) / 2 = i
        · rw [if_pos hp]; exact hmin k k0 hk hp
        · rw [if_neg hp]; exact d1 k k0 hk hp
  · rw [swp_nth l hi hj, swp_nth l hi hj, if_neg (by omega), if_neg (by omega), hji, if_neg (by omega), if_pos rfl]
    have := d1 k k0 hk (by omega)
    rw [hpk] at this; exact this
theorem heap_min {l : List α} {n : Nat} (h : HeapN lt l n) : ∀ k, k < n → lt (nth l k) (nth l 0) = false := by
  intro k
  induction k using Nat.strongRecOn with
  | _ k ih =>
    intro hk
    by_cases h0 : k = 0
    · rw [h0]
      cases hh : lt (nth l 0) (nth l 0)
      · rfl
      · have := ho.anti _ _ hh; rw [hh] at this; cases this
    · exact ho.tr _ _ _ (ih ((k - 1) / 2) (by omega) (by omega)) (h k (by omega) hk)
end
end Go.Sx

/- Best-first search over sequences whose rest costs are known: what it gives, in order. Plain laws, no program text. -/
set_option autoImplicit false
namespace Go.Sx
def lexLt : List Int → List Int → Bool
  | _, [] => false
  | [], _ :: _ => true
  | x :: a, y :: b => decide (x < y) || (decide (x = y) && lexLt a b)
theorem lex_irr : ∀ a, lexLt a a = false
  | [] => rfl
  | x :: a => by simp [lexLt, lex_irr a]
theorem lex_as : ∀ a b, lexLt a b = true → lexLt b a = false
  | [], [], h => by simp [lexLt] at h
  | [], _ :: _, _ => rfl
  | _ :: _, [], h => by simp [lexLt] at h
  | x :: a, y :: b, h => by
    simp only [lexLt, Bool.or_eq_true, Bool.and_eq_true, decide_eq_true_eq] at h
    simp only [lexLt, Bool.or_eq_false_iff, Bool.and_eq_false_iff, decide_eq_false_iff_not]
    rcases h with h | ⟨h1, h2⟩
    · exact ⟨by omega, .inl (by omega)⟩
    · exact ⟨by omega, .inr (lex_as a b h2)⟩
theorem lex_eq : ∀ a b, lexLt a b = false → lexLt b a = false → a = b
  | [], [], _, _ => rfl
  | [], _ :: _, h, _ => by simp [lexLt] at h
  | _ :: _, [], _, h => by simp [lexLt] at h
  | x :: a, y :: b, h, g => by
    simp only [lexLt, Bool.or_eq_false_iff, Bool.and_eq_false_iff, decide_eq_false_iff_not] at h g
    have e : x = y := by omega
    subst e
    rw [lex_eq a b (by simpa using h.2) (by simpa using g.2)]
theorem lex_tr : ∀ a b c, lexLt b a = false → lexLt c b = false → lexLt c a = false
  | [], b, c, _, _ => by cases c <;> rfl
  | x :: a, [], c, h, _ => by simp [lexLt] at h
  | x :: a, y :: b, [], _, h => by simp [lexLt] at h
  | x :: a, y :: b, z :: c, h, g => by
    simp only [lexLt, Bool.or_eq_false_iff, Bool.and_eq_false_iff, decide_eq_false_iff_not] at h g ⊢
    refine ⟨by omega, ?_⟩
    by_cases e : z = x
    · refine .inr (lex_tr a b c ?_ ?_)
      · rcases h.2 with h2 | h2
        · exact absurd (show y = x by omega) h2
        · exact h2
      · rcases g.2 with h2 | h2
        · exact absurd (show z = y by omega) h2
        · exact h2
    · exact .inl e
theorem lex_app : ∀ a t, lexLt (a ++ t) a = false
  | [], _ => by simp [lexLt]
  | x :: a, t => by simp [lexLt, lex_app a t]
structure Tsk where
  T : Nat
  us : Nat → List Int
  F : Nat → Int → Int
  J : Int → Int → Int
def minL (l : List Int) : Int := l.foldl min 9223372036854775807
theorem foldl_min_le : ∀ (l : List Int) (a : Int), l.foldl min a ≤ a ∧ ∀ x ∈ l, l.foldl min a ≤ x
  | [], a => ⟨Int.le_refl _, fun x h => by simp at h⟩
  | y :: l, a => by
    obtain ⟨h1, h2⟩ := foldl_min_le l (min a y)
    refine ⟨by simp only [List.foldl_cons]; omega, fun x hx => ?_⟩
    rcases List.mem_cons.1 hx with rfl | hx
    · simp only [List.foldl_cons]; omega
    · exact h2 x hx
theorem foldl_min_mem : ∀ (l : List Int) (a : Int), l.foldl min a = a ∨ l.foldl min a ∈ l
  | [], a => .inl rfl
  | y :: l, a => by
    simp only [List.foldl_cons]
    rcases foldl_min_mem l (min a y) with h | h
    · rw [h]
      by_cases hy : a ≤ y
      · left; omega
      · right; rw [show min a y = y by omega]; simp
    · right; exact List.mem_cons_of_mem _ h
theorem minL_le {l : List Int} {x : Int} (h : x ∈ l) : minL l ≤ x := (foldl_min_le l _).2 x h
theorem minL_mem {l : List Int} (hn : l ≠ []) (hb : ∀ x ∈ l, x ≤ 9223372036854775807) : minL l ∈ l := by
  rcases foldl_min_mem l 9223372036854775807 with h | h
  · cases l with
    | nil => exact absurd rfl hn
    | cons x l =>
      have h1 : minL (x :: l) ≤ x := minL_le (by simp)
      have h2 : minL (x :: l) = 9223372036854775807 := h
      have h3 := hb x (by simp)
      rw [show minL (x :: l) = x by omega]; simp
  · exact h
namespace Tsk
variable (t : Tsk)
/-- What the last k targets cost at least, if u is used for the first of them. -/
def R : Nat → Int → Int
  | 0, _ => 0
  | k + 1, u => t.F (t.T - (k + 1)) u + (if k = 0 then 0 else minL ((t.us (t.T - k)).map fun v => t.J u v + R k v))
/-- What a sequence costs, from a target on. -/
def tc : Nat → List Int → Int
  | _, [] => 0
  | i, [u] => t.F i u
  | i, u :: v :: s => t.F i u + t.J u v + tc (i + 1) (v :: s)
/-- All sequences for the last k targets. -/
def tl : Nat → List (List Int)
  | 0 => [[]]
  | k + 1 => (t.us (t.T - (k + 1))).flatMap fun u => (tl k).map (u :: ·)
theorem tl_len : ∀ k, ∀ s ∈ t.tl k, s.length = k
  | 0, s, h => by simp [tl] at h; simp [h]
  | k + 1, s, h => by
    simp only [tl, List.mem_flatMap, List.mem_map] at h
    obtain ⟨u, _, s', hs, rfl⟩ := h
    simp [tl_len k s' hs]
theorem R_le : ∀ k u s, k ≤ t.T → 1 ≤ k → s ∈ t.tl (k - 1) → t.R k u ≤ t.tc (t.T - k) (u :: s)
  | 0, _, _, _, h, _ => by omega
  | k + 1, u, s, hk, _, hs => by
    simp only [Nat.add_sub_cancel] at hs
    cases k with
    | zero => simp [tl] at hs; subst hs; simp [R, tc]
    | succ k =>
      simp only [tl, List.mem_flatMap, List.mem_map] at hs
      obtain ⟨v, hv, s', hs', rfl⟩ := hs
      have h1 := R_le (k + 1) v s' (by omega) (by omega) hs'
      have h2 : minL ((t.us (t.T - (k + 1))).map fun v => t.J u v + t.R (k + 1) v) ≤ t.J u v + t.R (k + 1) v := minL_le (List.mem_map.2 ⟨v, hv, rfl⟩)
      rw [R, if_neg (by omega)]
      simp only [tc]
      rw [show t.T - (k + 1 + 1) + 1 = t.T - (k + 1) by omega]
      omega
/-- Nothing overflows. -/
structure Small : Prop where
  some : ∀ i, i < t.T → t.us i ≠ []
  bd : ∀ k u v, 1 ≤ k → k ≤ t.T → v ∈ t.us (t.T - k) → t.J u v + t.R k v ≤ 9223372036854775807
theorem R_eq (hs : t.Small) : ∀ k u, k ≤ t.T → 1 ≤ k → ∃ s ∈ t.tl (k - 1), t.R k u = t.tc (t.T - k) (u :: s)
  | 0, _, _, h => by omega
  | k + 1, u, hk, _ => by
    simp only [Nat.add_sub_cancel]
    cases k with
    | zero => exact ⟨[], by simp [tl], by simp [R, tc]⟩
    | succ k =>
      have hm : minL ((t.us (t.T - (k + 1))).map fun v => t.J u v + t.R (k + 1) v) ∈ (t.us (t.T - (k + 1))).map fun v => t.J u v + t.R (k + 1) v := by
        refine minL_mem ?_ ?_
        · intro h; exact hs.some (t.T - (k + 1)) (by omega) (List.map_eq_nil_iff.1 h)
        · intro x hx
          obtain ⟨v, hv, rfl⟩ := List.mem_map.1 hx
          exact hs.bd (k + 1) u v (by omega) (by omega) hv
      obtain ⟨v, hv, e⟩ := List.mem_map.1 hm
      obtain ⟨s, h1, h2⟩ := R_eq hs (k + 1) v (by omega) (by omega)
      refine ⟨v :: s, ?_, ?_⟩
      · simp only [tl, List.mem_flatMap, List.mem_map]
        exact ⟨v, hv, s, h1, rfl⟩
      · rw [R, if_neg (by omega), ← e]
        simp only [tc]
        rw [show t.T - (k + 1 + 1) + 1 = t.T - (k + 1) by omega]
        omega
/-- A sequence that goes on. -/
theorem tc_app : ∀ (a : List Int) (i : Nat) (u : Int) (s : List Int), t.tc i (a ++ u :: s) = t.tc i (a ++ [u]) - t.F (i + a.length) u + t.tc (i + a.length) (u :: s)
  | [], i, u, s => by simp [tc]
  | [x], i, u, s => by
    show t.tc i (x :: u :: s) = t.tc i (x :: [u]) - _ + _
    cases s <;> simp [tc] <;> omega
  | x :: y :: a, i, u, s => by
    have := tc_app (y :: a) (i + 1) u s
    simp only [List.cons_append, tc] at this ⊢
    rw [this]
    have e : i + 1 + (y :: a).length = i + (x :: y :: a).length := by simp; omega
    rw [e]; omega
theorem tc_snoc : ∀ (a : List Int) (i : Nat) (u : Int), t.tc i (a ++ [u]) = t.tc i a + (match a.getLast? with | some x => t.J x u | none => 0) + t.F (i + a.length) u
  | [], i, u => by simp [tc]
  | [x], i, u => by simp [tc]
  | x :: y :: a, i, u => by
    have := tc_snoc (y :: a) (i + 1) u
    simp only [List.cons_append, tc] at this ⊢
    rw [this]
    have e : i + 1 + (y :: a).length = i + (x :: y :: a).length := by simp; omega
    rw [e, List.getLast?_cons_cons]; omega
end Tsk
structure Itm where
  ptr : Option Addr
  units : List Int
  cost : Int
  least : Int
instance : Inhabited Itm := ⟨⟨none, [], 0, 0⟩⟩
def Itm.lt (x y : Itm) : Bool := decide (x.least < y.least) || (decide (x.least = y.least) && lexLt x.units y.units)
theorem itm_tot : TotB Itm.lt where
  tr a b c h g := by
    simp only [Itm.lt, Bool.or_eq_false_iff, Bool.and_eq_false_iff, decide_eq_false_iff_not] at h g ⊢
    refine ⟨by omega, ?_⟩
    by_cases e : c.least = a.least
    · refine .inr (lex_tr a.units b.units c.units ?_ ?_)
      · rcases h.2 with h2 | h2
        · exact absurd (show b.least = a.least by omega) h2
        · exact h2
      · rcases g.2 with h2 | h2
        · exact absurd (show c.least = b.least by omega) h2
        · exact h2
    · exact .inl e
  anti a b h := by
    simp only [Itm.lt, Bool.or_eq_true, Bool.and_eq_true, decide_eq_true_eq] at h
    simp only [Itm.lt, Bool.or_eq_false_iff, Bool.and_eq_false_iff, decide_eq_false_iff_not]
    rcases h with h | ⟨h1, h2⟩
    · exact ⟨by omega, .inl (by omega)⟩
    · exact ⟨by omega, .inr (lex_as _ _ h2)⟩
def seqLt (x y : List Int × Int) : Prop := x.2 < y.2 ∨ (x.2 = y.2 ∧ lexLt x.1 y.1 = true)
namespace Tsk
variable (t : Tsk)
structure Ok (x : Itm) : Prop where
  len : x.units.length ≤ t.T
  mem : ∀ k, k < x.units.length → nth x.units k ∈ t.us k
  cost : x.cost = t.tc 0 x.units
  least : x.least = match x.units.getLast? with | some u => t.tc 0 x.units - t.F (x.units.length - 1) u + t.R (t.T - x.units.length + 1) u | none => 0
def comp (x : Itm) : List (List Int) := (t.tl (t.T - x.units.length)).map (x.units ++ ·)
def kid (x : Itm) (u : Int) (p : Option Addr) : Itm :=
  let j := match x.units.getLast? with | some y => t.J y u | none => 0
  ⟨p, x.units ++ [u], x.cost + j + t.F x.units.length u, x.cost + j + t.R (t.T - x.units.length) u⟩
theorem kid_ok {x : Itm} (h : t.Ok x) (hl : x.units.length < t.T) {u : Int} (hu : u ∈ t.us x.units.length) (p : Option Addr) : t.Ok (t.kid x u p) where
  len := by simp [kid]; omega
  mem k hk := by
    simp [kid] at hk ⊢
    by_cases h1 : k < x.units.length
    · have e : nth (x.units ++ [u]) k = nth x.units k := by simp only [nth, List.getD]; rw [List.getElem?_append_left h1]
      rw [e]; exact h.mem k h1
    · have h2 : k = x.units.length := by omega
      subst h2
      have e : nth (x.units ++ [u]) x.units.length = u := by simp [nth, List.getD]
      rw [e]; exact hu
  cost := by
    simp only [kid]
    rw [t.tc_snoc, h.cost]
    simp
  least := by
    simp only [kid, List.getLast?_append, List.getLast?_singleton, Option.some_or, List.length_append, List.length_singleton, Nat.add_sub_cancel]
    rw [t.tc_snoc, h.cost, show t.T - (x.units.length + 1) + 1 = t.T - x.units.length by omega]
    simp only [Nat.zero_add]
    omega
theorem comp_kids {x : Itm} (hl : x.units.length < t.T) : t.comp x = (t.us x.units.length).flatMap fun u => (t.tl (t.T - x.units.length - 1)).map fun s => x.units ++ [u] ++ s := by
  unfold comp
  obtain ⟨k, hk⟩ : ∃ k, t.T - x.units.length = k + 1 := ⟨t.T - x.units.length - 1, by omega⟩
  rw [hk, tl, show t.T - (k + 1) = x.units.length by omega, List.map_flatMap]
  simp [List.map_map, Function.comp_def]
/-- A completion costs at least what its beginning says. -/
theorem least_le {x : Itm} (h : t.Ok x) (hn : x.units ≠ []) : ∀ s ∈ t.comp x, x.least ≤ t.tc 0 s := by
  intro s hs
  obtain ⟨s', hs', rfl⟩ := List.mem_map.1 hs
  have hl := h.len
  have hz : 0 < x.units.length := List.length_pos_iff.2 hn
  obtain ⟨a, u, e⟩ : ∃ a u, x.units = a ++ [u] := ⟨_, _, (List.dropLast_concat_getLast hn).symm⟩
  have he := h.least
  rw [e] at he hs' hl ⊢
  simp only [List.getLast?_append, List.getLast?_singleton, Option.some_or, List.length_append, List.length_singleton, Nat.add_sub_cancel] at he hs' hl
  rw [he, List.append_assoc, List.singleton_append, t.tc_app a 0 u s', Nat.zero_add]
  have := t.R_le (t.T - (a.length + 1) + 1) u s' (by omega) (by omega) (by simpa using hs')
  rw [show t.T - (t.T - (a.length + 1) + 1) = a.length by omega] at this
  omega
/-- The search so far. -/
structure BF (l : List Itm) (out : List (List Int × Int)) : Prop where
  ok : ∀ x ∈ l, t.Ok x
  one : (∀ x ∈ l, x.units ≠ []) ∨ ∃ x, l = [x]
  cov : (l.flatMap t.comp ++ out.map (·.1)).Perm (t.tl t.T)
  cst : ∀ o ∈ out, o.2 = t.tc 0 o.1
  srt : out.Pairwise seqLt
  bel : ∀ o ∈ out, ∀ s ∈ l.flatMap t.comp, seqLt o (s, t.tc 0 s)
variable {t}
theorem flatMap_perm {α β : Type} {l l' : List α} (f : α → List β) (h : l.Perm l') : (l.flatMap f).Perm (l'.flatMap f) := h.flatMap_right f
theorem BF.start : t.BF [⟨none, [], 0, 0⟩] [] where
  ok x hx := by
    simp only [List.mem_singleton] at hx; subst hx
    exact ⟨by simp, fun k hk => by simp at hk, by simp [tc], by simp⟩
  one := .inr ⟨_, rfl⟩
  cov := by simp [comp]
  cst o ho := by simp at ho
  srt := List.Pairwise.nil
  bel o ho := by simp at ho
/-- A whole sequence comes up. -/
theorem BF.take (hnd : (t.tl t.T).Nodup) {l l' : List Itm} {out : List (List Int × Int)} (h : t.BF l out) {x : Itm} (hp : l.Perm (x :: l')) (hmin : ∀ y ∈ l', Itm.lt y x = false) (hx : x.units.length = t.T) : t.BF l' (out ++ [(x.units, x.cost)]) := by
  have hxm : x ∈ l := hp.mem_iff.2 (by simp)
  have hok := h.ok x hxm
  have hl' : ∀ y ∈ l', y ∈ l := fun y hy => hp.mem_iff.2 (by simp [hy])
  have hcx : t.comp x = [x.units] := by simp [comp, hx, tl]
  have hfp : (l.flatMap t.comp).Perm (x.units :: l'.flatMap t.comp) := by
    have := flatMap_perm t.comp hp
    rw [List.flatMap_cons, hcx] at this; exact this
  have hcov : (x.units :: l'.flatMap t.comp ++ out.map (·.1)).Perm (t.tl t.T) := (hfp.symm.append_right _).trans h.cov
  have hnd2 := hcov.nodup_iff.2 hnd
  have hnx : x.units ∉ l'.flatMap t.comp := by
    rw [List.cons_append, List.nodup_cons] at hnd2
    exact fun hc => hnd2.1 (List.mem_append_left _ hc)
  have hone : (∀ y ∈ l', y.units ≠ []) ∧ (l' ≠ [] → x.units ≠ []) := by
    rcases h.one with h1 | ⟨z, hz⟩
    · exact ⟨fun y hy => h1 y (hl' y hy), fun _ => h1 x hxm⟩
    · have := hp.length_eq
      rw [hz] at this
      have : l' = [] := by cases l' <;> simp_all
      subst this
      exact ⟨fun y hy => by simp at hy, fun hc => absurd rfl hc⟩
  have key : ∀ s ∈ l'.flatMap t.comp, seqLt (x.units, x.cost) (s, t.tc 0 s) := by
    intro s hs
    obtain ⟨y, hy, hsy⟩ := List.mem_flatMap.1 hs
    have hm := hmin y hy
    have hle := t.least_le (h.ok y (hl' y hy)) (hone.1 y hy) s hsy
    have hlx : x.least = x.cost := by
      have := hok.least
      obtain ⟨a, u, e⟩ : ∃ a u, x.units = a ++ [u] := ⟨_, _, (List.dropLast_concat_getLast (hone.2 (List.ne_nil_of_mem hy))).symm⟩
      rw [this, hok.cost, hx]
      rw [hx.symm, e]
      simp only [List.getLast?_append, List.getLast?_singleton, Option.some_or, Nat.sub_self, Nat.zero_add, R, List.length_append, List.length_singleton]
      have hT : t.T = a.length + 1 := by rw [← hx, e]; simp
      simp [hT]
    simp only [Itm.lt, Bool.or_eq_false_iff, Bool.and_eq_false_iff, decide_eq_false_iff_not] at hm
    unfold seqLt
    by_cases hlt : x.cost < t.tc 0 s
    · exact .inl hlt
    · refine .inr ⟨by simp only; omega, ?_⟩
      obtain ⟨s', _, rfl⟩ := List.mem_map.1 hsy
      have g1 : lexLt y.units x.units = false := by
        rcases hm.2 with h2 | h2
        · exact absurd (show y.least = x.least by omega) h2
        · exact h2
      have g2 := lex_app y.units s'
      have g3 := lex_tr _ _ _ g1 g2
      cases hh : lexLt x.units (y.units ++ s')
      · have := lex_eq _ _ hh g3
        exact absurd (this ▸ hs) hnx
      · rfl
  refine ⟨fun y hy => h.ok y (hl' y hy), .inl hone.1, ?_, ?_, ?_, ?_⟩
  · refine List.Perm.trans ?_ hcov
    rw [List.map_append, List.map_singleton, ← List.append_assoc]
    exact (List.perm_append_singleton _ _)
  · intro o ho
    rcases List.mem_append.1 ho with h1 | h1
    · exact h.cst o h1
    · simp only [List.mem_singleton] at h1; subst h1; exact hok.cost
  · rw [List.pairwise_append]
    refine ⟨h.srt, List.pairwise_singleton _ _, fun o ho y hy => ?_⟩
    simp only [List.mem_singleton] at hy; subst hy
    have := h.bel o ho x.units (hfp.mem_iff.2 (by simp))
    rw [hok.cost]; exact this
  · intro o ho s hs
    rcases List.mem_append.1 ho with h1 | h1
    · exact h.bel o h1 s (hfp.mem_iff.2 (by simp [hs]))
    · simp only [List.mem_singleton] at h1; subst h1; exact key s hs
/-- A beginning is followed by all that go on. -/
theorem BF.grow {l l' l'' : List Itm} {out : List (List Int × Int)} (h : t.BF l out) {x : Itm} (hp : l.Perm (x :: l')) (hx : x.units.length < t.T) {ps : List (Option Addr)} (hps : ps.length = (t.us x.units.length).length)
    (hk : l''.Perm (l' ++ (List.zipWith (t.kid x) (t.us x.units.length) ps))) : t.BF l'' out := by
  have hxm : x ∈ l := hp.mem_iff.2 (by simp)
  have hl' : ∀ y ∈ l', y ∈ l := fun y hy => hp.mem_iff.2 (by simp [hy])
  have hkm : ∀ y ∈ List.zipWith (t.kid x) (t.us x.units.length) ps, ∃ u ∈ t.us x.units.length, ∃ p, y = t.kid x u p := by
    intro y hy
    rw [← List.map_uncurry_zip_eq_zipWith] at hy
    obtain ⟨⟨u, p⟩, hz, rfl⟩ := List.mem_map.1 hy
    exact ⟨u, (List.of_mem_zip hz).1, p, rfl⟩
  have hcomp : (List.zipWith (t.kid x) (t.us x.units.length) ps).flatMap t.comp = t.comp x := by
    rw [t.comp_kids hx]
    clear hk hkm
    generalize t.us x.units.length = us at hps
    induction us generalizing ps with
    | nil => simp
    | cons u us ih =>
      cases ps with
      | nil => simp at hps
      | cons p ps =>
        simp only [List.zipWith_cons_cons, List.flatMap_cons]
        rw [ih (by simpa using hps)]
        congr 1
        simp [comp, kid, Nat.sub_sub]
  have hfp : (l''.flatMap t.comp).Perm (l.flatMap t.comp) := by
    refine (flatMap_perm t.comp hk).trans ?_
    rw [List.flatMap_append, hcomp]
    refine List.perm_append_comm.trans ?_
    have := flatMap_perm t.comp hp
    rw [List.flatMap_cons] at this
    exact this.symm
  refine ⟨fun y hy => ?_, .inl fun y hy => ?_, (hfp.append_right _).trans h.cov, h.cst, h.srt, fun o ho s hs => h.bel o ho s (hfp.mem_iff.1 hs)⟩
  · rcases List.mem_append.1 (hk.mem_iff.1 hy) with h1 | h1
    · exact h.ok y (hl' y h1)
    · obtain ⟨u, hu, p, rfl⟩ := hkm y h1
      exact t.kid_ok (h.ok x hxm) hx hu p
  · rcases List.mem_append.1 (hk.mem_iff.1 hy) with h1 | h1
    · rcases h.one with h2 | ⟨z, hz⟩
      · exact h2 y (hl' y h1)
      · have := hp.length_eq
        rw [hz] at this
        have : l' = [] := by cases l' <;> simp_all
        subst this
        simp at h1
    · obtain ⟨u, _, p, rfl⟩ := hkm y h1
      simp [kid]
/-- How many beginnings there are below one. -/
def wgt (t : Tsk) : Nat → Nat
  | 0 => 1
  | k + 1 => 1 + (t.us (t.T - (k + 1))).length * wgt t k
def mu (t : Tsk) (l : List Itm) : Nat := (l.map fun x => t.wgt (t.T - x.units.length)).sum
theorem wgt_pos (t : Tsk) : ∀ k, 1 ≤ t.wgt k
  | 0 => by simp [wgt]
  | k + 1 => by simp [wgt]
theorem len_mu (t : Tsk) : ∀ l : List Itm, l.length ≤ t.mu l
  | [] => by simp
  | x :: l => by
    have h := len_mu t l
    have := wgt_pos t (t.T - x.units.length)
    simp only [mu, List.map_cons, List.sum_cons, List.length_cons] at h ⊢
    omega
theorem mu_perm (t : Tsk) {l l' : List Itm} (h : l.Perm l') : t.mu l = t.mu l' := (h.map _).sum_nat
theorem mu_take (t : Tsk) {l l' : List Itm} {x : Itm} (h : l.Perm (x :: l')) : t.mu l' < t.mu l := by
  rw [mu_perm t h]
  have := wgt_pos t (t.T - x.units.length)
  simp only [mu, List.map_cons, List.sum_cons]; omega
theorem mu_kids (t : Tsk) (x : Itm) (hx : x.units.length < t.T) : ∀ (us : List Int) (ps : List (Option Addr)), t.mu (List.zipWith (t.kid x) us ps) ≤ us.length * t.wgt (t.T - x.units.length - 1)
  | [], _ => by simp [mu]
  | _ :: _, [] => by simp [mu]
  | u :: us, p :: ps => by
    have := mu_kids t x hx us ps
    simp only [mu, List.zipWith_cons_cons, List.map_cons, List.sum_cons, List.length_cons] at this ⊢
    rw [Nat.add_mul, Nat.one_mul]
    have e : t.T - (t.kid x u p).units.length = t.T - x.units.length - 1 := by simp [kid]; omega
    rw [e]; omega
theorem mu_grow (t : Tsk) {l l' : List Itm} {x : Itm} (h : l.Perm (x :: l')) (hx : x.units.length < t.T) (ps : List (Option Addr)) : t.mu (l' ++ List.zipWith (t.kid x) (t.us x.units.length) ps) < t.mu l := by
  rw [mu_perm t h]
  have h1 := mu_kids t x hx (t.us x.units.length) ps
  have h2 : t.wgt (t.T - x.units.length) = 1 + (t.us x.units.length).length * t.wgt (t.T - x.units.length - 1) := by
    obtain ⟨k, hk⟩ : ∃ k, t.T - x.units.length = k + 1 := ⟨t.T - x.units.length - 1, by omega⟩
    rw [hk, wgt, show t.T - (k + 1) = x.units.length by omega, Nat.add_sub_cancel]
  have h3 : t.mu (l' ++ List.zipWith (t.kid x) (t.us x.units.length) ps) = t.mu l' + t.mu (List.zipWith (t.kid x) (t.us x.units.length) ps) := by simp [mu]
  rw [h3]
  simp only [mu, List.map_cons, List.sum_cons] at h1 ⊢
  omega
theorem wgt_le (t : Tsk) {c : Nat} (hc : ∀ i, (t.us i).length ≤ c) : ∀ k, t.wgt k ≤ (c + 1) ^ k
  | 0 => by simp [wgt]
  | k + 1 => by
    have h1 := wgt_le t hc k
    have h2 := hc (t.T - (k + 1))
    have h3 : (t.us (t.T - (k + 1))).length * t.wgt k ≤ c * (c + 1) ^ k := Nat.mul_le_mul h2 h1
    have h4 : 1 ≤ (c + 1) ^ k := Nat.one_le_pow _ _ (by omega)
    rw [wgt, Nat.pow_succ, Nat.mul_add, Nat.mul_one, Nat.mul_comm ((c + 1) ^ k) c]
    omega
end Tsk
end Go.Sx

set_option autoImplicit false
set_option maxRecDepth 100000
namespace Go.Proofs.YtomjbfeafodfbaaGreat
open Go.Sx
open Enc (enc val)
/-- A unit; the lists are what its vectors read as. -/
structure Un where
  phone : ByteArray
  before : ByteArray
  after : ByteArray
  pitch : Int
  length : Int
  take : Int
  fr : Int
  to : Int
  bs : SlV
  es : SlV
  bl : List Int
  el : List Int
instance : Inhabited Un := ⟨⟨default, default, default, 0, 0, 0, 0, 0, default, default, [], []⟩⟩
instance : Enc Un := ⟨fun u => [.string u.phone, .string u.before, .string u.after, .int .i64 u.pitch, .int .i64 u.length, .int .i64 u.take, .int .i64 u.fr, .int .i64 u.to, u.bs.v, u.es.v], 10, fun u => .agg #[.string u.phone, .string u.before, .string u.after, .int .i64 u.pitch, .int .i64 u.length, .int .i64 u.take, .int .i64 u.fr, .int .i64 u.to, u.bs.v, u.es.v], fun _ => rfl, by simp [Value.oneCell', SlV.v], fun _ => rfl, by decide⟩
instance : HasTy Tryz.prog 49 Un := hasTy_agg Tryz.sizeOf49 Tryz.isAgg49 (fun _ => rfl)
structure Wan where
  phone : ByteArray
  before : ByteArray
  after : ByteArray
  pitch : Int
  length : Int
instance : Inhabited Wan := ⟨⟨default, default, default, 0, 0⟩⟩
instance : Enc Wan := ⟨fun u => [.string u.phone, .string u.before, .string u.after, .int .i64 u.pitch, .int .i64 u.length], 5, fun u => .agg #[.string u.phone, .string u.before, .string u.after, .int .i64 u.pitch, .int .i64 u.length], fun _ => rfl, by simp [Value.oneCell'], fun _ => rfl, by decide⟩
instance : HasTy Tryz.prog 51 Wan := hasTy_agg Tryz.sizeOf51 Tryz.isAgg51 (fun _ => rfl)
structure Wts where
  beside : Int
  pitch : Int
  length : Int
  join : Int
instance : Inhabited Wts := ⟨⟨0, 0, 0, 0⟩⟩
instance : Enc Wts := ⟨fun u => [.int .i64 u.beside, .int .i64 u.pitch, .int .i64 u.length, .int .i64 u.join], 4, fun u => .agg #[.int .i64 u.beside, .int .i64 u.pitch, .int .i64 u.length, .int .i64 u.join], fun _ => rfl, by simp [Value.oneCell'], fun _ => rfl, by decide⟩
instance : HasTy Tryz.prog 25 Wts := hasTy_agg Tryz.sizeOf25 Tryz.isAgg25 (fun _ => rfl)
/-- A sequence; the list is what its units read as. -/
structure Sq where
  us : SlV
  cost : Int
  ul : List Int
instance : Inhabited Sq := ⟨⟨default, 0, []⟩⟩
instance : Enc Sq := ⟨fun u => [u.us.v, .int .i64 u.cost], 2, fun u => .agg #[u.us.v, .int .i64 u.cost], fun _ => rfl, by simp [Value.oneCell', SlV.v], fun _ => rfl, by decide⟩
instance : HasTy Tryz.prog 30 Sq := hasTy_agg Tryz.sizeOf30 Tryz.isAgg30 (fun _ => rfl)
theorem stb_true (w : World) (fp : List Nat) : Stb w fp (fun _ => True) := ⟨fun _ _ => trivial⟩
def inB (x lo hi : Int) : Bool := decide (lo ≤ x) && decide (x ≤ hi)
theorem within_spec (x lo hi : Int) (w : World) : Calls Tryz.prog 70 #[.int .i64 x, .int .i64 lo, .int .i64 hi] w fun e w' => e = .returned (.bool (inB x lo hi)) ∧ Cl w [] [] w' := by
  refine calls_cw (vs := [_, _, _]) Tryz.func70 rfl Tryz.ntmps70 rfl (Cl.start0 w) (cw_seq (cw_region (sr rfl rfl rfl ((q_assign rfl rfl)) (sw_nil (post_then (cw_seq (cw_region (sr rfl rfl rfl ((q_move rfl rfl)) (sr rfl rfl rfl ((q_move rfl rfl)) (sr rfl rfl rfl ((q_geq rfl rfl rfl)) (sr rfl rfl rfl ((q_move rfl rfl)) (sr rfl rfl rfl ((q_move rfl rfl)) (sr rfl rfl rfl ((q_move rfl rfl)) (sr rfl rfl rfl ((q_leq rfl rfl rfl)) (sr rfl rfl rfl ((q_and2 rfl rfl rfl)) (sr rfl rfl rfl ((q_assign rfl rfl)) (sw_nil (post_then (cw_ret (post_ret1 rfl (resOk_tmp rfl) ?_))))))))))))))))))))
  refine fun w' hw => ⟨rfl, hw⟩
theorem refIn_spec (x lo hi : Int) (w : World) : Calls Tryz.prog 84 #[.int .i64 x, .int .i64 lo, .int .i64 hi] w fun e w' => e = .returned (.bool (inB x lo hi)) ∧ Cl w [] [] w' := by
  refine calls_cw (vs := [_, _, _]) Tryz.func84 rfl Tryz.ntmps84 rfl (Cl.start0 w) (cw_seq (cw_region (sr rfl rfl rfl ((q_assign rfl rfl)) (sw_nil (post_then (cw_seq (cw_region (sr rfl rfl rfl ((q_move rfl rfl)) (sr rfl rfl rfl ((q_move rfl rfl)) (sr rfl rfl rfl ((q_geq rfl rfl rfl)) (sr rfl rfl rfl ((q_move rfl rfl)) (sr rfl rfl rfl ((q_move rfl rfl)) (sr rfl rfl rfl ((q_move rfl rfl)) (sr rfl rfl rfl ((q_leq rfl rfl rfl)) (sr rfl rfl rfl ((q_and2 rfl rfl rfl)) (sr rfl rfl rfl ((q_assign rfl rfl)) (sw_nil (post_then (cw_ret (post_ret1 rfl (resOk_tmp rfl) ?_))))))))))))))))))))
  refine fun w' hw => ⟨rfl, hw⟩
theorem far_spec (a b : Int) (w : World) (h : -4611686018427387904 ≤ a - b ∧ a - b ≤ 4611686018427387904) : Calls Tryz.prog 114 #[.int .i64 a, .int .i64 b] w fun e w' => e = .returned (.int .i64 (max (a - b) (b - a))) ∧ Cl w [] [] w' := by
  refine calls_cw (vs := [_, _]) Tryz.func114 rfl Tryz.ntmps114 rfl (Cl.start0 w) (cw_seq (cw_region (sr rfl rfl rfl ((q_assign rfl rfl)) (sw_nil (post_then (cw_seq (cw_region (sr rfl rfl rfl ((q_move rfl rfl)) (sr rfl rfl rfl ((q_move rfl rfl)) ?_)))))))))
  refine sr rfl rfl rfl ((q_sub rfl rfl rfl (by intro hc; omega))) ?_
  refine sr rfl rfl rfl ((q_move rfl rfl)) (sr rfl rfl rfl ((q_move rfl rfl)) ?_)
  refine sr rfl rfl rfl ((q_sub rfl rfl rfl (by intro hc; omega))) ?_
  refine sr rfl rfl rfl ((q_max rfl (.cons rfl inferInstance (.cons rfl inferInstance (.nil))))) (sr rfl rfl rfl ((q_assign rfl rfl)) (sw_nil (post_then (cw_ret (post_ret1 rfl (resOk_tmp rfl) ?_)))))
  refine fun w' hw => ⟨rfl, hw⟩
def idxP {α : Type} (p : α → Bool) (xs : List α) : Int := match xs.findIdx? p with
  | some i => i
  | none => -1
theorem idxP_at {α : Type} [Inhabited α] {p : α → Bool} {xs : List α} {k : Nat} (hk : k < xs.length) (h : ∀ j, j < k → p (nth xs j) = false) (hp : p (nth xs k) = true) : idxP p xs = k := by
  have : xs.findIdx? p = some k := by
    rw [List.findIdx?_eq_some_iff_getElem]
    refine ⟨hk, by rw [← nth_get hk]; exact hp, fun j hj => ?_⟩
    have := h j hj
    rw [nth_get (by omega)] at this
    simp [this]
  simp [idxP, this]
theorem idxP_none {α : Type} [Inhabited α] {p : α → Bool} {xs : List α} (h : ∀ j, j < xs.length → p (nth xs j) = false) : idxP p xs = -1 := by
  have : xs.findIdx? p = none := by
    rw [List.findIdx?_eq_none_iff]
    intro x hx
    obtain ⟨i, hi, rfl⟩ := List.getElem_of_mem hx
    have := h i hi
    rw [nth_get hi] at this
    exact this
  simp [idxP, this]
theorem idxP_any {α : Type} {p : α → Bool} {xs : List α} : decide (0 ≤ idxP p xs) = xs.any p := by
  unfold idxP
  cases h : xs.findIdx? p with
  | none =>
    rw [List.findIdx?_eq_none_iff] at h
    have : xs.any p = false := by rw [List.any_eq_false]; intro x hx; simp [h x hx]
    rw [this]; rfl
  | some i =>
    obtain ⟨hi, hp, _⟩ := List.findIdx?_eq_some_iff_getElem.1 h
    have : xs.any p = true := List.any_eq_true.2 ⟨_, List.getElem_mem hi, hp⟩
    rw [this]; simp
/-- A function value that only reads, and answers p at what lies in a list. -/
def PredL (P : Program) {α : Type} [Enc α] (g : FuncId) (cap : Array Value) (p : α → Bool) (R : World → Prop) (xs : List α) : Prop :=
  ∀ x, x ∈ xs → ∀ w, R w → Calls P g ([val x].toArray ++ cap) w fun e w' => e = .returned (.bool (p x)) ∧ Cl w [] [] w'
theorem containsInt_index (sv : Value) (xs : List Int) (g : FuncId) (cap : Array Value) (p : Int → Bool) (R : World → Prop) (w : World) (hs : Stb w [] (RdL sv xs)) (hR : Stb w [] R) (hgc : CanCall Tryz.prog g) (hg : PredL Tryz.prog g cap p R xs) :
    Calls Tryz.prog 122 #[sv, .func (.func g) #[] cap] w fun e w' => e = .returned (.int .i64 (idxP p xs)) ∧ Cl w [] [] w' := by
  have hL := rd_len hs.here
  refine calls_cw (vs := [_, _]) Tryz.func122 rfl Tryz.ntmps122 rfl (Cl.start0 w) (cw_seq (cw_region (sr rfl rfl rfl ((q_assign rfl rfl)) (sw_nil (post_then (cw_seq (cw_seq (cw_region (sr rfl rfl rfl ((q_move rfl rfl)) ?_)))))))))
  refine sr rfl rfl rfl ((q_len rfl (.cons rfl inferInstance (.nil)) (by exact fun w hw => Stb.cl (by assumption) hw))) ?_
  refine sr rfl rfl rfl ((q_move rfl rfl)) (sw_nil (post_then (cw_block ?_)))
  refine cw_loop (S := Nat) (fun k => [(0, [], sv), (1, [], .func (.func g) #[] cap), (7, [], .int .i64 xs.length), (8, [], .int .i64 k)]) (fun _ => Cl w [] []) (fun k => k ≤ xs.length ∧ ∀ j, j < k → p (nth xs j) = false) (fun k => xs.length - k) 0 ⟨by omega, fun j hj => by omega⟩ (by exact .cons rfl (.cons rfl (.cons rfl (.cons rfl .nil)))) (fun _ h => h) ?_
  rintro k ⟨hk, hbe⟩
  refine cw_seq (cw_region (sr rfl rfl rfl ((q_lss rfl rfl rfl)) (sw_nil (post_then (cw_seq ?_)))))
  refine cw_cond rfl (fun h => ?_) (fun h => ?_)
  · skip
    have hk' : k < xs.length := by simp only [decide_eq_true_eq] at h; omega
    refine cw_skip (post_then (cw_seq (cw_block (cw_seq (cw_region (sr rfl rfl rfl ((q_move rfl rfl)) (sr rfl rfl rfl ((q_assign rfl rfl)) (sw_nil (post_then (cw_seq (cw_region (sr rfl rfl rfl ((q_move rfl rfl)) (sr rfl rfl rfl ((q_move rfl rfl)) (sr rfl rfl rfl ((q_move rfl rfl)) ?_))))))))))))))
    refine sr rfl rfl rfl ((q_indexN rfl rfl rfl (by exact fun w hw => Stb.cl (by assumption) hw) (by intro hc; omega))) ?_
    refine sr rfl rfl rfl ((q_loadEl rfl rfl rfl (by exact fun w hw => Stb.cl (by assumption) hw) (by intro hc; omega))) ?_
    refine sw_step rfl rfl rfl (q_callv hgc rfl rfl (.cons rfl inferInstance (.nil)) (fun _ w' hw => callq hw (hg (nth xs k) (by rw [nth_get hk']; exact List.getElem_mem hk') w' (hR.cl hw)))) ?_
    refine sw_nil (post_then ?_)
    refine cw_cond rfl (fun h2 => ?_) (fun h2 => ?_)
    · skip
      refine cw_seq (cw_region (sr rfl rfl rfl ((q_move rfl rfl)) (sr rfl rfl rfl ((q_assign rfl rfl)) (sw_nil (post_then (cw_ret (post_blk_r (post_then_r (post_then_r (post_blk_r (post_then_r (post_ret1 rfl (resOk_tmp rfl) ?_))))))))))))
      exact fun w' hw => ⟨by rw [idxP_at hk' hbe h2], hw⟩
    · skip
      refine cw_skip (post_blk (post_then (cw_region ?_)))
      refine sr rfl rfl rfl ((q_add rfl rfl rfl (by intro hc; omega))) ?_
      refine sr rfl rfl rfl ((q_move rfl rfl)) (sw_nil ?_)
      refine post_next (k + 1) (by exact .cons rfl (.cons rfl (.cons rfl (.cons rfl .nil)))) (fun _ h => h) ⟨by omega, fun j hj => ?_⟩ (by omega)
      by_cases hjk : j = k
      · rw [hjk]; exact h2
      · exact hbe j (by omega)
  · skip
    have hk' : k = xs.length := by simp only [decide_eq_false_iff_not] at h; omega
    subst hk'
    refine cw_exit (post_then_x (post_then_x (post_blk_eq (post_then (cw_seq (cw_region (sr rfl rfl rfl ((q_assign rfl rfl)) (sw_nil (post_then (cw_ret (post_ret1 rfl (resOk_tmp rfl) ?_)))))))))))
    exact fun w' hw => ⟨by rw [idxP_none hbe], hw⟩
theorem containsInt_spec (sv : Value) (xs : List Int) (g : FuncId) (cap : Array Value) (p : Int → Bool) (R : World → Prop) (w : World) (hs : Stb w [] (RdL sv xs)) (hR : Stb w [] R) (hgc : CanCall Tryz.prog g) (hg : PredL Tryz.prog g cap p R xs) :
    Calls Tryz.prog 81 #[sv, .func (.func g) #[] cap] w fun e w' => e = .returned (.bool (xs.any p)) ∧ Cl w [] [] w' := by
  refine calls_cw (vs := [_, _]) Tryz.func81 rfl Tryz.ntmps81 rfl (Cl.start0 w) (cw_seq (cw_region (sr rfl rfl rfl ((q_assign rfl rfl)) (sw_nil (post_then (cw_seq (cw_region (sr rfl rfl rfl ((q_move rfl rfl)) (sr rfl rfl rfl ((q_move rfl rfl)) ?_)))))))))
  refine sw_step rfl rfl rfl (q_call (CanCall.mk Tryz.call122) rfl (.cons rfl inferInstance (.cons rfl inferInstance (.nil))) (fun _ w hw => callq hw (containsInt_index _ _ _ _ _ _ w (by exact stb_arg hw (by assumption)) (stb_arg hw hR) hgc hg))) ?_
  refine sr rfl rfl rfl ((q_geq rfl rfl rfl)) (sr rfl rfl rfl ((q_assign rfl rfl)) (sw_nil (post_then (cw_ret (post_ret1 rfl (resOk_tmp rfl) ?_)))))
  exact fun w' hw => ⟨by rw [idxP_any], hw⟩
theorem containsUn_index (sv : Value) (xs : List Un) (g : FuncId) (cap : Array Value) (p : Un → Bool) (R : World → Prop) (w : World) (hs : Stb w [] (RdL sv xs)) (hR : Stb w [] R) (hgc : CanCall Tryz.prog g) (hg : PredL Tryz.prog g cap p R xs) :
    Calls Tryz.prog 141 #[sv, .func (.func g) #[] cap] w fun e w' => e = .returned (.int .i64 (idxP p xs)) ∧ Cl w [] [] w' := by
  have hL := rd_len hs.here
  refine calls_cw (vs := [_, _]) Tryz.func141 rfl Tryz.ntmps141 rfl (Cl.start0 w) (cw_seq (cw_region (sr rfl rfl rfl ((q_assign rfl rfl)) (sw_nil (post_then (cw_seq (cw_seq (cw_region (sr rfl rfl rfl ((q_move rfl rfl)) ?_)))))))))
  refine sr rfl rfl rfl ((q_len rfl (.cons rfl inferInstance (.nil)) (by exact fun w hw => Stb.cl (by assumption) hw))) ?_
  refine sr rfl rfl rfl ((q_move rfl rfl)) (sw_nil (post_then (cw_block ?_)))
  refine cw_loop (S := Nat) (fun k => [(0, [], sv), (1, [], .func (.func g) #[] cap), (7, [], .int .i64 xs.length), (8, [], .int .i64 k)]) (fun _ => Cl w [] []) (fun k => k ≤ xs.length ∧ ∀ j, j < k → p (nth xs j) = false) (fun k => xs.length - k) 0 ⟨by omega, fun j hj => by omega⟩ (by exact .cons rfl (.cons rfl (.cons rfl (.cons rfl .nil)))) (fun _ h => h) ?_
  rintro k ⟨hk, hbe⟩
  refine cw_seq (cw_region (sr rfl rfl rfl ((q_lss rfl rfl rfl)) (sw_nil (post_then (cw_seq ?_)))))
  refine cw_cond rfl (fun h => ?_) (fun h => ?_)
  · skip
    have hk' : k < xs.length := by simp only [decide_eq_true_eq] at h; omega
    refine cw_skip (post_then (cw_seq (cw_block (cw_seq (cw_region (sr rfl rfl rfl ((q_move rfl rfl)) (sr rfl rfl rfl ((q_assign rfl rfl)) (sw_nil (post_then (cw_seq (cw_region (sr rfl rfl rfl ((q_move rfl rfl)) (sr rfl rfl rfl ((q_move rfl rfl)) (sr rfl rfl rfl ((q_move rfl rfl)) ?_))))))))))))))
    refine sr rfl rfl rfl ((q_indexN rfl rfl rfl (by exact fun w hw => Stb.cl (by assumption) hw) (by intro hc; omega))) ?_
    refine sr rfl rfl rfl ((q_loadEl rfl rfl rfl (by exact fun w hw => Stb.cl (by assumption) hw) (by intro hc; omega))) ?_
    refine sw_step rfl rfl rfl (q_callv hgc rfl rfl (.cons rfl inferInstance (.nil)) (fun _ w' hw => callq hw (hg (nth xs k) (by rw [nth_get hk']; exact List.getElem_mem hk') w' (hR.cl hw)))) ?_
    refine sw_nil (post_then ?_)
    refine cw_cond rfl (fun h2 => ?_) (fun h2 => ?_)
    · skip
      refine cw_seq (cw_region (sr rfl rfl rfl ((q_move rfl rfl)) (sr rfl rfl rfl ((q_assign rfl rfl)) (sw_nil (post_then (cw_ret (post_blk_r (post_then_r (post_then_r (post_blk_r (post_then_r (post_ret1 rfl (resOk_tmp rfl) ?_))))))))))))
      exact fun w' hw => ⟨by rw [idxP_at hk' hbe h2], hw⟩
    · skip
      refine cw_skip (post_blk (post_then (cw_region ?_)))
      refine sr rfl rfl rfl ((q_add rfl rfl rfl (by intro hc; omega))) ?_
      refine sr rfl rfl rfl ((q_move rfl rfl)) (sw_nil ?_)
      refine post_next (k + 1) (by exact .cons rfl (.cons rfl (.cons rfl (.cons rfl .nil)))) (fun _ h => h) ⟨by omega, fun j hj => ?_⟩ (by omega)
      by_cases hjk : j = k
      · rw [hjk]; exact h2
      · exact hbe j (by omega)
  · skip
    have hk' : k = xs.length := by simp only [decide_eq_false_iff_not] at h; omega
    subst hk'
    refine cw_exit (post_then_x (post_then_x (post_blk_eq (post_then (cw_seq (cw_region (sr rfl rfl rfl ((q_assign rfl rfl)) (sw_nil (post_then (cw_ret (post_ret1 rfl (resOk_tmp rfl) ?_)))))))))))
    exact fun w' hw => ⟨by rw [idxP_none hbe], hw⟩
theorem containsUn_spec (sv : Value) (xs : List Un) (g : FuncId) (cap : Array Value) (p : Un → Bool) (R : World → Prop) (w : World) (hs : Stb w [] (RdL sv xs)) (hR : Stb w [] R) (hgc : CanCall Tryz.prog g) (hg : PredL Tryz.prog g cap p R xs) :
    Calls Tryz.prog 123 #[sv, .func (.func g) #[] cap] w fun e w' => e = .returned (.bool (xs.any p)) ∧ Cl w [] [] w' := by
  refine calls_cw (vs := [_, _]) Tryz.func123 rfl Tryz.ntmps123 rfl (Cl.start0 w) (cw_seq (cw_region (sr rfl rfl rfl ((q_assign rfl rfl)) (sw_nil (post_then (cw_seq (cw_region (sr rfl rfl rfl ((q_move rfl rfl)) (sr rfl rfl rfl ((q_move rfl rfl)) ?_)))))))))
  refine sw_step rfl rfl rfl (q_call (CanCall.mk Tryz.call141) rfl (.cons rfl inferInstance (.cons rfl inferInstance (.nil))) (fun _ w hw => callq hw (containsUn_index _ _ _ _ _ _ w (by exact stb_arg hw (by assumption)) (stb_arg hw hR) hgc hg))) ?_
  refine sr rfl rfl rfl ((q_geq rfl rfl rfl)) (sr rfl rfl rfl ((q_assign rfl rfl)) (sw_nil (post_then (cw_ret (post_ret1 rfl (resOk_tmp rfl) ?_)))))
  exact fun w' hw => ⟨by rw [idxP_any], hw⟩
theorem containsWan_index (sv : Value) (xs : List Wan) (g : FuncId) (cap : Array Value) (p : Wan → Bool) (R : World → Prop) (w : World) (hs : Stb w [] (RdL sv xs)) (hR : Stb w [] R) (hgc : CanCall Tryz.prog g) (hg : PredL Tryz.prog g cap p R xs) :
    Calls Tryz.prog 132 #[sv, .func (.func g) #[] cap] w fun e w' => e = .returned (.int .i64 (idxP p xs)) ∧ Cl w [] [] w' := by
  have hL := rd_len hs.here
  refine calls_cw (vs := [_, _]) Tryz.func132 rfl Tryz.ntmps132 rfl (Cl.start0 w) (cw_seq (cw_region (sr rfl rfl rfl ((q_assign rfl rfl)) (sw_nil (post_then (cw_seq (cw_seq (cw_region (sr rfl rfl rfl ((q_move rfl rfl)) ?_)))))))))
  refine sr rfl rfl rfl ((q_len rfl (.cons rfl inferInstance (.nil)) (by exact fun w hw => Stb.cl (by assumption) hw))) ?_
  refine sr rfl rfl rfl ((q_move rfl rfl)) (sw_nil (post_then (cw_block ?_)))
  refine cw_loop (S := Nat) (fun k => [(0, [], sv), (1, [], .func (.func g) #[] cap), (7, [], .int .i64 xs.length), (8, [], .int .i64 k)]) (fun _ => Cl w [] []) (fun k => k ≤ xs.length ∧ ∀ j, j < k → p (nth xs j) = false) (fun k => xs.length - k) 0 ⟨by omega, fun j hj => by omega⟩ (by exact .cons rfl (.cons rfl (.cons rfl (.cons rfl .nil)))) (fun _ h => h) ?_
  rintro k ⟨hk, hbe⟩
  refine cw_seq (cw_region (sr rfl rfl rfl ((q_lss rfl rfl rfl)) (sw_nil (post_then (cw_seq ?_)))))
  refine cw_cond rfl (fun h => ?_) (fun h => ?_)
  · skip
    have hk' : k < xs.length := by simp only [decide_eq_true_eq] at h; omega
    refine cw_skip (post_then (cw_seq (cw_block (cw_seq (cw_region (sr rfl rfl rfl ((q_move rfl rfl)) (sr rfl rfl rfl ((q_assign rfl rfl)) (sw_nil (post_then (cw_seq (cw_region (sr rfl rfl rfl ((q_move rfl rfl)) (sr rfl rfl rfl ((q_move rfl rfl)) (sr rfl rfl rfl ((q_move rfl rfl)) ?_))))))))))))))
    refine sr rfl rfl rfl ((q_indexN rfl rfl rfl (by exact fun w hw => Stb.cl (by assumption) hw) (by intro hc; omega))) ?_
    refine sr rfl rfl rfl ((q_loadEl rfl rfl rfl (by exact fun w hw => Stb.cl (by assumption) hw) (by intro hc; omega))) ?_
    refine sw_step rfl rfl rfl (q_callv hgc rfl rfl (.cons rfl inferInstance (.nil)) (fun _ w' hw => callq hw (hg (nth xs k) (by rw [nth_get hk']; exact List.getElem_mem hk') w' (hR.cl hw)))) ?_
    refine sw_nil (post_then ?_)
    refine cw_cond rfl (fun h2 => ?_) (fun h2 => ?_)
    · skip
      refine cw_seq (cw_region (sr rfl rfl rfl ((q_move rfl rfl)) (sr rfl rfl rfl ((q_assign rfl rfl)) (sw_nil (post_then (cw_ret (post_blk_r (post_then_r (post_then_r (post_blk_r (post_then_r (post_ret1 rfl (resOk_tmp rfl) ?_))))))))))))
      exact fun w' hw => ⟨by rw [idxP_at hk' hbe h2], hw⟩
    · skip
      refine cw_skip (post_blk (post_then (cw_region ?_)))
      refine sr rfl rfl rfl ((q_add rfl rfl rfl (by intro hc; omega))) ?_
      refine sr rfl rfl rfl ((q_move rfl rfl)) (sw_nil ?_)
      refine post_next (k + 1) (by exact .cons rfl (.cons rfl (.cons rfl (.cons rfl .nil)))) (fun _ h => h) ⟨by omega, fun j hj => ?_⟩ (by omega)
      by_cases hjk : j = k
      · rw [hjk]; exact h2
      · exact hbe j (by omega)
  · skip
    have hk' : k = xs.length := by simp only [decide_eq_false_iff_not] at h; omega
    subst hk'
    refine cw_exit (post_then_x (post_then_x (post_blk_eq (post_then (cw_seq (cw_region (sr rfl rfl rfl ((q_assign rfl rfl)) (sw_nil (post_then (cw_ret (post_ret1 rfl (resOk_tmp rfl) ?_)))))))))))
    exact fun w' hw => ⟨by rw [idxP_none hbe], hw⟩
theorem containsWan_spec (sv : Value) (xs : List Wan) (g : FuncId) (cap : Array Value) (p : Wan → Bool) (R : World → Prop) (w : World) (hs : Stb w [] (RdL sv xs)) (hR : Stb w [] R) (hgc : CanCall Tryz.prog g) (hg : PredL Tryz.prog g cap p R xs) :
    Calls Tryz.prog 103 #[sv, .func (.func g) #[] cap] w fun e w' => e = .returned (.bool (xs.any p)) ∧ Cl w [] [] w' := by
  refine calls_cw (vs := [_, _]) Tryz.func103 rfl Tryz.ntmps103 rfl (Cl.start0 w) (cw_seq (cw_region (sr rfl rfl rfl ((q_assign rfl rfl)) (sw_nil (post_then (cw_seq (cw_region (sr rfl rfl rfl ((q_move rfl rfl)) (sr rfl rfl rfl ((q_move rfl rfl)) ?_)))))))))
  refine sw_step rfl rfl rfl (q_call (CanCall.mk Tryz.call132) rfl (.cons rfl inferInstance (.cons rfl inferInstance (.nil))) (fun _ w hw => callq hw (containsWan_index _ _ _ _ _ _ w (by exact stb_arg hw (by assumption)) (stb_arg hw hR) hgc hg))) ?_
  refine sr rfl rfl rfl ((q_geq rfl rfl rfl)) (sr rfl rfl rfl ((q_assign rfl rfl)) (sw_nil (post_then (cw_ret (post_ret1 rfl (resOk_tmp rfl) ?_)))))
  exact fun w' hw => ⟨by rw [idxP_any], hw⟩
theorem containsRow_index (sv : Value) (xs : List SlV) (g : FuncId) (cap : Array Value) (p : SlV → Bool) (R : World → Prop) (w : World) (hs : Stb w [] (RdL sv xs)) (hR : Stb w [] R) (hgc : CanCall Tryz.prog g) (hg : PredL Tryz.prog g cap p R xs) :
    Calls Tryz.prog 128 #[sv, .func (.func g) #[] cap] w fun e w' => e = .returned (.int .i64 (idxP p xs)) ∧ Cl w [] [] w' := by
  have hL := rd_len hs.here
  refine calls_cw (vs := [_, _]) Tryz.func128 rfl Tryz.ntmps128 rfl (Cl.start0 w) (cw_seq (cw_region (sr rfl rfl rfl ((q_assign rfl rfl)) (sw_nil (post_then (cw_seq (cw_seq (cw_region (sr rfl rfl rfl ((q_move rfl rfl)) ?_)))))))))
  refine sr rfl rfl rfl ((q_len rfl (.cons rfl inferInstance (.nil)) (by exact fun w hw => Stb.cl (by assumption) hw))) ?_
  refine sr rfl rfl rfl ((q_move rfl rfl)) (sw_nil (post_then (cw_block ?_)))
  refine cw_loop (S := Nat) (fun k => [(0, [], sv), (1, [], .func (.func g) #[] cap), (7, [], .int .i64 xs.length), (8, [], .int .i64 k)]) (fun _ => Cl w [] []) (fun k => k ≤ xs.length ∧ ∀ j, j < k → p (nth xs j) = false) (fun k => xs.length - k) 0 ⟨by omega, fun j hj => by omega⟩ (by exact .cons rfl (.cons rfl (.cons rfl (.cons rfl .nil)))) (fun _ h => h) ?_
  rintro k ⟨hk, hbe⟩
  refine cw_seq (cw_region (sr rfl rfl rfl ((q_lss rfl rfl rfl)) (sw_nil (post_then (cw_seq ?_)))))
  refine cw_cond rfl (fun h => ?_) (fun h => ?_)
  · skip
    have hk' : k < xs.length := by simp only [decide_eq_true_eq] at h; omega
    refine cw_skip (post_then (cw_seq (cw_block (cw_seq (cw_region (sr rfl rfl rfl ((q_move rfl rfl)) (sr rfl rfl rfl ((q_assign rfl rfl)) (sw_nil (post_then (cw_seq (cw_region (sr rfl rfl rfl ((q_move rfl rfl)) (sr rfl rfl rfl ((q_move rfl rfl)) (sr rfl rfl rfl ((q_move rfl rfl)) ?_))))))))))))))
    refine sr rfl rfl rfl ((q_indexN rfl rfl rfl (by exact fun w hw => Stb.cl (by assumption) hw) (by intro hc; omega))) ?_
    refine sr rfl rfl rfl ((q_loadEl rfl rfl rfl (by exact fun w hw => Stb.cl (by assumption) hw) (by intro hc; omega))) ?_
    refine sw_step rfl rfl rfl (q_callv hgc rfl rfl (.cons rfl inferInstance (.nil)) (fun _ w' hw => callq hw (hg (nth xs k) (by rw [nth_get hk']; exact List.getElem_mem hk') w' (hR.cl hw)))) ?_
    refine sw_nil (post_then ?_)
    refine cw_cond rfl (fun h2 => ?_) (fun h2 => ?_)
    · skip
      refine cw_seq (cw_region (sr rfl rfl rfl ((q_move rfl rfl)) (sr rfl rfl rfl ((q_assign rfl rfl)) (sw_nil (post_then (cw_ret (post_blk_r (post_then_r (post_then_r (post_blk_r (post_then_r (post_ret1 rfl (resOk_tmp rfl) ?_))))))))))))
      exact fun w' hw => ⟨by rw [idxP_at hk' hbe h2], hw⟩
    · skip
      refine cw_skip (post_blk (post_then (cw_region ?_)))
      refine sr rfl rfl rfl ((q_add rfl rfl rfl (by intro hc; omega))) ?_
      refine sr rfl rfl rfl ((q_move rfl rfl)) (sw_nil ?_)
      refine post_next (k + 1) (by exact .cons rfl (.cons rfl (.cons rfl (.cons rfl .nil)))) (fun _ h => h) ⟨by omega, fun j hj => ?_⟩ (by omega)
      by_cases hjk : j = k
      · rw [hjk]; exact h2
      · exact hbe j (by omega)
  · skip
    have hk' : k = xs.length := by simp only [decide_eq_false_iff_not] at h; omega
    subst hk'
    refine cw_exit (post_then_x (post_then_x (post_blk_eq (post_then (cw_seq (cw_region (sr rfl rfl rfl ((q_assign rfl rfl)) (sw_nil (post_then (cw_ret (post_ret1 rfl (resOk_tmp rfl) ?_)))))))))))
    exact fun w' hw => ⟨by rw [idxP_none hbe], hw⟩
theorem containsRow_spec (sv : Value) (xs : List SlV) (g : FuncId) (cap : Array Value) (p : SlV → Bool) (R : World → Prop) (w : World) (hs : Stb w [] (RdL sv xs)) (hR : Stb w [] R) (hgc : CanCall Tryz.prog g) (hg : PredL Tryz.prog g cap p R xs) :
    Calls Tryz.prog 95 #[sv, .func (.func g) #[] cap] w fun e w' => e = .returned (.bool (xs.any p)) ∧ Cl w [] [] w' := by
  refine calls_cw (vs := [_, _]) Tryz.func95 rfl Tryz.ntmps95 rfl (Cl.start0 w) (cw_seq (cw_region (sr rfl rfl rfl ((q_assign rfl rfl)) (sw_nil (post_then (cw_seq (cw_region (sr rfl rfl rfl ((q_move rfl rfl)) (sr rfl rfl rfl ((q_move rfl rfl)) ?_)))))))))
  refine sw_step rfl rfl rfl (q_call (CanCall.mk Tryz.call128) rfl (.cons rfl inferInstance (.cons rfl inferInstance (.nil))) (fun _ w hw => callq hw (containsRow_index _ _ _ _ _ _ w (by exact stb_arg hw (by assumption)) (stb_arg hw hR) hgc hg))) ?_
  refine sr rfl rfl rfl ((q_geq rfl rfl rfl)) (sr rfl rfl rfl ((q_assign rfl rfl)) (sw_nil (post_then (cw_ret (post_ret1 rfl (resOk_tmp rfl) ?_)))))
  exact fun w' hw => ⟨by rw [idxP_any], hw⟩
def bOk (s : ByteArray) (i : Nat) : Bool := decide (33 ≤ byteAt s i) && decide (byteAt s i ≤ 126)
def phoneB (s : ByteArray) : Bool := (List.range s.size).all (bOk s) && inB s.size 1 8
theorem phone_no {s : ByteArray} {k : Nat} (hk : k < s.size) (h : bOk s k = false) : phoneB s = false := by
  have : (List.range s.size).all (bOk s) = false := List.all_eq_false.2 ⟨k, by simpa using hk, by simp [h]⟩
  simp [phoneB, this]
theorem phone_yes {s : ByteArray} (h : ∀ j, j < s.size → bOk s j = true) : phoneB s = inB s.size 1 8 := by
  have : (List.range s.size).all (bOk s) = true := List.all_eq_true.2 fun x hx => h x (by simpa using hx)
  simp [phoneB, this]
theorem phone_spec (s : ByteArray) (w : World) (hs : s.size ≤ 140737488355328) : Calls Tryz.prog 125 #[.string s] w fun e w' => e = .returned (.bool (phoneB s)) ∧ Cl w [] [] w' := by
  refine calls_cw (vs := [_]) Tryz.func125 rfl Tryz.ntmps125 rfl (Cl.start0 w) (cw_seq (cw_region (sr rfl rfl rfl ((q_assign rfl rfl)) (sw_nil (post_then (cw_seq (cw_seq (cw_region (sr rfl rfl rfl ((q_move rfl rfl)) (sr rfl rfl rfl ((q_lenS rfl (.cons rfl inferInstance (.nil)) Tryz.underlying9)) (sr rfl rfl rfl ((q_move rfl rfl)) (sw_nil (post_then (cw_block ?_))))))))))))))
  refine cw_loop (S := Nat) (fun k => [(0, [], .string s), (5, [], .int .i64 s.size), (6, [], .int .i64 k)]) (fun _ => Cl w [] []) (fun k => k ≤ s.size ∧ ∀ j, j < k → bOk s j = true) (fun k => s.size - k) 0 ⟨by omega, fun j hj => by omega⟩ (by exact .cons rfl (.cons rfl (.cons rfl .nil))) (fun _ h => h) ?_
  rintro k ⟨hk, hbe⟩
  refine cw_seq (cw_region (sr rfl rfl rfl ((q_lss rfl rfl rfl)) (sw_nil (post_then (cw_seq ?_)))))
  refine cw_cond rfl (fun h => ?_) (fun h => ?_)
  · skip
    have hk' : k < s.size := by simp only [decide_eq_true_eq] at h; omega
    refine cw_skip (post_then (cw_seq (cw_block (cw_seq (cw_region (sr rfl rfl rfl ((q_move rfl rfl)) (sr rfl rfl rfl ((q_assign rfl rfl)) (sw_nil (post_then (cw_seq (cw_region (sr rfl rfl rfl ((q_move rfl rfl)) (sr rfl rfl rfl ((q_move rfl rfl)) ?_)))))))))))))
    refine sr rfl rfl rfl ((q_indexS rfl rfl rfl Tryz.underlying9 (by intro hc; omega))) ?_
    refine sr rfl rfl rfl ((q_lss rfl rfl rfl)) (sr rfl rfl rfl ((q_move rfl rfl)) (sr rfl rfl rfl ((q_move rfl rfl)) (sr rfl rfl rfl ((q_move rfl rfl)) ?_)))
    refine sr rfl rfl rfl ((q_indexS rfl rfl rfl Tryz.underlying9 (by intro hc; omega))) ?_
    refine sr rfl rfl rfl ((q_gtr rfl rfl rfl)) (sr rfl rfl rfl ((q_or2 rfl rfl rfl)) (sw_nil (post_then ?_)))
    refine cw_cond rfl (fun h2 => ?_) (fun h2 => ?_)
    · skip
      have h3 : bOk s k = false := by
        simp only [Int.toNat_natCast, Bool.or_eq_true, decide_eq_true_eq] at h2
        simp [bOk]; omega
      refine cw_seq (cw_region (sr rfl rfl rfl ((q_assign rfl rfl)) (sw_nil (post_then (cw_ret (post_blk_r (post_then_r (post_then_r (post_blk_r (post_then_r (post_ret1 rfl (resOk_tmp rfl) ?_)))))))))))
      exact fun w' hw => ⟨by rw [phone_no hk' h3], hw⟩
    · skip
      have h3 : bOk s k = true := by
        simp only [Int.toNat_natCast, Bool.or_eq_false_iff, decide_eq_false_iff_not] at h2
        simp [bOk]; omega
      refine cw_skip (post_blk (post_then (cw_region ?_)))
      refine sr rfl rfl rfl ((q_add rfl rfl rfl (by intro hc; omega))) ?_
      refine sr rfl rfl rfl ((q_move rfl rfl)) (sw_nil ?_)
      refine post_next (k + 1) (by exact .cons rfl (.cons rfl (.cons rfl .nil))) (fun _ h => h) ⟨by omega, fun j hj => ?_⟩ (by omega)
      by_cases hjk : j = k
      · rw [hjk]; exact h3
      · exact hbe j (by omega)
  · skip
    have hk' : k = s.size := by simp only [decide_eq_false_iff_not] at h; omega
    subst hk'
    refine cw_exit (post_then_x (post_then_x (post_blk_eq (post_then (cw_seq (cw_region (sr rfl rfl rfl ((q_move rfl rfl)) (sr rfl rfl rfl ((q_lenS rfl (.cons rfl inferInstance (.nil)) Tryz.underlying9)) (sw_step rfl rfl rfl (q_call (CanCall.mk Tryz.call70) rfl (.cons rfl inferInstance (.cons rfl inferInstance (.cons rfl inferInstance (.nil)))) (fun _ w hw => callq hw (within_spec _ _ _ w))) (sr rfl rfl rfl ((q_assign rfl rfl)) (sw_nil (post_then (cw_ret (post_ret1 rfl (resOk_tmp rfl) ?_))))))))))))))
    exact fun w' hw => ⟨by rw [phone_yes hbe] <;> rfl, hw⟩
theorem refPhone_spec (s : ByteArray) (w : World) (hs : s.size ≤ 140737488355328) : Calls Tryz.prog 91 #[.string s] w fun e w' => e = .returned (.bool (phoneB s)) ∧ Cl w [] [] w' := by
  refine calls_cw (vs := [_]) Tryz.func91 rfl Tryz.ntmps91 rfl (Cl.start0 w) (cw_seq (cw_region (sr rfl rfl rfl ((q_assign rfl rfl)) (sw_nil (post_then (cw_seq (cw_seq (cw_region (sr rfl rfl rfl ((q_assign rfl rfl)) (sw_nil (post_then (cw_block ?_))))))))))))
  refine cw_loop (S := Nat) (fun k => [(0, [], .string s), (3, [], .int .i64 k)]) (fun _ => Cl w [] []) (fun k => k ≤ s.size ∧ ∀ j, j < k → bOk s j = true) (fun k => s.size - k) 0 ⟨by omega, fun j hj => by omega⟩ (by exact .cons rfl (.cons rfl .nil)) (fun _ h => h) ?_
  rintro k ⟨hk, hbe⟩
  refine cw_seq (cw_seq (cw_region (sr rfl rfl rfl ((q_move rfl rfl)) (sr rfl rfl rfl ((q_move rfl rfl)) (sr rfl rfl rfl ((q_lenS rfl (.cons rfl inferInstance (.nil)) Tryz.underlying9)) (sr rfl rfl rfl ((q_lss rfl rfl rfl)) (sw_nil (post_then ?_))))))))
  refine cw_cond rfl (fun h => ?_) (fun h => ?_)
  · skip
    have hk' : k < s.size := by simp only [decide_eq_true_eq] at h; omega
    refine cw_skip (post_then (cw_seq (cw_block (cw_seq (cw_region (sr rfl rfl rfl ((q_move rfl rfl)) (sr rfl rfl rfl ((q_move rfl rfl)) ?_)))))))
    refine sr rfl rfl rfl ((q_indexS rfl rfl rfl Tryz.underlying9 (by intro hc; omega))) ?_
    refine sr rfl rfl rfl ((q_lss rfl rfl rfl)) (sr rfl rfl rfl ((q_move rfl rfl)) (sr rfl rfl rfl ((q_move rfl rfl)) (sr rfl rfl rfl ((q_move rfl rfl)) ?_)))
    refine sr rfl rfl rfl ((q_indexS rfl rfl rfl Tryz.underlying9 (by intro hc; omega))) ?_
    refine sr rfl rfl rfl ((q_gtr rfl rfl rfl)) (sr rfl rfl rfl ((q_or2 rfl rfl rfl)) (sw_nil (post_then ?_)))
    refine cw_cond rfl (fun h2 => ?_) (fun h2 => ?_)
    · skip
      have h3 : bOk s k = false := by
        simp only [Int.toNat_natCast, Bool.or_eq_true, decide_eq_true_eq] at h2
        simp [bOk]; omega
      refine cw_seq (cw_region (sr rfl rfl rfl ((q_assign rfl rfl)) (sw_nil (post_then (cw_ret (post_blk_r (post_then_r (post_then_r (post_blk_r (post_then_r (post_ret1 rfl (resOk_tmp rfl) ?_)))))))))))
      exact fun w' hw => ⟨by rw [phone_no hk' h3], hw⟩
    · skip
      have h3 : bOk s k = true := by
        simp only [Int.toNat_natCast, Bool.or_eq_false_iff, decide_eq_false_iff_not] at h2
        simp [bOk]; omega
      refine cw_skip (post_blk (post_then (cw_region (sr rfl rfl rfl ((q_move rfl rfl)) ?_))))
      refine sr rfl rfl rfl ((q_add rfl rfl rfl (by intro hc; omega))) ?_
      refine sr rfl rfl rfl ((q_assign rfl rfl)) (sw_nil ?_)
      refine post_next (k + 1) (by exact .cons rfl (.cons rfl .nil)) (fun _ h => h) ⟨by omega, fun j hj => ?_⟩ (by omega)
      by_cases hjk : j = k
      · rw [hjk]; exact h3
      · exact hbe j (by omega)
  · skip
    have hk' : k = s.size := by simp only [decide_eq_false_iff_not] at h; omega
    subst hk'
    refine cw_exit (post_then_x (post_then_x (post_blk_eq (post_then (cw_seq (cw_region (sr rfl rfl rfl ((q_move rfl rfl)) (sr rfl rfl rfl ((q_lenS rfl (.cons rfl inferInstance (.nil)) Tryz.underlying9)) (sr rfl rfl rfl ((q_geq rfl rfl rfl)) (sr rfl rfl rfl ((q_move rfl rfl)) (sr rfl rfl rfl ((q_move rfl rfl)) (sr rfl rfl rfl ((q_lenS rfl (.cons rfl inferInstance (.nil)) Tryz.underlying9)) (sr rfl rfl rfl ((q_leq rfl rfl rfl)) (sr rfl rfl rfl ((q_and2 rfl rfl rfl)) (sr rfl rfl rfl ((q_assign rfl rfl)) (sw_nil (post_then (cw_ret (post_ret1 rfl (resOk_tmp rfl) ?_)))))))))))))))))))
    exact fun w' hw => ⟨by rw [phone_yes hbe] <;> rfl, hw⟩
def besideB (s : ByteArray) : Bool := decide (s = ByteArray.empty) || phoneB s
theorem beside_spec (s : ByteArray) (w : World) (hs : s.size ≤ 140737488355328) : Calls Tryz.prog 126 #[.string s] w fun e w' => e = .returned (.bool (besideB s)) ∧ Cl w [] [] w' := by
  refine calls_cw (vs := [_]) Tryz.func126 rfl Tryz.ntmps126 rfl (Cl.start0 w) (cw_seq (cw_region (sr rfl rfl rfl ((q_assign rfl rfl)) (sw_nil (post_then (cw_seq (cw_region (sr rfl rfl rfl ((q_move rfl rfl)) (sr rfl rfl rfl ((q_eqlStr rfl rfl rfl Tryz.underlying9)) (sr rfl rfl rfl ((q_move rfl rfl)) (sr rfl rfl rfl ((q_move rfl rfl)) ?_)))))))))))
  refine sw_step rfl rfl rfl (q_call (CanCall.mk Tryz.call125) rfl (.cons rfl inferInstance (.nil)) (fun _ w hw => callq hw (phone_spec _ w (by omega)))) ?_
  refine sr rfl rfl rfl ((q_or2 rfl rfl rfl)) (sr rfl rfl rfl ((q_assign rfl rfl)) (sw_nil (post_then (cw_ret (post_ret1 rfl (resOk_tmp rfl) ?_)))))
  exact fun w' hw => ⟨rfl, hw⟩
theorem refBeside_spec (s : ByteArray) (w : World) (hs : s.size ≤ 140737488355328) : Calls Tryz.prog 92 #[.string s] w fun e w' => e = .returned (.bool (besideB s)) ∧ Cl w [] [] w' := by
  refine calls_cw (vs := [_]) Tryz.func92 rfl Tryz.ntmps92 rfl (Cl.start0 w) (cw_seq (cw_region (sr rfl rfl rfl ((q_assign rfl rfl)) (sw_nil (post_then (cw_seq (cw_region (sr rfl rfl rfl ((q_move rfl rfl)) (sr rfl rfl rfl ((q_eqlStr rfl rfl rfl Tryz.underlying9)) (sr rfl rfl rfl ((q_move rfl rfl)) (sr rfl rfl rfl ((q_move rfl rfl)) ?_)))))))))))
  refine sw_step rfl rfl rfl (q_call (CanCall.mk Tryz.call91) rfl (.cons rfl inferInstance (.nil)) (fun _ w hw => callq hw (refPhone_spec _ w (by omega)))) ?_
  refine sr rfl rfl rfl ((q_or2 rfl rfl rfl)) (sr rfl rfl rfl ((q_assign rfl rfl)) (sw_nil (post_then (cw_ret (post_ret1 rfl (resOk_tmp rfl) ?_)))))
  exact fun w' hw => ⟨rfl, hw⟩
end Go.Proofs.YtomjbfeafodfbaaGreat

set_option autoImplicit false
set_option maxRecDepth 100000
namespace Go.Proofs.YtomjbfeafodfbaaGreat
open Go.Sx
open Enc (enc val)
theorem nth_bd {l : List Int} {lo hi : Int} (h0 : lo ≤ 0 ∧ 0 ≤ hi) (h : ∀ v ∈ l, lo ≤ v ∧ v ≤ hi) (k : Nat) : lo ≤ nth l k ∧ nth l k ≤ hi := by
  by_cases hk : k < l.length
  · rw [nth_get hk]; exact h _ (List.getElem_mem _)
  · simp only [nth, List.getD, List.getElem?_eq_none (by omega : l.length ≤ k)]; exact h0
def vecB (l : List Int) : Bool := (l.all fun x => inB x (-10000) 10000) && inB l.length 1 40
theorem vec_bd {l : List Int} (h : vecB l = true) : (∀ k, -10000 ≤ nth l k ∧ nth l k ≤ 10000) ∧ 1 ≤ l.length ∧ l.length ≤ 40 := by
  simp only [vecB, Bool.and_eq_true, List.all_eq_true, inB, decide_eq_true_eq] at h
  exact ⟨nth_bd (by omega) fun v hv => h.1 v hv, by omega, by omega⟩
theorem vec_any (l : List Int) : (inB l.length 1 40 && !(l.any fun x => !inB x (-10000) 10000)) = vecB l := by
  have : (!(l.any fun x => !inB x (-10000) 10000)) = l.all fun x => inB x (-10000) 10000 := by
    rw [List.not_any_eq_all_not]; congr 1; funext x; simp
  rw [this, vecB, Bool.and_comm]
theorem vec1_spec (xs : List Int) : PredL Tryz.prog 137 #[] (fun x : Int => !inB x (-10000) 10000) (fun _ => True) xs := fun x _ w _ => by
    refine calls_cw (vs := [_]) Tryz.func137 rfl Tryz.ntmps137 rfl (Cl.start0 w) (cw_seq (cw_region (sr rfl rfl rfl ((q_assign rfl rfl)) (sw_nil (post_then (cw_seq (cw_region (sr rfl rfl rfl ((q_move rfl rfl)) (sw_step rfl rfl rfl (q_call (CanCall.mk Tryz.call70) rfl (.cons rfl inferInstance (.cons rfl inferInstance (.cons rfl inferInstance (.nil)))) (fun _ w hw => callq hw (within_spec _ _ _ w))) (sr rfl rfl rfl ((q_not rfl rfl)) (sr rfl rfl rfl ((q_assign rfl rfl)) (sw_nil (post_then (cw_ret (post_ret1 rfl (resOk_tmp rfl) ?_)))))))))))))))
    exact fun w' hw => ⟨rfl, hw⟩
theorem vector_spec (sv : Value) (l : List Int) (w : World) (hl : Stb w [] (RdL sv l)) : Calls Tryz.prog 113 #[sv] w fun e w' => e = .returned (.bool (vecB l)) ∧ Cl w [] [] w' := by
  have hL := rd_len hl.here
  refine calls_cw (vs := [_]) Tryz.func113 rfl Tryz.ntmps113 rfl (Cl.start0 w) (cw_seq (cw_region (sr rfl rfl rfl ((q_assign rfl rfl)) (sw_nil (post_then (cw_seq (cw_region (sr rfl rfl rfl ((q_move rfl rfl)) ?_))))))))
  refine sr rfl rfl rfl ((q_len rfl (.cons rfl inferInstance (.nil)) (by exact fun w hw => Stb.cl (by assumption) hw))) ?_
  refine sw_step rfl rfl rfl (q_call (CanCall.mk Tryz.call70) rfl (.cons rfl inferInstance (.cons rfl inferInstance (.cons rfl inferInstance (.nil)))) (fun _ w hw => callq hw (within_spec _ _ _ w))) (sr rfl rfl rfl ((q_move rfl rfl)) (sr rfl rfl rfl ((q_move rfl rfl)) ?_))
  refine sw_step rfl rfl rfl (q_call (CanCall.mk Tryz.call81) rfl (.cons rfl inferInstance (.cons rfl inferInstance (.nil))) (fun _ w hw => callq hw (containsInt_spec _ _ _ _ _ _ w (by exact stb_arg hw (by assumption)) (stb_true w []) (CanCall.mk Tryz.call137) (vec1_spec _)))) ?_
  refine sr rfl rfl rfl ((q_not rfl rfl)) (sr rfl rfl rfl ((q_and2 rfl rfl rfl)) (sr rfl rfl rfl ((q_assign rfl rfl)) (sw_nil (post_then (cw_ret (post_ret1 rfl (resOk_tmp rfl) ?_))))))
  exact fun w' hw => ⟨by rw [← vec_any], hw⟩
theorem refVector_spec (sv : Value) (l : List Int) (w : World) (hl : Stb w [] (RdL sv l)) : Calls Tryz.prog 115 #[sv] w fun e w' => e = .returned (.bool (vecB l)) ∧ Cl w [] [] w' := by
  have hL := rd_len hl.here
  refine calls_cw (vs := [_]) Tryz.func115 rfl Tryz.ntmps115 rfl (Cl.start0 w) (cw_seq (cw_region (sr rfl rfl rfl ((q_assign rfl rfl)) (sw_nil (post_then (cw_seq (cw_seq (cw_region (sr rfl rfl rfl ((q_assign rfl rfl)) (sw_nil (post_then (cw_block ?_))))))))))))
  refine cw_loop (S := Nat) (fun k => [(0, [], sv), (3, [], .int .i64 k)]) (fun _ => Cl w [] []) (fun k => k ≤ l.length ∧ ∀ j, j < k → inB (nth l j) (-10000) 10000 = true) (fun k => l.length - k) 0 ⟨Nat.zero_le _, fun j hj => by omega⟩ (by exact .cons rfl (.cons rfl .nil)) (fun _ h => h) ?_
  rintro k ⟨hk, hbe⟩
  refine cw_seq (cw_seq (cw_region (sr rfl rfl rfl ((q_move rfl rfl)) (sr rfl rfl rfl ((q_move rfl rfl)) ?_))))
  refine sr rfl rfl rfl ((q_len rfl (.cons rfl inferInstance (.nil)) (by exact fun w hw => Stb.cl (by assumption) hw))) ?_
  refine sr rfl rfl rfl ((q_lss rfl rfl rfl)) (sw_nil (post_then ?_))
  refine cw_cond rfl (fun h => ?_) (fun h => ?_)
  · skip
    have hk' : k < l.length := by simp only [decide_eq_true_eq] at h; omega
    refine cw_skip (post_then (cw_seq (cw_block (cw_seq (cw_region (sr rfl rfl rfl ((q_move rfl rfl)) (sr rfl rfl rfl ((q_move rfl rfl)) ?_)))))))
    refine sr rfl rfl rfl ((q_indexN rfl rfl rfl (by exact fun w hw => Stb.cl (by assumption) hw) (by intro hc; omega))) ?_
    refine sr rfl rfl rfl ((q_loadEl rfl rfl rfl (by exact fun w hw => Stb.cl (by assumption) hw) (by intro hc; omega))) ?_
    refine sw_step rfl rfl rfl (q_call (CanCall.mk Tryz.call84) rfl (.cons rfl inferInstance (.cons rfl inferInstance (.cons rfl inferInstance (.nil)))) (fun _ w hw => callq hw (refIn_spec _ _ _ w))) (sr rfl rfl rfl ((q_not rfl rfl)) (sw_nil (post_then ?_)))
    refine cw_cond rfl (fun h2 => ?_) (fun h2 => ?_)
    · skip
      have h3 : vecB l = false := by
        have h4 : (l.all fun x => inB x (-10000) 10000) = false := List.all_eq_false.2 ⟨nth l k, by rw [nth_get hk']; exact List.getElem_mem hk', by simpa using h2⟩
        simp [vecB, h4]
      refine cw_seq (cw_region (sr rfl rfl rfl ((q_assign rfl rfl)) (sw_nil (post_then (cw_ret (post_blk_r (post_then_r (post_then_r (post_blk_r (post_then_r (post_ret1 rfl (resOk_tmp rfl) ?_)))))))))))
      exact fun w' hw => ⟨by rw [h3], hw⟩
    · skip
      refine cw_skip (post_blk (post_then (cw_region (sr rfl rfl rfl ((q_move rfl rfl)) ?_))))
      refine sr rfl rfl rfl ((q_add rfl rfl rfl (by intro hc; omega))) ?_
      refine sr rfl rfl rfl ((q_assign rfl rfl)) (sw_nil ?_)
      refine post_next (k + 1) (by exact .cons rfl (.cons rfl .nil)) (fun _ h => h) ⟨by omega, fun j hj => ?_⟩ (by omega)
      by_cases hjk : j = k
      · rw [hjk]; simpa using h2
      · exact hbe j (by omega)
  · skip
    have hk' : k = l.length := by simp only [decide_eq_false_iff_not] at h; omega
    subst hk'
    refine cw_exit (post_then_x (post_then_x (post_blk_eq (post_then (cw_seq (cw_region (sr rfl rfl rfl ((q_move rfl rfl)) ?_)))))))
    refine sr rfl rfl rfl ((q_len rfl (.cons rfl inferInstance (.nil)) (by exact fun w hw => Stb.cl (by assumption) hw))) ?_
    refine sw_step rfl rfl rfl (q_call (CanCall.mk Tryz.call84) rfl (.cons rfl inferInstance (.cons rfl inferInstance (.cons rfl inferInstance (.nil)))) (fun _ w hw => callq hw (refIn_spec _ _ _ w))) (sr rfl rfl rfl ((q_assign rfl rfl)) (sw_nil (post_then (cw_ret (post_ret1 rfl (resOk_tmp rfl) ?_)))))
    refine fun w' hw => ⟨?_, hw⟩
    have h4 : (l.all fun x => inB x (-10000) 10000) = true := List.all_eq_true.2 fun x hx => by
      obtain ⟨i, hi, rfl⟩ := List.getElem_of_mem hx
      have := hbe i hi
      rw [nth_get hi] at this; exact this
    simp [vecB, h4]
def distTo (a b : List Int) : Nat → Int
  | 0 => 0
  | k + 1 => distTo a b k + max (nth a k - nth b k) (nth b k - nth a k)
def dist (a b : List Int) : Int := distTo a b a.length
theorem distTo_bd {a b : List Int} (ha : ∀ k, -10000 ≤ nth a k ∧ nth a k ≤ 10000) (hb : ∀ k, -10000 ≤ nth b k ∧ nth b k ≤ 10000) : ∀ k : Nat, 0 ≤ distTo a b k ∧ distTo a b k ≤ 20000 * k
  | 0 => by simp [distTo]
  | k + 1 => by
    have h := distTo_bd ha hb k
    have h1 := ha k
    have h2 := hb k
    simp only [distTo]; omega
theorem dist_bd {a b : List Int} (ha : vecB a = true) (hb : vecB b = true) : 0 ≤ dist a b ∧ dist a b ≤ 800000 := by
  have h1 := vec_bd ha
  have := distTo_bd h1.1 (vec_bd hb).1 a.length
  unfold dist; omega
theorem distance_spec (sa sb : Value) (a b : List Int) (w : World) (ha : Stb w [] (RdL sa a)) (hb : Stb w [] (RdL sb b)) (va : vecB a = true) (vb : vecB b = true) (hab : a.length = b.length) : Calls Tryz.prog 72 #[sa, sb] w fun e w' => e = .returned (.int .i64 (dist a b)) ∧ Cl w [] [] w' := by
  have bda := vec_bd va
  have bdb := vec_bd vb
  refine calls_cw (vs := [_, _]) Tryz.func72 rfl Tryz.ntmps72 rfl (Cl.start0 w) (cw_seq (cw_region (sr rfl rfl rfl ((q_assign rfl rfl)) (sw_nil (post_then (cw_seq (cw_region (sr rfl rfl rfl ((q_assign rfl rfl)) (sw_nil (post_then (cw_seq (cw_seq (cw_region (sr rfl rfl rfl ((q_move rfl rfl)) ?_))))))))))))))
  refine sr rfl rfl rfl ((q_len rfl (.cons rfl inferInstance (.nil)) (by exact fun w hw => Stb.cl (by assumption) hw))) ?_
  refine sr rfl rfl rfl ((q_move rfl rfl)) (sw_nil (post_then (cw_block ?_)))
  refine cw_loop (S := Nat) (fun k => [(0, [], sa), (1, [], sb), (5, [], .int .i64 (distTo a b k)), (8, [], .int .i64 a.length), (9, [], .int .i64 k)]) (fun _ => Cl w [] []) (fun k => k ≤ a.length) (fun k => a.length - k) 0 (Nat.zero_le _) (by exact .cons rfl (.cons rfl (.cons rfl (.cons rfl (.cons rfl .nil))))) (fun _ h => h) ?_
  intro k hk
  have hd := distTo_bd bda.1 bdb.1 k
  have h1 := bda.1 k
  have h2 := bdb.1 k
  refine cw_seq (cw_region (sr rfl rfl rfl ((q_lss rfl rfl rfl)) (sw_nil (post_then (cw_seq ?_)))))
  refine cw_cond rfl (fun h => ?_) (fun h => ?_)
  · skip
    have hk' : k < a.length := by simp only [decide_eq_true_eq] at h; omega
    refine cw_skip (post_then (cw_seq (cw_block (cw_seq (cw_region (sr rfl rfl rfl ((q_move rfl rfl)) (sr rfl rfl rfl ((q_assign rfl rfl)) (sw_nil (post_then ?_)))))))))
    refine cw_region_q mixed_Tryz (by kernel_rfl) ?_
    refine qr rfl rfl rfl ((q_move rfl rfl)) (qr rfl rfl rfl ((q_move rfl rfl)) (qr rfl rfl rfl ((q_move rfl rfl)) ?_))
    refine qr rfl rfl rfl ((q_indexN rfl rfl rfl (by exact fun w hw => Stb.cl (by assumption) hw) (by intro hc; omega))) ?_
    refine qr rfl rfl rfl ((q_loadEl rfl rfl rfl (by exact fun w hw => Stb.cl (by assumption) hw) (by intro hc; omega))) ?_
    refine qr rfl rfl rfl ((q_move rfl rfl)) (qr rfl rfl rfl ((q_move rfl rfl)) ?_)
    refine qr rfl rfl rfl ((q_indexN rfl rfl rfl (by exact fun w hw => Stb.cl (by assumption) hw) (by intro hc; omega))) ?_
    refine qr rfl rfl rfl ((q_loadEl rfl rfl rfl (by exact fun w hw => Stb.cl (by assumption) hw) (by intro hc; omega))) ?_
    refine qw_step rfl rfl rfl (q_call (CanCall.mk Tryz.call114) rfl (.cons rfl inferInstance (.cons rfl inferInstance (.nil))) (fun _ w hw => callq hw (far_spec _ _ w (by omega)))) ?_
    refine qr rfl rfl rfl ((q_add rfl rfl rfl (by intro hc; omega))) ?_
    refine qr rfl rfl rfl ((q_assign rfl rfl)) (qw_end (post_blk (post_then (cw_region ?_))))
    refine sr rfl rfl rfl ((q_add rfl rfl rfl (by intro hc; omega))) ?_
    refine sr rfl rfl rfl ((q_move rfl rfl)) (sw_nil ?_)
    exact post_next (k + 1) (by exact .cons rfl (.cons rfl (.cons rfl (.cons rfl (.cons rfl .nil))))) (fun _ h => h) (by omega) (by omega)
  · skip
    have hk' : k = a.length := by simp only [decide_eq_false_iff_not] at h; omega
    subst hk'
    refine cw_exit (post_then_x (post_then_x (post_blk_eq (post_then (cw_seq (cw_region (sr rfl rfl rfl ((q_move rfl rfl)) (sr rfl rfl rfl ((q_assign rfl rfl)) (sw_nil (post_then (cw_ret (post_ret1 rfl (resOk_tmp rfl) ?_))))))))))))
    exact fun w' hw => ⟨rfl, hw⟩
theorem refDistance_spec (sa sb : Value) (a b : List Int) (w : World) (ha : Stb w [] (RdL sa a)) (hb : Stb w [] (RdL sb b)) (va : vecB a = true) (vb : vecB b = true) (hab : a.length = b.length) : Calls Tryz.prog 74 #[sa, sb] w fun e w' => e = .returned (.int .i64 (dist a b)) ∧ Cl w [] [] w' := by
  have bda := vec_bd va
  have bdb := vec_bd vb
  refine calls_cw (vs := [_, _]) Tryz.func74 rfl Tryz.ntmps74 rfl (Cl.start0 w) (cw_seq (cw_region (sr rfl rfl rfl ((q_assign rfl rfl)) (sw_nil (post_then (cw_seq (cw_region (sr rfl rfl rfl ((q_assign rfl rfl)) (sw_nil (post_then (cw_seq (cw_seq (cw_region (sr rfl rfl rfl ((q_assign rfl rfl)) (sw_nil (post_then (cw_block ?_)))))))))))))))))
  refine cw_loop (S := Nat) (fun k => [(0, [], sa), (1, [], sb), (5, [], .int .i64 (distTo a b k)), (6, [], .int .i64 k)]) (fun _ => Cl w [] []) (fun k => k ≤ a.length) (fun k => a.length - k) 0 (Nat.zero_le _) (by exact .cons rfl (.cons rfl (.cons rfl (.cons rfl .nil)))) (fun _ h => h) ?_
  intro k hk
  have hd := distTo_bd bda.1 bdb.1 k
  have h1 := bda.1 k
  have h2 := bdb.1 k
  refine cw_seq (cw_seq (cw_region (sr rfl rfl rfl ((q_move rfl rfl)) (sr rfl rfl rfl ((q_move rfl rfl)) ?_))))
  refine sr rfl rfl rfl ((q_len rfl (.cons rfl inferInstance (.nil)) (by exact fun w hw => Stb.cl (by assumption) hw))) ?_
  refine sr rfl rfl rfl ((q_lss rfl rfl rfl)) (sw_nil (post_then ?_))
  refine cw_cond rfl (fun h => ?_) (fun h => ?_)
  · skip
    have hk' : k < a.length := by simp only [decide_eq_true_eq] at h; omega
    refine cw_skip (post_then (cw_seq (cw_block ?_)))
    refine cw_region_q mixed_Tryz (by kernel_rfl) ?_
    refine qr rfl rfl rfl ((q_move rfl rfl)) (qr rfl rfl rfl ((q_move rfl rfl)) (qr rfl rfl rfl ((q_move rfl rfl)) ?_))
    refine qr rfl rfl rfl ((q_indexN rfl rfl rfl (by exact fun w hw => Stb.cl (by assumption) hw) (by intro hc; omega))) ?_
    refine qr rfl rfl rfl ((q_loadEl rfl rfl rfl (by exact fun w hw => Stb.cl (by assumption) hw) (by intro hc; omega))) ?_
    refine qr rfl rfl rfl ((q_move rfl rfl)) (qr rfl rfl rfl ((q_move rfl rfl)) ?_)
    refine qr rfl rfl rfl ((q_indexN rfl rfl rfl (by exact fun w hw => Stb.cl (by assumption) hw) (by intro hc; omega))) ?_
    refine qr rfl rfl rfl ((q_loadEl rfl rfl rfl (by exact fun w hw => Stb.cl (by assumption) hw) (by intro hc; omega))) ?_
    refine qr rfl rfl rfl ((q_sub rfl rfl rfl (by intro hc; omega))) ?_
    refine qr rfl rfl rfl ((q_move rfl rfl)) (qr rfl rfl rfl ((q_move rfl rfl)) ?_)
    refine qr rfl rfl rfl ((q_indexN rfl rfl rfl (by exact fun w hw => Stb.cl (by assumption) hw) (by intro hc; omega))) ?_
    refine qr rfl rfl rfl ((q_loadEl rfl rfl rfl (by exact fun w hw => Stb.cl (by assumption) hw) (by intro hc; omega))) ?_
    refine qr rfl rfl rfl ((q_move rfl rfl)) (qr rfl rfl rfl ((q_move rfl rfl)) ?_)
    refine qr rfl rfl rfl ((q_indexN rfl rfl rfl (by exact fun w hw => Stb.cl (by assumption) hw) (by intro hc; omega))) ?_
    refine qr rfl rfl rfl ((q_loadEl rfl rfl rfl (by exact fun w hw => Stb.cl (by assumption) hw) (by intro hc; omega))) ?_
    refine qr rfl rfl rfl ((q_sub rfl rfl rfl (by intro hc; omega))) ?_
    refine qr rfl rfl rfl ((q_max rfl (.cons rfl inferInstance (.cons rfl inferInstance (.nil))))) ?_
    refine qr rfl rfl rfl ((q_add rfl rfl rfl (by intro hc; omega))) ?_
    refine qr rfl rfl rfl ((q_assign rfl rfl)) (qw_end (post_blk (post_then (cw_region (sr rfl rfl rfl ((q_move rfl rfl)) ?_)))))
    refine sr rfl rfl rfl ((q_add rfl rfl rfl (by intro hc; omega))) ?_
    refine sr rfl rfl rfl ((q_assign rfl rfl)) (sw_nil ?_)
    exact post_next (k + 1) (by exact .cons rfl (.cons rfl (.cons rfl (.cons rfl .nil)))) (fun _ h => h) (by omega) (by omega)
  · skip
    have hk' : k = a.length := by simp only [decide_eq_false_iff_not] at h; omega
    subst hk'
    refine cw_exit (post_then_x (post_then_x (post_blk_eq (post_then (cw_seq (cw_region (sr rfl rfl rfl ((q_move rfl rfl)) (sr rfl rfl rfl ((q_assign rfl rfl)) (sw_nil (post_then (cw_ret (post_ret1 rfl (resOk_tmp rfl) ?_))))))))))))
    exact fun w' hw => ⟨rfl, hw⟩
end Go.Proofs.YtomjbfeafodfbaaGreat

set_option autoImplicit false
set_option maxRecDepth 100000
namespace Go.Proofs.YtomjbfeafodfbaaGreat
open Go.Sx
open Enc (enc val)
def unB (u : Un) : Bool := phoneB u.phone && besideB u.before && besideB u.after && inB u.pitch 0 2000 && inB u.length 1 100000 && decide (0 ≤ u.take) && decide (0 ≤ u.fr) && decide (u.fr < u.to) && decide (u.to ≤ 2147483648) && vecB u.bl && vecB u.el && decide (u.bl.length = u.el.length)
def waB (t : Wan) : Bool := phoneB t.phone && besideB t.before && besideB t.after && inB t.pitch 0 2000 && inB t.length 1 100000
def wtB (w : Wts) : Bool := inB w.beside 0 1000 && inB w.pitch 0 1000 && inB w.length 0 1000 && inB w.join 0 1000
/-- A unit's strings are no monsters, its vectors read as the lists. -/
structure UnRd (w : World) (u : Un) : Prop where
  s1 : u.phone.size ≤ 140737488355328
  s2 : u.before.size ≤ 140737488355328
  s3 : u.after.size ≤ 140737488355328
  b : Stb w [] (RdL u.bs.v u.bl)
  e : Stb w [] (RdL u.es.v u.el)
theorem UnRd.arg {w0 w : World} {H : List Asn} {u : Un} (hw : Cl w0 [] H w) (h : UnRd w0 u) : UnRd w u := ⟨h.s1, h.s2, h.s3, stb_arg hw h.b, stb_arg hw h.e⟩
structure WaRd (t : Wan) : Prop where
  s1 : t.phone.size ≤ 140737488355328
  s2 : t.before.size ≤ 140737488355328
  s3 : t.after.size ≤ 140737488355328
theorem q_off {P : Program} {n : Fr} {E : Env} {C : World → Prop} {cs : List Bool} {o : Oper} {v : Value} (h : ¬ AllT cs) : OpR P n E C cs o v := fun _ _ hc => absurd hc h
theorem right_spec (u : Un) (w : World) (hu : UnRd w u) : Calls Tryz.prog 87 #[val u] w fun e w' => e = .returned (.bool (unB u)) ∧ Cl w [] [] w' := by
  obtain ⟨s1, s2, s3, hb, he⟩ := hu
  refine calls_cw (vs := [_]) Tryz.func87 rfl Tryz.ntmps87 rfl (Cl.start0 w) (cw_seq (cw_region ?_))
  refine sw_x rfl rfl rfl (e_box rfl rfl rfl) (fun b1 => ?_)
  refine sr rfl rfl rfl ((q_assign rfl rfl)) (sw_nil (post_then (cw_seq (cw_region (sr rfl rfl rfl ((q_fieldAddr rfl rfl)) ?_)))))
  refine sr rfl rfl rfl ((q_loadC rfl rfl (by exact .head _) rfl)) ?_
  refine sw_step rfl rfl rfl (q_call (CanCall.mk Tryz.call125) rfl (.cons rfl inferInstance (.nil)) (fun _ w hw => callq hw (phone_spec _ w (by omega)))) ?_
  refine sr rfl rfl rfl ((q_move rfl rfl)) (sr rfl rfl rfl ((q_fieldAddr rfl rfl)) ?_)
  refine sr rfl rfl rfl ((q_loadC rfl rfl (by exact .head _) rfl)) ?_
  refine sw_step rfl rfl rfl (q_call (CanCall.mk Tryz.call126) rfl (.cons rfl inferInstance (.nil)) (fun _ w hw => callq hw (beside_spec _ w (by omega)))) ?_
  refine sr rfl rfl rfl ((q_and2 rfl rfl rfl)) (sr rfl rfl rfl ((q_move rfl rfl)) (sr rfl rfl rfl ((q_fieldAddr rfl rfl)) ?_))
  refine sr rfl rfl rfl ((q_loadC rfl rfl (by exact .head _) rfl)) ?_
  refine sw_step rfl rfl rfl (q_call (CanCall.mk Tryz.call126) rfl (.cons rfl inferInstance (.nil)) (fun _ w hw => callq hw (beside_spec _ w (by omega)))) ?_
  refine sr rfl rfl rfl ((q_and2 rfl rfl rfl)) (sr rfl rfl rfl ((q_move rfl rfl)) (sr rfl rfl rfl ((q_fieldAddr rfl rfl)) ?_))
  refine sr rfl rfl rfl ((q_loadC rfl rfl (by exact .head _) rfl)) ?_
  refine sw_step rfl rfl rfl (q_call (CanCall.mk Tryz.call70) rfl (.cons rfl inferInstance (.cons rfl inferInstance (.cons rfl inferInstance (.nil)))) (fun _ w hw => callq hw (within_spec _ _ _ w))) (sr rfl rfl rfl ((q_and2 rfl rfl rfl)) (sr rfl rfl rfl ((q_move rfl rfl)) (sr rfl rfl rfl ((q_fieldAddr rfl rfl)) ?_)))
  refine sr rfl rfl rfl ((q_loadC rfl rfl (by exact .head _) rfl)) ?_
  refine sw_step rfl rfl rfl (q_call (CanCall.mk Tryz.call70) rfl (.cons rfl inferInstance (.cons rfl inferInstance (.cons rfl inferInstance (.nil)))) (fun _ w hw => callq hw (within_spec _ _ _ w))) (sr rfl rfl rfl ((q_and2 rfl rfl rfl)) (sr rfl rfl rfl ((q_move rfl rfl)) (sr rfl rfl rfl ((q_fieldAddr rfl rfl)) ?_)))
  refine sr rfl rfl rfl ((q_loadC rfl rfl (by exact .head _) rfl)) ?_
  refine sr rfl rfl rfl ((q_geq rfl rfl rfl)) (sr rfl rfl rfl ((q_and2 rfl rfl rfl)) (sr rfl rfl rfl ((q_move rfl rfl)) (sr rfl rfl rfl ((q_fieldAddr rfl rfl)) ?_)))
  refine sr rfl rfl rfl ((q_loadC rfl rfl (by exact .head _) rfl)) ?_
  refine sr rfl rfl rfl ((q_geq rfl rfl rfl)) (sr rfl rfl rfl ((q_and2 rfl rfl rfl)) (sr rfl rfl rfl ((q_move rfl rfl)) (sr rfl rfl rfl ((q_fieldAddr rfl rfl)) ?_)))
  refine sr rfl rfl rfl ((q_loadC rfl rfl (by exact .head _) rfl)) ?_
  refine sr rfl rfl rfl ((q_fieldAddr rfl rfl)) ?_
  refine sr rfl rfl rfl ((q_loadC rfl rfl (by exact .head _) rfl)) ?_
  refine sr rfl rfl rfl ((q_lss rfl rfl rfl)) (sr rfl rfl rfl ((q_and2 rfl rfl rfl)) (sr rfl rfl rfl ((q_move rfl rfl)) (sr rfl rfl rfl ((q_fieldAddr rfl rfl)) ?_)))
  refine sr rfl rfl rfl ((q_loadC rfl rfl (by exact .head _) rfl)) ?_
  refine sr rfl rfl rfl ((q_leq rfl rfl rfl)) (sr rfl rfl rfl ((q_and2 rfl rfl rfl)) (sr rfl rfl rfl ((q_move rfl rfl)) (sr rfl rfl rfl ((q_fieldAddr rfl rfl)) ?_)))
  refine sr rfl rfl rfl ((q_loadC rfl rfl (by exact .head _) rfl)) ?_
  refine sw_step rfl rfl rfl (q_call (CanCall.mk Tryz.call113) rfl (.cons rfl inferInstance (.nil)) (fun _ w hw => callq hw (vector_spec _ _ w (by exact stb_arg hw (by assumption))))) ?_
  refine sr rfl rfl rfl ((q_and2 rfl rfl rfl)) (sr rfl rfl rfl ((q_move rfl rfl)) (sr rfl rfl rfl ((q_fieldAddr rfl rfl)) ?_))
  refine sr rfl rfl rfl ((q_loadC rfl rfl (by exact .head _) rfl)) ?_
  refine sw_step rfl rfl rfl (q_call (CanCall.mk Tryz.call113) rfl (.cons rfl inferInstance (.nil)) (fun _ w hw => callq hw (vector_spec _ _ w (by exact stb_arg hw (by assumption))))) ?_
  refine sr rfl rfl rfl ((q_and2 rfl rfl rfl)) (sr rfl rfl rfl ((q_move rfl rfl)) (sr rfl rfl rfl ((q_fieldAddr rfl rfl)) ?_))
  refine sr rfl rfl rfl ((q_loadC rfl rfl (by exact .head _) rfl)) ?_
  refine sr rfl rfl rfl ((q_len rfl (.cons rfl inferInstance (.nil)) (by exact fun w hw => Stb.cl (by assumption) hw))) ?_
  refine sr rfl rfl rfl ((q_fieldAddr rfl rfl)) ?_
  refine sr rfl rfl rfl ((q_loadC rfl rfl (by exact .head _) rfl)) ?_
  refine sr rfl rfl rfl ((q_len rfl (.cons rfl inferInstance (.nil)) (by exact fun w hw => Stb.cl (by assumption) hw))) ?_
  refine sr rfl rfl rfl ((q_eql rfl rfl rfl)) (sr rfl rfl rfl ((q_and2 rfl rfl rfl)) (sr rfl rfl rfl ((q_assign rfl rfl)) (sw_nil (post_then (cw_ret (post_ret1 rfl (resOk_tmp rfl) ?_))))))
  exact fun w' hw => ⟨by unfold unB; rw [show decide (((u.bl.length : Nat) : Int) = u.el.length) = decide (u.bl.length = u.el.length) from decide_eq_decide.2 (by omega)], (fun w h => Cl.sel (by exact .nil _) w h) _ hw⟩
theorem wanted_spec (t : Wan) (w : World) (ht : WaRd t) : Calls Tryz.prog 88 #[val t] w fun e w' => e = .returned (.bool (waB t)) ∧ Cl w [] [] w' := by
  obtain ⟨s1, s2, s3⟩ := ht
  refine calls_cw (vs := [_]) Tryz.func88 rfl Tryz.ntmps88 rfl (Cl.start0 w) (cw_seq (cw_region ?_))
  refine sw_x rfl rfl rfl (e_box rfl rfl rfl) (fun b1 => ?_)
  refine sr rfl rfl rfl ((q_assign rfl rfl)) (sw_nil (post_then (cw_seq (cw_region (sr rfl rfl rfl ((q_fieldAddr rfl rfl)) ?_)))))
  refine sr rfl rfl rfl ((q_loadC rfl rfl (by exact .head _) rfl)) ?_
  refine sw_step rfl rfl rfl (q_call (CanCall.mk Tryz.call125) rfl (.cons rfl inferInstance (.nil)) (fun _ w hw => callq hw (phone_spec _ w (by omega)))) ?_
  refine sr rfl rfl rfl ((q_move rfl rfl)) (sr rfl rfl rfl ((q_fieldAddr rfl rfl)) ?_)
  refine sr rfl rfl rfl ((q_loadC rfl rfl (by exact .head _) rfl)) ?_
  refine sw_step rfl rfl rfl (q_call (CanCall.mk Tryz.call126) rfl (.cons rfl inferInstance (.nil)) (fun _ w hw => callq hw (beside_spec _ w (by omega)))) ?_
  refine sr rfl rfl rfl ((q_and2 rfl rfl rfl)) (sr rfl rfl rfl ((q_move rfl rfl)) (sr rfl rfl rfl ((q_fieldAddr rfl rfl)) ?_))
  refine sr rfl rfl rfl ((q_loadC rfl rfl (by exact .head _) rfl)) ?_
  refine sw_step rfl rfl rfl (q_call (CanCall.mk Tryz.call126) rfl (.cons rfl inferInstance (.nil)) (fun _ w hw => callq hw (beside_spec _ w (by omega)))) ?_
  refine sr rfl rfl rfl ((q_and2 rfl rfl rfl)) (sr rfl rfl rfl ((q_move rfl rfl)) (sr rfl rfl rfl ((q_fieldAddr rfl rfl)) ?_))
  refine sr rfl rfl rfl ((q_loadC rfl rfl (by exact .head _) rfl)) ?_
  refine sw_step rfl rfl rfl (q_call (CanCall.mk Tryz.call70) rfl (.cons rfl inferInstance (.cons rfl inferInstance (.cons rfl inferInstance (.nil)))) (fun _ w hw => callq hw (within_spec _ _ _ w))) (sr rfl rfl rfl ((q_and2 rfl rfl rfl)) (sr rfl rfl rfl ((q_move rfl rfl)) (sr rfl rfl rfl ((q_fieldAddr rfl rfl)) ?_)))
  refine sr rfl rfl rfl ((q_loadC rfl rfl (by exact .head _) rfl)) ?_
  refine sw_step rfl rfl rfl (q_call (CanCall.mk Tryz.call70) rfl (.cons rfl inferInstance (.cons rfl inferInstance (.cons rfl inferInstance (.nil)))) (fun _ w hw => callq hw (within_spec _ _ _ w))) (sr rfl rfl rfl ((q_and2 rfl rfl rfl)) (sr rfl rfl rfl ((q_assign rfl rfl)) (sw_nil (post_then (cw_ret (post_ret1 rfl (resOk_tmp rfl) ?_))))))
  exact fun w' hw => ⟨rfl, (fun w h => Cl.sel (by exact .nil _) w h) _ hw⟩
theorem refWanted_spec (t : Wan) (w : World) (ht : WaRd t) : Calls Tryz.prog 47 #[val t] w fun e w' => e = .returned (.bool (waB t)) ∧ Cl w [] [] w' := by
  obtain ⟨s1, s2, s3⟩ := ht
  refine calls_cw (vs := [_]) Tryz.func47 rfl Tryz.ntmps47 rfl (Cl.start0 w) (cw_seq (cw_region ?_))
  refine sw_x rfl rfl rfl (e_box rfl rfl rfl) (fun b1 => ?_)
  refine sr rfl rfl rfl ((q_assign rfl rfl)) (sw_nil (post_then (cw_seq (cw_region (sr rfl rfl rfl ((q_fieldAddr rfl rfl)) ?_)))))
  refine sr rfl rfl rfl ((q_loadC rfl rfl (by exact .head _) rfl)) ?_
  refine sw_step rfl rfl rfl (q_call (CanCall.mk Tryz.call91) rfl (.cons rfl inferInstance (.nil)) (fun _ w hw => callq hw (refPhone_spec _ w (by omega)))) ?_
  refine sr rfl rfl rfl ((q_move rfl rfl)) (sr rfl rfl rfl ((q_fieldAddr rfl rfl)) ?_)
  refine sr rfl rfl rfl ((q_loadC rfl rfl (by exact .head _) rfl)) ?_
  refine sw_step rfl rfl rfl (q_call (CanCall.mk Tryz.call92) rfl (.cons rfl inferInstance (.nil)) (fun _ w hw => callq hw (refBeside_spec _ w (by omega)))) ?_
  refine sr rfl rfl rfl ((q_and2 rfl rfl rfl)) (sr rfl rfl rfl ((q_move rfl rfl)) (sr rfl rfl rfl ((q_fieldAddr rfl rfl)) ?_))
  refine sr rfl rfl rfl ((q_loadC rfl rfl (by exact .head _) rfl)) ?_
  refine sw_step rfl rfl rfl (q_call (CanCall.mk Tryz.call92) rfl (.cons rfl inferInstance (.nil)) (fun _ w hw => callq hw (refBeside_spec _ w (by omega)))) ?_
  refine sr rfl rfl rfl ((q_and2 rfl rfl rfl)) (sr rfl rfl rfl ((q_move rfl rfl)) (sr rfl rfl rfl ((q_fieldAddr rfl rfl)) ?_))
  refine sr rfl rfl rfl ((q_loadC rfl rfl (by exact .head _) rfl)) ?_
  refine sw_step rfl rfl rfl (q_call (CanCall.mk Tryz.call84) rfl (.cons rfl inferInstance (.cons rfl inferInstance (.cons rfl inferInstance (.nil)))) (fun _ w hw => callq hw (refIn_spec _ _ _ w))) (sr rfl rfl rfl ((q_and2 rfl rfl rfl)) (sr rfl rfl rfl ((q_move rfl rfl)) (sr rfl rfl rfl ((q_fieldAddr rfl rfl)) ?_)))
  refine sr rfl rfl rfl ((q_loadC rfl rfl (by exact .head _) rfl)) ?_
  refine sw_step rfl rfl rfl (q_call (CanCall.mk Tryz.call84) rfl (.cons rfl inferInstance (.cons rfl inferInstance (.cons rfl inferInstance (.nil)))) (fun _ w hw => callq hw (refIn_spec _ _ _ w))) (sr rfl rfl rfl ((q_and2 rfl rfl rfl)) (sr rfl rfl rfl ((q_assign rfl rfl)) (sw_nil (post_then (cw_ret (post_ret1 rfl (resOk_tmp rfl) ?_))))))
  exact fun w' hw => ⟨rfl, (fun w h => Cl.sel (by exact .nil _) w h) _ hw⟩
theorem weights_spec (x : Wts) (w : World) : Calls Tryz.prog 89 #[val x] w fun e w' => e = .returned (.bool (wtB x)) ∧ Cl w [] [] w' := by
  refine calls_cw (vs := [_]) Tryz.func89 rfl Tryz.ntmps89 rfl (Cl.start0 w) (cw_seq (cw_region ?_))
  refine sw_x rfl rfl rfl (e_box rfl rfl rfl) (fun b1 => ?_)
  refine sr rfl rfl rfl ((q_assign rfl rfl)) (sw_nil (post_then (cw_seq (cw_region (sr rfl rfl rfl ((q_fieldAddr rfl rfl)) ?_)))))
  refine sr rfl rfl rfl ((q_loadC rfl rfl (by exact .head _) rfl)) ?_
  refine sw_step rfl rfl rfl (q_call (CanCall.mk Tryz.call70) rfl (.cons rfl inferInstance (.cons rfl inferInstance (.cons rfl inferInstance (.nil)))) (fun _ w hw => callq hw (within_spec _ _ _ w))) (sr rfl rfl rfl ((q_move rfl rfl)) (sr rfl rfl rfl ((q_fieldAddr rfl rfl)) ?_))
  refine sr rfl rfl rfl ((q_loadC rfl rfl (by exact .head _) rfl)) ?_
  refine sw_step rfl rfl rfl (q_call (CanCall.mk Tryz.call70) rfl (.cons rfl inferInstance (.cons rfl inferInstance (.cons rfl inferInstance (.nil)))) (fun _ w hw => callq hw (within_spec _ _ _ w))) (sr rfl rfl rfl ((q_and2 rfl rfl rfl)) (sr rfl rfl rfl ((q_move rfl rfl)) (sr rfl rfl rfl ((q_fieldAddr rfl rfl)) ?_)))
  refine sr rfl rfl rfl ((q_loadC rfl rfl (by exact .head _) rfl)) ?_
  refine sw_step rfl rfl rfl (q_call (CanCall.mk Tryz.call70) rfl (.cons rfl inferInstance (.cons rfl inferInstance (.cons rfl inferInstance (.nil)))) (fun _ w hw => callq hw (within_spec _ _ _ w))) (sr rfl rfl rfl ((q_and2 rfl rfl rfl)) (sr rfl rfl rfl ((q_move rfl rfl)) (sr rfl rfl rfl ((q_fieldAddr rfl rfl)) ?_)))
  refine sr rfl rfl rfl ((q_loadC rfl rfl (by exact .head _) rfl)) ?_
  refine sw_step rfl rfl rfl (q_call (CanCall.mk Tryz.call70) rfl (.cons rfl inferInstance (.cons rfl inferInstance (.cons rfl inferInstance (.nil)))) (fun _ w hw => callq hw (within_spec _ _ _ w))) (sr rfl rfl rfl ((q_and2 rfl rfl rfl)) (sr rfl rfl rfl ((q_assign rfl rfl)) (sw_nil (post_then (cw_ret (post_ret1 rfl (resOk_tmp rfl) ?_))))))
  exact fun w' hw => ⟨rfl, (fun w h => Cl.sel (by exact .nil _) w h) _ hw⟩
theorem refWeights_spec (x : Wts) (w : World) : Calls Tryz.prog 48 #[val x] w fun e w' => e = .returned (.bool (wtB x)) ∧ Cl w [] [] w' := by
  refine calls_cw (vs := [_]) Tryz.func48 rfl Tryz.ntmps48 rfl (Cl.start0 w) (cw_seq (cw_region ?_))
  refine sw_x rfl rfl rfl (e_box rfl rfl rfl) (fun b1 => ?_)
  refine sr rfl rfl rfl ((q_assign rfl rfl)) (sw_nil (post_then (cw_seq (cw_region (sr rfl rfl rfl ((q_fieldAddr rfl rfl)) ?_)))))
  refine sr rfl rfl rfl ((q_loadC rfl rfl (by exact .head _) rfl)) ?_
  refine sw_step rfl rfl rfl (q_call (CanCall.mk Tryz.call84) rfl (.cons rfl inferInstance (.cons rfl inferInstance (.cons rfl inferInstance (.nil)))) (fun _ w hw => callq hw (refIn_spec _ _ _ w))) (sr rfl rfl rfl ((q_move rfl rfl)) (sr rfl rfl rfl ((q_fieldAddr rfl rfl)) ?_))
  refine sr rfl rfl rfl ((q_loadC rfl rfl (by exact .head _) rfl)) ?_
  refine sw_step rfl rfl rfl (q_call (CanCall.mk Tryz.call84) rfl (.cons rfl inferInstance (.cons rfl inferInstance (.cons rfl inferInstance (.nil)))) (fun _ w hw => callq hw (refIn_spec _ _ _ w))) (sr rfl rfl rfl ((q_and2 rfl rfl rfl)) (sr rfl rfl rfl ((q_move rfl rfl)) (sr rfl rfl rfl ((q_fieldAddr rfl rfl)) ?_)))
  refine sr rfl rfl rfl ((q_loadC rfl rfl (by exact .head _) rfl)) ?_
  refine sw_step rfl rfl rfl (q_call (CanCall.mk Tryz.call84) rfl (.cons rfl inferInstance (.cons rfl inferInstance (.cons rfl inferInstance (.nil)))) (fun _ w hw => callq hw (refIn_spec _ _ _ w))) (sr rfl rfl rfl ((q_and2 rfl rfl rfl)) (sr rfl rfl rfl ((q_move rfl rfl)) (sr rfl rfl rfl ((q_fieldAddr rfl rfl)) ?_)))
  refine sr rfl rfl rfl ((q_loadC rfl rfl (by exact .head _) rfl)) ?_
  refine sw_step rfl rfl rfl (q_call (CanCall.mk Tryz.call84) rfl (.cons rfl inferInstance (.cons rfl inferInstance (.cons rfl inferInstance (.nil)))) (fun _ w hw => callq hw (refIn_spec _ _ _ w))) (sr rfl rfl rfl ((q_and2 rfl rfl rfl)) (sr rfl rfl rfl ((q_assign rfl rfl)) (sw_nil (post_then (cw_ret (post_ret1 rfl (resOk_tmp rfl) ?_))))))
  exact fun w' hw => ⟨rfl, (fun w h => Cl.sel (by exact .nil _) w h) _ hw⟩
def joinC (x : Wts) (a b : Un) : Int := if a.take = b.take ∧ a.to = b.fr then 0 else x.join * dist a.el b.bl
def fitC (x : Wts) (u : Un) (t : Wan) : Int :=
  x.length * max (u.length - t.length) (t.length - u.length) + (if u.before = t.before then 0 else x.beside) + (if u.after = t.after then 0 else x.beside) +
    (if 0 < u.pitch ∧ 0 < t.pitch then x.pitch * max (u.pitch - t.pitch) (t.pitch - u.pitch) else if 0 < u.pitch ∨ 0 < t.pitch then 2000 * x.pitch else 0)
structure UnOk (u : Un) : Prop where
  p : 0 ≤ u.pitch ∧ u.pitch ≤ 2000
  l : 1 ≤ u.length ∧ u.length ≤ 100000
  t : 0 ≤ u.take
  f : 0 ≤ u.fr ∧ u.fr < u.to ∧ u.to ≤ 2147483648
  b : vecB u.bl = true
  e : vecB u.el = true
  be : u.bl.length = u.el.length
theorem un_ok {u : Un} (h : unB u = true) : UnOk u := by
  simp only [unB, Bool.and_eq_true, inB, decide_eq_true_eq] at h
  obtain ⟨⟨⟨⟨⟨⟨⟨⟨⟨⟨⟨_, _⟩, _⟩, h1⟩, h2⟩, h3⟩, h4⟩, h5⟩, h6⟩, h7⟩, h8⟩, h9⟩ := h
  exact ⟨h1, h2, h3, ⟨h4, h5, h6⟩, h7, h8, h9⟩
structure WaOk (t : Wan) : Prop where
  p : 0 ≤ t.pitch ∧ t.pitch ≤ 2000
  l : 1 ≤ t.length ∧ t.length ≤ 100000
theorem wa_ok {t : Wan} (h : waB t = true) : WaOk t := by
  simp only [waB, Bool.and_eq_true, inB, decide_eq_true_eq] at h
  exact ⟨h.1.2, h.2⟩
structure WtOk (x : Wts) : Prop where
  b : 0 ≤ x.beside ∧ x.beside ≤ 1000
  p : 0 ≤ x.pitch ∧ x.pitch ≤ 1000
  l : 0 ≤ x.length ∧ x.length ≤ 1000
  j : 0 ≤ x.join ∧ x.join ≤ 1000
theorem wt_ok {x : Wts} (h : wtB x = true) : WtOk x := by
  simp only [wtB, Bool.and_eq_true, inB, decide_eq_true_eq] at h
  exact ⟨h.1.1.1, h.1.1.2, h.1.2, h.2⟩
theorem mul_bd {a b A B : Int} (ha : 0 ≤ a ∧ a ≤ A) (hb : 0 ≤ b ∧ b ≤ B) : 0 ≤ a * b ∧ a * b ≤ A * B := ⟨Int.mul_nonneg ha.1 hb.1, Int.mul_le_mul ha.2 hb.2 hb.1 (by omega)⟩
theorem joinC_bd {x : Wts} {a b : Un} (hx : WtOk x) (ha : UnOk a) (hb : UnOk b) : 0 ≤ joinC x a b ∧ joinC x a b ≤ 800000000 := by
  have := mul_bd hx.j (dist_bd ha.e hb.b)
  unfold joinC; split <;> omega
theorem fitC_bd {x : Wts} {u : Un} {t : Wan} (hx : WtOk x) (hu : UnOk u) (ht : WaOk t) : 0 ≤ fitC x u t ∧ fitC x u t ≤ 102002000 := by
  obtain ⟨p1, l1, _, _, _, _, _⟩ := hu
  obtain ⟨p2, l2⟩ := ht
  have h1 := mul_bd hx.l (show 0 ≤ max (u.length - t.length) (t.length - u.length) ∧ max (u.length - t.length) (t.length - u.length) ≤ 100000 by omega)
  have h2 := mul_bd hx.p (show 0 ≤ max (u.pitch - t.pitch) (t.pitch - u.pitch) ∧ max (u.pitch - t.pitch) (t.pitch - u.pitch) ≤ 2000 by omega)
  have h3 := hx.b
  have h4 := hx.p
  unfold fitC
  split <;> split <;> split <;> (try split) <;> omega
theorem joining_spec (a b : Un) (x : Wts) (w : World) (ha : UnRd w a) (hb : UnRd w b) (oa : UnOk a) (ob : UnOk b) (hab : a.el.length = b.bl.length) (ox : WtOk x) : Calls Tryz.prog 94 #[val a, val b, val x] w fun e w' => e = .returned (.int .i64 (joinC x a b)) ∧ Cl w [] [] w' := by
  have hae := ha.e
  have hbb := hb.b
  have hd := dist_bd oa.e ob.b
  have hm := mul_bd ox.j hd
  refine calls_cw (vs := [_, _, _]) Tryz.func94 rfl Tryz.ntmps94 rfl (Cl.start0 w) (cw_seq (cw_region ?_))
  refine sw_x rfl rfl rfl (e_box rfl rfl rfl) (fun b3 => ?_)
  refine sw_x rfl rfl rfl (e_box rfl rfl rfl) (fun b4 => ?_)
  refine sw_x rfl rfl rfl (e_box rfl rfl rfl) (fun b5 => ?_)
  refine sr rfl rfl rfl ((q_assign rfl rfl)) (sw_nil (post_then (cw_seq (cw_seq (cw_region (sr rfl rfl rfl ((q_fieldAddr rfl rfl)) ?_))))))
  refine sr rfl rfl rfl ((q_loadC rfl rfl (by exact .tail _ (.tail _ (.head _))) rfl)) ?_
  refine sr rfl rfl rfl ((q_fieldAddr rfl rfl)) ?_
  refine sr rfl rfl rfl ((q_loadC rfl rfl (by exact .tail _ (.head _)) rfl)) ?_
  refine sr rfl rfl rfl ((q_eql rfl rfl rfl)) (sr rfl rfl rfl ((q_move rfl rfl)) (sr rfl rfl rfl ((q_fieldAddr rfl rfl)) ?_))
  refine sr rfl rfl rfl ((q_loadC rfl rfl (by exact .tail _ (.head _)) rfl)) ?_
  refine sr rfl rfl rfl ((q_fieldAddr rfl rfl)) ?_
  refine sr rfl rfl rfl ((q_loadC rfl rfl (by exact .tail _ (.tail _ (.head _))) rfl)) ?_
  refine sr rfl rfl rfl ((q_eql rfl rfl rfl)) (sr rfl rfl rfl ((q_and2 rfl rfl rfl)) (sw_nil (post_then ?_)))
  refine cw_cond rfl (fun h => ?_) (fun h => ?_)
  · skip
    have h1 : a.take = b.take ∧ a.to = b.fr := by
      simp only [Bool.and_eq_true, decide_eq_true_eq] at h
      omega
    refine cw_seq (cw_region (sr rfl rfl rfl ((q_assign rfl rfl)) (sw_nil (post_then (cw_ret (post_then_r (post_ret1 rfl (resOk_tmp rfl) ?_)))))))
    exact fun w' hw => ⟨by rw [joinC, if_pos h1], (fun w h => Cl.sel (by exact .nil _) w h) _ hw⟩
  · skip
    have h1 : ¬ (a.take = b.take ∧ a.to = b.fr) := by
      intro hc
      simp [hc] at h
    refine cw_skip (post_then (cw_seq ?_))
    refine cw_region_q mixed_Tryz (by kernel_rfl) ?_
    refine qr rfl rfl rfl ((q_fieldAddr rfl rfl)) ?_
    refine qr rfl rfl rfl ((q_loadC rfl rfl (by exact .head _) rfl)) ?_
    refine qr rfl rfl rfl ((q_fieldAddr rfl rfl)) ?_
    refine qr rfl rfl rfl ((q_loadC rfl rfl (by exact .tail _ (.tail _ (.head _))) rfl)) ?_
    refine qr rfl rfl rfl ((q_fieldAddr rfl rfl)) ?_
    refine qr rfl rfl rfl ((q_loadC rfl rfl (by exact .tail _ (.head _)) rfl)) ?_
    refine qw_step rfl rfl rfl (q_call (CanCall.mk Tryz.call72) rfl (.cons rfl inferInstance (.cons rfl inferInstance (.nil))) (fun _ w hw => callq hw (distance_spec _ _ _ _ w (by exact stb_arg hw (by assumption)) (by exact stb_arg hw (by assumption)) oa.e ob.b hab))) ?_
    refine qr rfl rfl rfl ((q_mul rfl rfl rfl (by intro hc; omega))) ?_
    refine qr rfl rfl rfl ((q_assign rfl rfl)) (qw_end (post_then (cw_ret (post_ret1 rfl (resOk_tmp rfl) ?_))))
    exact fun w' hw => ⟨by rw [joinC, if_neg h1], (fun w h => Cl.sel (by exact .nil _) w h) _ hw⟩
theorem refJoin_spec (a b : Un) (x : Wts) (w : World) (ha : UnRd w a) (hb : UnRd w b) (oa : UnOk a) (ob : UnOk b) (hab : a.el.length = b.bl.length) (ox : WtOk x) : Calls Tryz.prog 51 #[val a, val b, val x] w fun e w' => e = .returned (.int .i64 (joinC x a b)) ∧ Cl w [] [] w' := by
  have hae := ha.e
  have hbb := hb.b
  have hd := dist_bd oa.e ob.b
  have hm := mul_bd ox.j hd
  refine calls_cw (vs := [_, _, _]) Tryz.func51 rfl Tryz.ntmps51 rfl (Cl.start0 w) (cw_seq (cw_region ?_))
  refine sw_x rfl rfl rfl (e_box rfl rfl rfl) (fun b3 => ?_)
  refine sw_x rfl rfl rfl (e_box rfl rfl rfl) (fun b4 => ?_)
  refine sw_x rfl rfl rfl (e_box rfl rfl rfl) (fun b5 => ?_)
  refine sr rfl rfl rfl ((q_assign rfl rfl)) (sw_nil (post_then (cw_seq (cw_seq (cw_region (sr rfl rfl rfl ((q_fieldAddr rfl rfl)) ?_))))))
  refine sr rfl rfl rfl ((q_loadC rfl rfl (by exact .tail _ (.tail _ (.head _))) rfl)) ?_
  refine sr rfl rfl rfl ((q_fieldAddr rfl rfl)) ?_
  refine sr rfl rfl rfl ((q_loadC rfl rfl (by exact .tail _ (.head _)) rfl)) ?_
  refine sr rfl rfl rfl ((q_eql rfl rfl rfl)) (sr rfl rfl rfl ((q_move rfl rfl)) (sr rfl rfl rfl ((q_fieldAddr rfl rfl)) ?_))
  refine sr rfl rfl rfl ((q_loadC rfl rfl (by exact .tail _ (.tail _ (.head _))) rfl)) ?_
  refine sr rfl rfl rfl ((q_fieldAddr rfl rfl)) ?_
  refine sr rfl rfl rfl ((q_loadC rfl rfl (by exact .tail _ (.head _)) rfl)) ?_
  refine sr rfl rfl rfl ((q_eql rfl rfl rfl)) (sr rfl rfl rfl ((q_and2 rfl rfl rfl)) (sw_nil (post_then ?_)))
  refine cw_cond rfl (fun h => ?_) (fun h => ?_)
  · skip
    have h1 : a.take = b.take ∧ a.to = b.fr := by
      simp only [Bool.and_eq_true, decide_eq_true_eq] at h
      omega
    refine cw_seq (cw_region (sr rfl rfl rfl ((q_assign rfl rfl)) (sw_nil (post_then (cw_ret (post_then_r (post_ret1 rfl (resOk_tmp rfl) ?_)))))))
    exact fun w' hw => ⟨by rw [joinC, if_pos h1], (fun w h => Cl.sel (by exact .nil _) w h) _ hw⟩
  · skip
    have h1 : ¬ (a.take = b.take ∧ a.to = b.fr) := by
      intro hc
      simp [hc] at h
    refine cw_skip (post_then (cw_seq ?_))
    refine cw_region_q mixed_Tryz (by kernel_rfl) ?_
    refine qr rfl rfl rfl ((q_fieldAddr rfl rfl)) ?_
    refine qr rfl rfl rfl ((q_loadC rfl rfl (by exact .head _) rfl)) ?_
    refine qr rfl rfl rfl ((q_fieldAddr rfl rfl)) ?_
    refine qr rfl rfl rfl ((q_loadC rfl rfl (by exact .tail _ (.tail _ (.head _))) rfl)) ?_
    refine qr rfl rfl rfl ((q_fieldAddr rfl rfl)) ?_
    refine qr rfl rfl rfl ((q_loadC rfl rfl (by exact .tail _ (.head _)) rfl)) ?_
    refine qw_step rfl rfl rfl (q_call (CanCall.mk Tryz.call74) rfl (.cons rfl inferInstance (.cons rfl inferInstance (.nil))) (fun _ w hw => callq hw (refDistance_spec _ _ _ _ w (by exact stb_arg hw (by assumption)) (by exact stb_arg hw (by assumption)) oa.e ob.b hab))) ?_
    refine qr rfl rfl rfl ((q_mul rfl rfl rfl (by intro hc; omega))) ?_
    refine qr rfl rfl rfl ((q_assign rfl rfl)) (qw_end (post_then (cw_ret (post_ret1 rfl (resOk_tmp rfl) ?_))))
    exact fun w' hw => ⟨by rw [joinC, if_neg h1], (fun w h => Cl.sel (by exact .nil _) w h) _ hw⟩
end Go.Proofs.YtomjbfeafodfbaaGreat

set_option autoImplicit false
set_option maxRecDepth 100000
namespace Go.Proofs.YtomjbfeafodfbaaGreat
open Go.Sx
open Enc (enc val)
theorem fitting_spec (u : Un) (t : Wan) (x : Wts) (w : World) (ou : UnOk u) (ot : WaOk t) (ox : WtOk x) : Calls Tryz.prog 90 #[val u, val t, val x] w fun e w' => e = .returned (.int .i64 (fitC x u t)) ∧ Cl w [] [] w' := by
  obtain ⟨p1, l1, _, _, _, _, _⟩ := ou
  obtain ⟨p2, l2⟩ := ot
  have h1 := mul_bd ox.l (show 0 ≤ max (u.length - t.length) (t.length - u.length) ∧ max (u.length - t.length) (t.length - u.length) ≤ 100000 by omega)
  have h2 := mul_bd ox.p (show 0 ≤ max (u.pitch - t.pitch) (t.pitch - u.pitch) ∧ max (u.pitch - t.pitch) (t.pitch - u.pitch) ≤ 2000 by omega)
  have h3 := ox.b
  have h4 := ox.p
  refine calls_cw (vs := [_, _, _]) Tryz.func90 rfl Tryz.ntmps90 rfl (Cl.start0 w) (cw_seq (cw_region ?_))
  refine sw_x rfl rfl rfl (e_box rfl rfl rfl) (fun b3 => ?_)
  refine sw_x rfl rfl rfl (e_box rfl rfl rfl) (fun b4 => ?_)
  refine sw_x rfl rfl rfl (e_box rfl rfl rfl) (fun b5 => ?_)
  refine sr rfl rfl rfl ((q_assign rfl rfl)) (sw_nil (post_then (cw_seq ?_)))
  refine cw_region_q mixed_Tryz (by kernel_rfl) ?_
  refine qr rfl rfl rfl ((q_fieldAddr rfl rfl)) ?_
  refine qr rfl rfl rfl ((q_loadC rfl rfl (by exact .head _) rfl)) ?_
  refine qr rfl rfl rfl ((q_fieldAddr rfl rfl)) ?_
  refine qr rfl rfl rfl ((q_loadC rfl rfl (by exact .tail _ (.tail _ (.head _))) rfl)) ?_
  refine qr rfl rfl rfl ((q_fieldAddr rfl rfl)) ?_
  refine qr rfl rfl rfl ((q_loadC rfl rfl (by exact .tail _ (.head _)) rfl)) ?_
  refine qw_step rfl rfl rfl (q_call (CanCall.mk Tryz.call114) rfl (.cons rfl inferInstance (.cons rfl inferInstance (.nil))) (fun _ w hw => callq hw (far_spec _ _ w (by omega)))) ?_
  refine qr rfl rfl rfl ((q_mul rfl rfl rfl (by intro hc; omega))) ?_
  refine qr rfl rfl rfl ((q_assign rfl rfl)) (qw_end (post_then (cw_seq (cw_seq (cw_region (sr rfl rfl rfl ((q_fieldAddr rfl rfl)) ?_))))))
  refine sr rfl rfl rfl ((q_loadC rfl rfl (by exact .tail _ (.tail _ (.head _))) rfl)) ?_
  refine sr rfl rfl rfl ((q_fieldAddr rfl rfl)) ?_
  refine sr rfl rfl rfl ((q_loadC rfl rfl (by exact .tail _ (.head _)) rfl)) ?_
  refine sr rfl rfl rfl ((q_neqStr rfl rfl rfl Tryz.underlying9)) (sw_nil (post_then ?_))
  obtain ⟨n1, hn1⟩ : ∃ n1 : Int, (if u.before = t.before then 0 else x.beside) = n1 := ⟨_, rfl⟩
  have bn1 : 0 ≤ n1 ∧ n1 ≤ 1000 := by rw [← hn1]; split <;> omega
  refine cw_cut (S := Unit) (fun _ => [(3, [], .pointer (some ⟨b3, 0, none⟩)), (4, [], .pointer (some ⟨b4, 0, none⟩)), (5, [], .pointer (some ⟨b5, 0, none⟩)), (7, [], .int .i64 (x.length * max (u.length - t.length) (t.length - u.length) + n1))]) (fun _ => Cl w [] [blk b5 (enc x) 25, blk b4 (enc t) 51, blk b3 (enc u) 49]) (fun _ => True) ?_ ?_
  · refine cw_cond rfl (fun g => ?_) (fun g => ?_)
    · skip
      have g1 : ¬ u.before = t.before := by simpa using g
      refine cw_region (sr rfl rfl rfl ((q_move rfl rfl)) (sr rfl rfl rfl ((q_fieldAddr rfl rfl)) ?_))
      refine sr rfl rfl rfl ((q_loadC rfl rfl (by exact .head _) rfl)) ?_
      refine sr rfl rfl rfl ((q_add rfl rfl rfl (by intro hc; omega))) ?_
      refine sr rfl rfl rfl ((q_assign rfl rfl)) (sw_nil ?_)
      exact post_meet () (by rw [← hn1, if_neg g1]; exact (by exact .cons rfl (.cons rfl (.cons rfl (.cons rfl .nil))))) (fun w h => Cl.sel (by exact .take 0 rfl (.take 0 rfl (.take 0 rfl (.nil _)))) w h) trivial
    · skip
      have g1 : u.before = t.before := by simpa using g
      refine cw_skip ?_
      exact post_meet () (by rw [← hn1, if_pos g1]; exact (by exact .cons rfl (.cons rfl (.cons rfl (.cons' rfl (by congr 1; first | omega | (simp only; omega)) .nil))))) (fun w h => Cl.sel (by exact .take 0 rfl (.take 0 rfl (.take 0 rfl (.nil _)))) w h) trivial
  intro _ _
  refine post_then (cw_seq (cw_seq (cw_region (sr rfl rfl rfl ((q_fieldAddr rfl rfl)) ?_))))
  refine sr rfl rfl rfl ((q_loadC rfl rfl (by exact .tail _ (.tail _ (.head _))) rfl)) ?_
  refine sr rfl rfl rfl ((q_fieldAddr rfl rfl)) ?_
  refine sr rfl rfl rfl ((q_loadC rfl rfl (by exact .tail _ (.head _)) rfl)) ?_
  refine sr rfl rfl rfl ((q_neqStr rfl rfl rfl Tryz.underlying9)) (sw_nil (post_then ?_))
  obtain ⟨n2, hn2⟩ : ∃ n2 : Int, (if u.after = t.after then 0 else x.beside) = n2 := ⟨_, rfl⟩
  have bn2 : 0 ≤ n2 ∧ n2 ≤ 1000 := by rw [← hn2]; split <;> omega
  refine cw_cut (S := Unit) (fun _ => [(3, [], .pointer (some ⟨b3, 0, none⟩)), (4, [], .pointer (some ⟨b4, 0, none⟩)), (5, [], .pointer (some ⟨b5, 0, none⟩)), (7, [], .int .i64 (x.length * max (u.length - t.length) (t.length - u.length) + n1 + n2))]) (fun _ => Cl w [] [blk b5 (enc x) 25, blk b4 (enc t) 51, blk b3 (enc u) 49]) (fun _ => True) ?_ ?_
  · refine cw_cond rfl (fun g => ?_) (fun g => ?_)
    · skip
      have g1 : ¬ u.after = t.after := by simpa using g
      refine cw_region (sr rfl rfl rfl ((q_move rfl rfl)) (sr rfl rfl rfl ((q_fieldAddr rfl rfl)) ?_))
      refine sr rfl rfl rfl ((q_loadC rfl rfl (by exact .head _) rfl)) ?_
      refine sr rfl rfl rfl ((q_add rfl rfl rfl (by intro hc; omega))) ?_
      refine sr rfl rfl rfl ((q_assign rfl rfl)) (sw_nil ?_)
      exact post_meet () (by rw [← hn2, if_neg g1]; exact (by exact .cons rfl (.cons rfl (.cons rfl (.cons rfl .nil))))) (fun w h => Cl.sel (by exact .take 0 rfl (.take 0 rfl (.take 0 rfl (.nil _)))) w h) trivial
    · skip
      have g1 : u.after = t.after := by simpa using g
      refine cw_skip ?_
      exact post_meet () (by rw [← hn2, if_pos g1]; exact (by exact .cons rfl (.cons rfl (.cons rfl (.cons' rfl (by congr 1; first | omega | (simp only; omega)) .nil))))) (fun w h => Cl.sel (by exact .take 0 rfl (.take 0 rfl (.take 0 rfl (.nil _)))) w h) trivial
  intro _ _
  refine post_then (cw_seq (cw_block (cw_seq (cw_region (sr rfl rfl rfl ((q_fieldAddr rfl rfl)) ?_)))))
  refine sr rfl rfl rfl ((q_loadC rfl rfl (by exact .tail _ (.tail _ (.head _))) rfl)) ?_
  refine sr rfl rfl rfl ((q_gtr rfl rfl rfl)) (sr rfl rfl rfl ((q_move rfl rfl)) (sr rfl rfl rfl ((q_fieldAddr rfl rfl)) ?_))
  refine sr rfl rfl rfl ((q_loadC rfl rfl (by exact .tail _ (.head _)) rfl)) ?_
  refine sr rfl rfl rfl ((q_gtr rfl rfl rfl)) (sr rfl rfl rfl ((q_and2 rfl rfl rfl)) (sr rfl rfl rfl ((q_assign rfl rfl)) (sw_nil (post_then ?_))))
  refine cw_cond rfl (fun g => ?_) (fun g => ?_)
  · skip
    have g1 : 0 < u.pitch ∧ 0 < t.pitch := by simpa using g
    refine cw_region_q mixed_Tryz (by kernel_rfl) ?_
    refine qr rfl rfl rfl ((q_move rfl rfl)) (qr rfl rfl rfl ((q_fieldAddr rfl rfl)) ?_)
    refine qr rfl rfl rfl ((q_loadC rfl rfl (by exact .head _) rfl)) ?_
    refine qr rfl rfl rfl ((q_fieldAddr rfl rfl)) ?_
    refine qr rfl rfl rfl ((q_loadC rfl rfl (by exact .tail _ (.tail _ (.head _))) rfl)) ?_
    refine qr rfl rfl rfl ((q_fieldAddr rfl rfl)) ?_
    refine qr rfl rfl rfl ((q_loadC rfl rfl (by exact .tail _ (.head _)) rfl)) ?_
    refine qw_step rfl rfl rfl (q_call (CanCall.mk Tryz.call114) rfl (.cons rfl inferInstance (.cons rfl inferInstance (.nil))) (fun _ w hw => callq hw (far_spec _ _ w (by omega)))) ?_
    refine qr rfl rfl rfl ((q_mul rfl rfl rfl (by intro hc; omega))) ?_
    refine qr rfl rfl rfl ((q_add rfl rfl rfl (by intro hc; omega))) ?_
    refine qr rfl rfl rfl ((q_assign rfl rfl)) (qw_end (post_blk (post_then (cw_seq (cw_region (sr rfl rfl rfl ((q_move rfl rfl)) (sr rfl rfl rfl ((q_assign rfl rfl)) (sw_nil (post_then (cw_ret (post_ret1 rfl (resOk_tmp rfl) ?_)))))))))))
    exact fun w' hw => ⟨by rw [fitC, if_pos g1, hn1, hn2], (fun w h => Cl.sel (by exact .nil _) w h) _ hw⟩
  · skip
    have g1 : ¬ (0 < u.pitch ∧ 0 < t.pitch) := by intro hc; simp [hc] at g
    refine cw_seq (cw_region (sr rfl rfl rfl ((q_fieldAddr rfl rfl)) ?_))
    refine sr rfl rfl rfl ((q_loadC rfl rfl (by exact .tail _ (.tail _ (.head _))) rfl)) ?_
    refine sr rfl rfl rfl ((q_gtr rfl rfl rfl)) (sr rfl rfl rfl ((q_move rfl rfl)) (sr rfl rfl rfl ((q_fieldAddr rfl rfl)) ?_))
    refine sr rfl rfl rfl ((q_loadC rfl rfl (by exact .tail _ (.head _)) rfl)) ?_
    refine sr rfl rfl rfl ((q_gtr rfl rfl rfl)) (sr rfl rfl rfl ((q_or2 rfl rfl rfl)) (sr rfl rfl rfl ((q_assign rfl rfl)) (sw_nil (post_then ?_))))
    refine cw_cond rfl (fun g2 => ?_) (fun g2 => ?_)
    · skip
      have g3 : 0 < u.pitch ∨ 0 < t.pitch := by simpa using g2
      refine cw_region (sr rfl rfl rfl ((q_move rfl rfl)) (sr rfl rfl rfl ((q_fieldAddr rfl rfl)) ?_))
      refine sr rfl rfl rfl ((q_loadC rfl rfl (by exact .head _) rfl)) ?_
      refine sr rfl rfl rfl ((q_mul rfl rfl rfl (by intro hc; omega))) ?_
      refine sr rfl rfl rfl ((q_add rfl rfl rfl (by intro hc; omega))) ?_
      refine sr rfl rfl rfl ((q_assign rfl rfl)) (sw_nil (post_blk (post_then (cw_seq (cw_region (sr rfl rfl rfl ((q_move rfl rfl)) (sr rfl rfl rfl ((q_assign rfl rfl)) (sw_nil (post_then (cw_ret (post_ret1 rfl (resOk_tmp rfl) ?_)))))))))))
      exact fun w' hw => ⟨by rw [fitC, if_neg g1, if_pos g3, hn1, hn2], (fun w h => Cl.sel (by exact .nil _) w h) _ hw⟩
    · skip
      have g3 : ¬ (0 < u.pitch ∨ 0 < t.pitch) := by intro hc; rcases hc with hc | hc <;> simp [hc] at g2
      refine cw_skip (post_blk (post_then (cw_seq (cw_region (sr rfl rfl rfl ((q_move rfl rfl)) (sr rfl rfl rfl ((q_assign rfl rfl)) (sw_nil (post_then (cw_ret (post_ret1 rfl (resOk_tmp rfl) ?_))))))))))
      exact fun w' hw => ⟨by rw [fitC, if_neg g1, if_neg g3, hn1, hn2]; simp, (fun w h => Cl.sel (by exact .nil _) w h) _ hw⟩
theorem refTarget_spec (u : Un) (t : Wan) (x : Wts) (w : World) (ou : UnOk u) (ot : WaOk t) (ox : WtOk x) : Calls Tryz.prog 49 #[val u, val t, val x] w fun e w' => e = .returned (.int .i64 (fitC x u t)) ∧ Cl w [] [] w' := by
  obtain ⟨p1, l1, _, _, _, _, _⟩ := ou
  obtain ⟨p2, l2⟩ := ot
  have h1 := mul_bd ox.l (show 0 ≤ max (u.length - t.length) (t.length - u.length) ∧ max (u.length - t.length) (t.length - u.length) ≤ 100000 by omega)
  have h2 := mul_bd ox.p (show 0 ≤ max (u.pitch - t.pitch) (t.pitch - u.pitch) ∧ max (u.pitch - t.pitch) (t.pitch - u.pitch) ≤ 2000 by omega)
  have h3 := ox.b
  have h4 := ox.p
  refine calls_cw (vs := [_, _, _]) Tryz.func49 rfl Tryz.ntmps49 rfl (Cl.start0 w) (cw_seq (cw_region ?_))
  refine sw_x rfl rfl rfl (e_box rfl rfl rfl) (fun b3 => ?_)
  refine sw_x rfl rfl rfl (e_box rfl rfl rfl) (fun b4 => ?_)
  refine sw_x rfl rfl rfl (e_box rfl rfl rfl) (fun b5 => ?_)
  refine sr rfl rfl rfl ((q_assign rfl rfl)) (sw_nil (post_then (cw_seq (cw_region (sr rfl rfl rfl ((q_assign rfl rfl)) (sw_nil (post_then (cw_seq (cw_seq (cw_region (sr rfl rfl rfl ((q_fieldAddr rfl rfl)) ?_)))))))))))
  refine sr rfl rfl rfl ((q_loadC rfl rfl (by exact .tail _ (.tail _ (.head _))) rfl)) ?_
  refine sr rfl rfl rfl ((q_fieldAddr rfl rfl)) ?_
  refine sr rfl rfl rfl ((q_loadC rfl rfl (by exact .tail _ (.head _)) rfl)) ?_
  refine sr rfl rfl rfl ((q_neqStr rfl rfl rfl Tryz.underlying9)) (sw_nil (post_then ?_))
  obtain ⟨n1, hn1⟩ : ∃ n1 : Int, (if u.before = t.before then 0 else x.beside) = n1 := ⟨_, rfl⟩
  have bn1 : 0 ≤ n1 ∧ n1 ≤ 1000 := by rw [← hn1]; split <;> omega
  refine cw_cut (S := Unit) (fun _ => [(3, [], .pointer (some ⟨b3, 0, none⟩)), (4, [], .pointer (some ⟨b4, 0, none⟩)), (5, [], .pointer (some ⟨b5, 0, none⟩)), (7, [], .int .i64 n1)]) (fun _ => Cl w [] [blk b5 (enc x) 25, blk b4 (enc t) 51, blk b3 (enc u) 49]) (fun _ => True) ?_ ?_
  · refine cw_cond rfl (fun g => ?_) (fun g => ?_)
    · skip
      have g1 : ¬ u.before = t.before := by simpa using g
      refine cw_region (sr rfl rfl rfl ((q_move rfl rfl)) (sr rfl rfl rfl ((q_fieldAddr rfl rfl)) ?_))
      refine sr rfl rfl rfl ((q_loadC rfl rfl (by exact .head _) rfl)) ?_
      refine sr rfl rfl rfl ((q_add rfl rfl rfl (by intro hc; omega))) ?_
      refine sr rfl rfl rfl ((q_assign rfl rfl)) (sw_nil ?_)
      exact post_meet () (by rw [← hn1, if_neg g1]; exact (by exact .cons rfl (.cons rfl (.cons rfl (.cons' rfl (by congr 1; first | omega | (simp only; omega)) .nil))))) (fun w h => Cl.sel (by exact .take 0 rfl (.take 0 rfl (.take 0 rfl (.nil _)))) w h) trivial
    · skip
      have g1 : u.before = t.before := by simpa using g
      refine cw_skip ?_
      exact post_meet () (by rw [← hn1, if_pos g1]; exact (by exact .cons rfl (.cons rfl (.cons rfl (.cons rfl .nil))))) (fun w h => Cl.sel (by exact .take 0 rfl (.take 0 rfl (.take 0 rfl (.nil _)))) w h) trivial
  intro _ _
  refine post_then (cw_seq (cw_seq (cw_region (sr rfl rfl rfl ((q_fieldAddr rfl rfl)) ?_))))
  refine sr rfl rfl rfl ((q_loadC rfl rfl (by exact .tail _ (.tail _ (.head _))) rfl)) ?_
  refine sr rfl rfl rfl ((q_fieldAddr rfl rfl)) ?_
  refine sr rfl rfl rfl ((q_loadC rfl rfl (by exact .tail _ (.head _)) rfl)) ?_
  refine sr rfl rfl rfl ((q_neqStr rfl rfl rfl Tryz.underlying9)) (sw_nil (post_then ?_))
  obtain ⟨n2, hn2⟩ : ∃ n2 : Int, (if u.after = t.after then 0 else x.beside) = n2 := ⟨_, rfl⟩
  have bn2 : 0 ≤ n2 ∧ n2 ≤ 1000 := by rw [← hn2]; split <;> omega
  refine cw_cut (S := Unit) (fun _ => [(3, [], .pointer (some ⟨b3, 0, none⟩)), (4, [], .pointer (some ⟨b4, 0, none⟩)), (5, [], .pointer (some ⟨b5, 0, none⟩)), (7, [], .int .i64 (n1 + n2))]) (fun _ => Cl w [] [blk b5 (enc x) 25, blk b4 (enc t) 51, blk b3 (enc u) 49]) (fun _ => True) ?_ ?_
  · refine cw_cond rfl (fun g => ?_) (fun g => ?_)
    · skip
      have g1 : ¬ u.after = t.after := by simpa using g
      refine cw_region (sr rfl rfl rfl ((q_move rfl rfl)) (sr rfl rfl rfl ((q_fieldAddr rfl rfl)) ?_))
      refine sr rfl rfl rfl ((q_loadC rfl rfl (by exact .head _) rfl)) ?_
      refine sr rfl rfl rfl ((q_add rfl rfl rfl (by intro hc; omega))) ?_
      refine sr rfl rfl rfl ((q_assign rfl rfl)) (sw_nil ?_)
      exact post_meet () (by rw [← hn2, if_neg g1]; exact (by exact .cons rfl (.cons rfl (.cons rfl (.cons rfl .nil))))) (fun w h => Cl.sel (by exact .take 0 rfl (.take 0 rfl (.take 0 rfl (.nil _)))) w h) trivial
    · skip
      have g1 : u.after = t.after := by simpa using g
      refine cw_skip ?_
      exact post_meet () (by rw [← hn2, if_pos g1]; exact (by exact .cons rfl (.cons rfl (.cons rfl (.cons' rfl (by congr 1; first | omega | (simp only; omega)) .nil))))) (fun w h => Cl.sel (by exact .take 0 rfl (.take 0 rfl (.take 0 rfl (.nil _)))) w h) trivial
  intro _ _
  refine post_then (cw_seq (cw_seq (cw_region (sr rfl rfl rfl ((q_fieldAddr rfl rfl)) ?_))))
  refine sr rfl rfl rfl ((q_loadC rfl rfl (by exact .tail _ (.tail _ (.head _))) rfl)) ?_
  refine sr rfl rfl rfl ((q_eql rfl rfl rfl)) (sr rfl rfl rfl ((q_fieldAddr rfl rfl)) ?_)
  refine sr rfl rfl rfl ((q_loadC rfl rfl (by exact .tail _ (.head _)) rfl)) ?_
  refine sr rfl rfl rfl ((q_eql rfl rfl rfl)) (sr rfl rfl rfl ((q_neq_b rfl rfl rfl Tryz.underlying4)) (sw_nil (post_then ?_)))
  obtain ⟨n3, hn3⟩ : ∃ n3 : Int, (if 0 < u.pitch ∧ 0 < t.pitch then x.pitch * max (u.pitch - t.pitch) (t.pitch - u.pitch) else if 0 < u.pitch ∨ 0 < t.pitch then 2000 * x.pitch else 0) = n3 := ⟨_, rfl⟩
  have bn3 : 0 ≤ n3 ∧ n3 ≤ 2000000 := by rw [← hn3]; split <;> (try split) <;> omega
  refine cw_cut (S := Unit) (fun _ => [(3, [], .pointer (some ⟨b3, 0, none⟩)), (4, [], .pointer (some ⟨b4, 0, none⟩)), (5, [], .pointer (some ⟨b5, 0, none⟩)), (7, [], .int .i64 (n1 + n2 + n3))]) (fun _ => Cl w [] [blk b5 (enc x) 25, blk b4 (enc t) 51, blk b3 (enc u) 49]) (fun _ => True) ?_ ?_
  · refine cw_cond rfl (fun g => ?_) (fun g => ?_)
    · skip
      have g1 : ¬ (u.pitch = 0 ↔ t.pitch = 0) := by
        intro hc
        by_cases h5 : u.pitch = 0 <;> by_cases h6 : t.pitch = 0 <;> simp [h5, h6] at g hc
      refine cw_region (sr rfl rfl rfl ((q_move rfl rfl)) (sr rfl rfl rfl ((q_fieldAddr rfl rfl)) ?_))
      refine sr rfl rfl rfl ((q_loadC rfl rfl (by exact .head _) rfl)) ?_
      refine sr rfl rfl rfl ((q_mul rfl rfl rfl (by intro hc; omega))) ?_
      refine sr rfl rfl rfl ((q_add rfl rfl rfl (by intro hc; omega))) ?_
      refine sr rfl rfl rfl ((q_assign rfl rfl)) (sw_nil ?_)
      refine post_meet () (by rw [← hn3, if_neg (by omega), if_pos (by omega)]; exact (by exact .cons rfl (.cons rfl (.cons rfl (.cons rfl .nil))))) (fun w h => Cl.sel (by exact .take 0 rfl (.take 0 rfl (.take 0 rfl (.nil _)))) w h) trivial
    · skip
      have g1 : (u.pitch = 0 ↔ t.pitch = 0) := by
        by_cases h5 : u.pitch = 0 <;> by_cases h6 : t.pitch = 0 <;> simp [h5, h6] at g ⊢
      refine cw_region (sr rfl rfl rfl ((q_move rfl rfl)) (sr rfl rfl rfl ((q_fieldAddr rfl rfl)) ?_))
      refine sr rfl rfl rfl ((q_loadC rfl rfl (by exact .head _) rfl)) ?_
      refine sr rfl rfl rfl ((q_fieldAddr rfl rfl)) ?_
      refine sr rfl rfl rfl ((q_loadC rfl rfl (by exact .tail _ (.tail _ (.head _))) rfl)) ?_
      refine sr rfl rfl rfl ((q_fieldAddr rfl rfl)) ?_
      refine sr rfl rfl rfl ((q_loadC rfl rfl (by exact .tail _ (.head _)) rfl)) ?_
      refine sr rfl rfl rfl ((q_sub rfl rfl rfl (by intro hc; omega))) ?_
      refine sr rfl rfl rfl ((q_fieldAddr rfl rfl)) ?_
      refine sr rfl rfl rfl ((q_loadC rfl rfl (by exact .tail _ (.head _)) rfl)) ?_
      refine sr rfl rfl rfl ((q_fieldAddr rfl rfl)) ?_
      refine sr rfl rfl rfl ((q_loadC rfl rfl (by exact .tail _ (.tail _ (.head _))) rfl)) ?_
      refine sr rfl rfl rfl ((q_sub rfl rfl rfl (by intro hc; omega))) ?_
      refine sr rfl rfl rfl ((q_max rfl (.cons rfl inferInstance (.cons rfl inferInstance (.nil))))) ?_
      refine sr rfl rfl rfl ((q_mul rfl rfl rfl (by intro hc; omega))) ?_
      refine sr rfl rfl rfl ((q_add rfl rfl rfl (by intro hc; omega))) ?_
      refine sr rfl rfl rfl ((q_assign rfl rfl)) (sw_nil ?_)
      refine post_meet () ?_ (fun w h => Cl.sel (by exact .take 0 rfl (.take 0 rfl (.take 0 rfl (.nil _)))) w h) trivial
      by_cases h7 : 0 < u.pitch
      · rw [← hn3, if_pos (by omega)]; exact (by exact .cons rfl (.cons rfl (.cons rfl (.cons rfl .nil))))
      · rw [← hn3, if_neg (by omega), if_neg (by omega)]
        have e1 : max (u.pitch - t.pitch) (t.pitch - u.pitch) = 0 := by omega
        rw [e1, Int.mul_zero]
        exact (by exact .cons rfl (.cons rfl (.cons rfl (.cons rfl .nil))))
  intro _ _
  refine post_then (cw_seq (cw_region (sr rfl rfl rfl ((q_move rfl rfl)) (sr rfl rfl rfl ((q_fieldAddr rfl rfl)) ?_))))
  refine sr rfl rfl rfl ((q_loadC rfl rfl (by exact .head _) rfl)) ?_
  refine sr rfl rfl rfl ((q_fieldAddr rfl rfl)) ?_
  refine sr rfl rfl rfl ((q_loadC rfl rfl (by exact .tail _ (.tail _ (.head _))) rfl)) ?_
  refine sr rfl rfl rfl ((q_fieldAddr rfl rfl)) ?_
  refine sr rfl rfl rfl ((q_loadC rfl rfl (by exact .tail _ (.head _)) rfl)) ?_
  refine sr rfl rfl rfl ((q_sub rfl rfl rfl (by intro hc; omega))) ?_
  refine sr rfl rfl rfl ((q_fieldAddr rfl rfl)) ?_
  refine sr rfl rfl rfl ((q_loadC rfl rfl (by exact .tail _ (.head _)) rfl)) ?_
  refine sr rfl rfl rfl ((q_fieldAddr rfl rfl)) ?_
  refine sr rfl rfl rfl ((q_loadC rfl rfl (by exact .tail _ (.tail _ (.head _))) rfl)) ?_
  refine sr rfl rfl rfl ((q_sub rfl rfl rfl (by intro hc; omega))) ?_
  refine sr rfl rfl rfl ((q_max rfl (.cons rfl inferInstance (.cons rfl inferInstance (.nil))))) ?_
  refine sr rfl rfl rfl ((q_mul rfl rfl rfl (by intro hc; omega))) ?_
  refine sr rfl rfl rfl ((q_add rfl rfl rfl (by intro hc; omega))) ?_
  refine sr rfl rfl rfl ((q_assign rfl rfl)) (sw_nil (post_then (cw_ret (post_ret1 rfl (resOk_tmp rfl) ?_))))
  exact fun w' hw => ⟨by rw [fitC, hn1, hn2, hn3]; congr 2; omega, (fun w h => Cl.sel (by exact .nil _) w h) _ hw⟩
end Go.Proofs.YtomjbfeafodfbaaGreat

set_option autoImplicit false
set_option maxRecDepth 100000
namespace Go.Proofs.YtomjbfeafodfbaaGreat
open Go.Sx
open Enc (enc val)
theorem cl_of {w w' : World} (k : Chg [] w w') : Cl w [] [] w' := ⟨k, [], rfl, List.nodup_nil, fun b h => by simp at h⟩
def vectorsB (ls : List (List Int)) : Bool := ls.all fun v => vecB v && decide (v.length = (nth ls 0).length)
theorem refVectors_spec (lv : Value) (vs : List SlV) (ls : List (List Int)) (w : World) (hl : Stb w [] (RdL lv vs)) (hn : vs.length = ls.length) (hr : ∀ i, i < ls.length → Stb w [] (RdL (nth vs i).v (nth ls i))) :
    Calls Tryz.prog 73 #[lv] w fun e w' => e = .returned (.bool (vectorsB ls)) ∧ Cl w [] [] w' := by
  have hL := rd_len hl.here
  refine calls_cw (vs := [_]) Tryz.func73 rfl Tryz.ntmps73 rfl (Cl.start0 w) (cw_seq (cw_region (sr rfl rfl rfl ((q_assign rfl rfl)) (sw_nil (post_then (cw_seq (cw_seq (cw_region (sr rfl rfl rfl ((q_assign rfl rfl)) (sw_nil (post_then (cw_block ?_))))))))))))
  refine cw_loop (S := Nat) (fun k => [(0, [], lv), (3, [], .int .i64 k)]) (fun _ => Cl w [] []) (fun k => k ≤ ls.length ∧ ∀ j, j < k → (vecB (nth ls j) && decide ((nth ls j).length = (nth ls 0).length)) = true) (fun k => ls.length - k) 0 ⟨Nat.zero_le _, fun j hj => by omega⟩ (by exact .cons rfl (.cons rfl .nil)) (fun _ h => h) ?_
  rintro k ⟨hk, hbe⟩
  refine cw_seq (cw_seq (cw_region (sr rfl rfl rfl ((q_move rfl rfl)) (sr rfl rfl rfl ((q_move rfl rfl)) ?_))))
  refine sr rfl rfl rfl ((q_len rfl (.cons rfl inferInstance (.nil)) (by exact fun w hw => Stb.cl (by assumption) hw))) ?_
  refine sr rfl rfl rfl ((q_lss rfl rfl rfl)) (sw_nil (post_then ?_))
  refine cw_cond rfl (fun h => ?_) (fun h => ?_)
  · skip
    have hk' : k < ls.length := by simp only [decide_eq_true_eq] at h; omega
    have hrk := hr k hk'
    have hr0 := hr 0 (by omega)
    refine cw_skip (post_then (cw_seq (cw_block (cw_seq ?_))))
    refine cw_region_q mixed_Tryz (by kernel_rfl) ?_
    refine qr rfl rfl rfl ((q_move rfl rfl)) (qr rfl rfl rfl ((q_move rfl rfl)) ?_)
    refine qr rfl rfl rfl ((q_indexN rfl rfl rfl (by exact fun w hw => Stb.cl (by assumption) hw) (by intro hc; omega))) ?_
    refine qr rfl rfl rfl ((q_loadEl rfl rfl rfl (by exact fun w hw => Stb.cl (by assumption) hw) (by intro hc; omega))) ?_
    refine qw_step rfl rfl rfl (q_call (CanCall.mk Tryz.call115) rfl (.cons rfl inferInstance (.nil)) (fun _ w hw => callq hw (refVector_spec _ _ w (by exact stb_arg hw (by assumption))))) ?_
    refine qr rfl rfl rfl ((q_not rfl rfl)) (qr rfl rfl rfl ((q_move rfl rfl)) (qr rfl rfl rfl ((q_move rfl rfl)) (qr rfl rfl rfl ((q_move rfl rfl)) ?_)))
    refine qr rfl rfl rfl ((q_indexN rfl rfl rfl (by exact fun w hw => Stb.cl (by assumption) hw) (by intro hc; omega))) ?_
    refine qr rfl rfl rfl ((q_loadEl rfl rfl rfl (by exact fun w hw => Stb.cl (by assumption) hw) (by intro hc; omega))) ?_
    refine qr rfl rfl rfl ((q_len rfl (.cons rfl inferInstance (.nil)) (by exact fun w hw => Stb.cl (by assumption) hw))) ?_
    refine qr rfl rfl rfl ((q_move rfl rfl)) ?_
    refine qr rfl rfl rfl ((q_indexN rfl rfl rfl (by exact fun w hw => Stb.cl (by assumption) hw) (by intro hc; (simp only [List.length_set, List.length_append, List.length_cons, List.length_nil, List.length_replicate, List.length_take, List.length_drop, List.length_map]; omega)))) ?_
    refine qr rfl rfl rfl ((q_loadEl rfl rfl rfl (by exact fun w hw => Stb.cl (by assumption) hw) (by intro hc; (simp only [List.length_set, List.length_append, List.length_cons, List.length_nil, List.length_replicate, List.length_take, List.length_drop, List.length_map]; omega)))) ?_
    refine qr rfl rfl rfl ((q_len rfl (.cons rfl inferInstance (.nil)) (by exact fun w hw => Stb.cl (by assumption) hw))) ?_
    refine qr rfl rfl rfl ((q_neq rfl rfl rfl)) (qr rfl rfl rfl ((q_or2 rfl rfl rfl)) (qw_end (post_then ?_)))
    refine cw_cond rfl (fun h2 => ?_) (fun h2 => ?_)
    · skip
      have h3 : (vecB (nth ls k) && decide ((nth ls k).length = (nth ls 0).length)) = false := by
        by_cases h4 : (nth ls k).length = (nth ls 0).length <;> simp [h4] at h2 ⊢ <;> assumption
      refine cw_seq (cw_region (sr rfl rfl rfl ((q_assign rfl rfl)) (sw_nil (post_then (cw_ret (post_blk_r (post_then_r (post_then_r (post_blk_r (post_then_r (post_ret1 rfl (resOk_tmp rfl) ?_)))))))))))
      refine fun w' hw => ⟨?_, hw⟩
      have : vectorsB ls = false := List.all_eq_false.2 ⟨nth ls k, by rw [nth_get hk']; exact List.getElem_mem hk', by simpa using h3⟩
      rw [this]
    · skip
      refine cw_skip (post_blk (post_then (cw_region (sr rfl rfl rfl ((q_move rfl rfl)) ?_))))
      refine sr rfl rfl rfl ((q_add rfl rfl rfl (by intro hc; omega))) ?_
      refine sr rfl rfl rfl ((q_assign rfl rfl)) (sw_nil ?_)
      refine post_next (k + 1) (by exact .cons rfl (.cons rfl .nil)) (fun _ h => h) ⟨by omega, fun j hj => ?_⟩ (by omega)
      by_cases hjk : j = k
      · rw [hjk]
        by_cases h4 : (nth ls k).length = (nth ls 0).length <;> simp [h4] at h2 ⊢ <;> first | assumption | omega
      · exact hbe j (by omega)
  · skip
    have hk' : k = ls.length := by simp only [decide_eq_false_iff_not] at h; omega
    subst hk'
    refine cw_exit (post_then_x (post_then_x (post_blk_eq (post_then (cw_seq (cw_region (sr rfl rfl rfl ((q_assign rfl rfl)) (sw_nil (post_then (cw_ret (post_ret1 rfl (resOk_tmp rfl) ?_)))))))))))
    refine fun w' hw => ⟨?_, hw⟩
    have : vectorsB ls = true := List.all_eq_true.2 fun x hx => by
      obtain ⟨i, hi, rfl⟩ := List.getElem_of_mem hx
      have := hbe i hi
      rw [nth_get hi] at this; exact this
    rw [this]
theorem two_reads {w : World} {a b : SlV} {x y : List Int} (ha : Stb w [] (RdL a.v x)) (hb : Stb w [] (RdL b.v y)) (i : Nat) (hi : i < [x, y].length) : Stb w [] (RdL (nth [a, b] i).v (nth [x, y] i)) := by
  match i, hi with
  | 0, _ => exact ha
  | 1, _ => exact hb
def unG (u : Un) : Bool := decide (0 ≤ u.take) && decide (0 ≤ u.fr) && decide (u.fr < u.to) && decide (u.to ≤ 2147483648)
theorem unB_eq (u : Un) : unB u = ((phoneB u.phone && besideB u.before && besideB u.after && inB u.pitch 0 2000 && inB u.length 1 100000) && (unG u && vectorsB [u.bl, u.el])) := by
  have : vectorsB [u.bl, u.el] = (vecB u.bl && (vecB u.el && decide (u.bl.length = u.el.length))) := by
    simp [vectorsB, nth, eq_comm]
  rw [this]
  simp [unB, unG, Bool.and_assoc]
theorem refUnit_yes (u : Un) (w : World) (hu : UnRd w u) (hg : unG u = true) : Calls Tryz.prog 46 #[val u] w fun e w' => e = .returned (.bool (unB u)) ∧ Cl w [] [] w' := by
  obtain ⟨s1, s2, s3, hb, he⟩ := hu
  rw [unB_eq, hg]
  refine calls_cw (vs := [_]) Tryz.func46 rfl Tryz.ntmps46 rfl (Cl.start0 w) (cw_seq (cw_region ?_))
  refine sw_x rfl rfl rfl (e_box rfl rfl rfl) (fun b1 => ?_)
  refine sr rfl rfl rfl ((q_assign rfl rfl)) (sw_nil (post_then (cw_seq (cw_seq (cw_region (sr rfl rfl rfl ((q_fieldAddr rfl rfl)) ?_))))))
  refine sr rfl rfl rfl ((q_loadC rfl rfl (by exact .head _) rfl)) ?_
  refine sw_step rfl rfl rfl (q_call (CanCall.mk Tryz.call91) rfl (.cons rfl inferInstance (.nil)) (fun _ w hw => callq hw (refPhone_spec _ w (by omega)))) ?_
  refine sr rfl rfl rfl ((q_not rfl rfl)) (sr rfl rfl rfl ((q_move rfl rfl)) (sr rfl rfl rfl ((q_fieldAddr rfl rfl)) ?_))
  refine sr rfl rfl rfl ((q_loadC rfl rfl (by exact .head _) rfl)) ?_
  refine sw_step rfl rfl rfl (q_call (CanCall.mk Tryz.call92) rfl (.cons rfl inferInstance (.nil)) (fun _ w hw => callq hw (refBeside_spec _ w (by omega)))) ?_
  refine sr rfl rfl rfl ((q_not rfl rfl)) (sr rfl rfl rfl ((q_or2 rfl rfl rfl)) (sr rfl rfl rfl ((q_move rfl rfl)) (sr rfl rfl rfl ((q_fieldAddr rfl rfl)) ?_)))
  refine sr rfl rfl rfl ((q_loadC rfl rfl (by exact .head _) rfl)) ?_
  refine sw_step rfl rfl rfl (q_call (CanCall.mk Tryz.call92) rfl (.cons rfl inferInstance (.nil)) (fun _ w hw => callq hw (refBeside_spec _ w (by omega)))) ?_
  refine sr rfl rfl rfl ((q_not rfl rfl)) (sr rfl rfl rfl ((q_or2 rfl rfl rfl)) (sr rfl rfl rfl ((q_move rfl rfl)) (sr rfl rfl rfl ((q_fieldAddr rfl rfl)) ?_)))
  refine sr rfl rfl rfl ((q_loadC rfl rfl (by exact .head _) rfl)) ?_
  refine sw_step rfl rfl rfl (q_call (CanCall.mk Tryz.call84) rfl (.cons rfl inferInstance (.cons rfl inferInstance (.cons rfl inferInstance (.nil)))) (fun _ w hw => callq hw (refIn_spec _ _ _ w))) (sr rfl rfl rfl ((q_not rfl rfl)) (sr rfl rfl rfl ((q_or2 rfl rfl rfl)) (sr rfl rfl rfl ((q_move rfl rfl)) (sr rfl rfl rfl ((q_fieldAddr rfl rfl)) ?_))))
  refine sr rfl rfl rfl ((q_loadC rfl rfl (by exact .head _) rfl)) ?_
  refine sw_step rfl rfl rfl (q_call (CanCall.mk Tryz.call84) rfl (.cons rfl inferInstance (.cons rfl inferInstance (.cons rfl inferInstance (.nil)))) (fun _ w hw => callq hw (refIn_spec _ _ _ w))) (sr rfl rfl rfl ((q_not rfl rfl)) (sr rfl rfl rfl ((q_or2 rfl rfl rfl)) (sw_nil (post_then ?_))))
  refine cw_cond rfl (fun h => ?_) (fun h => ?_)
  · skip
    have h1 : (phoneB u.phone && besideB u.before && besideB u.after && inB u.pitch 0 2000 && inB u.length 1 100000) = false := by
      rw [Bool.eq_false_iff]; intro hc
      simp only [Bool.and_eq_true] at hc
      simp [hc] at h
    refine cw_seq (cw_region (sr rfl rfl rfl ((q_assign rfl rfl)) (sw_nil (post_then (cw_ret (post_then_r (post_ret1 rfl (resOk_tmp rfl) ?_)))))))
    exact fun w' hw => ⟨by rw [h1]; rfl, (fun w h => Cl.sel (by exact .nil _) w h) _ hw⟩
  · skip
    have h1 : (phoneB u.phone && besideB u.before && besideB u.after && inB u.pitch 0 2000 && inB u.length 1 100000) = true := by
      simp only [Bool.or_eq_false_iff, Bool.not_eq_false'] at h
      simp [h]
    have hg' := hg
    simp only [unG] at hg'
    rw [h1]
    refine cw_skip (post_then (cw_seq (cw_region (sr rfl rfl rfl ((q_fieldAddr rfl rfl)) ?_))))
    refine sr rfl rfl rfl ((q_loadC rfl rfl (by exact .head _) rfl)) ?_
    refine sr rfl rfl rfl ((q_geq rfl rfl rfl)) (sr rfl rfl rfl ((q_move rfl rfl)) (sr rfl rfl rfl ((q_fieldAddr rfl rfl)) ?_))
    refine sr rfl rfl rfl ((q_loadC rfl rfl (by exact .head _) rfl)) ?_
    refine sr rfl rfl rfl ((q_geq rfl rfl rfl)) (sr rfl rfl rfl ((q_and2 rfl rfl rfl)) (sr rfl rfl rfl ((q_move rfl rfl)) (sr rfl rfl rfl ((q_fieldAddr rfl rfl)) ?_)))
    refine sr rfl rfl rfl ((q_loadC rfl rfl (by exact .head _) rfl)) ?_
    refine sr rfl rfl rfl ((q_fieldAddr rfl rfl)) ?_
    refine sr rfl rfl rfl ((q_loadC rfl rfl (by exact .head _) rfl)) ?_
    refine sr rfl rfl rfl ((q_lss rfl rfl rfl)) (sr rfl rfl rfl ((q_and2 rfl rfl rfl)) (sr rfl rfl rfl ((q_move rfl rfl)) (sr rfl rfl rfl ((q_fieldAddr rfl rfl)) ?_)))
    refine sr rfl rfl rfl ((q_loadC rfl rfl (by exact .head _) rfl)) ?_
    refine sr rfl rfl rfl ((q_leq rfl rfl rfl)) (sr rfl rfl rfl ((q_and2 rfl rfl rfl)) (sr rfl rfl rfl ((q_move rfl rfl)) (sr rfl rfl rfl ((q_fieldAddr rfl rfl)) ?_)))
    refine sr rfl rfl rfl ((q_loadC rfl rfl (by exact .head _) rfl)) ?_
    refine sr rfl rfl rfl ((q_fieldAddr rfl rfl)) ?_
    refine sr rfl rfl rfl ((q_loadC rfl rfl (by exact .head _) rfl)) ?_
    refine sw_xc rfl (by first | (simp [AllT]; done) | simp [AllT, *]) rfl rfl (e_buildLc (l := [u.bs, u.es]) rfl (.cons rfl inferInstance (.cons rfl inferInstance (.nil))) rfl rfl rfl rfl) (fun s56 => ?_)
    refine sw_step rfl rfl rfl (q_call (CanCall.mk Tryz.call73) rfl (.cons rfl inferInstance (.nil)) (fun _ w hw => callq (v := .bool (vectorsB [u.bl, u.el])) hw (refVectors_spec _ [u.bs, u.es] [u.bl, u.el] w (stb_own hw (by exact .head _)) rfl (two_reads (stb_arg hw hb) (stb_arg hw he))))) ?_
    refine sr rfl rfl rfl ((q_and2 rfl rfl rfl)) (sr rfl rfl rfl ((q_assign rfl rfl)) (sw_nil (post_then (cw_ret (post_ret1 rfl (resOk_tmp rfl) ?_)))))
    exact fun w' hw => ⟨by simp [hg'], (fun w h => Cl.sel (by exact .nil _) w h) _ hw⟩
theorem refUnit_no (u : Un) (w : World) (hu : UnRd w u) (hg : unG u = false) : Calls Tryz.prog 46 #[val u] w fun e w' => e = .returned (.bool (unB u)) ∧ Cl w [] [] w' := by
  obtain ⟨s1, s2, s3, hb, he⟩ := hu
  rw [unB_eq, hg]
  refine calls_cw (vs := [_]) Tryz.func46 rfl Tryz.ntmps46 rfl (Cl.start0 w) (cw_seq (cw_region ?_))
  refine sw_x rfl rfl rfl (e_box rfl rfl rfl) (fun b1 => ?_)
  refine sr rfl rfl rfl ((q_assign rfl rfl)) (sw_nil (post_then (cw_seq (cw_seq (cw_region (sr rfl rfl rfl ((q_fieldAddr rfl rfl)) ?_))))))
  refine sr rfl rfl rfl ((q_loadC rfl rfl (by exact .head _) rfl)) ?_
  refine sw_step rfl rfl rfl (q_call (CanCall.mk Tryz.call91) rfl (.cons rfl inferInstance (.nil)) (fun _ w hw => callq hw (refPhone_spec _ w (by omega)))) ?_
  refine sr rfl rfl rfl ((q_not rfl rfl)) (sr rfl rfl rfl ((q_move rfl rfl)) (sr rfl rfl rfl ((q_fieldAddr rfl rfl)) ?_))
  refine sr rfl rfl rfl ((q_loadC rfl rfl (by exact .head _) rfl)) ?_
  refine sw_step rfl rfl rfl (q_call (CanCall.mk Tryz.call92) rfl (.cons rfl inferInstance (.nil)) (fun _ w hw => callq hw (refBeside_spec _ w (by omega)))) ?_
  refine sr rfl rfl rfl ((q_not rfl rfl)) (sr rfl rfl rfl ((q_or2 rfl rfl rfl)) (sr rfl rfl rfl ((q_move rfl rfl)) (sr rfl rfl rfl ((q_fieldAddr rfl rfl)) ?_)))
  refine sr rfl rfl rfl ((q_loadC rfl rfl (by exact .head _) rfl)) ?_
  refine sw_step rfl rfl rfl (q_call (CanCall.mk Tryz.call92) rfl (.cons rfl inferInstance (.nil)) (fun _ w hw => callq hw (refBeside_spec _ w (by omega)))) ?_
  refine sr rfl rfl rfl ((q_not rfl rfl)) (sr rfl rfl rfl ((q_or2 rfl rfl rfl)) (sr rfl rfl rfl ((q_move rfl rfl)) (sr rfl rfl rfl ((q_fieldAddr rfl rfl)) ?_)))
  refine sr rfl rfl rfl ((q_loadC rfl rfl (by exact .head _) rfl)) ?_
  refine sw_step rfl rfl rfl (q_call (CanCall.mk Tryz.call84) rfl (.cons rfl inferInstance (.cons rfl inferInstance (.cons rfl inferInstance (.nil)))) (fun _ w hw => callq hw (refIn_spec _ _ _ w))) (sr rfl rfl rfl ((q_not rfl rfl)) (sr rfl rfl rfl ((q_or2 rfl rfl rfl)) (sr rfl rfl rfl ((q_move rfl rfl)) (sr rfl rfl rfl ((q_fieldAddr rfl rfl)) ?_))))
  refine sr rfl rfl rfl ((q_loadC rfl rfl (by exact .head _) rfl)) ?_
  refine sw_step rfl rfl rfl (q_call (CanCall.mk Tryz.call84) rfl (.cons rfl inferInstance (.cons rfl inferInstance (.cons rfl inferInstance (.nil)))) (fun _ w hw => callq hw (refIn_spec _ _ _ w))) (sr rfl rfl rfl ((q_not rfl rfl)) (sr rfl rfl rfl ((q_or2 rfl rfl rfl)) (sw_nil (post_then ?_))))
  refine cw_cond rfl (fun h => ?_) (fun h => ?_)
  · skip
    have h1 : (phoneB u.phone && besideB u.before && besideB u.after && inB u.pitch 0 2000 && inB u.length 1 100000) = false := by
      rw [Bool.eq_false_iff]; intro hc
      simp only [Bool.and_eq_true] at hc
      simp [hc] at h
    refine cw_seq (cw_region (sr rfl rfl rfl ((q_assign rfl rfl)) (sw_nil (post_then (cw_ret (post_then_r (post_ret1 rfl (resOk_tmp rfl) ?_)))))))
    exact fun w' hw => ⟨by rw [h1]; rfl, (fun w h => Cl.sel (by exact .nil _) w h) _ hw⟩
  · skip
    have h1 : (phoneB u.phone && besideB u.before && besideB u.after && inB u.pitch 0 2000 && inB u.length 1 100000) = true := by
      simp only [Bool.or_eq_false_iff, Bool.not_eq_false'] at h
      simp [h]
    have hg' := hg
    simp only [unG] at hg'
    rw [h1]
    refine cw_skip (post_then (cw_seq (cw_region (sr rfl rfl rfl ((q_fieldAddr rfl rfl)) ?_))))
    refine sr rfl rfl rfl ((q_loadC rfl rfl (by exact .head _) rfl)) ?_
    refine sr rfl rfl rfl ((q_geq rfl rfl rfl)) (sr rfl rfl rfl ((q_move rfl rfl)) (sr rfl rfl rfl ((q_fieldAddr rfl rfl)) ?_))
    refine sr rfl rfl rfl ((q_loadC rfl rfl (by exact .head _) rfl)) ?_
    refine sr rfl rfl rfl ((q_geq rfl rfl rfl)) (sr rfl rfl rfl ((q_and2 rfl rfl rfl)) (sr rfl rfl rfl ((q_move rfl rfl)) (sr rfl rfl rfl ((q_fieldAddr rfl rfl)) ?_)))
    refine sr rfl rfl rfl ((q_loadC rfl rfl (by exact .head _) rfl)) ?_
    refine sr rfl rfl rfl ((q_fieldAddr rfl rfl)) ?_
    refine sr rfl rfl rfl ((q_loadC rfl rfl (by exact .head _) rfl)) ?_
    refine sr rfl rfl rfl ((q_lss rfl rfl rfl)) (sr rfl rfl rfl ((q_and2 rfl rfl rfl)) (sr rfl rfl rfl ((q_move rfl rfl)) (sr rfl rfl rfl ((q_fieldAddr rfl rfl)) ?_)))
    refine sr rfl rfl rfl ((q_loadC rfl rfl (by exact .head _) rfl)) ?_
    refine sr rfl rfl rfl ((q_leq rfl rfl rfl)) (sr rfl rfl rfl ((q_and2 rfl rfl rfl)) (sr rfl rfl rfl ((q_move rfl rfl)) (sr rfl rfl rfl ((q_fieldAddr rfl rfl)) ?_)))
    refine sr rfl rfl rfl ((q_loadC rfl rfl (by exact .head _) rfl)) ?_
    refine sr rfl rfl rfl ((q_fieldAddr rfl rfl)) ?_
    refine sr rfl rfl rfl ((q_loadC rfl rfl (by exact .head _) rfl)) ?_
    refine sr rfl rfl rfl ((q_off (v := .slice none 0 0) (by simp only [AllT, List.mem_singleton, forall_eq]; simp [hg']))) ?_
    refine sw_step rfl rfl rfl (q_call (CanCall.mk Tryz.call73) rfl (.cons rfl inferInstance (.nil)) (fun _ w hw => callq (v := .bool (vectorsB [u.bl, u.el])) hw (by exfalso; rename_i hcc; simp [AllT, hg'] at hcc))) ?_
    refine sr rfl rfl rfl ((q_and2 rfl rfl rfl)) (sr rfl rfl rfl ((q_assign rfl rfl)) (sw_nil (post_then (cw_ret (post_ret1 rfl (resOk_tmp rfl) ?_)))))
    exact fun w' hw => ⟨by simp [hg'], (fun w h => Cl.sel (by exact .nil _) w h) _ hw⟩
end Go.Proofs.YtomjbfeafodfbaaGreat

/-
  Rows of laws for the layer of symbolic frames: what was handed in reads the same behind a call that left memory alone, whatever its shape; slices of integers laid open as lists. General lemmas, no program text.
-/
set_option autoImplicit false
namespace Go.Sx
open Go.ChangeShapes Go.WideShapes Go.ChangeAt Go.RowKit Go.WideElems
theorem trodAll_keep {H : Type} {enc : TypeId × Value → H} {P : Program} (hl : laidOutB P = true) {W W' : World} (hb : Below W.heap.size W W') (sp : Nat → Bool) :
    ∀ {ts : List TypeId} {vs : List Value} {ds : List (DataW H)} {ps : List MemPlace}, (∀ t ∈ ts, P.readableRec t = true ∧ t < P.types.size) → DataW.TrodAll enc P W 0 (fun _ => true) true ts vs ds ps →
      (∀ x ∈ ps, x.block < W.heap.size) → (∀ x ∈ ps, sp x.block = true) → DataW.TrodAll enc P W' 0 sp true ts vs ds ps
  | [], [], [], _, _, h, _, _ => h
  | t :: ts, v :: vs, d :: ds, ps, ht, ⟨p, q, ⟨n, h1⟩, h2, e⟩, hlt, hsp => by
    have ht0 := ht t (by simp)
    have hp : ∀ x ∈ p, x.block < W.heap.size := fun x hx => hlt x (by rw [e]; simp [hx])
    have hq : ∀ x ∈ q, x.block < W.heap.size := fun x hx => hlt x (by rw [e]; simp [hx])
    exact ⟨p, q, ⟨n, DataW.trod_stays (kids_book hl ht0.1) (book_sized ht0.1) (fun h => by cases h) ⟨ht0.2, book_self t⟩ h1 (fun x hx => hb.same (hp x hx)) (fun x hx => hsp x (by rw [e]; simp [hx]))⟩,
      trodAll_keep hl hb sp (fun t ht' => ht t (by simp [ht'])) h2 hq (fun x hx => hsp x (by rw [e]; simp [hx])), e⟩
theorem cell_lt {w : World} {a : Addr} {v : Value} (h : w.cell? a = some v) : a.block < w.heap.size := by
  cases hh : w.heap[a.block]? with
  | none => unfold World.cell? at h; simp [hh] at h
  | some o => exact (Array.getElem?_eq_some_iff.1 hh).1
/-- What reads as a list does so as long as old blocks stay. -/
theorem rd_stb {α : Type} [Enc α] {sv : Value} {l : List α} {w : World} (h : RdL sv l w) : Stb w [] (RdL sv l) := by
  obtain ⟨a, n, cap, h1, h2, h3, h4, h5⟩ := h
  refine ⟨fun w' k => ⟨a, n, cap, h1, h2, h3, h4, fun i x j v hx hv => ?_⟩⟩
  obtain ⟨b, hb, hc⟩ := h5 i x j v hx hv
  refine ⟨b, hb, ?_⟩
  rw [World.cell?_of_block (w := w) (k.block _ (cell_lt hc) (by simp)), hc]
theorem below_of {w w' : World} {H : List Asn} (h : Cl w [] H w') : RowKit.Below w.heap.size w w' := h.chg.below
/-- A slice of integers that came in. -/
theorem open_sl {H : Type} {enc : TypeId × Value → H} {P : Program} {W : World} {r : Reach} {b0 : Nat} {t e : TypeId} {v : Value} {d : DataW H} {ps : List MemPlace} (ht : P.underlying t = some (.slice e)) (he : P.underlying e = some (.int .i64)) (hc : P.cellsOf e = 1)
    (hval : Value.okWide P W r b0 t v) (hd : DataW.Trod enc P W 0 (fun _ => true) true t v d ps) : ∃ (s : SlV) (l : List Int), v = s.v ∧ Stb W [] (RdL s.v l) := by
  obtain ⟨a0, len, cap, rfl⟩ := okWide_slice ht hval
  obtain ⟨n, hn⟩ := hd
  rcases open_ints ht he hc hn with ⟨hcs, _⟩ | ⟨a, len', cap', zs, hcs, _, hl, hm, hz, _, hcell, _⟩
  · refine ⟨⟨a0, len, cap⟩, [], rfl, rd_stb ?_⟩
    simp [Value.cells] at hcs
    obtain ⟨rfl, rfl, rfl⟩ := hcs
    exact ⟨none, 0, 0, rfl, rfl, Nat.le_refl _, by simp [maxLen], fun i x j v hx => by simp at hx⟩
  · simp [Value.cells] at hcs
    obtain ⟨rfl, rfl, rfl⟩ := hcs
    refine ⟨⟨some a, len, cap⟩, zs.take len, rfl, rd_stb ⟨some a, len, cap, rfl, by simp; simp at hz; omega, hl, hm, fun i x j v hx hv => ⟨a, rfl, ?_⟩⟩⟩
    rw [List.getElem?_take] at hx
    split at hx
    · have hlt := (List.getElem?_eq_some_iff.1 hx).1
      have := hcell i hlt
      simp [List.getElem?_eq_getElem hlt] at hx
      have hj : j = 0 ∧ v = .int .i64 x := by
        cases j with
        | zero => simpa [Enc.enc, eq_comm] using hv
        | succ j => simp [Enc.enc] at hv
      obtain ⟨rfl, rfl⟩ := hj
      show W.cell? (a.add (i * 1 + 0)) = _
      rw [Nat.mul_one, Nat.add_zero, this]
      simp [List.getD, List.getElem?_eq_getElem hlt, hx]
    · simp at hx
end Go.Sx

set_option autoImplicit false
set_option maxRecDepth 100000
namespace Go.Proofs.YtomjbfeafodfbaaGreat
open Go.Sx
open Enc (enc val)
theorem blk_stb {b : Nat} {cells : List Value} {t : TypeId} {w : World} (h : BlkAt b cells t w) : Stb w [] (BlkAt b cells t) := by
  obtain ⟨bs, h1, h2⟩ := h
  exact ⟨fun w' k => ⟨bs, h1, (k.block b (Array.getElem?_eq_some_iff.1 h2).1 (by simp)).trans h2⟩⟩
theorem UnRd.of {w : World} {u : Un} (s1 : u.phone.size ≤ 140737488355328) (s2 : u.before.size ≤ 140737488355328) (s3 : u.after.size ≤ 140737488355328) (h1 : RdL u.bs.v u.bl w) (h2 : RdL u.es.v u.el w) : UnRd w u := ⟨s1, s2, s3, rd_stb h1, rd_stb h2⟩
/-- A list of units: it reads so, and so does each. -/
structure VoRd (w : World) (sp : SlV) (p : List Un) : Prop where
  l : Stb w [] (RdL sp.v p)
  u : ∀ u ∈ p, UnRd w u
theorem VoRd.arg {w0 w : World} {H : List Asn} {sp : SlV} {p : List Un} (hw : Cl w0 [] H w) (h : VoRd w0 sp p) : VoRd w sp p := ⟨stb_arg hw h.l, fun u hu => UnRd.arg hw (h.u u hu)⟩
theorem VoRd.stb {w : World} {sp : SlV} {p : List Un} (h : VoRd w sp p) : Stb w [] (fun w' => VoRd w' sp p) := ⟨fun w' k => h.arg (cl_of k)⟩
def eqB (p : List Un) : Bool := p.all fun u => decide (u.bl.length = (nth p 0).bl.length) && decide (u.el.length = (nth p 0).bl.length)
theorem equal1_spec (b : Nat) (sp : SlV) (p : List Un) : PredL Tryz.prog 127 #[.pointer (some ⟨b, 0, none⟩)] (fun u => !(decide (u.bl.length = (nth p 0).bl.length) && decide (u.el.length = (nth p 0).bl.length))) (fun w => BlkAt b [sp.v] 22 w ∧ VoRd w sp p) p := fun u hu w ⟨hR1, hR2⟩ => by
  have hb := blk_stb hR1
  have hl := hR2.l
  have hp : 0 < p.length := List.length_pos_iff.2 (List.ne_nil_of_mem hu)
  have h0 := (hR2.u (nth p 0) (by rw [nth_get hp]; exact List.getElem_mem hp)).b
  have h1 := (hR2.u u hu).b
  have h2 := (hR2.u u hu).e
  refine calls_cw (vs := [_, _]) Tryz.func127 rfl Tryz.ntmps127 rfl (Cl.start0 w) (cw_seq (cw_region ?_))
  refine sw_x rfl rfl rfl (e_box rfl rfl rfl) (fun b2 => ?_)
  refine sr rfl rfl rfl ((q_assign rfl rfl)) (sw_nil (post_then (cw_seq ?_)))
  refine cw_region_q mixed_Tryz (by kernel_rfl) ?_
  refine qr rfl rfl rfl ((q_fieldAddr rfl rfl)) ?_
  refine qr rfl rfl rfl ((q_loadC rfl rfl (by exact .head _) rfl)) ?_
  refine qr rfl rfl rfl ((q_len rfl (.cons rfl inferInstance (.nil)) (by exact fun w hw => Stb.cl (by assumption) hw))) ?_
  refine qr rfl rfl rfl ((q_loadS rfl rfl (fun w hw => Stb.cl (by assumption) hw) rfl)) ?_
  refine qr rfl rfl rfl ((q_indexN rfl rfl rfl (by exact fun w hw => Stb.cl (by assumption) hw) (by intro hc; omega))) ?_
  refine qr rfl rfl rfl ((q_fieldEl rfl rfl (by exact fun w hw => Stb.cl (by assumption) hw) (by intro hc; omega))) ?_
  refine qr rfl rfl rfl ((q_loadF rfl rfl rfl (by exact fun w hw => Stb.cl (by assumption) hw) (by intro hc; omega) rfl)) ?_
  refine qr rfl rfl rfl ((q_len rfl (.cons rfl inferInstance (.nil)) (by exact fun w hw => Stb.cl (by assumption) hw))) ?_
  refine qr rfl rfl rfl ((q_neq rfl rfl rfl)) (qr rfl rfl rfl ((q_move rfl rfl)) (qr rfl rfl rfl ((q_fieldAddr rfl rfl)) ?_))
  refine qr rfl rfl rfl ((q_loadC rfl rfl (by exact .head _) rfl)) ?_
  refine qr rfl rfl rfl ((q_len rfl (.cons rfl inferInstance (.nil)) (by exact fun w hw => Stb.cl (by assumption) hw))) ?_
  refine qr rfl rfl rfl ((q_loadS rfl rfl (fun w hw => Stb.cl (by assumption) hw) rfl)) ?_
  refine qr rfl rfl rfl ((q_indexN rfl rfl rfl (by exact fun w hw => Stb.cl (by assumption) hw) (by intro hc; omega))) ?_
  refine qr rfl rfl rfl ((q_fieldEl rfl rfl (by exact fun w hw => Stb.cl (by assumption) hw) (by intro hc; omega))) ?_
  refine qr rfl rfl rfl ((q_loadF rfl rfl rfl (by exact fun w hw => Stb.cl (by assumption) hw) (by intro hc; omega) rfl)) ?_
  refine qr rfl rfl rfl ((q_len rfl (.cons rfl inferInstance (.nil)) (by exact fun w hw => Stb.cl (by assumption) hw))) ?_
  refine qr rfl rfl rfl ((q_neq rfl rfl rfl)) (qr rfl rfl rfl ((q_or2 rfl rfl rfl)) (qr rfl rfl rfl ((q_assign rfl rfl)) (qw_end (post_then (cw_ret (post_ret1 rfl (resOk_tmp rfl) ?_))))))
  refine fun w' hw => ⟨?_, (fun w h => Cl.sel (by exact .nil _) w h) _ hw⟩
  by_cases e1 : u.bl.length = (nth p 0).bl.length <;> by_cases e2 : u.el.length = (nth p 0).bl.length <;> simp [e1, e2] <;> omega
theorem equal_spec (sp : SlV) (p : List Un) (w : World) (hp : VoRd w sp p) : Calls Tryz.prog 93 #[sp.v] w fun e w' => e = .returned (.bool (eqB p)) ∧ Cl w [] [] w' := by
  have hl := hp.l
  refine calls_cw (vs := [_]) Tryz.func93 rfl Tryz.ntmps93 rfl (Cl.start0 w) (cw_seq (cw_region ?_))
  refine sw_x rfl rfl rfl (e_box rfl rfl rfl) (fun b1 => ?_)
  refine sr rfl rfl rfl ((q_assign rfl rfl)) (sw_nil (post_then (cw_seq (cw_region ?_))))
  refine sr rfl rfl rfl ((q_loadC rfl rfl (by exact .head _) rfl)) ?_
  refine sr rfl rfl rfl ((q_func_l rfl (.cons rfl inferInstance (.nil)))) ?_
  refine sw_step rfl rfl rfl (q_call (CanCall.mk Tryz.call123) rfl (.cons rfl inferInstance (.cons rfl inferInstance (.nil))) (fun _ w hw => callq hw (containsUn_spec _ _ _ _ _ _ w (by exact stb_arg hw (by assumption)) ⟨fun w' k => ⟨(blk_stb (stb_blk hw (by exact .head _)).here).stb w' k, ((hp.arg hw).stb).stb w' k⟩⟩ (CanCall.mk Tryz.call127) (equal1_spec b1 sp p)))) ?_
  refine sr rfl rfl rfl ((q_not rfl rfl)) (sr rfl rfl rfl ((q_assign rfl rfl)) (sw_nil (post_then (cw_ret (post_ret1 rfl (resOk_tmp rfl) ?_)))))
  refine fun w' hw => ⟨?_, (fun w h => Cl.sel (by exact .nil _) w h) _ hw⟩
  rw [List.not_any_eq_all_not]
  simp [eqB]
theorem voice1_spec (sp : SlV) (p : List Un) : PredL Tryz.prog 124 #[] (fun u => !unB u) (fun w => VoRd w sp p) p := fun u hu w hR => by
  have h1 := hR.u u hu
  refine calls_cw (vs := [_]) Tryz.func124 rfl Tryz.ntmps124 rfl (Cl.start0 w) (cw_seq (cw_region ?_))
  refine sw_x rfl rfl rfl (e_box rfl rfl rfl) (fun b1 => ?_)
  refine sr rfl rfl rfl ((q_assign rfl rfl)) (sw_nil (post_then (cw_seq (cw_region ?_))))
  refine sr rfl rfl rfl ((q_loadA rfl rfl (by exact .head _) rfl)) ?_
  refine sw_step rfl rfl rfl (q_call (CanCall.mk Tryz.call87) rfl (.cons rfl inferInstance (.nil)) (fun _ w hw => callq hw (right_spec _ w (UnRd.arg hw h1)))) (sr rfl rfl rfl ((q_not rfl rfl)) (sr rfl rfl rfl ((q_assign rfl rfl)) (sw_nil (post_then (cw_ret (post_ret1 rfl (resOk_tmp rfl) ?_))))))
  exact fun w' hw => ⟨rfl, (fun w h => Cl.sel (by exact .nil _) w h) _ hw⟩
def voiceB (p : List Un) : Bool := p.all unB && eqB p && decide (1 ≤ p.length)
def voiceE (p : List Un) : Int := if 2000 < p.length then 4 else if voiceB p then 0 else 2
theorem voice_spec (sp : SlV) (p : List Un) (w : World) (hp : VoRd w sp p) : Calls Tryz.prog 86 #[sp.v] w fun e w' => e = .returned (.int .i64 (voiceE p)) ∧ Cl w [] [] w' := by
  have hl := hp.l
  have hL := rd_len hl.here
  refine calls_cw (vs := [_]) Tryz.func86 rfl Tryz.ntmps86 rfl (Cl.start0 w) (cw_seq (cw_region (sr rfl rfl rfl ((q_assign rfl rfl)) (sw_nil (post_then (cw_seq (cw_seq (cw_region (sr rfl rfl rfl ((q_move rfl rfl)) ?_)))))))))
  refine sr rfl rfl rfl ((q_len rfl (.cons rfl inferInstance (.nil)) (by exact fun w hw => Stb.cl (by assumption) hw))) ?_
  refine sr rfl rfl rfl ((q_gtr rfl rfl rfl)) (sw_nil (post_then ?_))
  refine cw_cond rfl (fun h => ?_) (fun h => ?_)
  · skip
    have h1 : 2000 < p.length := by simp only [decide_eq_true_eq] at h; omega
    refine cw_seq (cw_region (sr rfl rfl rfl ((q_assign rfl rfl)) (sw_nil (post_then (cw_ret (post_then_r (post_ret1 rfl (resOk_tmp rfl) ?_)))))))
    exact fun w' hw => ⟨by rw [voiceE, if_pos h1], hw⟩
  · skip
    have h1 : ¬ 2000 < p.length := by simp only [decide_eq_false_iff_not] at h; omega
    refine cw_skip (post_then (cw_seq (cw_seq (cw_region (sr rfl rfl rfl ((q_move rfl rfl)) ?_)))))
    refine sr rfl rfl rfl ((q_len rfl (.cons rfl inferInstance (.nil)) (by exact fun w hw => Stb.cl (by assumption) hw))) ?_
    refine sr rfl rfl rfl ((q_eql rfl rfl rfl)) (sr rfl rfl rfl ((q_move rfl rfl)) (sr rfl rfl rfl ((q_move rfl rfl)) ?_))
    refine sw_step rfl rfl rfl (q_call (CanCall.mk Tryz.call123) rfl (.cons rfl inferInstance (.cons rfl inferInstance (.nil))) (fun _ w hw => callq hw (containsUn_spec _ _ _ _ _ _ w (by exact stb_arg hw (by assumption)) ((hp.arg hw).stb) (CanCall.mk Tryz.call124) (voice1_spec sp p)))) ?_
    refine sr rfl rfl rfl ((q_or2 rfl rfl rfl)) (sr rfl rfl rfl ((q_move rfl rfl)) (sr rfl rfl rfl ((q_move rfl rfl)) (sw_step rfl rfl rfl (q_call (CanCall.mk Tryz.call93) rfl (.cons rfl inferInstance (.nil)) (fun _ w hw => callq hw (equal_spec sp p w (hp.arg hw)))) (sr rfl rfl rfl ((q_not rfl rfl)) (sr rfl rfl rfl ((q_or2 rfl rfl rfl)) (sw_nil (post_then ?_)))))))
    have ha : (p.any fun u => !unB u) = !p.all unB := by rw [List.not_all_eq_any_not]
    refine cw_cond rfl (fun h2 => ?_) (fun h2 => ?_)
    · skip
      have h3 : voiceB p = false := by
        rw [ha] at h2
        simp only [Bool.or_eq_true, decide_eq_true_eq] at h2
        rcases h2 with (h2 | h2) | h2
        · have : p.length = 0 := by omega
          simp [voiceB, this]
        · simp only [Bool.not_eq_true'] at h2; simp [voiceB, h2]
        · simp only [Bool.not_eq_true'] at h2; simp [voiceB, h2]
      refine cw_seq (cw_region (sr rfl rfl rfl ((q_assign rfl rfl)) (sw_nil (post_then (cw_ret (post_then_r (post_ret1 rfl (resOk_tmp rfl) ?_)))))))
      exact fun w' hw => ⟨by rw [voiceE, if_neg h1, h3]; rfl, hw⟩
    · skip
      have h3 : voiceB p = true := by
        rw [ha] at h2
        simp only [Bool.or_eq_false_iff, decide_eq_false_iff_not, Bool.not_eq_false'] at h2
        simp [voiceB, h2]; omega
      refine cw_skip (post_then (cw_seq (cw_region (sr rfl rfl rfl ((q_assign rfl rfl)) (sw_nil (post_then (cw_ret (post_ret1 rfl (resOk_tmp rfl) ?_))))))))
      exact fun w' hw => ⟨by rw [voiceE, if_neg h1, h3]; rfl, hw⟩
theorem valid_spec (sp : SlV) (p : List Un) (w : World) (hp : VoRd w sp p) : Calls Tryz.prog 44 #[sp.v] w fun e w' => e = .returned (.bool (decide (voiceE p = 0))) ∧ Cl w [] [] w' := by
  refine calls_cw (vs := [_]) Tryz.func44 rfl Tryz.ntmps44 rfl (Cl.start0 w) (cw_seq (cw_region (sr rfl rfl rfl ((q_assign rfl rfl)) (sw_nil (post_then (cw_seq (cw_region (sr rfl rfl rfl ((q_move rfl rfl)) (sw_step rfl rfl rfl (q_call (CanCall.mk Tryz.call86) rfl (.cons rfl inferInstance (.nil)) (fun _ w hw => callq hw (voice_spec sp p w (hp.arg hw)))) (sr rfl rfl rfl ((q_eql rfl rfl rfl)) (sr rfl rfl rfl ((q_assign rfl rfl)) (sw_nil (post_then (cw_ret (post_ret1 rfl (resOk_tmp rfl) ?_)))))))))))))))
  exact fun w' hw => ⟨rfl, hw⟩
theorem refUnit_spec (u : Un) (w : World) (hu : UnRd w u) : Calls Tryz.prog 46 #[val u] w fun e w' => e = .returned (.bool (unB u)) ∧ Cl w [] [] w' := by
  cases h : unG u
  · exact refUnit_no u w hu h
  · exact refUnit_yes u w hu h
theorem refVoice_spec (sp : SlV) (p : List Un) (w : World) (hp : VoRd w sp p) : Calls Tryz.prog 28 #[sp.v] w fun e w' => e = .returned (.bool (voiceB p)) ∧ Cl w [] [] w' := by
  have hl := hp.l
  have hL := rd_len hl.here
  refine calls_cw (vs := [_]) Tryz.func28 rfl Tryz.ntmps28 rfl (Cl.start0 w) (cw_seq (cw_region (sr rfl rfl rfl ((q_assign rfl rfl)) (sw_nil (post_then (cw_seq (cw_seq (cw_region (sr rfl rfl rfl ((q_assign rfl rfl)) (sw_nil (post_then (cw_block ?_))))))))))))
  refine cw_loop (S := Nat) (fun k => [(0, [], sp.v), (3, [], .int .i64 k)]) (fun _ => Cl w [] []) (fun k => k ≤ p.length ∧ ∀ j, j < k → unB (nth p j) = true ∧ (nth p j).bl.length = (nth p 0).bl.length) (fun k => p.length - k) 0 ⟨Nat.zero_le _, fun j hj => by omega⟩ (by exact .cons rfl (.cons rfl .nil)) (fun _ h => h) ?_
  rintro k ⟨hk, hbe⟩
  refine cw_seq (cw_seq (cw_region (sr rfl rfl rfl ((q_move rfl rfl)) (sr rfl rfl rfl ((q_move rfl rfl)) ?_))))
  refine sr rfl rfl rfl ((q_len rfl (.cons rfl inferInstance (.nil)) (by exact fun w hw => Stb.cl (by assumption) hw))) ?_
  refine sr rfl rfl rfl ((q_lss rfl rfl rfl)) (sw_nil (post_then ?_))
  refine cw_cond rfl (fun h => ?_) (fun h => ?_)
  · skip
    have hk' : k < p.length := by simp only [decide_eq_true_eq] at h; omega
    have hm : nth p k ∈ p := by rw [nth_get hk']; exact List.getElem_mem hk'
    have hrk := (hp.u _ hm).b
    have hr0 := (hp.u (nth p 0) (by rw [nth_get (by omega)]; exact List.getElem_mem (by omega))).b
    refine cw_skip (post_then (cw_seq (cw_block (cw_seq ?_))))
    refine cw_region_q mixed_Tryz (by kernel_rfl) ?_
    refine qr rfl rfl rfl ((q_move rfl rfl)) (qr rfl rfl rfl ((q_move rfl rfl)) ?_)
    refine qr rfl rfl rfl ((q_indexN rfl rfl rfl (by exact fun w hw => Stb.cl (by assumption) hw) (by intro hc; omega))) ?_
    refine qr rfl rfl rfl ((q_loadEl rfl rfl rfl (by exact fun w hw => Stb.cl (by assumption) hw) (by intro hc; omega))) ?_
    refine qw_step rfl rfl rfl (q_call (CanCall.mk Tryz.call46) rfl (.cons rfl inferInstance (.nil)) (fun _ w hw => callq hw (refUnit_spec _ w (UnRd.arg hw (hp.u _ hm))))) (qr rfl rfl rfl ((q_not rfl rfl)) (qr rfl rfl rfl ((q_move rfl rfl)) (qr rfl rfl rfl ((q_move rfl rfl)) (qr rfl rfl rfl ((q_move rfl rfl)) ?_))))
    refine qr rfl rfl rfl ((q_indexN rfl rfl rfl (by exact fun w hw => Stb.cl (by assumption) hw) (by intro hc; omega))) ?_
    refine qr rfl rfl rfl ((q_fieldEl rfl rfl (by exact fun w hw => Stb.cl (by assumption) hw) (by intro hc; omega))) ?_
    refine qr rfl rfl rfl ((q_loadF rfl rfl rfl (by exact fun w hw => Stb.cl (by assumption) hw) (by intro hc; omega) rfl)) ?_
    refine qr rfl rfl rfl ((q_len rfl (.cons rfl inferInstance (.nil)) (by exact fun w hw => Stb.cl (by assumption) hw))) ?_
    refine qr rfl rfl rfl ((q_move rfl rfl)) ?_
    refine qr rfl rfl rfl ((q_indexN rfl rfl rfl (by exact fun w hw => Stb.cl (by assumption) hw) (by intro hc; (simp only [List.length_set, List.length_append, List.length_cons, List.length_nil, List.length_replicate, List.length_take, List.length_drop, List.length_map]; omega)))) ?_
    refine qr rfl rfl rfl ((q_fieldEl rfl rfl (by exact fun w hw => Stb.cl (by assumption) hw) (by intro hc; (simp only [List.length_set, List.length_append, List.length_cons, List.length_nil, List.length_replicate, List.length_take, List.length_drop, List.length_map]; omega)))) ?_
    refine qr rfl rfl rfl ((q_loadF rfl rfl rfl (by exact fun w hw => Stb.cl (by assumption) hw) (by intro hc; (simp only [List.length_set, List.length_append, List.length_cons, List.length_nil, List.length_replicate, List.length_take, List.length_drop, List.length_map]; omega)) rfl)) ?_
    refine qr rfl rfl rfl ((q_len rfl (.cons rfl inferInstance (.nil)) (by exact fun w hw => Stb.cl (by assumption) hw))) ?_
    refine qr rfl rfl rfl ((q_neq rfl rfl rfl)) (qr rfl rfl rfl ((q_or2 rfl rfl rfl)) (qw_end (post_then ?_)))
    refine cw_cond rfl (fun h2 => ?_) (fun h2 => ?_)
    · skip
      have h3 : voiceB p = false := by
        by_cases h4 : unB (nth p k) = true
        · have h5 : ¬ (nth p k).bl.length = (nth p 0).bl.length := by
            intro h6; simp [h4, h6] at h2
          have h7 : eqB p = false := List.all_eq_false.2 ⟨_, hm, by simp [h5]⟩
          simp [voiceB, h7]
        · have h7 : p.all unB = false := List.all_eq_false.2 ⟨_, hm, h4⟩
          simp [voiceB, h7]
      refine cw_seq (cw_region (sr rfl rfl rfl ((q_assign rfl rfl)) (sw_nil (post_then (cw_ret (post_blk_r (post_then_r (post_then_r (post_blk_r (post_then_r (post_ret1 rfl (resOk_tmp rfl) ?_)))))))))))
      exact fun w' hw => ⟨by rw [h3], hw⟩
    · skip
      have h3 : unB (nth p k) = true ∧ (nth p k).bl.length = (nth p 0).bl.length := by
        simp only [Bool.or_eq_false_iff, Bool.not_eq_false', decide_eq_true_eq] at h2
        exact ⟨h2.1, by omega⟩
      refine cw_skip (post_blk (post_then (cw_region (sr rfl rfl rfl ((q_move rfl rfl)) ?_))))
      refine sr rfl rfl rfl ((q_add rfl rfl rfl (by intro hc; omega))) ?_
      refine sr rfl rfl rfl ((q_assign rfl rfl)) (sw_nil ?_)
      refine post_next (k + 1) (by exact .cons rfl (.cons rfl .nil)) (fun _ h => h) ⟨by omega, fun j hj => ?_⟩ (by omega)
      by_cases hjk : j = k
      · rw [hjk]; exact h3
      · exact hbe j (by omega)
  · skip
    have hk' : k = p.length := by simp only [decide_eq_false_iff_not] at h; omega
    subst hk'
    refine cw_exit (post_then_x (post_then_x (post_blk_eq (post_then (cw_seq (cw_region (sr rfl rfl rfl ((q_move rfl rfl)) ?_)))))))
    refine sr rfl rfl rfl ((q_len rfl (.cons rfl inferInstance (.nil)) (by exact fun w hw => Stb.cl (by assumption) hw))) ?_
    refine sr rfl rfl rfl ((q_geq rfl rfl rfl)) (sr rfl rfl rfl ((q_assign rfl rfl)) (sw_nil (post_then (cw_ret (post_ret1 rfl (resOk_tmp rfl) ?_)))))
    refine fun w' hw => ⟨?_, hw⟩
    have h4 : p.all unB = true := List.all_eq_true.2 fun x hx => by
      obtain ⟨i, hi, rfl⟩ := List.getElem_of_mem hx
      have := (hbe i hi).1
      rw [nth_get hi] at this; exact this
    have h5 : eqB p = true := List.all_eq_true.2 fun x hx => by
      have e1 := (un_ok (List.all_eq_true.1 h4 x hx)).be
      obtain ⟨i, hi, rfl⟩ := List.getElem_of_mem hx
      have := (hbe i hi).2
      rw [nth_get hi] at this
      simp; omega
    simp only [voiceB, h4, h5, Bool.true_and]
    rw [show decide ((1 : Int) ≤ (p.length : Nat)) = decide (1 ≤ p.length) from decide_eq_decide.2 (by omega)]
end Go.Proofs.YtomjbfeafodfbaaGreat

/- Two effects that may come in either order; a cut of a slice by its length alone. -/
set_option autoImplicit false
namespace Go.Sx
open Go
variable {P : Program} {ops : Array Oper} {C : World → Prop} {n : Fr} {E : Env} {Q : Exit → Act → World → Prop} {cs : List Bool} {o : Oper}
/-- Operation i is the one that comes now. -/
def AWat (P : Program) (ops : Array Oper) (Q : Exit → Act → World → Prop) (S : World → Prop) (m : List Nat) (f : Nat) (listed : Array Bool) (i : Nat) (n : Fr) (E : Env) (C : World → Prop) : Prop :=
  ∀ a w, Sat n E a → C w → wpOp P ops Q i (fun a' w' => (m.contains i = false → S w → S w') ∧ AnyS P ops Q S m f (listed.setIfInBounds i true) a' w') a w
theorem aw_two {S : World → Prop} {m : List Nat} {f : Nat} {listed : Array Bool} (i j : Nat) (hr : Region.ready .any ops listed = [i, j]) (h1 : AWat P ops Q S m f listed i n E C) (h2 : AWat P ops Q S m f listed j n E C) : AW P ops Q S m (f + 1) listed n E C := by
  intro a w ha hw
  refine ⟨fun h0 => (by rw [hr] at h0; cases h0), fun k hk => ?_⟩
  rw [hr] at hk
  simp only [List.mem_cons, List.not_mem_nil, or_false] at hk
  rcases hk with rfl | rfl
  · exact h1 a w ha hw
  · exact h2 a w ha hw
theorem at_one {S : World → Prop} {m : List Nat} {f : Nat} {listed : Array Bool} (i : Nat) {o : Oper} {d : Nat} {R : Value → World → Prop} (hi : ops[i]? = some o) (hg : o.guard = none) (hd : o.dst = some d) (hn : Nat.ble (d + 1) n.sz = true)
    (hop : OpE P n E C o R) (hS : m.contains i = false → ∀ v w, R v w → S w) (h : ∀ v, AW P ops Q S m f (listed.setIfInBounds i true) n ((d, [], v) :: E) (R v)) : AWat P ops Q S m f listed i n E C := by
  intro a w ha hw
  unfold wpOp
  simp only [hi]
  rw [if_pos (by simp [Region.wanted, hg])]
  refine .inl ((hop a w ha hw).wp fun v w' hR => ⟨fun him _ => hS him v w' hR, ?_⟩)
  have := h v _ w' (ha.put (cs := []) (v := v) (Nat.le_of_ble_eq_true hn)) hR
  rw [hd]; exact this
theorem at_x {S : World → Prop} {m : List Nat} {f : Nat} {listed : Array Bool} {α : Type} {vf : α → Value} {C' : α → World → Prop} (i : Nat) {o : Oper} {d : Nat} (hi : ops[i]? = some o) (hg : o.guard = none) (hd : o.dst = some d) (hn : Nat.ble (d + 1) n.sz = true)
    (hop : OpE P n E C o (fun v w' => ∃ x, v = vf x ∧ C' x w')) (hS : m.contains i = false → ∀ x w, C' x w → S w) (h : ∀ x, AW P ops Q S m f (listed.setIfInBounds i true) n ((d, [], vf x) :: E) (C' x)) : AWat P ops Q S m f listed i n E C :=
  at_one i hi hg hd hn hop (fun hb v w ⟨x, _, hx⟩ => hS hb x w hx) fun _ => aw_ex fun x => aw_imp fun hv => by subst hv; exact h x
theorem q_slicePH {t e : TypeId} {sz : Nat} {x z : Operand} {cx cz : List Bool} {s : SlV} {m : Nat} {b : Int} (ho : o.op = .slice t x none (some z) none) (hx : evl E x = some (cx, s.v)) (hz : evl E z = some (cz, .int .i64 b))
    [sx : Sub cx cs] [sz' : Sub cz cs] [ht : SlT P t e] [hs : SzT P e sz] (hl : s.len = m ∧ s.len ≤ s.cap ∧ s.cap ≤ maxLen) (h : AllT cs → 0 ≤ b ∧ b ≤ m) : OpR P n E C cs o (s.sub sz 0 b.toNat).v :=
  .of_run fun e he hc w hw => by
    obtain ⟨h1, h3⟩ := h hc
    obtain ⟨l1, l2, l3⟩ := hl
    unfold execOp; simp only [ho]
    have e1 := he.eval hx sx hc
    have e3 := he.eval hz sz' hc
    have := run_slice_of (P := P) (t := t) (s := s) (w := w) (a := 0) (b := b.toNat) (lo := none) (hi := some (.int .i64 b)) (by
      have f1 := run_sliceBound (P := P) (w := w) .i64 b s.cap .sliceAcap (by omega) (by omega)
      simp [Instr.sliceBounds, f1, Result.andThen])
    simp [e1, e3, this, Result.andThen]
theorem q_slicePL {t e : TypeId} {sz : Nat} {x y : Operand} {cx cy : List Bool} {s : SlV} {m : Nat} {a : Int} (ho : o.op = .slice t x (some y) none none) (hx : evl E x = some (cx, s.v)) (hy : evl E y = some (cy, .int .i64 a))
    [sx : Sub cx cs] [sy : Sub cy cs] [ht : SlT P t e] [hs : SzT P e sz] (hl : s.len = m ∧ s.len ≤ s.cap ∧ s.cap ≤ maxLen) (h : AllT cs → 0 ≤ a ∧ a ≤ m) : OpR P n E C cs o (s.sub sz a.toNat m).v :=
  .of_run fun e he hc w hw => by
    obtain ⟨h1, h3⟩ := h hc
    obtain ⟨l1, l2, l3⟩ := hl
    unfold execOp; simp only [ho]
    have e1 := he.eval hx sx hc
    have e2 := he.eval hy sy hc
    have := run_slice_of (P := P) (t := t) (s := s) (w := w) (a := a.toNat) (b := m) (lo := some (.int .i64 a)) (hi := none) (by
      have f2 := run_sliceBound (P := P) (w := w) .i64 a m .sliceB (by omega) (by omega)
      simp [Instr.sliceBounds, l1, f2, Result.andThen])
    simp [e1, e2, this, Result.andThen]
end Go.Sx

/- Interfaces: values put in, asserted, methods called. General lemmas, no program text. -/
set_option autoImplicit false
namespace Go.Sx
open Enc (enc val)
section
variable {P : Program} {n : Fr} {E : Env} {C : World → Prop} {cs : List Bool} {o : Oper}
theorem q_iface {t : TypeId} {d : TypeDesc} {x : Operand} {cx : List Bool} {v : Value} (ho : o.op = .makeInterface t x) (hx : evl E x = some (cx, v)) [hs : Sub cx cs] (hd : P.underlying t = some d) (hi : (match d with | .interface _ => false | _ => true) = true) : OpR P n E C cs o (.iface t v) :=
  .of_run fun a ha hc w _ => by
    unfold execOp; simp only [ho]; rw [ha.eval hx hs hc]
    simp only [Instr.makeInterface, Sem.run_bind, run_underlying hd, Result.andThen_ok, Sem.run_pure]
    cases d <;> first | rfl | cases hi
theorem q_assert {t xt : TypeId} {d : TypeDesc} {x : Operand} {cx : List Bool} {v : Value} (ho : o.op = .typeAssert x xt t false) (hx : evl E x = some (cx, .iface t v)) [hs : Sub cx cs] (hd : P.underlying t = some d) (hi : (match d with | .interface _ => false | _ => true) = true) : OpR P n E C cs o v :=
  .of_run fun a ha hc w _ => by
    unfold execOp; simp only [ho]; rw [ha.eval hx hs hc]
    simp only [Instr.typeAssert, Sem.run_bind, run_underlying hd, Result.andThen_ok]
    cases d <;> first | (simp [Result.andThen]; done) | cases hi
theorem q_neqPNil {t t' : TypeId} {x : Operand} {cx : List Bool} {p : Option Addr} (ho : o.op = .binOp .neq t x (.const (.pointer none)) t') (hx : evl E x = some (cx, .pointer p)) [sx : Sub cx cs] (ht : P.underlying t = some (.pointer (P.pointee t))) : OpR P n E C cs o (.bool p.isSome) :=
  fun a ha hc => bin_run (C := C) (y := .const (.pointer none)) ho hx rfl sx inferInstance (eqGuard_at_pointer ..) (fun w => by rw [run_neq_pointer_nil w t p ht]; cases p <;> rfl) a ha hc
theorem q_eqlPNil {t t' : TypeId} {x : Operand} {cx : List Bool} {p : Option Addr} (ho : o.op = .binOp .eql t x (.const (.pointer none)) t') (hx : evl E x = some (cx, .pointer p)) [sx : Sub cx cs] (ht : P.underlying t = some (.pointer (P.pointee t))) : OpR P n E C cs o (.bool p.isNone) :=
  fun a ha hc => bin_run (C := C) (y := .const (.pointer none)) ho hx rfl sx inferInstance (eqGuard_at_pointer ..) (fun w => by rw [run_eql_pointer_nil w t p ht]) a ha hc
/-- What a method call on a dynamic value of type t enters, and with which receiver. -/
def Meth (P : Program) (t : TypeId) (x : Value) (nm : String) (f : FuncId) (r : Value) (w : World) : Prop := (method (P.types.size + Made.depth) t x nm).run P w = .ok (f, r) w
theorem meth_ptr {t e : TypeId} {ti : TypeInfo} {nm : String} {f : FuncId} (hti : ∀ w, (typeInfo t).run P w = .ok ti w) (h : (ti.methods.find? (·.name == nm)).map (fun m => (m.path, m.func)) = some (#[], some (f, true))) (ht : P.underlying t = some (.pointer e)) (hk : Nat.ble 1 (P.types.size + Made.depth) = true)
    (a : Option Addr) (w : World) : Meth P t (.pointer a) nm f (.pointer a) w := by
  obtain ⟨m, hm, hm2⟩ := Option.map_eq_some_iff.1 h
  simp only [Prod.mk.injEq] at hm2
  have h1 := Nat.le_of_ble_eq_true hk
  unfold Meth
  rw [show P.types.size + Made.depth = (P.types.size + Made.depth - 1) + 1 by omega]
  unfold method
  simp [hti, hm, hm2.1, hm2.2, follow, receiverAt, Place.get, run_underlying ht, Result.andThen]
theorem meth_val {t e : TypeId} {ti : TypeInfo} {nm : String} {f : FuncId} (hti : ∀ w, (typeInfo t).run P w = .ok ti w) (h : (ti.methods.find? (·.name == nm)).map (fun m => (m.path, m.func)) = some (#[], some (f, false))) (ht : P.underlying t = some (.pointer e)) (hk : Nat.ble 1 (P.types.size + Made.depth) = true) [hc : CellT P e]
    {b : Nat} {sv : Value} {t' : TypeId} {w : World} (hb : BlkAt b [sv] t' w) : Meth P t (.pointer (some ⟨b, 0, none⟩)) nm f sv w := by
  obtain ⟨m, hm, hm2⟩ := Option.map_eq_some_iff.1 h
  simp only [Prod.mk.injEq] at hm2
  obtain ⟨bs, hbs⟩ := hb
  have hcell := blk.cell hbs 0
  have h1 := Nat.le_of_ble_eq_true hk
  unfold Meth
  rw [show P.types.size + Made.depth = (P.types.size + Made.depth - 1) + 1 by omega]
  unfold method
  have hwr : ∀ (u : String), Builtin.ssaWrapNilChk_ #[t] t #[.pointer (some ⟨b, 0, none⟩), strVal "", strVal u] = pure (.pointer (some ⟨b, 0, none⟩)) := fun _ => rfl
  simp [hti, hm, hm2.1, hm2.2, follow, receiverAt, Place.get, run_underlying ht, Result.andThen, hwr, asAddr, loadVar, hc.agg w, run_load, hcell]
/-- A method call that returns one value whatever the world of the class. -/
theorem q_inv {f : FuncId} {t : TypeId} {x r : Value} {nm : String} {y : Operand} {cy : List Bool} {l : List Operand} {ts : Array TypeId} {vs : List Value} {v : Value} (hf : CanCall P f) (ho : o.op = .call { callee := .invoke y nm, args := l.toArray, argTypes := ts })
    (hy : evl E y = some (cy, .iface t x)) [hs : Sub cy cs] (hv : Evs E cs l vs) (hm : ∀ w, C w → Meth P t x nm f r w) (h : AllT cs → ∀ w, C w → Calls P f (r :: vs).toArray w fun e w' => e = .returned v ∧ C w') : OpQ P n E C cs o v := by
  intro a ha hc w hw
  unfold Oper.quietAt execOp
  have hm' := hm w hw
  unfold Meth at hm'
  have e2 : (#[r] ++ vs.toArray : Array Value) = (r :: vs).toArray := by simp
  simp only [ho]
  simp only [resolve, ha.eval hy hs hc, invoke, List.map_toArray, hv.eval ha hc, Sem.run_bind, Sem.run_pure, Result.andThen_ok]
  simp [callMethod, Array.extract_append, hm', hf.run, Result.andThen]
  exact ⟨rfl, h hc w hw⟩
end
section
variable {P : Program} {n : Fr} {E : Env} {cs : List Bool} {o : Oper} {w0 : World} {fp : List Nat} {H : List Asn}
/-- One that works on blocks of ours. -/
theorem e_invH {α : Type} {vf : α → Value} {p : α → Prop} {A F : List Asn} {B : α → List Asn} {f : FuncId} {t : TypeId} {x r : Value} {nm : String} {y : Operand} {cy : List Bool} {l : List Operand} {ts : Array TypeId} {vs : List Value}
    (hf : CanCall P f) (ho : o.op = .call { callee := .invoke y nm, args := l.toArray, argTypes := ts }) (hy : evl E y = some (cy, .iface t x)) [hs : Sub cy []] (hv : Evs E [] l vs) (hm : ∀ w, Cl w0 fp H w → Meth P t x nm f r w) (hp : H.Perm (A ++ F))
    (h : ∀ w bs, Sep A w bs → bs.Nodup → (∀ b ∈ bs, b < w.heap.size) → (∀ R, Stb w0 fp R → Stb w bs R) → (∀ G ∈ F, ∃ b2, Stb w bs fun w' => G.holds w' b2) → Calls P f (r :: vs).toArray w fun e w' => ∃ x, e = .returned (vf x) ∧ p x ∧ Cl w bs (B x) w') :
    OpE P n E (Cl w0 fp H) o (fun v w' => ∃ x, v = vf x ∧ p x ∧ Cl w0 fp (B x ++ F) w') := by
  intro a w ha hw
  have hm' := hm w hw
  unfold Meth at hm'
  refine OpE.of_call (C := fun w' => w' = w) (f := f) (args := (r :: vs).toArray) (fun a w' ha hw' => ?_) (fun w' hw' => ?_) a w ha rfl
  · subst hw'
    unfold execOp; simp only [ho]
    simp only [resolve, ha.eval hy hs AllT.nil, invoke, List.map_toArray, hv.eval ha AllT.nil, Sem.run_bind, Sem.run_pure, Result.andThen_ok]
    simp [callMethod, hm', hf.run, Result.andThen]
  · subst hw'
    obtain ⟨bs, h1, h2, h3, h4, h5, h6⟩ := (hw.perm hp).split
    exact (h w' bs h1 h2 h3 h4 h5).mono fun e w' ⟨x, he, hpx, hc⟩ => ⟨_, he, x, rfl, hpx, h6 _ _ hc⟩
end
end Go.Sx

/-
  A slice that grows while a part of it is read through another name. General lemmas, no program text.
-/
set_option autoImplicit false
namespace Go.Sx
open Enc (enc val)
theorem append_alias {P : Program} {α : Type} [Enc α] {w : World} {t e ty : TypeId} {sz bytes : Nat} {z : List Value} {s : SlV} {sw : Value} {l r : List α} {bs : List Nat} [ht : SlT P t e] [hi : InfoT P e sz bytes z] (hsz : sz = Enc.sz α)
    (hown : (ownL e s.v l).holds w bs) (hrd : RdL sw r w) (hb : (l.length + r.length) * bytes ≤ 140737488355328) (hb1 : 1 ≤ bytes) :
    ∃ (v : SlV) (w' : World), (Builtin.append_ #[t, t] ty #[s.v, sw]).run P w = .ok v.v w' ∧ ((Cl w bs [ownL e v.v (l ++ r)] w' ∧ v.addr = s.addr ∧ v.cap = s.cap) ∨ Cl w [] [ownL e v.v (l ++ r)] w') := by
  obtain ⟨sa, sn, sc⟩ := s
  simp only [SlV.v] at hown ⊢
  obtain ⟨i, z0, h1, h2, h3, h4, h5, h6⟩ := hi.info
  obtain ⟨ad, m, c, rfl, hm, hmc, hcm, hcell⟩ := hrd
  subst hsz hm
  have hp := Enc.pos (α := α)
  have hnews : ∀ (a : Addr), ad = some a → ∀ j u, (r.flatMap enc)[j]? = some u → w.cell? (a.add j) = some u := by
    intro a ha j u hu
    obtain ⟨x, hx, hu'⟩ := flat_inv r j u hu
    obtain ⟨b, hb', hc⟩ := hcell _ x _ u hx hu'
    rw [ha] at hb'; cases hb'
    rw [Nat.mul_comm, Nat.div_add_mod] at hc
    exact hc
  have hsmall : l.length + r.length ≤ 140737488355328 := Nat.le_trans (Nat.le_mul_of_pos_right _ hb1) hb
  have hzc : z0.cells.size = Enc.sz α := by rw [h5]; simpa using h6
  have grown : ∀ (old : Nat), Cl w [] [ownL e (.slice (some ⟨w.heap.size, 0, none⟩) (l.length + r.length) (grownCap w (l.length + r.length) old e)) (l ++ r)]
      (w.drew.alloc (.cells ((l.flatMap enc).toArray ++ (r.flatMap enc).toArray ++ Builtin.zeroCells z0.cells (grownCap w (l.length + r.length) old e - (l.length + r.length))) e)) := by
    intro old
    have hge := grownCap_ge w (l.length + r.length) old e
    have hle := grownCap_le_maxLen w (l.length + r.length) old e (by simp only [maxLen]; omega)
    have := cl_own_new (e := e) (l := l ++ r) (cap := grownCap w (l.length + r.length) old e)
      (cur := (l.flatMap enc).toArray ++ (r.flatMap enc).toArray ++ Builtin.zeroCells z0.cells (grownCap w (l.length + r.length) old e - (l.length + r.length))) w.drew (by simpa using hge) hle
      (by simp only [Array.size_append, List.size_toArray, flat_len, size_zeroCells, hzc, ← Nat.add_mul]; congr 1; omega)
      (by
        simp only [Array.toList_append, List.flatMap_append]
        rw [List.toList_toArray, List.toList_toArray, List.take_left' (by rw [List.length_append, flat_len, flat_len, List.length_append, Nat.add_mul])])
    rw [List.length_append] at this
    exact this.drew_start
  by_cases hr0 : r = []
  · -- nothing is appended
    subst hr0
    rcases hown with ⟨hsv, hl, rfl⟩ | ⟨b, n', sc, cur, hsv, rfl, g3, g4, g5, g6, g7, g8⟩ <;> cases hsv
    · have hl0 : l = [] := by
        have := flat_len l
        rw [hl] at this
        rcases Nat.mul_eq_zero.1 this.symm with h | h
        · exact List.eq_nil_of_length_eq_zero h
        · omega
      subst hl0
      refine ⟨⟨none, 0, 0⟩, w, ?_, .inl ⟨⟨Chg.refl _ _, [], ⟨[], [], rfl, .inl ⟨rfl, rfl, rfl⟩, rfl⟩, by simp, by simp⟩, rfl, rfl⟩⟩
      simp [SlV.v, Builtin.append_, run_underlying ht.und, sizeOf, typeInfo, h1, Builtin.lenOf, Builtin.firstCells, loadCells, loadCellsFrom]
      cases ad <;> simp [Builtin.firstCells, loadCells, loadCellsFrom]
    · have hn' : sn = l.length := by
        rw [flat_len] at g7; exact (Nat.eq_of_mul_eq_mul_right hp g7).symm
      subst hn'
      refine ⟨⟨some ⟨b, 0, none⟩, l.length, sc⟩, w, ?_, .inl ⟨⟨Chg.refl _ _, [b], ⟨[b], [], rfl, .inr ⟨b, l.length, sc, cur, rfl, rfl, g3, g4, g5, g6, by simpa using g7, by simpa using g8⟩, rfl⟩, by simp, fun k hk => ?_⟩, rfl, rfl⟩⟩
      · simp [SlV.v, Builtin.append_, run_underlying ht.und, sizeOf, typeInfo, h1, Builtin.lenOf, Builtin.firstCells, loadCells, loadCellsFrom, g4]
        cases ad <;> simp [Builtin.firstCells, loadCells, loadCellsFrom, storeCells]
      · simp at hk; subst hk
        exact ⟨.inl (by simp), (Array.getElem?_eq_some_iff.1 g3).1⟩
  · have hpos : 0 < r.length := List.length_pos_iff.2 hr0
    have hex : ∃ a, ad = some a := by
      have hj : 0 < (enc r[0]).length := by rw [Enc.len]; exact hp
      obtain ⟨b, hb', _⟩ := hcell 0 r[0] 0 _ (List.getElem?_eq_getElem hpos) (List.getElem?_eq_getElem hj)
      exact ⟨b, hb'⟩
    obtain ⟨a, rfl⟩ := hex
    have hn := hnews a rfl
    rcases hown with ⟨hsv, hl, rfl⟩ | ⟨b, n', sc, cur, hsv, rfl, g3, g4, g5, g6, g7, g8⟩ <;> cases hsv
    · have hl0 : l = [] := by
        have := flat_len l
        rw [hl] at this
        rcases Nat.mul_eq_zero.1 this.symm with h | h
        · exact List.eq_nil_of_length_eq_zero h
        · omega
      subst hl0
      have hr := run_append_nil (P := P) w t ty e i z0 ht.und h1 h4 a r.length c (r.flatMap enc) (by rw [flat_len, h2]) hn hpos (by simp at hsmall; omega) (by rw [h3]; simp at hb; omega)
      have hg := grown 0
      simp only [List.length_nil, Nat.zero_add, List.flatMap_nil, List.nil_append] at hg
      refine ⟨⟨some ⟨w.heap.size, 0, none⟩, r.length, grownCap w r.length 0 e⟩, _, hr, .inr ?_⟩
      simp only [List.nil_append]
      rw [Array.empty_append] at hg
      exact hg
    · have hn' : sn = l.length := by
        rw [flat_len] at g7; exact (Nat.eq_of_mul_eq_mul_right hp g7).symm
      subst hn'
      by_cases hroom : l.length + r.length ≤ sc
      · have hfit : l.length * i.size + (r.flatMap enc).length ≤ cur.size := by
          rw [flat_len, h2, g6, ← Nat.add_mul]; exact Nat.mul_le_mul_right _ hroom
        have hr := run_append_room (P := P) w t ty e i ht.und h1 b l.length sc cur g3 a r.length c (r.flatMap enc) (by rw [flat_len, h2]) hn (flat_one r) hroom hfit
        refine ⟨⟨_, _, _⟩, _, hr, .inl ⟨cl_setRow g3 fun w' h' => .inr ⟨b, _, sc, _, rfl, rfl, h', hroom, g5, ?_, ?_, ?_⟩, rfl, rfl⟩⟩
        · simp only [List.size_toArray, List.length_append, List.length_take, List.length_drop, Array.length_toList]; omega
        · rw [flat_len, List.length_append]
        · rw [h2, g8, List.flatMap_append, Nat.add_mul]
          rw [List.take_left']
          rw [List.length_append, flat_len, flat_len]
      · have holds : ∀ j u, (l.flatMap enc)[j]? = some u → w.cell? ((⟨b, 0, none⟩ : Addr).add j) = some u := by
          intro j u hu
          rw [addr_add, Nat.zero_add, cell_at g3]
          rw [← g8, List.getElem?_take] at hu
          split at hu
          · simpa using hu
          · simp at hu
        have hr := run_append_grow (P := P) w t ty e i z0 ht.und h1 h4 ⟨b, 0, none⟩ l.length sc (l.flatMap enc) (by rw [flat_len, h2]) holds a r.length c (r.flatMap enc) (by rw [flat_len, h2]) hn (by omega) (by omega) (growslice_fits (by omega) (by rw [h3]; exact hb))
        exact ⟨⟨_, _, _⟩, _, hr, .inr (grown sc)⟩
section
variable {α : Type} [Enc α] {e : TypeId}
/-- The call's own slice s that reads as l, and what it was: s0, which reads as l0. -/
def keepA (e : TypeId) (s : SlV) (l : List α) (s0 : SlV) (l0 : List α) : Asn :=
  ⟨fun w bs => (s.addr = s0.addr ∧ s.cap = s0.cap ∧ l0 <+: l ∧ s0.len = l0.length ∧ (ownL e s.v l).holds w bs) ∨ ∃ b1 b2, bs = b1 ++ b2 ∧ (ownL e s.v l).holds w b1 ∧ (ownL e s0.v l0).holds w b2,
   fun w w' bs h hk => by
    rcases h with ⟨h1, h2, h3, h4, h5⟩ | ⟨b1, b2, rfl, h1, h2⟩
    · exact .inl ⟨h1, h2, h3, h4, (ownL e s.v l).loc _ _ _ h5 hk⟩
    · exact .inr ⟨b1, b2, rfl, (ownL e s.v l).loc _ _ _ h1 fun b hb => hk b (by simp [hb]), (ownL e s0.v l0).loc _ _ _ h2 fun b hb => hk b (by simp [hb])⟩⟩
variable {s : SlV} {l : List α} {s0 : SlV} {l0 : List α} {w0 w : World} {fp : List Nat} {H F : List Asn}
theorem keep_cases (h : Cl w0 fp ([keepA e s l s0 l0] ++ F) w) : (s.addr = s0.addr ∧ s.cap = s0.cap ∧ l0 <+: l ∧ s0.len = l0.length ∧ Cl w0 fp ([ownL e s.v l] ++ F) w) ∨ Cl w0 fp ([ownL e s.v l] ++ ([ownL e s0.v l0] ++ F)) w := by
  obtain ⟨hc, bs, ⟨b1, b2, rfl, h1, h2⟩, hn, hb⟩ := h
  rcases h1 with ⟨g1, g2, g3, g4, g5⟩ | ⟨c1, c2, rfl, g1, g2⟩
  · exact .inl ⟨g1, g2, g3, g4, hc, _, ⟨b1, b2, rfl, g5, h2⟩, hn, hb⟩
  · exact .inr ⟨hc, _, ⟨c1, c2 ++ b2, by simp, g1, c2, b2, rfl, g2, h2⟩, hn, hb⟩
theorem keep_same (h1 : s.addr = s0.addr) (h2 : s.cap = s0.cap) (h3 : l0 <+: l) (h4 : s0.len = l0.length) (h : Cl w0 fp ([ownL e s.v l] ++ F) w) : Cl w0 fp ([keepA e s l s0 l0] ++ F) w := by
  obtain ⟨hc, bs, ⟨b1, b2, rfl, g1, g2⟩, hn, hb⟩ := h
  exact ⟨hc, _, ⟨b1, b2, rfl, .inl ⟨h1, h2, h3, h4, g1⟩, g2⟩, hn, hb⟩
theorem keep_other (h : Cl w0 fp ([ownL e s.v l] ++ ([ownL e s0.v l0] ++ F)) w) : Cl w0 fp ([keepA e s l s0 l0] ++ F) w := by
  obtain ⟨hc, bs, ⟨b1, b2, rfl, g1, c1, c2, rfl, g2, g3⟩, hn, hb⟩ := h
  exact ⟨hc, _, ⟨b1 ++ c1, c2, by simp, .inr ⟨b1, c1, rfl, g1, g2⟩, g3⟩, hn, hb⟩
theorem keep_start (hl : s.len = l.length) (h : Cl w0 fp (ownL e s.v l :: H) w) : Cl w0 fp (keepA e s l s l :: H) w := keep_same rfl rfl (List.prefix_refl _) hl h
theorem keep_end (h : Cl w0 fp (keepA e s l s0 l0 :: H) w) : Cl w0 fp (ownL e s.v l :: H) w := by
  rcases keep_cases h with ⟨_, _, _, _, h⟩ | h
  · exact h
  · exact (Cl.perm (.swap _ _ _) h).tail
theorem keep_rd0 (h : Cl w0 fp H w) (hm : keepA e s l s0 l0 ∈ H) : RdL s0.v l0 w := by
  obtain ⟨bs, h⟩ := h.get hm
  rcases h with ⟨h1, h2, h3, h4, h5⟩ | ⟨b1, b2, rfl, h1, h2⟩
  · obtain ⟨ad, n, cap, e1, g1, g2, g3, g4⟩ := ownL.rd h5
    simp only [SlV.v, Value.slice.injEq] at e1
    obtain ⟨e1, e2, e3⟩ := e1
    have hlen := h3.length_le
    refine ⟨s0.addr, s0.len, s0.cap, rfl, h4.symm, by omega, by omega, fun i x j v hx hv => ?_⟩
    rw [← h1, e1]
    refine g4 i x j v ?_ hv
    obtain ⟨r, rfl⟩ := h3
    rw [List.getElem?_append_left (List.getElem?_eq_some_iff.1 hx).1, hx]
  · exact ownL.rd h2
theorem keep_rd (h : Cl w0 fp H w) (hm : keepA e s l s0 l0 ∈ H) : RdL s.v l w := by
  obtain ⟨bs, h⟩ := h.get hm
  rcases h with ⟨h1, h2, h3, h4, h5⟩ | ⟨b1, b2, rfl, h1, h2⟩
  · exact ownL.rd h5
  · exact ownL.rd h1
theorem own_prefix {bs : List Nat} (h1 : s.addr = s0.addr) (h2 : s.cap = s0.cap) (h3 : l0 <+: l) (h4 : s0.len = l0.length) (h : (ownL e s.v l).holds w bs) : (ownL e s0.v l0).holds w bs := by
  obtain ⟨sa, sn, sc⟩ := s
  obtain ⟨ta, tn, tc⟩ := s0
  obtain ⟨r, rfl⟩ := h3
  simp only at h1 h2 h4
  subst h1 h2 h4
  simp only [SlV.v] at h ⊢
  have hp := Enc.pos (α := α)
  rcases h with ⟨hsv, hl, rfl⟩ | ⟨b, n', cap, cur, hsv, rfl, g3, g4, g5, g6, g7, g8⟩ <;> cases hsv
  · have h0 : l0 = [] := by
      rw [List.flatMap_append, List.append_eq_nil_iff] at hl
      have := flat_len l0
      rw [hl.1] at this
      rcases Nat.mul_eq_zero.1 this.symm with h | h
      · exact List.eq_nil_of_length_eq_zero h
      · omega
    subst h0
    exact .inl ⟨rfl, rfl, rfl⟩
  · have hn : sn = l0.length + r.length := by
      rw [flat_len, List.length_append] at g7; exact (Nat.eq_of_mul_eq_mul_right hp g7).symm
    subst hn
    refine .inr ⟨b, _, sc, cur, rfl, rfl, g3, by omega, g5, g6, by rw [flat_len], ?_⟩
    have : (cur.toList.take ((l0.length + r.length) * Enc.sz α)).take (l0.length * Enc.sz α) = ((l0 ++ r).flatMap enc).take (l0.length * Enc.sz α) := by rw [g8]
    rw [List.take_take, Nat.min_eq_left (Nat.mul_le_mul_right _ (by omega)), List.flatMap_append, List.take_left' (by rw [flat_len])] at this
    exact this
/-- The full slice: s[:n:n], n its length. -/
def SlV.cut (s : SlV) (n : Nat) : SlV := ⟨s.addr, n, n⟩
theorem rd_cut (h : RdL s0.v l0 w) : RdL (s0.cut l0.length).v l0 w := by
  obtain ⟨ad, n, cap, e, g1, g2, g3, g4⟩ := h
  simp only [SlV.v, Value.slice.injEq] at e
  obtain ⟨rfl, rfl, rfl⟩ := e
  exact ⟨s0.addr, l0.length, l0.length, rfl, rfl, Nat.le_refl _, by omega, g4⟩
end
section
variable {α : Type} [Enc α] {P : Program} {ops : Array Oper} {n : Fr} {E : Env} {C : World → Prop} {cs : List Bool} {o : Oper} {w0 : World} {fp : List Nat} {H : List Asn}
theorem e_appendK {t e : TypeId} {sz bytes : Nat} {z : List Value} {ops' : List Operand} {s s0 : SlV} {sw : Value} {l l0 r : List α} {i : Nat} (ho : o.op = .call { callee := .builtin .append, args := ops'.toArray, argTypes := #[t, t] }) (hv : Evs E [] ops' [s.v, sw])
    [ht : SlT P t e] [hi : InfoT P e sz bytes z] (hsz : sz = Enc.sz α) (hi' : nthA H i = some (keepA e s l s0 l0)) (hrd : ∀ w, Cl w0 fp H w → RdL sw r w) (hb : (l.length + r.length) * bytes ≤ 140737488355328) (hb1 : Nat.ble 1 bytes = true) :
    OpE P n E (Cl w0 fp H) o (fun u w' => ∃ s' : SlV, u = s'.v ∧ Cl w0 fp (setA H i (keepA e s' (l ++ r) s0 l0)) w') :=
  .of_run fun a w ha hw => by
    have key : ∃ (v : SlV) (w' : World), (Builtin.append_ #[t, t] o.type #[s.v, sw]).run P w = .ok v.v w' ∧ Cl w0 fp ([keepA e v (l ++ r) s0 l0] ++ delA H i) w' := by
      rcases keep_cases (hw.focus hi') with ⟨g1, g2, g3, g4, g5⟩ | g
      · obtain ⟨bs, ⟨b1, b2, rfl, hown, rfl⟩, k2, k3, _, _, h6⟩ := g5.split
        simp only [List.append_nil] at h6 k2 k3
        obtain ⟨v, w', hr, hc⟩ := append_alias (P := P) (ty := o.type) (t := t) hsz hown (hrd w hw) hb (Nat.le_of_ble_eq_true hb1)
        refine ⟨v, w', hr, ?_⟩
        rcases hc with ⟨hc, k1, k2⟩ | hc
        · exact keep_same (k1.trans g1) (k2.trans g2) (g3.trans (List.prefix_append _ _)) g4 (h6 _ _ hc)
        · have := g5.split0.2.2 _ _ hc
          obtain ⟨q1, bs, ⟨b1, b2, rfl, q2, c1, c2, rfl, q3, q4⟩, q5, q6⟩ := this
          exact keep_other ⟨q1, _, ⟨b1, c1 ++ c2, rfl, q2, c1, c2, rfl, own_prefix g1 g2 g3 g4 q3, q4⟩, q5, q6⟩
      · obtain ⟨bs, ⟨b1, b2, rfl, hown, rfl⟩, _, _, _, _, h6⟩ := g.split
        simp only [List.append_nil] at h6
        obtain ⟨v, w', hr, hc⟩ := append_core (P := P) (ty := o.type) (t := t) hsz hown (hrd w hw) hb (Nat.le_of_ble_eq_true hb1)
        exact ⟨v, w', hr, keep_other (h6 _ _ hc)⟩
    obtain ⟨v, w', hr, hc⟩ := key
    refine ⟨v.v, w', ?_, v, rfl, hc.set hi'⟩
    unfold execOp; simp only [ho]
    simp only [resolve, invoke, List.map_toArray, hv.eval ha AllT.nil, Sem.run_bind, Sem.run_pure, Result.andThen_ok]
    simp [builtin, hr]
theorem run_slice_cut {t e : TypeId} {sz : Nat} [ht : SlT P t e] [hz : SzT P e sz] {s : SlV} {w : World} {b : Nat} {hi : Option Value} (hb : (Instr.sliceBounds true s.len s.cap none hi hi).run P w = .ok (0, b, b) w) :
    (Instr.sliceAt t s.v none hi hi).run P w = .ok (s.cut b).v w := by
  have e1 := run_underlying (P := P) (w := w) ht.und
  have e2 : ∀ a : Addr, a.add 0 = a := fun a => by simp [Addr.add]
  simp [Instr.sliceAt, Instr.slice, e1, hb, hz.sz, Result.andThen, SlV.v, SlV.cut, e2]
theorem q_sliceF {t e : TypeId} {sz : Nat} {x y z : Operand} {cx cy cz : List Bool} {s : SlV} {l : List α} {b : Int} (ho : o.op = .slice t x none (some y) (some z)) (hx : evl E x = some (cx, s.v)) (hy : evl E y = some (cy, .int .i64 b)) (hz : evl E z = some (cz, .int .i64 b))
    [sx : Sub cx cs] [sy : Sub cy cs] [sz' : Sub cz cs] [ht : SlT P t e] [hs : SzT P e sz] (hrd : ∀ w, C w → RdL s.v l w) (h : AllT cs → b = l.length) : OpR P n E C cs o (s.cut l.length).v :=
  .of_run fun e he hc w hw => by
    obtain ⟨l1, l2, l3⟩ := rd_lens (hrd w hw)
    have h1 := h hc
    unfold execOp; simp only [ho]
    have e1 := he.eval hx sx hc
    have e2 := he.eval hy sy hc
    have e3 := he.eval hz sz' hc
    have := run_slice_cut (P := P) (t := t) (s := s) (w := w) (b := b.toNat) (hi := some (.int .i64 b)) (by
      have f1 := run_sliceBound (P := P) (w := w) .i64 b s.cap .slice3Acap (by omega) (by omega)
      have f2 := run_sliceBound (P := P) (w := w) .i64 b b.toNat .slice3B (by omega) (by omega)
      simp [Instr.sliceBounds, f1, f2, Result.andThen])
    rw [show b.toNat = l.length by omega] at this
    simp [e1, e2, e3, this, Result.andThen]
end
end Go.Sx
