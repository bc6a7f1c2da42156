/-
  A layer of symbolic frames over the walk's rules: a frame is known by an association list of its temporaries, memory by a class of worlds. General lemmas, no program text.
-/
import Derived.WalkKit
import Derived.Deep.QuietTactic
import Derived.BigQuiet
import Derived.WalkSpells
import Derived.WalkLawsBesides
import Derived.OrdersHeld
import Derived.OwnWalkIn
import Derived.RangeFuncSeq
import Derived.RangeFuncCalls
set_option autoImplicit false
set_option linter.unusedSimpArgs false
set_option linter.unusedVariables false
namespace Go.Sx

/-! ### 1. Frames -/
abbrev Env := List (Nat × List Bool × Value)

def look : Env → Nat → Option (List Bool × Value)
  | [], _ => none
  | (k, cv) :: E, t => match Nat.beq k t with
    | true => some cv
    | false => look E t

def AllT (cs : List Bool) : Prop := ∀ b, b ∈ cs → b = true
def gval (cs : List Bool) (v : Value) : Value := if cs.all id then v else undef

theorem AllT.iff {cs : List Bool} : AllT cs ↔ cs.all id = true := by simp [AllT, List.all_eq_true]
theorem AllT.nil : AllT [] := by simp [AllT]
theorem gval_of {cs : List Bool} {v : Value} (h : AllT cs) : gval cs v = v := by simp [gval, AllT.iff.1 h]
theorem gval_nil (v : Value) : gval [] v = v := rfl

/-- The frame's shape: its temporaries, its deferred marks, the round that it is of. -/
structure Fr where
  sz : Nat
  D : List Deferred
  ro : Option Nat
abbrev Fw (r : Option Nat) : Fence := { fn := fun _ => True, depth := none, alive := false, round := r }

structure Sat (n : Fr) (E : Env) (a : Act) : Prop where
  defers : a.defers = n.D
  size : a.tmps.size = n.sz
  has : ∀ t cs v, look E t = some (cs, v) → a.tmps[t]? = some (gval cs v)

def evl (E : Env) : Operand → Option (List Bool × Value)
  | .tmp t => look E t
  | .const v => some ([], v)
  | .global g => some ([], .pointer (some ⟨g, 0, none⟩))
  | .func f => some ([], .func (.func f) #[] #[])

class Sub (a b : List Bool) : Prop where
  sub : AllT b → AllT a
instance Sub.nil (b : List Bool) : Sub [] b := ⟨fun _ => AllT.nil⟩
instance Sub.rfl (b : List Bool) : Sub b b := ⟨id⟩
instance Sub.tcons (a b : List Bool) [h : Sub a b] : Sub (true :: a) b := ⟨fun hb x hx => by
  rcases List.mem_cons.1 hx with rfl | hx
  · rfl
  · exact h.sub hb x hx⟩
instance Sub.cons (a b : List Bool) (c : Bool) [h : Sub a b] : Sub a (c :: b) := ⟨fun hb => h.sub fun x hx => hb x (List.mem_cons_of_mem _ hx)⟩

theorem Sat.eval {n : Fr} {E : Env} {a : Act} (h : Sat n E a) {x : Operand} {cx cs : List Bool} {v : Value} (hx : evl E x = some (cx, v)) (hs : Sub cx cs) (hc : AllT cs) : a.eval x = v := by
  cases x with
  | tmp t =>
    have := h.has t cx v hx
    rw [gval_of (hs.sub hc)] at this
    simp [Act.eval, Array.getD_eq_getD_getElem?, this]
  | const u => simp [evl] at hx; simp [Act.eval, hx.2]
  | global g => simp [evl] at hx; simp [Act.eval, hx.2]
  | func f => simp [evl] at hx; simp [Act.eval, hx.2]

theorem Sat.put {n : Fr} {E : Env} {a : Act} (h : Sat n E a) {d : Nat} {cs : List Bool} {v : Value} (hd : d < n.sz) : Sat n ((d, cs, v) :: E) (a.put (some d) (gval cs v)) := by
  refine ⟨h.defers, by simp [Act.put, h.size], fun t cs' v' ht => ?_⟩
  simp only [look] at ht
  simp only [Act.put, Array.getElem?_setIfInBounds, h.size]
  cases hb : Nat.beq d t with
  | true =>
    rw [hb] at ht
    have : d = t := Nat.eq_of_beq_eq_true hb
    simp only [Option.some.injEq, Prod.mk.injEq] at ht
    obtain ⟨rfl, rfl⟩ := ht
    simp [this] at hd ⊢; exact hd
  | false =>
    rw [hb] at ht
    have : d ≠ t := Nat.ne_of_beq_eq_false hb
    simp [this, h.has t cs' v' ht]

theorem Sat.nodst {n : Fr} {E : Env} {a : Act} (h : Sat n E a) (v : Value) : Sat n E (a.put none v) := h

/-- E' says no more than E. -/
structure Le (E E' : Env) : Prop where
  le : ∀ t cv, look E' t = some cv → look E t = some cv
theorem Le.nil {E : Env} : Le E [] := ⟨fun _ _ h => by simp [look] at h⟩
theorem Le.cons {E E' : Env} {t : Nat} {cv : List Bool × Value} (h : look E t = some cv) (hr : Le E E') : Le E ((t, cv) :: E') := by
  refine ⟨fun u cu hu => ?_⟩
  simp only [look] at hu
  cases hb : Nat.beq t u with
  | true => rw [hb] at hu; have : t = u := Nat.eq_of_beq_eq_true hb; subst this; rw [h]; exact hu
  | false => rw [hb] at hu; exact hr.le u cu hu
theorem Le.cons' {E E' : Env} {t : Nat} {cs : List Bool} {v v' : Value} (h : look E t = some (cs, v)) (hv : v = v') (hr : Le E E') : Le E ((t, cs, v') :: E') := Le.cons (by rw [h, hv]) hr
/-- A guarded temporary whose guards hold. -/
theorem Sat.le {n : Fr} {E E' : Env} {a : Act} (h : Sat n E a) (l : Le E E') : Sat n E' a := ⟨h.defers, h.size, fun t cs v ht => h.has t cs v (l.le t _ ht)⟩

/-! ### 2. Guards -/
def gof (ops : Array Oper) (E : Env) : Option (Nat × Bool) → Option (List Bool)
  | none => some []
  | some (j, want) => match (ops[j]?).bind (·.dst) with
    | some d => match look E d with
      | some (cs, .bool b) => match want with
        | true => some (b :: cs)
        | false => some ((!b) :: cs)
      | _ => none
    | none => none

theorem gof_spec {ops : Array Oper} {E : Env} {n : Fr} {a : Act} {o : Oper} {cs : List Bool} (h : Sat n E a) (hg : gof ops E o.guard = some cs) :
    (AllT cs → Region.wanted o (yielded ops a.tmps) = true) ∧ (¬ AllT cs → Region.wanted o (yielded ops a.tmps) = false) := by
  unfold gof at hg
  unfold Region.wanted
  split at hg
  · rename_i hn
    simp only [Option.some.injEq] at hg; subst hg
    simp [hn, AllT.nil]
  · rename_i j want hn
    simp only [hn]
    split at hg
    · rename_i d hd
      split at hg
      · rename_i cs' b hl
        have ht := h.has d cs' (.bool b) hl
        simp only [yielded, hd, Option.bind_some, ht]
        by_cases hc : cs'.all id = true
        · simp only [gval, hc, if_true]
          cases want <;> simp only [Option.some.injEq] at hg <;> subst hg <;> simp [AllT.iff, hc] <;> cases b <;> simp_all
        · have : gval cs' (.bool b) = undef := by simp [gval, hc]
          rw [this]
          have hna : ¬ AllT cs' := fun h => hc (AllT.iff.1 h)
          have hcs : ¬ AllT cs := by
            intro hall
            apply hna
            cases want <;> simp only [Option.some.injEq] at hg <;> subst hg <;> exact fun x hx => hall x (List.mem_cons_of_mem _ hx)
          refine ⟨fun h => absurd h hcs, fun _ => ?_⟩
          simp [undef]
      · simp at hg
    · simp at hg

/-! ### 3. Quiet operations -/
/-- The operation yields v in every world of the class, where its guards hold. -/
def OpQ (P : Program) (n : Fr) (E : Env) (C : World → Prop) (cs : List Bool) (o : Oper) (v : Value) : Prop :=
  ∀ a, Sat n E a → AllT cs → ∀ w, C w → o.quietAt P a C w v

/-- A plain operation: it only computes, or reads. -/
def OpR (P : Program) (n : Fr) (E : Env) (C : World → Prop) (cs : List Bool) (o : Oper) (v : Value) : Prop :=
  ∀ a, Sat n E a → AllT cs → ∀ w, C w → (execOp a.eval o).run P w = .ok (.value v) w
theorem OpR.of_run {P : Program} {n : Fr} {E : Env} {C : World → Prop} {cs : List Bool} {o : Oper} {v : Value}
    (h : ∀ a, Sat n E a → AllT cs → ∀ w, C w → (execOp a.eval o).run P w = .ok (.value v) w) : OpR P n E C cs o v := h
theorem OpQ.of_run {P : Program} {n : Fr} {E : Env} {C : World → Prop} {cs : List Bool} {o : Oper} {v : Value}
    (h : ∀ a, Sat n E a → AllT cs → ∀ w, C w → (execOp a.eval o).run P w = .ok (.value v) w) : OpQ P n E C cs o v := fun a ha hc w hw => by
  unfold Oper.quietAt
  rw [h a ha hc w hw]
  exact ⟨rfl, rfl⟩

theorem OpR.q {P : Program} {n : Fr} {E : Env} {C : World → Prop} {cs : List Bool} {o : Oper} {v : Value} (h : OpR P n E C cs o v) : OpQ P n E C cs o v := .of_run h

def QW (P : Program) (ops : Array Oper) (C : World → Prop) (K : Act → Prop) (l : List Oper) (n : Fr) (E : Env) : Prop := ∀ a, Sat n E a → wpQuiet P ops C K l a

def SW (P : Program) (ops : Array Oper) (Q : Exit → Act → World → Prop) (l : List Oper) (n : Fr) (E : Env) (C : World → Prop) : Prop := ∀ a w, Sat n E a → C w → wpListIn (Fw n.ro) 0 P ops Q l a w

def CW (P : Program) (c : Code) (Q : Exit → Act → World → Prop) (n : Fr) (E : Env) (C : World → Prop) : Prop := ∀ a w, Sat n E a → C w → c.wpIn (Fw n.ro) 0 P Q a w

/-- What is left once control leaves by e. -/
def Post (n : Fr) (E : Env) (C : World → Prop) (Q : Exit → Act → World → Prop) (e : Exit) : Prop := ∀ a w, Sat n E a → C w → Q e a w

section
variable {P : Program} {ops : Array Oper} {C : World → Prop} {n : Fr} {E : Env} {Q : Exit → Act → World → Prop} {K : Act → Prop}

theorem gval_not {cs : List Bool} {v : Value} (h : ¬ AllT cs) : gval cs v = undef := by
  have : cs.all id ≠ true := fun h' => h (AllT.iff.2 h')
  simp [gval, this]

theorem qw_step {o : Oper} {rest : List Oper} {d : Nat} {cs : List Bool} {v : Value} (hg : gof ops E o.guard = some cs) (hd : o.dst = some d) (hn : Nat.ble (d + 1) n.sz = true)
    (hop : OpQ P n E C cs o v) (h : QW P ops C K rest n ((d, cs, v) :: E)) : QW P ops C K (o :: rest) n E := by
  intro a ha
  have hw := gof_spec ha hg
  have hdn : d < n.sz := Nat.le_of_ble_eq_true hn
  unfold wpQuiet
  by_cases hc : AllT cs
  · rw [if_pos (hw.1 hc)]
    refine ⟨v, fun w hCw => hop a ha hc w hCw, ?_⟩
    have := h _ (ha.put (cs := cs) (v := v) hdn)
    rw [gval_of hc] at this
    rw [hd]; exact this
  · rw [if_neg (by rw [hw.2 hc]; simp)]
    have := h _ (ha.put (cs := cs) (v := v) hdn)
    rw [gval_not hc] at this
    rw [hd]; exact this

theorem qw_nil (h : ∀ a, Sat n E a → K a) : QW P ops C K [] n E := fun a ha => h a ha

/-- What one operation comes to: a value, nothing, or a call; R of the value and the world behind it. -/
def EffRun (P : Program) (o : Oper) (a : Act) (w : World) (R : Value → World → Prop) : Prop :=
  (∃ v w', (execOp a.eval o).run P w = .ok (.value v) w' ∧ R v w') ∨ (∃ w', (execOp a.eval o).run P w = .ok .skip w' ∧ R undef w') ∨
  (∃ f args, (execOp a.eval o).run P w = .ok (.enter f args) w ∧ Calls P f args w fun e w' => ∃ v, e = .returned v ∧ R v w')
theorem EffRun.wp {o : Oper} {a : Act} {w : World} {R : Value → World → Prop} {K : Act → World → Prop} (h : EffRun P o a w R) (hK : ∀ v w', R v w' → K (a.put o.dst v) w') : o.wp P a w K Q := by
  unfold Oper.wp
  rcases h with ⟨v, w', hr, hR⟩ | ⟨w', hr, hR⟩ | ⟨f, args, hr, hc⟩
  · rw [hr]; exact hK v w' hR
  · rw [hr]; exact hK undef w' hR
  · rw [hr]
    refine hc.mono ?_
    rintro e w' ⟨v, rfl, hR⟩
    exact hK v w' hR
theorem EffRun.mono {o : Oper} {a : Act} {w : World} {R R' : Value → World → Prop} (h : EffRun P o a w R) (hR : ∀ v w', R v w' → R' v w') : EffRun P o a w R' :=
  h.imp (fun ⟨v, w', h1, h2⟩ => ⟨v, w', h1, hR _ _ h2⟩) (Or.imp (fun ⟨w', h1, h2⟩ => ⟨w', h1, hR _ _ h2⟩) fun ⟨f, args, h1, h2⟩ => ⟨f, args, h1, h2.mono fun _ w' ⟨v, he, h3⟩ => ⟨v, he, hR _ _ h3⟩⟩)
theorem EffRun.noDefer {o : Oper} {a : Act} {w : World} {R : Value → World → Prop} (h : EffRun P o a w R) (c : Call) : o.op ≠ .defer c := by
  intro ho
  have hx : execOp a.eval o = (do pure (Next.defer (← resolve a.eval c o.type))) := by unfold execOp; rw [ho]
  rcases h with ⟨v, w', hr, _⟩ | ⟨w', hr, _⟩ | ⟨f, args, hr, _⟩ <;> rw [hx, Sem.run_bind] at hr <;> cases hc : (resolve a.eval c o.type).run P w <;> rw [hc] at hr <;> simp [Result.andThen] at hr
theorem EffRun.wpIn {o : Oper} {a : Act} {w : World} {R : Value → World → Prop} {K : Act → World → Prop} {r : Option Nat} (h : EffRun P o a w R) (hK : ∀ v w', R v w' → K (a.put o.dst v) w') : o.wpIn (Fw r) 0 P a w K Q := by
  refine ⟨fun _ _ => trivial, ?_⟩
  rw [Oper.semAt_eq _ _ _ h.noDefer]
  rcases h with ⟨v, w', hr, hR⟩ | ⟨w', hr, hR⟩ | ⟨f, args, hr, hc⟩
  · rw [hr]; exact hK v w' hR
  · rw [hr]; exact hK undef w' hR
  · rw [hr]
    refine ⟨fun h => by simp at h, CallsIn.mono (F := Fw r) (callsIn_wide (n := 0).2 hc) ?_⟩
    rintro e w' ⟨v, rfl, hR⟩
    exact hK v w' hR
theorem quiet_eff {o : Oper} {a : Act} {w : World} {v : Value} (h : o.quietAt P a C w v) (hw : C w) : EffRun P o a w (fun v' w' => v' = v ∧ C w') := by
  unfold Oper.quietAt at h
  unfold EffRun
  generalize (execOp a.eval o).run P w = r at h
  cases r with
  | ok x w' =>
    cases x <;> simp only [Oper.quietUpon] at h
    case value u => obtain ⟨rfl, rfl⟩ := h; exact .inl ⟨_, _, rfl, rfl, hw⟩
    case skip => obtain ⟨rfl, rfl⟩ := h; exact .inr (.inl ⟨_, rfl, rfl, hw⟩)
    case enter f args => obtain ⟨rfl, hc⟩ := h; exact .inr (.inr ⟨f, args, rfl, hc.mono fun e w'' ⟨he, hC⟩ => ⟨v, he, rfl, hC⟩⟩)
  | halt x w' => simp only [Oper.quietUpon] at h
theorem sw_step {o : Oper} {rest : List Oper} {d : Nat} {cs : List Bool} {v : Value} (hg : gof ops E o.guard = some cs) (hd : o.dst = some d) (hn : Nat.ble (d + 1) n.sz = true)
    (hop : OpQ P n E C cs o v) (h : SW P ops Q rest n ((d, cs, v) :: E) C) : SW P ops Q (o :: rest) n E C := by
  intro a w ha hCw
  have hw := gof_spec ha hg
  have hdn : d < n.sz := Nat.le_of_ble_eq_true hn
  refine wpListIn_step fun K hK => ?_
  by_cases hc : AllT cs
  · rw [if_pos (hw.1 hc)]
    refine (quiet_eff (hop a ha hc w hCw) hCw).wpIn fun v' w' hR => hK _ _ ?_
    obtain ⟨rfl, hw'⟩ := hR
    have := h _ w' (ha.put (cs := cs) (v := v') hdn) hw'
    rw [gval_of hc] at this
    rw [hd]; exact this
  · rw [if_neg (by rw [hw.2 hc]; simp)]
    refine ⟨fun _ _ => trivial, hK _ _ ?_⟩
    have := h _ w (ha.put (cs := cs) (v := v) hdn) hCw
    rw [gval_not hc] at this
    rw [hd]; exact this

theorem sw_nil (h : Post n E C Q .normal) : SW P ops Q [] n E C := h

/-- An operation that may change the world; it has no guard. -/
def OpE (P : Program) (n : Fr) (E : Env) (C : World → Prop) (o : Oper) (R : Value → World → Prop) : Prop :=
  ∀ a w, Sat n E a → C w → EffRun P o a w R

/-- A quiet operation without guards is such a one. -/
theorem OpQ.eff {o : Oper} {v : Value} (h : OpQ P n E C [] o v) : OpE P n E C o (fun v' w' => v' = v ∧ C w') := fun a w ha hw => quiet_eff (h a ha AllT.nil w hw) hw

theorem OpE.of_run {o : Oper} {R : Value → World → Prop} (h : ∀ a w, Sat n E a → C w → ∃ v w', (execOp a.eval o).run P w = .ok (.value v) w' ∧ R v w') : OpE P n E C o R :=
  fun a w ha hw => .inl (h a w ha hw)
theorem OpE.of_run0 {o : Oper} {R : World → Prop} (h : ∀ a w, Sat n E a → C w → ∃ w', (execOp a.eval o).run P w = .ok .skip w' ∧ R w') : OpE P n E C o (fun v w' => v = undef ∧ R w') :=
  fun a w ha hw => let ⟨w', hr, hR⟩ := h a w ha hw; .inr (.inl ⟨w', hr, rfl, hR⟩)
theorem OpE.of_call {o : Oper} {R : Value → World → Prop} {f : FuncId} {args : Array Value} (hx : ∀ a w, Sat n E a → C w → (execOp a.eval o).run P w = .ok (.enter f args) w)
    (h : ∀ w, C w → Calls P f args w fun e w' => ∃ v, e = .returned v ∧ R v w') : OpE P n E C o R :=
  fun a w ha hw => .inr (.inr ⟨f, args, hx a w ha hw, h w hw⟩)

theorem sw_eff {o : Oper} {rest : List Oper} {d : Nat} {R : Value → World → Prop} (hg : o.guard = none) (hd : o.dst = some d) (hn : Nat.ble (d + 1) n.sz = true)
    (hop : OpE P n E C o R) (h : ∀ v, SW P ops Q rest n ((d, [], v) :: E) (R v)) : SW P ops Q (o :: rest) n E C := by
  intro a w ha hCw
  refine wpListIn_plain hg fun K hK => ?_
  refine (hop a w ha hCw).wpIn fun v w' hR => hK _ _ ?_
  have := h v _ w' (ha.put (cs := []) (v := v) (Nat.le_of_ble_eq_true hn)) hR
  rw [hd]; exact this
/-- An effect whose guards hold. -/
theorem sw_effg {o : Oper} {rest : List Oper} {d : Nat} {cs : List Bool} {R : Value → World → Prop} (hg : gof ops E o.guard = some cs) (hcs : AllT cs) (hd : o.dst = some d) (hn : Nat.ble (d + 1) n.sz = true)
    (hop : OpE P n E C o R) (h : ∀ v, SW P ops Q rest n ((d, [], v) :: E) (R v)) : SW P ops Q (o :: rest) n E C := by
  intro a w ha hCw
  refine wpListIn_step fun K hK => ?_
  rw [if_pos ((gof_spec ha hg).1 hcs)]
  refine (hop a w ha hCw).wpIn fun v w' hR => hK _ _ ?_
  have := h v _ w' (ha.put (cs := []) (v := v) (Nat.le_of_ble_eq_true hn)) hR
  rw [hd]; exact this
theorem sw_lee {l : List Oper} {E' : Env} (hE : Le E E') (h : SW P ops Q l n E' C) : SW P ops Q l n E C := fun a w ha hw => h a w (ha.le hE) hw
theorem sw_eff0 {o : Oper} {rest : List Oper} {R : World → Prop} (hg : o.guard = none) (hd : o.dst = none)
    (hop : OpE P n E C o (fun v w' => v = undef ∧ R w')) (h : SW P ops Q rest n E R) : SW P ops Q (o :: rest) n E C := by
  intro a w ha hCw
  refine wpListIn_plain hg fun K hK => ?_
  refine (hop a w ha hCw).wpIn fun v w' hR => hK _ _ ?_
  rw [hd]; exact h _ w' (ha.nodst v) hR.2
/-- What is known of the new value and world is opened: a pure part and a class. -/
theorem sw_imp {l : List Oper} {p : Prop} {C' : World → Prop} (h : p → SW P ops Q l n E C') : SW P ops Q l n E (fun w => p ∧ C' w) := fun a w ha hw => h hw.1 a w ha hw.2
theorem sw_ex {l : List Oper} {α : Type} {C' : α → World → Prop} (h : ∀ x, SW P ops Q l n E (C' x)) : SW P ops Q l n E (fun w => ∃ x, C' x w) := fun a w ha ⟨x, hx⟩ => h x a w ha hx
theorem sw_le {l : List Oper} {C' : World → Prop} (hC : ∀ w, C w → C' w) (h : SW P ops Q l n E C') : SW P ops Q l n E C := fun a w ha hw => h a w ha (hC w hw)
theorem cw_imp {c : Code} {p : Prop} {C' : World → Prop} (h : p → CW P c Q n E C') : CW P c Q n E (fun w => p ∧ C' w) := fun a w ha hw => h hw.1 a w ha hw.2
theorem cw_ex {c : Code} {α : Type} {C' : α → World → Prop} (h : ∀ x, CW P c Q n E (C' x)) : CW P c Q n E (fun w => ∃ x, C' x w) := fun a w ha ⟨x, hx⟩ => h x a w ha hx

/-! ### 4. Code -/
theorem cw_seq {x y : Code} (h : CW P x (Exit.then (y.wpIn (Fw n.ro) 0 P Q) Q) n E C) : CW P (.seq x y) Q n E C := fun a w ha hw => wpIn_seq (h a w ha hw)
theorem cw_block {id : Nat} {c : Code} (h : CW P c (Exit.inBlock id Q) n E C) : CW P (.block id c) Q n E C := fun a w ha hw => wpIn_block (h a w ha hw)
theorem cw_skip (h : Post n E C Q .normal) : CW P .skip Q n E C := fun a w ha hw => wpIn_skip (h a w ha hw)
theorem cw_exit {id : Nat} (h : Post n E C Q (.exit id)) : CW P (.exit id) Q n E C := fun a w ha hw => wpIn_exit (h a w ha hw)
theorem cw_ret (h : Post n E C Q .ret) : CW P .ret Q n E C := fun a w ha hw => wpIn_ret (h a w ha hw)
theorem cw_cond {x : Operand} {c d : Code} {b : Bool} (hx : evl E x = some ([], .bool b)) (ht : b = true → CW P c Q n E C) (hf : b = false → CW P d Q n E C) : CW P (.cond x c d) Q n E C := by
  intro a w ha hw
  refine wpIn_cond_split (ha.eval hx ⟨id⟩ AllT.nil) (fun h => ht h a w ha hw) (fun h => hf h a w ha hw)
theorem cw_region {id : Nat} {l : List Oper} (h : SW P l.toArray Q l n E C) : CW P (.region id l.toArray false) Q n E C := fun a w ha hw => wpIn_region_lit (h a w ha hw)
/-- A class that a draw does not leave. -/
class Drawn (C : World → Prop) : Prop where
  drawn : ∀ w, C w → C { w with drawn := w.drawn + 1 }
/-- What the round's frame asks of a region that draws. -/
class RegOk (n : Fr) (Q : Exit → Act → World → Prop) : Prop where
  ok : n.ro = none ∨ ¬ LetsOut Q
instance (k : Nat) (D : List Deferred) (Q : Exit → Act → World → Prop) : RegOk ⟨k, D, none⟩ Q := ⟨.inl rfl⟩
instance (n : Fr) (K : Act → World → Prop) (Q : Exit → Act → World → Prop) [h : RegOk n Q] : RegOk n (Exit.then K Q) := ⟨h.ok⟩
instance (n : Fr) (i : Nat) (Q : Exit → Act → World → Prop) [h : RegOk n Q] : RegOk n (Exit.inBlock i Q) := ⟨h.ok⟩
instance (n : Fr) (l : Nat) (R : Ending → World → Prop) : RegOk n (roundPost P l R) := ⟨.inr fun ⟨_, _, h⟩ => h⟩
def noDefer (ops : Array Oper) : Bool := ops.all fun o => match o.op with
  | .defer _ => false
  | _ => true
theorem noDefer_spec (h : noDefer ops = true) {i : Nat} {o : Oper} (hi : ops[i]? = some o) (c : Call) : o.op ≠ .defer c := by
  intro ho
  have h1 := Array.all_eq_true.1 h i (Array.getElem?_eq_some_iff.1 hi).1
  rw [(Array.getElem?_eq_some_iff.1 hi).2, ho] at h1
  simp at h1
theorem Oper.in_of_wp {o : Oper} {a : Act} {w : World} {K : Act → World → Prop} {r : Option Nat} (hd : ∀ c, o.op ≠ .defer c) (hQ : ¬ LetsOut Q) (h : o.wp P a w K Q) : o.wpIn (Fw r) 0 P a w K Q := by
  refine ⟨fun _ _ => trivial, ?_⟩
  rw [Oper.semAt_eq _ _ _ hd]
  unfold Oper.wp at h
  generalize (execOp a.eval o).run P w = x at h
  cases x with
  | ok x w' =>
    cases x with
    | enter f args => exact ⟨fun h => by simp at h, CallsIn.mono (F := Fw r) ((callsIn_wide (n := 0)).2 h) fun e w'' he => he⟩
    | row f args => exact ⟨fun h => by simp at h, fun c cs _ => let ⟨v, w', r, s⟩ := h c cs; ⟨v, w', r, stepsIn_wide.2 s⟩⟩
    | round => exact h.elim
    | _ => exact h
  | halt x w' => cases x <;> first | exact h | exact h.elim
theorem any_in {r : Option Nat} (hd : noDefer ops = true) (hQ : ¬ LetsOut Q) : ∀ (f : Nat) (listed : Array Bool) (a : Act) (w : World), wpAny P .any ops Q f listed a w → wpAnyIn (Fw r) 0 P .any ops Q f listed a w
  | 0, _, _, _, h => h
  | f + 1, listed, a, w, h => by
    refine ⟨h.1, fun i hi => ?_⟩
    have h2 := h.2 i hi
    unfold wpOp at h2
    unfold wpOpIn
    cases ho : ops[i]? with
    | none => rw [ho] at h2; exact any_in hd hQ f _ _ _ h2
    | some o =>
      rw [ho] at h2
      simp only at h2 ⊢
      split at h2
      · rename_i hw
        rw [if_pos hw]
        rcases h2 with h2 | h2
        · exact Oper.in_of_wp (noDefer_spec hd ho) hQ (Oper.wp_mono (fun a' w' h3 => any_in hd hQ f _ a' w' h3) h2)
        · exact absurd h2.2 hQ
      · rename_i hw
        rw [if_neg hw]
        exact ⟨fun _ _ => trivial, any_in hd hQ f _ _ _ h2⟩
theorem region_any {id : Nat} {a : Act} {w : World} [hR : RegOk n Q] (hm : P.follows .mixedOrders = true) (hd : noDefer ops = true)
    (h : wpAny P .any ops Q ops.size (Array.replicate ops.size false) a { w with drawn := w.drawn + 1 }) : (Code.region id ops true).wpIn (Fw n.ro) 0 P Q a w := by
  rcases hR.ok with hr | hQ
  · rw [hr]; exact wpIn_wide.2 (wp_region_any hm h)
  · exact wpIn_region_any hm (any_in hd hQ _ _ _ _ h)
theorem cw_region_q {id : Nat} {l : List Oper} [hD : Drawn C] [hR : RegOk n Q] (hm : P.follows .mixedOrders = true) (hB : Region.lexB .any l.toArray = true)
    (h : QW P l.toArray C (fun a' => ∀ w', C w' → Q .normal a' w') l n E) (hnd : noDefer l.toArray = true := by kernel_rfl) : CW P (.region id l.toArray true) Q n E C := by
  intro a w ha hw
  simp only [Region.lexB, Bool.and_eq_true] at hB
  refine region_any hm hnd (wpAny_of_quiet (Q := fun a' => ∀ w', C w' → Q .normal a' w') (fun _ w' hw' h => h w' hw') _ _ _ _ (hD.drawn w hw) ?_)
  have := wpAnyQ_lex (C := C) (md := .any) hB.1 l.toArray.toList 0 (Array.replicate l.toArray.size false) a (by simp) (by simpa using hB.2) (by simpa using h a ha)
  simpa using this
theorem qw_end (h : Post n E C Q .normal) : QW P ops C (fun a' => ∀ w', C w' → Q .normal a' w') [] n E := fun a ha w' hw' => h a w' ha hw'
theorem cw_le {c : Code} {E' : Env} (l : Le E E') (h : CW P c Q n E' C) : CW P c Q n E C := fun a w ha hw => h a w (ha.le l) hw
theorem post_le {e : Exit} {E' : Env} (l : Le E E') (h : Post n E' C Q e) : Post n E C Q e := fun a w ha hw => h a w (ha.le l) hw
theorem post_c {e : Exit} {C' : World → Prop} (hC : ∀ w, C w → C' w) (h : Post n E C' Q e) : Post n E C Q e := fun a w ha hw => h a w ha (hC w hw)
theorem cw_c {c : Code} {C' : World → Prop} (hC : ∀ w, C w → C' w) (h : CW P c Q n E C') : CW P c Q n E C := fun a w ha hw => h a w ha (hC w hw)

theorem post_then {y : Code} (h : CW P y Q n E C) : Post n E C (Exit.then (y.wpIn (Fw n.ro) 0 P Q) Q) .normal := h
theorem post_then_x {K : Act → World → Prop} {i : Nat} (h : Post n E C Q (.exit i)) : Post n E C (Exit.then K Q) (.exit i) := h
theorem post_then_r {K : Act → World → Prop} (h : Post n E C Q .ret) : Post n E C (Exit.then K Q) .ret := h
theorem post_blk {i : Nat} (h : Post n E C Q .normal) : Post n E C (Exit.inBlock i Q) .normal := h
theorem post_blk_eq {i : Nat} (h : Post n E C Q .normal) : Post n E C (Exit.inBlock i Q) (.exit i) := fun a w ha hw => by simp only [Exit.inBlock, if_true]; exact h a w ha hw
theorem post_blk_ne {i j : Nat} (hn : Nat.beq j i = false) (h : Post n E C Q (.exit j)) : Post n E C (Exit.inBlock i Q) (.exit j) := fun a w ha hw => by
  simp only [Exit.inBlock, if_neg (Nat.ne_of_beq_eq_false hn)]; exact h a w ha hw
theorem post_blk_r {i : Nat} (h : Post n E C Q .ret) : Post n E C (Exit.inBlock i Q) .ret := h

/-! ### 4b. A region that draws its order, with effects: plain operations are taken first, under a condition S that holds till operation m -/
def AnyS (P : Program) (ops : Array Oper) (Q : Exit → Act → World → Prop) (S : World → Prop) (m : List Nat) : Nat → Array Bool → Act → World → Prop
  | 0, listed, a, w => Region.ready .any ops listed = [] ∧ Q .normal a w
  | f + 1, listed, a, w => (Region.ready .any ops listed = [] → Q .normal a w) ∧
    ∀ i ∈ Region.ready .any ops listed, wpOp P ops Q i (fun a' w' => (m.contains i = false → S w → S w') ∧ AnyS P ops Q S m f (listed.setIfInBounds i true) a' w') a w
theorem anyS_any {S : World → Prop} {m : List Nat} : ∀ (f : Nat) (listed : Array Bool) (a : Act) (w : World), AnyS P ops Q S m f listed a w → wpAny P .any ops Q f listed a w
  | 0, _, _, _, h => h
  | f + 1, _, _, _, h => ⟨h.1, fun i hi => wpOp_mono (fun a' w' h' => anyS_any f _ a' w' h'.2) (h.2 i hi)⟩
theorem getD_tf {listed : Array Bool} {i : Nat} (h : listed.getD i false = true) : listed.getD i true = true := by
  cases hx : listed[i]? <;> simp [hx] at h ⊢; exact h
def Closed (ops : Array Oper) (listed : Array Bool) : Prop := ∀ k o, ops[k]? = some o → listed.getD k true = true → ∀ e ∈ o.after, Region.binds .any e = true → listed.getD e.on false = true
def reachB (ops : Array Oper) (i : Nat) : Nat → Nat → Bool
  | 0, _ => false
  | f + 1, j => match ops[j]? with
    | some o => o.after.any fun e => Region.binds .any e && (Nat.beq e.on i || reachB ops i f e.on)
    | none => false
theorem reach_listed {listed : Array Bool} {i : Nat} (hc : Closed ops listed) : ∀ (f j : Nat) (o : Oper), ops[j]? = some o → (∀ e ∈ o.after, Region.binds .any e = true → listed.getD e.on false = true) → reachB ops i f j = true → listed.getD i false = true
  | 0, _, _, _, _, h => by simp [reachB] at h
  | f + 1, j, o, hj, ha, h => by
    simp only [reachB, hj] at h
    obtain ⟨e, he, h2⟩ := Array.any_eq_true'.1 h
    simp only [Bool.and_eq_true, Bool.or_eq_true] at h2
    have h3 := ha e he h2.1
    rcases h2.2 with h4 | h4
    · rw [← Nat.eq_of_beq_eq_true h4]; exact h3
    · cases hk : ops[e.on]? with
      | none => cases f <;> simp [reachB, hk] at h4
      | some o' => exact reach_listed hc f e.on o' hk (hc e.on o' hk (getD_tf h3)) h4
theorem Closed.set {listed : Array Bool} {j : Nat} (hc : Closed ops listed) (hj : j ∈ Region.ready .any ops listed) : Closed ops (listed.setIfInBounds j true) := by
  intro k o hk hl e he hb
  have mono : ∀ x, listed.getD x false = true → (listed.setIfInBounds j true).getD x false = true := fun x hx => getD_set_true hx
  by_cases hjk : j = k
  · subst hjk
    obtain ⟨_, oj, hoj, ha⟩ := mem_ready.1 hj
    rw [hk] at hoj; cases hoj
    exact mono _ (ha e he hb)
  · rw [getD_set_ne true hjk] at hl
    exact mono _ (hc k o hk hl e he hb)
theorem anyS_first {S T : World → Prop} {m : List Nat} {i : Nat} {oi : Oper} {v : Value} (hi : ops[i]? = some oi) (hsel : ∀ (j : Nat) (o : Oper) cs b, ops[j]? = some o → o.op ≠ .select cs b)
    (hQ : ∀ c a w, Q (.panic c) (a.put oi.dst v) w → Q (.panic c) a w)
    (hT : (∀ w, T w) ∨ (T = S ∧ ∀ j oj, ops[j]? = some oj → m.contains j = true → j ≠ i → reachB ops i ops.size j = true)) :
    ∀ (f : Nat) (listed : Array Bool) (a : Act) (w : World), Closed ops listed → i < listed.size →
      (∀ j oj, ops[j]? = some oj → j ≠ i → listed.getD j true = false → (∀ e ∈ oj.after, Region.binds .any e = true → e.on ≠ i) → oi.apart ops oj = true) →
      i ∈ Region.ready .any ops listed → YieldsIf P ops T oi v a → T w →
      AnyS P ops Q S m f (listed.setIfInBounds i true) (a.put oi.dst v) w → AnyS P ops Q S m (f + 1) listed a w := by
  intro f
  induction f with
  | zero =>
    intro listed a w _ _ _ hr hy hS H
    refine ⟨fun h => (by rw [h] at hr; cases hr), fun j hj => ?_⟩
    by_cases hji : j = i
    · subst hji; exact hy.wpOp hi hS ⟨fun _ h => h, H⟩
    · have h0 := ready_mono hj hji
      rw [H.1] at h0
      cases h0
  | succ f ih =>
    intro listed a w hcl hsz hfree hr hy hS H
    refine ⟨fun h => (by rw [h] at hr; cases hr), fun j hj => ?_⟩
    by_cases hji : j = i
    · subst hji; exact hy.wpOp hi hS ⟨fun _ h => h, H⟩
    · have h1 := H.2 j (ready_mono hj hji)
      obtain ⟨hun, oj, hoj, hafter⟩ := mem_ready.1 hj
      have hi0 := (mem_ready.1 hr).1
      have hnot : ∀ e ∈ oj.after, Region.binds .any e = true → e.on ≠ i := by
        intro e he hb heq
        have h2 := hafter e he hb
        rw [heq] at h2
        simp [hsz] at hi0 h2
        rw [hi0] at h2
        cases h2
      have hkeep : ∀ w', (m.contains j = false → S w → S w') → T w' := by
        intro w' hc
        rcases hT with hT | ⟨rfl, hlate⟩
        · exact hT w'
        · refine hc ?_ hS
          cases hm : m.contains j
          · rfl
          · have h2 := reach_listed hcl _ _ _ hoj hafter (hlate j oj hoj hm hji)
            rw [getD_tf h2] at hi0
            cases hi0
      have h2 := wpOp_putIf hoj (hfree j oj hoj hji hun hnot) (fun cs b => hsel i oi cs b hi) (fun cs b => hsel j oj cs b hoj) hQ hy h1
      refine wpOp_mono (fun a' w' h3 => ⟨h3.2.1, ih (listed.setIfInBounds j true) a' w' (hcl.set hj) (by simpa using hsz) ?_ (ready_mono hr (Ne.symm hji)) h3.1 (hkeep w' h3.2.1) ?_⟩) h2
      · intro k ok hk hki hku hkn
        refine hfree k ok hk hki ?_ hkn
        by_cases hjk : j = k
        · subst hjk; exact hun
        · rw [getD_set_ne true hjk] at hku; exact hku
      · rw [Array.setIfInBounds_comm _ _ hji]
        exact h3.2.2

/-- A panic's post looks at no temporary. -/
class PanicOk (Q : Exit → Act → World → Prop) : Prop where
  ok : ∀ c (a : Act) (d : Option Tmp) (v : Value) w, Q (.panic c) (a.put d v) w → Q (.panic c) a w
instance (K : Act → World → Prop) [h : PanicOk Q] : PanicOk (Exit.then K Q) := ⟨h.ok⟩
instance (i : Nat) [h : PanicOk Q] : PanicOk (Exit.inBlock i Q) := ⟨h.ok⟩
instance (fn : Func) (R : Ending → World → Prop) : PanicOk (bodyPost P fn R) := ⟨fun _ a d v _ h => by cases d <;> exact h⟩
instance (l : Nat) (R : Ending → World → Prop) : PanicOk (roundPost P l R) := ⟨fun _ _ _ _ _ h => h⟩

def AW (P : Program) (ops : Array Oper) (Q : Exit → Act → World → Prop) (S : World → Prop) (m : List Nat) (f : Nat) (listed : Array Bool) (n : Fr) (E : Env) (C : World → Prop) : Prop :=
  ∀ a w, Sat n E a → C w → AnyS P ops Q S m f listed a w
theorem blt_lt {a b : Nat} (h : Nat.blt a b = true) : a < b := by simpa using h
theorem lt_blt {a b : Nat} (h : a < b) : Nat.blt a b = true := by simpa using h
/-- Every late operation waits for i. -/
def lateB (ops : Array Oper) (m : List Nat) (i : Nat) : Bool := m.all fun j => Nat.beq j i || reachB ops i ops.size j
theorem lateB_spec {m : List Nat} {i : Nat} (h : lateB ops m i = true) : ∀ j oj, ops[j]? = some oj → m.contains j = true → j ≠ i → reachB ops i ops.size j = true := by
  intro j oj hj hm hji
  have h1 := List.all_eq_true.1 h j (by simpa using hm)
  simp only [Bool.or_eq_true] at h1
  rcases h1 with h1 | h1
  · exact absurd (Nat.eq_of_beq_eq_true h1) hji
  · exact h1
def closedB (ops : Array Oper) (listed : Array Bool) : Bool := (List.range ops.size).all fun k => !(listed.getD k true) || (match ops[k]? with
  | some o => o.after.all fun e => !(Region.binds .any e) || listed.getD e.on false
  | none => true)
theorem closedB_spec {listed : Array Bool} (h : closedB ops listed = true) : Closed ops listed := by
  intro k o hk hl e he hb
  have hlt : k < ops.size := (Array.getElem?_eq_some_iff.1 hk).1
  have h1 := List.all_eq_true.1 h k (List.mem_range.2 hlt)
  simp only [hl, hk, Bool.not_true, Bool.false_or] at h1
  have h2 := Array.all_eq_true'.1 h1 e he
  simpa [hb] using h2

theorem cw_region_a {id : Nat} {l : List Oper} (S : World → Prop) (m : List Nat) [hD : Drawn C] [hR : RegOk n Q] (hm : P.follows .mixedOrders = true) (h : AW P l.toArray Q S m l.toArray.size (Array.replicate l.toArray.size false) n E C) (hnd : noDefer l.toArray = true := by kernel_rfl) :
    CW P (.region id l.toArray true) Q n E C := fun a w ha hw => region_any hm hnd (anyS_any _ _ _ _ (h a _ ha (hD.drawn w hw)))
theorem aw_take {S : World → Prop} {m : List Nat} {f : Nat} {listed : Array Bool} (i : Nat) {o : Oper} {d : Nat} {cs : List Bool} {v : Value} [hP : PanicOk Q] (hS : ∀ w, C w → S w) (hi : ops[i]? = some o) (hs : Region.noSelect ops = true) (hl : lateB ops m i = true) (hcl : closedB ops listed = true)
    (hf : Region.free .any ops listed i = true) (hr : (Region.ready .any ops listed).contains i = true) (hz : Nat.blt i listed.size = true)
    (hg : gof ops E o.guard = some cs) (hd : o.dst = some d) (hn : Nat.ble (d + 1) n.sz = true) (hop : OpR P n E S cs o v)
    (h : AW P ops Q S m f (listed.setIfInBounds i true) n ((d, cs, v) :: E) C) : AW P ops Q S m (f + 1) listed n E C := by
  intro a w ha hw
  have hgs := gof_spec ha hg
  have hdn : d < n.sz := Nat.le_of_ble_eq_true hn
  refine anyS_first (v := gval cs v) hi (Region.noSelect_spec hs) (fun c a w hq => hP.ok c a _ _ w hq) (.inr ⟨rfl, lateB_spec hl⟩) f listed a w (closedB_spec hcl) (blt_lt hz) (Region.free_spec hi hf) (by simpa using hr) ?_ (hS w hw) ?_
  · by_cases hc : AllT cs
    · exact .inl ⟨hgs.1 hc, fun w' hw' => by rw [gval_of hc]; exact hop a ha hc w' hw'⟩
    · exact .inr ⟨hgs.2 hc, gval_not hc⟩
  · have := h _ w (ha.put (cs := cs) (v := v) hdn) hw
    rw [hd]; exact this
/-- One that only computes. -/
theorem aw_pure {S : World → Prop} {m : List Nat} {f : Nat} {listed : Array Bool} (i : Nat) {o : Oper} {d : Nat} {cs : List Bool} {v : Value} [hP : PanicOk Q] (hi : ops[i]? = some o) (hs : Region.noSelect ops = true) (hcl : closedB ops listed = true)
    (hf : Region.free .any ops listed i = true) (hr : (Region.ready .any ops listed).contains i = true) (hz : Nat.blt i listed.size = true)
    (hg : gof ops E o.guard = some cs) (hd : o.dst = some d) (hn : Nat.ble (d + 1) n.sz = true) (hop : OpR P n E (fun _ => True) cs o v)
    (h : AW P ops Q S m f (listed.setIfInBounds i true) n ((d, cs, v) :: E) C) : AW P ops Q S m (f + 1) listed n E C := by
  intro a w ha hw
  have hgs := gof_spec ha hg
  have hdn : d < n.sz := Nat.le_of_ble_eq_true hn
  refine anyS_first (T := fun _ => True) (v := gval cs v) hi (Region.noSelect_spec hs) (fun c a w hq => hP.ok c a _ _ w hq) (.inl fun _ => trivial) f listed a w (closedB_spec hcl) (blt_lt hz) (Region.free_spec hi hf) (by simpa using hr) ?_ trivial ?_
  · by_cases hc : AllT cs
    · exact .inl ⟨hgs.1 hc, fun w' hw' => by rw [gval_of hc]; exact hop a ha hc w' hw'⟩
    · exact .inr ⟨hgs.2 hc, gval_not hc⟩
  · have := h _ w (ha.put (cs := cs) (v := v) hdn) hw
    rw [hd]; exact this
/-- The one that may come up. -/
theorem aw_one {S : World → Prop} {m : List Nat} {f : Nat} {listed : Array Bool} (i : Nat) {o : Oper} {d : Nat} {R : Value → World → Prop} (hr : Region.ready .any ops listed = [i]) (hi : ops[i]? = some o) (hg : o.guard = none) (hd : o.dst = some d) (hn : Nat.ble (d + 1) n.sz = true)
    (hop : OpE P n E C o R) (hS : m.contains i = false → ∀ v w, R v w → S w) (h : ∀ v, AW P ops Q S m f (listed.setIfInBounds i true) n ((d, [], v) :: E) (R v)) : AW P ops Q S m (f + 1) listed n E C := by
  intro a w ha hw
  refine ⟨fun h0 => (by rw [hr] at h0; cases h0), fun j hj => ?_⟩
  rw [hr] at hj
  obtain rfl := List.mem_singleton.1 hj
  unfold wpOp
  simp only [hi]
  rw [if_pos (by simp [Region.wanted, hg])]
  refine .inl ((hop a w ha hw).wp fun v w' hR => ⟨fun him _ => hS him v w' hR, ?_⟩)
  have := h v _ w' (ha.put (cs := []) (v := v) (Nat.le_of_ble_eq_true hn)) hR
  rw [hd]; exact this
theorem aw_one0 {S : World → Prop} {m : List Nat} {f : Nat} {listed : Array Bool} (i : Nat) {o : Oper} {R : World → Prop} (hr : Region.ready .any ops listed = [i]) (hi : ops[i]? = some o) (hg : o.guard = none) (hd : o.dst = none)
    (hop : OpE P n E C o (fun v w' => v = undef ∧ R w')) (hS : m.contains i = false → ∀ w, R w → S w) (h : AW P ops Q S m f (listed.setIfInBounds i true) n E R) : AW P ops Q S m (f + 1) listed n E C := by
  intro a w ha hw
  refine ⟨fun h0 => (by rw [hr] at h0; cases h0), fun j hj => ?_⟩
  rw [hr] at hj
  obtain rfl := List.mem_singleton.1 hj
  unfold wpOp
  simp only [hi]
  rw [if_pos (by simp [Region.wanted, hg])]
  refine .inl ((hop a w ha hw).wp fun v w' hR => ⟨fun him _ => hS him w' hR.2, ?_⟩)
  have := h _ w' (ha.nodst v) hR.2
  rw [hd]; exact this
theorem aw_end {S : World → Prop} {m : List Nat} {listed : Array Bool} (hr : Region.ready .any ops listed = []) (h : Post n E C Q .normal) : AW P ops Q S m 0 listed n E C := fun a w ha hw => ⟨hr, h a w ha hw⟩
theorem aw_ex {S : World → Prop} {m : List Nat} {f : Nat} {listed : Array Bool} {α : Type} {C' : α → World → Prop} (h : ∀ x, AW P ops Q S m f listed n E (C' x)) : AW P ops Q S m f listed n E (fun w => ∃ x, C' x w) := fun a w ha ⟨x, hx⟩ => h x a w ha hx
theorem aw_imp {S : World → Prop} {m : List Nat} {f : Nat} {listed : Array Bool} {p : Prop} {C' : World → Prop} (h : p → AW P ops Q S m f listed n E C') : AW P ops Q S m f listed n E (fun w => p ∧ C' w) := fun a w ha hw => h hw.1 a w ha hw.2
theorem aw_c {S : World → Prop} {m : List Nat} {f : Nat} {listed : Array Bool} {C' : World → Prop} (hC : ∀ w, C w → C' w) (h : AW P ops Q S m f listed n E C') : AW P ops Q S m f listed n E C := fun a w ha hw => h a w ha (hC w hw)
/-- An effect whose value is told by x. -/
theorem aw_x {S : World → Prop} {m : List Nat} {f : Nat} {listed : Array Bool} {α : Type} {vf : α → Value} {C' : α → World → Prop} (i : Nat) {o : Oper} {d : Nat} (hr : Region.ready .any ops listed = [i]) (hi : ops[i]? = some o) (hg : o.guard = none) (hd : o.dst = some d) (hn : Nat.ble (d + 1) n.sz = true)
    (hop : OpE P n E C o (fun v w' => ∃ x, v = vf x ∧ C' x w')) (hS : m.contains i = false → ∀ x w, C' x w → S w) (h : ∀ x, AW P ops Q S m f (listed.setIfInBounds i true) n ((d, [], vf x) :: E) (C' x)) : AW P ops Q S m (f + 1) listed n E C :=
  aw_one i hr hi hg hd hn hop (fun hb v w ⟨x, _, hx⟩ => hS hb x w hx) fun _ => aw_ex fun x => aw_imp fun hv => by subst hv; exact h x
/-- A quiet call. -/
theorem aw_q {S : World → Prop} {m : List Nat} {f : Nat} {listed : Array Bool} (i : Nat) {o : Oper} {d : Nat} {v : Value} (hr : Region.ready .any ops listed = [i]) (hi : ops[i]? = some o) (hg : o.guard = none) (hd : o.dst = some d) (hn : Nat.ble (d + 1) n.sz = true)
    (hop : OpQ P n E C [] o v) (hS : m.contains i = false → ∀ w, C w → S w) (h : AW P ops Q S m f (listed.setIfInBounds i true) n ((d, [], v) :: E) C) : AW P ops Q S m (f + 1) listed n E C :=
  aw_one i hr hi hg hd hn hop.eff (fun hb v w hx => hS hb w hx.2) fun _ => aw_imp fun hv => by subst hv; exact h

/-! ### 5. Loops: a ghost state s -/
theorem least {S : Type} (p : S → Prop) (μ : S → Nat) : ∀ m s, μ s = m → p s → ∃ s, p s ∧ ∀ s', p s' → μ s ≤ μ s' := by
  intro m
  induction m using Nat.strongRecOn with
  | _ m ih =>
    intro s hs hp
    by_cases h : ∃ s', p s' ∧ μ s' < μ s
    · obtain ⟨s', hp', hlt⟩ := h
      exact ih (μ s') (hs ▸ hlt) s' rfl hp'
    · exact ⟨s, hp, fun s' hp' => Nat.le_of_not_lt fun hlt => h ⟨s', hp', hlt⟩⟩

/-- What the round must bring: the next ghost state. -/
def Next {S : Type} (n : Fr) (Es : S → Env) (Cs : S → World → Prop) (I : S → Prop) (μ : S → Nat) (s : S) (a : Act) (w : World) : Prop := ∃ s', I s' ∧ μ s' < μ s ∧ Sat n (Es s') a ∧ Cs s' w

theorem cw_loop {S : Type} (Es : S → Env) (Cs : S → World → Prop) (I : S → Prop) (μ : S → Nat) (s0 : S) {c : Code} (h0 : I s0) (hE : Le E (Es s0)) (hC : ∀ w, C w → Cs s0 w)
    (body : ∀ s, I s → CW P c (Exit.then (Next n Es Cs I μ s) Q) n (Es s) (Cs s)) : CW P (.loop c) Q n E C := by
  intro a w ha hw
  let p (a : Act) (w : World) (s : S) : Prop := I s ∧ Sat n (Es s) a ∧ Cs s w
  let ν (a : Act) (w : World) : Nat := open Classical in if h : ∃ s, p a w s ∧ ∀ s', p a w s' → μ s ≤ μ s' then μ h.choose else 0
  have hν : ∀ a w s, p a w s → ∃ s0, p a w s0 ∧ μ s0 = ν a w ∧ ∀ s', p a w s' → ν a w ≤ μ s' := by
    intro a w s hs
    have hex := least (p a w) μ _ s rfl hs
    have e : ν a w = μ hex.choose := by simp only [ν]; rw [dif_pos hex]
    exact ⟨hex.choose, hex.choose_spec.1, e.symm, fun s' hs' => e ▸ hex.choose_spec.2 s' hs'⟩
  refine wpIn_loop (fun a w => ∃ s, p a w s) ν ⟨s0, h0, ha.le hE, hC w hw⟩ ?_
  rintro a w ⟨s, hs⟩
  obtain ⟨s1, ⟨hI, hSat, hCs⟩, hμ, hmin⟩ := hν a w s hs
  refine wpIn_mono (body s1 hI a w hSat hCs) ?_
  intro e a' w' hq
  cases e with
  | normal =>
    obtain ⟨s', hI', hlt, hS', hC'⟩ := hq
    refine ⟨⟨s', hI', hS', hC'⟩, ?_⟩
    obtain ⟨_, _, _, hmin'⟩ := hν a' w' s' ⟨hI', hS', hC'⟩
    exact Nat.lt_of_le_of_lt (hmin' s' ⟨hI', hS', hC'⟩) (hμ ▸ hlt)
  | exit id => exact hq
  | goto l => exact hq
  | ret => exact hq
  | panic ch => exact hq
  | outgrown => exact hq

theorem post_next {S : Type} {Es : S → Env} {Cs : S → World → Prop} {I : S → Prop} {μ : S → Nat} {s : S} (s' : S) (hE : Le E (Es s')) (hC : ∀ w, C w → Cs s' w) (hI : I s') (hμ : μ s' < μ s) :
    Post n E C (Exit.then (Next n Es Cs I μ s) Q) .normal := fun _ w ha hw => ⟨s', hI, hμ, ha.le hE, hC w hw⟩

/-- Ways that meet again. -/
def Meet {S : Type} (n : Fr) (Em : S → Env) (Cm : S → World → Prop) (I : S → Prop) (a : Act) (w : World) : Prop := ∃ s, I s ∧ Sat n (Em s) a ∧ Cm s w
theorem cw_cut {S : Type} (Em : S → Env) (Cm : S → World → Prop) (I : S → Prop) {c : Code} (h1 : CW P c (Exit.then (Meet n Em Cm I) Q) n E C) (h2 : ∀ s, I s → Post n (Em s) (Cm s) Q .normal) : CW P c Q n E C := by
  intro a w ha hw
  refine wpIn_mono (h1 a w ha hw) ?_
  intro e a' w' hq
  cases e with
  | normal =>
    obtain ⟨s, hI, hS, hC⟩ := hq
    exact h2 s hI a' w' hS hC
  | exit id => exact hq
  | goto l => exact hq
  | ret => exact hq
  | panic ch => exact hq
  | outgrown => exact hq
theorem post_meet {S : Type} {Em : S → Env} {Cm : S → World → Prop} {I : S → Prop} (s : S) (hE : Le E (Em s)) (hC : ∀ w, C w → Cm s w) (hI : I s) : Post n E C (Exit.then (Meet n Em Cm I) Q) .normal :=
  fun _ w ha hw => ⟨s, hI, ha.le hE, hC w hw⟩

/-! ### 6. The call -/
def argEnv : Nat → List Value → Env
  | _, [] => []
  | i, v :: vs => (i, [], v) :: argEnv (i + 1) vs

theorem look_argEnv : ∀ (vs : List Value) (i t : Nat) (cs : List Bool) (v : Value), look (argEnv i vs) t = some (cs, v) → cs = [] ∧ i ≤ t ∧ vs[t - i]? = some v
  | [], _, _, _, _, h => by simp [argEnv, look] at h
  | u :: vs, i, t, cs, v, h => by
    simp only [argEnv, look] at h
    cases hb : Nat.beq i t with
    | true =>
      rw [hb] at h
      have e : i = t := Nat.eq_of_beq_eq_true hb
      subst e
      simp only [Option.some.injEq, Prod.mk.injEq] at h
      refine ⟨h.1.symm, Nat.le_refl _, ?_⟩
      simp [h.2]
    | false =>
      rw [hb] at h
      have e : i ≠ t := Nat.ne_of_beq_eq_false hb
      obtain ⟨h1, h2, h3⟩ := look_argEnv vs (i + 1) t cs v h
      refine ⟨h1, by omega, ?_⟩
      rw [show t - i = (t - (i + 1)) + 1 by omega]
      simpa using h3

theorem calls_cw {k : Nat} {f : FuncId} {fn : Func} {c : Code} {vs : List Value} {w : World} {R : Ending → World → Prop} (hf : P.funcs[f]? = some fn) (hb : fn.body = some c) (hn : fn.ntmps = k)
    (hl : Nat.ble vs.length k = true) (hw : C w) (h : CW P c (bodyPost P fn R) ⟨k, [], none⟩ (argEnv 0 vs) C) : Calls P f vs.toArray w R := by
  refine calls_of_wp hf hb (wpIn_wide.1 (h _ w ⟨rfl, ?_, ?_⟩ hw))
  · have := Nat.le_of_ble_eq_true hl
    simp [hn]; omega
  · intro t cs v ht
    obtain ⟨rfl, _, h3⟩ := look_argEnv vs 0 t cs v ht
    have hlt : t < vs.length := by have := (List.getElem?_eq_some_iff.1 h3).1; omega
    simp only [Nat.sub_zero] at h3
    simp [gval, Array.getElem?_append, hlt]
    simpa [hlt] using h3

/-- The value of one result variable. -/
def resS (tmps : Array Value) : ResultVar → Sem Value
  | .tmp t => pure (tmps.getD t undef)
  | .cell p t => do loadVar t (← asAddr (tmps.getD p undef))
theorem results_resS (fn : Func) (tmps : Array Value) : results fn tmps = (do let vs ← fn.results.mapM (resS tmps); pure (if h : vs.size = 1 then vs[0] else .tuple vs)) := by
  unfold results
  congr 1

def ResOk (P : Program) (E : Env) (C : World → Prop) (n : Fr) (r : ResultVar) (v : Value) : Prop :=
  ∀ a w, Sat n E a → C w → (resS a.tmps r).run P w = .ok v w

theorem resOk_tmp {t : Nat} {v : Value} (h : look E t = some ([], v)) : ResOk P E C n (.tmp t) v := fun a w ha _ => by
  have := ha.has t [] v h
  simp [resS, Array.getD_eq_getD_getElem?, this, gval]

theorem post_ret0 {k : Nat} {ro : Option Nat} {fn : Func} {R : Ending → World → Prop} (hr : fn.results = #[]) (hR : ∀ w, C w → R (.returned (.tuple #[])) w) : Post ⟨k, [], ro⟩ E C (bodyPost P fn R) .ret := fun a w ha hw =>
  ⟨ha.defers, _, by simp [results, hr], hR w hw⟩
theorem post_end0 {k : Nat} {ro : Option Nat} {fn : Func} {R : Ending → World → Prop} (hr : fn.results = #[]) (hR : ∀ w, C w → R (.returned (.tuple #[])) w) : Post ⟨k, [], ro⟩ E C (bodyPost P fn R) .normal := fun a w ha hw =>
  ⟨ha.defers, _, by simp [results, hr], hR w hw⟩
theorem post_ret1 {k : Nat} {ro : Option Nat} {fn : Func} {R : Ending → World → Prop} {r : ResultVar} {v : Value} (hr : fn.results = #[r]) (h1 : ResOk P E C ⟨k, [], ro⟩ r v) (hR : ∀ w, C w → R (.returned v) w) :
    Post ⟨k, [], ro⟩ E C (bodyPost P fn R) .ret := fun a w ha hw => by
  refine ⟨ha.defers, v, ?_, hR w hw⟩
  simp [results_resS, hr, h1 a w ha hw]
theorem post_ret2 {k : Nat} {ro : Option Nat} {fn : Func} {R : Ending → World → Prop} {r s : ResultVar} {u v : Value} (hr : fn.results = #[r, s]) (h1 : ResOk P E C ⟨k, [], ro⟩ r u) (h2 : ResOk P E C ⟨k, [], ro⟩ s v)
    (hR : ∀ w, C w → R (.returned (.tuple #[u, v])) w) : Post ⟨k, [], ro⟩ E C (bodyPost P fn R) .ret := fun a w ha hw => by
  refine ⟨ha.defers, _, ?_, hR w hw⟩
  simp [results_resS, hr, h1 a w ha hw, h2 a w ha hw]
theorem post_ret3 {k : Nat} {ro : Option Nat} {fn : Func} {R : Ending → World → Prop} {r s t : ResultVar} {u v x : Value} (hr : fn.results = #[r, s, t]) (h1 : ResOk P E C ⟨k, [], ro⟩ r u) (h2 : ResOk P E C ⟨k, [], ro⟩ s v) (h3 : ResOk P E C ⟨k, [], ro⟩ t x)
    (hR : ∀ w, C w → R (.returned (.tuple #[u, v, x])) w) : Post ⟨k, [], ro⟩ E C (bodyPost P fn R) .ret := fun a w ha hw => by
  refine ⟨ha.defers, _, ?_, hR w hw⟩
  simp [results_resS, hr, h1 a w ha hw, h2 a w ha hw, h3 a w ha hw]
end
end Go.Sx
