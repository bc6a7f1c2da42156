import Derived.WalkKit
import Derived.Deep.QuietTactic
import Derived.BigQuiet
import Derived.WalkSpells
import Derived.WalkLawsBesides
import Derived.OrdersHeld
import Derived.OwnWalkIn
import Derived.RangeFuncSeq
import Derived.RangeFuncCalls
import Derived.Maps.RangeRun
import Derived.Test.YtkmbliojafefdaaGreatDoorProg
import Derived.Lib.LazyBuf
import Derived.Scope
import Derived.ControlIn
import Derived.Laws.StructEq

/-
 A layer of symbolic frames over the walk's rules: a frame is known by an association list of its temporaries, memory by a class of worlds. General lemmas, no program text.
-/
set_option autoImplicit false
set_option linter.unusedSimpArgs false
set_option linter.unusedVariables false
namespace Go.Sx
abbrev Env := List (Nat × List Bool × Value)
def look : Env → Nat → Option (List Bool × Value)
 | [], _ => none
 | (k, cv) :: E, t => match Nat.beq k t with
   | true => some cv
   | false => look E t
def AllT (cs : List Bool) : Prop := ∀ b, b ∈ cs → b = true
def gval (cs : List Bool) (v : Value) : Value := if cs.all id then v else undef
theorem AllT.iff {cs : List Bool} : AllT cs ↔ cs.all id = true := by simp [AllT, List.all_eq_true]
theorem AllT.nil : AllT [] := by simp [AllT]
theorem gval_of {cs : List Bool} {v : Value} (h : AllT cs) : gval cs v = v := by simp [gval, AllT.iff.1 h]
structure Fr where
 sz : Nat
 D : List Deferred
 ro : Option Nat
abbrev Fw (r : Option Nat) : Fence := { fn := fun _ => True, depth := none, alive := false, round := r }
structure Sat (n : Fr) (E : Env) (a : Act) : Prop where
 defers : a.defers = n.D
 size : a.tmps.size = n.sz
 has : ∀ t cs v, look E t = some (cs, v) → a.tmps[t]? = some (gval cs v)
def evl (E : Env) : Operand → Option (List Bool × Value)
 | .tmp t => look E t
 | .const v => some ([], v)
 | .global g => some ([], .pointer (some ⟨g, 0, none⟩))
 | .func f => some ([], .func (.func f) #[] #[])
class Sub (a b : List Bool) : Prop where
 sub : AllT b → AllT a
instance Sub.nil (b : List Bool) : Sub [] b := ⟨fun _ => AllT.nil⟩
instance Sub.rfl (b : List Bool) : Sub b b := ⟨id⟩
theorem Sat.eval {n : Fr} {E : Env} {a : Act} (h : Sat n E a) {x : Operand} {cx cs : List Bool} {v : Value} (hx : evl E x = some (cx, v)) (hs : Sub cx cs) (hc : AllT cs) : a.eval x = v := by
 cases x with
 | tmp t =>
   have := h.has t cx v hx
   rw [gval_of (hs.sub hc)] at this
   simp [Act.eval, Array.getD_eq_getD_getElem?, this]
 | const u => simp [evl] at hx; simp [Act.eval, hx.2]
 | global g => simp [evl] at hx; simp [Act.eval, hx.2]
 | func f => simp [evl] at hx; simp [Act.eval, hx.2]
theorem Sat.put {n : Fr} {E : Env} {a : Act} (h : Sat n E a) {d : Nat} {cs : List Bool} {v : Value} (hd : d < n.sz) : Sat n ((d, cs, v) :: E) (a.put (some d) (gval cs v)) := by
 refine ⟨h.defers, by simp [Act.put, h.size], fun t cs' v' ht => ?_⟩
 simp only [look] at ht
 simp only [Act.put, Array.getElem?_setIfInBounds, h.size]
 cases hb : Nat.beq d t with
 | true =>
   rw [hb] at ht
   have : d = t := Nat.eq_of_beq_eq_true hb
   simp only [Option.some.injEq, Prod.mk.injEq] at ht
   obtain ⟨rfl, rfl⟩ := ht
   simp [this] at hd ⊢; exact hd
 | false =>
   rw [hb] at ht
   have : d ≠ t := Nat.ne_of_beq_eq_false hb
   simp [this, h.has t cs' v' ht]
theorem Sat.nodst {n : Fr} {E : Env} {a : Act} (h : Sat n E a) (v : Value) : Sat n E (a.put none v) := h
structure Le (E E' : Env) : Prop where
 le : ∀ t cv, look E' t = some cv → look E t = some cv
theorem Le.nil {E : Env} : Le E [] := ⟨fun _ _ h => by simp [look] at h⟩
theorem Le.cons {E E' : Env} {t : Nat} {cv : List Bool × Value} (h : look E t = some cv) (hr : Le E E') : Le E ((t, cv) :: E') := by
 refine ⟨fun u cu hu => ?_⟩
 simp only [look] at hu
 cases hb : Nat.beq t u with
 | true => rw [hb] at hu; have : t = u := Nat.eq_of_beq_eq_true hb; subst this; rw [h]; exact hu
 | false => rw [hb] at hu; exact hr.le u cu hu
theorem Le.cons' {E E' : Env} {t : Nat} {cs : List Bool} {v v' : Value} (h : look E t = some (cs, v)) (hv : v = v') (hr : Le E E') : Le E ((t, cs, v') :: E') := Le.cons (by rw [h, hv]) hr
theorem Sat.le {n : Fr} {E E' : Env} {a : Act} (h : Sat n E a) (l : Le E E') : Sat n E' a := ⟨h.defers, h.size, fun t cs v ht => h.has t cs v (l.le t _ ht)⟩
def gof (ops : Array Oper) (E : Env) : Option (Nat × Bool) → Option (List Bool)
 | none => some []
 | some (j, want) => match (ops[j]?).bind (·.dst) with
   | some d => match look E d with
     | some (cs, .bool b) => match want with
       | true => some (b :: cs)
       | false => some ((!b) :: cs)
     | _ => none
   | none => none
theorem gof_spec {ops : Array Oper} {E : Env} {n : Fr} {a : Act} {o : Oper} {cs : List Bool} (h : Sat n E a) (hg : gof ops E o.guard = some cs) :
   (AllT cs → Region.wanted o (yielded ops a.tmps) = true) ∧ (¬ AllT cs → Region.wanted o (yielded ops a.tmps) = false) := by
 unfold gof at hg
 unfold Region.wanted
 split at hg
 · rename_i hn
   simp only [Option.some.injEq] at hg; subst hg
   simp [hn, AllT.nil]
 · rename_i j want hn
   simp only [hn]
   split at hg
   · rename_i d hd
     split at hg
     · rename_i cs' b hl
       have ht := h.has d cs' (.bool b) hl
       simp only [yielded, hd, Option.bind_some, ht]
       by_cases hc : cs'.all id = true
       · simp only [gval, hc, if_true]
         cases want <;> simp only [Option.some.injEq] at hg <;> subst hg <;> simp [AllT.iff, hc] <;> cases b <;> simp_all
       · have : gval cs' (.bool b) = undef := by simp [gval, hc]
         rw [this]
         have hna : ¬ AllT cs' := fun h => hc (AllT.iff.1 h)
         have hcs : ¬ AllT cs := by
           intro hall
           apply hna
           cases want <;> simp only [Option.some.injEq] at hg <;> subst hg <;> exact fun x hx => hall x (List.mem_cons_of_mem _ hx)
         refine ⟨fun h => absurd h hcs, fun _ => ?_⟩
         simp [undef]
     · simp at hg
   · simp at hg
def OpQ (P : Program) (n : Fr) (E : Env) (C : World → Prop) (cs : List Bool) (o : Oper) (v : Value) : Prop :=
 ∀ a, Sat n E a → AllT cs → ∀ w, C w → o.quietAt P a C w v
def OpR (P : Program) (n : Fr) (E : Env) (C : World → Prop) (cs : List Bool) (o : Oper) (v : Value) : Prop :=
 ∀ a, Sat n E a → AllT cs → ∀ w, C w → (execOp a.eval o).run P w = .ok (.value v) w
theorem OpR.of_run {P : Program} {n : Fr} {E : Env} {C : World → Prop} {cs : List Bool} {o : Oper} {v : Value}
   (h : ∀ a, Sat n E a → AllT cs → ∀ w, C w → (execOp a.eval o).run P w = .ok (.value v) w) : OpR P n E C cs o v := h
theorem OpQ.of_run {P : Program} {n : Fr} {E : Env} {C : World → Prop} {cs : List Bool} {o : Oper} {v : Value}
   (h : ∀ a, Sat n E a → AllT cs → ∀ w, C w → (execOp a.eval o).run P w = .ok (.value v) w) : OpQ P n E C cs o v := fun a ha hc w hw => by
 unfold Oper.quietAt
 rw [h a ha hc w hw]
 exact ⟨rfl, rfl⟩
theorem OpR.q {P : Program} {n : Fr} {E : Env} {C : World → Prop} {cs : List Bool} {o : Oper} {v : Value} (h : OpR P n E C cs o v) : OpQ P n E C cs o v := .of_run h
def QW (P : Program) (ops : Array Oper) (C : World → Prop) (K : Act → Prop) (l : List Oper) (n : Fr) (E : Env) : Prop := ∀ a, Sat n E a → wpQuiet P ops C K l a
def SW (P : Program) (ops : Array Oper) (Q : Exit → Act → World → Prop) (l : List Oper) (n : Fr) (E : Env) (C : World → Prop) : Prop := ∀ a w, Sat n E a → C w → wpListIn (Fw n.ro) 0 P ops Q l a w
def CW (P : Program) (c : Code) (Q : Exit → Act → World → Prop) (n : Fr) (E : Env) (C : World → Prop) : Prop := ∀ a w, Sat n E a → C w → c.wpIn (Fw n.ro) 0 P Q a w
def Post (n : Fr) (E : Env) (C : World → Prop) (Q : Exit → Act → World → Prop) (e : Exit) : Prop := ∀ a w, Sat n E a → C w → Q e a w
section
variable {P : Program} {ops : Array Oper} {C : World → Prop} {n : Fr} {E : Env} {Q : Exit → Act → World → Prop} {K : Act → Prop}
theorem gval_not {cs : List Bool} {v : Value} (h : ¬ AllT cs) : gval cs v = undef := by
 have : cs.all id ≠ true := fun h' => h (AllT.iff.2 h')
 simp [gval, this]
theorem qw_step {o : Oper} {rest : List Oper} {d : Nat} {cs : List Bool} {v : Value} (hg : gof ops E o.guard = some cs) (hd : o.dst = some d) (hn : Nat.ble (d + 1) n.sz = true)
   (hop : OpQ P n E C cs o v) (h : QW P ops C K rest n ((d, cs, v) :: E)) : QW P ops C K (o :: rest) n E := by
 intro a ha
 have hw := gof_spec ha hg
 have hdn : d < n.sz := Nat.le_of_ble_eq_true hn
 unfold wpQuiet
 by_cases hc : AllT cs
 · rw [if_pos (hw.1 hc)]
   refine ⟨v, fun w hCw => hop a ha hc w hCw, ?_⟩
   have := h _ (ha.put (cs := cs) (v := v) hdn)
   rw [gval_of hc] at this
   rw [hd]; exact this
 · rw [if_neg (by rw [hw.2 hc]; simp)]
   have := h _ (ha.put (cs := cs) (v := v) hdn)
   rw [gval_not hc] at this
   rw [hd]; exact this
def EffRun (P : Program) (o : Oper) (a : Act) (w : World) (R : Value → World → Prop) : Prop :=
 (∃ v w', (execOp a.eval o).run P w = .ok (.value v) w' ∧ R v w') ∨ (∃ w', (execOp a.eval o).run P w = .ok .skip w' ∧ R undef w') ∨
 (∃ f args, (execOp a.eval o).run P w = .ok (.enter f args) w ∧ Calls P f args w fun e w' => ∃ v, e = .returned v ∧ R v w')
theorem EffRun.wp {o : Oper} {a : Act} {w : World} {R : Value → World → Prop} {K : Act → World → Prop} (h : EffRun P o a w R) (hK : ∀ v w', R v w' → K (a.put o.dst v) w') : o.wp P a w K Q := by
 unfold Oper.wp
 rcases h with ⟨v, w', hr, hR⟩ | ⟨w', hr, hR⟩ | ⟨f, args, hr, hc⟩
 · rw [hr]; exact hK v w' hR
 · rw [hr]; exact hK undef w' hR
 · rw [hr]
   refine hc.mono ?_
   rintro e w' ⟨v, rfl, hR⟩
   exact hK v w' hR
theorem EffRun.noDefer {o : Oper} {a : Act} {w : World} {R : Value → World → Prop} (h : EffRun P o a w R) (c : Call) : o.op ≠ .defer c := by
 intro ho
 have hx : execOp a.eval o = (do pure (Next.defer (← resolve a.eval c o.type))) := by unfold execOp; rw [ho]
 rcases h with ⟨v, w', hr, _⟩ | ⟨w', hr, _⟩ | ⟨f, args, hr, _⟩ <;> rw [hx, Sem.run_bind] at hr <;> cases hc : (resolve a.eval c o.type).run P w <;> rw [hc] at hr <;> simp [Result.andThen] at hr
theorem EffRun.wpIn {o : Oper} {a : Act} {w : World} {R : Value → World → Prop} {K : Act → World → Prop} {r : Option Nat} (h : EffRun P o a w R) (hK : ∀ v w', R v w' → K (a.put o.dst v) w') : o.wpIn (Fw r) 0 P a w K Q := by
 refine ⟨fun _ _ => trivial, ?_⟩
 rw [Oper.semAt_eq _ _ _ h.noDefer]
 rcases h with ⟨v, w', hr, hR⟩ | ⟨w', hr, hR⟩ | ⟨f, args, hr, hc⟩
 · rw [hr]; exact hK v w' hR
 · rw [hr]; exact hK undef w' hR
 · rw [hr]
   refine ⟨fun h => by simp at h, CallsIn.mono (F := Fw r) (callsIn_wide (n := 0).2 hc) ?_⟩
   rintro e w' ⟨v, rfl, hR⟩
   exact hK v w' hR
theorem quiet_eff {o : Oper} {a : Act} {w : World} {v : Value} (h : o.quietAt P a C w v) (hw : C w) : EffRun P o a w (fun v' w' => v' = v ∧ C w') := by
 unfold Oper.quietAt at h
 unfold EffRun
 generalize (execOp a.eval o).run P w = r at h
 cases r with
 | ok x w' =>
   cases x <;> simp only [Oper.quietUpon] at h
   case value u => obtain ⟨rfl, rfl⟩ := h; exact .inl ⟨_, _, rfl, rfl, hw⟩
   case skip => obtain ⟨rfl, rfl⟩ := h; exact .inr (.inl ⟨_, rfl, rfl, hw⟩)
   case enter f args => obtain ⟨rfl, hc⟩ := h; exact .inr (.inr ⟨f, args, rfl, hc.mono fun e w'' ⟨he, hC⟩ => ⟨v, he, rfl, hC⟩⟩)
 | halt x w' => simp only [Oper.quietUpon] at h
theorem sw_step {o : Oper} {rest : List Oper} {d : Nat} {cs : List Bool} {v : Value} (hg : gof ops E o.guard = some cs) (hd : o.dst = some d) (hn : Nat.ble (d + 1) n.sz = true)
   (hop : OpQ P n E C cs o v) (h : SW P ops Q rest n ((d, cs, v) :: E) C) : SW P ops Q (o :: rest) n E C := by
 intro a w ha hCw
 have hw := gof_spec ha hg
 have hdn : d < n.sz := Nat.le_of_ble_eq_true hn
 refine wpListIn_step fun K hK => ?_
 by_cases hc : AllT cs
 · rw [if_pos (hw.1 hc)]
   refine (quiet_eff (hop a ha hc w hCw) hCw).wpIn fun v' w' hR => hK _ _ ?_
   obtain ⟨rfl, hw'⟩ := hR
   have := h _ w' (ha.put (cs := cs) (v := v') hdn) hw'
   rw [gval_of hc] at this
   rw [hd]; exact this
 · rw [if_neg (by rw [hw.2 hc]; simp)]
   refine ⟨fun _ _ => trivial, hK _ _ ?_⟩
   have := h _ w (ha.put (cs := cs) (v := v) hdn) hCw
   rw [gval_not hc] at this
   rw [hd]; exact this
theorem sw_nil (h : Post n E C Q .normal) : SW P ops Q [] n E C := h
def OpE (P : Program) (n : Fr) (E : Env) (C : World → Prop) (o : Oper) (R : Value → World → Prop) : Prop :=
 ∀ a w, Sat n E a → C w → EffRun P o a w R
theorem OpQ.eff {o : Oper} {v : Value} (h : OpQ P n E C [] o v) : OpE P n E C o (fun v' w' => v' = v ∧ C w') := fun a w ha hw => quiet_eff (h a ha AllT.nil w hw) hw
theorem OpE.of_run {o : Oper} {R : Value → World → Prop} (h : ∀ a w, Sat n E a → C w → ∃ v w', (execOp a.eval o).run P w = .ok (.value v) w' ∧ R v w') : OpE P n E C o R :=
 fun a w ha hw => .inl (h a w ha hw)
theorem OpE.of_run0 {o : Oper} {R : World → Prop} (h : ∀ a w, Sat n E a → C w → ∃ w', (execOp a.eval o).run P w = .ok .skip w' ∧ R w') : OpE P n E C o (fun v w' => v = undef ∧ R w') :=
 fun a w ha hw => let ⟨w', hr, hR⟩ := h a w ha hw; .inr (.inl ⟨w', hr, rfl, hR⟩)
theorem OpE.of_call {o : Oper} {R : Value → World → Prop} {f : FuncId} {args : Array Value} (hx : ∀ a w, Sat n E a → C w → (execOp a.eval o).run P w = .ok (.enter f args) w)
   (h : ∀ w, C w → Calls P f args w fun e w' => ∃ v, e = .returned v ∧ R v w') : OpE P n E C o R :=
 fun a w ha hw => .inr (.inr ⟨f, args, hx a w ha hw, h w hw⟩)
theorem sw_eff {o : Oper} {rest : List Oper} {d : Nat} {R : Value → World → Prop} (hg : o.guard = none) (hd : o.dst = some d) (hn : Nat.ble (d + 1) n.sz = true)
   (hop : OpE P n E C o R) (h : ∀ v, SW P ops Q rest n ((d, [], v) :: E) (R v)) : SW P ops Q (o :: rest) n E C := by
 intro a w ha hCw
 refine wpListIn_plain hg fun K hK => ((hop a w ha hCw).wpIn fun v w' hR => hK _ _ ?_)
 have := h v _ w' (ha.put (cs := []) (v := v) (Nat.le_of_ble_eq_true hn)) hR
 rw [hd]; exact this
theorem sw_effg {o : Oper} {rest : List Oper} {d : Nat} {cs : List Bool} {R : Value → World → Prop} (hg : gof ops E o.guard = some cs) (hcs : AllT cs) (hd : o.dst = some d) (hn : Nat.ble (d + 1) n.sz = true)
   (hop : OpE P n E C o R) (h : ∀ v, SW P ops Q rest n ((d, [], v) :: E) (R v)) : SW P ops Q (o :: rest) n E C := by
 intro a w ha hCw
 refine wpListIn_step fun K hK => ?_
 rw [if_pos ((gof_spec ha hg).1 hcs)]
 refine (hop a w ha hCw).wpIn fun v w' hR => hK _ _ ?_
 have := h v _ w' (ha.put (cs := []) (v := v) (Nat.le_of_ble_eq_true hn)) hR
 rw [hd]; exact this
theorem sw_eff0 {o : Oper} {rest : List Oper} {R : World → Prop} (hg : o.guard = none) (hd : o.dst = none)
   (hop : OpE P n E C o (fun v w' => v = undef ∧ R w')) (h : SW P ops Q rest n E R) : SW P ops Q (o :: rest) n E C := by
 intro a w ha hCw
 refine wpListIn_plain hg fun K hK => ((hop a w ha hCw).wpIn fun v w' hR => hK _ _ ?_)
 rw [hd]; exact h _ w' (ha.nodst v) hR.2
theorem sw_imp {l : List Oper} {p : Prop} {C' : World → Prop} (h : p → SW P ops Q l n E C') : SW P ops Q l n E (fun w => p ∧ C' w) := fun a w ha hw => h hw.1 a w ha hw.2
theorem sw_ex {l : List Oper} {α : Type} {C' : α → World → Prop} (h : ∀ x, SW P ops Q l n E (C' x)) : SW P ops Q l n E (fun w => ∃ x, C' x w) := fun a w ha ⟨x, hx⟩ => h x a w ha hx
theorem sw_le {l : List Oper} {C' : World → Prop} (hC : ∀ w, C w → C' w) (h : SW P ops Q l n E C') : SW P ops Q l n E C := fun a w ha hw => h a w ha (hC w hw)
theorem cw_imp {c : Code} {p : Prop} {C' : World → Prop} (h : p → CW P c Q n E C') : CW P c Q n E (fun w => p ∧ C' w) := fun a w ha hw => h hw.1 a w ha hw.2
theorem cw_seq {x y : Code} (h : CW P x (Exit.then (y.wpIn (Fw n.ro) 0 P Q) Q) n E C) : CW P (.seq x y) Q n E C := fun a w ha hw => wpIn_seq (h a w ha hw)
theorem cw_block {id : Nat} {c : Code} (h : CW P c (Exit.inBlock id Q) n E C) : CW P (.block id c) Q n E C := fun a w ha hw => wpIn_block (h a w ha hw)
theorem cw_skip (h : Post n E C Q .normal) : CW P .skip Q n E C := fun a w ha hw => wpIn_skip (h a w ha hw)
theorem cw_exit {id : Nat} (h : Post n E C Q (.exit id)) : CW P (.exit id) Q n E C := fun a w ha hw => wpIn_exit (h a w ha hw)
theorem cw_ret (h : Post n E C Q .ret) : CW P .ret Q n E C := fun a w ha hw => wpIn_ret (h a w ha hw)
theorem cw_cond {x : Operand} {c d : Code} {b : Bool} (hx : evl E x = some ([], .bool b)) (ht : b = true → CW P c Q n E C) (hf : b = false → CW P d Q n E C) : CW P (.cond x c d) Q n E C := by
 intro a w ha hw
 refine wpIn_cond_split (ha.eval hx ⟨id⟩ AllT.nil) (fun h => ht h a w ha hw) (fun h => hf h a w ha hw)
theorem cw_region {id : Nat} {l : List Oper} (h : SW P l.toArray Q l n E C) : CW P (.region id l.toArray false) Q n E C := fun a w ha hw => wpIn_region_lit (h a w ha hw)
class Drawn (C : World → Prop) : Prop where
 drawn : ∀ w, C w → C { w with drawn := w.drawn + 1 }
class RegOk (n : Fr) (Q : Exit → Act → World → Prop) : Prop where
 ok : n.ro = none ∨ ¬ LetsOut Q
instance (k : Nat) (D : List Deferred) (Q : Exit → Act → World → Prop) : RegOk ⟨k, D, none⟩ Q := ⟨.inl rfl⟩
def noDefer (ops : Array Oper) : Bool := ops.all fun o => match o.op with
 | .defer _ => false
 | _ => true
theorem noDefer_spec (h : noDefer ops = true) {i : Nat} {o : Oper} (hi : ops[i]? = some o) (c : Call) : o.op ≠ .defer c := by
 intro ho
 have h1 := Array.all_eq_true.1 h i (Array.getElem?_eq_some_iff.1 hi).1
 rw [(Array.getElem?_eq_some_iff.1 hi).2, ho] at h1
 simp at h1
theorem Oper.in_of_wp {o : Oper} {a : Act} {w : World} {K : Act → World → Prop} {r : Option Nat} (hd : ∀ c, o.op ≠ .defer c) (hQ : ¬ LetsOut Q) (h : o.wp P a w K Q) : o.wpIn (Fw r) 0 P a w K Q := by
 refine ⟨fun _ _ => trivial, ?_⟩
 rw [Oper.semAt_eq _ _ _ hd]
 unfold Oper.wp at h
 generalize (execOp a.eval o).run P w = x at h
 cases x with
 | ok x w' =>
   cases x with
   | enter f args => exact ⟨fun h => by simp at h, CallsIn.mono (F := Fw r) ((callsIn_wide (n := 0)).2 h) fun e w'' he => he⟩
   | row f args => exact ⟨fun h => by simp at h, fun c cs _ => let ⟨v, w', r, s⟩ := h c cs; ⟨v, w', r, stepsIn_wide.2 s⟩⟩
   | round => exact h.elim
   | _ => exact h
 | halt x w' => cases x <;> first | exact h | exact h.elim
theorem any_in {r : Option Nat} (hd : noDefer ops = true) (hQ : ¬ LetsOut Q) : ∀ (f : Nat) (listed : Array Bool) (a : Act) (w : World), wpAny P .any ops Q f listed a w → wpAnyIn (Fw r) 0 P .any ops Q f listed a w
 | 0, _, _, _, h => h
 | f + 1, listed, a, w, h => by
   refine ⟨h.1, fun i hi => ?_⟩
   have h2 := h.2 i hi
   unfold wpOp at h2
   unfold wpOpIn
   cases ho : ops[i]? with
   | none => rw [ho] at h2; exact any_in hd hQ f _ _ _ h2
   | some o =>
     rw [ho] at h2
     simp only at h2 ⊢
     split at h2
     · rename_i hw
       rw [if_pos hw]
       rcases h2 with h2 | h2
       · exact Oper.in_of_wp (noDefer_spec hd ho) hQ (Oper.wp_mono (fun a' w' h3 => any_in hd hQ f _ a' w' h3) h2)
       · exact absurd h2.2 hQ
     · rename_i hw
       rw [if_neg hw]
       exact ⟨fun _ _ => trivial, any_in hd hQ f _ _ _ h2⟩
theorem region_any {id : Nat} {a : Act} {w : World} [hR : RegOk n Q] (hm : P.follows .mixedOrders = true) (hd : noDefer ops = true)
   (h : wpAny P .any ops Q ops.size (Array.replicate ops.size false) a { w with drawn := w.drawn + 1 }) : (Code.region id ops true).wpIn (Fw n.ro) 0 P Q a w := by
 rcases hR.ok with hr | hQ
 · rw [hr]; exact wpIn_wide.2 (wp_region_any hm h)
 · exact wpIn_region_any hm (any_in hd hQ _ _ _ _ h)
theorem cw_region_q {id : Nat} {l : List Oper} [hD : Drawn C] [hR : RegOk n Q] (hm : P.follows .mixedOrders = true) (hB : Region.lexB .any l.toArray = true)
   (h : QW P l.toArray C (fun a' => ∀ w', C w' → Q .normal a' w') l n E) (hnd : noDefer l.toArray = true := by kernel_rfl) : CW P (.region id l.toArray true) Q n E C := by
 intro a w ha hw
 simp only [Region.lexB, Bool.and_eq_true] at hB
 refine region_any hm hnd (wpAny_of_quiet (Q := fun a' => ∀ w', C w' → Q .normal a' w') (fun _ w' hw' h => h w' hw') _ _ _ _ (hD.drawn w hw) ?_)
 have := wpAnyQ_lex (C := C) (md := .any) hB.1 l.toArray.toList 0 (Array.replicate l.toArray.size false) a (by simp) (by simpa using hB.2) (by simpa using h a ha)
 simpa using this
theorem qw_end (h : Post n E C Q .normal) : QW P ops C (fun a' => ∀ w', C w' → Q .normal a' w') [] n E := fun a ha w' hw' => h a w' ha hw'
theorem post_c {e : Exit} {C' : World → Prop} (hC : ∀ w, C w → C' w) (h : Post n E C' Q e) : Post n E C Q e := fun a w ha hw => h a w ha (hC w hw)
theorem cw_c {c : Code} {C' : World → Prop} (hC : ∀ w, C w → C' w) (h : CW P c Q n E C') : CW P c Q n E C := fun a w ha hw => h a w ha (hC w hw)
theorem post_then {y : Code} (h : CW P y Q n E C) : Post n E C (Exit.then (y.wpIn (Fw n.ro) 0 P Q) Q) .normal := h
theorem post_then_x {K : Act → World → Prop} {i : Nat} (h : Post n E C Q (.exit i)) : Post n E C (Exit.then K Q) (.exit i) := h
theorem post_then_r {K : Act → World → Prop} (h : Post n E C Q .ret) : Post n E C (Exit.then K Q) .ret := h
theorem post_blk {i : Nat} (h : Post n E C Q .normal) : Post n E C (Exit.inBlock i Q) .normal := h
theorem post_blk_eq {i : Nat} (h : Post n E C Q .normal) : Post n E C (Exit.inBlock i Q) (.exit i) := fun a w ha hw => by simp only [Exit.inBlock, if_true]; exact h a w ha hw
theorem post_blk_ne {i j : Nat} (hn : Nat.beq j i = false) (h : Post n E C Q (.exit j)) : Post n E C (Exit.inBlock i Q) (.exit j) := fun a w ha hw => by
 simp only [Exit.inBlock, if_neg (Nat.ne_of_beq_eq_false hn)]; exact h a w ha hw
theorem post_blk_r {i : Nat} (h : Post n E C Q .ret) : Post n E C (Exit.inBlock i Q) .ret := h
def AnyS (P : Program) (ops : Array Oper) (Q : Exit → Act → World → Prop) (S : World → Prop) (m : List Nat) : Nat → Array Bool → Act → World → Prop
 | 0, listed, a, w => Region.ready .any ops listed = [] ∧ Q .normal a w
 | f + 1, listed, a, w => (Region.ready .any ops listed = [] → Q .normal a w) ∧
   ∀ i ∈ Region.ready .any ops listed, wpOp P ops Q i (fun a' w' => (m.contains i = false → S w → S w') ∧ AnyS P ops Q S m f (listed.setIfInBounds i true) a' w') a w
theorem anyS_any {S : World → Prop} {m : List Nat} : ∀ (f : Nat) (listed : Array Bool) (a : Act) (w : World), AnyS P ops Q S m f listed a w → wpAny P .any ops Q f listed a w
 | 0, _, _, _, h => h
 | f + 1, _, _, _, h => ⟨h.1, fun i hi => wpOp_mono (fun a' w' h' => anyS_any f _ a' w' h'.2) (h.2 i hi)⟩
theorem getD_tf {listed : Array Bool} {i : Nat} (h : listed.getD i false = true) : listed.getD i true = true := by
 cases hx : listed[i]? <;> simp [hx] at h ⊢; exact h
def Closed (ops : Array Oper) (listed : Array Bool) : Prop := ∀ k o, ops[k]? = some o → listed.getD k true = true → ∀ e ∈ o.after, Region.binds .any e = true → listed.getD e.on false = true
def reachB (ops : Array Oper) (i : Nat) : Nat → Nat → Bool
 | 0, _ => false
 | f + 1, j => match ops[j]? with
   | some o => o.after.any fun e => Region.binds .any e && (Nat.beq e.on i || reachB ops i f e.on)
   | none => false
theorem reach_listed {listed : Array Bool} {i : Nat} (hc : Closed ops listed) : ∀ (f j : Nat) (o : Oper), ops[j]? = some o → (∀ e ∈ o.after, Region.binds .any e = true → listed.getD e.on false = true) → reachB ops i f j = true → listed.getD i false = true
 | 0, _, _, _, _, h => by simp [reachB] at h
 | f + 1, j, o, hj, ha, h => by
   simp only [reachB, hj] at h
   obtain ⟨e, he, h2⟩ := Array.any_eq_true'.1 h
   simp only [Bool.and_eq_true, Bool.or_eq_true] at h2
   have h3 := ha e he h2.1
   rcases h2.2 with h4 | h4
   · rw [← Nat.eq_of_beq_eq_true h4]; exact h3
   · cases hk : ops[e.on]? with
     | none => cases f <;> simp [reachB, hk] at h4
     | some o' => exact reach_listed hc f e.on o' hk (hc e.on o' hk (getD_tf h3)) h4
theorem Closed.set {listed : Array Bool} {j : Nat} (hc : Closed ops listed) (hj : j ∈ Region.ready .any ops listed) : Closed ops (listed.setIfInBounds j true) := by
 intro k o hk hl e he hb
 have mono : ∀ x, listed.getD x false = true → (listed.setIfInBounds j true).getD x false = true := fun x hx => getD_set_true hx
 by_cases hjk : j = k
 · subst hjk
   obtain ⟨_, oj, hoj, ha⟩ := mem_ready.1 hj
   rw [hk] at hoj; cases hoj
   exact mono _ (ha e he hb)
 · rw [getD_set_ne true hjk] at hl
   exact mono _ (hc k o hk hl e he hb)
theorem anyS_first {S T : World → Prop} {m : List Nat} {i : Nat} {oi : Oper} {v : Value} (hi : ops[i]? = some oi) (hsel : ∀ (j : Nat) (o : Oper) cs b, ops[j]? = some o → o.op ≠ .select cs b)
   (hQ : ∀ c a w, Q (.panic c) (a.put oi.dst v) w → Q (.panic c) a w)
   (hT : (∀ w, T w) ∨ (T = S ∧ ∀ j oj, ops[j]? = some oj → m.contains j = true → j ≠ i → reachB ops i ops.size j = true)) :
   ∀ (f : Nat) (listed : Array Bool) (a : Act) (w : World), Closed ops listed → i < listed.size →
     (∀ j oj, ops[j]? = some oj → j ≠ i → listed.getD j true = false → (∀ e ∈ oj.after, Region.binds .any e = true → e.on ≠ i) → oi.apart ops oj = true) →
     i ∈ Region.ready .any ops listed → YieldsIf P ops T oi v a → T w →
     AnyS P ops Q S m f (listed.setIfInBounds i true) (a.put oi.dst v) w → AnyS P ops Q S m (f + 1) listed a w := by
 intro f
 induction f with
 | zero =>
   intro listed a w _ _ _ hr hy hS H
   refine ⟨fun h => (by rw [h] at hr; cases hr), fun j hj => ?_⟩
   by_cases hji : j = i
   · subst hji; exact hy.wpOp hi hS ⟨fun _ h => h, H⟩
   · have h0 := ready_mono hj hji
     rw [H.1] at h0
     cases h0
 | succ f ih =>
   intro listed a w hcl hsz hfree hr hy hS H
   refine ⟨fun h => (by rw [h] at hr; cases hr), fun j hj => ?_⟩
   by_cases hji : j = i
   · subst hji; exact hy.wpOp hi hS ⟨fun _ h => h, H⟩
   · have h1 := H.2 j (ready_mono hj hji)
     obtain ⟨hun, oj, hoj, hafter⟩ := mem_ready.1 hj
     have hi0 := (mem_ready.1 hr).1
     have hnot : ∀ e ∈ oj.after, Region.binds .any e = true → e.on ≠ i := by
       intro e he hb heq
       have h2 := hafter e he hb
       rw [heq] at h2
       simp [hsz] at hi0 h2
       rw [hi0] at h2
       cases h2
     have hkeep : ∀ w', (m.contains j = false → S w → S w') → T w' := by
       intro w' hc
       rcases hT with hT | ⟨rfl, hlate⟩
       · exact hT w'
       · refine hc ?_ hS
         cases hm : m.contains j
         · rfl
         · have h2 := reach_listed hcl _ _ _ hoj hafter (hlate j oj hoj hm hji)
           rw [getD_tf h2] at hi0
           cases hi0
     have h2 := wpOp_putIf hoj (hfree j oj hoj hji hun hnot) (fun cs b => hsel i oi cs b hi) (fun cs b => hsel j oj cs b hoj) hQ hy h1
     refine wpOp_mono (fun a' w' h3 => ⟨h3.2.1, ih (listed.setIfInBounds j true) a' w' (hcl.set hj) (by simpa using hsz) ?_ (ready_mono hr (Ne.symm hji)) h3.1 (hkeep w' h3.2.1) ?_⟩) h2
     · intro k ok hk hki hku hkn
       refine hfree k ok hk hki ?_ hkn
       by_cases hjk : j = k
       · subst hjk; exact hun
       · rw [getD_set_ne true hjk] at hku; exact hku
     · rw [Array.setIfInBounds_comm _ _ hji]
       exact h3.2.2
class PanicOk (Q : Exit → Act → World → Prop) : Prop where
 ok : ∀ c (a : Act) (d : Option Tmp) (v : Value) w, Q (.panic c) (a.put d v) w → Q (.panic c) a w
instance (K : Act → World → Prop) [h : PanicOk Q] : PanicOk (Exit.then K Q) := ⟨h.ok⟩
instance (i : Nat) [h : PanicOk Q] : PanicOk (Exit.inBlock i Q) := ⟨h.ok⟩
instance (fn : Func) (R : Ending → World → Prop) : PanicOk (bodyPost P fn R) := ⟨fun _ a d v _ h => by cases d <;> exact h⟩
def AW (P : Program) (ops : Array Oper) (Q : Exit → Act → World → Prop) (S : World → Prop) (m : List Nat) (f : Nat) (listed : Array Bool) (n : Fr) (E : Env) (C : World → Prop) : Prop :=
 ∀ a w, Sat n E a → C w → AnyS P ops Q S m f listed a w
theorem blt_lt {a b : Nat} (h : Nat.blt a b = true) : a < b := by simpa using h
def lateB (ops : Array Oper) (m : List Nat) (i : Nat) : Bool := m.all fun j => Nat.beq j i || reachB ops i ops.size j
theorem lateB_spec {m : List Nat} {i : Nat} (h : lateB ops m i = true) : ∀ j oj, ops[j]? = some oj → m.contains j = true → j ≠ i → reachB ops i ops.size j = true := by
 intro j oj hj hm hji
 have h1 := List.all_eq_true.1 h j (by simpa using hm)
 simp only [Bool.or_eq_true] at h1
 rcases h1 with h1 | h1
 · exact absurd (Nat.eq_of_beq_eq_true h1) hji
 · exact h1
def closedB (ops : Array Oper) (listed : Array Bool) : Bool := (List.range ops.size).all fun k => !(listed.getD k true) || (match ops[k]? with
 | some o => o.after.all fun e => !(Region.binds .any e) || listed.getD e.on false
 | none => true)
theorem closedB_spec {listed : Array Bool} (h : closedB ops listed = true) : Closed ops listed := by
 intro k o hk hl e he hb
 have hlt : k < ops.size := (Array.getElem?_eq_some_iff.1 hk).1
 have h1 := List.all_eq_true.1 h k (List.mem_range.2 hlt)
 simp only [hl, hk, Bool.not_true, Bool.false_or] at h1
 have h2 := Array.all_eq_true'.1 h1 e he
 simpa [hb] using h2
theorem cw_region_a {id : Nat} {l : List Oper} (S : World → Prop) (m : List Nat) [hD : Drawn C] [hR : RegOk n Q] (hm : P.follows .mixedOrders = true) (h : AW P l.toArray Q S m l.toArray.size (Array.replicate l.toArray.size false) n E C) (hnd : noDefer l.toArray = true := by kernel_rfl) :
   CW P (.region id l.toArray true) Q n E C := fun a w ha hw => region_any hm hnd (anyS_any _ _ _ _ (h a _ ha (hD.drawn w hw)))
theorem aw_take {S : World → Prop} {m : List Nat} {f : Nat} {listed : Array Bool} (i : Nat) {o : Oper} {d : Nat} {cs : List Bool} {v : Value} [hP : PanicOk Q] (hS : ∀ w, C w → S w) (hi : ops[i]? = some o) (hs : Region.noSelect ops = true) (hl : lateB ops m i = true) (hcl : closedB ops listed = true)
   (hf : Region.free .any ops listed i = true) (hr : (Region.ready .any ops listed).contains i = true) (hz : Nat.blt i listed.size = true)
   (hg : gof ops E o.guard = some cs) (hd : o.dst = some d) (hn : Nat.ble (d + 1) n.sz = true) (hop : OpR P n E S cs o v)
   (h : AW P ops Q S m f (listed.setIfInBounds i true) n ((d, cs, v) :: E) C) : AW P ops Q S m (f + 1) listed n E C := by
 intro a w ha hw
 have hgs := gof_spec ha hg
 have hdn : d < n.sz := Nat.le_of_ble_eq_true hn
 refine anyS_first (v := gval cs v) hi (Region.noSelect_spec hs) (fun c a w hq => hP.ok c a _ _ w hq) (.inr ⟨rfl, lateB_spec hl⟩) f listed a w (closedB_spec hcl) (blt_lt hz) (Region.free_spec hi hf) (by simpa using hr) ?_ (hS w hw) ?_
 · by_cases hc : AllT cs
   · exact .inl ⟨hgs.1 hc, fun w' hw' => by rw [gval_of hc]; exact hop a ha hc w' hw'⟩
   · exact .inr ⟨hgs.2 hc, gval_not hc⟩
 · have := h _ w (ha.put (cs := cs) (v := v) hdn) hw
   rw [hd]; exact this
theorem aw_pure {S : World → Prop} {m : List Nat} {f : Nat} {listed : Array Bool} (i : Nat) {o : Oper} {d : Nat} {cs : List Bool} {v : Value} [hP : PanicOk Q] (hi : ops[i]? = some o) (hs : Region.noSelect ops = true) (hcl : closedB ops listed = true)
   (hf : Region.free .any ops listed i = true) (hr : (Region.ready .any ops listed).contains i = true) (hz : Nat.blt i listed.size = true)
   (hg : gof ops E o.guard = some cs) (hd : o.dst = some d) (hn : Nat.ble (d + 1) n.sz = true) (hop : OpR P n E (fun _ => True) cs o v)
   (h : AW P ops Q S m f (listed.setIfInBounds i true) n ((d, cs, v) :: E) C) : AW P ops Q S m (f + 1) listed n E C := by
 intro a w ha hw
 have hgs := gof_spec ha hg
 have hdn : d < n.sz := Nat.le_of_ble_eq_true hn
 refine anyS_first (T := fun _ => True) (v := gval cs v) hi (Region.noSelect_spec hs) (fun c a w hq => hP.ok c a _ _ w hq) (.inl fun _ => trivial) f listed a w (closedB_spec hcl) (blt_lt hz) (Region.free_spec hi hf) (by simpa using hr) ?_ trivial ?_
 · by_cases hc : AllT cs
   · exact .inl ⟨hgs.1 hc, fun w' hw' => by rw [gval_of hc]; exact hop a ha hc w' hw'⟩
   · exact .inr ⟨hgs.2 hc, gval_not hc⟩
 · have := h _ w (ha.put (cs := cs) (v := v) hdn) hw
   rw [hd]; exact this
theorem aw_one {S : World → Prop} {m : List Nat} {f : Nat} {listed : Array Bool} (i : Nat) {o : Oper} {d : Nat} {R : Value → World → Prop} (hr : Region.ready .any ops listed = [i]) (hi : ops[i]? = some o) (hg : o.guard = none) (hd : o.dst = some d) (hn : Nat.ble (d + 1) n.sz = true)
   (hop : OpE P n E C o R) (hS : m.contains i = false → ∀ v w, R v w → S w) (h : ∀ v, AW P ops Q S m f (listed.setIfInBounds i true) n ((d, [], v) :: E) (R v)) : AW P ops Q S m (f + 1) listed n E C := by
 intro a w ha hw
 refine ⟨fun h0 => (by rw [hr] at h0; cases h0), fun j hj => ?_⟩
 rw [hr] at hj
 obtain rfl := List.mem_singleton.1 hj
 unfold wpOp
 simp only [hi]
 rw [if_pos (by simp [Region.wanted, hg])]
 refine .inl ((hop a w ha hw).wp fun v w' hR => ⟨fun him _ => hS him v w' hR, ?_⟩)
 have := h v _ w' (ha.put (cs := []) (v := v) (Nat.le_of_ble_eq_true hn)) hR
 rw [hd]; exact this
theorem aw_one0 {S : World → Prop} {m : List Nat} {f : Nat} {listed : Array Bool} (i : Nat) {o : Oper} {R : World → Prop} (hr : Region.ready .any ops listed = [i]) (hi : ops[i]? = some o) (hg : o.guard = none) (hd : o.dst = none)
   (hop : OpE P n E C o (fun v w' => v = undef ∧ R w')) (hS : m.contains i = false → ∀ w, R w → S w) (h : AW P ops Q S m f (listed.setIfInBounds i true) n E R) : AW P ops Q S m (f + 1) listed n E C := by
 intro a w ha hw
 refine ⟨fun h0 => (by rw [hr] at h0; cases h0), fun j hj => ?_⟩
 rw [hr] at hj
 obtain rfl := List.mem_singleton.1 hj
 unfold wpOp
 simp only [hi]
 rw [if_pos (by simp [Region.wanted, hg])]
 refine .inl ((hop a w ha hw).wp fun v w' hR => ⟨fun him _ => hS him w' hR.2, ?_⟩)
 have := h _ w' (ha.nodst v) hR.2
 rw [hd]; exact this
theorem aw_end {S : World → Prop} {m : List Nat} {listed : Array Bool} (hr : Region.ready .any ops listed = []) (h : Post n E C Q .normal) : AW P ops Q S m 0 listed n E C := fun a w ha hw => ⟨hr, h a w ha hw⟩
theorem aw_ex {S : World → Prop} {m : List Nat} {f : Nat} {listed : Array Bool} {α : Type} {C' : α → World → Prop} (h : ∀ x, AW P ops Q S m f listed n E (C' x)) : AW P ops Q S m f listed n E (fun w => ∃ x, C' x w) := fun a w ha ⟨x, hx⟩ => h x a w ha hx
theorem aw_imp {S : World → Prop} {m : List Nat} {f : Nat} {listed : Array Bool} {p : Prop} {C' : World → Prop} (h : p → AW P ops Q S m f listed n E C') : AW P ops Q S m f listed n E (fun w => p ∧ C' w) := fun a w ha hw => h hw.1 a w ha hw.2
theorem aw_c {S : World → Prop} {m : List Nat} {f : Nat} {listed : Array Bool} {C' : World → Prop} (hC : ∀ w, C w → C' w) (h : AW P ops Q S m f listed n E C') : AW P ops Q S m f listed n E C := fun a w ha hw => h a w ha (hC w hw)
theorem aw_x {S : World → Prop} {m : List Nat} {f : Nat} {listed : Array Bool} {α : Type} {vf : α → Value} {C' : α → World → Prop} (i : Nat) {o : Oper} {d : Nat} (hr : Region.ready .any ops listed = [i]) (hi : ops[i]? = some o) (hg : o.guard = none) (hd : o.dst = some d) (hn : Nat.ble (d + 1) n.sz = true)
   (hop : OpE P n E C o (fun v w' => ∃ x, v = vf x ∧ C' x w')) (hS : m.contains i = false → ∀ x w, C' x w → S w) (h : ∀ x, AW P ops Q S m f (listed.setIfInBounds i true) n ((d, [], vf x) :: E) (C' x)) : AW P ops Q S m (f + 1) listed n E C :=
 aw_one i hr hi hg hd hn hop (fun hb v w ⟨x, _, hx⟩ => hS hb x w hx) fun _ => aw_ex fun x => aw_imp fun hv => by subst hv; exact h x
theorem aw_q {S : World → Prop} {m : List Nat} {f : Nat} {listed : Array Bool} (i : Nat) {o : Oper} {d : Nat} {v : Value} (hr : Region.ready .any ops listed = [i]) (hi : ops[i]? = some o) (hg : o.guard = none) (hd : o.dst = some d) (hn : Nat.ble (d + 1) n.sz = true)
   (hop : OpQ P n E C [] o v) (hS : m.contains i = false → ∀ w, C w → S w) (h : AW P ops Q S m f (listed.setIfInBounds i true) n ((d, [], v) :: E) C) : AW P ops Q S m (f + 1) listed n E C :=
 aw_one i hr hi hg hd hn hop.eff (fun hb v w hx => hS hb w hx.2) fun _ => aw_imp fun hv => by subst hv; exact h
theorem least {S : Type} (p : S → Prop) (μ : S → Nat) : ∀ m s, μ s = m → p s → ∃ s, p s ∧ ∀ s', p s' → μ s ≤ μ s' := by
 intro m
 induction m using Nat.strongRecOn with
 | _ m ih =>
   intro s hs hp
   by_cases h : ∃ s', p s' ∧ μ s' < μ s
   · obtain ⟨s', hp', hlt⟩ := h
     exact ih (μ s') (hs ▸ hlt) s' rfl hp'
   · exact ⟨s, hp, fun s' hp' => Nat.le_of_not_lt fun hlt => h ⟨s', hp', hlt⟩⟩
def Next {S : Type} (n : Fr) (Es : S → Env) (Cs : S → World → Prop) (I : S → Prop) (μ : S → Nat) (s : S) (a : Act) (w : World) : Prop := ∃ s', I s' ∧ μ s' < μ s ∧ Sat n (Es s') a ∧ Cs s' w
theorem cw_loop {S : Type} (Es : S → Env) (Cs : S → World → Prop) (I : S → Prop) (μ : S → Nat) (s0 : S) {c : Code} (h0 : I s0) (hE : Le E (Es s0)) (hC : ∀ w, C w → Cs s0 w)
   (body : ∀ s, I s → CW P c (Exit.then (Next n Es Cs I μ s) Q) n (Es s) (Cs s)) : CW P (.loop c) Q n E C := by
 intro a w ha hw
 let p (a : Act) (w : World) (s : S) : Prop := I s ∧ Sat n (Es s) a ∧ Cs s w
 let ν (a : Act) (w : World) : Nat := open Classical in if h : ∃ s, p a w s ∧ ∀ s', p a w s' → μ s ≤ μ s' then μ h.choose else 0
 have hν : ∀ a w s, p a w s → ∃ s0, p a w s0 ∧ μ s0 = ν a w ∧ ∀ s', p a w s' → ν a w ≤ μ s' := by
   intro a w s hs
   have hex := least (p a w) μ _ s rfl hs
   have e : ν a w = μ hex.choose := by simp only [ν]; rw [dif_pos hex]
   exact ⟨hex.choose, hex.choose_spec.1, e.symm, fun s' hs' => e ▸ hex.choose_spec.2 s' hs'⟩
 refine wpIn_loop (fun a w => ∃ s, p a w s) ν ⟨s0, h0, ha.le hE, hC w hw⟩ ?_
 rintro a w ⟨s, hs⟩
 obtain ⟨s1, ⟨hI, hSat, hCs⟩, hμ, hmin⟩ := hν a w s hs
 refine wpIn_mono (body s1 hI a w hSat hCs) ?_
 intro e a' w' hq
 cases e with
 | normal =>
   obtain ⟨s', hI', hlt, hS', hC'⟩ := hq
   refine ⟨⟨s', hI', hS', hC'⟩, ?_⟩
   obtain ⟨_, _, _, hmin'⟩ := hν a' w' s' ⟨hI', hS', hC'⟩
   exact Nat.lt_of_le_of_lt (hmin' s' ⟨hI', hS', hC'⟩) (hμ ▸ hlt)
 | exit id => exact hq
 | goto l => exact hq
 | ret => exact hq
 | panic ch => exact hq
 | outgrown => exact hq
theorem post_next {S : Type} {Es : S → Env} {Cs : S → World → Prop} {I : S → Prop} {μ : S → Nat} {s : S} (s' : S) (hE : Le E (Es s')) (hC : ∀ w, C w → Cs s' w) (hI : I s') (hμ : μ s' < μ s) :
   Post n E C (Exit.then (Next n Es Cs I μ s) Q) .normal := fun _ w ha hw => ⟨s', hI, hμ, ha.le hE, hC w hw⟩
def Meet {S : Type} (n : Fr) (Em : S → Env) (Cm : S → World → Prop) (I : S → Prop) (a : Act) (w : World) : Prop := ∃ s, I s ∧ Sat n (Em s) a ∧ Cm s w
theorem cw_cut {S : Type} (Em : S → Env) (Cm : S → World → Prop) (I : S → Prop) {c : Code} (h1 : CW P c (Exit.then (Meet n Em Cm I) Q) n E C) (h2 : ∀ s, I s → Post n (Em s) (Cm s) Q .normal) : CW P c Q n E C := by
 intro a w ha hw
 refine wpIn_mono (h1 a w ha hw) ?_
 intro e a' w' hq
 cases e with
 | normal =>
   obtain ⟨s, hI, hS, hC⟩ := hq
   exact h2 s hI a' w' hS hC
 | exit id => exact hq
 | goto l => exact hq
 | ret => exact hq
 | panic ch => exact hq
 | outgrown => exact hq
theorem post_meet {S : Type} {Em : S → Env} {Cm : S → World → Prop} {I : S → Prop} (s : S) (hE : Le E (Em s)) (hC : ∀ w, C w → Cm s w) (hI : I s) : Post n E C (Exit.then (Meet n Em Cm I) Q) .normal :=
 fun _ w ha hw => ⟨s, hI, ha.le hE, hC w hw⟩
def argEnv : Nat → List Value → Env
 | _, [] => []
 | i, v :: vs => (i, [], v) :: argEnv (i + 1) vs
theorem look_argEnv : ∀ (vs : List Value) (i t : Nat) (cs : List Bool) (v : Value), look (argEnv i vs) t = some (cs, v) → cs = [] ∧ i ≤ t ∧ vs[t - i]? = some v
 | [], _, _, _, _, h => by simp [argEnv, look] at h
 | u :: vs, i, t, cs, v, h => by
   simp only [argEnv, look] at h
   cases hb : Nat.beq i t with
   | true =>
     rw [hb] at h
     have e : i = t := Nat.eq_of_beq_eq_true hb
     subst e
     simp only [Option.some.injEq, Prod.mk.injEq] at h
     refine ⟨h.1.symm, Nat.le_refl _, ?_⟩
     simp [h.2]
   | false =>
     rw [hb] at h
     have e : i ≠ t := Nat.ne_of_beq_eq_false hb
     obtain ⟨h1, h2, h3⟩ := look_argEnv vs (i + 1) t cs v h
     refine ⟨h1, by omega, ?_⟩
     rw [show t - i = (t - (i + 1)) + 1 by omega]
     simpa using h3
theorem calls_cw {k : Nat} {f : FuncId} {fn : Func} {c : Code} {vs : List Value} {w : World} {R : Ending → World → Prop} (hf : P.funcs[f]? = some fn) (hb : fn.body = some c) (hn : fn.ntmps = k)
   (hl : Nat.ble vs.length k = true) (hw : C w) (h : CW P c (bodyPost P fn R) ⟨k, [], none⟩ (argEnv 0 vs) C) : Calls P f vs.toArray w R := by
 refine calls_of_wp hf hb (wpIn_wide.1 (h _ w ⟨rfl, ?_, ?_⟩ hw))
 · have := Nat.le_of_ble_eq_true hl
   simp [hn]; omega
 · intro t cs v ht
   obtain ⟨rfl, _, h3⟩ := look_argEnv vs 0 t cs v ht
   have hlt : t < vs.length := by have := (List.getElem?_eq_some_iff.1 h3).1; omega
   simp only [Nat.sub_zero] at h3
   simp [gval, Array.getElem?_append, hlt]
   simpa [hlt] using h3
def resS (tmps : Array Value) : ResultVar → Sem Value
 | .tmp t => pure (tmps.getD t undef)
 | .cell p t => do loadVar t (← asAddr (tmps.getD p undef))
theorem results_resS (fn : Func) (tmps : Array Value) : results fn tmps = (do let vs ← fn.results.mapM (resS tmps); pure (if h : vs.size = 1 then vs[0] else .tuple vs)) := by
 unfold results
 congr 1
def ResOk (P : Program) (E : Env) (C : World → Prop) (n : Fr) (r : ResultVar) (v : Value) : Prop :=
 ∀ a w, Sat n E a → C w → (resS a.tmps r).run P w = .ok v w
theorem resOk_tmp {t : Nat} {v : Value} (h : look E t = some ([], v)) : ResOk P E C n (.tmp t) v := fun a w ha _ => by
 have := ha.has t [] v h
 simp [resS, Array.getD_eq_getD_getElem?, this, gval]
theorem post_ret0 {k : Nat} {ro : Option Nat} {fn : Func} {R : Ending → World → Prop} (hr : fn.results = #[]) (hR : ∀ w, C w → R (.returned (.tuple #[])) w) : Post ⟨k, [], ro⟩ E C (bodyPost P fn R) .ret := fun a w ha hw =>
 ⟨ha.defers, _, by simp [results, hr], hR w hw⟩
theorem post_end0 {k : Nat} {ro : Option Nat} {fn : Func} {R : Ending → World → Prop} (hr : fn.results = #[]) (hR : ∀ w, C w → R (.returned (.tuple #[])) w) : Post ⟨k, [], ro⟩ E C (bodyPost P fn R) .normal := fun a w ha hw =>
 ⟨ha.defers, _, by simp [results, hr], hR w hw⟩
theorem post_ret1 {k : Nat} {ro : Option Nat} {fn : Func} {R : Ending → World → Prop} {r : ResultVar} {v : Value} (hr : fn.results = #[r]) (h1 : ResOk P E C ⟨k, [], ro⟩ r v) (hR : ∀ w, C w → R (.returned v) w) :
   Post ⟨k, [], ro⟩ E C (bodyPost P fn R) .ret := fun a w ha hw => by
 refine ⟨ha.defers, v, ?_, hR w hw⟩
 simp [results_resS, hr, h1 a w ha hw]
theorem post_ret2 {k : Nat} {ro : Option Nat} {fn : Func} {R : Ending → World → Prop} {r s : ResultVar} {u v : Value} (hr : fn.results = #[r, s]) (h1 : ResOk P E C ⟨k, [], ro⟩ r u) (h2 : ResOk P E C ⟨k, [], ro⟩ s v)
   (hR : ∀ w, C w → R (.returned (.tuple #[u, v])) w) : Post ⟨k, [], ro⟩ E C (bodyPost P fn R) .ret := fun a w ha hw => by
 refine ⟨ha.defers, _, ?_, hR w hw⟩
 simp [results_resS, hr, h1 a w ha hw, h2 a w ha hw]
theorem post_ret3 {k : Nat} {ro : Option Nat} {fn : Func} {R : Ending → World → Prop} {r s t : ResultVar} {u v x : Value} (hr : fn.results = #[r, s, t]) (h1 : ResOk P E C ⟨k, [], ro⟩ r u) (h2 : ResOk P E C ⟨k, [], ro⟩ s v) (h3 : ResOk P E C ⟨k, [], ro⟩ t x)
   (hR : ∀ w, C w → R (.returned (.tuple #[u, v, x])) w) : Post ⟨k, [], ro⟩ E C (bodyPost P fn R) .ret := fun a w ha hw => by
 refine ⟨ha.defers, _, ?_, hR w hw⟩
 simp [results_resS, hr, h1 a w ha hw, h2 a w ha hw, h3 a w ha hw]
end
section
variable {P : Program} {ops : Array Oper} {C : World → Prop} {n : Fr} {E : Env} {Q : Exit → Act → World → Prop} {K : Act → Prop} {o : Oper} {rest : List Oper} {d : Nat} {cs : List Bool} {v : Value}
theorem sr (hg : gof ops E o.guard = some cs) (hd : o.dst = some d) (hn : Nat.ble (d + 1) n.sz = true) (hop : OpR P n E C cs o v) (h : SW P ops Q rest n ((d, cs, v) :: E) C) : SW P ops Q (o :: rest) n E C := sw_step hg hd hn hop.q h
theorem qr (hg : gof ops E o.guard = some cs) (hd : o.dst = some d) (hn : Nat.ble (d + 1) n.sz = true) (hop : OpR P n E C cs o v) (h : QW P ops C K rest n ((d, cs, v) :: E)) : QW P ops C K (o :: rest) n E := qw_step hg hd hn hop.q h
theorem zS (h0 : (gof ops E o.guard, o.dst, Nat.ble (d + 1) n.sz) = (some cs, some d, true)) (hop : OpR P n E C cs o v) (h : SW P ops Q rest n ((d, cs, v) :: E) C) : SW P ops Q (o :: rest) n E C := by
 simp only [Prod.mk.injEq] at h0
 exact sw_step h0.1 h0.2.1 h0.2.2 hop.q h
theorem zq (h0 : (gof ops E o.guard, o.dst, Nat.ble (d + 1) n.sz) = (some cs, some d, true)) (hop : OpR P n E C cs o v) (h : QW P ops C K rest n ((d, cs, v) :: E)) : QW P ops C K (o :: rest) n E := by
 simp only [Prod.mk.injEq] at h0
 exact qw_step h0.1 h0.2.1 h0.2.2 hop.q h
theorem zp {S : World → Prop} {m : List Nat} {f : Nat} {listed : Array Bool} (i : Nat) [hP : PanicOk Q] (h0 : (ops[i]?, gof ops E o.guard, o.dst, Nat.ble (d + 1) n.sz) = (some o, some cs, some d, true)) (hop : OpR P n E (fun _ => True) cs o v) (h : AW P ops Q S m f (listed.setIfInBounds i true) n ((d, cs, v) :: E) C)
   (hs : Region.noSelect ops = true := by kernel_rfl) (hcl : closedB ops listed = true := by kernel_rfl) (hf : Region.free .any ops listed i = true := by kernel_rfl) (hr : (Region.ready .any ops listed).contains i = true := by kernel_rfl) (hz : Nat.blt i listed.size = true := by kernel_rfl) : AW P ops Q S m (f + 1) listed n E C := by
 simp only [Prod.mk.injEq] at h0
 exact aw_pure i h0.1 hs hcl hf hr hz h0.2.1 h0.2.2.1 h0.2.2.2 hop h
theorem zk {S : World → Prop} {m : List Nat} {f : Nat} {listed : Array Bool} (i : Nat) [hP : PanicOk Q] (hS : ∀ w, C w → S w) (h0 : (ops[i]?, gof ops E o.guard, o.dst, Nat.ble (d + 1) n.sz) = (some o, some cs, some d, true)) (hop : OpR P n E S cs o v) (h : AW P ops Q S m f (listed.setIfInBounds i true) n ((d, cs, v) :: E) C)
   (hs : Region.noSelect ops = true := by kernel_rfl) (hl : lateB ops m i = true := by kernel_rfl) (hcl : closedB ops listed = true := by kernel_rfl) (hf : Region.free .any ops listed i = true := by kernel_rfl) (hr : (Region.ready .any ops listed).contains i = true := by kernel_rfl) (hz : Nat.blt i listed.size = true := by kernel_rfl) : AW P ops Q S m (f + 1) listed n E C := by
 simp only [Prod.mk.injEq] at h0
 exact aw_take i hS h0.1 hs hl hcl hf hr hz h0.2.1 h0.2.2.1 h0.2.2.2 hop h
theorem nP {y : Code} (h : CW P y Q n E C) : SW P ops (Exit.then (y.wpIn (Fw n.ro) 0 P Q) Q) [] n E C := (sw_nil) (post_then h)
theorem sP {y : Code} (h : CW P y Q n E C) : CW P .skip (Exit.then (y.wpIn (Fw n.ro) 0 P Q) Q) n E C := (cw_skip) (post_then h)
theorem zr {id : Nat} {l : List Oper} {y : Code} (h : SW P l.toArray (Exit.then (y.wpIn (Fw n.ro) 0 P Q) Q) l n E C) : CW P (.seq (.region id l.toArray false) y) Q n E C := (cw_seq) (cw_region h)
end
end Go.Sx

/-
 Memory for the layer of symbolic frames: assertions with footprints, a class of worlds for a list of assertions, slices that read as lists. General lemmas, no program text.
-/
set_option autoImplicit false
namespace Go.Sx
structure Chg (fp : List Nat) (w w' : World) : Prop where
 os : w'.os = w.os
 tape : w'.tape = w.tape
 output : w'.output = w.output
 size : w.heap.size ≤ w'.heap.size
 block : ∀ k, k < w.heap.size → k ∉ fp → w'.heap[k]? = w.heap[k]?
theorem Chg.refl (fp : List Nat) (w : World) : Chg fp w w := ⟨rfl, rfl, rfl, Nat.le_refl _, fun _ _ _ => rfl⟩
theorem Chg.drawn {fp : List Nat} {w w' : World} (h : Chg fp w w') (k : Nat) : Chg fp w { w' with drawn := k } := ⟨h.os, h.tape, h.output, h.size, h.block⟩
theorem Chg.below {w w' : World} (h : Chg [] w w') : RowKit.Below w.heap.size w w' := ⟨h.os, h.tape, h.output, h.size, fun k hk => h.block k hk (by simp)⟩
theorem Chg.of_below {w w' : World} (h : RowKit.Below w.heap.size w w') : Chg [] w w' := ⟨h.os, h.tape, h.output, h.size, fun k hk _ => h.block k hk⟩
structure Asn where
 holds : World → List Nat → Prop
 loc : ∀ w w' bs, holds w bs → (∀ b ∈ bs, w'.heap[b]? = w.heap[b]?) → holds w' bs
def Sep : List Asn → World → List Nat → Prop
 | [], _, bs => bs = []
 | A :: As, w, bs => ∃ b1 b2, bs = b1 ++ b2 ∧ A.holds w b1 ∧ Sep As w b2
theorem Sep.loc : ∀ {H : List Asn} {w w' : World} {bs : List Nat}, Sep H w bs → (∀ b ∈ bs, w'.heap[b]? = w.heap[b]?) → Sep H w' bs
 | [], _, _, _, h, _ => h
 | A :: As, w, w', bs, ⟨b1, b2, e, h1, h2⟩, hk => ⟨b1, b2, e, A.loc _ _ _ h1 (fun b hb => hk b (by simp [e, hb])), h2.loc (fun b hb => hk b (by simp [e, hb]))⟩
theorem Sep.append : ∀ {H G : List Asn} {w : World} {bs : List Nat}, Sep (H ++ G) w bs ↔ ∃ b1 b2, bs = b1 ++ b2 ∧ Sep H w b1 ∧ Sep G w b2
 | [], G, w, bs => ⟨fun h => ⟨[], bs, rfl, rfl, h⟩, fun ⟨b1, b2, e, h1, h2⟩ => by cases h1; subst e; exact h2⟩
 | A :: As, G, w, bs => by
   simp only [List.cons_append, Sep]
   constructor
   · rintro ⟨b1, b2, rfl, h1, h2⟩
     obtain ⟨c1, c2, rfl, h3, h4⟩ := Sep.append.1 h2
     exact ⟨b1 ++ c1, c2, by simp, ⟨b1, c1, rfl, h1, h3⟩, h4⟩
   · rintro ⟨b1, b2, rfl, ⟨c1, c2, rfl, h1, h2⟩, h3⟩
     exact ⟨c1, c2 ++ b2, by simp, h1, Sep.append.2 ⟨c2, b2, rfl, h2, h3⟩⟩
theorem Sep.perm {H G : List Asn} {w : World} (hp : H.Perm G) : ∀ {bs : List Nat}, Sep H w bs → ∃ bs', bs.Perm bs' ∧ Sep G w bs' := by
 induction hp with
 | nil => intro bs h; exact ⟨bs, .refl _, h⟩
 | cons A _ ih =>
   rintro bs ⟨b1, b2, rfl, h1, h2⟩
   obtain ⟨b2', hp, h⟩ := ih h2
   exact ⟨b1 ++ b2', hp.append_left b1, b1, b2', rfl, h1, h⟩
 | swap A B l =>
   rintro bs ⟨b1, b2, rfl, h1, c1, c2, rfl, h2, h3⟩
   refine ⟨c1 ++ (b1 ++ c2), ?_, c1, b1 ++ c2, rfl, h2, b1, c2, rfl, h1, h3⟩
   rw [← List.append_assoc, ← List.append_assoc]
   exact List.perm_append_comm.append_right c2
 | trans _ _ ih1 ih2 =>
   intro bs h
   obtain ⟨b1, p1, h1⟩ := ih1 h
   obtain ⟨b2, p2, h2⟩ := ih2 h1
   exact ⟨b2, p1.trans p2, h2⟩
def Cl (w0 : World) (fp : List Nat) (H : List Asn) (w : World) : Prop :=
 Chg fp w0 w ∧ ∃ bs, Sep H w bs ∧ bs.Nodup ∧ ∀ b ∈ bs, (b ∈ fp ∨ w0.heap.size ≤ b) ∧ b < w.heap.size
instance (w0 : World) (fp : List Nat) (H : List Asn) : Drawn (Cl w0 fp H) := ⟨fun _ ⟨h, bs, hs, hn, hb⟩ => ⟨h.drawn _, bs, hs.loc (fun _ _ => rfl), hn, hb⟩⟩
theorem Cl.start {w : World} {bs : List Nat} {H : List Asn} (hs : Sep H w bs) (hn : bs.Nodup) (hb : ∀ b ∈ bs, b < w.heap.size) : Cl w bs H w := ⟨Chg.refl _ _, bs, hs, hn, fun b h => ⟨.inl h, hb b h⟩⟩
theorem Cl.start0 (w : World) : Cl w [] [] w := ⟨Chg.refl _ _, [], rfl, List.nodup_nil, fun b h => by simp at h⟩
theorem Cl.chg {w0 w : World} {fp : List Nat} {H : List Asn} (h : Cl w0 fp H w) : Chg fp w0 w := h.1
theorem Cl.perm {w0 w : World} {fp : List Nat} {H G : List Asn} (hp : H.Perm G) (h : Cl w0 fp H w) : Cl w0 fp G w := by
 obtain ⟨hc, bs, hs, hn, hb⟩ := h
 obtain ⟨bs', p, hs'⟩ := hs.perm hp
 exact ⟨hc, bs', hs', p.nodup_iff.1 hn, fun b h => hb b (p.mem_iff.2 h)⟩
theorem Cl.tail {w0 w : World} {fp : List Nat} {A : Asn} {H : List Asn} (h : Cl w0 fp (A :: H) w) : Cl w0 fp H w := by
 obtain ⟨hc, bs, ⟨b1, b2, rfl, _, h2⟩, hn, hb⟩ := h
 exact ⟨hc, b2, h2, (List.nodup_append.1 hn).2.1, fun b h => hb b (by simp [h])⟩
structure Stb (w : World) (fp : List Nat) (R : World → Prop) : Prop where
 stb : ∀ w', Chg fp w w' → R w'
theorem Stb.here {w : World} {fp : List Nat} {R : World → Prop} (h : Stb w fp R) : R w := h.stb w (Chg.refl _ _)
theorem Stb.cl {w0 w : World} {fp : List Nat} {R : World → Prop} {H : List Asn} (h : Stb w0 fp R) (hC : Cl w0 fp H w) : R w := h.stb w hC.1
theorem Cl.split {w0 w : World} {fp : List Nat} {A F : List Asn} (h : Cl w0 fp (A ++ F) w) :
   ∃ bs, Sep A w bs ∧ bs.Nodup ∧ (∀ b ∈ bs, b < w.heap.size) ∧ (∀ R, Stb w0 fp R → Stb w bs R) ∧ (∀ G ∈ F, ∃ b2, Stb w bs fun w' => G.holds w' b2) ∧
     ∀ B w', Cl w bs B w' → Cl w0 fp (B ++ F) w' := by
 obtain ⟨hc, bs, hs, hn, hb⟩ := h
 obtain ⟨b1, b2, rfl, h1, h2⟩ := Sep.append.1 hs
 have hn' := List.nodup_append.1 hn
 have hdis : ∀ b, b ∈ b2 → b ∉ b1 := fun b hb2 hb1 => hn'.2.2 b hb1 b hb2 rfl
 have htr : ∀ w', Chg b1 w w' → Chg fp w0 w' := fun w' k => ⟨k.os.trans hc.os, k.tape.trans hc.tape, k.output.trans hc.output, Nat.le_trans hc.size k.size, fun i hi hif => by
   refine (k.block i (Nat.lt_of_lt_of_le hi hc.size) fun hi1 => ?_).trans (hc.block i hi hif)
   rcases (hb i (by simp [hi1])).1 with h | h
   · exact hif h
   · omega⟩
 have hF : ∀ w', Chg b1 w w' → Sep F w' b2 := fun w' k => h2.loc fun b hb2 => k.block b (hb b (by simp [hb2])).2 (hdis b hb2)
 refine ⟨b1, h1, hn'.1, fun b h => (hb b (by simp [h])).2, fun R hR => ⟨fun w' k => hR.stb w' (htr w' k)⟩, ?_, ?_⟩
 · intro G hG
   have : ∀ {F : List Asn} {w : World} {b2 : List Nat}, Sep F w b2 → G ∈ F → ∃ b3, G.holds w b3 ∧ ∀ b ∈ b3, b ∈ b2 := by
     intro F
     induction F with
     | nil => intro w b2 _ h; simp at h
     | cons X Xs ih =>
       rintro w b2 ⟨c1, c2, rfl, k1, k2⟩ hG
       rcases List.mem_cons.1 hG with rfl | hG
       · exact ⟨c1, k1, fun b hb => by simp [hb]⟩
       · obtain ⟨b3, k3, k4⟩ := ih k2 hG
         exact ⟨b3, k3, fun b hb => by simp [k4 b hb]⟩
   obtain ⟨b3, k3, k4⟩ := this h2 hG
   exact ⟨b3, ⟨fun w' k => G.loc _ _ _ k3 fun b hb3 => k.block b (hb b (by simp [k4 b hb3])).2 (hdis b (k4 b hb3))⟩⟩
 · rintro B w' ⟨k, cs, ks, kn, kb⟩
   refine ⟨htr w' k, cs ++ b2, Sep.append.2 ⟨cs, b2, rfl, ks, hF w' k⟩, List.nodup_append.2 ⟨kn, hn'.2.1, ?_⟩, ?_⟩
   · rintro x hx y hy rfl
     rcases (kb x hx).1 with h | h
     · exact hdis x hy h
     · have := (hb x (by simp [hy])).2; omega
   · intro b h
     rcases List.mem_append.1 h with h | h
     · refine ⟨?_, (kb b h).2⟩
       rcases (kb b h).1 with h' | h'
       · exact (hb b (by simp [h'])).1
       · exact .inr (Nat.le_trans hc.size h')
     · exact ⟨(hb b (by simp [h])).1, Nat.lt_of_lt_of_le (hb b (by simp [h])).2 k.size⟩
theorem Cl.split0 {w0 w : World} {fp : List Nat} {F : List Asn} (h : Cl w0 fp F w) :
   (∀ R, Stb w0 fp R → Stb w [] R) ∧ (∀ G ∈ F, ∃ b2, Stb w [] fun w' => G.holds w' b2) ∧ ∀ B w', Cl w [] B w' → Cl w0 fp (B ++ F) w' := by
 obtain ⟨bs, hs, _, _, h1, h2, h3⟩ := Cl.split (A := []) h
 obtain rfl : bs = [] := hs
 exact ⟨h1, h2, h3⟩
def nthA : List Asn → Nat → Option Asn
 | [], _ => none
 | A :: _, 0 => some A
 | _ :: H, i + 1 => nthA H i
def delA : List Asn → Nat → List Asn
 | [], _ => []
 | _ :: H, 0 => H
 | A :: H, i + 1 => A :: delA H i
def setA : List Asn → Nat → Asn → List Asn
 | [], _, _ => []
 | _ :: H, 0, B => B :: H
 | A :: H, i + 1, B => A :: setA H i B
theorem perm_del : ∀ {H : List Asn} {i : Nat} {A : Asn}, nthA H i = some A → H.Perm (A :: delA H i)
 | [], _, _, h => by simp [nthA] at h
 | B :: H, 0, A, h => by simp only [nthA, Option.some.injEq] at h; subst h; exact .refl _
 | B :: H, i + 1, A, h => ((perm_del (H := H) h).cons B).trans (.swap A B _)
theorem perm_set : ∀ {H : List Asn} {i : Nat} {A B : Asn}, nthA H i = some A → (B :: delA H i).Perm (setA H i B)
 | [], _, _, _, h => by simp [nthA] at h
 | C :: H, 0, A, B, h => .refl _
 | C :: H, i + 1, A, B, h => (List.Perm.swap C B _).trans ((perm_set (H := H) (B := B) h).cons C)
theorem mem_of_nth : ∀ {H : List Asn} {i : Nat} {A : Asn}, nthA H i = some A → A ∈ H
 | [], _, _, h => by simp [nthA] at h
 | B :: H, 0, A, h => by simp only [nthA, Option.some.injEq] at h; subst h; simp
 | B :: H, i + 1, A, h => List.mem_cons_of_mem _ (mem_of_nth (H := H) h)
theorem Cl.focus {w0 w : World} {fp : List Nat} {H : List Asn} {i : Nat} {A : Asn} (hi : nthA H i = some A) (h : Cl w0 fp H w) : Cl w0 fp ([A] ++ delA H i) w := h.perm (perm_del hi)
theorem Cl.set {w0 w : World} {fp : List Nat} {H : List Asn} {i : Nat} {A B : Asn} (hi : nthA H i = some A) (h : Cl w0 fp ([B] ++ delA H i) w) : Cl w0 fp (setA H i B) w := h.perm (perm_set hi)
theorem Cl.get {w0 w : World} {fp : List Nat} {H : List Asn} {A : Asn} (hA : A ∈ H) (h : Cl w0 fp H w) : ∃ bs, A.holds w bs := by
 obtain ⟨_, h2, _⟩ := h.split0
 obtain ⟨b2, hb⟩ := h2 A hA
 exact ⟨b2, hb.here⟩
inductive Sel : List Asn → List Asn → Prop
 | nil (H : List Asn) : Sel H []
 | take {H H' : List Asn} {A : Asn} (i : Nat) (h : nthA H i = some A) (r : Sel (delA H i) H') : Sel H (A :: H')
theorem Cl.sel {w0 : World} {fp : List Nat} {H H' : List Asn} (s : Sel H H') : ∀ w, Cl w0 fp H w → Cl w0 fp H' w := by
 have drop : ∀ (G F : List Asn) (w : World), Cl w0 fp (F ++ G) w → Cl w0 fp F w := by
   intro G
   induction G with
   | nil => intro F w h; simpa using h
   | cons X G ih =>
     intro F w h
     exact ih F w (h.perm (List.perm_middle (l₁ := F) (l₂ := G) (a := X))).tail
 have key : ∀ {H H' : List Asn}, Sel H H' → ∃ G, H.Perm (H' ++ G) := by
   intro H H' s
   induction s with
   | nil H => exact ⟨H, .refl _⟩
   | take i h r ih =>
     obtain ⟨G, hG⟩ := ih
     exact ⟨G, (perm_del h).trans (hG.cons _)⟩
 obtain ⟨G, hG⟩ := key s
 exact fun w h => drop G H' w (h.perm hG)
class Enc (α : Type) where
 enc : α → List Value
 sz : Nat
 val : α → Value
 len : ∀ x, (enc x).length = sz
 one : ∀ x, ∀ v, v ∈ enc x → v.oneCell' = true
 cells : ∀ x, (val x).cells = (enc x).toArray
 pos : 0 < sz
open Enc (enc val)
instance : Enc Int := ⟨fun n => [.int .i64 n], 1, fun n => .int .i64 n, fun _ => rfl, by simp [Value.oneCell'], fun _ => rfl, by decide⟩
instance : Enc ByteArray := ⟨fun b => [.string b], 1, fun b => .string b, fun _ => rfl, by simp [Value.oneCell'], fun _ => rfl, by decide⟩
structure SlV where
 addr : Option Addr
 len : Nat
 cap : Nat
def SlV.v (s : SlV) : Value := .slice s.addr s.len s.cap
instance : Inhabited SlV := ⟨⟨none, 0, 0⟩⟩
instance : Enc SlV := ⟨fun s => [s.v], 1, fun s => s.v, fun _ => rfl, by simp [SlV.v, Value.oneCell'], fun _ => rfl, by decide⟩
section flat
variable {α : Type} [Enc α]
theorem flat_len : ∀ l : List α, (l.flatMap enc).length = l.length * Enc.sz α
 | [] => by simp
 | x :: l => by simp only [List.flatMap_cons, List.length_append, Enc.len, flat_len l, List.length_cons, Nat.add_mul, Nat.one_mul, Nat.add_comm]
theorem flat_get : ∀ (l : List α) (i : Nat) (x : α) (j : Nat) (v : Value), l[i]? = some x → (enc x)[j]? = some v → (l.flatMap enc)[i * Enc.sz α + j]? = some v
 | [], _, _, _, _, h, _ => by simp at h
 | y :: l, 0, x, j, v, h, hv => by
   simp only [List.getElem?_cons_zero, Option.some.injEq] at h; subst h
   simp only [List.flatMap_cons, Nat.zero_mul, Nat.zero_add]
   rw [List.getElem?_append_left (List.getElem?_eq_some_iff.1 hv).1]; exact hv
 | y :: l, i + 1, x, j, v, h, hv => by
   simp only [List.getElem?_cons_succ] at h
   simp only [List.flatMap_cons]
   rw [List.getElem?_append_right (by rw [Enc.len, Nat.add_mul, Nat.one_mul]; omega), Enc.len]
   rw [show (i + 1) * Enc.sz α + j - Enc.sz α = i * Enc.sz α + j by rw [Nat.add_mul, Nat.one_mul]; omega]
   exact flat_get l i x j v h hv
theorem flat_inv (l : List α) (k : Nat) (v : Value) (h : (l.flatMap enc)[k]? = some v) : ∃ x, l[k / Enc.sz α]? = some x ∧ (enc x)[k % Enc.sz α]? = some v := by
 have hk := (List.getElem?_eq_some_iff.1 h).1
 rw [flat_len] at hk
 have hp := Enc.pos (α := α)
 have hi : k / Enc.sz α < l.length := (Nat.div_lt_iff_lt_mul hp).2 hk
 have hj : k % Enc.sz α < (enc l[k / Enc.sz α]).length := by rw [Enc.len]; exact Nat.mod_lt _ hp
 refine ⟨l[k / Enc.sz α], List.getElem?_eq_getElem hi, ?_⟩
 have := flat_get l _ _ _ _ (List.getElem?_eq_getElem hi) (List.getElem?_eq_getElem hj)
 rw [Nat.mul_comm, Nat.div_add_mod] at this
 rw [h] at this
 rw [List.getElem?_eq_getElem hj]; exact this.symm
theorem flat_set : ∀ (l : List α) (i : Nat) (x : α), i < l.length → (l.set i x).flatMap enc = (l.flatMap enc).take (i * Enc.sz α) ++ enc x ++ (l.flatMap enc).drop (i * Enc.sz α + Enc.sz α)
 | [], _, _, h => by simp at h
 | y :: l, 0, x, _ => by
   simp only [List.set_cons_zero, List.flatMap_cons, Nat.zero_mul, Nat.zero_add, List.take_zero, List.nil_append]
   rw [show Enc.sz α = (enc y).length from (Enc.len y).symm, List.drop_left]
 | y :: l, i + 1, x, h => by
   simp only [List.set_cons_succ, List.flatMap_cons]
   rw [flat_set l i x (by simpa using h)]
   have e1 : (i + 1) * Enc.sz α = (enc y).length + i * Enc.sz α := by rw [Enc.len, Nat.add_mul, Nat.one_mul, Nat.add_comm]
   rw [e1, Nat.add_assoc, List.take_length_add_append, List.drop_length_add_append]
   simp
theorem flat_one (l : List α) : ∀ v, v ∈ l.flatMap enc → v.oneCell' = true := fun v hv => by
 obtain ⟨x, _, hx⟩ := List.mem_flatMap.1 hv
 exact Enc.one x v hx
theorem flat_take (l : List α) (k : Nat) : (l.take k).flatMap enc = (l.flatMap enc).take (k * Enc.sz α) := by
 by_cases hk : k ≤ l.length
 · have h := congrArg (List.flatMap enc) (List.take_append_drop k l)
   rw [List.flatMap_append] at h
   rw [← h]
   have e : k * Enc.sz α = ((l.take k).flatMap enc).length := by rw [flat_len, List.length_take, Nat.min_eq_left hk]
   rw [e, List.take_left]
 · rw [List.take_of_length_le (by omega), List.take_of_length_le]
   rw [flat_len]; exact Nat.mul_le_mul_right _ (by omega)
end flat
def nth {α : Type} [Inhabited α] (l : List α) (i : Nat) : α := l.getD i default
theorem nth_some {α : Type} [Inhabited α] {l : List α} {i : Nat} (h : i < l.length) : l[i]? = some (nth l i) := by simp [nth, List.getD, List.getElem?_eq_getElem h]
theorem nth_get {α : Type} [Inhabited α] {l : List α} {i : Nat} (h : i < l.length) : nth l i = l[i] := by simp [nth, List.getD, List.getElem?_eq_getElem h]
def RdL {α : Type} [Enc α] (sv : Value) (l : List α) (w : World) : Prop :=
 ∃ a n cap, sv = .slice a n cap ∧ l.length = n ∧ n ≤ cap ∧ cap ≤ maxLen ∧
   ∀ i x j v, l[i]? = some x → (enc x)[j]? = some v → ∃ b, a = some b ∧ w.cell? (b.add (i * Enc.sz α + j)) = some v
def OwnS (e : TypeId) (sz : Nat) (sv : Value) (xs : List Value) (w : World) (bs : List Nat) : Prop :=
 (sv = .slice none 0 0 ∧ xs = [] ∧ bs = []) ∨
 ∃ b n cap cur, sv = .slice (some ⟨b, 0, none⟩) n cap ∧ bs = [b] ∧ w.heap[b]? = some (.cells cur e (0, 0)) ∧ n ≤ cap ∧ cap ≤ maxLen ∧ cur.size = cap * sz ∧ xs.length = n * sz ∧ cur.toList.take (n * sz) = xs
theorem OwnS.loc {e : TypeId} {sz : Nat} {sv : Value} {xs : List Value} (w w' : World) (bs : List Nat) (h : OwnS e sz sv xs w bs) (hk : ∀ b ∈ bs, w'.heap[b]? = w.heap[b]?) : OwnS e sz sv xs w' bs := by
 rcases h with h | ⟨b, n, cap, cur, h1, h2, h3, h4⟩
 · exact .inl h
 · exact .inr ⟨b, n, cap, cur, h1, h2, (hk b (by simp [h2])).trans h3, h4⟩
def ownL {α : Type} [Enc α] (e : TypeId) (sv : Value) (l : List α) : Asn := ⟨OwnS e (Enc.sz α) sv (l.flatMap enc), OwnS.loc⟩
def blk (b : Nat) (cs : List Value) (t : TypeId) : Asn := ⟨fun w bs => bs = [b] ∧ w.heap[b]? = some (.cells cs.toArray t (0, 0)), fun _ _ _ ⟨h1, h2⟩ hk => ⟨h1, (hk b (by simp [h1])).trans h2⟩⟩
def obj (b : Nat) (o : Obj) : Asn := ⟨fun w bs => bs = [b] ∧ w.heap[b]? = some o, fun _ _ _ ⟨h1, h2⟩ hk => ⟨h1, (hk b (by simp [h1])).trans h2⟩⟩
theorem addr_add (b o k : Nat) : (⟨b, o, none⟩ : Addr).add k = ⟨b, o + k, none⟩ := by unfold Addr.add; split <;> simp_all
theorem addr_add_add (a : Addr) (i j : Nat) : (a.add i).add j = if i + j = 0 then a else { a with off := a.off + (i + j), spot := none } := by
 unfold Addr.add
 by_cases hi : i = 0 <;> by_cases hj : j = 0 <;> simp [hi, hj, Nat.add_assoc]
theorem addr_add_assoc (a : Addr) (i j : Nat) : (a.add i).add j = a.add (i + j) := by rw [addr_add_add]; rfl
theorem cell_at {w : World} {b i : Nat} {cur : Array Value} {e : TypeId} {fr : Nat × Nat} (h : w.heap[b]? = some (.cells cur e fr)) : w.cell? ⟨b, i, none⟩ = cur[i]? := by simp [World.cell?, h]
section own
variable {α : Type} [Enc α] {e : TypeId} {sv : Value} {l : List α} {w : World} {bs : List Nat}
theorem ownL.rd (h : (ownL e sv l).holds w bs) : RdL sv l w := by
 rcases h with ⟨h1, h2, _⟩ | ⟨b, n, cap, cur, h1, _, h3, h4, h5, h6, h7, h8⟩
 · have hl : l = [] := by
     have := flat_len l
     rw [h2] at this
     rcases Nat.mul_eq_zero.1 this.symm with h | h
     · exact List.eq_nil_of_length_eq_zero h
     · have := Enc.pos (α := α); omega
   subst hl
   exact ⟨none, 0, 0, h1, rfl, Nat.le_refl _, by simp [maxLen], fun i x j v hx => by simp at hx⟩
 · rw [flat_len] at h7
   have hn := Nat.eq_of_mul_eq_mul_right (Enc.pos (α := α)) h7
   refine ⟨_, n, cap, h1, hn, h4, h5, fun i x j v hx hv => ⟨_, rfl, ?_⟩⟩
   rw [addr_add, Nat.zero_add, cell_at h3]
   have h9 := flat_get l i x j v hx hv
   rw [← h8, List.getElem?_take] at h9
   split at h9
   · simpa using h9
   · simp at h9
theorem ownL.nil (w : World) : (ownL (α := α) e (.slice none 0 0) []).holds w [] := .inl ⟨rfl, rfl, rfl⟩
end own
theorem blk.cell {b : Nat} {cs : List Value} {t : TypeId} {w : World} {bs : List Nat} (h : (blk b cs t).holds w bs) (i : Nat) : w.cell? ⟨b, i, none⟩ = cs[i]? := by
 rw [cell_at h.2]; simp
end Go.Sx

/-
 The operations in the layer of symbolic frames: what each one yields. General lemmas, no program text.
-/
set_option autoImplicit false
namespace Go.Sx
open Enc (enc val)
class SlT (P : Program) (t : TypeId) (e : outParam TypeId) : Prop where
 und : P.underlying t = some (.slice e)
class SzT (P : Program) (t : TypeId) (n : outParam Nat) : Prop where
 sz : ∀ w, (sizeOf t).run P w = .ok n w
class IntT (P : Program) (t : TypeId) (k : outParam IntKind) : Prop where
 und : P.underlying t = some (.int k)
class FldT (P : Program) (t : TypeId) (i : Nat) (off : outParam Nat) : Prop where
 fld : ∀ a w, (Instr.fieldAt t (.pointer (some a)) i).run P w = .ok (.pointer (some (a.add off))) w
class CanCall (P : Program) (f : FuncId) : Prop where
 run : ∀ args w, (callFunc f args).run P w = .ok (.enter f args) w
class HasTy (P : Program) (t : TypeId) (α : outParam Type) [Enc α] : Prop where
 sz : ∀ w, (sizeOf t).run P w = .ok (Enc.sz α) w
 load : ∀ (w : World) (a : Addr) (x : α), (∀ j v, (enc x)[j]? = some v → w.cell? (a.add j) = some v) → (loadVar t a).run P w = .ok (val x) w
class CellT (P : Program) (t : TypeId) : Prop where
 agg : ∀ w, (isAgg t).run P w = .ok false w
class AggT (P : Program) (t : TypeId) : Prop where
 agg : ∀ w, (isAgg t).run P w = .ok true w
class StT (P : Program) (t : TypeId) (places : outParam (List (Nat × Nat))) (z : outParam (List Value)) : Prop where
 built : ∀ parts, P.built t parts = Instr.fill (places.toArray[·]?) z.toArray parts
section
variable {P : Program} {n : Fr} {E : Env} {C : World → Prop} {cs : List Bool} {o : Oper}
theorem q_move {x : Operand} {cx : List Bool} {v : Value} (ho : o.op = .move x) (hx : evl E x = some (cx, v)) [hs : Sub cx cs] : OpR P n E C cs o v :=
 .of_run fun a ha hc w _ => by unfold execOp; simp only [ho]; rw [ha.eval hx hs hc]; rfl
theorem q_assign {x : Operand} {cx : List Bool} {v : Value} (ho : o.op = .assign x) (hx : evl E x = some (cx, v)) [hs : Sub cx cs] : OpR P n E C cs o v :=
 .of_run fun a ha hc w _ => by unfold execOp; simp only [ho]; rw [ha.eval hx hs hc]; rfl
theorem bin_run {op : BinOp} {t t' : TypeId} {x y : Operand} {cx cy : List Bool} {u v r : Value} (ho : o.op = .binOp op t x y t') (hx : evl E x = some (cx, u)) (hy : evl E y = some (cy, v)) (sx : Sub cx cs) (sy : Sub cy cs)
   (hg : eqGuard op t x y u v = pure ()) (hr : ∀ w, (binOp op t u v).run P w = .ok r w) : OpR P n E C cs o r :=
 .of_run fun a ha hc w _ => by
   unfold execOp; simp only [ho]
   rw [ha.eval hx sx hc, ha.eval hy sy hc, hg]
   simp [hr w]
theorem q_add {t t' : TypeId} {x y : Operand} {cx cy : List Bool} {a b : Int} (ho : o.op = .binOp .add t x y t') (hx : evl E x = some (cx, .int .i64 a)) (hy : evl E y = some (cy, .int .i64 b)) [sx : Sub cx cs] [sy : Sub cy cs]
   (h : AllT cs → -9223372036854775808 ≤ a + b ∧ a + b ≤ 9223372036854775807) : OpR P n E C cs o (.int .i64 (a + b)) :=
 fun e he hc => bin_run (C := C) (r := .int .i64 (a + b)) ho hx hy sx sy rfl (fun w => by rw [binOp_add]; simp only [Op.intArith, Sem.run_pure]; rw [IntWalk.i64_in _ (h hc)]) e he hc
theorem q_sub {t t' : TypeId} {x y : Operand} {cx cy : List Bool} {a b : Int} (ho : o.op = .binOp .sub t x y t') (hx : evl E x = some (cx, .int .i64 a)) (hy : evl E y = some (cy, .int .i64 b)) [sx : Sub cx cs] [sy : Sub cy cs]
   (h : AllT cs → -9223372036854775808 ≤ a - b ∧ a - b ≤ 9223372036854775807) : OpR P n E C cs o (.int .i64 (a - b)) :=
 fun e he hc => bin_run (C := C) (r := .int .i64 (a - b)) ho hx hy sx sy rfl (fun w => by rw [binOp_sub]; simp only [Op.intArith, Sem.run_pure]; rw [IntWalk.i64_in _ (h hc)]) e he hc
theorem q_mul {t t' : TypeId} {x y : Operand} {cx cy : List Bool} {a b : Int} (ho : o.op = .binOp .mul t x y t') (hx : evl E x = some (cx, .int .i64 a)) (hy : evl E y = some (cy, .int .i64 b)) [sx : Sub cx cs] [sy : Sub cy cs]
   (h : AllT cs → -9223372036854775808 ≤ a * b ∧ a * b ≤ 9223372036854775807) : OpR P n E C cs o (.int .i64 (a * b)) :=
 fun e he hc => bin_run (C := C) (r := .int .i64 (a * b)) ho hx hy sx sy rfl (fun w => by rw [binOp_mul]; simp only [Op.intArith, Sem.run_pure]; rw [IntWalk.i64_in _ (h hc)]) e he hc
theorem q_add_w {k : IntKind} {t t' : TypeId} {x y : Operand} {cx cy : List Bool} {a b : Int} (ho : o.op = .binOp .add t x y t') (hx : evl E x = some (cx, .int k a)) (hy : evl E y = some (cy, .int k b)) [sx : Sub cx cs] [sy : Sub cy cs] :
   OpR P n E C cs o (.int k (k.wrap (a + b))) := bin_run ho hx hy sx sy rfl (fun w => by rw [binOp_add]; rfl)
theorem q_sub_w {k : IntKind} {t t' : TypeId} {x y : Operand} {cx cy : List Bool} {a b : Int} (ho : o.op = .binOp .sub t x y t') (hx : evl E x = some (cx, .int k a)) (hy : evl E y = some (cy, .int k b)) [sx : Sub cx cs] [sy : Sub cy cs] :
   OpR P n E C cs o (.int k (k.wrap (a - b))) := bin_run ho hx hy sx sy rfl (fun w => by rw [binOp_sub]; rfl)
theorem q_quo {t t' : TypeId} {x y : Operand} {cx cy : List Bool} {a b : Int} (ho : o.op = .binOp .quo t x y t') (hx : evl E x = some (cx, .int .i64 a)) (hy : evl E y = some (cy, .int .i64 b)) [sx : Sub cx cs] [sy : Sub cy cs]
   (h : AllT cs → 0 ≤ a ∧ a ≤ 9223372036854775807 ∧ 1 ≤ b) : OpR P n E C cs o (.int .i64 (a / b)) :=
 fun e he hc => bin_run (C := C) (r := .int .i64 (a / b)) ho hx hy sx sy rfl (fun w => by
   rw [binOp_quo]; have hh := h hc
   have hb : ¬ b = 0 := by omega
   simp only [Op.intDiv, hb, if_false, Sem.run_pure]
   rw [IntWalk.i64_quo a b hh]) e he hc
theorem q_rem {t t' : TypeId} {x y : Operand} {cx cy : List Bool} {a b : Int} (ho : o.op = .binOp .rem t x y t') (hx : evl E x = some (cx, .int .i64 a)) (hy : evl E y = some (cy, .int .i64 b)) [sx : Sub cx cs] [sy : Sub cy cs]
   (h : AllT cs → 0 ≤ a ∧ 1 ≤ b) : OpR P n E C cs o (.int .i64 (a % b)) :=
 fun e he hc => bin_run (C := C) (r := .int .i64 (a % b)) ho hx hy sx sy rfl (fun w => by
   rw [binOp_rem]; have hh := h hc
   have hb : ¬ b = 0 := by omega
   simp only [Op.intDiv, hb, if_false, Sem.run_pure]
   rw [IntWalk.rem_in a b hh.1]) e he hc
theorem q_lss {t t' : TypeId} {x y : Operand} {cx cy : List Bool} {k : IntKind} {a b : Int} (ho : o.op = .binOp .lss t x y t') (hx : evl E x = some (cx, .int k a)) (hy : evl E y = some (cy, .int k b)) [sx : Sub cx cs] [sy : Sub cy cs] :
   OpR P n E C cs o (.bool (decide (a < b))) := bin_run ho hx hy sx sy rfl (fun w => by rw [binOp_lss]; rfl)
theorem q_leq {t t' : TypeId} {x y : Operand} {cx cy : List Bool} {k : IntKind} {a b : Int} (ho : o.op = .binOp .leq t x y t') (hx : evl E x = some (cx, .int k a)) (hy : evl E y = some (cy, .int k b)) [sx : Sub cx cs] [sy : Sub cy cs] :
   OpR P n E C cs o (.bool (decide (a ≤ b))) := bin_run ho hx hy sx sy rfl (fun w => by rw [binOp_leq]; rfl)
theorem q_gtr {t t' : TypeId} {x y : Operand} {cx cy : List Bool} {k : IntKind} {a b : Int} (ho : o.op = .binOp .gtr t x y t') (hx : evl E x = some (cx, .int k a)) (hy : evl E y = some (cy, .int k b)) [sx : Sub cx cs] [sy : Sub cy cs] :
   OpR P n E C cs o (.bool (decide (b < a))) := bin_run ho hx hy sx sy rfl (fun w => by rw [binOp_gtr]; rfl)
theorem q_geq {t t' : TypeId} {x y : Operand} {cx cy : List Bool} {k : IntKind} {a b : Int} (ho : o.op = .binOp .geq t x y t') (hx : evl E x = some (cx, .int k a)) (hy : evl E y = some (cy, .int k b)) [sx : Sub cx cs] [sy : Sub cy cs] :
   OpR P n E C cs o (.bool (decide (b ≤ a))) := bin_run ho hx hy sx sy rfl (fun w => by rw [binOp_geq]; rfl)
theorem q_eql {t t' : TypeId} {x y : Operand} {cx cy : List Bool} {k : IntKind} {a b : Int} (ho : o.op = .binOp .eql t x y t') (hx : evl E x = some (cx, .int k a)) (hy : evl E y = some (cy, .int k b)) [sx : Sub cx cs] [sy : Sub cy cs] :
   OpR P n E C cs o (.bool (decide (a = b))) := bin_run ho hx hy sx sy (eqGuard_at_int ..) (fun w => by rw [binOp_eql]; simp only [Sem.run_pure]; congr 2)
theorem q_neq {t t' : TypeId} {x y : Operand} {cx cy : List Bool} {k : IntKind} {a b : Int} (ho : o.op = .binOp .neq t x y t') (hx : evl E x = some (cx, .int k a)) (hy : evl E y = some (cy, .int k b)) [sx : Sub cx cs] [sy : Sub cy cs] :
   OpR P n E C cs o (.bool (!decide (a = b))) := bin_run ho hx hy sx sy (eqGuard_at_int ..) (fun w => by rw [binOp_neq]; simp only [Sem.run_pure]; congr 2)
theorem q_eql_b {t t' : TypeId} {x y : Operand} {cx cy : List Bool} {a b : Bool} (ho : o.op = .binOp .eql t x y t') (hx : evl E x = some (cx, .bool a)) (hy : evl E y = some (cy, .bool b)) [sx : Sub cx cs] [sy : Sub cy cs]
   (ht : P.underlying t = some .bool) : OpR P n E C cs o (.bool (a == b)) := bin_run ho hx hy sx sy (eqGuard_at_bool ..) (fun w => run_eql_bool w t a b ht)
theorem q_neq_b {t t' : TypeId} {x y : Operand} {cx cy : List Bool} {a b : Bool} (ho : o.op = .binOp .neq t x y t') (hx : evl E x = some (cx, .bool a)) (hy : evl E y = some (cy, .bool b)) [sx : Sub cx cs] [sy : Sub cy cs]
   (ht : P.underlying t = some .bool) : OpR P n E C cs o (.bool (!(a == b))) := bin_run ho hx hy sx sy (eqGuard_at_bool ..) (fun w => run_neq_bool w t a b ht)
theorem q_shl {t t' : TypeId} {x y : Operand} {cx cy : List Bool} {k yk : IntKind} {a b : Int} (ho : o.op = .binOp .shl t x y t') (hx : evl E x = some (cx, .int k a)) (hy : evl E y = some (cy, .int yk b)) [sx : Sub cx cs] [sy : Sub cy cs]
   (h : AllT cs → 0 ≤ b ∧ b ≤ k.bits) : OpR P n E C cs o (.int k (k.wrap (a * 2 ^ b.toNat))) :=
 fun e he hc => bin_run (C := C) (r := .int k (k.wrap (a * 2 ^ b.toNat))) ho hx hy sx sy rfl (fun w => by rw [binOp_shl, shift_shl k yk a b (h hc).1 (h hc).2]; rfl) e he hc
theorem q_shr {t t' : TypeId} {x y : Operand} {cx cy : List Bool} {k yk : IntKind} {a b : Int} (ho : o.op = .binOp .shr t x y t') (hx : evl E x = some (cx, .int k a)) (hy : evl E y = some (cy, .int yk b)) [sx : Sub cx cs] [sy : Sub cy cs]
   (h : AllT cs → 0 ≤ b ∧ b ≤ k.bits) : OpR P n E C cs o (.int k (a / 2 ^ b.toNat)) :=
 fun e he hc => bin_run (C := C) (r := .int k (a / 2 ^ b.toNat)) ho hx hy sx sy rfl (fun w => by rw [binOp_shr, shift_shr k yk a b (h hc).1 (h hc).2]; rfl) e he hc
theorem q_not {t : TypeId} {x : Operand} {cx : List Bool} {b : Bool} (ho : o.op = .unOp .not t x) (hx : evl E x = some (cx, .bool b)) [hs : Sub cx cs] : OpR P n E C cs o (.bool (!b)) :=
 .of_run fun a ha hc w _ => by unfold execOp; simp only [ho]; rw [ha.eval hx hs hc]; rfl
theorem q_neg {t : TypeId} {x : Operand} {cx : List Bool} {k : Int} (ho : o.op = .unOp .neg t x) (hx : evl E x = some (cx, .int .i64 k)) [hs : Sub cx cs] (h : AllT cs → -9223372036854775807 ≤ k ∧ k ≤ 9223372036854775808) :
   OpR P n E C cs o (.int .i64 (-k)) :=
 .of_run fun a ha hc w _ => by
   unfold execOp; simp only [ho]; rw [ha.eval hx hs hc]
   have := h hc
   simp only [Op.unary, Sem.run_bind, Op.intArith, Sem.run_pure, Result.andThen_ok]
   rw [IntWalk.i64_in _ (by omega), Int.zero_sub]
theorem AllT.cons {b : Bool} (hc : AllT cs) (hb : b = true) : AllT (b :: cs) := fun x hx => by
 rcases List.mem_cons.1 hx with rfl | h
 · exact hb
 · exact hc x h
theorem q_pick {x y z : Operand} {cx cy cz : List Bool} {g a b : Bool} (ho : o.op = .pick x y z) (hx : evl E x = some (cx, .bool g)) (hy : evl E y = some (cy, .bool a)) (hz : evl E z = some (cz, .bool b))
   [sx : Sub cx cs] [sy : Sub cy (g :: cs)] [sz : Sub cz ((!g) :: cs)] : OpR P n E C cs o (.bool (if g then a else b)) :=
 .of_run fun e he hc w _ => by
   unfold execOp; simp only [ho]; rw [he.eval hx sx hc]
   cases g with
   | true => rw [he.eval hy sy (hc.cons rfl)]; simp [asBool]
   | false => rw [he.eval hz sz (hc.cons rfl)]; simp [asBool]
theorem q_and2 {x y : Operand} {cx cy : List Bool} {g a : Bool} (ho : o.op = .pick x y (.const (.bool false))) (hx : evl E x = some (cx, .bool g)) (hy : evl E y = some (cy, .bool a))
   [sx : Sub cx cs] [sy : Sub cy (g :: cs)] : OpR P n E C cs o (.bool (g && a)) := by
 have := q_pick (P := P) (n := n) (C := C) (cs := cs) (b := false) ho hx hy rfl
 cases g <;> simpa using this
theorem q_or2 {x z : Operand} {cx cz : List Bool} {g b : Bool} (ho : o.op = .pick x (.const (.bool true)) z) (hx : evl E x = some (cx, .bool g)) (hz : evl E z = some (cz, .bool b))
   [sx : Sub cx cs] [sz : Sub cz ((!g) :: cs)] : OpR P n E C cs o (.bool (g || b)) := by
 have := q_pick (P := P) (n := n) (C := C) (cs := cs) (a := true) ho hx rfl hz
 cases g <;> simpa using this
theorem q_conv {s t : TypeId} {x : Operand} {cx : List Bool} {k k' : IntKind} {a : Int} (ho : o.op = .convert s t x) (hx : evl E x = some (cx, .int k a)) [hs : Sub cx cs] [h1 : IntT P s k] [h2 : IntT P t k'] :
   OpR P n E C cs o (.int k' (k'.wrap a)) :=
 .of_run fun e he hc w _ => by
   unfold execOp; simp only [ho]; rw [he.eval hx hs hc]
   simp [convert, run_underlying h1.und, run_underlying h2.und, Conv.intToInt]
theorem q_extract {x : Operand} {cx : List Bool} {vs : Array Value} {i : Nat} {v : Value} (ho : o.op = .extract x i) (hx : evl E x = some (cx, .tuple vs)) [hs : Sub cx cs] (hv : vs[i]? = some v) : OpR P n E C cs o v :=
 .of_run fun e he hc w _ => by unfold execOp; simp only [ho]; rw [he.eval hx hs hc]; simp [Instr.extract, hv]
theorem q_func {f : Fn} {captured : Array Operand} {vs : Array Value} (ho : o.op = .makeFunc f #[] captured) (hv : ∀ a, Sat n E a → AllT cs → captured.map a.eval = vs) : OpR P n E C cs o (.func f #[] vs) :=
 .of_run fun e he hc w _ => by unfold execOp; simp only [ho]; rw [hv e he hc]; simp [Instr.makeFunc]
inductive Evs (E : Env) (cs : List Bool) : List Operand → List Value → Prop
 | nil : Evs E cs [] []
 | cons {x : Operand} {cx : List Bool} {v : Value} {xs : List Operand} {vs : List Value} (hx : evl E x = some (cx, v)) (hs : Sub cx cs) (h : Evs E cs xs vs) : Evs E cs (x :: xs) (v :: vs)
theorem Evs.eval {xs : List Operand} {vs : List Value} (h : Evs E cs xs vs) {a : Act} (ha : Sat n E a) (hc : AllT cs) : xs.map a.eval = vs := by
 induction h with
 | nil => rfl
 | cons hx hs _ ih => simp [ha.eval hx hs hc, ih]
theorem q_func_l {f : Fn} {l : List Operand} {vs : List Value} (ho : o.op = .makeFunc f #[] l.toArray) (hv : Evs E cs l vs) : OpR P n E C cs o (.func f #[] vs.toArray) :=
 q_func ho fun a ha hc => by simp [hv.eval ha hc]
theorem builtin_run {b : Builtin} {l : List Operand} {ts : Array TypeId} {vs : List Value} {v : Value} (ho : o.op = .call { callee := .builtin b, args := l.toArray, argTypes := ts }) (hv : Evs E cs l vs)
   (hr : ∀ w c, C w → AllT cs → (builtin b ts o.type c vs.toArray).run P w = .ok (.value v) w) : OpR P n E C cs o v :=
 .of_run fun e he hc w hw => by
   unfold execOp; simp only [ho]
   simp only [resolve, invoke, List.map_toArray, hv.eval he hc, Sem.run_bind, Sem.run_pure, Result.andThen_ok]
   exact hr w _ hw hc
theorem q_min {l : List Operand} {ts : Array TypeId} {a b : Int} {k : IntKind} (ho : o.op = .call { callee := .builtin .min, args := l.toArray, argTypes := ts }) (hv : Evs E cs l [.int k a, .int k b]) : OpR P n E C cs o (.int k (min a b)) :=
 builtin_run ho hv fun w c _ _ => by
   simp only [builtin, Sem.run_bind, Sem.run_pure]
   have : min a b = if b < a then b else a := by omega
   simp [run_min_int2, this]
theorem q_build {t : TypeId} {ps : List (Nat × Operand)} {vs : List Value} {cells z : List Value} {places : List (Nat × Nat)} (ho : o.op = .build t ps.toArray) (hv : Evs E cs (ps.map (·.2)) vs) [ht : StT P t places z]
   (hb0 : Instr.fill (places.toArray[·]?) z.toArray ((ps.map (·.1)).zip vs) = some cells.toArray) : OpR P n E C cs o (.agg cells.toArray) :=
 .of_run fun e he hc w _ => by
   have hb := (ht.built ((ps.map (·.1)).zip vs)).trans hb0
   clear hb0
   unfold execOp; simp only [ho]
   have h1 : ps.map (fun (i, x) => (i, e.eval x)) = (ps.map (·.1)).zip vs := by
     rw [← hv.eval he hc]
     clear ho hb hv
     induction ps with
     | nil => rfl
     | cons p ps ih => simp [ih]
   simp only [List.map_toArray, h1]
   simp [run_build (P := P) w t ((ps.map (·.1)).zip vs).toArray cells.toArray hb]
theorem q_fieldAddr {t : TypeId} {x : Operand} {i off : Nat} {cx : List Bool} {b k : Nat} (ho : o.op = .fieldAddr t x i) (hx : evl E x = some (cx, .pointer (some ⟨b, k, none⟩))) [hs : Sub cx cs] [h : FldT P t i off] :
   OpR P n E C cs o (.pointer (some ⟨b, k + off, none⟩)) :=
 .of_run fun e he hc w _ => by
   unfold execOp; simp only [ho]; rw [he.eval hx hs hc]
   simp [h.fld, addr_add]
def elP (sv : Value) (i sz off : Nat) : Value := match sv with
 | .slice (some a) _ _ => .pointer (some (a.add (i * sz + off)))
 | _ => undef
variable {α : Type} [Enc α]
theorem q_len {l : List Operand} {t : TypeId} {e : TypeId} {sv : Value} {xs : List α} (ho : o.op = .call { callee := .builtin .len, args := l.toArray, argTypes := #[t] }) (hv : Evs E cs l [sv]) [ht : SlT P t e]
   (hR : ∀ w, C w → RdL sv xs w) : OpR P n E C cs o (.int .i64 xs.length) :=
 builtin_run ho hv fun w c hw _ => by
   obtain ⟨a, m, cap, rfl, hl, _⟩ := hR w hw
   have := run_underlying ht.und w
   simp [builtin, Builtin.len_, this, hl, goInt]
theorem q_lenV {l : List Operand} {t : TypeId} {e : TypeId} {s : SlV} (ho : o.op = .call { callee := .builtin .len, args := l.toArray, argTypes := #[t] }) (hv : Evs E cs l [s.v]) [ht : SlT P t e] : OpR P n E C cs o (.int .i64 s.len) :=
 builtin_run ho hv fun w c hw _ => by
   have := run_underlying ht.und w
   simp [builtin, Builtin.len_, this, SlV.v, goInt]
theorem RdL.len {s : SlV} {xs : List α} {w : World} (h : RdL s.v xs w) : xs.length = s.len := by
 obtain ⟨a, m, cap, h1, hl, _⟩ := h
 simp only [SlV.v, Value.slice.injEq] at h1
 omega
theorem q_index {t e : TypeId} {x y : Operand} {cx cy : List Bool} {sv : Value} {k : IntKind} {i : Int} {sz : Nat} {xs : List α} (ho : o.op = .indexAddr t x y) (hx : evl E x = some (cx, sv)) (hy : evl E y = some (cy, .int k i))
   [sx : Sub cx cs] [sy : Sub cy cs] [ht : SlT P t e] [hz : SzT P e sz] (hR : ∀ w, C w → RdL sv xs w) (h : AllT cs → 0 ≤ i ∧ i < xs.length) : OpR P n E C cs o (elP sv i.toNat sz 0) := by
 intro a ha hc w hw
 obtain ⟨ad, m, cap, rfl, hl, _, _, hcell⟩ := hR w hw
 have hh := h hc
 have hlt : i.toNat < xs.length := by omega
 have hex : ∃ b, ad = some b := by
   have hp := Enc.pos (α := α)
   have hj : 0 < (enc xs[i.toNat]).length := by rw [Enc.len]; exact hp
   obtain ⟨b, hb, _⟩ := hcell i.toNat xs[i.toNat] 0 _ (List.getElem?_eq_getElem hlt) (List.getElem?_eq_getElem hj)
   exact ⟨b, hb⟩
 obtain ⟨b, rfl⟩ := hex
 refine OpR.of_run (P := P) (n := n) (E := E) (C := C) (cs := cs) (fun a ha hc w _ => ?_) a ha hc w hw
 unfold execOp; simp only [ho]; rw [ha.eval hx sx hc, ha.eval hy sy hc]
 have h0 : (0 : Int) ≤ i ∧ i < (m : Int) := by omega
 simp [Instr.indexAt, run_underlying ht.und, h0, hz.sz, elP, asIntOf]
theorem q_indexN {t e : TypeId} {x y : Operand} {cx cy : List Bool} {sv : Value} {k : IntKind} {i : Nat} {sz : Nat} {xs : List α} (ho : o.op = .indexAddr t x y) (hx : evl E x = some (cx, sv)) (hy : evl E y = some (cy, .int k (i : Int)))
   [sx : Sub cx cs] [sy : Sub cy cs] [ht : SlT P t e] [hz : SzT P e sz] (hR : ∀ w, C w → RdL sv xs w) (h : AllT cs → i < xs.length) : OpR P n E C cs o (elP sv i sz 0) := by
 have := q_index (P := P) (n := n) (C := C) (cs := cs) ho hx hy hR (fun hc => ⟨by omega, by have := h hc; omega⟩)
 simpa using this
theorem q_fieldEl {t : TypeId} {x : Operand} {f off : Nat} {cx : List Bool} {sv : Value} {i sz k : Nat} {xs : List α} (ho : o.op = .fieldAddr t x f) (hx : evl E x = some (cx, elP sv i sz k)) [hs : Sub cx cs] [h : FldT P t f off]
   (hR : ∀ w, C w → RdL sv xs w) (hi : AllT cs → i < xs.length) : OpR P n E C cs o (elP sv i sz (k + off)) := by
 intro a ha hc w hw
 obtain ⟨ad, m, cap, rfl, hl, _, _, hcell⟩ := hR w hw
 have hlt := hi hc
 have hj : 0 < (enc xs[i]).length := by rw [Enc.len]; exact Enc.pos
 obtain ⟨b, rfl, _⟩ := hcell i xs[i] 0 _ (List.getElem?_eq_getElem hlt) (List.getElem?_eq_getElem hj)
 refine OpR.of_run (P := P) (n := n) (E := E) (C := C) (cs := cs) (fun a ha hc w _ => ?_) a ha hc w hw
 unfold execOp; simp only [ho]; rw [ha.eval hx hs hc]
 simp [h.fld, elP, addr_add_assoc, Nat.add_assoc]
theorem load_run {t : TypeId} {x : Operand} {cx : List Bool} {v : Value} {r : Value} (ho : o.op = .load t x) (hx : evl E x = some (cx, v)) (hs : Sub cx cs)
   (hr : AllT cs → ∀ w, C w → ∃ a, v = .pointer (some a) ∧ (loadVar t a).run P w = .ok r w) : OpR P n E C cs o r :=
 .of_run fun e he hc w hw => by
   obtain ⟨a, rfl, hl⟩ := hr hc w hw
   unfold execOp; simp only [ho]; rw [he.eval hx hs hc]
   simp [Instr.loadAt, Instr.sureAddr, hl]
theorem q_loadEl [Inhabited α] {t : TypeId} {x : Operand} {cx : List Bool} {sv : Value} {i sz : Nat} {xs : List α} (ho : o.op = .load t x) (hx : evl E x = some (cx, elP sv i sz 0)) [hs : Sub cx cs] [ht : HasTy P t α]
   (hsz : sz = Enc.sz α) (hR : ∀ w, C w → RdL sv xs w) (hi : AllT cs → i < xs.length) : OpR P n E C cs o (val (nth xs i)) :=
 load_run ho hx hs fun hc w hw => by
   obtain ⟨ad, m, cap, rfl, hl, _, _, hcell⟩ := hR w hw
   have hlt := hi hc
   subst hsz
   have hj : 0 < (enc xs[i]).length := by rw [Enc.len]; exact Enc.pos
   obtain ⟨b, rfl, _⟩ := hcell i xs[i] 0 _ (List.getElem?_eq_getElem hlt) (List.getElem?_eq_getElem hj)
   refine ⟨_, rfl, ht.load w _ _ fun j v hv => ?_⟩
   obtain ⟨b', hb', h⟩ := hcell i _ j v (nth_some hlt) hv
   cases hb'
   rw [Nat.add_zero, addr_add_assoc]; exact h
theorem q_loadF [Inhabited α] {t : TypeId} {x : Operand} {cx : List Bool} {sv v : Value} {i sz k : Nat} {xs : List α} (ho : o.op = .load t x) (hx : evl E x = some (cx, elP sv i sz k)) [hs : Sub cx cs] [ht : CellT P t]
   (hsz : sz = Enc.sz α) (hR : ∀ w, C w → RdL sv xs w) (hi : AllT cs → i < xs.length) (hv : (enc (nth xs i))[k]? = some v) : OpR P n E C cs o v :=
 load_run ho hx hs fun hc w hw => by
   obtain ⟨ad, m, cap, rfl, hl, _, _, hcell⟩ := hR w hw
   have hlt := hi hc
   subst hsz
   obtain ⟨b, rfl, h⟩ := hcell i _ k v (nth_some hlt) hv
   refine ⟨_, rfl, ?_⟩
   simp [loadVar, ht.agg w, run_load, h]
theorem q_loadC {w0 : World} {fp : List Nat} {H : List Asn} {t t' : TypeId} {x : Operand} {cx : List Bool} {b k : Nat} {cells : List Value} {v : Value} (ho : o.op = .load t x) (hx : evl E x = some (cx, .pointer (some ⟨b, k, none⟩))) [hs : Sub cx cs] [ht : CellT P t]
   (hH : blk b cells t' ∈ H) (hv : cells[k]? = some v) : OpR P n E (Cl w0 fp H) cs o v :=
 load_run ho hx hs fun _ w hw => by
   obtain ⟨bs, hb⟩ := hw.get hH
   refine ⟨_, rfl, ?_⟩
   simp [loadVar, ht.agg w, run_load, blk.cell hb, hv]
theorem q_loadA {w0 : World} {fp : List Nat} {H : List Asn} {t t' : TypeId} {x : Operand} {cx : List Bool} {b k sz : Nat} {cells : List Value} (ho : o.op = .load t x) (hx : evl E x = some (cx, .pointer (some ⟨b, k, none⟩))) [hs : Sub cx cs] [ht : AggT P t] [hz : SzT P t sz]
   (hH : blk b cells t' ∈ H) (hk : Nat.ble (k + sz) cells.length = true) : OpR P n E (Cl w0 fp H) cs o (.agg ((cells.drop k).take sz).toArray) :=
 load_run ho hx hs fun _ w hw => by
   obtain ⟨bs, hb⟩ := hw.get hH
   refine ⟨_, rfl, ?_⟩
   have hk' := Nat.le_of_ble_eq_true hk
   have hl : ((cells.drop k).take sz).length = sz := by simp; omega
   have := run_loadCells_list (P := P) w ⟨b, k, none⟩ ((cells.drop k).take sz) (fun j v hv => by
     rw [addr_add, blk.cell hb]
     rw [List.getElem?_take] at hv
     split at hv
     · rw [List.getElem?_drop] at hv; exact hv
     · simp at hv)
   rw [hl] at this
   simp [loadVar, ht.agg w, hz.sz w, this]
theorem q_call {f : FuncId} {l : List Operand} {ts : Array TypeId} {vs : List Value} {v : Value} (hf : CanCall P f) (ho : o.op = .call { callee := .value (.func f), args := l.toArray, argTypes := ts }) (hv : Evs E cs l vs)
   (h : AllT cs → ∀ w, C w → Calls P f vs.toArray w fun e w' => e = .returned v ∧ C w') : OpQ P n E C cs o v := by
 intro a ha hc w hw
 unfold Oper.quietAt execOp
 simp only [ho]
 simp only [resolve, Deferred.ofValue, Act.eval, invoke, List.map_toArray, hv.eval ha hc, Sem.run_bind, Sem.run_pure, Result.andThen_ok]
 simp [hf.run]
 exact ⟨rfl, h hc w hw⟩
theorem q_callv {f : FuncId} {cap : Array Value} {x : Operand} {cx : List Bool} {l : List Operand} {ts : Array TypeId} {vs : List Value} {v : Value} (hf : CanCall P f) (ho : o.op = .call { callee := .value x, args := l.toArray, argTypes := ts })
   (hx : evl E x = some (cx, .func (.func f) #[] cap)) [hs : Sub cx cs] (hv : Evs E cs l vs)
   (h : AllT cs → ∀ w, C w → Calls P f (vs.toArray ++ cap) w fun e w' => e = .returned v ∧ C w') : OpQ P n E C cs o v := by
 intro a ha hc w hw
 unfold Oper.quietAt execOp
 simp only [ho]
 simp only [resolve, ha.eval hx hs hc, Deferred.ofValue, invoke, List.map_toArray, hv.eval ha hc, Sem.run_bind, Sem.run_pure, Result.andThen_ok]
 simp [hf.run]
 exact ⟨rfl, h hc w hw⟩
end
theorem hasTy_cell {P : Program} {t : TypeId} {α : Type} [Enc α] (hs : ∀ w, (sizeOf t).run P w = .ok 1 w) (ha : ∀ w, (isAgg t).run P w = .ok false w) (h1 : Enc.sz α = 1) (hv : ∀ x : α, enc x = [val x]) : HasTy P t α :=
 ⟨fun w => by rw [h1]; exact hs w, fun w a x hc => by
   have := hc 0 (val x) (by rw [hv]; rfl)
   have e : a.add 0 = a := by simp [Addr.add]
   rw [e] at this
   simp [loadVar, ha w, run_load, this]⟩
theorem hasTy_agg {P : Program} {t : TypeId} {α : Type} [Enc α] (hs : ∀ w, (sizeOf t).run P w = .ok (Enc.sz α) w) (ha : ∀ w, (isAgg t).run P w = .ok true w) (hv : ∀ x : α, val x = .agg (enc x).toArray) : HasTy P t α :=
 ⟨hs, fun w a x hc => by
   have := run_loadCells_list (P := P) w a (enc x) hc
   rw [Enc.len] at this
   simp [loadVar, ha w, hs w, this, hv]⟩
theorem callq {P : Program} {f : FuncId} {args : Array Value} {v : Value} {w0 w : World} {fp : List Nat} {H : List Asn} (hw : Cl w0 fp H w)
   (h : Calls P f args w fun e w' => e = .returned v ∧ Cl w [] [] w') : Calls P f args w fun e w' => e = .returned v ∧ Cl w0 fp H w' :=
 h.mono fun _ w' ⟨he, hc⟩ => ⟨he, hw.split0.2.2 [] w' hc⟩
theorem stb_arg {w0 w : World} {fp : List Nat} {H : List Asn} {R : World → Prop} (hw : Cl w0 fp H w) (h : Stb w0 fp R) : Stb w [] R := hw.split0.1 R h
theorem stb_own {w0 w : World} {fp : List Nat} {H : List Asn} {α : Type} [Enc α] {e : TypeId} {sv : Value} {l : List α} (hw : Cl w0 fp H w) (h : ownL e sv l ∈ H) : Stb w [] (RdL sv l) := by
 obtain ⟨b2, hb⟩ := hw.split0.2.1 _ h
 exact ⟨fun w' k => ownL.rd (hb.stb w' k)⟩
theorem rd_own {w0 w : World} {fp : List Nat} {H : List Asn} {α : Type} [Enc α] {e : TypeId} {sv : Value} {l : List α} (hw : Cl w0 fp H w) (h : ownL e sv l ∈ H) : RdL sv l w := (stb_own hw h).here
theorem rd_len {α : Type} [Enc α] {sv : Value} {l : List α} {w : World} (h : RdL sv l w) : l.length ≤ 9223372036854775807 := by
 obtain ⟨_, n, cap, _, h1, h2, h3, _⟩ := h
 simp only [maxLen] at h3
 omega
section
variable {P : Program} {ops : Array Oper} {C : World → Prop} {n : Fr} {E : Env} {Q : Exit → Act → World → Prop} {K : Act → Prop} {o : Oper} {rest : List Oper} {d : Nat} {cs cx : List Bool} {v : Value} {x : Operand}
theorem zm (h0 : (gof ops E o.guard, o.dst, Nat.ble (d + 1) n.sz, o.op, evl E x) = (some cs, some d, true, Op.move x, some (cx, v))) [hs : Sub cx cs] (h : SW P ops Q rest n ((d, cs, v) :: E) C) : SW P ops Q (o :: rest) n E C := by
 simp only [Prod.mk.injEq] at h0
 exact sw_step h0.1 h0.2.1 h0.2.2.1 (OpR.q (q_move h0.2.2.2.1 h0.2.2.2.2)) h
theorem za (h0 : (gof ops E o.guard, o.dst, Nat.ble (d + 1) n.sz, o.op, evl E x) = (some cs, some d, true, Op.assign x, some (cx, v))) [hs : Sub cx cs] (h : SW P ops Q rest n ((d, cs, v) :: E) C) : SW P ops Q (o :: rest) n E C := by
 simp only [Prod.mk.injEq] at h0
 exact sw_step h0.1 h0.2.1 h0.2.2.1 (OpR.q (q_assign h0.2.2.2.1 h0.2.2.2.2)) h
theorem zw (h0 : (gof ops E o.guard, o.dst, Nat.ble (d + 1) n.sz, o.op, evl E x) = (some cs, some d, true, Op.move x, some (cx, v))) [hs : Sub cx cs] (h : QW P ops C K rest n ((d, cs, v) :: E)) : QW P ops C K (o :: rest) n E := by
 simp only [Prod.mk.injEq] at h0
 exact qw_step h0.1 h0.2.1 h0.2.2.1 (OpR.q (q_move h0.2.2.2.1 h0.2.2.2.2)) h
end
theorem Evs.k {E : Env} {cs cx : List Bool} {x : Operand} {v : Value} {xs : List Operand} {vs : List Value} (hx : evl E x = some (cx, v)) [hs : Sub cx cs] (h : Evs E cs xs vs) : Evs E cs (x :: xs) (v :: vs) := .cons hx hs h
theorem stA {w0 : World} {fp : List Nat} {R : World → Prop} {H : List Asn} (h : Stb w0 fp R) : ∀ w, Cl w0 fp H w → R w := fun _ hw => Stb.cl h hw
theorem rdO {w0 : World} {fp : List Nat} {H : List Asn} {α : Type} [Enc α] {e : TypeId} {sv : Value} {l : List α} (h : ownL e sv l ∈ H) : ∀ w, Cl w0 fp H w → RdL sv l w := fun _ hw => rd_own hw h
end Go.Sx

/-
 Operations that change memory, in the layer of symbolic frames. General lemmas, no program text.
-/
set_option autoImplicit false
namespace Go.Sx
open Enc (enc val)
class InfoT (P : Program) (e : TypeId) (sz bytes : outParam Nat) (z : outParam (List Value)) : Prop where
 info : ∃ i v, P.info? e = some i ∧ i.size = sz ∧ i.bytes = bytes ∧ i.zero = some v ∧ v.cells = z.toArray ∧ z.length = sz
theorem info_of {P : Program} {e : TypeId} {sz bytes : Nat} {v : Value} {z : List Value} (h : (P.info? e).map (fun i => (i.size, i.bytes, i.zero)) = some (sz, bytes, some v)) (hv : v.cells = z.toArray) (hz : z.length = sz) : InfoT P e sz bytes z := by
 obtain ⟨i, hi, he⟩ := Option.map_eq_some_iff.1 h
 simp only [Prod.mk.injEq] at he
 exact ⟨i, v, hi, he.1, he.2.1, he.2.2, hv, hz⟩
section
variable {P : Program} {ops : Array Oper} {n : Fr} {E : Env} {C : World → Prop} {Q : Exit → Act → World → Prop} {o : Oper} {rest : List Oper} {d : Nat}
theorem sw_x {α : Type} {vf : α → Value} {C' : α → World → Prop} (hg : o.guard = none) (hd : o.dst = some d) (hn : Nat.ble (d + 1) n.sz = true)
   (hop : OpE P n E C o (fun v w' => ∃ x, v = vf x ∧ C' x w')) (h : ∀ x, SW P ops Q rest n ((d, [], vf x) :: E) (C' x)) : SW P ops Q (o :: rest) n E C :=
 sw_eff hg hd hn hop fun _ => sw_ex fun x => sw_imp fun hv => by subst hv; exact h x
theorem chg_alloc (w : World) (ob : Obj) : Chg [] w (w.alloc ob) := ⟨rfl, rfl, rfl, by simp, fun k hk _ => RowKit.Below.heap_alloc w ob k hk⟩
theorem cl_blk (w : World) (cs : List Value) (t : TypeId) : Cl w [] [blk w.heap.size cs t] (w.alloc (.cells cs.toArray t)) :=
 ⟨chg_alloc w _, [w.heap.size], ⟨[w.heap.size], [], rfl, ⟨rfl, heap_alloc_new w _⟩, rfl⟩, by simp, fun b hb => by simp at hb; subst hb; exact ⟨.inr (Nat.le_refl _), by simp⟩⟩
theorem Cl.drew {w0 w : World} {fp : List Nat} {H : List Asn} (h : Cl w0 fp H w) : Cl w0 fp H w.drew := (inferInstance : Drawn (Cl w0 fp H)).drawn w h
theorem Cl.drew_start {w w' : World} {fp : List Nat} {H : List Asn} (h : Cl w.drew fp H w') : Cl w fp H w' := ⟨⟨h.1.os, h.1.tape, h.1.output, h.1.size, h.1.block⟩, h.2⟩
theorem Cl.addNil {α : Type} [Enc α] {w0 w : World} {fp : List Nat} {H : List Asn} (e : TypeId) (h : Cl w0 fp H w) : Cl w0 fp (ownL (α := α) e (.slice none 0 0) [] :: H) w :=
 ⟨h.1, h.2.imp fun _ ⟨hs, hn, hb⟩ => ⟨⟨[], _, rfl, .inl ⟨rfl, rfl, rfl⟩, hs⟩, hn, hb⟩⟩
variable {w0 : World} {fp : List Nat} {H : List Asn}
theorem newVar_run (w : World) (t : TypeId) (v : Value) : (newVar t v).run P w = .ok ⟨w.heap.size, 0, none⟩ (w.alloc (.cells v.cells t)) := by simp [newVar, newRow]
theorem e_box {t : TypeId} {x : Operand} {cx : List Bool} {v : Value} {cells : List Value} (ho : o.op = .box t x) (hx : evl E x = some (cx, v)) [hs : Sub cx []] (hc : v.cells = cells.toArray) :
   OpE P n E (Cl w0 fp H) o (fun u w' => ∃ b, u = .pointer (some ⟨b, 0, none⟩) ∧ Cl w0 fp (blk b cells t :: H) w') :=
 .of_run fun a w ha hw => by
   refine ⟨_, _, ?_, w.heap.size, rfl, hw.split0.2.2 [blk w.heap.size cells t] _ (cl_blk w cells t)⟩
   unfold execOp; simp only [ho]; rw [ha.eval hx hs AllT.nil]
   simp [Instr.box, newVar_run, hc]
theorem e_alloc {t : TypeId} {sz bytes : Nat} {z : List Value} (ho : o.op = .alloc t) [hi : InfoT P t sz bytes z] :
   OpE P n E (Cl w0 fp H) o (fun u w' => ∃ b, u = .pointer (some ⟨b, 0, none⟩) ∧ Cl w0 fp (blk b z t :: H) w') :=
 .of_run fun a w ha hw => by
   obtain ⟨i, v, h1, h2, h3, h4, h5, h6⟩ := hi.info
   refine ⟨_, _, ?_, w.heap.size, rfl, hw.split0.2.2 [blk w.heap.size z t] _ (cl_blk w z t)⟩
   unfold execOp; simp only [ho]
   simp [Instr.alloc, zeroValue, typeInfo, h1, h4, newVar_run, h5]
def putL (cs : List Value) (k : Nat) (vs : List Value) : List Value := cs.take k ++ vs ++ cs.drop (k + vs.length)
theorem setRow_chg (w : World) (b : Nat) (cs : Array Value) : Chg [b] w (w.setRow b cs) := ⟨rfl, rfl, rfl, by simp, fun k _ hk => setRow_other w b k cs (by simpa using hk)⟩
theorem cl_setRow {w : World} {b : Nat} {A : Asn} {old cs : Array Value} {t : TypeId} (hb : w.heap[b]? = some (.cells old t (0, 0)))
   (hA : ∀ w', w'.heap[b]? = some (.cells cs t (0, 0)) → A.holds w' [b]) : Cl w [b] [A] (w.setRow b cs) := by
 have hlt : b < w.heap.size := (Array.getElem?_eq_some_iff.1 hb).1
 exact ⟨setRow_chg w b cs, [b], ⟨[b], [], rfl, hA _ (setRow_heap w b old cs t (0, 0) hb), rfl⟩, by simp, fun k hk => by simp at hk; subst hk; exact ⟨.inl (by simp), by simpa using hlt⟩⟩
theorem storeVar_run {w : World} {t : TypeId} {v : Value} {vs : List Value} {b k : Nat} {cur : Array Value} {t' : TypeId} {sz : Nat} [hz : SzT P t sz] (hv : v.cells = vs.toArray) (hl : vs.length = sz) (h1 : ∀ u, u ∈ vs → u.oneCell' = true)
   (hb : w.heap[b]? = some (.cells cur t' (0, 0))) (hk : k + vs.length ≤ cur.size) :
   (storeVar t ⟨b, k, none⟩ v).run P w = .ok () (w.setRow b (cur.toList.take k ++ vs ++ cur.toList.drop (k + vs.length)).toArray) := by
 have := run_storeCells_at P b k t' vs 0 cur w hb (by simpa using hk) h1
 simp only [Nat.add_zero] at this
 simp [storeVar, hz.sz, hv, hl, this]
theorem e_store {t t' : TypeId} {x y : Operand} {cx cy : List Bool} {b k : Nat} {v : Value} {vs cells : List Value} {sz i : Nat} (ho : o.op = .store t x y) (hx : evl E x = some (cx, .pointer (some ⟨b, k, none⟩))) (hy : evl E y = some (cy, v))
   [sx : Sub cx []] [sy : Sub cy []] [hz : SzT P t sz] (hi : nthA H i = some (blk b cells t')) (hv : v.cells = vs.toArray) (hl : vs.length = sz) (h1 : vs.all (·.oneCell') = true) (hk : Nat.ble (k + sz) cells.length = true) :
   OpE P n E (Cl w0 fp H) o (fun u w' => u = undef ∧ Cl w0 fp (setA H i (blk b (putL cells k vs) t')) w') :=
 .of_run0 fun a w ha hw => by
   obtain ⟨bs, ⟨b1, b2, rfl, ⟨rfl, hb⟩, rfl⟩, _, _, _, _, h6⟩ := (hw.focus hi).split
   have hk' := Nat.le_of_ble_eq_true hk
   have hr := storeVar_run (P := P) (w := w) (t := t) (v := v) (vs := vs) (b := b) (k := k) (cur := cells.toArray) (t' := t') hv hl (fun u hu => List.all_eq_true.1 h1 u hu) hb (by simp; omega)
   refine ⟨_, ?_, (h6 [blk b (putL cells k vs) t'] _ (cl_setRow (A := blk b (putL cells k vs) t') (cs := (putL cells k vs).toArray) hb fun w' h' => ⟨rfl, ?_⟩)).set hi⟩
   · unfold execOp; simp only [ho]; rw [ha.eval hx sx AllT.nil, ha.eval hy sy AllT.nil]
     simp [Instr.storeAt, Instr.sureAddr, hr, putL]
   · exact h'
theorem splice (A B C D vs : List Value) (k : Nat) (hk : k + vs.length ≤ B.length) :
   ((A ++ (B ++ (C ++ D))).take (A.length + k) ++ vs ++ (A ++ (B ++ (C ++ D))).drop (A.length + k + vs.length)).take (A.length + B.length + C.length) = A ++ putL B k vs ++ C := by
 have e1 : (A ++ (B ++ (C ++ D))).take (A.length + k) = A ++ B.take k := by rw [List.take_length_add_append, List.take_append_of_le_length (by omega)]
 have e2 : (A ++ (B ++ (C ++ D))).drop (A.length + k + vs.length) = B.drop (k + vs.length) ++ (C ++ D) := by rw [Nat.add_assoc, List.drop_length_add_append, List.drop_append_of_le_length (by omega)]
 rw [e1, e2]
 have e3 : A ++ B.take k ++ vs ++ (B.drop (k + vs.length) ++ (C ++ D)) = (A ++ putL B k vs ++ C) ++ D := by simp [putL]
 rw [e3]
 refine List.take_left' ?_
 simp only [putL, List.length_append, List.length_take, List.length_drop]
 omega
theorem splice_at (L vs : List Value) (m sz N k : Nat) (hk : k + vs.length ≤ sz) (h1 : m + sz ≤ N) (h2 : N ≤ L.length) :
   (L.take (m + k) ++ vs ++ L.drop (m + k + vs.length)).take N = (L.take N).take m ++ putL (((L.take N).drop m).take sz) k vs ++ (L.take N).drop (m + sz) := by
 have hL : L = L.take m ++ ((L.drop m).take sz ++ ((L.drop (m + sz)).take (N - m - sz) ++ L.drop N)) := by
   have a1 : (L.drop (m + sz)).take (N - m - sz) ++ L.drop N = L.drop (m + sz) := by
     have := List.take_append_drop (N - m - sz) (L.drop (m + sz))
     rw [List.drop_drop, show m + sz + (N - m - sz) = N by omega] at this
     exact this
   have a2 : (L.drop m).take sz ++ L.drop (m + sz) = L.drop m := by
     have := List.take_append_drop sz (L.drop m)
     rw [List.drop_drop] at this
     exact this
   rw [a1, a2, List.take_append_drop]
 have l1 : (L.take m).length = m := by rw [List.length_take]; omega
 have l2 : ((L.drop m).take sz).length = sz := by rw [List.length_take, List.length_drop]; omega
 have l3 : ((L.drop (m + sz)).take (N - m - sz)).length = N - m - sz := by rw [List.length_take, List.length_drop]; omega
 have h := splice (L.take m) ((L.drop m).take sz) ((L.drop (m + sz)).take (N - m - sz)) (L.drop N) vs k (by rw [l2]; exact hk)
 rw [← hL, l1, l2, l3, show m + sz + (N - m - sz) = N by omega] at h
 rw [h]
 have b1 : (L.take N).take m = L.take m := by rw [List.take_take, Nat.min_eq_left (by omega)]
 have b2 : ((L.take N).drop m).take sz = (L.drop m).take sz := by rw [List.drop_take, List.take_take, Nat.min_eq_left (by omega)]
 have b3 : (L.take N).drop (m + sz) = (L.drop (m + sz)).take (N - m - sz) := by rw [List.drop_take, show N - (m + sz) = N - m - sz by omega]
 rw [b1, b2, b3]
theorem e_storeEl {α : Type} [Enc α] [Inhabited α] {t e : TypeId} {x y : Operand} {cx cy : List Bool} {sv v : Value} {vs : List Value} {j sz k szt i : Nat} {l : List α} {u : α} (ho : o.op = .store t x y) (hx : evl E x = some (cx, elP sv j sz k)) (hy : evl E y = some (cy, v))
   [sx : Sub cx []] [sy : Sub cy []] [hz : SzT P t szt] (hi : nthA H i = some (ownL e sv l)) (hsz : sz = Enc.sz α) (hv : v.cells = vs.toArray) (hl : vs.length = szt) (h1 : vs.all (·.oneCell') = true)
   (hj : j < l.length) (hu : enc u = putL (enc (nth l j)) k vs) (hk0 : Nat.ble (k + szt) sz = true) :
   OpE P n E (Cl w0 fp H) o (fun u' w' => u' = undef ∧ Cl w0 fp (setA H i (ownL e sv (l.set j u))) w') :=
 .of_run0 fun a w ha hw => by
   have hk := Nat.le_of_ble_eq_true hk0
   obtain ⟨bs, ⟨b1, b2, rfl, hown, rfl⟩, _, _, _, _, h6⟩ := (hw.focus hi).split
   have hlen := flat_len l
   have hp := Enc.pos (α := α)
   subst hsz
   have hmul : j * Enc.sz α + Enc.sz α ≤ l.length * Enc.sz α := by
     rw [← Nat.succ_mul]; exact Nat.mul_le_mul_right _ hj
   rcases hown with ⟨_, h, _⟩ | ⟨b, m, cap, cur, rfl, rfl, h3, h4, h5, h7, h8, h9⟩
   · rw [h] at hlen; simp at hlen; omega
   · rw [hlen] at h8
     have hm := Nat.eq_of_mul_eq_mul_right hp h8
     subst hm
     have hcap : l.length * Enc.sz α ≤ cur.size := by rw [h7]; exact Nat.mul_le_mul_right _ h4
     have hr := storeVar_run (P := P) (w := w) (t := t) (v := v) (vs := vs) (b := b) (k := j * Enc.sz α + k) (cur := cur) (t' := e) hv hl (fun u hu => List.all_eq_true.1 h1 u hu) h3 (by omega)
     simp only [List.append_nil] at h6
     refine ⟨_, ?_, (h6 [ownL e _ (l.set j u)] _ (cl_setRow (A := ownL e _ (l.set j u)) (cs := (cur.toList.take (j * Enc.sz α + k) ++ vs ++ cur.toList.drop (j * Enc.sz α + k + vs.length)).toArray) h3 fun w' h' => .inr ⟨b, _, cap, _, rfl, rfl, h', h4, h5, ?_, ?_, ?_⟩)).set hi⟩
     · unfold execOp; simp only [ho]; rw [ha.eval hx sx AllT.nil, ha.eval hy sy AllT.nil]
       simp [elP, addr_add, Instr.storeAt, Instr.sureAddr, hr]
     · simp only [List.size_toArray, List.length_append, List.length_take, List.length_drop, Array.length_toList]; omega
     · rw [flat_len, List.length_set]
     · rw [flat_set l j u hj, ← h9, hu]
       have e0 : enc (nth l j) = ((l.flatMap enc).drop (j * Enc.sz α)).take (Enc.sz α) := by
         apply List.ext_getElem?
         intro q
         rw [List.getElem?_take, List.getElem?_drop]
         split
         · rename_i hq
           have : (enc (nth l j))[q]? = some ((enc (nth l j))[q]'(by rw [Enc.len]; exact hq)) := List.getElem?_eq_getElem _
           rw [this, flat_get l j (nth l j) q _ (nth_some hj) this]
         · rename_i hq
           rw [List.getElem?_eq_none]; rw [Enc.len]; omega
       rw [e0, ← h9]
       exact splice_at cur.toList vs (j * Enc.sz α) (Enc.sz α) (l.length * Enc.sz α) k (by omega) hmul (by rw [Array.length_toList]; exact hcap)
theorem e_storeEl1 {α : Type} [Enc α] [Inhabited α] {t e : TypeId} {x y : Operand} {cx cy : List Bool} {sv : Value} {j sz i : Nat} {l : List α} {u : α} (ho : o.op = .store t x y) (hx : evl E x = some (cx, elP sv j sz 0)) (hy : evl E y = some (cy, val u))
   [sx : Sub cx []] [sy : Sub cy []] [hz : SzT P t sz] (hi : nthA H i = some (ownL e sv l)) (hsz : sz = Enc.sz α) (hj : j < l.length) :
   OpE P n E (Cl w0 fp H) o (fun u' w' => u' = undef ∧ Cl w0 fp (setA H i (ownL e sv (l.set j u))) w') :=
 e_storeEl ho hx hy hi hsz (Enc.cells u) (by rw [hsz, Enc.len]) (List.all_eq_true.2 fun v hv => Enc.one u v hv) hj
   (by simp only [putL, List.take_zero, List.nil_append]; rw [List.drop_of_length_le (by rw [Enc.len, Enc.len]; omega), List.append_nil]) (by rw [Nat.ble_eq, hsz]; omega)
theorem ownL_made {α : Type} [Enc α] {e : TypeId} {l : List α} {b cap : Nat} {cur : Array Value} {w : World} (h : w.heap[b]? = some (.cells cur e (0, 0))) (h1 : l.length ≤ cap) (h2 : cap ≤ maxLen) (h3 : cur.size = cap * Enc.sz α)
   (h4 : cur.toList.take (l.length * Enc.sz α) = l.flatMap enc) : (ownL e (.slice (some ⟨b, 0, none⟩) l.length cap) l).holds w [b] :=
 .inr ⟨b, _, cap, cur, rfl, rfl, h, h1, h2, h3, flat_len l, h4⟩
theorem cl_own_new {α : Type} [Enc α] {e : TypeId} {l : List α} {cap : Nat} {cur : Array Value} (w : World) (h1 : l.length ≤ cap) (h2 : cap ≤ maxLen) (h3 : cur.size = cap * Enc.sz α)
   (h4 : cur.toList.take (l.length * Enc.sz α) = l.flatMap enc) : Cl w [] [ownL e (.slice (some ⟨w.heap.size, 0, none⟩) l.length cap) l] (w.alloc (.cells cur e)) :=
 ⟨chg_alloc w _, [w.heap.size], ⟨[w.heap.size], [], rfl, ownL_made (heap_alloc_new w _) h1 h2 h3 h4, rfl⟩, by simp, fun b hb => by simp at hb; subst hb; exact ⟨.inr (Nat.le_refl _), by simp⟩⟩
def fillOf (z : List Value) (sz len : Nat) (parts : List (Nat × Value)) : Option (Array Value) :=
 Instr.fill (fun i => some (i * sz, sz)) ((Array.range (len * sz)).map (z.toArray[· % z.toArray.size]!)) parts
theorem e_buildSlice {α : Type} [Enc α] {t e : TypeId} {len sz bytes : Nat} {z : List Value} {ps : List (Nat × Operand)} {vs : List Value} {l : List α} (ho : o.op = .buildSlice t len ps.toArray) (hv : Evs E [] (ps.map (·.2)) vs)
   [ht : SlT P t e] [hi : InfoT P e sz bytes z] (hsz : sz = Enc.sz α) (hlen : l.length = len) (hsmall : Nat.ble (len * sz) 16777216 = true) (hb : fillOf z sz len ((ps.map (·.1)).zip vs) = some (l.flatMap enc).toArray) :
   OpE P n E (Cl w0 fp H) o (fun u w' => ∃ s : SlV, u = s.v ∧ Cl w0 fp (ownL e s.v l :: H) w') :=
 .of_run fun a w ha hw => by
   obtain ⟨i, v, h1, h2, h3, h4, h5, h6⟩ := hi.info
   have hs := Nat.le_of_ble_eq_true hsmall
   subst hsz hlen
   refine ⟨_, _, ?_, ⟨some ⟨w.heap.size, 0, none⟩, l.length, l.length⟩, rfl, hw.split0.2.2 [ownL e _ l] _ (cl_own_new (e := e) (l := l) (cap := l.length) (cur := (l.flatMap enc).toArray) w (Nat.le_refl _) ?_ ?_ ?_)⟩
   · unfold execOp; simp only [ho]
     have h7 : ps.map (fun (i, x) => (i, a.eval x)) = (ps.map (·.1)).zip vs := by
       rw [← hv.eval ha AllT.nil]
       clear ho hb hv
       induction ps with
       | nil => rfl
       | cons p ps ih => simp [ih]
     simp only [List.map_toArray, h7]
     unfold fillOf at hb
     by_cases h0 : l.length * Enc.sz α = 0
     · have hp := Enc.pos (α := α)
       have : l.length = 0 := by
         rcases Nat.mul_eq_zero.1 h0 with h | h
         · exact h
         · omega
       simp only [h0] at hb
       simp [Array.range_zero'] at hb
       simp [Instr.buildSlice, run_underlying ht.und, sizeOf, typeInfo, h1, h2, h0, hb, newRow, Array.range_zero', SlV.v]
     · simp only [Nat.reducePow] at *
       have h8 : ¬ (16777216 < l.length * Enc.sz α) := by omega
       simp [Instr.buildSlice, run_underlying ht.und, sizeOf, typeInfo, h1, h2, h0, h8, zeroValue, h4, h5, newRow]
       simp at hb
       simp [hb, SlV.v]
   · have hp := Enc.pos (α := α)
     have : l.length ≤ l.length * Enc.sz α := Nat.le_mul_of_pos_right _ hp
     simp only [maxLen]; omega
   · rw [List.size_toArray, flat_len]
   · rw [List.toList_toArray, ← flat_len, List.take_length]
theorem set_all (off : Nat) : ∀ (vs : List Value) (k : Nat) (pre mid post : List Value), pre.length = off + k → mid.length = vs.length →
   (vs.zipIdx k).foldl (fun (cs : Array Value) (x : Value × Nat) => cs.setIfInBounds (off + x.2) x.1) (pre ++ (mid ++ post)).toArray = (pre ++ (vs ++ post)).toArray := by
 intro vs
 induction vs with
 | nil => intro k pre mid post _ hc; simp at hc; simp [hc]
 | cons v vs ih =>
   intro k pre mid post hk hc
   cases mid with
   | nil => simp at hc
   | cons c mid =>
     simp only [List.zipIdx_cons, List.foldl_cons]
     have e1 : (pre ++ (c :: mid ++ post)).toArray.setIfInBounds (off + k) v = ((pre ++ [v]) ++ (mid ++ post)).toArray := by simp [← hk]
     rw [e1, ih (k + 1) (pre ++ [v]) mid post (by simp [hk, Nat.add_assoc]) (by simpa using hc)]
     simp
theorem fill_all {α : Type} [Enc α] : ∀ (l : List α) (k : Nat) (pre post : List Value), pre.length = k * Enc.sz α → post.length = l.length * Enc.sz α →
   Instr.fill (fun i => some (i * Enc.sz α, Enc.sz α)) (pre ++ post).toArray ((List.range' k l.length).zip (l.map val)) = some (pre ++ l.flatMap enc).toArray := by
 intro l
 induction l with
 | nil => intro k pre post _ hp; simp at hp; simp [Instr.fill, hp]
 | cons x l ih =>
   intro k pre post hk hp
   have h1 := Enc.cells x
   have h2 := Enc.len x
   simp only [List.length_cons, List.range'_succ, List.map_cons, List.zip_cons_cons, Instr.fill]
   have h3 : (val x).cells.size = Enc.sz α := by rw [h1]; simpa using h2
   have hlen : post.length = Enc.sz α + l.length * Enc.sz α := by rw [hp, List.length_cons, Nat.add_mul, Nat.one_mul, Nat.add_comm]
   have hsize : (pre ++ post).toArray.size = k * Enc.sz α + Enc.sz α + l.length * Enc.sz α := by simp only [List.size_toArray, List.length_append]; omega
   rw [if_neg (by rw [h3, hsize]; simp)]
   have e0 : (pre ++ post).toArray = (pre ++ (post.take (Enc.sz α) ++ post.drop (Enc.sz α))).toArray := by rw [List.take_append_drop]
   have e2 := set_all (k * Enc.sz α) (enc x) 0 pre (post.take (Enc.sz α)) (post.drop (Enc.sz α)) (by omega) (by rw [List.length_take, h2]; omega)
   rw [h1, Array.zipIdx_toArray, e0]
   have e3 : ∀ (a : Array Value) (L : List (Value × Nat)), Array.foldl (fun (cs : Array Value) (x : Value × Nat) => match x with | (c, j) => cs.setIfInBounds (k * Enc.sz α + j) c) a L.toArray = L.foldl (fun (cs : Array Value) (x : Value × Nat) => cs.setIfInBounds (k * Enc.sz α + x.2) x.1) a := fun a L => by simp
   rw [e3, e2, ← List.append_assoc, ih (k + 1) (pre ++ enc x) (post.drop (Enc.sz α)) (by rw [List.length_append, h2, hk, Nat.add_mul, Nat.one_mul]) (by rw [List.length_drop]; omega)]
   simp
theorem e_buildL {α : Type} [Enc α] {t e : TypeId} {len sz bytes : Nat} {z : List Value} {ps : List (Nat × Operand)} {l : List α} (ho : o.op = .buildSlice t len ps.toArray) (hv : Evs E [] (ps.map (·.2)) (l.map val))
   [ht : SlT P t e] [hi : InfoT P e sz bytes z] (hsz : sz = Enc.sz α) (hlen : l.length = len) (hps : ps.map (·.1) = List.range' 0 len) (hsmall : Nat.ble (len * sz) 16777216 = true) :
   OpE P n E (Cl w0 fp H) o (fun u w' => ∃ s : SlV, u = s.v ∧ Cl w0 fp (ownL e s.v l :: H) w') := by
 refine e_buildSlice (l := l) (ps := ps) (vs := l.map val) ho hv hsz hlen hsmall ?_
 subst hsz
 rw [hps, ← hlen]
 unfold fillOf
 have := fill_all l 0 [] ((List.range (l.length * Enc.sz α)).map (z.toArray[· % z.toArray.size]!)) (by simp) (by simp)
 simp only [List.nil_append] at this
 rw [← this]
 congr 1
 rw [← List.toArray_range, List.map_toArray]
theorem e_build1 {α : Type} [Enc α] {t e : TypeId} {sz bytes : Nat} {z : List Value} {y : Operand} {cy : List Bool} {x : α} (ho : o.op = .buildSlice t 1 [(0, y)].toArray) (hy : evl E y = some (cy, val x)) [sy : Sub cy []]
   [ht : SlT P t e] [hi : InfoT P e sz bytes z] (hsz : sz = Enc.sz α) (hsmall : Nat.ble sz 16777216 = true) :
   OpE P n E (Cl w0 fp H) o (fun u w' => ∃ s : SlV, u = s.v ∧ Cl w0 fp (ownL e s.v [x] :: H) w') :=
 e_buildL (l := [x]) (ps := [(0, y)]) ho (.cons hy sy .nil) hsz rfl rfl (by simpa using hsmall)
theorem e_make {α : Type} [Enc α] {t e : TypeId} {x y : Operand} {cx cy : List Bool} {kl kc : IntKind} {m : Int} {sz bytes : Nat} {z : List Value} {zero : α} (ho : o.op = .makeSlice t x y) (hx : evl E x = some (cx, .int kl m)) (hy : evl E y = some (cy, .int kc m))
   [sx : Sub cx []] [sy : Sub cy []] [ht : SlT P t e] [hi : InfoT P e sz bytes z] (hsz : sz = Enc.sz α) (hz : z = enc zero) (h0 : 0 ≤ m) (hb : m * bytes ≤ 281474976710656) (hb1 : 1 ≤ bytes) :
   OpE P n E (Cl w0 fp H) o (fun u w' => ∃ s : SlV, u = s.v ∧ Cl w0 fp (ownL e s.v (List.replicate m.toNat zero) :: H) w') :=
 .of_run fun a w ha hw => by
   obtain ⟨i, v, h1, h2, h3, h4, h5, h6⟩ := hi.info
   have hm : m ≤ 281474976710656 := Int.le_trans (by have := Int.mul_le_mul_of_nonneg_left (show (1 : Int) ≤ bytes by omega) h0; omega) hb
   have hr := run_make (P := P) w t e i v ht.und h1 h4 kl kc m m h0 (Int.le_refl _) (by rw [h3, Int.mul_comm]; exact hb) (by omega)
   subst hsz
   have hfl : ∀ k, (List.replicate k zero).flatMap enc = (madeCells v.cells (k * i.size)).toList := by
     intro k
     rw [h5, hz, h2]
     apply List.ext_getElem?
     intro q
     by_cases hq : q < k * Enc.sz α
     · have hp := Enc.pos (α := α)
       have hd : q / Enc.sz α < k := (Nat.div_lt_iff_lt_mul hp).2 hq
       have hmod := Nat.mod_lt q hp
       have h7 := flat_get (List.replicate k zero) (q / Enc.sz α) zero (q % Enc.sz α) ((enc zero)[q % Enc.sz α]'(by rw [Enc.len]; exact hmod)) (by simp [hd]) (List.getElem?_eq_getElem _)
       rw [Nat.mul_comm, Nat.div_add_mod] at h7
       rw [h7]
       simp [madeCells, hq, Enc.len, hmod]
     · rw [List.getElem?_eq_none (by rw [flat_len, List.length_replicate]; omega), List.getElem?_eq_none (by simp [size_madeCells]; omega)]
   have hc := cl_own_new (e := e) (l := List.replicate m.toNat zero) (cap := m.toNat) (cur := madeCells v.cells (m.toNat * i.size)) w (by simp) (by simp only [maxLen]; omega) (by rw [size_madeCells, h2])
     (by rw [hfl, List.length_replicate, List.take_of_length_le]; rw [Array.length_toList, size_madeCells, h2]; exact Nat.le_refl _)
   rw [List.length_replicate] at hc
   refine ⟨_, _, ?_, ⟨some ⟨w.heap.size, 0, none⟩, m.toNat, m.toNat⟩, rfl, hw.split0.2.2 [ownL e _ (List.replicate m.toNat zero)] _ hc⟩
   unfold execOp; simp only [ho]; rw [ha.eval hx sx AllT.nil, ha.eval hy sy AllT.nil]
   simp [hr, SlV.v]
theorem append_core {α : Type} [Enc α] {w : World} {t e ty : TypeId} {sz bytes : Nat} {z : List Value} {sv sw : Value} {l r : List α} {bs : List Nat} [ht : SlT P t e] [hi : InfoT P e sz bytes z] (hsz : sz = Enc.sz α)
   (hown : (ownL e sv l).holds w bs) (hrd : RdL sw r w) (hb : (l.length + r.length) * bytes ≤ 140737488355328) (hb1 : 1 ≤ bytes) :
   ∃ (v : SlV) (w' : World), (Builtin.append_ #[t, t] ty #[sv, sw]).run P w = .ok v.v w' ∧ Cl w bs [ownL e v.v (l ++ r)] w' := by
 obtain ⟨i, z0, h1, h2, h3, h4, h5, h6⟩ := hi.info
 obtain ⟨ad, m, c, rfl, hm, hmc, hcm, hcell⟩ := hrd
 subst hsz hm
 have hp := Enc.pos (α := α)
 have hnews : ∀ (a : Addr), ad = some a → ∀ j u, (r.flatMap enc)[j]? = some u → w.cell? (a.add j) = some u := by
   intro a ha j u hu
   obtain ⟨x, hx, hu'⟩ := flat_inv r j u hu
   obtain ⟨b, hb', hc⟩ := hcell _ x _ u hx hu'
   rw [ha] at hb'; cases hb'
   rw [Nat.mul_comm, Nat.div_add_mod] at hc
   exact hc
 have hsmall : l.length + r.length ≤ 140737488355328 := Nat.le_trans (Nat.le_mul_of_pos_right _ hb1) hb
 have hzc : z0.cells.size = Enc.sz α := by rw [h5]; simpa using h6
 have grown : ∀ (old : Nat), Cl w [] [ownL e (.slice (some ⟨w.heap.size, 0, none⟩) (l.length + r.length) (grownCap w (l.length + r.length) old e)) (l ++ r)]
     (w.drew.alloc (.cells ((l.flatMap enc).toArray ++ (r.flatMap enc).toArray ++ Builtin.zeroCells z0.cells (grownCap w (l.length + r.length) old e - (l.length + r.length))) e)) := by
   intro old
   have hge := grownCap_ge w (l.length + r.length) old e
   have hle := grownCap_le_maxLen w (l.length + r.length) old e (by simp only [maxLen]; omega)
   have := cl_own_new (e := e) (l := l ++ r) (cap := grownCap w (l.length + r.length) old e)
     (cur := (l.flatMap enc).toArray ++ (r.flatMap enc).toArray ++ Builtin.zeroCells z0.cells (grownCap w (l.length + r.length) old e - (l.length + r.length))) w.drew (by simpa using hge) hle
     (by simp only [Array.size_append, List.size_toArray, flat_len, size_zeroCells, hzc, ← Nat.add_mul]; congr 1; omega)
     (by
       simp only [Array.toList_append, List.flatMap_append]
       rw [List.toList_toArray, List.toList_toArray, List.take_left' (by rw [List.length_append, flat_len, flat_len, List.length_append, Nat.add_mul])])
   rw [List.length_append] at this
   exact this.drew_start
 by_cases hr0 : r = []
 · -- nothing is appended
   subst hr0
   rcases hown with ⟨rfl, hl, rfl⟩ | ⟨b, n', cap, cur, rfl, rfl, g3, g4, g5, g6, g7, g8⟩
   · have hl0 : l = [] := by
       have := flat_len l
       rw [hl] at this
       rcases Nat.mul_eq_zero.1 this.symm with h | h
       · exact List.eq_nil_of_length_eq_zero h
       · omega
     subst hl0
     refine ⟨⟨none, 0, 0⟩, w, ?_, ⟨Chg.refl _ _, [], ⟨[], [], rfl, .inl ⟨rfl, rfl, rfl⟩, rfl⟩, by simp, by simp⟩⟩
     simp [SlV.v, Builtin.append_, run_underlying ht.und, sizeOf, typeInfo, h1, Builtin.lenOf, Builtin.firstCells, loadCells, loadCellsFrom]
     cases ad <;> simp [Builtin.firstCells, loadCells, loadCellsFrom]
   · have hn' : n' = l.length := by
       rw [flat_len] at g7; exact (Nat.eq_of_mul_eq_mul_right hp g7).symm
     subst hn'
     refine ⟨⟨some ⟨b, 0, none⟩, l.length, cap⟩, w, ?_, ⟨Chg.refl _ _, [b], ⟨[b], [], rfl, .inr ⟨b, l.length, cap, cur, rfl, rfl, g3, g4, g5, g6, by simpa using g7, by simpa using g8⟩, rfl⟩, by simp, fun k hk => ?_⟩⟩
     · simp [SlV.v, Builtin.append_, run_underlying ht.und, sizeOf, typeInfo, h1, Builtin.lenOf, Builtin.firstCells, loadCells, loadCellsFrom, g4]
       cases ad <;> simp [Builtin.firstCells, loadCells, loadCellsFrom, storeCells]
     · simp at hk; subst hk
       exact ⟨.inl (by simp), (Array.getElem?_eq_some_iff.1 g3).1⟩
 · have hpos : 0 < r.length := List.length_pos_iff.2 hr0
   have hex : ∃ a, ad = some a := by
     have hj : 0 < (enc r[0]).length := by rw [Enc.len]; exact hp
     obtain ⟨b, hb', _⟩ := hcell 0 r[0] 0 _ (List.getElem?_eq_getElem hpos) (List.getElem?_eq_getElem hj)
     exact ⟨b, hb'⟩
   obtain ⟨a, rfl⟩ := hex
   have hn := hnews a rfl
   rcases hown with ⟨rfl, hl, rfl⟩ | ⟨b, n', cap, cur, rfl, rfl, g3, g4, g5, g6, g7, g8⟩
   · have hl0 : l = [] := by
       have := flat_len l
       rw [hl] at this
       rcases Nat.mul_eq_zero.1 this.symm with h | h
       · exact List.eq_nil_of_length_eq_zero h
       · omega
     subst hl0
     have hr := run_append_nil (P := P) w t ty e i z0 ht.und h1 h4 a r.length c (r.flatMap enc) (by rw [flat_len, h2]) hn hpos (by simp at hsmall; omega) (by rw [h3]; simp at hb; omega)
     have hg := grown 0
     simp only [List.length_nil, Nat.zero_add, List.flatMap_nil, List.nil_append] at hg
     refine ⟨⟨some ⟨w.heap.size, 0, none⟩, r.length, grownCap w r.length 0 e⟩, _, hr, ?_⟩
     simp only [List.nil_append]
     rw [Array.empty_append] at hg
     exact hg
   · have hn' : n' = l.length := by
       rw [flat_len] at g7; exact (Nat.eq_of_mul_eq_mul_right hp g7).symm
     subst hn'
     by_cases hroom : l.length + r.length ≤ cap
     · have hfit : l.length * i.size + (r.flatMap enc).length ≤ cur.size := by
         rw [flat_len, h2, g6, ← Nat.add_mul]; exact Nat.mul_le_mul_right _ hroom
       have hr := run_append_room (P := P) w t ty e i ht.und h1 b l.length cap cur g3 a r.length c (r.flatMap enc) (by rw [flat_len, h2]) hn (flat_one r) hroom hfit
       refine ⟨⟨_, _, _⟩, _, hr, cl_setRow g3 fun w' h' => .inr ⟨b, _, cap, _, rfl, rfl, h', hroom, g5, ?_, ?_, ?_⟩⟩
       · simp only [List.size_toArray, List.length_append, List.length_take, List.length_drop, Array.length_toList]; omega
       · rw [flat_len, List.length_append]
       · rw [h2, g8, List.flatMap_append, Nat.add_mul]
         rw [List.take_left']
         rw [List.length_append, flat_len, flat_len]
     · have holds : ∀ j u, (l.flatMap enc)[j]? = some u → w.cell? ((⟨b, 0, none⟩ : Addr).add j) = some u := by
         intro j u hu
         rw [addr_add, Nat.zero_add, cell_at g3]
         rw [← g8, List.getElem?_take] at hu
         split at hu
         · simpa using hu
         · simp at hu
       have hr := run_append_grow (P := P) w t ty e i z0 ht.und h1 h4 ⟨b, 0, none⟩ l.length cap (l.flatMap enc) (by rw [flat_len, h2]) holds a r.length c (r.flatMap enc) (by rw [flat_len, h2]) hn (by omega) (by omega) (growslice_fits (by omega) (by rw [h3]; exact hb))
       refine ⟨⟨_, _, _⟩, _, hr, ?_⟩
       obtain ⟨k1, cs, k2, k3, k4⟩ := grown cap
       refine ⟨⟨k1.os, k1.tape, k1.output, k1.size, fun k hk _ => k1.block k hk (by simp)⟩, cs, k2, k3, fun x hx => ⟨.inr ?_, (k4 x hx).2⟩⟩
       rcases (k4 x hx).1 with h | h
       · simp at h
       · exact h
theorem e_append {α : Type} [Enc α] {t e : TypeId} {sz bytes : Nat} {z : List Value} {ops' : List Operand} {sv sw : Value} {l r : List α} {i : Nat} (ho : o.op = .call { callee := .builtin .append, args := ops'.toArray, argTypes := #[t, t] }) (hv : Evs E [] ops' [sv, sw])
   [ht : SlT P t e] [hi : InfoT P e sz bytes z] (hsz : sz = Enc.sz α) (hi' : nthA H i = some (ownL e sv l)) (hrd : ∀ w, Cl w0 fp H w → RdL sw r w) (hb : (l.length + r.length) * bytes ≤ 140737488355328) (hb1 : Nat.ble 1 bytes = true) :
   OpE P n E (Cl w0 fp H) o (fun u w' => ∃ s' : SlV, u = s'.v ∧ Cl w0 fp (setA H i (ownL e s'.v (l ++ r))) w') :=
 .of_run fun a w ha hw => by
   obtain ⟨bs, ⟨b1, b2, rfl, hown, rfl⟩, _, _, _, _, h6⟩ := (hw.focus hi').split
   simp only [List.append_nil] at h6
   obtain ⟨v, w', hr, hc⟩ := append_core (P := P) (ty := o.type) (t := t) hsz hown (hrd w hw) hb (Nat.le_of_ble_eq_true hb1)
   refine ⟨v.v, w', ?_, v, rfl, (h6 _ _ hc).set hi'⟩
   unfold execOp; simp only [ho]
   simp only [resolve, invoke, List.map_toArray, hv.eval ha AllT.nil, Sem.run_bind, Sem.run_pure, Result.andThen_ok]
   simp [builtin, hr]
theorem e_call {α : Type} {vf : α → Value} {p : α → Prop} {B : α → List Asn} {f : FuncId} {l : List Operand} {ts : Array TypeId} {vs : List Value} (hf : CanCall P f) (ho : o.op = .call { callee := .value (.func f), args := l.toArray, argTypes := ts }) (hv : Evs E [] l vs)
   (h : ∀ w, Cl w0 fp H w → Calls P f vs.toArray w fun e w' => ∃ x, e = .returned (vf x) ∧ p x ∧ Cl w [] (B x) w') : OpE P n E (Cl w0 fp H) o (fun v w' => ∃ x, v = vf x ∧ p x ∧ Cl w0 fp (B x ++ H) w') :=
 .of_call (f := f) (args := vs.toArray) (fun a w ha hw => by
   unfold execOp; simp only [ho]
   simp only [resolve, Deferred.ofValue, Act.eval, invoke, List.map_toArray, hv.eval ha AllT.nil, Sem.run_bind, Sem.run_pure, Result.andThen_ok]
   simp [hf.run]) fun w hw => (h w hw).mono fun e w' ⟨x, he, hp, hc⟩ => ⟨_, he, x, rfl, hp, hw.split0.2.2 _ _ hc⟩
theorem e_callH {α : Type} {vf : α → Value} {p : α → Prop} {A F : List Asn} {B : α → List Asn} {f : FuncId} {cap : Array Value} {x : Operand} {cx : List Bool} {l : List Operand} {ts : Array TypeId} {vs : List Value}
   (hf : CanCall P f) (ho : o.op = .call { callee := .value x, args := l.toArray, argTypes := ts }) (hx : evl E x = some (cx, .func (.func f) #[] cap)) [hs : Sub cx []] (hv : Evs E [] l vs) (hp : H.Perm (A ++ F))
   (h : ∀ w bs, Sep A w bs → bs.Nodup → (∀ b ∈ bs, b < w.heap.size) → (∀ R, Stb w0 fp R → Stb w bs R) → (∀ G ∈ F, ∃ b2, Stb w bs fun w' => G.holds w' b2) → Calls P f (vs.toArray ++ cap) w fun e w' => ∃ x, e = .returned (vf x) ∧ p x ∧ Cl w bs (B x) w') :
   OpE P n E (Cl w0 fp H) o (fun v w' => ∃ x, v = vf x ∧ p x ∧ Cl w0 fp (B x ++ F) w') :=
 .of_call (f := f) (args := vs.toArray ++ cap) (fun a w ha hw => by
   unfold execOp; simp only [ho]
   simp only [resolve, ha.eval hx hs AllT.nil, Deferred.ofValue, invoke, List.map_toArray, hv.eval ha AllT.nil, Sem.run_bind, Sem.run_pure, Result.andThen_ok]
   simp [hf.run]) fun w hw => by
     obtain ⟨bs, h1, h2, h3, h4, h5, h6⟩ := (hw.perm hp).split
     exact (h w bs h1 h2 h3 h4 h5).mono fun e w' ⟨x, he, hpx, hc⟩ => ⟨_, he, x, rfl, hpx, h6 _ _ hc⟩
theorem resOk_blk {α : Type} [Enc α] {p : Nat} {b : Nat} {cells : List Value} {t t' : TypeId} {x : α} (hp : look E p = some ([], .pointer (some ⟨b, 0, none⟩))) [ht : HasTy P t α] (hH : blk b cells t' ∈ H) (hx : cells = enc x) :
   ResOk P E (Cl w0 fp H) n (.cell p t) (val x) := fun a w ha hw => by
 obtain ⟨bs, hb⟩ := hw.get hH
 have h1 := ha.has p [] _ hp
 have h2 := ht.load w ⟨b, 0, none⟩ x fun j v hv => by rw [addr_add, Nat.zero_add, blk.cell hb, hx]; exact hv
 simp [resS, Array.getD_eq_getD_getElem?, h1, gval, asAddr, h2]
end
end Go.Sx

/-
 Maps for the layer of symbolic frames: a map of the call's own reads as a list of pairs in the order of their laying; a range hands them out in whatever order. General lemmas, no program text.
-/
set_option autoImplicit false
set_option linter.unusedSectionVars false
namespace Go.Sx
open Enc (enc val)
open Go.MapKept (IsKey)
section pure
variable {κ ν : Type} [DecidableEq κ]
def upd : List (κ × ν) → κ → ν → List (κ × ν)
 | [], k, v => [(k, v)]
 | p :: l, k, v => if p.1 = k then (k, v) :: l else p :: upd l k v
def get? : List (κ × ν) → κ → Option ν
 | [], _ => none
 | p :: l, k => if p.1 = k then some p.2 else get? l k
def getZ (z : ν) (l : List (κ × ν)) (k : κ) : ν := (get? l k).getD z
theorem get?_upd (k : κ) (v : ν) (k' : κ) : ∀ l : List (κ × ν), get? (upd l k v) k' = if k' = k then some v else get? l k'
 | [] => by
   by_cases h : k' = k
   · simp [upd, get?, h]
   · have : ¬ k = k' := fun e => h e.symm
     simp [upd, get?, h, this]
 | p :: l => by
   have ih := get?_upd k v k' l
   by_cases hp : p.1 = k
   · by_cases h : k' = k
     · subst h; simp [upd, get?, hp]
     · have : ¬ k = k' := fun e => h e.symm
       have h2 : ¬ p.1 = k' := fun e => this (hp ▸ e)
       simp [upd, get?, hp, h, this]
   · by_cases h : k' = k
     · subst h; simp [upd, get?, hp, ih]
     · simp only [upd, if_neg hp, get?, ih, if_neg h]
theorem getZ_upd (z : ν) (k : κ) (v : ν) (k' : κ) (l : List (κ × ν)) : getZ z (upd l k v) k' = if k' = k then v else getZ z l k' := by
 simp only [getZ, get?_upd]; split <;> rfl
theorem upd_keys (k : κ) (v : ν) : ∀ l : List (κ × ν), ∀ x, x ∈ (upd l k v).map (·.1) ↔ x = k ∨ x ∈ l.map (·.1)
 | [], x => by simp [upd]
 | p :: l, x => by
   by_cases hp : p.1 = k
   · simp [upd, hp]
   · simp only [upd, if_neg hp, List.map_cons, List.mem_cons, upd_keys k v l x]
     constructor
     · rintro (h | h | h) <;> simp [h]
     · rintro (h | h | h) <;> simp [h]
theorem upd_len (k : κ) (v : ν) : ∀ l : List (κ × ν), (upd l k v).length ≤ l.length + 1
 | [] => by simp [upd]
 | p :: l => by
   have := upd_len k v l
   by_cases hp : p.1 = k
   · simp [upd, hp]
   · simp only [upd, if_neg hp, List.length_cons]; omega
theorem upd_nodup (k : κ) (v : ν) : ∀ l : List (κ × ν), (l.map (·.1)).Nodup → ((upd l k v).map (·.1)).Nodup
 | [], _ => by simp [upd]
 | p :: l, h => by
   by_cases hp : p.1 = k
   · simpa [upd, hp] using h
   · simp only [upd, if_neg hp, List.map_cons, List.nodup_cons] at h ⊢
     refine ⟨fun hm => ?_, upd_nodup k v l h.2⟩
     rcases (upd_keys k v l p.1).1 hm with e | e
     · exact hp e
     · exact h.1 e
theorem get?_mem {l : List (κ × ν)} (hn : (l.map (·.1)).Nodup) {k : κ} {v : ν} : get? l k = some v ↔ (k, v) ∈ l := by
 induction l with
 | nil => simp [get?]
 | cons p l ih =>
   simp only [List.map_cons, List.nodup_cons] at hn
   by_cases hp : p.1 = k
   · subst hp
     simp only [get?, if_true, Option.some.injEq, List.mem_cons]
     constructor
     · rintro rfl; exact .inl rfl
     · rintro (h | h)
       · rw [← h]
       · exact absurd (List.mem_map.2 ⟨_, h, rfl⟩) hn.1
   · simp only [get?, if_neg hp, ih hn.2, List.mem_cons]
     constructor
     · exact .inr
     · rintro (h | h)
       · exact absurd (by rw [← h]) hp
       · exact h
theorem get?_none {l : List (κ × ν)} {k : κ} : get? l k = none ↔ k ∉ l.map (·.1) := by
 induction l with
 | nil => simp [get?]
 | cons p l ih =>
   by_cases hp : p.1 = k
   · simp [get?, hp]
   · have : ¬ k = p.1 := fun e => hp e.symm
     simp only [get?, if_neg hp, ih, List.map_cons, List.mem_cons, this, false_or]
abbrev Ents (κ ν : Type) := List (κ × ν × Nat)
def kvs (es : Ents κ ν) : List (κ × ν) := es.map fun e => (e.1, e.2.1)
structure EntsOk (es : Ents κ ν) (clock : Nat) : Prop where
 lt : ∀ e ∈ es, e.2.2 < clock
 born : (es.map (·.2.2)).Nodup
 keys : (es.map (·.1)).Nodup
theorem kvs_keys (es : Ents κ ν) : (kvs es).map (·.1) = es.map (·.1) := by simp [kvs]
def findK (k : κ) : Ents κ ν → Nat → Option (Nat × ν)
 | [], _ => none
 | e :: es, i => if e.1 = k then some (i, e.2.1) else findK k es (i + 1)
theorem findK_none {k : κ} : ∀ {es : Ents κ ν} {i : Nat}, findK k es i = none → (∀ e ∈ es, e.1 ≠ k) ∧ get? (kvs es) k = none ∧ ∀ v, upd (kvs es) k v = kvs es ++ [(k, v)]
 | [], _, _ => ⟨by simp, rfl, fun _ => rfl⟩
 | e :: es, i, h => by
   by_cases he : e.1 = k
   · simp [findK, he] at h
   · simp only [findK, if_neg he] at h
     obtain ⟨h1, h2, h3⟩ := findK_none h
     refine ⟨fun x hx => ?_, ?_, fun v => ?_⟩
     · rcases List.mem_cons.1 hx with rfl | hx
       · exact he
       · exact h1 x hx
     · simp only [kvs, List.map_cons, get?, if_neg he]; exact h2
     · have := h3 v
       simp only [kvs, List.map_cons, upd, if_neg he, List.cons_append] at this ⊢
       rw [this]
theorem findK_some {k : κ} : ∀ {es : Ents κ ν} {i j : Nat} {u : ν}, findK k es i = some (j, u) → ∃ m b, j = i + m ∧ es[m]? = some (k, u, b) ∧ get? (kvs es) k = some u ∧ ∀ v, kvs (es.modify m fun e => (k, v, e.2.2)) = upd (kvs es) k v
 | [], _, _, _, h => by simp [findK] at h
 | e :: es, i, j, u, h => by
   by_cases he : e.1 = k
   · simp only [findK, if_pos he, Option.some.injEq, Prod.mk.injEq] at h
     obtain ⟨rfl, rfl⟩ := h
     subst he
     exact ⟨0, e.2.2, rfl, rfl, by simp [kvs, get?], fun v => by simp [kvs, upd]⟩
   · simp only [findK, if_neg he] at h
     obtain ⟨m, b, rfl, h2, h3, h4⟩ := findK_some h
     refine ⟨m + 1, b, by omega, h2, by simp only [kvs, List.map_cons, get?, if_neg he]; exact h3, fun v => ?_⟩
     have := h4 v
     simp only [kvs, List.modify_succ_cons, List.map_cons, upd, if_neg he] at this ⊢
     rw [this]
def left (es : Ents κ ν) (seen : Array Nat) : Ents κ ν := es.filter fun e => !seen.contains e.2.2
theorem left_nil (es : Ents κ ν) : left es #[] = es := by simp [left]
theorem left_push (es : Ents κ ν) (seen : Array Nat) (b : Nat) : left es (seen.push b) = (left es seen).filter fun e => e.2.2 != b := by
 simp only [left, List.filter_filter]
 refine List.filter_congr fun e _ => ?_
 by_cases h : e.2.2 = b <;> simp [h]
theorem filter_ne_perm : ∀ {l : Ents κ ν} {e : κ × ν × Nat}, (l.map (·.2.2)).Nodup → e ∈ l → l.Perm (e :: l.filter fun x => x.2.2 != e.2.2)
 | [], _, _, h => by simp at h
 | x :: l, e, hn, h => by
   simp only [List.map_cons, List.nodup_cons] at hn
   by_cases hx : x.2.2 = e.2.2
   · have hxe : x = e := by
       rcases List.mem_cons.1 h with h | h
       · exact h.symm
       · exact absurd (List.mem_map.2 ⟨e, h, hx.symm⟩) hn.1
     subst hxe
     have : l.filter (fun y => y.2.2 != x.2.2) = l := List.filter_eq_self.2 fun y hy => by
       simp only [bne_iff_ne]
       exact fun e => hn.1 (List.mem_map.2 ⟨y, hy, e⟩)
     simp [this]
   · have he : e ∈ l := by
       rcases List.mem_cons.1 h with h | h
       · exact absurd (by rw [h]) hx
       · exact h
     have ih := filter_ne_perm hn.2 he
     rw [List.filter_cons_of_pos (by simpa using hx)]
     exact (ih.cons x).trans (.swap _ _ _)
theorem left_perm {es : Ents κ ν} {clock : Nat} (ok : EntsOk es clock) {seen : Array Nat} {e : κ × ν × Nat} (he : e ∈ left es seen) : (left es seen).Perm (e :: left es (seen.push e.2.2)) := by
 rw [left_push]
 exact filter_ne_perm ((List.filter_sublist.map _).nodup ok.born) he
end pure
class MapT (P : Program) (t : TypeId) (kt et : outParam TypeId) : Prop where
 und : P.underlying t = some (.map kt et)
def rawE {κ ν : Type} [Enc κ] [Enc ν] (e : κ × ν × Nat) : MapEntry := ⟨val e.1, val e.2.1, e.2.2⟩
class KeyT (P : Program) (kt : TypeId) (κ : Type) [DecidableEq κ] [Enc κ] : Prop where
 chk : ∀ (k : κ) (e : Bool) (w : World), (Instr.checkKey e 10000 kt (val k)).run P w = .ok () w
 find : ∀ {ν : Type} [Enc ν] (k : κ) (es : Ents κ ν) (w : World), (Instr.findKey kt (val k) (es.map rawE)).run P w = .ok ((findK k es 0).map fun p => (p.1, val p.2)) w
 stays : ∀ (k : κ) (w : World), (Instr.keyThatStays (val k) (val k)).run P w = .ok (val k) w
class ZeroV (P : Program) (t : TypeId) (ν : Type) [Enc ν] (z : outParam ν) : Prop where
 zero : ∀ w, (zeroValue t).run P w = .ok (val z) w
theorem zeroV_of {P : Program} {t : TypeId} {ν : Type} [Enc ν] {z : ν} (h : (P.info? t).map (·.zero) = some (some (val z))) : ZeroV P t ν z := ⟨fun w => by
 obtain ⟨i, hi, he⟩ := Option.map_eq_some_iff.1 h
 simp [zeroValue, typeInfo, hi, he, Result.andThen]⟩
section basic
variable {P : Program} {kt : TypeId} {κ : Type} [DecidableEq κ] [Enc κ] {d : TypeDesc}
theorem findNow_K {ν : Type} [Enc ν] (hs : ∀ k k' : κ, Instr.sameNow d (val k) (val k') = some (decide (k' = k))) (k : κ) : ∀ (es : Ents κ ν) (i : Nat), Instr.findNow d (val k) (es.map rawE) i = some ((findK k es i).map fun p => (p.1, val p.2))
 | [], _ => rfl
 | e :: es, i => by
   have h1 := hs k e.1
   have h2 := findNow_K hs k es (i + 1)
   by_cases he : e.1 = k
   · rw [he] at h1
     simp only [List.map_cons, Instr.findNow, rawE, he, h1, decide_true, findK, if_true]
     rfl
   · simp only [List.map_cons, Instr.findNow, rawE, h1, he, decide_false, findK, if_false] at h2 ⊢
     exact h2
theorem keyT_basic (hd : P.underlying kt = some d) (hk : ∀ k : κ, IsKey d (val k)) (hs : ∀ k k' : κ, Instr.sameNow d (val k) (val k') = some (decide (k' = k))) : KeyT P kt κ :=
 ⟨fun k e w => MapKept.run_checkKey hd (hk k) e _, fun k es w => MapKept.run_findKey hd (findNow_K hs k es 0), fun k w => MapKept.run_keyThatStays (hk k)⟩
theorem keyT_string {P : Program} {kt : TypeId} (hd : P.underlying kt = some .string) : KeyT P kt ByteArray :=
 keyT_basic hd (fun _ => trivial) (fun k k' => by
   simp only [Enc.val, Instr.sameNow, Option.some.injEq]
   by_cases h : k' = k
   · subst h; simpa using (MapKept.bytes_beq k' k').2 rfl
   · have h' : ¬ k = k' := fun e => h e.symm
     have h2 : (k == k') = false := by
       cases h3 : k == k'
       · rfl
       · exact absurd ((MapKept.bytes_beq k k').1 h3) h'
     simp [h, h2])
end basic
section mem
variable {κ ν : Type} [DecidableEq κ] [Enc κ] [Enc ν]
def mapO (es : Ents κ ν) (clock : Nat) : Obj := .map (es.map rawE).toArray clock
def mpA (b : Nat) (l : List (κ × ν)) : Asn :=
 ⟨fun w bs => bs = [b] ∧ ∃ es clock, EntsOk es clock ∧ kvs es = l ∧ w.heap[b]? = some (mapO es clock), fun _ _ _ ⟨h1, es, clock, h2, h3, h4⟩ hk => ⟨h1, es, clock, h2, h3, (hk b (by simp [h1])).trans h4⟩⟩
def RdM (mv : Value) (l : List (κ × ν)) (w : World) : Prop :=
 (mv = .map none ∧ l = []) ∨ ∃ b es clock, mv = .map (some b) ∧ EntsOk es clock ∧ kvs es = l ∧ w.heap[b]? = some (mapO es clock)
theorem rdm_own {w0 w : World} {fp : List Nat} {H : List Asn} {b : Nat} {l : List (κ × ν)} (hw : Cl w0 fp H w) (hH : mpA b l ∈ H) : RdM (.map (some b)) l w := by
 obtain ⟨bs, _, es, clock, h⟩ := hw.get hH
 exact .inr ⟨b, es, clock, rfl, h⟩
theorem cl_open {w0 : World} {fp : List Nat} {H : List Asn} {i b : Nat} {l : List (κ × ν)} (hi : nthA H i = some (mpA b l)) (w : World) (hw : Cl w0 fp H w) : ∃ es, ∃ clock, (EntsOk es clock ∧ kvs es = l) ∧ Cl w0 fp (setA H i (obj b (mapO es clock))) w := by
 obtain ⟨hc, bs, ⟨b1, b2, rfl, ⟨rfl, es, clock, h2, h3, h4⟩, h5⟩, hn, hb⟩ := hw.focus hi
 exact ⟨es, clock, ⟨h2, h3⟩, Cl.set hi (show Cl w0 fp ([obj b (mapO es clock)] ++ delA H i) w from ⟨hc, _, ⟨[b], b2, rfl, ⟨rfl, h4⟩, h5⟩, hn, hb⟩)⟩
variable {P : Program} {n : Fr} {E : Env} {C : World → Prop} {cs : List Bool} {o : Oper} {w0 : World} {fp : List Nat} {H : List Asn} {Q : Exit → Act → World → Prop}
theorem raw_get (es : Ents κ ν) (i : Nat) : (es.map rawE).toArray[i]? = es[i]?.map rawE := by simp
theorem q_lookup {t kt et : TypeId} {x y : Operand} {cx cy : List Bool} {mv : Value} {k : κ} {l : List (κ × ν)} {z : ν} (ho : o.op = .lookup t x y false) (hx : evl E x = some (cx, mv)) (hy : evl E y = some (cy, val k)) [sx : Sub cx cs] [sy : Sub cy cs]
   [ht : MapT P t kt et] [hK : KeyT P kt κ] [hz : ZeroV P et ν z] (hm : ∀ w, C w → RdM mv l w) : OpR P n E C cs o (val (getZ z l k)) :=
 .of_run fun a ha hc w hw => by
   unfold execOp; simp only [ho]; rw [ha.eval hx sx hc, ha.eval hy sy hc]
   rcases hm w hw with ⟨rfl, rfl⟩ | ⟨b, es, clock, rfl, ok, rfl, hb⟩
   · have h1 := hK.find (ν := ν) k [] w
     simp only [List.map_nil] at h1
     simp [Instr.lookup, run_underlying ht.und, hK.chk, h1, findK, hz.zero, Result.andThen, getZ, get?]
   · have h1 := hK.find k es w
     have h2 := MapKept.run_getObj_map (P := P) hb
     cases hf : findK k es 0 with
     | none =>
       rw [hf] at h1
       simp [Instr.lookup, run_underlying ht.und, h2, hK.chk, h1, hz.zero, Result.andThen, getZ, (findK_none hf).2.1]
     | some p =>
       rw [hf] at h1
       obtain ⟨j, u⟩ := p
       obtain ⟨m, bb, _, _, h3, _⟩ := findK_some hf
       simp [Instr.lookup, run_underlying ht.und, h2, hK.chk, h1, Result.andThen, getZ, h3]
theorem e_makeMap {t : TypeId} (ho : o.op = .makeMap t none) : OpE P n E (Cl w0 fp H) o (fun u w' => ∃ b, u = .map (some b) ∧ Cl w0 fp (mpA b ([] : List (κ × ν)) :: H) w') :=
 .of_run fun a w ha hw => by
   refine ⟨.map (some w.heap.size), w.alloc (.map #[] 0), ?_, w.heap.size, rfl, ?_⟩
   · unfold execOp; simp only [ho]
     simp [Instr.makeMap, Result.andThen, run_newObj_alloc]
   · refine hw.split0.2.2 [mpA w.heap.size []] _ ⟨chg_alloc w _, [w.heap.size], ⟨[w.heap.size], [], rfl, ⟨rfl, [], 0, ⟨by simp, by simp, by simp⟩, rfl, World.alloc_heap_new w _⟩, rfl⟩, by simp, fun b hb => by simp at hb; subst hb; exact ⟨.inr (Nat.le_refl _), by simp⟩⟩
theorem modify_raw (es : Ents κ ν) (m : Nat) (k : κ) (v : ν) : ((es.map rawE).toArray.modify m fun e => { e with key := val k, val := val v }) = ((es.modify m fun e => (k, v, e.2.2)).map rawE).toArray := by
 apply Array.ext_getElem?
 intro i
 simp only [Array.getElem?_modify, raw_get, List.getElem?_modify]
 split <;> cases es[i]? <;> simp_all [rawE]
theorem ok_modify {es : Ents κ ν} {clock m b : Nat} {k : κ} {u : ν} (ok : EntsOk es clock) (h : es[m]? = some (k, u, b)) (v : ν) : EntsOk (es.modify m fun e => (k, v, e.2.2)) clock := by
 have e1 : (es.modify m fun e => (k, v, e.2.2)).map (·.2.2) = es.map (·.2.2) := by
   apply List.ext_getElem?
   intro i
   simp only [List.getElem?_map, List.getElem?_modify]
   split <;> cases es[i]? <;> rfl
 have e2 : (es.modify m fun e => (k, v, e.2.2)).map (·.1) = es.map (·.1) := by
   apply List.ext_getElem?
   intro i
   simp only [List.getElem?_map, List.getElem?_modify]
   split
   · rename_i hm; subst hm; simp [h]
   · cases es[i]? <;> rfl
 refine ⟨fun e he => ?_, by rw [e1]; exact ok.born, by rw [e2]; exact ok.keys⟩
 have : e.2.2 ∈ es.map (·.2.2) := by rw [← e1]; exact List.mem_map.2 ⟨e, he, rfl⟩
 obtain ⟨e', he', h'⟩ := List.mem_map.1 this
 rw [← h']; exact ok.lt e' he'
theorem ok_push {es : Ents κ ν} {clock : Nat} {k : κ} (ok : EntsOk es clock) (h : ∀ e ∈ es, e.1 ≠ k) (v : ν) : EntsOk (es ++ [(k, v, clock)]) (clock + 1) := by
 refine ⟨fun e he => ?_, ?_, ?_⟩
 · rcases List.mem_append.1 he with he | he
   · have := ok.lt e he; omega
   · simp at he; subst he; simp
 · simp only [List.map_append, List.map_cons, List.map_nil, List.nodup_append, List.nodup_cons]
   refine ⟨ok.born, by simp, ?_⟩
   intro x hx y hy
   obtain ⟨e, he, rfl⟩ := List.mem_map.1 hx
   simp at hy; subst hy
   exact Nat.ne_of_lt (ok.lt e he)
 · simp only [List.map_append, List.map_cons, List.map_nil, List.nodup_append, List.nodup_cons]
   refine ⟨ok.keys, by simp, ?_⟩
   intro x hx y hy
   obtain ⟨e, he, rfl⟩ := List.mem_map.1 hx
   simp at hy; subst hy
   exact h e he
theorem run_mapUpdate {t kt et : TypeId} [ht : MapT P t kt et] [hK : KeyT P kt κ] {w : World} {b clock : Nat} {es : Ents κ ν} (hb : w.heap[b]? = some (mapO es clock)) (ok : EntsOk es clock) (k : κ) (v : ν) :
   ∃ es' clock', EntsOk es' clock' ∧ kvs es' = upd (kvs es) k v ∧ (Instr.mapUpdate t (.map (some b)) (val k) (val v)).run P w = .ok () { w with heap := w.heap.setIfInBounds b (mapO es' clock') } := by
 have h1 := hK.find k es w
 have h2 := MapKept.run_getObj_map (P := P) hb
 cases hf : findK k es 0 with
 | none =>
   rw [hf] at h1
   obtain ⟨h3, _, h4⟩ := findK_none hf
   refine ⟨es ++ [(k, v, clock)], clock + 1, ok_push ok h3 v, by rw [h4]; simp [kvs], ?_⟩
   simp [Instr.mapUpdate, run_underlying ht.und, h2, hK.chk, h1, MapKept.run_setObj_map _ hb, Result.andThen, mapO, rawE]
 | some p =>
   rw [hf] at h1
   obtain ⟨j, u⟩ := p
   obtain ⟨m, bb, rfl, h3, _, h4⟩ := findK_some hf
   refine ⟨es.modify m fun e => (k, v, e.2.2), clock, ok_modify ok h3 v, h4 v, ?_⟩
   have e1 : ((es.map rawE).toArray[0 + m]?.map (·.key)).getD (val k) = val k := by rw [Nat.zero_add, raw_get, h3]; rfl
   simp only [Instr.mapUpdate, Sem.run_bind, run_underlying ht.und, Result.andThen, h2, hK.chk, h1, Option.map_some, e1, hK.stays, MapKept.run_setObj_map _ hb, mapO]
   rw [Nat.zero_add, modify_raw]
theorem e_mapUpdate {t kt et : TypeId} {x y u : Operand} {cx cy cu : List Bool} {b i : Nat} {k : κ} {v : ν} {l : List (κ × ν)} (ho : o.op = .mapUpdate t x y u ∨ o.op = .insert t x y u) (hx : evl E x = some (cx, .map (some b))) (hy : evl E y = some (cy, val k)) (hu : evl E u = some (cu, val v))
   [sx : Sub cx []] [sy : Sub cy []] [su : Sub cu []] [ht : MapT P t kt et] [hK : KeyT P kt κ] (hi : nthA H i = some (mpA b l)) :
   OpE P n E (Cl w0 fp H) o (fun u w' => u = undef ∧ Cl w0 fp (setA H i (mpA b (upd l k v))) w') :=
 .of_run0 fun a w ha hw => by
   obtain ⟨bs, ⟨b1, b2, rfl, ⟨rfl, es, clock, ok, rfl, hb⟩, rfl⟩, _, hlt, _, _, h6⟩ := (hw.focus hi).split
   obtain ⟨es', clock', ok', hk', hr⟩ := run_mapUpdate (P := P) (t := t) hb ok k v
   have hl : b < w.heap.size := hlt b (by simp)
   refine ⟨{ w with heap := w.heap.setIfInBounds b (mapO es' clock') }, ?_, (h6 [mpA b (upd (kvs es) k v)] _ ?_).set hi⟩
   · have e1 := ha.eval hx sx AllT.nil
     have e2 := ha.eval hy sy AllT.nil
     have e3 := ha.eval hu su AllT.nil
     rcases ho with ho | ho <;> (unfold execOp; simp only [ho]; rw [e1, e2, e3]; simp [hr, Result.andThen])
   · refine ⟨⟨rfl, rfl, rfl, by simp, fun k hk hn => ?_⟩, [b], ⟨[b], [], rfl, ⟨rfl, es', clock', ok', hk', ?_⟩, rfl⟩, by simp, fun k hk => ?_⟩
     · have : k ≠ b := by simpa using hn
       exact Array.getElem?_setIfInBounds_ne (Ne.symm this)
     · simp [hl]
     · simp at hk; subst hk; exact ⟨.inl (by simp), by simpa using hl⟩
def itO (b clock : Nat) (seen : Array Nat) : Obj := .mapIter (some b) clock seen clock
theorem e_range {t kt et : TypeId} {x : Operand} {cx : List Bool} {b clock : Nat} {es : Ents κ ν} (ho : o.op = .range t x) (hx : evl E x = some (cx, .map (some b))) [sx : Sub cx []] [ht : MapT P t kt et]
   (hb : ∀ w, Cl w0 fp H w → w.heap[b]? = some (mapO es clock)) : OpE P n E (Cl w0 fp H) o (fun u w' => ∃ r, u = .pointer (some ⟨r, 0, none⟩) ∧ Cl w0 fp (obj r (itO b clock #[]) :: H) w') :=
 .of_run fun a w ha hw => by
   refine ⟨_, w.alloc (itO b clock #[]), ?_, w.heap.size, rfl, hw.split0.2.2 [obj w.heap.size (itO b clock #[])] _ ⟨chg_alloc w _, [w.heap.size], ⟨[w.heap.size], [], rfl, ⟨rfl, World.alloc_heap_new w _⟩, rfl⟩, by simp, fun b hb => by simp at hb; subst hb; exact ⟨.inr (Nat.le_refl _), by simp⟩⟩⟩
   unfold execOp; simp only [ho]; rw [ha.eval hx sx AllT.nil]
   simp [Instr.range, run_underlying ht.und, MapKept.run_getObj_map (P := P) (hb w hw), Result.andThen, run_newObj_alloc, itO]
def nextV (x : Option (κ × ν × Nat)) : Array Value := match x with
 | none => #[.bool false]
 | some e => #[.bool true, val e.1, val e.2.1]
theorem nextV_0 (x : Option (κ × ν × Nat)) : (nextV x)[0]? = some (.bool x.isSome) := by cases x <;> rfl
def NextC (w0 : World) (fp : List Nat) (H : List Asn) (i r b clock : Nat) (es : Ents κ ν) (seen : Array Nat) (x : Option (κ × ν × Nat)) (w : World) : Prop := match x with
 | none => left es seen = [] ∧ Cl w0 fp H w
 | some e => e ∈ left es seen ∧ Cl w0 fp (setA H i (obj r (itO b clock (seen.push e.2.2)))) w
theorem cw_next_none {c : Code} {i r b clock : Nat} {es : Ents κ ν} {seen : Array Nat} (h : left es seen = [] → CW P c Q n E (Cl w0 fp H)) : CW P c Q n E (NextC w0 fp H i r b clock es seen none) := fun a w ha hw => h hw.1 a w ha hw.2
theorem cw_next_some {c : Code} {i r b clock : Nat} {es : Ents κ ν} {seen : Array Nat} {e : κ × ν × Nat} (h : e ∈ left es seen → CW P c Q n E (Cl w0 fp (setA H i (obj r (itO b clock (seen.push e.2.2)))))) : CW P c Q n E (NextC w0 fp H i r b clock es seen (some e)) := fun a w ha hw => h hw.1 a w ha hw.2
theorem leftOf_raw (es : Ents κ ν) (seen : Array Nat) : leftOf (es.map rawE).toArray seen = ((left es seen).map rawE).toArray := by
 unfold leftOf left
 apply Array.toList_inj.1
 rw [Array.toList_filter]
 simp only [List.filter_map]
 rfl
theorem e_next {x : Operand} {cx : List Bool} {b r clock i : Nat} {es : Ents κ ν} {seen : Array Nat} (ho : o.op = .next x false) (hx : evl E x = some (cx, .pointer (some ⟨r, 0, none⟩))) [sx : Sub cx []]
   (hi : nthA H i = some (obj r (itO b clock seen))) (ok : EntsOk es clock) (hb : ∀ w, Cl w0 fp H w → w.heap[b]? = some (mapO es clock)) :
   OpE P n E (Cl w0 fp H) o (fun u w' => ∃ x : Option (κ × ν × Nat), u = .tuple (nextV x) ∧ NextC w0 fp H i r b clock es seen x w') :=
 .of_run fun a w ha hw => by
   have hr : w.heap[r]? = some (itO b clock seen) := by
     obtain ⟨bs, h⟩ := hw.get (mem_of_nth hi)
     exact h.2
   have hold : ∀ x ∈ ((es.map rawE).toArray).toList, x.born < clock := fun x hx => by
     simp at hx
     obtain ⟨k, v, b, hx, rfl⟩ := hx
     exact ok.lt _ hx
   have hex : ∀ u w', (Instr.next (.pointer (some ⟨r, 0, none⟩)) false o.type).run P w = .ok u w' → (execOp a.eval o).run P w = .ok (.value u) w' := fun u w' h => by
     unfold execOp; simp only [ho]; rw [ha.eval hx sx AllT.nil]; simp [h, Result.andThen]
   rcases run_next_at (P := P) w o.type r b clock clock seen _ clock hr (hb w hw) hold (Nat.le_refl _) with ⟨h0, hrun⟩ | ⟨e, he, w1, hal, hrun⟩
   · refine ⟨_, _, hex _ _ hrun, none, rfl, ?_, hw⟩
     rw [leftOf_raw] at h0
     simpa using h0
   · rw [leftOf_raw] at he
     simp only [List.mem_map] at he
     obtain ⟨e', he', rfl⟩ := he
     refine ⟨_, _, hex _ _ hrun, some e', rfl, he', ?_⟩
     have hw1 : Cl w0 fp H w1 := by
       rcases hal with rfl | rfl
       · exact hw
       · exact hw.drew
     obtain ⟨bs, ⟨b1, b2, rfl, ⟨rfl, hb⟩, rfl⟩, _, hlt, _, _, h6⟩ := (hw1.focus hi).split
     have hl : r < w1.heap.size := hlt r (by simp)
     refine (h6 [obj r (itO b clock (seen.push e'.2.2))] (ChangeMaps.setBlock w1 r (Obj.mapIter (some b) clock (seen.push (rawE e').born) clock)) ⟨⟨rfl, rfl, rfl, by simp [ChangeMaps.setBlock], fun k hk hn => ?_⟩, [r], ⟨[r], [], rfl, ⟨rfl, ?_⟩, rfl⟩, by simp, fun k hk => ?_⟩).set hi
     · have : k ≠ r := by simpa using hn
       exact Array.getElem?_setIfInBounds_ne (Ne.symm this)
     · simp [ChangeMaps.setBlock, hl, itO, rawE]
     · simp at hk; subst hk; exact ⟨.inl (by simp), by simpa [ChangeMaps.setBlock] using hl⟩
theorem q_entry {x : Operand} {cx : List Bool} {b r clock : Nat} {es : Ents κ ν} {seen : Array Nat} {e : κ × ν × Nat} (ho : o.op = .entry x) (hx : evl E x = some (cx, .pointer (some ⟨r, 0, none⟩))) [sx : Sub cx cs]
   (hH : obj r (itO b clock (seen.push e.2.2)) ∈ H) (ok : EntsOk es clock) (he : e ∈ es) (hb : ∀ w, Cl w0 fp H w → w.heap[b]? = some (mapO es clock)) : OpR P n E (Cl w0 fp H) cs o (.tuple #[val e.1, val e.2.1]) :=
 .of_run fun a ha hc w hw => by
   have hr : w.heap[r]? = some (itO b clock (seen.push e.2.2)) := by
     obtain ⟨bs, h⟩ := hw.get hH
     exact h.2
   unfold execOp; simp only [ho]; rw [ha.eval hx sx hc]
   have := run_entry_at (P := P) w r b clock seen _ clock (rawE e) hr (hb w hw) (by simp; exact ⟨_, _, _, he, rfl⟩) (by simp only [List.map_map]; exact ok.born)
   simp [this, Result.andThen, rawE]
end mem
end Go.Sx

/- DERIVED by program: what the tables of this seat say, as instances of the layer's classes. -/
set_option autoImplicit false
namespace Go.Sx
open Go.Proofs
instance : IntT Tryz.prog 3 .i64 := ⟨Tryz.underlying3⟩
instance : HasTy Tryz.prog 3 Int := hasTy_cell Tryz.sizeOf3 Tryz.isAgg3 rfl (fun _ => rfl)
instance : IntT Tryz.prog 5 .u8 := ⟨Tryz.underlying5⟩
instance : KeyT Tryz.prog 9 ByteArray := keyT_string Tryz.underlying9
instance : HasTy Tryz.prog 9 ByteArray := hasTy_cell Tryz.sizeOf9 Tryz.isAgg9 rfl (fun _ => rfl)
instance : SlT Tryz.prog 22 68 := ⟨Tryz.underlying22⟩
instance : SlT Tryz.prog 23 9 := ⟨Tryz.underlying23⟩
instance : HasTy Tryz.prog 23 SlV := hasTy_cell Tryz.sizeOf23 Tryz.isAgg23 rfl (fun _ => rfl)
instance : SlT Tryz.prog 27 23 := ⟨Tryz.underlying27⟩
instance : HasTy Tryz.prog 28 Int := hasTy_cell Tryz.sizeOf28 Tryz.isAgg28 rfl (fun _ => rfl)
instance : SlT Tryz.prog 31 21 := ⟨Tryz.underlying31⟩
instance : SlT Tryz.prog 38 56 := ⟨Tryz.underlying38⟩
instance : SlT Tryz.prog 43 61 := ⟨Tryz.underlying43⟩
instance : SlT Tryz.prog 53 58 := ⟨Tryz.underlying53⟩
instance : HasTy Tryz.prog 53 SlV := hasTy_cell Tryz.sizeOf53 Tryz.isAgg53 rfl (fun _ => rfl)
instance : SlT Tryz.prog 59 64 := ⟨Tryz.underlying59⟩
instance : SlT Tryz.prog 62 109 := ⟨Tryz.underlying62⟩
instance : HasTy Tryz.prog 62 SlV := hasTy_cell Tryz.sizeOf62 Tryz.isAgg62 rfl (fun _ => rfl)
instance : SlT Tryz.prog 69 136 := ⟨Tryz.underlying69⟩
instance : SlT Tryz.prog 78 81 := ⟨Tryz.underlying78⟩
instance : SlT Tryz.prog 85 87 := ⟨Tryz.underlying85⟩
instance : SlT Tryz.prog 115 116 := ⟨Tryz.underlying115⟩
instance : SlT Tryz.prog 116 3 := ⟨Tryz.underlying116⟩
instance : HasTy Tryz.prog 116 SlV := hasTy_cell Tryz.sizeOf116 Tryz.isAgg116 rfl (fun _ => rfl)
instance : SlT Tryz.prog 120 153 := ⟨Tryz.underlying120⟩
instance : SlT Tryz.prog 157 53 := ⟨Tryz.underlying157⟩
instance : IntT Tryz.prog 174 .u64 := ⟨Tryz.underlying174⟩
instance : MapT Tryz.prog 176 21 177 := ⟨Tryz.underlying176⟩
instance : SlT Tryz.prog 177 179 := ⟨Tryz.underlying177⟩
instance : IntT Tryz.prog 203 .u64 := ⟨Tryz.underlying203⟩
instance : SlT Tryz.prog 204 28 := ⟨Tryz.underlying204⟩
instance : MapT Tryz.prog 248 9 3 := ⟨Tryz.underlying248⟩
instance : MapT Tryz.prog 250 211 177 := ⟨Tryz.underlying250⟩
instance : SlT Tryz.prog 254 213 := ⟨Tryz.underlying254⟩
instance : SlT Tryz.prog 258 62 := ⟨Tryz.underlying258⟩
instance : IntT Tryz.prog 260 .u64 := ⟨Tryz.underlying260⟩
instance : CellT Tryz.prog 3 := ⟨Tryz.isAgg3⟩
instance : CellT Tryz.prog 9 := ⟨Tryz.isAgg9⟩
instance : CellT Tryz.prog 21 := ⟨Tryz.isAgg21⟩
instance : CellT Tryz.prog 22 := ⟨Tryz.isAgg22⟩
instance : CellT Tryz.prog 23 := ⟨Tryz.isAgg23⟩
instance : CellT Tryz.prog 27 := ⟨Tryz.isAgg27⟩
instance : CellT Tryz.prog 31 := ⟨Tryz.isAgg31⟩
instance : AggT Tryz.prog 40 := ⟨Tryz.isAgg40⟩
instance : CellT Tryz.prog 43 := ⟨Tryz.isAgg43⟩
instance : AggT Tryz.prog 45 := ⟨Tryz.isAgg45⟩
instance : AggT Tryz.prog 56 := ⟨Tryz.isAgg56⟩
instance : AggT Tryz.prog 58 := ⟨Tryz.isAgg58⟩
instance : CellT Tryz.prog 59 := ⟨Tryz.isAgg59⟩
instance : AggT Tryz.prog 61 := ⟨Tryz.isAgg61⟩
instance : CellT Tryz.prog 62 := ⟨Tryz.isAgg62⟩
instance : AggT Tryz.prog 64 := ⟨Tryz.isAgg64⟩
instance : AggT Tryz.prog 68 := ⟨Tryz.isAgg68⟩
instance : AggT Tryz.prog 81 := ⟨Tryz.isAgg81⟩
instance : AggT Tryz.prog 98 := ⟨Tryz.isAgg98⟩
instance : AggT Tryz.prog 109 := ⟨Tryz.isAgg109⟩
instance : CellT Tryz.prog 115 := ⟨Tryz.isAgg115⟩
instance : AggT Tryz.prog 153 := ⟨Tryz.isAgg153⟩
instance : AggT Tryz.prog 179 := ⟨Tryz.isAgg179⟩
instance : AggT Tryz.prog 211 := ⟨Tryz.isAgg211⟩
instance : AggT Tryz.prog 213 := ⟨Tryz.isAgg213⟩
instance : CellT Tryz.prog 250 := ⟨Tryz.isAgg250⟩
instance : CellT Tryz.prog 260 := ⟨Tryz.isAgg260⟩
instance : SzT Tryz.prog 3 1 := ⟨Tryz.sizeOf3⟩
instance : SzT Tryz.prog 9 1 := ⟨Tryz.sizeOf9⟩
instance : SzT Tryz.prog 21 1 := ⟨Tryz.sizeOf21⟩
instance : SzT Tryz.prog 23 1 := ⟨Tryz.sizeOf23⟩
instance : SzT Tryz.prog 27 1 := ⟨Tryz.sizeOf27⟩
instance : SzT Tryz.prog 28 1 := ⟨Tryz.sizeOf28⟩
instance : SzT Tryz.prog 40 3 := ⟨Tryz.sizeOf40⟩
instance : SzT Tryz.prog 43 1 := ⟨Tryz.sizeOf43⟩
instance : SzT Tryz.prog 45 1 := ⟨Tryz.sizeOf45⟩
instance : SzT Tryz.prog 53 1 := ⟨Tryz.sizeOf53⟩
instance : SzT Tryz.prog 56 2 := ⟨Tryz.sizeOf56⟩
instance : SzT Tryz.prog 58 3 := ⟨Tryz.sizeOf58⟩
instance : SzT Tryz.prog 61 2 := ⟨Tryz.sizeOf61⟩
instance : SzT Tryz.prog 62 1 := ⟨Tryz.sizeOf62⟩
instance : SzT Tryz.prog 64 2 := ⟨Tryz.sizeOf64⟩
instance : SzT Tryz.prog 68 3 := ⟨Tryz.sizeOf68⟩
instance : SzT Tryz.prog 81 4 := ⟨Tryz.sizeOf81⟩
instance : SzT Tryz.prog 87 2 := ⟨Tryz.sizeOf87⟩
instance : SzT Tryz.prog 98 4 := ⟨Tryz.sizeOf98⟩
instance : SzT Tryz.prog 109 2 := ⟨Tryz.sizeOf109⟩
instance : SzT Tryz.prog 115 1 := ⟨Tryz.sizeOf115⟩
instance : SzT Tryz.prog 116 1 := ⟨Tryz.sizeOf116⟩
instance : SzT Tryz.prog 136 4 := ⟨Tryz.sizeOf136⟩
instance : SzT Tryz.prog 153 3 := ⟨Tryz.sizeOf153⟩
instance : SzT Tryz.prog 179 3 := ⟨Tryz.sizeOf179⟩
instance : SzT Tryz.prog 211 4 := ⟨Tryz.sizeOf211⟩
instance : SzT Tryz.prog 213 7 := ⟨Tryz.sizeOf213⟩
instance : SzT Tryz.prog 250 1 := ⟨Tryz.sizeOf250⟩
instance : SzT Tryz.prog 260 1 := ⟨Tryz.sizeOf260⟩
instance : ZeroV Tryz.prog 3 Int 0 := zeroV_of (by kernel_rfl)
instance : InfoT Tryz.prog 3 1 8 [.int .i64 0] := info_of (v := (.int .i64 0)) (by kernel_rfl) rfl rfl
instance : InfoT Tryz.prog 9 1 16 [.string ByteArray.empty] := info_of (v := (.string ByteArray.empty)) (by kernel_rfl) rfl rfl
instance : InfoT Tryz.prog 21 1 4 [.int .i32 0] := info_of (v := (.int .i32 0)) (by kernel_rfl) rfl rfl
instance : InfoT Tryz.prog 23 1 24 [.slice none 0 0] := info_of (v := (.slice none 0 0)) (by kernel_rfl) rfl rfl
instance : InfoT Tryz.prog 27 1 24 [.slice none 0 0] := info_of (v := (.slice none 0 0)) (by kernel_rfl) rfl rfl
instance : InfoT Tryz.prog 28 1 8 [.int .i64 0] := info_of (v := (.int .i64 0)) (by kernel_rfl) rfl rfl
instance : InfoT Tryz.prog 45 1 24 [.slice none 0 0] := info_of (v := (.agg #[.slice none 0 0])) (by kernel_rfl) rfl rfl
instance : InfoT Tryz.prog 53 1 24 [.slice none 0 0] := info_of (v := (.slice none 0 0)) (by kernel_rfl) rfl rfl
instance : InfoT Tryz.prog 56 2 40 [.string ByteArray.empty, .slice none 0 0] := info_of (v := (.agg #[.string ByteArray.empty, .slice none 0 0])) (by kernel_rfl) rfl rfl
instance : InfoT Tryz.prog 58 3 56 [.slice none 0 0, .int .i64 0, .slice none 0 0] := info_of (v := (.agg #[.slice none 0 0, .int .i64 0, .slice none 0 0])) (by kernel_rfl) rfl rfl
instance : InfoT Tryz.prog 61 2 32 [.int .i32 0, .slice none 0 0] := info_of (v := (.agg #[.int .i32 0, .slice none 0 0])) (by kernel_rfl) rfl rfl
instance : InfoT Tryz.prog 62 1 24 [.slice none 0 0] := info_of (v := (.slice none 0 0)) (by kernel_rfl) rfl rfl
instance : InfoT Tryz.prog 64 2 48 [.slice none 0 0, .slice none 0 0] := info_of (v := (.agg #[.slice none 0 0, .slice none 0 0])) (by kernel_rfl) rfl rfl
instance : InfoT Tryz.prog 68 3 40 [.int .i32 0, .slice none 0 0, .int .i64 0] := info_of (v := (.agg #[.int .i32 0, .slice none 0 0, .int .i64 0])) (by kernel_rfl) rfl rfl
instance : InfoT Tryz.prog 81 4 96 [.slice none 0 0, .slice none 0 0, .slice none 0 0, .slice none 0 0] := info_of (v := (.agg #[.slice none 0 0, .slice none 0 0, .slice none 0 0, .slice none 0 0])) (by kernel_rfl) rfl rfl
instance : InfoT Tryz.prog 87 2 40 [.string ByteArray.empty, .slice none 0 0] := info_of (v := (.agg #[.string ByteArray.empty, .slice none 0 0])) (by kernel_rfl) rfl rfl
instance : InfoT Tryz.prog 98 4 32 [.int .i64 0, .int .i64 0, .int .i64 0, .int .i64 0] := info_of (v := (.agg #[.int .i64 0, .int .i64 0, .int .i64 0, .int .i64 0])) (by kernel_rfl) rfl rfl
instance : InfoT Tryz.prog 109 2 16 [.int .i64 0, .int .i32 0] := info_of (v := (.agg #[.int .i64 0, .int .i32 0])) (by kernel_rfl) rfl rfl
instance : InfoT Tryz.prog 115 1 24 [.slice none 0 0] := info_of (v := (.slice none 0 0)) (by kernel_rfl) rfl rfl
instance : InfoT Tryz.prog 116 1 24 [.slice none 0 0] := info_of (v := (.slice none 0 0)) (by kernel_rfl) rfl rfl
instance : InfoT Tryz.prog 136 4 40 [.string ByteArray.empty, .int .i64 0, .int .i64 0, .int .i64 0] := info_of (v := (.agg #[.string ByteArray.empty, .int .i64 0, .int .i64 0, .int .i64 0])) (by kernel_rfl) rfl rfl
instance : InfoT Tryz.prog 153 3 64 [.string ByteArray.empty, .slice none 0 0, .slice none 0 0] := info_of (v := (.agg #[.string ByteArray.empty, .slice none 0 0, .slice none 0 0])) (by kernel_rfl) rfl rfl
instance : ZeroV Tryz.prog 177 SlV ⟨none, 0, 0⟩ := zeroV_of (by kernel_rfl)
instance : InfoT Tryz.prog 179 3 56 [.slice none 0 0, .int .i64 0, .slice none 0 0] := info_of (v := (.agg #[.slice none 0 0, .int .i64 0, .slice none 0 0])) (by kernel_rfl) rfl rfl
instance : InfoT Tryz.prog 211 4 32 [.int .i64 0, .int .i32 0, .int .i64 0, .int .i32 0] := info_of (v := (.agg #[.int .i64 0, .int .i32 0, .int .i64 0, .int .i32 0])) (by kernel_rfl) rfl rfl
instance : InfoT Tryz.prog 213 7 72 [.int .i64 0, .int .i32 0, .int .i64 0, .int .i32 0, .slice none 0 0, .int .i64 0, .int .i64 0] := info_of (v := (.agg #[.int .i64 0, .int .i32 0, .int .i64 0, .int .i32 0, .slice none 0 0, .int .i64 0, .int .i64 0])) (by kernel_rfl) rfl rfl
instance : InfoT Tryz.prog 250 1 8 [.map none] := info_of (v := (.map none)) (by kernel_rfl) rfl rfl
instance : InfoT Tryz.prog 260 1 8 [.int .u64 0] := info_of (v := (.int .u64 0)) (by kernel_rfl) rfl rfl
instance : StT Tryz.prog 40 [(0, 1), (1, 1), (2, 1)] [.int .i64 0, .int .i64 0, .int .i64 0] := ⟨fun _ => by kernel_rfl⟩
instance : FldT Tryz.prog 40 0 0 := ⟨fun a w => by simp [go_sem]⟩
instance : FldT Tryz.prog 40 1 1 := ⟨fun a w => by simp [go_sem]⟩
instance : FldT Tryz.prog 40 2 2 := ⟨fun a w => by simp [go_sem]⟩
instance : StT Tryz.prog 45 [(0, 1)] [.slice none 0 0] := ⟨fun _ => by kernel_rfl⟩
instance : FldT Tryz.prog 45 0 0 := ⟨fun a w => by simp [go_sem]⟩
instance : StT Tryz.prog 56 [(0, 1), (1, 1)] [.string ByteArray.empty, .slice none 0 0] := ⟨fun _ => by kernel_rfl⟩
instance : FldT Tryz.prog 56 0 0 := ⟨fun a w => by simp [go_sem]⟩
instance : FldT Tryz.prog 56 1 1 := ⟨fun a w => by simp [go_sem]⟩
instance : StT Tryz.prog 58 [(0, 1), (1, 1), (2, 1)] [.slice none 0 0, .int .i64 0, .slice none 0 0] := ⟨fun _ => by kernel_rfl⟩
instance : FldT Tryz.prog 58 0 0 := ⟨fun a w => by simp [go_sem]⟩
instance : FldT Tryz.prog 58 1 1 := ⟨fun a w => by simp [go_sem]⟩
instance : FldT Tryz.prog 58 2 2 := ⟨fun a w => by simp [go_sem]⟩
instance : StT Tryz.prog 61 [(0, 1), (1, 1)] [.int .i32 0, .slice none 0 0] := ⟨fun _ => by kernel_rfl⟩
instance : FldT Tryz.prog 61 0 0 := ⟨fun a w => by simp [go_sem]⟩
instance : FldT Tryz.prog 61 1 1 := ⟨fun a w => by simp [go_sem]⟩
instance : StT Tryz.prog 64 [(0, 1), (1, 1)] [.slice none 0 0, .slice none 0 0] := ⟨fun _ => by kernel_rfl⟩
instance : FldT Tryz.prog 64 0 0 := ⟨fun a w => by simp [go_sem]⟩
instance : FldT Tryz.prog 64 1 1 := ⟨fun a w => by simp [go_sem]⟩
instance : StT Tryz.prog 68 [(0, 1), (1, 1), (2, 1)] [.int .i32 0, .slice none 0 0, .int .i64 0] := ⟨fun _ => by kernel_rfl⟩
instance : FldT Tryz.prog 68 0 0 := ⟨fun a w => by simp [go_sem]⟩
instance : FldT Tryz.prog 68 1 1 := ⟨fun a w => by simp [go_sem]⟩
instance : FldT Tryz.prog 68 2 2 := ⟨fun a w => by simp [go_sem]⟩
instance : StT Tryz.prog 81 [(0, 1), (1, 1), (2, 1), (3, 1)] [.slice none 0 0, .slice none 0 0, .slice none 0 0, .slice none 0 0] := ⟨fun _ => by kernel_rfl⟩
instance : FldT Tryz.prog 81 0 0 := ⟨fun a w => by simp [go_sem]⟩
instance : FldT Tryz.prog 81 1 1 := ⟨fun a w => by simp [go_sem]⟩
instance : FldT Tryz.prog 81 2 2 := ⟨fun a w => by simp [go_sem]⟩
instance : FldT Tryz.prog 81 3 3 := ⟨fun a w => by simp [go_sem]⟩
instance : StT Tryz.prog 87 [(0, 1), (1, 1)] [.string ByteArray.empty, .slice none 0 0] := ⟨fun _ => by kernel_rfl⟩
instance : FldT Tryz.prog 87 0 0 := ⟨fun a w => by simp [go_sem]⟩
instance : FldT Tryz.prog 87 1 1 := ⟨fun a w => by simp [go_sem]⟩
instance : StT Tryz.prog 98 [(0, 1), (1, 1), (2, 1), (3, 1)] [.int .i64 0, .int .i64 0, .int .i64 0, .int .i64 0] := ⟨fun _ => by kernel_rfl⟩
instance : FldT Tryz.prog 98 0 0 := ⟨fun a w => by simp [go_sem]⟩
instance : FldT Tryz.prog 98 1 1 := ⟨fun a w => by simp [go_sem]⟩
instance : FldT Tryz.prog 98 2 2 := ⟨fun a w => by simp [go_sem]⟩
instance : FldT Tryz.prog 98 3 3 := ⟨fun a w => by simp [go_sem]⟩
instance : StT Tryz.prog 109 [(0, 1), (1, 1)] [.int .i64 0, .int .i32 0] := ⟨fun _ => by kernel_rfl⟩
instance : FldT Tryz.prog 109 0 0 := ⟨fun a w => by simp [go_sem]⟩
instance : FldT Tryz.prog 109 1 1 := ⟨fun a w => by simp [go_sem]⟩
instance : StT Tryz.prog 131 [(0, 1), (1, 1)] [.slice none 0 0, .slice none 0 0] := ⟨fun _ => by kernel_rfl⟩
instance : FldT Tryz.prog 131 1 1 := ⟨fun a w => by simp [go_sem]⟩
instance : StT Tryz.prog 136 [(0, 1), (1, 1), (2, 1), (3, 1)] [.string ByteArray.empty, .int .i64 0, .int .i64 0, .int .i64 0] := ⟨fun _ => by kernel_rfl⟩
instance : FldT Tryz.prog 136 0 0 := ⟨fun a w => by simp [go_sem]⟩
instance : StT Tryz.prog 153 [(0, 2), (2, 1)] [.string ByteArray.empty, .slice none 0 0, .slice none 0 0] := ⟨fun _ => by kernel_rfl⟩
instance : FldT Tryz.prog 153 0 0 := ⟨fun a w => by simp [go_sem]⟩
instance : FldT Tryz.prog 153 1 2 := ⟨fun a w => by simp [go_sem]⟩
instance : StT Tryz.prog 179 [(0, 1), (1, 1), (2, 1)] [.slice none 0 0, .int .i64 0, .slice none 0 0] := ⟨fun _ => by kernel_rfl⟩
instance : FldT Tryz.prog 179 0 0 := ⟨fun a w => by simp [go_sem]⟩
instance : FldT Tryz.prog 179 1 1 := ⟨fun a w => by simp [go_sem]⟩
instance : FldT Tryz.prog 179 2 2 := ⟨fun a w => by simp [go_sem]⟩
instance : StT Tryz.prog 213 [(0, 4), (4, 1), (5, 1), (6, 1)] [.int .i64 0, .int .i32 0, .int .i64 0, .int .i32 0, .slice none 0 0, .int .i64 0, .int .i64 0] := ⟨fun _ => by kernel_rfl⟩
instance : FldT Tryz.prog 213 0 0 := ⟨fun a w => by simp [go_sem]⟩
instance : FldT Tryz.prog 213 1 4 := ⟨fun a w => by simp [go_sem]⟩
instance : FldT Tryz.prog 213 2 5 := ⟨fun a w => by simp [go_sem]⟩
instance : FldT Tryz.prog 213 3 6 := ⟨fun a w => by simp [go_sem]⟩
theorem mixed_Tryz : Tryz.prog.follows .mixedOrders = true := by kernel_rfl
end Go.Sx

/-
 Parts of slices for the layer of symbolic frames. General lemmas, no program text.
-/
set_option autoImplicit false
namespace Go.Sx
open Enc (enc val)
def SlV.sub (s : SlV) (sz lo hi : Nat) : SlV := ⟨if s.cap = lo then s.addr else s.addr.map (·.add (lo * sz)), hi - lo, s.cap - lo⟩
section
variable {α : Type} [Enc α]
theorem rd_lens {s : SlV} {l : List α} {w : World} (h : RdL s.v l w) : s.len = l.length ∧ s.len ≤ s.cap ∧ s.cap ≤ maxLen := by
 obtain ⟨a, n, cap, e, h1, h2, h3, _⟩ := h
 simp only [SlV.v, Value.slice.injEq] at e
 obtain ⟨rfl, rfl, rfl⟩ := e
 exact ⟨h1.symm, h2, h3⟩
theorem rd_sub {s : SlV} {l : List α} {w : World} (h : RdL s.v l w) {a b : Nat} (hab : a ≤ b) (hb : b ≤ l.length) : RdL (s.sub (Enc.sz α) a b).v ((l.take b).drop a) w := by
 obtain ⟨ad, n, cap, e, h1, h2, h3, h4⟩ := h
 simp only [SlV.v, Value.slice.injEq] at e
 obtain ⟨e1, e2, e3⟩ := e
 refine ⟨_, _, _, rfl, by simp [SlV.sub]; omega, by simp only [SlV.sub]; omega, by simp only [SlV.sub]; omega, fun i x j v hx hv => ?_⟩
 rw [List.getElem?_drop, List.getElem?_take] at hx
 have hib : a + i < b := by
   by_cases h : a + i < b
   · exact h
   · simp [h] at hx
 rw [if_pos hib] at hx
 obtain ⟨bb, hbb, hc⟩ := h4 (a + i) x j v hx hv
 have hne : ¬ s.cap = a := by rw [e3]; omega
 refine ⟨bb.add (a * Enc.sz α), ?_, ?_⟩
 · simp [SlV.sub, if_neg hne, e1, hbb]
 · rw [addr_add_assoc, ← hc]
   congr 2
   rw [Nat.add_mul, Nat.add_assoc]
theorem stb_sub {s : SlV} {l : List α} {w : World} {fp : List Nat} (h : Stb w fp (RdL s.v l)) {a b : Nat} (hab : a ≤ b) (hb : b ≤ l.length) : Stb w fp (RdL (s.sub (Enc.sz α) a b).v ((l.take b).drop a)) :=
 ⟨fun w' k => rd_sub (h.stb w' k) hab hb⟩
variable {P : Program} {n : Fr} {E : Env} {C : World → Prop} {cs : List Bool} {o : Oper}
theorem run_slice_of {t e : TypeId} {sz : Nat} [ht : SlT P t e] [hz : SzT P e sz] {s : SlV} {w : World} {a b : Nat} {lo hi : Option Value} (hb : (Instr.sliceBounds true s.len s.cap lo hi none).run P w = .ok (a, b, s.cap) w) :
   (Instr.sliceAt t s.v lo hi none).run P w = .ok (s.sub sz a b).v w := by
 have e1 := run_underlying (P := P) (w := w) ht.und
 simp [Instr.sliceAt, Instr.slice, e1, hb, hz.sz, Result.andThen, SlV.v, SlV.sub]
theorem q_slice2 {t e : TypeId} {sz : Nat} {x y z : Operand} {cx cy cz : List Bool} {s : SlV} {l : List α} {a b : Int} (ho : o.op = .slice t x (some y) (some z) none) (hx : evl E x = some (cx, s.v)) (hy : evl E y = some (cy, .int .i64 a)) (hz : evl E z = some (cz, .int .i64 b))
   [sx : Sub cx cs] [sy : Sub cy cs] [sz' : Sub cz cs] [ht : SlT P t e] [hs : SzT P e sz] (hrd : ∀ w, C w → RdL s.v l w) (h : AllT cs → 0 ≤ a ∧ a ≤ b ∧ b ≤ l.length) : OpR P n E C cs o (s.sub sz a.toNat b.toNat).v :=
 .of_run fun e he hc w hw => by
   obtain ⟨h1, h2, h3⟩ := h hc
   obtain ⟨l1, l2, l3⟩ := rd_lens (hrd w hw)
   unfold execOp; simp only [ho]
   have e1 := he.eval hx sx hc
   have e2 := he.eval hy sy hc
   have e3 := he.eval hz sz' hc
   have := run_slice_of (P := P) (t := t) (s := s) (w := w) (a := a.toNat) (b := b.toNat) (lo := some (.int .i64 a)) (hi := some (.int .i64 b)) (by
     have f1 := run_sliceBound (P := P) (w := w) .i64 b s.cap .sliceAcap (by omega) (by omega)
     have f2 := run_sliceBound (P := P) (w := w) .i64 a b.toNat .sliceB (by omega) (by omega)
     simp [Instr.sliceBounds, f1, f2, Result.andThen])
   simp [e1, e2, e3, this, Result.andThen]
theorem q_sliceH {t e : TypeId} {sz : Nat} {x z : Operand} {cx cz : List Bool} {s : SlV} {l : List α} {b : Int} (ho : o.op = .slice t x none (some z) none) (hx : evl E x = some (cx, s.v)) (hz : evl E z = some (cz, .int .i64 b))
   [sx : Sub cx cs] [sz' : Sub cz cs] [ht : SlT P t e] [hs : SzT P e sz] (hrd : ∀ w, C w → RdL s.v l w) (h : AllT cs → 0 ≤ b ∧ b ≤ l.length) : OpR P n E C cs o (s.sub sz 0 b.toNat).v :=
 .of_run fun e he hc w hw => by
   obtain ⟨h1, h3⟩ := h hc
   obtain ⟨l1, l2, l3⟩ := rd_lens (hrd w hw)
   unfold execOp; simp only [ho]
   have e1 := he.eval hx sx hc
   have e3 := he.eval hz sz' hc
   have := run_slice_of (P := P) (t := t) (s := s) (w := w) (a := 0) (b := b.toNat) (lo := none) (hi := some (.int .i64 b)) (by
     have f1 := run_sliceBound (P := P) (w := w) .i64 b s.cap .sliceAcap (by omega) (by omega)
     simp [Instr.sliceBounds, f1, Result.andThen])
   simp [e1, e3, this, Result.andThen]
theorem q_sliceL {t e : TypeId} {sz : Nat} {x y : Operand} {cx cy : List Bool} {s : SlV} {l : List α} {a : Int} (ho : o.op = .slice t x (some y) none none) (hx : evl E x = some (cx, s.v)) (hy : evl E y = some (cy, .int .i64 a))
   [sx : Sub cx cs] [sy : Sub cy cs] [ht : SlT P t e] [hs : SzT P e sz] (hrd : ∀ w, C w → RdL s.v l w) (h : AllT cs → 0 ≤ a ∧ a ≤ l.length) : OpR P n E C cs o (s.sub sz a.toNat l.length).v :=
 .of_run fun e he hc w hw => by
   obtain ⟨h1, h3⟩ := h hc
   obtain ⟨l1, l2, l3⟩ := rd_lens (hrd w hw)
   unfold execOp; simp only [ho]
   have e1 := he.eval hx sx hc
   have e2 := he.eval hy sy hc
   have := run_slice_of (P := P) (t := t) (s := s) (w := w) (a := a.toNat) (b := l.length) (lo := some (.int .i64 a)) (hi := none) (by
     have f2 := run_sliceBound (P := P) (w := w) .i64 a l.length .sliceB (by omega) (by omega)
     simp [Instr.sliceBounds, l1, f2, Result.andThen])
   simp [e1, e2, this, Result.andThen]
theorem q_nilCheck {x : Operand} {cx : List Bool} {a : Addr} (ho : o.op = .nilCheck x) (hx : evl E x = some (cx, .pointer (some a))) [hs : Sub cx cs] : OpR P n E C cs o (.pointer (some a)) :=
 .of_run fun e he hc w _ => by unfold execOp; simp only [ho]; rw [he.eval hx hs hc]; rfl
def BlkAt (b : Nat) (cells : List Value) (t : TypeId) (w : World) : Prop := ∃ bs, (blk b cells t).holds w bs
theorem stb_blk {w0 w : World} {fp : List Nat} {H : List Asn} {b : Nat} {cells : List Value} {t : TypeId} (hw : Cl w0 fp H w) (h : blk b cells t ∈ H) : Stb w [] (BlkAt b cells t) := by
 obtain ⟨b2, hb⟩ := hw.split0.2.1 _ h
 exact ⟨fun w' k => ⟨b2, hb.stb w' k⟩⟩
theorem q_loadS {t t' : TypeId} {x : Operand} {cx : List Bool} {b k : Nat} {cells : List Value} {v : Value} (ho : o.op = .load t x) (hx : evl E x = some (cx, .pointer (some ⟨b, k, none⟩))) [hs : Sub cx cs] [ht : CellT P t]
   (hH : ∀ w, C w → BlkAt b cells t' w) (hv : cells[k]? = some v) : OpR P n E C cs o v :=
 .of_run fun a ha hc w hw => by
   obtain ⟨bs, hb⟩ := hH w hw
   unfold execOp; simp only [ho]; rw [ha.eval hx hs hc]
   simp [Instr.loadAt, Instr.sureAddr, loadVar, ht.agg w, run_load, blk.cell hb, hv, Result.andThen]
def byteAt (b : ByteArray) (i : Nat) : Nat := ((b[i]?).getD 0).toNat
theorem q_indexS {t : TypeId} {x y : Operand} {cx cy : List Bool} {b : ByteArray} {k : IntKind} {i : Int} (ho : o.op = .index t x y) (hx : evl E x = some (cx, .string b)) (hy : evl E y = some (cy, .int k i)) [sx : Sub cx cs] [sy : Sub cy cs]
   (ht : P.underlying t = some .string) (h : AllT cs → 0 ≤ i ∧ i < b.size) : OpR P n E C cs o (.int .u8 (byteAt b i.toNat)) :=
 .of_run fun a ha hc w hw => by
   unfold execOp; simp only [ho]; rw [ha.eval hx sx hc, ha.eval hy sy hc]
   obtain ⟨h1, h2⟩ := h hc
   have h3 : i.toNat < b.size := by omega
   have h4 : b[i.toNat]? = some b[i.toNat] := getElem?_pos b i.toNat h3
   simp [Instr.index, asIntOf, run_underlying ht, h1, h4, Result.andThen, byteAt]
end
end Go.Sx

/-
 More rules for the layer of symbolic frames: calls with effects behind guards that hold. General lemmas, no program text.
-/
set_option autoImplicit false
namespace Go.Sx
open Enc (enc val)
section
variable {P : Program} {n : Fr} {E : Env} {C : World → Prop} {Q : Exit → Act → World → Prop}
end
section
variable {P : Program} {ops : Array Oper} {n : Fr} {E : Env} {C : World → Prop} {cs : List Bool} {o : Oper} {Q : Exit → Act → World → Prop} {w0 : World} {fp : List Nat} {H : List Asn}
def OpEc (P : Program) (n : Fr) (E : Env) (C : World → Prop) (cs : List Bool) (o : Oper) (R : Value → World → Prop) : Prop := AllT cs → OpE P n E C o R
theorem sw_xc {α : Type} {vf : α → Value} {C' : α → World → Prop} {rest : List Oper} {d : Nat} (hg : gof ops E o.guard = some cs) (hcs : AllT cs) (hd : o.dst = some d) (hn : Nat.ble (d + 1) n.sz = true)
   (hop : OpEc P n E C cs o (fun v w' => ∃ x, v = vf x ∧ C' x w')) (h : ∀ x, SW P ops Q rest n ((d, [], vf x) :: E) (C' x)) : SW P ops Q (o :: rest) n E C :=
 sw_effg hg hcs hd hn (hop hcs) fun _ => sw_ex fun x => sw_imp fun hv => by subst hv; exact h x
theorem e_callc {α : Type} {vf : α → Value} {p : α → Prop} {B : α → List Asn} {f : FuncId} {l : List Operand} {ts : Array TypeId} {vs : List Value} (hf : CanCall P f) (ho : o.op = .call { callee := .value (.func f), args := l.toArray, argTypes := ts }) (hv : Evs E cs l vs)
   (h : ∀ w, Cl w0 fp H w → Calls P f vs.toArray w fun e w' => ∃ x, e = .returned (vf x) ∧ p x ∧ Cl w [] (B x) w') : OpEc P n E (Cl w0 fp H) cs o (fun v w' => ∃ x, v = vf x ∧ p x ∧ Cl w0 fp (B x ++ H) w') :=
 fun hcs => .of_call (f := f) (args := vs.toArray) (fun a w ha hw => by
   unfold execOp; simp only [ho]
   simp only [resolve, Deferred.ofValue, Act.eval, invoke, List.map_toArray, hv.eval ha hcs, Sem.run_bind, Sem.run_pure, Result.andThen_ok]
   simp [hf.run]) fun w hw => (h w hw).mono fun e w' ⟨x, he, hp, hc⟩ => ⟨_, he, x, rfl, hp, hw.split0.2.2 _ _ hc⟩
theorem q_eqlNil {t e t' : TypeId} {x : Operand} {cx : List Bool} {s : SlV} (ho : o.op = .binOp .eql t x (.const (.slice none 0 0)) t') (hx : evl E x = some (cx, s.v)) [sx : Sub cx cs] [ht : SlT P t e] : OpR P n E C cs o (.bool s.addr.isNone) :=
 fun a ha hc => bin_run (C := C) (y := .const (.slice none 0 0)) ho hx rfl sx inferInstance (eqGuard_at_slice ..) (fun w => run_eql_slice_nil w t e s.addr s.len s.cap ht.und) a ha hc
theorem rd_nil {α : Type} [Enc α] {s : SlV} {xs : List α} {w : World} (h : RdL s.v xs w) (hn : s.addr = none) : xs = [] := by
 obtain ⟨a, m, cap, e, h1, _, _, h4⟩ := h
 simp only [SlV.v, Value.slice.injEq] at e
 cases xs with
 | nil => rfl
 | cons x xs =>
   have hj : 0 < (enc x).length := by rw [Enc.len]; exact Enc.pos
   obtain ⟨b, hb, _⟩ := h4 0 x 0 _ rfl (List.getElem?_eq_getElem hj)
   rw [← e.1, hn] at hb; cases hb
theorem lend_blk {F : List Asn} {w : World} {bs : List Nat} (h : ∀ G ∈ F, ∃ b2, Stb w bs fun w' => G.holds w' b2) {b : Nat} {cells : List Value} {t : TypeId} (hm : blk b cells t ∈ F) : Stb w bs (BlkAt b cells t) := by
 obtain ⟨b2, hb⟩ := h _ hm
 exact ⟨fun w' k => ⟨b2, hb.stb w' k⟩⟩
theorem aw_onec {S : World → Prop} {m : List Nat} {f : Nat} {listed : Array Bool} (i : Nat) {d : Nat} {R : Value → World → Prop} (hr : Region.ready .any ops listed = [i]) (hi : ops[i]? = some o) (hg : gof ops E o.guard = some cs) (hcs : AllT cs) (hd : o.dst = some d) (hn : Nat.ble (d + 1) n.sz = true)
   (hop : OpE P n E C o R) (hS : m.contains i = false → ∀ v w, R v w → S w) (h : ∀ v, AW P ops Q S m f (listed.setIfInBounds i true) n ((d, [], v) :: E) (R v)) : AW P ops Q S m (f + 1) listed n E C := by
 intro a w ha hw
 refine ⟨fun h0 => (by rw [hr] at h0; cases h0), fun j hj => ?_⟩
 rw [hr] at hj
 obtain rfl := List.mem_singleton.1 hj
 unfold wpOp
 simp only [hi]
 rw [if_pos ((gof_spec ha hg).1 hcs)]
 refine .inl ((hop a w ha hw).wp fun v w' hR => ⟨fun him _ => hS him v w' hR, ?_⟩)
 have := h v _ w' (ha.put (cs := []) (v := v) (Nat.le_of_ble_eq_true hn)) hR
 rw [hd]; exact this
theorem aw_qc {S : World → Prop} {m : List Nat} {f : Nat} {listed : Array Bool} (i : Nat) {d : Nat} {v : Value} (hr : Region.ready .any ops listed = [i]) (hi : ops[i]? = some o) (hg : gof ops E o.guard = some cs) (hcs : AllT cs) (hd : o.dst = some d) (hn : Nat.ble (d + 1) n.sz = true)
   (hop : OpQ P n E C cs o v) (hS : m.contains i = false → ∀ w, C w → S w) (h : AW P ops Q S m f (listed.setIfInBounds i true) n ((d, [], v) :: E) C) : AW P ops Q S m (f + 1) listed n E C :=
 aw_onec (R := fun v' w' => v' = v ∧ C w') i hr hi hg hcs hd hn (fun a w ha hw => quiet_eff (hop a ha hcs w hw) hw) (fun hb v w hx => hS hb w hx.2) fun _ => aw_imp fun hv => by subst hv; exact h
end
end Go.Sx

/- Strings and structs in operations: length, equality. General lemmas, no program text. -/
set_option autoImplicit false
namespace Go.Sx
section
variable {P : Program} {n : Fr} {E : Env} {C : World → Prop} {cs : List Bool} {o : Oper}
theorem str_inj {a b : ByteArray} (h : a.toList = b.toList) : a = b := by
 rw [ByteArray.toList_eq, ByteArray.toList_eq] at h
 cases a; cases b; simp at h; simp [h]
theorem q_lenS {l : List Operand} {t : TypeId} {b : ByteArray} (ho : o.op = .call { callee := .builtin .len, args := l.toArray, argTypes := #[t] }) (hv : Evs E cs l [.string b]) (ht : P.underlying t = some .string) : OpR P n E C cs o (.int .i64 b.size) :=
 builtin_run ho hv fun w c hw _ => by
   have := run_underlying ht w
   simp [builtin, Builtin.len_, this, goInt]
theorem q_neqStr {t t' : TypeId} {x y : Operand} {cx cy : List Bool} {a b : ByteArray} (ho : o.op = .binOp .neq t x y t') (hx : evl E x = some (cx, .string a)) (hy : evl E y = some (cy, .string b)) [sx : Sub cx cs] [sy : Sub cy cs]
   (ht : P.underlying t = some .string) : OpR P n E C cs o (.bool (!decide (a = b))) := bin_run ho hx hy sx sy (eqGuard_at_string ..) (fun w => by
     have := run_underlying ht w
     by_cases h : a = b
     · simp [go_sem, this, h]
     · have h2 : ¬ a.toList = b.toList := fun e => h (str_inj e)
       simp [go_sem, this, h, h2])
end
section
open Enc (enc val)
variable {P : Program} {ops : Array Oper} {n : Fr} {E : Env} {C : World → Prop} {cs : List Bool} {o : Oper} {w0 : World} {fp : List Nat} {H : List Asn}
end
end Go.Sx

/- Ranges over strings; strings compared by <, <=, >, >=. General lemmas, no program text. -/
set_option autoImplicit false
namespace Go.Sx
section
variable {P : Program} {n : Fr} {E : Env} {C : World → Prop} {cs : List Bool} {o : Oper}
def sLt (a b : ByteArray) : Bool := Op.bytesLess a.toList b.toList
theorem q_lssStr {t t' : TypeId} {x y : Operand} {cx cy : List Bool} {a b : ByteArray} (ho : o.op = .binOp .lss t x y t') (hx : evl E x = some (cx, .string a)) (hy : evl E y = some (cy, .string b)) [sx : Sub cx cs] [sy : Sub cy cs]
   (ht : P.underlying t = some .string) : OpR P n E C cs o (.bool (sLt a b)) := bin_run ho hx hy sx sy (eqGuard_at_string ..) (fun w => by
     have := run_underlying ht w
     simp [go_sem, this, sLt])
theorem q_gtrStr {t t' : TypeId} {x y : Operand} {cx cy : List Bool} {a b : ByteArray} (ho : o.op = .binOp .gtr t x y t') (hx : evl E x = some (cx, .string a)) (hy : evl E y = some (cy, .string b)) [sx : Sub cx cs] [sy : Sub cy cs]
   (ht : P.underlying t = some .string) : OpR P n E C cs o (.bool (!(sLt a b || decide (a = b)))) := bin_run ho hx hy sx sy (eqGuard_at_string ..) (fun w => by
     have := run_underlying ht w
     by_cases h : a = b
     · simp [go_sem, this, sLt, h]
     · have h2 : ¬ a.toList = b.toList := fun e => h (str_inj e)
       simp [go_sem, this, sLt, h, h2])
theorem q_leqStr {t t' : TypeId} {x y : Operand} {cx cy : List Bool} {a b : ByteArray} (ho : o.op = .binOp .leq t x y t') (hx : evl E x = some (cx, .string a)) (hy : evl E y = some (cy, .string b)) [sx : Sub cx cs] [sy : Sub cy cs]
   (ht : P.underlying t = some .string) : OpR P n E C cs o (.bool (sLt a b || decide (a = b))) := bin_run ho hx hy sx sy (eqGuard_at_string ..) (fun w => by
     have := run_underlying ht w
     by_cases h : a = b
     · simp [go_sem, this, sLt, h]
     · have h2 : ¬ a.toList = b.toList := fun e => h (str_inj e)
       simp [go_sem, this, sLt, h, h2])
end
section
variable {P : Program} {ops : Array Oper} {n : Fr} {E : Env} {cs : List Bool} {o : Oper} {w0 : World} {fp : List Nat} {H : List Asn} {Q : Exit → Act → World → Prop}
theorem e_rangeS {t : TypeId} {x : Operand} {cx : List Bool} {s : ByteArray} (ho : o.op = .range t x) (hx : evl E x = some (cx, .string s)) [sx : Sub cx []] (ht : P.underlying t = some .string) :
   OpE P n E (Cl w0 fp H) o (fun u w' => ∃ r, u = .pointer (some ⟨r, 0, none⟩) ∧ Cl w0 fp (obj r (.stringIter s 0) :: H) w') :=
 .of_run fun a w ha hw => by
   refine ⟨_, w.alloc (.stringIter s 0), ?_, w.heap.size, rfl, hw.split0.2.2 [obj w.heap.size (.stringIter s 0)] _ ⟨chg_alloc w _, [w.heap.size], ⟨[w.heap.size], [], rfl, ⟨rfl, World.alloc_heap_new w _⟩, rfl⟩, by simp, fun b hb => by simp at hb; subst hb; exact ⟨.inr (Nat.le_refl _), by simp⟩⟩⟩
   unfold execOp; simp only [ho]; rw [ha.eval hx sx AllT.nil]
   simp [Instr.range, run_underlying ht, Result.andThen, run_newObj_alloc]
theorem run_getIterS {w : World} {r pos : Nat} {s : ByteArray} (h : w.heap[r]? = some (.stringIter s pos)) : (getObj r).run P w = .ok (.stringIter s pos) w := by
 simp [getObj, Sem.run, h]
theorem run_setIterS {w : World} {r pos : Nat} {s : ByteArray} (h : w.heap[r]? = some (.stringIter s pos)) (ob : Obj) : (setObj r ob).run P w = .ok () (ChangeMaps.setBlock w r ob) := by
 simp [setObj, Sem.run, h, ChangeMaps.setBlock]
theorem setA_same : ∀ {H : List Asn} {i : Nat} {x : Asn}, nthA H i = some x → setA H i x = H
 | [], _, _, h => by simp [nthA] at h
 | _ :: _, 0, _, h => by simp [nthA] at h; simp [setA, h]
 | _ :: l, i + 1, _, h => by simp [nthA] at h; simp [setA, setA_same h]
def nextSV (s : ByteArray) (pos : Nat) : Array Value := if pos < s.size then #[.bool true, .int .i64 pos, .int .i32 (Utf8.decode s pos).1] else #[.bool false]
def nextSP (s : ByteArray) (pos : Nat) : Nat := if pos < s.size then pos + (Utf8.decode s pos).2 else pos
theorem nextSV_0 (s : ByteArray) (pos : Nat) : (nextSV s pos)[0]? = some (.bool (decide (pos < s.size))) := by
 unfold nextSV; by_cases h : pos < s.size <;> simp [h]
theorem nextSV_1 {s : ByteArray} {pos : Nat} (h : pos < s.size) : (nextSV s pos)[1]? = some (.int .i64 pos) := by unfold nextSV; simp [h]
theorem nextSV_2 {s : ByteArray} {pos : Nat} (h : pos < s.size) : (nextSV s pos)[2]? = some (.int .i32 (Utf8.decode s pos).1) := by unfold nextSV; simp [h]
theorem e_nextS {x : Operand} {cx : List Bool} {r i pos : Nat} {s : ByteArray} (ho : o.op = .next x true) (hx : evl E x = some (cx, .pointer (some ⟨r, 0, none⟩))) [sx : Sub cx []] (hi : nthA H i = some (obj r (.stringIter s pos))) :
   OpE P n E (Cl w0 fp H) o (fun u w' => ∃ _x : Unit, u = .tuple (nextSV s pos) ∧ Cl w0 fp (setA H i (obj r (.stringIter s (nextSP s pos)))) w') :=
 .of_run fun a w ha hw => by
   have hr : w.heap[r]? = some (.stringIter s pos) := by
     obtain ⟨bs, h⟩ := hw.get (mem_of_nth hi)
     exact h.2
   by_cases h : pos < s.size
   · refine ⟨.tuple (nextSV s pos), ChangeMaps.setBlock w r (.stringIter s (nextSP s pos)), ?_, (), rfl, ?_⟩
     · unfold execOp; simp only [ho]; rw [ha.eval hx sx AllT.nil]
       simp [Instr.next, run_getIterS (P := P) hr, run_setIterS (P := P) hr, Result.andThen, h, nextSV, nextSP, goInt]
     · obtain ⟨bs, ⟨b1, b2, rfl, ⟨rfl, hb⟩, rfl⟩, _, hlt, _, _, h6⟩ := (hw.focus hi).split
       have hl : r < w.heap.size := hlt r (by simp)
       refine (h6 [obj r (.stringIter s (nextSP s pos))] (ChangeMaps.setBlock w r (.stringIter s (nextSP s pos))) ⟨⟨rfl, rfl, rfl, by simp [ChangeMaps.setBlock], fun k hk hn => ?_⟩, [r], ⟨[r], [], rfl, ⟨rfl, ?_⟩, rfl⟩, by simp, fun k hk => ?_⟩).set hi
       · have : k ≠ r := by simpa using hn
         exact Array.getElem?_setIfInBounds_ne (Ne.symm this)
       · simp [ChangeMaps.setBlock, hl]
       · simp at hk; subst hk; exact ⟨.inl (by simp), by simpa [ChangeMaps.setBlock] using hl⟩
   · refine ⟨.tuple (nextSV s pos), w, ?_, (), rfl, ?_⟩
     · unfold execOp; simp only [ho]; rw [ha.eval hx sx AllT.nil]
       simp [Instr.next, run_getIterS (P := P) hr, Result.andThen, h, nextSV]
     · have e : nextSP s pos = pos := by simp [nextSP, h]
       rw [e, setA_same hi]; exact hw
end
end Go.Sx

/- The letters of a string: where each begins, which it is. A plain text beside the layer. -/
set_option autoImplicit false
namespace Go.Sx
open Enc (enc val)
structure Rn where
 v : Int
deriving DecidableEq
instance : Enc Rn := ⟨fun x => [.int .i32 x.v], 1, fun x => .int .i32 x.v, fun _ => rfl, by simp [Value.oneCell'], fun _ => rfl, by decide⟩
instance : Inhabited Rn := ⟨⟨0⟩⟩
theorem decode_pos (s : ByteArray) (i : Nat) : 1 ≤ (Utf8.decode s i).2 := by
 unfold Utf8.decode
 simp only []
 repeat' split
 all_goals simp
def runesN (s : ByteArray) : Nat → Nat → List (Nat × Nat)
 | 0, _ => []
 | f + 1, i => if i < s.size then (i, (Utf8.decode s i).1) :: runesN s f (i + (Utf8.decode s i).2) else []
theorem runesN_fuel (s : ByteArray) : ∀ (f g i : Nat), s.size - i ≤ f → s.size - i ≤ g → runesN s f i = runesN s g i
 | 0, 0, _, _, _ => rfl
 | 0, g + 1, i, h, _ => by simp [runesN, show ¬ i < s.size by omega]
 | f + 1, 0, i, _, h => by simp [runesN, show ¬ i < s.size by omega]
 | f + 1, g + 1, i, h, h' => by
   unfold runesN
   by_cases hi : i < s.size
   · have := decode_pos s i
     rw [if_pos hi, if_pos hi, runesN_fuel s f g _ (by omega) (by omega)]
   · rw [if_neg hi, if_neg hi]
def runesP (s : ByteArray) (i : Nat) : List (Nat × Nat) := runesN s s.size i
theorem runesP_end {s : ByteArray} {i : Nat} (h : ¬ i < s.size) : runesP s i = [] := by
 unfold runesP
 rw [runesN_fuel s s.size 0 i (by omega) (by omega)]; rfl
theorem runesP_step {s : ByteArray} {i : Nat} (h : i < s.size) : runesP s i = (i, (Utf8.decode s i).1) :: runesP s (i + (Utf8.decode s i).2) := by
 have hp := decode_pos s i
 have e : runesP s i = runesN s (s.size + 1) i := runesN_fuel s _ _ i (by omega) (by omega)
 rw [e, runesN, if_pos h]; rfl
def runes (s : ByteArray) : List Rn := (runesP s 0).map fun x => ⟨x.2⟩
theorem runesFrom_eq (s : ByteArray) : ∀ (f i : Nat) (acc : Array Value), (Conv.runesFrom s f i acc).toList = acc.toList ++ (runesN s f i).map (fun x => Value.int .i32 (Int.ofNat x.2))
 | 0, _, _ => by simp [Conv.runesFrom, runesN]
 | f + 1, i, acc => by
   unfold Conv.runesFrom runesN
   by_cases h : i < s.size
   · simp only [h, if_true]
     rw [runesFrom_eq s f]
     simp
   · simp [h]
theorem runes_len_le (s : ByteArray) : (runes s).length ≤ s.size := by
 have : ∀ f i, (runesN s f i).length ≤ f := by
   intro f
   induction f with
   | zero => intro i; simp [runesN]
   | succ f ih => intro i; unfold runesN; split <;> simp [ih]
 unfold runes runesP
 simpa using this s.size 0
section
variable {P : Program} {n : Fr} {E : Env} {o : Oper} {w0 : World} {fp : List Nat} {H : List Asn}
theorem runesFrom_list (s : ByteArray) : (Conv.runesFrom s s.size 0 #[]).toList = (runes s).flatMap enc := by
 rw [runesFrom_eq]
 show [] ++ (runesP s 0).map _ = ((runesP s 0).map _).flatMap enc
 induction runesP s 0 with
 | nil => rfl
 | cons x l ih => simp at ih ⊢; rw [← ih]; rfl
theorem runesFrom_size (s : ByteArray) : (Conv.runesFrom s s.size 0 #[]).size = (runes s).length := by
 rw [← Array.length_toList, runesFrom_eq]
 simp [runes, runesP]
theorem e_runes {src dst e : TypeId} {x : Operand} {cx : List Bool} {s : ByteArray} (ho : o.op = .convert src dst x) (hx : evl E x = some (cx, .string s)) [sx : Sub cx []] (hs : P.underlying src = some .string) [hd : SlT P dst e] (he : P.underlying e = some (.int .i32)) (h46 : s.size ≤ 70368744177664)
   : OpE P n E (Cl w0 fp H) o (fun u w' => ∃ v : SlV, u = v.v ∧ Cl w0 fp (ownL e v.v (runes s) :: H) w') :=
 .of_run fun a w ha hw => by
   have hz := runesFrom_size s
   have hl := runes_len_le s
   have hr := run_runes_of_string (P := P) w src dst e s hs hd.und he (by omega)
   have hge := grownCap_ge w (Conv.runesFrom s s.size 0 #[]).size 0 e
   refine ⟨_, _, ?_, ⟨some ⟨w.heap.size, 0, none⟩, (runes s).length, grownCap w (Conv.runesFrom s s.size 0 #[]).size 0 e⟩, rfl, hw.drew.split0.2.2 [ownL e _ (runes s)] _ (cl_own_new (e := e) (l := runes s) (cap := grownCap w (Conv.runesFrom s s.size 0 #[]).size 0 e) (cur := Conv.runesFrom s s.size 0 #[] ++ Array.replicate (grownCap w (Conv.runesFrom s s.size 0 #[]).size 0 e - (Conv.runesFrom s s.size 0 #[]).size) (.int .i32 0)) w.drew ?_ ?_ ?_ ?_)⟩
   · unfold execOp; simp only [ho]; rw [ha.eval hx sx AllT.nil]
     simp [hr, Result.andThen, hz, SlV.v]
   · omega
   · exact grownCap_le_maxLen _ _ _ _ (by simp only [maxLen]; omega)
   · have hz1 : Enc.sz Rn = 1 := rfl
     simp only [Array.size_append, Array.size_replicate, hz1, Nat.mul_one]; omega
   · have hz1 : Enc.sz Rn = 1 := rfl
     have hl2 : (runes s).length * 1 = ((Conv.runesFrom s s.size 0 #[]).toList).length := by rw [Nat.mul_one]; exact hz.symm
     rw [Array.toList_append, hz1, hl2, List.take_left', runesFrom_list]
     rfl
end
end Go.Sx

set_option autoImplicit false
set_option maxRecDepth 100000
namespace Go.Proofs.YtkmbliojafefdaaGreatDoor
open Go.Sx
open Enc (enc val)
structure Cond where
 at_ : Int
 c : Int
instance : Inhabited Cond := ⟨⟨0, 0⟩⟩
instance : Enc Cond := ⟨fun u => [.int .i64 u.at_, .int .i32 u.c], 2, fun u => .agg #[.int .i64 u.at_, .int .i32 u.c], fun _ => rfl, by simp [Value.oneCell'], fun _ => rfl, by decide⟩
instance : HasTy Tryz.prog 109 Cond := hasTy_agg Tryz.sizeOf109 Tryz.isAgg109 (fun _ => rfl)
structure Pr where
 c : Int
 p : SlV
 cost : Int
 pl : List ByteArray
instance : Inhabited Pr := ⟨⟨0, default, 0, []⟩⟩
instance : Enc Pr := ⟨fun u => [.int .i32 u.c, u.p.v, .int .i64 u.cost], 3, fun u => .agg #[.int .i32 u.c, u.p.v, .int .i64 u.cost], fun _ => rfl, by simp [Value.oneCell', SlV.v], fun _ => rfl, by decide⟩
instance : HasTy Tryz.prog 68 Pr := hasTy_agg Tryz.sizeOf68 Tryz.isAgg68 (fun _ => rfl)
structure Sp where
 word : ByteArray
 p : SlV
 pl : List ByteArray
instance : Inhabited Sp := ⟨⟨default, default, []⟩⟩
instance : Enc Sp := ⟨fun u => [.string u.word, u.p.v], 2, fun u => .agg #[.string u.word, u.p.v], fun _ => rfl, by simp [Value.oneCell', SlV.v], fun _ => rfl, by decide⟩
instance : HasTy Tryz.prog 56 Sp := hasTy_agg Tryz.sizeOf56 Tryz.isAgg56 (fun _ => rfl)
structure Chc where
 t : SlV
 p : SlV
 tl : List Cond
 pl : List ByteArray
instance : Inhabited Chc := ⟨⟨default, default, [], []⟩⟩
instance : Enc Chc := ⟨fun u => [u.t.v, u.p.v], 2, fun u => .agg #[u.t.v, u.p.v], fun _ => rfl, by simp [Value.oneCell', SlV.v], fun _ => rfl, by decide⟩
instance : HasTy Tryz.prog 64 Chc := hasTy_agg Tryz.sizeOf64 Tryz.isAgg64 (fun _ => rfl)
structure Let where
 c : Int
 r : SlV
 rl : List Chc
instance : Inhabited Let := ⟨⟨0, default, []⟩⟩
instance : Enc Let := ⟨fun u => [.int .i32 u.c, u.r.v], 2, fun u => .agg #[.int .i32 u.c, u.r.v], fun _ => rfl, by simp [Value.oneCell', SlV.v], fun _ => rfl, by decide⟩
instance : HasTy Tryz.prog 61 Let := hasTy_agg Tryz.sizeOf61 Tryz.isAgg61 (fun _ => rfl)
structure Bk where
 b : SlV
 bl : List Let
instance : Inhabited Bk := ⟨⟨default, []⟩⟩
instance : Enc Bk := ⟨fun u => [u.b.v], 1, fun u => .agg #[u.b.v], fun _ => rfl, by simp [Value.oneCell', SlV.v], fun _ => rfl, by decide⟩
instance : HasTy Tryz.prog 45 Bk := hasTy_agg Tryz.sizeOf45 Tryz.isAgg45 (fun _ => rfl)
structure Jnt where
 l : SlV
 r : SlV
 tol : SlV
 tor : SlV
 ll : List ByteArray
 rl : List ByteArray
 toll : List ByteArray
 torl : List ByteArray
instance : Inhabited Jnt := ⟨⟨default, default, default, default, [], [], [], []⟩⟩
instance : Enc Jnt := ⟨fun u => [u.l.v, u.r.v, u.tol.v, u.tor.v], 4, fun u => .agg #[u.l.v, u.r.v, u.tol.v, u.tor.v], fun _ => rfl, by simp [Value.oneCell', SlV.v], fun _ => rfl, by decide⟩
instance : HasTy Tryz.prog 81 Jnt := hasTy_agg Tryz.sizeOf81 Tryz.isAgg81 (fun _ => rfl)
structure Fgn where
 phone : ByteArray
 s : SlV
 sl : List (List ByteArray)
instance : Inhabited Fgn := ⟨⟨default, default, []⟩⟩
instance : Enc Fgn := ⟨fun u => [.string u.phone, u.s.v], 2, fun u => .agg #[.string u.phone, u.s.v], fun _ => rfl, by simp [Value.oneCell', SlV.v], fun _ => rfl, by decide⟩
instance : HasTy Tryz.prog 87 Fgn := hasTy_agg Tryz.sizeOf87 Tryz.isAgg87 (fun _ => rfl)
structure Snd where
 phone : ByteArray
 fr : Int
 why : Int
 ix : Int
instance : Inhabited Snd := ⟨⟨default, 0, 0, 0⟩⟩
instance : Enc Snd := ⟨fun u => [.string u.phone, .int .i64 u.fr, .int .i64 u.why, .int .i64 u.ix], 4, fun u => .agg #[.string u.phone, .int .i64 u.fr, .int .i64 u.why, .int .i64 u.ix], fun _ => rfl, by simp [Value.oneCell'], fun _ => rfl, by decide⟩
structure Lrn where
 reach : Int
 least : Int
 most : Int
instance : Enc Lrn := ⟨fun u => [.int .i64 u.reach, .int .i64 u.least, .int .i64 u.most], 3, fun u => .agg #[.int .i64 u.reach, .int .i64 u.least, .int .i64 u.most], fun _ => rfl, by simp [Value.oneCell'], fun _ => rfl, by decide⟩
structure Scr where
 words : Int
 right : Int
 letters : Int
 good : Int
instance : Inhabited Scr := ⟨⟨0, 0, 0, 0⟩⟩
instance : Enc Scr := ⟨fun u => [.int .i64 u.words, .int .i64 u.right, .int .i64 u.letters, .int .i64 u.good], 4, fun u => .agg #[.int .i64 u.words, .int .i64 u.right, .int .i64 u.letters, .int .i64 u.good], fun _ => rfl, by simp [Value.oneCell'], fun _ => rfl, by decide⟩
instance : HasTy Tryz.prog 98 Scr := hasTy_agg Tryz.sizeOf98 Tryz.isAgg98 (fun _ => rfl)
structure XR where
 w : SlV
 at_ : Int
 p : SlV
 wl : List Rn
 pl : List ByteArray
instance : Inhabited XR := ⟨⟨default, 0, default, [], []⟩⟩
instance : Enc XR := ⟨fun u => [u.w.v, .int .i64 u.at_, u.p.v], 3, fun u => .agg #[u.w.v, .int .i64 u.at_, u.p.v], fun _ => rfl, by simp [Value.oneCell', SlV.v], fun _ => rfl, by decide⟩
instance : HasTy Tryz.prog 58 XR := hasTy_agg Tryz.sizeOf58 Tryz.isAgg58 (fun _ => rfl)
structure XL where
 w : SlV
 at_ : Int
 p : SlV
 wl : List Rn
 pl : List ByteArray
instance : Inhabited XL := ⟨⟨default, 0, default, [], []⟩⟩
instance : Enc XL := ⟨fun u => [u.w.v, .int .i64 u.at_, u.p.v], 3, fun u => .agg #[u.w.v, .int .i64 u.at_, u.p.v], fun _ => rfl, by simp [Value.oneCell', SlV.v], fun _ => rfl, by decide⟩
instance : HasTy Tryz.prog 179 XL := hasTy_agg Tryz.sizeOf179 Tryz.isAgg179 (fun _ => rfl)
theorem stb_true (w : World) (fp : List Nat) : Stb w fp (fun _ => True) := ⟨fun _ _ => trivial⟩
def sgn (x : Int) : Int := if x < 0 then -1 else if 0 < x then 1 else 0
theorem sign_spec (x : Int) (w : World) : Calls Tryz.prog 80 #[.int .i64 x] w fun e w' => e = .returned (.int .i64 (sgn x)) ∧ Cl w [] [] w' := by
 refine calls_cw (vs := [_]) Tryz.func80 rfl Tryz.ntmps80 rfl (Cl.start0 w) (zr (za rfl (nP (cw_seq (cw_seq (cw_region (zm rfl (zS rfl (q_lss rfl rfl rfl) (sw_nil (post_then ?_))))))))))
 refine cw_cond rfl (fun h => ?_) (fun h => ?_)
 · have e : sgn x = -1 := by simp only [decide_eq_true_eq] at h; simp [sgn, h]
   rw [e]
   refine zr (za rfl (nP (cw_ret (post_then_r (post_ret1 rfl (resOk_tmp rfl) ?_)))))
   refine fun w' hw => ⟨rfl, hw⟩
 · refine sP (cw_seq (zr (zm rfl (zS rfl (q_gtr rfl rfl rfl) (nP ?_)))))
   refine cw_cond rfl (fun h2 => ?_) (fun h2 => ?_)
   · have e : sgn x = 1 := by simp only [decide_eq_true_eq, decide_eq_false_iff_not] at h h2; simp [sgn, h, h2]
     rw [e]
     refine zr (za rfl (nP (cw_ret (post_then_r (post_ret1 rfl (resOk_tmp rfl) ?_)))))
     refine fun w' hw => ⟨rfl, hw⟩
   · have e : sgn x = 0 := by simp only [decide_eq_false_iff_not] at h h2; simp [sgn, h, h2]
     rw [e]
     refine sP (zr (za rfl (nP (cw_ret (post_ret1 rfl (resOk_tmp rfl) ?_)))))
     refine fun w' hw => ⟨rfl, hw⟩
end Go.Proofs.YtkmbliojafefdaaGreatDoor

set_option autoImplicit false
set_option maxRecDepth 100000
namespace Go.Proofs.YtkmbliojafefdaaGreatDoor
open Go.Sx
open Enc (enc val)
def ordL : List ByteArray → List ByteArray → Int
 | [], [] => 0
 | [], _ :: _ => -1
 | _ :: _, [] => 1
 | a :: x, b :: y => if a = b then ordL x y else if sLt a b then -1 else 1
theorem bl_irr : ∀ l : List UInt8, Op.bytesLess l l = false
 | [] => rfl
 | a :: l => by simp [Op.bytesLess, bl_irr l]
theorem sLt_irr (a : ByteArray) : sLt a a = false := bl_irr _
theorem ordL_self : ∀ a : List ByteArray, ordL a a = 0
 | [] => rfl
 | a :: l => by simp [ordL, ordL_self l]
theorem ordL_step {a b : List ByteArray} {k : Nat} (ha : k < a.length) (hb : k < b.length) : ordL (a.drop k) (b.drop k) = if nth a k = nth b k then ordL (a.drop (k + 1)) (b.drop (k + 1)) else if sLt (nth a k) (nth b k) then -1 else 1 := by
 rw [List.drop_eq_getElem_cons ha, List.drop_eq_getElem_cons hb, nth_get ha, nth_get hb]
 rfl
theorem ordL_end {a b : List ByteArray} {k : Nat} (hk : k ≤ a.length) (hk2 : k ≤ b.length) (h : ¬ (k < a.length ∧ k < b.length)) : ordL (a.drop k) (b.drop k) = sgn ((a.length : Int) - b.length) := by
 by_cases ha : k < a.length
 · have hb : k = b.length := by omega
   rw [List.drop_eq_getElem_cons ha, List.drop_eq_nil_of_le (by omega : b.length ≤ k)]
   simp only [ordL, sgn]; rw [if_neg (by omega), if_pos (by omega)]
 · rw [List.drop_eq_nil_of_le (by omega : a.length ≤ k)]
   by_cases hb : k < b.length
   · rw [List.drop_eq_getElem_cons hb]
     simp only [ordL, sgn]; rw [if_pos (by omega)]
   · rw [List.drop_eq_nil_of_le (by omega : b.length ≤ k)]
     simp only [ordL, sgn]; rw [if_neg (by omega), if_neg (by omega)]
theorem order_spec (sa sb : Value) (a b : List ByteArray) (w : World) (ha : Stb w [] (RdL sa a)) (hb : Stb w [] (RdL sb b)) : Calls Tryz.prog 38 #[sa, sb] w fun e w' => e = .returned (.int .i64 (ordL a b)) ∧ Cl w [] [] w' := by
 have hLa := rd_len ha.here
 have hLb := rd_len hb.here
 refine calls_cw (vs := [_, _]) Tryz.func38 rfl Tryz.ntmps38 rfl (Cl.start0 w) (zr (za rfl (nP (cw_seq (cw_seq (cw_region (za rfl (sw_nil (post_then (cw_block ?_))))))))))
 refine cw_loop (S := Nat) (fun k => [(0, [], sa), (1, [], sb), (5, [], .int .i64 k)]) (fun _ => Cl w [] []) (fun k => k ≤ a.length ∧ k ≤ b.length ∧ ordL a b = ordL (a.drop k) (b.drop k)) (fun k => a.length - k) 0 ⟨Nat.zero_le _, Nat.zero_le _, rfl⟩ (by exact .cons rfl (.cons rfl (.cons rfl .nil))) (fun _ h => h) ?_
 rintro k ⟨hk, hk2, hbe⟩
 refine cw_seq (zr (zm rfl (zm rfl ?_)))
 refine zS rfl (q_len rfl (.k rfl (.nil)) (stA (by assumption))) ?_
 refine zS rfl (q_lss rfl rfl rfl) (zm rfl (zm rfl (zm rfl ?_)))
 refine zS rfl (q_len rfl (.k rfl (.nil)) (stA (by assumption))) ?_
 refine zS rfl (q_lss rfl rfl rfl) (zS rfl (q_and2 rfl rfl rfl) (nP ?_))
 refine cw_cond rfl (fun h => ?_) (fun h => ?_)
 · have hk' : k < a.length ∧ k < b.length := by simp at h; omega
   have hs := ordL_step hk'.1 hk'.2
   refine sP (cw_seq (cw_block (cw_seq (cw_seq ?_))))
   refine cw_region_q mixed_Tryz (by kernel_rfl) ?_
   refine zw rfl (zw rfl ?_)
   refine zq rfl (q_indexN rfl rfl rfl (stA (by assumption)) (by intro hc; omega)) ?_
   refine zq rfl (q_loadEl rfl rfl rfl (stA (by assumption)) (by intro hc; omega)) ?_
   refine zw rfl (zw rfl ?_)
   refine zq rfl (q_indexN rfl rfl rfl (stA (by assumption)) (by intro hc; omega)) ?_
   refine zq rfl (q_loadEl rfl rfl rfl (stA (by assumption)) (by intro hc; omega)) ?_
   refine zq rfl (q_lssStr rfl rfl rfl Tryz.underlying9) (qw_end (post_then ?_))
   refine cw_cond rfl (fun h2 => ?_) (fun h2 => ?_)
   · have h3 : ordL a b = -1 := by
       rw [hbe, hs, if_neg (fun e => by rw [e, sLt_irr] at h2; exact absurd h2 (by decide)), if_pos h2]
     refine zr (za rfl (nP (cw_ret (post_then_r (post_blk_r (post_then_r (post_then_r (post_blk_r (post_then_r (post_ret1 rfl (resOk_tmp rfl) ?_))))))))))
     exact fun w' hw => ⟨by rw [h3], hw⟩
   · refine sP (cw_seq ?_)
     refine cw_region_q mixed_Tryz (by kernel_rfl) ?_
     refine zw rfl (zw rfl ?_)
     refine zq rfl (q_indexN rfl rfl rfl (stA (by assumption)) (by intro hc; omega)) ?_
     refine zq rfl (q_loadEl rfl rfl rfl (stA (by assumption)) (by intro hc; omega)) ?_
     refine zw rfl (zw rfl ?_)
     refine zq rfl (q_indexN rfl rfl rfl (stA (by assumption)) (by intro hc; omega)) ?_
     refine zq rfl (q_loadEl rfl rfl rfl (stA (by assumption)) (by intro hc; omega)) ?_
     refine zq rfl (q_gtrStr rfl rfl rfl Tryz.underlying9) (qw_end (post_then ?_))
     refine cw_cond rfl (fun h4 => ?_) (fun h4 => ?_)
     · have h3 : ordL a b = 1 := by
         simp at h4
         rw [hbe, hs, if_neg h4.2, if_neg (by simp [h4.1])]
       refine zr (za rfl (nP (cw_ret (post_blk_r (post_then_r (post_then_r (post_blk_r (post_then_r (post_ret1 rfl (resOk_tmp rfl) ?_)))))))))
       exact fun w' hw => ⟨by rw [h3], hw⟩
     · have h3 : nth a k = nth b k := by
         simp at h2 h4
         exact h4 h2
       refine cw_skip (post_blk (post_then (cw_region (zm rfl ?_))))
       refine zS rfl (q_add rfl rfl rfl (by intro hc; omega)) ?_
       refine za rfl (sw_nil ?_)
       exact post_next (k + 1) (by exact .cons rfl (.cons rfl (.cons rfl .nil))) (fun _ h => h) ⟨by omega, by omega, by rw [hbe, hs, if_pos h3]⟩ (by omega)
 · have hk' : ¬ (k < a.length ∧ k < b.length) := by simp at h; omega
   have he := ordL_end hk hk2 hk'
   refine cw_exit (post_then_x (post_then_x (post_blk_eq (post_then (zr (zm rfl ?_))))))
   refine zS rfl (q_len rfl (.k rfl (.nil)) (stA (by assumption))) ?_
   refine zm rfl ?_
   refine zS rfl (q_len rfl (.k rfl (.nil)) (stA (by assumption))) ?_
   refine zS rfl (q_sub rfl rfl rfl (by intro hc; omega)) ?_
   refine sw_step rfl rfl rfl (q_call (CanCall.mk Tryz.call80) rfl (.k rfl (.nil)) (fun _ w hw => callq hw (sign_spec _ w))) (za rfl (nP (cw_ret (post_ret1 rfl (resOk_tmp rfl) ?_))))
   exact fun w' hw => ⟨by rw [hbe, he], hw⟩
end Go.Proofs.YtkmbliojafefdaaGreatDoor

set_option autoImplicit false
set_option maxRecDepth 100000
namespace Go.Proofs.YtkmbliojafefdaaGreatDoor
open Go.Sx
open Enc (enc val)
theorem ordL_eq : ∀ (a b : List ByteArray), ordL a b = 0 ↔ a = b
 | [], [] => by simp [ordL]
 | [], _ :: _ => by simp [ordL]
 | _ :: _, [] => by simp [ordL]
 | a :: x, b :: y => by
   unfold ordL
   by_cases h : a = b
   · simp [h, ordL_eq x y]
   · rw [if_neg h]; split <;> simp [h]
def RdR {α : Type} [Enc α] (vs : List SlV) (ll : List (List α)) (w : World) : Prop := vs.length = ll.length ∧ ∀ i, i < ll.length → RdL (nth vs i).v (nth ll i) w
theorem stb_row {α : Type} [Enc α] {vs : List SlV} {ll : List (List α)} {w : World} {fp : List Nat} (h : Stb w fp (RdR vs ll)) {i : Nat} (hi : i < ll.length) : Stb w fp (RdL (nth vs i).v (nth ll i)) := ⟨fun w' k => (h.stb w' k).2 i hi⟩
theorem samePieces_spec (sa sb : Value) (va vb : List SlV) (a b : List (List ByteArray)) (w : World) (ha : Stb w [] (RdL sa va)) (hb : Stb w [] (RdL sb vb)) (ra : Stb w [] (RdR va a)) (rb : Stb w [] (RdR vb b)) : Calls Tryz.prog 25 #[sa, sb] w fun e w' => e = .returned (.bool (decide (a = b))) ∧ Cl w [] [] w' := by
 have hLa := rd_len ha.here
 have hLb := rd_len hb.here
 have la := ra.here.1
 have lb := rb.here.1
 refine calls_cw (vs := [_, _]) Tryz.func25 rfl Tryz.ntmps25 rfl (Cl.start0 w) (zr (za rfl (nP (cw_seq (cw_seq (cw_region (zm rfl ?_)))))))
 refine zS rfl (q_len rfl (.k rfl (.nil)) (stA (by assumption))) ?_
 refine zm rfl ?_
 refine zS rfl (q_len rfl (.k rfl (.nil)) (stA (by assumption))) ?_
 refine zS rfl (q_neq rfl rfl rfl) (nP ?_)
 refine cw_cond rfl (fun h => ?_) (fun h => ?_)
 · have h2 : ¬ a = b := fun e => by subst e; simp at h; omega
   refine zr (za rfl (nP (cw_ret (post_then_r (post_ret1 rfl (resOk_tmp rfl) ?_)))))
   exact fun w' hw => ⟨by rw [decide_eq_false h2], hw⟩
 · have hl : a.length = b.length := by simp at h; omega
   refine sP (cw_seq (zr (za rfl (nP (cw_block ?_)))))
   refine cw_loop (S := Nat) (fun k => [(0, [], sa), (1, [], sb), (5, [], .int .i64 k)]) (fun _ => Cl w [] []) (fun k => k ≤ a.length ∧ ∀ j, j < k → nth a j = nth b j) (fun k => a.length - k) 0 ⟨Nat.zero_le _, fun j hj => by omega⟩ (by exact .cons rfl (.cons rfl (.cons rfl .nil))) (fun _ h => h) ?_
   rintro k ⟨hk, hbe⟩
   refine cw_seq (zr (zm rfl (zm rfl ?_)))
   refine zS rfl (q_len rfl (.k rfl (.nil)) (stA (by assumption))) ?_
   refine zS rfl (q_lss rfl rfl rfl) (nP ?_)
   refine cw_cond rfl (fun h2 => ?_) (fun h2 => ?_)
   · have hk' : k < a.length := by simp at h2; omega
     have r1 := stb_row ra hk'
     have r2 := stb_row rb (i := k) (by omega)
     refine sP (cw_seq (cw_block (cw_seq ?_)))
     refine cw_region_q mixed_Tryz (by kernel_rfl) ?_
     refine zw rfl (zw rfl ?_)
     refine zq rfl (q_indexN rfl rfl rfl (stA (by assumption)) (by intro hc; omega)) ?_
     refine zq rfl (q_loadEl rfl rfl rfl (stA (by assumption)) (by intro hc; omega)) ?_
     refine zw rfl (zw rfl ?_)
     refine zq rfl (q_indexN rfl rfl rfl (stA (by assumption)) (by intro hc; omega)) ?_
     refine zq rfl (q_loadEl rfl rfl rfl (stA (by assumption)) (by intro hc; omega)) ?_
     refine qw_step rfl rfl rfl (q_call (CanCall.mk Tryz.call38) rfl (.k rfl (.k rfl (.nil))) (fun _ w hw => callq hw (order_spec _ _ _ _ w (by exact stb_arg hw (by assumption)) (by exact stb_arg hw (by assumption))))) ?_
     refine zq rfl (q_neq rfl rfl rfl) (qw_end (post_then ?_))
     refine cw_cond rfl (fun h3 => ?_) (fun h3 => ?_)
     · have h4 : ¬ a = b := fun e => by subst e; simp [ordL_self] at h3
       refine zr (za rfl (nP (cw_ret (post_blk_r (post_then_r (post_then_r (post_blk_r (post_then_r (post_ret1 rfl (resOk_tmp rfl) ?_)))))))))
       exact fun w' hw => ⟨by rw [decide_eq_false h4], hw⟩
     · have h4 : nth a k = nth b k := by simp at h3; exact (ordL_eq _ _).1 h3
       refine cw_skip (post_blk (post_then (cw_region (zm rfl ?_))))
       refine zS rfl (q_add rfl rfl rfl (by intro hc; omega)) ?_
       refine za rfl (sw_nil ?_)
       exact post_next (k + 1) (by exact .cons rfl (.cons rfl (.cons rfl .nil))) (fun _ h => h) ⟨by omega, fun j hj => by
         rcases Nat.lt_or_ge j k with h5 | h5
         · exact hbe j h5
         · have : j = k := by omega
           subst this; exact h4⟩ (by omega)
   · have hk' : k = a.length := by simp at h2; omega
     have h4 : a = b := List.ext_getElem hl fun i h5 h6 => by
       have := hbe i (by omega)
       rwa [nth_get h5, nth_get h6] at this
     refine cw_exit (post_then_x (post_then_x (post_blk_eq (post_then (zr (za rfl (nP (cw_ret (post_ret1 rfl (resOk_tmp rfl) ?_)))))))))
     exact fun w' hw => ⟨by rw [decide_eq_true h4], hw⟩
end Go.Proofs.YtkmbliojafefdaaGreatDoor

set_option autoImplicit false
set_option maxRecDepth 100000
namespace Go.Proofs.YtkmbliojafefdaaGreatDoor
open Go.Sx
open Enc (enc val)
def vrune (c : Int) : Bool := (decide (0 ≤ c) && decide (c < 55296)) || (decide (57343 < c) && decide (c ≤ 1114111))
def possC (c : Int) : Bool := decide (33 ≤ c) && vrune c
theorem possC_le (c : Int) : (decide (33 ≤ c) && decide (c ≤ 1114111) && vrune c) = possC c := by
 unfold possC vrune
 rw [Bool.eq_iff_iff]; simp; omega
theorem validRune_spec (c : Int) (w : World) : Calls Tryz.prog 116 #[.int .i32 c] w fun e w' => e = .returned (.bool (vrune c)) ∧ Cl w [] [] w' := by
 refine calls_cw (vs := [_]) Tryz.func116 rfl Tryz.ntmps116 rfl (Cl.start0 w) (zr (za rfl (nP (cw_seq (cw_block (cw_seq (cw_region (zm rfl (zS rfl (q_leq rfl rfl rfl) (zm rfl (zm rfl (zS rfl (q_lss rfl rfl rfl) (zS rfl (q_and2 rfl rfl rfl) (za rfl (sw_nil (post_then ?_))))))))))))))))
 refine cw_cond rfl (fun h => ?_) (fun h => ?_)
 · have e : vrune c = true := by simp only [vrune]; simp at h ⊢; omega
   refine zr (za rfl (nP (cw_ret (post_blk_r (post_then_r (post_ret1 rfl (resOk_tmp rfl) ?_))))))
   exact fun w' hw => ⟨by rw [e], hw⟩
 · refine zr (zm rfl (zS rfl (q_lss rfl rfl rfl) (zm rfl (zm rfl (zS rfl (q_leq rfl rfl rfl) (zS rfl (q_and2 rfl rfl rfl) (za rfl (nP ?_))))))))
   refine cw_cond rfl (fun h2 => ?_) (fun h2 => ?_)
   · have e : vrune c = true := by simp only [vrune]; simp at h2 ⊢; omega
     refine zr (za rfl (nP (cw_ret (post_blk_r (post_then_r (post_ret1 rfl (resOk_tmp rfl) ?_))))))
     exact fun w' hw => ⟨by rw [e], hw⟩
   · have e : vrune c = false := by simp only [vrune]; simp at h h2 ⊢; omega
     refine cw_skip (post_blk (post_then (zr (za rfl (nP (cw_ret (post_ret1 rfl (resOk_tmp rfl) ?_)))))))
     exact fun w' hw => ⟨by rw [e], hw⟩
theorem possible_spec (c : Int) (w : World) : Calls Tryz.prog 76 #[.int .i32 c] w fun e w' => e = .returned (.bool (possC c)) ∧ Cl w [] [] w' := by
 refine calls_cw (vs := [_]) Tryz.func76 rfl Tryz.ntmps76 rfl (Cl.start0 w) (zr (za rfl (nP (cw_seq (cw_region (zm rfl (zS rfl (q_geq rfl rfl rfl) (zm rfl (zm rfl (zS rfl (q_leq rfl rfl rfl) (zS rfl (q_and2 rfl rfl rfl) (zm rfl (zm rfl (sw_step rfl rfl rfl (q_call (CanCall.mk Tryz.call116) rfl (.k rfl (.nil)) (fun _ w hw => callq hw (validRune_spec _ w))) (zS rfl (q_and2 rfl rfl rfl) (za rfl (sw_nil (post_then (cw_ret (post_ret1 rfl (resOk_tmp rfl) ?_))))))))))))))))))))
 refine fun w' hw => ⟨by rw [← possC_le], hw⟩
theorem refLetter_spec (c : Int) (w : World) : Calls Tryz.prog 66 #[.int .i32 c] w fun e w' => e = .returned (.bool (possC c)) ∧ Cl w [] [] w' := by
 refine calls_cw (vs := [_]) Tryz.func66 rfl Tryz.ntmps66 rfl (Cl.start0 w) (zr (za rfl (nP (cw_seq (cw_region (zm rfl (zS rfl (q_geq rfl rfl rfl) (zm rfl (zm rfl (sw_step rfl rfl rfl (q_call (CanCall.mk Tryz.call116) rfl (.k rfl (.nil)) (fun _ w hw => callq hw (validRune_spec _ w))) (zS rfl (q_and2 rfl rfl rfl) (za rfl (sw_nil (post_then (cw_ret (post_ret1 rfl (resOk_tmp rfl) ?_))))))))))))))))
 refine fun w' hw => ⟨rfl, hw⟩
end Go.Proofs.YtkmbliojafefdaaGreatDoor

set_option autoImplicit false
set_option maxRecDepth 100000
namespace Go.Proofs.YtkmbliojafefdaaGreatDoor
open Go.Sx
open Enc (enc val)
def PredR (P : Program) (g : FuncId) (cap : Array Value) (p : Int → Bool) (R : World → Prop) : Prop :=
 ∀ c : Int, ∀ w, R w → Calls P g (#[.int .i32 c] ++ cap) w fun e w' => e = .returned (.bool (p c)) ∧ Cl w [] [] w'
def idxS (p : Int → Bool) : List (Nat × Nat) → Int
 | [] => -1
 | x :: l => if p x.2 then x.1 else idxS p l
theorem idxS_any (p : Int → Bool) : ∀ l, decide (0 ≤ idxS p l) = l.any fun x => p x.2
 | [] => rfl
 | x :: l => by
   simp only [idxS, List.any_cons]
   by_cases h : p x.2 = true
   · simp [h]
   · simp [h, idxS_any p l]
theorem indexFunc_spec (s : ByteArray) (g : FuncId) (cap : Array Value) (p : Int → Bool) (R : World → Prop) (w : World) (hR : Stb w [] R) (hgc : CanCall Tryz.prog g) (hg : PredR Tryz.prog g cap p R) :
   Calls Tryz.prog 172 #[.string s, .func (.func g) #[] cap, .bool true] w fun e w' => e = .returned (.int .i64 (idxS p (runesP s 0))) ∧ Cl w [] [] w' := by
 refine calls_cw (vs := [_, _, _]) Tryz.func172 rfl Tryz.ntmps172 rfl (Cl.start0 w) (zr (za rfl (nP (cw_seq (cw_seq (cw_region (zm rfl ?_)))))))
 refine sw_x rfl rfl rfl (e_rangeS rfl rfl Tryz.underlying9) (fun r10 => ?_)
 refine nP (cw_block ?_)
 refine cw_loop (S := Nat) (fun k => [(1, [], .func (.func g) #[] cap), (2, [], .bool true), (10, [], .pointer (some ⟨r10, 0, none⟩))]) (fun k => Cl w [] [obj r10 (.stringIter s k)]) (fun k => idxS p (runesP s 0) = idxS p (runesP s k)) (fun k => s.size - k) 0 rfl (by exact .cons rfl (.cons rfl (.cons rfl .nil))) (fun _ h => h) ?_
 intro k hbe
 refine zr ?_
 refine sw_x rfl rfl rfl (e_nextS (i := 0) rfl rfl rfl) (fun y11 => ?_)
 refine zS rfl (q_extract rfl rfl (nextSV_0 _ _)) (nP (cw_seq ?_))
 refine cw_cond rfl (fun h => ?_) (fun h => ?_)
 · have hk : k < s.size := by simpa using h
   have hp := decode_pos s k
   have hst := runesP_step hk
   have hnp : nextSP s k = k + (Utf8.decode s k).2 := by simp [nextSP, hk]
   refine sP (cw_block (zr ?_))
   refine zS rfl (q_extract rfl rfl (nextSV_1 (by assumption))) ?_
   refine zS rfl (q_extract rfl rfl (nextSV_2 (by assumption))) ?_
   refine za rfl (za rfl (nP (zr (zm rfl (zm rfl (sw_step rfl rfl rfl (q_callv hgc rfl rfl (.k rfl (.nil)) (fun _ w' hw => callq hw (hg _ w' (hR.cl hw)))) (zm rfl (zS rfl (q_eql_b rfl rfl rfl Tryz.underlying4) (sw_nil (post_then ?_))))))))))
   refine cw_cond rfl (fun h2 => ?_) (fun h2 => ?_)
   · refine zr (zm rfl (za rfl (nP (cw_ret (post_blk_r (post_then_r (post_blk_r (post_then_r (post_ret1 rfl (resOk_tmp rfl) ?_)))))))))
     exact fun w' hw => ⟨by rw [hbe, hst]; simp at h2; simp [idxS, h2], (Cl.sel (by exact .nil _)) _ hw⟩
   · refine cw_skip (post_blk ?_)
     exact post_next (k + (Utf8.decode s k).2) (by exact .cons rfl (.cons rfl (.cons rfl .nil))) (by rw [← hnp]; exact fun _ h => h) (by rw [hbe, hst]; simp at h2; simp [idxS, h2]) (by omega)
 · have hk : ¬ k < s.size := by simpa using h
   refine cw_exit (post_then_x (post_then_x (post_blk_eq (post_then (zr (za rfl (nP (cw_ret (post_ret1 rfl (resOk_tmp rfl) ?_)))))))))
   exact fun w' hw => ⟨by rw [hbe, runesP_end hk]; rfl, (Cl.sel (by exact .nil _)) _ hw⟩
end Go.Proofs.YtkmbliojafefdaaGreatDoor

/- Phones: strings of one to eight visible ASCII bytes. Plain. -/
set_option autoImplicit false
namespace Go.Sx
theorem get!_byteAt (s : ByteArray) (i : Nat) : (s.get! i).toNat = byteAt s i := by
 unfold byteAt
 congr 1
 show s.data[i]! = _
 by_cases h : i < s.data.size
 · rw [getElem!_pos s.data i h]
   have h' : i < s.size := h
   rw [getElem?_pos s i h']
   rfl
 · rw [getElem!_neg s.data i h]
   have h' : ¬ i < s.size := h
   rw [getElem?_neg s i h']
   rfl
theorem decode_ascii {s : ByteArray} {i : Nat} (h : byteAt s i < 128) : Utf8.decode s i = (byteAt s i, 1) := by
 unfold Utf8.decode
 simp only [Nat.add_zero, get!_byteAt]
 rw [if_pos (by omega)]
theorem decode_high {s : ByteArray} {i : Nat} (h : ¬ byteAt s i < 128) : 128 ≤ (Utf8.decode s i).1 := by
 unfold Utf8.decode
 simp only [Nat.add_zero, get!_byteAt, Utf8.runeError]
 rw [if_neg (by omega)]
 repeat' split
 all_goals first | (simp; done) | (rename_i h2; simp only [Bool.and_eq_true, decide_eq_true_eq, ge_iff_le] at h2; simp only; omega) | (simp only; omega)
def badB (n : Nat) : Bool := decide (n < 33) || decide (126 < n)
def phoneOk (s : ByteArray) : Bool := decide (1 ≤ s.size) && decide (s.size ≤ 8) && !(List.range s.size).any fun k => badB (byteAt s k)
theorem runesP_bad (s : ByteArray) : ∀ (n i : Nat), s.size - i = n → i ≤ s.size → ((runesP s i).any fun x => badB x.2) = (List.range' i n).any fun k => badB (byteAt s k) := by
 intro n
 induction n with
 | zero => intro i h1 h2; rw [runesP_end (by omega)]; rfl
 | succ n ih =>
   intro i h1 h2
   rw [runesP_step (by omega), List.range'_succ, List.any_cons, List.any_cons]
   by_cases hb : byteAt s i < 128
   · rw [decode_ascii hb]; dsimp only; rw [ih (i + 1) (by omega) (by omega)]
   · have h3 := decode_high hb
     have e1 : badB (Utf8.decode s i).1 = true := by simp [badB]; omega
     have e2 : badB (byteAt s i) = true := by simp [badB]; omega
     rw [e1, e2]; rfl
theorem phone_runes (s : ByteArray) : ((runesP s 0).any fun x => badB x.2) = (List.range s.size).any fun k => badB (byteAt s k) := by
 rw [runesP_bad s s.size 0 (by omega) (by omega), List.range_eq_range']
end Go.Sx
