/-
  Ranges over functions for the layer of symbolic frames: the loop's record, a round, a call of yield, the mark at the function's end. General lemmas, no program text.
-/
import Derived.Test.YtekikelejncgeaaSxEff
set_option autoImplicit false
set_option linter.unusedSimpArgs false
set_option linter.unusedVariables false
namespace Go.Sx

/-! ### 1. The loop's record -/
theorem cl_obj_at {w0 w : World} {fp : List Nat} {H : List Asn} {i l : Nat} {o : Obj} (hi : nthA H i = some (obj l o)) (h : Cl w0 fp H w) : w.heap[l]? = some o := by
  obtain ⟨bs, hb⟩ := h.get (mem_of_nth hi)
  exact hb.2
theorem cl_putObj {w0 w : World} {fp : List Nat} {H : List Asn} {i l : Nat} {o : Obj} (o' : Obj) (hi : nthA H i = some (obj l o)) (h : Cl w0 fp H w) : Cl w0 fp (setA H i (obj l o')) (w.putObj l o') := by
  obtain ⟨bs, ⟨b1, b2, rfl, ⟨rfl, hb⟩, rfl⟩, _, hlt, _, _, h6⟩ := (h.focus hi).split
  refine (h6 [obj l o'] _ ?_).set hi
  have hl : l < w.heap.size := hlt l (by simp)
  refine ⟨⟨rfl, rfl, rfl, by simp [World.putObj], fun k hk hn => ?_⟩, [l], ⟨[l], [], rfl, ⟨rfl, ?_⟩, rfl⟩, by simp, fun b hb => ?_⟩
  · exact World.putObj_heap_other (by simpa using hn)
  · exact World.putObj_heap_same hl
  · simp at hb; subst hb; exact ⟨.inl (by simp), by simpa [World.putObj] using hl⟩
theorem cl_obj_new {w0 w : World} {fp : List Nat} {H : List Asn} (o : Obj) (h : Cl w0 fp H w) : Cl w0 fp (obj w.heap.size o :: H) (w.alloc o) := by
  refine h.split0.2.2 [obj w.heap.size o] _ ⟨chg_alloc w _, [w.heap.size], ⟨[w.heap.size], [], rfl, ⟨rfl, World.alloc_heap_new w o⟩, rfl⟩, by simp, fun b hb => by simp at hb; subst hb; exact ⟨.inr (Nat.le_refl _), by simp⟩⟩

section
variable {P : Program} {n : Fr} {E : Env} {C : World → Prop} {Q : Exit → Act → World → Prop} {w0 : World} {fp : List Nat} {H : List Asn}

/-! ### 2. A round -/
def penv : List Tmp → List Value → Env → Env
  | p :: ps, v :: vs, E => penv ps vs ((p, [], v) :: E)
  | _, _, E => E
theorem penv_sat {n : Fr} : ∀ (ps : List Tmp) (vs : List Value) (E : Env) (tmps : Array Value), Sat n E { tmps := tmps, defers := [] } → (ps.all fun p => Nat.blt p n.sz) = true →
    Sat n (penv ps vs E) { tmps := (ps.zip vs).foldl (fun tmps x => tmps.setIfInBounds x.1 x.2) tmps, defers := [] }
  | [], vs, E, tmps, h, _ => by cases vs <;> exact h
  | p :: ps, [], E, tmps, h, _ => h
  | p :: ps, v :: vs, E, tmps, h, hp => by
    simp only [List.all_cons, Bool.and_eq_true] at hp
    have := h.put (d := p) (cs := []) (v := v) (blt_lt hp.1)
    exact penv_sat ps vs _ _ this hp.2
/-- The loop's record, by its state. -/
structure Rec (k : Nat) (E : Env) (ps : List Tmp) (assign body : Code) (l : Nat) (L : LoopState → Option Code → Obj) : Prop where
  loop : ∃ r : Loop, (∀ st p, L st p = .loop { r with state := st, pending := p }) ∧ r.params = ps.toArray ∧ r.assign = assign ∧ r.body = body ∧ Sat ⟨k, [], some l⟩ E { tmps := r.tmps, defers := [] }
def BeginThen (P : Program) (l : Nat) (body : Code) (Q : Exit → Act → World → Prop) (a : Act) (w : World) : Prop :=
  ∃ w', (Instr.beginRound l).run P w = .ok () w' ∧ body.wpIn (Fw (some l)) 0 P Q a w'
theorem round_cw {k l : Nat} {f : FuncId} {tmps : Array Value} {assign body : Code} {w : World} {R : Ending → World → Prop} (hS : Sat ⟨k, [], some l⟩ E { tmps := tmps, defers := [] }) (hw : C w)
    (h : CW P assign (Exit.then (BeginThen P l body (roundPost P l R)) (fun _ _ _ => False)) ⟨k, [], some l⟩ E C) : RoundIn (Fw none) 0 P l f tmps assign body w R :=
  roundIn_of_wpIn trivial (h _ w hS hw)
variable {k l : Nat} {ps : List Tmp} {assign body : Code} {L : LoopState → Option Code → Obj}
theorem post_begin {i : Nat} {D : List Deferred} {Q0 : Exit → Act → World → Prop} {E' : Env} (hL : Rec k E' ps assign body l L) (hi : nthA H i = some (obj l (L .ready none)))
    (h : CW P body Q ⟨k, D, some l⟩ E (Cl w0 fp (setA H i (obj l (L .busy none))))) : Post ⟨k, D, some l⟩ E (Cl w0 fp H) (Exit.then (BeginThen P l body Q) Q0) .normal := fun a w ha hw => by
  obtain ⟨r, hr, _⟩ := hL.loop
  have hl := cl_obj_at hi hw
  rw [hr] at hl
  refine ⟨_, run_beginRound hl rfl, h a _ ⟨ha.defers, ha.size, ha.has⟩ ?_⟩
  have := cl_putObj (L .busy none) hi hw
  rw [hr] at this
  rw [hr]
  exact this
theorem post_round {i : Nat} {E' : Env} {R : Ending → World → Prop} (hL : Rec k E' ps assign body l L) (hi : nthA H i = some (obj l (L .busy none)))
    (h : ∀ w, Cl w0 fp (setA H i (obj l (L .ready none))) w → R (.returned (.bool true)) w) : Post n E (Cl w0 fp H) (roundPost P l R) .normal := fun _ _ _ hw => by
  obtain ⟨r, hr, _⟩ := hL.loop
  have hl := cl_obj_at hi hw
  rw [hr] at hl
  refine ⟨_, _, run_endRound none hl, h _ ?_⟩
  have := cl_putObj (L .ready none) hi hw
  rw [hr] at this
  rw [hr]
  exact this
theorem round_end {i : Nat} {E' : Env} {R : Ending → World → Prop} {w : World} {jump : Code} (hL : Rec k E' ps assign body l L) (hi : nthA H i = some (obj l (L .busy none))) (hw : Cl w0 fp H w)
    (h : ∀ w, Cl w0 fp (setA H i (obj l (L .done (some jump)))) w → R (.returned (.bool false)) w) : ∃ v w', (Instr.endRound l (some jump)).run P w = .ok v w' ∧ R (.returned v) w' := by
  obtain ⟨r, hr, _⟩ := hL.loop
  have hl := cl_obj_at hi hw
  rw [hr] at hl
  refine ⟨_, _, run_endRound (some jump) hl, h _ ?_⟩
  have := cl_putObj (L .done (some jump)) hi hw
  rw [hr] at this
  rw [hr]
  exact this
theorem post_round_x {i j : Nat} {E' : Env} {R : Ending → World → Prop} (hL : Rec k E' ps assign body l L) (hi : nthA H i = some (obj l (L .busy none)))
    (h : ∀ w, Cl w0 fp (setA H i (obj l (L .done (some (.exit j))))) w → R (.returned (.bool false)) w) : Post n E (Cl w0 fp H) (roundPost P l R) (.exit j) := fun _ _ _ hw => round_end hL hi hw h
theorem post_round_r {i : Nat} {E' : Env} {R : Ending → World → Prop} (hL : Rec k E' ps assign body l L) (hi : nthA H i = some (obj l (L .busy none)))
    (h : ∀ w, Cl w0 fp (setA H i (obj l (L .done (some .ret)))) w → R (.returned (.bool false)) w) : Post n E (Cl w0 fp H) (roundPost P l R) .ret := fun _ _ _ hw => round_end hL hi hw h

/-! ### 3. A call of yield -/
/-- Yield, asked for a round: the answer. -/
def Asks (P : Program) (l : Nat) (args : List Value) (w : World) (R : Bool → World → Prop) : Prop :=
  YieldAt (Fw none) 0 P l args.toArray w fun e w' => ∃ b, e = .returned (.bool b) ∧ R b w'
theorem asks_of {i : Nat} {args : List Value} {w : World} {R : Bool → World → Prop} (hL : Rec k E ps assign body l L) (hi : nthA H i = some (obj l (L .ready none))) (hw : Cl w0 fp H w) (hs : args.length = ps.length) (hk : (ps.all fun p => Nat.blt p k) = true)
    (h : CW P assign (Exit.then (BeginThen P l body (roundPost P l fun e w' => ∃ b, e = .returned (.bool b) ∧ R b w')) (fun _ _ _ => False)) ⟨k, [], some l⟩ (penv ps args E) (Cl w0 fp H)) : Asks P l args w R := by
  obtain ⟨r, hr, h1, h2, h3, h4⟩ := hL.loop
  have hl := cl_obj_at hi hw
  rw [hr] at hl
  refine ⟨_, _, _, _, run_yield hl (by simp [h1, hs]), ?_⟩
  have h5 := penv_sat ps args E r.tmps h4 hk
  have e : (({ r with state := .ready, pending := none } : Loop).params.zip args.toArray).foldl (fun tmps (t, a) => tmps.setIfInBounds t a) r.tmps = (ps.zip args).foldl (fun tmps x => tmps.setIfInBounds x.1 x.2) r.tmps := by
    show (r.params.zip args.toArray).foldl _ _ = _
    rw [h1, List.zip_toArray, List.foldl_toArray]
  rw [← e] at h5
  show RoundIn (Fw none) 0 P l r.fn _ r.assign r.body w _
  rw [h2, h3]
  exact round_cw h5 hw h
theorem sw_yield {ops : Array Oper} {o : Oper} {rest : List Oper} {d l : Nat} {x : Operand} {as : List Operand} {ts : Array TypeId} {vs : List Value} {R : Bool → World → Prop} (hg : o.guard = none) (hd : o.dst = some d) (hn : Nat.ble (d + 1) n.sz = true)
    (ho : o.op = .call { callee := .value x, args := as.toArray, argTypes := ts }) (hx : evl E x = some ([], .func (.yield l) #[] #[])) (hv : Evs E [] as vs)
    (hy : ∀ w, C w → Asks P l vs w R) (h : ∀ b, SW P ops Q rest n ((d, [], .bool b) :: E) (R b)) : SW P ops Q (o :: rest) n E C := by
  intro a w ha hCw
  refine wpListIn_plain hg fun K hK => ?_
  obtain ⟨f, tmps, assign, body, hr, hround⟩ := hy w hCw
  refine ⟨fun _ _ => trivial, ?_⟩
  rw [Oper.semAt_eq _ _ _ (by rw [ho]; intro c hc; cases hc)]
  have e : (execOp a.eval o).run P w = .ok (.round l f tmps assign body) w := by
    unfold execOp
    simp only [ho]
    simp only [resolve, ha.eval hx ⟨id⟩ AllT.nil, Deferred.ofValue, invoke, List.map_toArray, hv.eval ha AllT.nil, Sem.run_bind, Sem.run_pure, Result.andThen_ok]
    simpa using hr
  rw [e]
  refine ⟨fun h => by simp at h, RoundIn.mono (F := Fw n.ro) hround ?_⟩
  rintro e w' ⟨b, rfl, hR⟩
  refine hK _ _ ?_
  have := h b _ w' (ha.put (cs := []) (v := .bool b) (Nat.le_of_ble_eq_true hn)) hR
  rw [hd]; exact this

/-! ### 4. The statement -/
def mark (b : Nat) : Deferred := { target := .collected b, args := #[] }
theorem cw_rangeFunc {D : List Deferred} {g : Operand} {f : FuncId} {cap : Array Value} (X : Nat → Nat → Option Code → List Asn → Prop) (hf : CanCall P f) (hg : evl E g = some ([], .func (.func f) #[] cap))
    (hcall : ∀ (l b : Nat) (L : LoopState → Option Code → Obj) (w : World), Rec k E ps assign body l L → Cl w0 fp (obj l (L .ready none) :: obj b (.deferred (some [])) :: H) w →
      Calls P f (#[.func (.yield l) #[] #[]] ++ cap) w fun e w' => (∃ v, e = .returned v) ∧ ∃ st jump H', X l b jump H' ∧ st ≠ .busy ∧ Cl w0 fp (obj l (L st jump) :: H') w')
    (hN : ∀ l b H', X l b none H' → Post ⟨k, mark b :: D, none⟩ E (Cl w0 fp H') Q .normal)
    (hJ : ∀ l b c H', X l b (some c) H' → CW P c Q ⟨k, mark b :: D, none⟩ E (Cl w0 fp H')) : CW P (.rangeFunc g ps.toArray assign body) Q ⟨k, D, none⟩ E (Cl w0 fp H) := by
  intro a w ha hw
  refine wpIn_rangeFunc fun fn _ => ?_
  let r : Loop := { state := .ready, pending := none, fn, tmps := a.tmps, params := ps.toArray, assign, body, defers := w.heap.size }
  have hw2 : Cl w0 fp (obj (w.heap.size + 1) (.loop r) :: obj w.heap.size (.deferred (some [])) :: H) ((w.alloc (.deferred (some []))).alloc (.loop r)) := by
    have := cl_obj_new (.loop r) (cl_obj_new (.deferred (some [])) hw)
    rwa [World.size_alloc] at this
  have hS0 : Sat ⟨k, [], some (w.heap.size + 1)⟩ E { tmps := a.tmps, defers := [] } := ⟨rfl, ha.size, ha.has⟩
  have hc := hcall _ _ (fun st p => .loop { r with state := st, pending := p }) _ ⟨r, fun _ _ => rfl, rfl, rfl, rfl, hS0⟩ hw2
  refine ⟨_, _, _, { target := .fn (.func f) cap, args := #[.func (.yield (w.heap.size + 1)) #[] #[]] }, ((w.alloc (.deferred (some []))).alloc (.loop r)), f, _, _, run_enterLoop_outer fn a.tmps ps.toArray assign body, ?_, fun _ _ => trivial, ?_, fun h => by simp at h, CallsIn.mono (callsIn_wide.2 hc) ?_⟩
  · have e1 : a.eval (.const (.func (.yield (w.heap.size + 1)) #[] #[])) = .func (.yield (w.heap.size + 1)) #[] #[] := rfl
    simp only [resolve, rangeCall, ha.eval hg ⟨id⟩ AllT.nil, Deferred.ofValue, List.map_toArray, List.map_cons, List.map_nil, e1, Sem.run_bind, Sem.run_pure, Result.andThen_ok]
    rfl
  · simp [invoke, hf.run]
  · rintro e w3 ⟨⟨v, rfl⟩, st, jump, H', hX, hb, hC⟩
    have hi : nthA (obj (w.heap.size + 1) (.loop { r with state := st, pending := jump }) :: H') 0 = some (obj (w.heap.size + 1) (.loop { r with state := st, pending := jump })) := rfl
    refine ⟨_, _, run_endLoop (cl_obj_at hi hC) hb, ?_⟩
    have hC' := (cl_putObj (.loop { r with state := .exhausted, pending := jump }) hi hC).tail
    have hS : Sat ⟨k, mark w.heap.size :: D, none⟩ E { a with defers := [{ target := .collected w.heap.size, args := #[] }] ++ a.defers } := ⟨by simp [ha.defers, mark], ha.size, ha.has⟩
    cases jump with
    | none => exact hN _ _ _ hX _ _ hS hC'
    | some c => exact hJ _ _ _ _ hX _ _ hS hC'

/-! ### 5. The function's end -/
theorem calls_cwM {k : Nat} {f : FuncId} {fn : Func} {c : Code} {vs : List Value} {w : World} {R : Ending → World → Prop} (hf : P.funcs[f]? = some fn) (hb : fn.body = some c) (hn : fn.ntmps = k)
    (hl : Nat.ble vs.length k = true) (hw : C w) (h : CW P c (bodyPostM (Fw none) 0 P fn R) ⟨k, [], none⟩ (argEnv 0 vs) C) : Calls P f vs.toArray w R := by
  refine callsIn_wide.1 (callsIn_of_wp_marks (F := Fw none) hf hb trivial (h _ w ⟨rfl, ?_, ?_⟩ hw))
  · have := Nat.le_of_ble_eq_true hl
    simp [hn]; omega
  · intro t cs v ht
    obtain ⟨rfl, _, h3⟩ := look_argEnv vs 0 t cs v ht
    have hlt : t < vs.length := by have := (List.getElem?_eq_some_iff.1 h3).1; omega
    simp only [Nat.sub_zero] at h3
    simp [gval, Array.getElem?_append, hlt]
    simpa [hlt] using h3
theorem post_take {k b i : Nat} {D : List Deferred} {ro : Option Nat} {fn : Func} {R : Ending → World → Prop} (hi : nthA H i = some (obj b (.deferred (some []))))
    (h : Post ⟨k, D, ro⟩ E (Cl w0 fp (setA H i (obj b (.deferred none)))) (bodyPostM (Fw none) 0 P fn R) .ret) : Post ⟨k, mark b :: D, ro⟩ E (Cl w0 fp H) (bodyPostM (Fw none) 0 P fn R) .ret := fun a w ha hw => by
  have h1 := h { a with defers := D } _ ⟨rfl, ha.size, ha.has⟩ (cl_putObj _ hi hw)
  show LeavesInM (Fw none) 0 P fn a.tmps R a.defers .returning w
  rw [ha.defers]
  exact ⟨by simp, .inl ⟨b, _, rfl, run_takeDeferred (cl_obj_at hi hw), h1⟩⟩
theorem post_retM {k : Nat} {ro : Option Nat} {fn : Func} {R : Ending → World → Prop} (h : Post ⟨k, [], ro⟩ E C (bodyPost P fn R) .ret) : Post ⟨k, [], ro⟩ E C (bodyPostM (Fw none) 0 P fn R) .ret := fun a w ha hw => by
  obtain ⟨h1, v, h2, h3⟩ := h a w ha hw
  show LeavesInM (Fw none) 0 P fn a.tmps R a.defers .returning w
  rw [h1]
  exact ⟨v, h2, h3⟩
end
end Go.Sx
