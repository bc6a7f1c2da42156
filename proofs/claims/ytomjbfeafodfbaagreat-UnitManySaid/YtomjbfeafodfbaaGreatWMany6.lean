import Derived.Test.YtomjbfeafodfbaaGreatWMany5
import Derived.Recover
import Derived.WalkSmall

/- Calls that may panic, deferred calls, recover. Own layer, no program text. -/
set_option autoImplicit false
set_option linter.unusedSimpArgs false
set_option linter.unusedVariables false
namespace Go.Sx
section
variable {P : Program} {ops : Array Oper} {C : World → Prop} {n : Fr} {E : Env} {Q : Exit → Act → World → Prop} {K : Act → Prop}
/-- The chain of one panic that nobody has taken up. -/
abbrev pan1 (v : Value) : List PanicEntry := [{ v := v, recovered := false }]
/-- A call that hands back a value, or panics. -/
def OpP (P : Program) (n : Fr) (E : Env) (C : World → Prop) (o : Oper) (R RP : Value → World → Prop) : Prop :=
  ∀ a w, Sat n E a → C w → ∃ f args, (execOp a.eval o).run P w = .ok (.enter f args) w ∧ Calls P f args w fun e w' => (∃ v, e = .returned v ∧ R v w') ∨ (∃ v, e = .panicked (pan1 v) ∧ RP v w')
theorem OpP.wp {o : Oper} {a : Act} {w : World} {R RP : Value → World → Prop} {K : Act → World → Prop} (h : OpP P n E C o R RP) (ha : Sat n E a) (hw : C w) (hK : ∀ v w', R v w' → K (a.put o.dst v) w')
    (hP : ∀ v w', RP v w' → Q (.panic (pan1 v)) a w') : o.wp P a w K Q := by
  obtain ⟨f, args, hr, hc⟩ := h a w ha hw
  unfold Oper.wp
  rw [hr]
  refine hc.mono ?_
  rintro e w' (⟨v, rfl, hR⟩ | ⟨v, rfl, hR⟩)
  · exact hK v w' hR
  · exact hP v w' hR
theorem OpP.noDefer {o : Oper} {a : Act} {w : World} {R RP : Value → World → Prop} (h : OpP P n E C o R RP) (ha : Sat n E a) (hw : C w) (c : Call) : o.op ≠ .defer c := by
  intro ho
  have hx : execOp a.eval o = (do pure (Next.defer (← resolve a.eval c o.type))) := by unfold execOp; rw [ho]
  obtain ⟨f, args, hr, _⟩ := h a w ha hw
  rw [hx, Sem.run_bind] at hr
  cases hc : (resolve a.eval c o.type).run P w <;> rw [hc] at hr <;> simp [Result.andThen] at hr
theorem OpP.wpIn {o : Oper} {a : Act} {w : World} {R RP : Value → World → Prop} {K : Act → World → Prop} {r : Option Nat} (h : OpP P n E C o R RP) (ha : Sat n E a) (hw : C w) (hK : ∀ v w', R v w' → K (a.put o.dst v) w')
    (hP : ∀ v w', RP v w' → Q (.panic (pan1 v)) a w') : o.wpIn (Fw r) 0 P a w K Q := by
  refine ⟨fun _ _ => trivial, ?_⟩
  rw [Oper.semAt_eq _ _ _ (h.noDefer ha hw)]
  obtain ⟨f, args, hr, hc⟩ := h a w ha hw
  rw [hr]
  refine ⟨fun h => by simp at h, CallsIn.mono (F := Fw r) (callsIn_wide (n := 0).2 hc) ?_⟩
  rintro e w' (⟨v, rfl, hR⟩ | ⟨v, rfl, hR⟩)
  · exact hK v w' hR
  · exact hP v w' hR
theorem sw_pan {o : Oper} {rest : List Oper} {d : Nat} {R RP : Value → World → Prop} (hg : o.guard = none) (hd : o.dst = some d) (hn : Nat.ble (d + 1) n.sz = true)
    (hop : OpP P n E C o R RP) (hP : ∀ v, Post n E (RP v) Q (.panic (pan1 v))) (h : ∀ v, SW P ops Q rest n ((d, [], v) :: E) (R v)) : SW P ops Q (o :: rest) n E C := by
  intro a w ha hCw
  refine wpListIn_plain hg fun K hK => ?_
  refine hop.wpIn ha hCw (fun v w' hR => hK _ _ ?_) (fun v w' hR => hP v a w' ha hR)
  have := h v _ w' (ha.put (cs := []) (v := v) (Nat.le_of_ble_eq_true hn)) hR
  rw [hd]; exact this
theorem aw_pan {S : World → Prop} {m : List Nat} {f : Nat} {listed : Array Bool} (i : Nat) {o : Oper} {d : Nat} {R RP : Value → World → Prop} (hr : Region.ready .any ops listed = [i]) (hi : ops[i]? = some o) (hg : o.guard = none) (hd : o.dst = some d) (hn : Nat.ble (d + 1) n.sz = true)
    (hop : OpP P n E C o R RP) (hS : m.contains i = false → ∀ v w, R v w → S w) (hP : ∀ v, Post n E (RP v) Q (.panic (pan1 v))) (h : ∀ v, AW P ops Q S m f (listed.setIfInBounds i true) n ((d, [], v) :: E) (R v)) : AW P ops Q S m (f + 1) listed n E C := by
  intro a w ha hw
  refine ⟨fun h0 => (by rw [hr] at h0; cases h0), fun j hj => ?_⟩
  rw [hr] at hj
  obtain rfl := List.mem_singleton.1 hj
  unfold wpOp
  simp only [hi]
  rw [if_pos (by simp [Region.wanted, hg])]
  refine .inl (hop.wp ha hw (fun v w' hR => ⟨fun him _ => hS him v w' hR, ?_⟩) (fun v w' hR => hP v a w' ha hR))
  have := h v _ w' (ha.put (cs := []) (v := v) (Nat.le_of_ble_eq_true hn)) hR
  rw [hd]; exact this
/-- panic of an interface value. -/
theorem sw_panic {o : Oper} {rest : List Oper} {x : Operand} {cx : List Bool} {t : TypeId} {v : Value} (hg : o.guard = none) (ho : o.op = .panic x) (hx : evl E x = some (cx, .iface t v)) [hs : Sub cx []]
    (hP : Post n E C Q (.panic (pan1 (.iface t v)))) : SW P ops Q (o :: rest) n E C := by
  intro a w ha hCw
  refine wpListIn_plain hg fun K hK => ?_
  refine ⟨fun _ _ => trivial, ?_⟩
  rw [Oper.semAt_eq _ _ _ (fun c hc => by rw [ho] at hc; cases hc)]
  have hr : (execOp a.eval o).run P w = .halt (.panic (.iface t v)) w := by
    unfold execOp
    simp only [ho, ha.eval hx hs AllT.nil, Sem.run_bind, run_panic_iface, Result.andThen]
  rw [hr]
  exact hP a w ha hCw
/-- A call by contract that may panic. -/
theorem p_callH {w0 : World} {fp : List Nat} {H : List Asn} {α β : Type} {vf : α → Value} {p : α → Prop} {A F : List Asn} {B : α → List Asn} {vp : β → Value} {pp : β → Prop} {BP : β → List Asn} {f : FuncId} {o : Oper} {l : List Operand} {ts : Array TypeId} {vs : List Value}
    (hf : CanCall P f) (ho : o.op = .call { callee := .value (.func f), args := l.toArray, argTypes := ts }) (hv : Evs E [] l vs) (hp : H.Perm (A ++ F))
    (h : ∀ w bs, Sep A w bs → bs.Nodup → (∀ b ∈ bs, b < w.heap.size) → (∀ R, Stb w0 fp R → Stb w bs R) → (∀ G ∈ F, ∃ b2, Stb w bs fun w' => G.holds w' b2) →
      Calls P f vs.toArray w fun e w' => (∃ x, e = .returned (vf x) ∧ p x ∧ Cl w bs (B x) w') ∨ (∃ y, e = .panicked (pan1 (vp y)) ∧ pp y ∧ Cl w bs (BP y) w')) :
    OpP P n E (Cl w0 fp H) o (fun v w' => ∃ x, v = vf x ∧ p x ∧ Cl w0 fp (B x ++ F) w') (fun v w' => ∃ y, v = vp y ∧ pp y ∧ Cl w0 fp (BP y ++ F) w') := fun a w ha hw => by
  obtain ⟨bs, h1, h2, h3, h4, h5, h6⟩ := (hw.perm hp).split
  refine ⟨f, vs.toArray, ?_, (h w bs h1 h2 h3 h4 h5).mono fun e w' hq => ?_⟩
  · unfold execOp; simp only [ho]
    simp only [resolve, Deferred.ofValue, Act.eval, invoke, List.map_toArray, hv.eval ha AllT.nil, Sem.run_bind, Sem.run_pure, Result.andThen_ok]
    simp [hf.run]
  · rcases hq with ⟨x, he, hpx, hc⟩ | ⟨y, he, hpy, hc⟩
    · exact .inl ⟨_, he, x, rfl, hpx, h6 _ _ hc⟩
    · exact .inr ⟨_, he, y, rfl, hpy, h6 _ _ hc⟩
theorem post_ex {e : Exit} {α : Type} {C' : α → World → Prop} (h : ∀ x, Post n E (C' x) Q e) : Post n E (fun w => ∃ x, C' x w) Q e := fun a w ha ⟨x, hx⟩ => h x a w ha hx
theorem post_imp {e : Exit} {p : Prop} {C' : World → Prop} (h : p → Post n E C' Q e) : Post n E (fun w => p ∧ C' w) Q e := fun a w ha hw => h hw.1 a w ha hw.2
theorem post_then_p {K : Act → World → Prop} {c : List PanicEntry} (h : Post n E C Q (.panic c)) : Post n E C (Exit.then K Q) (.panic c) := h
theorem post_blk_p {i : Nat} {c : List PanicEntry} (h : Post n E C Q (.panic c)) : Post n E C (Exit.inBlock i Q) (.panic c) := h
theorem post_panic {k : Nat} {ro : Option Nat} {fn : Func} {R : Ending → World → Prop} {c : List PanicEntry} (hR : ∀ w, C w → R (.panicked c) w) : Post ⟨k, [], ro⟩ E C (bodyPost P fn R) (.panic c) := fun a w ha hw => ⟨ha.defers, hR w hw⟩
end
end Go.Sx
namespace Go.Sx
section
variable {P : Program} {n : Fr} {E : Env} {C : World → Prop} {cs : List Bool} {o : Oper}
theorem q_neqHeld {t t' u : TypeId} {x : Operand} {cx : List Bool} {v : Value} (ho : o.op = .binOp .neq t x (.const .nilIface) t') (hx : evl E x = some (cx, .iface u v)) [sx : Sub cx cs] (ht : P.underlying t = some (.interface (P.methodsAt t))) : OpR P n E C cs o (.bool true) :=
  fun a ha hc => bin_run (C := C) (y := .const .nilIface) ho hx rfl sx inferInstance (by cases x <;> rfl) (fun w => run_neq_held_nil w t u v ht) a ha hc
theorem q_assertOk {t xt : TypeId} {d : TypeDesc} {x : Operand} {cx : List Bool} {v : Value} (ho : o.op = .typeAssert x xt t true) (hx : evl E x = some (cx, .iface t v)) [hs : Sub cx cs] (hd : P.underlying t = some d) (hi : (match d with | .interface _ => false | _ => true) = true) : OpR P n E C cs o (.tuple #[v, .bool true]) :=
  .of_run fun a ha hc w _ => by
    unfold execOp; simp only [ho]; rw [ha.eval hx hs hc]
    simp only [Instr.typeAssert, Sem.run_bind, run_underlying hd, Result.andThen_ok]
    cases d <;> first | (simp [Result.andThen]; done) | cases hi
theorem look_mem : ∀ {E : Env} {t : Nat} {cs : List Bool} {v : Value}, look E t = some (cs, v) → (t, cs, v) ∈ E
  | [], _, _, _, h => by simp [look] at h
  | (k, cv) :: E, t, cs, v, h => by
    simp only [look] at h
    cases hb : Nat.beq k t with
    | true =>
      rw [hb] at h
      have : k = t := Nat.eq_of_beq_eq_true hb
      simp only [Option.some.injEq] at h
      subst h this
      exact List.mem_cons_self
    | false => rw [hb] at h; exact List.mem_cons_of_mem _ (look_mem h)
theorem sat_of {n : Fr} {E : Env} {a : Act} (h1 : a.defers = n.D) (h2 : a.tmps.size = n.sz) (h3 : ∀ p ∈ E, a.tmps[p.1]? = some (gval p.2.1 p.2.2)) : Sat n E a := ⟨h1, h2, fun t cs v h => h3 _ (look_mem h)⟩
/-- A part of a deferred function that does not recover. -/
theorem wpS_of_cw {c : Code} {Q : Exit → Act → List Frame → World → Prop} {a : Act} {cs : List Frame} {w : World} {k : Nat} (ha : Sat ⟨k, [], none⟩ E a) (hw : C w) (h : CW P c (fun e a' w' => Q e a' cs w') ⟨k, [], none⟩ E C) : c.wpS P Q a cs w :=
  wpS_of_wp (wpIn_wide.1 (h a w ha hw))
theorem post_endS {k : Nat} {fn : Func} {c₀ c₁ : Frame} {cs : List Frame} {R : Ending → FrameMode → World → Prop} {u : FrameMode} (hr : fn.results = #[]) (hc : c₁ = { c₀ with mode := u }) (hR : ∀ w, C w → R (.returned (.tuple #[])) u w) : Post ⟨k, [], none⟩ E C (fun e a w => bodyPostS P fn c₀ cs R e a (c₁ :: cs) w) .normal := fun a w ha hw =>
  ⟨ha.defers, u, by rw [hc], _, by simp [results, hr], hR w hw⟩
theorem sw_defer {ops : Array Oper} {Q : Exit → Act → World → Prop} {rest : List Oper} {k : Nat} {D : List Deferred} {x : Operand} {cx : List Bool} {f : FuncId} {cap : Array Value} (hg : o.guard = none) (hd : o.dst = none) (ho : o.op = .defer { callee := .value x, args := #[], argTypes := #[] }) (hx : evl E x = some (cx, .func (.func f) #[] cap)) [hs : Sub cx []]
    (h : SW P ops Q rest ⟨k, { target := .fn (.func f) cap, args := #[] } :: D, none⟩ E C) : SW P ops Q (o :: rest) ⟨k, D, none⟩ E C := by
  intro a w ha hCw
  refine wpListIn_plain hg fun K hK => ?_
  refine ⟨fun _ _ => trivial, ?_⟩
  have hr : (o.semAt (Fw none).round a.eval).run P w = .ok (.defer { target := .fn (.func f) cap, args := #[] }) w := by
    show (execOp a.eval o).run P w = _
    unfold execOp; simp only [ho]
    simp [resolve, Deferred.ofValue, ha.eval hx hs AllT.nil]
  rw [show (Fw (Fr.ro ⟨k, D, none⟩)).round = (Fw none).round from rfl, hr]
  refine hK _ _ (h _ w ?_ hCw)
  rw [hd]
  exact ⟨by show _ :: a.defers = _; rw [ha.defers], ha.size, ha.has⟩
theorem calls_cwD {k : Nat} {f : FuncId} {fn : Func} {c : Code} {vs : List Value} {w : World} {R : Ending → World → Prop} (hf : P.funcs[f]? = some fn) (hb : fn.body = some c) (hn : fn.ntmps = k)
    (hl : Nat.ble vs.length k = true) (hw : C w) (h : CW P c (bodyPostD P fn R) ⟨k, [], none⟩ (argEnv 0 vs) C) : Calls P f vs.toArray w R := by
  refine calls_of_wp_defers hf hb (wpIn_wide.1 (h _ w ⟨rfl, ?_, ?_⟩ hw))
  · have := Nat.le_of_ble_eq_true hl
    simp [hn]; omega
  · intro t cs v ht
    obtain ⟨rfl, _, h3⟩ := look_argEnv vs 0 t cs v ht
    have hlt : t < vs.length := by have := (List.getElem?_eq_some_iff.1 h3).1; omega
    simp only [Nat.sub_zero] at h3
    simp [gval, Array.getElem?_append, hlt]
    simpa [hlt] using h3
/-- The way out through one deferred call, with two results. -/
theorem leave1 {k : Nat} {fn : Func} {R : Ending → World → Prop} {f : FuncId} {cap : Array Value} {u u2 : FrameMode} {C2 : World → Prop} {r s : ResultVar} {x y : Value} (hf : CanCall P f) (hu : u ≠ .run) (h : ∀ w, C w → CallsD P f cap u w (fun e u' w' => e = .returned (.tuple #[]) ∧ u' = u2 ∧ C2 w')) (hset : settle u2 = .returning)
    (hr : fn.results = #[r, s]) (h1 : ResOk P E C2 ⟨k, [{ target := .fn (.func f) cap, args := #[] }], none⟩ r x) (h2 : ResOk P E C2 ⟨k, [{ target := .fn (.func f) cap, args := #[] }], none⟩ s y) (hR : ∀ w, C2 w → R (.returned (.tuple #[x, y])) w) :
    ∀ a w, Sat ⟨k, [{ target := .fn (.func f) cap, args := #[] }], none⟩ E a → C w → Leaves P fn a.tmps R a.defers u w := fun a w ha hw => by
  rw [ha.defers]
  refine leaves_cons (f := f) (args := cap) hu ?_ ((h w hw).mono ?_)
  · simp [invoke, hf.run]
  · rintro e u' w' ⟨rfl, rfl, hw'⟩
    show Leaves P fn a.tmps R [] (settle u') w'
    rw [hset]
    refine ⟨_, ?_, hR w' hw'⟩
    simp [results_resS, hr, h1 a w' ha hw', h2 a w' ha hw']
theorem q_neqNil {t t' : TypeId} {x : Operand} {cx : List Bool} (ho : o.op = .binOp .neq t x (.const .nilIface) t') (hx : evl E x = some (cx, .nilIface)) [sx : Sub cx cs] (ht : P.underlying t = some (.interface (P.methodsAt t))) : OpR P n E C cs o (.bool false) :=
  fun a ha hc => bin_run (C := C) (y := .const .nilIface) ho hx rfl sx inferInstance (eqGuard_nil_constR ..) (fun w => by simp only [binOp]; simp [run_equal_nil_nil w t ht]) a ha hc
end
end Go.Sx

set_option autoImplicit false
set_option maxRecDepth 100000
namespace Go.Proofs.YtomjbfeafodfbaaGreat
open Go.Sx
open Enc (enc val)
theorem cloneInt_spec (s : SlV) (l : List Int) (hlen : l.length ≤ 1000000) (w : World) (hs : Stb w [] (RdL s.v l)) : Calls Tryz.prog 142 #[s.v] w fun e w' => ∃ r : SlV, e = .returned r.v ∧ True ∧ Cl w [] [ownL 3 r.v l] w' := by
  have hL := rd_len hs.here
  refine calls_cw (vs := [_]) Tryz.func142 rfl Tryz.ntmps142 rfl (Cl.start0 w) ?_
  have hnil : s.addr = none → l = [] := fun h0 => rd_nil hs.here h0
  refine cw_seq (cw_region (sr rfl rfl rfl ((q_assign rfl rfl)) (sw_nil (post_then (cw_seq (cw_seq (cw_region (sr rfl rfl rfl ((q_move rfl rfl)) (sr rfl rfl rfl ((q_eqlNil rfl rfl)) (sw_nil (post_then ?_)))))))))))
  refine cw_cond rfl (fun h => ?_) (fun h => ?_)
  · skip
    rw [hnil (by simpa using h)]
    refine cw_seq (cw_region (sr rfl rfl rfl ((q_assign rfl rfl)) (sw_nil (post_then (cw_ret (post_then_r (post_ret1 rfl (resOk_tmp rfl) ?_)))))))
    exact fun w' hw => ⟨⟨none, 0, 0⟩, rfl, trivial, hw.addNil (α := Int) 3⟩
  · skip
    refine cw_skip (post_then (cw_seq (cw_region ?_)))
    refine sw_x rfl rfl rfl (e_buildL (α := Int) (l := []) (ps := []) rfl .nil rfl rfl rfl rfl) (fun s5 => ?_)
    refine sr rfl rfl rfl ((q_move rfl rfl)) ?_
    refine sw_x rfl rfl rfl (e_append (i := 0) rfl (.cons rfl inferInstance (.cons rfl inferInstance (.nil))) rfl rfl (by exact fun w hw => Stb.cl (by assumption) hw) (by simp only [List.length_set, List.length_append, List.length_cons, List.length_nil, List.length_replicate, List.length_take, List.length_drop, List.length_map]; omega) rfl) (fun s7 => ?_)
    refine sr rfl rfl rfl ((q_assign rfl rfl)) (sw_nil (post_then (cw_ret (post_ret1 rfl (resOk_tmp rfl) ?_))))
    exact fun w' hw => ⟨_, rfl, trivial, hw⟩
structure LatRd (c : CV) (sl : SlV) (vl : List SlV) (w : World) : Prop where
  l : RdL sl.v vl w
  n : vl.length = c.ms.length + 1
  r : ∀ i, i ≤ c.ms.length → RdL (nth vl i).v (ws c.n (unFrom c.ms i)) w
theorem or_lt32 {a b : Nat} (ha : a < 4294967296) (hb : b < 4294967296) : a ||| b < 4294967296 := Nat.or_lt_two_pow (n := 32) ha hb
def SrOut (c : CV) (left : Nat) (ch : List Int) (g fr : Nat) (bs : List Nat) (sd : SlV) (w : World) (e : Ending) (w' : World) : Prop :=
  match srch c.n c.ms left ch g fr with
  | none => e = .returned (.tuple #[]) ∧ Cl w bs [ownL 3 sd.v ch] w'
  | some r => ∃ y : SlV, e = .panicked (pan1 (.iface 165 (.agg #[y.v]))) ∧ Cl w bs [ownL 3 y.v r] w'
theorem search_spec (c : CV) (ok : c.Ok) (sl : SlV) (vl : List SlV) : ∀ (left : Nat) (sd sg : SlV) (ch : List Int) (g fr : Nat), ch.length + left ≤ 100000 → fr ≤ c.ms.length → g < 4294967296 → ∀ (w : World) (bs : List Nat), Sep [ownL 3 sd.v ch] w bs → bs.Nodup → (∀ b ∈ bs, b < w.heap.size) → Stb w bs c.Rd → Stb w bs (LatRd c sl vl) → Stb w bs (RdL sg.v (ws c.n g)) →
    Calls Tryz.prog 131 #[.pointer (some ⟨c.bc, 0, none⟩), sl.v, sd.v, sg.v, .int .i64 fr, .int .i64 left] w (SrOut c left ch g fr bs sd w) := by
  intro left
  induction left with
  | zero =>
    intro sd sg ch g fr hlen hfr hg w bs k1 k2 k3 hR hLt hsg
    have hbk := stb_map hR fun _ h => h.bk
    have hss := stb_map hR fun _ h => h.ss
    have hsa := stb_map hR fun _ h => h.sa
    have hll := hR.here.ll
    have hfu := ok.full
    have h0 : c.n = 0 → fullN c.n = 0 := fun e => by rw [e]; rfl
    refine calls_cw (vs := [_, _, _, _, _, _]) Tryz.func131 rfl Tryz.ntmps131 rfl (Cl.start k1 k2 k3) (cw_seq (cw_seq (cw_region (sr rfl rfl rfl ((q_move rfl rfl)) (sr rfl rfl rfl ((q_nilCheck rfl rfl)) (sr rfl rfl rfl ((q_fieldAddr rfl rfl)) ?_))))))
    refine sr rfl rfl rfl ((q_loadS rfl rfl (fun w hw => Stb.cl (by assumption) hw) rfl)) ?_
    refine sr rfl rfl rfl ((q_move rfl rfl)) ?_
    refine sw_step rfl rfl rfl (q_call (CanCall.mk Tryz.call76) rfl (.cons rfl inferInstance (.cons rfl inferInstance (.nil))) (fun _ w hw => callq hw (without_spec _ _ c.n _ _ hfu hg h0 w (by exact stb_arg hw (by assumption)) (by exact stb_arg hw (by assumption))))) ?_
    refine sr rfl rfl rfl ((q_eql rfl rfl rfl)) (sw_nil (post_then ?_))
    refine cw_cond rfl (fun h => ?_) (fun h => ?_)
    · skip
      have hc : cov c.n g = true := by simpa [cov] using h
      refine cw_region (sr rfl rfl rfl ((q_move rfl rfl)) (sr rfl rfl rfl ((q_build rfl (.cons rfl inferInstance (.nil)) rfl)) (sr rfl rfl rfl ((q_iface rfl rfl Tryz.underlying165 rfl)) (sw_panic rfl rfl rfl ?_))))
      repeat (first | refine post_then_p ?_ | refine post_blk_p ?_)
      refine post_panic fun w' hw => ?_
      have hs : srch c.n c.ms 0 ch g fr = some ch := by rw [srch, if_pos hc]
      unfold SrOut
      rw [hs]
      exact ⟨sd, rfl, hw⟩
    · skip
      have hc : ¬ cov c.n g = true := by simpa [cov] using h
      refine cw_skip (post_then (cw_seq (cw_seq (cw_region (sr rfl rfl rfl ((q_move rfl rfl)) (sr rfl rfl rfl ((q_eql rfl rfl rfl)) (sw_nil (post_then ?_))))))))
      refine cw_cond rfl (fun h2 => ?_) (fun h2 => ?_)
      · skip
        refine cw_ret (post_then_r (post_ret0 rfl (fun w' hw => ?_)))
        have hs : srch c.n c.ms 0 ch g fr = none := by rw [srch, if_neg hc]
        unfold SrOut
        rw [hs]
        exact ⟨rfl, hw⟩
      · skip
        simp at h2
  | succ left ih =>
    intro sd sg ch g fr hlen hfr hg w bs k1 k2 k3 hR hLt hsg
    have hbk := stb_map hR fun _ h => h.bk
    have hss := stb_map hR fun _ h => h.ss
    have hsa := stb_map hR fun _ h => h.sa
    have hvl := stb_map hLt fun _ h => h.l
    have hvn := hLt.here.n
    have hll := hR.here.ll
    have hfu := ok.full
    have hl := ok.l
    have h0 : c.n = 0 → fullN c.n = 0 := fun e => by rw [e]; rfl
    refine calls_cw (vs := [_, _, _, _, _, _]) Tryz.func131 rfl Tryz.ntmps131 rfl (Cl.start k1 k2 k3) (cw_seq (cw_seq (cw_region (sr rfl rfl rfl ((q_move rfl rfl)) (sr rfl rfl rfl ((q_nilCheck rfl rfl)) (sr rfl rfl rfl ((q_fieldAddr rfl rfl)) ?_))))))
    refine sr rfl rfl rfl ((q_loadS rfl rfl (fun w hw => Stb.cl (by assumption) hw) rfl)) ?_
    refine sr rfl rfl rfl ((q_move rfl rfl)) ?_
    refine sw_step rfl rfl rfl (q_call (CanCall.mk Tryz.call76) rfl (.cons rfl inferInstance (.cons rfl inferInstance (.nil))) (fun _ w hw => callq hw (without_spec _ _ c.n _ _ hfu hg h0 w (by exact stb_arg hw (by assumption)) (by exact stb_arg hw (by assumption))))) ?_
    refine sr rfl rfl rfl ((q_eql rfl rfl rfl)) (sw_nil (post_then ?_))
    refine cw_cond rfl (fun h => ?_) (fun h => ?_)
    · skip
      have hc : cov c.n g = true := by simpa [cov] using h
      refine cw_region (sr rfl rfl rfl ((q_move rfl rfl)) (sr rfl rfl rfl ((q_build rfl (.cons rfl inferInstance (.nil)) rfl)) (sr rfl rfl rfl ((q_iface rfl rfl Tryz.underlying165 rfl)) (sw_panic rfl rfl rfl ?_))))
      repeat (first | refine post_then_p ?_ | refine post_blk_p ?_)
      refine post_panic fun w' hw => ?_
      have hs : srch c.n c.ms (left + 1) ch g fr = some ch := by rw [srch, if_pos hc]
      unfold SrOut
      rw [hs]
      exact ⟨sd, rfl, hw⟩
    · skip
      have hc : ¬ cov c.n g = true := by simpa [cov] using h
      clear h
      refine cw_skip (post_then (cw_seq (cw_seq (cw_region (sr rfl rfl rfl ((q_move rfl rfl)) (sr rfl rfl rfl ((q_eql rfl rfl rfl)) (sw_nil (post_then ?_))))))))
      refine cw_cond rfl (fun h2 => ?_) (fun h2 => ?_)
      · skip
        exfalso
        simp only [decide_eq_true_eq] at h2
        omega
      · skip
        clear h2
        refine cw_skip (post_then (cw_seq (cw_region (sr rfl rfl rfl ((q_move rfl rfl)) (sr rfl rfl rfl ((q_assign rfl rfl)) (sw_nil (post_then (cw_block ?_))))))))
        refine cw_loop (S := Nat) (fun i => [(0, [], .pointer (some ⟨c.bc, 0, none⟩)), (1, [], sl.v), (2, [], sd.v), (3, [], sg.v), (5, [], .int .i64 (left + 1 : Nat)), (12, [], .int .i64 i)]) (fun i => Cl w bs [ownL 3 sd.v ch]) (fun i => i ≤ c.ms.length ∧ srch c.n c.ms (left + 1) ch g fr = srI (fun i => srch c.n c.ms left (ch ++ [(i : Int)]) (g ||| nth c.ms i) (i + 1)) (fun i => cov c.n (g ||| unFrom c.ms i)) i (c.ms.length - i)) (fun i => c.ms.length - i) fr ⟨hfr, by rw [srch, if_neg hc]⟩ (by exact .cons rfl (.cons rfl (.cons rfl (.cons rfl (.cons rfl (.cons rfl .nil)))))) (fun _ h => h) ?_
        rintro i ⟨hi, hF⟩
        refine cw_seq (cw_seq (cw_region (sr rfl rfl rfl ((q_move rfl rfl)) (sr rfl rfl rfl ((q_move rfl rfl)) (sr rfl rfl rfl ((q_nilCheck rfl rfl)) (sr rfl rfl rfl ((q_fieldAddr rfl rfl)) ?_))))))
        refine sr rfl rfl rfl ((q_loadS rfl rfl (fun w hw => Stb.cl (by assumption) hw) rfl)) ?_
        refine sr rfl rfl rfl ((q_len rfl (.cons rfl inferInstance (.nil)) (by exact fun w hw => Stb.cl (by assumption) hw))) ?_
        refine sr rfl rfl rfl ((q_lss rfl rfl rfl)) (sw_nil (post_then ?_))
        refine cw_cond rfl (fun h3 => ?_) (fun h3 => ?_)
        · skip
          have hi' : i < c.ms.length := by simp only [decide_eq_true_eq] at h3; omega
          rw [srI_step hi'] at hF
          have hmi := stb_map hR fun _ h => h.mm i hi'
          have hli := stb_map hLt fun _ h => h.r i hi
          have hun := ok.un i (c.ms.length - i)
          have hgu : g ||| unFrom c.ms i < 4294967296 := or_lt32 hg hun
          have hgm : g ||| nth c.ms i < 4294967296 := or_lt32 hg (ok.lt i)
          refine cw_skip (post_then (cw_seq (cw_block (cw_seq (cw_seq (cw_region_a (Cl w bs [ownL 3 sd.v ch]) [] mixed_Tryz ?_))))))
          refine aw_pure 0 rfl (by kernel_rfl) (by kernel_rfl) (by kernel_rfl) (by kernel_rfl) (by kernel_rfl) rfl rfl rfl (q_move rfl rfl) ?_
          refine aw_pure 1 rfl (by kernel_rfl) (by kernel_rfl) (by kernel_rfl) (by kernel_rfl) (by kernel_rfl) rfl rfl rfl (q_nilCheck rfl rfl) ?_
          refine aw_take 2 (fun w h => Cl.sel (by exact .take 0 rfl (.nil _)) w h) rfl (by kernel_rfl) (by kernel_rfl) (by kernel_rfl) (by kernel_rfl) (by kernel_rfl) (by kernel_rfl) rfl rfl rfl (q_fieldAddr rfl rfl) ?_
          refine aw_take 3 (fun w h => Cl.sel (by exact .take 0 rfl (.nil _)) w h) rfl (by kernel_rfl) (by kernel_rfl) (by kernel_rfl) (by kernel_rfl) (by kernel_rfl) (by kernel_rfl) rfl rfl rfl (q_loadS rfl rfl (fun w hw => Stb.cl (by assumption) hw) rfl) ?_
          refine aw_pure 4 rfl (by kernel_rfl) (by kernel_rfl) (by kernel_rfl) (by kernel_rfl) (by kernel_rfl) rfl rfl rfl (q_move rfl rfl) ?_
          refine aw_pure 5 rfl (by kernel_rfl) (by kernel_rfl) (by kernel_rfl) (by kernel_rfl) (by kernel_rfl) rfl rfl rfl (q_move rfl rfl) ?_
          refine aw_pure 6 rfl (by kernel_rfl) (by kernel_rfl) (by kernel_rfl) (by kernel_rfl) (by kernel_rfl) rfl rfl rfl (q_move rfl rfl) ?_
          refine aw_take 7 (fun w h => Cl.sel (by exact .take 0 rfl (.nil _)) w h) rfl (by kernel_rfl) (by kernel_rfl) (by kernel_rfl) (by kernel_rfl) (by kernel_rfl) (by kernel_rfl) rfl rfl rfl (q_indexN rfl rfl rfl (by exact fun w hw => Stb.cl (by assumption) hw) (by intro hc; omega)) ?_
          refine aw_take 8 (fun w h => Cl.sel (by exact .take 0 rfl (.nil _)) w h) rfl (by kernel_rfl) (by kernel_rfl) (by kernel_rfl) (by kernel_rfl) (by kernel_rfl) (by kernel_rfl) rfl rfl rfl (q_loadEl rfl rfl rfl (by exact fun w hw => Stb.cl (by assumption) hw) (by intro hc; omega)) ?_
          refine aw_x 9 (by kernel_rfl) rfl rfl rfl rfl (e_call (CanCall.mk Tryz.call120) rfl (.cons rfl inferInstance (.cons rfl inferInstance (.nil))) (fun w hw => join_spec _ _ _ _ _ hg hun w (by exact stb_arg hw (by assumption)) (by exact stb_arg hw (by assumption)))) (by intro hb; exact fun _ w h => (fun w h => Cl.sel (by exact .take 1 rfl (.nil _)) w h) w h.2) (fun x44 => ?_)
          refine aw_imp (fun hx44 => ?_)
          refine aw_q 10 (by kernel_rfl) rfl rfl rfl rfl (q_call (CanCall.mk Tryz.call76) rfl (.cons rfl inferInstance (.cons rfl inferInstance (.nil))) (fun _ w hw => callq hw (without_spec _ _ c.n _ _ hfu hgu h0 w (by exact stb_arg hw (by assumption)) (by exact stb_own hw (by exact .head _))))) (by intro hb; exact (fun w h => Cl.sel (by exact .take 1 rfl (.nil _)) w h)) ?_
          refine aw_pure 11 rfl (by kernel_rfl) (by kernel_rfl) (by kernel_rfl) (by kernel_rfl) (by kernel_rfl) rfl rfl rfl (q_gtr rfl rfl rfl) ?_
          refine aw_end (by kernel_rfl) ?_
          refine post_then ?_
          refine cw_cond rfl (fun h4 => ?_) (fun h4 => ?_)
          · skip
            have hk : ¬ cov c.n (g ||| unFrom c.ms i) = true := by
              simp only [decide_eq_true_eq] at h4
              simp only [cov, decide_eq_true_eq]
              omega
            rw [if_neg hk] at hF
            refine cw_ret (post_then_r (post_blk_r (post_then_r (post_then_r (post_blk_r (post_ret0 rfl (fun w' hw => ?_)))))))
            unfold SrOut
            rw [hF]
            exact ⟨rfl, (fun w h => Cl.sel (by exact .take 1 rfl (.nil _)) w h) w' hw⟩
          · skip
            have hk : cov c.n (g ||| unFrom c.ms i) = true := by
              simp only [decide_eq_false_iff_not] at h4
              simp only [cov, decide_eq_true_eq]
              omega
            rw [if_pos hk] at hF
            clear h4
            refine cw_c (C' := Cl w bs [ownL 3 sd.v ch]) (fun w' hw => (fun w h => Cl.sel (by exact .take 1 rfl (.nil _)) w h) w' hw) ?_
            refine cw_skip (post_then (cw_region_a (Cl w bs [ownL 3 sd.v ch]) [] mixed_Tryz ?_))
            refine aw_pure 0 rfl (by kernel_rfl) (by kernel_rfl) (by kernel_rfl) (by kernel_rfl) (by kernel_rfl) rfl rfl rfl (q_move rfl rfl) ?_
            refine aw_pure 1 rfl (by kernel_rfl) (by kernel_rfl) (by kernel_rfl) (by kernel_rfl) (by kernel_rfl) rfl rfl rfl (q_move rfl rfl) ?_
            refine aw_pure 2 rfl (by kernel_rfl) (by kernel_rfl) (by kernel_rfl) (by kernel_rfl) (by kernel_rfl) rfl rfl rfl (q_move rfl rfl) ?_
            refine aw_pure 4 rfl (by kernel_rfl) (by kernel_rfl) (by kernel_rfl) (by kernel_rfl) (by kernel_rfl) rfl rfl rfl (q_move rfl rfl) ?_
            refine aw_pure 7 rfl (by kernel_rfl) (by kernel_rfl) (by kernel_rfl) (by kernel_rfl) (by kernel_rfl) rfl rfl rfl (q_move rfl rfl) ?_
            refine aw_pure 8 rfl (by kernel_rfl) (by kernel_rfl) (by kernel_rfl) (by kernel_rfl) (by kernel_rfl) rfl rfl rfl (q_move rfl rfl) ?_
            refine aw_pure 9 rfl (by kernel_rfl) (by kernel_rfl) (by kernel_rfl) (by kernel_rfl) (by kernel_rfl) rfl rfl rfl (q_nilCheck rfl rfl) ?_
            refine aw_take 10 (fun w h => Cl.sel (by exact .take 0 rfl (.nil _)) w h) rfl (by kernel_rfl) (by kernel_rfl) (by kernel_rfl) (by kernel_rfl) (by kernel_rfl) (by kernel_rfl) rfl rfl rfl (q_fieldAddr rfl rfl) ?_
            refine aw_take 11 (fun w h => Cl.sel (by exact .take 0 rfl (.nil _)) w h) rfl (by kernel_rfl) (by kernel_rfl) (by kernel_rfl) (by kernel_rfl) (by kernel_rfl) (by kernel_rfl) rfl rfl rfl (q_loadS rfl rfl (fun w hw => Stb.cl (by assumption) hw) rfl) ?_
            refine aw_pure 12 rfl (by kernel_rfl) (by kernel_rfl) (by kernel_rfl) (by kernel_rfl) (by kernel_rfl) rfl rfl rfl (q_move rfl rfl) ?_
            refine aw_take 13 (fun w h => Cl.sel (by exact .take 0 rfl (.nil _)) w h) rfl (by kernel_rfl) (by kernel_rfl) (by kernel_rfl) (by kernel_rfl) (by kernel_rfl) (by kernel_rfl) rfl rfl rfl (q_indexN rfl rfl rfl (by exact fun w hw => Stb.cl (by assumption) hw) (by intro hc; omega)) ?_
            refine aw_take 14 (fun w h => Cl.sel (by exact .take 0 rfl (.nil _)) w h) rfl (by kernel_rfl) (by kernel_rfl) (by kernel_rfl) (by kernel_rfl) (by kernel_rfl) (by kernel_rfl) rfl rfl rfl (q_loadEl rfl rfl rfl (by exact fun w hw => Stb.cl (by assumption) hw) (by intro hc; omega)) ?_
            refine aw_pure 16 rfl (by kernel_rfl) (by kernel_rfl) (by kernel_rfl) (by kernel_rfl) (by kernel_rfl) rfl rfl rfl (q_move rfl rfl) ?_
            refine aw_pure 17 rfl (by kernel_rfl) (by kernel_rfl) (by kernel_rfl) (by kernel_rfl) (by kernel_rfl) rfl rfl rfl (q_add rfl rfl rfl (by intro hc; omega)) ?_
            refine aw_pure 18 rfl (by kernel_rfl) (by kernel_rfl) (by kernel_rfl) (by kernel_rfl) (by kernel_rfl) rfl rfl rfl (q_move rfl rfl) ?_
            refine aw_pure 19 rfl (by kernel_rfl) (by kernel_rfl) (by kernel_rfl) (by kernel_rfl) (by kernel_rfl) rfl rfl rfl (q_sub rfl rfl rfl (by intro hc; omega)) ?_
            refine aw_two 3 5 (by kernel_rfl) ?_ ?_
            · skip
              refine at_x 3 rfl rfl rfl rfl (e_call (CanCall.mk Tryz.call142) rfl (.cons rfl inferInstance (.nil)) (fun w hw => cloneInt_spec sd ch (by omega) w (stb_own (e := 3) hw (.head _)))) (by intro hb; exact fun _ w h => (fun w h => Cl.sel (by exact .take 1 rfl (.nil _)) w h) w h.2) (fun s50 => ?_)
              refine aw_imp fun _ => ?_
              refine aw_x 5 (by kernel_rfl) rfl rfl rfl rfl (e_build1 (α := Int) (x := (i : Int)) rfl rfl rfl rfl) (by intro hb; exact fun _ => (fun w h => Cl.sel (by exact .take 2 rfl (.nil _)) w h)) (fun s52 => ?_)
              refine aw_c (C' := Cl w bs [ownL 3 s50.v ch, ownL 3 s52.v [(i : Int)], ownL 3 sd.v ch]) (fun w' hw => hw.perm (.swap _ _ _)) ?_
              refine aw_x 6 (by kernel_rfl) rfl rfl rfl rfl (e_append (i := 0) rfl (.cons rfl inferInstance (.cons rfl inferInstance (.nil))) rfl rfl (by exact fun w hw => rd_own hw (by exact .tail _ (.head _))) (by simp; omega) rfl) (by intro hb; exact fun _ => (fun w h => Cl.sel (by exact .take 2 rfl (.nil _)) w h)) (fun s53 => ?_)
              refine aw_x 15 (by kernel_rfl) rfl rfl rfl rfl (e_call (CanCall.mk Tryz.call120) rfl (.cons rfl inferInstance (.cons rfl inferInstance (.nil))) (fun w hw => join_spec _ _ _ _ _ hg (ok.lt i) w (by exact stb_arg hw (by assumption)) (by exact stb_arg hw (by assumption)))) (by intro hb; exact fun _ w h => (fun w h => Cl.sel (by exact .take 3 rfl (.nil _)) w h) w h.2) (fun s62 => ?_)
              refine aw_imp fun _ => ?_
              rw [show ((i : Int) + 1) = ((i + 1 : Nat) : Int) by omega, show (((left + 1 : Nat) : Int) - 1) = (left : Int) by omega]
              refine aw_c (C' := Cl w bs [ownL 156 s62.v (ws c.n (g ||| nth c.ms i)), ownL 3 s53.v (ch ++ [(i : Int)]), ownL 3 s52.v [(i : Int)], ownL 3 sd.v ch]) (fun w' hw => hw) ?_
              have hcall := fun (w1 : World) (bs1 : List Nat) (k1 : Sx.Sep [ownL 3 s53.v (ch ++ [(i : Int)])] w1 bs1) (k2 : bs1.Nodup) (k3 : ∀ b ∈ bs1, b < w1.heap.size) (k4 : ∀ R, Stb w bs R → Stb w1 bs1 R) (k5 : ∀ G ∈ [ownL 156 s62.v (ws c.n (g ||| nth c.ms i)), ownL 3 s52.v [(i : Int)], ownL 3 sd.v ch], ∃ b2, Stb w1 bs1 fun w' => G.holds w' b2) => ih s53 s62 (ch ++ [(i : Int)]) (g ||| nth c.ms i) (i + 1) (by simp; omega) hi' hgm w1 bs1 k1 k2 k3 (k4 _ hR) (k4 _ hLt) (lend_own k5 (.head _))
              cases hsub : srch c.n c.ms left (ch ++ [(i : Int)]) (g ||| nth c.ms i) (i + 1) with
              | none =>
                rw [hsub] at hF
                simp only at hF
                refine aw_x 20 (by kernel_rfl) rfl rfl rfl rfl (e_callH (vf := fun _ : Unit => .tuple #[]) (p := fun _ => True) (A := [ownL 3 s53.v (ch ++ [(i : Int)])]) (B := fun _ => [ownL 3 s53.v (ch ++ [(i : Int)])]) (F := [ownL 156 s62.v (ws c.n (g ||| nth c.ms i)), ownL 3 s52.v [(i : Int)], ownL 3 sd.v ch]) (CanCall.mk Tryz.call131) rfl rfl (.cons rfl inferInstance (.cons rfl inferInstance (.cons rfl inferInstance (.cons rfl inferInstance (.cons rfl inferInstance (.cons rfl inferInstance (.nil))))))) (perm_del (i := 1) rfl) (fun w1 bs1 k1 k2 k3 k4 k5 => (hcall w1 bs1 k1 k2 k3 k4 k5).mono fun e w' h => by unfold SrOut at h; rw [hsub] at h; exact ⟨(), h.1, trivial, h.2⟩)) (by intro hb; exact fun _ w h => (fun w h => Cl.sel (by exact .take 3 rfl (.nil _)) w h) w h.2) (fun u => ?_)
                refine aw_imp fun _ => ?_
                refine aw_end (by kernel_rfl) ?_
                refine post_blk (post_then (cw_region (sr rfl rfl rfl ((q_move rfl rfl)) ?_)))
                refine sr rfl rfl rfl ((q_add rfl rfl rfl (by intro hc; omega))) ?_
                refine sr rfl rfl rfl ((q_assign rfl rfl)) (sw_nil ?_)
                exact post_next (i + 1) (by exact .cons rfl (.cons rfl (.cons rfl (.cons rfl (.cons rfl (.cons rfl .nil)))))) (fun w3 hw3 => (fun w h => Cl.sel (by exact .take 3 rfl (.nil _)) w h) w3 hw3) ⟨by omega, hF⟩ (by omega)
              | some r =>
                rw [hsub] at hF
                simp only at hF
                refine aw_pan 20 (by kernel_rfl) rfl rfl rfl rfl (p_callH (α := Empty) (β := SlV) (vf := fun x => nomatch x) (p := fun _ => True) (B := fun x => nomatch x) (vp := fun y => .iface 165 (.agg #[y.v])) (pp := fun _ => True) (BP := fun y => [ownL 3 y.v r]) (A := [ownL 3 s53.v (ch ++ [(i : Int)])]) (F := [ownL 156 s62.v (ws c.n (g ||| nth c.ms i)), ownL 3 s52.v [(i : Int)], ownL 3 sd.v ch]) (CanCall.mk Tryz.call131) rfl (by exact .cons rfl inferInstance (.cons rfl inferInstance (.cons rfl inferInstance (.cons rfl inferInstance (.cons rfl inferInstance (.cons rfl inferInstance .nil)))))) (perm_del (i := 1) rfl) (fun w1 bs1 k1 k2 k3 k4 k5 => (hcall w1 bs1 k1 k2 k3 k4 k5).mono fun e w' h => by unfold SrOut at h; rw [hsub] at h; exact .inr (h.imp fun y h => ⟨h.1, trivial, h.2⟩))) (fun _ v w' ⟨x, _⟩ => nomatch x) (fun v => ?_) (fun v => aw_ex fun x => nomatch x)
                refine post_ex fun y => post_imp fun hv => post_imp fun _ => ?_
                subst hv
                repeat (first | refine post_then_p ?_ | refine post_blk_p ?_)
                refine post_panic fun w' hw => ?_
                unfold SrOut
                rw [hF]
                exact ⟨y, rfl, (fun w h => Cl.sel (by exact .take 0 rfl (.nil _)) w h) w' hw⟩
            · skip
              refine at_x 5 rfl rfl rfl rfl (e_build1 (α := Int) (x := (i : Int)) rfl rfl rfl rfl) (by intro hb; exact fun _ => (fun w h => Cl.sel (by exact .take 1 rfl (.nil _)) w h)) (fun s52 => ?_)
              refine aw_x 3 (by kernel_rfl) rfl rfl rfl rfl (e_call (CanCall.mk Tryz.call142) rfl (.cons rfl inferInstance (.nil)) (fun w hw => cloneInt_spec sd ch (by omega) w (stb_own (e := 3) hw (.tail _ (.head _))))) (by intro hb; exact fun _ w h => (fun w h => Cl.sel (by exact .take 2 rfl (.nil _)) w h) w h.2) (fun s50 => ?_)
              refine aw_imp fun _ => (aw_c (C' := Cl w bs [ownL 3 s50.v ch, ownL 3 s52.v [(i : Int)], ownL 3 sd.v ch]) (fun w' hw => hw) ?_)
              refine aw_x 6 (by kernel_rfl) rfl rfl rfl rfl (e_append (i := 0) rfl (.cons rfl inferInstance (.cons rfl inferInstance (.nil))) rfl rfl (by exact fun w hw => rd_own hw (by exact .tail _ (.head _))) (by simp; omega) rfl) (by intro hb; exact fun _ => (fun w h => Cl.sel (by exact .take 2 rfl (.nil _)) w h)) (fun s53 => ?_)
              refine aw_x 15 (by kernel_rfl) rfl rfl rfl rfl (e_call (CanCall.mk Tryz.call120) rfl (.cons rfl inferInstance (.cons rfl inferInstance (.nil))) (fun w hw => join_spec _ _ _ _ _ hg (ok.lt i) w (by exact stb_arg hw (by assumption)) (by exact stb_arg hw (by assumption)))) (by intro hb; exact fun _ w h => (fun w h => Cl.sel (by exact .take 3 rfl (.nil _)) w h) w h.2) (fun s62 => ?_)
              refine aw_imp fun _ => ?_
              rw [show ((i : Int) + 1) = ((i + 1 : Nat) : Int) by omega, show (((left + 1 : Nat) : Int) - 1) = (left : Int) by omega]
              refine aw_c (C' := Cl w bs [ownL 156 s62.v (ws c.n (g ||| nth c.ms i)), ownL 3 s53.v (ch ++ [(i : Int)]), ownL 3 s52.v [(i : Int)], ownL 3 sd.v ch]) (fun w' hw => hw) ?_
              have hcall := fun (w1 : World) (bs1 : List Nat) (k1 : Sx.Sep [ownL 3 s53.v (ch ++ [(i : Int)])] w1 bs1) (k2 : bs1.Nodup) (k3 : ∀ b ∈ bs1, b < w1.heap.size) (k4 : ∀ R, Stb w bs R → Stb w1 bs1 R) (k5 : ∀ G ∈ [ownL 156 s62.v (ws c.n (g ||| nth c.ms i)), ownL 3 s52.v [(i : Int)], ownL 3 sd.v ch], ∃ b2, Stb w1 bs1 fun w' => G.holds w' b2) => ih s53 s62 (ch ++ [(i : Int)]) (g ||| nth c.ms i) (i + 1) (by simp; omega) hi' hgm w1 bs1 k1 k2 k3 (k4 _ hR) (k4 _ hLt) (lend_own k5 (.head _))
              cases hsub : srch c.n c.ms left (ch ++ [(i : Int)]) (g ||| nth c.ms i) (i + 1) with
              | none =>
                rw [hsub] at hF
                simp only at hF
                refine aw_x 20 (by kernel_rfl) rfl rfl rfl rfl (e_callH (vf := fun _ : Unit => .tuple #[]) (p := fun _ => True) (A := [ownL 3 s53.v (ch ++ [(i : Int)])]) (B := fun _ => [ownL 3 s53.v (ch ++ [(i : Int)])]) (F := [ownL 156 s62.v (ws c.n (g ||| nth c.ms i)), ownL 3 s52.v [(i : Int)], ownL 3 sd.v ch]) (CanCall.mk Tryz.call131) rfl rfl (.cons rfl inferInstance (.cons rfl inferInstance (.cons rfl inferInstance (.cons rfl inferInstance (.cons rfl inferInstance (.cons rfl inferInstance (.nil))))))) (perm_del (i := 1) rfl) (fun w1 bs1 k1 k2 k3 k4 k5 => (hcall w1 bs1 k1 k2 k3 k4 k5).mono fun e w' h => by unfold SrOut at h; rw [hsub] at h; exact ⟨(), h.1, trivial, h.2⟩)) (by intro hb; exact fun _ w h => (fun w h => Cl.sel (by exact .take 3 rfl (.nil _)) w h) w h.2) (fun u => ?_)
                refine aw_imp fun _ => ?_
                refine aw_end (by kernel_rfl) ?_
                refine post_blk (post_then (cw_region (sr rfl rfl rfl ((q_move rfl rfl)) ?_)))
                refine sr rfl rfl rfl ((q_add rfl rfl rfl (by intro hc; omega))) ?_
                refine sr rfl rfl rfl ((q_assign rfl rfl)) (sw_nil ?_)
                exact post_next (i + 1) (by exact .cons rfl (.cons rfl (.cons rfl (.cons rfl (.cons rfl (.cons rfl .nil)))))) (fun w3 hw3 => (fun w h => Cl.sel (by exact .take 3 rfl (.nil _)) w h) w3 hw3) ⟨by omega, hF⟩ (by omega)
              | some r =>
                rw [hsub] at hF
                simp only at hF
                refine aw_pan 20 (by kernel_rfl) rfl rfl rfl rfl (p_callH (α := Empty) (β := SlV) (vf := fun x => nomatch x) (p := fun _ => True) (B := fun x => nomatch x) (vp := fun y => .iface 165 (.agg #[y.v])) (pp := fun _ => True) (BP := fun y => [ownL 3 y.v r]) (A := [ownL 3 s53.v (ch ++ [(i : Int)])]) (F := [ownL 156 s62.v (ws c.n (g ||| nth c.ms i)), ownL 3 s52.v [(i : Int)], ownL 3 sd.v ch]) (CanCall.mk Tryz.call131) rfl (by exact .cons rfl inferInstance (.cons rfl inferInstance (.cons rfl inferInstance (.cons rfl inferInstance (.cons rfl inferInstance (.cons rfl inferInstance .nil)))))) (perm_del (i := 1) rfl) (fun w1 bs1 k1 k2 k3 k4 k5 => (hcall w1 bs1 k1 k2 k3 k4 k5).mono fun e w' h => by unfold SrOut at h; rw [hsub] at h; exact .inr (h.imp fun y h => ⟨h.1, trivial, h.2⟩))) (fun _ v w' ⟨x, _⟩ => nomatch x) (fun v => ?_) (fun v => aw_ex fun x => nomatch x)
                refine post_ex fun y => post_imp fun hv => post_imp fun _ => ?_
                subst hv
                repeat (first | refine post_then_p ?_ | refine post_blk_p ?_)
                refine post_panic fun w' hw => ?_
                unfold SrOut
                rw [hF]
                exact ⟨y, rfl, (fun w h => Cl.sel (by exact .take 0 rfl (.nil _)) w h) w' hw⟩
        · skip
          have hi' : i = c.ms.length := by simp only [decide_eq_false_iff_not] at h3; omega
          subst hi'
          have hF' : srch c.n c.ms (left + 1) ch g fr = none := by rw [hF, Nat.sub_self]; rfl
          refine cw_exit (post_then_x (post_then_x (post_blk_eq (post_end0 rfl (fun w' hw => ?_)))))
          unfold SrOut
          rw [hF']
          exact ⟨rfl, hw⟩
end Go.Proofs.YtomjbfeafodfbaaGreat

set_option autoImplicit false
set_option maxRecDepth 100000
namespace Go.Proofs.YtomjbfeafodfbaaGreat
open Go.Sx
open Enc (enc val)
theorem catch_pan (b6 b7 : Nat) (y : SlV) (F : List Asn) (w0 : World) (fp : List Nat) (w : World) (hw : Cl w0 fp (blk b6 [.slice none 0 0] 28 :: blk b7 [.bool false] 4 :: F) w) :
    CallsD Tryz.prog 130 #[.pointer (some ⟨b6, 0, none⟩), .pointer (some ⟨b7, 0, none⟩)] (.panicking (pan1 (.iface 165 (.agg #[y.v])))) w fun e u' w' =>
      e = .returned (.tuple #[]) ∧ u' = .panicking [{ v := .iface 165 (.agg #[y.v]), recovered := true }] ∧ Cl w0 fp (blk b6 [y.v] 28 :: blk b7 [.bool true] 4 :: F) w' := by
  refine callsD_of_wpS Tryz.func130 rfl fun c₀ cs hu => ?_
  apply wpS_seq
  apply wpS_region
  simp [wpOpsS, go_sem, recoverD, hu, Tryz.ntmps130, Exit.thenS, pan1]
  refine wpS_of_cw (k := 18) (E := [(0, [], .pointer (some ⟨b6, 0, none⟩)), (1, [], .pointer (some ⟨b7, 0, none⟩)), (2, [], .iface 165 (.agg #[y.v]))]) (C := Cl w0 fp (blk b6 [.slice none 0 0] 28 :: blk b7 [.bool false] 4 :: F)) (sat_of rfl (by simp) fun p hp => by
    simp only [List.mem_cons, List.not_mem_nil, or_false] at hp
    rcases hp with rfl | rfl | rfl <;> simp [gval]) hw ?_
  refine cw_seq (cw_region (sr rfl rfl rfl ((q_move rfl rfl)) ?_))
  refine sr rfl rfl rfl ((q_neqHeld rfl rfl (by kernel_rfl))) ?_
  refine sw_nil (post_then ?_)
  refine cw_cond rfl (fun h => ?_) (fun h => ?_)
  · skip
    clear h
    refine cw_seq (cw_region (sr rfl rfl rfl ((q_move rfl rfl)) (sr rfl rfl rfl ((q_assertOk rfl rfl Tryz.underlying165 rfl)) (sr rfl rfl rfl ((q_move rfl rfl)) (sr rfl rfl rfl ((q_extract rfl rfl rfl)) (sr rfl rfl rfl ((q_extract rfl rfl rfl)) ?_))))))
    refine sw_x rfl rfl rfl (e_alloc rfl) (fun b3 => ?_)
    refine sw_eff0 rfl rfl (e_store (i := 0) rfl rfl rfl rfl rfl rfl rfl rfl) (sr rfl rfl rfl ((q_assign rfl rfl)) (sw_nil (post_then (cw_seq (cw_seq (cw_region (sr rfl rfl rfl ((q_move rfl rfl)) (sr rfl rfl rfl ((q_not rfl rfl)) (sw_nil (post_then ?_))))))))))
    refine cw_cond rfl (fun h => ?_) (fun h => ?_)
    · skip
      simp at h
    · skip
      clear h
      refine cw_skip (post_then (cw_region (sr rfl rfl rfl ((q_fieldAddr rfl rfl)) ?_)))
      refine sr rfl rfl rfl ((q_loadC rfl rfl (by exact .head _) rfl)) ?_
      refine sw_eff0 rfl rfl (e_store (i := 1) rfl rfl rfl rfl rfl rfl rfl rfl) (sw_eff0 rfl rfl (e_store (i := 2) rfl rfl rfl rfl rfl rfl rfl rfl) (sw_nil (post_endS rfl rfl ?_)))
      exact fun w' hw => ⟨rfl, rfl, hw.tail⟩
  · skip
    simp at h
theorem catch_idle (b6 b7 : Nat) (H : List Asn) (w0 : World) (fp : List Nat) (w : World) (hw : Cl w0 fp H w) :
    CallsD Tryz.prog 130 #[.pointer (some ⟨b6, 0, none⟩), .pointer (some ⟨b7, 0, none⟩)] .returning w fun e u' w' => e = .returned (.tuple #[]) ∧ u' = .returning ∧ Cl w0 fp H w' := by
  refine callsD_of_wpS Tryz.func130 rfl fun c₀ cs hu => ?_
  apply wpS_seq
  apply wpS_region
  simp [wpOpsS, go_sem, recoverD, hu, Tryz.ntmps130, Exit.thenS]
  refine wpS_of_cw (k := 18) (E := [(0, [], .pointer (some ⟨b6, 0, none⟩)), (1, [], .pointer (some ⟨b7, 0, none⟩)), (2, [], .nilIface)]) (C := Cl w0 fp H) (sat_of rfl (by simp) fun p hp => by
    simp only [List.mem_cons, List.not_mem_nil, or_false] at hp
    rcases hp with rfl | rfl | rfl <;> simp [gval]) hw ?_
  refine cw_seq (cw_region (sr rfl rfl rfl ((q_move rfl rfl)) ?_))
  refine sr rfl rfl rfl ((q_neqNil rfl rfl (by kernel_rfl))) ?_
  refine sw_nil (post_then ?_)
  refine cw_cond rfl (fun h => ?_) (fun h => ?_)
  · skip
    simp at h
  · skip
    refine cw_skip (post_endS rfl rfl ?_)
    exact fun w' hw => ⟨rfl, hu, hw⟩
theorem sized_spec (c : CV) (ok : c.Ok) (sl : SlV) (vl : List SlV) (k : Nat) (hk : k ≤ 100000) (w : World) (hR : Stb w [] c.Rd) (hLt : Stb w [] (LatRd c sl vl)) :
    Calls Tryz.prog 102 #[.pointer (some ⟨c.bc, 0, none⟩), sl.v, .int .i64 k] w fun e w' => ∃ r : SlV, e = .returned (.tuple #[r.v, .bool (srch c.n c.ms k [] 0 0).isSome]) ∧ True ∧ Cl w [] (optA r (srch c.n c.ms k [] 0 0)) w' := by
  have hbk := stb_map hR fun _ h => h.bk
  have hss := stb_map hR fun _ h => h.ss
  have hsa := stb_map hR fun _ h => h.sa
  have hn := ok.n
  refine calls_cwD (vs := [_, _, _]) Tryz.func102 rfl Tryz.ntmps102 rfl (Cl.start0 w) (cw_seq (cw_region ?_))
  refine sw_x rfl rfl rfl (e_alloc rfl) (fun b6 => ?_)
  refine sw_x rfl rfl rfl (e_alloc rfl) (fun b7 => ?_)
  refine sw_nil (post_then (cw_seq (cw_region (sr rfl rfl rfl ((q_func_l rfl (.cons rfl inferInstance (.cons rfl inferInstance (.nil))))) (sw_defer rfl rfl rfl rfl (sw_nil (post_then (cw_seq (cw_region (sr rfl rfl rfl ((q_move rfl rfl)) (sr rfl rfl rfl ((q_move rfl rfl)) (sr rfl rfl rfl ((q_move rfl rfl)) (sr rfl rfl rfl ((q_nilCheck rfl rfl)) (sr rfl rfl rfl ((q_fieldAddr rfl rfl)) ?_))))))))))))))
  refine sr rfl rfl rfl ((q_loadS rfl rfl (fun w hw => Stb.cl (by assumption) hw) rfl)) ?_
  refine sr rfl rfl rfl ((q_len rfl (.cons rfl inferInstance (.nil)) (by exact fun w hw => Stb.cl (by assumption) hw))) ?_
  refine sw_x rfl rfl rfl (e_make (α := UW) (zero := ⟨0⟩) rfl rfl rfl rfl rfl (by omega) (by rw [ws_len]; split <;> omega) (by decide)) (fun s16 => ?_)
  rw [Int.toNat_natCast, ws_zero]
  refine sr rfl rfl rfl ((q_move rfl rfl)) (sw_le (fun w' h => Cl.addNil (α := Int) 3 h) ?_)
  have hcall := fun (w1 : World) (bs1 : List Nat) (k1 : Sx.Sep [ownL 3 (SlV.v ⟨none, 0, 0⟩) ([] : List Int)] w1 bs1) (k2 : bs1.Nodup) (k3 : ∀ b ∈ bs1, b < w1.heap.size) (k4 : ∀ R, Stb w [] R → Stb w1 bs1 R) (k5 : ∀ G ∈ [ownL 156 s16.v (ws c.n 0), blk b7 [.bool false] 4, blk b6 [.slice none 0 0] 28], ∃ b2, Stb w1 bs1 fun w' => G.holds w' b2) => search_spec c ok sl vl k ⟨none, 0, 0⟩ s16 [] 0 0 (by simp; omega) (Nat.zero_le _) (by omega) w1 bs1 k1 k2 k3 (k4 _ hR) (k4 _ hLt) (lend_own k5 (.head _))
  cases hsub : srch c.n c.ms k [] 0 0 with
  | none =>
    refine sw_x rfl rfl rfl (e_callH (vf := fun _ : Unit => .tuple #[]) (p := fun _ => True) (A := [ownL 3 (SlV.v ⟨none, 0, 0⟩) ([] : List Int)]) (B := fun _ => [ownL 3 (SlV.v ⟨none, 0, 0⟩) ([] : List Int)]) (F := [ownL 156 s16.v (ws c.n 0), blk b7 [.bool false] 4, blk b6 [.slice none 0 0] 28]) (CanCall.mk Tryz.call131) rfl rfl (.cons rfl inferInstance (.cons rfl inferInstance (.cons rfl inferInstance (.cons rfl inferInstance (.cons rfl inferInstance (.cons rfl inferInstance (.nil))))))) (.refl _) (fun w1 bs1 k1 k2 k3 k4 k5 => (hcall w1 bs1 k1 k2 k3 k4 k5).mono fun e w' h => by unfold SrOut at h; rw [hsub] at h; exact ⟨(), h.1, trivial, h.2⟩)) (fun u => ?_)
    refine sw_imp fun _ => (sw_nil (post_then (cw_seq (cw_region (sw_eff0 rfl rfl (e_store (i := 3) rfl rfl rfl rfl rfl rfl rfl rfl) (sw_eff0 rfl rfl (e_store (i := 2) rfl rfl rfl rfl rfl rfl rfl rfl) (sw_nil (post_then (cw_ret ?_)))))))))
    exact leave1 (CanCall.mk Tryz.call130) (by simp) (fun w1 hw1 => catch_idle b6 b7 _ _ _ w1 hw1) rfl rfl (resOk_blk (x := (⟨none, 0, 0⟩ : SlV)) rfl (by exact .tail _ (.tail _ (.tail _ (.head _)))) (by rfl)) (resOk_blk (x := false) rfl (by exact .tail _ (.tail _ (.head _))) (by rfl)) (fun w1 hw1 => ⟨⟨none, 0, 0⟩, rfl, trivial, (fun w h => Cl.sel (by exact .nil _) w h) w1 hw1⟩)
  | some r =>
    refine sw_pan rfl rfl rfl (p_callH (α := Empty) (β := SlV) (vf := fun x => nomatch x) (p := fun _ => True) (B := fun x => nomatch x) (vp := fun y => .iface 165 (.agg #[y.v])) (pp := fun _ => True) (BP := fun y => [ownL 3 y.v r]) (A := [ownL 3 (SlV.v ⟨none, 0, 0⟩) ([] : List Int)]) (F := [ownL 156 s16.v (ws c.n 0), blk b7 [.bool false] 4, blk b6 [.slice none 0 0] 28]) (CanCall.mk Tryz.call131) rfl (by exact .cons rfl inferInstance (.cons rfl inferInstance (.cons rfl inferInstance (.cons rfl inferInstance (.cons rfl inferInstance (.cons rfl inferInstance .nil)))))) (.refl _) (fun w1 bs1 k1 k2 k3 k4 k5 => (hcall w1 bs1 k1 k2 k3 k4 k5).mono fun e w' h => by unfold SrOut at h; rw [hsub] at h; exact .inr (h.imp fun y h => ⟨h.1, trivial, h.2⟩))) (fun v => ?_) (fun v => sw_ex fun x => nomatch x)
    refine post_ex fun y => post_imp fun hv => post_imp fun _ => ?_
    subst hv
    repeat (first | refine post_then_p ?_ | refine post_blk_p ?_)
    exact leave1 (C2 := Cl w [] (blk b6 [y.v] 28 :: blk b7 [.bool true] 4 :: [ownL 3 y.v r, ownL 156 s16.v (ws c.n 0)])) (u2 := .panicking [{ v := .iface 165 (.agg #[y.v]), recovered := true }]) (CanCall.mk Tryz.call130) (by simp) (fun w1 hw1 => catch_pan b6 b7 y [ownL 3 y.v r, ownL 156 s16.v (ws c.n 0)] _ _ w1 ((fun w h => Cl.sel (by exact .take 3 rfl (.take 2 rfl (.take 0 rfl (.take 0 rfl (.nil _))))) w h) w1 hw1)) rfl rfl (resOk_blk (x := y) rfl (.head _) (by rfl)) (resOk_blk (x := true) rfl (.tail _ (.head _)) (by rfl)) (fun w1 hw1 => ⟨y, rfl, trivial, (fun w h => Cl.sel (by exact .take 2 rfl (.nil _)) w h) w1 hw1⟩)
end Go.Proofs.YtomjbfeafodfbaaGreat

/-
  Rows: a list of slices, each the call's own, told by a function. General lemmas, no program text.
-/
set_option autoImplicit false
set_option linter.unusedSectionVars false
namespace Go.Sx
open Enc (enc val)
section
variable {α : Type} [Enc α] (e : TypeId) (vs : List SlV) (f : Nat → List α)
def rowsAt (is : List Nat) : List Asn := is.map fun i => ownL e (nth vs i).v (f i)
def rowsF : List Asn := rowsAt e vs f (List.range vs.length)
def rowsO (i : Nat) : List Asn := rowsAt e vs f ((List.range vs.length).erase i)
def rowsO2 (i j : Nat) : List Asn := rowsAt e vs f (((List.range vs.length).erase i).erase j)
variable {e vs f}
theorem rowsAt_out {is : List Nat} {i : Nat} (hi : i ∈ is) : (rowsAt e vs f is).Perm (ownL e (nth vs i).v (f i) :: rowsAt e vs f (is.erase i)) := (List.perm_cons_erase hi).map _
theorem rowsAt_congr {is : List Nat} {f' : Nat → List α} {vs' : List SlV} (h : ∀ i ∈ is, f' i = f i) (h2 : ∀ i ∈ is, nth vs' i = nth vs i) : rowsAt e vs' f' is = rowsAt e vs f is := List.map_congr_left fun i hi => by rw [h i hi, h2 i hi]
theorem rowsF_out {i : Nat} (hi : i < vs.length) : (rowsF e vs f).Perm (ownL e (nth vs i).v (f i) :: rowsO e vs f i) := rowsAt_out (by simpa using hi)
theorem rowsF_in {f' : Nat → List α} {i : Nat} {l : List α} (hi : i < vs.length) (h : ∀ k, k < vs.length → k ≠ i → f' k = f k) (hl : f' i = l) : (ownL e (nth vs i).v l :: rowsO e vs f i).Perm (rowsF e vs f') := by
  refine List.Perm.trans ?_ (rowsF_out (f := f') hi).symm
  rw [hl]
  have : rowsO e vs f' i = rowsO e vs f i := rowsAt_congr (fun k hk => by
    have hn : (List.range vs.length).Nodup := List.nodup_range
    have := (hn.mem_erase_iff).1 hk
    exact h k (by simpa using this.2) this.1) fun _ _ => rfl
  rw [this]
theorem rowsO_out {i j : Nat} (hj : j < vs.length) (hij : j ≠ i) : (rowsO e vs f i).Perm (ownL e (nth vs j).v (f j) :: rowsO2 e vs f i j) := rowsAt_out (by
  have hn : (List.range vs.length).Nodup := List.nodup_range
  exact (hn.mem_erase_iff).2 ⟨hij, by simpa using hj⟩)
/-- Two rows apart. -/
theorem rowsF_out2 {i j : Nat} (hi : i < vs.length) (hj : j < vs.length) (hij : j ≠ i) : (rowsF e vs f).Perm (ownL e (nth vs i).v (f i) :: ownL e (nth vs j).v (f j) :: rowsO2 e vs f i j) := (rowsF_out hi).trans ((rowsO_out hj hij).cons _)
theorem rowsF_in2 {f' : Nat → List α} {i j : Nat} {l : List α} (hi : i < vs.length) (hj : j < vs.length) (hij : j ≠ i) (h : ∀ k, k < vs.length → k ≠ i → f' k = f k) (hl : f' i = l) : (ownL e (nth vs i).v l :: ownL e (nth vs j).v (f j) :: rowsO2 e vs f i j).Perm (rowsF e vs f') :=
  ((rowsO_out (e := e) (f := f) hj hij).symm.cons _).trans (rowsF_in hi h hl)
theorem rowsF_snoc {s : SlV} : rowsF e (vs ++ [s]) f = rowsF e vs f ++ [ownL e s.v (f vs.length)] := by
  unfold rowsF
  rw [List.length_append, List.length_singleton, List.range_succ]
  unfold rowsAt
  rw [List.map_append]
  congr 1
  · refine List.map_congr_left fun i hi => ?_
    have hi : i < vs.length := by simpa using hi
    have : nth (vs ++ [s]) i = nth vs i := by simp only [nth, List.getD]; rw [List.getElem?_append_left hi]
    rw [this]
  · have : nth (vs ++ [s]) vs.length = s := by simp [nth]
    simp [this]
theorem rowsF_congr {f' : Nat → List α} (h : ∀ i, i < vs.length → f' i = f i) : rowsF e vs f' = rowsF e vs f := rowsAt_congr (fun i hi => h i (by simpa using hi)) fun _ _ => rfl
theorem rowsF_mem {i : Nat} (hi : i < vs.length) : ownL e (nth vs i).v (f i) ∈ rowsF e vs f := List.mem_map_of_mem (f := fun i => ownL e (nth vs i).v (f i)) (by simpa using hi)
end
end Go.Sx

set_option autoImplicit false
set_option maxRecDepth 100000
namespace Go.Proofs.YtomjbfeafodfbaaGreat
open Go.Sx
open Enc (enc val)
def leastE (n : Int) (ls : List (List Int)) : Int := if covE n ls 24 ≠ 0 then covE n ls 24 else if possN n.toNat (msOf ls) then 0 else 5
theorem least_bad (n : Int) (hn : -9223372036854775808 ≤ n) (sv : SlV) (vs : List SlV) (ls : List (List Int)) (w : World) (hm : Stb w [] (fun w' => Mt w' sv.v vs ls)) (hE : covE n ls 24 ≠ 0) :
    Calls Tryz.prog 60 #[.int .i64 n, sv.v] w fun e w' => e = .returned (.tuple #[.slice none 0 0, .int .i64 (covE n ls 24)]) ∧ Cl w [] [] w' := by
  refine calls_cw (vs := [_, _]) Tryz.func60 rfl Tryz.ntmps60 rfl (Cl.start0 w) (cw_seq (cw_region (sr rfl rfl rfl ((q_assign rfl rfl)) (sr rfl rfl rfl ((q_assign rfl rfl)) (sw_nil (post_then (cw_seq (cw_region (sr rfl rfl rfl ((q_move rfl rfl)) (sr rfl rfl rfl ((q_move rfl rfl)) (sw_step rfl rfl rfl (q_call (CanCall.mk Tryz.call75) rfl (.cons rfl inferInstance (.cons rfl inferInstance (.cons rfl inferInstance (.nil)))) (fun _ w hw => callq hw (covering_no n hn sv vs ls 24 w (stb_arg hw hm) hE))) (sr rfl rfl rfl ((q_move rfl rfl)) (sr rfl rfl rfl ((q_extract rfl rfl rfl)) (sr rfl rfl rfl ((q_extract rfl rfl rfl)) (sr rfl rfl rfl ((q_assign rfl rfl)) (sr rfl rfl rfl ((q_assign rfl rfl)) (sw_nil (post_then (cw_seq (cw_seq (cw_region (sr rfl rfl rfl ((q_move rfl rfl)) (sr rfl rfl rfl ((q_neq rfl rfl rfl)) (sw_nil (post_then ?_)))))))))))))))))))))))))
  refine cw_cond rfl (fun h => ?_) (fun h => ?_)
  · skip
    refine cw_seq (cw_region (sr rfl rfl rfl ((q_move rfl rfl)) (sr rfl rfl rfl ((q_assign rfl rfl)) (sr rfl rfl rfl ((q_assign rfl rfl)) (sw_nil (post_then (cw_ret (post_then_r (post_ret2 rfl (resOk_tmp rfl) (resOk_tmp rfl) ?_)))))))))
    exact fun w' hw => ⟨rfl, hw⟩
  · skip
    exfalso
    simp only [Bool.not_eq_false', decide_eq_true_eq] at h
    exact hE h
theorem least_none (n : Nat) (hn : n ≤ 30) (sv : SlV) (vs : List SlV) (ls : List (List Int)) (w : World) (hm : Stb w [] (fun w' => Mt w' sv.v vs ls)) (hE : covE n ls 24 = 0) (hP : possN n (msOf ls) = false) :
    Calls Tryz.prog 60 #[.int .i64 n, sv.v] w fun e w' => e = .returned (.tuple #[.slice none 0 0, .int .i64 5]) ∧ Cl w [] [] w' := by
  have hl := (covE_ok hE).2.1
  refine calls_cw (vs := [_, _]) Tryz.func60 rfl Tryz.ntmps60 rfl (Cl.start0 w) (cw_seq (cw_region (sr rfl rfl rfl ((q_assign rfl rfl)) (sr rfl rfl rfl ((q_assign rfl rfl)) (sw_nil (post_then (cw_seq (cw_region (sr rfl rfl rfl ((q_move rfl rfl)) (sr rfl rfl rfl ((q_move rfl rfl)) ?_))))))))))
  refine sw_x rfl rfl rfl (e_call (CanCall.mk Tryz.call75) rfl (.cons rfl inferInstance (.cons rfl inferInstance (.cons rfl inferInstance (.nil)))) (fun w hw => covering_yes n hn sv vs ls 24 w (stb_arg hw hm) (by omega) hE)) (fun y => ?_)
  refine sw_imp fun hg => ?_
  rw [List.append_nil]
  have hok := cgood_ok hg hn hE (by omega)
  have hpe : possN y.1.n y.1.ms = false := by rw [hg.n, hg.ms]; exact hP
  refine sr rfl rfl rfl ((q_move rfl rfl)) (sr rfl rfl rfl ((q_extract rfl rfl rfl)) (sr rfl rfl rfl ((q_extract rfl rfl rfl)) (sr rfl rfl rfl ((q_assign rfl rfl)) (sr rfl rfl rfl ((q_assign rfl rfl)) (sw_nil (post_then (cw_seq (cw_seq (cw_region (sr rfl rfl rfl ((q_move rfl rfl)) (sr rfl rfl rfl ((q_neq rfl rfl rfl)) (sw_nil (post_then ?_)))))))))))))
  refine cw_cond rfl (fun h => ?_) (fun h => ?_)
  · skip
    cases h
  · skip
    clear h
    refine cw_skip (post_then (cw_seq (cw_seq (cw_region (sr rfl rfl rfl ((q_move rfl rfl)) (sw_step rfl rfl rfl (q_call (CanCall.mk Tryz.call77) rfl (.cons rfl inferInstance (.nil)) (fun _ w hw => callq hw (covers_spec y.1 hok w (cv_rd hg hw.split0.2.1 (fun A hA => hA))))) (sr rfl rfl rfl ((q_not rfl rfl)) (sw_nil (post_then ?_)))))))))
    refine cw_cond rfl (fun h => ?_) (fun h => ?_)
    · skip
      refine cw_seq (cw_region (sr rfl rfl rfl ((q_assign rfl rfl)) (sr rfl rfl rfl ((q_assign rfl rfl)) (sw_nil (post_then (cw_ret (post_then_r (post_ret2 rfl (resOk_tmp rfl) (resOk_tmp rfl) ?_))))))))
      exact fun w' hw => ⟨rfl, cl_drop (F := []) hw⟩
    · skip
      exfalso
      rw [hpe] at h
      cases h
theorem rows_perm {α : Type} {B R S : α} {rows F : List α} : (B :: R :: S :: (F ++ rows)).Perm (B :: S :: (F ++ (rows ++ [R]))) := by
  refine .cons B ((List.Perm.swap S R _).trans (.cons S ?_))
  rw [← List.append_assoc]
  exact List.perm_append_comm (l₁ := [R]) (l₂ := F ++ rows)
theorem lat_rd {c : CV} {sl : SlV} {vl : List SlV} {w0 w : World} {fp : List Nat} {H : List Asn} (hw : Cl w0 fp H w) (h1 : ownL 115 sl.v vl ∈ H) (hn : vl.length = c.ms.length + 1) (h2 : ∀ i, i < vl.length → ownL 156 (nth vl i).v (ws c.n (unFrom c.ms i)) ∈ H) : Stb w [] (LatRd c sl vl) :=
  ⟨fun w' k => ⟨(stb_own hw h1).stb w' k, hn, fun i hi => (stb_own hw (h2 i (by omega))).stb w' k⟩⟩
theorem least_yes (n : Nat) (hn : n ≤ 30) (sv : SlV) (vs : List SlV) (ls : List (List Int)) (w : World) (hm : Stb w [] (fun w' => Mt w' sv.v vs ls)) (hE : covE n ls 24 = 0) (hP : possN n (msOf ls) = true) :
    Calls Tryz.prog 60 #[.int .i64 n, sv.v] w fun e w' => ∃ y : SlV × List Int, e = .returned (.tuple #[y.1.v, .int .i64 0]) ∧ leastF n (msOf ls) = some y.2 ∧ Cl w [] [ownL 3 y.1.v y.2] w' := by
  have hl := (covE_ok hE).2.1
  refine calls_cw (vs := [_, _]) Tryz.func60 rfl Tryz.ntmps60 rfl (Cl.start0 w) (cw_seq (cw_region (sr rfl rfl rfl ((q_assign rfl rfl)) (sr rfl rfl rfl ((q_assign rfl rfl)) (sw_nil (post_then (cw_seq (cw_region (sr rfl rfl rfl ((q_move rfl rfl)) (sr rfl rfl rfl ((q_move rfl rfl)) ?_))))))))))
  refine sw_x rfl rfl rfl (e_call (CanCall.mk Tryz.call75) rfl (.cons rfl inferInstance (.cons rfl inferInstance (.cons rfl inferInstance (.nil)))) (fun w hw => covering_yes n hn sv vs ls 24 w (stb_arg hw hm) (by omega) hE)) (fun y => ?_)
  refine sw_imp fun hg => ?_
  rw [List.append_nil]
  have hok := cgood_ok hg hn hE (by omega)
  have hyn := hg.n
  have hyms := hg.ms
  have hpe : possN y.1.n y.1.ms = true := by rw [hg.n, hg.ms]; exact hP
  have hml : y.1.ms.length = ls.length := by rw [hyms]; simp
  refine sr rfl rfl rfl ((q_move rfl rfl)) (sr rfl rfl rfl ((q_extract rfl rfl rfl)) (sr rfl rfl rfl ((q_extract rfl rfl rfl)) (sr rfl rfl rfl ((q_assign rfl rfl)) (sr rfl rfl rfl ((q_assign rfl rfl)) (sw_nil (post_then (cw_seq (cw_seq (cw_region (sr rfl rfl rfl ((q_move rfl rfl)) (sr rfl rfl rfl ((q_neq rfl rfl rfl)) (sw_nil (post_then ?_)))))))))))))
  refine cw_cond rfl (fun h => ?_) (fun h => ?_)
  · skip
    cases h
  · skip
    clear h
    refine cw_skip (post_then (cw_seq (cw_seq (cw_region (sr rfl rfl rfl ((q_move rfl rfl)) (sw_step rfl rfl rfl (q_call (CanCall.mk Tryz.call77) rfl (.cons rfl inferInstance (.nil)) (fun _ w hw => callq hw (covers_spec y.1 hok w (cv_rd hg hw.split0.2.1 (fun A hA => hA))))) (sr rfl rfl rfl ((q_not rfl rfl)) (sw_nil (post_then ?_)))))))))
    refine cw_cond rfl (fun h => ?_) (fun h => ?_)
    · skip
      exfalso
      rw [hpe] at h
      cases h
    · skip
      clear h
      refine cw_c (C' := Cl w [] (ownL 115 (SlV.v ⟨none, 0, 0⟩) ([] : List SlV) :: (CV.F y ++ rowsF 156 ([] : List SlV) (fun i => ws y.1.n (unFrom y.1.ms i))))) (fun w' hw => by
        have e : CV.F y ++ rowsF 156 ([] : List SlV) (fun i => ws y.1.n (unFrom y.1.ms i)) = CV.F y := List.append_nil _
        rw [e]
        exact hw.addNil (α := SlV) 115) ?_
      have hll : y.1.ls.length = ls.length := by rw [← hml, hg.l, hg.m]; simp
      refine cw_skip (post_then (cw_seq (cw_region (sr rfl rfl rfl ((q_assign rfl rfl)) (sw_nil (post_then (cw_seq (cw_seq (cw_region (sr rfl rfl rfl ((q_move rfl rfl)) (sr rfl rfl rfl ((q_nilCheck rfl rfl)) (sr rfl rfl rfl ((q_fieldAddr rfl rfl)) ?_))))))))))))
      refine sr rfl rfl rfl ((q_loadC rfl rfl (by exact .tail _ (.head _)) rfl)) ?_
      refine sr rfl rfl rfl ((q_len rfl (.cons rfl inferInstance (.nil)) (by exact fun w hw => rd_own hw (by exact .tail _ (.tail _ (.head _)))))) ?_
      refine sr rfl rfl rfl ((q_add rfl rfl rfl (by intro hc; omega))) ?_
      refine sr rfl rfl rfl ((q_move rfl rfl)) (sw_nil (post_then (cw_block ?_)))
      refine cw_loop (S := SlV × List SlV) (fun z => [(6, [], .pointer (some ⟨y.1.bc, 0, none⟩)), (8, [], z.1.v), (30, [], .int .i64 (ls.length + 1 : Nat)), (31, [], .int .i64 z.2.length)]) (fun z => Cl w [] (ownL 115 z.1.v z.2 :: (CV.F y ++ rowsF 156 z.2 (fun i => ws y.1.n (unFrom y.1.ms i))))) (fun z => z.2.length ≤ ls.length + 1) (fun z => ls.length + 1 - z.2.length) (⟨none, 0, 0⟩, []) (Nat.zero_le _) ?_ (fun _ h => h) ?_
      · exact Le.cons rfl (Le.cons rfl (Le.cons' rfl (by congr 1; omega) (Le.cons' rfl (by congr 1) Le.nil)))
      rintro ⟨s8, V⟩ hV
      dsimp only at hV ⊢
      refine cw_seq (cw_region (sr rfl rfl rfl ((q_lss rfl rfl rfl)) (sw_nil (post_then (cw_seq ?_)))))
      refine cw_cond rfl (fun h => ?_) (fun h => ?_)
      · skip
        have hV' : V.length < ls.length + 1 := by simp only [decide_eq_true_eq] at h; omega
        refine cw_skip (post_then (cw_seq (cw_block (cw_seq (cw_region (sr rfl rfl rfl ((q_move rfl rfl)) (sr rfl rfl rfl ((q_assign rfl rfl)) (sw_nil (post_then (cw_region (sr rfl rfl rfl ((q_move rfl rfl)) (sr rfl rfl rfl ((q_move rfl rfl)) (sr rfl rfl rfl ((q_move rfl rfl)) ?_)))))))))))))
        refine sw_x rfl rfl rfl (e_call (CanCall.mk Tryz.call101) rfl (.cons rfl inferInstance (.cons rfl inferInstance (.nil))) (fun w hw => union_spec y.1 hok V.length (by omega) w (cv_rd hg hw.split0.2.1 (fun A hA => List.mem_cons_of_mem _ (List.mem_append_left _ hA))))) (fun s37 => ?_)
        refine sw_imp fun _ => ?_
        refine sw_x rfl rfl rfl (e_build1 (α := SlV) rfl rfl rfl rfl) (fun s38 => ?_)
        refine sw_x rfl rfl rfl (e_append (i := 2) rfl (.cons rfl inferInstance (.cons rfl inferInstance (.nil))) rfl rfl (by exact fun w hw => rd_own hw (by exact .head _)) (by simp only [List.length_set, List.length_append, List.length_cons, List.length_nil, List.length_replicate, List.length_take, List.length_drop, List.length_map]; omega) rfl) (fun s39 => ?_)
        refine sr rfl rfl rfl ((q_assign rfl rfl)) (sw_nil (post_blk (post_then (cw_region ?_))))
        refine sr rfl rfl rfl ((q_add rfl rfl rfl (by intro hc; omega))) ?_
        refine sr rfl rfl rfl ((q_move rfl rfl)) (sw_nil ?_)
        refine post_next (s39, V ++ [s37]) ?_ (fun w3 hw3 => ?_) (by simp; omega) (by simp; omega)
        · exact Le.cons rfl (Le.cons rfl (Le.cons rfl (Le.cons' rfl (by congr 1; simp) Le.nil)))
        · simp only
          rw [rowsF_snoc]
          exact (hw3.perm rows_perm).tail
      · skip
        have hV' : V.length = ls.length + 1 := by simp only [decide_eq_false_iff_not] at h; omega
        have hLt : ∀ {w1 : World}, Cl w [] (ownL 115 s8.v V :: (CV.F y ++ rowsF 156 V (fun i => ws y.1.n (unFrom y.1.ms i)))) w1 → Stb w1 [] (LatRd y.1 s8 V) := fun hw => lat_rd hw (.head _) (by omega) (fun i hi => List.mem_cons_of_mem _ (List.mem_append_right _ (rowsF_mem hi)))
        refine cw_exit (post_then_x (post_then_x (post_blk_eq (post_then (cw_seq (cw_seq (cw_region (sr rfl rfl rfl ((q_move rfl rfl)) (sr rfl rfl rfl ((q_nilCheck rfl rfl)) (sr rfl rfl rfl ((q_fieldAddr rfl rfl)) ?_))))))))))
        refine sr rfl rfl rfl ((q_loadC rfl rfl (by exact .tail _ (.head _)) rfl)) ?_
        refine sr rfl rfl rfl ((q_len rfl (.cons rfl inferInstance (.nil)) (by exact fun w hw => rd_own hw (by exact .tail _ (.tail _ (.head _)))))) ?_
        refine sr rfl rfl rfl ((q_add rfl rfl rfl (by intro hc; omega))) ?_
        refine sr rfl rfl rfl ((q_move rfl rfl)) (sw_nil (post_then (cw_block ?_)))
        refine cw_loop (S := Nat) (fun k => [(6, [], .pointer (some ⟨y.1.bc, 0, none⟩)), (8, [], s8.v), (46, [], .int .i64 (ls.length + 1 : Nat)), (47, [], .int .i64 k)]) (fun _ => Cl w [] (ownL 115 s8.v V :: (CV.F y ++ rowsF 156 V (fun i => ws y.1.n (unFrom y.1.ms i))))) (fun k => k ≤ ls.length + 1 ∧ (∀ j, j < k → someF n (msOf ls) j [] 0 = none) ∧ leastF n (msOf ls) = someI (fun k => someF n (msOf ls) k [] 0) k (ls.length + 1 - k)) (fun k => ls.length + 1 - k) 0 ⟨Nat.zero_le _, fun j hj => by omega, by rw [leastF, show (msOf ls).length = ls.length by simp [msOf]]; rfl⟩ ?_ (fun _ h => h) ?_
        · exact Le.cons rfl (Le.cons rfl (Le.cons' rfl (by congr 1; omega) (Le.cons' rfl (by congr 1) Le.nil)))
        rintro k ⟨hk, hnone, hF⟩
        refine cw_seq (cw_region (sr rfl rfl rfl ((q_lss rfl rfl rfl)) (sw_nil (post_then (cw_seq ?_)))))
        refine cw_cond rfl (fun h2 => ?_) (fun h2 => ?_)
        · skip
          have hk' : k < ls.length + 1 := by simp only [decide_eq_true_eq] at h2; omega
          have hse : srch y.1.n y.1.ms k [] 0 0 = someF n (msOf ls) k [] 0 := by
            rw [hyn, show y.1.ms = msOf ls from hyms]
            exact srch_eq (by omega) (ch := []) (Nat.zero_le _) hnone
          rw [someI_step hk'] at hF
          refine cw_skip (post_then (cw_seq (cw_block (cw_seq (cw_region (sr rfl rfl rfl ((q_move rfl rfl)) (sr rfl rfl rfl ((q_assign rfl rfl)) (sw_nil (post_then (cw_seq (cw_region (sr rfl rfl rfl ((q_move rfl rfl)) (sr rfl rfl rfl ((q_move rfl rfl)) (sr rfl rfl rfl ((q_move rfl rfl)) ?_))))))))))))))
          refine sw_x rfl rfl rfl (e_call (CanCall.mk Tryz.call102) rfl (.cons rfl inferInstance (.cons rfl inferInstance (.cons rfl inferInstance (.nil)))) (fun w hw => sized_spec y.1 hok s8 V k (by omega) w (cv_rd hg hw.split0.2.1 (fun A hA => List.mem_cons_of_mem _ (List.mem_append_left _ hA))) (hLt hw))) (fun r => ?_)
          refine sw_imp fun _ => ?_
          rw [hse]
          refine sr rfl rfl rfl ((q_move rfl rfl)) (sr rfl rfl rfl ((q_extract rfl rfl rfl)) (sr rfl rfl rfl ((q_extract rfl rfl rfl)) (sr rfl rfl rfl ((q_assign rfl rfl)) (sr rfl rfl rfl ((q_assign rfl rfl)) (sw_nil (post_then (cw_seq (cw_region (sr rfl rfl rfl ((q_move rfl rfl)) (sw_nil (post_then ?_)))))))))))
          refine cw_cond rfl (fun h3 => ?_) (fun h3 => ?_)
          · skip
            obtain ⟨c, hc⟩ := Option.isSome_iff_exists.1 h3
            rw [hc] at hF
            rw [hc]
            refine cw_seq (cw_region (sr rfl rfl rfl ((q_move rfl rfl)) (sr rfl rfl rfl ((q_assign rfl rfl)) (sr rfl rfl rfl ((q_assign rfl rfl)) (sw_nil (post_then (cw_ret (post_blk_r (post_then_r (post_then_r (post_blk_r (post_then_r (post_ret2 rfl (resOk_tmp rfl) (resOk_tmp rfl) ?_)))))))))))))
            exact fun w' hw => ⟨(r, c), rfl, hF, (fun w h => Cl.sel (by exact .take 0 rfl (.nil _)) w h) w' hw⟩
          · skip
            have hc : someF n (msOf ls) k [] 0 = none := by
              cases hx : someF n (msOf ls) k [] 0
              · rfl
              · rw [hx] at h3; cases h3
            rw [hc] at hF
            rw [hc]
            refine cw_skip (post_blk (post_then (cw_region ?_)))
            refine sr rfl rfl rfl ((q_add rfl rfl rfl (by intro hc; omega))) ?_
            refine sr rfl rfl rfl ((q_move rfl rfl)) (sw_nil ?_)
            refine post_next (k + 1) (by exact .cons rfl (.cons rfl (.cons rfl (.cons rfl .nil)))) (fun w3 hw3 => hw3) ⟨by omega, fun j hj => ?_, hF⟩ (by omega)
            by_cases e : j = k
            · rw [e]; exact hc
            · exact hnone j (by omega)
        · skip
          exfalso
          have hk' : k = ls.length + 1 := by simp only [decide_eq_false_iff_not] at h2; omega
          obtain ⟨c, hc, _⟩ := least_some (by omega) hP
          rw [hc, hk', Nat.sub_self] at hF
          cases hF
end Go.Proofs.YtomjbfeafodfbaaGreat

set_option autoImplicit false
set_option maxRecDepth 100000
namespace Go.Proofs.YtomjbfeafodfbaaGreat
open Go.Sx
open Enc (enc val)
def one1 (l : List Int) : List (List Int) := l.map fun x => [x]
def fstTo (l : List Int) : Nat → List Int
  | 0 => []
  | i + 1 => fstTo l i ++ if (maskTo l i).testBit (nth l i).toNat = true then [] else [(i : Int)]
theorem sumB_true : ∀ n, sumB (fun _ => true) n = n
  | 0 => rfl
  | n + 1 => by
    have := sumB_true n
    simp only [sumB] at this ⊢
    simp; omega
theorem sumB_all {f : Nat → Bool} {n : Nat} : sumB f n = n ↔ ∀ x, x < n → f x = true := by
  constructor
  · intro h x hx
    cases hf : f x with
    | true => rfl
    | false =>
      have := sumB_lt (f := f) (g := fun _ => true) (k := n) (j := x) (fun _ _ _ => rfl) hx hf rfl
      rw [sumB_true] at this; omega
  · intro h
    rw [sumB_congr (g := fun _ => true) (fun i hi => h i hi), sumB_true]
theorem sumB_or {a b n : Nat} : sumB (fun i => (a ||| b).testBit i) n ≤ sumB a.testBit n + sumB b.testBit n := by
  have h := sumB_add (f := fun i => (a ||| b).testBit i) (g := a.testBit) (h := fun i => !a.testBit i && b.testBit i) (k := n) (fun i _ => by
    rw [Nat.testBit_or]; cases a.testBit i <;> cases b.testBit i <;> rfl)
  have h2 := sumB_le (f := fun i => !a.testBit i && b.testBit i) (g := b.testBit) (k := n) (fun i _ hi => by
    simp only [Bool.and_eq_true] at hi; exact hi.2)
  omega
theorem sumB_two {j n : Nat} : sumB (fun i => (2 ^ j).testBit i) n ≤ 1 := by
  have e : sumB (fun i => (2 ^ j).testBit i) n = sumB (fun i => decide (i = j)) n := sumB_congr fun i _ => by
    rw [Nat.testBit_two_pow]; simp [eq_comm]
  rw [e]
  by_cases h : j < n
  · rw [sumB_one h]; exact Nat.le_refl _
  · have : sumB (fun i => decide (i = j)) n = 0 := sumB_zero.2 fun i hi => by simp; omega
    omega
theorem ms_len (l : List Int) : (msOf (one1 l)).length = l.length := by simp [msOf, one1]
theorem mask_one (x : Int) : mask [x] = 2 ^ x.toNat := by simp [mask, maskTo, nth]
theorem ms_nth {l : List Int} {i : Nat} (h : i < l.length) : nth (msOf (one1 l)) i = 2 ^ (nth l i).toNat := by
  rw [msOf_nth (by simpa [one1] using h)]
  have : nth (one1 l) i = [nth l i] := by rw [nth_get (by simpa [one1] using h), nth_get h]; simp [one1]
  rw [this, mask_one]
theorem ms_out {l : List Int} {i : Nat} (h : ¬ i < l.length) : nth (msOf (one1 l)) i = 0 := by
  simp only [nth, List.getD]
  rw [List.getElem?_eq_none (by rw [ms_len]; omega)]; rfl
theorem cvr_len {n : Nat} {l c : List Int} (h : Cvr n (msOf (one1 l)) c) : n ≤ c.length := by
  have : ∀ c : List Int, sumB (unL (msOf (one1 l)) c).testBit n ≤ c.length := fun c => by
    induction c with
    | nil => have : sumB (unL (msOf (one1 l)) []).testBit n = 0 := sumB_zero.2 fun i _ => by simp [unL]
             omega
    | cons i c ih =>
      have h1 := sumB_or (a := nth (msOf (one1 l)) i.toNat) (b := unL (msOf (one1 l)) c) (n := n)
      have h2 : sumB (nth (msOf (one1 l)) i.toNat).testBit n ≤ 1 := by
        by_cases hi : i.toNat < l.length
        · rw [ms_nth hi]; exact sumB_two
        · rw [ms_out hi]
          have : sumB (0 : Nat).testBit n = 0 := sumB_zero.2 fun i _ => by simp
          omega
      simp only [unL, List.length_cons]
      have h3 : sumB (nth (msOf (one1 l)) i.toNat ||| unL (msOf (one1 l)) c).testBit n = sumB (fun i_1 => (nth (msOf (one1 l)) i.toNat ||| unL (msOf (one1 l)) c).testBit i_1) n := rfl
      omega
  have h2 := this c
  rw [sumB_all.2 h] at h2
  exact h2
theorem fst_idx {l : List Int} : ∀ {k : Nat}, ∀ i ∈ fstTo l k, 0 ≤ i ∧ i < k
  | 0, i, h => by simp [fstTo] at h
  | k + 1, i, h => by
    rw [fstTo] at h
    rcases List.mem_append.1 h with h | h
    · have := fst_idx i h; omega
    · split at h
      · simp at h
      · simp only [List.mem_singleton] at h; omega
theorem maskTo_snoc (l : List Int) (k : Nat) : maskTo l (k + 1) = maskTo l k ||| 2 ^ (nth l k).toNat := rfl
/-- What the first sets cover. -/
theorem fst_cov {l : List Int} : ∀ {k : Nat}, k ≤ l.length → ∀ x, (unL (msOf (one1 l)) (fstTo l k)).testBit x = (maskTo l k).testBit x
  | 0, _, x => by simp [fstTo, unL, maskTo]
  | k + 1, hk, x => by
    have ih := fst_cov (l := l) (k := k) (by omega) x
    rw [fstTo, maskTo_snoc, Nat.testBit_or]
    by_cases h : (maskTo l k).testBit (nth l k).toNat = true
    · rw [if_pos h, List.append_nil, ih]
      by_cases e : (nth l k).toNat = x
      · rw [← e, h]; rfl
      · rw [Nat.testBit_two_pow_of_ne e, Bool.or_false]
    · rw [if_neg h, unL_snoc, Nat.testBit_or, ih, Int.toNat_natCast, ms_nth (by omega)]
theorem fst_cnt {l : List Int} {n : Nat} (hb : ∀ x ∈ l, 0 ≤ x ∧ x < n) : ∀ {k : Nat}, k ≤ l.length → sumB (maskTo l k).testBit n = (fstTo l k).length
  | 0, _ => by
    have : sumB (maskTo l 0).testBit n = 0 := sumB_zero.2 fun i _ => by simp [maskTo]
    rw [this]; rfl
  | k + 1, hk => by
    have ih := fst_cnt hb (k := k) (by omega)
    have hx := hb _ (nth_mem (l := l) (i := k) (by omega))
    rw [fstTo, List.length_append, ← ih]
    by_cases h : (maskTo l k).testBit (nth l k).toNat = true
    · rw [if_pos h]
      refine sumB_congr fun i _ => ?_
      rw [maskTo_snoc, Nat.testBit_or]
      by_cases e : (nth l k).toNat = i
      · rw [← e, h]; rfl
      · rw [Nat.testBit_two_pow_of_ne e, Bool.or_false]
    · rw [if_neg h]
      have := sumB_add (f := (maskTo l (k + 1)).testBit) (g := (maskTo l k).testBit) (h := fun i => decide (i = (nth l k).toNat)) (k := n) (fun i _ => by
        rw [maskTo_snoc, Nat.testBit_or, Nat.testBit_two_pow]
        by_cases e : (nth l k).toNat = i
        · subst e
          have : (maskTo l k).testBit (nth l k).toNat = false := by simpa using h
          simp [this]
        · have e2 : ¬ i = (nth l k).toNat := fun h => e h.symm
          simp [e, e2])
      rw [sumB_one (by omega)] at this
      simpa using this
theorem poss_one {l : List Int} {n : Nat} (hn : n ≤ 30) (hb : ∀ x ∈ l, 0 ≤ x ∧ x < n) : possN n (msOf (one1 l)) = true ↔ (fstTo l l.length).length = n := by
  rw [← fst_cnt hb (Nat.le_refl _), sumB_all, possN_iff (by omega)]
  refine forall_congr' fun x => forall_congr' fun _ => ?_
  rw [maskTo_bit]
  constructor
  · rintro ⟨j, h1, h2⟩
    rw [ms_len] at h1
    rw [ms_nth h1, Nat.testBit_two_pow] at h2
    exact ⟨j, h1, by simpa using h2⟩
  · rintro ⟨j, h1, h2⟩
    exact ⟨j, by rw [ms_len]; exact h1, by rw [ms_nth h1, Nat.testBit_two_pow]; simpa using h2⟩
theorem fst_mono {l : List Int} : ∀ {d k : Nat}, (fstTo l k).length ≤ (fstTo l (k + d)).length ∧ ((fstTo l k).length = (fstTo l (k + d)).length → fstTo l k = fstTo l (k + d))
  | 0, k => ⟨Nat.le_refl _, fun _ => rfl⟩
  | d + 1, k => by
    obtain ⟨h1, h2⟩ := fst_mono (l := l) (d := d) (k := k)
    rw [show k + (d + 1) = (k + d) + 1 by omega, fstTo, List.length_append]
    refine ⟨by omega, fun h => ?_⟩
    have h3 : (if (maskTo l (k + d)).testBit (nth l (k + d)).toNat = true then ([] : List Int) else [((k + d : Nat) : Int)]) = [] := List.eq_nil_of_length_eq_zero (by omega)
    rw [h3, List.append_nil]
    exact h2 (by omega)
theorem some_fst {l : List Int} {n : Nat} (hn : n ≤ 30) (hb : ∀ x ∈ l, 0 ≤ x ∧ x < n) (hc : (fstTo l l.length).length = n) : ∀ (d i : Nat), i + d = l.length → someF n (msOf (one1 l)) (n - (fstTo l i).length) (fstTo l i) i = some (fstTo l l.length)
  | d, i, hd => by
    have hm := fst_mono (l := l) (d := d) (k := i)
    rw [hd] at hm
    by_cases hz : (fstTo l i).length = n
    · rw [hz, Nat.sub_self, someF, hm.2 (by omega), if_pos]
      refine cvrB_iff.2 fun x hx => ?_
      rw [fst_cov (Nat.le_refl _)]
      exact sumB_all.1 ((fst_cnt hb (Nat.le_refl _)).trans hc) x hx
    · cases d with
      | zero => exfalso; rw [show i = l.length by omega] at hz; exact hz hc
      | succ d =>
        obtain ⟨k, hk⟩ : ∃ k, n - (fstTo l i).length = k + 1 := ⟨n - (fstTo l i).length - 1, by omega⟩
        have hi : i < l.length := by omega
        have ih := some_fst hn hb hc d (i + 1) (by omega)
        rw [hk, someF, ms_len, someI_step hi]
        by_cases h : (maskTo l i).testBit (nth l i).toNat = true
        · have e1 : fstTo l (i + 1) = fstTo l i := by rw [fstTo, if_pos h, List.append_nil]
          rw [e1, hk, someF, ms_len] at ih
          have hnone : someF n (msOf (one1 l)) k (fstTo l i ++ [(i : Int)]) (i + 1) = none := by
            cases hs : someF n (msOf (one1 l)) k (fstTo l i ++ [(i : Int)]) (i + 1) with
            | none => rfl
            | some c =>
              exfalso
              obtain ⟨a1, a2⟩ := someF_some hs
              obtain ⟨e, rfl, _⟩ := someF_ext hs
              have hcv : Cvr n (msOf (one1 l)) (fstTo l i ++ e) := fun x hx => by
                have := a1 x hx
                rw [unL_app_bit, unL_snoc, Nat.testBit_or, Bool.or_eq_true, Int.toNat_natCast, ms_nth hi] at this
                rw [unL_app_bit]
                rcases this with (h4 | h4) | h4
                · exact .inl h4
                · left
                  rw [Nat.testBit_two_pow] at h4
                  have : (nth l i).toNat = x := by simpa using h4
                  rw [← this, fst_cov (by omega)]; exact h
                · exact .inr h4
              have := cvr_len hcv
              simp only [List.length_append, List.length_singleton] at a2 this
              omega
          rw [hnone]
          exact ih
        · have e1 : fstTo l (i + 1) = fstTo l i ++ [(i : Int)] := by rw [fstTo, if_neg h]
          rw [e1] at ih
          have e2 : n - (fstTo l i ++ [(i : Int)]).length = k := by simp; omega
          rw [e2] at ih
          rw [ih]
theorem least_one {l : List Int} {n : Nat} (hn : n ≤ 30) (hb : ∀ x ∈ l, 0 ≤ x ∧ x < n) (hc : (fstTo l l.length).length = n) : leastF n (msOf (one1 l)) = some (fstTo l l.length) := by
  have h1 := some_fst hn hb hc l.length 0 (by omega)
  have e0 : fstTo l 0 = [] := rfl
  rw [e0, List.length_nil, Nat.sub_zero] at h1
  have hle : n ≤ l.length := by
    have : (fstTo l l.length).length ≤ l.length := by
      have : ∀ k, (fstTo l k).length ≤ k := fun k => by
        induction k with
        | zero => simp [fstTo]
        | succ k ih => rw [fstTo, List.length_append]; split <;> simp <;> omega
      exact this _
    omega
  have key : ∀ d k, k + d = n → someI (fun k => someF n (msOf (one1 l)) k [] 0) k (l.length + 1 - k) = some (fstTo l l.length) := by
    intro d
    induction d with
    | zero =>
      intro k hk
      rw [someI_step (by omega), show k = n by omega, h1]
    | succ d ih =>
      intro k hk
      rw [someI_step (by omega)]
      have : someF n (msOf (one1 l)) k [] 0 = none := by
        cases hs : someF n (msOf (one1 l)) k [] 0 with
        | none => rfl
        | some c =>
          obtain ⟨a1, a2⟩ := someF_some hs
          have := cvr_len a1
          simp at a2; omega
      rw [this]
      exact ih (k + 1) (by omega)
  rw [leastF, ms_len]
  exact key n 0 (by omega)
end Go.Proofs.YtomjbfeafodfbaaGreat

set_option autoImplicit false
set_option maxRecDepth 100000
namespace Go.Proofs.YtomjbfeafodfbaaGreat
open Go.Sx
open Enc (enc val)
theorem maskTo_or (l : List Int) (k : Nat) : maskTo l (k + 1) = maskTo l k ||| 2 ^ (nth l k).toNat := rfl
theorem fst_le (l : List Int) : ∀ k, (fstTo l k).length ≤ k
  | 0 => by simp [fstTo]
  | k + 1 => by
    have := fst_le l k
    rw [fstTo, List.length_append]; split <;> simp <;> omega
theorem covE_one {n : Nat} {l : List Int} (hn : n ≤ 20) (hb : ∀ x ∈ l, 0 ≤ x ∧ x < n) (h24 : l.length ≤ 24) : covE n (one1 l) 24 = 0 := by
  have hol : (one1 l).length = l.length := by simp [one1]
  rw [covE, if_neg (by omega), if_neg]
  rintro (h | h)
  · omega
  · rw [List.all_eq_true.2] at h
    · cases h
    · intro s hs
      obtain ⟨x, hx, rfl⟩ := List.mem_map.1 hs
      have := hb x hx
      simp [setB, inB]; omega
theorem lawMany_long (n : Nat) (hn : n ≤ 20) (sl : SlV) (l : List Int) (h20 : 20 ≤ l.length) (h30 : l.length ≤ 30) (w : World) (hl : Stb w [] (RdL sl.v l)) (hb : ∀ x ∈ l, 0 ≤ x ∧ x < n) (h24 : 24 < l.length) :
    Calls Tryz.prog 16 #[.int .i64 n, sl.v] w fun e w' => e = .returned (.bool true) ∧ Cl w [] [] w' := by
  have hol : (one1 l).length = l.length := by simp [one1]
  have hset : ∀ s ∈ one1 l, setB n s = true := fun s hs => by
    obtain ⟨x, hx, rfl⟩ := List.mem_map.1 hs
    have := hb x hx
    simp [setB, inB]; omega
  refine calls_cw (vs := [_, _]) Tryz.func16 rfl Tryz.ntmps16 rfl (Cl.start0 w) (cw_seq (cw_region (sr rfl rfl rfl ((q_assign rfl rfl)) (sw_nil (post_then (cw_seq (cw_seq (cw_region (sr rfl rfl rfl ((q_move rfl rfl)) (sr rfl rfl rfl ((q_lss rfl rfl rfl)) (sr rfl rfl rfl ((q_move rfl rfl)) (sr rfl rfl rfl ((q_move rfl rfl)) (sr rfl rfl rfl ((q_gtr rfl rfl rfl)) (sr rfl rfl rfl ((q_or2 rfl rfl rfl)) (sr rfl rfl rfl ((q_move rfl rfl)) (sr rfl rfl rfl ((q_move rfl rfl)) ?_))))))))))))))))
  refine sr rfl rfl rfl ((q_len rfl (.cons rfl inferInstance (.nil)) (by exact fun w hw => Stb.cl (by assumption) hw))) ?_
  refine sr rfl rfl rfl ((q_lss rfl rfl rfl)) (sr rfl rfl rfl ((q_or2 rfl rfl rfl)) (sr rfl rfl rfl ((q_move rfl rfl)) (sr rfl rfl rfl ((q_move rfl rfl)) ?_)))
  refine sr rfl rfl rfl ((q_len rfl (.cons rfl inferInstance (.nil)) (by exact fun w hw => Stb.cl (by assumption) hw))) ?_
  refine sr rfl rfl rfl ((q_gtr rfl rfl rfl)) (sr rfl rfl rfl ((q_or2 rfl rfl rfl)) (sw_nil (post_then ?_)))
  refine cw_cond rfl (fun h => ?_) (fun h => ?_)
  · skip
    exfalso
    simp only [Bool.or_eq_true, decide_eq_true_eq] at h
    omega
  · skip
    clear h
    refine cw_skip (post_then (cw_seq (cw_region (sr rfl rfl rfl ((q_assign rfl rfl)) (sw_nil (post_then (cw_seq (cw_seq (cw_region (sr rfl rfl rfl ((q_assign rfl rfl)) (sw_nil (post_then (cw_block ?_)))))))))))))
    refine cw_loop (S := SlV × List SlV) (fun z => [(0, [], .int .i64 n), (1, [], sl.v), (5, [], z.1.v), (6, [], .int .i64 z.2.length)]) (fun z => Cl w [] (ownL 28 z.1.v z.2 :: rowsF 3 z.2 (fun i => [nth l i]))) (fun z => z.2.length ≤ l.length) (fun z => l.length - z.2.length) (⟨none, 0, 0⟩, []) (Nat.zero_le _) (by exact .cons rfl (.cons rfl (.cons rfl (.cons rfl .nil)))) (fun _ h => h.addNil (α := SlV) 28) ?_
    rintro ⟨s5, V⟩ hV
    dsimp only at hV ⊢
    refine cw_seq (cw_seq (cw_region (sr rfl rfl rfl ((q_move rfl rfl)) (sr rfl rfl rfl ((q_move rfl rfl)) ?_))))
    refine sr rfl rfl rfl ((q_len rfl (.cons rfl inferInstance (.nil)) (by exact fun w hw => Stb.cl (by assumption) hw))) ?_
    refine sr rfl rfl rfl ((q_lss rfl rfl rfl)) (sw_nil (post_then ?_))
    refine cw_cond rfl (fun h => ?_) (fun h => ?_)
    · skip
      have hV' : V.length < l.length := by simp only [decide_eq_true_eq] at h; omega
      have hbv := hb _ (nth_mem hV')
      refine cw_skip (post_then (cw_seq (cw_block (cw_seq (cw_seq (cw_region (sr rfl rfl rfl ((q_move rfl rfl)) (sr rfl rfl rfl ((q_move rfl rfl)) ?_))))))))
      refine sr rfl rfl rfl ((q_indexN rfl rfl rfl (by exact fun w hw => Stb.cl (by assumption) hw) (by intro hc; omega))) ?_
      refine sr rfl rfl rfl ((q_loadEl rfl rfl rfl (by exact fun w hw => Stb.cl (by assumption) hw) (by intro hc; omega))) ?_
      refine sr rfl rfl rfl ((q_lss rfl rfl rfl)) (sr rfl rfl rfl ((q_move rfl rfl)) (sr rfl rfl rfl ((q_move rfl rfl)) (sr rfl rfl rfl ((q_move rfl rfl)) ?_)))
      refine sr rfl rfl rfl ((q_indexN rfl rfl rfl (by exact fun w hw => Stb.cl (by assumption) hw) (by intro hc; omega))) ?_
      refine sr rfl rfl rfl ((q_loadEl rfl rfl rfl (by exact fun w hw => Stb.cl (by assumption) hw) (by intro hc; omega))) ?_
      refine sr rfl rfl rfl ((q_move rfl rfl)) (sr rfl rfl rfl ((q_geq rfl rfl rfl)) (sr rfl rfl rfl ((q_or2 rfl rfl rfl)) (sw_nil (post_then ?_))))
      refine cw_cond rfl (fun h2 => ?_) (fun h2 => ?_)
      · skip
        exfalso
        simp only [Bool.or_eq_true, decide_eq_true_eq] at h2
        omega
      · skip
        clear h2
        refine cw_skip (post_then (cw_region (sr rfl rfl rfl ((q_move rfl rfl)) (sr rfl rfl rfl ((q_move rfl rfl)) (sr rfl rfl rfl ((q_move rfl rfl)) ?_)))))
        refine sr rfl rfl rfl ((q_indexN rfl rfl rfl (by exact fun w hw => Stb.cl (by assumption) hw) (by intro hc; omega))) ?_
        refine sr rfl rfl rfl ((q_loadEl rfl rfl rfl (by exact fun w hw => Stb.cl (by assumption) hw) (by intro hc; omega))) ?_
        refine sw_x rfl rfl rfl (e_build1 (α := Int) rfl rfl rfl rfl) (fun s54 => ?_)
        refine sw_x rfl rfl rfl (e_build1 (α := SlV) rfl rfl rfl rfl) (fun s55 => ?_)
        refine sw_x rfl rfl rfl (e_append (i := 2) rfl (.cons rfl inferInstance (.cons rfl inferInstance (.nil))) rfl rfl (by exact fun w hw => rd_own hw (by exact .head _)) (by simp only [List.length_set, List.length_append, List.length_cons, List.length_nil, List.length_replicate, List.length_take, List.length_drop, List.length_map]; omega) rfl) (fun s56 => ?_)
        refine sr rfl rfl rfl ((q_assign rfl rfl)) (sw_nil (post_blk (post_then (cw_region (sr rfl rfl rfl ((q_move rfl rfl)) ?_)))))
        refine sr rfl rfl rfl ((q_add rfl rfl rfl (by intro hc; omega))) ?_
        refine sr rfl rfl rfl ((q_assign rfl rfl)) (sw_nil ?_)
        refine post_next (s56, V ++ [s54]) ?_ (fun w3 hw3 => ?_) (by simp; omega) (by simp; omega)
        · exact Le.cons rfl (Le.cons rfl (Le.cons rfl (Le.cons' rfl (by congr 1; simp) Le.nil)))
        · simp only
          rw [rowsF_snoc]
          exact (hw3.perm (rows_perm (F := []))).tail
    · skip
      have hV' : V.length = l.length := by simp only [decide_eq_false_iff_not] at h; omega
      have hMt : ∀ {w1 : World} {H : List Asn}, Cl w [] (H ++ (ownL 28 s5.v V :: rowsF 3 V (fun i => [nth l i]))) w1 → Stb w1 [] (fun w' => Mt w' s5.v V (one1 l)) := fun {w1 H} hw => mt_own (s := s5) (e := 28) hw (List.mem_append_right _ (.head _)) (by omega) (fun i hi => ⟨3, by
        have : nth (one1 l) i = [nth l i] := by rw [nth_get hi, nth_get (by omega)]; simp [one1]
        rw [this]
        exact List.mem_append_right _ (.tail _ (rowsF_mem (f := fun i => [nth l i]) (by omega)))⟩)
      refine cw_exit (post_then_x (post_then_x (post_blk_eq (post_then (cw_seq (cw_region (sr rfl rfl rfl ((q_move rfl rfl)) (sr rfl rfl rfl ((q_move rfl rfl)) ?_))))))))
      refine sw_step rfl rfl rfl (q_call (v := .tuple #[SlV.v ⟨none, 0, 0⟩, .int .i64 4]) (CanCall.mk Tryz.call60) rfl (.cons rfl inferInstance (.cons rfl inferInstance (.nil))) (fun _ w hw => callq hw (by have := least_bad n (by omega) s5 V (one1 l) w (hMt (H := []) hw) (by rw [covE, if_pos (by omega)]; decide); rw [covE, if_pos (by omega)] at this; exact this))) ?_
      refine sr rfl rfl rfl ((q_move rfl rfl)) (sr rfl rfl rfl ((q_extract rfl rfl rfl)) (sr rfl rfl rfl ((q_extract rfl rfl rfl)) (sr rfl rfl rfl ((q_assign rfl rfl)) (sr rfl rfl rfl ((q_assign rfl rfl)) (sw_nil (post_then (cw_seq (cw_seq (cw_region (sr rfl rfl rfl ((q_move rfl rfl)) ?_))))))))))
      refine sr rfl rfl rfl ((q_len rfl (.cons rfl inferInstance (.nil)) (by exact fun w hw => rd_own hw (by exact .head _)))) ?_
      refine sr rfl rfl rfl ((q_gtr rfl rfl rfl)) (sw_nil (post_then ?_))
      refine cw_cond rfl (fun h2 => ?_) (fun h2 => ?_)
      · skip
        refine cw_seq (cw_region (sr rfl rfl rfl ((q_move rfl rfl)) (sr rfl rfl rfl ((q_eql rfl rfl rfl)) (sr rfl rfl rfl ((q_move rfl rfl)) (sr rfl rfl rfl ((q_move rfl rfl)) (sr rfl rfl rfl ((q_lenV rfl (.cons rfl inferInstance (.nil)))) (sr rfl rfl rfl ((q_eql rfl rfl rfl)) (sr rfl rfl rfl ((q_and2 rfl rfl rfl)) (sr rfl rfl rfl ((q_move rfl rfl)) (sw_step rfl rfl rfl (q_call (CanCall.mk Tryz.call18) rfl (.nil) (fun _ w hw => callq hw (known_spec w))) (sr rfl rfl rfl ((q_and2 rfl rfl rfl)) (sr rfl rfl rfl ((q_assign rfl rfl)) (sw_nil (post_then (cw_ret (post_then_r (post_ret1 rfl (resOk_tmp rfl) ?_)))))))))))))))))
        exact fun w' hw => ⟨rfl, cl_drop (F := []) hw⟩
      · skip
        exfalso
        simp only [decide_eq_false_iff_not] at h2
        omega
theorem lawMany_none (n : Nat) (hn : n ≤ 20) (sl : SlV) (l : List Int) (h20 : 20 ≤ l.length) (h30 : l.length ≤ 30) (w : World) (hl : Stb w [] (RdL sl.v l)) (hb : ∀ x ∈ l, 0 ≤ x ∧ x < n) (h24 : l.length ≤ 24) (hP : possN n (msOf (one1 l)) = false) :
    Calls Tryz.prog 16 #[.int .i64 n, sl.v] w fun e w' => e = .returned (.bool true) ∧ Cl w [] [] w' := by
  have hol : (one1 l).length = l.length := by simp [one1]
  have hset : ∀ s ∈ one1 l, setB n s = true := fun s hs => by
    obtain ⟨x, hx, rfl⟩ := List.mem_map.1 hs
    have := hb x hx
    simp [setB, inB]; omega
  refine calls_cw (vs := [_, _]) Tryz.func16 rfl Tryz.ntmps16 rfl (Cl.start0 w) (cw_seq (cw_region (sr rfl rfl rfl ((q_assign rfl rfl)) (sw_nil (post_then (cw_seq (cw_seq (cw_region (sr rfl rfl rfl ((q_move rfl rfl)) (sr rfl rfl rfl ((q_lss rfl rfl rfl)) (sr rfl rfl rfl ((q_move rfl rfl)) (sr rfl rfl rfl ((q_move rfl rfl)) (sr rfl rfl rfl ((q_gtr rfl rfl rfl)) (sr rfl rfl rfl ((q_or2 rfl rfl rfl)) (sr rfl rfl rfl ((q_move rfl rfl)) (sr rfl rfl rfl ((q_move rfl rfl)) ?_))))))))))))))))
  refine sr rfl rfl rfl ((q_len rfl (.cons rfl inferInstance (.nil)) (by exact fun w hw => Stb.cl (by assumption) hw))) ?_
  refine sr rfl rfl rfl ((q_lss rfl rfl rfl)) (sr rfl rfl rfl ((q_or2 rfl rfl rfl)) (sr rfl rfl rfl ((q_move rfl rfl)) (sr rfl rfl rfl ((q_move rfl rfl)) ?_)))
  refine sr rfl rfl rfl ((q_len rfl (.cons rfl inferInstance (.nil)) (by exact fun w hw => Stb.cl (by assumption) hw))) ?_
  refine sr rfl rfl rfl ((q_gtr rfl rfl rfl)) (sr rfl rfl rfl ((q_or2 rfl rfl rfl)) (sw_nil (post_then ?_)))
  refine cw_cond rfl (fun h => ?_) (fun h => ?_)
  · skip
    exfalso
    simp only [Bool.or_eq_true, decide_eq_true_eq] at h
    omega
  · skip
    clear h
    refine cw_skip (post_then (cw_seq (cw_region (sr rfl rfl rfl ((q_assign rfl rfl)) (sw_nil (post_then (cw_seq (cw_seq (cw_region (sr rfl rfl rfl ((q_assign rfl rfl)) (sw_nil (post_then (cw_block ?_)))))))))))))
    refine cw_loop (S := SlV × List SlV) (fun z => [(0, [], .int .i64 n), (1, [], sl.v), (5, [], z.1.v), (6, [], .int .i64 z.2.length)]) (fun z => Cl w [] (ownL 28 z.1.v z.2 :: rowsF 3 z.2 (fun i => [nth l i]))) (fun z => z.2.length ≤ l.length) (fun z => l.length - z.2.length) (⟨none, 0, 0⟩, []) (Nat.zero_le _) (by exact .cons rfl (.cons rfl (.cons rfl (.cons rfl .nil)))) (fun _ h => h.addNil (α := SlV) 28) ?_
    rintro ⟨s5, V⟩ hV
    dsimp only at hV ⊢
    refine cw_seq (cw_seq (cw_region (sr rfl rfl rfl ((q_move rfl rfl)) (sr rfl rfl rfl ((q_move rfl rfl)) ?_))))
    refine sr rfl rfl rfl ((q_len rfl (.cons rfl inferInstance (.nil)) (by exact fun w hw => Stb.cl (by assumption) hw))) ?_
    refine sr rfl rfl rfl ((q_lss rfl rfl rfl)) (sw_nil (post_then ?_))
    refine cw_cond rfl (fun h => ?_) (fun h => ?_)
    · skip
      have hV' : V.length < l.length := by simp only [decide_eq_true_eq] at h; omega
      have hbv := hb _ (nth_mem hV')
      refine cw_skip (post_then (cw_seq (cw_block (cw_seq (cw_seq (cw_region (sr rfl rfl rfl ((q_move rfl rfl)) (sr rfl rfl rfl ((q_move rfl rfl)) ?_))))))))
      refine sr rfl rfl rfl ((q_indexN rfl rfl rfl (by exact fun w hw => Stb.cl (by assumption) hw) (by intro hc; omega))) ?_
      refine sr rfl rfl rfl ((q_loadEl rfl rfl rfl (by exact fun w hw => Stb.cl (by assumption) hw) (by intro hc; omega))) ?_
      refine sr rfl rfl rfl ((q_lss rfl rfl rfl)) (sr rfl rfl rfl ((q_move rfl rfl)) (sr rfl rfl rfl ((q_move rfl rfl)) (sr rfl rfl rfl ((q_move rfl rfl)) ?_)))
      refine sr rfl rfl rfl ((q_indexN rfl rfl rfl (by exact fun w hw => Stb.cl (by assumption) hw) (by intro hc; omega))) ?_
      refine sr rfl rfl rfl ((q_loadEl rfl rfl rfl (by exact fun w hw => Stb.cl (by assumption) hw) (by intro hc; omega))) ?_
      refine sr rfl rfl rfl ((q_move rfl rfl)) (sr rfl rfl rfl ((q_geq rfl rfl rfl)) (sr rfl rfl rfl ((q_or2 rfl rfl rfl)) (sw_nil (post_then ?_))))
      refine cw_cond rfl (fun h2 => ?_) (fun h2 => ?_)
      · skip
        exfalso
        simp only [Bool.or_eq_true, decide_eq_true_eq] at h2
        omega
      · skip
        clear h2
        refine cw_skip (post_then (cw_region (sr rfl rfl rfl ((q_move rfl rfl)) (sr rfl rfl rfl ((q_move rfl rfl)) (sr rfl rfl rfl ((q_move rfl rfl)) ?_)))))
        refine sr rfl rfl rfl ((q_indexN rfl rfl rfl (by exact fun w hw => Stb.cl (by assumption) hw) (by intro hc; omega))) ?_
        refine sr rfl rfl rfl ((q_loadEl rfl rfl rfl (by exact fun w hw => Stb.cl (by assumption) hw) (by intro hc; omega))) ?_
        refine sw_x rfl rfl rfl (e_build1 (α := Int) rfl rfl rfl rfl) (fun s54 => ?_)
        refine sw_x rfl rfl rfl (e_build1 (α := SlV) rfl rfl rfl rfl) (fun s55 => ?_)
        refine sw_x rfl rfl rfl (e_append (i := 2) rfl (.cons rfl inferInstance (.cons rfl inferInstance (.nil))) rfl rfl (by exact fun w hw => rd_own hw (by exact .head _)) (by simp only [List.length_set, List.length_append, List.length_cons, List.length_nil, List.length_replicate, List.length_take, List.length_drop, List.length_map]; omega) rfl) (fun s56 => ?_)
        refine sr rfl rfl rfl ((q_assign rfl rfl)) (sw_nil (post_blk (post_then (cw_region (sr rfl rfl rfl ((q_move rfl rfl)) ?_)))))
        refine sr rfl rfl rfl ((q_add rfl rfl rfl (by intro hc; omega))) ?_
        refine sr rfl rfl rfl ((q_assign rfl rfl)) (sw_nil ?_)
        refine post_next (s56, V ++ [s54]) ?_ (fun w3 hw3 => ?_) (by simp; omega) (by simp; omega)
        · exact Le.cons rfl (Le.cons rfl (Le.cons rfl (Le.cons' rfl (by congr 1; simp) Le.nil)))
        · simp only
          rw [rowsF_snoc]
          exact (hw3.perm (rows_perm (F := []))).tail
    · skip
      have hV' : V.length = l.length := by simp only [decide_eq_false_iff_not] at h; omega
      have hMt : ∀ {w1 : World} {H : List Asn}, Cl w [] (H ++ (ownL 28 s5.v V :: rowsF 3 V (fun i => [nth l i]))) w1 → Stb w1 [] (fun w' => Mt w' s5.v V (one1 l)) := fun {w1 H} hw => mt_own (s := s5) (e := 28) hw (List.mem_append_right _ (.head _)) (by omega) (fun i hi => ⟨3, by
        have : nth (one1 l) i = [nth l i] := by rw [nth_get hi, nth_get (by omega)]; simp [one1]
        rw [this]
        exact List.mem_append_right _ (.tail _ (rowsF_mem (f := fun i => [nth l i]) (by omega)))⟩)
      refine cw_exit (post_then_x (post_then_x (post_blk_eq (post_then (cw_seq (cw_region (sr rfl rfl rfl ((q_move rfl rfl)) (sr rfl rfl rfl ((q_move rfl rfl)) ?_))))))))
      refine sw_step rfl rfl rfl (q_call (v := .tuple #[SlV.v ⟨none, 0, 0⟩, .int .i64 5]) (CanCall.mk Tryz.call60) rfl (.cons rfl inferInstance (.cons rfl inferInstance (.nil))) (fun _ w hw => callq hw (least_none n (by omega) s5 V (one1 l) w (hMt (H := []) hw) (covE_one hn hb h24) hP))) ?_
      obtain ⟨sb, hsb⟩ : ∃ sb : SlV, sb = ⟨none, 0, 0⟩ := ⟨_, rfl⟩
      obtain ⟨lb, hlb⟩ : ∃ lb : List Int, lb = [] := ⟨_, rfl⟩
      refine sw_le (C' := Cl w [] (ownL 3 sb.v lb :: ownL 28 s5.v V :: rowsF 3 V (fun i => [nth l i]))) (fun w' hw => by rw [hsb, hlb]; exact hw.addNil (α := Int) 3) ?_
      rw [← hsb]
      refine sr rfl rfl rfl ((q_move rfl rfl)) (sr rfl rfl rfl ((q_extract rfl rfl rfl)) (sr rfl rfl rfl ((q_extract rfl rfl rfl)) (sr rfl rfl rfl ((q_assign rfl rfl)) (sr rfl rfl rfl ((q_assign rfl rfl)) (sw_nil (post_then (cw_seq (cw_seq (cw_region (sr rfl rfl rfl ((q_move rfl rfl)) ?_))))))))))
      refine sr rfl rfl rfl ((q_len rfl (.cons rfl inferInstance (.nil)) (by exact fun w hw => rd_own hw (by exact .tail _ (.head _))))) ?_
      refine sr rfl rfl rfl ((q_gtr rfl rfl rfl)) (sw_nil (post_then ?_))
      refine cw_cond rfl (fun h2 => ?_) (fun h2 => ?_)
      · skip
        exfalso
        simp only [decide_eq_true_eq] at h2
        omega
      · skip
        clear h2
        refine cw_skip (post_then (cw_seq (cw_region (sr rfl rfl rfl ((q_assign rfl rfl)) (sw_nil (post_then (cw_seq (cw_region (sr rfl rfl rfl ((q_move rfl rfl)) ?_)))))))))
        refine sw_x rfl rfl rfl (e_make (α := Bool) (zero := false) rfl rfl rfl rfl rfl (by omega) (by omega) (by decide)) (fun s77 => ?_)
        rw [Int.toNat_natCast, cvL_zero]
        refine sr rfl rfl rfl ((q_assign rfl rfl)) (sw_nil (post_then (cw_seq (cw_seq (cw_region (sr rfl rfl rfl ((q_assign rfl rfl)) (sw_nil (post_then (cw_block ?_)))))))))
        refine cw_loop (S := Nat × SlV) (fun z => [(0, [], .int .i64 n), (1, [], sl.v), (7, [], sb.v), (8, [], .int .i64 5), (9, [], z.2.v), (10, [], s77.v), (11, [], .int .i64 z.1)]) (fun z => Cl w [] [ownL 3 z.2.v (fstTo l z.1), ownL 4 s77.v (cvL n (maskTo l z.1)), ownL 3 sb.v lb]) (fun z => z.1 ≤ l.length) (fun z => l.length - z.1) (0, ⟨none, 0, 0⟩) (Nat.zero_le _) (by exact .cons rfl (.cons rfl (.cons rfl (.cons rfl (.cons rfl (.cons rfl (.cons rfl .nil))))))) (fun w' hw => ?_) ?_
        · refine Cl.addNil (α := Int) 3 ?_
          exact (fun w h => Cl.sel (by exact .take 0 rfl (.take 0 rfl (.nil _))) w h) w' hw
        rintro ⟨i, s9⟩ hi
        dsimp only at hi ⊢
        refine cw_seq (cw_seq (cw_region (sr rfl rfl rfl ((q_move rfl rfl)) (sr rfl rfl rfl ((q_move rfl rfl)) ?_))))
        refine sr rfl rfl rfl ((q_len rfl (.cons rfl inferInstance (.nil)) (by exact fun w hw => Stb.cl (by assumption) hw))) ?_
        refine sr rfl rfl rfl ((q_lss rfl rfl rfl)) (sw_nil (post_then ?_))
        refine cw_cond rfl (fun h3 => ?_) (fun h3 => ?_)
        · skip
          have hi' : i < l.length := by simp only [decide_eq_true_eq] at h3; omega
          have hbv := hb _ (nth_mem hi')
          have hcl := cvL_len n (maskTo l i)
          have hbit := cvL_nth (n := n) (i := (nth l i).toNat) (by omega) (maskTo l i)
          have hfl : (fstTo l i).length ≤ i := fst_le l i
          refine cw_skip (post_then (cw_seq (cw_block (cw_seq (cw_region (sr rfl rfl rfl ((q_move rfl rfl)) (sr rfl rfl rfl ((q_move rfl rfl)) (sr rfl rfl rfl ((q_move rfl rfl)) ?_))))))))
          refine sr rfl rfl rfl ((q_indexN rfl rfl rfl (by exact fun w hw => Stb.cl (by assumption) hw) (by intro hc; omega))) ?_
          refine sr rfl rfl rfl ((q_loadEl rfl rfl rfl (by exact fun w hw => Stb.cl (by assumption) hw) (by intro hc; omega))) ?_
          refine sr rfl rfl rfl ((q_index rfl rfl rfl (by exact fun w hw => rd_own hw (by exact .tail _ (.head _))) (by intro hc; omega))) ?_
          refine sr rfl rfl rfl ((q_loadEl rfl rfl rfl (by exact fun w hw => rd_own hw (by exact .tail _ (.head _))) (by intro hc; omega))) ?_
          refine sr rfl rfl rfl ((q_not rfl rfl)) (sw_nil (post_then ?_))
          rw [hbit]
          refine cw_cond rfl (fun h4 => ?_) (fun h4 => ?_)
          · skip
            have h5 : ¬ (maskTo l i).testBit (nth l i).toNat = true := by simpa using h4
            have e5 : fstTo l (i + 1) = fstTo l i ++ [(i : Int)] := by rw [fstTo, if_neg h5]
            refine cw_seq (cw_region (sr rfl rfl rfl ((q_move rfl rfl)) (sr rfl rfl rfl ((q_move rfl rfl)) (sr rfl rfl rfl ((q_move rfl rfl)) ?_))))
            refine sr rfl rfl rfl ((q_indexN rfl rfl rfl (by exact fun w hw => Stb.cl (by assumption) hw) (by intro hc; omega))) ?_
            refine sr rfl rfl rfl ((q_loadEl rfl rfl rfl (by exact fun w hw => Stb.cl (by assumption) hw) (by intro hc; omega))) ?_
            refine sr rfl rfl rfl ((q_index rfl rfl rfl (by exact fun w hw => rd_own hw (by exact .tail _ (.head _))) (by intro hc; omega))) ?_
            refine sw_eff0 rfl rfl (e_storeEl1 (i := 1) rfl rfl rfl rfl rfl (by omega)) ?_
            refine sw_nil (post_then (cw_region (sr rfl rfl rfl ((q_move rfl rfl)) (sr rfl rfl rfl ((q_move rfl rfl)) ?_))))
            refine sw_x rfl rfl rfl (e_build1 (α := Int) rfl rfl rfl rfl) (fun s100 => ?_)
            refine sw_x rfl rfl rfl (e_append (i := 1) rfl (.cons rfl inferInstance (.cons rfl inferInstance (.nil))) rfl rfl (by exact fun w hw => rd_own hw (by exact .head _)) (by simp only [List.length_set, List.length_append, List.length_cons, List.length_nil, List.length_replicate, List.length_take, List.length_drop, List.length_map]; omega) rfl) (fun s101 => ?_)
            refine sr rfl rfl rfl ((q_assign rfl rfl)) (sw_nil (post_blk (post_then (cw_region (sr rfl rfl rfl ((q_move rfl rfl)) ?_)))))
            refine sr rfl rfl rfl ((q_add rfl rfl rfl (by intro hc; omega))) ?_
            refine sr rfl rfl rfl ((q_assign rfl rfl)) (sw_nil ?_)
            refine post_next (i + 1, s101) (by exact .cons rfl (.cons rfl (.cons rfl (.cons rfl (.cons rfl (.cons rfl (.cons rfl .nil))))))) (fun w3 hw3 => ?_) (by simp only; omega) (by simp only; omega)
            rw [e5, maskTo_or, ← cvL_set (by omega)]
            exact (fun w h => Cl.sel (by exact .take 1 rfl (.take 1 rfl (.take 1 rfl (.nil _)))) w h) w3 hw3
          · skip
            have h5 : (maskTo l i).testBit (nth l i).toNat = true := by simpa using h4
            have e5 : fstTo l (i + 1) = fstTo l i := by rw [fstTo, if_pos h5, List.append_nil]
            refine cw_skip (post_blk (post_then (cw_region (sr rfl rfl rfl ((q_move rfl rfl)) ?_))))
            refine sr rfl rfl rfl ((q_add rfl rfl rfl (by intro hc; omega))) ?_
            refine sr rfl rfl rfl ((q_assign rfl rfl)) (sw_nil ?_)
            refine post_next (i + 1, s9) (by exact .cons rfl (.cons rfl (.cons rfl (.cons rfl (.cons rfl (.cons rfl (.cons rfl .nil))))))) (fun w3 hw3 => ?_) (by simp only; omega) (by simp only; omega)
            rw [e5, maskTo_or, cvL_same h5]
            exact hw3
        · skip
          have hi' : i = l.length := by simp only [decide_eq_false_iff_not] at h3; omega
          subst hi'
          have hfl : (fstTo l l.length).length ≤ l.length := fst_le l l.length
          have hfn := fst_cnt hb (Nat.le_refl _)
          have hfn2 := sumB_bd (f := (maskTo l l.length).testBit) n
          refine cw_exit (post_then_x (post_then_x (post_blk_eq (post_then (cw_seq (cw_seq (cw_region (sr rfl rfl rfl ((q_move rfl rfl)) ?_))))))))
          refine sr rfl rfl rfl ((q_len rfl (.cons rfl inferInstance (.nil)) (by exact fun w hw => rd_own hw (by exact .head _)))) ?_
          refine sr rfl rfl rfl ((q_move rfl rfl)) (sr rfl rfl rfl ((q_lss rfl rfl rfl)) (sw_nil (post_then ?_)))
          refine cw_cond rfl (fun h6 => ?_) (fun h6 => ?_)
          · skip
            refine cw_seq (cw_region (sr rfl rfl rfl ((q_move rfl rfl)) (sr rfl rfl rfl ((q_eql rfl rfl rfl)) (sr rfl rfl rfl ((q_move rfl rfl)) (sr rfl rfl rfl ((q_move rfl rfl)) ?_)))))
            refine sr rfl rfl rfl ((q_len rfl (.cons rfl inferInstance (.nil)) (by exact fun w hw => rd_own hw (by exact .tail _ (.tail _ (.head _)))))) ?_
            refine sr rfl rfl rfl ((q_eql rfl rfl rfl)) (sr rfl rfl rfl ((q_and2 rfl rfl rfl)) (sr rfl rfl rfl ((q_move rfl rfl)) (sw_step rfl rfl rfl (q_call (CanCall.mk Tryz.call18) rfl (.nil) (fun _ w hw => callq hw (known_spec w))) (sr rfl rfl rfl ((q_and2 rfl rfl rfl)) (sr rfl rfl rfl ((q_assign rfl rfl)) (sw_nil (post_then (cw_ret (post_then_r (post_ret1 rfl (resOk_tmp rfl) ?_))))))))))
            exact fun w' hw => ⟨by simp [hlb], (fun w h => Cl.sel (by exact .nil _) w h) w' hw⟩
          · skip
            exfalso
            simp only [decide_eq_false_iff_not] at h6
            have hnp := poss_one (l := l) (n := n) (by omega) hb
            rw [hP] at hnp
            have : ¬ (fstTo l l.length).length = n := fun h => by simpa using hnp.2 h
            omega
theorem lawMany_yes (n : Nat) (hn : n ≤ 20) (sl : SlV) (l : List Int) (h20 : 20 ≤ l.length) (h30 : l.length ≤ 30) (w : World) (hl : Stb w [] (RdL sl.v l)) (hb : ∀ x ∈ l, 0 ≤ x ∧ x < n) (h24 : l.length ≤ 24) (hP : possN n (msOf (one1 l)) = true) :
    Calls Tryz.prog 16 #[.int .i64 n, sl.v] w fun e w' => e = .returned (.bool true) ∧ Cl w [] [] w' := by
  have hol : (one1 l).length = l.length := by simp [one1]
  have hset : ∀ s ∈ one1 l, setB n s = true := fun s hs => by
    obtain ⟨x, hx, rfl⟩ := List.mem_map.1 hs
    have := hb x hx
    simp [setB, inB]; omega
  refine calls_cw (vs := [_, _]) Tryz.func16 rfl Tryz.ntmps16 rfl (Cl.start0 w) (cw_seq (cw_region (sr rfl rfl rfl ((q_assign rfl rfl)) (sw_nil (post_then (cw_seq (cw_seq (cw_region (sr rfl rfl rfl ((q_move rfl rfl)) (sr rfl rfl rfl ((q_lss rfl rfl rfl)) (sr rfl rfl rfl ((q_move rfl rfl)) (sr rfl rfl rfl ((q_move rfl rfl)) (sr rfl rfl rfl ((q_gtr rfl rfl rfl)) (sr rfl rfl rfl ((q_or2 rfl rfl rfl)) (sr rfl rfl rfl ((q_move rfl rfl)) (sr rfl rfl rfl ((q_move rfl rfl)) ?_))))))))))))))))
  refine sr rfl rfl rfl ((q_len rfl (.cons rfl inferInstance (.nil)) (by exact fun w hw => Stb.cl (by assumption) hw))) ?_
  refine sr rfl rfl rfl ((q_lss rfl rfl rfl)) (sr rfl rfl rfl ((q_or2 rfl rfl rfl)) (sr rfl rfl rfl ((q_move rfl rfl)) (sr rfl rfl rfl ((q_move rfl rfl)) ?_)))
  refine sr rfl rfl rfl ((q_len rfl (.cons rfl inferInstance (.nil)) (by exact fun w hw => Stb.cl (by assumption) hw))) ?_
  refine sr rfl rfl rfl ((q_gtr rfl rfl rfl)) (sr rfl rfl rfl ((q_or2 rfl rfl rfl)) (sw_nil (post_then ?_)))
  refine cw_cond rfl (fun h => ?_) (fun h => ?_)
  · skip
    exfalso
    simp only [Bool.or_eq_true, decide_eq_true_eq] at h
    omega
  · skip
    clear h
    refine cw_skip (post_then (cw_seq (cw_region (sr rfl rfl rfl ((q_assign rfl rfl)) (sw_nil (post_then (cw_seq (cw_seq (cw_region (sr rfl rfl rfl ((q_assign rfl rfl)) (sw_nil (post_then (cw_block ?_)))))))))))))
    refine cw_loop (S := SlV × List SlV) (fun z => [(0, [], .int .i64 n), (1, [], sl.v), (5, [], z.1.v), (6, [], .int .i64 z.2.length)]) (fun z => Cl w [] (ownL 28 z.1.v z.2 :: rowsF 3 z.2 (fun i => [nth l i]))) (fun z => z.2.length ≤ l.length) (fun z => l.length - z.2.length) (⟨none, 0, 0⟩, []) (Nat.zero_le _) (by exact .cons rfl (.cons rfl (.cons rfl (.cons rfl .nil)))) (fun _ h => h.addNil (α := SlV) 28) ?_
    rintro ⟨s5, V⟩ hV
    dsimp only at hV ⊢
    refine cw_seq (cw_seq (cw_region (sr rfl rfl rfl ((q_move rfl rfl)) (sr rfl rfl rfl ((q_move rfl rfl)) ?_))))
    refine sr rfl rfl rfl ((q_len rfl (.cons rfl inferInstance (.nil)) (by exact fun w hw => Stb.cl (by assumption) hw))) ?_
    refine sr rfl rfl rfl ((q_lss rfl rfl rfl)) (sw_nil (post_then ?_))
    refine cw_cond rfl (fun h => ?_) (fun h => ?_)
    · skip
      have hV' : V.length < l.length := by simp only [decide_eq_true_eq] at h; omega
      have hbv := hb _ (nth_mem hV')
      refine cw_skip (post_then (cw_seq (cw_block (cw_seq (cw_seq (cw_region (sr rfl rfl rfl ((q_move rfl rfl)) (sr rfl rfl rfl ((q_move rfl rfl)) ?_))))))))
      refine sr rfl rfl rfl ((q_indexN rfl rfl rfl (by exact fun w hw => Stb.cl (by assumption) hw) (by intro hc; omega))) ?_
      refine sr rfl rfl rfl ((q_loadEl rfl rfl rfl (by exact fun w hw => Stb.cl (by assumption) hw) (by intro hc; omega))) ?_
      refine sr rfl rfl rfl ((q_lss rfl rfl rfl)) (sr rfl rfl rfl ((q_move rfl rfl)) (sr rfl rfl rfl ((q_move rfl rfl)) (sr rfl rfl rfl ((q_move rfl rfl)) ?_)))
      refine sr rfl rfl rfl ((q_indexN rfl rfl rfl (by exact fun w hw => Stb.cl (by assumption) hw) (by intro hc; omega))) ?_
      refine sr rfl rfl rfl ((q_loadEl rfl rfl rfl (by exact fun w hw => Stb.cl (by assumption) hw) (by intro hc; omega))) ?_
      refine sr rfl rfl rfl ((q_move rfl rfl)) (sr rfl rfl rfl ((q_geq rfl rfl rfl)) (sr rfl rfl rfl ((q_or2 rfl rfl rfl)) (sw_nil (post_then ?_))))
      refine cw_cond rfl (fun h2 => ?_) (fun h2 => ?_)
      · skip
        exfalso
        simp only [Bool.or_eq_true, decide_eq_true_eq] at h2
        omega
      · skip
        clear h2
        refine cw_skip (post_then (cw_region (sr rfl rfl rfl ((q_move rfl rfl)) (sr rfl rfl rfl ((q_move rfl rfl)) (sr rfl rfl rfl ((q_move rfl rfl)) ?_)))))
        refine sr rfl rfl rfl ((q_indexN rfl rfl rfl (by exact fun w hw => Stb.cl (by assumption) hw) (by intro hc; omega))) ?_
        refine sr rfl rfl rfl ((q_loadEl rfl rfl rfl (by exact fun w hw => Stb.cl (by assumption) hw) (by intro hc; omega))) ?_
        refine sw_x rfl rfl rfl (e_build1 (α := Int) rfl rfl rfl rfl) (fun s54 => ?_)
        refine sw_x rfl rfl rfl (e_build1 (α := SlV) rfl rfl rfl rfl) (fun s55 => ?_)
        refine sw_x rfl rfl rfl (e_append (i := 2) rfl (.cons rfl inferInstance (.cons rfl inferInstance (.nil))) rfl rfl (by exact fun w hw => rd_own hw (by exact .head _)) (by simp only [List.length_set, List.length_append, List.length_cons, List.length_nil, List.length_replicate, List.length_take, List.length_drop, List.length_map]; omega) rfl) (fun s56 => ?_)
        refine sr rfl rfl rfl ((q_assign rfl rfl)) (sw_nil (post_blk (post_then (cw_region (sr rfl rfl rfl ((q_move rfl rfl)) ?_)))))
        refine sr rfl rfl rfl ((q_add rfl rfl rfl (by intro hc; omega))) ?_
        refine sr rfl rfl rfl ((q_assign rfl rfl)) (sw_nil ?_)
        refine post_next (s56, V ++ [s54]) ?_ (fun w3 hw3 => ?_) (by simp; omega) (by simp; omega)
        · exact Le.cons rfl (Le.cons rfl (Le.cons rfl (Le.cons' rfl (by congr 1; simp) Le.nil)))
        · simp only
          rw [rowsF_snoc]
          exact (hw3.perm (rows_perm (F := []))).tail
    · skip
      have hV' : V.length = l.length := by simp only [decide_eq_false_iff_not] at h; omega
      have hMt : ∀ {w1 : World} {H : List Asn}, Cl w [] (H ++ (ownL 28 s5.v V :: rowsF 3 V (fun i => [nth l i]))) w1 → Stb w1 [] (fun w' => Mt w' s5.v V (one1 l)) := fun {w1 H} hw => mt_own (s := s5) (e := 28) hw (List.mem_append_right _ (.head _)) (by omega) (fun i hi => ⟨3, by
        have : nth (one1 l) i = [nth l i] := by rw [nth_get hi, nth_get (by omega)]; simp [one1]
        rw [this]
        exact List.mem_append_right _ (.tail _ (rowsF_mem (f := fun i => [nth l i]) (by omega)))⟩)
      refine cw_exit (post_then_x (post_then_x (post_blk_eq (post_then (cw_seq (cw_region (sr rfl rfl rfl ((q_move rfl rfl)) (sr rfl rfl rfl ((q_move rfl rfl)) ?_))))))))
      refine sw_x rfl rfl rfl (e_call (CanCall.mk Tryz.call60) rfl (.cons rfl inferInstance (.cons rfl inferInstance (.nil))) (fun w hw => least_yes n (by omega) s5 V (one1 l) w (hMt (H := []) hw) (covE_one hn hb h24) hP)) (fun y => ?_)
      refine sw_imp fun hy => ?_
      obtain ⟨sb, lb⟩ := y
      dsimp only at hy ⊢
      have hnp := (poss_one (l := l) (n := n) (by omega) hb).1 hP
      rw [least_one (by omega) hb hnp] at hy
      have hlb : fstTo l l.length = lb := Option.some.inj hy
      refine sr rfl rfl rfl ((q_move rfl rfl)) (sr rfl rfl rfl ((q_extract rfl rfl rfl)) (sr rfl rfl rfl ((q_extract rfl rfl rfl)) (sr rfl rfl rfl ((q_assign rfl rfl)) (sr rfl rfl rfl ((q_assign rfl rfl)) (sw_nil (post_then (cw_seq (cw_seq (cw_region (sr rfl rfl rfl ((q_move rfl rfl)) ?_))))))))))
      refine sr rfl rfl rfl ((q_len rfl (.cons rfl inferInstance (.nil)) (by exact fun w hw => rd_own hw (by exact .tail _ (.head _))))) ?_
      refine sr rfl rfl rfl ((q_gtr rfl rfl rfl)) (sw_nil (post_then ?_))
      refine cw_cond rfl (fun h2 => ?_) (fun h2 => ?_)
      · skip
        exfalso
        simp only [decide_eq_true_eq] at h2
        omega
      · skip
        clear h2
        refine cw_skip (post_then (cw_seq (cw_region (sr rfl rfl rfl ((q_assign rfl rfl)) (sw_nil (post_then (cw_seq (cw_region (sr rfl rfl rfl ((q_move rfl rfl)) ?_)))))))))
        refine sw_x rfl rfl rfl (e_make (α := Bool) (zero := false) rfl rfl rfl rfl rfl (by omega) (by omega) (by decide)) (fun s77 => ?_)
        rw [Int.toNat_natCast, cvL_zero]
        refine sr rfl rfl rfl ((q_assign rfl rfl)) (sw_nil (post_then (cw_seq (cw_seq (cw_region (sr rfl rfl rfl ((q_assign rfl rfl)) (sw_nil (post_then (cw_block ?_)))))))))
        refine cw_loop (S := Nat × SlV) (fun z => [(0, [], .int .i64 n), (1, [], sl.v), (7, [], sb.v), (8, [], .int .i64 0), (9, [], z.2.v), (10, [], s77.v), (11, [], .int .i64 z.1)]) (fun z => Cl w [] [ownL 3 z.2.v (fstTo l z.1), ownL 4 s77.v (cvL n (maskTo l z.1)), ownL 3 sb.v lb]) (fun z => z.1 ≤ l.length) (fun z => l.length - z.1) (0, ⟨none, 0, 0⟩) (Nat.zero_le _) (by exact .cons rfl (.cons rfl (.cons rfl (.cons rfl (.cons rfl (.cons rfl (.cons rfl .nil))))))) (fun w' hw => ?_) ?_
        · refine Cl.addNil (α := Int) 3 ?_
          exact (fun w h => Cl.sel (by exact .take 0 rfl (.take 0 rfl (.nil _))) w h) w' hw
        rintro ⟨i, s9⟩ hi
        dsimp only at hi ⊢
        refine cw_seq (cw_seq (cw_region (sr rfl rfl rfl ((q_move rfl rfl)) (sr rfl rfl rfl ((q_move rfl rfl)) ?_))))
        refine sr rfl rfl rfl ((q_len rfl (.cons rfl inferInstance (.nil)) (by exact fun w hw => Stb.cl (by assumption) hw))) ?_
        refine sr rfl rfl rfl ((q_lss rfl rfl rfl)) (sw_nil (post_then ?_))
        refine cw_cond rfl (fun h3 => ?_) (fun h3 => ?_)
        · skip
          have hi' : i < l.length := by simp only [decide_eq_true_eq] at h3; omega
          have hbv := hb _ (nth_mem hi')
          have hcl := cvL_len n (maskTo l i)
          have hbit := cvL_nth (n := n) (i := (nth l i).toNat) (by omega) (maskTo l i)
          have hfl : (fstTo l i).length ≤ i := fst_le l i
          refine cw_skip (post_then (cw_seq (cw_block (cw_seq (cw_region (sr rfl rfl rfl ((q_move rfl rfl)) (sr rfl rfl rfl ((q_move rfl rfl)) (sr rfl rfl rfl ((q_move rfl rfl)) ?_))))))))
          refine sr rfl rfl rfl ((q_indexN rfl rfl rfl (by exact fun w hw => Stb.cl (by assumption) hw) (by intro hc; omega))) ?_
          refine sr rfl rfl rfl ((q_loadEl rfl rfl rfl (by exact fun w hw => Stb.cl (by assumption) hw) (by intro hc; omega))) ?_
          refine sr rfl rfl rfl ((q_index rfl rfl rfl (by exact fun w hw => rd_own hw (by exact .tail _ (.head _))) (by intro hc; omega))) ?_
          refine sr rfl rfl rfl ((q_loadEl rfl rfl rfl (by exact fun w hw => rd_own hw (by exact .tail _ (.head _))) (by intro hc; omega))) ?_
          refine sr rfl rfl rfl ((q_not rfl rfl)) (sw_nil (post_then ?_))
          rw [hbit]
          refine cw_cond rfl (fun h4 => ?_) (fun h4 => ?_)
          · skip
            have h5 : ¬ (maskTo l i).testBit (nth l i).toNat = true := by simpa using h4
            have e5 : fstTo l (i + 1) = fstTo l i ++ [(i : Int)] := by rw [fstTo, if_neg h5]
            refine cw_seq (cw_region (sr rfl rfl rfl ((q_move rfl rfl)) (sr rfl rfl rfl ((q_move rfl rfl)) (sr rfl rfl rfl ((q_move rfl rfl)) ?_))))
            refine sr rfl rfl rfl ((q_indexN rfl rfl rfl (by exact fun w hw => Stb.cl (by assumption) hw) (by intro hc; omega))) ?_
            refine sr rfl rfl rfl ((q_loadEl rfl rfl rfl (by exact fun w hw => Stb.cl (by assumption) hw) (by intro hc; omega))) ?_
            refine sr rfl rfl rfl ((q_index rfl rfl rfl (by exact fun w hw => rd_own hw (by exact .tail _ (.head _))) (by intro hc; omega))) ?_
            refine sw_eff0 rfl rfl (e_storeEl1 (i := 1) rfl rfl rfl rfl rfl (by omega)) ?_
            refine sw_nil (post_then (cw_region (sr rfl rfl rfl ((q_move rfl rfl)) (sr rfl rfl rfl ((q_move rfl rfl)) ?_))))
            refine sw_x rfl rfl rfl (e_build1 (α := Int) rfl rfl rfl rfl) (fun s100 => ?_)
            refine sw_x rfl rfl rfl (e_append (i := 1) rfl (.cons rfl inferInstance (.cons rfl inferInstance (.nil))) rfl rfl (by exact fun w hw => rd_own hw (by exact .head _)) (by simp only [List.length_set, List.length_append, List.length_cons, List.length_nil, List.length_replicate, List.length_take, List.length_drop, List.length_map]; omega) rfl) (fun s101 => ?_)
            refine sr rfl rfl rfl ((q_assign rfl rfl)) (sw_nil (post_blk (post_then (cw_region (sr rfl rfl rfl ((q_move rfl rfl)) ?_)))))
            refine sr rfl rfl rfl ((q_add rfl rfl rfl (by intro hc; omega))) ?_
            refine sr rfl rfl rfl ((q_assign rfl rfl)) (sw_nil ?_)
            refine post_next (i + 1, s101) (by exact .cons rfl (.cons rfl (.cons rfl (.cons rfl (.cons rfl (.cons rfl (.cons rfl .nil))))))) (fun w3 hw3 => ?_) (by simp only; omega) (by simp only; omega)
            rw [e5, maskTo_or, ← cvL_set (by omega)]
            exact (fun w h => Cl.sel (by exact .take 1 rfl (.take 1 rfl (.take 1 rfl (.nil _)))) w h) w3 hw3
          · skip
            have h5 : (maskTo l i).testBit (nth l i).toNat = true := by simpa using h4
            have e5 : fstTo l (i + 1) = fstTo l i := by rw [fstTo, if_pos h5, List.append_nil]
            refine cw_skip (post_blk (post_then (cw_region (sr rfl rfl rfl ((q_move rfl rfl)) ?_))))
            refine sr rfl rfl rfl ((q_add rfl rfl rfl (by intro hc; omega))) ?_
            refine sr rfl rfl rfl ((q_assign rfl rfl)) (sw_nil ?_)
            refine post_next (i + 1, s9) (by exact .cons rfl (.cons rfl (.cons rfl (.cons rfl (.cons rfl (.cons rfl (.cons rfl .nil))))))) (fun w3 hw3 => ?_) (by simp only; omega) (by simp only; omega)
            rw [e5, maskTo_or, cvL_same h5]
            exact hw3
        · skip
          have hi' : i = l.length := by simp only [decide_eq_false_iff_not] at h3; omega
          subst hi'
          have hfl : (fstTo l l.length).length ≤ l.length := fst_le l l.length
          have hfn := fst_cnt hb (Nat.le_refl _)
          have hfn2 := sumB_bd (f := (maskTo l l.length).testBit) n
          refine cw_exit (post_then_x (post_then_x (post_blk_eq (post_then (cw_seq (cw_seq (cw_region (sr rfl rfl rfl ((q_move rfl rfl)) ?_))))))))
          refine sr rfl rfl rfl ((q_len rfl (.cons rfl inferInstance (.nil)) (by exact fun w hw => rd_own hw (by exact .head _)))) ?_
          refine sr rfl rfl rfl ((q_move rfl rfl)) (sr rfl rfl rfl ((q_lss rfl rfl rfl)) (sw_nil (post_then ?_)))
          refine cw_cond rfl (fun h6 => ?_) (fun h6 => ?_)
          · skip
            exfalso
            simp only [decide_eq_true_eq] at h6
            omega
          · skip
            refine cw_skip (post_then (cw_seq (cw_region (sr rfl rfl rfl ((q_move rfl rfl)) (sr rfl rfl rfl ((q_eql rfl rfl rfl)) (sr rfl rfl rfl ((q_move rfl rfl)) (sr rfl rfl rfl ((q_move rfl rfl)) (sr rfl rfl rfl ((q_move rfl rfl)) ?_))))))))
            refine sw_step rfl rfl rfl (q_call (CanCall.mk Tryz.call23) rfl (.cons rfl inferInstance (.cons rfl inferInstance (.nil))) (fun _ w hw => callq hw (same_true _ _ lb (fstTo l l.length) hlb.symm w (stb_own (e := 3) hw (by exact .tail _ (.tail _ (.head _)))) (stb_own (e := 3) hw (by exact .head _))))) ?_
            refine sr rfl rfl rfl ((q_and2 rfl rfl rfl)) (sr rfl rfl rfl ((q_move rfl rfl)) (sw_step rfl rfl rfl (q_call (CanCall.mk Tryz.call18) rfl (.nil) (fun _ w hw => callq hw (known_spec w))) (sr rfl rfl rfl ((q_and2 rfl rfl rfl)) (sr rfl rfl rfl ((q_assign rfl rfl)) (sw_nil (post_then (cw_ret (post_ret1 rfl (resOk_tmp rfl) ?_))))))))
            exact fun w' hw => ⟨by simp, (fun w h => Cl.sel (by exact .nil _) w h) w' hw⟩
theorem lawMany_out (n : Int) (sl : SlV) (l : List Int) (w : World) (hl : Stb w [] (RdL sl.v l)) (h0 : ¬ ((0 ≤ n ∧ n ≤ 20) ∧ 20 ≤ l.length ∧ l.length ≤ 30)) :
    Calls Tryz.prog 16 #[.int .i64 n, sl.v] w fun e w' => e = .returned (.bool true) ∧ Cl w [] [] w' := by
  refine calls_cw (vs := [_, _]) Tryz.func16 rfl Tryz.ntmps16 rfl (Cl.start0 w) (cw_seq (cw_region (sr rfl rfl rfl ((q_assign rfl rfl)) (sw_nil (post_then (cw_seq (cw_seq (cw_region (sr rfl rfl rfl ((q_move rfl rfl)) (sr rfl rfl rfl ((q_lss rfl rfl rfl)) (sr rfl rfl rfl ((q_move rfl rfl)) (sr rfl rfl rfl ((q_move rfl rfl)) (sr rfl rfl rfl ((q_gtr rfl rfl rfl)) (sr rfl rfl rfl ((q_or2 rfl rfl rfl)) (sr rfl rfl rfl ((q_move rfl rfl)) (sr rfl rfl rfl ((q_move rfl rfl)) ?_))))))))))))))))
  refine sr rfl rfl rfl ((q_len rfl (.cons rfl inferInstance (.nil)) (by exact fun w hw => Stb.cl (by assumption) hw))) ?_
  refine sr rfl rfl rfl ((q_lss rfl rfl rfl)) (sr rfl rfl rfl ((q_or2 rfl rfl rfl)) (sr rfl rfl rfl ((q_move rfl rfl)) (sr rfl rfl rfl ((q_move rfl rfl)) ?_)))
  refine sr rfl rfl rfl ((q_len rfl (.cons rfl inferInstance (.nil)) (by exact fun w hw => Stb.cl (by assumption) hw))) ?_
  refine sr rfl rfl rfl ((q_gtr rfl rfl rfl)) (sr rfl rfl rfl ((q_or2 rfl rfl rfl)) (sw_nil (post_then ?_)))
  refine cw_cond rfl (fun h => ?_) (fun h => ?_)
  · skip
    refine cw_seq (cw_region (sw_step rfl rfl rfl (q_call (CanCall.mk Tryz.call18) rfl (.nil) (fun _ w hw => callq hw (known_spec w))) (sr rfl rfl rfl ((q_assign rfl rfl)) (sw_nil (post_then (cw_ret (post_then_r (post_ret1 rfl (resOk_tmp rfl) ?_))))))))
    exact fun w' hw => ⟨rfl, hw⟩
  · skip
    exfalso
    simp only [Bool.or_eq_false_iff, decide_eq_false_iff_not] at h
    omega
theorem lawMany_wrong (n : Nat) (hn : n ≤ 20) (sl : SlV) (l : List Int) (h20 : 20 ≤ l.length) (h30 : l.length ≤ 30) (w : World) (hl : Stb w [] (RdL sl.v l)) (hb : ¬ ∀ x ∈ l, 0 ≤ x ∧ x < (n : Int)) :
    Calls Tryz.prog 16 #[.int .i64 n, sl.v] w fun e w' => e = .returned (.bool true) ∧ Cl w [] [] w' := by
  refine calls_cw (vs := [_, _]) Tryz.func16 rfl Tryz.ntmps16 rfl (Cl.start0 w) (cw_seq (cw_region (sr rfl rfl rfl ((q_assign rfl rfl)) (sw_nil (post_then (cw_seq (cw_seq (cw_region (sr rfl rfl rfl ((q_move rfl rfl)) (sr rfl rfl rfl ((q_lss rfl rfl rfl)) (sr rfl rfl rfl ((q_move rfl rfl)) (sr rfl rfl rfl ((q_move rfl rfl)) (sr rfl rfl rfl ((q_gtr rfl rfl rfl)) (sr rfl rfl rfl ((q_or2 rfl rfl rfl)) (sr rfl rfl rfl ((q_move rfl rfl)) (sr rfl rfl rfl ((q_move rfl rfl)) ?_))))))))))))))))
  refine sr rfl rfl rfl ((q_len rfl (.cons rfl inferInstance (.nil)) (by exact fun w hw => Stb.cl (by assumption) hw))) ?_
  refine sr rfl rfl rfl ((q_lss rfl rfl rfl)) (sr rfl rfl rfl ((q_or2 rfl rfl rfl)) (sr rfl rfl rfl ((q_move rfl rfl)) (sr rfl rfl rfl ((q_move rfl rfl)) ?_)))
  refine sr rfl rfl rfl ((q_len rfl (.cons rfl inferInstance (.nil)) (by exact fun w hw => Stb.cl (by assumption) hw))) ?_
  refine sr rfl rfl rfl ((q_gtr rfl rfl rfl)) (sr rfl rfl rfl ((q_or2 rfl rfl rfl)) (sw_nil (post_then ?_)))
  refine cw_cond rfl (fun h => ?_) (fun h => ?_)
  · skip
    exfalso
    simp only [Bool.or_eq_true, decide_eq_true_eq] at h
    omega
  · skip
    clear h
    refine cw_skip (post_then (cw_seq (cw_region (sr rfl rfl rfl ((q_assign rfl rfl)) (sw_nil (post_then (cw_seq (cw_seq (cw_region (sr rfl rfl rfl ((q_assign rfl rfl)) (sw_nil (post_then (cw_block ?_)))))))))))))
    refine cw_loop (S := SlV × List SlV) (fun z => [(0, [], .int .i64 n), (1, [], sl.v), (5, [], z.1.v), (6, [], .int .i64 z.2.length)]) (fun z => Cl w [] (ownL 28 z.1.v z.2 :: rowsF 3 z.2 (fun i => [nth l i]))) (fun z => z.2.length ≤ l.length ∧ ∀ j, j < z.2.length → 0 ≤ nth l j ∧ nth l j < n) (fun z => l.length - z.2.length) (⟨none, 0, 0⟩, []) ⟨Nat.zero_le _, fun j hj => by simp at hj⟩ (by exact .cons rfl (.cons rfl (.cons rfl (.cons rfl .nil)))) (fun _ h => h.addNil (α := SlV) 28) ?_
    rintro ⟨s5, V⟩ ⟨hV, hVb⟩
    dsimp only at hV hVb ⊢
    refine cw_seq (cw_seq (cw_region (sr rfl rfl rfl ((q_move rfl rfl)) (sr rfl rfl rfl ((q_move rfl rfl)) ?_))))
    refine sr rfl rfl rfl ((q_len rfl (.cons rfl inferInstance (.nil)) (by exact fun w hw => Stb.cl (by assumption) hw))) ?_
    refine sr rfl rfl rfl ((q_lss rfl rfl rfl)) (sw_nil (post_then ?_))
    refine cw_cond rfl (fun h => ?_) (fun h => ?_)
    · skip
      have hV' : V.length < l.length := by simp only [decide_eq_true_eq] at h; omega
      refine cw_skip (post_then (cw_seq (cw_block (cw_seq (cw_seq (cw_region (sr rfl rfl rfl ((q_move rfl rfl)) (sr rfl rfl rfl ((q_move rfl rfl)) ?_))))))))
      refine sr rfl rfl rfl ((q_indexN rfl rfl rfl (by exact fun w hw => Stb.cl (by assumption) hw) (by intro hc; omega))) ?_
      refine sr rfl rfl rfl ((q_loadEl rfl rfl rfl (by exact fun w hw => Stb.cl (by assumption) hw) (by intro hc; omega))) ?_
      refine sr rfl rfl rfl ((q_lss rfl rfl rfl)) (sr rfl rfl rfl ((q_move rfl rfl)) (sr rfl rfl rfl ((q_move rfl rfl)) (sr rfl rfl rfl ((q_move rfl rfl)) ?_)))
      refine sr rfl rfl rfl ((q_indexN rfl rfl rfl (by exact fun w hw => Stb.cl (by assumption) hw) (by intro hc; omega))) ?_
      refine sr rfl rfl rfl ((q_loadEl rfl rfl rfl (by exact fun w hw => Stb.cl (by assumption) hw) (by intro hc; omega))) ?_
      refine sr rfl rfl rfl ((q_move rfl rfl)) (sr rfl rfl rfl ((q_geq rfl rfl rfl)) (sr rfl rfl rfl ((q_or2 rfl rfl rfl)) (sw_nil (post_then ?_))))
      refine cw_cond rfl (fun h2 => ?_) (fun h2 => ?_)
      · skip
        refine cw_seq (cw_region (sw_step rfl rfl rfl (q_call (CanCall.mk Tryz.call18) rfl (.nil) (fun _ w hw => callq hw (known_spec w))) (sr rfl rfl rfl ((q_assign rfl rfl)) (sw_nil (post_then (cw_ret (post_then_r (post_blk_r (post_then_r (post_then_r (post_blk_r (post_then_r (post_ret1 rfl (resOk_tmp rfl) ?_)))))))))))))
        exact fun w' hw => ⟨rfl, cl_drop (F := []) hw⟩
      · skip
        simp only [Bool.or_eq_false_iff, decide_eq_false_iff_not] at h2
        refine cw_skip (post_then (cw_region (sr rfl rfl rfl ((q_move rfl rfl)) (sr rfl rfl rfl ((q_move rfl rfl)) (sr rfl rfl rfl ((q_move rfl rfl)) ?_)))))
        refine sr rfl rfl rfl ((q_indexN rfl rfl rfl (by exact fun w hw => Stb.cl (by assumption) hw) (by intro hc; omega))) ?_
        refine sr rfl rfl rfl ((q_loadEl rfl rfl rfl (by exact fun w hw => Stb.cl (by assumption) hw) (by intro hc; omega))) ?_
        refine sw_x rfl rfl rfl (e_build1 (α := Int) rfl rfl rfl rfl) (fun s54 => ?_)
        refine sw_x rfl rfl rfl (e_build1 (α := SlV) rfl rfl rfl rfl) (fun s55 => ?_)
        refine sw_x rfl rfl rfl (e_append (i := 2) rfl (.cons rfl inferInstance (.cons rfl inferInstance (.nil))) rfl rfl (by exact fun w hw => rd_own hw (by exact .head _)) (by simp only [List.length_set, List.length_append, List.length_cons, List.length_nil, List.length_replicate, List.length_take, List.length_drop, List.length_map]; omega) rfl) (fun s56 => ?_)
        refine sr rfl rfl rfl ((q_assign rfl rfl)) (sw_nil (post_blk (post_then (cw_region (sr rfl rfl rfl ((q_move rfl rfl)) ?_)))))
        refine sr rfl rfl rfl ((q_add rfl rfl rfl (by intro hc; omega))) ?_
        refine sr rfl rfl rfl ((q_assign rfl rfl)) (sw_nil ?_)
        refine post_next (s56, V ++ [s54]) ?_ (fun w3 hw3 => ?_) ⟨by simp; omega, fun j hj => ?_⟩ (by simp; omega)
        · exact Le.cons rfl (Le.cons rfl (Le.cons rfl (Le.cons' rfl (by congr 1; simp) Le.nil)))
        · simp only
          rw [rowsF_snoc]
          exact (hw3.perm (rows_perm (F := []))).tail
        · simp only [List.length_append, List.length_singleton] at hj
          by_cases e : j = V.length
          · rw [e]; omega
          · exact hVb j (by omega)
    · skip
      exfalso
      have hV' : V.length = l.length := by simp only [decide_eq_false_iff_not] at h; omega
      refine hb fun x hx => ?_
      obtain ⟨i, hi, rfl⟩ := List.getElem_of_mem hx
      have := hVb i (by omega)
      rwa [nth_get hi] at this
theorem lawMany (n : Int) (sl : SlV) (l : List Int) (w : World) (hl : Stb w [] (RdL sl.v l)) :
    Calls Tryz.prog 16 #[.int .i64 n, sl.v] w fun e w' => e = .returned (.bool true) ∧ Cl w [] [] w' := by
  by_cases h0 : (0 ≤ n ∧ n ≤ 20) ∧ 20 ≤ l.length ∧ l.length ≤ 30
  · obtain ⟨m, rfl⟩ : ∃ m : Nat, n = m := ⟨n.toNat, by omega⟩
    by_cases hb : ∀ x ∈ l, 0 ≤ x ∧ x < (m : Int)
    · by_cases h24 : 24 < l.length
      · exact lawMany_long m (by omega) sl l h0.2.1 h0.2.2 w hl hb h24
      · cases hP : possN m (msOf (one1 l))
        · exact lawMany_none m (by omega) sl l h0.2.1 h0.2.2 w hl hb (by omega) hP
        · exact lawMany_yes m (by omega) sl l h0.2.1 h0.2.2 w hl hb (by omega) hP
    · exact lawMany_wrong m (by omega) sl l h0.2.1 h0.2.2 w hl hb
  · exact lawMany_out n sl l w hl h0
end Go.Proofs.YtomjbfeafodfbaaGreat

/-
  What came in, opened by its type: cells and what they read as, whatever the shape. General lemmas, no program text.
-/
set_option autoImplicit false
namespace Go.Sx
open Go.ChangeShapes Go.WideShapes Go.ChangeAt Go.RowKit Go.WideElems
/-- A value of type t that came in: its cells are those of some x; it reads as some y. -/
class Deep (P : Program) (t : TypeId) (α β : outParam Type) [Enc α] where
  rd : α → β → World → Prop
  keep : ∀ {a : α} {b : β} {w w' : World}, rd a b w → Chg [] w w' → rd a b w'
  opens : ∀ {H : Type} {enc : TypeId × Value → H} {w : World} {sp : Nat → Bool} {fuel : Nat} {cs : List Value} {x : DataW H × List MemPlace}, DataW.trod enc P w 0 sp true fuel t cs = some x → ∃ a b, cs = Enc.enc a ∧ rd a b w
  vals : ∀ {w : World} {r : Reach} {b0 : Nat} {v : Value} {a : α}, Value.okWide P w r b0 t v → v.cells = (Enc.enc a).toArray → v = Enc.val a
theorem open_deep {P : Program} {t : TypeId} {α β : Type} [Enc α] [hD : Deep P t α β] {H : Type} {enc : TypeId × Value → H} {W : World} {r : Reach} {b0 : Nat} {v : Value} {d : DataW H} {ps : List MemPlace}
    (hval : Value.okWide P W r b0 t v) (hd : DataW.Trod enc P W 0 (fun _ => true) true t v d ps) : ∃ (a : α) (b : β), v = Enc.val a ∧ Stb W [] (hD.rd a b) := by
  obtain ⟨fuel, hf⟩ := hd
  obtain ⟨a, b, hc, hr⟩ := hD.opens hf
  exact ⟨a, b, hD.vals hval (by rw [← hc]), ⟨fun w' k => hD.keep hr k⟩⟩
/-- int -/
@[reducible] def deepInt {P : Program} {t : TypeId} (ht : P.underlying t = some (.int .i64)) : Deep P t Int Int where
  rd a b _ := a = b ∧ -9223372036854775808 ≤ b ∧ b ≤ 9223372036854775807
  keep h _ := h
  opens h := by
    obtain ⟨n, h1, _, hw⟩ := DataW.trod_int ht h
    refine ⟨n, n, h1, rfl, ?_⟩
    have e1 : IntKind.i64.min = -9223372036854775808 := by decide
    have e2 : IntKind.i64.max = 9223372036854775807 := by decide
    simp [Lit.wf, e1, e2] at hw
    omega
  vals hv hc := by
    obtain ⟨n, rfl⟩ := okWide_int ht hv
    simpa [Value.cells, Enc.enc, Enc.val] using hc
@[reducible] def deepBool {P : Program} {t : TypeId} (ht : P.underlying t = some .bool) : Deep P t Bool Bool where
  rd a b _ := a = b
  keep h _ := h
  opens h := by
    obtain ⟨n, h1, _⟩ := DataW.trod_bool ht h
    exact ⟨n, n, h1, rfl⟩
  vals hv hc := by
    obtain ⟨n, rfl⟩ := okWide_bool ht hv
    simpa [Value.cells, Enc.enc, Enc.val] using hc
@[reducible] def deepString {P : Program} {t : TypeId} (ht : P.underlying t = some .string) : Deep P t ByteArray ByteArray where
  rd a b _ := a = b ∧ b.size ≤ maxLen
  keep h _ := h
  opens h := by
    obtain ⟨n, h1, _, hw⟩ := DataW.trod_string ht h
    exact ⟨n, n, h1, rfl, hw⟩
  vals hv hc := by
    obtain ⟨n, rfl⟩ := okWide_string ht hv
    simpa [Value.cells, Enc.enc, Enc.val] using hc
/-- Slices. -/
def rdSl {α β : Type} [Enc α] (rd : α → β → World → Prop) (s : SlV) (l : List β) (w : World) : Prop :=
  ∃ ls : List α, RdL s.v ls w ∧ ls.length = l.length ∧ ∀ (i : Nat) (a : α) (b : β), ls[i]? = some a → l[i]? = some b → rd a b w
theorem rdSl_flat {α : Type} [Enc α] {rd : α → α → World → Prop} (hf : ∀ a b w, rd a b w → a = b) {s : SlV} {l : List α} {w : World} (h : rdSl rd s l w) : RdL s.v l w := by
  obtain ⟨ls, h1, h2, h3⟩ := h
  have : ls = l := by
    refine List.ext_getElem h2 fun i hi hj => ?_
    exact hf _ _ _ (h3 i _ _ (List.getElem?_eq_getElem hi) (List.getElem?_eq_getElem hj))
  rw [← this]; exact h1
theorem stb_flat {α : Type} [Enc α] {rd : α → α → World → Prop} (hf : ∀ a b w, rd a b w → a = b) {s : SlV} {l : List α} {w : World} {fp : List Nat} (h : Stb w fp (rdSl rd s l)) : Stb w fp (RdL s.v l) := ⟨fun w' k => rdSl_flat hf (h.stb w' k)⟩
theorem rdSl_mem {α β : Type} [Enc α] {rd : α → β → World → Prop} {p : β → Prop} (hf : ∀ a b w, rd a b w → p b) {s : SlV} {l : List β} {w : World} (h : rdSl rd s l w) : ∀ b ∈ l, p b := by
  obtain ⟨ls, h1, h2, h3⟩ := h
  intro b hb
  obtain ⟨i, hi, rfl⟩ := List.getElem_of_mem hb
  exact hf _ _ _ (h3 i _ _ (List.getElem?_eq_getElem (by omega)) (List.getElem?_eq_getElem hi))
theorem pick {α : Type} {n : Nat} {p : Nat → α → Prop} (h : ∀ i, i < n → ∃ a, p i a) : ∃ l : List α, l.length = n ∧ ∀ i a, l[i]? = some a → p i a := by
  induction n with
  | zero => exact ⟨[], rfl, fun i a h => by simp at h⟩
  | succ n ih =>
    obtain ⟨l, hl, hp⟩ := ih fun i hi => h i (by omega)
    obtain ⟨a, ha⟩ := h n (by omega)
    refine ⟨l ++ [a], by simp [hl], fun i b hb => ?_⟩
    by_cases hi : i < n
    · rw [List.getElem?_append_left (by omega)] at hb; exact hp i b hb
    · by_cases hi' : i = n
      · subst hi'
        rw [List.getElem?_append_right (by omega), hl] at hb
        simp at hb; subst hb; exact ha
      · rw [List.getElem?_eq_none (by simp; omega)] at hb; cases hb
/-- A row of cells as the memory holds it. -/
theorem cells_at {w : World} {base : Nat} {a : Addr} {n : Nat} {cs : List Value} (h : w.cells? base a n = some cs) : cs.length = n ∧ ∀ j v, cs[j]? = some v → w.cell? (a.add j) = some v := by
  unfold World.cells? at h
  split at h
  · have hl := mapM_some_length h
    rw [List.length_range] at hl
    refine ⟨hl, fun j v hj => ?_⟩
    have hlt := (List.getElem?_eq_some_iff.1 hj).1
    have := mapM_some_get h j j (List.getElem?_range (by omega))
    rw [this, hj]
  · cases h
@[reducible] def deepSlice {P : Program} {t e : TypeId} {α β : Type} [Enc α] (ht : P.underlying t = some (.slice e)) (hc : P.cellsOf e = Enc.sz α) [hD : Deep P e α β] : Deep P t SlV (List β) where
  rd := rdSl hD.rd
  keep := fun ⟨ls, h1, h2, h3⟩ k => ⟨ls, (rd_stb h1).stb _ k, h2, fun i a b ha hb => hD.keep (h3 i a b ha hb) k⟩
  opens {H enc w sp fuel cs x} h := by
    rcases DataW.trod_slice ht h with ⟨rfl, _⟩ | ⟨a, len, cap, elems, rest, n, _, rfl, _, _, hl, hm, hlen, hel, _, _⟩
    · exact ⟨⟨none, 0, 0⟩, [], rfl, [], ⟨none, 0, 0, rfl, rfl, Nat.le_refl _, by simp [maxLen], fun i x j v hx => by simp at hx⟩, rfl, fun i a b h => by simp at h⟩
    · have key : ∀ i, i < len → ∃ y : α × β, (∀ j v, (Enc.enc y.1)[j]? = some v → w.cell? ((a.add (i * Enc.sz α)).add j) = some v) ∧ hD.rd y.1 y.2 w := by
        intro i hi
        have h1 := hel i hi
        rw [hc] at h1
        have h2 : ∃ z, elems[i]? = some z := ⟨_, List.getElem?_eq_getElem (by omega)⟩
        obtain ⟨z, hz⟩ := h2
        rw [hz, Option.bind_eq_some_iff] at h1
        obtain ⟨cs', hcs, hy⟩ := h1
        obtain ⟨x, y, hx, hr⟩ := hD.opens hy
        refine ⟨(x, y), fun j v hj => ?_, hr⟩
        rw [← hx] at hj
        exact (cells_at hcs).2 j v hj
      obtain ⟨l, hl2, hp⟩ := pick key
      refine ⟨⟨some a, len, cap⟩, l.map (·.2), rfl, l.map (·.1), ⟨some a, len, cap, rfl, by simpa using hl2, hl, hm, fun i x j v hx hv => ⟨a, rfl, ?_⟩⟩, by simp, fun i x y hx hy => ?_⟩
      · rw [List.getElem?_map, Option.map_eq_some_iff] at hx
        obtain ⟨z, hz, rfl⟩ := hx
        have := (hp i z hz).1 j v hv
        rw [addr_add_assoc] at this
        exact this
      · rw [List.getElem?_map, Option.map_eq_some_iff] at hx hy
        obtain ⟨z, hz, rfl⟩ := hx
        obtain ⟨z', hz', rfl⟩ := hy
        rw [hz] at hz'; cases hz'
        exact (hp i z hz).2
  vals hv hc' := by
    obtain ⟨a0, len, cap, rfl⟩ := okWide_slice ht hv
    rename_i a
    simpa [Value.cells, Enc.enc, Enc.val] using hc'
/-- A field of a struct. -/
theorem trod_fld {P : Program} {t : TypeId} {fs : Array Field} {H : Type} {enc : TypeId × Value → H} {w : World} {sp : Nat → Bool} {fuel : Nat} {cs : List Value} {x : DataW H × List MemPlace} (ht : P.underlying t = some (.struct fs))
    (h : DataW.trod enc P w 0 sp true fuel t cs = some x) (i : Nat) {f : Field} (hf : fs[i]? = some f) {ty off c : Nat} (e1 : f.type = ty) (e2 : f.offset = off) (e3 : P.cellsOf ty = c) : ∃ n y, DataW.trod enc P w 0 sp true n ty ((cs.drop off).take c) = some y := by
  subst e1 e2 e3
  obtain ⟨xs, n, _, _, _, hl, hx⟩ := DataW.trod_struct ht h
  have := hx i f hf
  have hi := (Array.getElem?_eq_some_iff.1 hf).1
  rw [List.getElem?_eq_getElem (by omega)] at this
  exact ⟨n, _, this⟩
theorem trod_len {P : Program} {t : TypeId} {fs : Array Field} {H : Type} {enc : TypeId × Value → H} {w : World} {sp : Nat → Bool} {fuel : Nat} {cs : List Value} {x : DataW H × List MemPlace} (ht : P.underlying t = some (.struct fs))
    (h : DataW.trod enc P w 0 sp true fuel t cs = some x) : cs.length = P.cellsOf t := by
  obtain ⟨xs, n, _, _, h1, _⟩ := DataW.trod_struct ht h
  exact h1
theorem vals_struct {P : Program} {t : TypeId} {fs : Array Field} {α : Type} [Enc α] (ht : P.underlying t = some (.struct fs)) (hv : ∀ a : α, Enc.val a = .agg (Enc.enc a).toArray) {w : World} {r : Reach} {b0 : Nat} {v : Value} {a : α} (hok : Value.okWide P w r b0 t v) (hc : v.cells = (Enc.enc a).toArray) : v = Enc.val a := by
  obtain ⟨cs, rfl, _⟩ := okWide_struct ht hok
  rw [hv]
  simp [Value.cells] at hc
  rw [hc]
end Go.Sx

set_option autoImplicit false
set_option maxRecDepth 100000
namespace Go.Proofs.YtomjbfeafodfbaaGreat
open Go.Sx
instance : Deep Tryz.prog 3 Int Int := deepInt Tryz.underlying3
instance : Deep Tryz.prog 9 ByteArray ByteArray := deepString Tryz.underlying9
theorem cells3 : Tryz.prog.cellsOf 3 = 1 := by kernel_rfl
theorem cells9 : Tryz.prog.cellsOf 9 = 1 := by kernel_rfl
theorem cells28 : Tryz.prog.cellsOf 28 = 1 := by kernel_rfl
instance dL : Deep Tryz.prog 28 SlV (List Int) := deepSlice Tryz.underlying28 (by kernel_rfl)
instance : Deep Tryz.prog 31 SlV (List (List Int)) := deepSlice Tryz.underlying31 (by kernel_rfl)
theorem mt_of {w : World} {s : SlV} {l : List (List Int)} {rd : Int → Int → World → Prop} (hf : ∀ a b w, rd a b w → a = b) (h : Stb w [] (rdSl (rdSl rd) s l)) : ∃ vs, Stb w [] (fun w' => Mt w' s.v vs l) := by
  obtain ⟨vs, h1, h2, h3⟩ := h.here
  have hm : Mt w s.v vs l := ⟨h1, h2, fun i hi => rdSl_flat hf (h3 i _ _ (nth_some (by omega)) (nth_some hi))⟩
  exact ⟨vs, hm.stb⟩
structure UnIn (u : Un) (w : World) : Prop where
  s1 : u.phone.size ≤ maxLen
  s2 : u.before.size ≤ maxLen
  s3 : u.after.size ≤ maxLen
  b : RdL u.bs.v u.bl w
  e : RdL u.es.v u.el w
instance dUn : Deep Tryz.prog 49 Un Un where
  rd a b w := a = b ∧ UnIn b w
  keep := fun ⟨h1, h2⟩ k => ⟨h1, h2.s1, h2.s2, h2.s3, (rd_stb h2.b).stb _ k, (rd_stb h2.e).stb _ k⟩
  opens {H enc w sp fuel cs x} h := by
    have hl := trod_len Tryz.underlying49 h
    obtain ⟨_, _, h0⟩ := trod_fld Tryz.underlying49 h 0 rfl rfl rfl cells9
    obtain ⟨_, _, h1⟩ := trod_fld Tryz.underlying49 h 1 rfl rfl rfl cells9
    obtain ⟨_, _, h2⟩ := trod_fld Tryz.underlying49 h 2 rfl rfl rfl cells9
    obtain ⟨_, _, h3⟩ := trod_fld Tryz.underlying49 h 3 rfl rfl rfl cells3
    obtain ⟨_, _, h4⟩ := trod_fld Tryz.underlying49 h 4 rfl rfl rfl cells3
    obtain ⟨_, _, h5⟩ := trod_fld Tryz.underlying49 h 5 rfl rfl rfl cells3
    obtain ⟨_, _, h6⟩ := trod_fld Tryz.underlying49 h 6 rfl rfl rfl cells3
    obtain ⟨_, _, h7⟩ := trod_fld Tryz.underlying49 h 7 rfl rfl rfl cells3
    obtain ⟨_, _, h8⟩ := trod_fld Tryz.underlying49 h 8 rfl rfl rfl cells28
    obtain ⟨_, _, h9⟩ := trod_fld Tryz.underlying49 h 9 rfl rfl rfl cells28
    obtain ⟨x0, _, e0, rfl, z0⟩ := (deepString Tryz.underlying9).opens h0
    obtain ⟨x1, _, e1, rfl, z1⟩ := (deepString Tryz.underlying9).opens h1
    obtain ⟨x2, _, e2, rfl, z2⟩ := (deepString Tryz.underlying9).opens h2
    obtain ⟨x3, _, e3, _⟩ := (deepInt Tryz.underlying3).opens h3
    obtain ⟨x4, _, e4, _⟩ := (deepInt Tryz.underlying3).opens h4
    obtain ⟨x5, _, e5, _⟩ := (deepInt Tryz.underlying3).opens h5
    obtain ⟨x6, _, e6, _⟩ := (deepInt Tryz.underlying3).opens h6
    obtain ⟨x7, _, e7, _⟩ := (deepInt Tryz.underlying3).opens h7
    obtain ⟨x8, l8, e8, r8⟩ := dL.opens h8
    obtain ⟨x9, l9, e9, r9⟩ := dL.opens h9
    rw [show Tryz.prog.cellsOf 49 = 10 by kernel_rfl] at hl
    match cs, hl with
    | [c0, c1, c2, c3, c4, c5, c6, c7, c8, c9], _ =>
    simp [Enc.enc] at e0 e1 e2 e3 e4 e5 e6 e7 e8 e9
    subst e0 e1 e2 e3 e4 e5 e6 e7 e8 e9
    exact ⟨⟨x0, x1, x2, x3, x4, x5, x6, x7, x8, x9, l8, l9⟩, _, rfl, rfl, z0, z1, z2, rdSl_flat (fun a b w h => h.1) r8, rdSl_flat (fun a b w h => h.1) r9⟩
  vals := vals_struct Tryz.underlying49 fun _ => rfl
structure WaIn (t : Wan) : Prop where
  s1 : t.phone.size ≤ maxLen
  s2 : t.before.size ≤ maxLen
  s3 : t.after.size ≤ maxLen
instance dWan : Deep Tryz.prog 51 Wan Wan where
  rd a b _ := a = b ∧ WaIn b
  keep h _ := h
  opens {H enc w sp fuel cs x} h := by
    have hl := trod_len Tryz.underlying51 h
    obtain ⟨_, _, h0⟩ := trod_fld Tryz.underlying51 h 0 rfl rfl rfl cells9
    obtain ⟨_, _, h1⟩ := trod_fld Tryz.underlying51 h 1 rfl rfl rfl cells9
    obtain ⟨_, _, h2⟩ := trod_fld Tryz.underlying51 h 2 rfl rfl rfl cells9
    obtain ⟨_, _, h3⟩ := trod_fld Tryz.underlying51 h 3 rfl rfl rfl cells3
    obtain ⟨_, _, h4⟩ := trod_fld Tryz.underlying51 h 4 rfl rfl rfl cells3
    obtain ⟨x0, _, e0, rfl, z0⟩ := (deepString Tryz.underlying9).opens h0
    obtain ⟨x1, _, e1, rfl, z1⟩ := (deepString Tryz.underlying9).opens h1
    obtain ⟨x2, _, e2, rfl, z2⟩ := (deepString Tryz.underlying9).opens h2
    obtain ⟨x3, _, e3, _⟩ := (deepInt Tryz.underlying3).opens h3
    obtain ⟨x4, _, e4, _⟩ := (deepInt Tryz.underlying3).opens h4
    rw [show Tryz.prog.cellsOf 51 = 5 by kernel_rfl] at hl
    match cs, hl with
    | [c0, c1, c2, c3, c4], _ =>
    simp [Enc.enc] at e0 e1 e2 e3 e4
    subst e0 e1 e2 e3 e4
    exact ⟨⟨x0, x1, x2, x3, x4⟩, _, rfl, rfl, z0, z1, z2⟩
  vals := vals_struct Tryz.underlying51 fun _ => rfl
instance dWts : Deep Tryz.prog 25 Wts Wts where
  rd a b _ := a = b
  keep h _ := h
  opens {H enc w sp fuel cs x} h := by
    have hl := trod_len Tryz.underlying25 h
    obtain ⟨_, _, h0⟩ := trod_fld Tryz.underlying25 h 0 rfl rfl rfl cells3
    obtain ⟨_, _, h1⟩ := trod_fld Tryz.underlying25 h 1 rfl rfl rfl cells3
    obtain ⟨_, _, h2⟩ := trod_fld Tryz.underlying25 h 2 rfl rfl rfl cells3
    obtain ⟨_, _, h3⟩ := trod_fld Tryz.underlying25 h 3 rfl rfl rfl cells3
    obtain ⟨x0, _, e0, _⟩ := (deepInt Tryz.underlying3).opens h0
    obtain ⟨x1, _, e1, _⟩ := (deepInt Tryz.underlying3).opens h1
    obtain ⟨x2, _, e2, _⟩ := (deepInt Tryz.underlying3).opens h2
    obtain ⟨x3, _, e3, _⟩ := (deepInt Tryz.underlying3).opens h3
    rw [show Tryz.prog.cellsOf 25 = 4 by kernel_rfl] at hl
    match cs, hl with
    | [c0, c1, c2, c3], _ =>
    simp [Enc.enc] at e0 e1 e2 e3
    subst e0 e1 e2 e3
    exact ⟨⟨x0, x1, x2, x3⟩, _, rfl, rfl⟩
  vals := vals_struct Tryz.underlying25 fun _ => rfl
instance : Deep Tryz.prog 22 SlV (List Un) := deepSlice Tryz.underlying22 (by kernel_rfl)
instance : Deep Tryz.prog 23 SlV (List Wan) := deepSlice Tryz.underlying23 (by kernel_rfl)
/-- A unit, units, targets that came in. -/
theorem un_in {w : World} {u : Un} (h : UnIn u w) : ∃ x : Unit, Stb w [] (fun w' => UnIn u w') := ⟨(), ⟨fun w' k => ⟨h.s1, h.s2, h.s3, (rd_stb h.b).stb w' k, (rd_stb h.e).stb w' k⟩⟩⟩
end Go.Proofs.YtomjbfeafodfbaaGreat
