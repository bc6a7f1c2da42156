/-
  A slice that grows while a part of it is read through another name. General lemmas, no program text.
-/
import Derived.Test.YtekikelejncgeaaSxSlice
import Derived.Test.YtekikelejncgeaaSxMore
set_option autoImplicit false
set_option linter.unusedSimpArgs false
set_option linter.unusedVariables false
set_option linter.unusedSectionVars false
namespace Go.Sx
open Enc (enc val)

theorem append_alias {P : Program} {α : Type} [Enc α] {w : World} {t e ty : TypeId} {sz bytes : Nat} {z : List Value} {s : SlV} {sw : Value} {l r : List α} {bs : List Nat} [ht : SlT P t e] [hi : InfoT P e sz bytes z] (hsz : sz = Enc.sz α)
    (hown : (ownL e s.v l).holds w bs) (hrd : RdL sw r w) (hb : (l.length + r.length) * bytes ≤ 140737488355328) (hb1 : 1 ≤ bytes) :
    ∃ (v : SlV) (w' : World), (Builtin.append_ #[t, t] ty #[s.v, sw]).run P w = .ok v.v w' ∧ ((Cl w bs [ownL e v.v (l ++ r)] w' ∧ v.addr = s.addr ∧ v.cap = s.cap) ∨ Cl w [] [ownL e v.v (l ++ r)] w') := by
  obtain ⟨sa, sn, sc⟩ := s
  simp only [SlV.v] at hown ⊢
  obtain ⟨i, z0, h1, h2, h3, h4, h5, h6⟩ := hi.info
  obtain ⟨ad, m, c, rfl, hm, hmc, hcm, hcell⟩ := hrd
  subst hsz hm
  have hp := Enc.pos (α := α)
  have hnews : ∀ (a : Addr), ad = some a → ∀ j u, (r.flatMap enc)[j]? = some u → w.cell? (a.add j) = some u := by
    intro a ha j u hu
    obtain ⟨x, hx, hu'⟩ := flat_inv r j u hu
    obtain ⟨b, hb', hc⟩ := hcell _ x _ u hx hu'
    rw [ha] at hb'; cases hb'
    rw [Nat.mul_comm, Nat.div_add_mod] at hc
    exact hc
  have hsmall : l.length + r.length ≤ 140737488355328 := Nat.le_trans (Nat.le_mul_of_pos_right _ hb1) hb
  have hzc : z0.cells.size = Enc.sz α := by rw [h5]; simpa using h6
  -- what grows
  have grown : ∀ (old : Nat), Cl w [] [ownL e (.slice (some ⟨w.heap.size, 0, none⟩) (l.length + r.length) (grownCap w (l.length + r.length) old e)) (l ++ r)]
      (w.drew.alloc (.cells ((l.flatMap enc).toArray ++ (r.flatMap enc).toArray ++ Builtin.zeroCells z0.cells (grownCap w (l.length + r.length) old e - (l.length + r.length))) e)) := by
    intro old
    have hge := grownCap_ge w (l.length + r.length) old e
    have hle := grownCap_le_maxLen w (l.length + r.length) old e (by simp only [maxLen]; omega)
    have := cl_own_new (e := e) (l := l ++ r) (cap := grownCap w (l.length + r.length) old e)
      (cur := (l.flatMap enc).toArray ++ (r.flatMap enc).toArray ++ Builtin.zeroCells z0.cells (grownCap w (l.length + r.length) old e - (l.length + r.length))) w.drew (by simpa using hge) hle
      (by simp only [Array.size_append, List.size_toArray, flat_len, size_zeroCells, hzc, ← Nat.add_mul]; congr 1; omega)
      (by
        simp only [Array.toList_append, List.flatMap_append]
        rw [List.toList_toArray, List.toList_toArray, List.take_left' (by rw [List.length_append, flat_len, flat_len, List.length_append, Nat.add_mul])])
    rw [List.length_append] at this
    exact this.drew_start
  by_cases hr0 : r = []
  · -- nothing is appended
    subst hr0
    rcases hown with ⟨hsv, hl, rfl⟩ | ⟨b, n', sc, cur, hsv, rfl, g3, g4, g5, g6, g7, g8⟩ <;> cases hsv
    · have hl0 : l = [] := by
        have := flat_len l
        rw [hl] at this
        rcases Nat.mul_eq_zero.1 this.symm with h | h
        · exact List.eq_nil_of_length_eq_zero h
        · omega
      subst hl0
      refine ⟨⟨none, 0, 0⟩, w, ?_, .inl ⟨⟨Chg.refl _ _, [], ⟨[], [], rfl, .inl ⟨rfl, rfl, rfl⟩, rfl⟩, by simp, by simp⟩, rfl, rfl⟩⟩
      simp [SlV.v, Builtin.append_, run_underlying ht.und, sizeOf, typeInfo, h1, Builtin.lenOf, Builtin.firstCells, loadCells, loadCellsFrom]
      cases ad <;> simp [Builtin.firstCells, loadCells, loadCellsFrom]
    · have hn' : sn = l.length := by
        rw [flat_len] at g7; exact (Nat.eq_of_mul_eq_mul_right hp g7).symm
      subst hn'
      refine ⟨⟨some ⟨b, 0, none⟩, l.length, sc⟩, w, ?_, .inl ⟨⟨Chg.refl _ _, [b], ⟨[b], [], rfl, .inr ⟨b, l.length, sc, cur, rfl, rfl, g3, g4, g5, g6, by simpa using g7, by simpa using g8⟩, rfl⟩, by simp, fun k hk => ?_⟩, rfl, rfl⟩⟩
      · simp [SlV.v, Builtin.append_, run_underlying ht.und, sizeOf, typeInfo, h1, Builtin.lenOf, Builtin.firstCells, loadCells, loadCellsFrom, g4]
        cases ad <;> simp [Builtin.firstCells, loadCells, loadCellsFrom, storeCells]
      · simp at hk; subst hk
        exact ⟨.inl (by simp), (Array.getElem?_eq_some_iff.1 g3).1⟩
  · have hpos : 0 < r.length := List.length_pos_iff.2 hr0
    have hex : ∃ a, ad = some a := by
      have hj : 0 < (enc r[0]).length := by rw [Enc.len]; exact hp
      obtain ⟨b, hb', _⟩ := hcell 0 r[0] 0 _ (List.getElem?_eq_getElem hpos) (List.getElem?_eq_getElem hj)
      exact ⟨b, hb'⟩
    obtain ⟨a, rfl⟩ := hex
    have hn := hnews a rfl
    rcases hown with ⟨hsv, hl, rfl⟩ | ⟨b, n', sc, cur, hsv, rfl, g3, g4, g5, g6, g7, g8⟩ <;> cases hsv
    · have hl0 : l = [] := by
        have := flat_len l
        rw [hl] at this
        rcases Nat.mul_eq_zero.1 this.symm with h | h
        · exact List.eq_nil_of_length_eq_zero h
        · omega
      subst hl0
      have hr := run_append_nil (P := P) w t ty e i z0 ht.und h1 h4 a r.length c (r.flatMap enc) (by rw [flat_len, h2]) hn hpos (by simp at hsmall; omega) (by rw [h3]; simp at hb; omega)
      have hg := grown 0
      simp only [List.length_nil, Nat.zero_add, List.flatMap_nil, List.nil_append] at hg
      refine ⟨⟨some ⟨w.heap.size, 0, none⟩, r.length, grownCap w r.length 0 e⟩, _, hr, .inr ?_⟩
      simp only [List.nil_append]
      rw [Array.empty_append] at hg
      exact hg
    · have hn' : sn = l.length := by
        rw [flat_len] at g7; exact (Nat.eq_of_mul_eq_mul_right hp g7).symm
      subst hn'
      by_cases hroom : l.length + r.length ≤ sc
      · have hfit : l.length * i.size + (r.flatMap enc).length ≤ cur.size := by
          rw [flat_len, h2, g6, ← Nat.add_mul]; exact Nat.mul_le_mul_right _ hroom
        have hr := run_append_room (P := P) w t ty e i ht.und h1 b l.length sc cur g3 a r.length c (r.flatMap enc) (by rw [flat_len, h2]) hn (flat_one r) hroom hfit
        refine ⟨⟨_, _, _⟩, _, hr, .inl ⟨cl_setRow g3 fun w' h' => .inr ⟨b, _, sc, _, rfl, rfl, h', hroom, g5, ?_, ?_, ?_⟩, rfl, rfl⟩⟩
        · simp only [List.size_toArray, List.length_append, List.length_take, List.length_drop, Array.length_toList]; omega
        · rw [flat_len, List.length_append]
        · rw [h2, g8, List.flatMap_append, Nat.add_mul]
          rw [List.take_left']
          rw [List.length_append, flat_len, flat_len]
      · have holds : ∀ j u, (l.flatMap enc)[j]? = some u → w.cell? ((⟨b, 0, none⟩ : Addr).add j) = some u := by
          intro j u hu
          rw [addr_add, Nat.zero_add, cell_at g3]
          rw [← g8, List.getElem?_take] at hu
          split at hu
          · simpa using hu
          · simp at hu
        have hr := run_append_grow (P := P) w t ty e i z0 ht.und h1 h4 ⟨b, 0, none⟩ l.length sc (l.flatMap enc) (by rw [flat_len, h2]) holds a r.length c (r.flatMap enc) (by rw [flat_len, h2]) hn (by omega) (by omega) (growslice_fits (by omega) (by rw [h3]; exact hb))
        exact ⟨⟨_, _, _⟩, _, hr, .inr (grown sc)⟩

section
variable {α : Type} [Enc α] {e : TypeId}
/-- The call's own slice s that reads as l, and what it was: s0, which reads as l0. -/
def keepA (e : TypeId) (s : SlV) (l : List α) (s0 : SlV) (l0 : List α) : Asn :=
  ⟨fun w bs => (s.addr = s0.addr ∧ s.cap = s0.cap ∧ l0 <+: l ∧ s0.len = l0.length ∧ (ownL e s.v l).holds w bs) ∨ ∃ b1 b2, bs = b1 ++ b2 ∧ (ownL e s.v l).holds w b1 ∧ (ownL e s0.v l0).holds w b2,
   fun w w' bs h hk => by
    rcases h with ⟨h1, h2, h3, h4, h5⟩ | ⟨b1, b2, rfl, h1, h2⟩
    · exact .inl ⟨h1, h2, h3, h4, (ownL e s.v l).loc _ _ _ h5 hk⟩
    · exact .inr ⟨b1, b2, rfl, (ownL e s.v l).loc _ _ _ h1 fun b hb => hk b (by simp [hb]), (ownL e s0.v l0).loc _ _ _ h2 fun b hb => hk b (by simp [hb])⟩⟩
variable {s : SlV} {l : List α} {s0 : SlV} {l0 : List α} {w0 w : World} {fp : List Nat} {H F : List Asn}
theorem keep_cases (h : Cl w0 fp ([keepA e s l s0 l0] ++ F) w) : (s.addr = s0.addr ∧ s.cap = s0.cap ∧ l0 <+: l ∧ s0.len = l0.length ∧ Cl w0 fp ([ownL e s.v l] ++ F) w) ∨ Cl w0 fp ([ownL e s.v l] ++ ([ownL e s0.v l0] ++ F)) w := by
  obtain ⟨hc, bs, ⟨b1, b2, rfl, h1, h2⟩, hn, hb⟩ := h
  rcases h1 with ⟨g1, g2, g3, g4, g5⟩ | ⟨c1, c2, rfl, g1, g2⟩
  · exact .inl ⟨g1, g2, g3, g4, hc, _, ⟨b1, b2, rfl, g5, h2⟩, hn, hb⟩
  · exact .inr ⟨hc, _, ⟨c1, c2 ++ b2, by simp, g1, c2, b2, rfl, g2, h2⟩, hn, hb⟩
theorem keep_same (h1 : s.addr = s0.addr) (h2 : s.cap = s0.cap) (h3 : l0 <+: l) (h4 : s0.len = l0.length) (h : Cl w0 fp ([ownL e s.v l] ++ F) w) : Cl w0 fp ([keepA e s l s0 l0] ++ F) w := by
  obtain ⟨hc, bs, ⟨b1, b2, rfl, g1, g2⟩, hn, hb⟩ := h
  exact ⟨hc, _, ⟨b1, b2, rfl, .inl ⟨h1, h2, h3, h4, g1⟩, g2⟩, hn, hb⟩
theorem keep_other (h : Cl w0 fp ([ownL e s.v l] ++ ([ownL e s0.v l0] ++ F)) w) : Cl w0 fp ([keepA e s l s0 l0] ++ F) w := by
  obtain ⟨hc, bs, ⟨b1, b2, rfl, g1, c1, c2, rfl, g2, g3⟩, hn, hb⟩ := h
  exact ⟨hc, _, ⟨b1 ++ c1, c2, by simp, .inr ⟨b1, c1, rfl, g1, g2⟩, g3⟩, hn, hb⟩
theorem keep_start (hl : s.len = l.length) (h : Cl w0 fp (ownL e s.v l :: H) w) : Cl w0 fp (keepA e s l s l :: H) w := keep_same rfl rfl (List.prefix_refl _) hl h
theorem keep_end (h : Cl w0 fp (keepA e s l s0 l0 :: H) w) : Cl w0 fp (ownL e s.v l :: H) w := by
  rcases keep_cases h with ⟨_, _, _, _, h⟩ | h
  · exact h
  · exact (Cl.perm (.swap _ _ _) h).tail
theorem keep_rd0 (h : Cl w0 fp H w) (hm : keepA e s l s0 l0 ∈ H) : RdL s0.v l0 w := by
  obtain ⟨bs, h⟩ := h.get hm
  rcases h with ⟨h1, h2, h3, h4, h5⟩ | ⟨b1, b2, rfl, h1, h2⟩
  · obtain ⟨ad, n, cap, e1, g1, g2, g3, g4⟩ := ownL.rd h5
    simp only [SlV.v, Value.slice.injEq] at e1
    obtain ⟨e1, e2, e3⟩ := e1
    have hlen := h3.length_le
    refine ⟨s0.addr, s0.len, s0.cap, rfl, h4.symm, by omega, by omega, fun i x j v hx hv => ?_⟩
    rw [← h1, e1]
    refine g4 i x j v ?_ hv
    obtain ⟨r, rfl⟩ := h3
    rw [List.getElem?_append_left (List.getElem?_eq_some_iff.1 hx).1, hx]
  · exact ownL.rd h2
theorem keep_rd (h : Cl w0 fp H w) (hm : keepA e s l s0 l0 ∈ H) : RdL s.v l w := by
  obtain ⟨bs, h⟩ := h.get hm
  rcases h with ⟨h1, h2, h3, h4, h5⟩ | ⟨b1, b2, rfl, h1, h2⟩
  · exact ownL.rd h5
  · exact ownL.rd h1
theorem own_prefix {bs : List Nat} (h1 : s.addr = s0.addr) (h2 : s.cap = s0.cap) (h3 : l0 <+: l) (h4 : s0.len = l0.length) (h : (ownL e s.v l).holds w bs) : (ownL e s0.v l0).holds w bs := by
  obtain ⟨sa, sn, sc⟩ := s
  obtain ⟨ta, tn, tc⟩ := s0
  obtain ⟨r, rfl⟩ := h3
  simp only at h1 h2 h4
  subst h1 h2 h4
  simp only [SlV.v] at h ⊢
  have hp := Enc.pos (α := α)
  rcases h with ⟨hsv, hl, rfl⟩ | ⟨b, n', cap, cur, hsv, rfl, g3, g4, g5, g6, g7, g8⟩ <;> cases hsv
  · have h0 : l0 = [] := by
      rw [List.flatMap_append, List.append_eq_nil_iff] at hl
      have := flat_len l0
      rw [hl.1] at this
      rcases Nat.mul_eq_zero.1 this.symm with h | h
      · exact List.eq_nil_of_length_eq_zero h
      · omega
    subst h0
    exact .inl ⟨rfl, rfl, rfl⟩
  · have hn : sn = l0.length + r.length := by
      rw [flat_len, List.length_append] at g7; exact (Nat.eq_of_mul_eq_mul_right hp g7).symm
    subst hn
    refine .inr ⟨b, _, sc, cur, rfl, rfl, g3, by omega, g5, g6, by rw [flat_len], ?_⟩
    have : (cur.toList.take ((l0.length + r.length) * Enc.sz α)).take (l0.length * Enc.sz α) = ((l0 ++ r).flatMap enc).take (l0.length * Enc.sz α) := by rw [g8]
    rw [List.take_take, Nat.min_eq_left (Nat.mul_le_mul_right _ (by omega)), List.flatMap_append, List.take_left' (by rw [flat_len])] at this
    exact this
/-- The full slice: s[:n:n], n its length. -/
def SlV.cut (s : SlV) (n : Nat) : SlV := ⟨s.addr, n, n⟩
theorem rd_cut (h : RdL s0.v l0 w) : RdL (s0.cut l0.length).v l0 w := by
  obtain ⟨ad, n, cap, e, g1, g2, g3, g4⟩ := h
  simp only [SlV.v, Value.slice.injEq] at e
  obtain ⟨rfl, rfl, rfl⟩ := e
  exact ⟨s0.addr, l0.length, l0.length, rfl, rfl, Nat.le_refl _, by omega, g4⟩
end
section
variable {α : Type} [Enc α] {P : Program} {ops : Array Oper} {n : Fr} {E : Env} {C : World → Prop} {cs : List Bool} {o : Oper} {w0 : World} {fp : List Nat} {H : List Asn}
theorem e_appendK {t e : TypeId} {sz bytes : Nat} {z : List Value} {ops' : List Operand} {s s0 : SlV} {sw : Value} {l l0 r : List α} {i : Nat} (ho : o.op = .call { callee := .builtin .append, args := ops'.toArray, argTypes := #[t, t] }) (hv : Evs E [] ops' [s.v, sw])
    [ht : SlT P t e] [hi : InfoT P e sz bytes z] (hsz : sz = Enc.sz α) (hi' : nthA H i = some (keepA e s l s0 l0)) (hrd : ∀ w, Cl w0 fp H w → RdL sw r w) (hb : (l.length + r.length) * bytes ≤ 140737488355328) (hb1 : Nat.ble 1 bytes = true) :
    OpE P n E (Cl w0 fp H) o (fun u w' => ∃ s' : SlV, u = s'.v ∧ Cl w0 fp (setA H i (keepA e s' (l ++ r) s0 l0)) w') :=
  .of_run fun a w ha hw => by
    have key : ∃ (v : SlV) (w' : World), (Builtin.append_ #[t, t] o.type #[s.v, sw]).run P w = .ok v.v w' ∧ Cl w0 fp ([keepA e v (l ++ r) s0 l0] ++ delA H i) w' := by
      rcases keep_cases (hw.focus hi') with ⟨g1, g2, g3, g4, g5⟩ | g
      · obtain ⟨bs, ⟨b1, b2, rfl, hown, rfl⟩, k2, k3, _, _, h6⟩ := g5.split
        simp only [List.append_nil] at h6 k2 k3
        obtain ⟨v, w', hr, hc⟩ := append_alias (P := P) (ty := o.type) (t := t) hsz hown (hrd w hw) hb (Nat.le_of_ble_eq_true hb1)
        refine ⟨v, w', hr, ?_⟩
        rcases hc with ⟨hc, k1, k2⟩ | hc
        · exact keep_same (k1.trans g1) (k2.trans g2) (g3.trans (List.prefix_append _ _)) g4 (h6 _ _ hc)
        · have := g5.split0.2.2 _ _ hc
          obtain ⟨q1, bs, ⟨b1, b2, rfl, q2, c1, c2, rfl, q3, q4⟩, q5, q6⟩ := this
          exact keep_other ⟨q1, _, ⟨b1, c1 ++ c2, rfl, q2, c1, c2, rfl, own_prefix g1 g2 g3 g4 q3, q4⟩, q5, q6⟩
      · obtain ⟨bs, ⟨b1, b2, rfl, hown, rfl⟩, _, _, _, _, h6⟩ := g.split
        simp only [List.append_nil] at h6
        obtain ⟨v, w', hr, hc⟩ := append_core (P := P) (ty := o.type) (t := t) hsz hown (hrd w hw) hb (Nat.le_of_ble_eq_true hb1)
        exact ⟨v, w', hr, keep_other (h6 _ _ hc)⟩
    obtain ⟨v, w', hr, hc⟩ := key
    refine ⟨v.v, w', ?_, v, rfl, hc.set hi'⟩
    unfold execOp; simp only [ho]
    simp only [resolve, invoke, List.map_toArray, hv.eval ha AllT.nil, Sem.run_bind, Sem.run_pure, Result.andThen_ok]
    simp [builtin, hr]
theorem run_slice_cut {t e : TypeId} {sz : Nat} [ht : SlT P t e] [hz : SzT P e sz] {s : SlV} {w : World} {b : Nat} {hi : Option Value} (hb : (Instr.sliceBounds true s.len s.cap none hi hi).run P w = .ok (0, b, b) w) :
    (Instr.sliceAt t s.v none hi hi).run P w = .ok (s.cut b).v w := by
  have e1 := run_underlying (P := P) (w := w) ht.und
  have e2 : ∀ a : Addr, a.add 0 = a := fun a => by simp [Addr.add]
  simp [Instr.sliceAt, Instr.slice, e1, hb, hz.sz, Result.andThen, SlV.v, SlV.cut, e2]
theorem q_sliceF {t e : TypeId} {sz : Nat} {x y z : Operand} {cx cy cz : List Bool} {s : SlV} {l : List α} {b : Int} (ho : o.op = .slice t x none (some y) (some z)) (hx : evl E x = some (cx, s.v)) (hy : evl E y = some (cy, .int .i64 b)) (hz : evl E z = some (cz, .int .i64 b))
    [sx : Sub cx cs] [sy : Sub cy cs] [sz' : Sub cz cs] [ht : SlT P t e] [hs : SzT P e sz] (hrd : ∀ w, C w → RdL s.v l w) (h : AllT cs → b = l.length) : OpR P n E C cs o (s.cut l.length).v :=
  .of_run fun e he hc w hw => by
    obtain ⟨l1, l2, l3⟩ := rd_lens (hrd w hw)
    have h1 := h hc
    unfold execOp; simp only [ho]
    have e1 := he.eval hx sx hc
    have e2 := he.eval hy sy hc
    have e3 := he.eval hz sz' hc
    have := run_slice_cut (P := P) (t := t) (s := s) (w := w) (b := b.toNat) (hi := some (.int .i64 b)) (by
      have f1 := run_sliceBound (P := P) (w := w) .i64 b s.cap .slice3Acap (by omega) (by omega)
      have f2 := run_sliceBound (P := P) (w := w) .i64 b b.toNat .slice3B (by omega) (by omega)
      simp [Instr.sliceBounds, f1, f2, Result.andThen])
    rw [show b.toNat = l.length by omega] at this
    simp [e1, e2, e3, this, Result.andThen]
end
end Go.Sx
