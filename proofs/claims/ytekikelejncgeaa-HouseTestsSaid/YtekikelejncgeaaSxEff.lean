/-
  Operations that change memory, in the layer of symbolic frames. General lemmas, no program text.
-/
import Derived.Test.YtekikelejncgeaaSxOps
set_option autoImplicit false
set_option linter.unusedSimpArgs false
set_option linter.unusedVariables false
namespace Go.Sx
open Enc (enc val)

class InfoT (P : Program) (e : TypeId) (sz bytes : outParam Nat) (z : outParam (List Value)) : Prop where
  info : ∃ i v, P.info? e = some i ∧ i.size = sz ∧ i.bytes = bytes ∧ i.zero = some v ∧ v.cells = z.toArray ∧ z.length = sz

theorem info_of {P : Program} {e : TypeId} {sz bytes : Nat} {v : Value} {z : List Value} (h : (P.info? e).map (fun i => (i.size, i.bytes, i.zero)) = some (sz, bytes, some v)) (hv : v.cells = z.toArray) (hz : z.length = sz) : InfoT P e sz bytes z := by
  obtain ⟨i, hi, he⟩ := Option.map_eq_some_iff.1 h
  simp only [Prod.mk.injEq] at he
  exact ⟨i, v, hi, he.1, he.2.1, he.2.2, hv, hz⟩

section
variable {P : Program} {ops : Array Oper} {n : Fr} {E : Env} {C : World → Prop} {Q : Exit → Act → World → Prop} {o : Oper} {rest : List Oper} {d : Nat}

/-- An effect whose value is told by x. -/
theorem sw_x {α : Type} {vf : α → Value} {C' : α → World → Prop} (hg : o.guard = none) (hd : o.dst = some d) (hn : Nat.ble (d + 1) n.sz = true)
    (hop : OpE P n E C o (fun v w' => ∃ x, v = vf x ∧ C' x w')) (h : ∀ x, SW P ops Q rest n ((d, [], vf x) :: E) (C' x)) : SW P ops Q (o :: rest) n E C :=
  sw_eff hg hd hn hop fun _ => sw_ex fun x => sw_imp fun hv => by subst hv; exact h x

theorem sw_xg {α : Type} {vf : α → Value} {C' : α → World → Prop} {cs : List Bool} (hg : gof ops E o.guard = some cs) (hcs : AllT cs) (hd : o.dst = some d) (hn : Nat.ble (d + 1) n.sz = true)
    (hop : OpE P n E C o (fun v w' => ∃ x, v = vf x ∧ C' x w')) (h : ∀ x, SW P ops Q rest n ((d, [], vf x) :: E) (C' x)) : SW P ops Q (o :: rest) n E C :=
  sw_effg hg hcs hd hn hop fun _ => sw_ex fun x => sw_imp fun hv => by subst hv; exact h x
/-! ### 1. Worlds -/
theorem chg_alloc (w : World) (ob : Obj) : Chg [] w (w.alloc ob) := ⟨rfl, rfl, rfl, by simp, fun k hk _ => RowKit.Below.heap_alloc w ob k hk⟩
theorem cl_obj (w : World) (ob : Obj) : Cl w [] [obj w.heap.size ob] (w.alloc ob) :=
  ⟨chg_alloc w ob, [w.heap.size], ⟨[w.heap.size], [], rfl, ⟨rfl, heap_alloc_new w ob⟩, rfl⟩, by simp, fun b hb => by simp at hb; subst hb; exact ⟨.inr (Nat.le_refl _), by simp⟩⟩
theorem cl_blk (w : World) (cs : List Value) (t : TypeId) : Cl w [] [blk w.heap.size cs t] (w.alloc (.cells cs.toArray t)) :=
  ⟨chg_alloc w _, [w.heap.size], ⟨[w.heap.size], [], rfl, ⟨rfl, heap_alloc_new w _⟩, rfl⟩, by simp, fun b hb => by simp at hb; subst hb; exact ⟨.inr (Nat.le_refl _), by simp⟩⟩
theorem Cl.drew {w0 w : World} {fp : List Nat} {H : List Asn} (h : Cl w0 fp H w) : Cl w0 fp H w.drew := (inferInstance : Drawn (Cl w0 fp H)).drawn w h
theorem Cl.drew_start {w w' : World} {fp : List Nat} {H : List Asn} (h : Cl w.drew fp H w') : Cl w fp H w' := ⟨⟨h.1.os, h.1.tape, h.1.output, h.1.size, h.1.block⟩, h.2⟩

/-- A nil slice owns nothing. -/
theorem Cl.addNil {α : Type} [Enc α] {w0 w : World} {fp : List Nat} {H : List Asn} (e : TypeId) (h : Cl w0 fp H w) : Cl w0 fp (ownL (α := α) e (.slice none 0 0) [] :: H) w :=
  ⟨h.1, h.2.imp fun _ ⟨hs, hn, hb⟩ => ⟨⟨[], _, rfl, .inl ⟨rfl, rfl, rfl⟩, hs⟩, hn, hb⟩⟩

/-! ### 2. New blocks -/
variable {w0 : World} {fp : List Nat} {H : List Asn}
theorem newVar_run (w : World) (t : TypeId) (v : Value) : (newVar t v).run P w = .ok ⟨w.heap.size, 0, none⟩ (w.alloc (.cells v.cells t)) := by simp [newVar, newRow]
def ptr (b : Nat) : Value := .pointer (some ⟨b, 0, none⟩)
theorem e_box {t : TypeId} {x : Operand} {cx : List Bool} {v : Value} {cells : List Value} (ho : o.op = .box t x) (hx : evl E x = some (cx, v)) [hs : Sub cx []] (hc : v.cells = cells.toArray) :
    OpE P n E (Cl w0 fp H) o (fun u w' => ∃ b, u = .pointer (some ⟨b, 0, none⟩) ∧ Cl w0 fp (blk b cells t :: H) w') :=
  .of_run fun a w ha hw => by
    refine ⟨_, _, ?_, w.heap.size, rfl, hw.split0.2.2 [blk w.heap.size cells t] _ (cl_blk w cells t)⟩
    unfold execOp; simp only [ho]; rw [ha.eval hx hs AllT.nil]
    simp [Instr.box, newVar_run, hc]
theorem e_alloc {t : TypeId} {sz bytes : Nat} {z : List Value} (ho : o.op = .alloc t) [hi : InfoT P t sz bytes z] :
    OpE P n E (Cl w0 fp H) o (fun u w' => ∃ b, u = .pointer (some ⟨b, 0, none⟩) ∧ Cl w0 fp (blk b z t :: H) w') :=
  .of_run fun a w ha hw => by
    obtain ⟨i, v, h1, h2, h3, h4, h5, h6⟩ := hi.info
    refine ⟨_, _, ?_, w.heap.size, rfl, hw.split0.2.2 [blk w.heap.size z t] _ (cl_blk w z t)⟩
    unfold execOp; simp only [ho]
    simp [Instr.alloc, zeroValue, typeInfo, h1, h4, newVar_run, h5]

/-! ### 3. Stores -/
def putL (cs : List Value) (k : Nat) (vs : List Value) : List Value := cs.take k ++ vs ++ cs.drop (k + vs.length)

theorem setRow_chg (w : World) (b : Nat) (cs : Array Value) : Chg [b] w (w.setRow b cs) := ⟨rfl, rfl, rfl, by simp, fun k _ hk => setRow_other w b k cs (by simpa using hk)⟩
theorem cl_setRow {w : World} {b : Nat} {A : Asn} {old cs : Array Value} {t : TypeId} (hb : w.heap[b]? = some (.cells old t (0, 0)))
    (hA : ∀ w', w'.heap[b]? = some (.cells cs t (0, 0)) → A.holds w' [b]) : Cl w [b] [A] (w.setRow b cs) := by
  have hlt : b < w.heap.size := (Array.getElem?_eq_some_iff.1 hb).1
  exact ⟨setRow_chg w b cs, [b], ⟨[b], [], rfl, hA _ (setRow_heap w b old cs t (0, 0) hb), rfl⟩, by simp, fun k hk => by simp at hk; subst hk; exact ⟨.inl (by simp), by simpa using hlt⟩⟩

theorem storeVar_run {w : World} {t : TypeId} {v : Value} {vs : List Value} {b k : Nat} {cur : Array Value} {t' : TypeId} {sz : Nat} [hz : SzT P t sz] (hv : v.cells = vs.toArray) (hl : vs.length = sz) (h1 : ∀ u, u ∈ vs → u.oneCell' = true)
    (hb : w.heap[b]? = some (.cells cur t' (0, 0))) (hk : k + vs.length ≤ cur.size) :
    (storeVar t ⟨b, k, none⟩ v).run P w = .ok () (w.setRow b (cur.toList.take k ++ vs ++ cur.toList.drop (k + vs.length)).toArray) := by
  have := run_storeCells_at P b k t' vs 0 cur w hb (by simpa using hk) h1
  simp only [Nat.add_zero] at this
  simp [storeVar, hz.sz, hv, hl, this]

/-- Into a block of the call's own. -/
theorem e_store {t t' : TypeId} {x y : Operand} {cx cy : List Bool} {b k : Nat} {v : Value} {vs cells : List Value} {sz i : Nat} (ho : o.op = .store t x y) (hx : evl E x = some (cx, .pointer (some ⟨b, k, none⟩))) (hy : evl E y = some (cy, v))
    [sx : Sub cx []] [sy : Sub cy []] [hz : SzT P t sz] (hi : nthA H i = some (blk b cells t')) (hv : v.cells = vs.toArray) (hl : vs.length = sz) (h1 : vs.all (·.oneCell') = true) (hk : Nat.ble (k + sz) cells.length = true) :
    OpE P n E (Cl w0 fp H) o (fun u w' => u = undef ∧ Cl w0 fp (setA H i (blk b (putL cells k vs) t')) w') :=
  .of_run0 fun a w ha hw => by
    obtain ⟨bs, ⟨b1, b2, rfl, ⟨rfl, hb⟩, rfl⟩, _, _, _, _, h6⟩ := (hw.focus hi).split
    have hk' := Nat.le_of_ble_eq_true hk
    have hr := storeVar_run (P := P) (w := w) (t := t) (v := v) (vs := vs) (b := b) (k := k) (cur := cells.toArray) (t' := t') hv hl (fun u hu => List.all_eq_true.1 h1 u hu) hb (by simp; omega)
    refine ⟨_, ?_, (h6 [blk b (putL cells k vs) t'] _ (cl_setRow (A := blk b (putL cells k vs) t') (cs := (putL cells k vs).toArray) hb fun w' h' => ⟨rfl, ?_⟩)).set hi⟩
    · unfold execOp; simp only [ho]; rw [ha.eval hx sx AllT.nil, ha.eval hy sy AllT.nil]
      simp [Instr.storeAt, Instr.sureAddr, hr, putL]
    · exact h'

theorem splice (A B C D vs : List Value) (k : Nat) (hk : k + vs.length ≤ B.length) :
    ((A ++ (B ++ (C ++ D))).take (A.length + k) ++ vs ++ (A ++ (B ++ (C ++ D))).drop (A.length + k + vs.length)).take (A.length + B.length + C.length) = A ++ putL B k vs ++ C := by
  have e1 : (A ++ (B ++ (C ++ D))).take (A.length + k) = A ++ B.take k := by rw [List.take_length_add_append, List.take_append_of_le_length (by omega)]
  have e2 : (A ++ (B ++ (C ++ D))).drop (A.length + k + vs.length) = B.drop (k + vs.length) ++ (C ++ D) := by rw [Nat.add_assoc, List.drop_length_add_append, List.drop_append_of_le_length (by omega)]
  rw [e1, e2]
  have e3 : A ++ B.take k ++ vs ++ (B.drop (k + vs.length) ++ (C ++ D)) = (A ++ putL B k vs ++ C) ++ D := by simp [putL]
  rw [e3]
  refine List.take_left' ?_
  simp only [putL, List.length_append, List.length_take, List.length_drop]
  omega
theorem splice_at (L vs : List Value) (m sz N k : Nat) (hk : k + vs.length ≤ sz) (h1 : m + sz ≤ N) (h2 : N ≤ L.length) :
    (L.take (m + k) ++ vs ++ L.drop (m + k + vs.length)).take N = (L.take N).take m ++ putL (((L.take N).drop m).take sz) k vs ++ (L.take N).drop (m + sz) := by
  have hL : L = L.take m ++ ((L.drop m).take sz ++ ((L.drop (m + sz)).take (N - m - sz) ++ L.drop N)) := by
    have a1 : (L.drop (m + sz)).take (N - m - sz) ++ L.drop N = L.drop (m + sz) := by
      have := List.take_append_drop (N - m - sz) (L.drop (m + sz))
      rw [List.drop_drop, show m + sz + (N - m - sz) = N by omega] at this
      exact this
    have a2 : (L.drop m).take sz ++ L.drop (m + sz) = L.drop m := by
      have := List.take_append_drop sz (L.drop m)
      rw [List.drop_drop] at this
      exact this
    rw [a1, a2, List.take_append_drop]
  have l1 : (L.take m).length = m := by rw [List.length_take]; omega
  have l2 : ((L.drop m).take sz).length = sz := by rw [List.length_take, List.length_drop]; omega
  have l3 : ((L.drop (m + sz)).take (N - m - sz)).length = N - m - sz := by rw [List.length_take, List.length_drop]; omega
  have h := splice (L.take m) ((L.drop m).take sz) ((L.drop (m + sz)).take (N - m - sz)) (L.drop N) vs k (by rw [l2]; exact hk)
  rw [← hL, l1, l2, l3, show m + sz + (N - m - sz) = N by omega] at h
  rw [h]
  have b1 : (L.take N).take m = L.take m := by rw [List.take_take, Nat.min_eq_left (by omega)]
  have b2 : ((L.take N).drop m).take sz = (L.drop m).take sz := by rw [List.drop_take, List.take_take, Nat.min_eq_left (by omega)]
  have b3 : (L.take N).drop (m + sz) = (L.drop (m + sz)).take (N - m - sz) := by rw [List.drop_take, show N - (m + sz) = N - m - sz by omega]
  rw [b1, b2, b3]

/-- Into an element of the call's own slice: y is what the element is then. -/
theorem e_storeEl {α : Type} [Enc α] [Inhabited α] {t e : TypeId} {x y : Operand} {cx cy : List Bool} {sv v : Value} {vs : List Value} {j sz k szt i : Nat} {l : List α} {u : α} (ho : o.op = .store t x y) (hx : evl E x = some (cx, elP sv j sz k)) (hy : evl E y = some (cy, v))
    [sx : Sub cx []] [sy : Sub cy []] [hz : SzT P t szt] (hi : nthA H i = some (ownL e sv l)) (hsz : sz = Enc.sz α) (hv : v.cells = vs.toArray) (hl : vs.length = szt) (h1 : vs.all (·.oneCell') = true)
    (hj : j < l.length) (hu : enc u = putL (enc (nth l j)) k vs) (hk0 : Nat.ble (k + szt) sz = true) :
    OpE P n E (Cl w0 fp H) o (fun u' w' => u' = undef ∧ Cl w0 fp (setA H i (ownL e sv (l.set j u))) w') :=
  .of_run0 fun a w ha hw => by
    have hk := Nat.le_of_ble_eq_true hk0
    obtain ⟨bs, ⟨b1, b2, rfl, hown, rfl⟩, _, _, _, _, h6⟩ := (hw.focus hi).split
    have hlen := flat_len l
    have hp := Enc.pos (α := α)
    subst hsz
    have hmul : j * Enc.sz α + Enc.sz α ≤ l.length * Enc.sz α := by
      rw [← Nat.succ_mul]; exact Nat.mul_le_mul_right _ hj
    rcases hown with ⟨_, h, _⟩ | ⟨b, m, cap, cur, rfl, rfl, h3, h4, h5, h7, h8, h9⟩
    · rw [h] at hlen; simp at hlen; omega
    · rw [hlen] at h8
      have hm := Nat.eq_of_mul_eq_mul_right hp h8
      subst hm
      have hcap : l.length * Enc.sz α ≤ cur.size := by rw [h7]; exact Nat.mul_le_mul_right _ h4
      have hr := storeVar_run (P := P) (w := w) (t := t) (v := v) (vs := vs) (b := b) (k := j * Enc.sz α + k) (cur := cur) (t' := e) hv hl (fun u hu => List.all_eq_true.1 h1 u hu) h3 (by omega)
      simp only [List.append_nil] at h6
      refine ⟨_, ?_, (h6 [ownL e _ (l.set j u)] _ (cl_setRow (A := ownL e _ (l.set j u)) (cs := (cur.toList.take (j * Enc.sz α + k) ++ vs ++ cur.toList.drop (j * Enc.sz α + k + vs.length)).toArray) h3 fun w' h' => .inr ⟨b, _, cap, _, rfl, rfl, h', h4, h5, ?_, ?_, ?_⟩)).set hi⟩
      · unfold execOp; simp only [ho]; rw [ha.eval hx sx AllT.nil, ha.eval hy sy AllT.nil]
        simp [elP, addr_add, Instr.storeAt, Instr.sureAddr, hr]
      · simp only [List.size_toArray, List.length_append, List.length_take, List.length_drop, Array.length_toList]; omega
      · rw [flat_len, List.length_set]
      · rw [flat_set l j u hj, ← h9, hu]
        have e0 : enc (nth l j) = ((l.flatMap enc).drop (j * Enc.sz α)).take (Enc.sz α) := by
          apply List.ext_getElem?
          intro q
          rw [List.getElem?_take, List.getElem?_drop]
          split
          · rename_i hq
            have : (enc (nth l j))[q]? = some ((enc (nth l j))[q]'(by rw [Enc.len]; exact hq)) := List.getElem?_eq_getElem _
            rw [this, flat_get l j (nth l j) q _ (nth_some hj) this]
          · rename_i hq
            rw [List.getElem?_eq_none]; rw [Enc.len]; omega
        rw [e0, ← h9]
        exact splice_at cur.toList vs (j * Enc.sz α) (Enc.sz α) (l.length * Enc.sz α) k (by omega) hmul (by rw [Array.length_toList]; exact hcap)

/-- A whole element. -/
theorem e_storeEl1 {α : Type} [Enc α] [Inhabited α] {t e : TypeId} {x y : Operand} {cx cy : List Bool} {sv : Value} {j sz i : Nat} {l : List α} {u : α} (ho : o.op = .store t x y) (hx : evl E x = some (cx, elP sv j sz 0)) (hy : evl E y = some (cy, val u))
    [sx : Sub cx []] [sy : Sub cy []] [hz : SzT P t sz] (hi : nthA H i = some (ownL e sv l)) (hsz : sz = Enc.sz α) (hj : j < l.length) :
    OpE P n E (Cl w0 fp H) o (fun u' w' => u' = undef ∧ Cl w0 fp (setA H i (ownL e sv (l.set j u))) w') :=
  e_storeEl ho hx hy hi hsz (Enc.cells u) (by rw [hsz, Enc.len]) (List.all_eq_true.2 fun v hv => Enc.one u v hv) hj
    (by simp only [putL, List.take_zero, List.nil_append]; rw [List.drop_of_length_le (by rw [Enc.len, Enc.len]; omega), List.append_nil]) (by rw [Nat.ble_eq, hsz]; omega)

/-! ### 4. Slices made -/
theorem ownL_made {α : Type} [Enc α] {e : TypeId} {l : List α} {b cap : Nat} {cur : Array Value} {w : World} (h : w.heap[b]? = some (.cells cur e (0, 0))) (h1 : l.length ≤ cap) (h2 : cap ≤ maxLen) (h3 : cur.size = cap * Enc.sz α)
    (h4 : cur.toList.take (l.length * Enc.sz α) = l.flatMap enc) : (ownL e (.slice (some ⟨b, 0, none⟩) l.length cap) l).holds w [b] :=
  .inr ⟨b, _, cap, cur, rfl, rfl, h, h1, h2, h3, flat_len l, h4⟩
theorem cl_own_new {α : Type} [Enc α] {e : TypeId} {l : List α} {cap : Nat} {cur : Array Value} (w : World) (h1 : l.length ≤ cap) (h2 : cap ≤ maxLen) (h3 : cur.size = cap * Enc.sz α)
    (h4 : cur.toList.take (l.length * Enc.sz α) = l.flatMap enc) : Cl w [] [ownL e (.slice (some ⟨w.heap.size, 0, none⟩) l.length cap) l] (w.alloc (.cells cur e)) :=
  ⟨chg_alloc w _, [w.heap.size], ⟨[w.heap.size], [], rfl, ownL_made (heap_alloc_new w _) h1 h2 h3 h4, rfl⟩, by simp, fun b hb => by simp at hb; subst hb; exact ⟨.inr (Nat.le_refl _), by simp⟩⟩

/-- A slice literal: the cells by reckoning. -/
def fillOf (z : List Value) (sz len : Nat) (parts : List (Nat × Value)) : Option (Array Value) :=
  Instr.fill (fun i => some (i * sz, sz)) ((Array.range (len * sz)).map (z.toArray[· % z.toArray.size]!)) parts
theorem e_buildSlice {α : Type} [Enc α] {t e : TypeId} {len sz bytes : Nat} {z : List Value} {ps : List (Nat × Operand)} {vs : List Value} {l : List α} (ho : o.op = .buildSlice t len ps.toArray) (hv : Evs E [] (ps.map (·.2)) vs)
    [ht : SlT P t e] [hi : InfoT P e sz bytes z] (hsz : sz = Enc.sz α) (hlen : l.length = len) (hsmall : Nat.ble (len * sz) 16777216 = true) (hb : fillOf z sz len ((ps.map (·.1)).zip vs) = some (l.flatMap enc).toArray) :
    OpE P n E (Cl w0 fp H) o (fun u w' => ∃ s : SlV, u = s.v ∧ Cl w0 fp (ownL e s.v l :: H) w') :=
  .of_run fun a w ha hw => by
    obtain ⟨i, v, h1, h2, h3, h4, h5, h6⟩ := hi.info
    have hs := Nat.le_of_ble_eq_true hsmall
    subst hsz hlen
    refine ⟨_, _, ?_, ⟨some ⟨w.heap.size, 0, none⟩, l.length, l.length⟩, rfl, hw.split0.2.2 [ownL e _ l] _ (cl_own_new (e := e) (l := l) (cap := l.length) (cur := (l.flatMap enc).toArray) w (Nat.le_refl _) ?_ ?_ ?_)⟩
    · unfold execOp; simp only [ho]
      have h7 : ps.map (fun (i, x) => (i, a.eval x)) = (ps.map (·.1)).zip vs := by
        rw [← hv.eval ha AllT.nil]
        clear ho hb hv
        induction ps with
        | nil => rfl
        | cons p ps ih => simp [ih]
      simp only [List.map_toArray, h7]
      unfold fillOf at hb
      by_cases h0 : l.length * Enc.sz α = 0
      · have hp := Enc.pos (α := α)
        have : l.length = 0 := by
          rcases Nat.mul_eq_zero.1 h0 with h | h
          · exact h
          · omega
        simp only [h0] at hb
        simp [Array.range_zero'] at hb
        simp [Instr.buildSlice, run_underlying ht.und, sizeOf, typeInfo, h1, h2, h0, hb, newRow, Array.range_zero', SlV.v]
      · simp only [Nat.reducePow] at *
        have h8 : ¬ (16777216 < l.length * Enc.sz α) := by omega
        simp [Instr.buildSlice, run_underlying ht.und, sizeOf, typeInfo, h1, h2, h0, h8, zeroValue, h4, h5, newRow]
        simp at hb
        simp [hb, SlV.v]
    · have hp := Enc.pos (α := α)
      have : l.length ≤ l.length * Enc.sz α := Nat.le_mul_of_pos_right _ hp
      simp only [maxLen]; omega
    · rw [List.size_toArray, flat_len]
    · rw [List.toList_toArray, ← flat_len, List.take_length]

theorem set_all (off : Nat) : ∀ (vs : List Value) (k : Nat) (pre mid post : List Value), pre.length = off + k → mid.length = vs.length →
    (vs.zipIdx k).foldl (fun (cs : Array Value) (x : Value × Nat) => cs.setIfInBounds (off + x.2) x.1) (pre ++ (mid ++ post)).toArray = (pre ++ (vs ++ post)).toArray := by
  intro vs
  induction vs with
  | nil => intro k pre mid post _ hc; simp at hc; simp [hc]
  | cons v vs ih =>
    intro k pre mid post hk hc
    cases mid with
    | nil => simp at hc
    | cons c mid =>
      simp only [List.zipIdx_cons, List.foldl_cons]
      have e1 : (pre ++ (c :: mid ++ post)).toArray.setIfInBounds (off + k) v = ((pre ++ [v]) ++ (mid ++ post)).toArray := by simp [← hk]
      rw [e1, ih (k + 1) (pre ++ [v]) mid post (by simp [hk, Nat.add_assoc]) (by simpa using hc)]
      simp
theorem fill_all {α : Type} [Enc α] : ∀ (l : List α) (k : Nat) (pre post : List Value), pre.length = k * Enc.sz α → post.length = l.length * Enc.sz α →
    Instr.fill (fun i => some (i * Enc.sz α, Enc.sz α)) (pre ++ post).toArray ((List.range' k l.length).zip (l.map val)) = some (pre ++ l.flatMap enc).toArray := by
  intro l
  induction l with
  | nil => intro k pre post _ hp; simp at hp; simp [Instr.fill, hp]
  | cons x l ih =>
    intro k pre post hk hp
    have h1 := Enc.cells x
    have h2 := Enc.len x
    simp only [List.length_cons, List.range'_succ, List.map_cons, List.zip_cons_cons, Instr.fill]
    have h3 : (val x).cells.size = Enc.sz α := by rw [h1]; simpa using h2
    have hlen : post.length = Enc.sz α + l.length * Enc.sz α := by rw [hp, List.length_cons, Nat.add_mul, Nat.one_mul, Nat.add_comm]
    have hsize : (pre ++ post).toArray.size = k * Enc.sz α + Enc.sz α + l.length * Enc.sz α := by simp only [List.size_toArray, List.length_append]; omega
    rw [if_neg (by rw [h3, hsize]; simp)]
    have e0 : (pre ++ post).toArray = (pre ++ (post.take (Enc.sz α) ++ post.drop (Enc.sz α))).toArray := by rw [List.take_append_drop]
    have e2 := set_all (k * Enc.sz α) (enc x) 0 pre (post.take (Enc.sz α)) (post.drop (Enc.sz α)) (by omega) (by rw [List.length_take, h2]; omega)
    rw [h1, Array.zipIdx_toArray, e0]
    have e3 : ∀ (a : Array Value) (L : List (Value × Nat)), Array.foldl (fun (cs : Array Value) (x : Value × Nat) => match x with | (c, j) => cs.setIfInBounds (k * Enc.sz α + j) c) a L.toArray = L.foldl (fun (cs : Array Value) (x : Value × Nat) => cs.setIfInBounds (k * Enc.sz α + x.2) x.1) a := fun a L => by simp
    rw [e3, e2, ← List.append_assoc, ih (k + 1) (pre ++ enc x) (post.drop (Enc.sz α)) (by rw [List.length_append, h2, hk, Nat.add_mul, Nat.one_mul]) (by rw [List.length_drop]; omega)]
    simp
/-- A slice literal, all elements given. -/
theorem e_buildL {α : Type} [Enc α] {t e : TypeId} {len sz bytes : Nat} {z : List Value} {ps : List (Nat × Operand)} {l : List α} (ho : o.op = .buildSlice t len ps.toArray) (hv : Evs E [] (ps.map (·.2)) (l.map val))
    [ht : SlT P t e] [hi : InfoT P e sz bytes z] (hsz : sz = Enc.sz α) (hlen : l.length = len) (hps : ps.map (·.1) = List.range' 0 len) (hsmall : Nat.ble (len * sz) 16777216 = true) :
    OpE P n E (Cl w0 fp H) o (fun u w' => ∃ s : SlV, u = s.v ∧ Cl w0 fp (ownL e s.v l :: H) w') := by
  refine e_buildSlice (l := l) (ps := ps) (vs := l.map val) ho hv hsz hlen hsmall ?_
  subst hsz
  rw [hps, ← hlen]
  unfold fillOf
  have := fill_all l 0 [] ((List.range (l.length * Enc.sz α)).map (z.toArray[· % z.toArray.size]!)) (by simp) (by simp)
  simp only [List.nil_append] at this
  rw [← this]
  congr 1
  rw [← List.toArray_range, List.map_toArray]
/-- A slice literal of one element. -/
theorem e_build1 {α : Type} [Enc α] {t e : TypeId} {sz bytes : Nat} {z : List Value} {y : Operand} {cy : List Bool} {x : α} (ho : o.op = .buildSlice t 1 [(0, y)].toArray) (hy : evl E y = some (cy, val x)) [sy : Sub cy []]
    [ht : SlT P t e] [hi : InfoT P e sz bytes z] (hsz : sz = Enc.sz α) (hsmall : Nat.ble sz 16777216 = true) :
    OpE P n E (Cl w0 fp H) o (fun u w' => ∃ s : SlV, u = s.v ∧ Cl w0 fp (ownL e s.v [x] :: H) w') :=
  e_buildL (l := [x]) (ps := [(0, y)]) ho (.cons hy sy .nil) hsz rfl rfl (by simpa using hsmall)

/-- make([]T, n). -/
theorem e_make {α : Type} [Enc α] {t e : TypeId} {x y : Operand} {cx cy : List Bool} {kl kc : IntKind} {m : Int} {sz bytes : Nat} {z : List Value} {zero : α} (ho : o.op = .makeSlice t x y) (hx : evl E x = some (cx, .int kl m)) (hy : evl E y = some (cy, .int kc m))
    [sx : Sub cx []] [sy : Sub cy []] [ht : SlT P t e] [hi : InfoT P e sz bytes z] (hsz : sz = Enc.sz α) (hz : z = enc zero) (h0 : 0 ≤ m) (hb : m * bytes ≤ 281474976710656) (hb1 : 1 ≤ bytes) :
    OpE P n E (Cl w0 fp H) o (fun u w' => ∃ s : SlV, u = s.v ∧ Cl w0 fp (ownL e s.v (List.replicate m.toNat zero) :: H) w') :=
  .of_run fun a w ha hw => by
    obtain ⟨i, v, h1, h2, h3, h4, h5, h6⟩ := hi.info
    have hm : m ≤ 281474976710656 := Int.le_trans (by have := Int.mul_le_mul_of_nonneg_left (show (1 : Int) ≤ bytes by omega) h0; omega) hb
    have hr := run_make (P := P) w t e i v ht.und h1 h4 kl kc m m h0 (Int.le_refl _) (by rw [h3, Int.mul_comm]; exact hb) (by omega)
    subst hsz
    have hfl : ∀ k, (List.replicate k zero).flatMap enc = (madeCells v.cells (k * i.size)).toList := by
      intro k
      rw [h5, hz, h2]
      apply List.ext_getElem?
      intro q
      by_cases hq : q < k * Enc.sz α
      · have hp := Enc.pos (α := α)
        have hd : q / Enc.sz α < k := (Nat.div_lt_iff_lt_mul hp).2 hq
        have hmod := Nat.mod_lt q hp
        have h7 := flat_get (List.replicate k zero) (q / Enc.sz α) zero (q % Enc.sz α) ((enc zero)[q % Enc.sz α]'(by rw [Enc.len]; exact hmod)) (by simp [hd]) (List.getElem?_eq_getElem _)
        rw [Nat.mul_comm, Nat.div_add_mod] at h7
        rw [h7]
        simp [madeCells, hq, Enc.len, hmod]
      · rw [List.getElem?_eq_none (by rw [flat_len, List.length_replicate]; omega), List.getElem?_eq_none (by simp [size_madeCells]; omega)]
    have hc := cl_own_new (e := e) (l := List.replicate m.toNat zero) (cap := m.toNat) (cur := madeCells v.cells (m.toNat * i.size)) w (by simp) (by simp only [maxLen]; omega) (by rw [size_madeCells, h2])
      (by rw [hfl, List.length_replicate, List.take_of_length_le]; rw [Array.length_toList, size_madeCells, h2]; exact Nat.le_refl _)
    rw [List.length_replicate] at hc
    refine ⟨_, _, ?_, ⟨some ⟨w.heap.size, 0, none⟩, m.toNat, m.toNat⟩, rfl, hw.split0.2.2 [ownL e _ (List.replicate m.toNat zero)] _ hc⟩
    unfold execOp; simp only [ho]; rw [ha.eval hx sx AllT.nil, ha.eval hy sy AllT.nil]
    simp [hr, SlV.v]

/-! ### 5. append -/
theorem append_core {α : Type} [Enc α] {w : World} {t e ty : TypeId} {sz bytes : Nat} {z : List Value} {sv sw : Value} {l r : List α} {bs : List Nat} [ht : SlT P t e] [hi : InfoT P e sz bytes z] (hsz : sz = Enc.sz α)
    (hown : (ownL e sv l).holds w bs) (hrd : RdL sw r w) (hb : (l.length + r.length) * bytes ≤ 140737488355328) (hb1 : 1 ≤ bytes) :
    ∃ (v : SlV) (w' : World), (Builtin.append_ #[t, t] ty #[sv, sw]).run P w = .ok v.v w' ∧ Cl w bs [ownL e v.v (l ++ r)] w' := by
  obtain ⟨i, z0, h1, h2, h3, h4, h5, h6⟩ := hi.info
  obtain ⟨ad, m, c, rfl, hm, hmc, hcm, hcell⟩ := hrd
  subst hsz hm
  have hp := Enc.pos (α := α)
  have hnews : ∀ (a : Addr), ad = some a → ∀ j u, (r.flatMap enc)[j]? = some u → w.cell? (a.add j) = some u := by
    intro a ha j u hu
    obtain ⟨x, hx, hu'⟩ := flat_inv r j u hu
    obtain ⟨b, hb', hc⟩ := hcell _ x _ u hx hu'
    rw [ha] at hb'; cases hb'
    rw [Nat.mul_comm, Nat.div_add_mod] at hc
    exact hc
  have hsmall : l.length + r.length ≤ 140737488355328 := Nat.le_trans (Nat.le_mul_of_pos_right _ hb1) hb
  have hzc : z0.cells.size = Enc.sz α := by rw [h5]; simpa using h6
  -- what grows
  have grown : ∀ (old : Nat), Cl w [] [ownL e (.slice (some ⟨w.heap.size, 0, none⟩) (l.length + r.length) (grownCap w (l.length + r.length) old e)) (l ++ r)]
      (w.drew.alloc (.cells ((l.flatMap enc).toArray ++ (r.flatMap enc).toArray ++ Builtin.zeroCells z0.cells (grownCap w (l.length + r.length) old e - (l.length + r.length))) e)) := by
    intro old
    have hge := grownCap_ge w (l.length + r.length) old e
    have hle := grownCap_le_maxLen w (l.length + r.length) old e (by simp only [maxLen]; omega)
    have := cl_own_new (e := e) (l := l ++ r) (cap := grownCap w (l.length + r.length) old e)
      (cur := (l.flatMap enc).toArray ++ (r.flatMap enc).toArray ++ Builtin.zeroCells z0.cells (grownCap w (l.length + r.length) old e - (l.length + r.length))) w.drew (by simpa using hge) hle
      (by simp only [Array.size_append, List.size_toArray, flat_len, size_zeroCells, hzc, ← Nat.add_mul]; congr 1; omega)
      (by
        simp only [Array.toList_append, List.flatMap_append]
        rw [List.toList_toArray, List.toList_toArray, List.take_left' (by rw [List.length_append, flat_len, flat_len, List.length_append, Nat.add_mul])])
    rw [List.length_append] at this
    exact this.drew_start
  by_cases hr0 : r = []
  · -- nothing is appended
    subst hr0
    rcases hown with ⟨rfl, hl, rfl⟩ | ⟨b, n', cap, cur, rfl, rfl, g3, g4, g5, g6, g7, g8⟩
    · have hl0 : l = [] := by
        have := flat_len l
        rw [hl] at this
        rcases Nat.mul_eq_zero.1 this.symm with h | h
        · exact List.eq_nil_of_length_eq_zero h
        · omega
      subst hl0
      refine ⟨⟨none, 0, 0⟩, w, ?_, ⟨Chg.refl _ _, [], ⟨[], [], rfl, .inl ⟨rfl, rfl, rfl⟩, rfl⟩, by simp, by simp⟩⟩
      simp [SlV.v, Builtin.append_, run_underlying ht.und, sizeOf, typeInfo, h1, Builtin.lenOf, Builtin.firstCells, loadCells, loadCellsFrom]
      cases ad <;> simp [Builtin.firstCells, loadCells, loadCellsFrom]
    · have hn' : n' = l.length := by
        rw [flat_len] at g7; exact (Nat.eq_of_mul_eq_mul_right hp g7).symm
      subst hn'
      refine ⟨⟨some ⟨b, 0, none⟩, l.length, cap⟩, w, ?_, ⟨Chg.refl _ _, [b], ⟨[b], [], rfl, .inr ⟨b, l.length, cap, cur, rfl, rfl, g3, g4, g5, g6, by simpa using g7, by simpa using g8⟩, rfl⟩, by simp, fun k hk => ?_⟩⟩
      · simp [SlV.v, Builtin.append_, run_underlying ht.und, sizeOf, typeInfo, h1, Builtin.lenOf, Builtin.firstCells, loadCells, loadCellsFrom, g4]
        cases ad <;> simp [Builtin.firstCells, loadCells, loadCellsFrom, storeCells]
      · simp at hk; subst hk
        exact ⟨.inl (by simp), (Array.getElem?_eq_some_iff.1 g3).1⟩
  · have hpos : 0 < r.length := List.length_pos_iff.2 hr0
    have hex : ∃ a, ad = some a := by
      have hj : 0 < (enc r[0]).length := by rw [Enc.len]; exact hp
      obtain ⟨b, hb', _⟩ := hcell 0 r[0] 0 _ (List.getElem?_eq_getElem hpos) (List.getElem?_eq_getElem hj)
      exact ⟨b, hb'⟩
    obtain ⟨a, rfl⟩ := hex
    have hn := hnews a rfl
    rcases hown with ⟨rfl, hl, rfl⟩ | ⟨b, n', cap, cur, rfl, rfl, g3, g4, g5, g6, g7, g8⟩
    · have hl0 : l = [] := by
        have := flat_len l
        rw [hl] at this
        rcases Nat.mul_eq_zero.1 this.symm with h | h
        · exact List.eq_nil_of_length_eq_zero h
        · omega
      subst hl0
      have hr := run_append_nil (P := P) w t ty e i z0 ht.und h1 h4 a r.length c (r.flatMap enc) (by rw [flat_len, h2]) hn hpos (by simp at hsmall; omega) (by rw [h3]; simp at hb; omega)
      have hg := grown 0
      simp only [List.length_nil, Nat.zero_add, List.flatMap_nil, List.nil_append] at hg
      refine ⟨⟨some ⟨w.heap.size, 0, none⟩, r.length, grownCap w r.length 0 e⟩, _, hr, ?_⟩
      simp only [List.nil_append]
      rw [Array.empty_append] at hg
      exact hg
    · have hn' : n' = l.length := by
        rw [flat_len] at g7; exact (Nat.eq_of_mul_eq_mul_right hp g7).symm
      subst hn'
      by_cases hroom : l.length + r.length ≤ cap
      · have hfit : l.length * i.size + (r.flatMap enc).length ≤ cur.size := by
          rw [flat_len, h2, g6, ← Nat.add_mul]; exact Nat.mul_le_mul_right _ hroom
        have hr := run_append_room (P := P) w t ty e i ht.und h1 b l.length cap cur g3 a r.length c (r.flatMap enc) (by rw [flat_len, h2]) hn (flat_one r) hroom hfit
        refine ⟨⟨_, _, _⟩, _, hr, cl_setRow g3 fun w' h' => .inr ⟨b, _, cap, _, rfl, rfl, h', hroom, g5, ?_, ?_, ?_⟩⟩
        · simp only [List.size_toArray, List.length_append, List.length_take, List.length_drop, Array.length_toList]; omega
        · rw [flat_len, List.length_append]
        · rw [h2, g8, List.flatMap_append, Nat.add_mul]
          rw [List.take_left']
          rw [List.length_append, flat_len, flat_len]
      · have holds : ∀ j u, (l.flatMap enc)[j]? = some u → w.cell? ((⟨b, 0, none⟩ : Addr).add j) = some u := by
          intro j u hu
          rw [addr_add, Nat.zero_add, cell_at g3]
          rw [← g8, List.getElem?_take] at hu
          split at hu
          · simpa using hu
          · simp at hu
        have hr := run_append_grow (P := P) w t ty e i z0 ht.und h1 h4 ⟨b, 0, none⟩ l.length cap (l.flatMap enc) (by rw [flat_len, h2]) holds a r.length c (r.flatMap enc) (by rw [flat_len, h2]) hn (by omega) (by omega) (growslice_fits (by omega) (by rw [h3]; exact hb))
        refine ⟨⟨_, _, _⟩, _, hr, ?_⟩
        obtain ⟨k1, cs, k2, k3, k4⟩ := grown cap
        refine ⟨⟨k1.os, k1.tape, k1.output, k1.size, fun k hk _ => k1.block k hk (by simp)⟩, cs, k2, k3, fun x hx => ⟨.inr ?_, (k4 x hx).2⟩⟩
        rcases (k4 x hx).1 with h | h
        · simp at h
        · exact h

/-- append(s, r...): s the call's own. -/
theorem e_append {α : Type} [Enc α] {t e : TypeId} {sz bytes : Nat} {z : List Value} {ops' : List Operand} {sv sw : Value} {l r : List α} {i : Nat} (ho : o.op = .call { callee := .builtin .append, args := ops'.toArray, argTypes := #[t, t] }) (hv : Evs E [] ops' [sv, sw])
    [ht : SlT P t e] [hi : InfoT P e sz bytes z] (hsz : sz = Enc.sz α) (hi' : nthA H i = some (ownL e sv l)) (hrd : ∀ w, Cl w0 fp H w → RdL sw r w) (hb : (l.length + r.length) * bytes ≤ 140737488355328) (hb1 : Nat.ble 1 bytes = true) :
    OpE P n E (Cl w0 fp H) o (fun u w' => ∃ s' : SlV, u = s'.v ∧ Cl w0 fp (setA H i (ownL e s'.v (l ++ r))) w') :=
  .of_run fun a w ha hw => by
    obtain ⟨bs, ⟨b1, b2, rfl, hown, rfl⟩, _, _, _, _, h6⟩ := (hw.focus hi').split
    simp only [List.append_nil] at h6
    obtain ⟨v, w', hr, hc⟩ := append_core (P := P) (ty := o.type) (t := t) hsz hown (hrd w hw) hb (Nat.le_of_ble_eq_true hb1)
    refine ⟨v.v, w', ?_, v, rfl, (h6 _ _ hc).set hi'⟩
    unfold execOp; simp only [ho]
    simp only [resolve, invoke, List.map_toArray, hv.eval ha AllT.nil, Sem.run_bind, Sem.run_pure, Result.andThen_ok]
    simp [builtin, hr]

/-! ### 6. Calls that make memory -/
theorem e_call {α : Type} {vf : α → Value} {p : α → Prop} {B : α → List Asn} {f : FuncId} {l : List Operand} {ts : Array TypeId} {vs : List Value} (hf : CanCall P f) (ho : o.op = .call { callee := .value (.func f), args := l.toArray, argTypes := ts }) (hv : Evs E [] l vs)
    (h : ∀ w, Cl w0 fp H w → Calls P f vs.toArray w fun e w' => ∃ x, e = .returned (vf x) ∧ p x ∧ Cl w [] (B x) w') : OpE P n E (Cl w0 fp H) o (fun v w' => ∃ x, v = vf x ∧ p x ∧ Cl w0 fp (B x ++ H) w') :=
  .of_call (f := f) (args := vs.toArray) (fun a w ha hw => by
    unfold execOp; simp only [ho]
    simp only [resolve, Deferred.ofValue, Act.eval, invoke, List.map_toArray, hv.eval ha AllT.nil, Sem.run_bind, Sem.run_pure, Result.andThen_ok]
    simp [hf.run]) fun w hw => (h w hw).mono fun e w' ⟨x, he, hp, hc⟩ => ⟨_, he, x, rfl, hp, hw.split0.2.2 _ _ hc⟩
/-- One that works on blocks of ours. -/
theorem e_callH {α : Type} {vf : α → Value} {p : α → Prop} {A F : List Asn} {B : α → List Asn} {f : FuncId} {cap : Array Value} {x : Operand} {cx : List Bool} {l : List Operand} {ts : Array TypeId} {vs : List Value}
    (hf : CanCall P f) (ho : o.op = .call { callee := .value x, args := l.toArray, argTypes := ts }) (hx : evl E x = some (cx, .func (.func f) #[] cap)) [hs : Sub cx []] (hv : Evs E [] l vs) (hp : H.Perm (A ++ F))
    (h : ∀ w bs, Sep A w bs → bs.Nodup → (∀ b ∈ bs, b < w.heap.size) → (∀ R, Stb w0 fp R → Stb w bs R) → (∀ G ∈ F, ∃ b2, Stb w bs fun w' => G.holds w' b2) → Calls P f (vs.toArray ++ cap) w fun e w' => ∃ x, e = .returned (vf x) ∧ p x ∧ Cl w bs (B x) w') :
    OpE P n E (Cl w0 fp H) o (fun v w' => ∃ x, v = vf x ∧ p x ∧ Cl w0 fp (B x ++ F) w') :=
  .of_call (f := f) (args := vs.toArray ++ cap) (fun a w ha hw => by
    unfold execOp; simp only [ho]
    simp only [resolve, ha.eval hx hs AllT.nil, Deferred.ofValue, invoke, List.map_toArray, hv.eval ha AllT.nil, Sem.run_bind, Sem.run_pure, Result.andThen_ok]
    simp [hf.run]) fun w hw => by
      obtain ⟨bs, h1, h2, h3, h4, h5, h6⟩ := (hw.perm hp).split
      exact (h w bs h1 h2 h3 h4 h5).mono fun e w' ⟨x, he, hpx, hc⟩ => ⟨_, he, x, rfl, hpx, h6 _ _ hc⟩

/-! ### 7. Results that lie in memory -/
theorem resOk_blk {α : Type} [Enc α] {p : Nat} {b : Nat} {cells : List Value} {t t' : TypeId} {x : α} (hp : look E p = some ([], .pointer (some ⟨b, 0, none⟩))) [ht : HasTy P t α] (hH : blk b cells t' ∈ H) (hx : cells = enc x) :
    ResOk P E (Cl w0 fp H) n (.cell p t) (val x) := fun a w ha hw => by
  obtain ⟨bs, hb⟩ := hw.get hH
  have h1 := ha.has p [] _ hp
  have h2 := ht.load w ⟨b, 0, none⟩ x fun j v hv => by rw [addr_add, Nat.zero_add, blk.cell hb, hx]; exact hv
  simp [resS, Array.getD_eq_getD_getElem?, h1, gval, asAddr, h2]
end
end Go.Sx
