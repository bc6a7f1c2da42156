import Derived.Test.YtomjbfeafodfbaaWWhole1
import Derived.WideKeyRuns
import Derived.ChangeKeysEq
import Derived.Laws.CopyRow
import Derived.Laws.IdiomStrings

/-
  Maps keyed by pairs of integers; the two halves of m[k]++ in a draw. General lemmas, no program text.
-/
set_option autoImplicit false
set_option linter.unusedSimpArgs false
set_option linter.unusedVariables false
set_option linter.unusedSectionVars false
namespace Go.Sx
open Enc (enc val)
structure P2 where
  a : Int
  b : Int
deriving DecidableEq
instance : Inhabited P2 := ⟨⟨0, 0⟩⟩
instance : Enc P2 := ⟨fun c => [.int .i64 c.a, .int .i64 c.b], 2, fun c => .agg #[.int .i64 c.a, .int .i64 c.b], fun _ => rfl, by simp [Value.oneCell'], fun _ => rfl, by decide⟩
section pair
variable {P : Program} {kt : TypeId} {e : TypeId}
theorem part_int (he : P.underlying e = some (.int .i64)) (hs : ∀ w, (sizeOf e).run P w = .ok 1 w) (hg : ∀ w, (isAgg e).run P w = .ok false w) (cs : Array Value) (i : Nat) (n : Int) (h : cs[i]? = some (.int .i64 n)) (w : World) : (part e cs i).run P w = .ok (.int .i64 n) w := by
  simp [part, hg, h, Result.andThen]
theorem chk_int (he : P.underlying e = some (.int .i64)) (em : Bool) (n : Nat) (x : Int) (w : World) : (Instr.checkKey em (n + 1) e (.int .i64 x)).run P w = .ok () w := by
  simp [Instr.checkKey, run_underlying he, Result.andThen]
theorem pair_chk0 (hk : P.underlying kt = some (.array 2 e)) (he : P.underlying e = some (.int .i64)) (hs : ∀ w, (sizeOf e).run P w = .ok 1 w) (hg : ∀ w, (isAgg e).run P w = .ok false w) (k : P2) (em : Bool) (n : Nat) (w : World) : (Instr.checkKey em (n + 1 + 1) kt (val k)).run P w = .ok () w := by
  have h1 := part_int he hs hg #[.int .i64 k.a, .int .i64 k.b] 0 k.a rfl w
  have h2 := part_int he hs hg #[.int .i64 k.a, .int .i64 k.b] 1 k.b rfl w
  have c1 := chk_int (P := P) he em n k.a w
  have c2 := chk_int (P := P) he em n k.b w
  unfold Instr.checkKey
  simp only [Sem.run_bind, run_underlying hk, Result.andThen, Enc.val]
  simp [Std.Legacy.Range.forIn_eq_forIn_range', Std.Legacy.Range.size, List.range'_succ, hs w, h1, h2, c1, c2, Result.andThen]
theorem eq_int (he : P.underlying e = some (.int .i64)) (d : Nat) (x y : Int) (w : World) : (Op.equalIn (d + 1) e (.int .i64 x) (.int .i64 y)).run P w = .ok (decide (x = y)) w := by
  simp [Op.equalIn, run_underlying he, Result.andThen]
  rfl
theorem pair_eq {i : TypeInfo} (hk : P.underlying kt = some (.array 2 e)) (he : P.underlying e = some (.int .i64)) (hi : P.info? e = some i) (hc : P.cellsOf e = 1) (hg : ∀ w, (isAgg e).run P w = .ok false w) (hs : ∀ w, (sizeOf e).run P w = .ok 1 w) (k k' : P2) (w : World) : (Op.equal kt (val k) (val k')).run P w = .ok (decide (k' = k)) w := by
  obtain ⟨ka, kb⟩ := k
  obtain ⟨ka', kb'⟩ := k'
  have a0 := part_int he hs hg #[.int .i64 ka, .int .i64 kb] 0 ka rfl w
  have a1 := part_int he hs hg #[.int .i64 ka, .int .i64 kb] 1 kb rfl w
  have b0 := part_int he hs hg #[.int .i64 ka', .int .i64 kb'] 0 ka' rfl w
  have b1 := part_int he hs hg #[.int .i64 ka', .int .i64 kb'] 1 kb' rfl w
  have e0 := fun d => eq_int (P := P) he d ka ka' w
  have e1 := fun d => eq_int (P := P) he d kb kb' w
  show (Op.equalIn (9998 + 1 + 1) kt (.agg #[.int .i64 ka, .int .i64 kb]) (.agg #[.int .i64 ka', .int .i64 kb'])).run P w = _
  rw [run_equalIn_array (w := w) (9998 + 1) _ _ hk hi, hc]
  have hr : List.range 2 = [0, 1] := rfl
  rw [hr]
  simp only [Op.eqItems, Sem.run_bind, Nat.zero_mul, Nat.one_mul, a0, a1, b0, b1, e0, e1, Result.andThen_ok]
  by_cases h1 : ka = ka'
  · by_cases h2 : kb = kb'
    · subst h1 h2; simp [a1, e1, Result.andThen]
    · subst h1; have h2' : ¬ kb' = kb := fun e => h2 e.symm
      simp [a1, b1, e1, h2, h2', Result.andThen]
  · have h1' : ¬ ka' = ka := fun e => h1 e.symm
    simp [h1, h1', Result.andThen]
theorem keyT_pair {i : TypeInfo} (hk : P.underlying kt = some (.array 2 e)) (he : P.underlying e = some (.int .i64)) (hi : P.info? e = some i) (hc : P.cellsOf e = 1) (hg : ∀ w, (isAgg e).run P w = .ok false w) (hs : ∀ w, (sizeOf e).run P w = .ok 1 w) : KeyT P kt P2 where
  chk k em w := pair_chk0 hk he hs hg k em 9998 w
  find {ν _} k es w := by
    rw [run_findKey_eq w (by rw [hk])]
    have key : ∀ (es : Ents P2 ν) (j : Nat), (Instr.findAsking kt (val k) (es.map rawE) j).run P w = .ok ((findK k es j).map fun p => (p.1, val p.2)) w := by
      intro es
      induction es with
      | nil => intro j; rfl
      | cons x es ih =>
        intro j
        have h1 := pair_eq hk he hi hc hg hs k x.1 w
        have h2 := ih (j + 1)
        simp only [List.map_cons, Instr.findAsking, Sem.run_bind, findK]
        rw [show (rawE x).key = val x.1 from rfl, h1]
        simp only [Result.andThen_ok]
        by_cases hx : x.1 = k
        · simp [hx, rawE]
        · simp [hx, h2]
    exact key es 0
  stays k w := by
    have h1 : ∀ n : Nat, Instr.sameBits (n + 1 + 1) (Value.agg #[.int .i64 k.a, .int .i64 k.b]) (Value.agg #[.int .i64 k.a, .int .i64 k.b]) = true := fun n => by simp [Instr.sameBits]
    have h2 : Instr.sameBits 10000 (val k) (val k) = true := h1 9998
    unfold Instr.keyThatStays
    rw [h2]; rfl
end pair
/-- An array: its elements' size and its zero value. -/
class ArT (P : Program) (t : TypeId) (sz : outParam Nat) (z : outParam (List Value)) : Prop where
  built : ∀ parts, P.built t parts = Instr.fill (fun i => some (i * sz, sz)) z.toArray parts
theorem q_buildA {P : Program} {n : Fr} {E : Env} {C : World → Prop} {cs : List Bool} {o : Oper} {t : TypeId} {ps : List (Nat × Operand)} {vs : List Value} {cells z : List Value} {sz : Nat} (ho : o.op = .build t ps.toArray) (hv : Evs E cs (ps.map (·.2)) vs) [ht : ArT P t sz z]
    (hb0 : Instr.fill (fun i => some (i * sz, sz)) z.toArray ((ps.map (·.1)).zip vs) = some cells.toArray) : OpR P n E C cs o (.agg cells.toArray) :=
  .of_run fun e he hc w _ => by
    have hb := (ht.built ((ps.map (·.1)).zip vs)).trans hb0
    clear hb0
    unfold execOp; simp only [ho]
    have h1 : ps.map (fun (i, x) => (i, e.eval x)) = (ps.map (·.1)).zip vs := by
      rw [← hv.eval he hc]
      clear ho hb hv
      induction ps with
      | nil => rfl
      | cons p ps ih => simp [ih]
    simp only [List.map_toArray, h1]
    simp [run_build (P := P) w t ((ps.map (·.1)).zip vs).toArray cells.toArray hb]
section mem
variable {κ ν : Type} [DecidableEq κ] [Enc κ] [Enc ν] {P : Program} {n : Fr} {E : Env} {C : World → Prop} {cs : List Bool} {o : Oper} {w0 : World} {fp : List Nat} {H : List Asn}
structure EntX (κ ν : Type) where
  es : Ents κ ν
  clock : Nat
  m : Nat
  v : ν
  st : Nat
structure EntXok (z : ν) (l : List (κ × ν)) (k : κ) (X : EntX κ ν) : Prop where
  ok : EntsOk X.es X.clock
  at' : X.es[X.m]? = some (k, X.v, X.st)
  get : ∀ k', getZ z (kvs X.es) k' = getZ z l k'
  put : ∀ u, kvs (X.es.modify X.m fun e => (k, u, e.2.2)) = upd l k u
theorem getZ_push {z : ν} {l : List (κ × ν)} {k : κ} (h : get? l k = none) (k' : κ) : getZ z (l ++ [(k, z)]) k' = getZ z l k' := by
  induction l with
  | nil =>
    simp only [List.nil_append, getZ, get?]
    split <;> rfl
  | cons x l ih =>
    obtain ⟨a, b⟩ := x
    simp only [get?] at h
    split at h
    · cases h
    · have := ih h
      simp only [List.cons_append, getZ, get?] at this ⊢
      split
      · rfl
      · exact this
theorem modify_last {α : Type} (l : List α) (x : α) (f : α → α) : (l ++ [x]).modify l.length f = l ++ [f x] := by
  induction l with
  | nil => rfl
  | cons y l ih => simp [ih]
theorem run_mapEntry {t kt et : TypeId} {z : ν} [ht : MapT P t kt et] [hK : KeyT P kt κ] [hz : ZeroV P et ν z] {w : World} {b clock : Nat} {es : Ents κ ν} (hb : w.heap[b]? = some (mapO es clock)) (ok : EntsOk es clock) (k : κ) :
    ∃ X : EntX κ ν, EntXok z (kvs es) k X ∧ (Instr.mapEntry t (.map (some b)) (val k)).run P w = .ok (.tuple #[val X.v, .int .i64 X.st]) { w with heap := w.heap.setIfInBounds b (mapO X.es X.clock) } := by
  have h1 := hK.find k es w
  have h2 := MapKept.run_getObj_map (P := P) hb
  cases hf : findK k es 0 with
  | none =>
    rw [hf] at h1
    obtain ⟨h3, h5, h4⟩ := findK_none hf
    refine ⟨⟨es ++ [(k, z, clock)], clock + 1, es.length, z, clock⟩, ⟨ok_push ok h3 z, by simp, fun k' => ?_, fun u => ?_⟩, ?_⟩
    · have : kvs (es ++ [(k, z, clock)]) = kvs es ++ [(k, z)] := by simp [kvs]
      rw [this]; exact getZ_push h5 k'
    · rw [h4 u]
      simp only [modify_last]
      simp [kvs]
    · simp [Instr.mapEntry, run_underlying ht.und, h2, hK.chk, h1, hz.zero, MapKept.run_setObj_map _ hb, Result.andThen, mapO, rawE, goInt]
  | some p =>
    rw [hf] at h1
    obtain ⟨j, u⟩ := p
    obtain ⟨m, bb, rfl, h3, _, h4⟩ := findK_some hf
    have e0 : (es.modify m fun e => (k, u, e.2.2)) = es := by
      apply List.ext_getElem?
      intro i
      rw [List.getElem?_modify]
      split
      · rename_i hi; subst hi; rw [h3]; rfl
      · cases es[i]? <;> rfl
    refine ⟨⟨es, clock, m, u, bb⟩, ⟨ok, h3, fun _ => rfl, h4⟩, ?_⟩
    have e1 : ((es.map rawE).toArray[0 + m]?.map (·.key)).getD (val k) = val k := by rw [Nat.zero_add, raw_get, h3]; rfl
    have e2 : ((es.map rawE).toArray[m]?.map (fun x => (x.born : Int))).getD 0 = (bb : Int) := by rw [raw_get, h3]; rfl
    have e3 : ((es.map rawE).toArray.modify m fun e => { e with key := val k }) = (es.map rawE).toArray := by
      apply Array.ext_getElem?
      intro i
      simp only [Array.getElem?_modify, raw_get]
      split
      · rename_i hi; subst hi; rw [h3]; rfl
      · rfl
    simp only [Instr.mapEntry, Sem.run_bind, run_underlying ht.und, Result.andThen, h2, hK.chk, h1, Option.map_some, e1, hK.stays, MapKept.run_setObj_map _ hb, mapO]
    rw [Nat.zero_add, e3, e2]
    rfl
theorem e_mapEntry {t kt et : TypeId} {z : ν} {x y : Operand} {cx cy : List Bool} {b i : Nat} {k : κ} {l : List (κ × ν)} (ho : o.op = .mapEntry t x y) (hx : evl E x = some (cx, .map (some b))) (hy : evl E y = some (cy, val k))
    [sx : Sub cx []] [sy : Sub cy []] [ht : MapT P t kt et] [hK : KeyT P kt κ] [hz : ZeroV P et ν z] (hi : nthA H i = some (mpA b l)) :
    OpE P n E (Cl w0 fp H) o (fun u w' => ∃ X : EntX κ ν, u = .tuple #[val X.v, .int .i64 X.st] ∧ EntXok z l k X ∧ Cl w0 fp (setA H i (obj b (mapO X.es X.clock))) w') :=
  .of_run fun a w ha hw => by
    obtain ⟨bs, ⟨b1, b2, rfl, ⟨rfl, es, clock, ok, rfl, hb⟩, rfl⟩, _, hlt, _, _, h6⟩ := (hw.focus hi).split
    obtain ⟨X, hX, hr⟩ := run_mapEntry (P := P) (t := t) (z := z) hb ok k
    have hl : b < w.heap.size := hlt b (by simp)
    refine ⟨_, { w with heap := w.heap.setIfInBounds b (mapO X.es X.clock) }, ?_, X, rfl, hX, (h6 [obj b (mapO X.es X.clock)] _ ?_).set hi⟩
    · have e1 := ha.eval hx sx AllT.nil
      have e2 := ha.eval hy sy AllT.nil
      unfold execOp; simp only [ho]; rw [e1, e2]; simp [hr, Result.andThen]
    · refine ⟨⟨rfl, rfl, rfl, by simp, fun k hk hn => ?_⟩, [b], ⟨[b], [], rfl, ⟨rfl, ?_⟩, rfl⟩, by simp, fun k hk => ?_⟩
      · have : k ≠ b := by simpa using hn
        exact Array.getElem?_setIfInBounds_ne (Ne.symm this)
      · simp [hl]
      · simp at hk; subst hk; exact ⟨.inl (by simp), by simpa using hl⟩
theorem e_entryStore {t : TypeId} {z : ν} {x y u : Operand} {cx cy cu : List Bool} {b i : Nat} {k : κ} {v : ν} {l : List (κ × ν)} {X : EntX κ ν} (ho : o.op = .entryStore t x y u) (hx : evl E x = some (cx, .map (some b))) (hy : evl E y = some (cy, .int .i64 X.st)) (hu : evl E u = some (cu, val v))
    [sx : Sub cx []] [sy : Sub cy []] [su : Sub cu []] (hX : EntXok z l k X) (hi : nthA H i = some (obj b (mapO X.es X.clock))) :
    OpE P n E (Cl w0 fp H) o (fun uu w' => uu = undef ∧ Cl w0 fp (setA H i (mpA b (upd l k v))) w') :=
  .of_run0 fun a w ha hw => by
    obtain ⟨bs, ⟨b1, b2, rfl, ⟨rfl, hb⟩, rfl⟩, _, hlt, _, _, h6⟩ := (hw.focus hi).split
    have hl : b < w.heap.size := hlt b (by simp)
    have h2 := MapKept.run_getObj_map (P := P) (w := w) (es := (X.es.map rawE).toArray) (clock := X.clock) hb
    have hm := hX.at'
    have hlt' : X.m < X.es.length := (List.getElem?_eq_some_iff.1 hm).1
    have hge : X.es[X.m] = (k, X.v, X.st) := (List.getElem?_eq_some_iff.1 hm).2
    have hfind : (X.es.map rawE).toArray.findIdx? (fun e => (e.born : Int) == (X.st : Int)) = some X.m := by
      rw [List.findIdx?_toArray, List.findIdx?_eq_some_iff_getElem]
      refine ⟨by simpa using hlt', by simp [rawE, hge], fun j hj => ?_⟩
      have hjl : j < X.es.length := by omega
      have hnd := List.pairwise_iff_getElem.1 hX.ok.born j X.m (by simpa using hjl) (by simpa using hlt') hj
      simp only [List.getElem_map, hge] at hnd
      simp [rawE]
      omega
    refine ⟨{ w with heap := w.heap.setIfInBounds b (mapO (X.es.modify X.m fun e => (k, v, e.2.2)) X.clock) }, ?_, (h6 [mpA b (upd l k v)] _ ?_).set hi⟩
    · have e1 := ha.eval hx sx AllT.nil
      have e2 := ha.eval hy sy AllT.nil
      have e3 := ha.eval hu su AllT.nil
      have e4 : ((X.es.map rawE).toArray.modify X.m fun e => { e with val := val v }) = ((X.es.modify X.m fun e => (k, v, e.2.2)).map rawE).toArray := by
        apply Array.ext_getElem?
        intro i
        simp only [Array.getElem?_modify, raw_get, List.getElem?_modify]
        split
        · rename_i hi; subst hi; rw [hm]; rfl
        · cases X.es[i]? <;> rfl
      unfold execOp; simp only [ho]; rw [e1, e2, e3]
      have e5 : (Instr.entryStore t (.map (some b)) (.int .i64 X.st) (val v)).run P w = .ok () { w with heap := w.heap.setIfInBounds b (mapO (X.es.modify X.m fun e => (k, v, e.2.2)) X.clock) } := by
        have e6 : (asInt (.int .i64 (X.st : Int))).run P w = .ok (X.st : Int) w := rfl
        unfold Instr.entryStore
        simp only [Sem.run_bind, h2, Result.andThen, e6, hfind, e4, MapKept.run_setObj_map _ hb, mapO]
      simp [e5, Result.andThen]
    · refine ⟨⟨rfl, rfl, rfl, by simp, fun k hk hn => ?_⟩, [b], ⟨[b], [], rfl, ⟨rfl, _, X.clock, ok_modify hX.ok hm v, hX.put v, ?_⟩, rfl⟩, by simp, fun k hk => ?_⟩
      · have : k ≠ b := by simpa using hn
        exact Array.getElem?_setIfInBounds_ne (Ne.symm this)
      · simp [hl]
      · simp at hk; subst hk; exact ⟨.inl (by simp), by simpa using hl⟩
/-- A map that answers f. -/
def RdF (z : ν) (b : Nat) (f : κ → ν) (w : World) : Prop := ∃ l, RdM (.map (some b)) l w ∧ ∀ k, getZ z l k = f k
theorem q_lookupF {t kt et : TypeId} {x y : Operand} {cx cy : List Bool} {b : Nat} {k : κ} {f : κ → ν} {z : ν} (ho : o.op = .lookup t x y false) (hx : evl E x = some (cx, .map (some b))) (hy : evl E y = some (cy, val k)) [sx : Sub cx cs] [sy : Sub cy cs]
    [ht : MapT P t kt et] [hK : KeyT P kt κ] [hz : ZeroV P et ν z] (hR : ∀ w, C w → RdF z b f w) : OpR P n E C cs o (val (f k)) := fun a ha hc w hw => by
  obtain ⟨l, h1, h2⟩ := hR w hw
  have := q_lookup (P := P) (n := n) (E := E) (C := fun w' => w' = w) (cs := cs) (o := o) (κ := κ) (ν := ν) (l := l) (z := z) ho hx hy (fun w' e => e ▸ h1) a ha hc w rfl
  rw [h2] at this
  exact this
end mem
end Go.Sx

/- Maps whose keys are structs of two integers; v, ok := m[k]; x[a:b:c]; the table's rows. General lemmas, no program text. -/
set_option autoImplicit false
namespace Go.Sx
open Enc (enc val)
theorem keyT_two {P : Program} {kt : TypeId} {fs : Array Field} (hk : P.underlying kt = some (.struct fs)) (hc : ∀ (k : P2) (em : Bool) (w : World), (Instr.checkKey em 10000 kt (val k)).run P w = .ok () w)
    (he : ∀ (k k' : P2) (w : World), (Op.equal kt (val k) (val k')).run P w = .ok (decide (k' = k)) w) : KeyT P kt P2 where
  chk k em w := hc k em w
  find {ν _} k es w := by
    rw [run_findKey_eq w (by rw [hk])]
    have key : ∀ (es : Ents P2 ν) (j : Nat), (Instr.findAsking kt (val k) (es.map rawE) j).run P w = .ok ((findK k es j).map fun p => (p.1, val p.2)) w := by
      intro es
      induction es with
      | nil => intro j; rfl
      | cons x es ih =>
        intro j
        have h1 := he k x.1 w
        have h2 := ih (j + 1)
        simp only [List.map_cons, Instr.findAsking, Sem.run_bind, findK]
        rw [show (rawE x).key = val x.1 from rfl, h1]
        simp only [Result.andThen_ok]
        by_cases hx : x.1 = k
        · simp [hx, rawE]
        · simp [hx, h2]
    exact key es 0
  stays k w := by
    have h1 : ∀ n : Nat, Instr.sameBits (n + 1 + 1) (Value.agg #[.int .i64 k.a, .int .i64 k.b]) (Value.agg #[.int .i64 k.a, .int .i64 k.b]) = true := fun n => by simp [Instr.sameBits]
    have h2 : Instr.sameBits 10000 (val k) (val k) = true := h1 9998
    unfold Instr.keyThatStays
    rw [h2]; rfl
section
variable {κ ν : Type} [DecidableEq κ] [Enc κ] [Enc ν] {P : Program} {n : Fr} {E : Env} {C : World → Prop} {cs : List Bool} {o : Oper}
theorem q_lookup2 {t kt et : TypeId} {x y : Operand} {cx cy : List Bool} {mv : Value} {k : κ} {l : List (κ × ν)} {z : ν} (ho : o.op = .lookup t x y true) (hx : evl E x = some (cx, mv)) (hy : evl E y = some (cy, val k)) [sx : Sub cx cs] [sy : Sub cy cs]
    [ht : MapT P t kt et] [hK : KeyT P kt κ] [hz : ZeroV P et ν z] (hm : ∀ w, C w → RdM mv l w) : OpR P n E C cs o (.tuple #[val (getZ z l k), .bool (get? l k).isSome]) :=
  .of_run fun a ha hc w hw => by
    unfold execOp; simp only [ho]; rw [ha.eval hx sx hc, ha.eval hy sy hc]
    rcases hm w hw with ⟨rfl, rfl⟩ | ⟨b, es, clock, rfl, ok, rfl, hb⟩
    · have h1 := hK.find (ν := ν) k [] w
      simp only [List.map_nil] at h1
      simp [Instr.lookup, run_underlying ht.und, hK.chk, h1, findK, hz.zero, Result.andThen, getZ, get?]
    · have h1 := hK.find k es w
      have h2 := MapKept.run_getObj_map (P := P) hb
      cases hf : findK k es 0 with
      | none =>
        rw [hf] at h1
        simp [Instr.lookup, run_underlying ht.und, h2, hK.chk, h1, hz.zero, Result.andThen, getZ, (findK_none hf).2.1]
      | some p =>
        rw [hf] at h1
        obtain ⟨j, u⟩ := p
        obtain ⟨m, bb, _, _, h3, _⟩ := findK_some hf
        simp [Instr.lookup, run_underlying ht.und, h2, hK.chk, h1, Result.andThen, getZ, h3]
end
section
variable {α : Type} [Enc α] {P : Program} {n : Fr} {E : Env} {C : World → Prop} {cs : List Bool} {o : Oper}
/-- A block's cells, from one on, are those of y. -/
def BlkIs (b k : Nat) (y : α) (w : World) : Prop := ∀ j v, (enc y)[j]? = some v → w.cell? ⟨b, k + j, none⟩ = some v
theorem blkIs_of {b k : Nat} {cells : List Value} {t : TypeId} {y : α} {w : World} (h : BlkAt b cells t w) (hc : ∀ j v, (enc y)[j]? = some v → cells[k + j]? = some v) : BlkIs b k y w := fun j v hv => by
  obtain ⟨bs, hb⟩ := h
  rw [blk.cell hb]; exact hc j v hv
theorem q_loadI {t : TypeId} {x : Operand} {cx : List Bool} {b k : Nat} {y : α} (ho : o.op = .load t x) (hx : evl E x = some (cx, .pointer (some ⟨b, k, none⟩))) [hs : Sub cx cs] [ht : HasTy P t α]
    (hH : ∀ w, C w → BlkIs b k y w) : OpR P n E C cs o (val y) :=
  load_run ho hx hs fun _ w hw => ⟨_, rfl, ht.load w _ _ fun j v hv => by rw [addr_add]; exact hH w hw j v hv⟩
theorem q_loadElY [Inhabited α] {t : TypeId} {x : Operand} {cx : List Bool} {sv : Value} {i sz : Nat} {xs : List α} {y : α} (hy : nth xs i = y) (ho : o.op = .load t x) (hx : evl E x = some (cx, elP sv i sz 0)) [hs : Sub cx cs] [ht : HasTy P t α]
    (hsz : sz = Enc.sz α) (hR : ∀ w, C w → RdL sv xs w) (hi : AllT cs → i < xs.length) : OpR P n E C cs o (val y) := by
  rw [← hy]; exact q_loadEl ho hx hsz hR hi
/-- x[a:b:b] -/
def SlV.row (s : SlV) (sz lo hi : Nat) : SlV := ⟨if hi = lo then s.addr else s.addr.map (·.add (lo * sz)), hi - lo, hi - lo⟩
theorem rd_row {s : SlV} {l : List α} {w : World} (h : RdL s.v l w) {a b : Nat} (hab : a ≤ b) (hb : b ≤ l.length) : RdL (s.row (Enc.sz α) a b).v ((l.take b).drop a) w := by
  obtain ⟨l1, l2, l3⟩ := rd_lens h
  by_cases e : b = a
  · subst e
    have : (l.take b).drop b = [] := by rw [List.drop_eq_nil_iff]; simp; omega
    rw [this]
    exact ⟨_, _, _, rfl, by simp [SlV.row], by simp [SlV.row], by simp [SlV.row, maxLen], fun i x j v hx => by simp at hx⟩
  · have h2 := rd_sub h hab hb
    obtain ⟨ad, n, cap, h3, h4, h5, h6, h7⟩ := h2
    have hc : s.cap ≠ a := by omega
    simp only [SlV.sub, SlV.v, hc, if_false, Value.slice.injEq] at h3
    obtain ⟨rfl, rfl, rfl⟩ := h3
    refine ⟨s.addr.map (·.add (a * Enc.sz α)), b - a, b - a, by simp [SlV.row, SlV.v, e], h4, Nat.le_refl _, by omega, fun i x j v hx hv => h7 i x j v hx hv⟩
theorem stb_row {s : SlV} {l : List α} {w : World} {fp : List Nat} (h : Stb w fp (RdL s.v l)) {a b : Nat} (hab : a ≤ b) (hb : b ≤ l.length) : Stb w fp (RdL (s.row (Enc.sz α) a b).v ((l.take b).drop a)) := ⟨fun w' k => rd_row (h.stb w' k) hab hb⟩
theorem q_slice3 {t e : TypeId} {sz : Nat} {x y z u : Operand} {cx cy cz cu : List Bool} {s : SlV} {l : List α} {a b : Int} (ho : o.op = .slice t x (some y) (some z) (some u)) (hx : evl E x = some (cx, s.v)) (hy : evl E y = some (cy, .int .i64 a)) (hz : evl E z = some (cz, .int .i64 b)) (hu : evl E u = some (cu, .int .i64 b))
    [sx : Sub cx cs] [sy : Sub cy cs] [sz' : Sub cz cs] [su : Sub cu cs] [ht : SlT P t e] [hs : SzT P e sz] (hrd : ∀ w, C w → RdL s.v l w) (h : AllT cs → 0 ≤ a ∧ a ≤ b ∧ b ≤ l.length) : OpR P n E C cs o (s.row sz a.toNat b.toNat).v :=
  .of_run fun e he hc w hw => by
    obtain ⟨h1, h2, h3⟩ := h hc
    obtain ⟨l1, l2, l3⟩ := rd_lens (hrd w hw)
    unfold execOp; simp only [ho]
    have e1 := he.eval hx sx hc
    have e2 := he.eval hy sy hc
    have e3 := he.eval hz sz' hc
    have e4 := he.eval hu su hc
    have f1 := run_sliceBound (P := P) (w := w) .i64 b s.cap .slice3Acap (by omega) (by omega)
    have f2 := run_sliceBound (P := P) (w := w) .i64 b b.toNat .slice3B (by omega) (by omega)
    have f3 := run_sliceBound (P := P) (w := w) .i64 a b.toNat .slice3C (by omega) (by omega)
    have hb : (Instr.sliceBounds true s.len s.cap (some (.int .i64 a)) (some (.int .i64 b)) (some (.int .i64 b))).run P w = .ok (a.toNat, b.toNat, b.toNat) w := by
      simp [Instr.sliceBounds, f1, f2, f3, Result.andThen]
    have g1 := run_underlying (P := P) (w := w) ht.und
    simp [e1, e2, e3, e4, Instr.sliceAt, Instr.slice, g1, hb, hs.sz, Result.andThen, SlV.v, SlV.row]
theorem elP_row {s : SlV} {lo hi sz i off : Nat} (h : hi ≠ lo) : elP (s.row sz lo hi).v i sz off = elP s.v (lo + i) sz off := by
  cases ha : s.addr with
  | none => simp [elP, SlV.row, SlV.v, h, ha]
  | some a =>
    simp [elP, SlV.row, SlV.v, h, ha]
    rw [addr_add_assoc, Nat.add_mul, Nat.add_assoc]
theorem q_indexRow {t e : TypeId} {x y : Operand} {cx cy : List Bool} {s : SlV} {lo hi sz : Nat} {k : IntKind} {i : Int} {xs : List α} (ho : o.op = .indexAddr t x y) (hx : evl E x = some (cx, (s.row sz lo hi).v)) (hy : evl E y = some (cy, .int k i))
    [sx : Sub cx cs] [sy : Sub cy cs] [ht : SlT P t e] [hz : SzT P e sz] (hR : ∀ w, C w → RdL s.v xs w) (hsz : sz = Enc.sz α) (h : AllT cs → 0 ≤ i ∧ lo + i.toNat < hi ∧ hi ≤ xs.length) : OpR P n E C cs o (elP s.v (lo + i.toNat) sz 0) := by
  intro a ha hc w hw
  have hh := h hc
  subst hsz
  have := q_index (P := P) (n := n) (E := E) (C := C) (cs := cs) (o := o) (xs := (xs.take hi).drop lo) ho hx hy (fun w hw => rd_row (hR w hw) (by omega) (by omega)) (fun _ => by simp; omega) a ha hc w hw
  rwa [elP_row (by omega)] at this
end
end Go.Sx

set_option autoImplicit false
set_option maxRecDepth 100000
namespace Go.Proofs.Ytomjbfeafodfbaa
open Go.Sx
open Enc (enc val)
theorem chk140 (k : P2) (em : Bool) (w : World) : (Instr.checkKey em 10000 71 (val k)).run Try.prog w = .ok () w := by kernel_rfl
theorem eq140 (k k' : P2) (w : World) : (Op.equal 71 (val k) (val k')).run Try.prog w = .ok (decide (k' = k)) w := by
  obtain ⟨a1, a2⟩ := k
  obtain ⟨b1, b2⟩ := k'
  simp only [Enc.val, P2.mk.injEq, Op.equal, Op.maxDepth]
  simp [go_sem]
  by_cases h1 : a1 = b1 <;> by_cases h2 : a2 = b2 <;> simp [h1, h2] <;> omega
instance : KeyT Try.prog 71 P2 := keyT_two Try.underlying71 chk140 eq140
structure TK where
  sp : SlV
  p : List Un
  tp : SlV
  tgt : List Wan
  x : Wts
  us : SlV
  usv : List SlV
  bk : Nat
  b3 : Nat
  b4 : Nat
  b5 : Nat
  b14 : Nat
  bm : Nat
def idxs (p : List Un) (k : Nat) (ph : ByteArray) : List Int := ((List.range k).filter fun i => decide ((nth p i).phone = ph)).map fun (i : Nat) => (i : Int)
namespace TK
variable (K : TK)
def U (i : Nat) : List Int := idxs K.p K.p.length (nth K.tgt i).phone
def F (i : Nat) (u : Int) : Int := fitC K.x (nth K.p u.toNat) (nth K.tgt i)
def J (u v : Int) : Int := joinC K.x (nth K.p u.toNat) (nth K.p v.toNat)
def t : Tsk := ⟨K.tgt.length, K.U, K.F, K.J⟩
structure Rd (w : World) : Prop where
  bk : BlkAt K.bk [K.sp.v, K.tp.v, .int .i64 K.x.beside, .int .i64 K.x.pitch, .int .i64 K.x.length, .int .i64 K.x.join, K.us.v, .func (.func 26) #[] #[.pointer (some ⟨K.b14, 0, none⟩), .pointer (some ⟨K.b3, 0, none⟩), .pointer (some ⟨K.b4, 0, none⟩), .pointer (some ⟨K.b5, 0, none⟩)]] 67 w
  b14 : BlkAt K.b14 [.map (some K.bm)] 69 w
  b3 : BlkAt K.b3 [K.sp.v] 26 w
  b4 : BlkAt K.b4 [K.tp.v] 27 w
  b5 : BlkAt K.b5 (enc K.x) 39 w
  us : RdL K.us.v K.usv w
  un : K.usv.length = K.tgt.length
  uu : ∀ i, i < K.tgt.length → RdL (nth K.usv i).v (K.U i) w
  tp : RdL K.tp.v K.tgt w
  vo : VoRd w K.sp K.p
structure Ok : Prop where
  vo : voiceB K.p = true
  wa : ∀ t ∈ K.tgt, waB t = true
  wt : wtB K.x = true
  n1 : K.p.length ≤ 2000
  n2 : K.tgt.length ≤ 500
theorem Ok.un {K : TK} (h : K.Ok) {u : Int} (hu : 0 ≤ u ∧ u < K.p.length) : UnOk (nth K.p u.toNat) ∧ nth K.p u.toNat ∈ K.p := by
  have hm : nth K.p u.toNat ∈ K.p := by rw [nth_get (by omega)]; exact List.getElem_mem (by omega)
  have := h.vo
  simp only [voiceB, Bool.and_eq_true] at this
  exact ⟨un_ok (List.all_eq_true.1 this.1.1 _ hm), hm⟩
theorem Ok.tg {K : TK} (h : K.Ok) {i : Nat} (hi : i < K.tgt.length) : WaOk (nth K.tgt i) := wa_ok (h.wa _ (by rw [nth_get hi]; exact List.getElem_mem hi))
theorem Ok.bl {K : TK} (h : K.Ok) {u v : Int} (hu : 0 ≤ u ∧ u < K.p.length) (hv : 0 ≤ v ∧ v < K.p.length) : (nth K.p u.toNat).el.length = (nth K.p v.toNat).bl.length := by
  have := h.vo
  simp only [voiceB, eqB, Bool.and_eq_true, List.all_eq_true, decide_eq_true_eq] at this
  have h1 := this.1.2 _ (h.un hu).2
  have h2 := this.1.2 _ (h.un hv).2
  omega
theorem idx_mem {p : List Un} {k : Nat} {ph : ByteArray} {u : Int} : u ∈ idxs p k ph ↔ 0 ≤ u ∧ u < k ∧ (nth p u.toNat).phone = ph := by
  simp only [idxs, List.mem_map, List.mem_filter, List.mem_range, decide_eq_true_eq]
  constructor
  · rintro ⟨i, ⟨h1, h2⟩, rfl⟩
    exact ⟨by omega, by omega, h2⟩
  · rintro ⟨h1, h2, h3⟩
    exact ⟨u.toNat, ⟨by omega, h3⟩, by omega⟩
theorem U_mem {i : Nat} {u : Int} (h : u ∈ K.U i) : 0 ≤ u ∧ u < K.p.length := by
  have := idx_mem.1 h
  exact ⟨this.1, this.2.1⟩
def MemoOk (m : List (P2 × Int)) : Prop := ∀ k v, get? m k = some v → v = K.F k.a.toNat k.b
end TK
theorem stb_map {w : World} {bs : List Nat} {R S : World → Prop} (h : Stb w bs R) (f : ∀ w', R w' → S w') : Stb w bs S := ⟨fun w' k => f w' (h.stb w' k)⟩
theorem cost_spec (K : TK) (hK : K.Ok) (i : Nat) (hi : i < K.tgt.length) (u : Int) (hu : 0 ≤ u ∧ u < K.p.length) (m : List (P2 × Int)) (hm : K.MemoOk m) (w : World) (bs : List Nat) (hs : Sep [mpA K.bm m] w bs) (hn : bs.Nodup) (hlt : ∀ b ∈ bs, b < w.heap.size) (hR : Stb w bs K.Rd) :
    Calls Try.prog 26 #[.int .i64 i, .int .i64 u, .pointer (some ⟨K.b14, 0, none⟩), .pointer (some ⟨K.b3, 0, none⟩), .pointer (some ⟨K.b4, 0, none⟩), .pointer (some ⟨K.b5, 0, none⟩)] w fun e w' => ∃ m' : List (P2 × Int), e = .returned (.int .i64 (K.F i u)) ∧ K.MemoOk m' ∧ Cl w bs [mpA K.bm m'] w' := by
  have h14 := stb_map hR fun _ h => h.b14
  have h3 := stb_map hR fun _ h => h.b3
  have h4 := stb_map hR fun _ h => h.b4
  have h5 : Stb w bs (BlkIs K.b5 0 K.x) := stb_map hR fun _ h => blkIs_of h.b5 (fun j v hj => by simpa using hj)
  have htp := stb_map hR fun _ h => h.tp
  have hsp := stb_map hR fun _ h => h.vo.l.here
  have hun := hK.un hu
  refine calls_cw (vs := [_, _, _, _, _, _]) Try.func26 rfl Try.ntmps26 rfl (Cl.start hs hn hlt) (cw_seq (cw_region (sr rfl rfl rfl ((q_assign rfl rfl)) (sw_nil (post_then (cw_seq (cw_region (sr rfl rfl rfl ((q_move rfl rfl)) (sr rfl rfl rfl ((q_move rfl rfl)) (sr rfl rfl rfl ((q_build rfl (.cons rfl inferInstance (.cons rfl inferInstance (.nil))) rfl)) ?_))))))))))
  refine sw_x rfl rfl rfl (e_alloc rfl) (fun b9 => ?_)
  refine sw_eff0 rfl rfl (e_store (i := 0) rfl rfl rfl rfl rfl rfl rfl rfl) (sw_nil (post_then (cw_seq (cw_region ?_))))
  refine sr rfl rfl rfl ((q_loadS rfl rfl (fun w hw => Stb.cl (by assumption) hw) rfl)) ?_
  refine sr rfl rfl rfl ((q_loadA rfl rfl (by exact .head _) rfl)) ?_
  refine sr rfl rfl rfl ((q_lookup2 (k := (⟨i, u⟩ : P2)) (z := (0 : Int)) (l := m) rfl rfl rfl (by exact fun w hw => rdm_own hw (by exact .tail _ (.head _))))) ?_
  refine sr rfl rfl rfl ((q_move rfl rfl)) (sr rfl rfl rfl ((q_extract rfl rfl rfl)) (sr rfl rfl rfl ((q_extract rfl rfl rfl)) (sr rfl rfl rfl ((q_assign rfl rfl)) (sr rfl rfl rfl ((q_assign rfl rfl)) (sw_nil (post_then (cw_seq (cw_seq (cw_region (sr rfl rfl rfl ((q_move rfl rfl)) (sr rfl rfl rfl ((q_not rfl rfl)) (sw_nil (post_then ?_)))))))))))))
  refine cw_cond rfl (fun h => ?_) (fun h => ?_)
  · skip
    have h0 : get? m (⟨i, u⟩ : P2) = none := by simpa using h
    refine cw_seq ?_
    refine cw_region_q mixed_Try (by kernel_rfl) ?_
    refine qr rfl rfl rfl ((q_loadS rfl rfl (fun w hw => Stb.cl (by assumption) hw) rfl)) ?_
    refine qr rfl rfl rfl ((q_move rfl rfl)) ?_
    refine qr rfl rfl rfl ((q_index rfl rfl rfl (by exact fun w hw => Stb.cl (by assumption) hw) (by intro hc; omega))) ?_
    refine qr rfl rfl rfl ((q_loadEl rfl rfl rfl (by exact fun w hw => Stb.cl (by assumption) hw) (by intro hc; omega))) ?_
    refine qr rfl rfl rfl ((q_loadS rfl rfl (fun w hw => Stb.cl (by assumption) hw) rfl)) ?_
    refine qr rfl rfl rfl ((q_move rfl rfl)) ?_
    refine qr rfl rfl rfl ((q_indexN rfl rfl rfl (by exact fun w hw => Stb.cl (by assumption) hw) (by intro hc; omega))) ?_
    refine qr rfl rfl rfl ((q_loadEl rfl rfl rfl (by exact fun w hw => Stb.cl (by assumption) hw) (by intro hc; omega))) ?_
    refine qr rfl rfl rfl ((q_loadI rfl rfl (fun w hw => Stb.cl (by assumption) hw))) ?_
    refine qw_step rfl rfl rfl (q_call (CanCall.mk Try.call27) rfl (.cons rfl inferInstance (.cons rfl inferInstance (.cons rfl inferInstance (.nil)))) (fun _ w hw => callq hw (fitting_spec _ _ _ w hun.1 (hK.tg hi) (wt_ok hK.wt)))) (qr rfl rfl rfl ((q_assign rfl rfl)) (qw_end (post_then (cw_region ?_))))
    refine sr rfl rfl rfl ((q_loadS rfl rfl (fun w hw => Stb.cl (by assumption) hw) rfl)) ?_
    refine sr rfl rfl rfl ((q_loadA rfl rfl (by exact .head _) rfl)) ?_
    refine sr rfl rfl rfl ((q_move rfl rfl)) (sw_eff0 rfl rfl (e_mapUpdate (κ := P2) (ν := Int) (k := ⟨i, u⟩) (v := K.F i u) (i := 1) (.inl rfl) rfl rfl rfl rfl) (sw_nil (post_then (cw_seq (cw_region (sr rfl rfl rfl ((q_move rfl rfl)) (sr rfl rfl rfl ((q_assign rfl rfl)) (sw_nil (post_then (cw_ret (post_ret1 rfl (resOk_tmp rfl) ?_)))))))))))
    refine fun w' hw => ⟨upd m ⟨i, u⟩ (K.F i u), rfl, fun k v hk => ?_, (fun w h => Cl.sel (by exact .take 1 rfl (.nil _)) w h) _ hw⟩
    rw [get?_upd] at hk
    by_cases e : k = ⟨i, u⟩
    · rw [if_pos e] at hk; cases hk; rw [e]; rfl
    · rw [if_neg e] at hk; exact hm k v hk
  · skip
    obtain ⟨v, h0⟩ : ∃ v, get? m (⟨i, u⟩ : P2) = some v := by
      cases hh : get? m (⟨i, u⟩ : P2)
      · rw [hh] at h; simp at h
      · exact ⟨_, rfl⟩
    have hv := hm _ _ h0
    have hz : getZ (0 : Int) m (⟨i, u⟩ : P2) = K.F i u := by rw [getZ, h0, Option.getD_some, hv]; rfl
    refine cw_skip (post_then (cw_seq (cw_region (sr rfl rfl rfl ((q_move rfl rfl)) (sr rfl rfl rfl ((q_assign rfl rfl)) (sw_nil (post_then (cw_ret (post_ret1 rfl (resOk_tmp rfl) ?_)))))))))
    exact fun w' hw => ⟨m, by rw [hz]; rfl, hm, (fun w h => Cl.sel (by exact .take 1 rfl (.nil _)) w h) _ hw⟩
end Go.Proofs.Ytomjbfeafodfbaa

set_option autoImplicit false
set_option maxRecDepth 100000
namespace Go.Proofs.Ytomjbfeafodfbaa
open Go.Sx
open Enc (enc val)
def TK.possB (K : TK) : Bool := (List.range K.tgt.length).all fun i => decide (K.U i ≠ [])
theorem TK.poss {K : TK} (h : K.possB = true) {i : Nat} (hi : i < K.tgt.length) : K.U i ≠ [] := by
  have := List.all_eq_true.1 h i (by simpa using hi)
  simpa using this
theorem poss1_spec (xs : List SlV) : PredL Try.prog 29 #[] (fun s : SlV => decide (s.len = 0)) (fun _ => True) xs := fun x _ w _ => by
  refine calls_cw (vs := [_]) Try.func29 rfl Try.ntmps29 rfl (Cl.start0 w) (cw_seq (cw_region (sr rfl rfl rfl ((q_assign rfl rfl)) (sw_nil (post_then (cw_seq (cw_region (sr rfl rfl rfl ((q_move rfl rfl)) (sr rfl rfl rfl ((q_lenV rfl (.cons rfl inferInstance (.nil)))) (sr rfl rfl rfl ((q_eql rfl rfl rfl)) (sr rfl rfl rfl ((q_assign rfl rfl)) (sw_nil (post_then (cw_ret (post_ret1 rfl (resOk_tmp rfl) ?_)))))))))))))))
  exact fun w' hw => ⟨by congr 2; rw [decide_eq_decide]; omega, hw⟩
theorem possible_spec (K : TK) (w : World) (hR : Stb w [] K.Rd) : Calls Try.prog 12 #[.pointer (some ⟨K.bk, 0, none⟩)] w fun e w' => e = .returned (.bool K.possB) ∧ Cl w [] [] w' := by
  have hbk := stb_map hR fun _ h => h.bk
  have hus := stb_map hR fun _ h => h.us
  refine calls_cw (vs := [_]) Try.func12 rfl Try.ntmps12 rfl (Cl.start0 w) (cw_seq (cw_region (sr rfl rfl rfl ((q_assign rfl rfl)) (sw_nil (post_then (cw_seq (cw_region (sr rfl rfl rfl ((q_move rfl rfl)) (sr rfl rfl rfl ((q_nilCheck rfl rfl)) (sr rfl rfl rfl ((q_fieldAddr rfl rfl)) ?_))))))))))
  refine sr rfl rfl rfl ((q_loadS rfl rfl (fun w hw => Stb.cl (by assumption) hw) rfl)) ?_
  refine sw_step rfl rfl rfl (q_call (CanCall.mk Try.call28) rfl (.cons rfl inferInstance (.cons rfl inferInstance (.nil))) (fun _ w hw => callq hw (containsRow_spec _ _ _ _ _ _ w (by exact stb_arg hw (by assumption)) (stb_true w []) (CanCall.mk Try.call29) (poss1_spec _)))) ?_
  refine sr rfl rfl rfl ((q_not rfl rfl)) (sr rfl rfl rfl ((q_assign rfl rfl)) (sw_nil (post_then (cw_ret (post_ret1 rfl (resOk_tmp rfl) ?_)))))
  refine fun w' hw => ⟨?_, hw⟩
  congr 2
  rw [List.not_any_eq_all_not]
  have hun := hR.here.un
  rw [Bool.eq_iff_iff, List.all_eq_true]
  unfold TK.possB
  rw [List.all_eq_true]
  have hlen : ∀ i, i < K.tgt.length → (nth K.usv i).len = (K.U i).length := fun i hi => (rd_lens (hR.here.uu i hi)).1
  constructor
  · intro h i hi
    simp only [List.mem_range] at hi
    have := h (nth K.usv i) (by rw [nth_get (by omega)]; exact List.getElem_mem (by omega))
    simp only [Bool.not_eq_true', decide_eq_false_iff_not] at this
    rw [hlen i hi] at this
    simpa using this
  · intro h s hs
    obtain ⟨i, hi, rfl⟩ := List.getElem_of_mem hs
    have h2 := h i (by simp; omega)
    have h3 := hlen i (by omega)
    rw [nth_get hi] at h3
    simp only [ne_eq, decide_eq_true_eq, Bool.not_eq_true', decide_eq_false_iff_not] at h2 ⊢
    rw [h3]
    simpa using h2
theorem plus_spec (n m : Int) (w : World) (hn : 0 ≤ n ∧ n ≤ 4611686018427387904) (hm : -4611686018427387904 ≤ m) : Calls Try.prog 51 #[.int .i64 n, .int .i64 m] w fun e w' => e = .returned (.int .i64 (min (n + m) 9223372036854775807)) ∧ Cl w [] [] w' := by
  refine calls_cw (vs := [_, _]) Try.func51 rfl Try.ntmps51 rfl (Cl.start0 w) (cw_seq (cw_region (sr rfl rfl rfl ((q_assign rfl rfl)) (sw_nil (post_then (cw_seq (cw_seq (cw_region (sr rfl rfl rfl ((q_move rfl rfl)) (sr rfl rfl rfl ((q_move rfl rfl)) ?_))))))))))
  refine sr rfl rfl rfl ((q_sub rfl rfl rfl (by intro hc; omega))) ?_
  refine sr rfl rfl rfl ((q_gtr rfl rfl rfl)) (sw_nil (post_then ?_))
  refine cw_cond rfl (fun h => ?_) (fun h => ?_)
  · skip
    have h1 : 9223372036854775807 - n < m := by simpa using h
    refine cw_seq (cw_region (sr rfl rfl rfl ((q_assign rfl rfl)) (sw_nil (post_then (cw_ret (post_then_r (post_ret1 rfl (resOk_tmp rfl) ?_)))))))
    exact fun w' hw => ⟨by congr 2; omega, hw⟩
  · skip
    have h1 : ¬ 9223372036854775807 - n < m := by simpa using h
    refine cw_skip (post_then (cw_seq (cw_region (sr rfl rfl rfl ((q_move rfl rfl)) (sr rfl rfl rfl ((q_move rfl rfl)) ?_)))))
    refine sr rfl rfl rfl ((q_add rfl rfl rfl (by intro hc; omega))) ?_
    refine sr rfl rfl rfl ((q_assign rfl rfl)) (sw_nil (post_then (cw_ret (post_ret1 rfl (resOk_tmp rfl) ?_))))
    exact fun w' hw => ⟨by congr 2; omega, hw⟩
def nextTo (K : TK) (row : List Int) (i : Nat) (after : Int) (k : Nat) : Int := (((K.U i).take k).map fun v => K.J after v + nth row v.toNat).foldl min 9223372036854775807
theorem nextTo_le (K : TK) (row : List Int) (i : Nat) (after : Int) (k : Nat) : nextTo K row i after k ≤ 9223372036854775807 := (foldl_min_le _ _).1
theorem nextTo_succ (K : TK) (row : List Int) (i : Nat) (after : Int) {k : Nat} (hk : k < (K.U i).length) : nextTo K row i after (k + 1) = min (nextTo K row i after k) (K.J after (nth (K.U i) k) + nth row (nth (K.U i) k).toNat) := by
  simp only [nextTo]
  rw [List.take_succ_eq_append_getElem hk, List.map_append, List.foldl_append, ← nth_get hk]
  simp
theorem next_spec (K : TK) (hK : K.Ok) (rv : Value) (row : List Int) (i : Nat) (hi : i < K.tgt.length) (after : Int) (ha : 0 ≤ after ∧ after < K.p.length) (hrow : row.length = K.p.length) (hlow : ∀ v ∈ K.U i, -4611686018427387904 ≤ nth row v.toNat) (w : World) (hrv : Stb w [] (RdL rv row)) (hR : Stb w [] K.Rd) :
    Calls Try.prog 31 #[.pointer (some ⟨K.bk, 0, none⟩), rv, .int .i64 i, .int .i64 after] w fun e w' => e = .returned (.int .i64 (minL ((K.U i).map fun v => K.J after v + nth row v.toNat))) ∧ Cl w [] [] w' := by
  have hbk := stb_map hR fun _ h => h.bk
  have hus := stb_map hR fun _ h => h.us
  have huu := stb_map hR fun _ h => h.uu i hi
  have hsp := stb_map hR fun _ h => h.vo.l.here
  have hun := hR.here.un
  have hUL := rd_len huu.here
  have hx : Stb w [] (BlkIs K.bk 2 K.x) := stb_map hR fun _ h => blkIs_of h.bk (fun j v hj => by
    match j, hj with
    | 0, hj => exact hj
    | 1, hj => exact hj
    | 2, hj => exact hj
    | 3, hj => exact hj
    | j + 4, hj => simp [Enc.enc] at hj)
  have hvo := stb_map hR fun _ h => h.vo
  refine calls_cw (vs := [_, _, _, _]) Try.func31 rfl Try.ntmps31 rfl (Cl.start0 w) (cw_seq (cw_region (sr rfl rfl rfl ((q_assign rfl rfl)) (sw_nil (post_then (cw_seq (cw_region (sr rfl rfl rfl ((q_assign rfl rfl)) (sw_nil (post_then (cw_seq (cw_seq (cw_region (sr rfl rfl rfl ((q_move rfl rfl)) (sr rfl rfl rfl ((q_nilCheck rfl rfl)) (sr rfl rfl rfl ((q_fieldAddr rfl rfl)) ?_))))))))))))))))
  refine sr rfl rfl rfl ((q_loadS rfl rfl (fun w hw => Stb.cl (by assumption) hw) rfl)) ?_
  refine sr rfl rfl rfl ((q_move rfl rfl)) ?_
  refine sr rfl rfl rfl ((q_indexN rfl rfl rfl (by exact fun w hw => Stb.cl (by assumption) hw) (by intro hc; omega))) ?_
  refine sr rfl rfl rfl ((q_loadEl rfl rfl rfl (by exact fun w hw => Stb.cl (by assumption) hw) (by intro hc; omega))) ?_
  refine sr rfl rfl rfl ((q_len rfl (.cons rfl inferInstance (.nil)) (by exact fun w hw => Stb.cl (by assumption) hw))) ?_
  refine sr rfl rfl rfl ((q_move rfl rfl)) (sw_nil (post_then (cw_block ?_)))
  refine cw_loop (S := Nat) (fun k => [(0, [], .pointer (some ⟨K.bk, 0, none⟩)), (1, [], rv), (3, [], .int .i64 after), (9, [], .int .i64 (nextTo K row i after k)), (18, [], (nth K.usv i).v), (19, [], .int .i64 (K.U i).length), (20, [], .int .i64 k)]) (fun _ => Cl w [] []) (fun k => k ≤ (K.U i).length) (fun k => (K.U i).length - k) 0 (Nat.zero_le _) (by exact .cons rfl (.cons rfl (.cons rfl (.cons rfl (.cons rfl (.cons rfl (.cons rfl .nil))))))) (fun _ h => h) ?_
  intro k hk
  refine cw_seq (cw_region (sr rfl rfl rfl ((q_lss rfl rfl rfl)) (sw_nil (post_then (cw_seq ?_)))))
  refine cw_cond rfl (fun h => ?_) (fun h => ?_)
  · skip
    have hk' : k < (K.U i).length := by simp only [decide_eq_true_eq] at h; omega
    have hv := K.U_mem (i := i) (u := nth (K.U i) k) (by rw [nth_get hk']; exact List.getElem_mem hk')
    have hl := hlow (nth (K.U i) k) (by rw [nth_get hk']; exact List.getElem_mem hk')
    have hun1 := hK.un ha
    have hun2 := hK.un hv
    have hbd := joinC_bd (wt_ok hK.wt) hun1.1 hun2.1
    have hle := nextTo_le K row i after k
    refine cw_skip (post_then (cw_seq (cw_block (cw_seq (cw_region ?_)))))
    refine sr rfl rfl rfl ((q_indexN rfl rfl rfl (by exact fun w hw => Stb.cl (by assumption) hw) (by intro hc; omega))) ?_
    refine sr rfl rfl rfl ((q_loadEl rfl rfl rfl (by exact fun w hw => Stb.cl (by assumption) hw) (by intro hc; omega))) ?_
    refine sr rfl rfl rfl ((q_assign rfl rfl)) (sw_nil (post_then ?_))
    refine cw_region_q mixed_Try (by kernel_rfl) ?_
    refine qr rfl rfl rfl ((q_move rfl rfl)) (qr rfl rfl rfl ((q_move rfl rfl)) (qr rfl rfl rfl ((q_nilCheck rfl rfl)) (qr rfl rfl rfl ((q_fieldAddr rfl rfl)) ?_)))
    refine qr rfl rfl rfl ((q_loadS rfl rfl (fun w hw => Stb.cl (by assumption) hw) rfl)) ?_
    refine qr rfl rfl rfl ((q_move rfl rfl)) ?_
    refine qr rfl rfl rfl ((q_index rfl rfl rfl (by exact fun w hw => Stb.cl (by assumption) hw) (by intro hc; omega))) ?_
    refine qr rfl rfl rfl ((q_loadEl rfl rfl rfl (by exact fun w hw => Stb.cl (by assumption) hw) (by intro hc; omega))) ?_
    refine qr rfl rfl rfl ((q_move rfl rfl)) (qr rfl rfl rfl ((q_nilCheck rfl rfl)) (qr rfl rfl rfl ((q_fieldAddr rfl rfl)) ?_))
    refine qr rfl rfl rfl ((q_loadS rfl rfl (fun w hw => Stb.cl (by assumption) hw) rfl)) ?_
    refine qr rfl rfl rfl ((q_move rfl rfl)) ?_
    refine qr rfl rfl rfl ((q_index rfl rfl rfl (by exact fun w hw => Stb.cl (by assumption) hw) (by intro hc; omega))) ?_
    refine qr rfl rfl rfl ((q_loadEl rfl rfl rfl (by exact fun w hw => Stb.cl (by assumption) hw) (by intro hc; omega))) ?_
    refine qr rfl rfl rfl ((q_move rfl rfl)) (qr rfl rfl rfl ((q_nilCheck rfl rfl)) (qr rfl rfl rfl ((q_fieldAddr rfl rfl)) ?_))
    refine qr rfl rfl rfl ((q_loadI rfl rfl (fun w hw => Stb.cl (by assumption) hw))) ?_
    refine qw_step rfl rfl rfl (q_call (CanCall.mk Try.call34) rfl (.cons rfl inferInstance (.cons rfl inferInstance (.cons rfl inferInstance (.nil)))) (fun _ w hw => callq hw (joining_spec _ _ _ w ((hvo.cl hw).u _ hun1.2) ((hvo.cl hw).u _ hun2.2) hun1.1 hun2.1 (hK.bl ha hv) (wt_ok hK.wt)))) (qr rfl rfl rfl ((q_move rfl rfl)) (qr rfl rfl rfl ((q_move rfl rfl)) ?_))
    refine qr rfl rfl rfl ((q_index rfl rfl rfl (by exact fun w hw => Stb.cl (by assumption) hw) (by intro hc; omega))) ?_
    refine qr rfl rfl rfl ((q_loadEl rfl rfl rfl (by exact fun w hw => Stb.cl (by assumption) hw) (by intro hc; omega))) ?_
    refine qw_step rfl rfl rfl (q_call (CanCall.mk Try.call51) rfl (.cons rfl inferInstance (.cons rfl inferInstance (.nil))) (fun _ w hw => callq hw (plus_spec _ _ w (by omega) (by omega)))) ?_
    refine qr rfl rfl rfl ((q_min rfl (.cons rfl inferInstance (.cons rfl inferInstance (.nil))))) (qr rfl rfl rfl ((q_assign rfl rfl)) (qw_end (post_blk (post_then (cw_region ?_)))))
    refine sr rfl rfl rfl ((q_add rfl rfl rfl (by intro hc; omega))) ?_
    refine sr rfl rfl rfl ((q_move rfl rfl)) (sw_nil ?_)
    refine post_next (k + 1) ?_ (fun _ h => h) (by omega) (by omega)
    rw [nextTo_succ K row i after hk']
    refine Le.cons rfl (Le.cons rfl (Le.cons rfl (Le.cons' rfl (by congr 1; simp only [TK.J]; omega) (Le.cons rfl (Le.cons rfl (Le.cons rfl Le.nil))))))
  · skip
    have hk' : k = (K.U i).length := by simp only [decide_eq_false_iff_not] at h; omega
    subst hk'
    refine cw_exit (post_then_x (post_then_x (post_blk_eq (post_then (cw_seq (cw_region (sr rfl rfl rfl ((q_move rfl rfl)) (sr rfl rfl rfl ((q_assign rfl rfl)) (sw_nil (post_then (cw_ret (post_ret1 rfl (resOk_tmp rfl) ?_))))))))))))
    exact fun w' hw => ⟨by simp only [nextTo, List.take_length]; rfl, hw⟩
end Go.Proofs.Ytomjbfeafodfbaa

set_option autoImplicit false
set_option maxRecDepth 100000
namespace Go.Proofs.Ytomjbfeafodfbaa
open Go.Sx
open Enc (enc val)
def rowsTo (sc : SlV) (W T k : Nat) : List SlV := (List.range T).map fun j => if j < k then sc.row 1 (j * W) ((j + 1) * W) else ⟨none, 0, 0⟩
theorem rowsTo_len (sc : SlV) (W T k : Nat) : (rowsTo sc W T k).length = T := by simp [rowsTo]
theorem rowsTo_nth (sc : SlV) (W T k j : Nat) (hj : j < T) : nth (rowsTo sc W T k) j = if j < k then sc.row 1 (j * W) ((j + 1) * W) else ⟨none, 0, 0⟩ := by
  rw [nth_get (by rw [rowsTo_len]; exact hj)]; simp [rowsTo]
theorem rowsTo_succ (sc : SlV) (W T k : Nat) (hk : k < T) : (rowsTo sc W T k).set k (sc.row 1 (k * W) ((k + 1) * W)) = rowsTo sc W T (k + 1) := by
  apply List.ext_getElem (by simp [rowsTo])
  intro i h1 h2
  rw [List.getElem_set]
  have hi : i < T := by simpa [rowsTo] using h2
  by_cases e : k = i
  · subst e; simp [rowsTo]
  · rw [if_neg e]
    simp only [rowsTo, List.getElem_map, List.getElem_range]
    by_cases h3 : i < k
    · rw [if_pos h3, if_pos (by omega)]
    · rw [if_neg h3, if_neg (by omega)]
theorem rowsTo_zero (sc : SlV) (W T : Nat) : List.replicate T (⟨none, 0, 0⟩ : SlV) = rowsTo sc W T 0 := by
  apply List.ext_getElem (by simp [rowsTo])
  intro i h1 h2
  simp [rowsTo]
theorem prod_bd {j T W : Nat} (hj : j < T) (hT : T ≤ 500) (hW : W ≤ 2000) : j * W ≤ (j + 1) * W ∧ (j + 1) * W ≤ T * W ∧ T * W ≤ 1000000 ∧ (j + 1) * W = j * W + W :=
  ⟨Nat.mul_le_mul_right _ (by omega), Nat.mul_le_mul_right _ (by omega), Nat.mul_le_mul hT hW, by rw [Nat.add_mul, Nat.one_mul]⟩
theorem table_spec (K : TK) (hK : K.Ok) (w : World) (hR : Stb w [] K.Rd) : Calls Try.prog 30 #[.pointer (some ⟨K.bk, 0, none⟩)] w fun e w' => ∃ y : SlV × SlV, e = .returned y.1.v ∧ True ∧ Cl w [] [ownL 22 y.1.v (rowsTo y.2 K.p.length K.tgt.length K.tgt.length), ownL 3 y.2.v (List.replicate (K.tgt.length * K.p.length) (0 : Int))] w' := by
  have hbk := stb_map hR fun _ h => h.bk
  have hsp := stb_map hR fun _ h => h.vo.l.here
  have htp := stb_map hR fun _ h => h.tp
  have n1 := hK.n1
  have n2 := hK.n2
  have hTW : K.tgt.length * K.p.length ≤ 1000000 := Nat.mul_le_mul n2 n1
  have eTW : ((K.tgt.length : Int) * (K.p.length : Int)) = ((K.tgt.length * K.p.length : Nat) : Int) := by rw [Int.natCast_mul]
  refine calls_cw (vs := [_]) Try.func30 rfl Try.ntmps30 rfl (Cl.start0 w) (cw_seq (cw_region (sr rfl rfl rfl ((q_assign rfl rfl)) (sw_nil (post_then (cw_seq (cw_region (sr rfl rfl rfl ((q_move rfl rfl)) (sr rfl rfl rfl ((q_nilCheck rfl rfl)) (sr rfl rfl rfl ((q_fieldAddr rfl rfl)) ?_))))))))))
  refine sr rfl rfl rfl ((q_loadS rfl rfl (fun w hw => Stb.cl (by assumption) hw) rfl)) ?_
  refine sr rfl rfl rfl ((q_len rfl (.cons rfl inferInstance (.nil)) (by exact fun w hw => Stb.cl (by assumption) hw))) ?_
  refine sr rfl rfl rfl ((q_assign rfl rfl)) (sw_nil (post_then (cw_seq (cw_region (sr rfl rfl rfl ((q_move rfl rfl)) (sr rfl rfl rfl ((q_nilCheck rfl rfl)) (sr rfl rfl rfl ((q_fieldAddr rfl rfl)) ?_)))))))
  refine sr rfl rfl rfl ((q_loadS rfl rfl (fun w hw => Stb.cl (by assumption) hw) rfl)) ?_
  refine sr rfl rfl rfl ((q_len rfl (.cons rfl inferInstance (.nil)) (by exact fun w hw => Stb.cl (by assumption) hw))) ?_
  refine sr rfl rfl rfl ((q_move rfl rfl)) ?_
  refine sr rfl rfl rfl ((q_mul rfl rfl rfl (by intro hc; omega))) ?_
  rw [eTW]
  refine sw_x rfl rfl rfl (e_make (α := Int) (zero := 0) rfl rfl rfl rfl rfl (by omega) (by omega) (by decide)) (fun s19 => ?_)
  refine sr rfl rfl rfl ((q_assign rfl rfl)) (sw_nil (post_then (cw_seq (cw_region (sr rfl rfl rfl ((q_move rfl rfl)) (sr rfl rfl rfl ((q_nilCheck rfl rfl)) (sr rfl rfl rfl ((q_fieldAddr rfl rfl)) ?_)))))))
  refine sr rfl rfl rfl ((q_loadS rfl rfl (fun w hw => Stb.cl (by assumption) hw) rfl)) ?_
  refine sr rfl rfl rfl ((q_len rfl (.cons rfl inferInstance (.nil)) (by exact fun w hw => Stb.cl (by assumption) hw))) ?_
  refine sw_x rfl rfl rfl (e_make (α := SlV) (zero := ⟨none, 0, 0⟩) rfl rfl rfl rfl rfl (by omega) (by omega) (by decide)) (fun s25 => ?_)
  refine sr rfl rfl rfl ((q_assign rfl rfl)) (sw_nil (post_then (cw_seq (cw_seq (cw_region (sr rfl rfl rfl ((q_move rfl rfl)) ?_))))))
  refine sr rfl rfl rfl ((q_len rfl (.cons rfl inferInstance (.nil)) (by exact fun w hw => rd_own hw (by exact .head _)))) ?_
  refine sr rfl rfl rfl ((q_move rfl rfl)) (sw_nil (post_then (cw_block ?_)))
  refine cw_loop (S := Nat) (fun k => [(3, [], .int .i64 K.p.length), (4, [], s19.v), (5, [], s25.v), (27, [], .int .i64 K.tgt.length), (28, [], .int .i64 k)]) (fun k => Cl w [] [ownL 22 s25.v (rowsTo s19 K.p.length K.tgt.length k), ownL 3 s19.v (List.replicate (K.tgt.length * K.p.length) (0 : Int))]) (fun k => k ≤ K.tgt.length) (fun k => K.tgt.length - k) 0 (Nat.zero_le _) (Le.cons rfl (Le.cons rfl (Le.cons rfl (Le.cons' rfl (by simp) (Le.cons rfl Le.nil))))) (fun _ h => by rw [← rowsTo_zero]; exact h) ?_
  intro k hk
  have hrl := rowsTo_len s19 K.p.length K.tgt.length k
  refine cw_seq (cw_region (sr rfl rfl rfl ((q_lss rfl rfl rfl)) (sw_nil (post_then (cw_seq ?_)))))
  refine cw_cond rfl (fun h => ?_) (fun h => ?_)
  · skip
    have hk' : k < K.tgt.length := by simp only [decide_eq_true_eq] at h; omega
    obtain ⟨q1, q2, q3, q4⟩ := prod_bd hk' n2 n1
    have e1 : ((k : Int) * (K.p.length : Int)) = ((k * K.p.length : Nat) : Int) := by rw [Int.natCast_mul]
    have e2 : (((k : Int) + 1) * (K.p.length : Int)) = (((k + 1) * K.p.length : Nat) : Int) := by rw [Int.natCast_mul]; rfl
    refine cw_skip (post_then (cw_seq (cw_block (cw_seq (cw_region (sr rfl rfl rfl ((q_move rfl rfl)) (sr rfl rfl rfl ((q_assign rfl rfl)) (sw_nil (post_then (cw_region (sr rfl rfl rfl ((q_move rfl rfl)) (sr rfl rfl rfl ((q_move rfl rfl)) (sr rfl rfl rfl ((q_move rfl rfl)) (sr rfl rfl rfl ((q_move rfl rfl)) (sr rfl rfl rfl ((q_move rfl rfl)) ?_)))))))))))))))
    refine sr rfl rfl rfl ((q_mul rfl rfl rfl (by intro hc; omega))) ?_
    refine sr rfl rfl rfl ((q_move rfl rfl)) ?_
    refine sr rfl rfl rfl ((q_add rfl rfl rfl (by intro hc; omega))) ?_
    refine sr rfl rfl rfl ((q_move rfl rfl)) ?_
    refine sr rfl rfl rfl ((q_mul rfl rfl rfl (by intro hc; omega))) ?_
    refine sr rfl rfl rfl ((q_move rfl rfl)) ?_
    refine sr rfl rfl rfl ((q_add rfl rfl rfl (by intro hc; omega))) ?_
    refine sr rfl rfl rfl ((q_move rfl rfl)) ?_
    refine sr rfl rfl rfl ((q_mul rfl rfl rfl (by intro hc; omega))) ?_
    rw [e1, e2]
    refine sr rfl rfl rfl ((q_slice3 (l := List.replicate (K.tgt.length * K.p.length) (0 : Int)) rfl rfl rfl rfl rfl (by exact fun w hw => rd_own hw (by exact .tail _ (.head _))) (fun _ => ⟨by omega, by omega, by rw [List.length_replicate]; omega⟩))) ?_
    refine sr rfl rfl rfl ((q_indexN rfl rfl rfl (by exact fun w hw => rd_own hw (by exact .head _)) (by intro hc; omega))) ?_
    refine sw_eff0 rfl rfl (e_storeEl1 (i := 0) rfl rfl rfl rfl rfl (by omega)) ?_
    refine sw_nil (post_blk (post_then (cw_region ?_)))
    refine sr rfl rfl rfl ((q_add rfl rfl rfl (by intro hc; omega))) ?_
    refine sr rfl rfl rfl ((q_move rfl rfl)) (sw_nil ?_)
    refine post_next (k + 1) (by exact .cons rfl (.cons rfl (.cons rfl (.cons rfl (.cons rfl .nil))))) (fun w3 hw3 => ?_) (by omega) (by omega)
    rw [← rowsTo_succ _ _ _ _ hk']
    exact hw3
  · skip
    have hk' : k = K.tgt.length := by simp only [decide_eq_false_iff_not] at h; omega
    subst hk'
    refine cw_exit (post_then_x (post_then_x (post_blk_eq (post_then (cw_seq (cw_region (sr rfl rfl rfl ((q_move rfl rfl)) (sr rfl rfl rfl ((q_assign rfl rfl)) (sw_nil (post_then (cw_ret (post_ret1 rfl (resOk_tmp rfl) ?_))))))))))))
    exact fun w' hw => ⟨(s25, s19), rfl, trivial, hw⟩
end Go.Proofs.Ytomjbfeafodfbaa

set_option autoImplicit false
set_option maxRecDepth 100000
namespace Go.Proofs.Ytomjbfeafodfbaa
open Go.Sx
open Enc (enc val)
theorem rowsAll_nth (sc : SlV) (W T j : Nat) (hj : j < T) : nth (rowsTo sc W T T) j = sc.row 1 (j * W) ((j + 1) * W) := by rw [rowsTo_nth _ _ _ _ _ hj, if_pos hj]
theorem idx_one {j j' u u' W : Nat} (hu : u < W) (hu' : u' < W) (h : j * W + u = j' * W + u') : j = j' ∧ u = u' := by
  have h1 : (j * W + u) / W = j := by rw [Nat.add_comm, Nat.add_mul_div_right _ _ (by omega), Nat.div_eq_of_lt hu, Nat.zero_add]
  have h2 : (j' * W + u') / W = j' := by rw [Nat.add_comm, Nat.add_mul_div_right _ _ (by omega), Nat.div_eq_of_lt hu', Nat.zero_add]
  have : j = j' := by rw [← h1, h, h2]
  subst this
  exact ⟨rfl, by omega⟩
namespace TK
variable (K : TK)
theorem J_bd {K : TK} (hK : K.Ok) (u : Int) {v : Int} (hv : 0 ≤ v ∧ v < K.p.length) : 0 ≤ K.J u v ∧ K.J u v ≤ 800000000 := by
  by_cases hu : u.toNat < K.p.length
  · have h1 := hK.un (u := u.toNat) (by omega)
    simp only [Int.toNat_natCast] at h1
    exact joinC_bd (wt_ok hK.wt) h1.1 (hK.un hv).1
  · have e : nth K.p u.toNat = default := by simp [nth, List.getD, List.getElem?_eq_none (show K.p.length ≤ u.toNat by omega)]
    simp only [J, joinC, e]
    split
    · omega
    · have : dist (default : Un).el (nth K.p v.toNat).bl = 0 := rfl
      rw [this]; simp
theorem F_bd {K : TK} (hK : K.Ok) {i : Nat} (hi : i < K.tgt.length) {u : Int} (hu : 0 ≤ u ∧ u < K.p.length) : 0 ≤ K.F i u ∧ K.F i u ≤ 102002000 := fitC_bd (wt_ok hK.wt) (hK.un hu).1 (hK.tg hi)
theorem R_bd {K : TK} (hK : K.Ok) (hp : K.possB = true) : ∀ (k : Nat) (u : Int), k ≤ K.tgt.length → 1 ≤ k → 0 ≤ u → u < K.p.length → 0 ≤ K.t.R k u ∧ K.t.R k u ≤ 902002000 * k
  | 0, _, _, h, _, _ => by omega
  | k + 1, u, hk, _, h0, h1 => by
    have hf := F_bd hK (i := K.tgt.length - (k + 1)) (by omega) ⟨h0, h1⟩
    have e : K.t.R (k + 1) u = K.F (K.tgt.length - (k + 1)) u + (if k = 0 then 0 else minL ((K.U (K.tgt.length - k)).map fun v => K.J u v + K.t.R k v)) := rfl
    rw [e]
    by_cases hk0 : k = 0
    · rw [if_pos hk0]; omega
    · rw [if_neg hk0]
      have hne := TK.poss hp (i := K.tgt.length - k) (by omega)
      have hall : ∀ x ∈ (K.U (K.tgt.length - k)).map (fun v => K.J u v + K.t.R k v), 0 ≤ x ∧ x ≤ 800000000 + 902002000 * k := by
        intro x hx
        obtain ⟨v, hv, rfl⟩ := List.mem_map.1 hx
        have hv2 := K.U_mem hv
        have h2 := J_bd hK u hv2
        have h3 := R_bd hK hp k v (by omega) (by omega) hv2.1 hv2.2
        omega
      have hmem := minL_mem (l := (K.U (K.tgt.length - k)).map (fun v => K.J u v + K.t.R k v)) (by simpa using hne) (fun x hx => by have := hall x hx; have := hK.n2; omega)
      have := hall _ hmem
      omega
def Tab (cells : List Int) (n : Nat) : Prop := cells.length = K.tgt.length * K.p.length ∧ ∀ j u, j < K.tgt.length → u < K.p.length → nth cells (j * K.p.length + u) = if n ≤ j ∧ (u : Int) ∈ K.U j then K.t.R (K.tgt.length - j) u else 0
def TabK (cells : List Int) (i k : Nat) : Prop := cells.length = K.tgt.length * K.p.length ∧ ∀ j u, j < K.tgt.length → u < K.p.length → nth cells (j * K.p.length + u) = if (i < j ∧ (u : Int) ∈ K.U j) ∨ (j = i ∧ (u : Int) ∈ (K.U i).take k) then K.t.R (K.tgt.length - j) u else 0
theorem tab_begin {cells : List Int} {i : Nat} (h : K.Tab cells (i + 1)) : K.TabK cells i 0 := ⟨h.1, fun j u hj hu => by rw [h.2 j u hj hu]; simp only [List.take_zero, List.not_mem_nil, and_false, or_false]; rfl⟩
theorem tab_end {cells : List Int} {i : Nat} (h : K.TabK cells i (K.U i).length) : K.Tab cells i := ⟨h.1, fun j u hj hu => by
  rw [h.2 j u hj hu, List.take_length]
  by_cases e : j = i
  · subst e; simp
  · have : (i < j ↔ i ≤ j) := by omega
    simp [e, this]⟩
theorem tab_step {cells : List Int} {i k : Nat} (h : K.TabK cells i k) (hi : i < K.tgt.length) (hk : k < (K.U i).length) : K.TabK (cells.set (i * K.p.length + (nth (K.U i) k).toNat) (K.t.R (K.tgt.length - i) (nth (K.U i) k))) i (k + 1) := by
  have hv := K.U_mem (i := i) (u := nth (K.U i) k) (by rw [nth_get hk]; exact List.getElem_mem hk)
  have hT : (i + 1) * K.p.length ≤ K.tgt.length * K.p.length := Nat.mul_le_mul_right _ hi
  rw [Nat.add_mul, Nat.one_mul] at hT
  refine ⟨by rw [List.length_set, h.1], fun j u hj hu => ?_⟩
  rw [nth_setP _ _ _ _ (by rw [h.1]; omega)]
  by_cases e : j * K.p.length + u = i * K.p.length + (nth (K.U i) k).toNat
  · obtain ⟨rfl, e2⟩ := idx_one hu (by omega) e
    have e3 : (u : Int) = nth (K.U j) k := by omega
    rw [if_pos e, if_pos, e3]
    exact .inr ⟨rfl, by rw [e3, List.take_succ_eq_append_getElem hk, nth_get hk]; exact List.mem_append_right _ (List.mem_singleton.2 rfl)⟩
  · rw [if_neg e, h.2 j u hj hu]
    by_cases ej : j = i
    · subst ej
      have e4 : ¬ (u : Int) = nth (K.U j) k := fun e5 => e (by omega)
      have e6 : ((u : Int) ∈ (K.U j).take (k + 1)) ↔ (u : Int) ∈ (K.U j).take k := by
        rw [List.take_succ_eq_append_getElem hk, ← nth_get hk]; simp [e4]
      simp [e6]
    · simp [ej]
end TK
end Go.Proofs.Ytomjbfeafodfbaa

set_option autoImplicit false
set_option maxRecDepth 100000
namespace Go.Proofs.Ytomjbfeafodfbaa
open Go.Sx
open Enc (enc val)
theorem rest_spec (K : TK) (hK : K.Ok) (hp : K.possB = true) (m : List (P2 × Int)) (hm : K.MemoOk m) (w : World) (bs : List Nat) (hs : Sep [mpA K.bm m] w bs) (hn : bs.Nodup) (hlt : ∀ b ∈ bs, b < w.heap.size) (hR : Stb w bs K.Rd) :
    Calls Try.prog 13 #[.pointer (some ⟨K.bk, 0, none⟩)] w fun e w' => ∃ y : (SlV × SlV) × (List Int × List (P2 × Int)), e = .returned y.1.1.v ∧ (K.Tab y.2.1 0 ∧ K.MemoOk y.2.2) ∧ Cl w bs [mpA K.bm y.2.2, ownL 22 y.1.1.v (rowsTo y.1.2 K.p.length K.tgt.length K.tgt.length), ownL 3 y.1.2.v y.2.1] w' := by
  have hbk := stb_map hR fun _ h => h.bk
  have htp := stb_map hR fun _ h => h.tp
  have hus := stb_map hR fun _ h => h.us
  have hun := hR.here.un
  have n1 := hK.n1
  have n2 := hK.n2
  refine calls_cw (vs := [_]) Try.func13 rfl Try.ntmps13 rfl (Cl.start hs hn hlt) (cw_seq (cw_region (sr rfl rfl rfl ((q_assign rfl rfl)) (sw_nil (post_then (cw_seq (cw_region (sr rfl rfl rfl ((q_move rfl rfl)) ?_))))))))
  refine sw_x rfl rfl rfl (e_call (CanCall.mk Try.call30) rfl (.cons rfl inferInstance (.nil)) (fun w hw => table_spec K hK w (stb_arg hw hR))) (fun y8 => ?_)
  refine sw_imp fun _ => ?_
  obtain ⟨so, sc⟩ := y8
  dsimp only
  refine sr rfl rfl rfl ((q_assign rfl rfl)) (sw_nil (post_then (cw_seq (cw_seq (cw_region (sr rfl rfl rfl ((q_move rfl rfl)) (sr rfl rfl rfl ((q_nilCheck rfl rfl)) (sr rfl rfl rfl ((q_fieldAddr rfl rfl)) ?_))))))))
  refine sr rfl rfl rfl ((q_loadS rfl rfl (fun w hw => Stb.cl (by assumption) hw) rfl)) ?_
  refine sr rfl rfl rfl ((q_len rfl (.cons rfl inferInstance (.nil)) (by exact fun w hw => Stb.cl (by assumption) hw))) ?_
  refine sr rfl rfl rfl ((q_sub rfl rfl rfl (by intro hc; omega))) ?_
  refine sr rfl rfl rfl ((q_assign rfl rfl)) (sw_nil (post_then (cw_block ?_)))
  refine cw_loop (S := Nat × (List Int × List (P2 × Int))) (fun y => [(0, [], .pointer (some ⟨K.bk, 0, none⟩)), (3, [], so.v), (4, [], .int .i64 ((y.1 : Int) - 1))]) (fun y => Cl w bs [mpA K.bm y.2.2, ownL 22 so.v (rowsTo sc K.p.length K.tgt.length K.tgt.length), ownL 3 sc.v y.2.1]) (fun y => y.1 ≤ K.tgt.length ∧ K.Tab y.2.1 y.1 ∧ K.MemoOk y.2.2) (fun y => y.1) (K.tgt.length, (List.replicate (K.tgt.length * K.p.length) 0, m)) ⟨Nat.le_refl _, ⟨by simp, fun j u hj hu => ?_⟩, hm⟩ (by exact .cons rfl (.cons rfl (.cons rfl .nil))) (fun _ h => (fun w h => Cl.sel (by exact .take 2 rfl (.take 0 rfl (.take 0 rfl (.nil _)))) w h) _ h) ?_
  · have h1 : j * K.p.length + K.p.length ≤ K.tgt.length * K.p.length := by rw [← Nat.succ_mul]; exact Nat.mul_le_mul_right _ hj
    rw [if_neg (by simp only; omega), nth_get (by rw [List.length_replicate]; omega), List.getElem_replicate]
  rintro ⟨n, ⟨cells, m1⟩⟩ ⟨hn1, htab, hm1⟩
  dsimp only at hn1 htab hm1 ⊢
  refine cw_seq (cw_seq (cw_region (sr rfl rfl rfl ((q_move rfl rfl)) (sr rfl rfl rfl ((q_geq rfl rfl rfl)) (sw_nil (post_then ?_))))))
  refine cw_cond rfl (fun h => ?_) (fun h => ?_)
  · skip
    obtain ⟨i, rfl⟩ : ∃ i, n = i + 1 := ⟨n - 1, by simp only [decide_eq_true_eq] at h; omega⟩
    have e0 : (((i + 1 : Nat) : Int) - 1) = (i : Int) := by omega
    rw [e0]
    have hi : i < K.tgt.length := by omega
    have huu := stb_map hR fun _ h => h.uu i hi
    have hUL := rd_len huu.here
    obtain ⟨q1, q2, q3, q4⟩ := prod_bd hi n2 n1
    have hrow := rowsAll_nth sc K.p.length K.tgt.length i hi
    have hrl := rowsTo_len sc K.p.length K.tgt.length K.tgt.length
    refine cw_skip (post_then (cw_seq (cw_block (cw_seq (cw_region (sr rfl rfl rfl ((q_move rfl rfl)) (sr rfl rfl rfl ((q_nilCheck rfl rfl)) (sr rfl rfl rfl ((q_fieldAddr rfl rfl)) ?_))))))))
    refine sr rfl rfl rfl ((q_loadS rfl rfl (fun w hw => Stb.cl (by assumption) hw) rfl)) ?_
    refine sr rfl rfl rfl ((q_move rfl rfl)) ?_
    refine sr rfl rfl rfl ((q_indexN rfl rfl rfl (by exact fun w hw => Stb.cl (by assumption) hw) (by intro hc; omega))) ?_
    refine sr rfl rfl rfl ((q_loadEl rfl rfl rfl (by exact fun w hw => Stb.cl (by assumption) hw) (by intro hc; omega))) ?_
    refine sr rfl rfl rfl ((q_len rfl (.cons rfl inferInstance (.nil)) (by exact fun w hw => Stb.cl (by assumption) hw))) ?_
    refine sr rfl rfl rfl ((q_move rfl rfl)) (sw_nil (post_then (cw_block ?_)))
    refine cw_loop (S := Nat × (List Int × List (P2 × Int))) (fun y => [(0, [], .pointer (some ⟨K.bk, 0, none⟩)), (3, [], so.v), (4, [], .int .i64 i), (25, [], (nth K.usv i).v), (26, [], .int .i64 (K.U i).length), (27, [], .int .i64 y.1)]) (fun y => Cl w bs [mpA K.bm y.2.2, ownL 22 so.v (rowsTo sc K.p.length K.tgt.length K.tgt.length), ownL 3 sc.v y.2.1]) (fun y => y.1 ≤ (K.U i).length ∧ K.TabK y.2.1 i y.1 ∧ K.MemoOk y.2.2) (fun y => (K.U i).length - y.1) (0, (cells, m1)) ⟨Nat.zero_le _, K.tab_begin htab, hm1⟩ (by exact .cons rfl (.cons rfl (.cons rfl (.cons rfl (.cons rfl (.cons rfl .nil)))))) (fun _ h => h) ?_
    rintro ⟨k, ⟨cs1, m2⟩⟩ ⟨hk, htk, hm2⟩
    dsimp only at hk htk hm2 ⊢
    refine cw_seq (cw_region (sr rfl rfl rfl ((q_lss rfl rfl rfl)) (sw_nil (post_then (cw_seq ?_)))))
    refine cw_cond rfl (fun h2 => ?_) (fun h2 => ?_)
    · skip
      have hk' : k < (K.U i).length := by simp only [decide_eq_true_eq] at h2; omega
      have hu := K.U_mem (i := i) (u := nth (K.U i) k) (by rw [nth_get hk']; exact List.getElem_mem hk')
      have hcl := htk.1
      have hstep := K.tab_step htk hi hk'
      have hF := TK.F_bd hK hi hu
      obtain ⟨u, hue⟩ : ∃ u, nth (K.U i) k = u := ⟨_, rfl⟩
      rw [hue] at hu hstep hF
      refine cw_skip (post_then (cw_seq (cw_block (cw_seq (cw_region ?_)))))
      refine sr rfl rfl rfl ((q_indexN rfl rfl rfl (by exact fun w hw => Stb.cl (by assumption) hw) (by intro hc; omega))) ?_
      refine sr rfl rfl rfl ((q_loadEl rfl rfl rfl (by exact fun w hw => Stb.cl (by assumption) hw) (by intro hc; omega))) ?_
      refine sr rfl rfl rfl ((q_assign rfl rfl)) (sw_nil (post_then (cw_seq (cw_region_a (Cl w bs [ownL 22 so.v (rowsTo sc K.p.length K.tgt.length K.tgt.length), ownL 3 sc.v cs1]) [13] mixed_Try ?_))))
      refine aw_pure 0 rfl (by kernel_rfl) (by kernel_rfl) (by kernel_rfl) (by kernel_rfl) (by kernel_rfl) rfl rfl rfl (q_move rfl rfl) ?_
      refine aw_pure 1 rfl (by kernel_rfl) (by kernel_rfl) (by kernel_rfl) (by kernel_rfl) (by kernel_rfl) rfl rfl rfl (q_move rfl rfl) ?_
      refine aw_take 2 (fun w h => Cl.sel (by exact .take 1 rfl (.take 1 rfl (.nil _))) w h) rfl (by kernel_rfl) (by kernel_rfl) (by kernel_rfl) (by kernel_rfl) (by kernel_rfl) (by kernel_rfl) rfl rfl rfl (q_indexN rfl rfl rfl (by exact fun w hw => rd_own hw (by exact .head _)) (by intro hc; omega)) ?_
      refine aw_take 3 (fun w h => Cl.sel (by exact .take 1 rfl (.take 1 rfl (.nil _))) w h) rfl (by kernel_rfl) (by kernel_rfl) (by kernel_rfl) (by kernel_rfl) (by kernel_rfl) (by kernel_rfl) rfl rfl rfl (q_loadEl rfl rfl rfl (by exact fun w hw => rd_own hw (by exact .head _)) (by intro hc; omega)) ?_
      refine aw_pure 4 rfl (by kernel_rfl) (by kernel_rfl) (by kernel_rfl) (by kernel_rfl) (by kernel_rfl) rfl rfl rfl (q_move rfl rfl) ?_
      refine aw_pure 5 rfl (by kernel_rfl) (by kernel_rfl) (by kernel_rfl) (by kernel_rfl) (by kernel_rfl) rfl rfl rfl (q_move rfl rfl) ?_
      refine aw_pure 6 rfl (by kernel_rfl) (by kernel_rfl) (by kernel_rfl) (by kernel_rfl) (by kernel_rfl) rfl rfl rfl (q_nilCheck rfl rfl) ?_
      refine aw_take 7 (fun w h => Cl.sel (by exact .take 1 rfl (.take 1 rfl (.nil _))) w h) rfl (by kernel_rfl) (by kernel_rfl) (by kernel_rfl) (by kernel_rfl) (by kernel_rfl) (by kernel_rfl) rfl rfl rfl (q_fieldAddr rfl rfl) ?_
      refine aw_take 8 (fun w h => Cl.sel (by exact .take 1 rfl (.take 1 rfl (.nil _))) w h) rfl (by kernel_rfl) (by kernel_rfl) (by kernel_rfl) (by kernel_rfl) (by kernel_rfl) (by kernel_rfl) rfl rfl rfl (q_loadS rfl rfl (fun w hw => Stb.cl (by assumption) hw) rfl) ?_
      refine aw_pure 9 rfl (by kernel_rfl) (by kernel_rfl) (by kernel_rfl) (by kernel_rfl) (by kernel_rfl) rfl rfl rfl (q_move rfl rfl) ?_
      refine aw_pure 10 rfl (by kernel_rfl) (by kernel_rfl) (by kernel_rfl) (by kernel_rfl) (by kernel_rfl) rfl rfl rfl (q_move rfl rfl) ?_
      rw [hrow, show val (nth (K.U i) k) = Value.int .i64 u by rw [hue]; rfl]
      refine aw_x 11 (by kernel_rfl) rfl rfl rfl rfl (e_callH (A := [mpA K.bm m2]) (F := [ownL 22 so.v (rowsTo sc K.p.length K.tgt.length K.tgt.length), ownL 3 sc.v cs1]) (CanCall.mk Try.call26) rfl rfl (.cons rfl inferInstance (.cons rfl inferInstance (.nil))) (.refl _) (fun w bs k1 k2 k3 k4 k5 => cost_spec K hK i hi u hu m2 hm2 w bs k1 k2 k3 (k4 _ hR))) (by intro hb; exact fun _ w h => (fun w h => Cl.sel (by exact .take 1 rfl (.take 1 rfl (.nil _))) w h) w h.2) (fun m3 => ?_)
      refine aw_imp fun hm3 => ?_
      refine aw_take 12 (fun w h => Cl.sel (by exact .take 1 rfl (.take 1 rfl (.nil _))) w h) rfl (by kernel_rfl) (by kernel_rfl) (by kernel_rfl) (by kernel_rfl) (by kernel_rfl) (by kernel_rfl) rfl rfl rfl (q_indexRow rfl rfl rfl (fun w h => rd_own (e := 3) h (by exact .tail _ (.head _))) rfl (fun _ => by omega)) ?_
      refine aw_one0 13 (by kernel_rfl) rfl rfl rfl (e_storeEl1 (i := 2) rfl rfl rfl rfl rfl (by omega)) (by intro hb; (exact absurd hb (by decide))) ?_
      refine aw_end (by kernel_rfl) ?_
      refine post_then (cw_seq (cw_region (sr rfl rfl rfl ((q_move rfl rfl)) ?_)))
      refine sr rfl rfl rfl ((q_add rfl rfl rfl (by intro hc; omega))) ?_
      refine sr rfl rfl rfl ((q_move rfl rfl)) (sr rfl rfl rfl ((q_nilCheck rfl rfl)) (sr rfl rfl rfl ((q_fieldAddr rfl rfl)) ?_))
      refine sr rfl rfl rfl ((q_loadS rfl rfl (fun w hw => Stb.cl (by assumption) hw) rfl)) ?_
      refine sr rfl rfl rfl ((q_len rfl (.cons rfl inferInstance (.nil)) (by exact fun w hw => Stb.cl (by assumption) hw))) ?_
      refine sr rfl rfl rfl ((q_lss rfl rfl rfl)) (sw_nil (post_then ?_))
      have hidx : i * K.p.length + u.toNat < cs1.length := by omega
      have hcl2 : (cs1.set (i * K.p.length + u.toNat) (K.F i u)).length = K.tgt.length * K.p.length := by rw [List.length_set, hcl]
      refine cw_cond rfl (fun h3 => ?_) (fun h3 => ?_)
      · skip
        have hi1 : i + 1 < K.tgt.length := by simp only [decide_eq_true_eq] at h3; omega
        obtain ⟨r1, r2, r3, r4⟩ := prod_bd hi1 n2 n1
        have hrow1 : nth (rowsTo sc K.p.length K.tgt.length K.tgt.length) ((i : Int) + 1).toNat = sc.row 1 ((i + 1) * K.p.length) ((i + 1 + 1) * K.p.length) := rowsAll_nth sc K.p.length K.tgt.length (i + 1) hi1
        have hcs2 : nth (cs1.set (i * K.p.length + u.toNat) (K.F i u)) (i * K.p.length + u.toNat) = K.F i u := by rw [nth_setP _ _ _ _ hidx, if_pos rfl]
        have hR1 := TK.R_bd hK hp (K.tgt.length - i) u (by omega) (by omega) hu.1 hu.2
        have hRe : K.t.R (K.tgt.length - i) u = K.F i u + minL ((K.U (i + 1)).map fun v => K.J u v + K.t.R (K.tgt.length - (i + 1)) v) := by
          obtain ⟨q, hq⟩ : ∃ q, K.tgt.length - i = q + 1 := ⟨K.tgt.length - i - 1, by omega⟩
          have e : K.t.R (q + 1) u = K.F (K.tgt.length - (q + 1)) u + (if q = 0 then 0 else minL ((K.U (K.tgt.length - q)).map fun v => K.J u v + K.t.R q v)) := rfl
          rw [hq, e, if_neg (by omega), show K.tgt.length - (q + 1) = i by omega, show K.tgt.length - q = i + 1 by omega, show K.tgt.length - (i + 1) = q by omega]
        obtain ⟨row, hrw⟩ : ∃ row, ((cs1.set (i * K.p.length + u.toNat) (K.F i u)).take ((i + 1 + 1) * K.p.length)).drop ((i + 1) * K.p.length) = row := ⟨_, rfl⟩
        have hrwl : row.length = K.p.length := by rw [← hrw]; simp; omega
        have hrwn : ∀ v ∈ K.U (i + 1), nth row v.toNat = K.t.R (K.tgt.length - (i + 1)) v := by
          intro v hv
          have hv2 := K.U_mem hv
          have e1 : nth row v.toNat = nth (cs1.set (i * K.p.length + u.toNat) (K.F i u)) ((i + 1) * K.p.length + v.toNat) := by
            rw [nth_get (by omega), nth_get (by omega)]
            subst hrw
            simp
          rw [e1, nth_setP _ _ _ _ hidx, if_neg (by omega), htk.2 (i + 1) v.toNat hi1 (by omega), if_pos]
          · rw [show ((v.toNat : Nat) : Int) = v by omega]
          · exact .inl ⟨by omega, by rw [show ((v.toNat : Nat) : Int) = v by omega]; exact hv⟩
        have hmin : minL ((K.U (i + 1)).map fun v => K.J u v + nth row v.toNat) = K.t.R (K.tgt.length - i) u - K.F i u := by
          rw [hRe]
          have : (K.U (i + 1)).map (fun v => K.J u v + nth row v.toNat) = (K.U (i + 1)).map fun v => K.J u v + K.t.R (K.tgt.length - (i + 1)) v := List.map_congr_left fun v hv => by rw [hrwn v hv]
          rw [this]; omega
        have hlow : ∀ v ∈ K.U (i + 1), -4611686018427387904 ≤ nth row v.toNat := fun v hv => by
          have hv2 := K.U_mem hv
          have := TK.R_bd hK hp (K.tgt.length - (i + 1)) v (by omega) (by omega) hv2.1 hv2.2
          rw [hrwn v hv]; omega
        refine cw_region_a (Cl w bs [ownL 22 so.v (rowsTo sc K.p.length K.tgt.length K.tgt.length), ownL 3 sc.v (cs1.set (i * K.p.length + u.toNat) (K.F i u))]) [19] mixed_Try ?_
        refine aw_pure 0 rfl (by kernel_rfl) (by kernel_rfl) (by kernel_rfl) (by kernel_rfl) (by kernel_rfl) rfl rfl rfl (q_move rfl rfl) ?_
        refine aw_pure 1 rfl (by kernel_rfl) (by kernel_rfl) (by kernel_rfl) (by kernel_rfl) (by kernel_rfl) rfl rfl rfl (q_move rfl rfl) ?_
        refine aw_take 2 (fun w h => Cl.sel (by exact .take 1 rfl (.take 1 rfl (.nil _))) w h) rfl (by kernel_rfl) (by kernel_rfl) (by kernel_rfl) (by kernel_rfl) (by kernel_rfl) (by kernel_rfl) rfl rfl rfl (q_indexN rfl rfl rfl (by exact fun w hw => rd_own hw (by exact .head _)) (by intro hc; omega)) ?_
        refine aw_take 3 (fun w h => Cl.sel (by exact .take 1 rfl (.take 1 rfl (.nil _))) w h) rfl (by kernel_rfl) (by kernel_rfl) (by kernel_rfl) (by kernel_rfl) (by kernel_rfl) (by kernel_rfl) rfl rfl rfl (q_loadElY hrow rfl rfl rfl (by exact fun w hw => rd_own hw (by exact .head _)) (by intro hc; omega)) ?_
        refine aw_pure 4 rfl (by kernel_rfl) (by kernel_rfl) (by kernel_rfl) (by kernel_rfl) (by kernel_rfl) rfl rfl rfl (q_move rfl rfl) ?_
        refine aw_take 5 (fun w h => Cl.sel (by exact .take 1 rfl (.take 1 rfl (.nil _))) w h) rfl (by kernel_rfl) (by kernel_rfl) (by kernel_rfl) (by kernel_rfl) (by kernel_rfl) (by kernel_rfl) rfl rfl rfl (q_indexRow rfl rfl rfl (fun w h => rd_own (e := 3) h (by exact .tail _ (.head _))) rfl (fun _ => by omega)) ?_
        refine aw_take 6 (fun w h => Cl.sel (by exact .take 1 rfl (.take 1 rfl (.nil _))) w h) rfl (by kernel_rfl) (by kernel_rfl) (by kernel_rfl) (by kernel_rfl) (by kernel_rfl) (by kernel_rfl) rfl rfl rfl (q_loadElY hcs2 rfl rfl rfl (fun w h => rd_own (e := 3) h (by exact .tail _ (.head _))) (fun _ => by omega)) ?_
        refine aw_pure 7 rfl (by kernel_rfl) (by kernel_rfl) (by kernel_rfl) (by kernel_rfl) (by kernel_rfl) rfl rfl rfl (q_move rfl rfl) ?_
        refine aw_pure 8 rfl (by kernel_rfl) (by kernel_rfl) (by kernel_rfl) (by kernel_rfl) (by kernel_rfl) rfl rfl rfl (q_move rfl rfl) ?_
        refine aw_pure 9 rfl (by kernel_rfl) (by kernel_rfl) (by kernel_rfl) (by kernel_rfl) (by kernel_rfl) rfl rfl rfl (q_move rfl rfl) ?_
        refine aw_pure 10 rfl (by kernel_rfl) (by kernel_rfl) (by kernel_rfl) (by kernel_rfl) (by kernel_rfl) rfl rfl rfl (q_add rfl rfl rfl (by intro hc; omega)) ?_
        refine aw_take 11 (fun w h => Cl.sel (by exact .take 1 rfl (.take 1 rfl (.nil _))) w h) rfl (by kernel_rfl) (by kernel_rfl) (by kernel_rfl) (by kernel_rfl) (by kernel_rfl) (by kernel_rfl) rfl rfl rfl (q_index rfl rfl rfl (by exact fun w hw => rd_own hw (by exact .head _)) (by intro hc; omega)) ?_
        refine aw_take 12 (fun w h => Cl.sel (by exact .take 1 rfl (.take 1 rfl (.nil _))) w h) rfl (by kernel_rfl) (by kernel_rfl) (by kernel_rfl) (by kernel_rfl) (by kernel_rfl) (by kernel_rfl) rfl rfl rfl (q_loadElY hrow1 rfl rfl rfl (by exact fun w hw => rd_own hw (by exact .head _)) (by intro hc; omega)) ?_
        refine aw_pure 13 rfl (by kernel_rfl) (by kernel_rfl) (by kernel_rfl) (by kernel_rfl) (by kernel_rfl) rfl rfl rfl (q_move rfl rfl) ?_
        refine aw_pure 14 rfl (by kernel_rfl) (by kernel_rfl) (by kernel_rfl) (by kernel_rfl) (by kernel_rfl) rfl rfl rfl (q_add rfl rfl rfl (by intro hc; omega)) ?_
        refine aw_pure 15 rfl (by kernel_rfl) (by kernel_rfl) (by kernel_rfl) (by kernel_rfl) (by kernel_rfl) rfl rfl rfl (q_move rfl rfl) ?_
        refine aw_q 16 (by kernel_rfl) rfl rfl rfl rfl (q_call (v := .int .i64 (K.t.R (K.tgt.length - i) u - K.F i u)) (CanCall.mk Try.call31) rfl (.cons rfl inferInstance (.cons rfl inferInstance (.cons rfl inferInstance (.cons rfl inferInstance (.nil))))) (fun _ w hw => callq hw (by rw [← hmin]; exact next_spec K hK _ row (i + 1) hi1 u hu hrwl hlow w (by have := stb_row (a := (i + 1) * K.p.length) (b := (i + 1 + 1) * K.p.length) (stb_own (e := 3) hw (by exact .tail _ (.tail _ (.head _)))) (by omega) (by omega); rw [hrw] at this; exact this) (stb_arg hw hR)))) (by intro hb; exact (fun w h => Cl.sel (by exact .take 1 rfl (.take 1 rfl (.nil _))) w h)) ?_
        refine aw_pure 17 rfl (by kernel_rfl) (by kernel_rfl) (by kernel_rfl) (by kernel_rfl) (by kernel_rfl) rfl rfl rfl (q_add rfl rfl rfl (by intro hc; omega)) ?_
        refine aw_take 18 (fun w h => Cl.sel (by exact .take 1 rfl (.take 1 rfl (.nil _))) w h) rfl (by kernel_rfl) (by kernel_rfl) (by kernel_rfl) (by kernel_rfl) (by kernel_rfl) (by kernel_rfl) rfl rfl rfl (q_indexRow rfl rfl rfl (fun w h => rd_own (e := 3) h (by exact .tail _ (.head _))) rfl (fun _ => by omega)) ?_
        refine aw_one0 19 (by kernel_rfl) rfl rfl rfl (e_storeEl1 (i := 2) rfl rfl rfl rfl rfl (by omega)) (by intro hb; (exact absurd hb (by decide))) ?_
        refine aw_end (by kernel_rfl) ?_
        refine post_blk (post_then (cw_region ?_))
        refine sr rfl rfl rfl ((q_add rfl rfl rfl (by intro hc; omega))) ?_
        refine sr rfl rfl rfl ((q_move rfl rfl)) (sw_nil ?_)
        refine post_next (k + 1, ((cs1.set (i * K.p.length + u.toNat) (K.F i u)).set (i * K.p.length + u.toNat) (K.t.R (K.tgt.length - i) u), m3)) (by exact .cons rfl (.cons rfl (.cons rfl (.cons rfl (.cons rfl (.cons rfl .nil)))))) (fun w3 hw3 => ?_) ⟨by simp only; omega, by simp only [List.set_set]; exact hstep, hm3⟩ (by simp only; omega)
        rw [show K.F i u + (K.t.R (K.tgt.length - i) u - K.F i u) = K.t.R (K.tgt.length - i) u by omega] at hw3
        exact hw3
      · skip
        have hi1 : K.tgt.length - i = 1 := by simp only [decide_eq_false_iff_not] at h3; omega
        have hRe : K.t.R (K.tgt.length - i) u = K.F i u := by
          rw [hi1]
          have e : K.t.R 1 u = K.F (K.tgt.length - 1) u + 0 := rfl
          rw [e, show K.tgt.length - 1 = i by omega]; omega
        rw [hRe] at hstep
        refine cw_skip (post_blk (post_then (cw_region ?_)))
        refine sr rfl rfl rfl ((q_add rfl rfl rfl (by intro hc; omega))) ?_
        refine sr rfl rfl rfl ((q_move rfl rfl)) (sw_nil ?_)
        exact post_next (k + 1, (cs1.set (i * K.p.length + u.toNat) (K.F i u), m3)) (by exact .cons rfl (.cons rfl (.cons rfl (.cons rfl (.cons rfl (.cons rfl .nil)))))) (fun _ h => h) ⟨by simp only; omega, hstep, hm3⟩ (by simp only; omega)
    · skip
      have hk' : k = (K.U i).length := by simp only [decide_eq_false_iff_not] at h2; omega
      subst hk'
      refine cw_exit (post_then_x (post_then_x (post_blk_eq (post_blk (post_then (cw_region (sr rfl rfl rfl ((q_move rfl rfl)) ?_)))))))
      refine sr rfl rfl rfl ((q_sub rfl rfl rfl (by intro hc; omega))) ?_
      refine sr rfl rfl rfl ((q_assign rfl rfl)) (sw_nil ?_)
      exact post_next (i, (cs1, m2)) (by exact .cons rfl (.cons rfl (.cons rfl .nil))) (fun _ h => h) ⟨by simp only; omega, K.tab_end htk, hm2⟩ (by simp only; omega)
  · skip
    have hn0 : n = 0 := by simp only [decide_eq_false_iff_not] at h; omega
    subst hn0
    refine cw_exit (post_then_x (post_then_x (post_blk_eq (post_then (cw_seq (cw_region (sr rfl rfl rfl ((q_move rfl rfl)) (sr rfl rfl rfl ((q_assign rfl rfl)) (sw_nil (post_then (cw_ret (post_ret1 rfl (resOk_tmp rfl) ?_))))))))))))
    exact fun w' hw => ⟨((so, sc), (cells, m1)), rfl, ⟨htab, hm1⟩, hw⟩
end Go.Proofs.Ytomjbfeafodfbaa

set_option autoImplicit false
set_option maxRecDepth 100000
namespace Go.Proofs.Ytomjbfeafodfbaa
open Go.Sx
open Enc (enc val)
abbrev Node := Nat × (Option Addr × Int)
def nodeA (e : Node) : Asn := blk e.1 [.pointer e.2.1, .int .i64 e.2.2] 88
def chN (N : List Node) : List Int → Option Addr → Prop
  | [], p => p = none
  | u :: r, p => ∃ b q, p = some ⟨b, 0, none⟩ ∧ (b, (q, u)) ∈ N ∧ chN N r q
theorem chN_mono {N N' : List Node} (h : ∀ e ∈ N, e ∈ N') : ∀ {r : List Int} {p : Option Addr}, chN N r p → chN N' r p
  | [], _, hc => hc
  | u :: r, p, ⟨b, q, h1, h2, h3⟩ => ⟨b, q, h1, h _ h2, chN_mono h h3⟩
theorem chN_stb {N : List Node} {w : World} {bs : List Nat} (hN : ∀ e ∈ N, Stb w bs (BlkAt e.1 [.pointer e.2.1, .int .i64 e.2.2] 88)) : ∀ {r : List Int} {p : Option Addr}, chN N r p → Stb w bs (chR r p)
  | [], _, hc => ⟨fun _ _ => hc⟩
  | u :: r, p, ⟨b, q, h1, h2, h3⟩ => ⟨fun w' k => ⟨b, q, h1, (hN _ h2).stb w' k, (chN_stb hN h3).stb w' k⟩⟩
def ItN (N : List Node) (l : List Itm) : Prop := ∀ x ∈ l, chN N x.units.reverse x.ptr
theorem itN_ch {N : List Node} {w : World} {bs : List Nat} (hN : ∀ e ∈ N, Stb w bs (BlkAt e.1 [.pointer e.2.1, .int .i64 e.2.2] 88)) {l : List Itm} (h : ItN N l) (hl : ∀ x ∈ l, x.units.length ≤ 1000000) : ChOk w bs l := fun x hx => ⟨chN_stb hN (h x hx), hl x hx⟩
theorem lend_nodes {N : List Node} {F : List Asn} {w : World} {bs : List Nat} (h : ∀ G ∈ F, ∃ b2, Stb w bs fun w' => G.holds w' b2) (hs : ∀ e ∈ N, nodeA e ∈ F) : ∀ e ∈ N, Stb w bs (BlkAt e.1 [.pointer e.2.1, .int .i64 e.2.2] 88) := fun e he => lend_blk h (hs e he)
theorem nodup_flatMap {α β : Type} {f : α → List β} : ∀ {l : List α}, l.Nodup → (∀ a ∈ l, (f a).Nodup) → (∀ a ∈ l, ∀ b ∈ l, a ≠ b → ∀ x ∈ f a, x ∉ f b) → (l.flatMap f).Nodup
  | [], _, _, _ => by simp
  | a :: l, h1, h2, h3 => by
    rw [List.flatMap_cons, List.nodup_append]
    rw [List.nodup_cons] at h1
    refine ⟨h2 a (by simp), nodup_flatMap h1.2 (fun b hb => h2 b (by simp [hb])) (fun b hb c hc => h3 b (by simp [hb]) c (by simp [hc])), fun x hx y hy hxy => ?_⟩
    subst hxy
    obtain ⟨b, hb, hxb⟩ := List.mem_flatMap.1 hy
    exact h3 a (by simp) b (by simp [hb]) (fun e => h1.1 (e ▸ hb)) x hx hxb
theorem tl_nodup {t : Tsk} (h : ∀ i, (t.us i).Nodup) : ∀ k, (t.tl k).Nodup
  | 0 => by simp [Tsk.tl]
  | k + 1 => by
    rw [Tsk.tl]
    refine nodup_flatMap (h _) (fun a _ => ?_) (fun a _ b _ hab x hx hxb => ?_)
    · exact List.Pairwise.map _ (fun x y hxy e => hxy (by injection e)) (tl_nodup h k)
    · obtain ⟨s, _, rfl⟩ := List.mem_map.1 hx
      obtain ⟨s', _, e⟩ := List.mem_map.1 hxb
      injection e with e1
      exact hab e1.symm
theorem idxs_nodup (p : List Un) (k : Nat) (ph : ByteArray) : (idxs p k ph).Nodup := by
  unfold idxs
  have h : ((List.range k).filter fun i => decide ((nth p i).phone = ph)).Nodup := List.Pairwise.filter _ List.nodup_range
  exact List.Pairwise.map (S := fun a b : Int => a ≠ b) _ (fun a b (hab : a ≠ b) e => hab (by omega)) h
theorem perm_put {α : Type} {S : α} {P X Y : List α} : (S :: (P ++ (X ++ Y))).Perm (P ++ ((X ++ [S]) ++ Y)) := by
  have e : P ++ ((X ++ [S]) ++ Y) = (P ++ X) ++ (S :: Y) := by simp
  rw [e, ← List.append_assoc]
  exact List.perm_middle.symm
theorem perm_end {α : Type} {S : α} {P X Y : List α} : (S :: (P ++ (X ++ Y))).Perm (P ++ (X ++ (Y ++ [S]))) := by
  have e : P ++ (X ++ (Y ++ [S])) = (P ++ (X ++ Y)) ++ [S] := by simp
  rw [e]
  exact (List.perm_append_singleton _ _).symm
theorem perm_five {α : Type} {M B C Q O : α} : [M, B, C, Q, O].Perm [C, Q, B, M, O] :=
  (List.perm_middle (l₁ := [M, B]) (a := C) (l₂ := [Q, O])).trans (.cons C ((List.perm_middle (l₁ := [M, B]) (a := Q) (l₂ := [O])).trans (.cons Q (.swap B M [O]))))
theorem perm_two {α : Type} {S M B C Q O : α} {X Y : List α} : (S :: M :: B :: C :: Q :: O :: (X ++ Y)).Perm (C :: Q :: B :: M :: O :: (X ++ (Y ++ [S]))) :=
  (perm_end (S := S) (P := [M, B, C, Q, O]) (X := X) (Y := Y)).trans (perm_five.append_right (X ++ (Y ++ [S])))
theorem perm_one {α : Type} {S M B C Q O : α} {X Y : List α} : (M :: S :: B :: C :: Q :: O :: (X ++ Y)).Perm (C :: Q :: B :: M :: O :: (X ++ (Y ++ [S]))) := (List.Perm.swap S M _).trans perm_two
def sqA (q : Sq) : Asn := ownL 3 q.us.v q.ul
def keyS (q : Sq) : List Int × Int := (q.ul, q.cost)
theorem cl_drop {w0 w : World} {fp : List Nat} {F : List Asn} : ∀ {G : List Asn}, Cl w0 fp (F ++ G) w → Cl w0 fp F w
  | [], h => by simpa using h
  | X :: G, h => cl_drop (h.perm (List.perm_middle (l₁ := F) (l₂ := G) (a := X))).tail
theorem nodes_mem {N : List Node} {x e : Node} (he : e ∈ N ++ [x]) : nodeA e ∈ N.map nodeA ++ [nodeA x] := by
  have : N.map nodeA ++ [nodeA x] = (N ++ [x]).map nodeA := by simp
  rw [this]; exact List.mem_map_of_mem he
theorem kid_mem {t : Tsk} {x : Itm} {us : List Int} {ps : List (Option Addr)} {y : Itm} (hy : y ∈ List.zipWith (t.kid x) us ps) : ∃ u ∈ us, ∃ p, y = t.kid x u p := by
  rw [← List.map_uncurry_zip_eq_zipWith] at hy
  obtain ⟨⟨u, p⟩, hz, rfl⟩ := List.mem_map.1 hy
  exact ⟨u, (List.of_mem_zip hz).1, p, rfl⟩
theorem zip_snoc {t : Tsk} {x : Itm} {us : List Int} {ps : List (Option Addr)} {u : Int} {p : Option Addr} (h : us.length = ps.length) : List.zipWith (t.kid x) (us ++ [u]) (ps ++ [p]) = List.zipWith (t.kid x) us ps ++ [t.kid x u p] := by
  rw [List.zipWith_append h]; rfl
namespace TK
theorem tc_bd {K : TK} (hK : K.Ok) : ∀ (s : List Int) (i : Nat), i + s.length ≤ K.tgt.length → (∀ k, k < s.length → nth s k ∈ K.U (i + k)) → 0 ≤ K.t.tc i s ∧ K.t.tc i s ≤ 902002000 * s.length
  | [], i, _, _ => by simp [Tsk.tc]
  | [u], i, hi, h => by
    have h1 := TK.F_bd hK (i := i) (by simp at hi; omega) (K.U_mem (by simpa using h 0 (by simp)))
    simp only [Tsk.tc, List.length_singleton]
    have e : K.t.F i u = K.F i u := rfl
    rw [e]
    have e2 : nth [u] 0 = u := rfl
    rw [e2] at h1; omega
  | u :: v :: s, i, hi, h => by
    have h1 := TK.F_bd hK (i := i) (by simp at hi; omega) (K.U_mem (by simpa using h 0 (by simp)))
    have hv := K.U_mem (h 1 (by simp))
    have h2 := TK.J_bd hK u hv
    have h3 := tc_bd hK (v :: s) (i + 1) (by simp at hi ⊢; omega) (fun k hk => by
      have := h (k + 1) (by simpa using hk)
      rw [show i + 1 + k = i + (k + 1) by omega]; exact this)
    have e2 : nth (u :: v :: s) 0 = u := rfl
    have e3 : nth (u :: v :: s) 1 = v := rfl
    rw [e2] at h1
    rw [e3] at h2
    simp only [Tsk.tc]
    have e : K.t.F i u = K.F i u := rfl
    have e4 : K.t.J u v = K.J u v := rfl
    rw [e, e4]
    simp only [List.length_cons] at h3 ⊢
    omega
theorem ok_bd {K : TK} (hK : K.Ok) {x : Itm} (h : K.t.Ok x) : 0 ≤ x.cost ∧ x.cost ≤ 902002000 * 500 := by
  rw [h.cost]
  have h1 := h.len
  have e : K.t.T = K.tgt.length := rfl
  rw [e] at h1
  have h2 := tc_bd hK x.units 0 (by omega) (fun k hk => by rw [Nat.zero_add]; exact h.mem k hk)
  have h3 := hK.n2
  omega
theorem us_len {K : TK} (hK : K.Ok) (i : Nat) : (K.U i).length ≤ K.p.length := by
  unfold U idxs
  rw [List.length_map]
  exact Nat.le_trans (List.length_filter_le _ _) (by simp)
end TK
end Go.Proofs.Ytomjbfeafodfbaa

set_option autoImplicit false
set_option maxRecDepth 100000
namespace Go.Proofs.Ytomjbfeafodfbaa
open Go.Sx
open Enc (enc val)
structure FS where
  sq : SlV
  l : List Itm
  s7 : SlV
  outs : List Sq
  N : List Node
  m : List (P2 × Int)
def FS.H (bq : Nat) (K : TK) (y : FS) : List Asn := blk bq [y.sq.v] 81 :: ownL 79 y.sq.v y.l :: mpA K.bm y.m :: ownL 34 y.s7.v y.outs :: (y.outs.map sqA ++ y.N.map nodeA)
structure FS.Inv (K : TK) (n : Nat) (y : FS) : Prop where
  bf : K.t.BF y.l (y.outs.map keyS)
  hp : HeapN Itm.lt y.l y.l.length
  nd : ItN y.N y.l
  on : y.outs.length ≤ n
  mu : K.t.mu y.l ≤ 500000000
  mo : K.MemoOk y.m
def joinF (K : TK) (xu : List Int) (u : Int) : Int := match xu.getLast? with
  | some y => K.J y u
  | none => 0
theorem joinF_bd {K : TK} (hK : K.Ok) (xu : List Int) {u : Int} (hu : 0 ≤ u ∧ u < K.p.length) : 0 ≤ joinF K xu u ∧ joinF K xu u ≤ 800000000 := by
  unfold joinF
  split
  · exact TK.J_bd hK _ hu
  · omega
theorem first_spec (K : TK) (hK : K.Ok) (hp : K.possB = true) (n : Nat) (hn1 : n ≤ 1000) (hbig : (K.p.length + 1) ^ K.tgt.length ≤ 500000000) (so sc : SlV) (cells : List Int) (htab : K.Tab cells 0) (m : List (P2 × Int)) (hm : K.MemoOk m) (w : World) (bs : List Nat) (hs : Sep [mpA K.bm m] w bs) (hn : bs.Nodup) (hlt : ∀ b ∈ bs, b < w.heap.size) (hR : Stb w bs K.Rd)
    (hso : Stb w bs (RdL so.v (rowsTo sc K.p.length K.tgt.length K.tgt.length))) (hsc : Stb w bs (RdL sc.v cells)) :
    Calls Try.prog 14 #[.pointer (some ⟨K.bk, 0, none⟩), so.v, .int .i64 n] w fun e w' => ∃ y : FS, e = .returned y.s7.v ∧ (y.Inv K n ∧ (y.l = [] ∨ y.outs.length = n)) ∧ Cl w bs (mpA K.bm y.m :: ownL 34 y.s7.v y.outs :: y.outs.map sqA) w' := by
  have hbk := stb_map hR fun _ h => h.bk
  have htp := stb_map hR fun _ h => h.tp
  have hus := stb_map hR fun _ h => h.us
  have hsp := stb_map hR fun _ h => h.vo.l.here
  have hvo := stb_map hR fun _ h => h.vo
  have hun := hR.here.un
  have n1 := hK.n1
  have n2 := hK.n2
  have hx : Stb w bs (BlkIs K.bk 2 K.x) := stb_map hR fun _ h => blkIs_of h.bk (fun j v hj => by
    match j, hj with
    | 0, hj => exact hj
    | 1, hj => exact hj
    | 2, hj => exact hj
    | 3, hj => exact hj
    | j + 4, hj => simp [Enc.enc] at hj)
  refine calls_cw (vs := [_, _, _]) Try.func14 rfl Try.ntmps14 rfl (Cl.start hs hn hlt) (cw_seq (cw_region (sr rfl rfl rfl ((q_assign rfl rfl)) (sw_nil (post_then (cw_seq (cw_region (sr rfl rfl rfl ((q_assign rfl rfl)) (sw_nil (post_then (cw_seq (cw_region (sr rfl rfl rfl ((q_build rfl (.nil) rfl)) ?_)))))))))))))
  refine sw_x rfl rfl rfl (e_build1 (α := Itm) (x := (⟨none, [], 0, 0⟩ : Itm)) rfl rfl rfl rfl) (fun s14 => ?_)
  refine sw_x rfl rfl rfl (e_box rfl rfl rfl) (fun b15 => ?_)
  refine sr rfl rfl rfl ((q_iface rfl rfl Try.underlying76 rfl)) (sr rfl rfl rfl ((q_assign rfl rfl)) (sw_nil (post_then (cw_seq (cw_block ?_)))))
  have hmu0 : K.t.mu [⟨none, [], 0, 0⟩] ≤ 500000000 := by
    have h1 := Tsk.wgt_le K.t (c := K.p.length) (fun i => TK.us_len hK i) K.tgt.length
    have e : K.t.mu [⟨none, [], 0, 0⟩] = K.t.wgt (K.tgt.length - 0) + 0 := rfl
    rw [e, Nat.sub_zero]; omega
  refine cw_loop (S := FS) (fun y => [(0, [], .pointer (some ⟨K.bk, 0, none⟩)), (1, [], so.v), (2, [], .int .i64 n), (7, [], y.s7.v), (8, [], .iface 76 (.pointer (some ⟨b15, 0, none⟩)))]) (fun y => Cl w bs (y.H b15 K)) (fun y => y.Inv K n) (fun y => K.t.mu y.l) ⟨s14, [⟨none, [], 0, 0⟩], ⟨none, 0, 0⟩, [], [], m⟩ ⟨Tsk.BF.start, fun k k0 hk => by simp at hk; omega, fun x hx => by simp at hx; subst hx; rfl, Nat.zero_le _, hmu0, hm⟩ (by exact .cons rfl (.cons rfl (.cons rfl (.cons rfl (.cons rfl .nil))))) (fun w' (h : Cl w bs [blk b15 [s14.v] 81, ownL 79 s14.v [(⟨none, [], 0, 0⟩ : Itm)], mpA K.bm m] w') => (h.addNil (α := Sq) 34).perm (List.perm_append_comm (l₁ := [ownL 34 (SlV.v ⟨none, 0, 0⟩) ([] : List Sq)]) (l₂ := [blk b15 [s14.v] 81, ownL 79 s14.v [(⟨none, [], 0, 0⟩ : Itm)], mpA K.bm m]))) ?_
  rintro ⟨sq, l, s7, outs, N, m1⟩ ⟨hbf, hhp, hnd, hon, hmu, hmo⟩
  dsimp only [FS.H] at hbf hhp hnd hon hmu hmo ⊢
  refine cw_seq (cw_seq (cw_region (sr rfl rfl rfl ((q_move rfl rfl)) ?_)))
  refine sw_step rfl rfl rfl (q_inv (CanCall.mk Try.call84) rfl rfl (.nil) (fun w hw => m_empty (blk_here hw (by exact .head _))) (fun _ w hw => callq hw (qempty_spec sq l w (stb_own hw (by exact .tail _ (.head _)))))) ?_
  refine sr rfl rfl rfl ((q_not rfl rfl)) (sr rfl rfl rfl ((q_move rfl rfl)) (sr rfl rfl rfl ((q_move rfl rfl)) ?_))
  refine sr rfl rfl rfl ((q_len rfl (.cons rfl inferInstance (.nil)) (by exact fun w hw => rd_own hw (by exact .tail _ (.tail _ (.tail _ (.head _))))))) ?_
  refine sr rfl rfl rfl ((q_move rfl rfl)) (sr rfl rfl rfl ((q_lss rfl rfl rfl)) (sr rfl rfl rfl ((q_and2 rfl rfl rfl)) (sw_nil (post_then ?_))))
  refine cw_cond rfl (fun h => ?_) (fun h => ?_)
  · skip
    have h0 : 0 < l.length ∧ outs.length < n := by
      simp only [Bool.and_eq_true, Bool.not_eq_true', decide_eq_false_iff_not, decide_eq_true_eq] at h
      omega
    have hll := Tsk.len_mu K.t l
    have hlu : ∀ x ∈ l, x.units.length ≤ 1000000 := fun x hx => by
      have := (hbf.ok x hx).len
      have e : K.t.T = K.tgt.length := rfl
      omega
    refine cw_skip (post_then (cw_block (cw_seq (cw_region (sr rfl rfl rfl ((q_move rfl rfl)) ?_)))))
    refine sw_x rfl rfl rfl (e_callH (A := [blk b15 [sq.v] 81, ownL 79 sq.v l]) (F := mpA K.bm m1 :: ownL 34 s7.v outs :: (outs.map sqA ++ N.map nodeA)) (CanCall.mk Try.call32) rfl rfl (.cons rfl inferInstance (.nil)) (.refl _) (fun w bs k1 k2 k3 k4 k5 => hpop_spec b15 sq l h0.1 (by omega) hhp w bs k1 k2 k3 (itN_ch (lend_nodes k5 (fun e he => .tail _ (.tail _ (List.mem_append_right _ (List.mem_map_of_mem he))))) hnd hlu))) (fun y27 => ?_)
    refine sw_imp fun hy => ?_
    obtain ⟨x, sq2, l2⟩ := y27
    obtain ⟨hpm, hhp2, hmin⟩ := hy
    have hxm : x ∈ l := hpm.mem_iff.2 (by simp)
    have hok := hbf.ok x hxm
    have hxn := hnd x hxm
    have hlx := hlu x hxm
    have hxl := hok.len
    obtain ⟨xp, xu, xc, xl⟩ := x
    dsimp only at hpm hhp2 hmin hok hxn hlx hxl ⊢
    have eT : K.t.T = K.tgt.length := rfl
    rw [eT] at hxl
    refine sr rfl rfl rfl ((q_assert rfl rfl Try.underlying79 rfl)) ?_
    refine sw_x rfl rfl rfl (e_alloc rfl) (fun b9 => ?_)
    refine sw_eff0 rfl rfl (e_store (i := 0) rfl rfl rfl rfl rfl rfl rfl rfl) (sw_nil (post_then (cw_seq (cw_seq ?_))))
    refine cw_region_q mixed_Try (by kernel_rfl) ?_
    refine qr rfl rfl rfl ((q_fieldAddr rfl rfl)) ?_
    refine qr rfl rfl rfl ((q_loadC rfl rfl (by exact .head _) rfl)) ?_
    refine qr rfl rfl rfl ((q_move rfl rfl)) (qr rfl rfl rfl ((q_nilCheck rfl rfl)) (qr rfl rfl rfl ((q_fieldAddr rfl rfl)) ?_))
    refine qr rfl rfl rfl ((q_loadS rfl rfl (fun w hw => Stb.cl (by assumption) hw) rfl)) ?_
    refine qr rfl rfl rfl ((q_len rfl (.cons rfl inferInstance (.nil)) (by exact fun w hw => Stb.cl (by assumption) hw))) ?_
    refine qr rfl rfl rfl ((q_eql rfl rfl rfl)) (qw_end (post_then ?_))
    refine cw_cond rfl (fun h2 => ?_) (fun h2 => ?_)
    · skip
      have hxT : xu.length = K.tgt.length := by simp only [decide_eq_true_eq] at h2; omega
      refine cw_seq (cw_region_a (Cl w bs [blk b9 (enc (⟨xp, xu, xc, xl⟩ : Itm)) 79]) [] mixed_Try ?_)
      refine aw_pure 0 rfl (by kernel_rfl) (by kernel_rfl) (by kernel_rfl) (by kernel_rfl) (by kernel_rfl) rfl rfl rfl (q_move rfl rfl) ?_
      refine aw_take 1 (fun w h => Cl.sel (by exact .take 0 rfl (.nil _)) w h) rfl (by kernel_rfl) (by kernel_rfl) (by kernel_rfl) (by kernel_rfl) (by kernel_rfl) (by kernel_rfl) rfl rfl rfl (q_fieldAddr rfl rfl) ?_
      refine aw_take 2 (fun w h => Cl.sel (by exact .take 0 rfl (.nil _)) w h) rfl (by kernel_rfl) (by kernel_rfl) (by kernel_rfl) (by kernel_rfl) (by kernel_rfl) (by kernel_rfl) rfl rfl rfl (q_loadC rfl rfl (by exact .head _) rfl) ?_
      refine aw_take 4 (fun w h => Cl.sel (by exact .take 0 rfl (.nil _)) w h) rfl (by kernel_rfl) (by kernel_rfl) (by kernel_rfl) (by kernel_rfl) (by kernel_rfl) (by kernel_rfl) rfl rfl rfl (q_fieldAddr rfl rfl) ?_
      refine aw_take 5 (fun w h => Cl.sel (by exact .take 0 rfl (.nil _)) w h) rfl (by kernel_rfl) (by kernel_rfl) (by kernel_rfl) (by kernel_rfl) (by kernel_rfl) (by kernel_rfl) rfl rfl rfl (q_loadC rfl rfl (by exact .head _) rfl) ?_
      refine aw_x 3 (by kernel_rfl) rfl rfl rfl rfl (e_call (CanCall.mk Try.call33) rfl (.cons rfl inferInstance (.nil)) (fun w hw => list_spec xp xu w (chN_stb (fun e he => stb_blk hw (.tail _ (.tail _ (.tail _ (.tail _ (.tail _ (List.mem_append_right _ (List.mem_map_of_mem (f := nodeA) he)))))))) hxn) hlx)) (by intro hb; exact fun _ w h => (fun w h => Cl.sel (by exact .take 1 rfl (.nil _)) w h) w h.2) (fun s40 => ?_)
      refine aw_imp fun _ => ?_
      refine aw_pure 6 rfl (by kernel_rfl) (by kernel_rfl) (by kernel_rfl) (by kernel_rfl) (by kernel_rfl) rfl rfl rfl (q_build rfl (.cons rfl inferInstance (.cons rfl inferInstance (.nil))) rfl) ?_
      refine aw_x 7 (by kernel_rfl) rfl rfl rfl rfl (e_build1 (α := Sq) (x := (⟨s40, xc, xu⟩ : Sq)) rfl rfl rfl rfl) (by intro hb; exact fun _ => (fun w h => Cl.sel (by exact .take 2 rfl (.nil _)) w h)) (fun s44 => ?_)
      refine aw_x 8 (by kernel_rfl) rfl rfl rfl rfl (e_append (i := 6) rfl (.cons rfl inferInstance (.cons rfl inferInstance (.nil))) rfl rfl (by exact fun w hw => rd_own hw (by exact .head _)) (by simp only [List.length_set, List.length_append, List.length_cons, List.length_nil, List.length_replicate, List.length_take, List.length_drop, List.length_map]; omega) rfl) (by intro hb; exact fun _ => (fun w h => Cl.sel (by exact .take 2 rfl (.nil _)) w h)) (fun s45 => ?_)
      refine aw_pure 9 rfl (by kernel_rfl) (by kernel_rfl) (by kernel_rfl) (by kernel_rfl) (by kernel_rfl) rfl rfl rfl (q_assign rfl rfl) ?_
      refine aw_end (by kernel_rfl) ?_
      refine post_then (cw_exit (post_then_x (post_blk_eq ?_)))
      have hbt := hbf.take (tl_nodup (fun i => idxs_nodup _ _ _) _) hpm hmin hxT
      refine post_next ⟨sq2, l2, s45, outs ++ [(⟨s40, xc, xu⟩ : Sq)], N, m1⟩ (by exact .cons rfl (.cons rfl (.cons rfl (.cons rfl (.cons rfl .nil))))) (fun w3 hw3 => ?_) ⟨by simpa [keyS] using hbt, hhp2, fun z hz => hnd z (hpm.mem_iff.2 (by simp [hz])), by simp; omega, Nat.le_trans (Nat.le_of_lt (Tsk.mu_take K.t hpm)) hmu, hmo⟩ (Tsk.mu_take K.t hpm)
      have h1 : Cl w bs (ownL 34 s44.v [(⟨s40, xc, xu⟩ : Sq)] :: ownL 3 s40.v xu :: blk b9 _ 79 :: blk b15 [sq2.v] 81 :: ownL 79 sq2.v l2 :: mpA K.bm m1 :: ownL 34 s45.v (outs ++ [(⟨s40, xc, xu⟩ : Sq)]) :: (outs.map sqA ++ N.map nodeA)) w3 := hw3
      have h3 := (h1.tail.perm (.swap _ _ _)).tail
      have h4 := h3.perm (perm_put (P := [blk b15 [sq2.v] 81, ownL 79 sq2.v l2, mpA K.bm m1, ownL 34 s45.v (outs ++ [(⟨s40, xc, xu⟩ : Sq)])]) (X := outs.map sqA) (Y := N.map nodeA))
      simp only [FS.H, List.map_append, List.map_cons, List.map_nil]
      exact h4
    · skip
      have hxT : xu.length < K.tgt.length := by simp only [decide_eq_false_iff_not] at h2; omega
      have huu := stb_map hR fun _ h => h.uu xu.length hxT
      have hUL := rd_len huu.here
      have hUp := TK.us_len hK xu.length
      have hrl := rowsTo_len sc K.p.length K.tgt.length K.tgt.length
      have hrow := rowsAll_nth sc K.p.length K.tgt.length xu.length hxT
      obtain ⟨q1, q2, q3, q4⟩ := prod_bd hxT n2 n1
      have hcl := htab.1
      have hxcb := TK.ok_bd hK hok
      dsimp only at hxcb
      refine cw_skip (post_then (cw_seq ?_))
      refine cw_region_q mixed_Try (by kernel_rfl) ?_
      refine qr rfl rfl rfl ((q_move rfl rfl)) (qr rfl rfl rfl ((q_nilCheck rfl rfl)) (qr rfl rfl rfl ((q_fieldAddr rfl rfl)) ?_))
      refine qr rfl rfl rfl ((q_loadS rfl rfl (fun w hw => Stb.cl (by assumption) hw) rfl)) ?_
      refine qr rfl rfl rfl ((q_fieldAddr rfl rfl)) ?_
      refine qr rfl rfl rfl ((q_loadC rfl rfl (by exact .head _) rfl)) ?_
      refine qr rfl rfl rfl ((q_indexN rfl rfl rfl (by exact fun w hw => Stb.cl (by assumption) hw) (by intro hc; (simp only [List.length_set, List.length_append, List.length_cons, List.length_nil, List.length_replicate, List.length_take, List.length_drop, List.length_map]; omega)))) ?_
      refine qr rfl rfl rfl ((q_loadEl rfl rfl rfl (by exact fun w hw => Stb.cl (by assumption) hw) (by intro hc; (simp only [List.length_set, List.length_append, List.length_cons, List.length_nil, List.length_replicate, List.length_take, List.length_drop, List.length_map]; omega)))) ?_
      refine qr rfl rfl rfl ((q_len rfl (.cons rfl inferInstance (.nil)) (by exact fun w hw => Stb.cl (by assumption) hw))) ?_
      refine qr rfl rfl rfl ((q_move rfl rfl)) (qw_end (post_then (cw_block ?_)))
      refine cw_loop (S := Nat × (List (Option Addr) × FS)) (fun y => [(0, [], .pointer (some ⟨K.bk, 0, none⟩)), (1, [], so.v), (2, [], .int .i64 n), (7, [], s7.v), (8, [], .iface 76 (.pointer (some ⟨b15, 0, none⟩))), (9, [], .pointer (some ⟨b9, 0, none⟩)), (53, [], (nth K.usv xu.length).v), (54, [], .int .i64 (K.U xu.length).length), (55, [], .int .i64 y.1)])
        (fun y => Cl w bs (blk b9 (enc (⟨xp, xu, xc, xl⟩ : Itm)) 79 :: blk b15 [y.2.2.sq.v] 81 :: ownL 79 y.2.2.sq.v y.2.2.l :: mpA K.bm y.2.2.m :: ownL 34 s7.v outs :: (outs.map sqA ++ y.2.2.N.map nodeA)))
        (fun y => y.1 ≤ (K.U xu.length).length ∧ y.2.1.length = y.1 ∧ y.2.2.l.Perm (l2 ++ List.zipWith (K.t.kid ⟨xp, xu, xc, xl⟩) ((K.U xu.length).take y.1) y.2.1) ∧ HeapN Itm.lt y.2.2.l y.2.2.l.length ∧ ItN y.2.2.N y.2.2.l ∧ (∀ e ∈ N, e ∈ y.2.2.N) ∧ K.MemoOk y.2.2.m) (fun y => (K.U xu.length).length - y.1) (0, ([], ⟨sq2, l2, s7, outs, N, m1⟩))
        ⟨Nat.zero_le _, rfl, by simp, hhp2, fun z hz => hnd z (hpm.mem_iff.2 (by simp [hz])), fun e he => he, hmo⟩ (by exact .cons rfl (.cons rfl (.cons rfl (.cons rfl (.cons rfl (.cons rfl (.cons rfl (.cons rfl (.cons rfl .nil))))))))) (fun _ h => h) ?_
      rintro ⟨j, ⟨ps, ⟨sq', l', s7', outs', N', m'⟩⟩⟩ ⟨hj, hps, hpm', hhp', hnd', hNN, hmo'⟩
      dsimp only at hj hps hpm' hhp' hnd' hNN hmo' ⊢
      refine cw_seq (cw_region (sr rfl rfl rfl ((q_lss rfl rfl rfl)) (sw_nil (post_then (cw_seq ?_)))))
      refine cw_cond rfl (fun h3 => ?_) (fun h3 => ?_)
      · skip
        have hj' : j < (K.U xu.length).length := by simp only [decide_eq_true_eq] at h3; omega
        have hu := K.U_mem (i := xu.length) (u := nth (K.U xu.length) j) (by rw [nth_get hj']; exact List.getElem_mem hj')
        have humem : nth (K.U xu.length) j ∈ K.U xu.length := by rw [nth_get hj']; exact List.getElem_mem hj'
        obtain ⟨u, hue⟩ : ∃ u, nth (K.U xu.length) j = u := ⟨_, rfl⟩
        have hjb := joinF_bd hK xu hu
        rw [hue] at hu humem hjb
        refine cw_skip (post_then (cw_seq (cw_block (cw_seq (cw_region ?_)))))
        refine sr rfl rfl rfl ((q_indexN rfl rfl rfl (by exact fun w hw => Stb.cl (by assumption) hw) (by intro hc; omega))) ?_
        refine sr rfl rfl rfl ((q_loadEl rfl rfl rfl (by exact fun w hw => Stb.cl (by assumption) hw) (by intro hc; omega))) ?_
        refine sr rfl rfl rfl ((q_assign rfl rfl)) (sw_nil (post_then (cw_seq (cw_region (sr rfl rfl rfl ((q_assign rfl rfl)) (sw_nil (post_then (cw_seq (cw_seq (cw_region (sr rfl rfl rfl ((q_fieldAddr rfl rfl)) ?_)))))))))))
        refine sr rfl rfl rfl ((q_loadC rfl rfl (by exact .head _) rfl)) ?_
        refine sr rfl rfl rfl ((q_neqPNil rfl rfl (by kernel_rfl))) ?_
        refine sw_nil (post_then ?_)
        rw [show val (nth (K.U xu.length) j) = Value.int .i64 u by rw [hue]; rfl]
        refine cw_cut (S := Unit) (fun _ => [(0, [], .pointer (some ⟨K.bk, 0, none⟩)), (1, [], so.v), (2, [], .int .i64 n), (7, [], s7.v), (8, [], .iface 76 (.pointer (some ⟨b15, 0, none⟩))), (9, [], .pointer (some ⟨b9, 0, none⟩)), (53, [], (nth K.usv xu.length).v), (54, [], .int .i64 (K.U xu.length).length), (55, [], .int .i64 j), (11, [], .int .i64 u), (12, [], .int .i64 (joinF K xu u))])
          (fun _ => Cl w bs (blk b9 (enc (⟨xp, xu, xc, xl⟩ : Itm)) 79 :: blk b15 [sq'.v] 81 :: ownL 79 sq'.v l' :: mpA K.bm m' :: ownL 34 s7.v outs :: (outs.map sqA ++ N'.map nodeA))) (fun _ => True) ?_ ?_
        · refine cw_cond rfl (fun h4 => ?_) (fun h4 => ?_)
          · skip
            cases hrev : xu.reverse with
            | nil => exfalso; rw [hrev] at hxn; simp only [chN] at hxn; rw [hxn] at h4; cases h4
            | cons y r =>
              rw [hrev] at hxn
              obtain ⟨b', q', e1, e2, _⟩ := hxn
              subst e1
              have hlast : xu.getLast? = some y := by rw [List.getLast?_eq_head?_reverse, hrev]; rfl
              have hym : y ∈ xu := by rw [← List.mem_reverse, hrev]; simp
              obtain ⟨q, hq, hqe⟩ := List.getElem_of_mem hym
              have hy := K.U_mem (hok.mem q hq)
              rw [show nth xu q = y by rw [nth_get hq, hqe]] at hy
              have hmem : blk b' [.pointer q', .int .i64 y] 88 ∈ blk b9 (enc (⟨some ⟨b', 0, none⟩, xu, xc, xl⟩ : Itm)) 79 :: blk b15 [sq'.v] 81 :: ownL 79 sq'.v l' :: mpA K.bm m' :: ownL 34 s7.v outs :: (outs.map sqA ++ N'.map nodeA) := .tail _ (.tail _ (.tail _ (.tail _ (.tail _ (List.mem_append_right _ (List.mem_map_of_mem (f := nodeA) (hNN _ e2)))))))
              have hun1 := hK.un hy
              have hun2 := hK.un hu
              have hbd := joinC_bd (wt_ok hK.wt) hun1.1 hun2.1
              refine cw_region_q mixed_Try (by kernel_rfl) ?_
              refine qr rfl rfl rfl ((q_move rfl rfl)) (qr rfl rfl rfl ((q_nilCheck rfl rfl)) (qr rfl rfl rfl ((q_fieldAddr rfl rfl)) ?_))
              refine qr rfl rfl rfl ((q_loadS rfl rfl (fun w hw => Stb.cl (by assumption) hw) rfl)) ?_
              refine qr rfl rfl rfl ((q_fieldAddr rfl rfl)) ?_
              refine qr rfl rfl rfl ((q_loadC rfl rfl (by exact .head _) rfl)) ?_
              refine qr rfl rfl rfl ((q_nilCheck rfl rfl)) (qr rfl rfl rfl ((q_fieldAddr rfl rfl)) ?_)
              refine qr rfl rfl rfl ((q_loadC rfl rfl (by assumption) rfl)) ?_
              refine qr rfl rfl rfl ((q_index rfl rfl rfl (by exact fun w hw => Stb.cl (by assumption) hw) (by intro hc; omega))) ?_
              refine qr rfl rfl rfl ((q_loadEl rfl rfl rfl (by exact fun w hw => Stb.cl (by assumption) hw) (by intro hc; omega))) ?_
              refine qr rfl rfl rfl ((q_move rfl rfl)) (qr rfl rfl rfl ((q_nilCheck rfl rfl)) (qr rfl rfl rfl ((q_fieldAddr rfl rfl)) ?_))
              refine qr rfl rfl rfl ((q_loadS rfl rfl (fun w hw => Stb.cl (by assumption) hw) rfl)) ?_
              refine qr rfl rfl rfl ((q_move rfl rfl)) ?_
              refine qr rfl rfl rfl ((q_index rfl rfl rfl (by exact fun w hw => Stb.cl (by assumption) hw) (by intro hc; omega))) ?_
              refine qr rfl rfl rfl ((q_loadEl rfl rfl rfl (by exact fun w hw => Stb.cl (by assumption) hw) (by intro hc; omega))) ?_
              refine qr rfl rfl rfl ((q_move rfl rfl)) (qr rfl rfl rfl ((q_nilCheck rfl rfl)) (qr rfl rfl rfl ((q_fieldAddr rfl rfl)) ?_))
              refine qr rfl rfl rfl ((q_loadI rfl rfl (fun w hw => Stb.cl (by assumption) hw))) ?_
              refine qw_step rfl rfl rfl (q_call (CanCall.mk Try.call34) rfl (.cons rfl inferInstance (.cons rfl inferInstance (.cons rfl inferInstance (.nil)))) (fun _ w hw => callq hw (joining_spec _ _ _ w ((hvo.cl hw).u _ hun1.2) ((hvo.cl hw).u _ hun2.2) hun1.1 hun2.1 (hK.bl hy hu) (wt_ok hK.wt)))) (qr rfl rfl rfl ((q_assign rfl rfl)) (qw_end ?_))
              refine post_meet () ?_ (fun _ h => h) trivial
              simp only [joinF, hlast]
              exact (by exact .cons rfl (.cons rfl (.cons rfl (.cons rfl (.cons rfl (.cons rfl (.cons rfl (.cons rfl (.cons rfl (.cons rfl (.cons rfl .nil)))))))))))
          · skip
            have hx0 : xu.getLast? = none := by
              cases hrev : xu.reverse with
              | nil => rw [List.getLast?_eq_head?_reverse, hrev]; rfl
              | cons y r => exfalso; rw [hrev] at hxn; obtain ⟨b', q', e1, _, _⟩ := hxn; rw [e1] at h4; cases h4
            refine cw_skip ?_
            refine post_meet () ?_ (fun _ h => h) trivial
            simp only [joinF, hx0]
            exact (by exact .cons rfl (.cons rfl (.cons rfl (.cons rfl (.cons rfl (.cons rfl (.cons rfl (.cons rfl (.cons rfl (.cons rfl (.cons rfl .nil)))))))))))
        · intro _ _
          refine post_then (cw_region_a (Cl w bs [blk b9 (enc (⟨xp, xu, xc, xl⟩ : Itm)) 79]) [] mixed_Try ?_)
          have hcell : nth cells (xu.length * K.p.length + u.toNat) = K.t.R (K.tgt.length - xu.length) u := by
            rw [htab.2 xu.length u.toNat hxT (by omega), if_pos]
            · rw [show ((u.toNat : Nat) : Int) = u by omega]
            · exact ⟨Nat.zero_le _, by rw [show ((u.toNat : Nat) : Int) = u by omega]; exact humem⟩
          have hFb := TK.F_bd hK hxT hu
          have hRb := TK.R_bd hK hp (K.tgt.length - xu.length) u (by omega) (by omega) hu.1 hu.2
          refine aw_pure 0 rfl (by kernel_rfl) (by kernel_rfl) (by kernel_rfl) (by kernel_rfl) (by kernel_rfl) rfl rfl rfl (q_move rfl rfl) ?_
          refine aw_take 1 (fun w h => Cl.sel (by exact .take 0 rfl (.nil _)) w h) rfl (by kernel_rfl) (by kernel_rfl) (by kernel_rfl) (by kernel_rfl) (by kernel_rfl) (by kernel_rfl) rfl rfl rfl (q_fieldAddr rfl rfl) ?_
          refine aw_take 2 (fun w h => Cl.sel (by exact .take 0 rfl (.nil _)) w h) rfl (by kernel_rfl) (by kernel_rfl) (by kernel_rfl) (by kernel_rfl) (by kernel_rfl) (by kernel_rfl) rfl rfl rfl (q_loadC rfl rfl (by exact .head _) rfl) ?_
          refine aw_pure 3 rfl (by kernel_rfl) (by kernel_rfl) (by kernel_rfl) (by kernel_rfl) (by kernel_rfl) rfl rfl rfl (q_move rfl rfl) ?_
          refine aw_pure 4 rfl (by kernel_rfl) (by kernel_rfl) (by kernel_rfl) (by kernel_rfl) (by kernel_rfl) rfl rfl rfl (q_build rfl (.cons rfl inferInstance (.cons rfl inferInstance (.nil))) rfl) ?_
          refine aw_take 6 (fun w h => Cl.sel (by exact .take 0 rfl (.nil _)) w h) rfl (by kernel_rfl) (by kernel_rfl) (by kernel_rfl) (by kernel_rfl) (by kernel_rfl) (by kernel_rfl) rfl rfl rfl (q_fieldAddr rfl rfl) ?_
          refine aw_take 7 (fun w h => Cl.sel (by exact .take 0 rfl (.nil _)) w h) rfl (by kernel_rfl) (by kernel_rfl) (by kernel_rfl) (by kernel_rfl) (by kernel_rfl) (by kernel_rfl) rfl rfl rfl (q_loadC rfl rfl (by exact .head _) rfl) ?_
          refine aw_pure 8 rfl (by kernel_rfl) (by kernel_rfl) (by kernel_rfl) (by kernel_rfl) (by kernel_rfl) rfl rfl rfl (q_add rfl rfl rfl (by intro hc; (simp only [List.length_set, List.length_append, List.length_cons, List.length_nil, List.length_replicate, List.length_take, List.length_drop, List.length_map]; omega))) ?_
          refine aw_take 9 (fun w h => Cl.sel (by exact .take 0 rfl (.nil _)) w h) rfl (by kernel_rfl) (by kernel_rfl) (by kernel_rfl) (by kernel_rfl) (by kernel_rfl) (by kernel_rfl) rfl rfl rfl (q_fieldAddr rfl rfl) ?_
          refine aw_take 10 (fun w h => Cl.sel (by exact .take 0 rfl (.nil _)) w h) rfl (by kernel_rfl) (by kernel_rfl) (by kernel_rfl) (by kernel_rfl) (by kernel_rfl) (by kernel_rfl) rfl rfl rfl (q_loadC rfl rfl (by exact .head _) rfl) ?_
          refine aw_pure 11 rfl (by kernel_rfl) (by kernel_rfl) (by kernel_rfl) (by kernel_rfl) (by kernel_rfl) rfl rfl rfl (q_move rfl rfl) ?_
          refine aw_pure 12 rfl (by kernel_rfl) (by kernel_rfl) (by kernel_rfl) (by kernel_rfl) (by kernel_rfl) rfl rfl rfl (q_add rfl rfl rfl (by intro hc; (simp only [List.length_set, List.length_append, List.length_cons, List.length_nil, List.length_replicate, List.length_take, List.length_drop, List.length_map]; omega))) ?_
          refine aw_pure 13 rfl (by kernel_rfl) (by kernel_rfl) (by kernel_rfl) (by kernel_rfl) (by kernel_rfl) rfl rfl rfl (q_move rfl rfl) ?_
          refine aw_pure 14 rfl (by kernel_rfl) (by kernel_rfl) (by kernel_rfl) (by kernel_rfl) (by kernel_rfl) rfl rfl rfl (q_nilCheck rfl rfl) ?_
          refine aw_take 15 (fun w h => Cl.sel (by exact .take 0 rfl (.nil _)) w h) rfl (by kernel_rfl) (by kernel_rfl) (by kernel_rfl) (by kernel_rfl) (by kernel_rfl) (by kernel_rfl) rfl rfl rfl (q_fieldAddr rfl rfl) ?_
          refine aw_take 16 (fun w h => Cl.sel (by exact .take 0 rfl (.nil _)) w h) rfl (by kernel_rfl) (by kernel_rfl) (by kernel_rfl) (by kernel_rfl) (by kernel_rfl) (by kernel_rfl) rfl rfl rfl (q_loadS rfl rfl (fun w hw => Stb.cl (by assumption) hw) rfl) ?_
          refine aw_take 17 (fun w h => Cl.sel (by exact .take 0 rfl (.nil _)) w h) rfl (by kernel_rfl) (by kernel_rfl) (by kernel_rfl) (by kernel_rfl) (by kernel_rfl) (by kernel_rfl) rfl rfl rfl (q_fieldAddr rfl rfl) ?_
          refine aw_take 18 (fun w h => Cl.sel (by exact .take 0 rfl (.nil _)) w h) rfl (by kernel_rfl) (by kernel_rfl) (by kernel_rfl) (by kernel_rfl) (by kernel_rfl) (by kernel_rfl) rfl rfl rfl (q_loadC rfl rfl (by exact .head _) rfl) ?_
          refine aw_pure 19 rfl (by kernel_rfl) (by kernel_rfl) (by kernel_rfl) (by kernel_rfl) (by kernel_rfl) rfl rfl rfl (q_move rfl rfl) ?_
          refine aw_take 22 (fun w h => Cl.sel (by exact .take 0 rfl (.nil _)) w h) rfl (by kernel_rfl) (by kernel_rfl) (by kernel_rfl) (by kernel_rfl) (by kernel_rfl) (by kernel_rfl) rfl rfl rfl (q_fieldAddr rfl rfl) ?_
          refine aw_take 23 (fun w h => Cl.sel (by exact .take 0 rfl (.nil _)) w h) rfl (by kernel_rfl) (by kernel_rfl) (by kernel_rfl) (by kernel_rfl) (by kernel_rfl) (by kernel_rfl) rfl rfl rfl (q_loadC rfl rfl (by exact .head _) rfl) ?_
          refine aw_pure 24 rfl (by kernel_rfl) (by kernel_rfl) (by kernel_rfl) (by kernel_rfl) (by kernel_rfl) rfl rfl rfl (q_move rfl rfl) ?_
          refine aw_pure 25 rfl (by kernel_rfl) (by kernel_rfl) (by kernel_rfl) (by kernel_rfl) (by kernel_rfl) rfl rfl rfl (q_add rfl rfl rfl (by intro hc; (simp only [List.length_set, List.length_append, List.length_cons, List.length_nil, List.length_replicate, List.length_take, List.length_drop, List.length_map]; omega))) ?_
          refine aw_pure 26 rfl (by kernel_rfl) (by kernel_rfl) (by kernel_rfl) (by kernel_rfl) (by kernel_rfl) rfl rfl rfl (q_move rfl rfl) ?_
          refine aw_take 27 (fun w h => Cl.sel (by exact .take 0 rfl (.nil _)) w h) rfl (by kernel_rfl) (by kernel_rfl) (by kernel_rfl) (by kernel_rfl) (by kernel_rfl) (by kernel_rfl) rfl rfl rfl (q_fieldAddr rfl rfl) ?_
          refine aw_take 28 (fun w h => Cl.sel (by exact .take 0 rfl (.nil _)) w h) rfl (by kernel_rfl) (by kernel_rfl) (by kernel_rfl) (by kernel_rfl) (by kernel_rfl) (by kernel_rfl) rfl rfl rfl (q_loadC rfl rfl (by exact .head _) rfl) ?_
          refine aw_take 29 (fun w h => Cl.sel (by exact .take 0 rfl (.nil _)) w h) rfl (by kernel_rfl) (by kernel_rfl) (by kernel_rfl) (by kernel_rfl) (by kernel_rfl) (by kernel_rfl) rfl rfl rfl (q_indexN rfl rfl rfl (by exact fun w hw => Stb.cl (by assumption) hw) (by intro hc; (simp only [List.length_set, List.length_append, List.length_cons, List.length_nil, List.length_replicate, List.length_take, List.length_drop, List.length_map]; omega))) ?_
          refine aw_pure 31 rfl (by kernel_rfl) (by kernel_rfl) (by kernel_rfl) (by kernel_rfl) (by kernel_rfl) rfl rfl rfl (q_move rfl rfl) ?_
          refine aw_take 30 (fun w h => Cl.sel (by exact .take 0 rfl (.nil _)) w h) rfl (by kernel_rfl) (by kernel_rfl) (by kernel_rfl) (by kernel_rfl) (by kernel_rfl) (by kernel_rfl) rfl rfl rfl (q_loadElY hrow rfl rfl rfl (by exact fun w hw => Stb.cl (by assumption) hw) (by intro hc; omega)) ?_
          refine aw_take 32 (fun w h => Cl.sel (by exact .take 0 rfl (.nil _)) w h) rfl (by kernel_rfl) (by kernel_rfl) (by kernel_rfl) (by kernel_rfl) (by kernel_rfl) (by kernel_rfl) rfl rfl rfl (q_indexRow rfl rfl rfl (fun w h => Stb.cl hsc h) rfl (fun _ => by omega)) ?_
          refine aw_take 33 (fun w h => Cl.sel (by exact .take 0 rfl (.nil _)) w h) rfl (by kernel_rfl) (by kernel_rfl) (by kernel_rfl) (by kernel_rfl) (by kernel_rfl) (by kernel_rfl) rfl rfl rfl (q_loadElY hcell rfl rfl rfl (fun w h => Stb.cl hsc h) (fun _ => by omega)) ?_
          refine aw_pure 34 rfl (by kernel_rfl) (by kernel_rfl) (by kernel_rfl) (by kernel_rfl) (by kernel_rfl) rfl rfl rfl (q_add rfl rfl rfl (by intro hc; (simp only [List.length_set, List.length_append, List.length_cons, List.length_nil, List.length_replicate, List.length_take, List.length_drop, List.length_map]; omega))) ?_
          refine aw_two 5 20 (by kernel_rfl) ?_ ?_
          · skip
            refine at_x 5 rfl rfl rfl rfl (e_box rfl rfl rfl) (by intro hb; exact fun _ => (fun w h => Cl.sel (by exact .take 1 rfl (.nil _)) w h)) (fun b90 => ?_)
            refine aw_x 20 (by kernel_rfl) rfl rfl rfl rfl (e_callH (A := [mpA K.bm m']) (F := _) (CanCall.mk Try.call26) rfl rfl (.cons rfl inferInstance (.cons rfl inferInstance (.nil))) (perm_del (i := 4) rfl) (fun w bs k1 k2 k3 k4 k5 => cost_spec K hK xu.length hxT u hu m' hmo' w bs k1 k2 k3 (k4 _ hR))) (by intro hb; exact fun _ w h => (fun w h => Cl.sel (by exact .take 2 rfl (.nil _)) w h) w h.2) (fun m2 => ?_)
            refine aw_imp fun hm2 => (aw_c (C' := Cl w bs (blk b15 [sq'.v] 81 :: ownL 79 sq'.v l' :: blk b9 (enc (⟨xp, xu, xc, xl⟩ : Itm)) 79 :: mpA K.bm m2 :: ownL 34 s7.v outs :: (outs.map sqA ++ (N'.map nodeA ++ [nodeA (b90, (xp, u))])))) (fun w' h => Cl.perm perm_one h) ?_)
            refine aw_pure 21 rfl (by kernel_rfl) (by kernel_rfl) (by kernel_rfl) (by kernel_rfl) (by kernel_rfl) rfl rfl rfl (q_add rfl rfl rfl (by intro hc; (simp only [List.length_set, List.length_append, List.length_cons, List.length_nil, List.length_replicate, List.length_take, List.length_drop, List.length_map]; omega))) ?_
            refine aw_pure 35 rfl (by kernel_rfl) (by kernel_rfl) (by kernel_rfl) (by kernel_rfl) (by kernel_rfl) rfl rfl rfl (q_build rfl (.cons rfl inferInstance (.cons rfl inferInstance (.cons rfl inferInstance (.cons rfl inferInstance (.nil))))) rfl) ?_
            refine aw_pure 36 rfl (by kernel_rfl) (by kernel_rfl) (by kernel_rfl) (by kernel_rfl) (by kernel_rfl) rfl rfl rfl (q_iface rfl rfl Try.underlying79 rfl) ?_
            have hlen1 : ((xu.length : Int) + 1) = (((xu ++ [u]).length : Nat) : Int) := by simp
            dsimp only
            rw [hlen1]
            have hkid : ItN (N' ++ [(b90, (xp, u))]) (l' ++ [K.t.kid ⟨xp, xu, xc, xl⟩ u (some ⟨b90, 0, none⟩)]) := by
              intro z hz
              rcases List.mem_append.1 hz with h1 | h1
              · exact chN_mono (fun e he => List.mem_append_left _ he) (hnd' z h1)
              · simp only [List.mem_singleton] at h1
                subst h1
                simp only [Tsk.kid, List.reverse_append, List.reverse_cons, List.reverse_nil, List.nil_append, List.singleton_append]
                exact ⟨b90, xp, rfl, by simp, chN_mono (fun e he => List.mem_append_left _ (hNN e he)) hxn⟩
            have hl'len : l'.length ≤ 500000000 + 2000 := by
              rw [hpm'.length_eq, List.length_append, List.length_zipWith, List.length_take]
              have := hpm.length_eq
              simp only [List.length_cons] at this
              omega
            have hlu' : ∀ z ∈ l' ++ [K.t.kid ⟨xp, xu, xc, xl⟩ u (some ⟨b90, 0, none⟩)], z.units.length ≤ 1000000 := by
              intro z hz
              rcases List.mem_append.1 hz with h1 | h1
              · rcases List.mem_append.1 (hpm'.mem_iff.1 h1) with h2 | h2
                · exact hlu z (hpm.mem_iff.2 (List.mem_cons_of_mem _ h2))
                · obtain ⟨u2, _, p2, rfl⟩ := kid_mem h2
                  simp [Tsk.kid]; omega
              · simp only [List.mem_singleton] at h1
                subst h1
                simp [Tsk.kid]; omega
            refine aw_x 37 (by kernel_rfl) rfl rfl rfl rfl (e_callH (A := [blk b15 [sq'.v] 81, ownL 79 sq'.v l']) (F := blk b9 (enc (⟨xp, xu, xc, xl⟩ : Itm)) 79 :: mpA K.bm m2 :: ownL 34 s7.v outs :: (outs.map sqA ++ (N'.map nodeA ++ [nodeA (b90, (xp, u))]))) (CanCall.mk Try.call35) rfl rfl (.cons rfl inferInstance (.cons rfl inferInstance (.nil))) (.refl _) (fun w bs k1 k2 k3 k4 k5 => hpush_spec b15 sq' l' (K.t.kid ⟨xp, xu, xc, xl⟩ u (some ⟨b90, 0, none⟩)) (by omega) hhp' w bs k1 k2 k3 (itN_ch (lend_nodes (N := N' ++ [(b90, (xp, u))]) k5 (fun e he => .tail _ (.tail _ (.tail _ (List.mem_append_right _ (nodes_mem he)))))) hkid hlu'))) (by intro hb; exact fun _ w h => (fun w h => Cl.sel (by exact .take 2 rfl (.nil _)) w h) w h.2) (fun y37 => ?_)
            refine aw_imp fun hy37 => ?_
            obtain ⟨sq3, l3⟩ := y37
            obtain ⟨hl3, hh3⟩ := hy37
            dsimp only at hl3 hh3 ⊢
            refine aw_end (by kernel_rfl) ?_
            refine post_blk (post_then (cw_region ?_))
            refine sr rfl rfl rfl ((q_add rfl rfl rfl (by intro hc; omega))) ?_
            refine sr rfl rfl rfl ((q_move rfl rfl)) (sw_nil ?_)
            refine post_next (j + 1, (ps ++ [some ⟨b90, 0, none⟩], ⟨sq3, l3, s7, outs, N' ++ [(b90, (xp, u))], m2⟩)) (by exact .cons rfl (.cons rfl (.cons rfl (.cons rfl (.cons rfl (.cons rfl (.cons rfl (.cons rfl (.cons rfl .nil))))))))) (fun w3 hw3 => ?_) ⟨by simp only; omega, by simp [hps], ?_, hh3, fun z hz => hkid z (hl3.mem_iff.1 hz), fun e he => List.mem_append_left _ (hNN e he), hm2⟩ (by simp only; omega)
            · simp only [List.map_append, List.map_cons, List.map_nil]
              exact Cl.perm (List.perm_middle (l₁ := [blk b15 [sq3.v] 81, ownL 79 sq3.v l3])) hw3
            · simp only
              rw [List.take_succ_eq_append_getElem hj', ← nth_get hj', hue, zip_snoc (by rw [List.length_take, hps]; omega), ← List.append_assoc]
              exact hl3.trans (hpm'.append_right _)
          · skip
            refine at_x 20 rfl rfl rfl rfl (e_callH (A := [mpA K.bm m']) (F := _) (CanCall.mk Try.call26) rfl rfl (.cons rfl inferInstance (.cons rfl inferInstance (.nil))) (perm_del (i := 3) rfl) (fun w bs k1 k2 k3 k4 k5 => cost_spec K hK xu.length hxT u hu m' hmo' w bs k1 k2 k3 (k4 _ hR))) (by intro hb; exact fun _ w h => (fun w h => Cl.sel (by exact .take 1 rfl (.nil _)) w h) w h.2) (fun m2 => ?_)
            refine aw_imp fun hm2 => ?_
            refine aw_pure 21 rfl (by kernel_rfl) (by kernel_rfl) (by kernel_rfl) (by kernel_rfl) (by kernel_rfl) rfl rfl rfl (q_add rfl rfl rfl (by intro hc; (simp only [List.length_set, List.length_append, List.length_cons, List.length_nil, List.length_replicate, List.length_take, List.length_drop, List.length_map]; omega))) ?_
            refine aw_x 5 (by kernel_rfl) rfl rfl rfl rfl (e_box rfl rfl rfl) (by intro hb; exact fun _ => (fun w h => Cl.sel (by exact .take 2 rfl (.nil _)) w h)) (fun b90 => ?_)
            refine aw_pure 35 rfl (by kernel_rfl) (by kernel_rfl) (by kernel_rfl) (by kernel_rfl) (by kernel_rfl) rfl rfl rfl (q_build rfl (.cons rfl inferInstance (.cons rfl inferInstance (.cons rfl inferInstance (.cons rfl inferInstance (.nil))))) rfl) ?_
            refine aw_pure 36 rfl (by kernel_rfl) (by kernel_rfl) (by kernel_rfl) (by kernel_rfl) (by kernel_rfl) rfl rfl rfl (q_iface rfl rfl Try.underlying79 rfl) ?_
            refine aw_c (C' := Cl w bs (blk b15 [sq'.v] 81 :: ownL 79 sq'.v l' :: blk b9 (enc (⟨xp, xu, xc, xl⟩ : Itm)) 79 :: mpA K.bm m2 :: ownL 34 s7.v outs :: (outs.map sqA ++ (N'.map nodeA ++ [nodeA (b90, (xp, u))])))) (fun w' h => Cl.perm perm_two h) ?_
            have hlen1 : ((xu.length : Int) + 1) = (((xu ++ [u]).length : Nat) : Int) := by simp
            dsimp only
            rw [hlen1]
            have hkid : ItN (N' ++ [(b90, (xp, u))]) (l' ++ [K.t.kid ⟨xp, xu, xc, xl⟩ u (some ⟨b90, 0, none⟩)]) := by
              intro z hz
              rcases List.mem_append.1 hz with h1 | h1
              · exact chN_mono (fun e he => List.mem_append_left _ he) (hnd' z h1)
              · simp only [List.mem_singleton] at h1
                subst h1
                simp only [Tsk.kid, List.reverse_append, List.reverse_cons, List.reverse_nil, List.nil_append, List.singleton_append]
                exact ⟨b90, xp, rfl, by simp, chN_mono (fun e he => List.mem_append_left _ (hNN e he)) hxn⟩
            have hl'len : l'.length ≤ 500000000 + 2000 := by
              rw [hpm'.length_eq, List.length_append, List.length_zipWith, List.length_take]
              have := hpm.length_eq
              simp only [List.length_cons] at this
              omega
            have hlu' : ∀ z ∈ l' ++ [K.t.kid ⟨xp, xu, xc, xl⟩ u (some ⟨b90, 0, none⟩)], z.units.length ≤ 1000000 := by
              intro z hz
              rcases List.mem_append.1 hz with h1 | h1
              · rcases List.mem_append.1 (hpm'.mem_iff.1 h1) with h2 | h2
                · exact hlu z (hpm.mem_iff.2 (List.mem_cons_of_mem _ h2))
                · obtain ⟨u2, _, p2, rfl⟩ := kid_mem h2
                  simp [Tsk.kid]; omega
              · simp only [List.mem_singleton] at h1
                subst h1
                simp [Tsk.kid]; omega
            refine aw_x 37 (by kernel_rfl) rfl rfl rfl rfl (e_callH (A := [blk b15 [sq'.v] 81, ownL 79 sq'.v l']) (F := blk b9 (enc (⟨xp, xu, xc, xl⟩ : Itm)) 79 :: mpA K.bm m2 :: ownL 34 s7.v outs :: (outs.map sqA ++ (N'.map nodeA ++ [nodeA (b90, (xp, u))]))) (CanCall.mk Try.call35) rfl rfl (.cons rfl inferInstance (.cons rfl inferInstance (.nil))) (.refl _) (fun w bs k1 k2 k3 k4 k5 => hpush_spec b15 sq' l' (K.t.kid ⟨xp, xu, xc, xl⟩ u (some ⟨b90, 0, none⟩)) (by omega) hhp' w bs k1 k2 k3 (itN_ch (lend_nodes (N := N' ++ [(b90, (xp, u))]) k5 (fun e he => .tail _ (.tail _ (.tail _ (List.mem_append_right _ (nodes_mem he)))))) hkid hlu'))) (by intro hb; exact fun _ w h => (fun w h => Cl.sel (by exact .take 2 rfl (.nil _)) w h) w h.2) (fun y37 => ?_)
            refine aw_imp fun hy37 => ?_
            obtain ⟨sq3, l3⟩ := y37
            obtain ⟨hl3, hh3⟩ := hy37
            dsimp only at hl3 hh3 ⊢
            refine aw_end (by kernel_rfl) ?_
            refine post_blk (post_then (cw_region ?_))
            refine sr rfl rfl rfl ((q_add rfl rfl rfl (by intro hc; omega))) ?_
            refine sr rfl rfl rfl ((q_move rfl rfl)) (sw_nil ?_)
            refine post_next (j + 1, (ps ++ [some ⟨b90, 0, none⟩], ⟨sq3, l3, s7, outs, N' ++ [(b90, (xp, u))], m2⟩)) (by exact .cons rfl (.cons rfl (.cons rfl (.cons rfl (.cons rfl (.cons rfl (.cons rfl (.cons rfl (.cons rfl .nil))))))))) (fun w3 hw3 => ?_) ⟨by simp only; omega, by simp [hps], ?_, hh3, fun z hz => hkid z (hl3.mem_iff.1 hz), fun e he => List.mem_append_left _ (hNN e he), hm2⟩ (by simp only; omega)
            · simp only [List.map_append, List.map_cons, List.map_nil]
              exact Cl.perm (List.perm_middle (l₁ := [blk b15 [sq3.v] 81, ownL 79 sq3.v l3])) hw3
            · simp only
              rw [List.take_succ_eq_append_getElem hj', ← nth_get hj', hue, zip_snoc (by rw [List.length_take, hps]; omega), ← List.append_assoc]
              exact hl3.trans (hpm'.append_right _)
      · skip
        have hj' : j = (K.U xu.length).length := by simp only [decide_eq_false_iff_not] at h3; omega
        subst hj'
        rw [List.take_length] at hpm'
        refine cw_exit (post_then_x (post_then_x (post_blk_eq (post_blk ?_))))
        refine post_next ⟨sq', l', s7, outs, N', m'⟩ (by exact .cons rfl (.cons rfl (.cons rfl (.cons rfl (.cons rfl .nil))))) (fun w3 hw3 => hw3.tail) ⟨hbf.grow hpm hxT hps hpm', hhp', hnd', hon, ?_, hmo'⟩ ?_
        · have h1 := Tsk.mu_grow K.t hpm hxT ps
          have h2 := Tsk.mu_perm K.t hpm'
          have h4 : K.t.mu l' < K.t.mu l := by rw [h2]; exact h1
          exact Nat.le_trans (Nat.le_of_lt h4) hmu
        · have h1 := Tsk.mu_grow K.t hpm hxT ps
          have h2 := Tsk.mu_perm K.t hpm'
          show K.t.mu l' < K.t.mu l
          rw [h2]; exact h1
  · skip
    have hend : l = [] ∨ outs.length = n := by
      by_cases h0 : l.length = 0
      · exact .inl (List.eq_nil_of_length_eq_zero h0)
      · simp only [h0, decide_false, Bool.not_false, Bool.true_and, decide_eq_false_iff_not] at h
        exact .inr (by omega)
    refine cw_exit (post_then_x (post_then_x (post_blk_eq (post_then (cw_seq (cw_region (sr rfl rfl rfl ((q_move rfl rfl)) (sr rfl rfl rfl ((q_assign rfl rfl)) (sw_nil (post_then (cw_ret (post_ret1 rfl (resOk_tmp rfl) ?_))))))))))))
    refine fun w' hw => ⟨⟨sq, l, s7, outs, N, m1⟩, rfl, ⟨⟨hbf, hhp, hnd, hon, hmu, hmo⟩, hend⟩, ?_⟩
    exact cl_drop (F := mpA K.bm m1 :: ownL 34 s7.v outs :: outs.map sqA) (G := N.map nodeA) hw.tail.tail
end Go.Proofs.Ytomjbfeafodfbaa

set_option autoImplicit false
set_option maxRecDepth 100000
namespace Go.Proofs.Ytomjbfeafodfbaa
open Go.Sx
open Enc (enc val)
def beginE (p : List Un) (tgt : List Wan) (x : Wts) : Int := if 2000 < p.length ∨ 500 < tgt.length then 4 else if voiceB p && tgt.all waB && wtB x then 0 else 2
theorem wa1_spec (tgt : List Wan) (ht : ∀ t ∈ tgt, WaRd t) : PredL Try.prog 23 #[] (fun t => !waB t) (fun _ => True) tgt := fun t htm w _ => by
  have h1 := ht t htm
  refine calls_cw (vs := [_]) Try.func23 rfl Try.ntmps23 rfl (Cl.start0 w) (cw_seq (cw_region ?_))
  refine sw_x rfl rfl rfl (e_box rfl rfl rfl) (fun b1 => ?_)
  refine sr rfl rfl rfl ((q_assign rfl rfl)) (sw_nil (post_then (cw_seq (cw_region ?_))))
  first | refine sr rfl rfl rfl ((q_loadC rfl rfl (by first | assumption | (repeat first | exact .head _ | apply List.Mem.tail)) rfl)) ?_ | refine sr rfl rfl rfl ((q_loadA rfl rfl (by first | assumption | (repeat first | exact .head _ | apply List.Mem.tail)) rfl)) ?_ | refine sr rfl rfl rfl ((q_loadEl rfl rfl rfl (by first | exact fun w hw => Stb.cl (by assumption) hw | exact fun w hw => rd_own hw (by first | assumption | (repeat first | exact .head _ | apply List.Mem.tail)) | assumption) (by intro hc; first | omega | (simp only [List.length_set, List.length_append, List.length_cons, List.length_nil, List.length_replicate, List.length_take, List.length_drop, List.length_map]; omega) | (simp only [AllT.iff, List.all_cons, List.all_nil, id, Bool.and_eq_true, Bool.not_eq_true', decide_eq_true_eq, decide_eq_false_iff_not, and_true] at hc; first | omega | (simp only [List.length_set, List.length_append, List.length_cons, List.length_nil, List.length_replicate, List.length_take, List.length_drop, List.length_map]; omega)) | (exfalso; simp_all [AllT]; done)))) ?_ | refine sr rfl rfl rfl ((q_loadF rfl rfl rfl (by first | exact fun w hw => Stb.cl (by assumption) hw | exact fun w hw => rd_own hw (by first | assumption | (repeat first | exact .head _ | apply List.Mem.tail)) | assumption) (by intro hc; first | omega | (simp only [List.length_set, List.length_append, List.length_cons, List.length_nil, List.length_replicate, List.length_take, List.length_drop, List.length_map]; omega) | (simp only [AllT.iff, List.all_cons, List.all_nil, id, Bool.and_eq_true, Bool.not_eq_true', decide_eq_true_eq, decide_eq_false_iff_not, and_true] at hc; first | omega | (simp only [List.length_set, List.length_append, List.length_cons, List.length_nil, List.length_replicate, List.length_take, List.length_drop, List.length_map]; omega)) | (exfalso; simp_all [AllT]; done)) rfl)) ?_ | refine sr rfl rfl rfl ((q_loadS rfl rfl (fun w hw => Stb.cl (by assumption) hw) rfl)) ?_
  refine sw_step rfl rfl rfl (q_call (CanCall.mk Try.call24) rfl (.cons rfl inferInstance (.nil)) (fun _ w hw => callq hw (wanted_spec _ w h1))) (sr rfl rfl rfl ((q_not rfl rfl)) (sr rfl rfl rfl ((q_assign rfl rfl)) (sw_nil (post_then (cw_ret (post_ret1 rfl (resOk_tmp rfl) ?_))))))
  exact fun w' hw => ⟨rfl, (fun w h => Cl.sel (by (repeat first | exact Sel.nil _ | refine Sel.take 0 rfl ?_ | refine Sel.take 1 rfl ?_ | refine Sel.take 2 rfl ?_ | refine Sel.take 3 rfl ?_ | refine Sel.take 4 rfl ?_ | refine Sel.take 5 rfl ?_ | refine Sel.take 6 rfl ?_ | refine Sel.take 7 rfl ?_ | refine Sel.take 8 rfl ?_ | refine Sel.take 9 rfl ?_ | refine Sel.take 10 rfl ?_ | refine Sel.take 11 rfl ?_)) w h) _ hw⟩
abbrev gA (f : ByteArray → SlV) (p : List Un) (k : Nat) (c : ByteArray) : Asn := ownL 3 (f c).v (idxs p k c)
theorem key_out {f : ByteArray → SlV} {ks : List ByteArray} {p : List Un} {k : Nat} (a : ByteArray) (hnd : ks.Nodup) (hnil : ∀ c, c ∉ ks → f c = ⟨none, 0, 0⟩ ∧ idxs p k c = []) :
    ∃ ks' : List ByteArray, ks'.Nodup ∧ a ∉ ks' ∧ (∀ c, c ∈ ks → c = a ∨ c ∈ ks') ∧ ∀ {w0 : World} {fp : List Nat} {P : List Asn} {w' : World}, Cl w0 fp (P ++ ks.map (gA f p k)) w' → Cl w0 fp (gA f p k a :: (P ++ ks'.map (gA f p k))) w' := by
  by_cases ha : a ∈ ks
  · obtain ⟨s, t, rfl⟩ := List.append_of_mem ha
    have hp : (s ++ a :: t).Perm (a :: (s ++ t)) := List.perm_middle
    have hn2 := List.nodup_cons.1 (hp.nodup_iff.1 hnd)
    refine ⟨s ++ t, hn2.2, hn2.1, fun c hc => ?_, fun {w0 fp P w'} h => ?_⟩
    · rcases List.mem_cons.1 (hp.mem_iff.1 hc) with h | h
      · exact .inl h
      · exact .inr h
    · refine h.perm (((hp.map (gA f p k)).append_left P).trans ?_)
      rw [List.map_cons]
      exact List.perm_middle
  · refine ⟨ks, hnd, ha, fun c hc => .inr hc, fun {w0 fp P w'} h => ?_⟩
    have e : gA f p k a = ownL 3 (SlV.v ⟨none, 0, 0⟩) ([] : List Int) := by rw [gA, (hnil a ha).1, (hnil a ha).2]
    rw [e]
    exact h.addNil (α := Int) 3
theorem idxs_succ (p : List Un) (k : Nat) (c : ByteArray) : idxs p (k + 1) c = idxs p k c ++ (if (nth p k).phone = c then [(k : Int)] else []) := by
  simp only [idxs, List.range_succ, List.filter_append, List.map_append]
  congr 1
  by_cases h : (nth p k).phone = c
  · simp [h]
  · simp [h]
theorem idxs_len (p : List Un) (k : Nat) (c : ByteArray) : (idxs p k c).length ≤ k := by
  unfold idxs
  rw [List.length_map]
  exact Nat.le_trans (List.length_filter_le _ _) (by simp)
theorem begin_no (sp tp : SlV) (p : List Un) (tgt : List Wan) (x : Wts) (w : World) (hvo : VoRd w sp p) (htp : Stb w [] (RdL tp.v tgt)) (htg : ∀ t ∈ tgt, WaRd t) (hE : beginE p tgt x ≠ 0) : Calls Try.prog 11 #[sp.v, tp.v, val x] w fun e w' => e = .returned (.tuple #[.pointer none, .int .i64 (beginE p tgt x)]) ∧ Cl w [] [] w' := by
  have hsp := hvo.l
  have hL := rd_len hsp.here
  have hL2 := rd_len htp.here
  refine calls_cw (vs := [_, _, _]) Try.func11 rfl Try.ntmps11 rfl (Cl.start0 w) (cw_seq (cw_region ?_))
  refine sw_x rfl rfl rfl (e_box rfl rfl rfl) (fun b3 => ?_)
  refine sw_x rfl rfl rfl (e_box rfl rfl rfl) (fun b4 => ?_)
  refine sw_x rfl rfl rfl (e_box rfl rfl rfl) (fun b5 => ?_)
  refine sr rfl rfl rfl ((q_assign rfl rfl)) (sr rfl rfl rfl ((q_assign rfl rfl)) (sw_nil (post_then (cw_seq (cw_seq (cw_region ?_))))))
  first | refine sr rfl rfl rfl ((q_loadC rfl rfl (by first | assumption | (repeat first | exact .head _ | apply List.Mem.tail)) rfl)) ?_ | refine sr rfl rfl rfl ((q_loadA rfl rfl (by first | assumption | (repeat first | exact .head _ | apply List.Mem.tail)) rfl)) ?_ | refine sr rfl rfl rfl ((q_loadEl rfl rfl rfl (by first | exact fun w hw => Stb.cl (by assumption) hw | exact fun w hw => rd_own hw (by first | assumption | (repeat first | exact .head _ | apply List.Mem.tail)) | assumption) (by intro hc; first | omega | (simp only [List.length_set, List.length_append, List.length_cons, List.length_nil, List.length_replicate, List.length_take, List.length_drop, List.length_map]; omega) | (simp only [AllT.iff, List.all_cons, List.all_nil, id, Bool.and_eq_true, Bool.not_eq_true', decide_eq_true_eq, decide_eq_false_iff_not, and_true] at hc; first | omega | (simp only [List.length_set, List.length_append, List.length_cons, List.length_nil, List.length_replicate, List.length_take, List.length_drop, List.length_map]; omega)) | (exfalso; simp_all [AllT]; done)))) ?_ | refine sr rfl rfl rfl ((q_loadF rfl rfl rfl (by first | exact fun w hw => Stb.cl (by assumption) hw | exact fun w hw => rd_own hw (by first | assumption | (repeat first | exact .head _ | apply List.Mem.tail)) | assumption) (by intro hc; first | omega | (simp only [List.length_set, List.length_append, List.length_cons, List.length_nil, List.length_replicate, List.length_take, List.length_drop, List.length_map]; omega) | (simp only [AllT.iff, List.all_cons, List.all_nil, id, Bool.and_eq_true, Bool.not_eq_true', decide_eq_true_eq, decide_eq_false_iff_not, and_true] at hc; first | omega | (simp only [List.length_set, List.length_append, List.length_cons, List.length_nil, List.length_replicate, List.length_take, List.length_drop, List.length_map]; omega)) | (exfalso; simp_all [AllT]; done)) rfl)) ?_ | refine sr rfl rfl rfl ((q_loadS rfl rfl (fun w hw => Stb.cl (by assumption) hw) rfl)) ?_
  first | refine sr rfl rfl rfl ((q_len rfl (.cons rfl inferInstance (.nil)) (by first | exact fun w hw => Stb.cl (by assumption) hw | exact fun w hw => rd_own hw (by first | assumption | (repeat first | exact .head _ | apply List.Mem.tail)) | assumption))) ?_ | refine sr rfl rfl rfl ((q_lenV rfl (.cons rfl inferInstance (.nil)))) ?_
  refine sr rfl rfl rfl ((q_gtr rfl rfl rfl)) (sr rfl rfl rfl ((q_move rfl rfl)) ?_)
  first | refine sr rfl rfl rfl ((q_loadC rfl rfl (by first | assumption | (repeat first | exact .head _ | apply List.Mem.tail)) rfl)) ?_ | refine sr rfl rfl rfl ((q_loadA rfl rfl (by first | assumption | (repeat first | exact .head _ | apply List.Mem.tail)) rfl)) ?_ | refine sr rfl rfl rfl ((q_loadEl rfl rfl rfl (by first | exact fun w hw => Stb.cl (by assumption) hw | exact fun w hw => rd_own hw (by first | assumption | (repeat first | exact .head _ | apply List.Mem.tail)) | assumption) (by intro hc; first | omega | (simp only [List.length_set, List.length_append, List.length_cons, List.length_nil, List.length_replicate, List.length_take, List.length_drop, List.length_map]; omega) | (simp only [AllT.iff, List.all_cons, List.all_nil, id, Bool.and_eq_true, Bool.not_eq_true', decide_eq_true_eq, decide_eq_false_iff_not, and_true] at hc; first | omega | (simp only [List.length_set, List.length_append, List.length_cons, List.length_nil, List.length_replicate, List.length_take, List.length_drop, List.length_map]; omega)) | (exfalso; simp_all [AllT]; done)))) ?_ | refine sr rfl rfl rfl ((q_loadF rfl rfl rfl (by first | exact fun w hw => Stb.cl (by assumption) hw | exact fun w hw => rd_own hw (by first | assumption | (repeat first | exact .head _ | apply List.Mem.tail)) | assumption) (by intro hc; first | omega | (simp only [List.length_set, List.length_append, List.length_cons, List.length_nil, List.length_replicate, List.length_take, List.length_drop, List.length_map]; omega) | (simp only [AllT.iff, List.all_cons, List.all_nil, id, Bool.and_eq_true, Bool.not_eq_true', decide_eq_true_eq, decide_eq_false_iff_not, and_true] at hc; first | omega | (simp only [List.length_set, List.length_append, List.length_cons, List.length_nil, List.length_replicate, List.length_take, List.length_drop, List.length_map]; omega)) | (exfalso; simp_all [AllT]; done)) rfl)) ?_ | refine sr rfl rfl rfl ((q_loadS rfl rfl (fun w hw => Stb.cl (by assumption) hw) rfl)) ?_
  first | refine sr rfl rfl rfl ((q_len rfl (.cons rfl inferInstance (.nil)) (by first | exact fun w hw => Stb.cl (by assumption) hw | exact fun w hw => rd_own hw (by first | assumption | (repeat first | exact .head _ | apply List.Mem.tail)) | assumption))) ?_ | refine sr rfl rfl rfl ((q_lenV rfl (.cons rfl inferInstance (.nil)))) ?_
  refine sr rfl rfl rfl ((q_gtr rfl rfl rfl)) (sr rfl rfl rfl ((q_or2 rfl rfl rfl)) (sw_nil (post_then ?_)))
  refine cw_cond rfl (fun h => ?_) (fun h => ?_)
  · skip
    have h1 : 2000 < p.length ∨ 500 < tgt.length := by simp only [Bool.or_eq_true, decide_eq_true_eq] at h; omega
    refine cw_seq (cw_region (sr rfl rfl rfl ((q_assign rfl rfl)) (sr rfl rfl rfl ((q_assign rfl rfl)) (sw_nil (post_then (cw_ret (post_then_r (post_ret2 rfl (resOk_tmp rfl) (resOk_tmp rfl) ?_))))))))
    exact fun w' hw => ⟨by rw [beginE, if_pos h1], (fun w h => Cl.sel (by (repeat first | exact Sel.nil _ | refine Sel.take 0 rfl ?_ | refine Sel.take 1 rfl ?_ | refine Sel.take 2 rfl ?_ | refine Sel.take 3 rfl ?_ | refine Sel.take 4 rfl ?_ | refine Sel.take 5 rfl ?_ | refine Sel.take 6 rfl ?_ | refine Sel.take 7 rfl ?_ | refine Sel.take 8 rfl ?_ | refine Sel.take 9 rfl ?_ | refine Sel.take 10 rfl ?_ | refine Sel.take 11 rfl ?_)) w h) _ hw⟩
  · skip
    have h1 : ¬ (2000 < p.length ∨ 500 < tgt.length) := by simp only [Bool.or_eq_false_iff, decide_eq_false_iff_not] at h; omega
    refine cw_skip (post_then (cw_seq (cw_seq (cw_region ?_))))
    first | refine sr rfl rfl rfl ((q_loadC rfl rfl (by first | assumption | (repeat first | exact .head _ | apply List.Mem.tail)) rfl)) ?_ | refine sr rfl rfl rfl ((q_loadA rfl rfl (by first | assumption | (repeat first | exact .head _ | apply List.Mem.tail)) rfl)) ?_ | refine sr rfl rfl rfl ((q_loadEl rfl rfl rfl (by first | exact fun w hw => Stb.cl (by assumption) hw | exact fun w hw => rd_own hw (by first | assumption | (repeat first | exact .head _ | apply List.Mem.tail)) | assumption) (by intro hc; first | omega | (simp only [List.length_set, List.length_append, List.length_cons, List.length_nil, List.length_replicate, List.length_take, List.length_drop, List.length_map]; omega) | (simp only [AllT.iff, List.all_cons, List.all_nil, id, Bool.and_eq_true, Bool.not_eq_true', decide_eq_true_eq, decide_eq_false_iff_not, and_true] at hc; first | omega | (simp only [List.length_set, List.length_append, List.length_cons, List.length_nil, List.length_replicate, List.length_take, List.length_drop, List.length_map]; omega)) | (exfalso; simp_all [AllT]; done)))) ?_ | refine sr rfl rfl rfl ((q_loadF rfl rfl rfl (by first | exact fun w hw => Stb.cl (by assumption) hw | exact fun w hw => rd_own hw (by first | assumption | (repeat first | exact .head _ | apply List.Mem.tail)) | assumption) (by intro hc; first | omega | (simp only [List.length_set, List.length_append, List.length_cons, List.length_nil, List.length_replicate, List.length_take, List.length_drop, List.length_map]; omega) | (simp only [AllT.iff, List.all_cons, List.all_nil, id, Bool.and_eq_true, Bool.not_eq_true', decide_eq_true_eq, decide_eq_false_iff_not, and_true] at hc; first | omega | (simp only [List.length_set, List.length_append, List.length_cons, List.length_nil, List.length_replicate, List.length_take, List.length_drop, List.length_map]; omega)) | (exfalso; simp_all [AllT]; done)) rfl)) ?_ | refine sr rfl rfl rfl ((q_loadS rfl rfl (fun w hw => Stb.cl (by assumption) hw) rfl)) ?_
    refine sw_step rfl rfl rfl (q_call (CanCall.mk Try.call21) rfl (.cons rfl inferInstance (.nil)) (fun _ w hw => callq hw (voice_spec sp p w (hvo.arg hw)))) (sr rfl rfl rfl ((q_neq rfl rfl rfl)) (sr rfl rfl rfl ((q_move rfl rfl)) ?_))
    first | refine sr rfl rfl rfl ((q_loadC rfl rfl (by first | assumption | (repeat first | exact .head _ | apply List.Mem.tail)) rfl)) ?_ | refine sr rfl rfl rfl ((q_loadA rfl rfl (by first | assumption | (repeat first | exact .head _ | apply List.Mem.tail)) rfl)) ?_ | refine sr rfl rfl rfl ((q_loadEl rfl rfl rfl (by first | exact fun w hw => Stb.cl (by assumption) hw | exact fun w hw => rd_own hw (by first | assumption | (repeat first | exact .head _ | apply List.Mem.tail)) | assumption) (by intro hc; first | omega | (simp only [List.length_set, List.length_append, List.length_cons, List.length_nil, List.length_replicate, List.length_take, List.length_drop, List.length_map]; omega) | (simp only [AllT.iff, List.all_cons, List.all_nil, id, Bool.and_eq_true, Bool.not_eq_true', decide_eq_true_eq, decide_eq_false_iff_not, and_true] at hc; first | omega | (simp only [List.length_set, List.length_append, List.length_cons, List.length_nil, List.length_replicate, List.length_take, List.length_drop, List.length_map]; omega)) | (exfalso; simp_all [AllT]; done)))) ?_ | refine sr rfl rfl rfl ((q_loadF rfl rfl rfl (by first | exact fun w hw => Stb.cl (by assumption) hw | exact fun w hw => rd_own hw (by first | assumption | (repeat first | exact .head _ | apply List.Mem.tail)) | assumption) (by intro hc; first | omega | (simp only [List.length_set, List.length_append, List.length_cons, List.length_nil, List.length_replicate, List.length_take, List.length_drop, List.length_map]; omega) | (simp only [AllT.iff, List.all_cons, List.all_nil, id, Bool.and_eq_true, Bool.not_eq_true', decide_eq_true_eq, decide_eq_false_iff_not, and_true] at hc; first | omega | (simp only [List.length_set, List.length_append, List.length_cons, List.length_nil, List.length_replicate, List.length_take, List.length_drop, List.length_map]; omega)) | (exfalso; simp_all [AllT]; done)) rfl)) ?_ | refine sr rfl rfl rfl ((q_loadS rfl rfl (fun w hw => Stb.cl (by assumption) hw) rfl)) ?_
    refine sw_step rfl rfl rfl (q_call (CanCall.mk Try.call22) rfl (.cons rfl inferInstance (.cons rfl inferInstance (.nil))) (fun _ w hw => callq hw (containsWan_spec _ _ _ _ _ _ w (by first | exact stb_arg hw (by assumption) | exact stb_own hw (by first | assumption | (repeat first | exact .head _ | apply List.Mem.tail))) (stb_true w []) (CanCall.mk Try.call23) (wa1_spec tgt htg)))) ?_
    refine sr rfl rfl rfl ((q_or2 rfl rfl rfl)) (sr rfl rfl rfl ((q_move rfl rfl)) ?_)
    first | refine sr rfl rfl rfl ((q_loadC rfl rfl (by first | assumption | (repeat first | exact .head _ | apply List.Mem.tail)) rfl)) ?_ | refine sr rfl rfl rfl ((q_loadA rfl rfl (by first | assumption | (repeat first | exact .head _ | apply List.Mem.tail)) rfl)) ?_ | refine sr rfl rfl rfl ((q_loadEl rfl rfl rfl (by first | exact fun w hw => Stb.cl (by assumption) hw | exact fun w hw => rd_own hw (by first | assumption | (repeat first | exact .head _ | apply List.Mem.tail)) | assumption) (by intro hc; first | omega | (simp only [List.length_set, List.length_append, List.length_cons, List.length_nil, List.length_replicate, List.length_take, List.length_drop, List.length_map]; omega) | (simp only [AllT.iff, List.all_cons, List.all_nil, id, Bool.and_eq_true, Bool.not_eq_true', decide_eq_true_eq, decide_eq_false_iff_not, and_true] at hc; first | omega | (simp only [List.length_set, List.length_append, List.length_cons, List.length_nil, List.length_replicate, List.length_take, List.length_drop, List.length_map]; omega)) | (exfalso; simp_all [AllT]; done)))) ?_ | refine sr rfl rfl rfl ((q_loadF rfl rfl rfl (by first | exact fun w hw => Stb.cl (by assumption) hw | exact fun w hw => rd_own hw (by first | assumption | (repeat first | exact .head _ | apply List.Mem.tail)) | assumption) (by intro hc; first | omega | (simp only [List.length_set, List.length_append, List.length_cons, List.length_nil, List.length_replicate, List.length_take, List.length_drop, List.length_map]; omega) | (simp only [AllT.iff, List.all_cons, List.all_nil, id, Bool.and_eq_true, Bool.not_eq_true', decide_eq_true_eq, decide_eq_false_iff_not, and_true] at hc; first | omega | (simp only [List.length_set, List.length_append, List.length_cons, List.length_nil, List.length_replicate, List.length_take, List.length_drop, List.length_map]; omega)) | (exfalso; simp_all [AllT]; done)) rfl)) ?_ | refine sr rfl rfl rfl ((q_loadS rfl rfl (fun w hw => Stb.cl (by assumption) hw) rfl)) ?_
    refine sw_step rfl rfl rfl (q_call (CanCall.mk Try.call25) rfl (.cons rfl inferInstance (.nil)) (fun _ w hw => callq hw (weights_spec _ w))) (sr rfl rfl rfl ((q_not rfl rfl)) (sr rfl rfl rfl ((q_or2 rfl rfl rfl)) (sw_nil (post_then ?_))))
    refine cw_cond rfl (fun h2 => ?_) (fun h2 => ?_)
    · skip
      have h3 : (voiceB p && tgt.all waB && wtB x) = false := by
        rw [Bool.eq_false_iff]; intro hc
        simp only [Bool.and_eq_true] at hc
        have e1 : voiceE p = 0 := by rw [voiceE, if_neg (by omega), hc.1.1]; rfl
        have e2 : (tgt.any fun t => !waB t) = false := by rw [← List.not_all_eq_any_not, hc.1.2]; rfl
        simp [e1, e2, hc.2] at h2
      refine cw_seq (cw_region (sr rfl rfl rfl ((q_assign rfl rfl)) (sr rfl rfl rfl ((q_assign rfl rfl)) (sw_nil (post_then (cw_ret (post_then_r (post_ret2 rfl (resOk_tmp rfl) (resOk_tmp rfl) ?_))))))))
      exact fun w' hw => ⟨by rw [beginE, if_neg h1, h3]; rfl, (fun w h => Cl.sel (by (repeat first | exact Sel.nil _ | refine Sel.take 0 rfl ?_ | refine Sel.take 1 rfl ?_ | refine Sel.take 2 rfl ?_ | refine Sel.take 3 rfl ?_ | refine Sel.take 4 rfl ?_ | refine Sel.take 5 rfl ?_ | refine Sel.take 6 rfl ?_ | refine Sel.take 7 rfl ?_ | refine Sel.take 8 rfl ?_ | refine Sel.take 9 rfl ?_ | refine Sel.take 10 rfl ?_ | refine Sel.take 11 rfl ?_)) w h) _ hw⟩
    · skip
      exfalso
      apply hE
      simp only [Bool.or_eq_false_iff, Bool.not_eq_false', decide_eq_true_eq] at h2
      have e1 : voiceB p = true := by
        have h4 := h2.1.1
        rw [voiceE, if_neg (by omega)] at h4
        cases h5 : voiceB p
        · rw [h5] at h4; cases h4
        · rfl
      have e2 : tgt.all waB = true := by
        have h4 := h2.1.2
        rw [← List.not_all_eq_any_not] at h4
        simpa using h4
      rw [beginE, if_neg h1, e1, e2, h2.2]; rfl
end Go.Proofs.Ytomjbfeafodfbaa

set_option autoImplicit false
set_option maxRecDepth 100000
namespace Go.Proofs.Ytomjbfeafodfbaa
open Go.Sx
open Enc (enc val)
structure TKX where
  K : TK
  f : ByteArray → SlV
  ks : List ByteArray
def TKX.F (y : TKX) : List Asn :=
  blk y.K.bk [y.K.sp.v, y.K.tp.v, .int .i64 y.K.x.beside, .int .i64 y.K.x.pitch, .int .i64 y.K.x.length, .int .i64 y.K.x.join, y.K.us.v, .func (.func 26) #[] #[.pointer (some ⟨y.K.b14, 0, none⟩), .pointer (some ⟨y.K.b3, 0, none⟩), .pointer (some ⟨y.K.b4, 0, none⟩), .pointer (some ⟨y.K.b5, 0, none⟩)]] 67 ::
  ownL 22 y.K.us.v y.K.usv :: blk y.K.b14 [.map (some y.K.bm)] 69 :: blk y.K.b5 (enc y.K.x) 39 :: blk y.K.b4 [y.K.tp.v] 27 :: blk y.K.b3 [y.K.sp.v] 26 :: y.ks.map (gA y.f y.K.p y.K.p.length)
structure TKX.Good (y : TKX) (sp tp : SlV) (p : List Un) (tgt : List Wan) (x : Wts) : Prop where
  hsp : y.K.sp = sp
  hp : y.K.p = p
  htp : y.K.tp = tp
  htgt : y.K.tgt = tgt
  hx : y.K.x = x
  husv : y.K.usv = tgt.map fun t => y.f t.phone
  hnil : ∀ c, c ∉ y.ks → y.f c = ⟨none, 0, 0⟩ ∧ idxs p p.length c = []
theorem beginE_ok {p : List Un} {tgt : List Wan} {x : Wts} (h : beginE p tgt x = 0) : p.length ≤ 2000 ∧ tgt.length ≤ 500 ∧ voiceB p = true ∧ tgt.all waB = true ∧ wtB x = true := by
  unfold beginE at h
  split at h
  · cases h
  · split at h
    · rename_i h1 h2
      simp only [Bool.and_eq_true] at h2
      exact ⟨by omega, by omega, h2.1.1, h2.1.2, h2.2⟩
    · cases h
theorem perm_fin {α : Type} {A M U E B : α} {R : List α} : (A :: M :: U :: E :: B :: R).Perm (E :: M :: B :: U :: A :: R) := by
  have h : [A, M, U, E, B].Perm [E, M, B, U, A] :=
    (List.perm_middle (l₁ := [A, M, U]) (a := E) (l₂ := [B])).trans (.cons E ((List.Perm.swap M A [U, B]).trans (.cons M ((List.perm_middle (l₁ := [A, U]) (a := B) (l₂ := [])).trans (.cons B (.swap U A []))))))
  exact h.append_right R
set_option maxHeartbeats 2000000 in
theorem begin_yes (sp tp : SlV) (p : List Un) (tgt : List Wan) (x : Wts) (w : World) (hvo : VoRd w sp p) (htp : Stb w [] (RdL tp.v tgt)) (htg : ∀ t ∈ tgt, WaRd t) (hE : beginE p tgt x = 0) :
    Calls Try.prog 11 #[sp.v, tp.v, val x] w fun e w' => ∃ y : TKX, e = .returned (.tuple #[.pointer (some ⟨y.K.bk, 0, none⟩), .int .i64 0]) ∧ y.Good sp tp p tgt x ∧ Cl w [] (mpA y.K.bm ([] : List (P2 × Int)) :: y.F) w' := by
  have hsp := hvo.l
  have hL := rd_len hsp.here
  have hL2 := rd_len htp.here
  obtain ⟨n1, n2, hv1, hv2, hv3⟩ := beginE_ok hE
  refine calls_cw (vs := [_, _, _]) Try.func11 rfl Try.ntmps11 rfl (Cl.start0 w) (cw_seq (cw_region ?_))
  refine sw_x rfl rfl rfl (e_box rfl rfl rfl) (fun b3 => ?_)
  refine sw_x rfl rfl rfl (e_box rfl rfl rfl) (fun b4 => ?_)
  refine sw_x rfl rfl rfl (e_box rfl rfl rfl) (fun b5 => ?_)
  refine sr rfl rfl rfl ((q_assign rfl rfl)) (sr rfl rfl rfl ((q_assign rfl rfl)) (sw_nil (post_then (cw_seq (cw_seq (cw_region ?_))))))
  refine sr rfl rfl rfl ((q_loadC rfl rfl (by exact .tail _ (.tail _ (.head _))) rfl)) ?_
  refine sr rfl rfl rfl ((q_len rfl (.cons rfl inferInstance (.nil)) (by exact fun w hw => Stb.cl (by assumption) hw))) ?_
  refine sr rfl rfl rfl ((q_gtr rfl rfl rfl)) (sr rfl rfl rfl ((q_move rfl rfl)) ?_)
  refine sr rfl rfl rfl ((q_loadC rfl rfl (by exact .tail _ (.head _)) rfl)) ?_
  refine sr rfl rfl rfl ((q_len rfl (.cons rfl inferInstance (.nil)) (by exact fun w hw => Stb.cl (by assumption) hw))) ?_
  refine sr rfl rfl rfl ((q_gtr rfl rfl rfl)) (sr rfl rfl rfl ((q_or2 rfl rfl rfl)) (sw_nil (post_then ?_)))
  refine cw_cond rfl (fun h => ?_) (fun h => ?_)
  · skip
    exfalso
    simp only [Bool.or_eq_true, decide_eq_true_eq] at h; omega
  · skip
    refine cw_skip (post_then (cw_seq (cw_seq (cw_region ?_))))
    refine sr rfl rfl rfl ((q_loadC rfl rfl (by exact .tail _ (.tail _ (.head _))) rfl)) ?_
    refine sw_step rfl rfl rfl (q_call (CanCall.mk Try.call21) rfl (.cons rfl inferInstance (.nil)) (fun _ w hw => callq hw (voice_spec sp p w (hvo.arg hw)))) (sr rfl rfl rfl ((q_neq rfl rfl rfl)) (sr rfl rfl rfl ((q_move rfl rfl)) ?_))
    refine sr rfl rfl rfl ((q_loadC rfl rfl (by exact .tail _ (.head _)) rfl)) ?_
    refine sw_step rfl rfl rfl (q_call (CanCall.mk Try.call22) rfl (.cons rfl inferInstance (.cons rfl inferInstance (.nil))) (fun _ w hw => callq hw (containsWan_spec _ _ _ _ _ _ w (by exact stb_arg hw (by assumption)) (stb_true w []) (CanCall.mk Try.call23) (wa1_spec tgt htg)))) ?_
    refine sr rfl rfl rfl ((q_or2 rfl rfl rfl)) (sr rfl rfl rfl ((q_move rfl rfl)) ?_)
    refine sr rfl rfl rfl ((q_loadA rfl rfl (by exact .head _) rfl)) ?_
    refine sw_step rfl rfl rfl (q_call (CanCall.mk Try.call25) rfl (.cons rfl inferInstance (.nil)) (fun _ w hw => callq hw (weights_spec _ w))) (sr rfl rfl rfl ((q_not rfl rfl)) (sr rfl rfl rfl ((q_or2 rfl rfl rfl)) (sw_nil (post_then ?_))))
    refine cw_cond rfl (fun h2 => ?_) (fun h2 => ?_)
    · skip
      exfalso
      have e1 : voiceE p = 0 := by rw [voiceE, if_neg (by omega), hv1]; rfl
      have e2 : (tgt.any fun t => !waB t) = false := by rw [← List.not_all_eq_any_not, hv2]; rfl
      simp [e1, e2, hv3] at h2
    · skip
      clear h h2
      refine cw_skip (post_then (cw_seq (cw_region ?_)))
      refine sr rfl rfl rfl ((q_loadC rfl rfl (by exact .tail _ (.tail _ (.head _))) rfl)) ?_
      refine sr rfl rfl rfl ((q_loadC rfl rfl (by exact .tail _ (.head _)) rfl)) ?_
      refine sr rfl rfl rfl ((q_loadA rfl rfl (by exact .head _) rfl)) ?_
      refine sr rfl rfl rfl ((q_build rfl (.cons rfl inferInstance (.cons rfl inferInstance (.cons rfl inferInstance (.nil)))) rfl)) ?_
      refine sw_x rfl rfl rfl (e_box rfl rfl rfl) (fun b39 => ?_)
      refine sr rfl rfl rfl ((q_assign rfl rfl)) (sw_nil (post_then (cw_seq (cw_region ?_))))
      refine sw_x rfl rfl rfl (e_makeMap (κ := ByteArray) (ν := SlV) rfl) (fun b40 => ?_)
      refine sr rfl rfl rfl ((q_assign rfl rfl)) (sw_nil (post_then (cw_seq (cw_seq (cw_region ?_)))))
      refine sr rfl rfl rfl ((q_loadC rfl rfl (by exact .tail _ (.tail _ (.tail _ (.tail _ (.head _))))) rfl)) ?_
      refine sr rfl rfl rfl ((q_len rfl (.cons rfl inferInstance (.nil)) (by exact fun w hw => Stb.cl (by assumption) hw))) ?_
      refine sr rfl rfl rfl ((q_move rfl rfl)) (sw_nil (post_then (cw_block ?_)))
      refine cw_loop (S := Nat × ((ByteArray → SlV) × (List ByteArray × List (ByteArray × SlV)))) (fun y => [(3, [], .pointer (some ⟨b3, 0, none⟩)), (4, [], .pointer (some ⟨b4, 0, none⟩)), (5, [], .pointer (some ⟨b5, 0, none⟩)), (8, [], .pointer (some ⟨b39, 0, none⟩)), (9, [], .map (some b40)), (41, [], sp.v), (42, [], .int .i64 p.length), (43, [], .int .i64 y.1)])
        (fun y => Cl w [] ([mpA b40 y.2.2.2, blk b39 [sp.v, tp.v, .int .i64 x.beside, .int .i64 x.pitch, .int .i64 x.length, .int .i64 x.join, .slice none 0 0, .nilFunc] 67, blk b5 (enc x) 39, blk b4 [tp.v] 27, blk b3 [sp.v] 26] ++ y.2.2.1.map (gA y.2.1 p y.1)))
        (fun y => y.1 ≤ p.length ∧ (∀ c, getZ (⟨none, 0, 0⟩ : SlV) y.2.2.2 c = y.2.1 c) ∧ y.2.2.1.Nodup ∧ ∀ c, c ∉ y.2.2.1 → y.2.1 c = ⟨none, 0, 0⟩ ∧ idxs p y.1 c = []) (fun y => p.length - y.1) (0, (fun _ => ⟨none, 0, 0⟩, ([], []))) ⟨Nat.zero_le _, fun c => rfl, List.nodup_nil, fun c _ => ⟨rfl, rfl⟩⟩ ?_ ?_ ?_
      · exact Le.cons rfl (Le.cons rfl (Le.cons rfl (Le.cons rfl (Le.cons rfl (Le.cons rfl (Le.cons rfl (Le.cons rfl Le.nil)))))))
      · intro w' h; exact h
      rintro ⟨k, ⟨f, ⟨ks, E⟩⟩⟩ ⟨hk, hE', hnd, hnil⟩
      dsimp only at hk hE' hnd hnil ⊢
      refine cw_seq (cw_region (sr rfl rfl rfl ((q_lss rfl rfl rfl)) (sw_nil (post_then (cw_seq ?_)))))
      refine cw_cond rfl (fun h => ?_) (fun h => ?_)
      · skip
        have hk' : k < p.length := by simp only [decide_eq_true_eq] at h; omega
        obtain ⟨ks', hnd', hna, hsub, hmv⟩ := key_out (f := f) (p := p) (k := k) (nth p k).phone hnd hnil
        have hil := idxs_len p k (nth p k).phone
        refine cw_c (fun w' hw => hmv hw) (cw_skip (post_then (cw_seq (cw_block (cw_seq (cw_region (sr rfl rfl rfl ((q_move rfl rfl)) ?_)))))))
        refine sr rfl rfl rfl ((q_indexN rfl rfl rfl (by exact fun w hw => Stb.cl (by assumption) hw) (by intro hc; omega))) ?_
        refine sr rfl rfl rfl ((q_loadEl rfl rfl rfl (by exact fun w hw => Stb.cl (by assumption) hw) (by intro hc; omega))) ?_
        refine sw_x rfl rfl rfl (e_alloc rfl) (fun b11 => ?_)
        refine sr rfl rfl rfl ((q_assign rfl rfl)) (sw_eff0 rfl rfl (e_store (i := 0) rfl rfl rfl rfl rfl rfl rfl rfl) (sw_nil (post_then (cw_region_a (Cl w [] [blk b11 (enc (nth p k)) 30, mpA b40 E]) [10] mixed_Try ?_))))
        refine aw_pure 0 rfl (by kernel_rfl) (by kernel_rfl) (by kernel_rfl) (by kernel_rfl) (by kernel_rfl) rfl rfl rfl (q_move rfl rfl) ?_
        refine aw_take 1 (fun w h => Cl.sel (by exact .take 0 rfl (.take 1 rfl (.nil _))) w h) rfl (by kernel_rfl) (by kernel_rfl) (by kernel_rfl) (by kernel_rfl) (by kernel_rfl) (by kernel_rfl) rfl rfl rfl (q_fieldAddr rfl rfl) ?_
        refine aw_take 2 (fun w h => Cl.sel (by exact .take 0 rfl (.take 1 rfl (.nil _))) w h) rfl (by kernel_rfl) (by kernel_rfl) (by kernel_rfl) (by kernel_rfl) (by kernel_rfl) (by kernel_rfl) rfl rfl rfl (q_loadC rfl rfl (by exact .head _) rfl) ?_
        refine aw_pure 3 rfl (by kernel_rfl) (by kernel_rfl) (by kernel_rfl) (by kernel_rfl) (by kernel_rfl) rfl rfl rfl (q_move rfl rfl) ?_
        refine aw_take 4 (fun w h => Cl.sel (by exact .take 0 rfl (.take 1 rfl (.nil _))) w h) rfl (by kernel_rfl) (by kernel_rfl) (by kernel_rfl) (by kernel_rfl) (by kernel_rfl) (by kernel_rfl) rfl rfl rfl (q_fieldAddr rfl rfl) ?_
        refine aw_take 5 (fun w h => Cl.sel (by exact .take 0 rfl (.take 1 rfl (.nil _))) w h) rfl (by kernel_rfl) (by kernel_rfl) (by kernel_rfl) (by kernel_rfl) (by kernel_rfl) (by kernel_rfl) rfl rfl rfl (q_loadC rfl rfl (by exact .head _) rfl) ?_
        refine aw_pure 7 rfl (by kernel_rfl) (by kernel_rfl) (by kernel_rfl) (by kernel_rfl) (by kernel_rfl) rfl rfl rfl (q_move rfl rfl) ?_
        refine aw_take 6 (fun w h => Cl.sel (by exact .take 0 rfl (.take 1 rfl (.nil _))) w h) rfl (by kernel_rfl) (by kernel_rfl) (by kernel_rfl) (by kernel_rfl) (by kernel_rfl) (by kernel_rfl) rfl rfl rfl (q_lookup (k := (nth p k).phone) (z := (⟨none, 0, 0⟩ : SlV)) (l := E) rfl rfl rfl (fun w h => rdm_own h (by exact .tail _ (.head _)))) ?_
        rw [hE']
        refine aw_x 8 (by kernel_rfl) rfl rfl rfl rfl (e_build1 (α := Int) rfl rfl rfl rfl) (by intro hb; exact fun _ => (fun w h => Cl.sel (by exact .take 1 rfl (.take 2 rfl (.nil _))) w h)) (fun s56 => ?_)
        refine aw_x 9 (by kernel_rfl) rfl rfl rfl rfl (e_append (i := 2) rfl (.cons rfl inferInstance (.cons rfl inferInstance (.nil))) rfl rfl (by exact fun w hw => rd_own hw (by exact .head _)) (by simp only [List.length_set, List.length_append, List.length_cons, List.length_nil, List.length_replicate, List.length_take, List.length_drop, List.length_map]; omega) rfl) (by intro hb; exact fun _ => (fun w h => Cl.sel (by exact .take 1 rfl (.take 2 rfl (.nil _))) w h)) (fun s57 => ?_)
        refine aw_one0 10 (by kernel_rfl) rfl rfl rfl (e_mapUpdate (κ := ByteArray) (ν := SlV) (i := 3) (.inl rfl) rfl rfl rfl rfl) (by intro hb; (exact absurd hb (by decide))) ?_
        refine aw_end (by kernel_rfl) ?_
        refine post_blk (post_then (cw_region ?_))
        refine sr rfl rfl rfl ((q_add rfl rfl rfl (by intro hc; omega))) ?_
        refine sr rfl rfl rfl ((q_move rfl rfl)) (sw_nil ?_)
        have hz : idxs p (k + 1) (nth p k).phone = idxs p k (nth p k).phone ++ [(k : Int)] := by rw [idxs_succ, if_pos rfl]
        refine post_next (k + 1, (fun c => if c = (nth p k).phone then s57 else f c, ((nth p k).phone :: ks', upd E (nth p k).phone s57))) ?_ ?_ ⟨by simp only; omega, fun c => ?_, ?_, fun c hc => ?_⟩ (by simp only; omega)
        · exact (by exact .cons rfl (.cons rfl (.cons rfl (.cons rfl (.cons rfl (.cons rfl (.cons rfl (.cons rfl .nil))))))))
        · intro w3 hw3
          have hmap : ks'.map (gA (fun c => if c = (nth p k).phone then s57 else f c) p (k + 1)) = ks'.map (gA f p k) := List.map_congr_left fun c hc => by
            have hne : ¬ c = (nth p k).phone := fun e => hna (e ▸ hc)
            have hne2 : ¬ (nth p k).phone = c := fun e => hne e.symm
            simp only [gA, hne, if_false, idxs_succ, hne2, List.append_nil]
          simp only [List.map_cons, hmap]
          have h1 : Cl w [] (ownL 3 s56.v [(k : Int)] :: blk b11 _ 30 :: ownL 3 s57.v (idxs p k (nth p k).phone ++ [(k : Int)]) :: mpA b40 (upd E (nth p k).phone s57) :: blk b39 [sp.v, tp.v, .int .i64 x.beside, .int .i64 x.pitch, .int .i64 x.length, .int .i64 x.join, .slice none 0 0, .nilFunc] 67 :: blk b5 (enc x) 39 :: blk b4 [tp.v] 27 :: blk b3 [sp.v] 26 :: ks'.map (gA f p k)) w3 := hw3
          rw [← hz] at h1
          have h2 := h1.tail.tail.perm (List.perm_middle (l₁ := [mpA b40 (upd E (nth p k).phone s57), blk b39 [sp.v, tp.v, .int .i64 x.beside, .int .i64 x.pitch, .int .i64 x.length, .int .i64 x.join, .slice none 0 0, .nilFunc] 67, blk b5 (enc x) 39, blk b4 [tp.v] 27, blk b3 [sp.v] 26]) (l₂ := ks'.map (gA f p k)) (a := ownL 3 s57.v (idxs p (k + 1) (nth p k).phone))).symm
          simp only [gA, if_true]
          exact h2
        · simp only [getZ_upd]
          by_cases e : c = (nth p k).phone
          · rw [if_pos e, if_pos e]
          · rw [if_neg e, if_neg e]; exact hE' c
        · exact List.nodup_cons.2 ⟨hna, hnd'⟩
        · simp only [List.mem_cons, not_or] at hc
          have hcn : c ∉ ks := fun h => by
            rcases hsub c h with h1 | h1
            · exact hc.1 h1
            · exact hc.2 h1
          have h1 := hnil c hcn
          have hne2 : ¬ (nth p k).phone = c := fun e => hc.1 e.symm
          simp only [hc.1, if_false, idxs_succ, hne2, List.append_nil]
          exact h1
      · skip
        have hk' : k = p.length := by simp only [decide_eq_false_iff_not] at h; omega
        subst hk'
        refine cw_c (C' := Cl w [] (ownL 22 (SlV.v ⟨none, 0, 0⟩) ([] : List SlV) :: mpA b40 E :: blk b39 [sp.v, tp.v, .int .i64 x.beside, .int .i64 x.pitch, .int .i64 x.length, .int .i64 x.join, .slice none 0 0, .nilFunc] 67 :: blk b5 (enc x) 39 :: blk b4 [tp.v] 27 :: blk b3 [sp.v] 26 :: ks.map (gA f p p.length))) (fun w' hw => hw.addNil (α := SlV) 22) (cw_exit (post_then_x (post_then_x (post_blk_eq (post_then (cw_seq (cw_seq (cw_region ?_))))))))
        refine sr rfl rfl rfl ((q_loadC rfl rfl (by exact .tail _ (.tail _ (.tail _ (.tail _ (.head _))))) rfl)) ?_
        refine sr rfl rfl rfl ((q_len rfl (.cons rfl inferInstance (.nil)) (by exact fun w hw => Stb.cl (by assumption) hw))) ?_
        refine sr rfl rfl rfl ((q_move rfl rfl)) (sw_nil (post_then (cw_block ?_)))
        refine cw_loop (S := Nat × SlV) (fun y => [(3, [], .pointer (some ⟨b3, 0, none⟩)), (4, [], .pointer (some ⟨b4, 0, none⟩)), (5, [], .pointer (some ⟨b5, 0, none⟩)), (8, [], .pointer (some ⟨b39, 0, none⟩)), (9, [], .map (some b40)), (59, [], tp.v), (60, [], .int .i64 tgt.length), (61, [], .int .i64 y.1)])
          (fun y => Cl w [] (ownL 22 y.2.v ((tgt.take y.1).map fun t => f t.phone) :: mpA b40 E :: blk b39 [sp.v, tp.v, .int .i64 x.beside, .int .i64 x.pitch, .int .i64 x.length, .int .i64 x.join, y.2.v, .nilFunc] 67 :: blk b5 (enc x) 39 :: blk b4 [tp.v] 27 :: blk b3 [sp.v] 26 :: ks.map (gA f p p.length)))
          (fun y => y.1 ≤ tgt.length) (fun y => tgt.length - y.1) (0, ⟨none, 0, 0⟩) (Nat.zero_le _) ?_ ?_ ?_
        · exact Le.cons rfl (Le.cons rfl (Le.cons rfl (Le.cons rfl (Le.cons rfl (Le.cons rfl (Le.cons rfl (Le.cons rfl Le.nil)))))))
        · intro w' h; exact h
        rintro ⟨i, us⟩ hi
        dsimp only at hi ⊢
        have hul : ((tgt.take i).map fun t => f t.phone).length = i := by simp; omega
        refine cw_seq (cw_region (sr rfl rfl rfl ((q_lss rfl rfl rfl)) (sw_nil (post_then (cw_seq ?_)))))
        refine cw_cond rfl (fun h => ?_) (fun h => ?_)
        · skip
          have hi' : i < tgt.length := by simp only [decide_eq_true_eq] at h; omega
          refine cw_skip (post_then (cw_seq (cw_block (cw_seq (cw_region ?_)))))
          refine sr rfl rfl rfl ((q_indexN rfl rfl rfl (by exact fun w hw => Stb.cl (by assumption) hw) (by intro hc; omega))) ?_
          refine sr rfl rfl rfl ((q_loadEl rfl rfl rfl (by exact fun w hw => Stb.cl (by assumption) hw) (by intro hc; omega))) ?_
          refine sw_x rfl rfl rfl (e_alloc rfl) (fun b13 => ?_)
          refine sw_eff0 rfl rfl (e_store (i := 0) rfl rfl rfl rfl rfl rfl rfl rfl) (sw_nil (post_then (cw_region_a (Cl w [] [blk b13 (enc (nth tgt i)) 32, mpA b40 E, blk b39 [sp.v, tp.v, .int .i64 x.beside, .int .i64 x.pitch, .int .i64 x.length, .int .i64 x.join, us.v, .nilFunc] 67]) [13] mixed_Try ?_)))
          refine aw_pure 0 rfl (by kernel_rfl) (by kernel_rfl) (by kernel_rfl) (by kernel_rfl) (by kernel_rfl) rfl rfl rfl (q_move rfl rfl) ?_
          refine aw_pure 1 rfl (by kernel_rfl) (by kernel_rfl) (by kernel_rfl) (by kernel_rfl) (by kernel_rfl) rfl rfl rfl (q_move rfl rfl) ?_
          refine aw_pure 2 rfl (by kernel_rfl) (by kernel_rfl) (by kernel_rfl) (by kernel_rfl) (by kernel_rfl) rfl rfl rfl (q_nilCheck rfl rfl) ?_
          refine aw_take 3 (fun w h => Cl.sel (by exact .take 0 rfl (.take 1 rfl (.take 1 rfl (.nil _)))) w h) rfl (by kernel_rfl) (by kernel_rfl) (by kernel_rfl) (by kernel_rfl) (by kernel_rfl) (by kernel_rfl) rfl rfl rfl (q_fieldAddr rfl rfl) ?_
          refine aw_take 4 (fun w h => Cl.sel (by exact .take 0 rfl (.take 1 rfl (.take 1 rfl (.nil _)))) w h) rfl (by kernel_rfl) (by kernel_rfl) (by kernel_rfl) (by kernel_rfl) (by kernel_rfl) (by kernel_rfl) rfl rfl rfl (q_loadC rfl rfl (by exact .tail _ (.tail _ (.head _))) rfl) ?_
          refine aw_pure 5 rfl (by kernel_rfl) (by kernel_rfl) (by kernel_rfl) (by kernel_rfl) (by kernel_rfl) rfl rfl rfl (q_move rfl rfl) ?_
          refine aw_take 6 (fun w h => Cl.sel (by exact .take 0 rfl (.take 1 rfl (.take 1 rfl (.nil _)))) w h) rfl (by kernel_rfl) (by kernel_rfl) (by kernel_rfl) (by kernel_rfl) (by kernel_rfl) (by kernel_rfl) rfl rfl rfl (q_fieldAddr rfl rfl) ?_
          refine aw_take 7 (fun w h => Cl.sel (by exact .take 0 rfl (.take 1 rfl (.take 1 rfl (.nil _)))) w h) rfl (by kernel_rfl) (by kernel_rfl) (by kernel_rfl) (by kernel_rfl) (by kernel_rfl) (by kernel_rfl) rfl rfl rfl (q_loadC rfl rfl (by exact .head _) rfl) ?_
          refine aw_take 8 (fun w h => Cl.sel (by exact .take 0 rfl (.take 1 rfl (.take 1 rfl (.nil _)))) w h) rfl (by kernel_rfl) (by kernel_rfl) (by kernel_rfl) (by kernel_rfl) (by kernel_rfl) (by kernel_rfl) rfl rfl rfl (q_lookup (k := (nth tgt i).phone) (z := (⟨none, 0, 0⟩ : SlV)) (l := E) rfl rfl rfl (fun w h => rdm_own h (by exact .tail _ (.head _)))) ?_
          rw [hE']
          refine aw_x 9 (by kernel_rfl) rfl rfl rfl rfl (e_build1 (α := SlV) rfl rfl rfl rfl) (by intro hb; exact fun _ => (fun w h => Cl.sel (by exact .take 1 rfl (.take 2 rfl (.take 2 rfl (.nil _)))) w h)) (fun s74 => ?_)
          refine aw_x 10 (by kernel_rfl) rfl rfl rfl rfl (e_append (i := 2) rfl (.cons rfl inferInstance (.cons rfl inferInstance (.nil))) rfl rfl (by exact fun w hw => rd_own hw (by exact .head _)) (by simp only [List.length_set, List.length_append, List.length_cons, List.length_nil, List.length_replicate, List.length_take, List.length_drop, List.length_map]; omega) rfl) (by intro hb; exact fun _ => (fun w h => Cl.sel (by exact .take 1 rfl (.take 2 rfl (.take 2 rfl (.nil _)))) w h)) (fun s75 => ?_)
          refine aw_pure 11 rfl (by kernel_rfl) (by kernel_rfl) (by kernel_rfl) (by kernel_rfl) (by kernel_rfl) rfl rfl rfl (q_nilCheck rfl rfl) ?_
          refine aw_take 12 (fun w h => Cl.sel (by exact .take 1 rfl (.take 2 rfl (.take 2 rfl (.nil _)))) w h) rfl (by kernel_rfl) (by kernel_rfl) (by kernel_rfl) (by kernel_rfl) (by kernel_rfl) (by kernel_rfl) rfl rfl rfl (q_fieldAddr rfl rfl) ?_
          refine aw_one0 13 (by kernel_rfl) rfl rfl rfl (e_store (i := 4) rfl rfl rfl rfl rfl rfl rfl rfl) (by intro hb; (exact absurd hb (by decide))) ?_
          refine aw_end (by kernel_rfl) ?_
          refine post_blk (post_then (cw_region ?_))
          refine sr rfl rfl rfl ((q_add rfl rfl rfl (by intro hc; omega))) ?_
          refine sr rfl rfl rfl ((q_move rfl rfl)) (sw_nil ?_)
          have hul2 : (tgt.take (i + 1)).map (fun t => f t.phone) = ((tgt.take i).map fun t => f t.phone) ++ [f (nth tgt i).phone] := by
            rw [List.take_succ_eq_append_getElem hi', List.map_append, nth_get hi']; rfl
          refine post_next (i + 1, s75) ?_ ?_ (by simp only; omega) (by simp only; omega)
          · exact (by exact .cons rfl (.cons rfl (.cons rfl (.cons rfl (.cons rfl (.cons rfl (.cons rfl (.cons rfl .nil))))))))
          · intro w3 hw3
            have h1 : Cl w [] (ownL 22 s74.v [f (nth tgt i).phone] :: blk b13 _ 32 :: ownL 22 s75.v (((tgt.take i).map fun t => f t.phone) ++ [f (nth tgt i).phone]) :: mpA b40 E :: blk b39 [sp.v, tp.v, .int .i64 x.beside, .int .i64 x.pitch, .int .i64 x.length, .int .i64 x.join, s75.v, .nilFunc] 67 :: blk b5 (enc x) 39 :: blk b4 [tp.v] 27 :: blk b3 [sp.v] 26 :: ks.map (gA f p p.length)) w3 := hw3
            rw [hul2]
            exact h1.tail.tail
        · skip
          have hi' : i = tgt.length := by simp only [decide_eq_false_iff_not] at h; omega
          subst hi'
          refine cw_exit (post_then_x (post_then_x (post_blk_eq (post_then (cw_seq (cw_region ?_))))))
          refine sw_x rfl rfl rfl (e_makeMap (κ := P2) (ν := Int) rfl) (fun b79 => ?_)
          refine sw_x rfl rfl rfl (e_alloc rfl) (fun b14 => ?_)
          refine sw_eff0 rfl rfl (e_store (i := 0) rfl rfl rfl rfl rfl rfl rfl rfl) (sw_nil (post_then (cw_seq (cw_region (sr rfl rfl rfl ((q_move rfl rfl)) (sr rfl rfl rfl ((q_func_l rfl (.cons rfl inferInstance (.cons rfl inferInstance (.cons rfl inferInstance (.cons rfl inferInstance (.nil))))))) (sr rfl rfl rfl ((q_nilCheck rfl rfl)) (sr rfl rfl rfl ((q_fieldAddr rfl rfl)) (sw_eff0 rfl rfl (e_store (i := 4) rfl rfl rfl rfl rfl rfl rfl rfl) (sw_nil (post_then (cw_seq (cw_region (sr rfl rfl rfl ((q_move rfl rfl)) (sr rfl rfl rfl ((q_assign rfl rfl)) (sr rfl rfl rfl ((q_assign rfl rfl)) (sw_nil (post_then (cw_ret (post_ret2 rfl (resOk_tmp rfl) (resOk_tmp rfl) ?_))))))))))))))))))))
          refine fun w' hw => ⟨⟨⟨sp, p, tp, tgt, x, us, tgt.map fun t => f t.phone, b39, b3, b4, b5, b14, b79⟩, f, ks⟩, rfl, ⟨rfl, rfl, rfl, rfl, rfl, rfl, hnil⟩, ?_⟩
          rw [List.take_length] at hw
          have h1 : Cl w [] (blk b14 [.map (some b79)] 69 :: mpA b79 ([] : List (P2 × Int)) :: ownL 22 us.v (tgt.map fun t => f t.phone) :: mpA b40 E :: blk b39 [sp.v, tp.v, .int .i64 x.beside, .int .i64 x.pitch, .int .i64 x.length, .int .i64 x.join, us.v, .func (.func 26) #[] #[.pointer (some ⟨b14, 0, none⟩), .pointer (some ⟨b3, 0, none⟩), .pointer (some ⟨b4, 0, none⟩), .pointer (some ⟨b5, 0, none⟩)]] 67 :: blk b5 (enc x) 39 :: blk b4 [tp.v] 27 :: blk b3 [sp.v] 26 :: ks.map (gA f p p.length)) w' := hw
          exact (h1.perm perm_fin).tail
end Go.Proofs.Ytomjbfeafodfbaa

set_option autoImplicit false
set_option maxRecDepth 100000
namespace Go.Proofs.Ytomjbfeafodfbaa
open Go.Sx
open Enc (enc val)
theorem tkx_rd {y : TKX} {sp tp : SlV} {p : List Un} {tgt : List Wan} {x : Wts} (g : y.Good sp tp p tgt x) {w : World} {bs : List Nat} {F : List Asn} (h5 : ∀ G ∈ F, ∃ b2, Stb w bs fun w' => G.holds w' b2) (hF : ∀ A ∈ y.F, A ∈ F)
    (hvo : Stb w bs (fun w' => VoRd w' sp p)) (htp : Stb w bs (RdL tp.v tgt)) : Stb w bs y.K.Rd := by
  obtain ⟨⟨sp', p', tp', tgt', x', us, usv, bk, b3, b4, b5, b14, bm⟩, f, ks⟩ := y
  obtain ⟨e1, e2, e3, e4, e5, e6, hnil⟩ := g
  dsimp only at e1 e2 e3 e4 e5 e6 hnil
  subst e1 e2 e3 e4 e5
  have f1 := lend_blk h5 (hF _ (.head _))
  have f2 := lend_own h5 (hF _ (.tail _ (.head _)))
  have f3 := lend_blk h5 (hF _ (.tail _ (.tail _ (.head _))))
  have f4 := lend_blk h5 (hF _ (.tail _ (.tail _ (.tail _ (.head _)))))
  have f5 := lend_blk h5 (hF _ (.tail _ (.tail _ (.tail _ (.tail _ (.head _))))))
  have f6 := lend_blk h5 (hF _ (.tail _ (.tail _ (.tail _ (.tail _ (.tail _ (.head _)))))))
  have f7 : ∀ c ∈ ks, Stb w bs (RdL (f c).v (idxs p' p'.length c)) := fun c hc => lend_own (e := 3) h5 (hF _ (.tail _ (.tail _ (.tail _ (.tail _ (.tail _ (.tail _ (List.mem_map_of_mem (f := gA f p' p'.length) hc))))))))
  refine ⟨fun w' k => ⟨f1.stb w' k, f3.stb w' k, f6.stb w' k, f5.stb w' k, f4.stb w' k, f2.stb w' k, ?_, fun i hi => ?_, htp.stb w' k, hvo.stb w' k⟩⟩
  · rw [e6]; simp
  · dsimp only at hi ⊢
    have e : nth usv i = f (nth tgt' i).phone := by
      rw [e6, nth_get (by simpa using hi), nth_get hi]; simp
    rw [e]
    by_cases hc : (nth tgt' i).phone ∈ ks
    · exact (f7 _ hc).stb w' k
    · have h1 := hnil _ hc
      have e2 : TK.U ⟨sp', p', tp', tgt', x', us, usv, bk, b3, b4, b5, b14, bm⟩ i = [] := h1.2
      rw [h1.1, e2]
      exact ⟨none, 0, 0, rfl, rfl, Nat.le_refl _, by simp [maxLen], fun i x j v hx => by simp at hx⟩
def tsk (p : List Un) (tgt : List Wan) (x : Wts) : Tsk := ⟨tgt.length, fun i => idxs p p.length (nth tgt i).phone, fun i u => fitC x (nth p u.toNat) (nth tgt i), fun u v => joinC x (nth p u.toNat) (nth p v.toNat)⟩
def possP (p : List Un) (tgt : List Wan) : Bool := (List.range tgt.length).all fun i => decide (idxs p p.length (nth tgt i).phone ≠ [])
def TabP (p : List Un) (tgt : List Wan) (x : Wts) (cells : List Int) : Prop := cells.length = tgt.length * p.length ∧ ∀ j u, j < tgt.length → u < p.length → nth cells (j * p.length + u) = if (u : Int) ∈ idxs p p.length (nth tgt j).phone then (tsk p tgt x).R (tgt.length - j) u else 0
theorem good_facts {y : TKX} {sp tp : SlV} {p : List Un} {tgt : List Wan} {x : Wts} (g : y.Good sp tp p tgt x) (hE : beginE p tgt x = 0) : y.K.Ok ∧ y.K.possB = possP p tgt ∧ y.K.t = tsk p tgt x ∧ y.K.p = p ∧ y.K.tgt = tgt ∧ ∀ cells, y.K.Tab cells 0 → TabP p tgt x cells := by
  obtain ⟨⟨sp', p', tp', tgt', x', us, usv, bk, b3, b4, b5, b14, bm⟩, f, ks⟩ := y
  obtain ⟨e1, e2, e3, e4, e5, e6, hnil⟩ := g
  dsimp only at e1 e2 e3 e4 e5 e6 hnil
  subst e1 e2 e3 e4 e5
  obtain ⟨h1, h2, h3, h4, h5⟩ := beginE_ok hE
  refine ⟨⟨h3, fun t ht => List.all_eq_true.1 h4 t ht, h5, h1, h2⟩, rfl, rfl, rfl, rfl, fun cells hc => ⟨hc.1, fun j u hj hu => ?_⟩⟩
  rw [hc.2 j u hj hu]
  simp only [Nat.zero_le, true_and]
  rfl
/-- The best sequence: no other costs less, or as much and comes first. -/
def BestSeq (t : Tsk) (s : List Int) (c : Int) : Prop := s ∈ t.tl t.T ∧ c = t.tc 0 s ∧ ∀ s' ∈ t.tl t.T, s' = s ∨ seqLt (s, c) (s', t.tc 0 s')
theorem tl_ne {t : Tsk} (h : ∀ i, i < t.T → t.us i ≠ []) : ∀ k, k ≤ t.T → t.tl k ≠ []
  | 0, _ => by simp [Tsk.tl]
  | k + 1, hk => by
    obtain ⟨u, us, e⟩ := List.exists_cons_of_ne_nil (h (t.T - (k + 1)) (by omega))
    obtain ⟨s, ss, e2⟩ := List.exists_cons_of_ne_nil (tl_ne h k (by omega))
    rw [Tsk.tl, e, e2]
    simp
theorem choose_bad (sp tp : SlV) (p : List Un) (tgt : List Wan) (x : Wts) (w : World) (hvo : VoRd w sp p) (htp : Stb w [] (RdL tp.v tgt)) (htg : ∀ t ∈ tgt, WaRd t) (hE : beginE p tgt x ≠ 0) :
    Calls Try.prog 6 #[sp.v, tp.v, val x] w fun e w' => ∃ u : Unit, e = .returned (.tuple #[val (⟨⟨none, 0, 0⟩, 0, []⟩ : Sq), .slice none 0 0, .int .i64 (beginE p tgt x)]) ∧ True ∧ Cl w [] [] w' := by
  refine calls_cw (vs := [_, _, _]) Try.func6 rfl Try.ntmps6 rfl (Cl.start0 w) (cw_seq (cw_region ?_))
  refine sw_x rfl rfl rfl (e_box rfl rfl rfl) (fun b5 => ?_)
  refine sw_x rfl rfl rfl (e_alloc rfl) (fun b6 => ?_)
  refine sr rfl rfl rfl ((q_assign rfl rfl)) (sr rfl rfl rfl ((q_assign rfl rfl)) (sw_nil (post_then (cw_seq (cw_region (sr rfl rfl rfl ((q_move rfl rfl)) (sr rfl rfl rfl ((q_move rfl rfl)) ?_)))))))
  refine sr rfl rfl rfl ((q_loadA rfl rfl (by exact .tail _ (.head _)) rfl)) ?_
  refine sw_step rfl rfl rfl (q_call (CanCall.mk Try.call11) rfl (.cons rfl inferInstance (.cons rfl inferInstance (.cons rfl inferInstance (.nil)))) (fun _ w hw => callq hw (begin_no sp tp p tgt x w (hvo.arg hw) (stb_arg hw htp) htg hE))) (sr rfl rfl rfl ((q_move rfl rfl)) (sr rfl rfl rfl ((q_extract rfl rfl rfl)) (sr rfl rfl rfl ((q_extract rfl rfl rfl)) (sr rfl rfl rfl ((q_assign rfl rfl)) (sr rfl rfl rfl ((q_assign rfl rfl)) (sw_nil (post_then (cw_seq (cw_seq (cw_region (sr rfl rfl rfl ((q_move rfl rfl)) (sr rfl rfl rfl ((q_neq rfl rfl rfl)) (sw_nil (post_then ?_))))))))))))))
  refine cw_cond rfl (fun h => ?_) (fun h => ?_)
  · skip
    refine cw_seq (cw_region (sr rfl rfl rfl ((q_build rfl (.nil) rfl)) (sr rfl rfl rfl ((q_move rfl rfl)) (sw_eff0 rfl rfl (e_store (i := 0) rfl rfl rfl rfl rfl rfl rfl rfl) (sr rfl rfl rfl ((q_assign rfl rfl)) (sr rfl rfl rfl ((q_assign rfl rfl)) (sw_nil (post_then (cw_ret (post_then_r ?_))))))))))
    refine post_ret3 rfl (resOk_blk (x := (⟨⟨none, 0, 0⟩, 0, []⟩ : Sq)) rfl (by exact .head _) (by rfl)) (resOk_tmp rfl) (resOk_tmp rfl) ?_
    exact fun w' hw => ⟨(), rfl, trivial, (fun w h => Cl.sel (by exact .nil _) w h) _ hw⟩
  · skip
    exfalso
    simp only [Bool.not_eq_false', decide_eq_true_eq] at h
    exact hE h
theorem choose_none (sp tp : SlV) (p : List Un) (tgt : List Wan) (x : Wts) (w : World) (hvo : VoRd w sp p) (htp : Stb w [] (RdL tp.v tgt)) (htg : ∀ t ∈ tgt, WaRd t) (hE : beginE p tgt x = 0) (hP : possP p tgt = false) :
    Calls Try.prog 6 #[sp.v, tp.v, val x] w fun e w' => ∃ u : Unit, e = .returned (.tuple #[val (⟨⟨none, 0, 0⟩, 0, []⟩ : Sq), .slice none 0 0, .int .i64 5]) ∧ True ∧ Cl w [] [] w' := by
  refine calls_cw (vs := [_, _, _]) Try.func6 rfl Try.ntmps6 rfl (Cl.start0 w) (cw_seq (cw_region ?_))
  refine sw_x rfl rfl rfl (e_box rfl rfl rfl) (fun b5 => ?_)
  refine sw_x rfl rfl rfl (e_alloc rfl) (fun b6 => ?_)
  refine sr rfl rfl rfl ((q_assign rfl rfl)) (sr rfl rfl rfl ((q_assign rfl rfl)) (sw_nil (post_then (cw_seq (cw_region (sr rfl rfl rfl ((q_move rfl rfl)) (sr rfl rfl rfl ((q_move rfl rfl)) ?_)))))))
  refine sr rfl rfl rfl ((q_loadA rfl rfl (by exact .tail _ (.head _)) rfl)) ?_
  refine sw_x rfl rfl rfl (e_call (CanCall.mk Try.call11) rfl (.cons rfl inferInstance (.cons rfl inferInstance (.cons rfl inferInstance (.nil)))) (fun w hw => begin_yes sp tp p tgt x w (hvo.arg hw) (stb_arg hw htp) htg hE)) (fun y => ?_)
  refine sw_imp fun hg => (sw_le (C' := Cl w [] (blk b6 (enc (⟨⟨none, 0, 0⟩, 0, []⟩ : Sq)) 34 :: blk b5 (enc x) 39 :: mpA y.K.bm ([] : List (P2 × Int)) :: y.F)) (fun w' h => h.perm (List.perm_append_comm (l₂ := [blk b6 (enc (⟨⟨none, 0, 0⟩, 0, []⟩ : Sq)) 34, blk b5 (enc x) 39]))) ?_)
  obtain ⟨hK, hKp, hKt, e1, e2, hTab⟩ := good_facts hg hE
  refine sr rfl rfl rfl ((q_move rfl rfl)) (sr rfl rfl rfl ((q_extract rfl rfl rfl)) (sr rfl rfl rfl ((q_extract rfl rfl rfl)) (sr rfl rfl rfl ((q_assign rfl rfl)) (sr rfl rfl rfl ((q_assign rfl rfl)) (sw_nil (post_then (cw_seq (cw_seq (cw_region (sr rfl rfl rfl ((q_move rfl rfl)) (sr rfl rfl rfl ((q_neq rfl rfl rfl)) (sw_nil (post_then ?_)))))))))))))
  refine cw_cond rfl (fun h => ?_) (fun h => ?_)
  · skip
    cases h
  · skip
    refine cw_skip (post_then (cw_seq (cw_seq (cw_region (sr rfl rfl rfl ((q_move rfl rfl)) (sw_step rfl rfl rfl (q_call (CanCall.mk Try.call12) rfl (.cons rfl inferInstance (.nil)) (fun _ w hw => callq hw (possible_spec y.K w (tkx_rd hg hw.split0.2.1 (fun A hA => .tail _ (.tail _ (.tail _ hA))) (stb_arg hw hvo.stb) (stb_arg hw htp))))) (sr rfl rfl rfl ((q_not rfl rfl)) (sw_nil (post_then ?_)))))))))
    refine cw_cond rfl (fun h2 => ?_) (fun h2 => ?_)
    · skip
      refine cw_seq (cw_region (sr rfl rfl rfl ((q_build rfl (.nil) rfl)) (sw_eff0 rfl rfl (e_store (i := 0) rfl rfl rfl rfl rfl rfl rfl rfl) (sr rfl rfl rfl ((q_assign rfl rfl)) (sr rfl rfl rfl ((q_assign rfl rfl)) (sw_nil (post_then (cw_ret (post_then_r ?_)))))))))
      refine post_ret3 rfl (resOk_blk (x := (⟨⟨none, 0, 0⟩, 0, []⟩ : Sq)) rfl (by exact .head _) (by rfl)) (resOk_tmp rfl) (resOk_tmp rfl) ?_
      exact fun w' hw => ⟨(), rfl, trivial, (fun w h => Cl.sel (by exact .nil _) w h) _ hw⟩
    · skip
      exfalso
      rw [hKp, hP] at h2
      cases h2
theorem choose_yes (sp tp : SlV) (p : List Un) (tgt : List Wan) (x : Wts) (w : World) (hvo : VoRd w sp p) (htp : Stb w [] (RdL tp.v tgt)) (htg : ∀ t ∈ tgt, WaRd t) (hE : beginE p tgt x = 0) (hP : possP p tgt = true) (hbig : (p.length + 1) ^ tgt.length ≤ 500000000) :
    Calls Try.prog 6 #[sp.v, tp.v, val x] w fun e w' => ∃ y : (SlV × SlV) × (List Int × Sq), e = .returned (.tuple #[val y.2.2, y.1.1.v, .int .i64 0]) ∧ (TabP p tgt x y.2.1 ∧ BestSeq (tsk p tgt x) y.2.2.ul y.2.2.cost) ∧ Cl w [] [ownL 22 y.1.1.v (rowsTo y.1.2 p.length tgt.length tgt.length), ownL 3 y.1.2.v y.2.1, ownL 3 y.2.2.us.v y.2.2.ul] w' := by
  refine calls_cw (vs := [_, _, _]) Try.func6 rfl Try.ntmps6 rfl (Cl.start0 w) (cw_seq (cw_region ?_))
  refine sw_x rfl rfl rfl (e_box rfl rfl rfl) (fun b5 => ?_)
  refine sw_x rfl rfl rfl (e_alloc rfl) (fun b6 => ?_)
  refine sr rfl rfl rfl ((q_assign rfl rfl)) (sr rfl rfl rfl ((q_assign rfl rfl)) (sw_nil (post_then (cw_seq (cw_region (sr rfl rfl rfl ((q_move rfl rfl)) (sr rfl rfl rfl ((q_move rfl rfl)) ?_)))))))
  refine sr rfl rfl rfl ((q_loadA rfl rfl (by exact .tail _ (.head _)) rfl)) ?_
  refine sw_x rfl rfl rfl (e_call (CanCall.mk Try.call11) rfl (.cons rfl inferInstance (.cons rfl inferInstance (.cons rfl inferInstance (.nil)))) (fun w hw => begin_yes sp tp p tgt x w (hvo.arg hw) (stb_arg hw htp) htg hE)) (fun y => ?_)
  refine sw_imp fun hg => (sw_le (C' := Cl w [] (blk b6 (enc (⟨⟨none, 0, 0⟩, 0, []⟩ : Sq)) 34 :: blk b5 (enc x) 39 :: mpA y.K.bm ([] : List (P2 × Int)) :: y.F)) (fun w' h => h.perm (List.perm_append_comm (l₂ := [blk b6 (enc (⟨⟨none, 0, 0⟩, 0, []⟩ : Sq)) 34, blk b5 (enc x) 39]))) ?_)
  obtain ⟨hK, hKp, hKt, e1, e2, hTab⟩ := good_facts hg hE
  refine sr rfl rfl rfl ((q_move rfl rfl)) (sr rfl rfl rfl ((q_extract rfl rfl rfl)) (sr rfl rfl rfl ((q_extract rfl rfl rfl)) (sr rfl rfl rfl ((q_assign rfl rfl)) (sr rfl rfl rfl ((q_assign rfl rfl)) (sw_nil (post_then (cw_seq (cw_seq (cw_region (sr rfl rfl rfl ((q_move rfl rfl)) (sr rfl rfl rfl ((q_neq rfl rfl rfl)) (sw_nil (post_then ?_)))))))))))))
  refine cw_cond rfl (fun h => ?_) (fun h => ?_)
  · skip
    cases h
  · skip
    refine cw_skip (post_then (cw_seq (cw_seq (cw_region (sr rfl rfl rfl ((q_move rfl rfl)) (sw_step rfl rfl rfl (q_call (CanCall.mk Try.call12) rfl (.cons rfl inferInstance (.nil)) (fun _ w hw => callq hw (possible_spec y.K w (tkx_rd hg hw.split0.2.1 (fun A hA => .tail _ (.tail _ (.tail _ hA))) (stb_arg hw hvo.stb) (stb_arg hw htp))))) (sr rfl rfl rfl ((q_not rfl rfl)) (sw_nil (post_then ?_)))))))))
    refine cw_cond rfl (fun h2 => ?_) (fun h2 => ?_)
    · skip
      exfalso
      rw [hKp, hP] at h2
      cases h2
    · skip
      refine cw_skip (post_then (cw_seq (cw_region (sr rfl rfl rfl ((q_move rfl rfl)) ?_))))
      refine sw_x rfl rfl rfl (e_callH (A := [mpA y.K.bm ([] : List (P2 × Int))]) (F := blk b6 (enc (⟨⟨none, 0, 0⟩, 0, []⟩ : Sq)) 34 :: blk b5 (enc x) 39 :: y.F) (CanCall.mk Try.call13) rfl rfl (.cons rfl inferInstance (.nil)) (perm_del (i := 2) rfl) (fun w bs k1 k2 k3 k4 k5 => rest_spec y.K hK (hKp.trans hP) [] (fun k v hk => by cases hk) w bs k1 k2 k3 (tkx_rd hg k5 (fun A hA => .tail _ (.tail _ hA)) (k4 _ hvo.stb) (k4 _ htp)))) (fun r => ?_)
      refine sw_imp fun hr => ?_
      obtain ⟨⟨so, sc⟩, ⟨cells, m1⟩⟩ := r
      obtain ⟨ht, hm1⟩ := hr
      dsimp only at ht hm1 ⊢
      refine sr rfl rfl rfl ((q_assign rfl rfl)) (sw_nil (post_then (cw_seq (cw_region (sr rfl rfl rfl ((q_move rfl rfl)) (sr rfl rfl rfl ((q_move rfl rfl)) ?_))))))
      refine sw_x rfl rfl rfl (e_callH (A := [mpA y.K.bm m1]) (F := ownL 22 so.v (rowsTo sc y.K.p.length y.K.tgt.length y.K.tgt.length) :: ownL 3 sc.v cells :: blk b6 (enc (⟨⟨none, 0, 0⟩, 0, []⟩ : Sq)) 34 :: blk b5 (enc x) 39 :: y.F) (CanCall.mk Try.call14) rfl rfl (.cons rfl inferInstance (.cons rfl inferInstance (.cons rfl inferInstance (.nil)))) (.refl _) (fun w bs k1 k2 k3 k4 k5 => first_spec y.K hK (hKp.trans hP) 1 (by omega) (by rw [e1, e2]; exact hbig) so sc cells ht m1 hm1 w bs k1 k2 k3 (tkx_rd hg k5 (fun A hA => .tail _ (.tail _ (.tail _ (.tail _ hA)))) (k4 _ hvo.stb) (k4 _ htp)) (lend_own k5 (.head _)) (lend_own k5 (.tail _ (.head _))))) (fun z => ?_)
      refine sw_imp fun hz => ?_
      obtain ⟨⟨hbf, hhp, _, hon, _, _⟩, hend⟩ := hz
      have hT : y.K.t.T = y.K.tgt.length := rfl
      have hne : y.K.t.tl y.K.t.T ≠ [] := tl_ne (fun i hi => TK.poss (hKp.trans hP) hi) _ (Nat.le_refl _)
      obtain ⟨q, hq⟩ : ∃ q, z.outs = [q] := by
        cases ho : z.outs with
        | nil =>
          exfalso
          rcases hend with h5 | h5
          · have h6 := hbf.cov
            rw [h5, ho] at h6
            exact hne h6.nil_eq.symm
          · rw [ho] at h5; cases h5
        | cons q r =>
          rw [ho] at hon
          simp only [List.length_cons] at hon
          exact ⟨q, by rw [List.eq_nil_of_length_eq_zero (show r.length = 0 by omega)]⟩
      rw [hq] at hbf ⊢
      rw [hKt] at hbf
      refine sr rfl rfl rfl ((q_indexN rfl rfl rfl (by exact fun w hw => rd_own hw (by exact .tail _ (.head _))) (by intro hc; (simp only [List.length_set, List.length_append, List.length_cons, List.length_nil, List.length_replicate, List.length_take, List.length_drop, List.length_map]; omega)))) ?_
      refine sr rfl rfl rfl ((q_loadEl rfl rfl rfl (by exact fun w hw => rd_own hw (by exact .tail _ (.head _))) (by intro hc; (simp only [List.length_set, List.length_append, List.length_cons, List.length_nil, List.length_replicate, List.length_take, List.length_drop, List.length_map]; omega)))) ?_
      refine sr rfl rfl rfl ((q_move rfl rfl)) (sw_eff0 rfl rfl (e_store (i := 5) rfl rfl rfl rfl rfl rfl rfl rfl) (sr rfl rfl rfl ((q_assign rfl rfl)) (sr rfl rfl rfl ((q_assign rfl rfl)) (sw_nil (post_then (cw_ret ?_))))))
      refine post_ret3 rfl (resOk_blk (x := q) rfl (by exact .tail _ (.tail _ (.tail _ (.tail _ (.tail _ (.head _)))))) (by rfl)) (resOk_tmp rfl) (resOk_tmp rfl) ?_
      refine fun w' hw => ⟨((so, sc), (cells, q)), rfl, ⟨hTab cells ht, ?_, hbf.cst (keyS q) (by simp), fun s' hs' => ?_⟩, ?_⟩
      · exact hbf.cov.mem_iff.1 (by simp [keyS])
      · rcases List.mem_append.1 (hbf.cov.mem_iff.2 hs') with h5 | h5
        · exact .inr (hbf.bel (keyS q) (by simp) s' h5)
        · simp only [List.map_cons, List.map_nil, List.mem_singleton] at h5
          exact .inl h5
      · have h5 : Cl w [] [ownL 22 so.v (rowsTo sc y.K.p.length y.K.tgt.length y.K.tgt.length), ownL 3 sc.v cells, ownL 3 q.us.v q.ul] w' := (fun w h => Cl.sel (by exact .take 3 rfl (.take 3 rfl (.take 2 rfl (.nil _)))) w h) _ hw
        rw [e1, e2] at h5
        exact h5
end Go.Proofs.Ytomjbfeafodfbaa

/-
  copy into a part of the call's own slice; a string of bytes; s[:b:b]. General lemmas, no program text.
-/
set_option autoImplicit false
namespace Go.Sx
open Enc (enc val)
section
variable {α : Type} [Enc α] {P : Program} {ops : Array Oper} {n : Fr} {E : Env} {C : World → Prop} {cs : List Bool} {o : Oper} {w0 : World} {fp : List Nat} {H : List Asn}
theorem flat_drop (l : List α) (k : Nat) (hk : k ≤ l.length) : (l.drop k).flatMap enc = (l.flatMap enc).drop (k * Enc.sz α) := by
  have h := congrArg (List.flatMap enc) (List.take_append_drop k l)
  rw [List.flatMap_append] at h
  rw [← h]
  have e : k * Enc.sz α = ((l.take k).flatMap enc).length := by rw [flat_len, List.length_take, Nat.min_eq_left hk]
  rw [e, List.drop_left]
theorem e_copy {t e : TypeId} {bytes : Nat} {z : List Value} {ops' : List Operand} {s d : SlV} {sw : Value} {l r : List α} {lo m i : Nat} (ho : o.op = .call { callee := .builtin .copy, args := ops'.toArray, argTypes := #[t, t] }) (hv : Evs E [] ops' [d.v, sw])
    [ht : SlT P t e] [hi : InfoT P e 1 bytes z] (hsz : Enc.sz α = 1) (hi' : nthA H i = some (ownL e s.v l)) (hd : d.addr = s.addr.map (·.add lo)) (hdl : d.len = m) (hrd : ∀ w, Cl w0 fp H w → RdL sw r w) (hm : m ≤ r.length) (hr0 : 0 < r.length) (hl : lo + m ≤ l.length) (hl0 : 0 < l.length) :
    OpE P n E (Cl w0 fp H) o (fun u w' => ∃ _x : Unit, u = .int .i64 m ∧ Cl w0 fp (setA H i (ownL e s.v (l.take lo ++ r.take m ++ l.drop (lo + m)))) w') :=
  .of_run fun a w ha hw => by
    obtain ⟨bs, ⟨b1, b2, rfl, hown, rfl⟩, _, _, _, _, h6⟩ := (hw.focus hi').split
    simp only [List.append_nil] at h6
    obtain ⟨inf, v0, g1, g2, _⟩ := hi.info
    have hlen := flat_len l
    rw [hsz, Nat.mul_one] at hlen
    rcases hown with ⟨_, h, _⟩ | ⟨b, n', cap, cur, h1, rfl, h3, h4, h5, h7, h8, h9⟩
    · rw [h] at hlen; simp at hlen; omega
    simp only [hsz, Nat.mul_one] at h7 h8 h9
    simp only [SlV.v, Value.slice.injEq] at h1
    obtain ⟨q1, q2, q3⟩ := h1
    obtain ⟨ad, k, cp, rfl, r1, r2, r3, r4⟩ := hrd w hw
    have hlr := flat_len (r.take m)
    rw [hsz, Nat.mul_one, List.length_take, Nat.min_eq_left hm] at hlr
    obtain ⟨a0, ha0⟩ : ∃ a0, ad = some a0 := by
      have hj : 0 < (enc r[0]).length := by rw [Enc.len, hsz]; decide
      obtain ⟨b, hb, _⟩ := r4 0 r[0] 0 _ (List.getElem?_eq_getElem hr0) (List.getElem?_eq_getElem hj)
      exact ⟨b, hb⟩
    subst ha0
    have hsrc : ∀ j v, ((r.take m).flatMap enc)[j]? = some v → w.cell? (a0.add j) = some v := fun j v hj => by
      obtain ⟨x, hx, hv'⟩ := flat_inv (r.take m) j v hj
      rw [hsz, Nat.div_one] at hx
      rw [hsz, Nat.mod_one] at hv'
      rw [List.getElem?_take] at hx
      split at hx
      · obtain ⟨b, hb, hc⟩ := r4 j x 0 v hx hv'
        cases hb
        rw [hsz, Nat.mul_one, Nat.add_zero] at hc
        exact hc
      · cases hx
    have hda : d.v = .slice (some ⟨b, lo, none⟩) m d.cap := by
      rw [SlV.v, hd, q1, hdl]; simp [addr_add]
    have hrun := run_copy_row (P := P) w t t o.type e b lo m d.cap a0 k cp cur e ((r.take m).flatMap enc) ht.und (by rw [g1]; simp [g2]) h3 (by rw [hlr, ← r1]; exact (Nat.min_eq_right hm).symm) hsrc (by rw [hlr]; omega) (flat_one _)
    have hfl : (l.take lo ++ r.take m ++ l.drop (lo + m)).flatMap enc = (l.flatMap enc).take lo ++ (r.take m).flatMap enc ++ (l.flatMap enc).drop (lo + m) := by
      rw [List.flatMap_append, List.flatMap_append, flat_take, flat_drop _ _ hl, hsz, Nat.mul_one, Nat.mul_one]
    have hll : (l.take lo ++ r.take m ++ l.drop (lo + m)).length = l.length := by simp; omega
    refine ⟨_, _, ?_, (), rfl, (h6 [ownL e s.v (l.take lo ++ r.take m ++ l.drop (lo + m))] _ (cl_setRow h3 (cs := (cur.toList.take lo ++ (r.take m).flatMap enc ++ cur.toList.drop (lo + ((r.take m).flatMap enc).length)).toArray) fun w' h' => .inr ⟨b, n', cap, _, by rw [SlV.v, q1, q2, q3], rfl, h', h4, h5, ?_, ?_, ?_⟩)).set hi'⟩
    · unfold execOp; simp only [ho]
      simp only [resolve, invoke, List.map_toArray, hv.eval ha AllT.nil, Sem.run_bind, Sem.run_pure, Result.andThen_ok]
      simp [builtin, hda, hrun, hlr, goInt]
    · simp only [hsz, Nat.mul_one, List.size_toArray, List.length_append, List.length_take, List.length_drop, Array.length_toList, hlr]; omega
    · rw [flat_len, hll, hsz, Nat.mul_one, Nat.mul_one]; omega
    · rw [hfl, hlr, hsz, Nat.mul_one, ← h9]
      have e1 : cur.toList = cur.toList.take n' ++ cur.toList.drop n' := (List.take_append_drop _ _).symm
      have hn : n' ≤ cur.toList.length := by rw [Array.length_toList]; omega
      have e2 : (cur.toList.take n').take lo = cur.toList.take lo := by rw [List.take_take, Nat.min_eq_left (by omega)]
      have e3 : (cur.toList.take n').drop (lo + m) = (cur.toList.drop (lo + m)).take (n' - (lo + m)) := by rw [List.drop_take]
      rw [e2, e3]
      rw [List.take_append, List.take_of_length_le (by simp only [List.length_append, List.length_take, hlr]; omega)]
      congr 2
      simp only [List.length_append, List.length_take, hlr, Array.length_toList]
      omega
theorem q_sliceF2 {t e : TypeId} {sz : Nat} {x y z : Operand} {cx cy cz : List Bool} {s : SlV} {l : List α} {b : Int} (ho : o.op = .slice t x none (some y) (some z)) (hx : evl E x = some (cx, s.v)) (hy : evl E y = some (cy, .int .i64 b)) (hz : evl E z = some (cz, .int .i64 b))
    [sx : Sub cx cs] [sy : Sub cy cs] [sz' : Sub cz cs] [ht : SlT P t e] [hs : SzT P e sz] (hrd : ∀ w, C w → RdL s.v l w) (h : AllT cs → 0 ≤ b ∧ b ≤ l.length) : OpR P n E C cs o (s.cut b.toNat).v :=
  .of_run fun e he hc w hw => by
    obtain ⟨l1, l2, l3⟩ := rd_lens (hrd w hw)
    have h1 := h hc
    unfold execOp; simp only [ho]
    have e1 := he.eval hx sx hc
    have e2 := he.eval hy sy hc
    have e3 := he.eval hz sz' hc
    have := run_slice_cut (P := P) (t := t) (s := s) (w := w) (b := b.toNat) (hi := some (.int .i64 b)) (by
      have f1 := run_sliceBound (P := P) (w := w) .i64 b s.cap .slice3Acap (by omega) (by omega)
      have f2 := run_sliceBound (P := P) (w := w) .i64 b b.toNat .slice3B (by omega) (by omega)
      simp [Instr.sliceBounds, f1, f2, Result.andThen])
    simp [e1, e2, e3, this, Result.andThen]
end
structure UB where
  n : UInt8
instance : Enc UB := ⟨fun b => [.int .u8 (b.n.toNat : Int)], 1, fun b => .int .u8 (b.n.toNat : Int), fun _ => rfl, by simp [Value.oneCell'], fun _ => rfl, by decide⟩
instance : Inhabited UB := ⟨⟨0⟩⟩
section
variable {P : Program} {n : Fr} {E : Env} {C : World → Prop} {cs : List Bool} {o : Oper}
theorem q_bytesStr {src dst e : TypeId} {x : Operand} {cx : List Bool} {s : SlV} {l : List UB} (ho : o.op = .convert src dst x) (hx : evl E x = some (cx, s.v)) [sx : Sub cx cs] [hs : SlT P src e] (he : P.underlying e = some (.int .u8)) (hd : P.underlying dst = some .string) (hrd : ∀ w, C w → RdL s.v l w) (h0 : 0 < l.length) :
    OpR P n E C cs o (.string ⟨(l.map UB.n).toArray⟩) :=
  .of_run fun a ha hc w hw => by
    obtain ⟨ad, k, cp, e1, e2, e3, e4, e5⟩ := hrd w hw
    obtain ⟨a0, rfl, _⟩ := e5 0 l[0] 0 _ (List.getElem?_eq_getElem h0) rfl
    unfold execOp; simp only [ho]; rw [ha.eval hx sx hc, e1, ← e2]
    have := run_convert_bytes_back (P := P) w src dst e a0 cp (l.map UB.n) hs.und he hd (fun j hj => by
      have hj' : j < l.length := by simpa using hj
      obtain ⟨b, hb, hc⟩ := e5 j l[j] 0 _ (List.getElem?_eq_getElem hj') rfl
      cases hb
      have hz : Enc.sz UB = 1 := rfl
      rw [hz, Nat.mul_one, Nat.add_zero] at hc
      rw [hc]; simp)
    rw [List.length_map] at this
    simp [this]
end
end Go.Sx

/-
  Rows: a list of slices, each the call's own, told by a function. General lemmas, no program text.
-/
set_option autoImplicit false
namespace Go.Sx
open Enc (enc val)
section
variable {α : Type} [Enc α] (e : TypeId) (vs : List SlV) (f : Nat → List α)
def rowsAt (is : List Nat) : List Asn := is.map fun i => ownL e (nth vs i).v (f i)
def rowsF : List Asn := rowsAt e vs f (List.range vs.length)
def rowsO (i : Nat) : List Asn := rowsAt e vs f ((List.range vs.length).erase i)
def rowsO2 (i j : Nat) : List Asn := rowsAt e vs f (((List.range vs.length).erase i).erase j)
variable {e vs f}
theorem rowsAt_out {is : List Nat} {i : Nat} (hi : i ∈ is) : (rowsAt e vs f is).Perm (ownL e (nth vs i).v (f i) :: rowsAt e vs f (is.erase i)) := (List.perm_cons_erase hi).map _
theorem rowsAt_congr {is : List Nat} {f' : Nat → List α} {vs' : List SlV} (h : ∀ i ∈ is, f' i = f i) (h2 : ∀ i ∈ is, nth vs' i = nth vs i) : rowsAt e vs' f' is = rowsAt e vs f is := List.map_congr_left fun i hi => by rw [h i hi, h2 i hi]
theorem rowsF_out {i : Nat} (hi : i < vs.length) : (rowsF e vs f).Perm (ownL e (nth vs i).v (f i) :: rowsO e vs f i) := rowsAt_out (by simpa using hi)
theorem rowsF_in {f' : Nat → List α} {i : Nat} {l : List α} (hi : i < vs.length) (h : ∀ k, k < vs.length → k ≠ i → f' k = f k) (hl : f' i = l) : (ownL e (nth vs i).v l :: rowsO e vs f i).Perm (rowsF e vs f') := by
  refine List.Perm.trans ?_ (rowsF_out (f := f') hi).symm
  rw [hl]
  have : rowsO e vs f' i = rowsO e vs f i := rowsAt_congr (fun k hk => by
    have hn : (List.range vs.length).Nodup := List.nodup_range
    have := (hn.mem_erase_iff).1 hk
    exact h k (by simpa using this.2) this.1) fun _ _ => rfl
  rw [this]
theorem rowsO_out {i j : Nat} (hj : j < vs.length) (hij : j ≠ i) : (rowsO e vs f i).Perm (ownL e (nth vs j).v (f j) :: rowsO2 e vs f i j) := rowsAt_out (by
  have hn : (List.range vs.length).Nodup := List.nodup_range
  exact (hn.mem_erase_iff).2 ⟨hij, by simpa using hj⟩)
/-- Two rows apart. -/
theorem rowsF_out2 {i j : Nat} (hi : i < vs.length) (hj : j < vs.length) (hij : j ≠ i) : (rowsF e vs f).Perm (ownL e (nth vs i).v (f i) :: ownL e (nth vs j).v (f j) :: rowsO2 e vs f i j) := (rowsF_out hi).trans ((rowsO_out hj hij).cons _)
theorem rowsF_in2 {f' : Nat → List α} {i j : Nat} {l : List α} (hi : i < vs.length) (hj : j < vs.length) (hij : j ≠ i) (h : ∀ k, k < vs.length → k ≠ i → f' k = f k) (hl : f' i = l) : (ownL e (nth vs i).v l :: ownL e (nth vs j).v (f j) :: rowsO2 e vs f i j).Perm (rowsF e vs f') :=
  ((rowsO_out (e := e) (f := f) hj hij).symm.cons _).trans (rowsF_in hi h hl)
theorem rowsF_snoc {s : SlV} : rowsF e (vs ++ [s]) f = rowsF e vs f ++ [ownL e s.v (f vs.length)] := by
  unfold rowsF
  rw [List.length_append, List.length_singleton, List.range_succ]
  unfold rowsAt
  rw [List.map_append]
  congr 1
  · refine List.map_congr_left fun i hi => ?_
    have hi : i < vs.length := by simpa using hi
    have : nth (vs ++ [s]) i = nth vs i := by simp only [nth, List.getD]; rw [List.getElem?_append_left hi]
    rw [this]
  · have : nth (vs ++ [s]) vs.length = s := by simp [nth]
    simp [this]
theorem rowsF_congr {f' : Nat → List α} (h : ∀ i, i < vs.length → f' i = f i) : rowsF e vs f' = rowsF e vs f := rowsAt_congr (fun i hi => h i (by simpa using hi)) fun _ _ => rfl
theorem rowsF_mem {i : Nat} (hi : i < vs.length) : ownL e (nth vs i).v (f i) ∈ rowsF e vs f := List.mem_map_of_mem (f := fun i => ownL e (nth vs i).v (f i)) (by simpa using hi)
end
end Go.Sx

/- Words of 64 bits as numbers: and, or, and-not, shifts; the count of ones. General lemmas, no program text. -/
set_option autoImplicit false
namespace Go.Sx
def andN (a b : Nat) : Nat := a ^^^ (a &&& b)
section
variable {P : Program} {n : Fr} {E : Env} {C : World → Prop} {cs : List Bool} {o : Oper}
theorem ofInt_nat {a : Int} (h : 0 ≤ a ∧ a < 18446744073709551616) : (BitVec.ofInt 64 a).toNat = a.toNat := by
  rw [BitVec.toNat_ofInt]
  simp only [Int.reducePow, Nat.reducePow]
  omega
theorem wrap_u64 {a : Nat} (h : a < 18446744073709551616) : IntKind.u64.wrap (a : Int) = a := by
  simp only [IntKind.wrap, IntKind.signed, IntKind.bits]
  simp
  omega
theorem q_andU {t t' : TypeId} {x y : Operand} {cx cy : List Bool} {a b : Int} (ho : o.op = .binOp .and t x y t') (hx : evl E x = some (cx, .int .u64 a)) (hy : evl E y = some (cy, .int .u64 b)) [sx : Sub cx cs] [sy : Sub cy cs]
    (h : AllT cs → (0 ≤ a ∧ a < 18446744073709551616) ∧ 0 ≤ b ∧ b < 18446744073709551616) : OpR P n E C cs o (.int .u64 ((a.toNat &&& b.toNat : Nat) : Int)) :=
  fun e he hc => bin_run (C := C) (r := .int .u64 ((a.toNat &&& b.toNat : Nat) : Int)) ho hx hy sx sy rfl (fun w => by
    have hh := h hc
    rw [binOp_and]
    have h1 : (BitVec.ofInt 64 a &&& BitVec.ofInt 64 b).toNat = a.toNat &&& b.toNat := by rw [BitVec.toNat_and, ofInt_nat hh.1, ofInt_nat hh.2]
    have h2 : a.toNat &&& b.toNat ≤ a.toNat := Nat.and_le_left
    simp only [Op.intBits, IntKind.bits, Sem.run_pure]
    exact congrArg (fun k => Result.ok (Value.int IntKind.u64 k) w) ((wrap_u64 (show (BitVec.ofInt 64 a &&& BitVec.ofInt 64 b).toNat < _ by rw [h1]; omega)).trans (congrArg (fun k : Nat => (k : Int)) h1))) e he hc
theorem q_orU {t t' : TypeId} {x y : Operand} {cx cy : List Bool} {a b : Int} (ho : o.op = .binOp .or t x y t') (hx : evl E x = some (cx, .int .u64 a)) (hy : evl E y = some (cy, .int .u64 b)) [sx : Sub cx cs] [sy : Sub cy cs]
    (h : AllT cs → (0 ≤ a ∧ a < 18446744073709551616) ∧ 0 ≤ b ∧ b < 18446744073709551616) : OpR P n E C cs o (.int .u64 ((a.toNat ||| b.toNat : Nat) : Int)) :=
  fun e he hc => bin_run (C := C) (r := .int .u64 ((a.toNat ||| b.toNat : Nat) : Int)) ho hx hy sx sy rfl (fun w => by
    have hh := h hc
    rw [binOp_or]
    have h1 : (BitVec.ofInt 64 a ||| BitVec.ofInt 64 b).toNat = a.toNat ||| b.toNat := by rw [BitVec.toNat_or, ofInt_nat hh.1, ofInt_nat hh.2]
    have h2 : a.toNat ||| b.toNat < 2 ^ 64 := Nat.or_lt_two_pow (by omega) (by omega)
    simp only [Op.intBits, IntKind.bits, Sem.run_pure]
    exact congrArg (fun k => Result.ok (Value.int IntKind.u64 k) w) ((wrap_u64 (show (BitVec.ofInt 64 a ||| BitVec.ofInt 64 b).toNat < _ by rw [h1]; omega)).trans (congrArg (fun k : Nat => (k : Int)) h1))) e he hc
theorem andN_le (a b : Nat) : andN a b ≤ a := by
  have : andN a b = a &&& (andN a b) := by
    apply Nat.eq_of_testBit_eq
    intro i
    simp only [andN, Nat.testBit_xor, Nat.testBit_and]
    cases a.testBit i <;> cases b.testBit i <;> rfl
  rw [this]; exact Nat.and_le_left
theorem q_andNU {t t' : TypeId} {x y : Operand} {cx cy : List Bool} {a b : Int} (ho : o.op = .binOp .andNot t x y t') (hx : evl E x = some (cx, .int .u64 a)) (hy : evl E y = some (cy, .int .u64 b)) [sx : Sub cx cs] [sy : Sub cy cs]
    (h : AllT cs → (0 ≤ a ∧ a < 18446744073709551616) ∧ 0 ≤ b ∧ b < 18446744073709551616) : OpR P n E C cs o (.int .u64 ((andN a.toNat b.toNat : Nat) : Int)) :=
  fun e he hc => bin_run (C := C) (r := .int .u64 ((andN a.toNat b.toNat : Nat) : Int)) ho hx hy sx sy rfl (fun w => by
    have hh := h hc
    rw [binOp_andNot]
    have h1 : (BitVec.ofInt 64 a &&& ~~~BitVec.ofInt 64 b).toNat = andN a.toNat b.toNat := by
      apply Nat.eq_of_testBit_eq
      intro i
      rw [BitVec.toNat_and, Nat.testBit_and, BitVec.testBit_toNat, BitVec.testBit_toNat, BitVec.getLsbD_not]
      rw [← BitVec.testBit_toNat, ← BitVec.testBit_toNat, ofInt_nat hh.1, ofInt_nat hh.2]
      simp only [andN, Nat.testBit_xor, Nat.testBit_and]
      by_cases hi : i < 64
      · simp only [hi, decide_true, Bool.true_and]
        cases a.toNat.testBit i <;> cases b.toNat.testBit i <;> rfl
      · have : a.toNat.testBit i = false := Nat.testBit_lt_two_pow (Nat.lt_of_lt_of_le (show a.toNat < 2 ^ 64 by omega) (Nat.pow_le_pow_right (by decide) (by omega)))
        simp [this]
    have h2 := andN_le a.toNat b.toNat
    simp only [Op.intBits, IntKind.bits, Sem.run_pure]
    exact congrArg (fun k => Result.ok (Value.int IntKind.u64 k) w) ((wrap_u64 (show (BitVec.ofInt 64 a &&& ~~~BitVec.ofInt 64 b).toNat < _ by rw [h1]; omega)).trans (congrArg (fun k : Nat => (k : Int)) h1))) e he hc
theorem q_shrN {t t' : TypeId} {x y : Operand} {cx cy : List Bool} {yk : IntKind} {a k : Nat} (ho : o.op = .binOp .shr t x y t') (hx : evl E x = some (cx, .int .u64 (a : Int))) (hy : evl E y = some (cy, .int yk (k : Int))) [sx : Sub cx cs] [sy : Sub cy cs]
    (h : AllT cs → k ≤ 64) : OpR P n E C cs o (.int .u64 ((a / 2 ^ k : Nat) : Int)) := by
  have := q_shr (P := P) (n := n) (C := C) (cs := cs) ho hx hy (fun hc => ⟨Int.natCast_nonneg _, by have := h hc; simp only [IntKind.bits]; omega⟩)
  simpa using this
theorem q_andK {t t' : TypeId} {x y : Operand} {cx cy : List Bool} {a b : Nat} (ho : o.op = .binOp .and t x y t') (hx : evl E x = some (cx, .int .u64 (a : Int))) (hy : evl E y = some (cy, .int .u64 (b : Int))) [sx : Sub cx cs] [sy : Sub cy cs]
    (h : AllT cs → a < 18446744073709551616 ∧ b < 18446744073709551616) : OpR P n E C cs o (.int .u64 ((a &&& b : Nat) : Int)) := by
  have := q_andU (P := P) (n := n) (C := C) (cs := cs) ho hx hy (fun hc => by have := h hc; omega)
  simpa using this
theorem q_orK {t t' : TypeId} {x y : Operand} {cx cy : List Bool} {a b : Nat} (ho : o.op = .binOp .or t x y t') (hx : evl E x = some (cx, .int .u64 (a : Int))) (hy : evl E y = some (cy, .int .u64 (b : Int))) [sx : Sub cx cs] [sy : Sub cy cs]
    (h : AllT cs → a < 18446744073709551616 ∧ b < 18446744073709551616) : OpR P n E C cs o (.int .u64 ((a ||| b : Nat) : Int)) := by
  have := q_orU (P := P) (n := n) (C := C) (cs := cs) ho hx hy (fun hc => by have := h hc; omega)
  simpa using this
theorem q_andNK {t t' : TypeId} {x y : Operand} {cx cy : List Bool} {a b : Nat} (ho : o.op = .binOp .andNot t x y t') (hx : evl E x = some (cx, .int .u64 (a : Int))) (hy : evl E y = some (cy, .int .u64 (b : Int))) [sx : Sub cx cs] [sy : Sub cy cs]
    (h : AllT cs → a < 18446744073709551616 ∧ b < 18446744073709551616) : OpR P n E C cs o (.int .u64 ((andN a b : Nat) : Int)) := by
  have := q_andNU (P := P) (n := n) (C := C) (cs := cs) ho hx hy (fun hc => by have := h hc; omega)
  simpa using this
theorem q_addZ {t t' : TypeId} {x y : Operand} {cx cy : List Bool} {a b z : Nat} (ho : o.op = .binOp .add t x y t') (hx : evl E x = some (cx, .int .u64 (a : Int))) (hy : evl E y = some (cy, .int .u64 (b : Int))) [sx : Sub cx cs] [sy : Sub cy cs]
    (h : a + b = z ∧ z < 18446744073709551616) : OpR P n E C cs o (.int .u64 (z : Int)) := by
  have := q_add_w (P := P) (n := n) (C := C) (cs := cs) ho hx hy
  rw [show (a : Int) + b = ((a + b : Nat) : Int) by omega, h.1, wrap_u64 h.2] at this
  exact this
theorem q_and127 {t t' : TypeId} {x y : Operand} {cx cy : List Bool} {a : Nat} (ho : o.op = .binOp .and t x y t') (hx : evl E x = some (cx, .int .i64 (a : Int))) (hy : evl E y = some (cy, .int .i64 127)) [sx : Sub cx cs] [sy : Sub cy cs]
    (ha : a < 9223372036854775808) : OpR P n E C cs o (.int .i64 ((a % 128 : Nat) : Int)) :=
  fun e he hc => bin_run (C := C) (r := .int .i64 ((a % 128 : Nat) : Int)) ho hx hy sx sy rfl (fun w => by
    rw [binOp_and]
    have h1 : (BitVec.ofInt 64 (a : Int) &&& BitVec.ofInt 64 127).toNat = a % 128 := by
      rw [BitVec.toNat_and, ofInt_nat (by omega), ofInt_nat (by decide)]
      exact Nat.and_two_pow_sub_one_eq_mod a 7
    simp only [Op.intBits, IntKind.bits, Sem.run_pure]
    have h2 : IntKind.i64.wrap ((a % 128 : Nat) : Int) = ((a % 128 : Nat) : Int) := IntWalk.i64_in _ (by omega)
    exact congrArg (fun k => Result.ok (Value.int IntKind.i64 k) w) ((congrArg (fun k : Nat => IntKind.i64.wrap (k : Int)) h1).trans h2)) e he hc
theorem q_shl1 {t t' : TypeId} {x y : Operand} {cx cy : List Bool} {yk : IntKind} {k : Nat} (ho : o.op = .binOp .shl t x y t') (hx : evl E x = some (cx, .int .u64 1)) (hy : evl E y = some (cy, .int yk (k : Int))) [sx : Sub cx cs] [sy : Sub cy cs]
    (hk : k < 64) : OpR P n E C cs o (.int .u64 ((2 ^ k : Nat) : Int)) := by
  have := q_shl (P := P) (n := n) (C := C) (cs := cs) ho hx hy (fun hc => ⟨Int.natCast_nonneg _, by simp only [IntKind.bits]; omega⟩)
  have h2 : 2 ^ k < 18446744073709551616 := by
    have := Nat.pow_lt_pow_right (a := 2) (by decide) hk
    simpa using this
  have e : IntKind.u64.wrap (1 * 2 ^ ((k : Int)).toNat) = ((2 ^ k : Nat) : Int) := by
    rw [Int.one_mul, Int.toNat_natCast, ← wrap_u64 h2, Int.natCast_pow]; rfl
  rw [e] at this
  exact this
end
def popN : Nat → Nat → Nat
  | 0, _ => 0
  | k + 1, x => x % 2 + popN k (x / 2)
theorem and_base (k a b c d : Nat) (ha : a < 2 ^ k) (hc : c < 2 ^ k) : (a + 2 ^ k * b) &&& (c + 2 ^ k * d) = (a &&& c) + 2 ^ k * (b &&& d) := by
  have hac : a &&& c < 2 ^ k := Nat.and_lt_two_pow _ hc
  apply Nat.eq_of_testBit_eq
  intro i
  rw [Nat.testBit_and, Nat.add_comm a, Nat.add_comm c, Nat.add_comm (a &&& c), Nat.testBit_two_pow_mul_add _ ha, Nat.testBit_two_pow_mul_add _ hc, Nat.testBit_two_pow_mul_add _ hac]
  split
  · rw [Nat.testBit_and]
  · rw [Nat.testBit_and]
/-- Pairs of digits in base 2^k, and a mask that keeps the first of each. -/
def pv (k : Nat) : List (Nat × Nat) → Nat
  | [] => 0
  | (a, b) :: ps => (a + 2 ^ k * b) + 2 ^ (2 * k) * pv k ps
def pm (k : Nat) : Nat → Nat
  | 0 => 0
  | n + 1 => (2 ^ k - 1) + 2 ^ (2 * k) * pm k n
def fst1 (k : Nat) : List (Nat × Nat) → Nat
  | [] => 0
  | (a, _) :: ps => a + 2 ^ (2 * k) * fst1 k ps
def snd1 (k : Nat) : List (Nat × Nat) → Nat
  | [] => 0
  | (_, b) :: ps => b + 2 ^ (2 * k) * snd1 k ps
theorem pow_twice (k : Nat) : 2 ^ (2 * k) = 2 ^ k * 2 ^ k := by rw [Nat.two_mul, Nat.pow_add]
theorem pair_lt {k a b : Nat} (ha : a < 2 ^ k) (hb : b < 2 ^ k) : a + 2 ^ k * b < 2 ^ (2 * k) := by
  have h : 2 ^ k * (b + 1) ≤ 2 ^ k * 2 ^ k := Nat.mul_le_mul_left _ hb
  rw [pow_twice, Nat.mul_add] at *
  omega
theorem mask_fst (k : Nat) : ∀ (ps : List (Nat × Nat)) (n : Nat), ps.length ≤ n → (∀ p ∈ ps, p.1 < 2 ^ k ∧ p.2 < 2 ^ k) → pv k ps &&& pm k n = fst1 k ps
  | [], n, _, _ => by simp [pv, fst1]
  | (a, b) :: ps, 0, h, _ => by simp at h
  | (a, b) :: ps, n + 1, h, hb => by
    have h1 := hb (a, b) (by simp)
    have ih := mask_fst k ps n (by simpa using h) (fun p hp => hb p (by simp [hp]))
    simp only [pv, pm, fst1]
    rw [and_base _ _ _ _ _ (pair_lt h1.1 h1.2) (by have := Nat.pow_le_pow_right (n := 2) (by decide) (show k ≤ 2 * k by omega); have h3 : 0 < 2 ^ k := Nat.two_pow_pos k; omega), ih]
    congr 1
    rw [Nat.and_two_pow_sub_one_eq_mod, Nat.add_mul_mod_self_left, Nat.mod_eq_of_lt h1.1]
theorem mask_snd (k : Nat) : ∀ (ps : List (Nat × Nat)) (n : Nat), ps.length ≤ n → (∀ p ∈ ps, p.1 < 2 ^ k ∧ p.2 < 2 ^ k) → (pv k ps / 2 ^ k) &&& pm k n = snd1 k ps
  | [], n, _, _ => by simp [pv, snd1]
  | (a, b) :: ps, 0, h, _ => by simp at h
  | (a, b) :: ps, n + 1, h, hb => by
    have h1 := hb (a, b) (by simp)
    have ih := mask_snd k ps n (by simpa using h) (fun p hp => hb p (by simp [hp]))
    have hp : 0 < 2 ^ k := Nat.two_pow_pos k
    simp only [pv, pm, snd1]
    have e : (a + 2 ^ k * b + 2 ^ (2 * k) * pv k ps) / 2 ^ k = (b + 2 ^ k * (pv k ps % 2 ^ k)) + 2 ^ (2 * k) * (pv k ps / 2 ^ k) := by
      rw [pow_twice]
      have e1 : a + 2 ^ k * b + 2 ^ k * 2 ^ k * pv k ps = a + 2 ^ k * (b + 2 ^ k * pv k ps) := by rw [Nat.mul_add, Nat.mul_assoc, Nat.add_assoc]
      rw [e1, Nat.add_mul_div_left _ _ hp, Nat.div_eq_of_lt h1.1, Nat.zero_add]
      have e2 := Nat.div_add_mod (pv k ps) (2 ^ k)
      have e3 : 2 ^ k * pv k ps = 2 ^ k * (2 ^ k * (pv k ps / 2 ^ k) + pv k ps % 2 ^ k) := by rw [e2]
      rw [e3, Nat.mul_add, Nat.mul_assoc]; omega
    rw [e, and_base _ _ _ _ _ (pair_lt h1.2 (Nat.mod_lt _ hp)) (by have := Nat.pow_le_pow_right (n := 2) (by decide) (show k ≤ 2 * k by omega); omega), ih]
    congr 1
    rw [Nat.and_two_pow_sub_one_eq_mod, Nat.add_mul_mod_self_left, Nat.mod_eq_of_lt h1.2]
def v2 (k : Nat) : List Nat → Nat
  | [] => 0
  | b :: bs => b + 2 ^ k * v2 k bs
theorem digits : ∀ (k x : Nat), x < 2 ^ k → ∃ bs : List Nat, bs.length = k ∧ (∀ b ∈ bs, b < 2) ∧ x = v2 1 bs ∧ popN k x = bs.sum
  | 0, x, h => ⟨[], rfl, by simp, by simp at h; simp [v2, h], rfl⟩
  | k + 1, x, h => by
    obtain ⟨bs, h1, h2, h3, h4⟩ := digits k (x / 2) (by rw [Nat.pow_succ] at h; omega)
    refine ⟨x % 2 :: bs, by simp [h1], fun b hb => ?_, ?_, ?_⟩
    · rcases List.mem_cons.1 hb with rfl | hb
      · omega
      · exact h2 b hb
    · simp only [v2, ← h3]; omega
    · simp only [popN, h4, List.sum_cons]
def adj : List Nat → List Nat
  | a :: b :: r => (a + b) :: adj r
  | _ => []
def prs : List Nat → List (Nat × Nat)
  | a :: b :: r => (a, b) :: prs r
  | _ => []
theorem adj_facts (k : Nat) : ∀ (m : Nat) (ds : List Nat), ds.length = 2 * m → v2 k ds = pv k (prs ds) ∧ fst1 k (prs ds) + snd1 k (prs ds) = v2 (2 * k) (adj ds) ∧ (adj ds).sum = ds.sum ∧ (adj ds).length = m ∧ (prs ds).length = m ∧ (∀ p ∈ prs ds, p.1 ∈ ds ∧ p.2 ∈ ds) ∧ ∀ d ∈ adj ds, ∃ a ∈ ds, ∃ b ∈ ds, d = a + b
  | 0, ds, h => by
    have : ds = [] := List.eq_nil_of_length_eq_zero (by omega)
    subst this
    simp [adj, prs, v2, pv, fst1, snd1]
  | m + 1, [], h => by simp at h
  | m + 1, [_], h => by simp at h; omega
  | m + 1, a :: b :: r, h => by
    obtain ⟨h1, h2, h3, h4, h5, h6, h7⟩ := adj_facts k m r (by simp at h; omega)
    refine ⟨?_, ?_, ?_, ?_, ?_, ?_, ?_⟩
    · simp only [v2, prs, pv, h1, pow_twice, Nat.mul_add, Nat.mul_assoc, Nat.add_assoc]
    · simp only [prs, fst1, snd1, adj, v2, ← h2, Nat.mul_add]; omega
    · simp only [adj, List.sum_cons, h3]; omega
    · simp [adj, h4]
    · simp [prs, h5]
    · intro p hp
      rcases List.mem_cons.1 hp with rfl | hp
      · simp
      · have := h6 p hp; simp [this]
    · intro d hd
      rcases List.mem_cons.1 hd with rfl | hd
      · exact ⟨a, by simp, b, by simp, rfl⟩
      · obtain ⟨x, hx, y, hy, e⟩ := h7 d hd
        exact ⟨x, by simp [hx], y, by simp [hy], e⟩
theorem fold_step (k m n : Nat) (ds : List Nat) (h : ds.length = 2 * m) (hn : m ≤ n) (hd : ∀ d ∈ ds, d < 2 ^ k) :
    (v2 k ds / 2 ^ k &&& pm k n) + (v2 k ds &&& pm k n) = v2 (2 * k) (adj ds) := by
  obtain ⟨h1, h2, h3, h4, h5, h6, h7⟩ := adj_facts k m ds h
  have hb : ∀ p ∈ prs ds, p.1 < 2 ^ k ∧ p.2 < 2 ^ k := fun p hp => ⟨hd _ (h6 p hp).1, hd _ (h6 p hp).2⟩
  rw [h1, mask_snd k _ n (by omega) hb, mask_fst k _ n (by omega) hb, ← h2, Nat.add_comm]
set_option maxHeartbeats 1000000 in
/-- The seven steps of the count. -/
theorem count_steps (x : Nat) (hx : x < 4294967296) : ∃ x1 x2 y x3 x4 x5 x6 : Nat,
    (x / 2 ^ 1 &&& 6148914691236517205) + (x &&& 6148914691236517205) = x1 ∧ (x1 / 2 ^ 2 &&& 3689348814741910323) + (x1 &&& 3689348814741910323) = x2 ∧ x2 / 2 ^ 4 + x2 = y ∧ y &&& 1085102592571150095 = x3 ∧ x3 + x3 / 2 ^ 8 = x4 ∧ x4 + x4 / 2 ^ 16 = x5 ∧ x5 + x5 / 2 ^ 32 = x6 ∧
    x6 % 128 = popN 32 x ∧ x1 < 4294967296 ∧ x2 < 4294967296 ∧ y < 8589934592 ∧ x3 < 4294967296 ∧ x4 < 8589934592 ∧ x5 < 8589934592 ∧ x6 < 17179869184 := by
  obtain ⟨bs, hl, hb, hv, hp⟩ := digits 32 x hx
  obtain ⟨-, -, s3, s4, -, -, s7⟩ := adj_facts 1 16 bs (by omega)
  obtain ⟨-, -, t3, t4, -, -, t7⟩ := adj_facts 2 8 (adj bs) (by omega)
  have e1 := fold_step 1 16 32 bs (by omega) (by omega) (by simpa using hb)
  have b1 : ∀ d ∈ adj bs, d ≤ 2 := fun d hd => by
    obtain ⟨a, ha, b, hb', e⟩ := s7 d hd
    have := hb a ha; have := hb b hb'; omega
  have e2 := fold_step 2 8 16 (adj bs) (by omega) (by omega) (fun d hd => by have := b1 d hd; omega)
  have b2 : ∀ d ∈ adj (adj bs), d ≤ 4 := fun d hd => by
    obtain ⟨a, ha, b, hb', e⟩ := t7 d hd
    have := b1 a ha; have := b1 b hb'; omega
  rw [← hv] at e1
  rw [show pm 1 32 = 6148914691236517205 by decide] at e1
  rw [show pm 2 16 = 3689348814741910323 by decide] at e2
  generalize hC : adj (adj bs) = cl at e2 b2 t3 t4
  match cl, t4 with
  | [c0, c1, c2, c3, c4, c5, c6, c7], _ =>
    simp only [List.mem_cons, List.not_mem_nil, or_false, forall_eq_or_imp, forall_eq] at b2
    obtain ⟨d0, d1, d2, d3, d4, d5, d6, d7⟩ := b2
    have hs : popN 32 x = c0 + c1 + c2 + c3 + c4 + c5 + c6 + c7 := by
      rw [hp, ← s3, ← t3]; simp only [List.sum_cons, List.sum_nil]; omega
    have v : v2 4 [c0, c1, c2, c3, c4, c5, c6, c7] = c0 + 16 * c1 + 256 * c2 + 4096 * c3 + 65536 * c4 + 1048576 * c5 + 16777216 * c6 + 268435456 * c7 := by
      simp only [v2]; omega
    have hm := mask_fst 4 [(c0 + c1, c1 + c2), (c2 + c3, c3 + c4), (c4 + c5, c5 + c6), (c6 + c7, c7)] 8 (by simp) (by
      simp only [List.mem_cons, List.not_mem_nil, or_false, forall_eq_or_imp, forall_eq]; omega)
    rw [show pm 4 8 = 1085102592571150095 by decide] at hm
    simp only [pv, fst1] at hm
    have hx1 : v2 2 (adj bs) < 4294967296 := by
      have : ∀ (m : Nat) (l : List Nat), l.length = m → (∀ d ∈ l, d ≤ 2) → v2 2 l < 2 ^ (2 * m) := by
        intro m
        induction m with
        | zero => intro l hl _; simp [List.eq_nil_of_length_eq_zero hl, v2]
        | succ m ih =>
          intro l hl hd
          match l, hl with
          | a :: r, hl =>
            have i1 := ih r (by simpa using hl) (fun d h => hd d (by simp [h]))
            have i2 := hd a (by simp)
            have i3 : 2 ^ (2 * (m + 1)) = 4 * 2 ^ (2 * m) := by rw [show 2 * (m + 1) = 2 * m + 2 by omega, Nat.pow_add]; omega
            simp only [v2]; omega
      exact this 16 _ s4 b1
    refine ⟨_, _, _, _, _, _, _, rfl, rfl, rfl, rfl, rfl, rfl, rfl, ?_⟩
    rw [e1]
    rw [show 2 * 1 = 2 from rfl, e2, show 2 * 2 = 4 from rfl, v]
    have hy : (c0 + 16 * c1 + 256 * c2 + 4096 * c3 + 65536 * c4 + 1048576 * c5 + 16777216 * c6 + 268435456 * c7) / 2 ^ 4 + (c0 + 16 * c1 + 256 * c2 + 4096 * c3 + 65536 * c4 + 1048576 * c5 + 16777216 * c6 + 268435456 * c7) = c0 + c1 + 2 ^ 4 * (c1 + c2) + 2 ^ (2 * 4) * (c2 + c3 + 2 ^ 4 * (c3 + c4) + 2 ^ (2 * 4) * (c4 + c5 + 2 ^ 4 * (c5 + c6) + 2 ^ (2 * 4) * (c6 + c7 + 2 ^ 4 * c7 + 2 ^ (2 * 4) * 0))) := by
      have hq : ∀ q : Nat, (c0 + 16 * q) / 2 ^ 4 = q := fun q => by omega
      have h1 := hq (c1 + 16 * c2 + 256 * c3 + 4096 * c4 + 65536 * c5 + 1048576 * c6 + 16777216 * c7)
      rw [show c0 + 16 * (c1 + 16 * c2 + 256 * c3 + 4096 * c4 + 65536 * c5 + 1048576 * c6 + 16777216 * c7) = c0 + 16 * c1 + 256 * c2 + 4096 * c3 + 65536 * c4 + 1048576 * c5 + 16777216 * c6 + 268435456 * c7 by omega] at h1
      rw [h1]; omega
    rw [hy, hm, hs]
    clear hm hy hs v e1 e2 s7 t7 b1 s3 t3 hC hv hp hl hb s4 hx
    simp only [Nat.reduceMul, Nat.reducePow, Nat.mul_zero, Nat.add_zero]
    generalize hX3 : c0 + c1 + 256 * (c2 + c3 + 256 * (c4 + c5 + 256 * (c6 + c7))) = x3
    have k3 : x3 < 4294967296 := by omega
    have g4 : x3 + x3 / 256 = (c0 + c1 + c2 + c3) + 256 * (c2 + c3 + c4 + c5) + 65536 * (c4 + c5 + c6 + c7) + 16777216 * (c6 + c7) := by
      have : x3 / 256 = c2 + c3 + 256 * (c4 + c5 + 256 * (c6 + c7)) := by omega
      omega
    rw [g4]
    generalize hX4 : (c0 + c1 + c2 + c3) + 256 * (c2 + c3 + c4 + c5) + 65536 * (c4 + c5 + c6 + c7) + 16777216 * (c6 + c7) = x4
    clear hX3 g4
    have k4 : x4 < 8589934592 := by omega
    have g5 : x4 + x4 / 65536 = (c0 + c1 + c2 + c3 + c4 + c5 + c6 + c7) + 256 * (c2 + c3 + c4 + c5 + c6 + c7) + 65536 * (c4 + c5 + c6 + c7) + 16777216 * (c6 + c7) := by
      have : x4 / 65536 = c4 + c5 + c6 + c7 + 256 * (c6 + c7) := by omega
      omega
    rw [g5]
    generalize hX5 : (c0 + c1 + c2 + c3 + c4 + c5 + c6 + c7) + 256 * (c2 + c3 + c4 + c5 + c6 + c7) + 65536 * (c4 + c5 + c6 + c7) + 16777216 * (c6 + c7) = x5
    clear hX4 g5
    have k5 : x5 < 8589934592 := by omega
    have g6 : x5 / 4294967296 = 0 := by
      exact Nat.div_eq_of_lt (by omega)
    rw [g6]
    clear g6
    refine ⟨?_, hx1, ?_, ?_, ?_, ?_, ?_, ?_⟩
    · generalize hS : c0 + c1 + c2 + c3 + c4 + c5 + c6 + c7 = S at hX5 ⊢
      have hS' : S < 128 := by omega
      rw [← hX5, Nat.add_zero]
      generalize c2 + c3 + c4 + c5 + c6 + c7 = A
      generalize c4 + c5 + c6 + c7 = B
      generalize c6 + c7 = D
      clear k3 k4 k5 hx1 hX5 hS d0 d1 d2 d3 d4 d5 d6 d7
      omega
    · clear hX5 k3 k4 k5; omega
    · clear hX5 k3 k4 k5; omega
    · exact k3
    · exact k4
    · exact k5
    · clear hX5 k3 k4; omega
theorem popN_le : ∀ (k x : Nat), popN k x ≤ k
  | 0, _ => Nat.le_refl _
  | k + 1, x => by have := popN_le k (x / 2); simp only [popN]; omega
end Go.Sx
