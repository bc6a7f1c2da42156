/-
  Maps keyed by pairs of integers; the two halves of m[k]++ in a draw. General lemmas, no program text.
-/
import Derived.Test.YtekikelejncgeaaSxMap
import Derived.Test.YtekikelejncgeaaSxSlice
import Derived.WideKeyRuns
import Derived.ChangeKeysEq
set_option autoImplicit false
set_option linter.unusedSimpArgs false
set_option linter.unusedVariables false
set_option linter.unusedSectionVars false
namespace Go.Sx
open Enc (enc val)

structure P2 where
  a : Int
  b : Int
deriving DecidableEq
instance : Inhabited P2 := ⟨⟨0, 0⟩⟩
instance : Enc P2 := ⟨fun c => [.int .i64 c.a, .int .i64 c.b], 2, fun c => .agg #[.int .i64 c.a, .int .i64 c.b], fun _ => rfl, by simp [Value.oneCell'], fun _ => rfl, by decide⟩
section pair
variable {P : Program} {kt : TypeId} {e : TypeId}
theorem part_int (he : P.underlying e = some (.int .i64)) (hs : ∀ w, (sizeOf e).run P w = .ok 1 w) (hg : ∀ w, (isAgg e).run P w = .ok false w) (cs : Array Value) (i : Nat) (n : Int) (h : cs[i]? = some (.int .i64 n)) (w : World) : (part e cs i).run P w = .ok (.int .i64 n) w := by
  simp [part, hg, h, Result.andThen]
theorem chk_int (he : P.underlying e = some (.int .i64)) (em : Bool) (n : Nat) (x : Int) (w : World) : (Instr.checkKey em (n + 1) e (.int .i64 x)).run P w = .ok () w := by
  simp [Instr.checkKey, run_underlying he, Result.andThen]
theorem pair_chk0 (hk : P.underlying kt = some (.array 2 e)) (he : P.underlying e = some (.int .i64)) (hs : ∀ w, (sizeOf e).run P w = .ok 1 w) (hg : ∀ w, (isAgg e).run P w = .ok false w) (k : P2) (em : Bool) (n : Nat) (w : World) : (Instr.checkKey em (n + 1 + 1) kt (val k)).run P w = .ok () w := by
  have h1 := part_int he hs hg #[.int .i64 k.a, .int .i64 k.b] 0 k.a rfl w
  have h2 := part_int he hs hg #[.int .i64 k.a, .int .i64 k.b] 1 k.b rfl w
  have c1 := chk_int (P := P) he em n k.a w
  have c2 := chk_int (P := P) he em n k.b w
  unfold Instr.checkKey
  simp only [Sem.run_bind, run_underlying hk, Result.andThen, Enc.val]
  simp [Std.Legacy.Range.forIn_eq_forIn_range', Std.Legacy.Range.size, List.range'_succ, hs w, h1, h2, c1, c2, Result.andThen]
theorem eq_int (he : P.underlying e = some (.int .i64)) (d : Nat) (x y : Int) (w : World) : (Op.equalIn (d + 1) e (.int .i64 x) (.int .i64 y)).run P w = .ok (decide (x = y)) w := by
  simp [Op.equalIn, run_underlying he, Result.andThen]
  rfl
theorem pair_eq {i : TypeInfo} (hk : P.underlying kt = some (.array 2 e)) (he : P.underlying e = some (.int .i64)) (hi : P.info? e = some i) (hc : P.cellsOf e = 1) (hg : ∀ w, (isAgg e).run P w = .ok false w) (hs : ∀ w, (sizeOf e).run P w = .ok 1 w) (k k' : P2) (w : World) : (Op.equal kt (val k) (val k')).run P w = .ok (decide (k' = k)) w := by
  obtain ⟨ka, kb⟩ := k
  obtain ⟨ka', kb'⟩ := k'
  have a0 := part_int he hs hg #[.int .i64 ka, .int .i64 kb] 0 ka rfl w
  have a1 := part_int he hs hg #[.int .i64 ka, .int .i64 kb] 1 kb rfl w
  have b0 := part_int he hs hg #[.int .i64 ka', .int .i64 kb'] 0 ka' rfl w
  have b1 := part_int he hs hg #[.int .i64 ka', .int .i64 kb'] 1 kb' rfl w
  have e0 := fun d => eq_int (P := P) he d ka ka' w
  have e1 := fun d => eq_int (P := P) he d kb kb' w
  show (Op.equalIn (9998 + 1 + 1) kt (.agg #[.int .i64 ka, .int .i64 kb]) (.agg #[.int .i64 ka', .int .i64 kb'])).run P w = _
  rw [run_equalIn_array (w := w) (9998 + 1) _ _ hk hi, hc]
  have hr : List.range 2 = [0, 1] := rfl
  rw [hr]
  simp only [Op.eqItems, Sem.run_bind, Nat.zero_mul, Nat.one_mul, a0, a1, b0, b1, e0, e1, Result.andThen_ok]
  by_cases h1 : ka = ka'
  · by_cases h2 : kb = kb'
    · subst h1 h2; simp [a1, e1, Result.andThen]
    · subst h1; have h2' : ¬ kb' = kb := fun e => h2 e.symm
      simp [a1, b1, e1, h2, h2', Result.andThen]
  · have h1' : ¬ ka' = ka := fun e => h1 e.symm
    simp [h1, h1', Result.andThen]
theorem keyT_pair {i : TypeInfo} (hk : P.underlying kt = some (.array 2 e)) (he : P.underlying e = some (.int .i64)) (hi : P.info? e = some i) (hc : P.cellsOf e = 1) (hg : ∀ w, (isAgg e).run P w = .ok false w) (hs : ∀ w, (sizeOf e).run P w = .ok 1 w) : KeyT P kt P2 where
  chk k em w := pair_chk0 hk he hs hg k em 9998 w
  find {ν _} k es w := by
    rw [run_findKey_eq w (by rw [hk])]
    have key : ∀ (es : Ents P2 ν) (j : Nat), (Instr.findAsking kt (val k) (es.map rawE) j).run P w = .ok ((findK k es j).map fun p => (p.1, val p.2)) w := by
      intro es
      induction es with
      | nil => intro j; rfl
      | cons x es ih =>
        intro j
        have h1 := pair_eq hk he hi hc hg hs k x.1 w
        have h2 := ih (j + 1)
        simp only [List.map_cons, Instr.findAsking, Sem.run_bind, findK]
        rw [show (rawE x).key = val x.1 from rfl, h1]
        simp only [Result.andThen_ok]
        by_cases hx : x.1 = k
        · simp [hx, rawE]
        · simp [hx, h2]
    exact key es 0
  stays k w := by
    have h1 : ∀ n : Nat, Instr.sameBits (n + 1 + 1) (Value.agg #[.int .i64 k.a, .int .i64 k.b]) (Value.agg #[.int .i64 k.a, .int .i64 k.b]) = true := fun n => by simp [Instr.sameBits]
    have h2 : Instr.sameBits 10000 (val k) (val k) = true := h1 9998
    unfold Instr.keyThatStays
    rw [h2]; rfl
end pair

/-- An array: its elements' size and its zero value. -/
class ArT (P : Program) (t : TypeId) (sz : outParam Nat) (z : outParam (List Value)) : Prop where
  built : ∀ parts, P.built t parts = Instr.fill (fun i => some (i * sz, sz)) z.toArray parts
theorem q_buildA {P : Program} {n : Fr} {E : Env} {C : World → Prop} {cs : List Bool} {o : Oper} {t : TypeId} {ps : List (Nat × Operand)} {vs : List Value} {cells z : List Value} {sz : Nat} (ho : o.op = .build t ps.toArray) (hv : Evs E cs (ps.map (·.2)) vs) [ht : ArT P t sz z]
    (hb0 : Instr.fill (fun i => some (i * sz, sz)) z.toArray ((ps.map (·.1)).zip vs) = some cells.toArray) : OpR P n E C cs o (.agg cells.toArray) :=
  .of_run fun e he hc w _ => by
    have hb := (ht.built ((ps.map (·.1)).zip vs)).trans hb0
    clear hb0
    unfold execOp; simp only [ho]
    have h1 : ps.map (fun (i, x) => (i, e.eval x)) = (ps.map (·.1)).zip vs := by
      rw [← hv.eval he hc]
      clear ho hb hv
      induction ps with
      | nil => rfl
      | cons p ps ih => simp [ih]
    simp only [List.map_toArray, h1]
    simp [run_build (P := P) w t ((ps.map (·.1)).zip vs).toArray cells.toArray hb]
/-! ### m[k]++ in a draw: the entry is made, then it is stored into -/
section mem
variable {κ ν : Type} [DecidableEq κ] [Enc κ] [Enc ν] {P : Program} {n : Fr} {E : Env} {C : World → Prop} {cs : List Bool} {o : Oper} {w0 : World} {fp : List Nat} {H : List Asn}
structure EntX (κ ν : Type) where
  es : Ents κ ν
  clock : Nat
  m : Nat
  v : ν
  st : Nat
structure EntXok (z : ν) (l : List (κ × ν)) (k : κ) (X : EntX κ ν) : Prop where
  ok : EntsOk X.es X.clock
  at' : X.es[X.m]? = some (k, X.v, X.st)
  get : ∀ k', getZ z (kvs X.es) k' = getZ z l k'
  put : ∀ u, kvs (X.es.modify X.m fun e => (k, u, e.2.2)) = upd l k u
theorem getZ_push {z : ν} {l : List (κ × ν)} {k : κ} (h : get? l k = none) (k' : κ) : getZ z (l ++ [(k, z)]) k' = getZ z l k' := by
  induction l with
  | nil =>
    simp only [List.nil_append, getZ, get?]
    split <;> rfl
  | cons x l ih =>
    obtain ⟨a, b⟩ := x
    simp only [get?] at h
    split at h
    · cases h
    · have := ih h
      simp only [List.cons_append, getZ, get?] at this ⊢
      split
      · rfl
      · exact this
theorem modify_last {α : Type} (l : List α) (x : α) (f : α → α) : (l ++ [x]).modify l.length f = l ++ [f x] := by
  induction l with
  | nil => rfl
  | cons y l ih => simp [ih]
theorem run_mapEntry {t kt et : TypeId} {z : ν} [ht : MapT P t kt et] [hK : KeyT P kt κ] [hz : ZeroV P et ν z] {w : World} {b clock : Nat} {es : Ents κ ν} (hb : w.heap[b]? = some (mapO es clock)) (ok : EntsOk es clock) (k : κ) :
    ∃ X : EntX κ ν, EntXok z (kvs es) k X ∧ (Instr.mapEntry t (.map (some b)) (val k)).run P w = .ok (.tuple #[val X.v, .int .i64 X.st]) { w with heap := w.heap.setIfInBounds b (mapO X.es X.clock) } := by
  have h1 := hK.find k es w
  have h2 := MapKept.run_getObj_map (P := P) hb
  cases hf : findK k es 0 with
  | none =>
    rw [hf] at h1
    obtain ⟨h3, h5, h4⟩ := findK_none hf
    refine ⟨⟨es ++ [(k, z, clock)], clock + 1, es.length, z, clock⟩, ⟨ok_push ok h3 z, by simp, fun k' => ?_, fun u => ?_⟩, ?_⟩
    · have : kvs (es ++ [(k, z, clock)]) = kvs es ++ [(k, z)] := by simp [kvs]
      rw [this]; exact getZ_push h5 k'
    · rw [h4 u]
      simp only [modify_last]
      simp [kvs]
    · simp [Instr.mapEntry, run_underlying ht.und, h2, hK.chk, h1, hz.zero, MapKept.run_setObj_map _ hb, Result.andThen, mapO, rawE, goInt]
  | some p =>
    rw [hf] at h1
    obtain ⟨j, u⟩ := p
    obtain ⟨m, bb, rfl, h3, _, h4⟩ := findK_some hf
    have e0 : (es.modify m fun e => (k, u, e.2.2)) = es := by
      apply List.ext_getElem?
      intro i
      rw [List.getElem?_modify]
      split
      · rename_i hi; subst hi; rw [h3]; rfl
      · cases es[i]? <;> rfl
    refine ⟨⟨es, clock, m, u, bb⟩, ⟨ok, h3, fun _ => rfl, h4⟩, ?_⟩
    have e1 : ((es.map rawE).toArray[0 + m]?.map (·.key)).getD (val k) = val k := by rw [Nat.zero_add, raw_get, h3]; rfl
    have e2 : ((es.map rawE).toArray[m]?.map (fun x => (x.born : Int))).getD 0 = (bb : Int) := by rw [raw_get, h3]; rfl
    have e3 : ((es.map rawE).toArray.modify m fun e => { e with key := val k }) = (es.map rawE).toArray := by
      apply Array.ext_getElem?
      intro i
      simp only [Array.getElem?_modify, raw_get]
      split
      · rename_i hi; subst hi; rw [h3]; rfl
      · rfl
    simp only [Instr.mapEntry, Sem.run_bind, run_underlying ht.und, Result.andThen, h2, hK.chk, h1, Option.map_some, e1, hK.stays, MapKept.run_setObj_map _ hb, mapO]
    rw [Nat.zero_add, e3, e2]
    rfl
theorem e_mapEntry {t kt et : TypeId} {z : ν} {x y : Operand} {cx cy : List Bool} {b i : Nat} {k : κ} {l : List (κ × ν)} (ho : o.op = .mapEntry t x y) (hx : evl E x = some (cx, .map (some b))) (hy : evl E y = some (cy, val k))
    [sx : Sub cx []] [sy : Sub cy []] [ht : MapT P t kt et] [hK : KeyT P kt κ] [hz : ZeroV P et ν z] (hi : nthA H i = some (mpA b l)) :
    OpE P n E (Cl w0 fp H) o (fun u w' => ∃ X : EntX κ ν, u = .tuple #[val X.v, .int .i64 X.st] ∧ EntXok z l k X ∧ Cl w0 fp (setA H i (obj b (mapO X.es X.clock))) w') :=
  .of_run fun a w ha hw => by
    obtain ⟨bs, ⟨b1, b2, rfl, ⟨rfl, es, clock, ok, rfl, hb⟩, rfl⟩, _, hlt, _, _, h6⟩ := (hw.focus hi).split
    obtain ⟨X, hX, hr⟩ := run_mapEntry (P := P) (t := t) (z := z) hb ok k
    have hl : b < w.heap.size := hlt b (by simp)
    refine ⟨_, { w with heap := w.heap.setIfInBounds b (mapO X.es X.clock) }, ?_, X, rfl, hX, (h6 [obj b (mapO X.es X.clock)] _ ?_).set hi⟩
    · have e1 := ha.eval hx sx AllT.nil
      have e2 := ha.eval hy sy AllT.nil
      unfold execOp; simp only [ho]; rw [e1, e2]; simp [hr, Result.andThen]
    · refine ⟨⟨rfl, rfl, rfl, by simp, fun k hk hn => ?_⟩, [b], ⟨[b], [], rfl, ⟨rfl, ?_⟩, rfl⟩, by simp, fun k hk => ?_⟩
      · have : k ≠ b := by simpa using hn
        exact Array.getElem?_setIfInBounds_ne (Ne.symm this)
      · simp [hl]
      · simp at hk; subst hk; exact ⟨.inl (by simp), by simpa using hl⟩
theorem e_entryStore {t : TypeId} {z : ν} {x y u : Operand} {cx cy cu : List Bool} {b i : Nat} {k : κ} {v : ν} {l : List (κ × ν)} {X : EntX κ ν} (ho : o.op = .entryStore t x y u) (hx : evl E x = some (cx, .map (some b))) (hy : evl E y = some (cy, .int .i64 X.st)) (hu : evl E u = some (cu, val v))
    [sx : Sub cx []] [sy : Sub cy []] [su : Sub cu []] (hX : EntXok z l k X) (hi : nthA H i = some (obj b (mapO X.es X.clock))) :
    OpE P n E (Cl w0 fp H) o (fun uu w' => uu = undef ∧ Cl w0 fp (setA H i (mpA b (upd l k v))) w') :=
  .of_run0 fun a w ha hw => by
    obtain ⟨bs, ⟨b1, b2, rfl, ⟨rfl, hb⟩, rfl⟩, _, hlt, _, _, h6⟩ := (hw.focus hi).split
    have hl : b < w.heap.size := hlt b (by simp)
    have h2 := MapKept.run_getObj_map (P := P) (w := w) (es := (X.es.map rawE).toArray) (clock := X.clock) hb
    have hm := hX.at'
    have hlt' : X.m < X.es.length := (List.getElem?_eq_some_iff.1 hm).1
    have hge : X.es[X.m] = (k, X.v, X.st) := (List.getElem?_eq_some_iff.1 hm).2
    have hfind : (X.es.map rawE).toArray.findIdx? (fun e => (e.born : Int) == (X.st : Int)) = some X.m := by
      rw [List.findIdx?_toArray, List.findIdx?_eq_some_iff_getElem]
      refine ⟨by simpa using hlt', by simp [rawE, hge], fun j hj => ?_⟩
      have hjl : j < X.es.length := by omega
      have hnd := List.pairwise_iff_getElem.1 hX.ok.born j X.m (by simpa using hjl) (by simpa using hlt') hj
      simp only [List.getElem_map, hge] at hnd
      simp [rawE]
      omega
    refine ⟨{ w with heap := w.heap.setIfInBounds b (mapO (X.es.modify X.m fun e => (k, v, e.2.2)) X.clock) }, ?_, (h6 [mpA b (upd l k v)] _ ?_).set hi⟩
    · have e1 := ha.eval hx sx AllT.nil
      have e2 := ha.eval hy sy AllT.nil
      have e3 := ha.eval hu su AllT.nil
      have e4 : ((X.es.map rawE).toArray.modify X.m fun e => { e with val := val v }) = ((X.es.modify X.m fun e => (k, v, e.2.2)).map rawE).toArray := by
        apply Array.ext_getElem?
        intro i
        simp only [Array.getElem?_modify, raw_get, List.getElem?_modify]
        split
        · rename_i hi; subst hi; rw [hm]; rfl
        · cases X.es[i]? <;> rfl
      unfold execOp; simp only [ho]; rw [e1, e2, e3]
      have e5 : (Instr.entryStore t (.map (some b)) (.int .i64 X.st) (val v)).run P w = .ok () { w with heap := w.heap.setIfInBounds b (mapO (X.es.modify X.m fun e => (k, v, e.2.2)) X.clock) } := by
        have e6 : (asInt (.int .i64 (X.st : Int))).run P w = .ok (X.st : Int) w := rfl
        unfold Instr.entryStore
        simp only [Sem.run_bind, h2, Result.andThen, e6, hfind, e4, MapKept.run_setObj_map _ hb, mapO]
      simp [e5, Result.andThen]
    · refine ⟨⟨rfl, rfl, rfl, by simp, fun k hk hn => ?_⟩, [b], ⟨[b], [], rfl, ⟨rfl, _, X.clock, ok_modify hX.ok hm v, hX.put v, ?_⟩, rfl⟩, by simp, fun k hk => ?_⟩
      · have : k ≠ b := by simpa using hn
        exact Array.getElem?_setIfInBounds_ne (Ne.symm this)
      · simp [hl]
      · simp at hk; subst hk; exact ⟨.inl (by simp), by simpa using hl⟩
/-- A map that answers f. -/
def RdF (z : ν) (b : Nat) (f : κ → ν) (w : World) : Prop := ∃ l, RdM (.map (some b)) l w ∧ ∀ k, getZ z l k = f k
theorem q_lookupF {t kt et : TypeId} {x y : Operand} {cx cy : List Bool} {b : Nat} {k : κ} {f : κ → ν} {z : ν} (ho : o.op = .lookup t x y false) (hx : evl E x = some (cx, .map (some b))) (hy : evl E y = some (cy, val k)) [sx : Sub cx cs] [sy : Sub cy cs]
    [ht : MapT P t kt et] [hK : KeyT P kt κ] [hz : ZeroV P et ν z] (hR : ∀ w, C w → RdF z b f w) : OpR P n E C cs o (val (f k)) := fun a ha hc w hw => by
  obtain ⟨l, h1, h2⟩ := hR w hw
  have := q_lookup (P := P) (n := n) (E := E) (C := fun w' => w' = w) (cs := cs) (o := o) (κ := κ) (ν := ν) (l := l) (z := z) ho hx hy (fun w' e => e ▸ h1) a ha hc w rfl
  rw [h2] at this
  exact this
end mem
end Go.Sx
